/- What the theorem needs of the texts InnerNo, OfP, Of, OfT, Nodes06, OfQ, Same06, TrodS: no condition of its own. -/
import Derived.Test.YtohajcflklejjaaRows
import Derived.Test.YtohajcflklejjaaPoa
import Derived.Test.YtohajcflklejjaaPob
import Derived.Test.YtohajcflklejjaaPoc
import Derived.Test.YtohajcflklejjaaPod
import Derived.Test.YtohajcflklejjaaPoe
import Derived.Test.YtohajcflklejjaaPof
namespace Go.Proofs.Ytohajcflklejjaa
open Go.RowKit
set_option linter.unusedVariables false
set_option maxRecDepth 100000 in
set_option maxHeartbeats 800000 in
theorem risingP_no {w : World} {F : Nat → Prop} {h : Nat} {s : Sl} {ks : List (PT h)} (hs : Rd w F 1 s ks.length (ptrs h ks)) (hk : ∀ k ∈ ks, IsN w F h k) (hr : ¬ risingK h ks) (hn : ks.length ≤ 1000) :
    Calls Try.prog 46 #[.slice s.a ks.length s.c, .func (.func 47) #[] #[]] w fun e w' => e = .returned (.bool false) ∧ ∃ q, w' = w.drewN q := by
  have HS := Lib.hid hs
  have HR := Lib.hid hr
  have HK := Lib.hid hk
  clear hs hr hk
  go_enter Try.func46, Try.ntmps46
  go_wp2_with fail
  go_loopw [5] (fun q wr => ∃ m : Nat, (m + 1 ≤ ks.length ∨ m = 0) ∧ q = .int .i64 ((m : Int) + 1) ∧ (∀ i x y, i < m → ks[i]? = some x → ks[i + 1]? = some y → klt (lastK (ents h x)) (firstK (ents h y)) = true) ∧ ∃ q, wr = w.drewN q) (fun q _ => ks.length - (intOf q).toNat)
  case atStart => exact ⟨0, .inr rfl, rfl, fun i x y h => absurd h (Nat.not_lt_zero _), 0, rfl⟩
  case round =>
    obtain ⟨m, hj, rfl, hup, qq, rfl⟩ := hrel
    have HU := Lib.hid hup
    clear hup
    by_cases hlt : m + 1 < ks.length
    · obtain ⟨x, hxm⟩ : ∃ x, ks[m]? = some x := ⟨_, List.getElem?_eq_getElem (by omega)⟩
      obtain ⟨y, hym⟩ : ∃ y, ks[m + 1]? = some y := ⟨_, List.getElem?_eq_getElem hlt⟩
      obtain ⟨b, o, ha, hbo, hlc, hcm, hk0⟩ := HS.out.ptr_at hxm
      obtain ⟨b', o', ha', -, -, -, hk1⟩ := HS.out.ptr_at hym
      rw [ha] at ha'
      simp only [Option.some.injEq, Addr.mk.injEq, and_true] at ha'
      obtain ⟨rfl, rfl⟩ := ha'
      have c0 : w.cell? ⟨b, o + m, none⟩ = some (ptr h x) := hk0
      have c1 : w.cell? ⟨b, o + (m + 1), none⟩ = some (ptr h y) := hk1
      have hc := fun W (e : ∃ q, W = w.drewN q) => inner1_any (w := W) (((HK.out x (List.mem_of_getElem? hxm)).agree (F := F) (by obtain ⟨q, rfl⟩ := e; exact Agree.drewN w q))) (((HK.out y (List.mem_of_getElem? hym)).agree (F := F) (by obtain ⟨q, rfl⟩ := e; exact Agree.drewN w q)))
      obtain ⟨kb, hkk⟩ : ∃ kb, klt (lastK (ents h x)) (firstK (ents h y)) = kb := ⟨_, rfl⟩
      have HKK := Lib.hid hkk
      have HXY := Lib.hid (And.intro hxm hym)
      have HC := Lib.hid hc
      rw [ha]
      have hm1 : (m : Int) + 1 < (ks.length : Int) := by omega
      have hm0 : (m : Int) < (ks.length : Int) := by omega
      have hw1 : IntKind.i64.wrap (m : Int) = (m : Int) := by rw [IntKind.wrap_i64]; omega
      have hm2 : (0 : Int) ≤ (m : Int) + 1 := by omega
      have ht2 : ((m : Int) + 1).toNat = m + 1 := by omega
      clear hxm hym hk0 hk1 ha hkk hc
      go_wp2_with fail
      go_quiet ((go_at_call 47; refine (HC.out _ ⟨_, rfl⟩).mono ?_; rw [HKK.out]; rintro e w2 ⟨rfl, q2, rfl⟩; exact ⟨rfl, _, drew3 ..⟩))
      have hkk := HKK.out
      cases kb
      · clear hkk
        go_wp2_with fail
        go_ret
        exact ⟨rfl, _, World.drewN_drewN _ _ _⟩
      · have HK2 := Lib.hid hkk
        clear hkk
        go_wp2_with fail
        go_roundw
        case rel =>
          refine ⟨m + 1, .inl (by omega), by go_num, fun i u v hi hu hv => ?_, (by first | exact ⟨_, rfl⟩ | exact ⟨_, World.drewN_drewN _ _ _⟩)⟩
          rcases Nat.lt_or_ge i m with h | h
          · exact HU.out i u v h hu hv
          · obtain rfl : i = m := by omega
            have e1 := HXY.out.1.symm.trans hu
            have e2 := HXY.out.2.symm.trans hv
            simp only [Option.some.injEq] at e1 e2
            subst e1 e2
            exact HK2.out
        case measure => simp [intOf]; omega
    · refine absurd (fun i u v hu hv => HU.out i u v ?_ hu hv) HR.out
      have := (List.getElem?_eq_some_iff.1 hv).1
      omega
abbrev KN := (h : Nat) × PT h
def KN.es (a : KN) : List Ent := ents a.1 a.2
abbrev KN.p (a : KN) : Value := ptr a.1 a.2
def GoodKids (h : Nat) (ks : List KN) : Prop := ∃ ks' : List (PT h), ks = ks'.map (Sigma.mk h) ∧ (∀ k ∈ ks', 0 < (ents h k).length) ∧ risingK h ks'
def cntA (ks : List KN) : Nat := (ks.map fun a => a.es.length).sum
theorem cntA_take {ks : List KN} {j : Nat} {k : KN} (hk : ks[j]? = some k) : cntA (ks.take (j + 1)) = cntA (ks.take j) + k.es.length := by
  rw [cntA, List.take_add_one, hk]; simp [cntA]
theorem cntA_take_le (ks : List KN) (j : Nat) : cntA (ks.take j) ≤ cntA ks := by
  have : cntA ks = cntA (ks.take j) + cntA (ks.drop j) := by
    simp only [cntA]; rw [← List.sum_append, ← List.map_append, List.take_append_drop]
  omega
theorem rdA_at {w : World} {F : Nat → Prop} {s : Sl} {ks : List KN} (hr : Rd w F 1 s ks.length (ks.map KN.p)) {i : Nat} {k : KN} (hk : ks[i]? = some k) :
    ∃ b o, s.a = some ⟨b, o, none⟩ ∧ F b ∧ ks.length ≤ s.c ∧ s.c ≤ maxLen ∧ w.cell? ⟨b, o + i, none⟩ = some k.p := by
  obtain ⟨b, o, h1, h2, h3⟩ := hr
  have hi : i < ks.length := (List.getElem?_eq_some_iff.1 hk).1
  obtain ⟨e1, e2, e3⟩ := h1.eq (by omega)
  exact ⟨b, o, e1, h1.fits (by omega), e2, e3, h3 i _ (by rw [List.getElem?_map, hk]; rfl)⟩
theorem same_height {h : Nat} : ∀ {ks : List KN}, (∀ a ∈ ks, 0 < a.es.length ∧ a.1 = h) → ∃ ks' : List (PT h), ks = ks'.map (Sigma.mk h) ∧ ∀ k ∈ ks', 0 < (ents h k).length
  | [], _ => ⟨[], rfl, fun k hk => by cases hk⟩
  | a :: ks, hk => by
    obtain ⟨ks', e, hp⟩ := same_height (ks := ks) fun x hx => hk x (List.mem_cons_of_mem _ hx)
    obtain ⟨h1, h2⟩ := hk a (List.mem_cons_self ..)
    obtain ⟨ah, at_⟩ := a
    obtain rfl : ah = h := h2
    refine ⟨at_ :: ks', by rw [List.map_cons, ← e], fun k hk' => ?_⟩
    rcases List.mem_cons.1 hk' with rfl | hk'
    · exact h1
    · exact hp k hk'
set_option maxRecDepth 100000 in
set_option maxHeartbeats 1000000 in
theorem ninner_no {w : World} {F : Nat → Prop} {k0h : Nat} {s : Sl} {ks : List KN} (hF : ∀ b, F b → b < w.heap.size) (hs : Rd w (Lt w.heap.size) 1 s ks.length (ks.map KN.p)) (hk : ∀ k ∈ ks, IsN w F k.1 k.2) (hh0 : ∀ k, ks[0]? = some k → k.1 = k0h) (hr : ¬ GoodKids k0h ks)
    (h2 : 2 ≤ ks.length) (h8 : ks.length ≤ 8) (hsz : ∀ k ∈ ks, size k.1 k.2 ≤ 1000) (hcn : cntA ks ≤ 1000000000) (hh : ∀ k ∈ ks, k.1 ≤ 1000000000) :
    Calls Try.prog 34 #[.slice s.a ks.length s.c] w fun e w' => e = .returned (.tuple #[.pointer none, .int .i64 2]) ∧ Ext w w' := by
  obtain ⟨i0, hi, hz0, hz1, hz2⟩ := info_parts Try.infoPNode
  have HS := Lib.hid hs
  have HK := Lib.hid hk
  have HR := Lib.hid hr
  have HF := Lib.hid hF
  have HH := Lib.hid hh
  have HZ := Lib.hid hsz
  have g1 : ¬ (ks.length : Int) < 2 := by omega
  have g1' : decide ((ks.length : Int) < 2) = false := by simp; omega
  have g2 : ¬ (8 : Int) < (ks.length : Int) := by omega
  have g2' : decide ((8 : Int) < (ks.length : Int)) = false := by simp; omega
  obtain ⟨k0, hk0⟩ : ∃ x, ks[0]? = some x := ⟨_, List.getElem?_eq_getElem (by omega)⟩
  obtain ⟨b, o, ha, hbo, hlc, hcm, hc0⟩ := rdA_at HS.out hk0
  have hch := height_any (HK.out k0 (List.mem_of_getElem? hk0))
  have hhb := HH.out k0 (List.mem_of_getElem? hk0)
  have hkh := hh0 k0 hk0
  obtain ⟨k0', k0t⟩ := k0
  dsimp only [KN.p] at hch hhb hkh hc0
  subst hkh
  have HA := Lib.hid ha
  rw [Nat.add_zero] at hc0
  have HC0 := Lib.hid hc0
  have hi0 : (0 : Int) < (ks.length : Int) := by omega
  rw [ha]
  clear hs hk hr hF hsz hh hh0 ha hk0
  go_enter Try.func34, Try.ntmps34
  go_wp2_with fail
  refine hch.mono ?_
  rintro e w1 ⟨rfl, rfl⟩
  go_wp2_with fail
  have hx0 : Ext w (w.alloc (.cells #[.slice none 0 0, .slice none 0 0, .int .i64 ((k0' : Int) + 1), .int .i64 0, .string ByteArray.empty, .string ByteArray.empty, .bool false] 68)) := (Ext.refl w).alloc _ _
  go_loopw [24] (fun q wr => ∃ (j : Nat) (sk : Sl) (tb : Bool), j ≤ ks.length ∧ q = .int .i64 j ∧ Ext w wr ∧ Hid (∀ a ∈ ks.take j, 0 < a.es.length ∧ a.1 = k0') ∧ Blk wr w.heap.size 68 #[.slice none 0 0, .slice sk.a j sk.c, .int .i64 ((k0' : Int) + 1), .int .i64 (cntA (ks.take j)), .string ByteArray.empty, .string ByteArray.empty, .bool tb] ∧
      wr.ownsRow (w.heap.size + 1) 30 1 (.slice sk.a j sk.c) j ((ks.take j).map KN.p)) (fun q _ => ks.length - (intOf q).toNat)
  case atStart => exact ⟨0, Sl.none, false, Nat.zero_le _, rfl, hx0, Lib.hid (fun a ha => by simp at ha), Blk.new _ _ _, World.ownsRow_nil _ _ _ _⟩
  case round =>
    clear hx0 hch hc0
    obtain ⟨j, sk, tb, hj, rfl, hx, HALL, hb, hown⟩ := hrel
    by_cases hlt : j < ks.length
    · obtain ⟨k, hkj⟩ : ∃ x, ks[j]? = some x := ⟨_, List.getElem?_eq_getElem hlt⟩
      obtain ⟨b', o', ha', -, -, -, hck⟩ := rdA_at HS.out hkj
      rw [HA.out] at ha'
      simp only [Option.some.injEq, Addr.mk.injEq, and_true] at ha'
      obtain ⟨rfl, rfl⟩ := ha'
      have hkm := List.mem_of_getElem? hkj
      have hkhb := HH.out k hkm
      have hag : Agree F w wr := hx.agree fun i h => HF.out i h
      have vk := (hx.cell hbo).trans hck
      have hkn := (HK.out k hkm).agree hag
      have hkz := HZ.out k hkm
      have hcw0 := cntA_take hkj
      have hcl0 := cntA_take_le ks (j + 1)
      obtain ⟨h, kt⟩ := k
      dsimp only [KN.p, KN.es] at vk hkn hkz hcw0 hkhb
      obtain ⟨hFk, se, sk', ne, nk, hsn, hkb⟩ := hkn.cells
      obtain ⟨e0, e1, e2, e3, e4, e5, e6⟩ := hkb.c7
      obtain ⟨n0, n1, n2, n3, n4, n5, n6⟩ := hb.c7
      have hlt' : (j : Int) < (ks.length : Int) := by omega
      have hcc := fun W (e : ∃ q, W = wr.drewN q) => count_any (w := W) (F := F) (h := h) (t := kt) (by obtain ⟨q, rfl⟩ := e; exact hkn.agree (Agree.drewN wr q))
      have HX := Lib.hid hx
      have HCC := Lib.hid hcc
      have hwh : IntKind.i64.wrap ((h : Int) + 1) = (h : Int) + 1 := by rw [IntKind.wrap_i64]; omega
      have hbk : addr h kt < wr.heap.size := hkb.lt
      have hbn : w.heap.size < wr.heap.size := hb.lt
      have hne : ¬ addr h kt = w.heap.size := by have := HF.out _ hFk; omega
      by_cases hgd : 0 < (ents h kt).length ∧ h = k0'
      · obtain ⟨hpk, rfl⟩ := hgd
        have hnz : ((((ents h kt).length : Nat) : Int) == 0) = false := beq_eq_false_iff_ne.2 (by omega)
        have HB := Lib.hid hb
        have HKJ := Lib.hid hkj
        have HO := Lib.hid hown
        have HKN := Lib.hid hkn
        have h63 : j + 1 ≤ maxLen := by unfold maxLen; omega
        have how : ∀ W, Ext wr W → W.ownsRow (w.heap.size + 1) 30 1 (.slice sk.a j sk.c) j ((ks.take j).map KN.p) := fun W hW =>
          own_agree hown (hW.agree (F := Lt wr.heap.size) fun _ h => h) fun b hb => (hown.lt b (by obtain ⟨a, c⟩ := sk; cases a <;> simp_all [Value.ownBlock, Sl.row])).2
        have HOW := Lib.hid how
        have hrow : ∀ i, sk.row = some i → w.heap.size + 1 ≤ i := fun b hb => (hown.lt b (by obtain ⟨a, c⟩ := sk; cases a <;> simp_all [Value.ownBlock, Sl.row])).1
        have HROW := Lib.hid hrow
        have hk1 : addr h kt < w.heap.size + 1 := by have := HF.out _ hFk; omega
        have hcs := fun W (e : Agree (Lt w.heap.size) wr W) => sound_any (w := W) (F := F) (h := h) (t := kt) (hkn.agree (e.mono fun i hi => HF.out i hi)) hkz
        have HCS := Lib.hid hcs
        have hcw : IntKind.i64.wrap ((cntA (ks.take j) : Int) + ((ents h kt).length : Int)) = ((cntA (ks.take (j + 1)) : Nat) : Int) := by
          rw [IntKind.wrap_i64] <;> omega
        clear hkj hck hag hkn hkb hb hown hcc hx how hrow hcs hcw0 hcl0 hkz
        go_wp2_with fail
        go_quiet ((go_at_call 19; refine (HCC.out _ ⟨_, rfl⟩).mono ?_; rintro e w2 ⟨rfl, rfl⟩; exact ⟨rfl, _, rfl⟩))
        go_wp2_with (at_builtin; refine wpList_append_x _ rfl _ _ 66 rfl (w.heap.size + 1) 30 i0 (.pointer none) 1 8 Try.underlying66 hi hz0 hz1 hz2 rfl (by decide) sk j ((ks.take j).map KN.p) rfl (HOW.out _ (((Ext.refl wr).drewN _).alloc _ _)) (fun _ => True) ⟨some ⟨wr.heap.size, 0, none⟩, 1⟩ 1 [ptr h kt] rfl (Rd.one _ _ _) (by simp [Value.oneCell']) h63 (by omega) (by simp; omega) ?_; intro s' w1 hown1 hwr1 hsk; have ag1 : Agree (Lt (w.heap.size + 1)) wr w1 := (((Agree.drewN wr _).trans (Agree.alloc _ _ (fun i hi => Nat.lt_of_lt_of_le hi hbn))).trans (hwr1.agree (F := Lt (w.heap.size + 1)) (fun i hi => by simp; omega) (fun i hi h => by have := HROW.out i hi; omega))); have b1 := HB.out.agree ag1 (Nat.lt_succ_self _); obtain ⟨p0, p1, p2, p3, p4, p5, p6⟩ := b1.c7; have fz := fun i => b1.frozen i; have x3 := (ag1.cell (F := Lt (w.heap.size + 1)) (b := addr h kt) (o := 3) hk1).trans e3; have HO1 := Lib.hid hown1; have HW1 := Lib.hid hwr1; have HB1 := Lib.hid b1; have AG1 := Lib.hid ag1; clear hown1 hwr1 hsk b1 ag1)
        go_region
        have hX3 : Ext w ((w1.setCell ⟨w.heap.size, 1, none⟩ (.slice s'.a (j + 1) s'.c)).setCell ⟨w.heap.size, 3, none⟩ (.int .i64 (cntA (ks.take (j + 1))))).drew :=
          (((((HX.out.drewN _).alloc _ _).wr HW1.out (fun i hi => by have := HROW.out i hi; omega)).setCell (p := ⟨w.heap.size, 1, none⟩) (Nat.le_refl _) _).setCell (p := ⟨w.heap.size, 3, none⟩) (Nat.le_refl _) _).drew
        have hB3 : Blk ((w1.setCell ⟨w.heap.size, 1, none⟩ (.slice s'.a (j + 1) s'.c)).setCell ⟨w.heap.size, 3, none⟩ (.int .i64 (cntA (ks.take (j + 1))))).drew w.heap.size 68 #[.slice none 0 0, .slice s'.a (j + 1 : Nat) s'.c, .int .i64 ((h : Int) + 1), .int .i64 (cntA (ks.take (j + 1))), .string ByteArray.empty, .string ByteArray.empty, .bool tb] := (HB1.out.set_ 1 _).set_ 3 _
        have hag3 : Agree (Lt w.heap.size) wr ((w1.setCell ⟨w.heap.size, 1, none⟩ (.slice s'.a (j + 1) s'.c)).setCell ⟨w.heap.size, 3, none⟩ (.int .i64 (cntA (ks.take (j + 1))))).drew :=
          ((AG1.out.mono fun i hi => Nat.lt_succ_of_lt hi).trans (Agree.setCell _ _ _ (fun h => Nat.lt_irrefl _ h))).trans (Agree.setCell _ _ _ (fun h => Nat.lt_irrefl _ h))
        have hO3 : ((w1.setCell ⟨w.heap.size, 1, none⟩ (.slice s'.a (j + 1) s'.c)).setCell ⟨w.heap.size, 3, none⟩ (.int .i64 (cntA (ks.take (j + 1))))).drew.ownsRow (w.heap.size + 1) 30 1 (.slice s'.a (j + 1) s'.c) (j + 1) ((ks.take (j + 1)).map KN.p) := by
          have e : (ks.take (j + 1)).map KN.p = (ks.take j).map KN.p ++ [ptr h kt] := by rw [List.take_add_one, HKJ.out]; simp [KN.p]
          rw [e]
          refine own_agree HO1.out (F := fun i => w.heap.size + 1 ≤ i) ((Agree.setCell w1 ⟨w.heap.size, 1, none⟩ _ (fun h => Nat.not_succ_le_self _ h)).trans (Agree.setCell _ ⟨w.heap.size, 3, none⟩ _ (fun h => Nat.not_succ_le_self _ h))) fun b hb => (HO1.out.lt b (by obtain ⟨a, c⟩ := s'; cases a <;> simp_all [Value.ownBlock, Sl.row])).1
        generalize World.drew _ = W3 at *
        have HALL' := Lib.hid (show ∀ a ∈ ks.take (j + 1), 0 < a.es.length ∧ a.1 = h from fun a ha => by
          rw [List.take_add_one, HKJ.out] at ha
          rcases List.mem_append.1 ha with ha | ha
          · exact HALL.out a ha
          · simp only [Option.toList_some, List.mem_singleton] at ha
            subst ha
            exact ⟨hpk, rfl⟩)
        have HX3 := Lib.hid hX3
        have HB3 := Lib.hid hB3
        have HA3 := Lib.hid hag3
        have HO3 := Lib.hid hO3
        have hbn3 := hB3.lt
        have hbk3 : addr h kt < W3.heap.size := Nat.lt_of_lt_of_le (HF.out _ hFk) hX3.size
        obtain ⟨y0, y1, y2, y3, y4, y5, y6⟩ := hB3.c7
        have fy := fun i => hB3.frozen i
        clear hX3 hB3 hag3 hO3 fz x3 p0 p1 p2 p3 p4 p5 p6
        have fin : ∀ (q : Nat) (x : Bool), Ext w ((W3.drewN q).setCell ⟨w.heap.size, 6, none⟩ (.bool x)) ∧
            Blk ((W3.drewN q).setCell ⟨w.heap.size, 6, none⟩ (.bool x)) w.heap.size 68 #[.slice none 0 0, .slice s'.a (j + 1 : Nat) s'.c, .int .i64 ((h : Int) + 1), .int .i64 (cntA (ks.take (j + 1))), .string ByteArray.empty, .string ByteArray.empty, .bool x] ∧
            ((W3.drewN q).setCell ⟨w.heap.size, 6, none⟩ (.bool x)).ownsRow (w.heap.size + 1) 30 1 (.slice s'.a (j + 1) s'.c) (j + 1) ((ks.take (j + 1)).map KN.p) := fun q x => by
          refine ⟨(HX3.out.drewN q).setCell (p := ⟨w.heap.size, 6, none⟩) (Nat.le_refl _) _, (show Blk (W3.drewN q) w.heap.size 68 _ from HB3.out).set_ 6 _, ?_⟩
          exact own_agree (w := W3.drewN q) (show (W3.drewN q).ownsRow _ _ _ _ _ _ from HO3.out) (F := fun i => w.heap.size + 1 ≤ i) (Agree.setCell _ ⟨w.heap.size, 6, none⟩ _ (fun h => Nat.not_succ_le_self _ h)) fun b hb => (HO3.out.lt b (by obtain ⟨a, c⟩ := s'; cases a <;> simp_all [Value.ownBlock, Sl.row])).1
        have FIN := Lib.hid fin
        clear fin
        cases tb
        · go_wp2_with (go_at_call 20; refine (HCS.out _ HA3.out).mono ?_; rintro e w4 ⟨rfl, q4, rfl⟩)
          go_roundw
          case rel =>
            obtain ⟨f1, f2, f3⟩ := FIN.out q4 (!sound0 h kt)
            exact ⟨j + 1, s', _, by omega, by go_num, f1, HALL', f2, f3⟩
          case measure => simp [intOf]; omega
        · go_wp2_with fail
          go_roundw
          case rel =>
            obtain ⟨f1, f2, f3⟩ := FIN.out 0 true
            exact ⟨j + 1, s', _, by omega, by go_num, f1, HALL', f2, f3⟩
          case measure => simp [intOf]; omega
      · clear hkj hck hag hkn hkb hb hown hcc hx hcw0 hcl0 hkz
        by_cases hpk : 0 < (ents h kt).length
        · have hnz : ((((ents h kt).length : Nat) : Int) == 0) = false := beq_eq_false_iff_ne.2 (by omega)
          have hnh : ¬ h = k0' := fun e => hgd ⟨hpk, e⟩
          have hne1 : ((h : Int) + 1 != (k0' : Int) + 1) = true := bne_iff_ne.2 (by omega)
          have hne2 : ((h : Int) + 1 == (k0' : Int) + 1) = false := beq_eq_false_iff_ne.2 (by omega)
          have hne3 : ¬ (h : Int) = (k0' : Int) := by omega
          clear hgd
          go_wp2_with fail
          go_quiet ((go_at_call 19; refine (HCC.out _ ⟨_, rfl⟩).mono ?_; rintro e w2 ⟨rfl, rfl⟩; exact ⟨rfl, _, rfl⟩))
          go_wp2_with fail
          go_ret2
          exact ⟨rfl, HX.out.drewN _⟩
        · have hz : (ents h kt).length = 0 := by omega
          rw [hz] at HCC
          clear hgd
          go_wp2_with fail
          go_quiet ((go_at_call 19; refine (HCC.out _ ⟨_, rfl⟩).mono ?_; rintro e w2 ⟨rfl, rfl⟩; exact ⟨rfl, _, rfl⟩))
          go_wp2_with fail
          go_ret2
          exact ⟨rfl, HX.out.drewN _⟩
    · obtain rfl : j = ks.length := by omega
      have hall := HALL.out
      rw [List.take_length] at hall
      obtain ⟨ks', hks, hpos⟩ := same_height hall
      have hnr : ¬ risingK k0' ks' := fun hri => HR.out ⟨ks', hks, hpos, hri⟩
      have hag : Agree (Lt w.heap.size) w wr := hx.agree fun i h => h
      have hl' : ks.length = ks'.length := by rw [hks, List.length_map]
      have hmp : ks.map KN.p = ptrs k0' ks' := by rw [hks, List.map_map]; rfl
      have hsr := HS.out.agree hag
      rw [hmp, hl'] at hsr
      have hrs := risingP_no (w := wr) hsr (fun k hk => ((HK.out ⟨k0', k⟩ (by rw [hks]; exact List.mem_map_of_mem hk)).mono HF.out).agree hag) hnr (by omega)
      rw [HA.out, ← hl'] at hrs
      have HRS := Lib.hid hrs
      have HX := Lib.hid hx
      clear hall hks hpos hnr hag hl' hmp hsr hrs hb hown hx
      go_wp2_with (go_at_call 46; refine HRS.out.mono ?_; rintro e w2 ⟨rfl, q2, rfl⟩)
      go_ret2
      exact ⟨rfl, HX.out.drewN _⟩
end Go.Proofs.Ytohajcflklejjaa
namespace Go.Proofs.Ytohajcflklejjaa
open Go.RowKit
set_option linter.unusedVariables false
theorem last_ge {es : List Ent} (hs : Sorted es) {e : Ent} (he : e ∈ es) : klt (lastK es) e.1 = false := by
  induction es with
  | nil => cases he
  | cons a l ih =>
    have h := List.pairwise_cons.1 hs
    cases hl : l with
    | nil =>
      rw [hl] at he
      rw [List.mem_singleton.1 he]
      show klt a.1 a.1 = false
      exact klt_irrefl _
    | cons b l' =>
      have hlk : lastK (a :: b :: l') = lastK l := by rw [hl]; simp [lastK]
      rw [hlk]
      rw [hl] at he
      rcases List.mem_cons.1 he with rfl | he
      · obtain ⟨x, hx, hxe⟩ := lastK_mem (es := l) (by rw [hl]; simp)
        rw [hxe]
        exact klt_asymm (h.1 x hx)
      · exact ih h.2 (by rw [hl]; exact he)
theorem sorted_kids {h : Nat} : ∀ {ks : List (PT h)}, (∀ k ∈ ks, 0 < (ents h k).length ∧ Sorted (ents h k)) → risingK h ks → Sorted (ks.flatMap (ents h))
  | [], _, _ => List.Pairwise.nil
  | [a], hk, _ => by simpa using (hk a (List.mem_singleton.2 rfl)).2
  | a :: b :: l, hk, hr => by
    have ih := sorted_kids (ks := b :: l) (fun k hk' => hk k (List.mem_cons_of_mem _ hk')) (hr.drop 1)
    obtain ⟨ha0, has⟩ := hk a (List.mem_cons_self ..)
    obtain ⟨hb0, hbs⟩ := hk b (List.mem_cons_of_mem _ (List.mem_cons_self ..))
    have hab := hr 0 a b rfl rfl
    rw [List.flatMap_cons]
    refine List.pairwise_append.2 ⟨has, ih, fun x hx y hy => ?_⟩
    have hf : firstK ((b :: l).flatMap (ents h)) = firstK (ents h b) := by rw [List.flatMap_cons, firstK_app hb0]
    have h1 := firstK_le ih hy
    rw [hf] at h1
    have h2 := last_ge has hx
    exact klt_of_lt_ge (klt_of_ge_lt h2 hab) h1
structure KOf (a : KN) (d : Sh) : Prop where
  sh : shOf a.1 a.2 = d
  hg : heightS d = a.1
  fl : flatS d = ents a.1 a.2
  sz : size a.1 a.2 ≤ 8
theorem kof_leaf {b : Nat} {es : List Ent} (h8 : es.length ≤ 8) : KOf ⟨0, (b, es)⟩ (.mk es []) := ⟨rfl, rfl, by simp [flatS, ents], h8⟩
inductive KsOf : List KN → List Sh → Prop
  | nil : KsOf [] []
  | cons {a : KN} {d : Sh} {ks : List KN} {ds : List Sh} : KOf a d → KsOf ks ds → KsOf (a :: ks) (d :: ds)
theorem KsOf.snoc {a : KN} {d : Sh} : ∀ {ks : List KN} {ds : List Sh}, KsOf ks ds → KOf a d → KsOf (ks ++ [a]) (ds ++ [d])
  | _, _, .nil, h => .cons h .nil
  | _, _, .cons h t, h' => .cons h (t.snoc h')
theorem KsOf.len : ∀ {ks : List KN} {ds : List Sh}, KsOf ks ds → ks.length = ds.length
  | _, _, .nil => rfl
  | _, _, .cons _ t => by simp [t.len]
theorem KsOf.flat : ∀ {ks : List KN} {ds : List Sh}, KsOf ks ds → flatL ds = ks.flatMap KN.es
  | _, _, .nil => rfl
  | _, _, .cons h t => by rw [flatL, List.flatMap_cons, t.flat, h.fl]; rfl
theorem KsOf.sh {h : Nat} : ∀ {ks' : List (PT h)} {ds : List Sh}, KsOf (ks'.map (Sigma.mk h)) ds → ks'.map (shOf h) = ds
  | [], _, .nil => rfl
  | a :: l, _, .cons hk t => by rw [List.map_cons, t.sh, hk.sh]
theorem KsOf.mem : ∀ {ks : List KN} {ds : List Sh}, KsOf ks ds → (∀ a ∈ ks, ∃ d ∈ ds, KOf a d) ∧ ∀ d ∈ ds, ∃ a ∈ ks, KOf a d
  | _, _, .nil => ⟨fun a h => (by cases h), fun d h => (by cases h)⟩
  | _, _, .cons h t => by
    obtain ⟨h1, h2⟩ := t.mem
    refine ⟨fun a ha => ?_, fun d hd => ?_⟩
    · rcases List.mem_cons.1 ha with rfl | ha
      · exact ⟨_, List.mem_cons_self .., h⟩
      · obtain ⟨d, hd, hk⟩ := h1 a ha
        exact ⟨d, List.mem_cons_of_mem _ hd, hk⟩
    · rcases List.mem_cons.1 hd with rfl | hd
      · exact ⟨_, List.mem_cons_self .., h⟩
      · obtain ⟨a, ha, hk⟩ := h2 d hd
        exact ⟨a, List.mem_cons_of_mem _ ha, hk⟩
theorem flat_mk (h : Nat) (ks' : List (PT h)) : (ks'.map (Sigma.mk h)).flatMap KN.es = ks'.flatMap (ents h) := by
  rw [List.flatMap_map]; rfl
theorem kof_inner {h b : Nat} {ks' : List (PT h)} {ds : List Sh} (hk : KsOf (ks'.map (Sigma.mk h)) ds) (h2 : 2 ≤ ks'.length) (h8 : ks'.length ≤ 8) : KOf ⟨h + 1, (b, ks')⟩ (.mk [] ds) := by
  have hl := hk.len
  rw [List.length_map] at hl
  cases ds with
  | nil => rw [List.length_nil] at hl; omega
  | cons d ds =>
    have hf := hk.flat
    refine ⟨?_, ?_, ?_, h8⟩
    · show Sh.mk [] (ks'.map (shOf h)) = _
      rw [hk.sh]
    · cases ks' with
      | nil => simp at h2
      | cons a l =>
        cases hk with
        | cons h1 _ =>
          show heightS d + 1 = h + 1
          rw [h1.hg]
    · rw [flat_mk] at hf
      show flatS (Sh.mk [] (d :: ds)) = ks'.flatMap (ents h)
      rw [← hf]
      simp [flatS]
theorem mayL_iff {h : Nat} : ∀ {ds : List Sh}, mayL h ds = true ↔ ∀ d ∈ ds, mayS d = true ∧ 0 < (flatS d).length ∧ heightS d = h
  | [] => by simp [mayL]
  | d :: ds => by
    simp only [mayL, Bool.and_eq_true, decide_eq_true_eq, mayL_iff (ds := ds), List.mem_cons, forall_eq_or_imp]
    constructor
    · rintro ⟨⟨⟨a, b⟩, c⟩, e⟩; exact ⟨⟨a, b, c⟩, e⟩
    · rintro ⟨⟨a, b, c⟩, e⟩; exact ⟨⟨⟨a, b⟩, c⟩, e⟩
theorem may_good {a0 : KN} {l : List KN} {ds : List Sh} (hk : KsOf (a0 :: l) ds) (hm : ∀ d ∈ ds, mayS d = true) (h2 : 2 ≤ ds.length) (h8 : ds.length ≤ 8) : mayS (.mk [] ds) = true ↔ GoodKids a0.1 (a0 :: l) := by
  have hfl := hk.flat
  obtain ⟨m1, m2⟩ := hk.mem
  cases hk with
  | @cons _ d0 _ ds0 hk0 hkt =>
    have hne : (d0 :: ds0).isEmpty = false := rfl
    have hh : heightL (d0 :: ds0) - 1 = a0.1 := by
      show heightS d0 + 1 - 1 = a0.1
      rw [hk0.hg]; rfl
    have hF : flatS (.mk [] (d0 :: ds0)) = (a0 :: l).flatMap KN.es := by
      rw [← hfl]; simp [flatS]
    simp only [mayS, hne, Bool.false_eq_true, if_false, List.isEmpty_nil, Bool.true_and, Bool.and_eq_true, decide_eq_true_eq, hh, hF, mayL_iff]
    constructor
    · rintro ⟨⟨⟨-, -⟩, hL⟩, hR⟩
      obtain ⟨ks', e, hp⟩ := same_height (h := a0.1) (ks := a0 :: l) fun a ha => by
        obtain ⟨d, hd, hka⟩ := m1 a ha
        obtain ⟨-, q1, q2⟩ := hL d hd
        exact ⟨by rw [show a.es = flatS d from hka.fl.symm]; exact q1, hka.hg.symm.trans q2⟩
      refine ⟨ks', e, hp, rising_of ?_ hp⟩
      rw [← flat_mk, ← e]
      exact sorted_risesE hR
    · rintro ⟨ks', e, hp, hr⟩
      refine ⟨⟨⟨h2, h8⟩, fun d hd => ?_⟩, ?_⟩
      · obtain ⟨a, ha, hka⟩ := m2 d hd
        rw [e] at ha
        obtain ⟨k, hk', rfl⟩ := List.mem_map.1 ha
        exact ⟨hm d hd, by rw [hka.fl]; exact hp k hk', hka.hg⟩
      · rw [e, flat_mk]
        refine risesE_sorted (sorted_kids (fun k hk' => ⟨hp k hk', ?_⟩) hr)
        obtain ⟨d, hd, hka⟩ := m1 ⟨a0.1, k⟩ (by rw [e]; exact List.mem_map_of_mem hk')
        have := hm d hd
        have hs : risesE (flatS d) = true := by
          cases d with
          | mk es ks => rw [mayS, Bool.and_eq_true] at this; exact this.2
        rw [hka.fl] at hs
        exact sorted_risesE hs
end Go.Proofs.Ytohajcflklejjaa
namespace Go.Proofs.Ytohajcflklejjaa
open Go.RowKit
set_option linter.unusedVariables false
set_option linter.unusedSimpArgs false
def OfPost (d : Sh) (w : World) (e : Ending) (w' : World) : Prop :=
  (mayS d = true ∧ ∃ a : KN, e = .returned (.tuple #[a.p, .int .i64 0]) ∧ KOf a d ∧ IsN w' (In w.heap.size w'.heap.size) a.1 a.2 ∧ Ext w w') ∨ (mayS d = false ∧ e = .returned (.tuple #[.pointer none, .int .i64 2]) ∧ Ext w w')
theorem rises_of_risingN : ∀ {xs : List LE}, risingN xs → risesE (xs.map LE.ent) = true
  | [], _ => rfl
  | [_], _ => rfl
  | a :: b :: l, h => by
    have h1 := h 0 a b rfl rfl
    have ih := rises_of_risingN (xs := b :: l) fun i x y hx hy => h (i + 1) x y hx hy
    simp only [List.map_cons, risesE, Bool.and_eq_true] at ih ⊢
    exact ⟨h1, ih⟩
theorem nodesL_get : ∀ {ks : List Sh} {j : Nat} {k : Sh}, ks[j]? = some k → nodesS k ≤ nodesL ks
  | [], _, _, h => by simp at h
  | a :: l, 0, k, h => by simp at h; subst h; simp only [nodesL]; omega
  | a :: l, j + 1, k, h => by
    have := nodesL_get (ks := l) (j := j) (by simpa using h)
    simp only [nodesL]; omega
set_option maxRecDepth 100000 in
set_option maxHeartbeats 2000000 in
theorem of_leaf {es : List Ent} {w : World} {se sk : Sl} (h : RS w (Lt w.heap.size) (.mk es []) se sk) : Calls Try.prog 18 #[aggS (.mk es []) se sk] w (OfPost (.mk es []) w) := by
  obtain ⟨xs, hxs, hes⟩ := h.ents
  obtain rfl : xs.map LE.ent = es := hxs
  have hx0 : Ext w (w.alloc (.cells #[.slice se.a xs.length se.c, .slice sk.a 0 sk.c] 25)) := (Ext.refl w).alloc _ _
  have HE := Lib.hid ((hes.agree (hx0.agree fun _ h => h)).mono fun i hi => Nat.lt_of_lt_of_le hi hx0.size)
  have HX0 := Lib.hid hx0
  clear h hes hx0
  show Calls _ _ #[.agg #[.slice se.a (xs.map LE.ent).length se.c, .slice sk.a 0 sk.c]] _ _
  rw [List.length_map]
  have hms : mayS (.mk (xs.map LE.ent) []) = (decide (xs.length ≤ 8) && risesE (xs.map LE.ent)) := by simp [mayS, flatS]
  go_enter Try.func18, Try.ntmps18
  go_wp2_with fail
  generalize w.alloc (.cells #[.slice se.a xs.length se.c, .slice sk.a 0 sk.c] 25) = w0 at *
  by_cases hg : xs.length ≤ 8 ∧ risingN xs
  · refine (nleaf_any HE.out hg.2 hg.1).mono ?_
    rintro e w1 ⟨a, rfl, ha, hn, hx⟩
    have HN := Lib.hid hn
    have HX := Lib.hid hx
    clear hn hx
    go_wp2_with fail
    go_ret2
    refine .inl ⟨by rw [hms, decide_eq_true hg.1, rises_of_risingN hg.2]; rfl, ⟨0, (a, xs.map LE.ent)⟩, rfl, kof_leaf (by simpa using hg.1), HN.out.mono fun i hi => ⟨Nat.le_trans HX0.out.size hi.1, hi.2⟩, HX0.out.trans HX.out⟩
  · refine (nleaf_no HE.out hg).mono ?_
    rintro e w1 ⟨rfl, hx⟩
    have HX := Lib.hid hx
    clear hx
    go_wp2_with fail
    go_ret2
    refine .inr ⟨?_, rfl, HX0.out.trans HX.out⟩
    rw [hms]
    by_cases h8 : xs.length ≤ 8
    · rw [decide_eq_true h8, Bool.true_and]
      cases hr : risesE (xs.map LE.ent)
      · rfl
      · exact absurd ⟨h8, risingN_of (sorted_risesE hr)⟩ hg
    · rw [decide_eq_false h8]; rfl
set_option maxRecDepth 100000 in
set_option maxHeartbeats 2000000 in
theorem of_bad {es : List Ent} {ks : List Sh} {w : World} {se sk : Sl} (h1 : 0 < ks.length) (h : ¬ (es.length = 0 ∧ 2 ≤ ks.length ∧ ks.length ≤ 8)) : Calls Try.prog 18 #[aggS (.mk es ks) se sk] w (OfPost (.mk es ks) w) := by
  have hms : mayS (.mk es ks) = false := by
    have hne : ks.isEmpty = false := by cases ks with
      | nil => simp at h1
      | cons a l => rfl
    cases hm : mayS (.mk es ks)
    · rfl
    · exfalso
      simp only [mayS, hne, Bool.false_eq_true, if_false, Bool.and_eq_true, decide_eq_true_eq, List.isEmpty_iff] at hm
      exact h ⟨by rw [hm.1.1.1.1]; rfl, hm.1.1.1.2, hm.1.1.2⟩
  show Calls _ _ #[.agg #[.slice se.a es.length se.c, .slice sk.a ks.length sk.c]] _ _
  have HM := Lib.hid hms
  have hx0 : Ext w (w.alloc (.cells #[.slice se.a es.length se.c, .slice sk.a ks.length sk.c] 25)) := (Ext.refl w).alloc _ _
  have HX0 := Lib.hid hx0
  obtain ⟨n, hn⟩ : ∃ n, ks.length = n := ⟨_, rfl⟩
  obtain ⟨m, hm⟩ : ∃ m, es.length = m := ⟨_, rfl⟩
  have hcase : 0 < m ∨ (m = 0 ∧ n < 2) ∨ (m = 0 ∧ 2 ≤ n ∧ 8 < n) := by omega
  rw [hn, hm] at HX0 ⊢
  rw [hn] at h1
  have hn0 : ((n : Int) == 0) = false := beq_eq_false_iff_ne.2 (by omega)
  have hn1 : ¬ (n : Int) = 0 := by omega
  have hn2 : ¬ n = 0 := by omega
  clear hms hx0 h hn hm
  rcases hcase with g | ⟨rfl, g⟩ | ⟨rfl, g, g'⟩
  · have g1 : (0 : Int) < (m : Int) := by omega
    go_enter Try.func18, Try.ntmps18
    go_wp2_with fail
    go_ret2
    exact .inr ⟨HM.out, rfl, HX0.out⟩
  · have g1 : (n : Int) < 2 := by omega
    go_enter Try.func18, Try.ntmps18
    go_wp2_with fail
    go_ret2
    exact .inr ⟨HM.out, rfl, HX0.out⟩
  · have g1 : ¬ (n : Int) < 2 := by omega
    have g2 : (8 : Int) < (n : Int) := by omega
    go_enter Try.func18, Try.ntmps18
    go_wp2_with fail
    go_ret2
    exact .inr ⟨HM.out, rfl, HX0.out⟩
theorem flatL_nodes : ∀ {ks : List Sh}, (∀ d ∈ ks, mayS d = true) → (flatL ks).length ≤ 8 * nodesL ks
  | [], _ => by simp [flatL]
  | a :: l, h => by
    have h1 := mayS_flat a (h a (List.mem_cons_self ..))
    have h2 := flatL_nodes (ks := l) fun d hd => h d (List.mem_cons_of_mem _ hd)
    simp only [flatL, nodesL, List.length_append]
    omega
abbrev OffRow (B : Nat) (W : World) (row : Option Nat) : Nat → Prop := fun b => B ≤ b ∧ b < W.heap.size ∧ row ≠ some b
theorem info_pn : ∃ i0, Try.prog.info? 30 = some i0 ∧ i0.zero = some (.pointer none) ∧ i0.size = 1 ∧ i0.bytes = 8 := info_parts Try.infoPNode
set_option maxRecDepth 100000 in
set_option maxHeartbeats 4000000 in
theorem of_any (m : Nat) : ∀ (d : Sh), SizeOf.sizeOf d ≤ m → nodesS d ≤ 2000000 → ∀ (w : World) (se sk : Sl), RS w (Lt w.heap.size) d se sk → Calls Try.prog 18 #[aggS d se sk] w (OfPost d w) := by
  induction m with
  | zero => intro d hd; have := Sh.sz_pos d; omega
  | succ m ih =>
  intro d hd hnd w se sk h
  obtain ⟨es, ks⟩ := d
  rcases Nat.eq_zero_or_pos ks.length with h0 | h0
  · obtain rfl := List.length_eq_zero_iff.1 h0
    exact of_leaf h
  by_cases hgd : es.length = 0 ∧ 2 ≤ ks.length ∧ ks.length ≤ 8
  rotate_left
  · exact of_bad h0 hgd
  obtain ⟨he0, h2, h8⟩ := hgd
  obtain rfl := List.length_eq_zero_iff.1 he0
  obtain ⟨i0, hi, hz0, hz1, hz2⟩ := info_pn
  cases h with
  | mk xs bk fk c hx he hs ce re few =>
  obtain ⟨ska, skc⟩ := sk
  obtain ⟨rfl, hkc, hkm⟩ := hs.eq (by omega)
  have lbk : bk < w.heap.size := hs.fits (by omega)
  dsimp only at hkc hkm
  have hx0 : Ext w (w.alloc (.cells #[.slice se.a 0 se.c, .slice (some ⟨bk, fk, none⟩) ks.length skc] 25)) := (Ext.refl w).alloc _ _
  have HSZ := Lib.hid (show ∀ (j : Nat) (k : Sh), ks[j]? = some k → SizeOf.sizeOf k ≤ m from fun j k hj => Nat.le_of_lt_succ (Nat.lt_of_lt_of_le (Sh.sz_k hj) hd))
  have HNK := Lib.hid (show ∀ (j : Nat) (k : Sh), ks[j]? = some k → nodesS k ≤ 2000000 from fun j k hj => by
    have := nodesL_get hj
    simp only [nodesS] at hnd; omega)
  have HND := Lib.hid (show nodesL ks ≤ 2000000 by simp only [nodesS] at hnd; omega)
  have HIH := Lib.hid ih
  have HCE := Lib.hid ce
  have HRE := Lib.hid re
  have HX0 := Lib.hid hx0
  have gn1 : ((ks.length : Int) == 0) = false := beq_eq_false_iff_ne.2 (by omega)
  have gn2 : ¬ (ks.length : Int) < 2 := by omega
  have gn3 : ¬ (8 : Int) < (ks.length : Int) := by omega
  have gn4 : ¬ (ks.length : Int) = 0 := by omega
  have gn5 : ¬ ks.length = 0 := by omega
  clear ih ce re he hs hx hd hnd hx0 he0 h0 few
  show Calls _ _ #[.agg #[.slice se.a 0 se.c, .slice (some ⟨bk, fk, none⟩) ks.length skc]] _ _
  go_enter Try.func18, Try.ntmps18
  go_wp2_with fail
  generalize w.alloc (.cells #[.slice se.a 0 se.c, .slice (some ⟨bk, fk, none⟩) ks.length skc] 25) = w0 at *
  go_loopw [4, 37] (fun v i wr => ∃ (j : Nat) (sn : Sl) (kn : List KN), j ≤ ks.length ∧ i = .int .i64 j ∧ v = .slice sn.a j sn.c ∧ Hid (KsOf kn (ks.take j)) ∧ Hid (∀ d ∈ ks.take j, mayS d = true) ∧ Hid (∀ a ∈ kn, IsN wr (OffRow w.heap.size wr sn.row) a.1 a.2) ∧ Hid (wr.ownsRow w.heap.size 30 1 (.slice sn.a j sn.c) j (kn.map KN.p)) ∧ Ext w wr)
    (fun _ i _ => ks.length - (intOf i).toNat)
  case atStart => exact ⟨0, Sl.none, [], Nat.zero_le _, rfl, rfl, Lib.hid .nil, Lib.hid (fun d hd => by simp at hd), Lib.hid (fun a ha => by cases ha), Lib.hid (World.ownsRow_nil _ _ _ _), HX0.out⟩
  case round =>
    obtain ⟨j, sn, kn, hj, rfl, rfl, HKS, HMY, HIN, HOW, hX⟩ := hrel
    have HX := Lib.hid hX
    by_cases hlt : j < ks.length
    · obtain ⟨kid, hkid⟩ : ∃ kid, ks[j]? = some kid := ⟨_, List.getElem?_eq_getElem hlt⟩
      have g1 : (j : Int) < (ks.length : Int) := by omega
      have hag : Agree (Lt w.heap.size) w wr := hX.agree fun _ h => h
      obtain ⟨k0, k1⟩ := (HCE.out j kid hkid).agree hag lbk
      have hbw : bk < wr.heap.size := Nat.lt_of_lt_of_le lbk hX.size
      have HRK := Lib.hid (((HRE.out j kid hkid).agree hag).mono (G := Lt wr.heap.size) fun i hi => Nat.lt_of_lt_of_le hi hX.size)
      have HKID := Lib.hid hkid
      clear hkid hag hX
      go_wp2_with fail
      have hx1 : Ext wr (wr.alloc (.cells #[.slice (c j).1.a kid.es.length (c j).1.c, .slice (c j).2.a kid.ks.length (c j).2.c] 25)) := (Ext.refl wr).alloc _ _
      have HX1 := Lib.hid hx1
      generalize wr.alloc (.cells #[.slice (c j).1.a kid.es.length (c j).1.c, .slice (c j).2.a kid.ks.length (c j).2.c] 25) = W1 at *
      clear hx1
      refine (HIH.out kid (HSZ.out j kid HKID.out) (HNK.out j kid HKID.out) W1 _ _ (HRK.out.ext HX1.out)).mono ?_
      rintro e W2 (⟨hmy, a, rfl, hka, hna, hx2⟩ | ⟨hmy, rfl, hx2⟩)
      · have hlr : ∀ i, sn.row = some i → w.heap.size ≤ i ∧ i < wr.heap.size := fun b hb => HOW.out.lt b (by obtain ⟨a, c⟩ := sn; cases a <;> simp_all [Value.ownBlock, Sl.row])
        have how : ∀ W, Ext wr W → W.ownsRow w.heap.size 30 1 (.slice sn.a j sn.c) j (kn.map KN.p) := fun W hW =>
          own_agree HOW.out (hW.agree (F := Lt wr.heap.size) fun _ h => h) fun b hb => (HOW.out.lt b (by obtain ⟨a, c⟩ := sn; cases a <;> simp_all [Value.ownBlock, Sl.row])).2
        have HOWW := Lib.hid how
        have HLR := Lib.hid hlr
        have HKA := Lib.hid hka
        have HNA := Lib.hid hna
        have HMN := Lib.hid hmy
        have HX12 := Lib.hid hx2
        have HX2 := Lib.hid (HX1.out.trans hx2)
        have h63 : j + 1 ≤ maxLen := by unfold maxLen; omega
        have hbw2 : w.heap.size ≤ W2.heap.size := Nat.le_trans HX.out.size HX2.out.size
        clear how hlr hka hna hmy hx2 k0 k1
        go_wp2_with (at_builtin; refine wpList_append_x _ rfl _ _ 66 rfl w.heap.size 30 i0 (.pointer none) 1 8 Try.underlying66 hi hz0 hz1 hz2 rfl (by decide) sn j (kn.map KN.p) rfl (HOWW.out _ (HX2.out.alloc _ _)) (fun _ => True) ⟨some ⟨W2.heap.size, 0, none⟩, 1⟩ 1 [a.p] rfl (Rd.one _ _ _) (by simp [KN.p, Value.oneCell']) h63 (by omega) (by simp; omega) ?_; intro s' w1 hown1 hwr1 hsk; have HO1 := Lib.hid hown1; have HW1 := Lib.hid hwr1; have HSK := Lib.hid hsk; clear hown1 hwr1 hsk)
        go_roundw
        case rel =>
          have hx2 := HX2.out
          have hx12 := HX12.out
          have hx1 := HX1.out
          have hsz : (W2.alloc (.cells #[a.p] 30)).heap.size = W2.heap.size + 1 := by simp
          have hs1 : W2.heap.size + 1 ≤ w1.heap.size := by rw [← hsz]; exact HW1.out.grown.size
          have z1 := hx1.size
          have z2 := hx12.size
          have hrow' : ∀ b, b < W2.heap.size → sn.row ≠ some b → s'.row ≠ some b := fun b hb hn => by
            rcases HSK.out with e | ⟨e, -⟩
            · rw [Sl.row, e]; exact hn
            · rw [Sl.row, e]
              simp only [Option.map_some, ne_eq, Option.some.injEq]
              rw [hsz]; omega
          refine ⟨j + 1, s', kn ++ [a], by omega, by go_num, rfl, Lib.hid ?_, Lib.hid ?_, Lib.hid ?_, Lib.hid ?_, ?_⟩
          · rw [List.take_add_one, HKID.out]; exact HKS.out.snoc HKA.out
          · intro d hd
            rw [List.take_add_one, HKID.out] at hd
            rcases List.mem_append.1 hd with hd | hd
            · exact HMY.out d hd
            · simp only [Option.toList_some, List.mem_singleton] at hd
              rw [hd]; exact HMN.out
          · intro x hx
            rcases List.mem_append.1 hx with hx | hx
            · refine ((HIN.out x hx).agree (((hx2.alloc #[a.p] 30).agree fun i hi => hi.2.1).trans (HW1.out.agree (fun i hi => ?_) (fun k hk hF => hF.2.2 hk)))).mono fun i hi => ⟨hi.1, by have := hi.2.1; omega, hrow' i (by have := hi.2.1; omega) hi.2.2⟩
              rw [hsz]; have := hi.2.1; omega
            · rw [List.mem_singleton.1 hx]
              refine (HNA.out.agree ((((Ext.refl W2).alloc #[a.p] 30).agree fun i hi => hi.2).trans (HW1.out.agree (fun i hi => ?_) (fun k hk hF => ?_)))).mono fun i hi => ⟨by have := hi.1; have := HX.out.size; omega, by have := hi.2; omega, hrow' i hi.2 fun hr => by have := HLR.out i hr; have := hi.1; omega⟩
              · rw [hsz]; have := hi.2; omega
              · have := HLR.out k hk; have := hF.1; omega
          · rw [List.map_append]; exact HO1.out
          · exact ((HX.out.trans hx2).alloc _ _).wr HW1.out fun i hi => (HLR.out i hi).1
        case measure => simp [intOf]; omega
      · have HX2 := Lib.hid hx2
        have HMN := Lib.hid hmy
        clear hx2 hmy k0 k1
        go_wp2_with fail
        go_ret2
        refine .inr ⟨?_, rfl, HX.out.trans (HX1.out.trans HX2.out)⟩
        have hne : ks.isEmpty = false := by cases ks with
          | nil => simp at h2
          | cons a l => rfl
        cases hm : mayS (.mk [] ks)
        · rfl
        · exfalso
          simp only [mayS, hne, Bool.false_eq_true, if_false, Bool.and_eq_true, decide_eq_true_eq, mayL_iff] at hm
          have := (hm.1.2 kid (List.mem_of_getElem? HKID.out)).1
          rw [HMN.out] at this
          cases this
    · obtain rfl : j = ks.length := by omega
      have hks := HKS.out
      have hmy := HMY.out
      rw [List.take_length] at hks hmy
      have hkl := hks.len
      obtain ⟨m1, m2⟩ := hks.mem
      have hrd := Rd.of_own HOW.out
      rw [← hkl] at hrd
      have hflat : (kn.flatMap KN.es).length ≤ 16000000 := by
        rw [← hks.flat]
        have := flatL_nodes hmy
        have := HND.out
        omega
      have hhb : ∀ a ∈ kn, a.1 ≤ 2000000 := fun a ha => by
        obtain ⟨d, hd, hka⟩ := m1 a ha
        obtain ⟨q, hq⟩ := List.getElem?_of_mem hd
        have h1 := height_nodes d
        have h2 := HNK.out q d hq
        rw [hka.hg] at h1
        omega
      have hsb : ∀ a ∈ kn, size a.1 a.2 ≤ 1000 := fun a ha => by
        obtain ⟨d, hd, hka⟩ := m1 a ha
        have := hka.sz
        omega
      obtain ⟨a0, l, hkn⟩ : ∃ a0 l, kn = a0 :: l := by
        cases kn with
        | nil => rw [List.length_nil] at hkl; omega
        | cons a l => exact ⟨a, l, rfl⟩
      have hmg : mayS (.mk [] ks) = true ↔ GoodKids a0.1 kn := by
        rw [hkn] at hks ⊢
        exact may_good hks hmy h2 h8
      by_cases hg : GoodKids a0.1 kn
      · have hm := hmg.2 hg
        obtain ⟨ks', e, hp, hr⟩ := hg
        have el : ks'.length = ks.length := by rw [← hkl, e, List.length_map]
        have em : kn.map KN.p = ptrs a0.1 ks' := by rw [e, List.map_map]; rfl
        have hcnt : cnt a0.1 ks' ≤ 1000000000 := by
          have : cnt a0.1 ks' = (kn.flatMap KN.es).length := by rw [e, flat_mk]; rfl
          omega
        rw [em, hkl, ← el] at hrd
        have hin : ∀ k ∈ ks', IsN wr (OffRow w.heap.size wr sn.row) a0.1 k := fun k hk => HIN.out ⟨a0.1, k⟩ (by rw [e]; exact List.mem_map_of_mem hk)
        have hc := ninner_any (F := OffRow w.heap.size wr sn.row) (fun b hb => hb.2.1) (hrd.mono fun i hi => hi.2) hin hr (by omega) (by omega) hp (fun k hk => hsb ⟨a0.1, k⟩ (by rw [e]; exact List.mem_map_of_mem hk)) hcnt (by have := hhb a0 (by rw [hkn]; exact List.mem_cons_self ..); omega)
        rw [el] at hc
        have HC := Lib.hid hc
        have HM := Lib.hid hm
        have HKO := Lib.hid (show ∀ b, KOf ⟨a0.1 + 1, (b, ks')⟩ (.mk [] ks) from fun b => kof_inner (by rw [← e]; exact hks) (by omega) (by omega))
        clear hc hm hks hmy m1 m2 hrd hflat hhb hsb hmg hp hr hin hcnt em e el hkn hkl hX
        go_wp2_with fail
        refine HC.out.mono ?_
        rintro e w1 ⟨b, rfl, hb, hn, hx⟩
        have HN := Lib.hid hn
        have HX1 := Lib.hid hx
        clear hn hx
        go_wp2_with fail
        go_ret2
        refine .inl ⟨HM.out, ⟨a0.1 + 1, (b, ks')⟩, rfl, HKO.out b, HN.out.mono fun i hi => ?_, HX.out.trans HX1.out⟩
        rcases hi with hi | hi
        · exact ⟨hi.1, Nat.lt_of_lt_of_le hi.2.1 HX1.out.size⟩
        · exact ⟨Nat.le_trans HX.out.size hi.1, hi.2⟩
      · have hm : mayS (.mk [] ks) = false := by
          cases hq : mayS (.mk [] ks)
          · rfl
          · exact absurd (hmg.1 hq) hg
        have hc := ninner_no (F := OffRow w.heap.size wr sn.row) (k0h := a0.1) (fun b hb => hb.2.1) (hrd.mono fun i hi => hi.2) HIN.out (fun k hk => by rw [hkn] at hk; simp at hk; rw [hk]) hg (by omega) (by omega) hsb (by
          have : cntA kn = (kn.flatMap KN.es).length := by rw [cntA, List.length_flatMap]
          omega) (fun a ha => by have := hhb a ha; omega)
        rw [hkl] at hc
        have HC := Lib.hid hc
        have HM := Lib.hid hm
        clear hc hm hks hmy m1 m2 hrd hflat hhb hsb hmg hkn hkl hX hg
        go_wp2_with fail
        refine HC.out.mono ?_
        rintro e w1 ⟨rfl, hx⟩
        have HX1 := Lib.hid hx
        clear hx
        go_wp2_with fail
        go_ret2
        exact .inr ⟨HM.out, rfl, HX.out.trans HX1.out⟩
end Go.Proofs.Ytohajcflklejjaa
namespace Go.Proofs.Ytohajcflklejjaa
open Go.RowKit
set_option linter.unusedVariables false
set_option linter.unusedSimpArgs false
theorem sound_shOf (r : Bool) : ∀ (h : Nat) (t : PT h), soundS r (shOf h t) = ((r || decide (4 ≤ size h t)) && !thin h t)
  | 0, t => by simp [shOf, soundS, soundL, size, thin]; rfl
  | h + 1, t => by
    simp only [shOf, soundS, List.length_nil, Nat.zero_add, List.length_map, size, thin]
    congr 1
    have : ∀ l : List (PT h), soundL (l.map (shOf h)) = !(l.any fun k => thin h k || decide (size h k < 4)) := fun l => by
      induction l with
      | nil => rfl
      | cons a l ih =>
        simp only [List.map_cons, soundL, List.any_cons, ih, sound_shOf false h a, Bool.false_or, Bool.not_or]
        congr 1
        cases thin h a
        · by_cases h4 : 4 ≤ size h a
          · simp [h4]
          · have : size h a < 4 := by omega
            simp [h4, this]
        · simp
    exact this t.2
theorem sound_true {w : World} {F : Nat → Prop} {h : Nat} {t : PT h} (hn : IsN w F h t) : Calls Try.prog 20 #[ptr h t, .bool true] w fun e w' => e = .returned (.bool (!thin h t)) ∧ Ext w w' := by
  obtain ⟨-, se, sk, ne, nk, -, hb⟩ := hn.cells
  obtain ⟨-, -, -, -, -, -, h6⟩ := hb.c7
  clear hb
  cases ht : thin h t
  · rw [ht] at h6
    clear ht
    go_enter Try.func20, Try.ntmps20
    go_wp2_with fail
    go_ret
    exact ⟨rfl, Ext.refl w⟩
  · rw [ht] at h6
    clear ht
    go_enter Try.func20, Try.ntmps20
    go_wp2_with fail
    go_ret
    exact ⟨rfl, Ext.refl w⟩
def TOfPost (d : Sh) (w : World) (e : Ending) (w' : World) : Prop :=
  ((mayS d = true ∧ soundS true d = true ∧ 0 < (flatS d).length) ∧ ∃ a : KN, e = .returned (.tuple #[.agg #[a.p], .int .i64 0]) ∧ KOf a d ∧ thin a.1 a.2 = false ∧ IsN w' (In w.heap.size w'.heap.size) a.1 a.2 ∧ Ext w w') ∨
    (¬ (mayS d = true ∧ soundS true d = true ∧ 0 < (flatS d).length) ∧ e = .returned (.tuple #[.agg #[.pointer none], .int .i64 2]) ∧ Ext w w')
set_option maxRecDepth 100000 in
set_option maxHeartbeats 2000000 in
theorem treeOf_any {d : Sh} {w : World} {se sk : Sl} (hnd : nodesS d ≤ 2000000) (h : RS w (Lt w.heap.size) d se sk) : Calls Try.prog 6 #[aggS d se sk] w (TOfPost d w) := by
  have HC := Lib.hid (fun (W : World) (hW : Ext w W) => of_any _ d (Nat.le_refl _) hnd W se sk (h.ext hW))
  clear h hnd
  obtain ⟨n, hn⟩ : ∃ n, d.ks.length = n := ⟨_, rfl⟩
  obtain ⟨m, hm⟩ : ∃ m, d.es.length = m := ⟨_, rfl⟩
  show Calls _ _ #[.agg #[.slice se.a d.es.length se.c, .slice sk.a d.ks.length sk.c]] _ _
  simp only [aggS] at HC
  rw [hn, hm] at HC ⊢
  clear hn hm
  go_enter Try.func6, Try.ntmps6
  go_wp2_with fail
  generalize hW0 : World.alloc (World.alloc _ _) _ = W0
  obtain ⟨hx0, hz0, hb0, hb1⟩ := two_blocks w _ _ _ _ W0 hW0
  have HX0 := Lib.hid hx0
  have HB1 := Lib.hid hb1
  clear hW0 hx0 hb0 hb1 hz0
  refine (HC.out W0 HX0.out).mono ?_
  rintro e w1 (⟨hmy, a, rfl, hka, hna, hx1⟩ | ⟨hmy, rfl, hx1⟩)
  · have HX1 := Lib.hid hx1
    have HMY := Lib.hid hmy
    have HKA := Lib.hid hka
    have HNA := Lib.hid hna
    have hfl := hka.fl
    have hso : soundS true d = !thin a.1 a.2 := by rw [← hka.sh, sound_shOf]; simp
    obtain ⟨ah, at_⟩ := a
    dsimp only at hfl hso
    have HFS := Lib.hid (And.intro hfl hso)
    have hcc := count_any HNA.out
    have hb := HB1.out.ext hx1
    have c1 : w1.cell? ⟨w.heap.size + 1, 0, none⟩ = some (.pointer none) := hb.cell 0
    have f1 := hb.frozen 0
    have l1 := hb.lt
    have HBX := Lib.hid hb
    clear hx1 hmy hka hna hfl hso hb
    dsimp only at hcc
    by_cases hz : (ents ah at_).length = 0
    · rw [hz] at hcc
      have HCC := Lib.hid hcc
      clear hcc
      go_wp2_with fail
      refine HCC.out.mono ?_
      rintro e w2 ⟨rfl, rfl⟩
      go_wp2_with fail
      have hcF := World.cell?_setCell_same w1 ⟨w.heap.size + 1, 0, none⟩ (.pointer none) c1
      refine bodyPost_ret (v := .tuple #[.agg #[.pointer none], .int .i64 2]) (by simp [results, Try.results6, go_sem, hcF]) rfl ?_
      refine .inr ⟨fun hg => ?_, rfl, (HX0.out.trans HX1.out).setCell (p := ⟨w.heap.size + 1, 0, none⟩) (Nat.le_succ _) _⟩
      have := hg.2.2; rw [HFS.out.1] at this; omega
    · have hnz : ((((ents ah at_).length : Nat) : Int) == 0) = false := beq_eq_false_iff_ne.2 (by omega)
      have HCC := Lib.hid hcc
      have hst := sound_true HNA.out
      clear hcc
      cases ht : thin ah at_
      · rw [ht] at hst
        have HST := Lib.hid hst
        have HT := Lib.hid ht
        clear hst ht
        go_wp2_with fail
        refine HCC.out.mono ?_
        rintro e w2 ⟨rfl, rfl⟩
        go_wp2_with fail
        refine HST.out.mono ?_
        rintro e w2 ⟨rfl, hx2⟩
        have hb := HBX.out.ext hx2
        have c2 : w2.cell? ⟨w.heap.size + 1, 0, none⟩ = some (.pointer none) := hb.cell 0
        have f2 := hb.frozen 0
        have l2 := hb.lt
        have HX2 := Lib.hid hx2
        clear hb hx2 c1 f1 l1
        go_wp2_with fail
        have hcF := World.cell?_setCell_same w2 ⟨w.heap.size + 1, 0, none⟩ (.pointer (some ⟨addr ah at_, 0, none⟩)) c2
        refine bodyPost_ret (v := .tuple #[.agg #[.pointer (some ⟨addr ah at_, 0, none⟩)], .int .i64 0]) (by simp [results, Try.results6, go_sem, hcF]) rfl ?_
        have lB := HB1.out.lt
        refine .inl ⟨⟨HMY.out, by rw [HFS.out.2, HT.out]; rfl, by rw [HFS.out.1]; omega⟩, ⟨ah, at_⟩, rfl, HKA.out, HT.out, ?_, ((HX0.out.trans HX1.out).trans HX2.out).setCell (p := ⟨w.heap.size + 1, 0, none⟩) (Nat.le_succ _) _⟩
        refine (HNA.out.agree ((HX2.out.agree fun i hi => hi.2).trans (Agree.setCell w2 ⟨w.heap.size + 1, 0, none⟩ _ (fun hi => by have : W0.heap.size ≤ w.heap.size + 1 := hi.1; omega)))).mono fun i hi => ⟨Nat.le_trans HX0.out.size hi.1, ?_⟩
        rw [World.size_setCell]
        exact Nat.lt_of_lt_of_le hi.2 HX2.out.size
      · rw [ht] at hst
        have HST := Lib.hid hst
        have HT := Lib.hid ht
        clear hst ht
        go_wp2_with fail
        refine HCC.out.mono ?_
        rintro e w2 ⟨rfl, rfl⟩
        go_wp2_with fail
        refine HST.out.mono ?_
        rintro e w2 ⟨rfl, hx2⟩
        have hb := HBX.out.ext hx2
        have c2 : w2.cell? ⟨w.heap.size + 1, 0, none⟩ = some (.pointer none) := hb.cell 0
        have f2 := hb.frozen 0
        have l2 := hb.lt
        have HX2 := Lib.hid hx2
        clear hb hx2 c1 f1 l1
        go_wp2_with fail
        have hcF := World.cell?_setCell_same w2 ⟨w.heap.size + 1, 0, none⟩ (.pointer none) c2
        refine bodyPost_ret (v := .tuple #[.agg #[.pointer none], .int .i64 2]) (by simp [results, Try.results6, go_sem, hcF]) rfl ?_
        refine .inr ⟨fun hg => ?_, rfl, ((HX0.out.trans HX1.out).trans HX2.out).setCell (p := ⟨w.heap.size + 1, 0, none⟩) (Nat.le_succ _) _⟩
        have := hg.2.1; rw [HFS.out.2, HT.out] at this; cases this
  · have HX1 := Lib.hid hx1
    have HMN := Lib.hid hmy
    have hb := HB1.out.ext hx1
    have c1 : w1.cell? ⟨w.heap.size + 1, 0, none⟩ = some (.pointer none) := hb.cell 0
    have f1 := hb.frozen 0
    have l1 := hb.lt
    clear hx1 hmy hb
    go_wp2_with fail
    have hcF := World.cell?_setCell_same w1 ⟨w.heap.size + 1, 0, none⟩ (.pointer none) c1
    refine bodyPost_ret (v := .tuple #[.agg #[.pointer none], .int .i64 2]) (by simp [results, Try.results6, go_sem, hcF]) rfl ?_
    refine .inr ⟨fun hg => ?_, rfl, (HX0.out.trans HX1.out).setCell (p := ⟨w.heap.size + 1, 0, none⟩) (Nat.le_succ _) _⟩
    have := hg.1; rw [HMN.out] at this; cases this
end Go.Proofs.Ytohajcflklejjaa
namespace Go.Proofs.Ytohajcflklejjaa
open Go.RowKit
set_option linter.unusedVariables false
set_option linter.unusedSimpArgs false
theorem nodesL_take : ∀ {ks : List Sh} {j : Nat} {k : Sh}, ks[j]? = some k → nodesL (ks.take (j + 1)) = nodesL (ks.take j) + nodesS k
  | [], _, _, h => by simp at h
  | a :: l, 0, k, h => by
    have e : a = k := by simpa using h
    subst e
    simp [nodesL]
  | a :: l, j + 1, k, h => by
    have := nodesL_take (ks := l) (j := j) (by simpa using h)
    simp only [List.take_succ_cons, nodesL, this]; omega
theorem nodesL_take_le : ∀ (ks : List Sh) (j : Nat), nodesL (ks.take j) ≤ nodesL ks
  | [], j => by simp
  | a :: l, 0 => by simp [nodesL]
  | a :: l, j + 1 => by
    have := nodesL_take_le l j
    simp only [List.take_succ_cons, nodesL]; omega
set_option maxRecDepth 100000 in
set_option maxHeartbeats 1000000 in
theorem nodes06 (m : Nat) : ∀ (d : Sh), SizeOf.sizeOf d ≤ m → nodesS d ≤ 4611686018427387904 → ∀ (w : World) (se sk : Sl), RS w (Lt w.heap.size) d se sk →
    Calls Try.prog 4 #[aggS d se sk] w fun e w' => e = .returned (.int .i64 (nodesS d)) ∧ Ext w w' := by
  induction m with
  | zero => intro d hd; have := Sh.sz_pos d; omega
  | succ m ih =>
  intro d hd hnd w se sk h
  obtain ⟨es, ks⟩ := d
  have hfw := h.few
  obtain ⟨hfk, hfe⟩ := hfw
  dsimp only [Sh.ks, Sh.es] at hfk hfe
  cases h with
  | mk xs bk fk c hx he hs ce re few =>
  have hx0 : Ext w (w.alloc (.cells #[.slice se.a es.length se.c, .slice sk.a ks.length sk.c] 25)) := (Ext.refl w).alloc _ _
  have hb0 := Blk.new w 25 #[.slice se.a es.length se.c, .slice sk.a ks.length sk.c]
  have hszk : ∀ (j : Nat) (k : Sh), ks[j]? = some k → SizeOf.sizeOf k ≤ m := fun j k hj => Nat.le_of_lt_succ (Nat.lt_of_lt_of_le (Sh.sz_k hj) hd)
  have hsd : nodesS (.mk es ks) = nodesL ks + 1 := by simp [nodesS]
  rw [hsd] at hnd ⊢
  have hnk : ∀ (j : Nat) (k : Sh), ks[j]? = some k → nodesS k ≤ 4611686018427387904 := fun j k hj => by have := nodesL_get hj; omega
  have HNK := Lib.hid hnk
  have HND := Lib.hid hnd
  have HSZ := Lib.hid hszk
  have HIH := Lib.hid ih
  have HCE := Lib.hid ce
  have HRE := Lib.hid re
  have HS := Lib.hid hs
  have HX0 := Lib.hid hx0
  have HB0 := Lib.hid hb0
  clear hszk ih ce re he hs hx hd hsd hx0 hb0 hnk hnd
  show Calls _ _ #[.agg #[.slice se.a es.length se.c, .slice sk.a ks.length sk.c]] _ _
  go_enter Try.func4, Try.ntmps4
  go_wp2_with fail
  go_loopw [3, 4] (fun v i wr => ∃ (j q : Nat), j ≤ ks.length ∧ i = .int .i64 j ∧ v = .int .i64 q ∧ Hid (q = nodesL (ks.take j) + 1) ∧ Blk wr w.heap.size 25 #[.slice se.a es.length se.c, .slice sk.a ks.length sk.c] ∧ Ext w wr)
    (fun _ i _ => ks.length - (intOf i).toNat)
  case atStart => exact ⟨0, 1, Nat.zero_le _, rfl, rfl, Lib.hid (by simp [nodesL]), HB0.out, HX0.out⟩
  case round =>
    obtain ⟨j, q, hj, rfl, rfl, HQ, hB, hX⟩ := hrel
    have HB := Lib.hid hB
    have HX := Lib.hid hX
    have c1 : wr.cell? ⟨w.heap.size, 1, none⟩ = some (.slice sk.a ks.length sk.c) := hB.cell 1
    by_cases hlt : j < ks.length
    · obtain ⟨kid, hkid⟩ : ∃ kid, ks[j]? = some kid := ⟨_, List.getElem?_eq_getElem hlt⟩
      have g1 : (j : Int) < (ks.length : Int) := by omega
      obtain ⟨ska, skc⟩ := sk
      obtain ⟨rfl, hkc, hkm⟩ := HS.out.eq (by omega)
      have hag : Agree (Lt w.heap.size) w wr := hX.agree fun _ h => h
      obtain ⟨k0, k1⟩ := (HCE.out j kid hkid).agree hag (HS.out.fits (by omega))
      have hcall := HIH.out kid (HSZ.out j kid hkid) (HNK.out j kid hkid) wr _ _ (((HRE.out j kid hkid).agree hag).mono fun i hi => Nat.lt_of_lt_of_le hi hX.size)
      obtain ⟨nk, hnk⟩ : ∃ n, nodesS kid = n := ⟨_, rfl⟩
      rw [hnk] at hcall
      have HQ2 := Lib.hid (show q + nk = nodesL (ks.take (j + 1)) + 1 by rw [nodesL_take hkid, hnk, HQ.out]; omega)
      have hw : IntKind.i64.wrap ((q : Int) + (nk : Int)) = ((q + nk : Nat) : Int) := by
        have h1 := nodesL_take_le ks (j + 1)
        have h2 := HND.out
        have h3 := HQ2.out
        rw [IntKind.wrap_i64] <;> omega
      clear hB hX hkid hag hnk
      go_wp2_with fail
      refine hcall.mono ?_
      rintro e w2 ⟨rfl, hx2⟩
      have HB2 := Lib.hid (HB.out.ext hx2)
      have HX2 := Lib.hid (HX.out.trans hx2)
      clear hx2 hcall
      go_wp2_with fail
      go_roundw
      case rel => exact ⟨j + 1, q + nk, hlt, by go_num, rfl, HQ2, HB2.out, HX2.out⟩
      case measure => simp [intOf]; omega
    · have g1 : ¬ (j : Int) < (ks.length : Int) := by omega
      obtain rfl : j = ks.length := by omega
      clear hB hX
      go_wp2_with fail
      go_ret
      rw [HQ.out, List.take_length]
      exact ⟨rfl, HX.out⟩
end Go.Proofs.Ytohajcflklejjaa
namespace Go.Proofs.Ytohajcflklejjaa
open Go.RowKit
set_option linter.unusedVariables false
theorem may_okT : ∀ (h : Nat) (t : PT h), mayS (shOf h t) = true → heightS (shOf h t) = h → thin h t = false → OkT h t
  | 0, t, hm, _, _ => by
    simp only [shOf, mayS, List.isEmpty_nil, if_true, Bool.and_eq_true, decide_eq_true_eq] at hm
    exact hm.1
  | h + 1, t, hm, hh, ht => by
    obtain ⟨b, ks⟩ := t
    cases ks with
    | nil => simp [shOf, heightS, heightL] at hh
    | cons k0 l =>
      have hh0 : heightS (shOf h k0) = h := by simpa [shOf, heightS, heightL] using hh
      have hL : heightL (shOf h k0 :: List.map (shOf h) l) - 1 = h := by
        show heightS (shOf h k0) + 1 - 1 = h
        omega
      simp only [shOf, List.map_cons, mayS, List.isEmpty_cons, Bool.false_eq_true, if_false, List.isEmpty_nil, Bool.true_and, Bool.and_eq_true, decide_eq_true_eq, List.length_cons, List.length_map, hL] at hm
      obtain ⟨⟨⟨h2, h8⟩, hl⟩, -⟩ := hm
      have hl' := mayL_iff.1 hl
      simp only [thin, List.any_eq_false, Bool.or_eq_true, decide_eq_true_eq, not_or, Bool.not_eq_true] at ht
      refine ⟨h2, h8, fun k hk => ?_⟩
      obtain ⟨t1, t2⟩ := ht k hk
      obtain ⟨m1, -, m3⟩ := hl' (shOf h k) (by rw [← List.map_cons]; exact List.mem_map_of_mem hk)
      exact ⟨may_okT h k m1 m3 t1, by omega⟩
theorem KOf.okR {a : KN} {d : Sh} (h : KOf a d) (hm : mayS d = true) (ht : thin a.1 a.2 = false) (h0 : 0 < (flatS d).length) : OkR (some a) := by
  obtain ⟨ah, at_⟩ := a
  have hs := h.sh
  dsimp only at hs ht
  have ok : OkT ah at_ := may_okT ah at_ (by rw [hs]; exact hm) (by rw [hs]; exact h.hg) ht
  refine ⟨ok, ?_, ?_⟩
  · rw [h.fl] at h0
    cases ah with
    | zero => exact h0
    | succ n => exact Nat.le_trans (by decide) ok.1
  · have : risesE (flatS d) = true := by
      cases d with
      | mk es ks => rw [mayS, Bool.and_eq_true] at hm; exact hm.2
    rw [h.fl] at this
    exact sorted_risesE this
end Go.Proofs.Ytohajcflklejjaa
namespace Go.Proofs.Ytohajcflklejjaa
open Go.RowKit
set_option linter.unusedVariables false
set_option linter.unusedSimpArgs false
set_option maxRecDepth 100000 in
set_option maxHeartbeats 2000000 in
theorem same06 (m : Nat) : ∀ (d : Sh), SizeOf.sizeOf d ≤ m → ∀ (w : World) (se sk se' sk' : Sl), RS w (Lt w.heap.size) d se sk → RS w (Lt w.heap.size) d se' sk' →
    Calls Try.prog 11 #[aggS d se sk, aggS d se' sk'] w fun e w' => e = .returned (.bool true) ∧ Ext w w' := by
  induction m with
  | zero => intro d hd; have := Sh.sz_pos d; omega
  | succ m ih =>
  intro d hd w se sk se' sk' h h'
  obtain ⟨es, ks⟩ := d
  have hfw := h.few
  obtain ⟨hfk, hfe⟩ := hfw
  dsimp only [Sh.ks, Sh.es] at hfk hfe
  have HR := Lib.hid h
  have HR' := Lib.hid h'
  obtain ⟨xs, hxs, hes⟩ := h.ents
  obtain ⟨ys, hys, hes'⟩ := h'.ents
  dsimp only [Sh.es] at hxs hys
  have hxl : xs.length = es.length := by rw [← hxs, List.length_map]
  have hyl : ys.length = es.length := by rw [← hys, List.length_map]
  have hse : ∀ W, Ext w W → Calls Try.prog 22 #[.slice se.a es.length se.c, .slice se'.a es.length se'.c] W fun e w' => e = .returned (.bool true) ∧ Ext W w' := fun W hW => by
    have hm : ∀ {s : Sl} {zs : List LE}, ES w (Lt w.heap.size) s zs → ES W (Lt W.heap.size) s zs := fun hz => (hz.agree (hW.agree fun _ h => h)).mono fun i hi => Nat.lt_of_lt_of_le hi hW.size
    have := sameEnt_any (hm hes) (hm hes')
    rwa [hxl, hyl, hxs, hys, sameE_refl] at this
  have HSE := Lib.hid hse
  have HSZ := Lib.hid (show ∀ (j : Nat) (k : Sh), ks[j]? = some k → SizeOf.sizeOf k ≤ m from fun j k hj => Nat.le_of_lt_succ (Nat.lt_of_lt_of_le (Sh.sz_k hj) hd))
  have HIH := Lib.hid ih
  clear ih h h' hd hes hes' hse hxs hys hxl hyl
  show Calls _ _ #[.agg #[.slice se.a es.length se.c, .slice sk.a ks.length sk.c], .agg #[.slice se'.a es.length se'.c, .slice sk'.a ks.length sk'.c]] _ _
  go_enter Try.func11, Try.ntmps11
  go_wp2_with fail
  generalize hW0 : World.alloc (World.alloc _ _) _ = W0
  obtain ⟨hx0, hz0, hb0, hb1⟩ := two_blocks w _ _ _ _ W0 hW0
  have HX0 := Lib.hid hx0
  have HB0 := Lib.hid hb0
  have HB1 := Lib.hid hb1
  clear hW0 hx0 hb0 hb1 hz0
  refine (HSE.out W0 HX0.out).mono ?_
  rintro e w1 ⟨rfl, hx1⟩
  have HX1 := Lib.hid (HX0.out.trans hx1)
  have HC0 := Lib.hid (HB0.out.ext hx1)
  have HC1 := Lib.hid (HB1.out.ext hx1)
  have c0 : w1.cell? ⟨w.heap.size, 1, none⟩ = some (.slice sk.a ks.length sk.c) := HC0.out.cell 1
  have c1 : w1.cell? ⟨w.heap.size + 1, 1, none⟩ = some (.slice sk'.a ks.length sk'.c) := HC1.out.cell 1
  have l0 := HC0.out.lt
  have l1 := HC1.out.lt
  clear hx1
  go_wp2_with fail
  clear c0 c1
  go_loopw [5] (fun i wr => ∃ (j : Nat), j ≤ ks.length ∧ i = .int .i64 j ∧ Ext w1 wr) (fun i _ => ks.length - (intOf i).toNat)
  case atStart => exact ⟨0, Nat.zero_le _, rfl, Ext.refl _⟩
  case round =>
    obtain ⟨j, hj, rfl, hX⟩ := hrel
    have HX := Lib.hid hX
    have c0 : wr.cell? ⟨w.heap.size, 1, none⟩ = some (.slice sk.a ks.length sk.c) := (HC0.out.ext hX).cell 1
    have c1 : wr.cell? ⟨w.heap.size + 1, 1, none⟩ = some (.slice sk'.a ks.length sk'.c) := (HC1.out.ext hX).cell 1
    by_cases hlt : j < ks.length
    · obtain ⟨kid, hkid⟩ : ∃ kid, ks[j]? = some kid := ⟨_, List.getElem?_eq_getElem hlt⟩
      have g1 : (j : Int) < (ks.length : Int) := by omega
      obtain ⟨b, o, s1, s2, ha, hb, hl, hm, ⟨k0, k1⟩, hrk⟩ := HR.out.kid (j := j) (k := kid) hkid
      obtain ⟨b', o', s1', s2', ha', hb', hl', hm', ⟨k0', k1'⟩, hrk'⟩ := HR'.out.kid (j := j) (k := kid) hkid
      dsimp only [Sh.ks] at hl hl'
      obtain ⟨ska, skc⟩ := sk
      obtain ⟨ska', skc'⟩ := sk'
      dsimp only at ha ha' hl hl' hm hm'
      subst ha ha'
      have hXw := HX1.out.trans hX
      have HXW := Lib.hid hXw
      have hb : b < w.heap.size := hb
      have hb' : b' < w.heap.size := hb'
      have HSS := Lib.hid (show ∀ W, Ext wr W → W.cell? ⟨w.heap.size, 1, none⟩ = some (.slice (some ⟨b, o, none⟩) ks.length skc) ∧ W.cell? ⟨w.heap.size + 1, 1, none⟩ = some (.slice (some ⟨b', o', none⟩) ks.length skc') ∧ W.cell? ⟨b, o + j * 2, none⟩ = some (.slice s1.a kid.es.length s1.c) ∧ W.cell? ⟨b, o + j * 2 + 1, none⟩ = some (.slice s2.a kid.ks.length s2.c) ∧ W.cell? ⟨b', o' + j * 2, none⟩ = some (.slice s1'.a kid.es.length s1'.c) ∧ W.cell? ⟨b', o' + j * 2 + 1, none⟩ = some (.slice s2'.a kid.ks.length s2'.c) from
        fun W hW => ⟨(hW.cell (by have := HX.out.size; omega)).trans c0, (hW.cell (by have := HX.out.size; omega)).trans c1, ((HXW.out.trans hW).cell hb).trans k0, ((HXW.out.trans hW).cell hb).trans k1, ((HXW.out.trans hW).cell hb').trans k0', ((HXW.out.trans hW).cell hb').trans k1'⟩)
      have HCL := Lib.hid (fun W (hW : Ext wr W) => HIH.out kid (HSZ.out j kid hkid) W s1 s2 s1' s2' (hrk.ext (HXW.out.trans hW)) (hrk'.ext (HXW.out.trans hW)))
      clear hX hkid hrk hrk' hXw k0 k1 k0' k1'
      go_wp2_with fail
      clear c0 c1
      refine wp_region_held_drew (S := (fun w' => Ext wr w')) (by kernel_rfl) (((Ext.refl wr).drew)) (fun hHeld => ?_)
      refine held_on (i := 0) (d := (some 28)) (v := ?_) rfl rfl (by kernel_rfl) (by kernel_rfl) (by kernel_rfl) (fun _ _ _ h => h) (by rfl) hHeld ?_ ?_
      rotate_left
      focus (intro w hSw; have hSc := HSS.out w hSw; clear hSw; go_simp; first | done | with_reducible rfl)
      try simp only [Act.put, List.setIfInBounds_toArray, List.set_cons_zero, List.set_cons_succ]
      refine held_on (i := 1) (d := (some 29)) (v := ?_) rfl rfl (by kernel_rfl) (by kernel_rfl) (by kernel_rfl) (fun _ _ _ h => h) (by rfl) hHeld ?_ ?_
      rotate_left
      focus (intro w hSw; have hSc := HSS.out w hSw; clear hSw; go_simp; first | done | with_reducible rfl)
      try simp only [Act.put, List.setIfInBounds_toArray, List.set_cons_zero, List.set_cons_succ]
      refine held_on (i := 2) (d := (some 30)) (v := ?_) rfl rfl (by kernel_rfl) (by kernel_rfl) (by kernel_rfl) (fun _ _ _ h => h) (by rfl) hHeld ?_ ?_
      rotate_left
      focus (intro w hSw; have hSc := HSS.out w hSw; clear hSw; go_simp; first | done | with_reducible rfl)
      try simp only [Act.put, List.setIfInBounds_toArray, List.set_cons_zero, List.set_cons_succ]
      refine held_on (i := 3) (d := (some 31)) (v := ?_) rfl rfl (by kernel_rfl) (by kernel_rfl) (by kernel_rfl) (fun _ _ _ h => h) (by rfl) hHeld ?_ ?_
      rotate_left
      focus (intro w hSw; have hSc := HSS.out w hSw; clear hSw; go_simp; first | done | with_reducible rfl)
      try simp only [Act.put, List.setIfInBounds_toArray, List.set_cons_zero, List.set_cons_succ]
      refine held_on (i := 4) (d := (some 32)) (v := ?_) rfl rfl (by kernel_rfl) (by kernel_rfl) (by kernel_rfl) (fun _ _ _ h => h) (by rfl) hHeld ?_ ?_
      rotate_left
      focus (intro w hSw; have hSc := HSS.out w hSw; clear hSw; go_simp; first | done | with_reducible rfl)
      try simp only [Act.put, List.setIfInBounds_toArray, List.set_cons_zero, List.set_cons_succ]
      refine held_on (i := 5) (d := (some 33)) (v := ?_) rfl rfl (by kernel_rfl) (by kernel_rfl) (by kernel_rfl) (fun _ _ _ h => h) (by rfl) hHeld ?_ ?_
      rotate_left
      focus (intro w hSw; have hSc := HSS.out w hSw; clear hSw; go_simp; first | done | with_reducible rfl)
      try simp only [Act.put, List.setIfInBounds_toArray, List.set_cons_zero, List.set_cons_succ]
      refine held_on (i := 6) (d := (some 34)) (v := ?_) rfl rfl (by kernel_rfl) (by kernel_rfl) (by kernel_rfl) (fun _ _ _ h => h) (by rfl) hHeld ?_ ?_
      rotate_left
      focus (intro w hSw; have hSc := HSS.out w hSw; clear hSw; go_simp; first | done | with_reducible rfl)
      try simp only [Act.put, List.setIfInBounds_toArray, List.set_cons_zero, List.set_cons_succ]
      refine held_on (i := 7) (d := (some 35)) (v := ?_) rfl rfl (by kernel_rfl) (by kernel_rfl) (by kernel_rfl) (fun _ _ _ h => h) (by rfl) hHeld ?_ ?_
      rotate_left
      focus (intro w hSw; have hSc := HSS.out w hSw; clear hSw; go_simp; first | done | with_reducible rfl)
      try simp only [Act.put, List.setIfInBounds_toArray, List.set_cons_zero, List.set_cons_succ]
      refine held_on (i := 8) (d := (some 36)) (v := ?_) rfl rfl (by kernel_rfl) (by kernel_rfl) (by kernel_rfl) (fun _ _ _ h => h) (by rfl) hHeld ?_ ?_
      rotate_left
      focus (intro w hSw; have hSc := HSS.out w hSw; clear hSw; go_simp; first | done | with_reducible rfl)
      try simp only [Act.put, List.setIfInBounds_toArray, List.set_cons_zero, List.set_cons_succ]
      refine held_on (i := 9) (d := (some 37)) (v := ?_) rfl rfl (by kernel_rfl) (by kernel_rfl) (by kernel_rfl) (fun _ _ _ h => h) (by rfl) hHeld ?_ ?_
      rotate_left
      focus (intro w hSw; have hSc := HSS.out w hSw; clear hSw; go_simp; first | done | with_reducible rfl)
      try simp only [Act.put, List.setIfInBounds_toArray, List.set_cons_zero, List.set_cons_succ]
      refine held_call (i := 10) (by kernel_rfl) rfl (by rfl) (fun K hK => ?_)
      go_simp
      (refine (HCL.out _ hHeld).mono ?_; rintro e w2 ⟨rfl, hx2⟩)
      refine hK.out _ _ (hHeld.trans hx2) (fun hHeld => ?_)
      clear hK K
      try simp only [Act.put, List.setIfInBounds_toArray, List.set_cons_zero, List.set_cons_succ]
      refine held_on (i := 11) (d := (some 39)) (v := ?_) rfl rfl (by kernel_rfl) (by kernel_rfl) (by kernel_rfl) (fun _ _ _ h => h) (by rfl) hHeld ?_ ?_
      rotate_left
      focus (intro w hSw; have hSc := HSS.out w hSw; clear hSw; go_simp; first | done | with_reducible rfl)
      try simp only [Act.put, List.setIfInBounds_toArray, List.set_cons_zero, List.set_cons_succ]
      refine wpAnyH_done (by kernel_rfl) ?_ _
      have HX2 := Lib.hid (HX.out.trans hHeld)
      clear hHeld
      go_wp2_with fail
      go_roundw
      case rel => exact ⟨j + 1, hlt, by go_num, HX2.out⟩
      case measure => simp [intOf]; omega
    · have g1 : ¬ (j : Int) < (ks.length : Int) := by omega
      clear hX
      go_wp2_with fail
      go_ret
      exact ⟨rfl, HX1.out.trans HX.out⟩
end Go.Proofs.Ytohajcflklejjaa
namespace Go.Proofs.Ytohajcflklejjaa
open Go.RowKit
set_option linter.unusedVariables false
set_option linter.unusedSimpArgs false
set_option maxRecDepth 100000
section
variable {H : Type} {enc : TypeId × Value → H} {P : Program} {w : World} {held : Bool}
theorem bulk_all_get : ∀ {l : List (DataW H)} {i : Nat} {d : DataW H}, l[i]? = some d → Rows.uptoBulk d ≤ Rows.uptoBulkAll l
  | [], i, d, h => by simp at h
  | x :: l, 0, d, h => by
    have : x = d := by simpa using h
    subst this
    simp only [Rows.uptoBulkAll]; omega
  | x :: l, i + 1, d, h => by
    have := bulk_all_get (l := l) (i := i) (d := d) (by simpa using h)
    simp only [Rows.uptoBulkAll]; omega
theorem trod_rowsB {t e : TypeId} {C B fuel : Nat} {cs : List Value} {x : DataW H × List MemPlace} (ht : P.underlying t = some (.slice e)) (hC : P.cellsOf e = C) (hB : P.bytesOf e = B) (hC0 : 0 < C)
    (h : tr enc P w held fuel t cs = some x) (hw : WOk P t x.1) :
    ∃ (n len : Nat) (s : Sl) (b o : Nat) (es : List (DataW H)), fuel = n + 1 ∧ cs = [.slice s.a len s.c] ∧ SlAt (Lt w.heap.size) s len b o ∧ len * B ≤ 140737488351232 ∧ es.length = len ∧ Rows.uptoBulkAll es + 1 ≤ Rows.uptoBulk x.1 ∧
      ∀ i, i < len → ∃ cs' y, cs'.length = C ∧ (∀ j, j < C → w.cell? ⟨b, o + i * C + j, none⟩ = cs'[j]?) ∧ tr enc P w held n e cs' = some y ∧ WOk P e y.1 ∧ es[i]? = some y.1 := by
  rcases DataW.trod_slice ht h with ⟨rfl, rfl⟩ | ⟨a, len, cap, elems, rest, n, hfu, hcs, hx, -, hl, hm, hlen, hel, hsp, -⟩
  · cases fuel with
    | zero => simp [tr, DataW.trod] at h
    | succ n => exact ⟨n, 0, Sl.none, 0, 0, [], rfl, rfl, .nil _ _, by omega, rfl, by simp [Rows.uptoBulk, Rows.uptoBulkAll], fun i hi => by omega⟩
  · obtain ⟨n', len', s, b, o, hfu', hcs', hs, hby, he⟩ := trod_rows ht hC hB hC0 h hw
    subst hcs hx hfu
    obtain rfl : n = n' := by omega
    have hcs2 : Value.slice (some a) len cap = .slice s.a len' s.c := by simpa using hcs'
    injection hcs2 with e1 e2 e3
    subst e2
    refine ⟨n, len, s, b, o, elems.map (·.1), rfl, hcs', hs, hby, by rw [List.length_map]; exact hlen, by simp only [Rows.uptoBulk]; omega, fun i hi => ?_⟩
    obtain ⟨cs', y, hl', hc, ht', hw'⟩ := he i hi
    refine ⟨cs', y, hl', hc, ht', hw', ?_⟩
    have hE := hel i hi
    rw [List.getElem?_eq_getElem (by omega)] at hE
    obtain ⟨cs2, h1, h2⟩ := Option.bind_eq_some_iff.1 hE
    obtain ⟨-, hl1, hat1⟩ := World.cells?_some h1
    rw [hC] at hl1 hat1
    have hsa : s.a = some ⟨b, o, none⟩ := (hs.eq (by omega)).1
    rw [hsa] at e1
    obtain rfl : a = ⟨b, o, none⟩ := by injection e1
    have : cs2 = cs' := by
      refine List.ext_getElem? fun j => ?_
      by_cases hj : j < C
      · have := hat1 j hj
        rw [Go.WideShapes.add_plain, Go.WideShapes.add_plain] at this
        rw [← hc j hj, ← this]
      · rw [List.getElem?_eq_none (by omega), List.getElem?_eq_none (by omega)]
    subst this
    rw [List.getElem?_map, List.getElem?_eq_getElem (by omega)]
    have : some (elems[i]'(by omega)) = some y := by rw [← h2]; exact ht'
    simp only [Option.map_some]
    injection this with this
    rw [this]
theorem trod_fieldsB {t : TypeId} {fs : List Field} {fuel : Nat} {cs : List Value} {x : DataW H × List MemPlace} (ht : P.underlying t = some (.struct fs.toArray)) (h : tr enc P w held fuel t cs = some x) (hw : WOk P t x.1) :
    ∃ n ds, fuel = n + 1 ∧ cs.length = P.cellsOf t ∧ x.1 = .agg ds ∧ ∀ (i : Nat) (f : Field), fs[i]? = some f → ∃ y, tr enc P w held n f.type ((cs.drop f.offset).take (P.cellsOf f.type)) = some y ∧ WOk P f.type y.1 ∧ ds[i]? = some y.1 := by
  obtain ⟨xs, n, rfl, rfl, hl, hlen, hf⟩ := DataW.trod_struct ht h
  refine ⟨n, xs.map (·.1), rfl, hl, rfl, fun i f hi => ?_⟩
  have hw' : (DataW.weightsEach P (fs.map (·.type)) (xs.map (·.1))).all (· ≤ reachBytes) = true := by
    have := hw
    simpa [WOk, DataW.weights, ht] using this
  have hil : i < fs.length := (List.getElem?_eq_some_iff.1 hi).1
  have h1 := hf i f (by simpa using hi)
  have hxl : i < xs.length := by simp at hlen; omega
  rw [List.getElem?_eq_getElem hxl] at h1
  exact ⟨_, h1, weightsEach_at hw' i _ _ (by rw [List.getElem?_map, hi]; rfl) (by rw [List.getElem?_map, List.getElem?_eq_getElem hxl]; rfl), by rw [List.getElem?_map, List.getElem?_eq_getElem hxl]; rfl⟩
end
section
variable {H : Type} {enc : TypeId × Value → H} {w : World} {held : Bool}
theorem cellsOfShape : Try.prog.cellsOf 25 = 2 := by kernel_rfl
theorem bytesOfShape : Try.prog.bytesOf 25 = 48 := by kernel_rfl
theorem cellsOfSEntry : Try.prog.cellsOf 22 = 1 := by kernel_rfl
theorem cellsOfSShape : Try.prog.cellsOf 23 = 1 := by kernel_rfl
instance : Inhabited Sh := ⟨.mk [] []⟩
theorem nodesL_bulk : ∀ (l : List Sh) (ds : List (DataW H)), l.length = ds.length → (∀ (i : Nat) (d : Sh), l[i]? = some d → ∃ y, ds[i]? = some y ∧ nodesS d ≤ Rows.uptoBulk y) → nodesL l ≤ Rows.uptoBulkAll ds
  | [], ds, _, _ => by simp [nodesL]
  | d :: l, [], h, _ => by simp at h
  | d :: l, y :: ds, h, hh => by
    have h0 := hh 0 d rfl
    obtain ⟨y', hy', hn⟩ := h0
    have : y = y' := by simpa using hy'
    subst this
    have ih := nodesL_bulk l ds (by simpa using h) fun i d' hd => hh (i + 1) d' (by simpa using hd)
    simp only [nodesL, Rows.uptoBulkAll]; omega
theorem two_list {cs : List Value} (h : cs.length = 2) : ∃ a b, cs = [a, b] := by
  match cs, h with
  | [a, b], _ => exact ⟨_, _, rfl⟩
theorem shape_of_trod : ∀ (fuel : Nat) {cs : List Value} {x : DataW H × List MemPlace}, tr enc Try.prog w held fuel 25 cs = some x → WOk Try.prog 25 x.1 → ∃ d se sk, cs = [.slice se.a d.es.length se.c, .slice sk.a d.ks.length sk.c] ∧ RS w (Lt w.heap.size) d se sk ∧ nodesS d ≤ Rows.uptoBulk x.1 := by
  intro fuel
  induction fuel using Nat.strongRecOn with
  | ind fuel ih =>
  intro cs x h hw
  obtain ⟨n, ds, rfl, hl, hx, hf⟩ := trod_fieldsB Try.underlying25 h hw
  rw [cellsOfShape] at hl
  obtain ⟨c0, c1, rfl⟩ := two_list hl
  obtain ⟨y0, h0, w0, -⟩ := hf 0 _ rfl
  obtain ⟨y1, h1, w1, hd1⟩ := hf 1 _ rfl
  dsimp only at h0 h1
  rw [cellsOfSEntry] at h0
  rw [cellsOfSShape] at h1
  obtain ⟨se, xs, hc0, hes⟩ := es_of_trod h0 w0
  obtain ⟨n1, len, sk, b, o, es, hn1, hc1, hs, hby, hel, hbk, he⟩ := trod_rowsB (e := 25) (C := 2) (B := 48) (by kernel_rfl) cellsOfShape bytesOfShape (by decide) h1 w1
  have k0 : c0 = .slice se.a xs.length se.c := by simpa using hc0
  have k1 : c1 = .slice sk.a len sk.c := by simpa using hc1
  subst k0 k1
  have hE : ∀ i, i < len → ∃ a : Sh × Sl × Sl, SCells w b (o + i * 2) a.1 (a.2.1, a.2.2) ∧ RS w (Lt w.heap.size) a.1 a.2.1 a.2.2 ∧ ∃ y, es[i]? = some y ∧ nodesS a.1 ≤ Rows.uptoBulk y := fun i hi => by
    obtain ⟨cs', y, hl2, hc, ht, hw, hy⟩ := he i hi
    obtain ⟨d, s1, s2, rfl, hr, hb⟩ := ih n1 (by omega) ht hw
    exact ⟨(d, s1, s2), ⟨hc 0 (by decide), hc 1 (by decide)⟩, hr, y.1, hy, hb⟩
  obtain ⟨f, hf2⟩ := skolem hE
  refine ⟨.mk (xs.map LE.ent) ((List.range len).map fun j => (f j).1), se, sk, by simp [Sh.es, Sh.ks], ?_, ?_⟩
  · refine .mk xs b o (fun j => ((f j).2.1, (f j).2.2)) rfl hes (by rw [List.length_map, List.length_range]; exact hs) (fun j d hj => ?_) (fun j d hj => ?_) (by rw [List.length_map, List.length_range]; omega)
    · obtain ⟨h1, rfl⟩ := ofFn_get hj; exact (hf2 j h1).1
    · obtain ⟨h1, rfl⟩ := ofFn_get hj; exact (hf2 j h1).2.1
  · have hL : nodesL ((List.range len).map fun j => (f j).1) ≤ Rows.uptoBulkAll es := nodesL_bulk _ _ (by rw [List.length_map, List.length_range, hel]) fun i d hd => by
      obtain ⟨h1, rfl⟩ := ofFn_get hd; exact (hf2 i h1).2.2
    have h1 := bulk_all_get hd1
    have h2 : Rows.uptoBulk x.1 = Rows.uptoBulkAll ds + 1 := by rw [hx]; simp only [Rows.uptoBulk]
    simp only [nodesS]; omega
end
end Go.Proofs.Ytohajcflklejjaa
