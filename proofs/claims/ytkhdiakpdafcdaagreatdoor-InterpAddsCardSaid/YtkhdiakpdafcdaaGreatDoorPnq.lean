/- What the theorem needs of the texts Nil13: no condition of its own. -/
import Derived.Laws.IdiomStrings
import Derived.WalkArith
import Derived.OrdersIn
import Derived.Test.YtkhdiakpdafcdaaGreatDoorPna
import Derived.Test.YtkhdiakpdafcdaaGreatDoorPnb
import Derived.Test.YtkhdiakpdafcdaaGreatDoorPnc
import Derived.Test.YtkhdiakpdafcdaaGreatDoorPnd
import Derived.Test.YtkhdiakpdafcdaaGreatDoorPne
import Derived.Test.YtkhdiakpdafcdaaGreatDoorPnf
import Derived.Test.YtkhdiakpdafcdaaGreatDoorPng
import Derived.Test.YtkhdiakpdafcdaaGreatDoorPnh
import Derived.Test.YtkhdiakpdafcdaaGreatDoorPni
import Derived.Test.YtkhdiakpdafcdaaGreatDoorPnj
import Derived.Test.YtkhdiakpdafcdaaGreatDoorPnk
import Derived.Test.YtkhdiakpdafcdaaGreatDoorPnl
import Derived.Test.YtkhdiakpdafcdaaGreatDoorPnm
import Derived.Test.YtkhdiakpdafcdaaGreatDoorPnn
import Derived.Test.YtkhdiakpdafcdaaGreatDoorPno
import Derived.Test.YtkhdiakpdafcdaaGreatDoorPnp
set_option maxRecDepth 100000
set_option maxHeartbeats 4000000
namespace Go.Proofs.YtkhdiakpdafcdaaGreatDoor
open Go.RowKit Go.Maps Go.Shelf
set_option linter.unusedVariables false
set_option linter.unusedSimpArgs false
theorem put1_any {w:World} {k:ByteArray} {n:Int} (hk:k.size≤maxLen) (wn:(Lit.int .i64 n).wf=true) :
  Calls Tryz.prog 35 #[.agg #[.pointer none],.string k,numA n] w fun e w'=>∃ T p,e=.returned (.agg #[.pointer p])∧rootV T=.pointer p∧OkR T∧entsT T=[(k,numV n)]∧IsT w' (In w.heap.size w'.heap.size) T∧Ext w w':=by
 have h:=put_any (w:=w) (F:=fun _=>False) (T:=none) (fun b h=>h.elim) trivial trivial (by decide) hk (rv_num13 w (Lt w.heap.size) wn)
 refine h.mono ?_
 rintro e w' ⟨T,rfl,hp,hT,hx⟩
 obtain ⟨p,hr⟩:=rootV_ptr T
 exact ⟨T,p,by rw [treeV,hr],hr,hp.ok trivial,by rw [hp.ents trivial];rfl,hT.mono fun b hb=>hb.elim (fun h=>h.elim) id,hx⟩
theorem Do_nil (w:World) (m:Mu) (c:MuS):Calls Tryz.prog 23 #[.pointer none,aggMu m c] w fun e w'=>e=.returned (.int .i64 1)∧Nw w w':=by
 go_enter Tryz.func23,Tryz.ntmps23
 go_upto_region 1 with fail
 generalize hW0:World.alloc _ _=W0
 obtain ⟨hx0,hb0,hz0⟩:=box_mu (m:=m) (c:=c) hW0
 have HX0:=Lib.hid (Nw.of hx0)
 clear hW0 hx0 hb0 hz0
 go_wp2_with fail
 go_ret
 exact ⟨rfl,HX0.out⟩
theorem muRow0 (w:World):MuRow w (Lt w.heap.size) Sl.none []:=⟨⟨0,0,fun _=>default,.nil _ _,fun j m h=>by simp at h,fun j m h=>by simp at h⟩,by simp [totMs],by simp⟩
theorem nil13 {w:World} (hL:LibQ w):Calls Tryz.prog 9 #[] w fun e w'=>e=.returned (.bool true)∧Nw w w':=by
 have hbig:=hL.lib.big
 have HL:=Lib.hid hL
 clear hL
 go_enter Tryz.func9,Tryz.ntmps9
 go_wp2_with fail
 generalize hW1:World.alloc w _=w1
 obtain ⟨hx1,hb1,hz1⟩:=new_box hW1
 have HN1:=Lib.hid (Nw.of hx1)
 have hz1d:w1.heap.size≤w1.drew.heap.size:=Nat.le_refl _
 have hz1e:w1.drew.heap.size≤w1.heap.size:=Nat.le_refl _
 have HSS:=Lib.hid (show ∀ W,Nw w1 W→W.cell? ⟨w.heap.size,0,none⟩=some (.pointer none) from fun W hW=>(hW.blk hb1).cell 0)
 clear hW1 hx1 hb1
 refine wp_meetX (fun w' b _=>Box13 [(kA0,numV 1)] w1.heap.size w' b∧Nw w1 w') [11,12,13] (fun b _=>[(2,.pointer (some ⟨b,0,none⟩))]) ?_ ?_
 ·skip
  refine wp_region_held_drew (S:=(fun w'=>Nw w1 w')) (by kernel_rfl) ((Nw.of ((Ext.refl w1).drew))) (fun hHeld=>?_)
  refine heldT 0 (some 11) HSS hHeld ?_
  refine held_two (i:=1) (j:=3) (by kernel_rfl) rfl rfl (by rfl) (by rfl) (fun K hK=>?_) (fun K hK=>?_)
  ·go_simp
   (refine (num13_any _ 1).mono ?_;rintro e wa ⟨rfl,hxa⟩;have za:=hxa.size;(first|have HBZ:=Lib.hid (HBZ.out.ext hxa)|have HBZ:=Lib.hid (HBZ.out.ext (((Ext.refl _).drew).trans hxa))|skip))
   refine hK.out _ _ (hHeld.trans (Nw.of hxa)) (fun hHeld=>?_)
   clear hK K
   try simp only [Act.put,List.setIfInBounds_toArray,List.set_cons_zero,List.set_cons_succ]
   refine held_two (i:=2) (j:=3) (by kernel_rfl) rfl rfl (by rfl) (by rfl) (fun K hK=>?_) (fun K hK=>?_)
   ·go_simp
    (have s7:=hHeld.size;refine (put1_any (k:=kA0) (n:=1) (by decide) (by decide)).mono ?_;rintro e wc ⟨T,p,rfl,hp,ok,he,hT,hxc⟩;have zc:=hxc.size;have HT:=Lib.hid hT;(try (have HBZ:=Lib.hid (HBZ.out.ext hxc);have c6:World.cell? _ ⟨_,0,none⟩=some (.pointer none):=HBZ.out.cell 0;have f6:=HBZ.out.frozen 0));clear hT)
    refine hK.out _ _ (hHeld.trans (Nw.of hxc)) (fun hHeld=>?_)
    clear hK K
    try simp only [Act.put,List.setIfInBounds_toArray,List.set_cons_zero,List.set_cons_succ]
    refine held_call (i:=3) (by kernel_rfl) rfl (by rfl) (fun K hK=>?_)
    go_simp
    (have s8:=hHeld.size;generalize hwz:World.alloc _ _=wz;obtain ⟨hxz,hbz,zz⟩:=new_box hwz;have zd:wz.heap.size≤wz.drew.heap.size:=Nat.le_refl _;have HBZ:=Lib.hid hbz;have c6:World.cell? _ ⟨_,0,none⟩=some (.pointer none):=hbz.cell 0;have f6:=hbz.frozen 0;(try (have HT:=Lib.hid (HT.out.agree (hxz.agree fun b hb=>hb.2))));clear hwz hbz)
    refine hK.out _ _ ((by first|exact hHeld.trans (Nw.of hxz)|exact (Nw.of hxz).trans (Nw.of ((Ext.refl wz).drew)))) (fun hHeld=>?_)
    clear hK K
    try simp only [Act.put,List.setIfInBounds_toArray,List.set_cons_zero,List.set_cons_succ]
    refine held_call (i:=4) (by kernel_rfl) rfl (by rfl) (fun K hK=>?_)
    go_simp
    skip
    refine hK.out _ _ (nw_setB hHeld (by omega) _) (fun hHeld=>?_)
    clear hK K
    try simp only [Act.put,List.setIfInBounds_toArray,List.set_cons_zero,List.set_cons_succ]
    refine wpAnyH_done (by kernel_rfl) ?_ _
    simp only [putXs,List.map_cons,List.map_nil,List.cons_append,List.nil_append,List.setIfInBounds_toArray,List.set_cons_zero,List.set_cons_succ]
    refine onlyX_mk ⟨_,.bool true,⟨box13_mk hp ok he HT.out HBZ.out (by omega) (fun i hi=>⟨by have:=hi.1;omega,by have:=hi.2;omega,by have:=hi.1;have:=hi.2;omega⟩),hHeld⟩,by kernel_rfl,?_⟩
    simp only [putXs,List.map_cons,List.map_nil,List.cons_append,List.nil_append,List.setIfInBounds_toArray,List.set_cons_zero,List.set_cons_succ]
    kernel_rfl
   go_simp
   (have s8:=hHeld.size;generalize hwz:World.alloc _ _=wz;obtain ⟨hxz,hbz,zz⟩:=new_box hwz;have zd:wz.heap.size≤wz.drew.heap.size:=Nat.le_refl _;have HBZ:=Lib.hid hbz;have c6:World.cell? _ ⟨_,0,none⟩=some (.pointer none):=hbz.cell 0;have f6:=hbz.frozen 0;(try (have HT:=Lib.hid (HT.out.agree (hxz.agree fun b hb=>hb.2))));clear hwz hbz)
   refine hK.out _ _ ((by first|exact hHeld.trans (Nw.of hxz)|exact (Nw.of hxz).trans (Nw.of ((Ext.refl wz).drew)))) (fun hHeld=>?_)
   clear hK K
   try simp only [Act.put,List.setIfInBounds_toArray,List.set_cons_zero,List.set_cons_succ]
   refine held_call (i:=2) (by kernel_rfl) rfl (by rfl) (fun K hK=>?_)
   go_simp
   (have s7:=hHeld.size;refine (put1_any (k:=kA0) (n:=1) (by decide) (by decide)).mono ?_;rintro e wc ⟨T,p,rfl,hp,ok,he,hT,hxc⟩;have zc:=hxc.size;have HT:=Lib.hid hT;(try (have HBZ:=Lib.hid (HBZ.out.ext hxc);have c6:World.cell? _ ⟨_,0,none⟩=some (.pointer none):=HBZ.out.cell 0;have f6:=HBZ.out.frozen 0));clear hT)
   refine hK.out _ _ (hHeld.trans (Nw.of hxc)) (fun hHeld=>?_)
   clear hK K
   try simp only [Act.put,List.setIfInBounds_toArray,List.set_cons_zero,List.set_cons_succ]
   refine held_call (i:=4) (by kernel_rfl) rfl (by rfl) (fun K hK=>?_)
   go_simp
   skip
   refine hK.out _ _ (nw_setB hHeld (by omega) _) (fun hHeld=>?_)
   clear hK K
   try simp only [Act.put,List.setIfInBounds_toArray,List.set_cons_zero,List.set_cons_succ]
   refine wpAnyH_done (by kernel_rfl) ?_ _
   simp only [putXs,List.map_cons,List.map_nil,List.cons_append,List.nil_append,List.setIfInBounds_toArray,List.set_cons_zero,List.set_cons_succ]
   refine onlyX_mk ⟨_,.bool true,⟨box13_mk hp ok he HT.out HBZ.out (by omega) (fun i hi=>⟨by have:=hi.1;omega,by have:=hi.2;omega,by have:=hi.1;have:=hi.2;omega⟩),hHeld⟩,by kernel_rfl,?_⟩
   simp only [putXs,List.map_cons,List.map_nil,List.cons_append,List.nil_append,List.setIfInBounds_toArray,List.set_cons_zero,List.set_cons_succ]
   kernel_rfl
  go_simp
  (have s8:=hHeld.size;generalize hwz:World.alloc _ _=wz;obtain ⟨hxz,hbz,zz⟩:=new_box hwz;have zd:wz.heap.size≤wz.drew.heap.size:=Nat.le_refl _;have HBZ:=Lib.hid hbz;have c6:World.cell? _ ⟨_,0,none⟩=some (.pointer none):=hbz.cell 0;have f6:=hbz.frozen 0;(try (have HT:=Lib.hid (HT.out.agree (hxz.agree fun b hb=>hb.2))));clear hwz hbz)
  refine hK.out _ _ ((by first|exact hHeld.trans (Nw.of hxz)|exact (Nw.of hxz).trans (Nw.of ((Ext.refl wz).drew)))) (fun hHeld=>?_)
  clear hK K
  try simp only [Act.put,List.setIfInBounds_toArray,List.set_cons_zero,List.set_cons_succ]
  refine held_call (i:=1) (by kernel_rfl) rfl (by rfl) (fun K hK=>?_)
  go_simp
  (refine (num13_any _ 1).mono ?_;rintro e wa ⟨rfl,hxa⟩;have za:=hxa.size;(first|have HBZ:=Lib.hid (HBZ.out.ext hxa)|have HBZ:=Lib.hid (HBZ.out.ext (((Ext.refl _).drew).trans hxa))|skip))
  refine hK.out _ _ (hHeld.trans (Nw.of hxa)) (fun hHeld=>?_)
  clear hK K
  try simp only [Act.put,List.setIfInBounds_toArray,List.set_cons_zero,List.set_cons_succ]
  refine held_call (i:=2) (by kernel_rfl) rfl (by rfl) (fun K hK=>?_)
  go_simp
  (have s7:=hHeld.size;refine (put1_any (k:=kA0) (n:=1) (by decide) (by decide)).mono ?_;rintro e wc ⟨T,p,rfl,hp,ok,he,hT,hxc⟩;have zc:=hxc.size;have HT:=Lib.hid hT;(try (have HBZ:=Lib.hid (HBZ.out.ext hxc);have c6:World.cell? _ ⟨_,0,none⟩=some (.pointer none):=HBZ.out.cell 0;have f6:=HBZ.out.frozen 0));clear hT)
  refine hK.out _ _ (hHeld.trans (Nw.of hxc)) (fun hHeld=>?_)
  clear hK K
  try simp only [Act.put,List.setIfInBounds_toArray,List.set_cons_zero,List.set_cons_succ]
  refine held_call (i:=4) (by kernel_rfl) rfl (by rfl) (fun K hK=>?_)
  go_simp
  skip
  refine hK.out _ _ (nw_setB hHeld (by omega) _) (fun hHeld=>?_)
  clear hK K
  try simp only [Act.put,List.setIfInBounds_toArray,List.set_cons_zero,List.set_cons_succ]
  refine wpAnyH_done (by kernel_rfl) ?_ _
  simp only [putXs,List.map_cons,List.map_nil,List.cons_append,List.nil_append,List.setIfInBounds_toArray,List.set_cons_zero,List.set_cons_succ]
  refine onlyX_mk ⟨_,.bool true,⟨box13_mk hp ok he HT.out HBZ.out (by omega) (fun i hi=>⟨by have:=hi.1;omega,by have:=hi.2;omega,by have:=hi.1;have:=hi.2;omega⟩),hHeld⟩,by kernel_rfl,?_⟩
  simp only [putXs,List.map_cons,List.map_nil,List.cons_append,List.nil_append,List.setIfInBounds_toArray,List.set_cons_zero,List.set_cons_succ]
  kernel_rfl
 intro w2 b2 u2 vs hin
 simp only [putXs,List.map_cons,List.map_nil,List.cons_append,List.nil_append,List.setIfInBounds_toArray,List.set_cons_zero,List.set_cons_succ]
 obtain ⟨⟨T1,p1,hp1,ok1,he1,hT1,hbx2,hl2⟩,hn2⟩:=hin
 have z2:=hn2.size
 have HNA:=Lib.hid (HN1.out.trans hn2)
 have HC2:=Lib.hid (show ∀ W,Nw w2 W→W.cell? ⟨b2,0,none⟩=some (.pointer p1) from fun W hW=>(hW.blk hbx2).cell 0)
 have q2:=HC2.out w2 (Nw.of (Ext.refl _))
 have hlt2:=hbx2.lt
 have HRUN:=Lib.hid (show ∀ W m x,Nw w2 W→runM [(kA0,numV 1)] m=(x,[(kA0,numV 1)])→sizeM m=1→RMu W (Lt W.heap.size) m zS→totM m≤1100000→Calls Tryz.prog 28 #[.agg #[.pointer p1],aggMu m zS] W fun e w'=>e=.returned (.tuple #[.agg #[.pointer p1],.int .i64 x])∧Nw W w' from fun W m x hW hr hs hm ht=>by
  have h:=run13 hp1 ok1 he1 (hT1.agree (Nw.agree hW fun b hb=>hb.2.1)) (fun b hb=>⟨by have:=hb.1;omega,Nat.lt_of_lt_of_le hb.2.1 hW.size⟩) okA0 (by decide) hs hm ht (HL.out.nw (HNA.out.trans hW))
  rw [hr] at h
  refine h.mono ?_
  rintro e w' ⟨T',p',rfl,h2,h3,h4,h5,h6,h7,h8⟩
  rw [h8 rfl,hp1] at h2
  injection h2 with h2
  exact ⟨by rw [h2],h7⟩)
 have HFOLD:=Lib.hid (show ∀ W,Nw w2 W→Calls Tryz.prog 38 #[.agg #[.pointer p1],.slice none 0 0] W fun e w'=>e=.returned (.tuple #[.agg #[.pointer p1],.int .i64 0])∧Nw W w' from fun W hW=>by
  have h:=Fold_any (s:=Sl.none) (l:=[]) (hT1.agree (Nw.agree hW fun b hb=>hb.2.1)) (fun b hb=>⟨by have:=hb.1;omega,Nat.lt_of_lt_of_le hb.2.1 hW.size⟩) ok1 (by rw [he1];exact okA0) (muRow0 W) (HL.out.nw (HNA.out.trans hW)) (fun j m hj=>by simp at hj) (fun j=>by rw [List.take_nil,he1];decide) (by simp [totMs])
  rw [treeV,hp1] at h
  refine h.mono ?_
  rintro e w' ⟨T',rfl,h1,h2,h3,h4,h5,h6⟩
  rw [h6 rfl,treeV,hp1]
  exact ⟨rfl,h5⟩)
 clear hp1 ok1 he1 hT1 hbx2 hn2 HN1 HSS
 go_wp2_with fail
 refine (HRUN.out w2 zeroMu 9 (Nw.of (Ext.refl _)) (run_zero _) (size_flat ..) (mu_flat (rv_zeroO _ _) (rv_zeroO _ _) (by decide) (by decide) (by decide) (by decide)) (by decide +kernel)).mono ?_
 rintro e w3 ⟨rfl,hn3⟩
 clear q2
 have HN3:=Lib.hid hn3
 have q2:=HC2.out w3 hn3
 have l2:b2<w3.heap.size:=Nat.lt_of_lt_of_le hlt2 hn3.size
 clear hn3
 go_wp2_with fail
 generalize hW4:World.alloc _ _=w4
 obtain ⟨hx4,hb4,hz4⟩:=new_box hW4
 have hn4:=HN3.out.trans (Nw.of hx4)
 have HN4:=Lib.hid hn4
 have HC4:=Lib.hid (show ∀ W,Nw w4 W→W.cell? ⟨w3.heap.size,0,none⟩=some (.pointer p1) from fun W hW=>(hW.blk hb4).cell 0)
 clear hW4 hx4 hb4 hn4 HN3 q2 l2
 refine (HFOLD.out w4 HN4.out).mono ?_
 rintro e w5 ⟨rfl,hn5⟩
 have HN5:=Lib.hid hn5
 have q2:=HC2.out w5 (HN4.out.trans hn5)
 have l2:b2<w5.heap.size:=Nat.lt_of_lt_of_le hlt2 (HN4.out.trans hn5).size
 clear hn5
 go_wp2_with fail
 generalize hW6:World.alloc _ _=w6
 obtain ⟨hx6,hb6,hz6⟩:=new_box hW6
 have hn46:=HN5.out.trans (Nw.of hx6)
 have HN46:=Lib.hid hn46
 have hn6:=HN4.out.trans hn46
 have HN6:=Lib.hid hn6
 have HC6:=Lib.hid (show ∀ W,Nw w6 W→W.cell? ⟨w5.heap.size,0,none⟩=some (.pointer p1) from fun W hW=>(hW.blk hb6).cell 0)
 clear hW6 hx6 hb6 hn46 hn6 HN5 q2 l2
 refine (HRUN.out w6 (seqMu []) 0 HN6.out (run_seq0 okA0) (size_flat ..) (mu_flat (rv_zeroO _ _) (rv_zeroO _ _) (by decide) (by decide) (by decide) (by decide)) (by decide +kernel)).mono ?_
 rintro e w7 ⟨rfl,hn7⟩
 have HN7:=Lib.hid hn7
 have q2:=HC2.out w7 (HN6.out.trans hn7)
 have l2:b2<w7.heap.size:=Nat.lt_of_lt_of_le hlt2 (HN6.out.trans hn7).size
 clear hn7
 go_wp2_with fail
 generalize hW8:World.alloc _ _=w8
 obtain ⟨hx8,hb8,hz8⟩:=new_box hW8
 have hn68:=HN7.out.trans (Nw.of hx8)
 have HN68:=Lib.hid hn68
 have hn8:=HN6.out.trans hn68
 have HN8:=Lib.hid hn8
 have HC8:=Lib.hid (show ∀ W,Nw w8 W→W.cell? ⟨w7.heap.size,0,none⟩=some (.pointer p1) from fun W hW=>(hW.blk hb8).cell 0)
 clear hW8 hx8 hb8 hn68 hn8 HN7 q2 l2
 refine (HRUN.out w8 (movMu kX1 kY1) 0 HN8.out run_movxy (size_flat ..) (mu_mov _ _ (by decide) (by decide)) (by decide +kernel)).mono ?_
 rintro e w9 ⟨rfl,hn9⟩
 have HN9:=Lib.hid hn9
 clear hn9
 go_wp2_with fail
 generalize hW10:World.alloc _ _=w10
 obtain ⟨hx10,hb10,hz10⟩:=new_box hW10
 have hn810:=HN9.out.trans (Nw.of hx10)
 have hn610:=HN68.out.trans hn810
 have hn410:=HN46.out.trans hn610
 have hn210:=HN4.out.trans hn410
 have HC:=Lib.hid (show ∀ W,Nw w10 W→W.cell? ⟨b2,0,none⟩=some (.pointer p1)∧W.cell? ⟨w3.heap.size,0,none⟩=some (.pointer p1)∧W.cell? ⟨w5.heap.size,0,none⟩=some (.pointer p1)∧W.cell? ⟨w7.heap.size,0,none⟩=some (.pointer p1)∧W.cell? ⟨w9.heap.size,0,none⟩=some (.pointer p1) from
  fun W hW=>⟨HC2.out W (hn210.trans hW),HC4.out W (hn410.trans hW),HC6.out W (hn610.trans hW),HC8.out W (hn810.trans hW),(hW.blk hb10).cell 0⟩)
 have HN10:=Lib.hid (HNA.out.trans hn210)
 clear hW10 hx10 hb10 hn810 hn610 hn410 hn210 HN9 HN68 HN46 HN8 HN6 HN4 HC2 HC4 HC6 HC8 HRUN HFOLD HNA
 refine (Do_nil w10 (delMu kA0) zS).mono ?_
 rintro e w11 ⟨rfl,hn11⟩
 have HN11:=Lib.hid hn11
 clear hn11
 go_wp2_with fail
 refine (Do_nil w11 zeroMu zS).mono ?_
 rintro e w12 ⟨rfl,hn12⟩
 have HN12:=Lib.hid (HN11.out.trans hn12)
 obtain ⟨q2,q3,-,-,-⟩:=HC.out w12 HN12.out
 clear hn12 HN11
 go_wp2_with fail
 refine (is_same w12 p1).mono ?_
 rintro e w13 ⟨rfl,hx13⟩
 have HN13:=Lib.hid (HN12.out.trans (Nw.of hx13))
 obtain ⟨q2,-,q3,-,-⟩:=HC.out w13 HN13.out
 clear hx13 HN12
 go_wp2_with fail
 refine (is_same w13 p1).mono ?_
 rintro e w14 ⟨rfl,hx14⟩
 have HN14:=Lib.hid (HN13.out.trans (Nw.of hx14))
 obtain ⟨q2,-,-,q3,-⟩:=HC.out w14 HN14.out
 clear hx14 HN13
 go_wp2_with fail
 refine (is_same w14 p1).mono ?_
 rintro e w15 ⟨rfl,hx15⟩
 have HN15:=Lib.hid (HN14.out.trans (Nw.of hx15))
 obtain ⟨q2,-,-,-,q3⟩:=HC.out w15 HN15.out
 clear hx15 HN14
 go_wp2_with fail
 refine (is_same w15 p1).mono ?_
 rintro e w16 ⟨rfl,hx16⟩
 have HN16:=Lib.hid (HN10.out.trans (HN15.out.trans (Nw.of hx16)))
 clear hx16 HN15 q2 q3 HC HN10
 go_wp2_with fail
 refine (known13 (HL.out.nw HN16.out)).mono ?_
 rintro e w17 ⟨rfl,hn17⟩
 have HN17:=Lib.hid (HN16.out.trans hn17)
 clear hn17 HN16 HL
 go_wp2_with fail
 go_ret
 exact ⟨rfl,HN17.out⟩
end Go.Proofs.YtkhdiakpdafcdaaGreatDoor
