/- What the theorem needs of the texts Adds13: no condition of its own. -/
import Derived.Laws.IdiomStrings
import Derived.WalkArith
import Derived.OrdersIn
import Derived.Test.YtkhdiakpdafcdaaGreatDoorPna
import Derived.Test.YtkhdiakpdafcdaaGreatDoorPnb
import Derived.Test.YtkhdiakpdafcdaaGreatDoorPnc
import Derived.Test.YtkhdiakpdafcdaaGreatDoorPnd
import Derived.Test.YtkhdiakpdafcdaaGreatDoorPne
import Derived.Test.YtkhdiakpdafcdaaGreatDoorPnf
import Derived.Test.YtkhdiakpdafcdaaGreatDoorPng
import Derived.Test.YtkhdiakpdafcdaaGreatDoorPnh
import Derived.Test.YtkhdiakpdafcdaaGreatDoorPni
import Derived.Test.YtkhdiakpdafcdaaGreatDoorPnj
import Derived.Test.YtkhdiakpdafcdaaGreatDoorPnk
import Derived.Test.YtkhdiakpdafcdaaGreatDoorPnl
import Derived.Test.YtkhdiakpdafcdaaGreatDoorPnm
import Derived.Test.YtkhdiakpdafcdaaGreatDoorPnn
import Derived.Test.YtkhdiakpdafcdaaGreatDoorPno
import Derived.Test.YtkhdiakpdafcdaaGreatDoorPnp
import Derived.Test.YtkhdiakpdafcdaaGreatDoorPnq
set_option maxRecDepth 100000
set_option maxHeartbeats 4000000
namespace Go.Proofs.YtkhdiakpdafcdaaGreatDoor
open Go.RowKit Go.Maps Go.Shelf
set_option linter.unusedVariables false
set_option linter.unusedSimpArgs false
def Ahead13 (b:Int) (n B:Nat) (w':World) (x:Int):Prop:=∃ T p,rootV T=.pointer p∧OkR T∧OkM (entsT T)∧(entsT T).length≤1∧runM (entsT T) (incMu kN1 b)=(if over13 x b then (7,entsT T) else (0,[(kN1,numV (x+b))]))∧IsT w' (fun i=>n≤i∧i<w'.heap.size∧i≠B) T∧Blk w' B 41 #[.pointer p]
theorem i64_wf {q:Int} (h0 : -9223372036854775808≤q) (h1:q≤9223372036854775807):(Lit.int .i64 q).wf=true:=by
 have a1:IntKind.i64.min = -9223372036854775808:=by decide
 have a2:IntKind.i64.max=9223372036854775807:=by decide
 simp [Lit.wf,a1,a2];omega
theorem put1_n {w:World} {k:ByteArray} {n:Int} (hk:k.size≤maxLen) (h0 : -9223372036854775808≤n) (h1:n≤9223372036854775807) :
  Calls Tryz.prog 35 #[.agg #[.pointer none],.string k,numA n] w fun e w'=>∃ T p,e=.returned (.agg #[.pointer p])∧rootV T=.pointer p∧OkR T∧entsT T=[(k,numV n)]∧IsT w' (In w.heap.size w'.heap.size) T∧Ext w w':=
 put1_any hk (i64_wf h0 h1)
theorem adds13 {a b:Int} {q:Bool} {w:World} (ha : -9223372036854775808≤a∧a≤9223372036854775807) (hb : -9223372036854775808≤b∧b≤9223372036854775807) (hL:LibQ w) :
  Calls Tryz.prog 6 #[.int .i64 a,.int .i64 b,.bool q] w fun e w'=>e=.returned (.bool true)∧Nw w w':=by
 have hbig:=hL.lib.big
 have HL:=Lib.hid hL
 have HA:=Lib.hid ha
 have HBB:=Lib.hid hb
 clear hL ha hb
 go_enter Tryz.func6,Tryz.ntmps6
 go_upto_if 11 with fail
 generalize hW1:World.alloc w _=w1
 obtain ⟨hx1,hb1,hz1⟩:=new_box hW1
 have HN1:=Lib.hid (Nw.of hx1)
 have HB1:=Lib.hid hb1
 have q1:w1.cell? ⟨w.heap.size,0,none⟩=some (.pointer none):=hb1.cell 0
 have HS0:=Lib.hid (show ∀ W:World,True→True from fun _ h=>h)
 have HSS:=Lib.hid (show ∀ W,Nw w1 W→W.cell? ⟨w.heap.size,0,none⟩=some (.pointer none)∧W.frozen? ⟨w.heap.size,0,none⟩=false from fun W hW=>⟨(hW.blk hb1).cell 0,(hW.blk hb1).frozen 0⟩)
 clear hW1 hx1 hb1
 go_cut [8] (fun v w'=>∃ x,v=.int .i64 x∧Hid (-9223372036854775808≤x∧x≤9223372036854775807)∧Hid (Ahead13 b w1.heap.size w.heap.size w' x)∧Hid (Nw w w')∧Hid (w1.heap.size≤w'.heap.size))
 case first=>
  cases q with
  | false=>
    go_wp2_with fail
    go_meet
    exact ⟨0,rfl,Lib.hid (by decide),Lib.hid ⟨none,none,rfl,trivial,OkM.nil,by decide,add13_no HBB.out,trivial,HB1.out⟩,Lib.hid HN1.out,Lib.hid (Nat.le_refl _)⟩
  | true=>
    go_wp2_with fail
    refine wp_region_held_drew (S:=(fun _=>True)) (by kernel_rfl) (trivial) (fun hHeld=>?_)
    refine heldT 1 (some 13) HS0 hHeld ?_
    refine held_two (i:=0) (j:=2) (by kernel_rfl) rfl rfl (by rfl) (by rfl) (fun K hK=>?_) (fun K hK=>?_)
    ·go_simp
     skip
     refine hK.out _ _ (trivial) (fun hHeld=>?_)
     clear hK K
     try simp only [Act.put,List.setIfInBounds_toArray,List.set_cons_zero,List.set_cons_succ]
     refine held_call (i:=2) (by kernel_rfl) rfl (by rfl) (fun K hK=>?_)
     go_simp
     (refine (num13_any _ a).mono ?_;rintro e wa ⟨rfl,hxa⟩;have HXA:=Lib.hid (((Ext.refl w1).drew).trans hxa);have q1:World.cell? wa ⟨w.heap.size,0,none⟩=some (.pointer none):=(HB1.out.ext HXA.out).cell 0;clear hxa)
     refine hK.out _ _ (trivial) (fun hHeld=>?_)
     clear hK K
     try simp only [Act.put,List.setIfInBounds_toArray,List.set_cons_zero,List.set_cons_succ]
     refine held_call (i:=3) (by kernel_rfl) rfl (by rfl) (fun K hK=>?_)
     go_simp
     (refine (put1_n (k:=kN1) (n:=a) (by decide) HA.out.1 HA.out.2).mono ?_;rintro e wb ⟨T,p,rfl,hp,ok,he,hT,hxb⟩;have HXB:=Lib.hid (HXA.out.trans hxb);have HBB2:=Lib.hid (HB1.out.ext HXB.out);have q2:World.cell? wb ⟨w.heap.size,0,none⟩=some (.pointer none):=HBB2.out.cell 0;have f2:=HBB2.out.frozen 0;have HT:=Lib.hid hT;clear hT hxb)
     refine hK.out _ _ (trivial) (fun hHeld=>?_)
     clear hK K
     try simp only [Act.put,List.setIfInBounds_toArray,List.set_cons_zero,List.set_cons_succ]
     refine held_call (i:=4) (by kernel_rfl) rfl (by rfl) (fun K hK=>?_)
     go_simp
     skip
     refine hK.out _ _ (trivial) (fun hHeld=>?_)
     clear hK K
     try simp only [Act.put,List.setIfInBounds_toArray,List.set_cons_zero,List.set_cons_succ]
     refine wpAnyH_done (by kernel_rfl) ?_ _
     generalize hW:World.setCell _ _ _=W
     have hfin:Ahead13 b w1.heap.size w.heap.size W a∧Nw w W∧w1.heap.size≤W.heap.size:=by
      subst hW
      have z1:=HXA.out.size
      have z2:=HXB.out.size
      have hset:=(Sb.refl (fun i=>i=w.heap.size) wb).set (p:=⟨w.heap.size,0,none⟩) (.inr rfl) (.pointer p)
      have z3:=hset.size
      refine ⟨⟨T,p,hp,ok,by rw [he];exact okN HA.out.1 HA.out.2,by rw [he];exact Nat.le_refl 1,by rw [he];exact add13_is HA.out HBB.out,(is_set HT.out (fun h=>by have:=h.1;omega) (fun i hi=>hi.2) _).mono fun i hi=>⟨by have:=hi.1;omega,by have:=hi.2;omega,by have:=hi.1;omega⟩,HBB2.out.set_ 0 (.pointer p)⟩,nw_setB (HN1.out.trans (Nw.of HXB.out)) (Nat.le_refl _) _,by omega⟩
     have HFIN:=Lib.hid hfin
     clear hfin hW hp ok he
     go_wp2_with fail
     go_meet
     exact ⟨a,rfl,HA,Lib.hid HFIN.out.1,Lib.hid HFIN.out.2.1,Lib.hid HFIN.out.2.2⟩
    go_simp
    (refine (num13_any _ a).mono ?_;rintro e wa ⟨rfl,hxa⟩;have HXA:=Lib.hid (((Ext.refl w1).drew).trans hxa);have q1:World.cell? wa ⟨w.heap.size,0,none⟩=some (.pointer none):=(HB1.out.ext HXA.out).cell 0;clear hxa)
    refine hK.out _ _ (trivial) (fun hHeld=>?_)
    clear hK K
    try simp only [Act.put,List.setIfInBounds_toArray,List.set_cons_zero,List.set_cons_succ]
    refine held_call (i:=0) (by kernel_rfl) rfl (by rfl) (fun K hK=>?_)
    go_simp
    skip
    refine hK.out _ _ (trivial) (fun hHeld=>?_)
    clear hK K
    try simp only [Act.put,List.setIfInBounds_toArray,List.set_cons_zero,List.set_cons_succ]
    refine held_call (i:=3) (by kernel_rfl) rfl (by rfl) (fun K hK=>?_)
    go_simp
    (refine (put1_n (k:=kN1) (n:=a) (by decide) HA.out.1 HA.out.2).mono ?_;rintro e wb ⟨T,p,rfl,hp,ok,he,hT,hxb⟩;have HXB:=Lib.hid (HXA.out.trans hxb);have HBB2:=Lib.hid (HB1.out.ext HXB.out);have q2:World.cell? wb ⟨w.heap.size,0,none⟩=some (.pointer none):=HBB2.out.cell 0;have f2:=HBB2.out.frozen 0;have HT:=Lib.hid hT;clear hT hxb)
    refine hK.out _ _ (trivial) (fun hHeld=>?_)
    clear hK K
    try simp only [Act.put,List.setIfInBounds_toArray,List.set_cons_zero,List.set_cons_succ]
    refine held_call (i:=4) (by kernel_rfl) rfl (by rfl) (fun K hK=>?_)
    go_simp
    skip
    refine hK.out _ _ (trivial) (fun hHeld=>?_)
    clear hK K
    try simp only [Act.put,List.setIfInBounds_toArray,List.set_cons_zero,List.set_cons_succ]
    refine wpAnyH_done (by kernel_rfl) ?_ _
    generalize hW:World.setCell _ _ _=W
    have hfin:Ahead13 b w1.heap.size w.heap.size W a∧Nw w W∧w1.heap.size≤W.heap.size:=by
     subst hW
     have z1:=HXA.out.size
     have z2:=HXB.out.size
     have hset:=(Sb.refl (fun i=>i=w.heap.size) wb).set (p:=⟨w.heap.size,0,none⟩) (.inr rfl) (.pointer p)
     have z3:=hset.size
     refine ⟨⟨T,p,hp,ok,by rw [he];exact okN HA.out.1 HA.out.2,by rw [he];exact Nat.le_refl 1,by rw [he];exact add13_is HA.out HBB.out,(is_set HT.out (fun h=>by have:=h.1;omega) (fun i hi=>hi.2) _).mono fun i hi=>⟨by have:=hi.1;omega,by have:=hi.2;omega,by have:=hi.1;omega⟩,HBB2.out.set_ 0 (.pointer p)⟩,nw_setB (HN1.out.trans (Nw.of HXB.out)) (Nat.le_refl _) _,by omega⟩
    have HFIN:=Lib.hid hfin
    clear hfin hW hp ok he
    go_wp2_with fail
    go_meet
    exact ⟨a,rfl,HA,Lib.hid HFIN.out.1,Lib.hid HFIN.out.2.1,Lib.hid HFIN.out.2.2⟩
 case rest=>
 obtain ⟨x,rfl,HX,HAH,HNW,HZ⟩:=hcut
 obtain ⟨T,p,hp,ok,hM,hl,hr,hT,hbx⟩:=HAH.out
 have hz:=HZ.out
 have HB:=Lib.hid hbx
 have q:wc.cell? ⟨w.heap.size,0,none⟩=some (.pointer p):=hbx.cell 0
 have hwn:(Lit.int .i64 b).wf=true:=i64_wf HBB.out.1 HBB.out.2
 have hrun:=run13 (m:=incMu kN1 b) hp ok rfl hT (fun i hi=>⟨by have:=hi.1;omega,hi.2.1⟩) hM (by omega) (size_flat ..) (mu_inc _ _ (by decide) hwn) (by rw [totM,totMs,show cntV zeroV=7 by decide +kernel];decide) (HL.out.nw HNW.out)
 rw [hr] at hrun
 have HRUN:=Lib.hid hrun
 have HM:=Lib.hid hM
 have HP:=Lib.hid hp
 have hlm:(entsT T).length≤1:=hl
 clear hp ok hM hl hr hT hbx HAH hrun hwn
 go_wp2_with fail
 refine HRUN.out.mono ?_
 rintro e w2 ⟨T2,p2,rfl,hp2,ok2,hT2,he2,-,hn2,hsame⟩
 have hb2:=hn2.blk HB.out
 have HN2:=Lib.hid (HNW.out.trans hn2)
 have HB2:=Lib.hid hb2
 have z2:=hn2.size
 obtain ⟨r,hrr⟩:∃ r,(if over13 x b then ((7:Int),entsT T) else (0,[(kN1,numV (x+b))]))=r:=⟨_,rfl⟩
 rw [hrr] at he2 hsame ⊢
 have HR:=Lib.hid hrr
 have HP2:=Lib.hid hp2
 have HO2:=Lib.hid ok2
 have HT2:=Lib.hid hT2
 have HE2:=Lib.hid he2
 have HSM:=Lib.hid hsame
 clear hp2 ok2 hT2 he2 hn2 hsame hb2 q hrr HRUN
 go_upto_region 7 with fail
 generalize hW3:World.alloc w2 _=w3
 obtain ⟨hx3,hb3,hz3⟩:=new_box hW3
 have HX3:=Lib.hid hx3
 have HB3:=Lib.hid hb3
 clear hW3 hx3 hb3
 go_cut [41] (fun v w'=>v=.bool (decide (over13 x b))∧w'=w3)
 case first=>
  have hxb:=HX.out
  have hbb:=HBB.out
  by_cases h1:0<b
  ·have g1:decide (0<b)=true:=decide_eq_true h1
   have g3:decide (b<0)=false:=decide_eq_false (by omega)
   have hw1:wrap64 (9223372036854775807 - b)=9223372036854775807 - b:=by unfold wrap64;omega
   by_cases h2:9223372036854775807 - b<x
   ·have g2:decide (9223372036854775807 - b<x)=true:=decide_eq_true h2
    have ho:decide (over13 x b)=true:=decide_eq_true (.inl ⟨h1,h2⟩)
    go_wp2_with fail
    go_meet
    exact ⟨by rw [ho],rfl⟩
   have g2:decide (9223372036854775807 - b<x)=false:=decide_eq_false h2
   have ho:decide (over13 x b)=false:=decide_eq_false (by unfold over13;omega)
   go_wp2_with fail
   go_meet
   exact ⟨by rw [ho],rfl⟩
  have g1:decide (0<b)=false:=decide_eq_false h1
  by_cases h3:b<0
  ·have g3:decide (b<0)=true:=decide_eq_true h3
   have hw1:wrap64 (-9223372036854775808 - b) = -9223372036854775808 - b:=by unfold wrap64;omega
   have ho:decide (over13 x b)=decide (x < -9223372036854775808 - b):=by
    by_cases h4:x < -9223372036854775808 - b
    ·rw [decide_eq_true h4,decide_eq_true (show over13 x b from .inr ⟨h3,h4⟩)]
    rw [decide_eq_false h4,decide_eq_false (by unfold over13;omega)]
   go_wp2_with fail
   go_meet
   exact ⟨by rw [ho],rfl⟩
  have g3:decide (b<0)=false:=decide_eq_false h3
  have ho:decide (over13 x b)=false:=decide_eq_false (by unfold over13;omega)
  go_wp2_with fail
  go_meet
  exact ⟨by rw [ho],rfl⟩
 case rest=>
 obtain ⟨hv,hw⟩:=hcut
 subst hv
 have hw2:=hw.symm
 subst hw2
 have hb32:=HB2.out.ext HX3.out
 by_cases ho:over13 x b
 ·rw [decide_eq_true ho]
  have hr:=HR.out
  rw [if_pos ho] at hr
  have hr1:r.1=7:=by rw [←hr]
  have hr2:r.2=entsT T:=by rw [←hr]
  rw [hr1]
  have hpe:p2=p:=by
   have h1:=HP2.out
   rw [HSM.out hr2,HP.out] at h1
   injection h1 with h1
   exact h1.symm
  subst hpe
  have q1:w3.cell? ⟨w.heap.size,0,none⟩=some (.pointer p2):=hb32.cell 0
  have q2:w3.cell? ⟨w2.heap.size,0,none⟩=some (.pointer p2):=HB3.out.cell 0
  clear hb32 ho hr hr1 hr2
  go_wp2_with fail
  refine (is_same w3 p2).mono ?_
  rintro e w4 ⟨rfl,hx4⟩
  have HN4:=Lib.hid (HN2.out.trans (Nw.of (HX3.out.trans hx4)))
  clear hx4 q1 q2
  go_wp2_with fail
  refine (known13 (HL.out.nw HN4.out)).mono ?_
  rintro e w5 ⟨rfl,hn5⟩
  have HN5:=Lib.hid (HN4.out.trans hn5)
  clear hn5
  go_wp2_with fail
  go_ret
  exact ⟨rfl,HN5.out⟩
 rw [decide_eq_false ho]
 have hr:=HR.out
 rw [if_neg ho] at hr
 have hr1:r.1=0:=by rw [←hr]
 have HR2:=Lib.hid (show r.2=[(kN1,numV (x+b))] by rw [←hr])
 rw [hr1]
 have hxs : -9223372036854775808≤x+b∧x+b≤9223372036854775807:=by have:=HX.out;have:=HBB.out;unfold over13 at ho;omega
 have hw1:IntKind.i64.wrap (x+b)=x+b:=by rw [IntKind.wrap_i64];omega
 have hwf:(Lit.int .i64 (x+b)).wf=true:=i64_wf hxs.1 hxs.2
 have HSS:=Lib.hid (show ∀ W,Nw w3 W→W.cell? ⟨w2.heap.size,0,none⟩=some (.pointer p2) from fun W hW=>(hW.blk HB3.out).cell 0)
 have HHAS:=Lib.hid (show ∀ W g,Nw w3 W→Blk W g 71 (flatE [⟨kN1,numV (x+b),Sl.none,Sl.none⟩]).toArray→Calls Tryz.prog 25 #[.agg #[.pointer p2],.slice (some ⟨g,0,none⟩) 1 1] W fun e w'=>e=.returned (.bool true)∧Ext W w' from fun W g hW hb=>by
  have es:=es_blk hb (fun z hz=>by rw [List.mem_singleton.1 hz];exact ⟨rv_num13 _ _ hwf,(show kN1.size≤maxLen by decide)⟩) (show 1≤1000000 by decide)
  have hlt:∀ i,Up (fun i=>w1.heap.size≤i∧i<wc.heap.size∧i≠w.heap.size) wc w2 i→i<w2.heap.size:=fun i hi=>hi.elim (fun h=>by have:=h.2.1;omega) fun h=>h.2
  have h:=has13_any (T:=T2) (fun b hb=>by have:=hlt b hb;have:=hW.size;have:=HX3.out.size;omega) ((HT2.out.agree (HX3.out.agree hlt)).agree (Nw.agree hW fun b hb=>by have:=hlt b hb;have:=HX3.out.size;omega)) HO2.out (by rw [HE2.out,HR2.out];exact (show 1≤1000000 by decide)) es
  rw [treeV,HP2.out,HE2.out,HR2.out] at h
  refine h.mono ?_
  rintro e w' ⟨rfl,hx⟩
  exact ⟨by rw [show ([⟨kN1,numV (x+b),Sl.none,Sl.none⟩]:List LE).map LE.ent=[(kN1,numV (x+b))] from rfl,sameE_refl],hx⟩)
 have HKN:=Lib.hid (fun W (hW:Nw w3 W)=>known13 (HL.out.nw ((HN2.out.trans (Nw.of HX3.out)).trans hW)))
 have HNF:=Lib.hid (HN2.out.trans (Nw.of HX3.out))
 clear hb32 ho hr hr1
 go_wp2_with fail
 refine wp_region_held_drew (S:=(fun w'=>Nw w3 w')) (by kernel_rfl) ((Nw.of ((Ext.refl w3).drew))) (fun hHeld=>?_)
 refine heldT 0 (some 52) HSS hHeld ?_
 refine heldT 1 (some 53) HSS hHeld ?_
 refine heldT 2 (some 54) HSS hHeld ?_
 refine heldT 3 (some 55) HSS hHeld ?_
 refine heldT 4 (some 56) HSS hHeld ?_
 refine heldT 5 (some 57) HSS hHeld ?_
 refine heldT 6 (some 58) HSS hHeld ?_
 refine held_call (i:=7) (by kernel_rfl) rfl (by rfl) (fun K hK=>?_)
 go_simp
 (refine (num13_any _ (x+b)).mono ?_;rintro e wa ⟨rfl,hxa⟩)
 refine hK.out _ _ (hHeld.trans (Nw.of hxa)) (fun hHeld=>?_)
 clear hK K
 try simp only [Act.put,List.setIfInBounds_toArray,List.set_cons_zero,List.set_cons_succ]
 refine heldT 8 (some 60) HSS hHeld ?_
 refine held_call (i:=9) (by kernel_rfl) rfl (by rfl) (fun K hK=>?_)
 go_simp
 (generalize hwr:World.alloc _ _=wr;obtain ⟨hxr,hbr,zr⟩:=new_box hwr;have HBR:=Lib.hid hbr;clear hwr hbr)
 refine hK.out _ _ (hHeld.trans (Nw.of hxr)) (fun hHeld=>?_)
 clear hK K
 try simp only [Act.put,List.setIfInBounds_toArray,List.set_cons_zero,List.set_cons_succ]
 refine held_call (i:=10) (by kernel_rfl) rfl (by rfl) (fun K hK=>?_)
 go_simp
 (refine (HHAS.out _ _ hHeld HBR.out).mono ?_;rintro e wd ⟨rfl,hxd⟩)
 refine hK.out _ _ (hHeld.trans (Nw.of hxd)) (fun hHeld=>?_)
 clear hK K
 try simp only [Act.put,List.setIfInBounds_toArray,List.set_cons_zero,List.set_cons_succ]
 refine heldT 11 (some 63) HSS hHeld ?_
 refine heldT 12 (some 64) HSS hHeld ?_
 refine held_call (i:=13) (by kernel_rfl) rfl (by rfl) (fun K hK=>?_)
 go_simp
 (refine (HKN.out _ hHeld).mono ?_;rintro e we ⟨rfl,hne⟩)
 refine hK.out _ _ (hHeld.trans hne) (fun hHeld=>?_)
 clear hK K
 try simp only [Act.put,List.setIfInBounds_toArray,List.set_cons_zero,List.set_cons_succ]
 refine heldT 14 (some 66) HSS hHeld ?_
 refine heldT 15 (some 6) HSS hHeld ?_
 refine wpAnyH_done (by kernel_rfl) ?_ _
 go_wp2_with fail
 go_ret
 exact ⟨rfl,HNF.out.trans hHeld⟩
theorem adds13_w {a b:Int} {q:Bool} {w:World} (ha:(Lit.int .i64 a).wf=true) (hb:(Lit.int .i64 b).wf=true) (hL:LibQ w) :
  Calls Tryz.prog 6 #[.int .i64 a,.int .i64 b,.bool q] w fun e w'=>e=.returned (.bool true)∧Nw w w':=adds13 (i64_b ha) (i64_b hb) hL
end Go.Proofs.YtkhdiakpdafcdaaGreatDoor
