/- What the theorem needs of the texts LeadsL: no condition of its own. -/
import Derived.Test.YtdiecmkpbadgjaaGreatDoorPqp
set_option linter.unusedVariables false
set_option linter.unusedSimpArgs false
set_option linter.unnecessarySimpa false
set_option maxRecDepth 100000
set_option maxHeartbeats 4000000
namespace Go.Proofs.YtdiecmkpbadgjaaGreatDoor
open Go.Proofs.Tryz
open Go.RowKit Go.Maps Go.Shelf
theorem QzQ:∀{l:List Chg} {es x:List Ent},apC es l=some x->x.length<=es.length+l.length
 |[],es,x,h=>by rw[apC]at h;cases h;omega
 | c :: r,es,x,h=>by
   rw[apC]at h;split at h
   ·have h1:=QzQ h
    have h2:=QzK es c;simp only[List.length_cons];omega
   cases h
variable{w:World}
theorem leadsL{s0 s1 sa:Sl}{la lb:List LE}{ms:List Nm}{last:Int}(hs:ES w (Lt w) s0 la)(hc:∀x∈la,QcI x.v<=1100000)(i1:ES w (Lt w) s1 lb)(g8:∀x∈lb,QcI x.v<=1100000)(hm:Qa7 w (Lt w) sa ms)(ht:Qcc (Qe6 ms)<=1048576)(hw:(Lit.int .u64 last).wf=true)(hL:Qb4 w) :
  Calls prog 9 #[.slice s0.a la.length s0.c,.slice s1.a lb.length s1.c,.slice sa.a ms.length sa.c,.int .u64 last] w λe w'=>e=.returned (.bool true)/\Nw w w':=by
 have n7:=hL.lib.big;obtain⟨j7,HL,HS,HC,HM,HT⟩:=Yg (λW (hW:Nw w W)=>Qpz (hL.nw hW)) hL (And.intro hs i1) (And.intro hc g8) hm ht;clear hL hs hc i1 g8 hm ht hw;go_in;have f4:(decide ((40:Int)<(la.length:Int))=true\/(decide ((40:Int)<(la.length:Int))=false/\decide ((40:Int)<(lb.length:Int))=true)\/(decide ((40:Int)<(la.length:Int))=false/\decide ((40:Int)<(lb.length:Int))=false/\decide ((30:Int)<(ms.length:Int))=true))\/(¬40<la.length/\¬40<lb.length/\¬30<ms.length):=by
  by_cases h1:40<la.length
  .exact .inl (.inl (ey oM))
  by_cases h2:40<lb.length
  .exact .inl (.inr (.inl ⟨decide_eq_false oM,ey oM⟩))
  by_cases h3:30<ms.length
  .exact .inl (.inr (.inr ⟨decide_eq_false oM,ew oM,ey oM⟩))
  exact .inr ⟨h1,h2,h3⟩
 rcases f4 with f4 |⟨o9,o4,o3⟩
 ·rcases f4 with l1 | ⟨l1,l2⟩ | ⟨l1,l2,l3⟩
  all_goals (
   go_wp2_with fail;refine(j7.o w (fW _ _)).mono ?_;rintro e w1 ⟨rfl,hn⟩;have HN:=hY hn;clear hn;go_wp2_with fail;go_ret;exact⟨rfl,HN.o⟩)
 have l1:decide ((40:Int)<(la.length:Int))=false:=ew oM;have l2:decide ((40:Int)<(lb.length:Int))=false:=ew oM;have l3:decide ((30:Int)<(ms.length:Int))=false:=ew oM;go_wp2_with fail;refine(Qwq HS.o.1 oM HC.o.1).mono ?_;rintro e w1 ⟨Ma,sx,xs,Ha,rfl,a5⟩;obtain⟨Ea,d3,n6,-,a2⟩:=QzN a5 HS.o.1 oM;have b6:=a5.nw;obtain⟨e2,i5,e1⟩:=Yc b6 d3 a2;have d7:=(HS.o.2.agree (fY b6 λb I=>I)).mono (G:=Lt w1) λb I=>ab I b6.size
 have e8:=hY d7;clear a5 d3 a2 b6 d7 l1 l2 l3;go_wp2_with fail;refine(Qwq e8.o oM HC.o.2).mono ?_;rintro e w2 ⟨Mb,sy,ys,Hb,rfl,a7⟩;obtain⟨Eb,d5,n8,-,a0⟩:=QzN a7 e8.o oM;obtain⟨b3,i6,d8⟩:=Yc a7.nw d5 a0;clear a7 d5 a0 e8 HS HC;go_wp2_with fail;refine(e1.o w2 b3.o).mono ?_;rintro e w3 ⟨T1,p1,rfl,j8,j1,b9,g9,b8⟩;have z1:=e2.o.size;have z2:=b3.o.size;have z3:=b8.size;have g7:=hY (e2.o.trans (b3.o.trans (fT b8)));have i4:Qey w3 (In w2.heap.size w3.heap.size) (Lt w3) T1 sa ms:=
  ⟨g9,λb I=>⟨by have:=I.1;omega,I.2⟩,j1,by rw[b9];exact i5.o,HM.o.nw g7.o,λb I=>I,HL.o.nw g7.o,by rw[b9];omega,by have:=HT.o;omega⟩
 have f1:=Qhv i4;rw[Qao,j8,b9]at f1;obtain⟨g5,f9⟩:=Yb f1 b8;clear i4 f1 j8 j1 b9 g9 b8 e1;go_wp2_with fail;refine g5.o.mono ?_;rintro e w4 ⟨T2,rfl,i2,g3,g4,e0,f3,-⟩;obtain⟨p2,e6⟩:=Qaj T2;rw[Qao,e6];have z4:=f3.size;have o8:(Qaa T2).length<=2000:=by
  have:=QeN (Qe6 ms) Ea ms.length;rw[aV (by rw[ar];exact ao _),<-g4]at this;omega
 obtain⟨i3,j5,j0,k4,l9⟩:=Yf e6 i2 g3 e0 f3;clear e6 i2 g3 g4 e0 f3 g5;go_upto_region 6 with fail;generalize i0:World.alloc w4 _=w5;obtain⟨c0,f0,o7⟩:=Qb2 i0;have a8:Nw w2 w5:=(fT f9.o).trans (l9.o.trans (fT c0));have c8:Nw w w5:=e2.o.trans (b3.o.trans a8);have z5:=c0.size;have c9:IsT w5 (λb=>w2<=b/\b<w4) T2:=(j0.o.agree (c0.agree λb I=>I.elim (λe=>by have:=e.2;omega) λe=>e.2)).mono λb I=>I.elim (λe=>⟨e.1,by have:=e.2;omega⟩) λe=>⟨by have:=e.1;omega,e.2⟩
 obtain⟨b0,l0,k1,j3⟩:=Ye c9 f0 c8 (λW (hW:Nw w5 W)=>d8.o W (a8.trans hW));obtain⟨j6,Z⟩:=Yb (λW (hW:Nw w5 W) (U:RT) (q:Option Addr) (FU:Nat->Prop) (hq:QaK U=.pointer q) (e7:OkR U) (a9:Qaa U=Eb) (hU:IsT W FU U) (hF:∀b,FU b->6<=b/\b<W.heap.size)=>QzZ (last:=last) (s:=sa) (ms:=ms) i3.o j5.o (b0.o.agree (fY hW λb I=>by have:=I.2;omega)) (λb I=>by have:=I.2;have:=hW.size;omega) oM hq (show Qey W FU (Lt W) U sa ms from⟨hU,hF,e7,by rw[a9];exact i6.o,HM.o.nw (c8.trans hW),λb I=>I,HL.o.nw (c8.trans hW),by rw[a9];omega,by have:=HT.o;omega⟩)) (show ∀W,Nw w5 W->W.cell? ⟨w4,0,none⟩=some (.pointer p2) fromλW hW=>(Nw.blk hW f0).cell 0);have n4:w5.heap.size<=w5.drew.heap.size:=ao _;have n9:w5.drew.heap.size<=w5.heap.size:=ao _;clear i0 c0 f0 a8 c8 c9 d8 f9 j0;refine Qz4 (λw' (x:Nat × Nat × Sl × Sl)=>QAb w5.heap.size x.1 x.2.1 w' (Qaa T2) Eb (QbK last ms) x.2.2.1 x.2.2.2/\Nw w5 w') [47,48,49,50,51,52,53,54,55,56] (λx=>[(14,.pointer (some ⟨x.1,0,none⟩)),(15,.slice x.2.2.1.a (QbK last ms).length x.2.2.1.c),(16,.slice x.2.2.2.a x.2.1 x.2.2.2.c)]) ?_ ?_
 ·skip
  refine eF (S:=(λw'=>Nw w5 w')) kM ((fT ((fQ w5).drew))) (λhHeld=>?_);refine Qaf 0 (some 48) Z hHeld ?_;refine Qaf 1 (some 49) Z hHeld ?_;refine Qaf 3 (some 51) Z hHeld ?_;refine Qaf 4 (some 52) Z hHeld ?_;have pm:=Tag.mk 0;have pa:=Tag.mk 1000
  repeat' (first
   |(have:=(pm:Tag 0);have:=(pa:Tag 1000);refine Quj 2 10 (λK tg hK=>?_) (λK tg hK=>?_))
   |(have:=(pm:Tag 0);have:=(pa:Tag 1001);refine Qrr 2 (λK tg hK=>?_))
   |(have:=(pm:Tag 1);have:=(pa:Tag 1000);refine Quj 5 10 (λK tg hK=>?_) (λK tg hK=>?_))
   |(have:=(pm:Tag 1);have:=(pa:Tag 1001);refine Qrr 5 (λK tg hK=>?_))
   |(have:=(pm:Tag 2);have:=(pa:Tag 1000);refine Qrr 10 (λK tg hK=>?_))
   |(have:=(pm:Tag 2);have:=(pa:Tag 1001);refine Qrr 11 (λK tg hK=>?_))
   | (have:=(tg:Tag 2)
      clear this tg;clear pm;have pm:=Tag.mk 1;go_simp
      (have s7:=hHeld.size;refine(j3.o _ hHeld).mono ?_;rintro e wc ⟨U,q,rfl,hq,e7,a9,hU,c1⟩;have zc:=c1.size;have HU:=hY hU;(try((first|have N:=hY (N.o.ext c1)|have N:=hY (N.o.ext (((fQ _).drew).trans c1)));have c6:World.cell? _ ⟨_,0,none⟩=some (.pointer none):=N.o.cell 0;have f6:=N.o.frozen 0));clear hU)
      refine hK.out _ _ (hHeld.trans (fT c1)) (λhHeld=>?_);clear hK K
      try go_frame)
   | (have:=(tg:Tag 5)
      clear this tg;clear pm;have pm:=Tag.mk 2;go_simp
      (have s8:=hHeld.size;refine(j6.o _ hHeld U q _ hq e7 a9 (by first|exact HU.o|exact Qz8 HU.o λb I=>I.2) (λb I=>⟨by have:=I.1;omega,by have:=I.2;omega⟩)).mono ?_;rintro e wd ⟨V,p3,sL,sC,cs,rfl,b7,b5,c2,c7,hV,d6,d4,a6,b4⟩;have zd:=b4.size;have HV:=hY hV;have HR:=hY d6;have e3:=hY a6;have k7:=hY d4;(try((first|have N:=hY (b4.blk N.o)|have N:=hY (((fT ((fQ _).drew)).trans b4).blk N.o));have c6:World.cell? _ ⟨_,0,none⟩=some (.pointer none):=N.o.cell 0;have f6:=N.o.frozen 0));clear hV d6 a6 d4)
      refine hK.out _ _ (hHeld.trans b4) (λhHeld=>?_);clear hK K
      try go_frame
      refine Qaf 6 (some 47) Z hHeld ?_;refine Qaf 7 (some 54) Z hHeld ?_;refine Qaf 8 (some 55) Z hHeld ?_;refine Qaf 9 (some 56) Z hHeld ?_)
   | (have:=(tg:Tag 10)
      clear this tg;clear pa;have pa:=Tag.mk 1001;go_simp
      (have s9:=hHeld.size;generalize i7:World.alloc _ _=wz;obtain⟨a4,c4,zz⟩:=Qb2 i7;have o0:wz.heap.size<=wz.drew.heap.size:=ao _;have p4:wz.drew.heap.size<=wz.heap.size:=ao _;have N:=hY c4;have c6:World.cell? _ ⟨_,0,none⟩=some (.pointer none):=c4.cell 0;have f6:=c4.frozen 0;(try(have HU:=hY (HU.o.agree (a4.agree λb I=>I.2))));(try(have HV:=hY (HV.o.agree (a4.agree λb I=>I.elim (λe=>by have:=e.2;omega) λe=>e.2));have HR:=hY (HR.o.agree (a4.agree λb I=>I.2));have e3:=hY (e3.o.Qvh (a4.agree λb I=>I.2))));clear i7 c4)
      refine hK.out _ _ ((by first|exact hHeld.trans (fT a4)|exact(fT a4).trans (fT ((fQ wz).drew)))) (λhHeld=>?_);clear hK K
      try go_frame)
   | (have:=(tg:Tag 11)
      clear this tg;clear pm;have pm:=Tag.mk 3;go_simp
      (have HN:=hY hHeld)
      refine hK.out _ _ (QpW hHeld oM _) (λhHeld=>?_);clear hK K
      try go_frame
      refine Qaf 12 (some 15) Z hHeld ?_;refine Qaf 13 (some 16) Z hHeld ?_)
   | (have:=(pm:Tag 3);have:=(pa:Tag 1001);refine eJ kM ?_ _
      simp only[QnK,List.map_cons,List.map_nil,List.cons_append,List.nil_append,List.setIfInBounds_toArray,List.set_cons_zero,List.set_cons_succ];have f5:=λh1 h2=>Qz9 (n:=w5) (E:=Qaa T2) (U:=Eb) b7 b5 (by rw[c2,a9]) c7 HV.o HR.o k7.o e3.o N.o oM h1 h2
      have f5:=f5 (λi hi=>hi.elim (λe=>by have:=e.1;have:=e.2;omega) λe=>by have:=e.1;have:=e.2;omega) (λi e=>by have:=e.1;have:=e.2;omega);refine QrX ⟨(_,cs.length,sL,sC),⟨f5,hHeld⟩,kM,?_⟩;simp only[QnK,List.map_cons,List.map_nil,List.cons_append,List.nil_append,List.setIfInBounds_toArray,List.set_cons_zero,List.set_cons_succ]
      kernel_rfl))
 rintro w6 ⟨B,m,sL,sC⟩ vs ⟨⟨⟨V,p3,b7,b5,hV,c2,c7,f8,cs,rfl,c3,a6⟩,-,l7⟩,a3⟩;simp only[QnK,List.map_cons,List.map_nil,List.cons_append,List.nil_append,List.setIfInBounds_toArray,List.set_cons_zero,List.set_cons_succ];have z6:=a3.size;obtain⟨x,hx,-,j2,-⟩:=QzT k4.o.sorted c7.sorted;have o1:(Qaa V).length<=2000:=by
  have h1:=QeN (Qe6 (QbK last ms)) Eb ms.length;have h2:=QgH last ms;rw[aV (by rw[ar];exact h2),<-c2]at h1;omega
 have p0:cs.length<=4000:=by
  have h1:=congrArg List.length c3;rw[ar]at h1;have:=Qia (Qaa T2) (Qaa V);omega
 have i9:=hY (show Calls prog 27 #[.agg #[.pointer p2],.slice sC.a cs.length sC.c] w6 λe w'=>∃T p,e=.returned (.tuple #[.agg #[.pointer p],.int .i64 0])/\QaK T=.pointer p/\OkR T/\Qaa T=x/\IsT w' (Lt w') T/\Ext w6 w' from by
  have h:=QzR (w:=w6) (T:=T2) (s:=sC) (cs:=cs) (λb (I:w2<=b/\b<w4)=>by have:=I.2;omega) (b0.o.agree (fY a3 λb I=>by have:=I.2;omega)) j5.o (a6.Quu λb I=>I.2.1) oM;rw[Qao,i3.o,c3,hx]at h;refine h.mono ?_;rintro e w' ⟨T,rfl,h1,h2,h3,h4⟩;obtain⟨p,hp⟩:=Qaj T;exact⟨T,p,by rw[Qao,hp]<;>rfl,hp,h1,h3,h2.mono λb I=>I.elim (λe=>by have:=e.2;have:=h4.size;show b<_;omega) λe=>e.2,h4⟩)
 have l4:w6.cell? ⟨w4,0,none⟩=some (.pointer p2):=Z.o w6 a3;obtain⟨k0,k6,l5,k9,k3,j9⟩:=Yg b7 b5 hV f8 j2 (k1.o.trans a3);have o6:x.length<=1000000:=by
  have h1:=QzQ hx;rw[<-c3,ar]at h1;omega
 clear b7 b5 hV c2 c7 f8 c3 a6 l7 a3 hx j2 j6 j3 Z b0 l0;go_wp2_with fail;refine i9.o.mono ?_;rintro e w7 ⟨T,p,rfl,hp,ok,he,hT,g0⟩;obtain⟨HP,HO,HE,l6,l8⟩:=Yf hp ok he hT g0;clear hp ok he hT g0 i9 l4;go_upto_region 8 with fail;generalize j4:World.alloc w7 _=w8;obtain⟨f2,i8,o5⟩:=Qb2 j4;have a1:=l8.o.trans f2;have k8:w8.cell? ⟨B,0,none⟩=some (.pointer p3):=(k9.o.ext a1).cell 0;have k5:w8.cell? ⟨w7,0,none⟩=some (.pointer p):=i8.cell 0;have e4:=hY (show Calls prog 26 #[.agg #[.pointer p],.agg #[.pointer p3]] w8 λe w'=>e=.returned (.bool true)/\Ext w8 w' from by
  have h:=QzM (λb (I:b<w7)=>oM) (λb (I:w5<=b/\b<w6/\b≠B)=>by have:=I.2.1;have:=a1.size;omega) (l6.o.agree (f2.agree λb I=>I)) (l5.o.agree (a1.agree λb I=>I.2.1)) HO.o k6.o (by rw[HE.o];omega) oM;rw[Qao,Qao,HP.o,k0.o,HE.o,k3.o]at h;exact h)
 have k2:=hY (j9.o.trans (fT a1));clear j4 f2 i8 a1;go_wp2_with fail;refine e4.o.mono ?_;rintro e w9 ⟨rfl,g6⟩;have f7:=hY (k2.o.trans (fT g6));clear g6 k8 k5;go_wp2_with fail;refine(j7.o w9 f7.o).mono ?_;rintro e o2 ⟨rfl,d0⟩;have n2:=hY (f7.o.trans d0);clear d0;go_wp2_with fail;go_ret;exact⟨rfl,n2.o⟩
end Go.Proofs.YtdiecmkpbadgjaaGreatDoor
