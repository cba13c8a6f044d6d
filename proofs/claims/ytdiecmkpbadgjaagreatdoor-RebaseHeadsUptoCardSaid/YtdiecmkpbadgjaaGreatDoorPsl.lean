/- Steps to the theorem. -/
import Derived.Test.YtdiecmkpbadgjaaGreatDoorPsj
import Derived.Test.YtdiecmkpbadgjaaGreatDoorPsk
set_option linter.all false
set_option maxRecDepth 100000
set_option maxHeartbeats 4000000
namespace Go.Proofs.YtdiecmkpbadgjaaGreatDoor
open Go.Proofs.Tryz
open Go.RowKit Go.Maps Go.Shelf
section
variable{w:World}{B:Nat}
variable{F:Nat->Prop}{s s':Sl}
variable{w':World}
variable{cs:List Value}
variable{T:RT}
theorem Qpz(hL:Qb4 w):Calls prog 10 #[] w λe w'=>e=.returned true/\Nw w w':=by
 obtain⟨i0,hi,r4,r0,w8⟩:=eR Tryz.Qcz;have t6:=hL.lib.big;have HL:=hY hL;clear hL;go_in;go_upto_region 2 with fail;generalize k1:World.alloc w _=w1;obtain⟨i9,g0,t5⟩:=Qb2 k1;obtain⟨r8,q7⟩:=Yb (gj i9) g0;have t7:w1.heap.size<=w1.drew.heap.size:=ao _;have t8:w1.drew.heap.size<=w1.heap.size:=ao _;have i2:=hY (show ∀W,Nw w1 W->W.cell? w=some (.pointer none) fromλW N=>(N.blk g0).cell 0);clear k1 i9 g0;refine Qss (λw' b _=>QtY (QkP 5) w1.heap.size w' b/\Nw w1 w') [11,12,13] (λb _=>[(2,.pointer (some b))]) ?_ ?_
 ·skip
  refine eO (S:=(λw'=>Nw w1 w')) kM ((gj ((gh w1).drew))) (λhHeld=>?_);refine Qaf 0 (some 11) i2 hHeld ?_;have pm:=Tag.mk 0;have pa:=Tag.mk 1000
  repeat' (first
   |(have:=(pm:Tag 0);have:=(pa:Tag 1000);refine Quj 1 3 (λK tg hK=>?_) (λK tg hK=>?_))
   |(have:=(pm:Tag 0);have:=(pa:Tag 1001);refine Qrr 1 (λK tg hK=>?_))
   |(have:=(pm:Tag 1);have:=(pa:Tag 1000);refine Quj 2 3 (λK tg hK=>?_) (λK tg hK=>?_))
   |(have:=(pm:Tag 1);have:=(pa:Tag 1001);refine Qrr 2 (λK tg hK=>?_))
   |(have:=(pm:Tag 2);have:=(pa:Tag 1000);refine Qrr 3 (λK tg hK=>?_))
   |(have:=(pm:Tag 2);have:=(pa:Tag 1001);refine Qrr 4 (λK tg hK=>?_))
   | (have:=(tg:Tag 1)
      clear this tg;clear pm;have pm:=Tag.mk 1;go_simp
      (refine(Qj6 _ 5).mono ?_;rintro e wa ⟨rfl,e0⟩;have za:=e0.size;(first|have a3:=hY (a3.o.ext e0)|have a3:=hY (a3.o.ext (((gh _).drew).trans e0))|skip))
      refine hK.out _ _ (hHeld.trans (gj e0)) (λhHeld=>?_);clear hK K
      try go_frame)
   | (have:=(tg:Tag 2)
      clear this tg;clear pm;have pm:=Tag.mk 2;go_simp
      (have s7:=hHeld.size;refine(Qsb (k:=kN) (n:=5) oN oN).mono ?_;rintro e wc ⟨T,p,rfl,hp,ok,he,hT,b0⟩;have zc:=b0.size;have HT:=hY hT;(try(have a3:=hY (a3.o.ext b0);have c6:World.cell? _ _=some (.pointer none):=a3.o.cell 0;have f6:=a3.o.frozen 0));clear hT)
      refine hK.out _ _ (hHeld.trans (gj b0)) (λhHeld=>?_);clear hK K
      try go_frame)
   | (have:=(tg:Tag 3)
      clear this tg;clear pa;have pa:=Tag.mk 1001;go_simp
      (have s8:=hHeld.size;generalize n9:World.alloc _ _=wz;obtain⟨g7,d8,zz⟩:=Qb2 n9;have zd:wz.heap.size<=wz.drew.heap.size:=ao _;have a3:=hY d8;have c6:World.cell? _ _=some (.pointer none):=d8.cell 0;have f6:=d8.frozen 0;(try(have HT:=hY (HT.o.agree (g7.agree λb I=>I.2))));clear n9 d8)
      refine hK.out _ _ ((by first|exact hHeld.trans (gj g7)|exact(gj g7).trans (gj ((gh wz).drew)))) (λhHeld=>?_);clear hK K
      try go_frame)
   | (have:=(tg:Tag 4)
      clear this tg;clear pm;have pm:=Tag.mk 3;go_simp
      (have HN:=hY hHeld)
      refine hK.out _ _ (QpW hHeld oM _) (λhHeld=>?_);clear hK K
      try go_frame)
   | (have:=(pm:Tag 3);have:=(pa:Tag 1001);refine eV kM ?_ _
      simp only[QnK,List.map_cons,List.map_nil,List.cons_append,List.nil_append,List.setIfInBounds_toArray,List.set_cons_zero,List.set_cons_succ];refine QrX ⟨_,.bool true,⟨Qq6 hp ok he HT.o a3.o oM (λi hi=>⟨by have:=hi.1;omega,by have:=hi.2;omega,by have:=hi.1;have:=hi.2;omega⟩),hHeld⟩,kM,?_⟩;simp only[QnK,List.map_cons,List.map_nil,List.cons_append,List.nil_append,List.setIfInBounds_toArray,List.set_cons_zero,List.set_cons_succ]
      kernel_rfl))
 intro w2 b2 u2 vs t2;simp only[QnK,List.map_cons,List.map_nil,List.cons_append,List.nil_append,List.setIfInBounds_toArray,List.set_cons_zero,List.set_cons_succ];obtain⟨⟨T1,p1,i7,i3,o9,j0,f3,x2⟩,d0⟩:=t2;have z2:=d0.size;obtain⟨o2,t3,d7,l0,o5,t4,e6⟩:=Yh i7 i3 o9 j0 f3 (r8.o.trans d0) d0;clear i7 i3 o9 j0 f3 d0 i2;go_upto_region 4 with(first |(refine Qa4 rfl 37 #[(0,.const (.int .i64 3)),(1,.const (.string kN)),(3,.const (.int .i64 1))] rfl (Qa2 muI yS) QoH ?_) |(refine QaR rfl rfl rfl muI yS (w0:=w2) (b:=w2) rfl ((gh w2).alloc _ _) (gm w2 _ _) rfl rfl rfl ?_;intro w3 a9 a8;have l9:=hY a9;have g5:=hY (gC a8);clear a9 a8));have K0:True:=trivial;go_upto_region 5 with(first |(have _k:=K0;refine Qah rfl (.tmp 3) rfl w2.heap.size 0 rfl muI yS g5.o ?_;clear _k K0;have K1:True:=trivial) |(have _k:=K1;refine Qa4 rfl 39 #[(0,.const (.int .u64 1)),(1,.tmp 15)] rfl (Qh5 ⟨1,muI⟩ yS) (Qh6 1 muI yS) ?_;clear _k K1;have K2:True:=trivial) |(have _k:=K2;refine Qa4 rfl 37 #[(0,.const (.int .i64 2)),(1,.const (.string kN))] rfl (Qa2 muD yS) QoG ?_;clear _k K2;have K3:True:=trivial) |(have _k:=K3;refine Qa4 rfl 39 #[(0,.const (.int .u64 2)),(1,.tmp 17)] rfl (Qh5 ⟨2,muD⟩ yS) (Qh6 2 muD yS) ?_;clear _k K3;have K4:True:=trivial) |(have _k:=K4;refine Qah rfl (.tmp 3) rfl w2.heap.size 0 rfl muI yS g5.o ?_;clear _k K4;have K5:True:=trivial) |(have _k:=K5;refine Qa4 rfl 39 #[(0,.const (.int .u64 3)),(1,.tmp 19)] rfl (Qh5 ⟨3,muI⟩ yS) (Qh6 3 muI yS) ?_;clear _k K5;have K6:True:=trivial) |(have _k:=K6;refine QbT rfl 23 39 3 #[(0,.tmp 16),(1,.tmp 18),(2,.tmp 20)] rfl [QqR ⟨1,muI⟩ yS,QqR ⟨2,muD⟩ yS,QqR ⟨3,muI⟩ yS] 20 underlying23 hi r0 r4 oN rfl oN oN (λv hv=>by simp only[List.mem_cons,List.not_mem_nil,or_false]at hv;rcases hv with rfl|rfl|rfl<;>rfl) rfl QsZ rfl ?_;clear _k K6;have K7:True:=trivial));generalize k7:World.alloc _ _=w4;obtain⟨k8,n2,x1⟩:=Qb2 k7;have Z:Qa7 w4 (Lt w4) ⟨some w3,3⟩ l24:=Quw (l:=QvG) n2 (λp hp=>by
  simp only[List.mem_cons,List.not_mem_nil,or_false]at hp;rcases hp with rfl|rfl|rfl
  .exact ⟨QpQ _ _ oN oN,oN⟩
  .exact ⟨Quv _ _ oN,oN⟩
  exact⟨QpQ _ _ oN oN,oN⟩) oN
 have a2:Qa7 w4 (Lt w4) ⟨some ⟨w3,20,none⟩,2⟩ (l24.drop 1):=Z.drop (k:=1) oN (by simp[Qbc]) rfl;have a1:Nw w2 w4:=(gj l9.o).trans (gj k8);have v9:=a1.size;have b5:=a1.blk o5.o;have f1:=l0.o.agree (gp a1 λb I=>I.2.1);obtain⟨s4,d3,b9,i5,e1⟩:=Yf Z a2 (t4.o.trans a1) (e6.o.trans a1) b5;have d4:∀W,Nw w4 W->Qey W (λi=>w1<=i/\i<w2/\i≠b2) (Lt W) T1 ⟨some w3,3⟩ l24:=λW N=>
  Qvx (f1.agree (gp N λb I=>by have:=I.2.1;omega)) (λb I=>⟨by have:=I.1;omega,by have:=I.2.1;have:=N.size;omega⟩) t3.o (by rw[d7.o];exact Qty oN oN) (by rw[d7.o];exact ao 1) (Z.nw N) oN QuV (HL.o.nw (b9.o.trans N))
 have x8:=hY d4;have c2:w4.cell? b2=some (.pointer p1):=b5.cell 0;have c8:=hY (show Calls prog 18 #[.agg #[.pointer p1],.slice (some w3) 3 3] w4 λe w'=>∃T' p',e=.returned (.agg #[.pointer p'])/\QaK T'=.pointer p'/\OkR T'/\IsT w' (Up (λi=>w1<=i/\i<w2/\i≠b2) w4 w') T'/\Qaa T'=QkP 1/\Nw w4 w' from by
  have h:=Qhv (d4 w4 (gu _ _));rw[Qao,o2.o,d7.o,show Qe6 l24=lK from rfl,Qui]at h;refine h.mono ?_;rintro e w' ⟨T',rfl,h1,h2,h3,h4,h5,-⟩;obtain⟨p',l7⟩:=Qaj T';exact⟨T',p',by rw[Qao,l7],l7,h1,h2,h3,h5⟩)
 have f7:=hY (show ∀W,Nw w4 W->Calls prog 20 #[.agg #[.pointer p1],.slice (some w3) 3 3] W λe w'=>∃sc:Sl,e=.returned (.slice sc.a 3 sc.c)/\Rd w' (In W.heap.size w'.heap.size) 1 sc 3 ([0,0,0].map (.int .i64))/\Nw W w' fromλW N=>by
  have h:=Qgp (d4 W N) oN;rw[Qao,o2.o,d7.o,show Qe6 l24=lK from rfl,Qui]at h;exact h)
 have e3:∀W,Nw w4 W->Qey W (λ_=>False) (Lt W) none ⟨some ⟨w3,20,none⟩,2⟩ (l24.drop 1):=λW N=>
  Qvx trivial (λb I=>I.elim) trivial OkM.nil (aA _) (a2.nw N) oN (by decide +kernel) (HL.o.nw (b9.o.trans N))
 have c9:∀W,Nw w4 W->Qey W (λ_=>False) (Lt W) none ⟨some w3,3⟩ l24:=λW N=>
  Qvx trivial (λb I=>I.elim) trivial OkM.nil (aA _) (Z.nw N) oN QuV (HL.o.nw (b9.o.trans N))
 have e4:=hY c9;have c3:=hY (show ∀W,Nw w4 W->Calls prog 20 #[.agg #[.pointer none],.slice (some ⟨w3,20,none⟩) 2 2] W λe w'=>∃sc:Sl,e=.returned (.slice sc.a 2 sc.c)/\Rd w' (In W.heap.size w'.heap.size) 1 sc 2 ([12,0].map (.int .i64))/\Nw W w' fromλW N=>by
  have h:=Qgp (e3 W N) oN;rw[show Qe6 (l24.drop 1)=lK.drop 1 from rfl,show Qaa none=[]from rfl,QsB]at h;exact h)
 clear k7 k8 n2 Z a2 a1 b5 f1 d4 e3 c9 g5 l9 o5 l0 e6;go_wp2_with fail;refine c8.o.mono ?_;rintro e w5 ⟨T2,p2,rfl,q0,l4,p8,l1,k4⟩;obtain⟨o0,j5,g9,r2,l5⟩:=Yf q0 l4 l1 p8 k4;clear q0 l4 l1 p8 k4 c2 c8;go_upto_region 6 with fail;generalize j3:World.alloc _ _=w6;obtain⟨f9,o7,x0⟩:=Qb2 j3;have a7:Nw w4 w6:=l5.o.trans (gj f9);obtain⟨f5,g6⟩:=Yb a7 o7;have x4:=l5.o.size;have e8:=hY (r2.o.agree (f9.agree λb I=>I.elim (λe=>by have:=e.2.1;omega) λe=>e.2));have j9:=(b9.o.trans a7);have a4:=hY (show ∀W,Nw w6 W->W.cell? w=some (.pointer none) fromλW N=>(Nw.blk ((i5.o.trans a7).trans N) q7.o).cell 0);clear j3 f9 o7 a7 j9;refine eO (S:=(λw'=>Nw w6 w')) kM ((gj ((gh w6).drew))) (λhHeld=>?_);refine Qaf 0 (some 25) a4 hHeld ?_;refine Qaf 1 (some 26) a4 hHeld ?_;refine Qaf 2 (some 27) a4 hHeld ?_;refine Qac (i:=3) kM rfl (by rfl) (λK hK=>?_);go_simp
 (refine(c3.o _ (f5.o.trans hHeld)).mono ?_;rintro e wa ⟨sc,rfl,k9,q6⟩;have f4:=hY k9;have p9:=hY q6;have r7:=hY hHeld;clear k9 q6)
 refine hK.out _ _ (hHeld.trans p9.o) (λhHeld=>?_);clear hK K
 try go_frame
 refine Qaf 4 (some 6) a4 hHeld ?_;refine eV kM ?_ _;have k0:=hY hHeld;have b4:=f5.o.trans hHeld;have o3:=hY b4;have q5:wa.cell? w5=some (.pointer p2):=(Nw.blk hHeld g6.o).cell 0;have q1:wa.cell? w=some (.pointer none):=a4.o wa hHeld;have d6:∀b,Up (λi=>w1<=i/\i<w2/\i≠b2) w4 w5 b->b<w6:=λb I=>I.elim (λe=>by have:=e.2.1;omega) λe=>by have:=e.2;omega
 have x6:=hHeld.size;have g4:=e8.o.agree (gp hHeld d6);have b3:=hY (show Calls prog 21 #[.agg #[.pointer p2],.agg #[.pointer none],.int .u64 1,.slice (some w3) 3 3] wa λe w'=>∃(V:RT) (p3:Option Addr) (sL sC:Sl),e=.returned (.tuple #[.agg #[.pointer p3],.slice sL.a 2 sL.c,.slice sC.a 0 sC.c])/\QaK V=.pointer p3/\OkR V/\Qaa V=QkP 1/\IsT w' (In wa.heap.size w'.heap.size) V/\Qa7 w' (In wa.heap.size w'.heap.size) sL (l24.drop 1)/\Nw wa w' from by
  have h:=QnA (last:=1) g4 (λb I=>by have:=d6 b I;omega) j5.o (by rw[g9.o];decide) (e4.o wa b4);rw[Qao,o0.o,Qtm]at h;refine h.mono ?_;rintro e w' ⟨V,sL,sC,cs,rfl,ho⟩;obtain⟨p3,b8⟩:=Qaj V;have he:Qaa V=QkP 1:=by rw[ho.ents,show Qe6 (l24.drop 1)=lK.drop 1 from rfl,show Qaa none=[]from rfl,QsB]
  have hc:=ho.chg;rw[he,g9.o,QlV]at hc;obtain rfl:cs=[]:=dd.1 hc;exact⟨V,p3,sL,sC,by rw[Qao,b8]<;>rfl,b8,ho.ok,he,ho.tree.mono λb I=>I.elim (λe=>e.elim) id,ho.row,ho.nw⟩)
 obtain⟨q4,l8⟩:=Yb g4 d6;clear b4 g4 hHeld d6 e4 c3 e8;go_wp2_with fail;refine b3.o.mono ?_;rintro e wb ⟨V,p3,sL,sC,rfl,b8,p5,p0,hV,c1,n8⟩;obtain⟨s9,q8,r6,HV,o4,t0⟩:=Yg b8 p5 p0 hV c1 n8;clear b8 p5 p0 hV c1 n8 q5 q1 b3;go_upto_region 8 with fail;generalize p4:World.alloc _ _=wc;obtain⟨b0,l6,x7⟩:=Qb2 p4;obtain⟨q3,l2⟩:=Yb b0 l6;clear p4 b0 l6;go_wp2_with fail;refine(Qj6 _ 1).mono ?_;rintro e wd ⟨rfl,k6⟩;have i1:=hY k6;clear k6;go_upto_region 9 with fail;generalize l3:World.alloc _ _=we;obtain⟨d5,q2,x3⟩:=Qb2 l3;have a0:Nw wa we:=t0.o.trans ((gj q3.o).trans ((gj i1.o).trans (gj d5)));have a6:Nw wb we:=(gj q3.o).trans ((gj i1.o).trans (gj d5));have f0:Nw wc we:=(gj i1.o).trans (gj d5);have x5:=a6.size;have t9:=a0.size;have i6:ES we (Lt we) ⟨some wd,1⟩ [⟨kN,Qi0 1,Sl.none,Sl.none⟩]:=Qud (xs:=[⟨kN,Qi0 1,Sl.none,Sl.none⟩]) q2 (λx hx=>by rw[aV.1 hx];exact⟨QmB _ _ oN,oN⟩) oN;have c4:∀(T:RT) (p:Option Addr) (F:Nat->Prop),QaK T=.pointer p->OkR T->Qaa T=QkP 1->(∀b,F b->b<we.heap.size)->IsT we F T->∀W,Nw we W->Calls prog 17 #[.agg #[.pointer p],.slice (some wd) 1 1] W λe w'=>e=.returned true/\Ext W w':=λT p F hp ok he hF hT W N=>by
  have h:=Qph (w:=W) (s:=⟨some wd,1⟩) (xs:=[⟨kN,Qi0 1,Sl.none,Sl.none⟩]) (λb I=>ab (hF b I) N.size) (hT.agree (gp N hF)) ok (by rw[he];decide) ((i6.agree (gp N λb I=>I)).mono λb I=>ab I N.size);rw[Qao,hp,he,show([⟨kN,Qi0 1,Sl.none,Sl.none⟩]:List LE).map LE.ent=QkP 1 from rfl,QhK]at h;exact h
 obtain⟨b6,c0,a5⟩:=Yc (c4 T2 p2 _ o0.o j5.o g9.o (λb I=>by have:=l8.o b I;omega) (q4.o.agree (gp a0 λb I=>by have:=l8.o b I;omega))) (c4 V p3 _ s9.o q8.o r6.o (λb I=>by have:=I.2;omega) (HV.o.agree (gp a6 λb I=>I.2))) (o3.o.trans a0);have f2:=hY (show ∀W,Nw we W->Calls prog 11 #[.slice sL.a 2 sL.c,.slice (some ⟨w3,20,none⟩) 2 2] W λe w'=>e=.returned true/\Ext W w' fromλW N=>
  QgX (s:=sL) (s':=⟨some ⟨w3,20,none⟩,2⟩) (l:=l24.drop 1) (o4.o.up (λb I=>I.2) (a6.trans N)) (d3.o.nw (a5.o.trans N)))
 obtain⟨f8,o8,j7,n6,r5⟩:=Yf (f4.o.nw (λb I=>I.2) a0) (Nw.blk (k0.o.trans a0) g6.o) (Nw.blk a5.o e1.o) (Nw.blk f0 l2.o) (b9.o.trans a5.o);have q5:we.cell? w5=some (.pointer p2):=o8.o.cell 0;clear l3 d5 q2 a0 a6 f0 i6 c4 f4 o4 HV q4 p9 r7 g6 e1 l2;go_wp2_with fail;refine(b6.o we (gu _ _)).mono ?_;rintro e v1 ⟨rfl,g8⟩;have j8:=hY (gj g8);have c2:v1.cell? b2=some (.pointer p1):=(j7.o.ext g8).cell 0;clear g8 q5 b6;go_wp2_with fail;refine(f7.o v1 (a5.o.trans j8.o)).mono ?_;rintro e v2 ⟨t1,rfl,e2,k5⟩;obtain⟨q9,e7⟩:=Yb (j8.o.trans k5) e2;clear k5 e2 c2 f7;go_wp2_with fail;generalize o1:World.alloc _ _=v3;obtain⟨a9,a8,-⟩:=Qb2 o1;have r1:=hY (q9.o.trans (gj a9));have i4:=QhJ (A:=[0,0,0]) (B:=[0,0,0]) (s:=t1) (s':=⟨some v2,3⟩) (e7.o.nw (λb I=>I.2) (gj a9)) ((gA a8 oN rfl).mono λb I=>by rw[I];exact a8.lt) oN;have i8:=hY i4;clear o1 a9 a8 i4 e7;refine i8.o.mono ?_;rintro e v4 ⟨rfl,k3⟩;rw[show decide (([0,0,0]:List Int)=[0,0,0])=true from rfl];have r3:=hY (r1.o.trans (gj k3));clear k3 i8;go_wp2_with fail;generalize j6:World.alloc _ _=v5;obtain⟨n4,g3,-⟩:=Qb2 j6;have p7:=hY (r3.o.trans (gj n4));have n7:=QhJ (A:=[12,0]) (B:=[12,0]) (s:=sc) (s':=⟨some v4,2⟩) (f8.o.nw (λb I=>I) p7.o) ((gA g3 oN rfl).mono λb I=>by rw[I];exact g3.lt) oN;have j2:=hY n7;clear j6 n4 g3 n7 f8;refine j2.o.mono ?_;rintro e v6 ⟨rfl,p6⟩;rw[show decide (([12,0]:List Int)=[12,0])=true from rfl];have b7:=p7.o.trans (gj p6);have k2:=hY b7;have c7:v6.cell? wb=some (.pointer p3):=(Nw.blk b7 n6.o).cell 0;clear p6 b7 j2;go_wp2_with fail;refine(c0.o v6 k2.o).mono ?_;rintro e v7 ⟨rfl,j4⟩;have j1:=hY (k2.o.trans (gj j4));clear j4 c7 c0;go_wp2_with fail;refine(f2.o v7 j1.o).mono ?_;rintro e v8 ⟨rfl,o6⟩;have r9:=hY (j1.o.trans (gj o6));clear o6 f2;go_wp2_with fail;go_ret;exact⟨rfl,r5.o.trans r9.o⟩
end
variable{w:World}{F:Nat->Prop}{sl so:Sl}
theorem Qy3{d:Val}(h:RV w F d sl so):∃xs:List WV,xs.map WV.v=d.l/\Rd w F 6 sl xs.length (QeF xs)/\(∀x∈xs,RV w F x.v x.sl x.so)/\xs.length*88<=140737488355328:=by
 cases h with
 | mk bl fl bo fo cl co hl ho hov el rl ek eo ro bk bi bt nl no=>
   rename_i kind b i t l ok ov;refine⟨wl l cl,QvV l cl,Qvw (by rw[QhX];exact hl) λj x Z=>?_,λx Z=>?_,by rw[QhX];exact nl⟩
   ·obtain ⟨N,e2,I⟩:=QuY Z
    rw[e2,I];exact el j _ N
   obtain⟨j,hj⟩:=bz Z;obtain⟨N,e2,I⟩:=QuY hj;rw[e2,I];exact rl j _ N
variable{W:World}{s:Sl}
theorem Qy0{base:Nat}{xs:List WV}(Z:W.ownsRow base 34 6 (.slice s.a xs.length s.c) xs.length (QeF xs))(hF:∀i,base<=i->i<W.heap.size->F i)(hv:∀x∈xs,RV W F x.v x.sl x.so)(hn:xs.length*88<=140737488355328) :
  RV W F (QuP (xs.map WV.v)) s Sl.none:=by
 obtain⟨b,o,a0,hc⟩:=Qsg (gz Z);have N:∀(j:Nat) (d:Val),(xs.map WV.v)[j]? = some d->∃x,xs[j]? = some x/\x.v=d:=λj d hd=>by
  rw[ar]at hd;cases I:xs[j]? with
  |none=>rw[I]at hd;cases hd
  |some x=>rw[I]at hd;exact⟨x,rfl,by injection hd⟩
 have e:∀{j:Nat} {x:WV},xs[j]? = some x->xs.getD j ⟨zeroV,Sl.none,Sl.none⟩=x:=λI=>by rw[dq,I];rfl
 refine .mk b o 0 0 (λj=>((xs.getD j ⟨zeroV,Sl.none,Sl.none⟩).sl,(xs.getD j ⟨zeroV,Sl.none,Sl.none⟩).so)) (λ_=>(Sl.none,Sl.none)) (by rw[aq];exact a0.mono λi h=>hF i h.1 h.2) (.nil _ _) rfl ?_ ?_ (λj k h=>by simp at h) (λj d h=>by simp at h) (λj d h=>by simp at h) oN oN oN (by rw[aq];exact hn) oO
 ·intro j d hd
  obtain⟨x,I,rfl⟩:=N j d hd;rw[e I];exact hc j x I
 intro j d hd;obtain⟨x,I,rfl⟩:=N j d hd;rw[e I];exact hv x (am I)
variable{H:Nat->Prop}{M0:Nat}
theorem Qx0{es:List Ent}(h:MapAt H w M0 es)(hH:∀b,H b->b<w.heap.size)(hM:OkM es)(hc:es.length<=1000000){k:ByteArray}(hk:k.size<=maxLen){v:Val}(hv:RV w (NH H w) v sl so)(i3:QcI v<=1092000) :
  Calls prog 92 #[.pointer (some M0),k,QbV v sl so] w (Qwh H w (Qq1 es k v)):=by
 have b7:=hY (show ∀W,Nw w W->Qwd H w es M0 W fromλW hW=>Qwd.self h hH hW);have i6:=hY (show ∀u s1 s2 W,Nw w W->RV W (NH H W) u s1 s2->QcI u<=1100000->Calls prog 34 #[.pointer (some M0),k,QbV u s1 s2] W λe w'=>∃M',e=.returned (.tuple #[.pointer (some ⟨M',0,none⟩),.int .i64 (setMu es k u).1])/\QwI H W (setMu es k u).2 M' w' fromλu s1 s2 W hW hu j4=>
  Qwn (h.sb hW (λb I=>I.elim) λI=>I.elim) (λb I=>ab (hH b I) hW.size) hM.sorted hc hk hu j4)
 obtain⟨g7,j0⟩:=Yb h hM.sorted;have Z:=Qt7 es k v;have a3:QdR ((Qaq es k).getD zeroV).l<=7168:=by
  cases hg:Qaq es k with
  |none=>exact aA _
  |some y=>exact ak (Qs1 y) (hM.get hg).2.cnt
 obtain⟨r,hr⟩:∃r,Qq1 es k v=r:=⟨_,rfl⟩;obtain⟨og,b9⟩:∃o,Qaq es k=o:=⟨_,rfl⟩;rw[hr,b9]at Z;rw[b9]at a3;rw[hr];obtain⟨f6,c3,f1,k1,HV,HH⟩:=Yg b9 Z a3 i3 hv hH;obtain⟨i0,hi,g0,d7,f0⟩:=eR Tryz.QjM;clear h hH hM hc hk hv i3 Z a3 hr b9;go_in;go_upto_region 1 with fail;generalize g6:World.alloc _ _=w0;obtain⟨e2,i5⟩:Ext w w0/\Blk w0 w.heap.size 34 (QtS v sl so):=by rw[<-g6];exact⟨(gh w).alloc _ _,gm w _ _⟩
 have hg:=Qy8 (g7.o.ext e2) j0.o k;rw[f6.o]at hg;obtain⟨HG,f7,k3⟩:=Yc hg e2 i5;clear g6 e2 i5 hg;go_wp2_with fail;refine HG.o.mono ?_;rintro e w1 ⟨s1,s2,rfl,f8,e3⟩;have a5:=hY f8;obtain⟨y,hy⟩:∃y,og.getD zeroV=y:=⟨_,rfl⟩;obtain⟨g,c0⟩:∃g,og.isSome=g:=⟨_,rfl⟩;have Z:=c3.o;have a3:=f1.o;rw[hy,c0]at Z;rw[hy]at a3 e3 ⊢;rw[c0];have i4:g=false->y.l=[]:=λe=>by
  cases og with
  |none=>rw[<-hy];rfl
  |some _=>rw[<-c0]at e;cases e
 obtain⟨g8,j8,k2,j3⟩:=Ye Z a3 i4 e3;clear Z a3 hy c0 f8 e3 i4 HG c3 f1 f6;go_upto_region 2 with fail;generalize e8:World.alloc w1 _=w2;obtain⟨c2,g5⟩:Ext w1 w2/\Blk w2 w1.heap.size 34 (QtS y s1 s2):=by rw[<-e8];exact⟨(gh w1).alloc _ _,gm w1 _ _⟩
 obtain⟨k0,-,-,-,k4,-⟩:=g5.c6;obtain⟨f2,d6,i9⟩:=Yc (a5.o.trans c2) c2 (gj ((f7.o.trans a5.o).trans c2));clear e8 c2 g5;by_cases N:g=true/\y.kind≠5
 ·have g1:=N.1
  have g2:(y.kind != 5)=true:=by simp[N.2]
  have HR:=hY (g8.o.trans (eH N));clear N;subst g1;go_wp2_with fail;go_ret2;exact⟨M0,by rw[HR.o]<;>rfl,by rw[HR.o];exact b7.o _ i9.o⟩
 have HR:=hY (g8.o.trans (eE N));have g2:g=true->(y.kind != 5)=false:=λe=>by
  by_cases h5:y.kind=5
  .simp [h5]
  exact absurd ⟨e,h5⟩ N
 clear N;obtain⟨xs,e7,i2,f5,k7⟩:=Qy3 j3.o;have a0:xs.length=y.l.length:=by rw[<-e7,aq]
 rw[<-a0]at k4;obtain⟨d5,j9,j5⟩:=Yc e7 f5 (show Rd w2 (NH H w0) 6 s1 xs.length (QeF xs)from i2.agree (d6.o.agree λb I=>ab I.1 a5.o.size));clear e7 f5 i2 a0;go_upto_if 17 with fail;go_cut [10] (λq w'=>∃s7:Sl,q=.slice s7.a xs.length s7.c/\Yd (w'.ownsRow w0.heap.size 34 6 (.slice s7.a xs.length s7.c) xs.length (QeF xs)/\Nw w2 w'))
 case first=>
  cases g with
  | false=>
    have hn:=k2.o rfl;rw[<-d5.o]at hn;obtain rfl:xs=[]:=dd.1 hn;clear hn;go_wp2_with fail;go_meet;exact⟨Sl.none,rfl,hY ⟨World.ownsRow_nil _ _ _ _,gu _ _⟩⟩
  | true=>
    have g3:=g2 rfl;obtain⟨d8,e0,e1⟩:=Yc (show 0+xs.length<=maxLen by unfold maxLen;omega) (show(0+xs.length)*88<=140737488355328 by omega) (show w0.heap.size<=w2.heap.size from f2.o.size);clear g2;go_wp2_with(at_builtin;refine Qak _ rfl (.tmp 22) (.tmp 24) 31 rfl w0.heap.size 34 i0 _ 6 88 underlying31 hi g0 d7 f0 rfl oN Sl.none 0 [] rfl (eS _ _ _ _) (NH H w0) s1 xs.length (QeF xs) rfl j5.o (Qxc _) d8.o e0.o e1.o ?_;intro s7 w7 a2 c9 e6;rw[aD]at a2 ⊢;have j6:=hY a2;have b6:=hY c9;clear a2 c9 e6);go_meet;exact⟨s7,rfl,hY ⟨j6.o,⟨b6.o.grown.os,b6.o.grown.tape,b6.o.grown.output,b6.o.grown.size,λi hi _=>b6.o.grown.block i hi (by simp[Sl.row,Sl.none])⟩⟩⟩
 obtain⟨s7,rfl,HO⟩:=hcut;clear k0 k4 g2;have a8:Nw w wc:=i9.o.trans HO.o.2;have a0:y.l.length=xs.length:=by rw[<-d5.o,aq]
 obtain⟨f3,d0⟩:=Yb a0 a8;by_cases d4:256<=xs.length
 ·have g3:decide ((256:Int)≤(xs.length:Int))=true:=eI oM
  have g4:(256:Int)<=(xs.length:Int):=oM
  have a9:=hY (HR.o.trans (show Qoo es k y.l v=(6,es)by unfold Qoo;rw[eH oM]));clear d4 a8 a0;go_wp2_with fail;go_ret2;exact⟨M0,by rw[a9.o]<;>rfl,by rw[a9.o];exact b7.o _ d0.o⟩
 have g3:decide ((256:Int)<=(xs.length:Int))=false:=eG oM;have g4:¬(256:Int)<=(xs.length:Int):=oM
 have a9:=hY (HR.o.trans (show Qoo es k y.l v=setMu es k (QuP (y.l++[v]))by unfold Qoo;rw[eE oM]));have f4:=Nw.blk ((gj (a5.o.trans d6.o)).trans HO.o.2) k3.o;obtain⟨b0,b1,b2,b3,b4,b5⟩:=f4.c6;have j1:=hY (gm wc 34 (⟨v,sl,so⟩:WV).cells.toArray);have c1:Ext wc (wc.alloc (.cells (⟨v,sl,so⟩:WV).cells.toArray 34)):=(gh wc).alloc _ _;obtain⟨k6,j2,d8,e0⟩:=Ye c1 (Qab HO.o.1 (F:=Lt wc) (c1.agree λb I=>I) λb I=>(Qad HO.o.1 I).2) (show xs.length+1<=maxLen by unfold maxLen;omega) (show(xs.length+1)*88<=140737488355328 by omega);have k8:=f7.o.size;have i8:w0.heap.size<=wc.heap.size:=ak f2.o.size HO.o.2.size;obtain⟨e1,f9⟩:=Yb (show w0.heap.size<=(wc.alloc (.cells (⟨v,sl,so⟩:WV).cells.toArray 34)).heap.size from ak i8 c1.size) (show ∀b,s7.row=some b->w0.heap.size<=b fromλb I=>(Qad HO.o.1 I).1);have l0:xs.length<=255:=oM
 clear d4 a8 a0 f4 c1 i8;go_wp2_with(at_builtin;refine Qak _ rfl (.tmp 32) (.tmp 34) 31 rfl w0.heap.size 34 i0 _ 6 88 underlying31 hi g0 d7 f0 rfl oN s7 xs.length (QeF xs) rfl j2.o (λb=>b=wc.heap.size) ⟨some wc,1⟩ 1 (⟨v,sl,so⟩:WV).cells rfl (gA j1.o oN rfl) (WV.one _) d8.o e0.o e1.o ?_;intro s9 w9 a6 d3 e6;have k5:=hY a6;have b8:=hY d3;clear a6 d3 e6);have e4:Sb (λb=>s7.row=some b) wc w9:=(Nw.any (gj k6.o) _).trans ⟨b8.o.grown.os,b8.o.grown.tape,b8.o.grown.output,b8.o.grown.size,λi hi hn=>b8.o.grown.block i hi λe=>hn e.symm⟩;have a1:Nw w w9:=d0.o.comp e4 λi hi e=>by have:=f9.o i e;omega
 have a4:Sb (λb=>s7.row=some b) w1 w9:=(Nw.any ((gj d6.o).trans HO.o.2) _).trans e4;have d7:=a5.o.size;have a7:=Qy0 (F:=NH H w9) (xs:=xs++[(⟨v,sl,so⟩:WV)]) (s:=s9) (by rw[aj,Qne];exact k5.o) (λi h1 h2=>⟨h2,λhh=>by have:=HH.o i hh;omega⟩) (λx hx=>by
  rcases aO.1 hx with hx|hx
  .exact ((j9.o x hx).agree λb I=>a4.block b (by have:=I.1;omega) λe=>by have:=f9.o b e;have:=I.1;omega).mono λb I=>⟨by have:=I.1;have:=a4.size;omega,I.2⟩
  obtain rfl:x=⟨v,sl,so⟩:=by simpa using hx
  exact(HV.o.agree (gp a1 λb I=>I.1)).mono λb I=>⟨Nat.lt_of_lt_of_le I.1 a1.size,I.2⟩) (by rw[aj];show(xs.length+1)*88<=_;omega)
 have c8:(xs++[(⟨v,sl,so⟩:WV)]).map WV.v=y.l++[v]:=by rw[aB,d5.o];rfl
 rw[c8]at a7;have c7:=i6.o (QuP (y.l++[v])) s9 Sl.none w9 a1 a7 (by rw[Qs2];have:=j8.o;have:=k1.o;omega);have g9:xs.length+1=(QuP (y.l++[v])).l.length:=by show _=(y.l++[v]).length;rw[aj,f3.o];rfl
 obtain⟨j7,i1⟩:=Yb c7 a1;clear e4 a1 a4 a7 c8 c7;rw[g9];clear g9;refine j7.o.mono ?_;rintro e k9 ⟨M',rfl,c4⟩;have i7:=hY (c4.old.pre i1.o);clear c4;go_wp2_with fail;go_ret2;exact⟨M',by rw[a9.o]<;>rfl,by rw[a9.o];exact i7.o⟩
theorem QwA(w:World)(k p:ByteArray)(hk:k.size<=maxLen)(hp:p.size<=maxLen):Calls prog 129 #[k,p] w λe w'=>e=.returned (p.toList.isPrefixOf k.toList)/\w=w':=by
 unfold maxLen at hk hp;have lk:=QbR k;have Z:=QbR p;by_cases h:p.size<=k.size
 ·have g1:(p.size:Int)≤(k.size:Int):=oM
  have g2:min p.size k.size=p.size:=oM
  have N:(k.extract 0 p.size).toList=k.toList.take p.size:=extract_toList k p.size;have he:((k.extract 0 p.size).toList==p.toList)=p.toList.isPrefixOf k.toList:=by
   rw[N];cases I:p.toList.isPrefixOf k.toList with
   | true=>
     have:=cH.1 (cT.1 I);rw[<-Z,<-this];simp
   | false=>
     rw[eJ];intro e;have:p.toList <+: k.toList:=by rw[<-e];exact List.take_prefix _ _
     rw[cT.2 this]at I;cases I
  have HE:=hY he;clear he N lk Z;go_in;go_wp2_with fail;go_ret;exact⟨by rw[<-HE.o];rfl,rfl⟩
 have g1:¬(p.size:Int)<=(k.size:Int):=oM
 have a0:decide ((p.size:Int)<=(k.size:Int))=false:=eG g1;have hn:p.toList.isPrefixOf k.toList=false:=by
  cases I:p.toList.isPrefixOf k.toList with
  |true=>have:=(cT.1 I).length_le;omega
  |false=>rfl
 rw[hn];clear lk Z hn;go_in;go_wp2_with fail;go_ret;exact⟨rfl,rfl⟩
structure QwH(H:Nat->Prop)(w:World)(es:List Ent)(f t:ByteArray)(wr:World)(j:Nat)(s:Sl)(xs:List LE)(G:Nat->Prop):Prop where
 ents:xs.map LE.ent=(QjI (es.take j) f).map λe=>(QbB f t e.1,e.2)
 zero:QcF es f t (QjI (es.take j) f)=0
 vals:∀x∈xs,RV w (NH H w) x.v x.sl x.so/\x.k.size<=maxLen
 map:MapAt G wr w.heap.size (Qqm (es.take j) f)
 own:wr.ownsRow (w.heap.size+1) 78 7 (.slice s.a xs.length s.c) xs.length (QaD xs)
 sub:∀b,H b->G b
 low:∀b,G b->H b\/w.heap.size<=b
 below:∀b,G b->b<wr.heap.size
 row:∀b,s.row=some b->G b
 nw:Nw w wr
section
variable{H G : Nat -> Prop}{w wr W w2 w7 w9 : World}{es : List Ent}{f t : ByteArray}{j : Nat}{s s7 : Sl}{xs : List LE}{e : Ent}{x : LE}
theorem QwH.nwS(h:QwH H w es f t wr j s xs G)(k:Nw wr w2):QwH H w es f t w2 j s xs G:=
 ⟨h.ents,h.zero,h.vals,QwB h.map k,Qab h.own (F:=Lt wr) (gp k λb I=>I) (λb I=>(Qad h.own I).2),h.sub,h.low,λb I=>ab (h.below b I) k.size,h.row,h.nw.trans k⟩
theorem QwH.keep(h:QwH H w es f t wr j s xs G)(hs:Sorted es)(he:es[j]? = some e)(hb:Qau f e.1=false)(hp:MapAt G w2 w.heap.size (QbY (Qqm (es.take j) f) e.1 e.2))(st:St (λb=>b=w.heap.size) wr w2):QwH H w es f t w2 (j+1) s xs G where
 ents:=by rw[Qxf he hb];exact h.ents
 zero:=by rw[Qxf he hb];exact h.zero
 vals:=h.vals
 map:=by rw[<-QyJ hs he hb];exact hp
 own:=Qab h.own (F:=λb=>b<wr/\w+1<=b) (λb hb=>st.block b hb.1 (by have:=hb.2;omega)) λb hb=>⟨(Qad h.own hb).2,(Qad h.own hb).1⟩
 sub:=h.sub
 low:=h.low
 below:=λb hb=>ab (h.below b hb) st.size
 row:=h.row
 nw:=h.nw.comp st.sb λi hi e=>oM
theorem QwH.gone(h:QwH H w es f t wr j s xs G)(he:es[j]? = some e)(I:Qau f e.1=true)(hk:Qci (QbB f t e.1)=0)(hg:((Qaq es (QbB f t e.1)).isSome && !Qau f (QbB f t e.1))=false)(hx:x.ent=(QbB f t e.1,e.2))(hv:RV w (NH H w) x.v x.sl x.so/\x.k.size<=maxLen)(k:Nw wr w7)
  (Z:w9.ownsRow (w.heap.size+1) 78 7 (.slice s7.a (xs.length+1) s7.c) (xs.length+1) (QaD xs++x.cells)) (hw:Wr w7 w9 s.row) (hs:s7.a=s.a\/s7.a=some ⟨w7,0,none⟩/\Wr w7 w9 none) :
  ∃G',QwH H w es f t w9 (j+1) s7 (xs++[x]) G':=by
 have hz:=h.nw.size;have z7:=k.size;have z9:=hw.grown.size;have N:∀b,s7.row=some b->s.row=some b\/b=w7.heap.size:=λb I=>by
  rcases hs with e |⟨e,-⟩
  .left;unfold Sl.row at I ⊢;rwa[e]at I
  right;unfold Sl.row at I;rw[e]at I;simpa using I.symm
 have hR:w.heap.size<wr.heap.size:=h.below _ h.map.hm;refine⟨λb=>G b\/s7.row=some b,?_,Qyk h.zero he I hk hg,?_,?_,?_,λb I=>.inl (h.sub b I),?_,?_,λb I=>.inr I,?_⟩
 .rw [aB,h.ents,QwO he,I,eH rfl,aB,bn,bJ,hx];rfl
 ·intro y hy
  rcases aO.1 hy with hy|hy
  .exact h.vals y hy
  rw[aV.1 hy];exact hv
 ·rw [Qxh he,I,eH rfl]
  have a0:St (λb=>s.row=some b) w7 w9:=hw.st λi hi=>hi
  refine MapAt.st (G:=λb=>s.row=some b) ((QwB h.map k).more (G:=λb=>G b\/s7.row=some b) (λb I=>.inl I) λb I hg=>?_) a0 (λb I=>.inl (h.row b I)) λe=>by have:=(Qad h.own e).1;omega
  rcases hg with hg|hg
  .exact hg
  rcases N b hg with e|e
  .exact h.row b e
  omega
 ·rw [aj,Qcp,show QaD [x]=x.cells by simp [QaD]]
  exact Z
 ·rintro b (I | I)
  .exact h.low b I
  rcases N b I with e|e
  .exact h.low b (h.row b e)
  right;omega
 ·rintro b (I | I)
  .have:=h.below b I;omega
  exact(Qad Z I).2
 exact(h.nw.trans k).comp ⟨hw.grown.os,hw.grown.tape,hw.grown.output,hw.grown.size,λi hi hn=>hw.grown.block i hi λe=>hn e.symm⟩ λi hi e=>by have:=(Qad h.own e).1;omega
end
theorem Qyj{es:List Ent}(h:MapAt H w M0 es)(hH:∀b,H b->b<w.heap.size)(hM:OkM es)(hc:es.length<=100000){f t:ByteArray}(hf:f.size<=maxLen)(ht:t.size<=100000000) :
  Calls prog 93 #[.pointer (some M0),f,t] w (Qwh H w (QgM es f t)):=by
 obtain⟨i0,hi,n7,l7,l6⟩:=eR Tryz.Qa8;obtain⟨d7,i8⟩:=Yb (show ∀W,Nw w W->Qwd H w es M0 W fromλW hW=>Qwd.self h hH hW) (show ∀(k:ByteArray) W,Nw w W->Calls prog 128 #[.pointer (some M0),k] W (Qxw (Qaq es k) W) fromλk W hW=>Qzg (QwB h hW) hM.sorted k);obtain⟨-,sM,xM,k7,j5,g5⟩:=h;have k5:xM.length=es.length:=by rw[<-g5,aq]
 have p9:xM.length<=100000:=oM
 obtain⟨k0,l8,o1,HH,HM,HF⟩:=Yg k7 j5 g5 hH hM hf;obtain⟨r,hr⟩:∃r,QgM es f t=r:=⟨_,rfl⟩;rw[hr];obtain⟨HR,f9⟩:=Yb hr k5;clear hH hM k7 j5 g5 hf hr k5 hc;go_in;go_upto_region 3 with fail;generalize j1:World.alloc _ _=w0;obtain⟨j0,a9,hz⟩:Ext w w0/\Blk w0 w.heap.size 56 #[.slice none 0 0]/\w0.heap.size=w.heap.size+1:=by rw[<-j1];exact⟨(gh w).alloc _ _,gm w _ _,eK _ _⟩
 have g7:=hY (show QwH H w es f t w0 0 Sl.none [] (λb=>H b\/b=w.heap.size)from
  ⟨rfl,rfl,(λx hx=>by cases hx),⟨.inr rfl,Sl.none,[],a9,⟨Rd.nil _ _ _,λx h=>by simp at h,oN⟩,rfl⟩,eS _ _ _ _,λb N=>.inl N,λb N=>N.imp id λe=>oM,(λb N=>by exact N.elim (λh=>by have:=HH.o b h;omega) λh=>oM),(λb N=>by simp[Sl.row,Sl.none]at N),gj j0⟩)
 clear j1 j0 a9 hz;go_wp2_with fail;go_loopw[9,10] (λv9 l5 wr=>∃(j:Nat) (s:Sl) (xs:List LE) (G:Nat->Prop),v9=.slice s.a xs.length s.c/\l5=.int .i64 (j:Int)/\j<=xM.length/\Yd (QwH H w es f t wr j s xs G)) (λ_ v _=>xM.length -(intOf v).toNat)
 case atStart=>exact⟨0,Sl.none,[],_,rfl,rfl,aA _,g7⟩
 obtain⟨j,s,xs,G,rfl,rfl,hj,I⟩:=hrel;have c0:wr.cell? M0=some (.slice sM.a xM.length sM.c):=(I.o.nw.blk k0.o).cell 0;by_cases b8:j<xM.length
 ·have l1:(j:Int)<(xM.length:Int):=oM
  have p4:decide ((j:Int)<(xM.length:Int))=true:=eI l1;have l0:(0:Int)<=(j:Int):=oM
  obtain⟨y,hy⟩:∃y,xM[j]? = some y:=⟨_,ac b8⟩;obtain⟨b0,o0,e4,a9,p0,l4,cK,c9,k4,b9⟩:=l8.o.at hy;have j7:es[j]? = some (y.k,y.v):=by rw[<-o1.o,ar,hy];rfl
  have g9:=hY (show ∀W,Nw w W->W.cell? ⟨b0,o0+j*7,none⟩=some (.string y.k)/\QaV W b0 (o0+j*7+1) y.v y.sl y.so fromλW hW=>⟨(gp hW (F:=Lt w) λb N=>N).cell a9.1 |>.trans cK,c9.agree (gp hW (F:=Lt w) λb N=>N) a9.1⟩);obtain⟨q7,k9⟩:=g9.o wr I.o.nw;obtain⟨c8,i7,n2,n8⟩:=Ye j7 k4 b9 (show Calls prog 129 #[.string y.k,f] wr λe w'=>e=.returned (.bool (Qau f y.k))/\wr=w' from QwA wr y.k f b9 HF.o);rw[e4]at c0;clear hy j7 k4 b9 c9 cK a9;go_wp2_with fail;refine n8.o.mono ?_;rintro e w2 ⟨rfl,rfl⟩;rcases aY (Qau f y.k)with N|N
  rotate_left
  ·have HB:=hY N
   rw[N];obtain⟨d0,d1,d2,d3,d4,d5⟩:=k9;have b4:=QxC I.o.map I.o.below (Qkn (HM.o.sorted.sublist (List.take_sublist j es)) f) (by have:(Qqm (es.take j) f).length<=(es.take j).length:=bD _ _;rw[av]at this;omega) n2.o (v:=y.v) (sl:=y.sl) (so:=y.so) ((i7.o.agree (gp I.o.nw λb N=>N.1)).mono λb N=>⟨Nat.lt_of_lt_of_le N.1 I.o.nw.size,λhg=>(I.o.low b hg).elim N.2 λh=>by have:=N.1;omega⟩);have e0:=hY b4;clear N b4;go_wp2_with fail;refine e0.o.mono ?_;rintro e w3 ⟨⟨rr,rfl⟩,i5,Z⟩;have HN:=hY (I.o.keep HM.o.sorted c8.o HB.o i5 Z);clear i5 Z;go_wp2_with fail;go_roundw
   case measure=>simp[intOf];omega
   exact⟨j+1,s,xs,G,rfl,by go_num,b8,HN⟩
  have HB:=hY N;rw[N];clear N;have o6:=Qxm HB.o;have s1:((f.size:Nat):Int)<=(y.k.size:Int):=oM
  have s0:(0:Int)<=((f.size:Nat):Int):=oM
  have n4:y.k.size<=64:=QeT (HM.o.ok (y.k,y.v) (am c8.o)).1;have s2:¬9223372036854775807<t.size+(y.k.size-f.size):=oM
  obtain⟨nk,i2⟩:∃nk,t++y.k.extract f.size y.k.size=nk:=⟨_,rfl⟩;have b5:=hY (show QbB f t y.k=nk from i2);have e3:nk.size<=maxLen:=by have:=QxQ f t y.k;rw[b5.o]at this;unfold maxLen;omega
  obtain⟨i6,f3,p7,q0⟩:=Ye (QwP wr nk e3) e3 (i8.o nk wr I.o.nw) (I.o);clear n4 e3 o6;go_upto_region 10 with fail;clear i2 s0 s1 s2;go_wp2_with fail;refine i6.o.mono ?_;rintro e w2 ⟨rfl,rfl⟩;by_cases b7:Qci nk=0
  rotate_left
  ·have q6:(Qci nk != 0)=true:=by simp [b7]
   obtain⟨k2,d8⟩:=Yb (HR.o.symm.trans (Qy9 I.o.zero c8.o HB.o (by show Qci (QbB f t y.k)≠0;rw[b5.o];exact b7))) (d7.o _ I.o.nw);clear b7;go_wp2_with fail;go_ret2;exact⟨M0,by rw[k2.o]<;>rfl,by rw[k2.o];exact d8.o⟩
  have j4:=hY b7;rw[b7];clear b7;go_wp2_with fail;refine p7.o.mono ?_;rintro e w3 ⟨s1,s2,rfl,j9,-⟩;obtain⟨og,f7⟩:∃og,Qaq es nk=og:=⟨_,rfl⟩;rw[f7];obtain⟨i4,o9⟩:=Yb f7 (gj j9);clear f7 j9;go_upto_region 13 with fail;generalize j2:World.alloc w3 _=w4;obtain⟨j3,-,-⟩:=Qb2 j2;obtain⟨b6,i3⟩:=Yb (o9.o.trans (gj j3)) (show Calls prog 129 #[.string nk,f] w4 λe w'=>e=.returned (.bool (Qau f nk))/\w4=w' from QwA w4 nk f f3.o HF.o);clear j2 j3;by_cases a7:(og.isSome && !Qau f nk)=true
  ·have g8:og.isSome=true:=by simp only [Bool.and_eq_true] at a7;exact a7.1
   have i9:Qau f nk=false:=by simp only[Bool.and_eq_true,Bool.not_eq_true']at a7;exact a7.2
   obtain⟨f0,d8,o8⟩:=Yc (HR.o.symm.trans (QyX I.o.zero c8.o HB.o (by show Qci (QbB f t y.k)=0;rw[b5.o];exact j4.o) (by show((Qaq es (QbB f t y.k)).isSome && !Qau f (QbB f t y.k))=true;rw[b5.o,i4.o];exact a7))) (d7.o _ (I.o.nw.trans b6.o)) i9;rw[g8];clear a7 g8 i9;go_wp2_with fail;refine i3.o.mono ?_;rintro e w5 ⟨rfl,rfl⟩;rw[o8.o];go_wp2_with fail;go_ret2;exact⟨M0,by rw[f0.o]<;>rfl,by rw[f0.o];exact d8.o⟩
  have g0:=hY (show((Qaq es (QbB f t y.k)).isSome && !Qau f (QbB f t y.k))=false by rw[b5.o,i4.o];simpa using a7);have j6:og.isSome=false\/(og.isSome=true/\Qau f nk=true):=by
   cases h1:og.isSome with
   |false=>exact .inl rfl
   | true=>cases h2:Qau f nk with
     |true=>exact .inr ⟨rfl,rfl⟩
     |false=>rw[h1,h2]at a7;exact absurd rfl a7
  clear a7;go_cut [14,73] (λu v w'=>v=.bool false/\w'=w4)
  case first=>
   rcases j6 with h1 |⟨h1,h2⟩
   ·rw [h1]
    go_wp2_with fail;go_meet;exact⟨rfl,rfl⟩
   rw[h1];have H2:=hY h2;clear h1 h2;go_wp2_with fail;refine i3.o.mono ?_;rintro e w5 ⟨rfl,rfl⟩;rw[H2.o];go_wp2_with fail;go_meet;exact⟨rfl,rfl⟩
  obtain⟨rfl,hw⟩:=hcut;obtain rfl:w4=wc:=hw.symm;obtain⟨c0,c1,c2,c3,c4,c5⟩:=(g9.o w4 (I.o.nw.trans b6.o)).2;have m0:w4.cell? M0=some (.slice (some ⟨b0,o0,none⟩) xM.length sM.c):=by
   have:=(Nw.blk (I.o.nw.trans b6.o) k0.o).cell 0;rw[e4]at this;exact this
  have p2:=hY (gm w4 78 (⟨nk,y.v,y.sl,y.so⟩:LE).cells.toArray);have e8:Nw w4 (w4.alloc (.cells (⟨nk,y.v,y.sl,y.so⟩:LE).cells.toArray 78)):=gj ((gh w4).alloc _ _);have l9:=hY e8;have n6:=hY (I.o.nwS (b6.o.trans e8)).own;have f5:xs.length<=xM.length:=by
   have h1:=congrArg List.length I.o.ents;rw[aq,aq]at h1;have h2:(QjI (es.take j) f).length<=(es.take j).length:=bD _ _;rw[av]at h2;omega
  obtain⟨n9,o2,o3⟩:=Yc (show xs.length+1<=maxLen by unfold maxLen;omega) (show(xs.length+1)*104<=140737488355328 by omega) (show w.heap.size+1<=(w4.alloc (.cells (⟨nk,y.v,y.sl,y.so⟩:LE).cells.toArray 78)).heap.size from by have:=I.o.below _ I.o.map.hm;have:=(b6.o.trans e8).size;omega);clear e8 j6 f5;go_wp2_with(at_builtin;refine Qak _ rfl (.tmp 75) (.tmp 86) 41 rfl (w.heap.size+1) 78 i0 _ 7 104 underlying41 hi n7 l7 l6 rfl oN s xs.length (QaD xs) rfl n6.o (λb=>b=w4.heap.size) ⟨some w4,1⟩ 1 (⟨nk,y.v,y.sl,y.so⟩:LE).cells rfl (gA p2.o oN rfl) (LE.one _) n9.o o2.o o3.o ?_;intro s7 w9 c7 f6 k1;have p3:=hY c7;have p6:=hY f6;have o7:=hY k1;clear c7 f6 k1);go_roundw
  case measure=>simp[intOf];omega
  obtain⟨G',Z⟩:=I.o.gone (x:=⟨nk,y.v,y.sl,y.so⟩) c8.o HB.o (by show Qci (QbB f t y.k)=0;rw[b5.o];exact j4.o) g0.o (by show(nk,y.v)=(QbB f t y.k,y.v);rw[b5.o]) ⟨i7.o,f3.o⟩ (b6.o.trans l9.o) p3.o p6.o o7.o;exact⟨j+1,s7,xs++[⟨nk,y.v,y.sl,y.so⟩],G',by rw[aj];rfl,by go_num,b8,hY Z⟩
 obtain rfl:j=xM.length:=oM
 have g1:decide ((xM.length:Int)<(xM.length:Int))=false:=eG oM;have Z:=I.o;have a8:=Z.ents;have b3:=Z.zero;have d6:=Z.map;rw[f9.o,aR]at a8 b3 d6;have l2:∀x∈xs,Qci x.k=0/\QcP x.v=0/\QcI x.v<=1100000:=λx hx=>by
  have h1:x.ent∈(QjI es f).map λe=>(QbB f t e.1,e.2):=by rw[<-a8];exact de hx
  obtain⟨e,he,h2⟩:=bY.1 h1;have h3:=Qw2 b3 e he;have h4:=(HM.o.ok e (bQ.1 he).1).2;have e1:QbB f t e.1=x.k:=congrArg Prod.fst h2;have e2:e.2=x.v:=congrArg Prod.snd h2;rw[e1]at h3;rw[e2]at h4;exact⟨h3,h4.2,ak h4.cnt oN⟩
 have f5:xs.length<=100000:=by
  have h1:=congrArg List.length a8;rw[aq,aq]at h1;have h2:(QjI es f).length<=es.length:=bD _ _;have:=f9.o;omega
 have k6:(Qqm es f).length<=100000:=by
  have h2:(Qqm es f).length<=es.length:=bD _ _;have:=f9.o;omega
 have j8:r=(0,QdC (Qqm es f) (xs.map LE.ent)):=by
  rw[<-HR.o,a8];unfold QgM;rw[eE (by simp[b3])]
 have i1:ES wr (Lt wr) s xs:=⟨(gz Z.own).mono λb N=>N.2,λx hx=>⟨((Z.vals x hx).1.agree (gp Z.nw λb N=>N.1)).mono λb N=>ab N.1 Z.nw.size,(Z.vals x hx).2⟩,oM⟩;obtain⟨g6,l3,p1,p8,e7⟩:=Yf j8 l2 k6 i1 (show(∀b,H b->G b)/\(∀b,G b->H b\/w.heap.size<=b)/\(∀b,G b->b<wr.heap.size)/\MapAt G wr w.heap.size (QdC (Qqm es f) ((xs.take 0).map LE.ent))/\Nw wr wr from⟨Z.sub,Z.low,Z.below,d6,gu _ _⟩);clear Z a8 b3 d6 l2 k6 j8 i1;obtain⟨w5,rfl⟩:∃w5,w5=wr:=⟨_,rfl⟩;go_wp2_with fail;go_loopw[8,15,16] (λv8 p5 o5 wq=>∃(j M':Nat) (G':Nat->Prop),v8=.pointer (some M')/\p5=.int .i64 0/\o5=.int .i64 (j:Int)/\j<=xs.length/\Yd ((∀b,H b->G' b)/\(∀b,G' b->H b\/w.heap.size<=b)/\(∀b,G' b->b<wq.heap.size)/\MapAt G' wq M' (QdC (Qqm es f) ((xs.take j).map LE.ent))/\Nw w5 wq)) (λ_ _ v _=>xs.length -(intOf v).toNat)
 case atStart=>exact⟨0,w.heap.size,G,rfl,rfl,rfl,aA _,e7⟩
 obtain⟨j,M',G',rfl,rfl,rfl,hj,HQ⟩:=hrel;clear c0 g1;by_cases b8:j<xs.length
 ·have l1:(j:Int)<(xs.length:Int):=oM
  have p4:decide ((j:Int)<(xs.length:Int))=true:=eI l1;have l0:(0:Int)<=(j:Int):=oM
  obtain⟨x,hx⟩:∃x,xs[j]? = some x:=⟨_,ac b8⟩;obtain⟨b0,o0,e4,a9,p0,l4,cK,c9,-,b9⟩:=p8.o.at hx;have k3:=(I.o.vals x (am hx)).1;obtain⟨f8,g3,k8⟩:=l3.o x (am hx);obtain⟨q1,q2,q3,q4,q5⟩:=HQ.o;have a0:=hY (show ∀W,Nw wr W->W.cell? ⟨b0,o0+j*7,none⟩=some (.string x.k)/\W.cell? ⟨b0,o0+j*7+1,none⟩=some (.int .i64 x.v.kind)/\W.cell? ⟨b0,o0+j*7+1+1,none⟩=some (.bool x.v.b)/\W.cell? ⟨b0,o0+j*7+1+2,none⟩=some (.int .i64 x.v.i)/\W.cell? ⟨b0,o0+j*7+1+3,none⟩=some (.string x.v.t)/\W.cell? ⟨b0,o0+j*7+1+4,none⟩=some (.slice x.sl.a x.v.l.length x.sl.c)/\W.cell? ⟨b0,o0+j*7+1+5,none⟩=some (.slice x.so.a x.v.ok.length x.so.c)from
   λW hW=>by
    have ha:=gp (q5.trans hW) (F:=Lt w5) λb N=>N
    have h2:=c9.agree ha a9;exact⟨(ha.cell a9).trans cK,h2.c0,h2.c1,h2.c2,h2.c3,h2.c4,h2.c5⟩)
  have e6:Nw w wr:=I.o.nw.trans q5;have f2:setMu (QdC (Qqm es f) ((xs.take j).map LE.ent)) x.k x.v=(0,QbY (QdC (Qqm es f) ((xs.take j).map LE.ent)) x.k x.v):=eC (Qwx.2 ⟨f8,g3⟩) (Qxi ⟨f8,g3⟩);have b4:∀W,Nw wr W->Calls prog 34 #[.pointer (some M'),.string x.k,QbV x.v x.sl x.so] W λe w'=>∃M2,e=.returned (.tuple #[.pointer (some ⟨M2,0,none⟩),.int .i64 0])/\QwI G' W (QbY (QdC (Qqm es f) ((xs.take j).map LE.ent)) x.k x.v) M2 w':=λW hW=>by
   have h:=Qwn (QwB q4 hW) (λb N=>ab (q3 b N) hW.size) (QwC _ (Qkn HM.o.sorted f)) (by have h1:=QnJ ((xs.take j).map LE.ent) (Qqm es f);rw[aq,av]at h1;have:=p1.o;omega) b9 (v:=x.v) (sl:=x.sl) (so:=x.so) ((k3.agree (gp (e6.trans hW) λb N=>N.1)).mono λb N=>⟨Nat.lt_of_lt_of_le N.1 (e6.trans hW).size,λhg=>(q2 b hg).elim N.2 λh=>by have:=N.1;omega⟩) k8;rw[f2]at h;exact h
  have e0:=hY b4;have c6:QdC (Qqm es f) ((xs.take (j+1)).map LE.ent)=QbY (QdC (Qqm es f) ((xs.take j).map LE.ent)) x.k x.v:=by
   rw[aJ,hx,aB];show QdC _ (_++[(x.k,x.v)])=_;rw[Qls]
  have g4:=hY c6;have q8:=e6.size;rw[e4];clear hx e4 a9 cK c9 b9 k3 f8 g3 k8 q1 q2 q3 q4 q5 e6 f2 b4 c6;go_wp2_with fail;refine eO (S:=(λw'=>Nw wr w')) kM ((gj ((gh wr).drew))) (λhHeld=>?_);refine Qaf 0 (some 99) a0 hHeld ?_;refine Qaf 1 (some 100) a0 hHeld ?_;refine Qaf 2 (some 101) a0 hHeld ?_;refine Qaf 3 (some 102) a0 hHeld ?_;refine Qaf 4 (some 103) a0 hHeld ?_;refine Qaf 5 (some 104) a0 hHeld ?_;refine Qaf 6 (some 105) a0 hHeld ?_;refine Qaf 7 (some 106) a0 hHeld ?_;refine Qaf 8 (some 107) a0 hHeld ?_;refine Qaf 9 (some 108) a0 hHeld ?_;refine Qaf 10 (some 109) a0 hHeld ?_;refine Qac (i:=11) kM rfl (by rfl) (λK hK=>?_);go_simp
  (have o4:=hY hHeld;refine(e0.o _ hHeld).mono ?_;rintro e w7 ⟨M2,rfl,f1⟩;have f4:=hY f1;clear f1)
  refine hK.out _ _ (hHeld.trans f4.o.nw) (λhHeld=>?_);clear hK K
  try go_frame
  refine Qaf 12 (some 98) a0 hHeld ?_;refine Qaf 13 (some 111) a0 hHeld ?_;refine Qaf 14 (some 112) a0 hHeld ?_;refine Qaf 15 (some 8) a0 hHeld ?_;refine Qaf 16 (some 15) a0 hHeld ?_;refine eV kM ?_ _;go_wp2_with fail;go_roundw
  case measure=>simp[intOf];omega
  obtain⟨q1,q2,q3,q4,q5⟩:=HQ.o;obtain⟨G2,a1,a2,a3,a4,a5,a6⟩:=f4.o;have z6:=o4.o.size;exact⟨j+1,M2,G2,rfl,rfl,by go_num,b8,hY ⟨λb N=>a1 b (q1 b N),λb N=>(a2 b N).elim (q2 b) λh=>.inr oM,a3,by rw[g4.o];exact a5,q5.trans hHeld⟩⟩
 obtain rfl:j=xs.length:=oM
 have g1:decide ((xs.length:Int)<(xs.length:Int))=false:=eG oM;have d8:=hY (show Qwd H w (QdC (Qqm es f) (xs.map LE.ent)) M' wr from by
  obtain⟨q1,q2,q3,q4,q5⟩:=HQ.o;rw[aR]at q4;exact⟨G',q1,q2,q3,q4,I.o.nw.trans q5⟩)
 go_wp2_with fail;go_ret2;exact⟨M',by rw[g6.o]<;>rfl,by rw[g6.o];exact d8.o⟩
theorem Qyx{M:Nat}{es:List Ent}(h:MapAt H w M es)(hso:Sorted es)(k:ByteArray)(had:Bool){was:Val}(hv:RV w (Lt w.heap.size) was sl so) :
  Calls prog 91 #[.pointer (some M),k,had,QbV was sl so] w λe w'=>e=.returned (asM es k had was)/\Ext w w':=by
 obtain⟨r,hr⟩:∃r,asM es k had was=r:=⟨_,rfl⟩;rw[hr];unfold asM at hr;obtain⟨HSO,HV,HR,HM⟩:=Ye hso hv hr h;clear hso h hv hr;go_in;go_upto_region 1 with fail;generalize hW0:World.alloc _ _=W0;obtain⟨hx0,hb0⟩:Ext w W0/\Blk W0 w.heap.size 34 (QtS was sl so):=by rw[<-hW0];exact⟨(gh w).alloc _ _,gm w _ _⟩
 obtain⟨HG,HX0,HB0⟩:=Yc (Qzg (HM.o.ext hx0) HSO.o k) hx0 hb0;clear hW0 hx0 hb0;go_wp2_with fail;refine HG.o.mono ?_;rintro e w1 ⟨s1,s2,rfl,hx1,hv1⟩;obtain⟨HX1,HB1⟩:=Yb (HX0.o.trans hx1) (HB0.o.ext hx1);obtain⟨og,hog⟩:∃og,Qaq es k=og:=⟨_,rfl⟩;rw[hog]at hv1 HR ⊢;have HV1:=hY (hv1.mono λb hb=>ab hb hx1.size);clear hx1 hv1 hog HG HX0 HB0;cases og with
 | none=>
   have hr:(!had)=r:=HR.o;subst hr;cases had with
   | false=>
     go_wp2_with fail;go_ret;exact⟨rfl,HX1.o.alloc _ _⟩
   | true=>
     go_wp2_with fail;go_ret;exact⟨rfl,HX1.o.alloc _ _⟩
 | some x=>
   have hr:(had&&decide (Qbq x was=0))=r:=HR.o;cases had with
   | false=>
     have hr:false=r:=hr;subst hr;go_wp2_with fail;go_ret;exact⟨rfl,HX1.o.alloc _ _⟩
   | true=>
     have HR2:=hY hr;have hcall:∀W,Ext w1 W->Calls prog 42 #[QbV x s1 s2,QbV was sl so] W (QbN (Qbq x was) W):=λW hW=>
      Qgn _ x was (ao _) W s1 s2 sl so ((HV1.o.agree (hW.agree λb hb=>hb)).mono λb hb=>ab hb hW.size) ((HV.o.agree ((HX1.o.trans hW).agree λb hb=>hb)).mono λb hb=>ab hb (HX1.o.trans hW).size)
     have HC:=hY hcall;clear hr hcall;go_upto_region 2 with fail;generalize hW2:World.alloc w1 _=w2;obtain⟨hx2,hb2⟩:Ext w1 w2/\Blk w2 w1.heap.size 34 (QtS x s1 s2):=by rw[<-hW2];exact⟨(gh w1).alloc _ _,gm w1 _ _⟩
     obtain⟨b0,b1,b2,b3,b4,b5⟩:=(HB1.o.ext hx2).c6;obtain⟨d0,d1,d2,d3,d4,d5⟩:=hb2.c6;have HX2:=hY hx2;clear hW2 hx2 hb2;go_wp2_with fail;refine(HC.o _ HX2.o).mono ?_;rintro e w3 ⟨rfl,hx3⟩;have HX3:=hY ((HX1.o.trans HX2.o).trans hx3);clear hx3;go_wp2_with fail;go_ret;refine⟨?_,HX3.o⟩;rw[<-HR2.o];by_cases hz:Qbq x was=0<;>simp[hz,Act.put]
theorem Qy7(a b c d e f:Prop):¬a\/(a/\¬b)\/(a/\b/\¬c)\/(a/\b/\c/\¬d)\/(a/\b/\c/\d/\¬e)\/(a/\b/\c/\d/\e/\¬f)\/(a/\b/\c/\d/\e/\f):=by
 by_cases a<;>by_cases b<;>by_cases c<;>by_cases d<;>by_cases e<;>by_cases f<;>simp[*]
theorem QxI(w:World)(v:Val)(sl so:Sl):Calls prog 187 #[QbV v sl so,QbV zeroV Sl.none Sl.none] w λe w'=>e=.returned (Qd9 v)/\Ext w w':=by
 obtain⟨k,b,i,t,l,ok,ov⟩:=v;show Calls _ _ #[.agg #[k,b,i,t,.slice sl.a l.length sl.c,.slice so.a ok.length so.c],.agg #[.int .i64 0,false,.int .i64 0,ByteArray.empty,.slice none 0 0,.slice none 0 0]] _ λe w'=>e=.returned (.bool (k==0 && !b&&i==0&&t.size==0&&l.length==0&&ok.length==0))/\Ext w w'
 have hx:=((gh w).alloc #[.int .i64 k,.bool b,.int .i64 i,.string t,.slice sl.a l.length sl.c,.slice so.a ok.length so.c] 34).alloc #[.int .i64 0,.bool false,.int .i64 0,.string ByteArray.empty,.slice none 0 0,.slice none 0 0] 34;have I:=hY hx;clear hx;rcases Qy7 (k=0) (b=false) (i=0) (t.size=0) (l.length=0) (ok.length=0)with h |⟨h1,h⟩ |⟨h1,h2,h⟩ |⟨h1,h2,Z,h⟩ |⟨h1,h2,Z,N,h⟩ |⟨h1,h2,Z,N,h5,h⟩ |⟨h1,h2,Z,N,h5,h6⟩
 ·have g:(k == 0)=false:=eJ.2 h
  have g':(k != 0)=true:=fa.2 h;go_in;go_wp2_with fail;go_ret;exact⟨by simp[h],I.o⟩
 ·subst h1
  obtain rfl:b=true:=by simpa using h
  go_in;go_wp2_with fail;go_ret;exact⟨oO,I.o⟩
 ·subst h1 h2
  have g:(i==0)=false:=eJ.2 h;have g':(i != 0)=true:=fa.2 h;go_in;go_wp2_with fail;go_ret;exact⟨by simp[h],I.o⟩
 ·subst h1 h2 Z
  have g:=Qbr h;go_in;go_wp2_with fail;go_ret;exact⟨by simp[h],I.o⟩
 ·subst h1 h2 Z
  have g4:=Qa9 N;have g:((l.length:Int)==0)=false:=eJ.2 oM;have g':((l.length:Int) != 0)=true:=fa.2 oM;go_in;go_wp2_with fail;go_ret;exact⟨by simp[h],I.o⟩
 ·subst h1 h2 Z
  have g4:=Qa9 N;obtain rfl:=cf.1 h5;have g:((ok.length:Int)==0)=false:=eJ.2 oM;have g':((ok.length:Int) != 0)=true:=fa.2 oM;go_in;go_wp2_with fail;go_ret;exact⟨by simp[h],I.o⟩
 subst h1 h2 Z;have g4:=Qa9 N;obtain rfl:=cf.1 h5;obtain rfl:=cf.1 h6;have HT:=hY N;clear N h5 h6;go_in;go_wp2_with fail;go_loopw[5] (λv5 wr=>v5=.int .i64 0/\Yd (Ext w wr)/\wr=(w.alloc (.cells #[.int .i64 0,false,.int .i64 0,t,.slice sl.a 0 sl.c,.slice so.a 0 so.c] 34)).alloc (.cells #[.int .i64 0,false,.int .i64 0,ByteArray.empty,.slice none 0 0,.slice none 0 0] 34)) (λ_ _=>0)
 case atStart=>exact⟨rfl,I,rfl⟩
 obtain⟨rfl,HY,rfl⟩:=hrel;go_wp2_with fail;go_loopw[6] (λv6 wr=>v6=.int .i64 0/\Yd (Ext w wr)/\wr=(w.alloc (.cells #[.int .i64 0,false,.int .i64 0,t,.slice sl.a 0 sl.c,.slice so.a 0 so.c] 34)).alloc (.cells #[.int .i64 0,false,.int .i64 0,ByteArray.empty,.slice none 0 0,.slice none 0 0] 34)) (λ_ _=>0)
 case atStart=>exact⟨rfl,I,rfl⟩
 obtain⟨rfl,HZ,rfl⟩:=hrel;go_wp2_with fail;go_ret;exact⟨by simp[HT.o],I.o⟩
theorem Qw1(w:World)(v:Val)(sl so:Sl):Calls prog 158 #[QbV v sl so] w λe w'=>e=.returned (Qd9 v)/\Ext w w':=by
 obtain⟨k,b,i,t,l,I,ov⟩:=v;have N:=λW=>QxI W (.mk k b i t l I ov) sl so
 obtain⟨HQ,HX⟩:=Yb N ((gh w).alloc #[.int .i64 k,.bool b,.int .i64 i,.string t,.slice sl.a l.length sl.c,.slice so.a I.length so.c] 34);clear N;show Calls _ _ #[.agg #[k,b,i,t,.slice sl.a l.length sl.c,.slice so.a I.length so.c]] _ _;go_in;go_wp2_with fail;refine(HQ.o _).mono ?_;rintro e w' ⟨rfl,Z⟩;have HY:=hY (HX.o.trans Z);clear Z;go_wp2_with fail;go_ret;exact⟨rfl,HY.o⟩
theorem QyN(t:ByteArray):(t.size==0)=t.toList.isEmpty:=by
 by_cases h:t.size=0
 .rw [Qa9 h];simp[h]
 rw[Qbr h];simp[h]
theorem len_nil(n:Nat):(n==0)=((n:Int)==0):=by
 by_cases h:n=0
 .simp [h]
 rw[eJ.2 h,eJ.2 oM]
theorem QwK(m:Mu):Qai m=(decide (1<=m.kd/\m.kd<=7)&&(m.kd==6||m.tk.toList.isEmpty)&&(m.kd==3||m.i==0)&&(m.kd==4||m.kd==7 || !m.had)&&(m.kd==4 || !m.has)&&(m.had||Qd9 m.was)&&(QhW m.kd m.has||Qd9 m.v)&&(m.kd==7 ||((m.l.length:Int)==0))):=by
 unfold Qai QbJ QhW;rw[QyN,len_nil]
theorem Qv9{p q r:Prop}(h:p\/q)(k:r):q\/(p/\r):=h.elim (λI=>.inr ⟨I,k⟩) .inl
theorem Qxo{p q r s:Prop}(h:p\/q)(k:r)(l:s):(p/\r)\/(q/\s):=h.elim (λI=>.inl ⟨I,k⟩) λN=>.inr ⟨N,l⟩
theorem bt(b:Bool):b=true\/b=false:=by cases b<;>simp
theorem bf(b:Bool):b=false\/b=true:=by cases b<;>simp
theorem kinds{k:Int}{s:Bool}(h:1<=k/\k<=7){A B C D E F:Prop}(a:A)(b:B)(c:C)(d:D)(e:E)(f:F) :
  ((k==6)=false/\(k==3)=false/\(k==4)=false/\(k==7)=false/\QhW k s=true/\A)\/
  ((k==6)=false/\(k==3)=false/\(k==4)=false/\(k==7)=false/\QhW k s=false/\B)\/
  ((k==6)=false/\(k==3)=true/\(k==4)=false/\(k==7)=false/\QhW k s=false/\C)\/
  ((k==6)=false/\(k==3)=false/\(k==4)=true/\(k==7)=false/\QhW k s=s/\D)\/
  ((k==6)=true/\(k==3)=false/\(k==4)=false/\(k==7)=false/\QhW k s=false/\E)\/
  ((k==6)=false/\(k==3)=false/\(k==4)=false/\(k==7)=true/\QhW k s=false/\F):=by
 have I:k=1\/k=2\/k=3\/k=4\/k=5\/k=6\/k=7:=oM
 rcases I with rfl|rfl|rfl|rfl|rfl|rfl|rfl<;>simp[QhW,a,b,c,d,e,f]
theorem QxG(w:World)(m:Mu)(c:MuS):Calls prog 126 #[Qaz m c] w λe w'=>e=.returned (Qai m)/\Ext w w':=by
 obtain⟨r,hr⟩:∃r,Qai m=r:=⟨_,rfl⟩;rw[hr];obtain⟨vl,b5⟩:∃b,QhW m.kd m.has=b:=⟨_,rfl⟩;rw[QwK,b5]at hr;have HR:=hY hr;have b9:=hY λW=>Qw1 W m.was c.w1 c.w2
 have d3:=hY λW=>Qw1 W m.v c.v1 c.v2
 clear hr;obtain⟨gd,b8⟩:∃b,(m.kd==4||m.kd==7)=b:=⟨_,rfl⟩;obtain⟨HG,HL⟩:=Yb b8 b5;clear b8 b5;go_in;go_upto_region 1 with fail;generalize b7:World.alloc _ _=W0;obtain⟨b6,b3,-⟩:=QaB (m:=m) (c:=c) b7;obtain⟨a0,a1⟩:=Yb b6 b3;have c0:=b3.kind;clear b7 b6 b3;by_cases I:m.kd<1
 ·have g:decide (m.kd<1)=true:=eI I
  have HO:=hY I;clear I;go_wp2_with fail;go_ret;exact⟨by rw[<-HR.o,eG (λh=>by have:=HO.o;omega)]<;>rfl,a0.o⟩
 by_cases a2:7<m.kd
 ·have g:decide (m.kd<1)=false:=eG I
  have g':decide (7<m.kd)=true:=eI a2;have HO:=hY a2;clear I a2;go_wp2_with fail;go_ret;exact⟨by rw[<-HR.o,eG (λh=>by have:=HO.o;omega)]<;>rfl,a0.o⟩
 have g:decide (m.kd<1)=false:=eG I;have g':decide (7<m.kd)=false:=eG a2;have HK:=hY (show 1<=m.kd/\m.kd<=7 by omega);have HD:=hY (eI HK.o);rw[HD.o]at HR;clear I a2 HD;go_upto_region 4 with fail;clear g g' c0;go_cut [4] (λv w'=>v=.bool gd/\w'=W0)
 case first=>
  cases h4:(m.kd==4)with
  |true=>go_wp2_with fail;go_meet;case rel=>exact⟨by rw[<-HG.o];simp[h4],rfl⟩
  |false=>cases h7:(m.kd==7) <;>(go_wp2_with fail;go_meet;case rel=>exact⟨by rw[<-HG.o];simp[h4,h7],rfl⟩)
 obtain⟨hv,hw⟩:=hcut;subst hv;obtain rfl:W0=wc:=hw.symm;have N:=a1.o.c11;go_upto_region 5 with fail;go_cut [5] (λv w'=>v=.bool vl/\w'=W0)
 case first=>
  cases h1:(m.kd==1)with
  |true=>go_wp2_with fail;go_meet;case rel=>exact⟨by rw[<-HL.o];simp[QhW,h1],rfl⟩
  | false=>cases h5:(m.kd == 5) with
    |true=>go_wp2_with fail;go_meet;case rel=>exact⟨by rw[<-HL.o];simp[QhW,h1,h5],rfl⟩
    |false=>cases h4:(m.kd==4) <;>(go_wp2_with fail;go_meet;case rel=>exact⟨by rw[<-HL.o];simp[QhW,h1,h4,h5],rfl⟩)
 obtain⟨hv,hw⟩:=hcut;subst hv;obtain rfl:W0=wc:=hw.symm;clear N;obtain⟨c0,c1,c2,c3,c4,c5,c6,c7,c8,c9,a4,N,a3,a9,a7,a8,a5,b0,a6⟩:=a1.o.c19;simp only[Nat.zero_add]at c0 c1 c2 c3 c4 c5 c6 c7 c8 c9 a4 N a3 a9 a7 a8 a5 b0 a6;have X:=Qxo (bt m.has) (bt ((m.l.length:Int)==0)) (Qv9 (bt (Qd9 m.v)) (bt ((m.l.length:Int)==0)));have zl:=Qv9 (bt (Qd9 m.was)) (Qv9 (bt (Qd9 m.v)) (bt ((m.l.length:Int)==0)));have hz:=Qv9 (bf m.had) (Qv9 (bf m.has) zl);have cP:=Qv9 (bt m.tk.toList.isEmpty) (Qv9 (bt (m.i==0)) (Qv9 (bf m.had) (Qv9 (bf m.has) (Qv9 (bt (Qd9 m.was)) (bt ((m.l.length:Int)==0))))));have cD:=Qv9 (bt m.tk.toList.isEmpty) (Qv9 (bt (m.i==0)) hz);have cI:=Qv9 (bt m.tk.toList.isEmpty) hz;have cM:=Qv9 (bt (m.i==0)) hz;have cC:=Qv9 (bt m.tk.toList.isEmpty) (Qv9 (bt (m.i==0)) (Qxo (bt m.had) X (Qv9 (bt (Qd9 m.was)) X)));have cS:=Qv9 (bt m.tk.toList.isEmpty) (Qv9 (bt (m.i==0)) (Qv9 (bf m.has) (Qxo (bt m.had) (bt (Qd9 m.v)) (Qv9 (bt (Qd9 m.was)) (bt (Qd9 m.v))))));have d0:=kinds (s:=m.has) HK.o cP cD cI cC cM cS;clear X zl hz cP cD cI cM cC cS;rcases d0 with⟨h6,h3,h4,h7,hV,g1 |⟨g1,g2 |⟨g2,g3 |⟨g3,Z |⟨Z,g5 |⟨g5,g|g⟩⟩⟩⟩⟩⟩ |
  ⟨h6,h3,h4,h7,hV,g1 |⟨g1,g2 |⟨g2,g3 |⟨g3,Z |⟨Z,g5 |⟨g5,g6 |⟨g6,g|g⟩⟩⟩⟩⟩⟩⟩ |
  ⟨h6,h3,h4,h7,hV,g1 |⟨g1,g3 |⟨g3,Z |⟨Z,g5 |⟨g5,g6 |⟨g6,g|g⟩⟩⟩⟩⟩⟩ |
  ⟨h6,h3,h4,h7,hV,g1 |⟨g1,g2 |⟨g2,⟨g3,⟨Z,g|g⟩ |⟨Z,g6 |⟨g6,g|g⟩⟩⟩ |⟨g3,g5 |⟨g5,⟨Z,g|g⟩ |⟨Z,g6 |⟨g6,g|g⟩⟩⟩⟩⟩⟩⟩ |
  ⟨h6,h3,h4,h7,hV,g2 |⟨g2,g3 |⟨g3,Z |⟨Z,g5 |⟨g5,g6 |⟨g6,g|g⟩⟩⟩⟩⟩⟩ |
  ⟨h6,h3,h4,h7,hV,g1 |⟨g1,g2 |⟨g2,Z |⟨Z,⟨g3,g6|g6⟩ |⟨g3,g5 |⟨g5,g6|g6⟩⟩⟩⟩⟩⟩
 all_goals (
  have hG:=HG.o;have hU:=HL.o;rw[h4,h7]at hG;rw[hV]at hU;subst hG hU;go_wp2_with fail
  repeat (
   first|refine(b9.o _).mono ?_|refine(d3.o _).mono ?_
   rintro e W1 ⟨rfl,b4⟩
   replace a0:=hY (a0.o.trans b4)
   replace a1:=hY (a1.o.ext b4)
   clear b4 c0 c1 c2 c3 c4 c5 c6 c7 c8 c9 a4 N a3 a9 a7 a8 a5 b0 a6;obtain⟨c0,c1,c2,c3,c4,c5,c6,c7,c8,c9,a4,N,a3,a9,a7,a8,a5,b0,a6⟩:=a1.o.c19;simp only[Nat.zero_add]at c0 c1 c2 c3 c4 c5 c6 c7 c8 c9 a4 N a3 a9 a7 a8 a5 b0 a6;go_wp2_with fail)
  go_ret;have hR:=HR.o;simp only[h6,h3,h4,h7,hV, *,Bool.and_true,Bool.true_and,Bool.false_and,Bool.and_false,Bool.or_true,Bool.true_or,Bool.false_or,Bool.or_false,Bool.not_true,Bool.not_false]at hR;subst hR;exact⟨by simp[Act.put]<;>rfl,a0.o⟩)
theorem QwV(w:World)(p:ByteArray):Calls prog 159 #[p] w λe w'=>e=.returned (Qol p)/\w'=w:=by
 by_cases h:p.size<=64
 ·have I:Qol p=Lib.validD p.data.toList:=by unfold Qol;rw [eI h];rfl
  obtain⟨HB,N⟩:=Yb I (Qwe w p oM);have g:((p.size:Int)<=64):=oM
  clear I h;go_in;go_wp2_with fail;refine N.o.mono ?_;rintro e w' ⟨rfl,rfl⟩;go_wp2_with fail;go_ret;exact⟨by rw[HB.o]<;>rfl,rfl⟩
 have I:Qol p=false:=by unfold Qol;rw[eG h];rfl
 have HB:=hY I;have g:¬((p.size:Int)<=64):=oM
 clear I h;go_in;go_wp2_with fail;go_ret;exact⟨by rw[HB.o]<;>rfl,rfl⟩
theorem Qyf(w:World)(m:Mu)(c:MuS)(hk:m.k.size<=maxLen):Calls prog 127 #[Qaz m c] w λe w'=>e=.returned (QgF m.kd m.k m.tk m.had)/\Ext w w':=by
 by_cases h6:m.kd=6
 ·have hr:QgF m.kd m.k m.tk m.had=(Qol m.k && Qol m.tk):=by unfold QgF;rw [eH h6]
  have HR:=hY hr;have e6:(m.kd==6)=true:=by simp[h6]
  clear hr h6 hk;go_in;go_upto_region 1 with fail;generalize Z:World.alloc _ _=W0;obtain⟨N,I,a1⟩:=QaB (m:=m) (c:=c) Z;have a0:=hY N;have c0:=I.kind;have c1:=I.c1;have c2:=I.c2;clear Z N I a1;go_wp2_with fail;refine(QwV W0 m.k).mono ?_;rintro e w1 ⟨rfl,rfl⟩;rcases aY (Qol m.k)with hb|hb
  ·have HB:=hY hb
   rw[hb];clear hb;go_wp2_with fail;refine(QwV _ m.tk).mono ?_;rintro e w2 ⟨rfl,rfl⟩;go_wp2_with fail;go_ret;exact⟨by rw[HR.o,HB.o]<;>rfl,a0.o⟩
  have HB:=hY hb;rw[hb];clear hb;go_wp2_with fail;go_ret;exact⟨by rw[HR.o,HB.o]<;>rfl,a0.o⟩
 have e6:(m.kd==6)=false:=by simp[h6]
 by_cases a2:m.kd=7/\m.k.size=0
 ·have e7:(m.kd == 7)=true:=by simp [a2.1]
  have hr:QgF m.kd m.k m.tk m.had=!m.had:=by unfold QgF;rw[eE h6,eH a2]
  have HR:=hY hr;have g0:=Qa9 a2.2;clear hr h6 hk a2;go_in;go_upto_region 1 with fail;generalize Z:World.alloc _ _=W0;obtain⟨N,I,a1⟩:=QaB (m:=m) (c:=c) Z;have a0:=hY N;have c0:=I.kind;have c1:=I.c1;have c4:=I.c4;clear Z N I a1;go_wp2_with fail;go_ret;exact⟨by rw[HR.o]<;>rfl,a0.o⟩
 have hr:QgF m.kd m.k m.tk m.had=(Qci m.k==0):=by unfold QgF;rw[eE h6,eE a2]
 have HR:=hY hr;have HM:=hY λW=>QwP W m.k hk
 have a3:(m.kd==7)=false\/(m.kd==7)=true/\¬m.k.size=0:=by
  by_cases h7:m.kd=7
  .exact .inr ⟨by simp[h7],λh=>a2 ⟨h7,h⟩⟩
  exact .inl (by simp[h7])
 clear hr h6 a2 hk;rcases a3 with e7 |⟨e7,h0⟩
 ·go_in
  go_upto_region 1 with fail;generalize Z:World.alloc _ _=W0;obtain⟨N,I,a1⟩:=QaB (m:=m) (c:=c) Z;have a0:=hY N;have c0:=I.kind;have c1:=I.c1;clear Z N I a1;go_wp2_with fail;refine(HM.o _).mono ?_;rintro e w1 ⟨rfl,rfl⟩;go_wp2_with fail;go_ret;exact⟨by rw[HR.o]<;>rfl,a0.o⟩
 have g0:=Qbr h0;clear h0;go_in;go_upto_region 1 with fail;generalize Z:World.alloc _ _=W0;obtain⟨N,I,a1⟩:=QaB (m:=m) (c:=c) Z;have a0:=hY N;have c0:=I.kind;have c1:=I.c1;clear Z N I a1;go_wp2_with fail;refine(HM.o _).mono ?_;rintro e w1 ⟨rfl,rfl⟩;go_wp2_with fail;go_ret;exact⟨by rw[HR.o]<;>rfl,a0.o⟩
theorem Qxu(n:Nat):∀(m:Mu) (c:MuS) (w:World),SizeOf.sizeOf m<=n->RMu w (Lt w) m c->Qa0 m<=1100000->Calls prog 87 #[Qaz m c] w λe w'=>e=.returned (.int .i64 (Qa0 m:Int))/\Ext w w':=by
 induction n with
 |zero=>intro m c w h;have:=Mu.Qb6 m;omega
 | succ n ih=>
   intro m c w hn hm hs;obtain⟨HI,HM⟩:=Yb ih hm;have c4:=hm.len;obtain⟨a7,HS,HN⟩:=Yc (Qf7 m) hs hn;clear ih hm hs hn;go_in;go_upto_region 1 with fail;generalize a0:World.alloc _ _=W0;obtain⟨a9,a5,-⟩:=QaB (m:=m) (c:=c) a0;have c2:=hY a9;have c3:w.heap.size<W0.heap.size:=by rw[<-a0,eK];omega
   have b7:W0.cell? ⟨w,8+10,none⟩=some (.slice c.s.a m.l.length c.s.c):=a5 18 _ rfl;clear a0 a9 a5;go_wp2_with fail;go_loopw[3,4] (λv3 v4 wr=>∃j:Nat,v4=.int .i64 (j:Int)/\v3=.int .i64 ((1+QaF (m.l.take j):Nat):Int)/\j<=m.l.length/\Yd (Ext W0 wr)) (λ_ v _=>m.l.length -(intOf v).toNat)
   case atStart=>exact⟨0,rfl,by simp[QaF],aA _,hY (gh W0)⟩
   obtain⟨j,rfl,rfl,hj,Z⟩:=hrel;have b0:wr.cell? ⟨w,8+10,none⟩=some (.slice c.s.a m.l.length c.s.c):=(Z.o.cell c3).trans b7;have HX:=hY (c2.o.trans Z.o);by_cases a3:j<m.l.length
   ·have l1:(j:Int)<(m.l.length:Int):=oM
    have c7:decide ((j:Int)<(m.l.length:Int))=true:=eI l1;have l0:(0:Int)<=(j:Int):=oM
    obtain⟨x,hx⟩:∃x,m.l[j]? = some x:=⟨_,ac a3⟩;obtain⟨b,o,y,c1,a2,c8,c6,b4,a6⟩:=HM.o.at hx;have a2:b<w:=a2;have a8:=hY (b4.agree (HX.o.agree λ_ h=>h) a2);have b8:Qa0 x<=QaF m.l:=by
     have h1:=Qde hx;have h2:=QeZ m.l (j+1);omega
    have b3:1+QaF m.l<=1100000:=by rw[<-a7.o];exact HS.o
    have I:=HI.o x y wr (by have:=Mu.Qsr hx;have:=HN.o;omega) ((a6.agree (HX.o.agree λ_ h=>h)).mono λb hb=>ab hb HX.o.size) oM;obtain⟨a1,b9⟩:=Yb I (Qde hx);have N:=QeZ m.l (j+1);have a4:wrap64 (1+(QaF (m.l.take j):Int)+(Qa0 x:Int))=((1+QaF (m.l.take (j+1)):Nat):Int):=by
     unfold wrap64;rw[b9.o]at N ⊢;omega
    have b6:=hY a4;rw[c1]at b0;clear a6 b4 b8 b3 I N a4 hx;go_wp2_with(refine Qah rfl (.tmp 16) rfl b (o+j*19) rfl x y a8.o ?_);refine a1.o.mono ?_;rintro e w2 ⟨rfl,b5⟩;have c0:=hY (Z.o.trans b5);clear b5;go_wp2_with fail;go_roundw
    case rel=>exact⟨j+1,by go_num,by rw[b6.o],a3,c0⟩
    simp[intOf];omega
   obtain rfl:j=m.l.length:=oM
   have l1:decide ((m.l.length:Int)<(m.l.length:Int))=false:=eG oM;have HT:=hY (show((1+QaF (m.l.take m.l.length):Nat):Int)=(Qa0 m:Int)by rw[aR,a7.o]);go_wp2_with fail;go_ret;exact⟨by rw[HT.o]<;>rfl,HX.o⟩
variable{c:MuS}
theorem QxO{m:Mu}(h:RMu w (Lt w) m c)(hs:Qa0 m<=1100000):Calls prog 87 #[Qaz m c] w λe w'=>e=.returned (.int .i64 (Qa0 m:Int))/\Ext w w':=Qxu _ m c w (ao _) h hs
theorem Qyz{m:Mu}(h:Qai m=true):(m.has||m.kd==1||m.kd==5)=QhW m.kd m.has:=by
 rw[QwK]at h;simp only[Bool.and_eq_true]at h;obtain⟨⟨⟨⟨-,h⟩,-⟩,-⟩,-⟩:=h;unfold QhW;cases hs:m.has
 .simp
 rw[hs]at h;have:m.kd=4:=by simpa using h
 simp[this]
theorem QwZ{m:Mu}{d:Nat}(hd:d<=7)(hm:RMu w (Lt w) m c)(ht:QcC m<=1100000)
  (ih:d<=6->∀(x:Mu) (y:MuS) (W:World),RMu W (Lt W) x y->QcC x<=1100000->Calls prog 88 #[Qaz x y,.int .i64 ((d+1:Nat):Int)] W λe w'=>e=.returned (.int .i64 (QaS x (d+1)))/\Ext W w') :
  Calls prog 88 #[Qaz m c,.int .i64 (d:Int)] w λe w'=>e=.returned (QaS m d)/\Ext w w':=by
 obtain⟨HI,HM,HT,HD⟩:=Ye ih hm ht hd;clear ih hm ht hd;go_in;go_upto_region 1 with fail;generalize f0:World.alloc _ _=W0;obtain⟨e8,c1,g5⟩:=QaB (m:=m) (c:=c) f0;obtain⟨f8,e4⟩:=Yb e8 c1;clear f0 e8 c1 g5;go_wp2_with(refine Qah rfl (.tmp 2) rfl w.heap.size 0 rfl m c e4.o ?_);refine(QxG _ m c).mono ?_;rintro e w1 ⟨rfl,b0⟩;obtain⟨b3,b9⟩:=Yb (f8.o.trans b0) (e4.o.ext b0);clear b0;rcases aY (Qai m)with hb|hb
 rotate_left
 ·have HE:=hY (Qvq (d:=d) hb)
  rw[hb];clear hb;go_wp2_with fail;go_ret;exact⟨by rw[HE.o]<;>rfl,b3.o⟩
 have Z:=hY hb;rw[hb];clear hb;by_cases h6:6<d
 ·have g:decide ((6:Int)<(d:Int))=true:=eI oM
  have HE:=hY (Qvo (d:=d) Z.o h6);clear h6;go_wp2_with fail;go_ret;exact⟨by rw[HE.o]<;>rfl,b3.o⟩
 have H6:=hY h6;have g6:decide ((6:Int)<(d:Int))=false:=eG oM;clear h6;go_wp2_with(refine Qah rfl (.tmp 2) rfl w.heap.size 0 rfl m c b9.o ?_);refine(Qyf _ m c HM.o.parts.2.2.1).mono ?_;rintro e w3 ⟨rfl,b6⟩;obtain⟨a4,a7⟩:=Yb (b3.o.trans b6) (b9.o.ext b6);clear b6 g6;rcases aY (QgF m.kd m.k m.tk m.had)with hk|hk
 rotate_left
 ·have HE:=hY (Qvp (d:=d) Z.o H6.o hk)
  rw[hk];clear hk;go_wp2_with fail;go_ret;exact⟨by rw[HE.o]<;>rfl,a4.o⟩
 have HK:=hY hk;rw[hk];clear hk;have e0:∀W,Ext w W->RMu W (Lt W) m c:=λW hW=>HM.o.nw (gj hW)
 have e7:=hY e0;clear e0;have c4:=a7.o.c4;obtain⟨c5,c6,c7,c8,c9,f2⟩:=a7.o.Qop;go_upto_if 18 with fail;go_cut [] (λwc=>Ext w3 wc/\(m.had&&QcP m.was != 0)=false)
 case first=>
  rcases aY m.had with hh|hh
  ·rw [hh]
   go_wp2_with fail;refine(Qwu (d:=m.was) (e7.o _ a4.o).parts.1 (ak (Qkz m).2 HT.o)).mono ?_;rintro e w4 ⟨rfl,a3⟩;obtain⟨a0,f9⟩:=Yb (a4.o.trans a3) a3;by_cases N:QcP m.was=0
   ·have HF:=hY N
    rw[N];clear N hh a3;go_wp2_with fail;go_meet;exact⟨f9.o,by rw[HF.o];simp⟩
   obtain⟨HF,HE⟩:=Yb N (lookW (d:=d) Z.o H6.o HK.o hh N);have g0:(QcP m.was != 0)=true:=by simp[N]
   clear N hh a3;go_wp2_with fail;go_ret;exact⟨by rw[HE.o]<;>rfl,a0.o⟩
  rw[hh];go_wp2_with fail;go_meet;exact⟨gh _,by rw[hh];rfl⟩
 obtain⟨b7,hs⟩:=hcut;obtain⟨a0,HS,a2⟩:=Yc (a4.o.trans b7) hs (a7.o.ext b7);clear b7 hs c4 c5 c6 c7 c8 c9 f2;have c0:=a2.o.kind;have g8:=a2.o.c11;obtain⟨f1,i1,g7,i0,f5,f3⟩:=a2.o.v6;have a8:=Qyz Z.o;obtain⟨vl,b4⟩:∃b,QhW m.kd m.has=b:=⟨_,rfl⟩;have d3:=hY b4;rw[b4]at a8;have g9:=hY a8;clear a8 b4;go_upto_region 11 with fail;go_cut [36] (λv w'=>v=.bool vl/\w'=wc)
 case first=>
  have f7:(m.has=true/\vl=true)\/(m.has=false/\(m.kd==1)=true/\vl=true)\/(m.has=false/\(m.kd==1)=false/\(m.kd==5)=true/\vl=true)\/(m.has=false/\(m.kd==1)=false/\(m.kd==5)=false/\vl=false):=by
   have h:=g9.o;cases h1:m.has<;>cases h2:(m.kd==1)<;>cases h3:(m.kd==5)<;>rw[h1,h2,h3]at h<;>simp_all
  rcases f7 with⟨e1,ev⟩ |⟨e1,e2,ev⟩ |⟨e1,e2,e3,ev⟩ |⟨e1,e2,e3,ev⟩
  all_goals (
   have EV:=hY ev;clear ev;go_wp2_with fail;go_meet;exact⟨by rw[EV.out],rfl⟩)
 obtain⟨hv,hw⟩:=hcut;subst hv;clear c0 g8;rename_i wz;subst hw;go_upto_if 36 with fail;go_cut [] (λw'=>Ext wc w'/\(vl&&QcP m.v != 0)=false)
 case first=>
  rcases aY vl with ev|ev
  ·rw [ev]
   go_wp2_with fail;refine(Qwu (d:=m.v) (e7.o _ a0.o).parts.2.1 (ak (Qkz m).1 HT.o)).mono ?_;rintro e w5 ⟨rfl,a6⟩;obtain⟨b5,f4⟩:=Yb (a0.o.trans a6) a6;by_cases N:QcP m.v=0
   ·have HF:=hY N
    rw[N];clear N a6;go_wp2_with fail;go_meet;exact⟨f4.o,by rw[HF.o];simp⟩
   obtain⟨HF,HE⟩:=Yb N (Qvs (d:=d) Z.o H6.o HK.o HS.o (d3.o.trans ev) N);have g0:(QcP m.v != 0)=true:=by simp[N]
   clear N a6;go_wp2_with fail;go_ret;exact⟨by rw[HE.o]<;>rfl,b5.o⟩
  rw[ev];go_wp2_with fail;go_meet;exact⟨gh _,by rw[ev];rfl⟩
 obtain⟨a5,d6⟩:=hcut;have b5:=hY (a0.o.trans a5);have g4:wc.cell? ⟨w,8+10,none⟩=some (.slice c.s.a m.l.length c.s.c):=(a2.o.ext a5) 18 _ rfl;have g3:w.heap.size<wc.heap.size:=(a2.o.ext a5).lt;have HC:=hY (Qvr Z.o H6.o HK.o HS.o (by rw[d3.o];exact d6));have i4:=HM.o.len;have c2:wrap64 ((d:Int)+1)=((d+1:Nat):Int):=by
  have:=H6.o;unfold wrap64;omega
 have f6:=hY c2;clear a5 d6 f1 i1 g7 i0 f5 f3 c2;go_wp2_with fail;go_loopw[7] (λv7 wr=>∃j:Nat,v7=.int .i64 (j:Int)/\j<=m.l.length/\Yd (Ext w wr/\Ext wc wr)/\Yd (Qb5 (m.l.drop j) (d+1)=Qb5 m.l (d+1))) (λv _=>m.l.length -(intOf v).toNat)
 case atStart=>exact⟨0,rfl,aA _,hY ⟨b5.o,gh _⟩,hY rfl⟩
 obtain⟨j,rfl,hj,HX,HJ⟩:=hrel;have d4:wr.cell? ⟨w,8+10,none⟩=some (.slice c.s.a m.l.length c.s.c):=(HX.o.2.cell g3).trans g4;by_cases d8:j<m.l.length
 ·have l1:(j:Int)<(m.l.length:Int):=oM
  have i7:decide ((j:Int)<(m.l.length:Int))=true:=eI l1;have l0:(0:Int)<=(j:Int):=oM
  obtain⟨x,hx⟩:∃x,m.l[j]? = some x:=⟨_,ac d8⟩;obtain⟨b,o,y,i2,i3,i6,i5,d7,e6⟩:=HM.o.at hx;have d0:=hY (d7.ext HX.o.1);have a1:=HI.o (by have:=H6.o;omega) x y wr (e6.nw (gj HX.o.1)) (ak (Qgb hx) (ak (QsJ m) HT.o));have b8:=hY a1;have I:=QpG hx (d+1);rw[HJ.o]at I;have d5:=hY I;clear e6 d7 a1 hx i3 I;rw[i2]at d4;go_wp2_with(refine Qah rfl (.tmp 53) rfl b (o+j*19) rfl x y d0.o ?_);rw[f6.o];refine b8.o.mono ?_;rintro e w2 ⟨rfl,a9⟩;have c3:=hY (And.intro (HX.o.1.trans a9) (HX.o.2.trans a9));clear a9;by_cases N:QaS x (d+1)=0
  ·have I:=d5.o
   rw[eE (λh=>h N)]at I;have HA:=hY I.symm;rw[N];clear N I;go_wp2_with fail;go_roundw
   case rel=>exact⟨j+1,by go_num,d8,c3,HA⟩
   simp[intOf];omega
  have I:=d5.o;rw[eH N]at I;have HE:=hY (HC.o.trans I);have g0:(QaS x (d+1) != 0)=true:=by simp[N]
  clear N I;go_wp2_with fail;go_ret;exact⟨by rw[HE.o]<;>rfl,c3.o.1⟩
 obtain rfl:j=m.l.length:=oM
 have l1:decide ((m.l.length:Int)<(m.l.length:Int))=false:=eG oM;have HE:=hY (show QaS m d=0 by rw[HC.o,<-HJ.o,cQ];rfl);go_wp2_with fail;go_ret;exact⟨by rw[HE.o]<;>rfl,HX.o.1⟩
theorem QxK(n:Nat):∀(d:Nat) (m:Mu) (c:MuS) (w:World),d+n=7->RMu w (Lt w) m c->QcC m<=1100000->Calls prog 88 #[Qaz m c,.int .i64 (d:Int)] w λe w'=>e=.returned (QaS m d)/\Ext w w':=by
 induction n with
 |zero=>exactλd m c w hd N I=>QwZ oM N I λh=>oM
 |succ n ih=>exactλd m c w hd N I=>QwZ oM N I λh x y W hx Z=>ih (d+1) x y W oM hx Z
theorem QxX{m:Mu}(hm:RMu w (Lt w) m c)(ht:QcC m<=1100000):Calls prog 58 #[Qaz m c] w λe w'=>e=.returned (QbP m)/\Ext w w':=by
 obtain⟨r,hr⟩:∃r,QbP m=r:=⟨_,rfl⟩;have hs:=ak (Qsp m) ht;rw[hr];unfold QbP at hr;obtain⟨HR,HS,HM,HT⟩:=Ye hr hs hm ht;clear hr hs hm ht;go_in;go_upto_region 1 with fail;generalize a2:World.alloc _ _=W0;obtain⟨a1,a4,-⟩:=QaB (m:=m) (c:=c) a2;obtain⟨a0,a3⟩:=Yb a1 a4;clear a2 a1 a4;go_wp2_with(refine Qah rfl (.tmp 1) rfl w.heap.size 0 rfl m c a3.o ?_);refine(QxO (HM.o.nw (gj a0.o)) HS.o).mono ?_;rintro e w1 ⟨rfl,N⟩;obtain⟨Z,a6⟩:=Yb (a0.o.trans N) (a3.o.ext N);clear N;by_cases h:64<Qa0 m
 ·have g:decide ((64:Int)<(Qa0 m:Int))=true:=eI oM
  have HH:=hY h;clear h;go_wp2_with fail;go_ret;exact⟨by rw[<-HR.o,eH HH.o]<;>rfl,Z.o⟩
 have g:decide ((64:Int)<(Qa0 m:Int))=false:=eG oM;have HH:=hY h;have I:=QxK 6 1 m c w1 rfl (HM.o.nw (gj Z.o)) HT.o;have HC:=hY I;clear h I;go_wp2_with(refine Qah rfl (.tmp 1) rfl w.heap.size 0 rfl m c a6.o ?_);refine HC.o.mono ?_;rintro e w2 ⟨rfl,a5⟩;have a7:=hY (Z.o.trans a5);clear a5;go_wp2_with fail;go_ret;exact⟨by rw[<-HR.o,eE HH.o]<;>rfl,a7.o⟩
variable{w':World}
theorem RMu.after{H H':Nat->Prop}{m:Mu}(h:RMu w (NH H w) m c)(k:Nw w w')(N:∀b,H' b->H b\/w.heap.size<=b):RMu w' (NH H' w') m c:=
 (h.agree (gp k λb I=>I.1)).mono λb I=>⟨Nat.lt_of_lt_of_le I.1 k.size,λe=>(N b e).elim I.2 λe=>by have:=I.1;omega⟩
theorem MapAt.nw{M:Nat}{es:List Ent}(h:MapAt H w M es)(k:Nw w w'):MapAt H w' M es:=h.sb k (λb I=>I.elim) λI=>I.elim
def Qy5(m:Mu):Prop:=∀(j:Nat) (x:Mu),m.l[j]? = some x->∀(y:MuS) (H:Nat->Prop) (W:World) (M:Nat) (es:List Ent),MapAt H W M es->(∀b,H b->b<W.heap.size)->OkM es->es.length+Qa0 x<=50000->RMu W (NH H W) x y->QcC x<=1000000->
 Calls prog 59 #[.pointer (some ⟨M,0,none⟩),Qaz x y] W (Qwh H W (stepM x es))
theorem Qys{m:Mu}{es:List Ent}(h:MapAt H w M0 es)(hH:∀b,H b->b<w.heap.size)(hM:OkM es)(hc:es.length+Qa0 m<=50000)(hm:RMu w (NH H w) m c)(ht:QcC m<=1000000)(hb:Qai m=true)(e0:QgF m.kd m.k m.tk m.had=true)(ih:Qy5 m) :
  Calls prog 59 #[.pointer (some M0),Qaz m c] w (Qwh H w (stepM m es)):=by
 have j4:m.kd=1\/m.kd=2\/m.kd=3\/m.kd=4\/m.kd=5\/m.kd=6\/m.kd=7:=by
  rw[QwK]at hb;simp only[Bool.and_eq_true,decide_eq_true_eq]at hb;have:=hb.1.1.1.1.1.1.1;omega
 obtain⟨g6,f1,d0,b0,g3⟩:=hm.parts;have k4:=Qkz m;have a6:∀{W:World},Nw w W->MapAt H W M0 es/\(∀b,H b->b<W.heap.size):=λhW=>⟨h.nw hW,λb hb=>ab (hH b hb) hW.size⟩
 have e2:∀{W:World} {d:Val} {sl so:Sl},Nw w W->RV w (NH H w) d sl so->RV W (NH H W) d sl so:=λhW hd=>(hd.agree (gp hW λb hb=>hb.1)).mono λb hb=>⟨Nat.lt_of_lt_of_le hb.1 hW.size,hb.2⟩
 have b3:=hY (show ∀W,Nw w W->Qwd H w es M0 W fromλW hW=>Qwd.self h hH hW);have e7:=hY (show ∀W,Nw w W->Calls prog 34 #[.pointer (some M0),m.k,QbV m.v c.v1 c.v2] W (Qwh H W (setMu es m.k m.v)) fromλW hW=>
  (Qwn (a6 hW).1 (a6 hW).2 hM.sorted oM d0 (e2 hW f1) oM).mono λe w' ⟨M',a,b⟩=>⟨M',a,b.old⟩)
 obtain⟨g9,i2⟩:=Yb (show ∀W,Nw w W->Calls prog 90 #[.pointer (some M0),m.k,m.i] W (Qwh H W (Qeb es m.k m.i)) fromλW hW=>Qyc (a6 hW).1 (a6 hW).2 hM.sorted oM d0 g3) (show ∀W,Nw w W->Calls prog 92 #[.pointer (some M0),m.k,QbV m.v c.v1 c.v2] W (Qwh H W (Qq1 es m.k m.v)) fromλW hW=>Qx0 (a6 hW).1 (a6 hW).2 hM oM d0 (e2 hW f1) oM);have g4:=hY (show m.kd=6->∀W,Nw w W->Calls prog 93 #[.pointer (some M0),m.k,m.tk] W (Qwh H W (QgM es m.k m.tk)) fromλh6 W hW=>Qyj (a6 hW).1 (a6 hW).2 hM oM d0 (by
  unfold QgF at e0;rw[eH h6]at e0;simp only[Bool.and_eq_true,Qol,decide_eq_true_eq]at e0;omega))
 obtain⟨f6,d4⟩:=Yb (show ∀W,Nw w W->Calls prog 91 #[.pointer (some M0),m.k,m.had,QbV m.was c.w1 c.w2] W λe w'=>e=.returned (asM es m.k m.had m.was)/\Ext W w' fromλW hW=>Qyx (a6 hW).1 hM.sorted m.k m.had ((e2 hW g6).mono λb hb=>hb.1)) (show ∀W,Nw w W->Calls prog 84 #[.pointer (some M0)] W (Qw7 H es W) fromλW hW=>QwN (a6 hW).1 (a6 hW).2 oM);have e4:=hY (show ∀W W' M1,Nw w W->W.heap.size<=M1->Ext W W'->MapAt (λb=>H b\/b=M1) W' M1 es->Calls prog 89 #[.pointer (some M1),m.k] W' λe w2=>e=.returned (.bool (Qaq es m.k).isSome)/\Qwd H w (QbM es m.k) M1 w2 fromλW W' M1 hW b9 hx b5=>by
  have f2:M1<W'.heap.size:=by obtain⟨_,_,l6,_,_⟩:=b5.ex;exact l6.lt
  refine(QyB b5 (λb hb=>hb.elim (λh=>ab ((a6 hW).2 b h) hx.size) λh=>oM) hM.sorted oM m.k).mono ?_;rintro e w2 ⟨rfl,i4,e1⟩;exact⟨rfl,λb=>H b\/b=M1,λb hb=>.inl hb,λb hb=>hb.imp id λe=>by have:=hW.size;omega,λb hb=>by
   have:=e1.size;rcases hb with hb|hb
   .have:=(a6 hW).2 b hb;have:=hx.size;omega
   omega,i4,(hW.trans (gj hx)).comp e1.sb λi hi e=>by have:=hW.size;omega⟩)
 obtain⟨r,hr⟩:∃r,stepM m es=r:=⟨_,rfl⟩;rw[hr];rw[QxD]at hr;obtain⟨HR,HI,HM,k2,f9,j8,i1⟩:=Yh hr ih hm hM hc ht h;have HH:=hY hH;clear h hH hM hc hm ht hb e0 ih hr g6 f1 d0 b0 g3 k4 a6 e2;go_in;go_upto_region 1 with fail;generalize i0:World.alloc _ _=W0;obtain⟨g8,a8,j6⟩:=QaB (m:=m) (c:=c) i0;obtain⟨a0,e3⟩:=Yb (gj g8) a8;have c0:=a8.kind;have c1:=a8.c1;have c2:=a8.c2;have c4:=a8.c4;have g5:=a8.c11;have c3:W0.cell? ⟨w,3,none⟩=some (.int .i64 m.i):=a8 3 _ rfl;obtain⟨i3,g7,i9,j0,i5,f7⟩:=a8.v6;obtain⟨c5,c6,c7,c8,c9,f8⟩:=a8.Qop;have l0:=a8.lt;clear i0 g8 a8 j6;rcases j4 with hk|hk|hk|hk|hk|hk|hk
 ·have N:=hY (HR.o.symm.trans (by rw [eH hk]))
  rw[hk]at c0;go_wp2_with fail;refine(e7.o _ a0.o).mono ?_;rintro e w1 ⟨M',rfl,I⟩;have HO:=hY (I.pre a0.o);clear I;go_wp2_with fail;go_ret2;exact⟨M',by rw[N.o]<;>rfl,by rw[N.o];exact HO.o⟩
 ·have N:=hY (HR.o.symm.trans (by rw [eE oM,eH hk]))
  rw[hk]at c0;go_wp2_with fail;refine(d4.o _ a0.o).mono ?_;rintro e w1 ⟨M1,rfl,b9,a7,b5⟩;obtain⟨HD,a9⟩:=Yb (e4.o _ _ _ a0.o b9 a7 b5) (a0.o.trans (gj a7));have c1:w1.cell? ⟨w,1,none⟩=some (.string m.k):=(e3.o.ext a7).c1;have l1:=(e3.o.ext a7).lt;clear b9 a7 b5;go_wp2_with fail;refine HD.o.mono ?_;rintro e w2 ⟨rfl,I⟩;have HO:=hY I;clear I;cases hg:(Qaq es m.k).isSome with
  | true=>
    have Z:=hY (N.o.trans (eH hg));clear hg;go_wp2_with fail;go_ret2;exact⟨M1,by rw[Z.o]<;>rfl,by rw[Z.o];exact HO.o⟩
  | false=>
    obtain⟨Z,b4⟩:=Yb (N.o.trans (eE (by simp[hg]))) (b3.o w2 (by obtain⟨_,_,_,_,_,k⟩:=HO.o;exact k));clear hg;go_wp2_with fail;go_ret2;exact⟨M0,by rw[Z.o]<;>rfl,by rw[Z.o];exact b4.o⟩
 ·have N:=hY (HR.o.symm.trans (by rw [eE oM,eE oM,eH hk]))
  rw[hk]at c0;go_wp2_with fail;refine(g9.o _ a0.o).mono ?_;rintro e w1 ⟨M',rfl,I⟩;have HO:=hY (I.pre a0.o);clear I;go_wp2_with fail;go_ret2;exact⟨M',by rw[N.o]<;>rfl,by rw[N.o];exact HO.o⟩
 ·have N:=hY (HR.o.symm.trans (by rw [eE oM,eE oM,eE oM,eH hk]))
  rw[hk]at c0;go_wp2_with fail;refine(f6.o _ a0.o).mono ?_;rintro e w1 ⟨rfl,a7⟩;have a9:=hY (a0.o.trans (gj a7));have b8:=e3.o.ext a7;have d6:=hY b8;have d1:=b8.c1;have e8:=b8.c11;obtain⟨k3,l4,l5,j5,k5,j9⟩:=b8.v6;have l1:=b8.lt;clear a7 b8 c0 c1 c2 c3 c4 c5 c6 c7 c8 c9 f8 g5 i3 g7 i9 j0 i5 f7;cases ha:asM es m.k m.had m.was with
  | false=>
    obtain⟨Z,b4⟩:=Yb (N.o.trans (eE (by simp[ha]))) (b3.o w1 a9.o);clear ha;go_wp2_with fail;go_ret2;exact⟨M0,by rw[Z.o]<;>rfl,by rw[Z.o];exact b4.o⟩
  | true=>
    have Z:=hY (N.o.trans (eH ha));clear ha;cases hh:m.has with
    | true=>
      have d3:=hY (Z.o.trans (eH hh));rw[hh]at e8;clear hh;go_wp2_with fail;refine(e7.o _ a9.o).mono ?_;rintro e w2 ⟨M',rfl,I⟩;have HO:=hY (I.pre a9.o);clear I;go_wp2_with fail;go_ret2;exact⟨M',by rw[d3.o]<;>rfl,by rw[d3.o];exact HO.o⟩
    | false=>
      have d3:=hY (Z.o.trans (eE (by simp[hh])));rw[hh]at e8;clear hh;go_wp2_with fail;refine(d4.o _ a9.o).mono ?_;rintro e w2 ⟨M1,rfl,b9,d7,b5⟩;have HD:=hY (e4.o _ _ _ a9.o b9 d7 b5);have c1:w2.cell? ⟨w,1,none⟩=some (.string m.k):=(d6.o.ext d7).c1;have l2:=(d6.o.ext d7).lt;clear b9 d7 b5 d1 e8 k3 l4 l5 j5 k5 j9;go_wp2_with fail;refine HD.o.mono ?_;rintro e w3 ⟨rfl,I⟩;have HO:=hY I;clear I;go_wp2_with fail;go_ret2;exact⟨M1,by rw[d3.o]<;>rfl,by rw[d3.o];exact HO.o⟩
 ·have N:=hY (HR.o.symm.trans (by rw [eE oM,eE oM,eE oM,eE oM,eH hk]))
  rw[hk]at c0;go_wp2_with fail;refine(i2.o _ a0.o).mono ?_;rintro e w1 ⟨M',rfl,I⟩;have HO:=hY (I.pre a0.o);clear I;go_wp2_with fail;go_ret2;exact⟨M',by rw[N.o]<;>rfl,by rw[N.o];exact HO.o⟩
 ·have N:=hY (HR.o.symm.trans (by rw [eE oM,eE oM,eE oM,eE oM,eE oM,eH hk]))
  have k0:=hY (g4.o hk);rw[hk]at c0;go_wp2_with fail;refine(k0.o _ a0.o).mono ?_;rintro e w1 ⟨M',rfl,I⟩;have HO:=hY (I.pre a0.o);clear I;go_wp2_with fail;go_ret2;exact⟨M',by rw[N.o]<;>rfl,by rw[N.o];exact HO.o⟩
 have N:=hY (HR.o.symm.trans (by rw[eE oM,eE oM,eE oM,eE oM,eE oM,eE oM,eH hk]));rw[hk]at c0;go_wp2_with fail;refine(f6.o _ a0.o).mono ?_;rintro e w1 ⟨rfl,a7⟩;obtain⟨a9,d6⟩:=Yb (a0.o.trans (gj a7)) (e3.o.ext a7);have l9:=HM.o.len;clear a7 c0 c1 c2 c3 c4 c5 c6 c7 c8 c9 f8 g5 i3 g7 i9 j0 i5 f7;cases ha:asM es m.k m.had m.was with
 | false=>
   obtain⟨Z,b4⟩:=Yb (N.o.trans (eE (by simp[ha]))) (b3.o w1 a9.o);clear ha;go_wp2_with fail;go_ret2;exact⟨M0,by rw[Z.o]<;>rfl,by rw[Z.o];exact b4.o⟩
 | true=>
   have Z:=hY (N.o.trans (eH ha));clear ha;obtain⟨l3,j2⟩:=Yb (Qf7 m) (QsJ m);have k6:=hY (show((∀b,H b->H b)/\(∀b,H b->H b\/w.heap.size<=b)/\(∀b,H b->b<w1.heap.size)/\MapAt H w1 M0 (QkQ (m.l.take 0) es).2/\Nw w w1/\Nw w1 w1)/\(QkQ (m.l.take 0) es).1=0/\OkM (QkQ (m.l.take 0) es).2/\(QkQ (m.l.take 0) es).2.length<=es.length+QaF (m.l.take 0)from
    ⟨⟨λ_ h=>h,λ_ h=>.inl h,λb hb=>ab (HH.o b hb) a9.o.size,by rw[cq,QkQ];exact i1.o.nw a9.o,a9.o,gu _ _⟩,by rw[cq,QkQ],by rw[cq,QkQ];exact k2.o,by rw[cq,QkQ];exact dy _ _⟩)
   go_wp2_with fail;go_loopw[8,9] (λv8 v9 wr=>∃(j M':Nat) (H':Nat->Prop),v8=.pointer (some M')/\v9=.int .i64 (j:Int)/\j<=m.l.length/\Yd (((∀b,H b->H' b)/\(∀b,H' b->H b\/w.heap.size<=b)/\(∀b,H' b->b<wr.heap.size)/\MapAt H' wr M' (QkQ (m.l.take j) es).2/\Nw w wr/\Nw w1 wr)/\(QkQ (m.l.take j) es).1=0/\OkM (QkQ (m.l.take j) es).2/\(QkQ (m.l.take j) es).2.length<=es.length+QaF (m.l.take j))) (λ_ v _=>m.l.length -(intOf v).toNat)
   case atStart=>exact⟨0,M0,H,rfl,rfl,aA _,k6⟩
   obtain⟨j,M',H',rfl,rfl,hj,HQ⟩:=hrel;have f0:=d6.o.nw HQ.o.1.2.2.2.2.2;have k9:wr.cell? ⟨w,8+10,none⟩=some (.slice c.s.a m.l.length c.s.c):=f0 18 _ rfl;have lb:=f0.lt;clear f0;by_cases f2:j<m.l.length
   ·have l1:(j:Int)<(m.l.length:Int):=oM
    have n2:decide ((j:Int)<(m.l.length:Int))=true:=eI l1;have l0:(0:Int)<=(j:Int):=oM
    obtain⟨x,hx⟩:∃x,m.l[j]? = some x:=⟨_,ac f2⟩;obtain⟨b,o,y,j1,l8,k7,j3,i8,f4⟩:=HM.o.at hx;obtain⟨⟨q1,q2,q3,q4,q5,q6⟩,hz,f5,k1⟩:=HQ.o;have i6:=hY (i8.nw q5);have e1:=Qde hx;have j7:=QeZ m.l (j+1);have l7:=l3.o;have k8:=f9.o;have b6:=HI.o j x hx y H' wr M' (QkQ (m.l.take j) es).2 q4 q3 f5 oM (f4.after q5 q2) (ak (Qgb hx) (ak j2.o j8.o));obtain⟨f3,e6,i7⟩:=Yc (Qyq hx es hz) (QxE f4 f5) (show(stepM x (QkQ (m.l.take j) es).2).2.length<=es.length+QaF (m.l.take (j+1))by have:=Qkv x (QkQ (m.l.take j) es).2;omega);obtain⟨q,hq⟩:∃q,stepM x (QkQ (m.l.take j) es).2=q:=⟨_,rfl⟩;rw[hq]at b6 f3 e6 i7;have HC:=hY b6;rw[j1]at k9;clear hx j1 l8 k7 j3 i8 f4 q1 q2 q3 q4 q5 q6 hz f5 k1 e1 j7 l7 k8 b6 hq;go_wp2_with(refine Qah rfl (.tmp 117) rfl b (o+j*19) rfl x y i6.o ?_);refine HC.o.mono ?_;rintro e w2 ⟨M2,rfl,I⟩;have HO:=hY I;clear I;by_cases h0:q.1=0
    ·have g0:(q.1 != 0)=false:=by simp [h0]
     have b0:=f3.o;rw[eE (by simp[h0])]at b0;obtain⟨d8,H0⟩:=Yb b0 h0;clear h0 b0;go_wp2_with fail;go_roundw
     case measure=>simp[intOf];omega
     obtain⟨⟨q1,q2,q3,q4,q5,q6⟩,-,-,-⟩:=HQ.o;obtain⟨G,a1,a2,a3,a4,a5⟩:=HO.o;have hz:=q5.size;exact⟨j+1,M2,G,rfl,by go_num,f2,hY ⟨⟨λb hb=>a1 b (q1 b hb),λb hb=>(a2 b hb).elim (q2 b) λe=>.inr (ak hz e),a3,by rw[d8.o];exact a4,q5.trans a5,q6.trans a5⟩,by rw[d8.o];exact H0.o,by rw[d8.o];exact e6.o,by rw[d8.o];exact i7.o⟩⟩
    have g0:(q.1 != 0)=true:=by simp[h0]
    have b0:=f3.o;rw[eH h0]at b0;have b7:=Qyp (l:=m.l) (j:=j+1) (M:=es) (by rw[b0];exact h0);rw[b0]at b7;obtain⟨d5,b4⟩:=Yb (show r=(q.1,es)by rw[Z.o,b7,eH h0]) (b3.o w2 (HQ.o.1.2.2.2.2.1.trans (by obtain⟨_,_,_,_,_,k⟩:=HO.o;exact k)));clear h0 b0 b7;go_wp2_with fail;go_ret2;exact⟨M0,by rw[d5.o]<;>rfl,by rw[d5.o];exact b4.o⟩
   obtain rfl:j=m.l.length:=oM
   have l1:decide ((m.l.length:Int)<(m.l.length:Int))=false:=eG oM;have hq:=HQ.o;rw[aR]at hq;obtain⟨⟨q1,q2,q3,q4,q5,-⟩,hz,-,-⟩:=hq;obtain⟨d5,b4⟩:=Yb (show r=(0,(QkQ m.l es).2)by rw[Z.o,eE (by simp[hz])];exact eC hz rfl) (show Qwd H w (QkQ m.l es).2 M' wr from⟨H',q1,q2,q3,q4,q5⟩);clear q1 q2 q3 q4 q5 hz;go_wp2_with fail;go_ret2;exact⟨M',by rw[d5.o]<;>rfl,by rw[d5.o];exact b4.o⟩
variable{q:Nat}
theorem look_bare{m:Mu}(h:QaS m q=0):Qai m=true:=by
 rcases aY (Qai m)with I|I
 .exact I
 rw[Qvq I]at h;cases h
theorem Qxv(n:Nat):∀(m:Mu) (q:Nat),SizeOf.sizeOf m<=n->QaS m q=0->∀(c:MuS) (H:Nat->Prop) (w:World) (M0:Nat) (es:List Ent),MapAt H w M0 es->(∀b,H b->b<w.heap.size)->OkM es->es.length+Qa0 m<=50000->RMu w (NH H w) m c->QcC m<=1000000->
  Calls prog 59 #[.pointer (some M0),Qaz m c] w (Qwh H w (stepM m es)):=by
 induction n with
 |zero=>intro m q h;have:=Mu.Qb6 m;omega
 | succ n ih=>
   intro m q hn N c H w M0 es h hH hM hc hm ht;obtain⟨hk,hs⟩:=QpI N;exact Qys h hH hM hc hm ht (look_bare N) hk λj x Z y H' W M I a1 a2 a3 a4 a5 a6=>ih x (q+1) (by have:=Mu.Qsr Z;omega) (looks_at hs Z) y H' W M I a1 a2 a3 a4 a5 a6
theorem QxN{m:Mu}{es:List Ent}(h:MapAt H w M0 es)(hH:∀b,H b->b<w.heap.size)(hM:OkM es)(hc:es.length<=40000)(hm:RMu w (NH H w) m c)(ht:QcC m<=1100000) :
  Calls prog 35 #[.pointer (some M0),Qaz m c] w (Qwh H w (runM es m)):=by
 obtain⟨r,hr⟩:∃r,runM es m=r:=⟨_,rfl⟩;rw[hr];unfold runM at hr;obtain⟨HR,Z,a5⟩:=Yc hr (show ∀W,Nw w W->Qwd H w es M0 W fromλW hW=>Qwd.self h hH hW) (show ∀W,Nw w W->Calls prog 58 #[Qaz m c] W λe w'=>e=.returned (QbP m)/\Ext W w' fromλW hW=>QxX ((hm.mono λb hb=>hb.1).nw hW) ht);have a1:=hY (show QbP m=0->∀W,Nw w W->Calls prog 59 #[.pointer (some M0),Qaz m c] W (Qwh H W (stepM m es)) fromλN W hW=>by
  have hs:Qa0 m<=64:=by unfold QbP at N;split at N<;>omega
  exact Qxv _ m 1 (ao _) (QrP N) c H W M0 es (h.nw hW) (λb hb=>ab (hH b hb) hW.size) hM oM (hm.after hW λb hb=>.inl hb) (QtQ hm N))
 clear h hH hM hc hm ht hr;go_in;go_upto_region 1 with fail;generalize b0:World.alloc _ _=W0;obtain⟨a9,a7,-⟩:=QaB (m:=m) (c:=c) b0;obtain⟨a8,a6⟩:=Yb (gj a9) a7;clear b0 a9 a7;go_wp2_with(refine Qah rfl (.tmp 3) rfl w.heap.size 0 rfl m c a6.o ?_);refine(a5.o _ a8.o).mono ?_;rintro e w1 ⟨rfl,a2⟩;obtain⟨a3,b3⟩:=Yb (a8.o.trans (gj a2)) (a6.o.ext a2);clear a2;by_cases N:QbP m=0
 ·have g0:(QbP m != 0)=false:=by simp [N]
  obtain⟨HC,I⟩:=Yb (a1.o N _ a3.o) (HR.o.symm.trans (eE (by simp[N])));clear N;obtain⟨q,hq⟩:∃q,stepM m es=q:=⟨_,rfl⟩;have b4:=hY (show q.1≠0->q.2=es fromλh=>by rw[<-hq]at h ⊢;exact Qcb h);rw[hq]at HC I;clear hq;go_wp2_with(refine Qah rfl (.tmp 3) rfl w.heap.size 0 rfl m c b3.o ?_);refine HC.o.mono ?_;rintro e w2 ⟨M',rfl,a0⟩;have HO:=hY (a0.pre a3.o);clear a0;by_cases h1:q.1=0
  ·have g1:(q.1 != 0)=false:=by simp [h1]
   have H1:=hY h1;clear h1;go_wp2_with fail;go_ret2;exact⟨M',by rw[I.o,H1.o]<;>rfl,by rw[I.o];exact HO.o⟩
  have g1:(q.1 != 0)=true:=by simp[h1]
  obtain⟨HE,a4⟩:=Yb (b4.o h1) (Z.o w2 (by obtain⟨_,_,_,_,_,k⟩:=HO.o;exact k));clear h1;go_wp2_with fail;go_ret2;exact⟨M0,by rw[I.o]<;>rfl,by rw[I.o,HE.o];exact a4.o⟩
 have g0:(QbP m != 0)=true:=by simp[N]
 obtain⟨I,a4⟩:=Yb (HR.o.symm.trans (eH N)) (Z.o w1 a3.o);clear N;go_wp2_with fail;go_ret2;exact⟨M0,by rw[I.o]<;>rfl,by rw[I.o];exact a4.o⟩
theorem Tryz.QyD:(prog.info? 3).map (λi=>(i.zero,i.size,i.bytes))=some (some (.int .i64 0),1,8):=kM
variable{E:List Ent}
theorem QyL(I:OkM E){x:Mu}(N:RMu w F x c):OkM (runM E x).2:=by
 unfold runM;split
 .exact I
 exact QxE N I
theorem Qwd.nwH{es:List Ent}{M:Nat}(h:Qwd H w es M w'):Nw w w':=by
 obtain⟨_,-,-,-,-,k⟩:=h;exact k
structure Qw8(H:Nat->Prop)(w:World)(l:List Mu)(es:List Ent)(wr:World)(j M:Nat)(s:Sl)(H':Nat->Prop):Prop where
 map:MapAt H' wr M (QbD (l.take j) es).2
 own:wr.ownsRow w.heap.size 3 1 (.slice s.a j s.c) j ((QbD (l.take j) es).1.map (.int .i64))
 low:∀b,H' b->H b\/w.heap.size<=b
 below:∀b,H' b->b<wr.heap.size
 row:∀b,s.row=some b->H' b
 nw:Nw w wr
section
variable{H H' : Nat -> Prop}{w wr w2 w7 w9 : World}{l : List Mu}{es : List Ent}{j M M' : Nat}{s s7 : Sl}{x : Mu}
theorem Qw8.own'(h:Qw8 H w l es wr j M s H')(k:Nw wr w7):w7.ownsRow w.heap.size 3 1 (.slice s.a j s.c) j ((QbD (l.take j) es).1.map (.int .i64)):=
 Qab h.own (F:=Lt wr) (gp k λb I=>I) λb I=>(Qad h.own I).2
theorem Qw8.more(h:Qw8 H w l es wr j M s H')(hx:l[j]? = some x)(hp:Qwd H' wr (runM (QbD (l.take j) es).2 x).2 M' w2)(k:Nw w2 w7)(Z:w9.ownsRow w.heap.size 3 1 (.slice s7.a (j+1) s7.c) (j+1) ((QbD (l.take j) es).1.map (.int .i64)++[.int .i64 (runM (QbD (l.take j) es).2 x).1]))(hw:Wr w7 w9 s.row)(hs:s7.a=s.a\/s7.a=some ⟨w7,0,none⟩/\Wr w7 w9 none) :
  ∃H2,Qw8 H w l es w9 (j+1) M' s7 H2:=by
 obtain⟨H2,h1,h2,h3,h5,h6⟩:=hp;have hz:=h.nw.size;have z6:=h6.size;have z7:=k.size;have z9:=hw.grown.size;have a0:MapAt H2 w7 M' (runM (QbD (l.take j) es).2 x).2:=QwB h5 k;have N:∀b,s7.row=some b->s.row=some b\/b=w7.heap.size:=λb I=>by
  rcases hs with e |⟨e,-⟩
  .left;unfold Sl.row at I ⊢;rwa[e]at I
  right;unfold Sl.row at I;rw[e]at I;simpa using I.symm
 have a1:s.row≠some M':=λe=>by
  obtain⟨-,sM,xM,I,-,-⟩:=a0;rcases(h.own' (h6.trans k)).2 with⟨hv,-⟩ |⟨g,a5,a4,hv,hg,hh,-⟩
  ·injection hv with hv
   unfold Sl.row at e;rw[hv]at e;cases e
  injection hv with hv;unfold Sl.row at e;rw[hv]at e;injection e with e;subst e;have a2:w7.heap[g]? = _:=I;rw[a2]at hh;injection hh with hh;injection hh with _ hh;exact absurd hh oN
 refine⟨λb=>H2 b\/s7.row=some b,?_,?_,?_,?_,λb I=>.inr I,?_⟩
 ·rw [Qf4 hx]
  have a3:St (λb=>s.row=some b) w7 w9:=hw.st λi hi=>hi
  refine MapAt.st (G:=λb=>s.row=some b) (a0.more (G:=λb=>H2 b\/s7.row=some b) (λb I=>.inl I) λb I hg=>?_) a3 (λb I=>.inl (h1 b (h.row b I))) a1;rcases hg with hg|hg
  .exact hg
  rcases N b hg with e|e
  .exact h1 b (h.row b e)
  omega
 ·rw [Qf4 hx,aB]
  exact Z
 ·rintro b (I | I)
  ·rcases h2 b I with e | e
   .exact h.low b e
   exact .inr oM
  rcases N b I with e|e
  .exact h.low b (h.row b e)
  exact .inr oM
 ·rintro b (I | I)
  .have:=h3 b I;omega
  exact(Qad Z I).2
 exact((h.nw.trans h6).trans k).comp ⟨hw.grown.os,hw.grown.tape,hw.grown.output,hw.grown.size,λi hi hn=>hw.grown.block i hi λe=>hn e.symm⟩ λi hi e=>by have:=(Qad h.own e).1;omega
end
variable{s0:Sl}
theorem Qw4{es:List Ent}{l:List Nm}(h:MapAt H w M0 es)(hH:∀b,H b->b<w.heap.size)(hM:OkM es)(hc:es.length<=1000)(hl:l.length<=40)(hF:∀b,F b->b<w.heap.size/\¬H b)(hr:Qa7 w F s0 l)(ht:Qcc (Qe6 l)<=1100000) :
  Calls prog 16 #[.pointer (some M0),.slice s0.a l.length s0.c] w λe w'=>∃(M':Nat) (s:Sl) (H':Nat->Prop),e=.returned (.tuple #[.pointer (some M'),.slice s.a l.length s.c])/\Qw8 H w (Qe6 l) es w' l.length M' s H':=by
 obtain⟨i0,hi,c8,c6,c1⟩:=eR Tryz.QyD;obtain⟨c2,b6,d7,d0,HT⟩:=Yf (show Qw8 H w (Qe6 l) es w 0 M0 Sl.none H from⟨h,eS _ _ _ _,λb hb=>.inl hb,hH,λb hb=>by simp[Sl.row,Sl.none]at hb,gu _ _⟩) hM hr hF ht;clear h hH hM hr hF ht;go_in;go_wp2_with fail;go_loopw[0,6,7] (λv0 v6 v7 wr=>∃(j M':Nat) (s:Sl) (H':Nat->Prop),v0=.pointer (some M')/\v7=.int .i64 (j:Int)/\v6=.slice s.a j s.c/\j<=l.length/\Yd (Qw8 H w (Qe6 l) es wr j M' s H')/\Yd (OkM (QbD ((Qe6 l).take j) es).2)) (λ_ _ v _=>l.length -(intOf v).toNat)
 case atStart=>exact⟨0,M0,Sl.none,H,rfl,rfl,rfl,aA _,c2,b6⟩
 obtain⟨j,M',s,H',rfl,rfl,rfl,hj,Z,b8⟩:=hrel;by_cases b0:j<l.length
 ·have l1:(j:Int)<(l.length:Int):=oM
  have e0:decide ((j:Int)<(l.length:Int))=true:=eI l1;have l0:(0:Int)<=(j:Int):=oM
  obtain⟨x,hx⟩:∃x,l[j]? = some x:=⟨_,ac b0⟩;obtain⟨b,o,cc,b5,c4,c0,a7,b7,b3⟩:=d7.o.at hx;have a4:(Qe6 l)[j]? = some x.m:=by rw[ar,hx];rfl
  have N:=Z.o;have a9:=QeN (Qe6 l) es j;have a6:=hY (MuC.nw (NmC.mu b7) N.nw);have a5:RMu w (NH H w) x.m cc:=b3.mono λb hb=>d0.o b hb
  obtain⟨HC,a2,b4⟩:=Yc (QxN N.map N.below b8.o oM (a5.after N.nw N.low) (ak (Qgb a4) HT.o)) (QyL b8.o a5) a4;obtain⟨q,hq⟩:∃q,runM (QbD ((Qe6 l).take j) es).2 x.m=q:=⟨_,rfl⟩;have HQ:=hY hq;rw[hq]at HC a2;rw[b5];clear hx b5 c4 c0 a7 b7 b3 a4 N a9 a5 hq;go_wp2_with(refine Qah rfl (.tmp 21) rfl b (o+j*20+1) rfl x.m cc a6.o ?_);refine HC.o.mono ?_;rintro e w2 ⟨M2,rfl,I⟩;obtain⟨HO,e1,c3⟩:=Yc I I.nwH (gm w2 3 #[.int .i64 q.1]);have a1:Nw w2 (w2.alloc (.cells #[.int .i64 q.1] 3)):=gj ((gh w2).alloc _ _);obtain⟨c7,c9,d3,d4,d6⟩:=Yf a1 (Z.o.own' (I.nwH.trans a1)) (show j+1<=maxLen by unfold maxLen;omega) (show(j+1)*8<=140737488355328 by omega) (show w.heap.size<=(w2.alloc (.cells #[.int .i64 q.1] 3)).heap.size from((Z.o.nw.trans I.nwH).trans a1).size);clear I a1;go_wp2_with(at_builtin;refine Qak _ rfl (.tmp 26) (.tmp 28) 50 rfl w.heap.size 3 i0 _ 1 8 underlying50 hi c8 c6 c1 rfl oN s j ((QbD ((Qe6 l).take j) es).1.map (.int .i64)) rfl c9.o (λb=>b=w2.heap.size) ⟨some w2,1⟩ 1 [.int .i64 q.1] rfl (gA c3.o oN rfl) (by simp[Value.oneCell']) d3.o d4.o d6.o ?_;intro s7 w9 a0 a3 a8;have d5:=hY a0;have d8:=hY a3;have b9:=hY a8;clear a0 a3 a8);go_roundw
  case measure=>simp[intOf];omega
  obtain⟨H2,N⟩:=Z.o.more b4.o (by rw[HQ.o];exact HO.o) c7.o (by rw[HQ.o];exact d5.o) d8.o b9.o;exact⟨j+1,M2,s7,H2,rfl,by go_num,rfl,b0,hY N,hY (by rw[Qf4 b4.o,HQ.o];exact a2.o)⟩
 obtain rfl:j=l.length:=oM
 have l1:decide ((l.length:Int)<(l.length:Int))=false:=eG oM;go_wp2_with fail;go_ret2;exact⟨M',s,H',rfl,Z.o⟩
theorem Qyr{l:List LE}(hs:ES w (Lt w) s l):OkM (QdC [] (Qwi (l.map LE.ent))):=
 Qww OkM.nil λe I=>by
  unfold Qwi at I;rw[bQ]at I;obtain⟨h1,h2⟩:=I;simp only[Bool.and_eq_true,beq_iff_eq]at h2;obtain⟨x,N,rfl⟩:=bY.1 h1;exact⟨h2.1,(hs.vals x N).1.wf,h2.2⟩
theorem Qwa.es{w wr:World}{l xs:List LE}{j M:Nat}(h:Qwa w l wr j M s xs H)(hs:ES w (Lt w) s0 l)(Z:j<=1000):ES wr (Lt wr) s xs:=
 ⟨(gz h.own).mono λb I=>I.2,λx N=>⟨((hs.vals x (h.sub x N)).1.agree (gp h.nw λb I=>I)).mono λb I=>ab I h.nw.size,(hs.vals x (h.sub x N)).2⟩,by have:=h.few;omega⟩
theorem QxP(l:List Ent):(QdC [] (Qwi l)).length<=l.length:=by
 have h:=QnJ (Qwi l) [];have h2:(Qwi l).length<=l.length:=bD _ _;simp at h;omega
variable{w1:World}
theorem Qxn{l xs:List LE}{M:Nat}(h:Qwa w l w1 l.length M s xs H)(hs:ES w (Lt w) s0 l)(hl:l.length<=60) :
  ∃E:List Ent,OkM E/\E.length<=60/\MapAt H w1 M E/\xs.length<=60/\Calls prog 15 #[.slice s.a xs.length s.c] w1 λe w2=>∃T p,e=.returned (.agg #[.pointer p])/\QaK T=.pointer p/\OkR T/\Qaa T=E/\IsT w2 (In w1.heap.size w2.heap.size) T/\Ext w1 w2:=by
 have I:=h.ents;rw[aR]at I;have a0:=h.map;have a2:=h.es hs oM;have a1:=Qyr hs;have Z:=QxP (l.map LE.ent);have a3:=h.few;rw[aq]at Z;rw[<-I]at a1 Z;refine⟨_,a1,oM,a0,oM,(Qx4 a2 oM).mono ?_⟩;rintro e w2 ⟨T,rfl,N,hT,hx⟩;obtain⟨p,hp⟩:=Qaj T;exact⟨T,p,by rw[Qao,hp],hp,N.both.1,N.both.2,hT,hx⟩
theorem headsL{s0 sa:Sl}{l:List LE}{ms:List Nm}(hs:ES w (Lt w) s0 l)(hc:∀x∈l,QcI x.v<=1100000)(hm:Qa7 w (Lt w) sa ms)(ht:Qcc (Qe6 ms)<=1048576)(hL:Qb4 w) :
  Calls prog 5 #[.slice s0.a l.length s0.c,.slice sa.a ms.length sa.c] w λe w'=>e=.returned true/\Nw w w':=by
 have i0:=hL.lib.big;obtain⟨c8,HL,HS,HC,HM,HT⟩:=Yg (λW (hW:Nw w W)=>Qpz (hL.nw hW)) hL hs hc hm ht;clear hL hs hc hm ht;go_in;have c0:(decide ((60:Int)<(l.length:Int))=true\/(decide ((60:Int)<(l.length:Int))=false/\decide ((40:Int)<(ms.length:Int))=true))\/(¬60<l.length/\¬40<ms.length):=by
  by_cases h1:60<l.length
  .exact .inl (.inl (eI oM))
  by_cases h2:40<ms.length
  .exact .inl (.inr ⟨decide_eq_false oM,eI oM⟩)
  exact .inr ⟨h1,h2⟩
 rcases c0 with c0 |⟨i4,i6⟩
 ·rcases c0 with l1 | ⟨l1,l2⟩
  all_goals (
   go_wp2_with fail;refine(c8.o w (gu _ _)).mono ?_;rintro e w1 ⟨rfl,hn⟩;have HN:=hY hn;clear hn;go_wp2_with fail;go_ret;exact⟨rfl,HN.o⟩)
 have l1:decide ((60:Int)<(l.length:Int))=false:=eG oM;have l2:decide ((40:Int)<(ms.length:Int))=false:=eG oM;go_wp2_with fail;refine(Qwq HS.o oM HC.o).mono ?_;rintro e w1 ⟨M,s,xs,H,rfl,a1⟩;obtain⟨E,f2,i2,a0,i5,a5⟩:=Qxn a1 HS.o oM;obtain⟨c9,c2,d6,b7,e2,d5⟩:=Yg a1.nw f2 a5 a0 a1.low a1.below;clear a1 f2 a5 a0 l1 l2;go_wp2_with fail;refine d6.o.mono ?_;rintro e w2 ⟨T1,p1,rfl,c7,c3,e0,d0,b3⟩;have z2:=b3.size;have z1:=c9.o.size;obtain⟨d4,e8,a6,f1,c6⟩:=Yf c7 c3 e0 d0 b3;clear c7 c3 e0 d0 b3 d6 HS HC;go_upto_region 5 with fail;generalize Z:World.alloc w2 _=w3;obtain⟨c1,e3,i3⟩:=Qb2 Z;have a4:Nw w1 w3:=(gj c6.o).trans (gj c1);have a7:Nw w w3:=c9.o.trans a4;obtain⟨d8,f5,b8,a3⟩:=Ye (show IsT w3 (In w1.heap.size w2.heap.size) T1 from f1.o.agree (c1.agree λb I=>I.2)) e3 (Qw4 (w:=w3) (F:=Lt w) (b7.o.nw a4) (λb I=>by have:=d5.o b I;have:=a4.size;omega) c2.o oM oM (λb I=>⟨Nat.lt_of_lt_of_le I a7.size,λe=>by have:=e2.o b e;have i1:b<w:=I;omega⟩) (HM.o.agree (gp a7 λb I=>I)) (by have:=HT.o;omega)) a7;clear Z c1 e3 a7 a4 b7 f1 c6;go_wp2_with fail;refine b8.o.mono ?_;rintro e w4 ⟨M2,sR,H2,rfl,a9⟩;have z3:=a3.o.size;have z4:=a9.nw.size;have a8:(Qe6 ms).take ms.length=Qe6 ms:=aW (by rw[aq];exact ao _);obtain⟨E2,b6⟩:∃E2,(QbD (Qe6 ms) E).2=E2:=⟨_,rfl⟩;obtain⟨cs,b5⟩:∃c,(QbD (Qe6 ms) E).1=c:=⟨_,rfl⟩;have b4:cs.length=ms.length:=by
  have:=QgA (Qe6 ms) E ms.length (by rw[aq];exact ao _);rwa[a8,b5]at this
 have f0:E2.length<=2700:=by
  have:=QeN (Qe6 ms) E ms.length;rw[a8,b6]at this;omega
 have a0:=a9.map;have b0:=gz a9.own;rw[a8,b6]at a0;rw[a8,b5,<-b4]at b0;obtain⟨-,sM,xM,e1,f3,d3⟩:=a0;have a2:=hY a9.nw;have g9:=hY (show ∀W,Nw w4 W->Calls prog 18 #[.agg #[.pointer p1],.slice sa.a ms.length sa.c] W λe w'=>∃T p,e=.returned (.agg #[.pointer p])/\QaK T=.pointer p/\OkR T/\Qaa T=E2/\IsT w' (Lt w') T/\Nw W w' fromλW hW=>by
  have Z:=a2.o.trans hW;have b9:Qey W (In w1.heap.size w2.heap.size) (Lt W) T1 sa ms:=
   ⟨d8.o.agree (gp Z λb I=>by have:=I.2;omega),λb I=>⟨by have:=I.1;omega,by have:=I.2;have:=Z.size;omega⟩,e8.o,by rw[a6.o];exact c2.o,HM.o.nw (a3.o.trans Z),λb I=>I,HL.o.nw (a3.o.trans Z),by rw[a6.o];omega,by have:=HT.o;omega⟩
  have h:=Qhv b9;rw[Qao,d4.o,a6.o,b6]at h;refine h.mono ?_;rintro e w' ⟨T,rfl,h1,h2,h3,h4,h5,-⟩;obtain⟨p,hp⟩:=Qaj T;exact⟨T,p,by rw[Qao,hp],hp,h1,h3,h2.mono λb I=>I.elim (λe=>by have:=e.2;have:=Z.size;have:=h5.size;show b<_;omega) λe=>e.2,h5⟩)
 have f6:=hY (show ∀W,Nw w4 W->Calls prog 20 #[.agg #[.pointer p1],.slice sa.a ms.length sa.c] W λe w'=>∃sc:Sl,e=.returned (.slice sc.a ms.length sc.c)/\Rd w' (Lt w') 1 sc cs.length (cs.map (.int .i64))/\Nw W w' fromλW hW=>by
  have Z:=a2.o.trans hW;have b9:Qey W (In w1.heap.size w2.heap.size) (Lt W) T1 sa ms:=
   ⟨d8.o.agree (gp Z λb I=>by have:=I.2;omega),λb I=>⟨by have:=I.1;omega,by have:=I.2;have:=Z.size;omega⟩,e8.o,by rw[a6.o];exact c2.o,HM.o.nw (a3.o.trans Z),λb I=>I,HL.o.nw (a3.o.trans Z),by rw[a6.o];omega,by have:=HT.o;omega⟩
  have h:=Qgp b9 oM;rw[Qao,d4.o,a6.o,b5]at h;refine h.mono ?_;rintro e w' ⟨sc,rfl,h1,h2⟩;exact⟨sc,rfl,(by rw[b4];exact h1.mono λb I=>I.2),h2⟩)
 have e6:=hY (show ∀W T p,Nw w4 W->QaK T=.pointer p->OkR T->Qaa T=E2->IsT W (Lt W) T->Calls prog 17 #[.agg #[.pointer p],.slice sM.a xM.length sM.c] W λe w'=>e=.returned true/\Ext W w' fromλW T p hW hp ok he hT=>by
  have h:=Qph (λb I=>I) hT ok (by rw[he];omega) ((f3.agree (gp hW λb I=>I.1)).mono (G:=Lt W) λb I=>ab I.1 hW.size);rw[Qao,hp,he,d3,QhK]at h;exact h)
 have f7:=hY (show ∀W (sc:Sl),Nw w4 W->Rd W (Lt W) 1 sc cs.length (cs.map (.int .i64))->Calls prog 19 #[.slice sc.a ms.length sc.c,.slice sR.a ms.length sR.c] W λe w'=>e=.returned true/\Ext W w' fromλW sc hW h1=>by
  have h:=QhJ h1 ((b0.agree (gp hW λb I=>I.2)).mono (G:=Lt W) λb I=>ab I.2 hW.size) oM;rw[b4]at h;rwa[eI rfl]at h)
 have N:=hY (show ∀W,Nw w4 W->W.cell? M2=some (.slice sM.a xM.length sM.c)/\W.cell? w2=some (.pointer p1) fromλW hW=>⟨(Nw.blk hW e1).cell 0,(Nw.blk (a2.o.trans hW) f5.o).cell 0⟩);clear a9 b0 e1 f3 d3 a8 b5 b6 f0 b4 b8;go_upto_region 6 with fail;refine eO (S:=(λw'=>Nw w4 w')) kM ((gj ((gh w4).drew))) (λhHeld=>?_);refine Qaf 0 (some 32) N hHeld ?_;refine Qaf 1 (some 33) N hHeld ?_;refine Qaf 3 (some 35) N hHeld ?_;refine Qaf 4 (some 36) N hHeld ?_;refine Qaf 5 (some 37) N hHeld ?_;refine Qaf 6 (some 38) N hHeld ?_;refine Qac (i:=2) kM rfl (by rfl) (λK hK=>?_);go_simp
 (refine(g9.o _ hHeld).mono ?_;rintro e v1 ⟨T2,p2,rfl,e7,c4,f4,e4,g7⟩;have g0:=hY e7;have g3:=hY c4;have g4:=hY f4;have f8:=hY e4;clear e7 c4 f4 e4)
 refine hK.out _ _ (hHeld.trans g7) (λhHeld=>?_);clear hK K
 try go_frame
 refine Qac (i:=7) kM rfl (by rfl) (λK hK=>?_);go_simp
 (refine(e6.o _ T2 p2 hHeld g0.o g3.o g4.o f8.o).mono ?_;rintro e v2 ⟨rfl,b3⟩)
 refine hK.out _ _ (hHeld.trans (gj b3)) (λhHeld=>?_);clear hK K
 try go_frame
 refine Qaf 8 (some 40) N hHeld ?_;refine Qaf 9 (some 41) N hHeld ?_;refine Qaf 10 (some 42) N hHeld ?_;refine Qaf 12 (some 44) N hHeld ?_;refine Qac (i:=11) kM rfl (by rfl) (λK hK=>?_);go_simp
 (refine(f6.o _ hHeld).mono ?_;rintro e v3 ⟨sc,rfl,d7,a7⟩;have g5:=hY d7;clear d7)
 refine hK.out _ _ (hHeld.trans a7) (λhHeld=>?_);clear hK K
 try go_frame
 refine Qac (i:=13) kM rfl (by rfl) (λK hK=>?_);go_simp
 (refine(f7.o _ sc hHeld g5.o).mono ?_;rintro e v4 ⟨rfl,g8⟩)
 refine hK.out _ _ (hHeld.trans (gj g8)) (λhHeld=>?_);clear hK K
 try go_frame
 refine Qaf 14 (some 46) N hHeld ?_;refine Qaf 15 (some 47) N hHeld ?_;refine Qac (i:=16) kM rfl (by rfl) (λK hK=>?_);go_simp
 (refine(c8.o _ ((a3.o.trans a2.o).trans hHeld)).mono ?_;rintro e v5 ⟨rfl,g6⟩)
 refine hK.out _ _ (hHeld.trans g6) (λhHeld=>?_);clear hK K
 try go_frame
 refine Qaf 17 (some 49) N hHeld ?_;refine Qaf 18 (some 4) N hHeld ?_;refine eV kM ?_ _;have f9:=hY ((a3.o.trans a2.o).trans hHeld);go_wp2_with fail;go_ret;exact⟨rfl,f9.o⟩
section
variable{H : Type}{enc : TypeId × Value -> H}{w : World}{held : Bool}
theorem Qho:prog.cellsOf 39=20:=kM
theorem QmY:prog.bytesOf 39=272:=kM
theorem Qll{I:Nat}{cs:List Value}{x:DataW H × List MemPlace}(h:tr enc prog w held I 39 cs=some x)(hw:WOk prog 39 x.1) :
  ∃n c,cs=Qbw n c/\RMu w (Lt w) n.m c/\(Lit.int .u64 n.id).wf=true/\QcC n.m<=Rows.uptoBulk x.1:=by
 obtain⟨q,ds,rfl,hl,hx,hf⟩:=QcD underlying39 h hw;rw[Qho]at hl;obtain⟨y0,h0,-,d0⟩:=hf 0 _ rfl;obtain⟨y1,h1,w1,d1⟩:=hf 1 _ rfl;obtain⟨id,N,Z⟩:=QkA (k:=.u64) kM h0;have g1:tr enc prog w held q 37 ((cs.drop 1).take 19)=some y1:=by
  have:=h1;dsimp only at this;rw[QdQ]at this;exact this
 obtain⟨m,c,hm,hr,ht⟩:=QhE q g1 w1;refine⟨⟨id,m⟩,c,?_,hr,Z,?_⟩
 ·have a0:cs[0]? = some (.int .u64 id):=at_of_take N (j:=0) oN
  refine bI λj=>?_
  cases j with
  |zero=>exact a0
  | succ j=>
    show _=(Qan m c)[j]?;by_cases hj:j<19
    .rw [Nat.add_comm];exact at_of_take hm hj
    rw[aI oM,aI (by rw[QfD];omega)]
 rw[hx];exact ef (QmG d0 d1 (ak ht (Nat.le_add_left _ _)))
theorem nums_of_trod{a0:Nat}{cs:List Value}{x:DataW H × List MemPlace}(h:tr enc prog w held a0 23 cs=some x)(hw:WOk prog 23 x.1) :
  ∃(s:Sl) (l:List Nm),cs=[.slice s.a l.length s.c]/\Qa7 w (Lt w) s l/\Qcc (l.map Nm.m)<=Rows.uptoBulk x.1:=by
 obtain⟨n,I,s,b,o,es,-,hc,hs,a5,a1,a6,he⟩:=Qc1 (e:=39) (C:=20) (B:=272) underlying23 Qho QmY oN h hw;have hE:∀i,i<I->∃a:Nm × MuS,(NmC w b (o+i*20) a.1 a.2/\RMu w (Lt w) a.1.m a.2/\(Lit.int .u64 a.1.id).wf=true)/\∃d,es[i]? = some d/\QcC a.1.m<=Rows.uptoBulk d:=λi hi=>by
  obtain⟨a4,y,a3,hc,ht,hw,hd⟩:=he i hi;obtain⟨m,c,rfl,hr,a2,hm⟩:=Qll ht hw;refine⟨(m,c),⟨λj u hu=>?_,hr,a2⟩,_,hd,hm⟩;have Z:j<20:=(ae.1 hu).1;exact(hc j Z).trans hu
 obtain⟨f,N⟩:=skolem hE;refine⟨s,(List.range I).map λj=>(f j).1,by simpa using hc,⟨⟨b,o,λj=>(f j).2,by rw[aq,bC];exact hs,λj m Z=>?_,λj m Z=>?_⟩,λn hn=>?_,by rw[aq,bC];omega⟩,?_⟩
 .obtain ⟨h1,rfl⟩:=QaY Z;exact(N j h1).1.1
 .obtain ⟨h1,rfl⟩:=QaY Z;exact(N j h1).1.2.1
 ·obtain ⟨j,Z⟩:=bz hn
  obtain⟨h1,rfl⟩:=QaY Z;exact(N j h1).1.2.2
 have hL:=Qd2 (((List.range I).map λj=>(f j).1).map Nm.m) es (by simp[a1]) λi m d hi hd=>by
  rw[ar]at hi;cases hq:((List.range I).map λj=>(f j).1)[i]? with
  |none=>rw[hq]at hi;cases hi
  | some q=>
    rw[hq]at hi;injection hi with hi;subst hi;obtain⟨h1,rfl⟩:=QaY hq;obtain⟨d',h2,h3⟩:=(N i h1).2;rw[hd]at h2;injection h2 with h2;rw[h2];exact h3
 omega
end
section
variable{H : Type}{enc : TypeId × Value -> H}{w : World}{held : Bool}
theorem esB_of_trod{a3:Nat}{cs:List Value}{x:DataW H × List MemPlace}(h:tr enc prog w held a3 41 cs=some x)(hw:WOk prog 41 x.1)(hB:Rows.uptoBulk x.1<=1048576):∃(s:Sl) (xs:List LE),cs=[.slice s.a xs.length s.c]/\(ES w (Lt w) s xs/\∀y∈xs,QcI y.v<=1100000):=by
 obtain⟨n,N,s,b,o,es,-,hc,hs,a6,b3,b0,he⟩:=Qc1 (e:=78) (C:=7) (B:=104) underlying41 Qxa Qw9 oN h hw;have hE:∀i,i<N->∃a:ByteArray × Val × Sl × Sl,(w.cell? ⟨b,o+i*7,none⟩=some (.string a.1)/\a.1.size<=maxLen)/\QaV w b (o+i*7+1) a.2.1 a.2.2.1 a.2.2.2/\RV w (Lt w) a.2.1 a.2.2.1 a.2.2.2/\QcI a.2.1<=1100000:=λi hi=>by
  obtain⟨a1,y,a7,hc,ht,hw,hd⟩:=he i hi;obtain⟨n6,ds,rfl,hl,Z,hf⟩:=QcD underlying78 ht hw;obtain⟨z0,g0,-,-⟩:=hf 0 _ rfl;obtain⟨z1,g1,u1,e1⟩:=hf 1 _ rfl;obtain⟨k,hk,wk⟩:=Qzd kM g0;have a5:tr enc prog w held n6 34 ((a1.drop 1).take 6)=some z1:=by
   have:=g1;dsimp only at this;rw[QbW]at this;exact this
  obtain⟨v,sl,so,hv,hr,a8⟩:=QgW n6 a5 u1;have a0:a1[0]? = some (.string k):=at_of_take hk (j:=0) oN;have cj:∀j,j<6->w.cell? ⟨b,o+i*7+1+j,none⟩=(Qji v sl so)[j]?:=λj I=>by
   rw[<-at_of_take hv I,<-hc (1+j) oM,bH (o+i*7)]
  exact⟨(k,v,sl,so),⟨(hc 0 oN).trans a0,wk⟩,⟨cj 0 oN,cj 1 oN,cj 2 oN,cj 3 oN,cj 4 oN,cj 5 oN⟩,hr,by
   have h1:=Qwl hd;have h2:=Qwl e1;rw[Z]at h1;simp only[Rows.uptoBulk]at h1;show QcI v<=_;omega⟩
 obtain⟨f,hf⟩:=skolem hE;refine⟨s,(List.range N).map λj=>⟨(f j).1,(f j).2.1,(f j).2.2.1,(f j).2.2.2⟩,by rw[aq,bC];exact hc,?_⟩;refine⟨⟨⟨b,o,by rw[aq,bC];exact hs,QcR _,λj u I=>?_⟩,λx Z=>?_,by rw[aq,bC];omega⟩,λx Z=>?_⟩
 ·have a9:j<N*7:=by
   have:=(ae.1 I).1;rw[QcR,aq,bC]at this;exact this
  obtain⟨i,c,rfl,a4⟩:∃i c,j=i*7+c/\c<7:=⟨j/7,j%7,oM,oM⟩;have hi:i<N:=oM
  have Z:((List.range N).map λj=>(⟨(f j).1,(f j).2.1,(f j).2.2.1,(f j).2.2.2⟩:LE))[i]? = some ⟨(f i).1,(f i).2.1,(f i).2.2.1,(f i).2.2.2⟩:=by
   rw[ar,List.getElem?_range hi];rfl
  rw[Qc4 Z c a4]at I;obtain⟨⟨a0,-⟩,e,-⟩:=hf i hi;rw[<-bH];have a2:c=0\/c=1\/c=2\/c=3\/c=4\/c=5\/c=6:=oM
  rcases a2 with rfl|rfl|rfl|rfl|rfl|rfl|rfl
  .exact a0.trans I
  .exact e.c0.trans I
  .exact e.c1.trans I
  .exact e.c2.trans I
  .exact e.c3.trans I
  .exact e.c4.trans I
  exact e.c5.trans I
 ·obtain ⟨j,I⟩:=bz Z
  obtain⟨h1,rfl⟩:=QaY I;exact⟨(hf j h1).2.2.1,(hf j h1).1.2⟩
 obtain⟨j,I⟩:=bz Z;obtain⟨h1,rfl⟩:=QaY I;exact(hf j h1).2.2.2
end
theorem libq_of(h:laidMetH prog Qfi w):Qb4 w:=by
 refine⟨Qtq h,Quc h,λW hW n h0 h1=>?_⟩;have Z:laidMet prog Qfi w:=h;have I:=Lib.laidMet.reads Z (n:= "internal/strconv.uint64pow10") (d:=Rows.laid_internal_strconv_uint64pow10) (by simp[Qfi]);rw[Qqa]at I;exact(Any.strconv_FormatInt_10 Tryz.QfB n h0 h1 W (QsI hW (Qkm I))).mono λe w' h=>by
  obtain⟨N,k,os,rfl⟩:=h;exact⟨N,(gj ((gh W).drewN k)).trans (Qmq _ os)⟩
end Go.Proofs.YtdiecmkpbadgjaaGreatDoor
