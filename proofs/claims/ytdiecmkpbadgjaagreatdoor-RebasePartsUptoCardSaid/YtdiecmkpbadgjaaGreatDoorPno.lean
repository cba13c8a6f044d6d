/- What the theorem needs of the texts Kn24, At01, Val01, Bare02, May02, Deep02, Runes01, Bytes01, Quote01, Digits03, Text03, Fits03, RefA12, Ref12, Begin12, Put13, Start13, Begun13: no condition of its own. -/
import Derived.Test.YtdiecmkpbadgjaaGreatDoorPnn
set_option linter.unusedVariables false
set_option linter.unusedSimpArgs false
set_option linter.unnecessarySimpa false
set_option maxRecDepth 100000
set_option maxHeartbeats 4000000
namespace Go.Proofs.YtdiecmkpbadgjaaGreatDoor
open Go.Proofs.Tryz
open Go.RowKit Go.Maps Go.Shelf
abbrev QvG:List (Nm × MuS):=[(⟨1,Qfg kN 1⟩,zS),(⟨2,Qil kN⟩,zS),(⟨3,Qfg kN 1⟩,zS)]
variable{w:World}{B:Nat}
theorem Quw{l:List (Nm × MuS)}(Z:Blk w B 39 (Qd6 l).toArray)(hr:∀p∈l,RMu w (Lt w) p.1.m p.2/\(Lit.int .u64 p.1.id).wf=true)(hl:l.length<=1000):Qa7 w (Lt w) ⟨some ⟨B,0,none⟩,l.length⟩ (l.map Prod.fst):=by
 refine⟨⟨B,0,λj=>((l[j]?).getD default).2,?_,λj n I=>?_,λj n I=>?_⟩,λn hn=>?_,by rw[aq];omega⟩
 ·rw [aq]
  exact .some _ _ _ _ (ao _) (an hl oN) Z.lt
 ·rw [au] at I
  cases N:l[j]? with
  |none=>rw[N]at I;cases I
  | some p=>
    rw[N]at I;injection I with I;subst I;intro i u hu;have hu:(Qbw p.1 p.2)[i]? = some u:=by
     have h:=hu;dsimp only at h;rw[N]at h;exact h
    rw[aD,Z.cell,List.getElem?_toArray];exact Qiq (f:=λp:Nm × MuS=>Qbw p.1 p.2) (λ_=>rfl) l j p N i u hu
 ·rw [au] at I
  cases N:l[j]? with
  |none=>rw[N]at I;cases I
  | some p=>
    rw[N]at I;injection I with I;subst I;dsimp only;rw[N];exact(hr p (ap N)).1
 obtain⟨p,N,rfl⟩:=bW.1 hn;exact(hr p N).2
variable{F:Nat->Prop}{s s':Sl}
theorem Qa7.drop{l:List Nm}(h:Qa7 w F s l){k:Nat}(hk:k<=l.length)(ha:s'.a=if s.c=k then s.a else s.a.map (·.add (k*20)))(hc:s'.c=s.c-k):Qa7 w F s' (l.drop k):=by
 obtain⟨b,o,c,hs,Z,hr⟩:=h.ex;obtain⟨a1,a2⟩:=s';dsimp only at ha hc;subst ha hc;have a0:=h.len;refine⟨⟨b,o+k*20,λj=>c (k+j),?_,λj n I=>?_,λj n I=>?_⟩,λn hn=>h.wf n (aM hn),by rw[aw];omega⟩
 ·rw [aw]
  generalize l.length=n at hs hk;cases hs with
  | nil=>
    obtain rfl:k=0:=oM
    exact .nil _ _
  | some _ cc _ _ h1 h2 h3=>
    dsimp only;by_cases N:cc=k
    ·subst N
     rw[eu rfl,cD,show n-cc=0 by omega];exact .zero _ _ _
    rw[eh N,bM,Qbc];exact .some _ _ _ _ oM oM h3
  | zero a=>
    obtain rfl:k=0:=oM
    exact .zero _ _ _
 ·rw [bc] at I
  have:=Z (k+j) n I;rwa[show o+(k+j)*20=o+k*20+j*20 by omega]at this
 rw[bc]at I;exact hr (k+j) n I
def QsZ:Array Value:=(Qd6 QvG).toArray
variable{w':World}
theorem Qa7.nw{l:List Nm}(h:Qa7 w (Lt w) s l)(k:Nw w w'):Qa7 w' (Lt w') s l:=(h.agree (fN k λb I=>I)).mono λb I=>ab I k.size
theorem Qa7.up{l:List Nm}(h:Qa7 w F s l)(hF:∀b,F b->b<w.heap.size)(k:Nw w w'):Qa7 w' (Lt w') s l:=(h.mono (G:=Lt w) hF).nw k
variable{cs:List Value}
theorem Rd.nw{k n:Nat}(h:Rd w F k s n cs)(hF:∀b,F b->b<w.heap.size)(e:Nw w w'):Rd w' (Lt w') k s n cs:=(h.agree (fN e hF)).mono λb I=>ab (hF b I) e.size
abbrev l24:List Nm:=[⟨1,Qfg kN 1⟩,⟨2,Qil kN⟩,⟨3,Qfg kN 1⟩]
abbrev muI:Mu:=Qfg kN 1
abbrev muD:Mu:=Qil kN
theorem QoH:prog.built 37 [(0,.int .i64 3),(1,.string kN),(3,.int .i64 1)]=some (Qa2 muI zS):=kM
theorem QoG:prog.built 37 [(0,.int .i64 2),(1,.string kN)]=some (Qa2 muD zS):=kM
theorem QuV:Qcc (Qe6 l24)<=1099000:=by decide +kernel
theorem Qtm:QbK 1 l24=l24.drop 1:=by simp[QbK]
variable{T:RT}
theorem Qvx{l:List Nm}(hT:IsT w F T)(hF:∀b,F b->6<=b/\b<w.heap.size)(ok:OkR T)(I:OkM (Qaa T))(hl:(Qaa T).length<=1)(Z:Qa7 w (Lt w) s l)(hs:l.length<=3)(N:Qcc (Qe6 l)<=1099000)(hL:Qb4 w):Qey w F (Lt w) T s l:=
 ⟨hT,hF,ok,I,Z,λb hb=>hb,hL,oM,N⟩
theorem Qpz(hL:Qb4 w):Calls prog 10 #[] w λe w'=>e=.returned (.bool true)/\Nw w w':=by
 obtain⟨i0,hi,q8,r5,x0⟩:=eE Tryz.Qcz;have t5:=hL.lib.big;have HL:=hY hL;clear hL;go_in;go_upto_region 2 with fail;generalize l3:World.alloc w _=w1;obtain⟨q4,i1,t9⟩:=Qb2 l3;obtain⟨s4,r4⟩:=Yb (fJ q4) i1;have t7:w1.heap.size<=w1.drew.heap.size:=ao _;have t6:w1.drew.heap.size<=w1.heap.size:=ao _;have p6:=hY (show ∀W,Nw w1 W->W.cell? ⟨w,0,none⟩=some (.pointer none) fromλW N=>(N.blk i1).cell 0);clear l3 q4 i1;refine Qss (λw' b _=>QtY (QkP 5) w1.heap.size w' b/\Nw w1 w') [11,12,13] (λb _=>[(2,.pointer (some ⟨b,0,none⟩))]) ?_ ?_
 ·skip
  refine eA (S:=(λw'=>Nw w1 w')) kM ((fJ ((fI w1).drew))) (λhHeld=>?_);refine Qaf 0 (some 11) p6 hHeld ?_;have pm:=Tag.mk 0;have pa:=Tag.mk 1000
  repeat' (first
   |(have:=(pm:Tag 0);have:=(pa:Tag 1000);refine Quj 1 3 (λK tg hK=>?_) (λK tg hK=>?_))
   |(have:=(pm:Tag 0);have:=(pa:Tag 1001);refine Qrr 1 (λK tg hK=>?_))
   |(have:=(pm:Tag 1);have:=(pa:Tag 1000);refine Quj 2 3 (λK tg hK=>?_) (λK tg hK=>?_))
   |(have:=(pm:Tag 1);have:=(pa:Tag 1001);refine Qrr 2 (λK tg hK=>?_))
   |(have:=(pm:Tag 2);have:=(pa:Tag 1000);refine Qrr 3 (λK tg hK=>?_))
   |(have:=(pm:Tag 2);have:=(pa:Tag 1001);refine Qrr 4 (λK tg hK=>?_))
   | (have:=(tg:Tag 1)
      clear this tg;clear pm;have pm:=Tag.mk 1;go_simp
      (refine(Qj6 _ 5).mono ?_;rintro e wa ⟨rfl,d8⟩;have za:=d8.size;(first|have a3:=hY (a3.o.ext d8)|have a3:=hY (a3.o.ext (((fI _).drew).trans d8))|skip))
      refine hK.out _ _ (hHeld.trans (fJ d8)) (λhHeld=>?_);clear hK K
      try go_frame)
   | (have:=(tg:Tag 2)
      clear this tg;clear pm;have pm:=Tag.mk 2;go_simp
      (have s7:=hHeld.size;refine(Qsb (k:=kN) (n:=5) oN oN).mono ?_;rintro e wc ⟨T,p,rfl,hp,ok,he,hT,a9⟩;have zc:=a9.size;have HT:=hY hT;(try(have a3:=hY (a3.o.ext a9);have c6:World.cell? _ ⟨_,0,none⟩=some (.pointer none):=a3.o.cell 0;have f6:=a3.o.frozen 0));clear hT)
      refine hK.out _ _ (hHeld.trans (fJ a9)) (λhHeld=>?_);clear hK K
      try go_frame)
   | (have:=(tg:Tag 3)
      clear this tg;clear pa;have pa:=Tag.mk 1001;go_simp
      (have s8:=hHeld.size;generalize p7:World.alloc _ _=wz;obtain⟨g9,d6,zz⟩:=Qb2 p7;have zd:wz.heap.size<=wz.drew.heap.size:=ao _;have a3:=hY d6;have c6:World.cell? _ ⟨_,0,none⟩=some (.pointer none):=d6.cell 0;have f6:=d6.frozen 0;(try(have HT:=hY (HT.o.agree (g9.agree λb I=>I.2))));clear p7 d6)
      refine hK.out _ _ ((by first|exact hHeld.trans (fJ g9)|exact(fJ g9).trans (fJ ((fI wz).drew)))) (λhHeld=>?_);clear hK K
      try go_frame)
   | (have:=(tg:Tag 4)
      clear this tg;clear pm;have pm:=Tag.mk 3;go_simp
      (have HN:=hY hHeld)
      refine hK.out _ _ (QpW hHeld oM _) (λhHeld=>?_);clear hK K
      try go_frame)
   | (have:=(pm:Tag 3);have:=(pa:Tag 1001);refine eF kM ?_ _
      simp only[QnK,List.map_cons,List.map_nil,List.cons_append,List.nil_append,List.setIfInBounds_toArray,List.set_cons_zero,List.set_cons_succ];refine QrX ⟨_,.bool true,⟨Qq6 hp ok he HT.o a3.o oM (λi hi=>⟨by have:=hi.1;omega,by have:=hi.2;omega,by have:=hi.1;have:=hi.2;omega⟩),hHeld⟩,kM,?_⟩;simp only[QnK,List.map_cons,List.map_nil,List.cons_append,List.nil_append,List.setIfInBounds_toArray,List.set_cons_zero,List.set_cons_succ]
      kernel_rfl))
 intro w2 b2 u2 vs r9;simp only[QnK,List.map_cons,List.map_nil,List.cons_append,List.nil_append,List.setIfInBounds_toArray,List.set_cons_zero,List.set_cons_succ];obtain⟨⟨T1,p1,o1,l8,q6,o8,f4,w8⟩,d0⟩:=r9;have z2:=d0.size;obtain⟨i5,r0,d7,o0,o2,q7,f0⟩:=Yh o1 l8 q6 o8 f4 (s4.o.trans d0) d0;clear o1 l8 q6 o8 f4 d0 p6;go_upto_region 4 with(first |(refine Qa4 rfl 37 #[(0,.const (.int .i64 3)),(1,.const (.string kN)),(3,.const (.int .i64 1))] rfl (Qa2 muI zS) QoH ?_) |(refine QaR rfl rfl rfl muI zS (w0:=w2) (b:=w2) rfl ((fI w2).alloc _ _) (fK w2 _ _) rfl rfl rfl ?_;intro w3 a8 b0;have n2:=hY a8;have g7:=hY (fT b0);clear a8 b0));have K0:True:=trivial;go_upto_region 5 with(first |(have _k:=K0;refine Qah rfl (.tmp 3) rfl w2.heap.size 0 rfl muI zS g7.o ?_;clear _k K0;have K1:True:=trivial) |(have _k:=K1;refine Qa4 rfl 39 #[(0,.const (.int .u64 1)),(1,.tmp 15)] rfl (Qh5 ⟨1,muI⟩ zS) (Qh6 1 muI zS) ?_;clear _k K1;have K2:True:=trivial) |(have _k:=K2;refine Qa4 rfl 37 #[(0,.const (.int .i64 2)),(1,.const (.string kN))] rfl (Qa2 muD zS) QoG ?_;clear _k K2;have K3:True:=trivial) |(have _k:=K3;refine Qa4 rfl 39 #[(0,.const (.int .u64 2)),(1,.tmp 17)] rfl (Qh5 ⟨2,muD⟩ zS) (Qh6 2 muD zS) ?_;clear _k K3;have K4:True:=trivial) |(have _k:=K4;refine Qah rfl (.tmp 3) rfl w2.heap.size 0 rfl muI zS g7.o ?_;clear _k K4;have K5:True:=trivial) |(have _k:=K5;refine Qa4 rfl 39 #[(0,.const (.int .u64 3)),(1,.tmp 19)] rfl (Qh5 ⟨3,muI⟩ zS) (Qh6 3 muI zS) ?_;clear _k K5;have K6:True:=trivial) |(have _k:=K6;refine QbT rfl 23 39 3 #[(0,.tmp 16),(1,.tmp 18),(2,.tmp 20)] rfl [QqR ⟨1,muI⟩ zS,QqR ⟨2,muD⟩ zS,QqR ⟨3,muI⟩ zS] 20 underlying23 hi r5 q8 oN rfl oN oN (λv hv=>by simp only[List.mem_cons,List.not_mem_nil,or_false]at hv;rcases hv with rfl|rfl|rfl<;>rfl) rfl QsZ rfl ?_;clear _k K6;have K7:True:=trivial));generalize k0:World.alloc _ _=w4;obtain⟨q0,o5,x5⟩:=Qb2 k0;have Z:Qa7 w4 (Lt w4) ⟨some ⟨w3,0,none⟩,3⟩ l24:=Quw (l:=QvG) o5 (λp hp=>by
  simp only[List.mem_cons,List.not_mem_nil,or_false]at hp;rcases hp with rfl|rfl|rfl
  .exact ⟨QpQ _ _ oN oN,oN⟩
  .exact ⟨Quv _ _ oN,oN⟩
  exact⟨QpQ _ _ oN oN,oN⟩) oN
 have a2:Qa7 w4 (Lt w4) ⟨some ⟨w3,20,none⟩,2⟩ (l24.drop 1):=Z.drop (k:=1) oN (by simp[Qbc]) rfl;have a0:Nw w2 w4:=(fJ n2.o).trans (fJ q0);have v9:=a0.size;have c1:=a0.blk o2.o;have e2:=o0.o.agree (fN a0 λb I=>I.2.1);obtain⟨t2,d4,b7,p0,f3⟩:=Yf Z a2 (q7.o.trans a0) (f0.o.trans a0) c1;have e0:∀W,Nw w4 W->Qey W (λi=>w1<=i/\i<w2/\i≠b2) (Lt W) T1 ⟨some ⟨w3,0,none⟩,3⟩ l24:=λW N=>
  Qvx (e2.agree (fN N λb I=>by have:=I.2.1;omega)) (λb I=>⟨by have:=I.1;omega,by have:=I.2.1;have:=N.size;omega⟩) r0.o (by rw[d7.o];exact Qty oN oN) (by rw[d7.o];exact ao 1) (Z.nw N) oN QuV (HL.o.nw (b7.o.trans N))
 have x7:=hY e0;have c2:w4.cell? ⟨b2,0,none⟩=some (.pointer p1):=c1.cell 0;have c0:=hY (show Calls prog 18 #[.agg #[.pointer p1],.slice (some ⟨w3,0,none⟩) 3 3] w4 λe w'=>∃T' p',e=.returned (.agg #[.pointer p'])/\QaK T'=.pointer p'/\OkR T'/\IsT w' (Up (λi=>w1<=i/\i<w2/\i≠b2) w4 w') T'/\Qaa T'=QkP 1/\Nw w4 w' from by
  have h:=Qhv (e0 w4 (fM _ _));rw[Qao,i5.o,d7.o,show Qe6 l24=lK from rfl,Qui]at h;refine h.mono ?_;rintro e w' ⟨T',rfl,h1,h2,h3,h4,h5,-⟩;obtain⟨p',l2⟩:=Qaj T';exact⟨T',p',by rw[Qao,l2],l2,h1,h2,h3,h5⟩)
 have f1:=hY (show ∀W,Nw w4 W->Calls prog 20 #[.agg #[.pointer p1],.slice (some ⟨w3,0,none⟩) 3 3] W λe w'=>∃sc:Sl,e=.returned (.slice sc.a 3 sc.c)/\Rd w' (In W.heap.size w'.heap.size) 1 sc 3 ([0,0,0].map (.int .i64))/\Nw W w' fromλW N=>by
  have h:=Qgp (e0 W N) oN;rw[Qao,i5.o,d7.o,show Qe6 l24=lK from rfl,Qui]at h;exact h)
 have f2:∀W,Nw w4 W->Qey W (λ_=>False) (Lt W) none ⟨some ⟨w3,20,none⟩,2⟩ (l24.drop 1):=λW N=>
  Qvx trivial (λb I=>I.elim) trivial OkM.nil (aA _) (a2.nw N) oN (by decide +kernel) (HL.o.nw (b7.o.trans N))
 have b3:∀W,Nw w4 W->Qey W (λ_=>False) (Lt W) none ⟨some ⟨w3,0,none⟩,3⟩ l24:=λW N=>
  Qvx trivial (λb I=>I.elim) trivial OkM.nil (aA _) (Z.nw N) oN QuV (HL.o.nw (b7.o.trans N))
 have f5:=hY b3;have c4:=hY (show ∀W,Nw w4 W->Calls prog 20 #[.agg #[.pointer none],.slice (some ⟨w3,20,none⟩) 2 2] W λe w'=>∃sc:Sl,e=.returned (.slice sc.a 2 sc.c)/\Rd w' (In W.heap.size w'.heap.size) 1 sc 2 ([12,0].map (.int .i64))/\Nw W w' fromλW N=>by
  have h:=Qgp (f2 W N) oN;rw[show Qe6 (l24.drop 1)=lK.drop 1 from rfl,show Qaa none=[]from rfl,QsB]at h;exact h)
 clear k0 q0 o5 Z a2 a0 c1 e2 e0 f2 b3 g7 n2 o2 o0 f0;go_wp2_with fail;refine c0.o.mono ?_;rintro e w5 ⟨T2,p2,rfl,k8,l7,o4,n9,k6⟩;obtain⟨i7,j6,g0,t4,j9⟩:=Yf k8 l7 n9 o4 k6;clear k8 l7 n9 o4 k6 c2 c0;go_upto_region 6 with fail;generalize n8:World.alloc _ _=w6;obtain⟨g3,j5,x6⟩:=Qb2 n8;have a7:Nw w4 w6:=j9.o.trans (fJ g3);obtain⟨f8,f9⟩:=Yb a7 j5;have x8:=j9.o.size;have e3:=hY (t4.o.agree (g3.agree λb I=>I.elim (λe=>by have:=e.2.1;omega) λe=>e.2));have j8:=(b7.o.trans a7);have a4:=hY (show ∀W,Nw w6 W->W.cell? ⟨w,0,none⟩=some (.pointer none) fromλW N=>(fW ((p0.o.trans a7).trans N) r4.o).cell 0);clear n8 g3 j5 a7 j8;refine eA (S:=(λw'=>Nw w6 w')) kM ((fJ ((fI w6).drew))) (λhHeld=>?_);refine Qaf 0 (some 25) a4 hHeld ?_;refine Qaf 1 (some 26) a4 hHeld ?_;refine Qaf 2 (some 27) a4 hHeld ?_;refine Qac (i:=3) kM rfl (by rfl) (λK hK=>?_);go_simp
 (refine(c4.o _ (f8.o.trans hHeld)).mono ?_;rintro e wa ⟨sc,rfl,l6,p8⟩;have e6:=hY l6;have j1:=hY p8;have t1:=hY hHeld;clear l6 p8)
 refine hK.out _ _ (hHeld.trans j1.o) (λhHeld=>?_);clear hK K
 try go_frame
 refine Qaf 4 (some 6) a4 hHeld ?_;refine eF kM ?_ _;have k7:=hY hHeld;have b6:=f8.o.trans hHeld;have j4:=hY b6;have q5:wa.cell? ⟨w5,0,none⟩=some (.pointer p2):=(fW hHeld f9.o).cell 0;have q1:wa.cell? ⟨w,0,none⟩=some (.pointer none):=a4.o wa hHeld;have d3:∀b,Up (λi=>w1<=i/\i<w2/\i≠b2) w4 w5 b->b<w6:=λb I=>I.elim (λe=>by have:=e.2.1;omega) λe=>by have:=e.2;omega
 have x2:=hHeld.size;have g6:=e3.o.agree (fN hHeld d3);have c3:=hY (show Calls prog 21 #[.agg #[.pointer p2],.agg #[.pointer none],.int .u64 1,.slice (some ⟨w3,0,none⟩) 3 3] wa λe w'=>∃(V:RT) (p3:Option Addr) (sL sC:Sl),e=.returned (.tuple #[.agg #[.pointer p3],.slice sL.a 2 sL.c,.slice sC.a 0 sC.c])/\QaK V=.pointer p3/\OkR V/\Qaa V=QkP 1/\IsT w' (In wa.heap.size w'.heap.size) V/\Qa7 w' (In wa.heap.size w'.heap.size) sL (l24.drop 1)/\Nw wa w' from by
  have h:=QnA (last:=1) g6 (λb I=>by have:=d3 b I;omega) j6.o (by rw[g0.o];decide) (f5.o wa b6);rw[Qao,i7.o,Qtm]at h;refine h.mono ?_;rintro e w' ⟨V,sL,sC,cs,rfl,ho⟩;obtain⟨p3,c9⟩:=Qaj V;have he:Qaa V=QkP 1:=by rw[ho.ents,show Qe6 (l24.drop 1)=lK.drop 1 from rfl,show Qaa none=[]from rfl,QsB]
  have hc:=ho.chg;rw[he,g0.o,QlV]at hc;obtain rfl:cs=[]:=cO.1 hc;exact⟨V,p3,sL,sC,by rw[Qao,c9]<;>rfl,c9,ho.ok,he,ho.tree.mono λb I=>I.elim (λe=>e.elim) id,ho.row,ho.nw⟩)
 obtain⟨q3,i2⟩:=Yb g6 d3;clear b6 g6 hHeld d3 f5 c4 e3;go_wp2_with fail;refine c3.o.mono ?_;rintro e wb ⟨V,p3,sL,sC,rfl,c9,k9,j7,hV,b4,i6⟩;obtain⟨r7,t0,r1,HV,o9,s9⟩:=Yg c9 k9 j7 hV b4 i6;clear c9 k9 j7 hV b4 i6 q5 q1 c3;go_upto_region 8 with fail;generalize i8:World.alloc _ _=wc;obtain⟨a9,k4,x4⟩:=Qb2 i8;obtain⟨n4,k1⟩:=Yb a9 k4;clear i8 a9 k4;go_wp2_with fail;refine(Qj6 _ 1).mono ?_;rintro e wd ⟨rfl,l1⟩;have g4:=hY l1;clear l1;go_upto_region 9 with fail;generalize n6:World.alloc _ _=we;obtain⟨d5,i9,x3⟩:=Qb2 n6;have a1:Nw wa we:=s9.o.trans ((fJ n4.o).trans ((fJ g4.o).trans (fJ d5)));have a5:Nw wb we:=(fJ n4.o).trans ((fJ g4.o).trans (fJ d5));have e4:Nw wc we:=(fJ g4.o).trans (fJ d5);have x1:=a5.size;have t8:=a1.size;have o7:ES we (Lt we) ⟨some ⟨wd,0,none⟩,1⟩ [⟨kN,Qi0 1,Sl.none,Sl.none⟩]:=Qud (xs:=[⟨kN,Qi0 1,Sl.none,Sl.none⟩]) i9 (λx hx=>by rw[aX.1 hx];exact⟨QmB _ _ oN,oN⟩) oN;have b5:∀(T:RT) (p:Option Addr) (F:Nat->Prop),QaK T=.pointer p->OkR T->Qaa T=QkP 1->(∀b,F b->b<we.heap.size)->IsT we F T->∀W,Nw we W->Calls prog 17 #[.agg #[.pointer p],.slice (some ⟨wd,0,none⟩) 1 1] W λe w'=>e=.returned (.bool true)/\Ext W w':=λT p F hp ok he hF hT W N=>by
  have h:=Qph (w:=W) (s:=⟨some ⟨wd,0,none⟩,1⟩) (xs:=[⟨kN,Qi0 1,Sl.none,Sl.none⟩]) (λb I=>ab (hF b I) N.size) (hT.agree (fN N hF)) ok (by rw[he];decide) ((o7.agree (fN N λb I=>I)).mono λb I=>ab I N.size);rw[Qao,hp,he,show([⟨kN,Qi0 1,Sl.none,Sl.none⟩]:List LE).map LE.ent=QkP 1 from rfl,QhK]at h;exact h
 obtain⟨c8,b9,a6⟩:=Yc (b5 T2 p2 _ i7.o j6.o g0.o (λb I=>by have:=i2.o b I;omega) (q3.o.agree (fN a1 λb I=>by have:=i2.o b I;omega))) (b5 V p3 _ r7.o t0.o r1.o (λb I=>by have:=I.2;omega) (HV.o.agree (fN a5 λb I=>I.2))) (j4.o.trans a1);have e1:=hY (show ∀W,Nw we W->Calls prog 11 #[.slice sL.a 2 sL.c,.slice (some ⟨w3,20,none⟩) 2 2] W λe w'=>e=.returned (.bool true)/\Ext W w' fromλW N=>
  QgX (s:=sL) (s':=⟨some ⟨w3,20,none⟩,2⟩) (l:=l24.drop 1) (o9.o.up (λb I=>I.2) (a5.trans N)) (d4.o.nw (a6.o.trans N)))
 obtain⟨f7,p4,k5,k3,r8⟩:=Yf (e6.o.nw (λb I=>I.2) a1) (fW (k7.o.trans a1) f9.o) (fW a6.o f3.o) (fW e4 k1.o) (b7.o.trans a6.o);have q5:we.cell? ⟨w5,0,none⟩=some (.pointer p2):=p4.o.cell 0;clear n6 d5 i9 a1 a5 e4 o7 b5 e6 o9 HV q3 j1 t1 f9 f3 k1;go_wp2_with fail;refine(c8.o we (fM _ _)).mono ?_;rintro e v1 ⟨rfl,g8⟩;have l0:=hY (fJ g8);have c2:v1.cell? ⟨b2,0,none⟩=some (.pointer p1):=(k5.o.ext g8).cell 0;clear g8 q5 c8;go_wp2_with fail;refine(f1.o v1 (a6.o.trans l0.o)).mono ?_;rintro e v2 ⟨r3,rfl,e8,j0⟩;obtain⟨q9,e7⟩:=Yb (l0.o.trans j0) e8;clear j0 e8 c2 f1;go_wp2_with fail;generalize o6:World.alloc _ _=v3;obtain⟨a8,b0,-⟩:=Qb2 o6;have r6:=hY (q9.o.trans (fJ a8));have k2:=QhJ (A:=[0,0,0]) (B:=[0,0,0]) (s:=r3) (s':=⟨some ⟨v2,0,none⟩,3⟩) (e7.o.nw (λb I=>I.2) (fJ a8)) ((fU b0 oN rfl).mono λb I=>by rw[I];exact b0.lt) oN;have o3:=hY k2;clear o6 a8 b0 k2 e7;refine o3.o.mono ?_;rintro e v4 ⟨rfl,n7⟩;rw[show decide (([0,0,0]:List Int)=[0,0,0])=true from rfl];have t3:=hY (r6.o.trans (fJ n7));clear n7 o3;go_wp2_with fail;generalize j2:World.alloc _ _=v5;obtain⟨l9,g5,-⟩:=Qb2 j2;have p5:=hY (t3.o.trans (fJ l9));have i3:=QhJ (A:=[12,0]) (B:=[12,0]) (s:=sc) (s':=⟨some ⟨v4,0,none⟩,2⟩) (f7.o.nw (λb I=>I) p5.o) ((fU g5 oN rfl).mono λb I=>by rw[I];exact g5.lt) oN;have l4:=hY i3;clear j2 l9 g5 i3 f7;refine l4.o.mono ?_;rintro e v6 ⟨rfl,j3⟩;rw[show decide (([12,0]:List Int)=[12,0])=true from rfl];have b8:=p5.o.trans (fJ j3);have p9:=hY b8;have c7:v6.cell? ⟨wb,0,none⟩=some (.pointer p3):=(fW b8 k3.o).cell 0;clear j3 b8 l4;go_wp2_with fail;refine(b9.o v6 p9.o).mono ?_;rintro e v7 ⟨rfl,i4⟩;have l5:=hY (p9.o.trans (fJ i4));clear i4 c7 b9;go_wp2_with fail;refine(e1.o v7 l5.o).mono ?_;rintro e v8 ⟨rfl,q2⟩;have r2:=hY (l5.o.trans (fJ q2));clear q2 e1;go_wp2_with fail;go_ret;exact⟨rfl,r8.o.trans r2.o⟩
def Qxj(s:ByteArray)(i:Nat):Nat->Nat->Nat->Option Nat
 |0,_,r=>some r
 |m+1,j,r=>if(s.get! (i+j)).toNat<128\/192<=(s.get! (i+j)).toNat then none else Qxj s i m (j+1) (64*r+(s.get! (i+j)).toNat-128)
def Qy6(n least:Nat)(r:Option Nat):Nat × Nat:=match r with
 |none=>(0,0)
 |some r=>if r<least\/1114111<r\/(55296<=r/\r<57344)then(0,0)else(r,n)
def Qwv(s:ByteArray)(i n base least:Nat):Nat × Nat:=if s.size<i+n then(0,0)else Qy6 n least (Qxj s i (n-1) 1 ((s.get! i).toNat-base))
def Qwc(s:ByteArray)(i:Nat):Nat × Nat:=
 if s.size<=i then(0,0)else if(s.get! i).toNat<128 then((s.get! i).toNat,1)
 else if 192<=(s.get! i).toNat/\(s.get! i).toNat<224 then Qwv s i 2 192 128
 else if 224<=(s.get! i).toNat/\(s.get! i).toNat<240 then Qwv s i 3 224 2048
 else if 240<=(s.get! i).toNat/\(s.get! i).toNat<248 then Qwv s i 4 240 65536 else(0,0)
theorem Qwm(b:UInt8):b.toNat<256:=b.toNat_lt
theorem Qwb:(if((65533,1):Nat × Nat)=(65533,1)then((0,0):Nat × Nat)else(65533,1))=(0,0):=eu rfl
theorem Qx9{v m:Nat}(h:m≠1):(if((v,m):Nat × Nat)=(65533,1)then((0,0):Nat × Nat)else(v,m))=(v,m):=eh (by intro e;injection e with _ e;exact h e)
theorem Qzj(n I b1 b2 N:Nat)(Z:192<=I/\I<224)(h1:b1<256):Lib.decodeN n I b1 b2 N=if n<2\/(b1<128\/192<=b1)\/64*(I-192)+b1-128<128 then(65533,1)else(64*(I-192)+b1-128,2):=by
 unfold Lib.decodeN
 repeat' split
 all_goals first |(exfalso;omega) |(rw[Prod.mk.injEq];omega)
theorem Qzk(n I b1 b2 N:Nat)(Z:224<=I/\I<240)(h1:b1<256)(h2:b2<256):Lib.decodeN n I b1 b2 N=if n<3\/(b1<128\/192<=b1)\/(b2<128\/192<=b2)\/(64*(64*(I-224)+b1-128)+b2-128<2048\/(55296<=64*(64*(I-224)+b1-128)+b2-128/\64*(64*(I-224)+b1-128)+b2-128<57344))then(65533,1)else(64*(64*(I-224)+b1-128)+b2-128,3):=by
 unfold Lib.decodeN
 repeat' split
 all_goals first |(exfalso;omega) |(rw[Prod.mk.injEq];omega)
theorem Qzl(n N b1 b2 I:Nat)(Z:240<=N/\N<248)(h1:b1<256)(h2:b2<256)(h3:I<256):Lib.decodeN n N b1 b2 I=if n<4\/(b1<128\/192<=b1)\/(b2<128\/192<=b2)\/(I<128\/192<=I)\/(64*(64*(64*(N-240)+b1-128)+b2-128)+I-128<65536\/1114111<64*(64*(64*(N-240)+b1-128)+b2-128)+I-128)then(65533,1)else(64*(64*(64*(N-240)+b1-128)+b2-128)+I-128,4):=by
 unfold Lib.decodeN
 repeat' split
 all_goals first |(exfalso;omega) |(rw[Prod.mk.injEq];omega)
theorem Qzi(n I b1 b2 N:Nat)(Z:128<=I)(h2:¬(192<=I/\I<224))(h3:¬(224<=I/\I<240))(h4:¬(240<=I/\I<248)):Lib.decodeN n I b1 b2 N=(65533,1):=by
 unfold Lib.decodeN
 repeat' split
 all_goals first |(exfalso;omega) |(rw[Prod.mk.injEq];omega)
theorem Qyo(s:ByteArray)(i:Nat):Qwc s i=if s.size<=i\/Utf8.decode s i=(65533,1)then(0,0)else Utf8.decode s i:=by
 unfold Qwc;by_cases hi:s.size<=i
 .rw [eu hi,eu (.inl hi)]
 rw[eh hi];simp only[hi,false_or];rw[Lib.decode_at];unfold Qwv Qy6;have e1:∀m j r,Qxj s i (m+1) j r=if(s.get! (i+j)).toNat<128\/192<=(s.get! (i+j)).toNat then none else Qxj s i m (j+1) (64*r+(s.get! (i+j)).toNat-128):=λ_ _ _=>rfl
 have e0:∀j r,Qxj s i 0 j r=some r:=λ_ _=>rfl
 have h0:=Qwm (s.get! i);have h1:=Qwm (s.get! (i+1));have h2:=Qwm (s.get! (i+2));have h3:=Qwm (s.get! (i+3));simp only[Nat.reduceSub,e1,e0,Nat.reduceAdd];generalize (s.get! i).toNat=N at *;generalize (s.get! (i+1)).toNat=b1 at *;generalize (s.get! (i+2)).toNat=b2 at *;generalize (s.get! (i+3)).toNat=b3 at *;generalize hn:s.size-i=n;have a0:(s.size<i+2)=(n<2):=propext ⟨λh=>oM,λh=>oM⟩;have a1:(s.size<i+3)=(n<3):=propext ⟨λh=>oM,λh=>oM⟩;have a2:(s.size<i+4)=(n<4):=propext ⟨λh=>oM,λh=>oM⟩;simp only[a0,a1,a2];clear a0 a1 a2 e1 e0 hn hi;by_cases c1:N<128
 .rw [eu c1,Lib.decodeN_ascii n N b1 b2 b3 c1,eh (by intro e;injection e with e;omega)]
 rw[eh c1];by_cases c2:192<=N/\N<224
 ·rw [eu c2]
  have hd:=Qzj n N b1 b2 b3 c2 h1;by_cases I:n<2
  ·rw [eu (.inl I)] at hd
   rw[eu I,hd,Qwb]
  by_cases Z:b1<128\/192<=b1
  ·rw [eu (.inr (.inl Z))] at hd
   rw[eh I,eu Z,hd,Qwb]
  by_cases q3:64*(N-192)+b1-128<128
  ·rw [eu (.inr (.inr q3))] at hd
   rw[eh I,eh Z,hd,Qwb];show(if _ then _ else _)=_;rw[eu (.inl q3)]
  rw[eh oM]at hd;rw[eh I,eh Z,hd,Qx9 oN];show(if _ then _ else _)=_;rw[eh oM]
 rw[eh c2];by_cases c3:224<=N/\N<240
 ·rw [eu c3]
  have hd:=Qzk n N b1 b2 b3 c3 h1 h2;by_cases I:n<3
  ·rw [eu (.inl I)] at hd
   rw[eu I,hd,Qwb]
  by_cases Z:b1<128\/192<=b1
  ·rw [eu (.inr (.inl Z))] at hd
   rw[eh I,eu Z,hd,Qwb]
  by_cases q3:b2<128\/192<=b2
  ·rw [eu (.inr (.inr (.inl q3)))] at hd
   rw[eh I,eh Z,eu q3,hd,Qwb]
  by_cases q4:64*(64*(N-224)+b1-128)+b2-128<2048\/(55296<=64*(64*(N-224)+b1-128)+b2-128/\64*(64*(N-224)+b1-128)+b2-128<57344)
  ·rw [eu (.inr (.inr (.inr q4)))] at hd
   rw[eh I,eh Z,eh q3,hd,Qwb];show(if _ then _ else _)=_;rw[eu oM]
  rw[eh oM]at hd;rw[eh I,eh Z,eh q3,hd,Qx9 oN];show(if _ then _ else _)=_;rw[eh oM]
 rw[eh c3];by_cases c4:240<=N/\N<248
 ·rw [eu c4]
  have hd:=Qzl n N b1 b2 b3 c4 h1 h2 h3;by_cases I:n<4
  ·rw [eu (.inl I)] at hd
   rw[eu I,hd,Qwb]
  by_cases Z:b1<128\/192<=b1
  ·rw [eu (.inr (.inl Z))] at hd
   rw[eh I,eu Z,hd,Qwb]
  by_cases q3:b2<128\/192<=b2
  ·rw [eu (.inr (.inr (.inl q3)))] at hd
   rw[eh I,eh Z,eu q3,hd,Qwb]
  by_cases q5:b3<128\/192<=b3
  ·rw [eu (.inr (.inr (.inr (.inl q5))))] at hd
   rw[eh I,eh Z,eh q3,eu q5,hd,Qwb]
  by_cases q4:64*(64*(64*(N-240)+b1-128)+b2-128)+b3-128<65536\/1114111<64*(64*(64*(N-240)+b1-128)+b2-128)+b3-128
  ·rw [eu (.inr (.inr (.inr (.inr q4))))] at hd
   rw[eh I,eh Z,eh q3,eh q5,hd,Qwb];show(if _ then _ else _)=_;rw[eu oM]
  rw[eh oM]at hd;rw[eh I,eh Z,eh q3,eh q5,hd,Qx9 oN];show(if _ then _ else _)=_;rw[eh oM]
 rw[eh c4,Qzi n N b1 b2 b3 oM c2 c3 c4,Qwb]
theorem QwE(s:ByteArray)(i:Nat)(h:i<s.size):s.get! i=s[i]'h:=by
 cases s with
 |mk d=>exact getElem!_pos d i h
variable{r j:Nat}
theorem QwR(I:j<=4)(h:r<64^j):r<16777216:=ab h (an (Nat.pow_le_pow_right oN I) oN)
theorem Qw3{r d j:Nat}(h:r<64^j)(hd:d<192):64*r+d-128<64^(j+1):=by
 rw[Nat.pow_succ];omega
theorem QwT(s:ByteArray)(i m j r:Nat)(I:0<m):Qxj s i m j r=if(s.get! (i+j)).toNat<128\/192<=(s.get! (i+j)).toNat then none else Qxj s i (m-1) (j+1) (64*r+(s.get! (i+j)).toNat-128):=by
 cases m with
 |zero=>omega
 |succ m=>rfl
theorem Qxz(w:World)(s:ByteArray)(i:Nat)(hs:s.size<=1000000000000):Calls prog 153 #[.string s,.int .i64 (i:Int)] w λe w'=>e=.returned (.tuple #[.int .i64 ((Qwc s i).1:Int),.int .i64 ((Qwc s i).2:Int)])/\w'=w:=by
 by_cases hi:s.size<=i
 ·have g0:decide ((s.size:Int)≤(i:Int))=true:=em oM
  have HR:=hY (show Qwc s i=(0,0)by unfold Qwc;rw[eu hi]);go_in;go_wp2_with fail;go_ret2;exact⟨by rw[HR.o];rfl,rfl⟩
 have g0:decide ((s.size:Int)<=(i:Int))=false:=ej oM;have z0:(0:Int)<=(i:Int):=oM
 have z1:(i:Int)<(s.size:Int):=oM
 obtain⟨c,a9⟩:∃c,(s.get! i).toNat=c:=⟨_,rfl⟩;have hc:(s[i]' oM).toNat=c:=by rw[<-a9,QwE s i oM]
 have c3:c<256:=by rw[<-a9];exact Qwm _
 have a1:=hY a9;clear a9;by_cases h1:c<128
 ·have b7:decide ((c:Int)<128)=true:=em oM
  have HR:=hY (show Qwc s i=(c,1)by unfold Qwc;rw[eh hi,a1.o,eu h1]);clear h1;go_in;go_wp2_with fail;go_ret2;exact⟨by rw[HR.o];rfl,rfl⟩
 have b7:decide ((c:Int)<128)=false:=ej oM;have hg:¬(s.get! i).toNat<128:=by rw[a1.o];exact h1
 by_cases c7:c<192
 ·have a5:¬(192≤(s.get! i).toNat∧(s.get! i).toNat<224):=by rw [a1.o];omega
  have a8:¬(224<=(s.get! i).toNat/\(s.get! i).toNat<240):=by rw[a1.o];omega
  have b0:¬(240<=(s.get! i).toNat/\(s.get! i).toNat<248):=by rw[a1.o];omega
  have b6:decide ((192:Int)<=(c:Int))=false:=ej oM;have b3:decide ((224:Int)<=(c:Int))=false:=ej oM;have b4:decide ((240:Int)<=(c:Int))=false:=ej oM;have HR:=hY (show Qwc s i=(0,0)by unfold Qwc;rw[eh hi,eh hg,eh a5,eh a8,eh b0]);go_in;go_wp2_with fail;go_ret2;exact⟨by rw[HR.o];rfl,rfl⟩
 have b6:decide ((192:Int)<=(c:Int))=true:=em oM;by_cases c4:c<224
 ·have a7:192≤(s.get! i).toNat∧(s.get! i).toNat<224:=by rw [a1.o];omega
  have b8:decide ((c:Int)<224)=true:=em oM;go_in;have a3:Qwc s i=Qwv s i 2 192 128:=by
   unfold Qwc;rw[eh hi,eh hg,eu a7]
  have a2:=hY a3;clear a3;have w0:IntKind.i64.wrap ((i:Int)+2)=(i:Int)+2:=by rw[ey];omega
  by_cases hn:s.size<i+2
  ·have p0:decide ((s.size:Int)<(i:Int)+2)=true:=em oM
   have HR:=hY (show Qwc s i=(0,0)by rw[a2.o,Qwv,eu hn]);clear hn;go_wp2_with fail;go_ret2;exact⟨by rw[HR.o];rfl,rfl⟩
  have p0:decide ((s.size:Int)<(i:Int)+2)=false:=ej oM;obtain⟨X,hX⟩:∃X,Qxj s i 1 1 (c-192)=X:=⟨_,rfl⟩;obtain⟨HR,HX⟩:=Yb (show Qwc s i=Qy6 2 128 X by rw[a2.o,Qwv,eh hn,a1.o,hX]) hX;have w1:IntKind.i64.wrap ((c:Int)-192)=((c-192:Nat):Int):=by rw[ey];omega
  clear hX a2;go_wp2_with fail;go_loopw[8,10] (λrv jv wr=>∃j r:Nat,rv=.int .i64 (r:Int)/\jv=.int .i64 (j:Int)/\1<=j/\j<=2/\Yd (r<64^j/\Qxj s i (2-j) j r=X)/\wr=w) (λ_ jv _=>2 -(intOf jv).toNat)
  case atStart=>exact⟨1,c-192,rfl,rfl,ao _,oN,hY ⟨oM,HX.o⟩,rfl⟩
  obtain⟨j,r,rfl,rfl,c1,c0,HJ,rfl⟩:=hrel;have hr:=QwR (show j<=4 by omega) HJ.o.1;by_cases a6:j<2
  ·have e1:decide ((j:Int)<2)=true:=em oM
   have v0:IntKind.i64.wrap ((i:Int)+(j:Int))=(i:Int)+(j:Int):=by rw[ey];omega
   have v1:(0:Int)<=(i:Int)+(j:Int):=oM
   have v2:(i:Int)+(j:Int)<(s.size:Int):=oM
   have v3:((i:Int)+(j:Int)).toNat=i+j:=oM
   obtain⟨d,hd⟩:∃d,(s.get! (i+j)).toNat=d:=⟨_,rfl⟩;have c2:(s[i+j]' oM).toNat=d:=by rw[<-hd,QwE s (i+j) oM]
   have a4:d<256:=by rw[<-hd];exact Qwm _
   have I:=QwT s i (2-j) j r oM;rw[HJ.o.2,hd]at I;have a0:=hY I;clear I hd;by_cases N:d<128
   ·have e2:decide ((d:Int)<128)=true:=em oM
    have HE:=hY (show Qwc s i=(0,0)by rw[HR.o,a0.o,eu (.inl N)];rfl);clear N;go_wp2_with fail;go_ret2;exact⟨by rw[HE.o];rfl,rfl⟩
   have e2:decide ((d:Int)<128)=false:=ej oM;by_cases Z:192<=d
   ·have e3:decide ((192:Int)≤(d:Int))=true:=em oM
    have HE:=hY (show Qwc s i=(0,0)by rw[HR.o,a0.o,eu (.inr Z)];rfl);clear N Z;go_wp2_with fail;go_ret2;exact⟨by rw[HE.o];rfl,rfl⟩
   have e3:decide ((192:Int)<=(d:Int))=false:=ej oM;have u0:IntKind.i64.wrap (64*(r:Int))=64*(r:Int):=by rw[ey];omega
   have u1:IntKind.i64.wrap (64*(r:Int)+(d:Int))=64*(r:Int)+(d:Int):=by rw[ey];omega
   have u2:IntKind.i64.wrap (64*(r:Int)+(d:Int)-128)=((64*r+d-128:Nat):Int):=by rw[ey];omega
   have HN:=hY (show 64*r+d-128<64^(j+1)/\Qxj s i (2 -(j+1)) (j+1) (64*r+d-128)=X from⟨Qw3 HJ.o.1 oM,by rw[a0.o,eh oM];rfl⟩);clear a0 N Z;go_wp2_with fail;go_roundw
   case rel=>exact⟨j+1,64*r+d-128,by rfl,by go_num,oM,oM,HN,trivial⟩
   simp[intOf];omega
  obtain rfl:j=2:=oM
  have HE:=hY (show Qwc s i=if r<128\/1114111<r\/(55296<=r/\r<57344)then(0,0)else(r,2)by
   have:X=some r:=by rw[<-HJ.o.2];rfl
   rw[HR.o,this];rfl)
  have e1:decide ((2:Int)<2)=false:=oN
  clear a6 HJ HR HX;by_cases N:r<128
  ·have e2:decide ((r:Int)<128)=true:=em oM
   have HF:=hY (show Qwc s i=(0,0)by rw[HE.o,eu (.inl N)]);clear N;go_wp2_with fail;go_ret2;exact⟨by rw[HF.o];rfl,rfl⟩
  have e2:decide ((r:Int)<128)=false:=ej oM;by_cases Z:1114111<r
  ·have e3:decide ((1114111:Int)<(r:Int))=true:=em oM
   have HF:=hY (show Qwc s i=(0,0)by rw[HE.o,eu (.inr (.inl Z))]);clear N Z;go_wp2_with fail;go_ret2;exact⟨by rw[HF.o];rfl,rfl⟩
  have e3:decide ((1114111:Int)<(r:Int))=false:=ej oM;by_cases q3:55296<=r
  ·have e4:decide ((55296:Int)≤(r:Int))=true:=em oM
   by_cases q4:r<57344
   ·have e5:decide ((r:Int)<57344)=true:=em oM
    have HF:=hY (show Qwc s i=(0,0)by rw[HE.o,eu (.inr (.inr ⟨q3,q4⟩))]);clear N Z q3 q4;go_wp2_with fail;go_ret2;exact⟨by rw[HF.o];rfl,rfl⟩
   have e5:decide ((r:Int)<57344)=false:=ej oM;have HF:=hY (show Qwc s i=(r,2)by rw[HE.o,eh oM]);clear N Z q3 q4;go_wp2_with fail;go_ret2;exact⟨by rw[HF.o];rfl,rfl⟩
  have e4:decide ((55296:Int)<=(r:Int))=false:=ej oM;have HF:=hY (show Qwc s i=(r,2)by rw[HE.o,eh oM]);clear N Z q3;go_wp2_with fail;go_ret2;exact⟨by rw[HF.o];rfl,rfl⟩
 have a5:¬(192<=(s.get! i).toNat/\(s.get! i).toNat<224):=by rw[a1.o];omega
 have b8:decide ((c:Int)<224)=false:=ej oM;have b3:decide ((224:Int)<=(c:Int))=true:=em oM;by_cases c6:c<240
 ·have a7:224≤(s.get! i).toNat∧(s.get! i).toNat<240:=by rw [a1.o];omega
  have b5:decide ((c:Int)<240)=true:=em oM;go_in;have a3:Qwc s i=Qwv s i 3 224 2048:=by
   unfold Qwc;rw[eh hi,eh hg,eh a5,eu a7]
  have a2:=hY a3;clear a3;have w0:IntKind.i64.wrap ((i:Int)+3)=(i:Int)+3:=by rw[ey];omega
  by_cases hn:s.size<i+3
  ·have p0:decide ((s.size:Int)<(i:Int)+3)=true:=em oM
   have HR:=hY (show Qwc s i=(0,0)by rw[a2.o,Qwv,eu hn]);clear hn;go_wp2_with fail;go_ret2;exact⟨by rw[HR.o];rfl,rfl⟩
  have p0:decide ((s.size:Int)<(i:Int)+3)=false:=ej oM;obtain⟨X,hX⟩:∃X,Qxj s i 2 1 (c-224)=X:=⟨_,rfl⟩;obtain⟨HR,HX⟩:=Yb (show Qwc s i=Qy6 3 2048 X by rw[a2.o,Qwv,eh hn,a1.o,hX]) hX;have w1:IntKind.i64.wrap ((c:Int)-224)=((c-224:Nat):Int):=by rw[ey];omega
  clear hX a2;go_wp2_with fail;go_loopw[8,10] (λrv jv wr=>∃j r:Nat,rv=.int .i64 (r:Int)/\jv=.int .i64 (j:Int)/\1<=j/\j<=3/\Yd (r<64^j/\Qxj s i (3-j) j r=X)/\wr=w) (λ_ jv _=>3 -(intOf jv).toNat)
  case atStart=>exact⟨1,c-224,rfl,rfl,ao _,oN,hY ⟨oM,HX.o⟩,rfl⟩
  obtain⟨j,r,rfl,rfl,c1,c0,HJ,rfl⟩:=hrel;have hr:=QwR (show j<=4 by omega) HJ.o.1;by_cases a6:j<3
  ·have e1:decide ((j:Int)<3)=true:=em oM
   have v0:IntKind.i64.wrap ((i:Int)+(j:Int))=(i:Int)+(j:Int):=by rw[ey];omega
   have v1:(0:Int)<=(i:Int)+(j:Int):=oM
   have v2:(i:Int)+(j:Int)<(s.size:Int):=oM
   have v3:((i:Int)+(j:Int)).toNat=i+j:=oM
   obtain⟨d,hd⟩:∃d,(s.get! (i+j)).toNat=d:=⟨_,rfl⟩;have c2:(s[i+j]' oM).toNat=d:=by rw[<-hd,QwE s (i+j) oM]
   have a4:d<256:=by rw[<-hd];exact Qwm _
   have I:=QwT s i (3-j) j r oM;rw[HJ.o.2,hd]at I;have a0:=hY I;clear I hd;by_cases N:d<128
   ·have e2:decide ((d:Int)<128)=true:=em oM
    have HE:=hY (show Qwc s i=(0,0)by rw[HR.o,a0.o,eu (.inl N)];rfl);clear N;go_wp2_with fail;go_ret2;exact⟨by rw[HE.o];rfl,rfl⟩
   have e2:decide ((d:Int)<128)=false:=ej oM;by_cases Z:192<=d
   ·have e3:decide ((192:Int)≤(d:Int))=true:=em oM
    have HE:=hY (show Qwc s i=(0,0)by rw[HR.o,a0.o,eu (.inr Z)];rfl);clear N Z;go_wp2_with fail;go_ret2;exact⟨by rw[HE.o];rfl,rfl⟩
   have e3:decide ((192:Int)<=(d:Int))=false:=ej oM;have u0:IntKind.i64.wrap (64*(r:Int))=64*(r:Int):=by rw[ey];omega
   have u1:IntKind.i64.wrap (64*(r:Int)+(d:Int))=64*(r:Int)+(d:Int):=by rw[ey];omega
   have u2:IntKind.i64.wrap (64*(r:Int)+(d:Int)-128)=((64*r+d-128:Nat):Int):=by rw[ey];omega
   have HN:=hY (show 64*r+d-128<64^(j+1)/\Qxj s i (3 -(j+1)) (j+1) (64*r+d-128)=X from⟨Qw3 HJ.o.1 oM,by rw[a0.o,eh oM];rfl⟩);clear a0 N Z;go_wp2_with fail;go_roundw
   case rel=>exact⟨j+1,64*r+d-128,by rfl,by go_num,oM,oM,HN,trivial⟩
   simp[intOf];omega
  obtain rfl:j=3:=oM
  have HE:=hY (show Qwc s i=if r<2048\/1114111<r\/(55296<=r/\r<57344)then(0,0)else(r,3)by
   have:X=some r:=by rw[<-HJ.o.2];rfl
   rw[HR.o,this];rfl)
  have e1:decide ((3:Int)<3)=false:=oN
  clear a6 HJ HR HX;by_cases N:r<2048
  ·have e2:decide ((r:Int)<2048)=true:=em oM
   have HF:=hY (show Qwc s i=(0,0)by rw[HE.o,eu (.inl N)]);clear N;go_wp2_with fail;go_ret2;exact⟨by rw[HF.o];rfl,rfl⟩
  have e2:decide ((r:Int)<2048)=false:=ej oM;by_cases Z:1114111<r
  ·have e3:decide ((1114111:Int)<(r:Int))=true:=em oM
   have HF:=hY (show Qwc s i=(0,0)by rw[HE.o,eu (.inr (.inl Z))]);clear N Z;go_wp2_with fail;go_ret2;exact⟨by rw[HF.o];rfl,rfl⟩
  have e3:decide ((1114111:Int)<(r:Int))=false:=ej oM;by_cases q3:55296<=r
  ·have e4:decide ((55296:Int)≤(r:Int))=true:=em oM
   by_cases q4:r<57344
   ·have e5:decide ((r:Int)<57344)=true:=em oM
    have HF:=hY (show Qwc s i=(0,0)by rw[HE.o,eu (.inr (.inr ⟨q3,q4⟩))]);clear N Z q3 q4;go_wp2_with fail;go_ret2;exact⟨by rw[HF.o];rfl,rfl⟩
   have e5:decide ((r:Int)<57344)=false:=ej oM;have HF:=hY (show Qwc s i=(r,3)by rw[HE.o,eh oM]);clear N Z q3 q4;go_wp2_with fail;go_ret2;exact⟨by rw[HF.o];rfl,rfl⟩
  have e4:decide ((55296:Int)<=(r:Int))=false:=ej oM;have HF:=hY (show Qwc s i=(r,3)by rw[HE.o,eh oM]);clear N Z q3;go_wp2_with fail;go_ret2;exact⟨by rw[HF.o];rfl,rfl⟩
 have a8:¬(224<=(s.get! i).toNat/\(s.get! i).toNat<240):=by rw[a1.o];omega
 have b5:decide ((c:Int)<240)=false:=ej oM;have b4:decide ((240:Int)<=(c:Int))=true:=em oM;by_cases c8:c<248
 ·have a7:240≤(s.get! i).toNat∧(s.get! i).toNat<248:=by rw [a1.o];omega
  have b9:decide ((c:Int)<248)=true:=em oM;go_in;have a3:Qwc s i=Qwv s i 4 240 65536:=by
   unfold Qwc;rw[eh hi,eh hg,eh a5,eh a8,eu a7]
  have a2:=hY a3;clear a3;have w0:IntKind.i64.wrap ((i:Int)+4)=(i:Int)+4:=by rw[ey];omega
  by_cases hn:s.size<i+4
  ·have p0:decide ((s.size:Int)<(i:Int)+4)=true:=em oM
   have HR:=hY (show Qwc s i=(0,0)by rw[a2.o,Qwv,eu hn]);clear hn;go_wp2_with fail;go_ret2;exact⟨by rw[HR.o];rfl,rfl⟩
  have p0:decide ((s.size:Int)<(i:Int)+4)=false:=ej oM;obtain⟨X,hX⟩:∃X,Qxj s i 3 1 (c-240)=X:=⟨_,rfl⟩;obtain⟨HR,HX⟩:=Yb (show Qwc s i=Qy6 4 65536 X by rw[a2.o,Qwv,eh hn,a1.o,hX]) hX;have w1:IntKind.i64.wrap ((c:Int)-240)=((c-240:Nat):Int):=by rw[ey];omega
  clear hX a2;go_wp2_with fail;go_loopw[8,10] (λrv jv wr=>∃j r:Nat,rv=.int .i64 (r:Int)/\jv=.int .i64 (j:Int)/\1<=j/\j<=4/\Yd (r<64^j/\Qxj s i (4-j) j r=X)/\wr=w) (λ_ jv _=>4 -(intOf jv).toNat)
  case atStart=>exact⟨1,c-240,rfl,rfl,ao _,oN,hY ⟨oM,HX.o⟩,rfl⟩
  obtain⟨j,r,rfl,rfl,c1,c0,HJ,rfl⟩:=hrel;have hr:=QwR (show j<=4 by omega) HJ.o.1;by_cases a6:j<4
  ·have e1:decide ((j:Int)<4)=true:=em oM
   have v0:IntKind.i64.wrap ((i:Int)+(j:Int))=(i:Int)+(j:Int):=by rw[ey];omega
   have v1:(0:Int)<=(i:Int)+(j:Int):=oM
   have v2:(i:Int)+(j:Int)<(s.size:Int):=oM
   have v3:((i:Int)+(j:Int)).toNat=i+j:=oM
   obtain⟨d,hd⟩:∃d,(s.get! (i+j)).toNat=d:=⟨_,rfl⟩;have c2:(s[i+j]' oM).toNat=d:=by rw[<-hd,QwE s (i+j) oM]
   have a4:d<256:=by rw[<-hd];exact Qwm _
   have I:=QwT s i (4-j) j r oM;rw[HJ.o.2,hd]at I;have a0:=hY I;clear I hd;by_cases N:d<128
   ·have e2:decide ((d:Int)<128)=true:=em oM
    have HE:=hY (show Qwc s i=(0,0)by rw[HR.o,a0.o,eu (.inl N)];rfl);clear N;go_wp2_with fail;go_ret2;exact⟨by rw[HE.o];rfl,rfl⟩
   have e2:decide ((d:Int)<128)=false:=ej oM;by_cases Z:192<=d
   ·have e3:decide ((192:Int)≤(d:Int))=true:=em oM
    have HE:=hY (show Qwc s i=(0,0)by rw[HR.o,a0.o,eu (.inr Z)];rfl);clear N Z;go_wp2_with fail;go_ret2;exact⟨by rw[HE.o];rfl,rfl⟩
   have e3:decide ((192:Int)<=(d:Int))=false:=ej oM;have u0:IntKind.i64.wrap (64*(r:Int))=64*(r:Int):=by rw[ey];omega
   have u1:IntKind.i64.wrap (64*(r:Int)+(d:Int))=64*(r:Int)+(d:Int):=by rw[ey];omega
   have u2:IntKind.i64.wrap (64*(r:Int)+(d:Int)-128)=((64*r+d-128:Nat):Int):=by rw[ey];omega
   have HN:=hY (show 64*r+d-128<64^(j+1)/\Qxj s i (4 -(j+1)) (j+1) (64*r+d-128)=X from⟨Qw3 HJ.o.1 oM,by rw[a0.o,eh oM];rfl⟩);clear a0 N Z;go_wp2_with fail;go_roundw
   case rel=>exact⟨j+1,64*r+d-128,by rfl,by go_num,oM,oM,HN,trivial⟩
   simp[intOf];omega
  obtain rfl:j=4:=oM
  have HE:=hY (show Qwc s i=if r<65536\/1114111<r\/(55296<=r/\r<57344)then(0,0)else(r,4)by
   have:X=some r:=by rw[<-HJ.o.2];rfl
   rw[HR.o,this];rfl)
  have e1:decide ((4:Int)<4)=false:=oN
  clear a6 HJ HR HX;by_cases N:r<65536
  ·have e2:decide ((r:Int)<65536)=true:=em oM
   have HF:=hY (show Qwc s i=(0,0)by rw[HE.o,eu (.inl N)]);clear N;go_wp2_with fail;go_ret2;exact⟨by rw[HF.o];rfl,rfl⟩
  have e2:decide ((r:Int)<65536)=false:=ej oM;by_cases Z:1114111<r
  ·have e3:decide ((1114111:Int)<(r:Int))=true:=em oM
   have HF:=hY (show Qwc s i=(0,0)by rw[HE.o,eu (.inr (.inl Z))]);clear N Z;go_wp2_with fail;go_ret2;exact⟨by rw[HF.o];rfl,rfl⟩
  have e3:decide ((1114111:Int)<(r:Int))=false:=ej oM;by_cases q3:55296<=r
  ·have e4:decide ((55296:Int)≤(r:Int))=true:=em oM
   by_cases q4:r<57344
   ·have e5:decide ((r:Int)<57344)=true:=em oM
    have HF:=hY (show Qwc s i=(0,0)by rw[HE.o,eu (.inr (.inr ⟨q3,q4⟩))]);clear N Z q3 q4;go_wp2_with fail;go_ret2;exact⟨by rw[HF.o];rfl,rfl⟩
   have e5:decide ((r:Int)<57344)=false:=ej oM;have HF:=hY (show Qwc s i=(r,4)by rw[HE.o,eh oM]);clear N Z q3 q4;go_wp2_with fail;go_ret2;exact⟨by rw[HF.o];rfl,rfl⟩
  have e4:decide ((55296:Int)<=(r:Int))=false:=ej oM;have HF:=hY (show Qwc s i=(r,4)by rw[HE.o,eh oM]);clear N Z q3;go_wp2_with fail;go_ret2;exact⟨by rw[HF.o];rfl,rfl⟩
 have b0:¬(240<=(s.get! i).toNat/\(s.get! i).toNat<248):=by rw[a1.o];omega
 have b9:decide ((c:Int)<248)=false:=ej oM;have HR:=hY (show Qwc s i=(0,0)by unfold Qwc;rw[eh hi,eh hg,eh a5,eh a8,eh b0]);go_in;go_wp2_with fail;go_ret2;exact⟨by rw[HR.o];rfl,rfl⟩
theorem QxS{s:ByteArray}{p f:Nat}(hp:p<s.size)(hf:s.size<=p+f):Lib.validGoD f (s.data.toList.drop p)=if Utf8.decode s p=(65533,1)then false else Lib.validGoD (f-1) (s.data.toList.drop (p+(Utf8.decode s p).2)):=by
 cases f with
 |zero=>omega
 | succ f=>
   have Z:s.data.toList.length=s.size:=by rw[aP];rfl
   have N:s.data.toList.drop p≠[]:=by
    intro e;have:=congrArg List.length e;rw[aw,Z]at this;simp at this;omega
   rw[Lib.validGoD,eh N,Lib.decodeL_drop,ee];by_cases I:Utf8.decode s p=(65533,1)
   .rw [eu I,eu (by rw[I];exact⟨rfl,rfl⟩)]
   rw[eh I,eh (λh=>I (Prod.ext h.1 h.2))];rfl
theorem QxT{s:ByteArray}{p f:Nat}(I:s.size<=p):Lib.validGoD f (s.data.toList.drop p)=true:=by
 have N:s.data.toList.length=s.size:=by rw[aP];rfl
 rw[bS oM];cases f<;>rfl
theorem Qwe(w:World)(s:ByteArray)(hs:s.size<=1000000000000):Calls prog 122 #[.string s] w λe w'=>e=.returned (.bool (Lib.validD s.data.toList))/\w'=w:=by
 obtain⟨V,hV⟩:∃V,Lib.validD s.data.toList=V:=⟨_,rfl⟩;rw[hV];have hl:s.data.toList.length=s.size:=by rw[aP];rfl
 have a3:=λ(p:Nat)=>Qxz w s p hs
 obtain⟨a5,HV,a6⟩:=Yc a3 hV hl;clear a3 hV hl;go_in;go_wp2_with fail;go_loopw[3] (λv wr=>∃p f:Nat,v=.int .i64 (p:Int)/\p<=s.size/\Yd (Lib.validGoD f (s.data.toList.drop p)=V/\s.size<=p+f)/\wr=w) (λv _=>s.size -(intOf v).toNat)
 case atStart=>exact⟨0,s.size,rfl,aA _,hY ⟨by rw[cZ,<-a6.o];exact HV.o,oM⟩,rfl⟩
 obtain⟨p,f,rfl,hp,HS,rfl⟩:=hrel;by_cases a2:p<s.size
 ·have e1:decide ((p:Int)<(s.size:Int))=true:=em oM
  have I:=QxS a2 HS.o.2;rw[HS.o.1]at I;obtain⟨Z,a0,hr⟩:=Qgs a2;have N:=Qyo s p;go_wp2_with fail;refine(a5.o p).mono ?_;rintro e w2 ⟨rfl,rfl⟩;obtain⟨r,z,hd⟩:∃r z,Utf8.decode s p=(r,z):=⟨_,_,rfl⟩;by_cases hb:Utf8.decode s p=(65533,1)
  ·rw [eu (.inr hb)] at N
   rw[eu hb]at I;rw[N];have a1:=hY I;clear N I hb hd Z a0 hr;go_wp2_with fail;go_ret;exact⟨by rw[a1.o];rfl,rfl⟩
  rw[eh (λh=>h.elim (λh=>absurd h oM) hb)]at N;rw[eh hb]at I;rw[N];rw[hd]at I Z a0 ⊢;dsimp only at I Z a0 ⊢;have e2:((z:Int)==0)=false:=ev.2 oM;have e3:IntKind.i64.wrap ((p:Int)+(z:Int))=(p:Int)+(z:Int):=by rw[ey];omega
  have a1:=hY I.symm;have HF:=HS.o.2;have a4:=hY Z;clear N I hb hd hr Z;go_wp2_with fail;go_roundw
  case rel=>exact⟨p+z,f-1,by go_num,a0,hY ⟨a1.o,by have:=a4.o;omega⟩,trivial⟩
  have:=a4.o;simp[intOf];omega
 obtain rfl:p=s.size:=oM
 have e1:decide ((s.size:Int)<(s.size:Int))=false:=ej oM;have HE:=hY (show V=true by rw[<-HS.o.1];exact QxT (ao _));go_wp2_with fail;go_ret;exact⟨by rw[HE.o];rfl,rfl⟩
theorem QwP(w:World)(k:ByteArray)(hk:k.size<=maxLen):Calls prog 85 #[.string k] w λe w'=>e=.returned (.int .i64 (Qci k))/\w'=w:=by
 obtain⟨r,I⟩:∃r,Qci k=r:=⟨_,rfl⟩;rw[I];unfold Qci at I;by_cases N:k.size=0
 ·rw [eu N] at I
  subst I;have e0:((k.size:Int)==0)=true:=by rw[N];rfl
  clear N;go_in;go_wp2_with fail;go_ret;exact⟨rfl,rfl⟩
 rw[eh N]at I;have e0:((k.size:Int)==0)=false:=ev.2 oM;by_cases h1:64<k.size
 ·rw [eu h1] at I
  subst I;have e1:decide ((64:Int)<(k.size:Int))=true:=em oM;go_in;go_wp2_with fail;go_ret;exact⟨rfl,rfl⟩
 rw[eh h1]at I;have e1:decide ((64:Int)<(k.size:Int))=false:=ej oM;have HV:=hY (Qwe w k oM);cases Z:Lib.validD k.data.toList with
 | true=>
   rw[Z,eu rfl]at I;rw[Z]at HV;subst I;go_in;go_wp2_with fail;refine HV.o.mono ?_;rintro e w1 ⟨rfl,rfl⟩;go_wp2_with fail;go_ret;exact⟨rfl,rfl⟩
 | false=>
   rw[Z,eh oN]at I;rw[Z]at HV;subst I;go_in;go_wp2_with fail;refine HV.o.mono ?_;rintro e w1 ⟨rfl,rfl⟩;go_wp2_with fail;go_ret;exact⟨rfl,rfl⟩
theorem Qyy(w:World)(v:Val)(sl so:Sl):Calls prog 183 #[QbV v sl so] w λe w'=>e=.returned (.bool (!QvH v))/\Ext w w':=by
 obtain⟨k,b,i,t,l,I,ov⟩:=v;show Calls _ _ #[.agg #[.int .i64 k,.bool b,.int .i64 i,.string t,.slice sl.a l.length sl.c,.slice so.a I.length so.c]] _ λe w'=>e=.returned (.bool (!Qb0 k b i t l.length I.length))/\Ext w w'
 by_cases Z:I.length=0
 ·have N:((I.length:Int) == 0)=true:=by rw [Z];rfl
  go_in;go_wp2_with fail
  all_goals
   go_ret;refine⟨?_,(fI w).alloc _ _⟩;refine congrArg (λx=>Ending.returned (Value.bool x)) ?_;unfold Qb0
   first
    |(simp[*];done)
    |(rw[eh oM];simp[*];done)
    |(rw[eh oM,show k=1 by omega];simp[*])
 have N:((I.length:Int)==0)=false:=ev.2 oM;go_in;go_wp2_with fail
 all_goals
  go_ret;refine⟨?_,(fI w).alloc _ _⟩;refine congrArg (λx=>Ending.returned (Value.bool x)) ?_;unfold Qb0
  first
   |(simp[*];done)
   |(rw[eh oM];simp[*];done)
   |(rw[eh oM,show k=1 by omega];simp[*])
theorem QxR{t:ByteArray}(h:t.size=0):Lib.validD t.data.toList=true:=by
 have I:t.data.toList.length=t.size:=by rw[aP];rfl
 have:t.data.toList=[]:=ar oM;rw[this];rfl
theorem Qyi(k:Int)(b:Bool)(i:Int)(t:ByteArray)(l:List Val)(ok:List ByteArray)(ov:List Val)(q:Nat)(Z:ov.length=ok.length):Qda (.mk k b i t l ok ov) q =
  if Qb0 k b i t l.length ok.length=true then 9 else if 64<q then 5 else if Lib.validD t.data.toList=false then 3 else if Qd8 l (q+1)≠0 then Qd8 l (q+1)else QhA none ok ov (q+1):=by
 unfold Qda;by_cases ho:Qb0 k b i t l.length ok.length=true
 .rw [eu ho,eu ho]
 rw[eh ho,eh ho];by_cases hq:64<q
 .rw [eu hq,eu hq]
 rw[eh hq,eh hq];have I:Qb0 k b i t l.length ok.length=false:=by simpa using ho
 unfold Qb0 at I;have N:¬(k<1\/6<k):=by
  intro h;rw[eu h]at I;cases I
 rw[eh N]at I;simp only[Bool.or_eq_false_iff,Bool.and_eq_false_iff,bne_eq_false_iff_eq]at I;obtain⟨⟨⟨⟨-,-⟩,h4⟩,h5⟩,h6⟩:=I;by_cases k4:k=4
 ·subst k4
  have hl:l=[]:=ar (h5.resolve_left oN);have N:ok=[]:=ar (h6.resolve_left oN);subst hl N;have hv:ov=[]:=ar Z;subst hv;rw[eu rfl];cases Lib.validD t.data.toList<;>simp[Qd8,QhA]
 rw[eh k4];have ht:Lib.validD t.data.toList=true:=QxR (h4.resolve_left k4);rw[ht,eh (show ¬(true=false)by decide)];by_cases k5:k=5
 ·subst k5
  have N:ok=[]:=ar (h6.resolve_left oN);subst N;have hv:ov=[]:=ar Z;subst hv;rw[eu rfl];by_cases hz:Qd8 l (q+1)=0
  .rw [eh (by simp[hz]),hz];rfl
  rw[eu hz]
 rw[eh k5];have hl:l=[]:=ar (h5.resolve_left k5);subst hl;rw[show(if Qd8 [] (q+1)≠0 then Qd8 [] (q+1)else QhA none ok ov (q+1))=QhA none ok ov (q+1)from eh (by simp[Qd8])];by_cases k6:k=6
 .rw [eu k6]
 rw[eh k6];have N:ok=[]:=ar (h6.resolve_left k6);subst N;have hv:ov=[]:=ar Z;subst hv;rfl
def Qxs(ok:List ByteArray)(j:Nat):ByteArray:=(prevK ok j).getD ByteArray.empty
theorem QyV(m:Nat):∀(d:Val),SizeOf.sizeOf d<=m->QcI d<=1100000->∀(w:World) (sl so:Sl) (q:Nat),q<=65->RV w (Lt w) d sl so->
  Calls prog 154 #[QbV d sl so,.int .i64 (q:Int)] w λe w'=>e=.returned (.int .i64 (Qda d q))/\Ext w w':=by
 induction m with
 |zero=>intro d hd;have:=Val.Qb6 d;omega
 |succ m ih=>
 intro d hd e4 w sl so q hq h;have HI:=hY ih;clear ih;obtain⟨k,b,i,t,l,N,ov⟩:=d;have c0:=λW=>Qyy W (.mk k b i t l N ov) sl so
 show Calls _ _ #[.agg #[.int .i64 k,.bool b,.int .i64 i,.string t,.slice sl.a l.length sl.c,.slice so.a N.length so.c],.int .i64 q] _ _;cases h with
 |mk bl fl bo fo cl co hl ho hov el rl ek eo ro bk bi bt nl no=>
 have e2:∀(j:Nat) (d:Val),l[j]? = some d->SizeOf.sizeOf d<=m:=λj d hj=>bq (ab (Val.QtM hj) hd)
 have d5:∀(j:Nat) (d:Val),ov[j]? = some d->SizeOf.sizeOf d<=m:=λj d hj=>bq (ab (Val.QtN hj) hd)
 unfold QcI at e4;have hu:=λW=>Qwe W t oM
 obtain⟨f1,f2,f4,f0,f6,e8,f3⟩:=Yh e2 d5 el rl ek eo ro;obtain⟨e3,HU,c1,c3,c2,d0⟩:=Yg hov hu c0 hl ho e4;obtain⟨r,hr⟩:∃r,Qda (.mk k b i t l N ov) q=r:=⟨_,rfl⟩;rw[hr];rw[Qyi _ _ _ _ _ _ _ _ hov]at hr;clear e2 d5 el rl ek eo ro hov hd hu c0;go_in;go_wp2_with fail;have d8:=(fI w).alloc #[.int .i64 k,.bool b,.int .i64 i,.string t,.slice sl.a l.length sl.c,.slice so.a N.length so.c] 34;have b6:=fK w 34 #[.int .i64 k,.bool b,.int .i64 i,.string t,.slice sl.a l.length sl.c,.slice so.a N.length so.c];refine(c1.o _).mono ?_;rintro e w1 ⟨rfl,b4⟩;obtain⟨q0,q1,q2,q3,q4,q5⟩:=(b6.ext b4).c6;have lq:=(b6.ext b4).lt;obtain⟨HX,HB⟩:=Yb (d8.trans b4) (b6.ext b4);clear d8 b4 b6 c1;unfold QvH;dsimp only[Val.kind,Val.b,Val.i,Val.t,Val.l,Val.ok];by_cases b7:Qb0 k b i t l.length N.length=true
 ·rw [eu b7] at hr
  subst hr;rw[b7];go_wp2_with fail;go_ret;exact⟨rfl,HX.o⟩
 rw[eh b7]at hr;rw[show Qb0 k b i t l.length N.length=false by simpa using b7];by_cases c4:64<q
 ·rw [eu c4] at hr
  subst hr;have g0:decide ((64:Int)<(q:Int))=true:=em oM;go_wp2_with fail;go_ret;exact⟨rfl,HX.o⟩
 rw[eh c4]at hr;have g0:decide ((64:Int)<(q:Int))=false:=ej oM;go_wp2_with fail;refine(HU.o _).mono ?_;rintro e w2 ⟨rfl,rfl⟩;cases hv:Lib.validD t.data.toList with
 | false=>
   rw[hv,eu rfl]at hr;subst hr;go_wp2_with fail;go_ret;exact⟨rfl,HX.o⟩
 |true=>
 rw[hv,eh oN]at hr;obtain⟨b5,c9⟩:∃x,Qd8 l (q+1)=x:=⟨_,rfl⟩;obtain⟨rm,d3⟩:∃x,QhA none N ov (q+1)=x:=⟨_,rfl⟩;rw[c9,d3]at hr;obtain⟨HR,d7,f5⟩:=Yc hr c9 d3;clear hr c9 d3;go_wp2_with fail;go_loopw[5] (λqq wr=>∃j:Nat,qq=.int .i64 j/\j<=l.length/\Yd (Qd8 (l.drop j) (q+1)=b5)/\Ext w2 wr) (λqq _=>l.length -(intOf qq).toNat)
 case atStart=>exact⟨0,rfl,aA _,d7,fI _⟩
 obtain⟨j,rfl,hj,HM,hn⟩:=hrel;obtain⟨p0,p1,p2,p3,p4,p5⟩:=(HB.o.ext hn).c6;have lp:=(HB.o.ext hn).lt;by_cases a6:j<l.length
 ·have g1:(j:Int)<(l.length:Int):=oM
  have f7:decide ((j:Int)<(l.length:Int))=true:=em g1;obtain⟨d,hd⟩:∃d,l[j]? = some d:=⟨_,ac a6⟩;have a2:Ext w wr:=HX.o.trans hn;have a4:Agree (Lt w) w wr:=a2.agree λ_ h=>h
  obtain⟨b3,c7,c8⟩:=c3.o.eq oM;have a3:=c3.o.fits (show 0<l.length by omega);obtain⟨sa,sc⟩:=sl;dsimp only at b3 c7 c8;subst b3;obtain⟨v0,v1,v2,v3,v4,v5⟩:=(f4.o j d hd).agree a4 a3;have lb:bl<wr:=ab a3 a2.size;have a9:Calls prog 154 #[QbV d (cl j).1 (cl j).2,.int .i64 ((q:Int)+1)] wr λe w'=>e=.returned (.int .i64 (Qda d (q+1)))/\Ext wr w':=by
   rw[show(q:Int)+1=((q+1:Nat):Int)by omega];exact HI.o d (f1.o j d hd) (by have:=QoO hd;have:=d0.o;omega) wr _ _ (q+1) oM (((f0.o j d hd).agree a4).mono λi hi=>ab hi a2.size)
  have I:=Qtr (j:=q+1) hd;rw[HM.o]at I;have g2:IntKind.i64.wrap ((q:Int)+1)=(q:Int)+1:=by rw[ey];omega
  obtain⟨a7,Z,HN⟩:=Yc a9 I hn;clear hd a2 a4 a9 I hn;go_wp2_with fail;refine a7.o.mono ?_;rintro e w3 ⟨rfl,e6⟩;have d4:=hY (HN.o.trans e6);have I:=Z.o;clear e6 v0 v1 v2 v3 v4 v5 a7 Z HN p0 p1 p2 p3 p4 p5;generalize Qda d (q+1)=c at I;by_cases hc:c=0
  ·subst hc
   rw[eh sM]at I;have Z:=hY I.symm;clear I;go_wp2_with fail;go_roundw
   case rel=>exact⟨j+1,by go_num,a6,Z,d4.o⟩
   simp[intOf];omega
  rw[eu hc]at I;subst I;have g3:(b5 != 0)=true:=by simpa using hc
  obtain⟨HE,a0⟩:=Yb (show r=b5 by rw[<-HR.o,eu hc]) (HX.o.trans d4.o);clear hc;go_wp2_with fail;go_ret;exact⟨by rw[HE.o];rfl,a0.o⟩
 obtain rfl:j=l.length:=oM
 have g1:decide ((l.length:Int)<(l.length:Int))=false:=ej oM;have hz:b5=0:=by rw[<-HM.o,cP,Qd8]
 obtain⟨HE,HN⟩:=Yb (show rm=r by rw[<-HR.o,eh (by simp[hz])]) hn;clear hn hz HM;go_wp2_with fail;clear p0 p1 p2 p3 p4 p5 lp;go_loopw[7,8] (λlv qq wr=>∃j:Nat,lv=.string (Qxs N j)/\qq=.int .i64 j/\j<=N.length/\Yd (QhA (prevK N j) (N.drop j) (ov.drop j) (q+1)=rm)/\Ext w2 wr) (λ_ qq _=>N.length -(intOf qq).toNat)
 case atStart=>exact⟨0,rfl,rfl,aA _,f5,HN.o⟩
 obtain⟨j,rfl,rfl,hj,HM,hn⟩:=hrel;obtain⟨p0,p1,p2,p3,p4,p5⟩:=(HB.o.ext hn).c6;have lp:=(HB.o.ext hn).lt;by_cases a6:j<N.length
 ·have g2:(j:Int)<(N.length:Int):=oM
  have f8:decide ((j:Int)<(N.length:Int))=true:=em g2;obtain⟨kk,hk⟩:∃kk,N[j]? = some kk:=⟨_,ac a6⟩;obtain⟨d,hd⟩:∃d,ov[j]? = some d:=⟨_,ac (by rw[e3.o];exact a6)⟩;have a2:Ext w wr:=HX.o.trans hn;have a4:Agree (Lt w) w wr:=a2.agree λ_ h=>h
  obtain⟨b3,c7,c8⟩:=c2.o.eq oM;have a3:=c2.o.fits (show 0<N.length by omega);obtain⟨sa,sc⟩:=so;dsimp only at b3 c7 c8;subst b3;obtain⟨v0,v1,v2,v3,v4,v5⟩:=(e8.o j d hd).agree a4 a3;have lb:bo<wr:=ab a3 a2.size;have kc:wr.cell? ⟨bo,fo+j*7,none⟩=some (.string kk):=(a4.cell a3).trans (f6.o j kk hk).1;have a9:Calls prog 154 #[QbV d (co j).1 (co j).2,.int .i64 ((q:Int)+1)] wr λe w'=>e=.returned (.int .i64 (Qda d (q+1)))/\Ext wr w':=by
   rw[show(q:Int)+1=((q+1:Nat):Int)by omega];exact HI.o d (f2.o j d hd) (by have:=QkY hd hk;have:=d0.o;omega) wr _ _ (q+1) oM (((f3.o j d hd).agree a4).mono λi hi=>ab hi a2.size)
  have d6:=λW=>Qwe W kk (by have:=QkY hd hk;have:=d0.o;omega)
  have I:=Qts (p:=prevK N j) (Q:=q+1) hd hk;rw[HM.o]at I;have g3:IntKind.i64.wrap ((q:Int)+1)=(q:Int)+1:=by rw[ey];omega
  obtain⟨a7,Z,e1,HN,b8⟩:=Yf a9 I d6 hn hk;clear hd a2 a4 a9 I hn HM d6 hk;go_wp2_with fail;refine(e1.o _).mono ?_;rintro e w9 ⟨rfl,rfl⟩;have I:=Z.o;clear Z e1;cases hv:Lib.validD kk.data.toList with
  | false=>
    rw[hv,eu oN]at I;obtain⟨a1,a0⟩:=Yb (show r=3 by rw[<-HE.o];exact I) (HX.o.trans HN.o);clear I;go_wp2_with fail;go_ret;exact⟨by rw[a1.o];rfl,a0.o⟩
  | true=>
    rw[hv,eh oN]at I;by_cases b9:j=0
    ·subst b9
     rw[show prevK N 0=none from rfl,ec,eh oN]at I;have gg:decide ((0:Int)<((0:Nat):Int))=false:=oN
     have Z:=hY I;clear I;go_wp2_with fail;refine a7.o.mono ?_;rintro e w4 ⟨rfl,a8⟩;have b0:=hY (HN.o.trans a8);have I:=Z.o;clear a8 a7 Z v0 v1 v2 v3 v4 v5 kc p0 p1 p2 p3 p4 p5;generalize Qda d (q+1)=c at I;by_cases hc:c=0
     ·subst hc
      rw[eh sM]at I;have Z:=hY (show QhA (prevK N (0+1)) (N.drop (0+1)) (ov.drop (0+1)) (q+1)=rm by rw[show prevK N (0+1)=some kk from b8.o];exact I.symm);clear I;go_wp2_with fail;go_roundw
      case rel=>exact⟨0+1,by rw[show Qxs N (0+1)=kk by unfold Qxs;rw[show prevK N (0+1)=some kk from b8.o];rfl],by go_num,a6,Z,b0.o⟩
      simp[intOf];omega
     rw[eu hc]at I;have a1:=hY (show r=c by rw[<-HE.o];exact I);have g4:(c != 0)=true:=by simpa using hc
     have a0:=hY (HX.o.trans b0.o);clear hc I;go_wp2_with fail;go_ret;exact⟨by rw[a1.o];rfl,a0.o⟩
    obtain⟨i,rfl⟩:∃i,j=i+1:=⟨j-1,oM⟩;obtain⟨y,hy⟩:∃y,N[i]? = some y:=⟨_,ac oM⟩;rw[show prevK N (i+1)=some y from hy,dn]at I;rw[show Qxs N (i+1)=y by unfold Qxs;rw[show prevK N (i+1)=some y from hy];rfl];have gg:decide ((0:Int)<((i+1:Nat):Int))=true:=em oM;have f9:(0:Int)<((i+1:Nat):Int):=oM
    cases a5:klt y kk with
    | false=>
      rw[a5,eu oN]at I;obtain⟨a1,a0⟩:=Yb (show r=8 by rw[<-HE.o];exact I) (HX.o.trans HN.o);cases e0:klt kk y with
      | true=>
        have a3:Op.bytesLess kk.toList y.toList=true:=e0;clear hy b9 I;go_wp2_with fail;go_ret;exact⟨by rw[a1.o];rfl,a0.o⟩
      | false=>
        obtain rfl:y=kk:=QbE a5 e0;have a3:Op.bytesLess y.toList y.toList=false:=a5;have e7:(y.toList==y.toList)=true:=sM
        clear hy b9 I;go_wp2_with fail;go_ret;exact⟨by rw[a1.o];rfl,a0.o⟩
    | true=>
      rw[a5,eh oN]at I;have a3:Op.bytesLess kk.toList y.toList=false:=Qus a5;have e7:(kk.toList==y.toList)=false:=QtO (λe=>by rw[e,Qag]at a5;cases a5);have Z:=hY I;clear I hy b9;go_wp2_with fail;refine a7.o.mono ?_;rintro e w4 ⟨rfl,a8⟩;have b0:=hY (HN.o.trans a8);have I:=Z.o;clear a8 a7 Z v0 v1 v2 v3 v4 v5 kc p0 p1 p2 p3 p4 p5;generalize Qda d (q+1)=c at I;by_cases hc:c=0
      ·subst hc
       rw[eh sM]at I;have Z:=hY (show QhA (prevK N ((i+1)+1)) (N.drop ((i+1)+1)) (ov.drop ((i+1)+1)) (q+1)=rm by rw[show prevK N ((i+1)+1)=some kk from b8.o];exact I.symm);clear I;go_wp2_with fail;go_roundw
       case rel=>exact⟨(i+1)+1,by rw[show Qxs N ((i+1)+1)=kk by unfold Qxs;rw[show prevK N ((i+1)+1)=some kk from b8.o];rfl],by go_num,a6,Z,b0.o⟩
       simp[intOf];omega
      rw[eu hc]at I;have a1:=hY (show r=c by rw[<-HE.o];exact I);have g4:(c != 0)=true:=by simpa using hc
      have a0:=hY (HX.o.trans b0.o);clear hc I;go_wp2_with fail;go_ret;exact⟨by rw[a1.o];rfl,a0.o⟩
 obtain rfl:j=N.length:=oM
 have g2:decide ((N.length:Int)<(N.length:Int))=false:=ej oM;have hz:rm=0:=by rw[<-HM.o,<-e3.o,cP (l:=ov),QhA]
 obtain⟨a1,a0⟩:=Yb (show r=0 by rw[<-HE.o];exact hz) (HX.o.trans hn);clear hn hz;go_wp2_with fail;go_ret;exact⟨by rw[a1.o];rfl,a0.o⟩
variable{sl so:Sl}
theorem Qyg{v:Val}(h:RV w (Lt w) v sl so)(hc:QcI v<=1100000):Calls prog 123 #[QbV v sl so] w λe w'=>e=.returned (.int .i64 (Qda v 1))/\Ext w w':=by
 have I:=(fI w).alloc #[.int .i64 v.kind,.bool v.b,.int .i64 v.i,.string v.t,.slice sl.a v.l.length sl.c,.slice so.a v.ok.length so.c] 34;have ho:=QyV _ v (ao _) hc (w.alloc (.cells #[.int .i64 v.kind,.bool v.b,.int .i64 v.i,.string v.t,.slice sl.a v.l.length sl.c,.slice so.a v.ok.length so.c] 34)) sl so 1 oN ((h.agree (I.agree λ_ h=>h)).mono λi hi=>ab hi I.size);obtain⟨HO,Z⟩:=Yb ho I;clear ho h I;go_in;go_wp2_with fail;refine HO.o.mono ?_;rintro e w1 ⟨rfl,N⟩;have HX:=hY (Z.o.trans N);clear N Z HO;go_wp2_with fail;go_ret;exact⟨rfl,HX.o⟩
theorem Qyu{v d:Val}(h:(Qwg v)[j]? = some d):SizeOf.sizeOf d<SizeOf.sizeOf v:=by
 obtain⟨k,b,i,t,l,I,N⟩:=v;unfold Qwg at h;dsimp only at h;split at h
 .exact Val.QtM h
 split at h
 .exact Val.QtN h
 simp at h
def QxF(v:Val)(w:World)(e:Ending)(w':World):Prop:=
 ∃(s:Sl) (xs:List WV),e=.returned (.slice s.a xs.length s.c)/\xs.map WV.v=Qwg v/\Rd w' (Lt w'.heap.size) 6 s xs.length (QeF xs)/\(∀x∈xs,RV w' (Lt w.heap.size) x.v x.sl x.so)/\Ext w w'
theorem QxU{v:Val}(h:RV w (Lt w) v sl so):Calls prog 155 #[QbV v sl so] w (QxF v w):=by
 obtain⟨k,b,i,t,l,N,ov⟩:=v;obtain⟨i0,hi,c7,e0,c8⟩:=eE Tryz.QjM;show Calls _ _ #[.agg #[.int .i64 k,.bool b,.int .i64 i,.string t,.slice sl.a l.length sl.c,.slice so.a N.length so.c]] _ _;cases h with
 |mk bl fl bo fo cl co hl ho hov el rl ek eo ro bk bi bt nl no=>
 obtain⟨g3,f8,f7,i3,g0,b5,e7⟩:=Yh el rl eo ek ro hov hl;obtain⟨a9,d3,b4⟩:=Yc ho nl no;clear el rl ek eo ro hov hl ho nl no bk bi bt;go_in;by_cases h5:k=5
 ·subst h5
  have a3:=(fI w).alloc #[.int .i64 5,.bool b,.int .i64 i,.string t,.slice sl.a l.length sl.c,.slice so.a N.length so.c] 34;have b7:Rd w (Lt w) 6 sl (wl l cl).length (QeF (wl l cl)):=by
   refine Qvw (by rw[QhX];exact e7.o) λj x hx=>?_
   obtain⟨e1,e2,e3⟩:=QuY hx;rw[e2,e3];exact g3.o j _ e1
  rw[QhX]at b7;obtain⟨f0,b0⟩:=Yb ((b7.agree (a3.agree λ_ h=>h)).mono λi (hi:i<w)=>(show i<w.heap.size+1 by omega)) a3;have b6:0+l.length<=maxLen:=by have:=d3.o;unfold maxLen;omega
  have b8:(0+l.length)*88<=140737488355328:=by have:=d3.o;omega
  clear b7 a3;go_wp2_with(at_builtin;refine Qak _ rfl (.tmp 8) (.tmp 10) 31 rfl (w.heap.size+1) 34 i0 _ 6 88 underlying31 hi c7 e0 c8 rfl oN Sl.none 0 [] rfl (eG _ _ _ _) (Lt (w.heap.size+1)) sl l.length (QeF (wl l cl)) rfl f0.o (Qxc _) b6 b8 (by rw[ew];exact ao _) ?_;intro s' w3 I a2 b3;have a4:=(fK w 34 #[.int .i64 5,.bool b,.int .i64 i,.string t,.slice sl.a l.length sl.c,.slice so.a N.length so.c]).agree (a2.agree (F:=λb=>b=w.heap.size) (λi hi=>by rw[ew];omega) (λk hk _=>by cases hk)) rfl;obtain⟨q0,q1,q2,q3,q4,q5⟩:=a4.c6;have lq:=a4.lt;have a1:=hY I;have Z:=hY a2;clear I a2 b3 a4);go_ret;have d0:Ext w w3:=b0.o.wr Z.o (λi hi=>by cases hi);have I:=a1.o;rw[aD,aG]at I;refine⟨s',wl l cl,by rw[QhX];rfl,by rw[QvV];rfl,?_,λx hx=>?_,d0⟩
  ·rw [QhX]
   exact(fP I).mono λi hi=>hi.2
  obtain⟨j,hj⟩:=bz hx;obtain⟨e1,e2,e3⟩:=QuY hj;rw[e2,e3];exact(f8.o j _ e1).agree (d0.agree λ_ h=>h)
 have g5:(k==5)=false:=by simpa using h5
 by_cases h6:k=6
 ·subst h6
  have a3:=(fI w).alloc #[.int .i64 6,.bool b,.int .i64 i,.string t,.slice sl.a l.length sl.c,.slice so.a N.length so.c] 34;have c4:=fK w 34 #[.int .i64 6,.bool b,.int .i64 i,.string t,.slice sl.a l.length sl.c,.slice so.a N.length so.c];obtain⟨b0,f5,f3⟩:=Yc a3 c4 (OW.nil (w.alloc (.cells #[.int .i64 6,.bool b,.int .i64 i,.string t,.slice sl.a l.length sl.c,.slice so.a N.length so.c] 34)) (w.heap.size+1) w.heap.size);have a8:(w.alloc (.cells #[.int .i64 6,.bool b,.int .i64 i,.string t,.slice sl.a l.length sl.c,.slice so.a N.length so.c] 34)).heap.size=w.heap.size+1:=ew _ _;have e4:=hY a8;clear a3 c4 a8;go_wp2_with fail;go_loopw[3,4] (λou qq wr=>∃(j:Nat) (s:Sl) (xs:List WV),ou=.slice s.a xs.length s.c/\qq=.int .i64 j/\j<=N.length/\Yd (xs.map WV.v=ov.take j)/\Yd (OW wr (w.heap.size+1) w.heap.size s xs)/\Yd (Blk wr w.heap.size 34 #[.int .i64 6,.bool b,.int .i64 i,.string t,.slice sl.a l.length sl.c,.slice so.a N.length so.c])/\Yd (Ext w wr/\w.heap.size+1<=wr.heap.size)) (λ_ qq _=>N.length -(intOf qq).toNat)
  case atStart=>exact⟨0,Sl.none,[],rfl,rfl,aA _,hY rfl,f3,f5,hY ⟨b0.o,Nat.le_of_eq e4.o.symm⟩⟩
  obtain⟨j,s,xs,rfl,rfl,hj,a7,HO,HB,HX⟩:=hrel;obtain⟨p0,p1,p2,p3,p4,p5⟩:=HB.o.c6;have lp:=HB.o.lt;by_cases d6:j<N.length
  ·have g1:(j:Int)<(N.length:Int):=oM
   have i1:decide ((j:Int)<(N.length:Int))=true:=em g1;obtain⟨d,hd⟩:∃d,ov[j]? = some d:=⟨_,ac (by rw[b5.o];exact d6)⟩;have b9:Agree (Lt w) w wr:=HX.o.1.agree λ_ h=>h
   obtain⟨d4,f2,f6⟩:=a9.o.eq oM;have c0:=a9.o.fits (show 0<N.length by omega);obtain⟨sa,sc⟩:=so;dsimp only at d4 f2 f6;subst d4;obtain⟨v0,v1,v2,v3,v4,v5⟩:=(f7.o j d hd).agree b9 c0;have lb:bo<wr:=ab c0 HX.o.1.size;have e8:xs.length=j:=by rw[<-aq (f:=WV.v),a7.o,av,b5.o];omega
   have a6:Ext wr (wr.alloc (.cells #[.int .i64 d.kind,.bool d.b,.int .i64 d.i,.string d.t,.slice (co j).1.a d.l.length (co j).1.c,.slice (co j).2.a d.ok.length (co j).2.c] 34)):=(fI _).alloc _ _;have d5:RV wr (Lt w) d (co j).1 (co j).2:=(g0.o j d hd).agree b9;obtain⟨g7,e6,f9,c9,HD⟩:=Yf (d5.agree (a6.agree λb (hb:b<w)=>ab hb HX.o.1.size)) (HO.o.ext a6 HX.o.1.size) (fK wr 34 #[.int .i64 d.kind,.bool d.b,.int .i64 d.i,.string d.t,.slice (co j).1.a d.l.length (co j).1.c,.slice (co j).2.a d.ok.length (co j).2.c]) a6 hd;have i2:=b4.o;have b6:xs.length+1<=maxLen:=by have:=b4.o;unfold maxLen;omega
   have b8:(xs.length+1)*88<=140737488355328:=by have:=b4.o;omega
   have a0:w.heap.size+1<=(wr.alloc (.cells #[.int .i64 d.kind,.bool d.b,.int .i64 d.i,.string d.t,.slice (co j).1.a d.l.length (co j).1.c,.slice (co j).2.a d.ok.length (co j).2.c] 34)).heap.size:=by rw[ew];have:=HX.o.2;omega
   have c2:=(⟨d,(co j).1,(co j).2⟩:WV).one;have g9:=hY e8;clear hd b9 a6 d5 e8 c0;go_wp2_with(at_builtin;refine Qak _ rfl (.tmp 22) (.tmp 29) 31 rfl (w.heap.size+1) 34 i0 _ 6 88 underlying31 hi c7 e0 c8 rfl oN s xs.length (QeF xs) rfl e6.o.own (λb=>b=wr.heap.size) ⟨some ⟨wr,0,none⟩,1⟩ 1 (⟨d,(co j).1,(co j).2⟩:WV).cells rfl (fU f9.o oN rfl) c2 b6 b8 a0 ?_;intro s' w3 I a2 b3;have a1:=hY I;have Z:=hY a2;clear I a2 b3);have a5:∀b,s.row=some b->w.heap.size+1<=b:=λb hb=>(Qad HO.o.own hb).1
   have d7:OW w3 (w.heap.size+1) w.heap.size s' (xs++[⟨d,(co j).1,(co j).2⟩]):=OW.append (ct _) a0 e6.o (λy hy=>by simp only[List.mem_singleton]at hy;subst hy;exact g7.o) (by rw[show QeF [(⟨d,(co j).1,(co j).2⟩:WV)]=(⟨d,(co j).1,(co j).2⟩:WV).cells by simp[QeF]];exact a1.o) Z.o;have a4:Blk w3 w.heap.size 34 #[.int .i64 6,.bool b,.int .i64 i,.string t,.slice sl.a l.length sl.c,.slice (some ⟨bo,fo,none⟩) N.length sc]:=(HB.o.ext c9.o).agree (Z.o.agree (F:=λb=>b=w.heap.size) (λi hi=>by rw[ew];omega) (λk hk e=>by have:=a5 k hk;omega)) rfl;have c3:Ext w w3:=(HX.o.1.trans c9.o).wr Z.o (λi hi=>by have:=a5 i hi;omega);have c1:w.heap.size+1<=w3.heap.size:=an a0 Z.o.grown.size;obtain⟨f4,g4,f1⟩:=Yc d7 a4 (And.intro c3 c1);clear d7 a4 c3 c1 a5 a1 Z;go_roundw
   case rel=>exact⟨j+1,s',xs++[⟨d,(co j).1,(co j).2⟩],by rw[aj];rfl,by go_num,d6,hY (by rw[aC,a7.o,aT,HD.o];rfl),f4,g4,f1⟩
   simp[intOf];omega
  obtain rfl:j=N.length:=oM
  have g1:decide ((N.length:Int)<(N.length:Int))=false:=ej oM;have d8:xs.map WV.v=ov:=by rw[a7.o,<-b5.o,aU]
  have g8:=hY d8;clear d8 a7;go_wp2_with fail;go_ret;refine⟨s,xs,rfl,by rw[g8.o];rfl,(fP HO.o.own).mono λi hi=>hi.2,HO.o.vals,HX.o.1⟩
 have g6:(k==6)=false:=by simpa using h6
 go_wp2_with fail;go_ret;refine⟨Sl.none,[],rfl,?_,Rd.nil _ _ _,λx hx=>by simp at hx,(fI w).alloc _ _⟩;unfold Qwg;dsimp only;rw[eh h5,eh h6];rfl
theorem QyA(m:Nat):∀(d:Val),SizeOf.sizeOf d<=m->Qdv d<=1000000->∀(w:World) (sl so:Sl),RV w (Lt w) d sl so->
  Calls prog 124 #[QbV d sl so] w λe w'=>e=.returned (.int .i64 (Qdv d:Int))/\Ext w w':=by
 induction m with
 |zero=>intro d hd;have:=Val.Qb6 d;omega
 |succ m ih=>
 intro d hd b5 w sl so h;have HI:=hY ih;clear ih;have c4:∀(j:Nat) (x:Val),(Qwg d)[j]? = some x->SizeOf.sizeOf x<=m:=λj x hj=>bq (ab (Qyu hj) hd)
 have b0:=hY c4;rw[Qxr]at b5 ⊢;have I:=(fI w).alloc #[.int .i64 d.kind,.bool d.b,.int .i64 d.i,.string d.t,.slice sl.a d.l.length sl.c,.slice so.a d.ok.length so.c] 34;have ho:=QxU ((h.agree (I.agree λ_ h=>h)).mono λi (hi:i<w)=>ab hi I.size);obtain⟨HO,a7⟩:=Yb ho I;clear ho h I hd c4;go_in;go_wp2_with fail;refine HO.o.mono ?_;rintro e w1 ⟨s,xs,rfl,a1,c6,a5,a3⟩;obtain⟨b,o,c2,c0⟩:=Qsg c6;have c9:xs.length=(Qwg d).length:=by rw[<-a1,aq]
 have a8:∀(j:Nat) (x:WV),xs[j]? = some x->(Qwg d)[j]? = some x.v:=λj x hj=>by rw[<-a1,au,hj];rfl
 obtain⟨HX,d3,b3,c1,d5,a9⟩:=Yg (a7.o.trans a3) (λx hx=>(a5 x hx).mono λi (hi:i<_)=>ab hi a3.size) a8 c2 c0 c9;clear a1 c6 a5 a3 c2 c0 c9 a8 HO a7;obtain⟨W,hW⟩:∃W,Qwg d=W:=⟨_,rfl⟩;rw[hW]at b0 b3 a9 b5;have HW:=hY hW;clear hW;go_wp2_with fail;go_loopw[3,5] (λdp qq wr=>∃j:Nat,dp=.int .i64 (Qb1 (W.take j):Int)/\qq=.int .i64 j/\j<=xs.length/\Ext w1 wr) (λ_ qq _=>xs.length -(intOf qq).toNat)
 case atStart=>exact⟨0,rfl,rfl,aA _,fI _⟩
 obtain⟨j,rfl,rfl,hj,Z⟩:=hrel;by_cases a0:j<xs.length
 ·have g1:(j:Int)<(xs.length:Int):=oM
  have d7:decide ((j:Int)<(xs.length:Int))=true:=em g1;obtain⟨x,hx⟩:∃x,xs[j]? = some x:=⟨_,ac a0⟩;have d4:Ext w wr:=HX.o.trans Z;have a2:Agree (Lt w1) w1 wr:=Z.agree λ_ h=>h
  obtain⟨b8,d0,b6⟩:=c1.o.eq oM;have c7:=c1.o.fits (show 0<xs.length by omega);obtain⟨sa,sc⟩:=s;dsimp only at b8 d0 b6;subst b8;obtain⟨v0,v1,v2,v3,v4,v5⟩:=(d5.o j x hx).agree a2 c7;have lb:b<wr:=ab c7 Z.size;have N:=b3.o j x hx;have d8:=Qii N;have b7:Calls prog 124 #[QbV x.v x.sl x.so] wr λe w'=>e=.returned (.int .i64 (Qdv x.v:Int))/\Ext wr w':=
   HI.o x.v (b0.o j x.v N) oM wr _ _ (((d3.o x (ap hx)).agree a2).mono λi (hi:i<w1)=>ab hi Z.size)
  have b9:=Qfc N;have d6:Qb1 (W.take j)<=1000000:=by have:=Qx8 W j;omega
  have e0:xs.length<=9223372036854775807:=by unfold maxLen at b6;omega
  obtain⟨c3,a4,HN⟩:=Yc b7 b9 Z;clear hx d4 a2 b7 Z b9 N;go_wp2_with fail;refine c3.o.mono ?_;rintro e w3 ⟨rfl,c8⟩;have a6:=hY (HN.o.trans c8);clear c8 v0 v1 v2 v3 v4 v5 c3 HN;by_cases b4:Qb1 (W.take j)<Qdv x.v
  ·have g4:decide ((Qb1 (W.take j):Int)<(Qdv x.v:Int))=true:=em oM
   go_wp2_with fail;go_roundw
   case rel=>exact⟨j+1,by rw[a4.o,Nat.max_eq_right (cC b4)],by go_num,a0,a6.o⟩
   simp[intOf];omega
  have g4:decide ((Qb1 (W.take j):Int)<(Qdv x.v:Int))=false:=ej oM;go_wp2_with fail;go_roundw
  case rel=>exact⟨j+1,by rw[a4.o,Nat.max_eq_left (Nat.le_of_not_lt b4)],by go_num,a0,a6.o⟩
  simp[intOf];omega
 obtain rfl:j=xs.length:=oM
 have g1:decide ((xs.length:Int)<(xs.length:Int))=false:=ej oM;rw[a9.o,aU];have g2:IntKind.i64.wrap ((Qb1 W:Int)+1)=(Qb1 W:Int)+1:=by rw[ey];omega
 obtain⟨HZ,HN⟩:=Yb (show((1+Qb1 W:Nat):Int)=(Qb1 W:Int)+1 by omega) (HX.o.trans Z);clear Z;go_wp2_with fail;go_ret;exact⟨by rw[HW.o,HZ.o];rfl,HN.o⟩
theorem Tryz.Qyd:(prog.info? 3).map (λi=>(i.zero,i.size,i.bytes))=some (some (.int .i64 0),1,8):=kM
def Qwp(s1 s2:Sl):Prop:=∀b,s1.row=some b->s2.row≠some b
variable{s1 s2:Sl}
theorem Qwp.comm(h:Qwp s1 s2):Qwp s2 s1:=λb I e=>h b e I
variable{W:World}
theorem Qwp.grow{base e size n:Nat}{xs:List Value}(h:Qwp s1 s2)(Z:w.ownsRow base e size (.slice s2.a n s2.c) n xs)(hW:w.heap.size<=W.heap.size)(hs:s'.a=s1.a\/s'.a=some ⟨W,0,none⟩):Qwp s' s2:=by
 intro b I N;have a0:=(Qad Z N).2;rcases hs with hs|hs
 .exact h b (by unfold Sl.row at I ⊢;rw[<-hs];exact I) N
 have:b=W.heap.size:=by unfold Sl.row at I;rw[hs]at I;simpa using I.symm
 omega
theorem Qxg{base e size n:Nat}{xs:List Value}(h:Qwp s1 s2)(I:w.ownsRow base e size (.slice s2.a n s2.c) n xs)(Z:Wr w w' s1.row):w'.ownsRow base e size (.slice s2.a n s2.c) n xs:=
 Qab I (Z.agree (F:=λb=>s2.row=some b) (λi hi=>(Qad I hi).2) (λk hk e=>h k hk e)) λb N=>N
def QwU(D:List (Nat × Nat)):List Value:=D.map λx=>.int .i64 (x.2:Int)
def QwQ(D:List (Nat × Nat)):List Value:=D.map λx=>.int .i64 (x.1:Int)
def QxZ(s:ByteArray)(w:World)(e:Ending)(w':World):Prop:=
 ∃(s1:Sl) (v2:Value),e=.returned (.tuple #[.slice s1.a (Qdn s).length s1.c,v2])/\Rd w' (Lt w'.heap.size) 1 s1 (Qdn s).length (QwU (Qdn s))/\Ext w w'
theorem Qxt(w:World)(s:ByteArray)(hs:s.size<=1000000000):Calls prog 184 #[.string s] w (QxZ s w):=by
 obtain⟨iN,nI,c3,c6,f0⟩:=eE Tryz.Qyd;have d6:=λ(W:World) (p:Nat)=>Qxz W s p oM
 have g0:=hY d6;clear d6;go_in;go_wp2_with fail;go_loopw[4,5,6] (λv1 v2 v3 wr=>∃(p f:Nat) (s1 s2:Sl) (D:List (Nat × Nat)),v1=.slice s1.a D.length s1.c/\v2=.slice s2.a D.length s2.c/\v3=.int .i64 (p:Int)/\p<=s.size/\D.length<=p/\Yd (D++Qbb s f p=Qdn s/\s.size<=p+f)/\Yd (wr.ownsRow w.heap.size 3 1 (.slice s1.a D.length s1.c) D.length (QwU D))/\Yd (wr.ownsRow w.heap.size 3 1 (.slice s2.a D.length s2.c) D.length (QwQ D))/\Yd (Qwp s1 s2)/\Yd (Ext w wr)) (λ_ _ v _=>s.size -(intOf v).toNat)
 case atStart=>exact⟨0,s.size,Sl.none,Sl.none,[],rfl,rfl,rfl,aA _,aA _,hY ⟨rfl,oM⟩,hY (eG _ _ _ _),hY (eG _ _ _ _),hY (λb Z=>by cases Z),hY (fI _)⟩
 obtain⟨p,f,s1,s2,D,rfl,rfl,rfl,hp,g6,HD,a1,b5,HA,HX⟩:=hrel;by_cases d4:p<s.size
 ·have e1:decide ((p:Int)<(s.size:Int))=true:=em oM
  obtain⟨a4,a7,hr⟩:=Qgs d4;have a0:=Qyo s p;go_wp2_with fail;refine(g0.o _ p).mono ?_;rintro e w2 ⟨rfl,f8⟩;obtain rfl:=f8.symm;obtain⟨r,z,hd⟩:∃r z,Utf8.decode s p=(r,z):=⟨_,_,rfl⟩;by_cases Z:Utf8.decode s p=(65533,1)
  ·rw [eu (.inr Z)] at a0
   rw[a0];have I:=HD.o.1;rw[Qlx Z,aW]at I;have HF:=hY I;clear a0 Z hd a4 a7 hr I;go_wp2_with fail;go_ret2;refine⟨s1,_,by rw[<-HF.o];rfl,?_,HX.o⟩;rw[<-HF.o];exact(fP a1.o).mono λi hi=>hi.2
  rw[eh (λh=>h.elim (λh=>absurd h oM) Z)]at a0;rw[a0];have N:=QhI d4 HD.o.2 Z;rw[hd]at a4 a7 N ⊢;dsimp only at a4 a7 N ⊢;have I:=HD.o.1;rw[N]at I;have HF:=hY (show(D++[(p,r)])++Qbb s (f-1) (p+z)=Qdn s by rw[aN];exact I);have e2:((z:Int)==0)=false:=ev.2 oM;have e3:IntKind.i64.wrap ((p:Int)+(z:Int))=(p:Int)+(z:Int):=by rw[ey];omega
  obtain⟨f3,c4⟩:=Yb HD.o.2 a4;have a8:Ext wr (wr.alloc (.cells #[.int .i64 (r:Int)] 3)):=(fI _).alloc _ _;have c9:=hY (fK wr 3 #[.int .i64 (r:Int)]);have c2:=Qab a1.o (a8.agree λb (h:b<wr)=>h) λb Z=>(Qad a1.o Z).2
  have f1:=Qab b5.o (a8.agree λb (h:b<wr)=>h) λb Z=>(Qad b5.o Z).2
  obtain⟨e0,b6,b9⟩:=Yc c2 f1 (HX.o.trans a8);have e4:D.length+1<=maxLen:=by unfold maxLen;omega
  have e7:(D.length+1)*8<=140737488355328:=oM
  have g3:=HX.o.size;have a3:w.heap.size<=(wr.alloc (.cells #[.int .i64 (r:Int)] 3)).heap.size:=by rw[ew];omega
  clear a0 Z hd hr a4 N I c2 f1 a8;go_upto_region 7 with(at_builtin;refine Qak _ rfl (.tmp 21) (.tmp 23) 50 rfl w.heap.size 3 iN _ 1 8 underlying50 nI c3 c6 f0 rfl oN s1 D.length (QwU D) rfl e0.o (λb=>b=wr.heap.size) ⟨some ⟨wr,0,none⟩,1⟩ 1 [.int .i64 (r:Int)] rfl (fU c9.o oN rfl) (by simp[Value.oneCell']) e4 e7 a3 ?_;intro b7 w6 a2 b4 e6;have d0:=hY a2;have a6:=hY b4;have d3:=hY e6;clear a2 b4 e6);have f5:=a6.o.grown.size;have e8:Qwp b7 s2:=HA.o.grow b6.o (ao _) (d3.o.imp id And.left);have b8:=Qxg HA.o b6.o a6.o;have d7:Ext w w6:=b9.o.wr a6.o λi hi=>(Qad a1.o hi).1
  have a9:Ext w6 (w6.alloc (.cells #[.int .i64 (p:Int)] 3)):=(fI _).alloc _ _;obtain⟨f6,c8,d8,f2,c0⟩:=Yf (fK w6 3 #[.int .i64 (p:Int)]) (Qab d0.o (a9.agree λb (h:b<w6)=>h) λb Z=>(Qad d0.o Z).2) (Qab b8 (a9.agree λb (h:b<w6)=>h) λb Z=>(Qad b8 Z).2) (d7.trans a9) e8;have b0:w.heap.size<=(w6.alloc (.cells #[.int .i64 (p:Int)] 3)).heap.size:=by rw[ew];omega
  clear e8 b8 d7 a9 e0 b6 a6 d3 c9 a1 b5 b9 HX g3 f5 a3;go_wp2_with(at_builtin;refine Qak _ rfl (.tmp 25) (.tmp 27) 50 rfl w.heap.size 3 iN _ 1 8 underlying50 nI c3 c6 f0 rfl oN s2 D.length (QwQ D) rfl d8.o (λb=>b=w6.heap.size) ⟨some ⟨w6,0,none⟩,1⟩ 1 [.int .i64 (p:Int)] rfl (fU f6.o oN rfl) (by simp[Value.oneCell']) e4 e7 b0 ?_;intro c1 w9 a5 b3 d5;have f7:=hY a5;have c7:=hY b3;have g4:=hY d5;clear a5 b3 d5);go_roundw
  case rel=>
   have g5:Qwp c1 b7:=c0.o.comm.grow c8.o (ao _) (g4.o.imp id And.left);have f9:=Qxg c0.o.comm c8.o c7.o;have f4:Ext w w9:=f2.o.wr c7.o λi hi=>(Qad d8.o hi).1
   have hz:=c4.o;refine⟨p+z,f-1,b7,c1,D++[(p,r)],by rw[aj];rfl,by rw[aj];rfl,by go_num,a7,?_,hY ⟨HF.o,by have:=f3.o;omega⟩,hY ?_,hY ?_,hY g5.comm,hY f4⟩
   .rw [aj];show D.length+1<=_;omega
   .rw [aj,show QwU (D++[(p,r)])=QwU D++[.int .i64 (r:Int)]by simp[QwU]];exact f9
   rw[aj,show QwQ (D++[(p,r)])=QwQ D++[.int .i64 (p:Int)]by simp[QwQ]];exact f7.o
  have:=c4.o;simp[intOf];omega
 obtain rfl:p=s.size:=oM
 have e1:decide ((s.size:Int)<(s.size:Int))=false:=ej oM;have I:=HD.o.1;rw[Qkq (ao _),aW]at I;have HF:=hY I;clear I;go_wp2_with fail;go_ret2;refine⟨s1,_,by rw[<-HF.o];rfl,?_,HX.o⟩;rw[<-HF.o];exact(fP a1.o).mono λi hi=>hi.2
def Qxq:Nat->Nat
 |0=>34
 |1=>92
 |2=>47
 |3=>8
 |4=>12
 |5=>10
 |6=>13
 |_=>9
theorem QxH(w:World)(k:Nat)(N:k<8):Calls prog 185 #[.int .i64 (k:Int)] w λe w'=>e=.returned (.int .i64 (Qxq k:Int))/\Ext w w':=by
 have I:k=0\/k=1\/k=2\/k=3\/k=4\/k=5\/k=6\/k=7:=oM
 clear N;rcases I with rfl|rfl|rfl|rfl|rfl|rfl|rfl|rfl
 all_goals
  go_in;go_wp2_with fail;go_ret;exact⟨rfl,(fI w).alloc _ _⟩
def QxA(r:Nat):Nat:=if r<128 then 1 else if r<2048 then 2 else if r<65536 then 3 else 4
theorem QyE(h:r<=1114111):(Lib.encodeRune (r:Int)).length=QxA r:=by
 unfold Lib.encodeRune QxA;rw[aq];unfold Lib.encodeRuneZ;by_cases h1:r<128
 .rw [eu oM,eu h1];rfl
 rw[eh oM,eh h1];by_cases h2:r<2048
 .rw [eu oM,eu h2];rfl
 rw[eh oM,eh h2];by_cases N:r<65536
 ·rw [eu N]
  by_cases I:((2048:Int)<=(r:Int)/\(r:Int)<55296)\/((57343:Int)<(r:Int)/\(r:Int)<=65535)
  .rw [eu I];rfl
  rw[eh I,eh oM];rfl
 rw[eh oM,eu oM,eh N];rfl
theorem QwX(q:List UInt8)(W:World)(b:Nat)(cs:Array Value)(t:TypeId)(I:Blk W b t cs)(h:cs.toList=q.map λx=>Value.int .u8 (x.toNat:Int)):(convert 249 9 (.slice (some ⟨b,0,none⟩) q.length q.length)).run prog W=.ok (.string ⟨q.toArray⟩) W:=
 run_convert_bytes_back (P:=prog) W 249 9 5 ⟨b,0,none⟩ q.length q underlying249 underlying5 underlying9 (λj N=>by
  rw[Qbc,aD,I.cell,<-bJ,h,au,ac N];rfl)
variable{n:Nat}
theorem QyP(h:n<256):((UInt8.ofNat n).toNat:Int)=(n:Int):=by
 rw[UInt8.toNat_ofNat',Nat.mod_eq_of_lt oM]
theorem QwM(xs:List Int)(W:World)(b:Nat)(t:TypeId)(I:Blk W b t (xs.map (Value.int .u8)).toArray)(h:∀x∈xs,0<=x/\x<256):∃q:ByteArray,q.size=xs.length/\(convert 249 9 (.slice (some ⟨b,0,none⟩) xs.length xs.length)).run prog W=.ok (.string q) W:=by
 refine⟨⟨(xs.map λx=>UInt8.ofNat x.toNat).toArray⟩,by simp[ByteArray.size],?_⟩;have:=QwX (xs.map λx=>UInt8.ofNat x.toNat) W b _ t I (by
  rw[cA];show xs.map (Value.int .u8)=_;apply List.map_congr_left;intro x N;have:=h x N;show Value.int .u8 x=Value.int .u8 (((UInt8.ofNat x.toNat).toNat:Nat):Int);rw[QyP oM];congr 1;omega)
 rwa[aq]at this
theorem Qxp(w:World)(r:Nat)(hr:r<=1114111):Calls prog 186 #[.int .i64 (r:Int)] w λe w'=>∃t:ByteArray,e=.returned (.string t)/\t.size=QxA r/\Ext w w':=by
 go_in;by_cases h1:r<128
 ·have e1:decide ((r:Int)<128)=true:=em oM
  have e2:IntKind.u8.wrap (r:Int)=(r:Int):=by rw[IntKind.wrap_u8];omega
  have a0:(convert 249 9 (.slice (some ⟨w,0,none⟩) 1 1)).run prog (w.alloc (.cells #[.int .u8 (r:Int)] 5))=.ok (.string ⟨#[UInt8.ofNat r]⟩) (w.alloc (.cells #[.int .u8 (r:Int)] 5)):=
   QwX [UInt8.ofNat r] _ _ _ _ (fK w 5 #[.int .u8 (r:Int)]) (by rw[aY,QyP oM];rfl)
  have Z:=hY (show 1=QxA r by unfold QxA;rw[eu h1]);clear h1 hr;go_wp2_with fail;go_ret;exact⟨_,rfl,Z.o,(fI w).alloc _ _⟩
 have f1:decide ((r:Int)<128)=false:=ej oM;by_cases h2:r<2048
 ·have e1:decide ((r:Int)<2048)=true:=em oM
  obtain⟨q,I,a0⟩:∃q:ByteArray,q.size=2/\(convert 249 9 (.slice (some ⟨w,0,none⟩) 2 2)).run prog (w.alloc (.cells #[.int .u8 (192+(r:Int)/64),.int .u8 (128+(r:Int)%64)] 5))=.ok (.string q) (w.alloc (.cells #[.int .u8 (192+(r:Int)/64),.int .u8 (128+(r:Int)%64)] 5)):=
   QwM [192+(r:Int)/64,128+(r:Int)%64] _ _ _ (fK w 5 #[.int .u8 (192+(r:Int)/64),.int .u8 (128+(r:Int)%64)]) (by intro x N;simp only[List.mem_cons,List.not_mem_nil,or_false]at N;rcases N with rfl|rfl<;>omega)
  have Z:=hY (show q.size=QxA r by unfold QxA;rw[I];rw[eh h1,eu h2]);clear I;go_wp2_with fail;go_ret;exact⟨_,rfl,Z.o,(fI w).alloc _ _⟩
 have f2:decide ((r:Int)<2048)=false:=ej oM;by_cases h3:r<65536
 ·have e1:decide ((r:Int)<65536)=true:=em oM
  obtain⟨q,I,a0⟩:∃q:ByteArray,q.size=3/\(convert 249 9 (.slice (some ⟨w,0,none⟩) 3 3)).run prog (w.alloc (.cells #[.int .u8 (224+(r:Int)/4096),.int .u8 (128+(r:Int)/64%64),.int .u8 (128+(r:Int)%64)] 5))=.ok (.string q) (w.alloc (.cells #[.int .u8 (224+(r:Int)/4096),.int .u8 (128+(r:Int)/64%64),.int .u8 (128+(r:Int)%64)] 5)):=
   QwM [224+(r:Int)/4096,128+(r:Int)/64%64,128+(r:Int)%64] _ _ _ (fK w 5 #[.int .u8 (224+(r:Int)/4096),.int .u8 (128+(r:Int)/64%64),.int .u8 (128+(r:Int)%64)]) (by intro x N;simp only[List.mem_cons,List.not_mem_nil,or_false]at N;rcases N with rfl|rfl|rfl<;>omega)
  have Z:=hY (show q.size=QxA r by unfold QxA;rw[I];rw[eh h1,eh h2,eu h3]);clear I;go_wp2_with fail;go_ret;exact⟨_,rfl,Z.o,(fI w).alloc _ _⟩
 have e1:decide ((r:Int)<65536)=false:=ej oM;obtain⟨q,I,a0⟩:∃q:ByteArray,q.size=4/\(convert 249 9 (.slice (some ⟨w,0,none⟩) 4 4)).run prog (w.alloc (.cells #[.int .u8 (240+(r:Int)/262144),.int .u8 (128+(r:Int)/4096%64),.int .u8 (128+(r:Int)/64%64),.int .u8 (128+(r:Int)%64)] 5))=.ok (.string q) (w.alloc (.cells #[.int .u8 (240+(r:Int)/262144),.int .u8 (128+(r:Int)/4096%64),.int .u8 (128+(r:Int)/64%64),.int .u8 (128+(r:Int)%64)] 5)):=
  QwM [240+(r:Int)/262144,128+(r:Int)/4096%64,128+(r:Int)/64%64,128+(r:Int)%64] _ _ _ (fK w 5 #[.int .u8 (240+(r:Int)/262144),.int .u8 (128+(r:Int)/4096%64),.int .u8 (128+(r:Int)/64%64),.int .u8 (128+(r:Int)%64)]) (by intro x N;simp only[List.mem_cons,List.not_mem_nil,or_false]at N;rcases N with rfl|rfl|rfl|rfl<;>omega)
 have Z:=hY (show q.size=QxA r by unfold QxA;rw[I];rw[eh h1,eh h2,eh h3]);clear I;go_wp2_with fail;go_ret;exact⟨_,rfl,Z.o,(fI w).alloc _ _⟩
theorem Qyn{r k:Nat}(N:k<8)(h2:k≠2)(h:Qxq k=r):(QcZ r).length=2:=by
 have I:k=0\/k=1\/k=3\/k=4\/k=5\/k=6\/k=7:=oM
 subst h;rcases I with rfl|rfl|rfl|rfl|rfl|rfl|rfl<;>rfl
theorem QxM(h:∀i,i<8->i=2\/Qxq i≠r)(Z:r<=1114111):(QcZ r).length=if r<32 then 6 else QxA r:=by
 have h0:34≠r:=(h 0 oN).resolve_left oN;have h1:92≠r:=(h 1 oN).resolve_left oN;have h3:8≠r:=(h 3 oN).resolve_left oN;have h4:12≠r:=(h 4 oN).resolve_left oN;have h5:10≠r:=(h 5 oN).resolve_left oN;have N:13≠r:=(h 6 oN).resolve_left oN;have I:9≠r:=(h 7 oN).resolve_left oN;unfold QcZ Qb3;by_cases hs:r<32
 ·rw [eu hs,eh (by simp;omega)]
  unfold Qbs;rw[eh (Ne.symm h0),eh (Ne.symm h1),eh (Ne.symm h3),eh (Ne.symm I),eh (Ne.symm h5),eh (Ne.symm h4),eh (Ne.symm N)];rfl
 rw[eh hs,eu (by simp;omega),QyE Z]
def QxY(r k:Nat):Prop:=∀i,i<k->i=2\/Qxq i≠r
theorem QwS(w:World)(s:ByteArray)(hs:s.size<=100000000)(hv:Lib.validD s.data.toList=true):Calls prog 157 #[.string s] w λe w'=>∃t:ByteArray,e=.returned (.tuple #[.string t,.int .i64 0])/\t.size=(QdG s).length/\Ext w w':=by
 have N:=Qwe w s oM;rw[hv]at N;have a5:=Qxt w s oM;obtain⟨a3,a4⟩:=Yb N a5;clear N a5 hv;go_in;go_wp2_with fail;refine a3.o.mono ?_;rintro e w1 ⟨rfl,hw⟩;obtain rfl:=hw.symm;go_wp2_with fail;refine a4.o.mono ?_;rintro e w1 ⟨s1,v2,rfl,c4,c8⟩;have a6:∀x∈Qdn s,x.2<=1114111:=λx hx=>(QfH hx).1
 have c7:(Qdn s).length<=s.size:=an (Qdc s s.size 0) (Nat.sub_le _ _);obtain⟨Q,hQ⟩:∃Q,(QdG s).length=Q:=⟨_,rfl⟩;have a7:Q=(Qbo (Qdn s)).length+2:=by rw[<-hQ];unfold QdG;simp
 have HQ:=hY hQ;generalize Qdn s=D at a6 c7 a7 c4;obtain⟨b,o,c3,d7,b9⟩:=c4;obtain⟨c1,e0,d3,d4,c9⟩:=Yf c3 b9 a6 c8 a7;clear hQ a7 a6 c3 d7 b9 c8 a3 a4;go_wp2_with fail;go_loopw[4,8] (λou qq wr=>∃(j:Nat) (t:ByteArray),ou=.string t/\qq=.int .i64 (j:Int)/\j<=D.length/\Yd (t.size=1+(Qbo (D.take j)).length)/\Yd (Ext w1 wr)) (λ_ qq _=>D.length -(intOf qq).toNat)
 case atStart=>exact⟨0,_,rfl,rfl,aA _,hY rfl,hY (fI _)⟩
 obtain⟨j,t,rfl,rfl,hj,HT,HX⟩:=hrel;by_cases a1:j<D.length
 ·have e1:decide ((j:Int)<(D.length:Int))=true:=em oM
  have e2:(j:Int)<(D.length:Int):=oM
  obtain⟨x,hx⟩:∃x,D[j]? = some x:=⟨_,ac a1⟩;obtain⟨p,r⟩:=x;have d8:t.size<=1000000000:=by
   have h1:=QdZ (D.take j);rw[HT.o];rw[av]at h1;omega
  have hr:r<=1114111:=d3.o _ (ap hx);obtain⟨b7,d0,d6⟩:=c1.o.eq oM;have b4:=c1.o.fits (show 0<D.length by omega);obtain⟨sa,sc⟩:=s1;dsimp only at b7 d0 d6;subst b7;have c0:wr.cell? ⟨b,o+j,none⟩=some (.int .i64 (r:Int)):=(HX.o.agree λb (h:Lt w1.heap.size b)=>h).cell b4 |>.trans (e0.o j _ (by unfold QwU;rw[au,hx];rfl))
  have lb:b<wr:=ab b4 HX.o.size;have b0:=hY hx;clear hx;go_wp2_with fail;have b3:=hY (λ(W:World) (k:Nat) (hk:k<8)=>QxH W k hk);clear c0 lb b4;go_loopw[10] (λkk wr=>∃k:Nat,kk=.int .i64 (k:Int)/\k<=8/\Yd (QxY r k)/\Yd (Ext w1 wr)) (λkk _=>8 -(intOf kk).toNat)
  case atStart=>exact⟨0,rfl,aA _,hY (λi hi=>absurd hi (d9 _)),HX⟩
  clear HX;obtain⟨k,rfl,hk,HM,HX⟩:=hrel;by_cases a8:k<8
  ·have f1:decide ((k:Int)<8)=true:=em oM
   by_cases b6:k=2
   ·subst b6
    have a9:=hY (show QxY r (2+1) fromλi hi=>by by_cases h:i<2;exact HM.o i h;exact .inl oM);go_wp2_with fail;go_roundw
    case rel=>exact⟨2+1,by go_num,oN,a9,HX⟩
    simp[intOf]
   have f2:((k:Int)==2)=false:=ev.2 oM;go_wp2_with fail;refine(b3.o _ k a8).mono ?_;rintro e w2 ⟨rfl,I⟩;have a0:=hY (HX.o.trans I);clear I;by_cases hc:Qxq k=r
   ·have c6:=hY (Qyn a8 b6 hc)
    have f3:((Qxq k:Int) !=(r:Int))=false:=by rw[hc];simp
    have s1:¬9223372036854775807<t.size+1:=oM
    have s2:¬9223372036854775807<t.size+1+(min (k+1) 8-k):=oM
    clear hc;go_wp2_with fail;go_roundw
    case rel=>
     refine⟨j+1,_,rfl,by go_num,a1,hY ?_,a0⟩;rw[aT,b0.o,dP,Qep,aj,c6.o,aL,aL,cd,HT.o];show _+1+(min (k+1) 8-k)=_;omega
    simp[intOf];omega
   have f3:((Qxq k:Int) !=(r:Int))=true:=by simp;omega
   have a9:=hY (show QxY r (k+1) fromλi hi=>by by_cases h:i<k;exact HM.o i h;exact .inr (by rw[show i=k by omega];exact hc));clear hc;go_wp2_with fail;go_roundw
   case rel=>exact⟨k+1,by go_num,a8,a9,a0⟩
   simp[intOf];omega
  obtain rfl:k=8:=oM
  have Z:=hY (QxM HM.o hr);by_cases a2:r<32
  ·have f3:decide ((r:Int)<32)=true:=em oM
   have s1:¬9223372036854775807<t.size+4:=oM
   go_wp2_with fail;go_quiet (fail);go_wp2_with fail;go_roundw
   case rel=>
    refine⟨j+1,_,rfl,by go_num,a1,hY ?_,hY (HX.o.trans ((fI wr).drewN _))⟩;rw[aT,b0.o,dP,Qep,aj,Z.o,eu a2,aL,aL,aL,cd,cd,HT.o];show _+4+(min (r/16+1) 16-r/16)+(min (r%16+1) 16-r%16)=_;omega
   simp[intOf];omega
  have f3:decide ((r:Int)<32)=false:=ej oM;have c2:=Qxp wr r hr;have e3:QxA r<=4:=by unfold QxA;split;decide;split;decide;split<;>decide
  have b8:=hY c2;clear c2;go_wp2_with fail;refine b8.o.mono ?_;rintro e w2 ⟨q,rfl,hq,I⟩;have s1:¬9223372036854775807<t.size+q.size:=oM
  obtain⟨d5,a0⟩:=Yb hq (HX.o.trans I);clear I hq b8;go_wp2_with fail;go_roundw
  case rel=>
   refine⟨j+1,_,rfl,by go_num,a1,hY ?_,a0⟩;rw[aT,b0.o,dP,Qep,aj,Z.o,eh a2,aL,HT.o,d5.o];omega
  simp[intOf];omega
 obtain rfl:j=D.length:=oM
 have e1:decide ((D.length:Int)<(D.length:Int))=false:=ej oM;have d8:t.size<=1000000000:=by
  have h1:=QdZ (D.take D.length);rw[HT.o];rw[av]at h1;omega
 have s1:¬9223372036854775807<t.size+1:=oM
 have hT:=HT.o;rw[aU]at hT;have b5:=hY (show t.size+1=(QdG s).length by rw[HQ.o,c9.o,hT];omega);clear hT;go_wp2_with fail;go_ret2;exact⟨_,rfl,by rw[aL];exact b5.o,d4.o.trans HX.o⟩
def nd(u:Nat):Nat:=if u=0 then 0 else Lib.nDigits u
theorem Qyl{u:Nat}(h:u≠0):nd u=nd (u/10)+1:=by
 unfold nd;rw[eh h];by_cases h1:u<10
 .rw [Lib.nDigits_small h1,eu oM]
 rw[Lib.nDigits_big h1,eh oM]
theorem Qxb(w:World)(n:Int)(h0 : -9223372036854775808<=n)(h1:n<=9223372036854775807):Calls prog 156 #[.int .i64 n] w λe w'=>∃t:ByteArray,e=.returned (.string t)/\t.size=(Lib.itoa n).length/\Ext w w':=by
 by_cases hz:n=0
 ·subst hz
  go_in;go_wp2_with fail;go_ret;refine⟨_,rfl,?_,fI _⟩;rw[show Lib.itoa 0=Lib.decDigits 0 from rfl,Lib.decDigits_length,Lib.nDigits_small oN];rfl
 have a3:(n==0)=false:=by simpa using hz
 go_in;go_wp2_with fail;have a2:nd n.natAbs<=20:=by unfold nd;rw[eh oM];exact Lib.nDigits_le20 _ oM
 have a0:(Lib.itoa n).length=if n<0 then 1+nd n.natAbs else nd n.natAbs:=by
  rw[show nd n.natAbs=Lib.nDigits n.natAbs by unfold nd;rw[eh oM]];unfold Lib.itoa;by_cases I:n<0
  .rw [eu I,eu I,aB,Lib.decDigits_length];omega
  rw[eh I,eh I,Lib.decDigits_length,show n.toNat=n.natAbs by omega]
 have a1:=hY a0;clear a0;go_loopw[3,4] (λsv mv wr=>∃(t:ByteArray) (m:Int),sv=.string t/\mv=.int .i64 m/\-9223372036854775808<=m/\m<=9223372036854775807/\Yd (t.size+nd m.natAbs=nd n.natAbs)/\Yd (Ext w wr)) (λ_ mv _=>(intOf mv).natAbs)
 case atStart=>exact⟨_,n,rfl,rfl,h0,h1,hY (aD _),hY (fI _)⟩
 obtain⟨t,m,rfl,rfl,a6,a5,HT,HX⟩:=hrel;have a4:t.size<=20:=by have:=HT.o;omega
 by_cases hm:m=0
 ·subst hm
  have N:t.size=nd n.natAbs:=HT.o;by_cases I:n<0
  ·have g1:decide (n<0)=true:=em I
   have s1:¬9223372036854775807<1+t.size:=oM
   have HS:=hY (show 1+t.size=(Lib.itoa n).length by rw[a1.o,eu I,N]);clear N;go_wp2_with fail;go_ret;exact⟨_,rfl,by rw[aL];exact HS.o,HX.o⟩
  have g1:decide (n<0)=false:=ej I;have HS:=hY (show t.size=(Lib.itoa n).length by rw[a1.o,eh I,N]);clear N;go_wp2_with fail;go_ret;exact⟨_,rfl,HS.o,HX.o⟩
 by_cases I:m<0
 ·obtain ⟨u,rfl⟩:∃ u:Nat,m = -(u:Int):=⟨m.natAbs,oM⟩
  have g0:(-(u:Int) != 0)=true:=by simpa using hm
  have N:t.size+nd u=nd n.natAbs:=by have:=HT.o;rwa[show(-(u:Int)).natAbs=u by omega]at this
  rw[Qyl oM]at N;have Z:=hY (show 1+t.size+nd (-((u:Int)/10)).natAbs=nd n.natAbs by rw[show(-((u:Int)/10)).natAbs=u/10 by omega];omega);have s1:¬9223372036854775807<min (u%10+1) 10-u%10+t.size:=oM
  have s2:¬9223372036854775807<1+t.size:=oM
  by_cases hq:u%10=0
  ·have g1:((u:Int) % 10)=0:=oM
   clear N;go_wp2_with fail;go_roundw
   case rel=>
    refine⟨_,_,rfl,rfl,oM,oM,hY ?_,HX⟩;rw[aL];exact Z.o
   simp[intOf];omega
  have g1:decide ((0:Int)<(u:Int)%10)=true:=em oM;clear N;go_wp2_with fail;go_roundw
  case rel=>
   refine⟨_,_,rfl,rfl,oM,oM,hY ?_,HX⟩;rw[aL,cd];show min (u%10+1) 10-u%10+t.size+_=_;have:=Z.o;omega
  simp[intOf];omega
 obtain⟨u,rfl⟩:∃u:Nat,m=(u:Int):=⟨m.toNat,oM⟩;have g0:((u:Int) != 0)=true:=by simpa using hm
 have N:t.size+nd u=nd n.natAbs:=HT.o;rw[Qyl oM]at N;have Z:=hY (show 1+t.size+nd ((u:Int)/10).natAbs=nd n.natAbs by rw[show((u:Int)/10).natAbs=u/10 by omega];omega);have s1:¬9223372036854775807<min (u%10+1) 10-u%10+t.size:=oM
 clear N;go_wp2_with fail;go_roundw
 case rel=>
  refine⟨_,_,rfl,rfl,oM,oM,hY ?_,HX⟩;rw[aL,cd];show min (u%10+1) 10-u%10+t.size+_=_;have:=Z.o;omega
 simp[intOf];omega
theorem QxB:∀{l:List Val} {q j:Nat} {d:Val},Qd8 l q=0->l[j]? = some d->Qda d q=0
 |[],q,j,d,_,h=>by simp at h
 | x :: r,q,j,d,h0,h=>by
   rw[Qd8]at h0;by_cases I:Qda x q=0
   ·rw [eh (by simp [I])] at h0
    cases j with
    |zero=>simp at h;subst h;exact I
    |succ j=>exact QxB h0 (by simpa using h)
   rw[eu I]at h0;exact absurd h0 I
theorem QwG:∀{p:Option ByteArray} {ks:List ByteArray} {l:List Val} {q j:Nat} {d:Val} {k:ByteArray},QhA p ks l q=0->l[j]? = some d->ks[j]? = some k->Lib.validD k.data.toList=true/\Qda d q=0
 |p,ks,[],q,j,d,k,_,h,_=>by simp at h
 |p,[],x::r,q,j,d,k,_,_,hk=>by simp at hk
 | p,y :: ks,x :: r,q,j,d,k,I,h,hk=>by
   rw[QhA,cT,ce]at I;cases Z:Lib.validD y.data.toList with
   |false=>rw[Z,eu oN]at I;cases I
   |true=>
   rw[Z,eh oN]at I;split at I
   .cases I
   by_cases N:Qda x q=0
   ·rw [eh (by simp [N])] at I
    cases j with
    |zero=>simp at h hk;subst h hk;exact⟨Z,N⟩
    |succ j=>exact QwG I (by simpa using h) (by simpa using hk)
   rw[eu N]at I;exact absurd I N
variable{q:Nat}
theorem Qyh{k:Int}{b:Bool}{i:Int}{t:ByteArray}{l:List Val}{ok:List ByteArray}{ov:List Val}(I:ov.length=ok.length)(h:Qda (.mk k b i t l ok ov) q=0) :
  (1<=k/\k<=6)/\Lib.validD t.data.toList=true/\Qd8 l (q+1)=0/\QhA none ok ov (q+1)=0:=by
 rw[Qyi _ _ _ _ _ _ _ _ I]at h;split at h
 .cases h
 rename_i ho;split at h
 .cases h
 split at h
 .cases h
 rename_i hv;split at h
 .rename_i h1;exact absurd h h1
 rename_i h1;refine⟨?_,by simpa using hv,by simpa using h1,h⟩;unfold Qb0 at ho;by_cases N:k<1\/6<k
 .rw [eu N]at ho;exact absurd rfl ho
 omega
theorem QwD{t:ByteArray}(h:Lib.validD t.data.toList=true):(Qbf t).size=(QdG t).length:=by
 unfold Qbf;rw[eu h];show(QdG t).toArray.size=_;rw[bm]
theorem QyM(m:Nat):∀(d:Val),SizeOf.sizeOf d<=m->QcI d<=1100000->∀(q:Nat),Qda d q=0->∀(w:World) (sl so:Sl),RV w (Lt w) d sl so->
  Calls prog 125 #[QbV d sl so] w λe w'=>∃t:ByteArray,e=.returned (.string t)/\t.size=QgI d/\Ext w w':=by
 induction m with
 |zero=>intro d hd;have:=Val.Qb6 d;omega
 |succ m ih=>
 intro d hd e7 q c4 w sl so h;have HI:=hY ih;have b3:=QiE _ w d sl so h;clear ih;obtain⟨k,b,i,t,l,Z,ov⟩:=d;show Calls _ _ #[.agg #[.int .i64 k,.bool b,.int .i64 i,.string t,.slice sl.a l.length sl.c,.slice so.a Z.length so.c]] _ _;cases h with
 |mk bl fl bo fo cl co hl ho hov el rl ek eo ro bk bi bt nl no=>
 have e8:∀(j:Nat) (d:Val),l[j]? = some d->SizeOf.sizeOf d<=m:=λj d hj=>bq (ab (Val.QtM hj) hd)
 have e2:∀(j:Nat) (d:Val),ov[j]? = some d->SizeOf.sizeOf d<=m:=λj d hj=>bq (ab (Val.QtN hj) hd)
 obtain⟨e1,d0,f2,d8⟩:=Qyh hov c4;have f3:QgI (.mk k b i t l Z ov)<=6600000:=oM
 unfold QcI at e7;have g4 : -9223372036854775808<=i:=by simp[Lit.wf,IntKind.min,IntKind.max,IntKind.signed,IntKind.bits]at bi;omega
 have g5:i<=9223372036854775807:=by simp[Lit.wf,IntKind.min,IntKind.max,IntKind.signed,IntKind.bits]at bi;omega
 obtain⟨g7,f0,g8,g0,g9,e6,f1⟩:=Yh e8 e2 el rl ek eo ro;obtain⟨d7,c8,c7,b9,g6,d3⟩:=Yg hov hl ho e7 f2 d8;have e3:=(fI w).alloc #[.int .i64 k,.bool b,.int .i64 i,.string t,.slice sl.a l.length sl.c,.slice so.a Z.length so.c] 34;have e0:=fK w 34 #[.int .i64 k,.bool b,.int .i64 i,.string t,.slice sl.a l.length sl.c,.slice so.a Z.length so.c];obtain⟨a0,a2⟩:=Yb e3 e0;clear e8 e2 el rl ek eo ro hov hl ho f2 d8 c4 hd b3 bi bk e3 e0;obtain⟨n,hn⟩:∃n,QgI (.mk k b i t l Z ov)=n:=⟨_,rfl⟩;rw[hn]at f3 ⊢;unfold QgI at hn;go_in;have g3:k=1\/k=2\/k=3\/k=4\/k=5\/k=6:=oM
 clear e1;rcases g3 with rfl|rfl|rfl|rfl|rfl|rfl
 ·have HN:=hY (show 4=n from hn)
  clear hn;go_wp2_with fail;go_ret;exact⟨_,rfl,HN.o,a0.o⟩
 ·have HN:=hY (show Qut b=n from hn)
  clear hn;cases b
  ·go_wp2_with fail
   go_ret;exact⟨_,rfl,HN.o,a0.o⟩
  go_wp2_with fail;go_ret;exact⟨_,rfl,HN.o,a0.o⟩
 ·have HN:=hY (show (Lib.itoa i).length=n from hn)
  have HD:=hY (Qxb (w.alloc (.cells #[.int .i64 3,.bool b,.int .i64 i,.string t,.slice sl.a l.length sl.c,.slice so.a Z.length so.c] 34)) i g4 g5);clear hn;go_wp2_with fail;refine HD.o.mono ?_;rintro e w2 ⟨u,rfl,hu,I⟩;obtain⟨HU,N⟩:=Yb (hu.trans HN.o) (a0.o.trans I);clear hu I;go_wp2_with fail;go_ret;exact⟨_,rfl,HU.o,N.o⟩
 ·have HN:=hY (show (Qbf t).size=n from hn)
  obtain⟨HD,HQ⟩:=Yb (QwS (w.alloc (.cells #[.int .i64 4,.bool b,.int .i64 i,.string t,.slice sl.a l.length sl.c,.slice so.a Z.length so.c] 34)) t (by have:=b9.o;omega) d0) (QwD d0);clear hn d0;go_wp2_with fail;refine HD.o.mono ?_;rintro e w2 ⟨u,rfl,hu,I⟩;obtain⟨HU,N⟩:=Yb (show u.size=n by rw[hu,<-HQ.o,HN.o]) (a0.o.trans I);clear hu I;go_wp2_with fail;go_ret;exact⟨_,rfl,HU.o,N.o⟩
 ·have HN:=hY (show 2+QfC l+(l.length - 1)=n from hn)
  clear hn;go_wp2_with fail;generalize c1:World.alloc w _=w1;rw[c1]at a0 a2;clear c1;go_loopw[5,6] (λsv qq wr=>∃(j:Nat) (u:ByteArray),sv=.string u/\qq=.int .i64 j/\j<=l.length/\Yd (u.size=1+QfC (l.take j)+(j-1))/\Yd (Ext w1 wr)) (λ_ qq _=>l.length -(intOf qq).toNat)
  case atStart=>exact⟨0,_,rfl,rfl,aA _,hY rfl,hY (fI _)⟩
  obtain⟨j,u,rfl,rfl,hj,HU,HX⟩:=hrel;obtain⟨p0,p1,p2,p3,p4,p5⟩:=(a2.o.ext HX.o).c6;have lp:=(a2.o.ext HX.o).lt;have f9:u.size<=7000000:=by have:=HU.o;have:=QrE l j;have:=HN.o;omega
  by_cases a6:j<l.length
  ·have g1:(j:Int)<(l.length:Int):=oM
   have f7:decide ((j:Int)<(l.length:Int))=true:=em g1;obtain⟨d,hd⟩:∃d,l[j]? = some d:=⟨_,ac a6⟩;have a4:Ext w wr:=a0.o.trans HX.o;have a9:Agree (Lt w) w wr:=a4.agree λ_ h=>h
   obtain⟨b6,b3,d5⟩:=c8.o.eq oM;have a7:=c8.o.fits (show 0<l.length by omega);obtain⟨sa,sc⟩:=sl;dsimp only at b6 b3 d5;subst b6;obtain⟨v0,v1,v2,v3,v4,v5⟩:=(g8.o j d hd).agree a9 a7;have lb:bl<wr:=ab a7 a4.size;have a5:Calls prog 125 #[QbV d (cl j).1 (cl j).2] wr λe w'=>∃t:ByteArray,e=.returned (.string t)/\t.size=QgI d/\Ext wr w':=
    HI.o d (g7.o j d hd) (by have:=QoO hd;have:=b9.o;omega) _ (QxB g6.o hd) wr _ _ (((g0.o j d hd).agree a9).mono λi hi=>ab hi a4.size)
   have b8:=QjX hd;have f6:QgI d<=7000000:=by have:=QrE l (j+1);have:=HN.o;omega
   obtain⟨a3,b0⟩:=Yb a5 b8;clear hd a4 a9 a5 b8;by_cases c0:j=0
   ·have gg:decide ((0:Int)<(j:Int))=false:=ej oM
    have d6:=hY c0;have gn:¬0<j:=oM
    have gi:¬(0:Int)<(j:Int):=oM
    clear c0;go_wp2_with fail;refine a3.o.mono ?_;rintro e w2 ⟨x,rfl,hx,I⟩;have s1:¬9223372036854775807<u.size+x.size:=oM
    obtain⟨N,HS⟩:=Yb (HX.o.trans I) (show u.size+x.size=1+QfC (l.take (j+1))+(j+1-1)by have:=d6.o;have:=HU.o;rw[b0.o,hx];omega);clear I hx a3 v0 v1 v2 v3 v4 v5 p0 p1 p2 p3 p4 p5;go_wp2_with fail;go_roundw
    case rel=>exact⟨j+1,_,rfl,by go_num,a6,hY (by rw[aL];exact HS.o),N⟩
    simp[intOf];omega
   have gg:decide ((0:Int)<(j:Int))=true:=em oM;have s0:¬9223372036854775807<u.size+1:=oM
   go_wp2_with fail;refine a3.o.mono ?_;rintro e w2 ⟨x,rfl,hx,I⟩;have s1:¬9223372036854775807<u.size+1+x.size:=oM
   obtain⟨N,HS⟩:=Yb (HX.o.trans I) (show u.size+1+x.size=1+QfC (l.take (j+1))+(j+1-1)by have:=HU.o;rw[b0.o,hx];omega);clear I hx a3 v0 v1 v2 v3 v4 v5 p0 p1 p2 p3 p4 p5;go_wp2_with fail;go_roundw
   case rel=>exact⟨j+1,_,rfl,by go_num,a6,hY (by rw[aL,aL];exact HS.o),N⟩
   simp[intOf];omega
  obtain rfl:j=l.length:=oM
  have g1:decide ((l.length:Int)<(l.length:Int))=false:=ej oM;have s1:¬9223372036854775807<u.size+1:=oM
  obtain⟨HS,N⟩:=Yb (show u.size+1=n by have:=HU.o;rw[aU]at this;have:=HN.o;omega) (a0.o.trans HX.o);go_wp2_with fail;go_ret;exact⟨_,rfl,by rw[aL];exact HS.o,N.o⟩
 have HN:=hY (show 2+Qfl Z ov+(ov.length-1)=n from hn);clear hn;go_wp2_with fail;generalize c1:World.alloc w _=w1;rw[c1]at a0 a2;clear c1;go_loopw[7,8] (λsv qq wr=>∃(j:Nat) (u:ByteArray),sv=.string u/\qq=.int .i64 j/\j<=Z.length/\Yd (u.size=1+Qfl Z (ov.take j)+(j-1))/\Yd (Ext w1 wr)) (λ_ qq _=>Z.length -(intOf qq).toNat)
 case atStart=>exact⟨0,_,rfl,rfl,aA _,hY (by rw[dy,Qfl];rfl),hY (fI _)⟩
 obtain⟨j,u,rfl,rfl,hj,HU,HX⟩:=hrel;obtain⟨p0,p1,p2,p3,p4,p5⟩:=(a2.o.ext HX.o).c6;have lp:=(a2.o.ext HX.o).lt;have f9:u.size<=7000000:=by have:=HU.o;have:=Qmi Z ov j;have:=HN.o;have:=d7.o;omega
 by_cases a6:j<Z.length
 ·have g1:(j:Int)<(Z.length:Int):=oM
  have f7:decide ((j:Int)<(Z.length:Int))=true:=em g1;obtain⟨kk,hk⟩:∃kk,Z[j]? = some kk:=⟨_,ac a6⟩;obtain⟨d,hd⟩:∃d,ov[j]? = some d:=⟨_,ac (by rw[d7.o];exact a6)⟩;have a4:Ext w wr:=a0.o.trans HX.o;have a9:Agree (Lt w) w wr:=a4.agree λ_ h=>h
  obtain⟨b6,b3,d5⟩:=c7.o.eq oM;have a7:=c7.o.fits (show 0<Z.length by omega);obtain⟨sa,sc⟩:=so;dsimp only at b6 b3 d5;subst b6;have lb:bo<wr:=ab a7 a4.size;have kc:wr.cell? ⟨bo,fo+j*7,none⟩=some (.string kk):=(a9.cell a7).trans (g9.o j kk hk).1;have d4:=(QwG d3.o hd hk).1;have e4:=QwS wr kk (by have:=QkY hd hk;have:=b9.o;omega) d4;have b8:=QjY (ks:=Z) hd hk;have f6:(Qbf kk).size+1+QgI d<=7000000:=by have:=Qmi Z ov (j+1);have:=HN.o;omega
  obtain⟨f4,c3,b0,a8,c2,HK,HD⟩:=Yh (QwD d4) e4 b8 a4 a7 hk hd;clear hd hk a4 a9 e4 b8 d4 a7;by_cases c0:j=0
  ·have gg:decide ((0:Int)<(j:Int))=false:=ej oM
   have d6:=hY c0;have gn:¬0<j:=oM
   have gi:¬(0:Int)<(j:Int):=oM
   clear c0;go_wp2_with fail;refine c3.o.mono ?_;rintro e w2 ⟨y,rfl,hy,I⟩;obtain⟨p0,p1,p2,p3,p4,p5⟩:=(a2.o.ext (HX.o.trans I)).c6;have f5:=(a2.o.ext (HX.o.trans I)).lt;have a1:Agree (Lt w) w w2:=(a8.o.trans I).agree λ_ h=>h
   obtain⟨v0,v1,v2,v3,v4,v5⟩:=(e6.o j d HD.o).agree a1 c2.o;have f8:bo<w2:=ab c2.o (a8.o.trans I).size;have a5:Calls prog 125 #[QbV d (co j).1 (co j).2] w2 λe w'=>∃t:ByteArray,e=.returned (.string t)/\t.size=QgI d/\Ext w2 w':=
    HI.o d (f0.o j d HD.o) (by have:=QkY HD.o HK.o;have:=b9.o;omega) _ (QwG d3.o HD.o HK.o).2 w2 _ _ (((f1.o j d HD.o).agree a1).mono λi hi=>ab hi (a8.o.trans I).size)
   have a3:=hY a5;have b4:y.size=(Qbf kk).size:=by rw[hy,f4.o]
   have s1:¬9223372036854775807<u.size+y.size:=oM
   have s2:¬9223372036854775807<u.size+y.size+1:=oM
   obtain⟨b7,N⟩:=Yb b4 (HX.o.trans I);clear a1 a5 I hy b4 lp lb kc c3;go_wp2_with fail;refine a3.o.mono ?_;rintro e w3 ⟨x,rfl,hx,b5⟩;have s3:¬9223372036854775807<u.size+y.size+1+x.size:=by have:=b7.o;omega
   obtain⟨c9,HS⟩:=Yb (N.o.trans b5) (show u.size+y.size+1+x.size=1+Qfl Z (ov.take (j+1))+(j+1-1)by have:=d6.o;have:=HU.o;have:=b7.o;rw[b0.o,hx];omega);clear b5 hx a3 v0 v1 v2 v3 v4 v5 p0 p1 p2 p3 p4 p5;go_wp2_with fail;go_roundw
   case rel=>exact⟨j+1,_,rfl,by go_num,a6,hY (by rw[aL,aL,aL];exact HS.o),c9⟩
   simp[intOf];omega
  skip
  have gg:decide ((0:Int)<(j:Int))=true:=em oM;have s0:¬9223372036854775807<u.size+1:=oM
  go_wp2_with fail;refine c3.o.mono ?_;rintro e w2 ⟨y,rfl,hy,I⟩;obtain⟨p0,p1,p2,p3,p4,p5⟩:=(a2.o.ext (HX.o.trans I)).c6;have f5:=(a2.o.ext (HX.o.trans I)).lt;have a1:Agree (Lt w) w w2:=(a8.o.trans I).agree λ_ h=>h
  obtain⟨v0,v1,v2,v3,v4,v5⟩:=(e6.o j d HD.o).agree a1 c2.o;have f8:bo<w2:=ab c2.o (a8.o.trans I).size;have a5:Calls prog 125 #[QbV d (co j).1 (co j).2] w2 λe w'=>∃t:ByteArray,e=.returned (.string t)/\t.size=QgI d/\Ext w2 w':=
   HI.o d (f0.o j d HD.o) (by have:=QkY HD.o HK.o;have:=b9.o;omega) _ (QwG d3.o HD.o HK.o).2 w2 _ _ (((f1.o j d HD.o).agree a1).mono λi hi=>ab hi (a8.o.trans I).size)
  have a3:=hY a5;have b4:y.size=(Qbf kk).size:=by rw[hy,f4.o]
  have s1:¬9223372036854775807<u.size+1+y.size:=oM
  have s2:¬9223372036854775807<u.size+1+y.size+1:=oM
  obtain⟨b7,N⟩:=Yb b4 (HX.o.trans I);clear a1 a5 I hy b4 lp lb kc c3;go_wp2_with fail;refine a3.o.mono ?_;rintro e w3 ⟨x,rfl,hx,b5⟩;have s3:¬9223372036854775807<u.size+1+y.size+1+x.size:=by have:=b7.o;omega
  obtain⟨c9,HS⟩:=Yb (N.o.trans b5) (show u.size+1+y.size+1+x.size=1+Qfl Z (ov.take (j+1))+(j+1-1)by have:=HU.o;have:=b7.o;rw[b0.o,hx];omega);clear b5 hx a3 v0 v1 v2 v3 v4 v5 p0 p1 p2 p3 p4 p5;go_wp2_with fail;go_roundw
  case rel=>exact⟨j+1,_,rfl,by go_num,a6,hY (by rw[aL,aL,aL,aL];exact HS.o),c9⟩
  simp[intOf];omega
 obtain rfl:j=Z.length:=oM
 have g1:decide ((Z.length:Int)<(Z.length:Int))=false:=ej oM;have s1:¬9223372036854775807<u.size+1:=oM
 obtain⟨HS,N⟩:=Yb (show u.size+1=n by have:=HU.o;rw[<-d7.o,aU]at this;have:=HN.o;omega) (a0.o.trans HX.o);go_wp2_with fail;go_ret;exact⟨_,rfl,by rw[aL];exact HS.o,N.o⟩
theorem Qwu{d:Val}(h:RV w (Lt w) d sl so)(hc:QcI d<=1100000):Calls prog 86 #[QbV d sl so] w λe w'=>e=.returned (.int .i64 (QcP d))/\Ext w w':=by
 have a2:∀W,Ext w W->RV W (Lt W) d sl so:=λW Z=>(h.agree (Z.agree λb hb=>hb)).mono λb hb=>ab hb Z.size
 obtain⟨HM,HD,HT⟩:=Yc (λW (Z:Ext w W)=>Qyg (a2 W Z) hc) (λW (Z:Ext w W) (hq:Qdv d<=1000000)=>QyA _ d (ao _) hq W sl so (a2 W Z)) (λW (Z:Ext w W) (hm:Qda d 1=0)=>QyM _ d (ao _) hc 1 hm W sl so (a2 W Z));obtain⟨r,I⟩:∃r,QcP d=r:=⟨_,rfl⟩;rw[I];have HR:=hY I;clear I a2 h;go_in;go_wp2_with fail;have a4:=(fI w).alloc (QtS d sl so) 34;have a1:=fK w 34 (QtS d sl so);refine(HM.o _ a4).mono ?_;rintro e w1 ⟨rfl,N⟩;have I:=HR.o;unfold QcP at I;obtain⟨q0,q1,q2,q3,q4,q5⟩:=(a1.ext N).c6;have lq:=(a1.ext N).lt;obtain⟨HB,HX⟩:=Yb (a1.ext N) (a4.trans N);clear a4 N a1 HM;by_cases hm:Qda d 1=0
 ·rw [eh (by simp [hm])] at I
  have b0:=Qij d 1 hm;have a8:=hY (λW Z=>HT.o W Z hm);rw[hm];have a9:=hY I;clear I hm;go_wp2_with fail;refine(HD.o _ HX.o oM).mono ?_;rintro e w2 ⟨rfl,a0⟩;obtain⟨p0,p1,p2,p3,p4,p5⟩:=(HB.o.ext a0).c6;have lp:=(HB.o.ext a0).lt;have a3:=hY (HX.o.trans a0);have I:=a9.o;clear a0 q0 q1 q2 q3 q4 q5 lq;by_cases hd:16<Qdv d
  ·rw [eu hd] at I
   have g1:decide ((16:Int)<(Qdv d:Int))=true:=em oM;have HE:=hY I;clear I;go_wp2_with fail;go_ret;exact⟨by rw[<-HE.o];rfl,a3.o⟩
  rw[eh hd]at I;have g1:decide ((16:Int)<(Qdv d:Int))=false:=ej oM;have a6:=hY I;clear I;go_wp2_with fail;refine(a8.o _ a3.o).mono ?_;rintro e w3 ⟨t,rfl,ht,a7⟩;have a5:=hY (a3.o.trans a7);have I:=a6.o;rw[<-ht]at I;clear a7 ht;by_cases hl:1024<t.size
  ·rw [eu hl] at I
   have g2:decide ((1024:Int)<(t.size:Int))=true:=em oM;have HE:=hY I;clear I;go_wp2_with fail;go_ret;exact⟨by rw[<-HE.o];rfl,a5.o⟩
  rw[eh hl]at I;have g2:decide ((1024:Int)<(t.size:Int))=false:=ej oM;have HE:=hY I;clear I;go_wp2_with fail;go_ret;exact⟨by rw[<-HE.o];rfl,a5.o⟩
 rw[eu hm]at I;have g1:(Qda d 1 != 0)=true:=by simpa using hm
 have HE:=hY I;clear I hm;go_wp2_with fail;go_ret;exact⟨by rw[<-HE.o];rfl,HX.o⟩
theorem Tryz.Qye:(prog.info? 42).map (λi=>(i.zero,i.size,i.bytes))=some (some (.pointer none),1,8):=kM
abbrev Qwj(m:Nat):Value:=.pointer (some ⟨m,0,none⟩)
structure R12(H:Nat->Prop)(w:World)(base R M:Nat)(s:Sl)(es:List Ent)(ms:List Nat)(hs:List (List Ent)):Prop where
 below:∀b,H b->b<w.heap.size
 old:base<=w.heap.size
 hR:H R
 hrow:∀b,s.row=some b->H b
 blk:Blk w R 115 #[Qwj M,.slice s.a hs.length s.c]
 own:w.ownsRow base 42 1 (.slice s.a hs.length s.c) hs.length (ms.map Qwj)
 cur:MapAt H w M es
 len:ms.length=hs.length
 dist:ms.Nodup
 maps:∀(j m:Nat) (es':List Ent),ms[j]? = some m->hs[j]? = some es'->MapAt H w m es'/\m≠M
variable{H:Nat->Prop}
theorem MapAt.QyO{M:Nat}{es:List Ent}(h:MapAt H w M es):∃v,Blk w M 56 #[v]:=by
 obtain⟨-,s,xs,I,-⟩:=h;exact⟨_,I⟩
theorem Qx3{a b:Nat}{t t':TypeId}{cs Z:Array Value}(h:Blk w a t cs)(I:Blk w b t' Z)(N:t≠t'):a≠b:=by
 rintro rfl;unfold Blk at h I;rw[h]at I;injection I with I;injection I with h3 h4;exact N h4
variable{ms:List Nat}{hs:List (List Ent)}
theorem R12.Qzh{base R M:Nat}{es:List Ent}(h:R12 H w base R M s es ms hs):R≠M:=by
 obtain⟨v,I⟩:=h.cur.QyO;exact Qx3 h.blk I oN
theorem R12.Qzb{base R M:Nat}{es:List Ent}(h:R12 H w base R M s es ms hs):s.row≠some M:=by
 obtain⟨v,I⟩:=h.cur.QyO;exact Qwf h.own I oN
theorem R12.QyY{base R M:Nat}{es:List Ent}(h:R12 H w base R M s es ms hs):s.row≠some R:=Qwf h.own h.blk oN
theorem R12.ext{base R M:Nat}{es:List Ent}(h:R12 H w base R M s es ms hs)(k:Ext w w'):R12 H w' base R M s es ms hs:=
 ⟨λb I=>ab (h.below b I) k.size,an h.old k.size,h.hR,h.hrow,h.blk.ext k,Qab h.own (k.agree λb (I:b<w)=>I) (λb I=>(Qad h.own I).2),h.cur.ext k,h.len,h.dist,λj m e N Z=>⟨(h.maps j m e N Z).1.ext k,(h.maps j m e N Z).2⟩⟩
variable{s5:Sl}
theorem R12.step{w3 Z w5:World}{base R M M':Nat}{es:List Ent}{c:Array Value}{t:TypeId}(h:R12 H w3 base R M s es ms hs)(b3:Ext w3 Z)(c4:w3.heap.size<=M')(a8:MapAt (λb=>H b\/b=M') Z M' es)
  (a0:w5.ownsRow base 42 1 (.slice s5.a (hs.length+1) s5.c) (hs.length+1) (ms.map Qwj++[Qwj M'])) (b0:Wr (Z.alloc (.cells c t)) w5 s.row) (a6:s5.a=s.a\/s5.a=some ⟨(Z.alloc (.cells c t)).heap.size,0,none⟩/\Wr (Z.alloc (.cells c t)) w5 none) (a7:Blk w5 R 115 #[Qwj M,.slice s.a hs.length s.c]) :
  ∃H':Nat->Prop,(∀b,H b->H' b)/\(∀b,H' b->H b\/w3.heap.size<=b)/\R12 H' (w5.setCell ⟨R,1,none⟩ (.slice s5.a (hs.length+1) s5.c)) base R M s5 es (ms++[M']) (hs++[es])/\St (λb=>b=R\/s.row=some b) w3 (w5.setCell ⟨R,1,none⟩ (.slice s5.a (hs.length+1) s5.c))/\(∀b,s5.row=some b->s.row=some b\/w3.heap.size<=b):=by
 have b4:Ext Z (Z.alloc (.cells c t)):=(fI Z).alloc _ _;have c1:=b3.size;have c2:(Z.alloc (.cells c t)).heap.size=Z.heap.size+1:=ew _ _;have b9:=b0.grown.size;have c3:M'<Z.heap.size:=by obtain⟨v,hv⟩:=a8.QyO;exact hv.lt
 have c0:=h.blk.lt;have b7:M<w3.heap.size:=by obtain⟨v,hv⟩:=h.cur.QyO;exact hv.lt
 have N:∀b,s5.row=some b->H b\/Z.heap.size<b:=λb I=>by
  rcases a6 with e |⟨e,-⟩
  .exact .inl (h.hrow b (by unfold Sl.row at I ⊢;rw[<-e];exact I))
  right;have:b=(Z.alloc (.cells c t)).heap.size:=by unfold Sl.row at I;rw[e]at I;simpa using I.symm
  omega
 have k4:St (λb=>b=R\/s.row=some b) Z (w5.setCell ⟨R,1,none⟩ (.slice s5.a (hs.length+1) s5.c)):=
  St.set (H:=λb=>b=R\/s.row=some b) ((b4.st _).trans (b0.st λi hi=>.inr hi)) (p:=⟨R,1,none⟩) (.inr (.inl rfl)) _
 have k3:St (λb=>b=R\/s.row=some b) w3 (w5.setCell ⟨R,1,none⟩ (.slice s5.a (hs.length+1) s5.c)):=(b3.st _).trans k4;have a3:St (λb=>b=R) w5 (w5.setCell ⟨R,1,none⟩ (.slice s5.a (hs.length+1) s5.c)):=St.set (H:=λb=>b=R) (fQ _ _) (p:=⟨R,1,none⟩) (.inr rfl) _;have b6:s5.row≠some R:=λe=>Qwf a0 a7 oN e
 have a9:∀b,(b=R\/s.row=some b)->H b:=λb I=>I.elim (λe=>e▸h.hR) (h.hrow b)
 have b8:∀m,(∃v,Blk w3 m 56 #[v])->¬(m=R\/s.row=some m):=λm ⟨v,hv⟩ hh=>hh.elim (λe=>Qx3 h.blk hv oN e.symm) λe=>Qwf h.own hv oN e
 have a2:∀m e',MapAt H w3 m e'->MapAt (λb=>H b\/b=M'\/s5.row=some b) (w5.setCell ⟨R,1,none⟩ (.slice s5.a (hs.length+1) s5.c)) m e':=λm e' hm=>
  (hm.more (G:=λb=>H b\/b=M'\/s5.row=some b) (λb I=>.inl I) λb I hg=>by
    rcases hg with hg|hg|hg
    .exact hg
    .omega
    rcases N b hg with h1|h1
    .exact h1
    omega).st k3 (λb I=>.inl (a9 b I)) (b8 m hm.QyO)
 have a4:∀b,s5.row=some b->s.row=some b\/w3.heap.size<=b:=λb I=>by
  rcases a6 with e |⟨e,-⟩
  .exact .inl (by unfold Sl.row at I ⊢;rw[<-e];exact I)
  right;have:b=(Z.alloc (.cells c t)).heap.size:=by unfold Sl.row at I;rw[e]at I;simpa using I.symm
  omega
 refine⟨λb=>H b\/b=M'\/s5.row=some b,λb I=>.inl I,λb I=>?_,?_,k3,a4⟩
 ·rcases I with I | I | I
  .exact .inl I
  .right;omega
  rcases N b I with h1|h1
  .exact .inl h1
  right;omega
 have hz:=a3.size;refine⟨λb I=>?_,?_,.inl h.hR,λb I=>.inr (.inr I),?_,?_,a2 M es h.cur,by rw[aj,aj,h.len];rfl,?_,λj m a5 hj he=>?_⟩
 ·rcases I with I | I | I
  .have:=h.below b I;omega
  .omega
  have:=(Qad a0 I).2;omega
 .have:=h.old;omega
 ·have:=a7.QbH 1 (.slice s5.a (hs.length+1) s5.c)
  rw[aj];exact this
 ·rw [aj,aC]
  exact Qab a0 (F:=λb=>s5.row=some b) (λb I=>a3.block b (Qad a0 I).2 λe=>b6 (e▸I)) λb I=>I
 ·rw [List.nodup_append]
  refine⟨h.dist,sM,λa ha b I e=>?_⟩;rw[aX]at I;obtain⟨j,hj⟩:=bz ha;have a1:=(ai.1 hj).1;obtain⟨x,hx⟩:=(h.maps j a _ hj (ac (by rw[<-h.len];exact a1))).1.QyO;have:=hx.lt;omega
 by_cases a1:j<ms.length
 ·rw [bn a1] at hj
  rw[bn (by rw[<-h.len];exact a1)]at he;exact⟨a2 m a5 (h.maps j m a5 hj he).1,(h.maps j m a5 hj he).2⟩
 rw[aQ oM]at hj;rw[aQ (by rw[<-h.len];omega)]at he;have b5:j-ms.length=0:=by
  have:=(ai.1 hj).1;simp at this;omega
 rw[<-h.len]at he;rw[b5]at hj he;simp at hj he;subst hj he;refine⟨(a8.more (G:=λb=>H b\/b=M'\/s5.row=some b) (λb I=>I.elim .inl λe=>.inr (.inl e)) λb I hg=>by
  rcases hg with hg|hg|hg
  .exact .inl hg
  .exact .inr hg
  rcases N b hg with h1|h1
  .exact .inl h1
  omega).st k4 (λb I=>.inl (a9 b I)) ?_,oM⟩
 rintro(e|e)
 .omega
 have:=h.below _ (h.hrow _ e);omega
theorem R12.turned{base R M:Nat}{es N:List Ent}(h:R12 H w base R M s es ms hs)(hm:MapAt H w' M N)(k:St (λb=>b=M) w w'):R12 H w' base R M s N ms hs:=
 ⟨λb I=>ab (h.below b I) k.size,an h.old k.size,h.hR,h.hrow,k.blk h.blk h.Qzh,Qab h.own (F:=λb=>s.row=some b) (λb I=>k.block b (Qad h.own I).2 λe=>h.Qzb (e▸I)) (λb I=>I),hm,h.len,h.dist,
   λj m e Z he=>⟨(h.maps j m e Z he).1.st k (λb I=>I▸h.cur.hm) (λe'=>(h.maps j m e Z he).2 e'),(h.maps j m e Z he).2⟩⟩
def Qze(H:Nat->Prop)(w:World)(base R M:Nat)(s:Sl)(es:List Ent)(ms:List Nat)(hs:List (List Ent))(k:ByteArray)(v:Val)(e:Ending)(w':World):Prop:=
 (Qci k≠0/\e=.returned (.int .i64 8)/\Ext w w')\/(Qci k=0/\QcP v≠0/\e=.returned (.int .i64 (QcP v))/\Ext w w')\/
 (Qci k=0/\QcP v=0/\e=.returned (.int .i64 0)/\∃(H':Nat->Prop) (s':Sl) (M':Nat),(∀b,H b->H' b)/\(∀b,H' b->H b\/w.heap.size<=b)/\R12 H' w' base R M s' (QbY es k v) (ms++[M']) (hs++[es])/\St (λb=>b=R\/b=M\/s.row=some b) w w'/\(∀b,s'.row=some b->s.row=some b\/w.heap.size<=b)/\w.heap.size<=M')
theorem QxL{H H':Nat->Prop}{w w3 W5:World}{base R M:Nat}{es:List Ent}{ms a3:List Nat}{hs a5:List (List Ent)}{k:ByteArray}{v:Val}(h:R12 H w base R M s es ms hs)(hv:RV w (NH H w) v sl so)(a0:Ext w w3)(a6:∀b,H b->H' b)(a1:∀b,H' b->H b\/w3.heap.size<=b)
  (Z:R12 H' W5 base R M s5 es a3 a5) (N:St (λb=>b=R\/s.row=some b) w3 W5) (a2:Sorted es) (hc:es.length<=1000000) (hk:k.size<=maxLen) :
  ∀W,Ext W5 W->Calls prog 43 #[.pointer (some ⟨M,0,none⟩),.string k,QbV v sl so] W (Qxx H' M (QbY es k v) W):=λW hW=>by
 have h3:=a0.size;have h5:=N.size;have a4:Agree (NH H w) w W5:=λb I=>(N.block b (ab I.1 h3) (λhh=>I.2 (hh.elim (λe=>e▸h.hR) (h.hrow b)))).trans (a0.heap I.1)
 have hw:=hW.size;refine QxC (Z.cur.ext hW) (λb I=>ab (Z.below b I) hw) a2 hc hk (((hv.agree a4).agree (hW.agree λb I=>ab I.1 (an h3 h5))).mono λb I=>⟨by have:=I.1;omega,λhh=>?_⟩);rcases a1 b hh with h1|h1
 .exact I.2 h1
 have:=I.1;omega
theorem Qym{base R M:Nat}{es:List Ent}(h:R12 H w base R M s es ms hs)(i9:Sorted es)(hc:es.length<=1000000)(hn:hs.length<=1000000){k:ByteArray}(hk:k.size<=maxLen){v:Val}(hv:RV w (NH H w) v sl so)(j3:QcI v<=1100000) :
  Calls prog 57 #[.pointer (some ⟨R,0,none⟩),.string k,QbV v sl so] w (Qze H w base R M s es ms hs k v):=by
 obtain⟨i0,hi,i6,j7,i7⟩:=eE Tryz.Qye;have a9:=(fI w).alloc #[.int .i64 v.kind,.bool v.b,.int .i64 v.i,.string v.t,.slice sl.a v.l.length sl.c,.slice so.a v.ok.length so.c] 34;have a8:=fK w 34 #[.int .i64 v.kind,.bool v.b,.int .i64 v.i,.string v.t,.slice sl.a v.l.length sl.c,.slice so.a v.ok.length so.c];have a7:=QwP (w.alloc (.cells #[.int .i64 v.kind,.bool v.b,.int .i64 v.i,.string v.t,.slice sl.a v.l.length sl.c,.slice so.a v.ok.length so.c] 34)) k hk;have b9:=Qwu (w:=w.alloc (.cells #[.int .i64 v.kind,.bool v.b,.int .i64 v.i,.string v.t,.slice sl.a v.l.length sl.c,.slice so.a v.ok.length so.c] 34)) (((hv.mono λb hb=>hb.1).agree (a9.agree λ_ h=>h)).mono λi hi=>ab hi a9.size) j3;generalize i2:w.alloc (.cells #[.int .i64 v.kind,.bool v.b,.int .i64 v.i,.string v.t,.slice sl.a v.l.length sl.c,.slice so.a v.ok.length so.c] 34)=w1 at a9 a8 a7 b9;obtain⟨b0,b1,b2,b3,b4,b5⟩:=a8.c6;have lb:=a8.lt;obtain⟨e7,f2,c4,d3,HH,HV⟩:=Yg a9 a8 a7 b9 h hv;clear a9 a8 a7 b9 h hv;go_in;go_wp2_with fail;clear i2;refine c4.o.mono ?_;rintro e w2 ⟨rfl,j5⟩;obtain rfl:=j5.symm;clear c4;by_cases hm:Qci k=0
 ·have g0:(Qci k != 0)=false:=by simpa using hm
  rw[hm];go_wp2_with fail;refine d3.o.mono ?_;rintro e w3 ⟨rfl,d5⟩;obtain⟨a1,j6⟩:=Yb (e7.o.trans d5) (f2.o.ext d5);clear d5 d3 f2 b0 b1 b2 b3 b4 b5 lb;by_cases hf:QcP v=0
  ·rw [hf]
   have a2:=HH.o.ext a1.o;have c0:w3.cell? ⟨R,0,none⟩=some (Qwj M):=a2.blk.cell 0;have c1:w3.cell? ⟨R,1,none⟩=some (.slice s.a hs.length s.c):=a2.blk.cell 1;have lR:=a2.blk.lt;have e6:=hY a2;have f4:∀b,H b->b<w3.heap.size:=a2.below;have c2:=QwN (w:=w3.drew) (a2.cur.ext ((fI w3).drew)) f4 hc;have e1:=hY c2;have e4:∀M':Nat,∀u∈[Qwj M'],u.oneCell'=true:=λM'=>by simp[Value.oneCell']
   have j9:hs.length+1<=maxLen:=by unfold maxLen;omega
   have k0:(hs.length+1)*8<=140737488355328:=oM
   have a0:=hY (show ∀W:World,True->True fromλ_ h=>h);clear a2 c2;go_wp2_with fail;refine eA (S:=(λ_=>True)) kM (trivial) (λhHeld=>?_);refine Qaf 0 (some 16) a0 hHeld ?_;refine Qaf 1 (some 17) a0 hHeld ?_;refine Qaf 2 (some 18) a0 hHeld ?_;refine Qaf 3 (some 19) a0 hHeld ?_;refine Qaf 5 (some 21) a0 hHeld ?_;refine Qaf 6 (some 22) a0 hHeld ?_;refine Qaf 7 (some 23) a0 hHeld ?_;have pm:=Tag.mk 0;have pa:=Tag.mk 1000
   repeat' (first
    |(have:=(pm:Tag 0);have:=(pa:Tag 1000);refine Quj 4 8 (λK N I=>?_) (λK N I=>?_))
    |(have:=(pm:Tag 0);have:=(pa:Tag 1001);refine Qrr 8 (λK N I=>?_))
    |(have:=(pm:Tag 1);have:=(pa:Tag 1000);refine Quj 4 9 (λK N I=>?_) (λK N I=>?_))
    |(have:=(pm:Tag 1);have:=(pa:Tag 1001);refine Qrr 9 (λK N I=>?_))
    |(have:=(pm:Tag 2);have:=(pa:Tag 1000);refine Quj 4 10 (λK N I=>?_) (λK N I=>?_))
    |(have:=(pm:Tag 2);have:=(pa:Tag 1001);refine Qrr 10 (λK N I=>?_))
    |(have:=(pm:Tag 3);have:=(pa:Tag 1000);refine Qrr 4 (λK N I=>?_))
    |(have:=(pm:Tag 3);have:=(pa:Tag 1001);refine Qrr 11 (λK N I=>?_))
    |(have:=(pm:Tag 4);have:=(pa:Tag 1000);refine Qrr 4 (λK N I=>?_))
    |(have:=(pm:Tag 4);have:=(pa:Tag 1001);refine Qrr 14 (λK N I=>?_))
    | (have:=(N:Tag 4)
       clear this N;clear pa;have pa:=Tag.mk 1001;go_simp
       skip
       refine I.out _ _ (trivial) (λhHeld=>?_);clear I K
       try go_frame)
    | (have:=(N:Tag 8)
       clear this N;clear pm;have pm:=Tag.mk 1;go_simp
       skip
       refine I.out _ _ (trivial) (λhHeld=>?_);clear I K
       try go_frame)
    | (have:=(N:Tag 9)
       clear this N;clear pm;have pm:=Tag.mk 2;go_simp
       (refine e1.o.mono ?_;rintro e w4 ⟨M',rfl,f3,c9,e8⟩;have e2:Ext w3 w4:=((fI w3).drew).trans c9;have a6:=e6.o.ext e2;have c0:w4.cell? ⟨R,0,none⟩=some (Qwj M):=a6.blk.cell 0;have c1:w4.cell? ⟨R,1,none⟩=some (.slice s.a hs.length s.c):=a6.blk.cell 1;have i5:=a6.blk.lt;have d8:Ext w4 (w4.alloc (.cells #[Qwj M'] 42)):=(fI w4).alloc _ _;have a5:=hY (a6.ext d8);have c8:=hY (fU (size:=1) (n:=1) (cs:=[Qwj M']) (fK w4 42 #[Qwj M']) oN rfl);have f7:=hY e2;have g8:=hY d8;have f0:=hY e8;have d4:=hY f3;clear c9 e2 a6 d8 e8 f3)
       refine I.out _ _ (trivial) (λhHeld=>?_);clear I K
       try go_frame)
    | (have:=(N:Tag 10)
       clear this N;clear pm;have pm:=Tag.mk 3;go_simp
       skip
       refine I.out _ _ (trivial) (λhHeld=>?_);clear I K
       try go_frame)
    | (have:=(N:Tag 11)
       clear this N;clear pm;have pm:=Tag.mk 4;refine Qdl _ (.tmp 20) (.tmp 26) 113 rfl base 42 i0 _ 1 8 underlying113 hi i6 j7 i7 rfl oN s hs.length (ms.map Qwj) (by rfl) a5.o.own (λb=>b=w4.heap.size) ⟨some ⟨w4.heap.size,0,none⟩,1⟩ 1 [Qwj M'] (by rfl) c8.o (e4 M') j9 k0 a5.o.old ?_;intro s5 w5 b7 b8 e3;obtain⟨f6,f8,g5⟩:=Yc b7 b8 e3;have b6:Blk w5 R 115 #[Qwj M,.slice s.a hs.length s.c]:=a5.o.blk.agree (b8.agree (F:=λb=>b=R) (λi hi=>by rw[hi];exact a5.o.blk.lt) (λk hk e=>a5.o.QyY (by rw[hk,e]))) rfl;have j2:w5.cell? ⟨R,1,none⟩=some (.slice s.a hs.length s.c):=b6.cell 1;have i8:=b6.lt;have j8:w5.frozen? ⟨R,1,none⟩=false:=b6.frozen 1;have g6:=hY b6;clear b7 b8 e3 b6;refine I.out _ _ (trivial) (λhHeld=>?_);clear I K
       try go_frame
       refine Qaf 12 (some 28) a0 hHeld ?_;refine Qaf 13 (some 29) a0 hHeld ?_)
    | (have:=(N:Tag 14)
       clear this N;clear pm;have pm:=Tag.mk 5;go_simp
       skip
       refine I.out _ _ (trivial) (λhHeld=>?_);clear I K
       try go_frame)
    | (have:=(pm:Tag 5);have:=(pa:Tag 1001);refine eF kM ?_ _
       obtain⟨H',d6,d7,e0,a3,c7⟩:=R12.step e6.o f7.o d4.o f0.o f6.o f8.o g5.o g6.o;have d0:=QxL HH.o HV.o a1.o d6 d7 e0 a3 i9 hc hk;obtain⟨j0,f9,c3,g9,g7,i3,i1⟩:=Yh (a3.blk j6.o (by rintro(e|e);exact absurd (HH.o.below _ (e▸HH.o.hR)) (dI _);exact absurd (HH.o.below _ (HH.o.hrow _ e)) (dI _))) d0 e0 (show(∀b,s5.row=some b->s.row=some b\/w.heap.size<=b)/\w.heap.size<=M' from⟨λb hb=>(c7 b hb).imp id (an a1.o.size),an a1.o.size d4.o⟩) a3 d6 d7;obtain⟨HM,HF⟩:=Yb hm hf;clear c7 d0 e0 a3 d6 d7 hm hf f6 f8 g5 g6 f0 d4 f7 g8 a5 c8 c0 c1 j2 j8 i8 i5 lR;generalize w5.setCell ⟨R,1,none⟩ (.slice s5.a (hs.length+1) s5.c)=W5 at *;have i4:Blk W5 R 115 #[Qwj M,.slice s5.a (hs++[es]).length s5.c]:=c3.o.blk;have f5:Blk W5 w.heap.size 34 (QtS v sl so):=j0.o;obtain⟨g3,a4⟩:=Yb (And.intro c3.o.Qzh (show w.heap.size≠M fromλe=>by obtain⟨v',j4⟩:=c3.o.cur.QyO;exact Qx3 f5 j4 oN e)) (show ∀W,(Blk W R 115 #[Qwj M,.slice s5.a (hs++[es]).length s5.c]/\Blk W w.heap.size 34 (QtS v sl so))->_ fromλW h=>(⟨h.1.cell 0,h.1.lt,h.2.c6,h.2.lt⟩:W.cell? ⟨R,0,none⟩=some (Qwj M)/\R<W.heap.size/\_/\w.heap.size<W.heap.size));go_wp2_with fail;refine eA (S:=(λW=>Blk W R 115 #[Qwj M,.slice s5.a (hs++[es]).length s5.c]/\Blk W w.heap.size 34 (QtS v sl so))) kM (⟨i4,f5⟩) (λhHeld=>?_);refine Qaf 0 (some 30) a4 hHeld ?_;refine Qaf 1 (some 31) a4 hHeld ?_;refine Qaf 2 (some 32) a4 hHeld ?_;refine Qaf 3 (some 33) a4 hHeld ?_;refine Qaf 4 (some 34) a4 hHeld ?_;refine Qaf 5 (some 35) a4 hHeld ?_;refine Qac (i:=6) kM rfl (by rfl) (λK I=>?_);go_simp
       (refine(f9.o _ ((fI W5).drew)).mono ?_;rintro e w8 ⟨⟨r,rfl⟩,f1,Z⟩)
       refine I.out _ _ (⟨Z.blk hHeld.1 g3.o.1,Z.blk hHeld.2 g3.o.2⟩) (λhHeld=>?_);clear I K
       try go_frame
       refine eF kM ?_ _;obtain⟨j1,g4⟩:=Yb f1 Z;clear f1 Z;go_wp2_with fail;go_ret;have Z:St (λb=>b=M) W5 w8:=(((fI W5).drew).st _).trans g4.o;exact .inr (.inr ⟨HM.o,HF.o,rfl,H',s5,M',i3.o,λb hb=>(i1.o b hb).imp id (an a1.o.size),c3.o.turned j1.o Z,(a1.o.st _).trans ((g7.o.mono λi _ hi=>hi.elim .inl λe=>.inr (.inr e)).trans (Z.mono λi _ hi=>.inr (.inl hi))),g9.o⟩)))
  have g1:(QcP v != 0)=true:=by simpa using hf
  obtain⟨HM,HF⟩:=Yb hm hf;clear hm hf;go_wp2_with fail;go_ret;exact .inr (.inl ⟨HM.o,HF.o,rfl,a1.o⟩)
 have g0:(Qci k != 0)=true:=by simpa using hm
 have HM:=hY hm;clear hm;go_wp2_with fail;go_ret;exact .inl ⟨HM.o,rfl,e7.o⟩
theorem Qxl{M0:Nat}{es:List Ent}(h:MapAt H w M0 es)(hH:∀b,H b->b<w.heap.size)(hc:es.length<=1000000):Calls prog 56 #[.pointer (some ⟨M0,0,none⟩)] w λe w'=>
  ∃R M,e=.returned (.pointer (some ⟨R,0,none⟩))/\w.heap.size<=R/\w.heap.size<=M/\Ext w w'/\R12 (λb=>(H b\/b=M)\/b=R) w' w.heap.size R M Sl.none es [] []:=by
 have a3:=QwN h hH hc;obtain⟨a8,HH⟩:=Yb a3 hH;clear a3 h hH;go_in;go_wp2_with fail;refine a8.o.mono ?_;rintro e w1 ⟨M,rfl,hM,a5,a0⟩;have N:Ext w1 (w1.alloc (.cells #[.pointer (some ⟨M,0,none⟩),.slice none 0 0] 115)):=(fI w1).alloc _ _;have a4:=fK w1 115 #[.pointer (some ⟨M,0,none⟩),.slice none 0 0];obtain⟨a2,Z,a6,a1,HM⟩:=Yf a5 N a4 a0 hM;clear a5 N a4 a0 hM;go_wp2_with fail;go_ret;have a7:=a2.o.size;have a9:M<w1.heap.size:=by obtain⟨v,hv⟩:=a1.o.QyO;exact hv.lt
 refine⟨w1,M,rfl,a7,HM.o,a2.o.trans Z.o,?_⟩;have b3:(w1.alloc (.cells #[.pointer (some ⟨M,0,none⟩),.slice none 0 0] 115)).heap.size=w1.heap.size+1:=ew _ _;refine⟨λb I=>?_,oM,.inr rfl,λb I=>(by cases I),a6.o,eG _ _ _ _,?_,rfl,List.nodup_nil,λj m b0 hj=>by simp at hj⟩
 ·rcases I with (I | I) | I
  .have:=HH.o b I;omega
  .omega
  omega
 exact(a1.o.more (G:=λb=>(H b\/b=M)\/b=w1.heap.size) (λb I=>.inl I) λb I hg=>hg.elim id λe=>oM).ext Z.o
def QwI(H:Nat->Prop)(w:World)(es:List Ent)(M:Nat)(w':World):Prop:=
 ∃H':Nat->Prop,(∀b,H b->H' b)/\(∀b,H' b->H b\/w.heap.size<=b)/\(∀b,H' b->b<w'.heap.size)/\w.heap.size<=M/\MapAt H' w' M es/\Nw w w'
theorem Qwn{M0:Nat}{es:List Ent}(h:MapAt H w M0 es)(hH:∀b,H b->b<w.heap.size)(e2:Sorted es)(hc:es.length<=1000000){k:ByteArray}(hk:k.size<=maxLen){v:Val}(hv:RV w (NH H w) v sl so)(e3:QcI v<=1100000) :
  Calls prog 34 #[.pointer (some ⟨M0,0,none⟩),.string k,QbV v sl so] w λe w'=>∃M',e=.returned (.tuple #[.pointer (some ⟨M',0,none⟩),.int .i64 (setMu es k v).1])/\QwI H w (setMu es k v).2 M' w':=by
 have a7:=(fI w).alloc (QtS v sl so) 34;have c7:=fK w 34 (QtS v sl so);have c8:(w.alloc (.cells (QtS v sl so) 34)).heap.size=w.heap.size+1:=ew _ _;have d5:=Qxl (h.ext a7) (λb Z=>ab (hH b Z) a7.size) hc;obtain⟨d4,c9,d0,a8,HV,HH⟩:=Yg d5 a7 c7 c8 hv hH;clear d5 a7 c7 c8 hv hH h;go_in;go_wp2_with fail;refine d4.o.mono ?_;rintro e w1 ⟨R,M,rfl,hR,hM,c2,hr⟩;have a0:=c9.o.trans c2;have d7:=d0.o.ext c2;obtain⟨b0,b1,b2,b3,b4,b5⟩:=d7.c6;have hz:=a8.o;have b7:=Qym hr e2 hc (aA _) hk (v:=v) (sl:=sl) (so:=so) ((HV.o.agree (a0.agree λb Z=>Z.1)).mono λb Z=>⟨Nat.lt_of_lt_of_le Z.1 a0.size,λe=>by
  rcases e with(e|e)|e
  .exact Z.2 e
  .have:=Z.1;omega
  have:=Z.1;omega⟩) e3
 obtain⟨b8,HR,a6,c1⟩:=Ye b7 hr a0 (And.intro hR hM);clear b7 hr a0 c2 d7 hR hM hz d0 c9 d4;go_wp2_with fail;refine b8.o.mono ?_;rintro e w2 hp;obtain⟨c,rfl,c3,c0,e0,s2,N,I,d3,a9,b6,a5,c4⟩:∃c,e=.returned (.int .i64 c)/\c=(setMu es k v).1/\∃(c0:List Ent) (H2:Nat->Prop) (s2:Sl) (N:List Nat) (I:List (List Ent)),c0=(setMu es k v).2/\(∀b,H b->H2 b)/\(∀b,H2 b->H b\/w.heap.size<=b)/\R12 H2 w2 (w.heap.size+1) R M s2 c0 N I/\Nw w w2:=by
  have h1:=c1.o;have hz:=a8.o;have d6:∀{W:World},Ext w1 W->∃(H2:Nat->Prop) (s2:Sl) (N:List Nat) (I:List (List Ent)),(∀b,H b->H2 b)/\(∀b,H2 b->H b\/w.heap.size<=b)/\R12 H2 W (w.heap.size+1) R M s2 es N I/\Nw w W:=λ{W} hW=>
   ⟨λb=>(H b\/b=M)\/b=R,Sl.none,[],[],λb Z=>.inl (.inl Z),λb Z=>by
     rcases Z with(e|e)|e
     .exact .inl e
     .right;omega
     right;omega,by have:=HR.o.ext hW;rwa[hz]at this,fJ (a6.o.trans hW)⟩
  rcases hp with⟨hm,rfl,hx⟩ |⟨hm,hf,rfl,hx⟩ |⟨hm,hf,rfl,H2,s2,M2,a1,a2,a3,a4,-,-⟩
  ·obtain ⟨H2,s2,N,I,q1,q2,q3,q4⟩:=d6 hx
   have e1:setMu es k v=(8,es):=by unfold setMu;rw[eu hm]
   rw[e1];exact⟨_,rfl,rfl,es,H2,s2,N,I,rfl,q1,q2,q3,q4⟩
  ·obtain ⟨H2,s2,N,I,q1,q2,q3,q4⟩:=d6 hx
   have e1:setMu es k v=(QcP v,es):=by unfold setMu;rw[eh (by simp[hm]),eu hf]
   rw[e1];exact⟨_,rfl,rfl,es,H2,s2,N,I,rfl,q1,q2,q3,q4⟩
  have e1:setMu es k v=(0,QbY es k v):=by unfold setMu;rw[eh (by simp[hm]),eh (by simp[hf])]
  rw[e1];refine⟨_,rfl,rfl,_,H2,s2,_,_,rfl,λb Z=>a1 b (.inl (.inl Z)),λb Z=>?_,by rwa[hz]at a3,?_⟩
  ·rcases a2 b Z with ((e | e) | e) | e
   .exact .inl e
   .right;omega
   .right;omega
   right;have:=a6.o.size;omega
  refine(fJ a6.o).comp (a4.sb) λi hi e=>?_
  rcases e with e|e|e
  .omega
  .omega
  simp[Sl.row,Sl.none]at e
 subst c3;have q0:w2.cell? ⟨R,0,none⟩=some (.pointer (some ⟨M,0,none⟩)):=a5.blk.cell 0;obtain⟨e4,HQ⟩:=Yb a5 (show QwI H w (setMu es k v).2 M w2 from⟨e0,a9,b6,a5.below,by have:=c1.o;have:=a8.o;omega,d3▸a5.cur,c4⟩);obtain⟨r,b9⟩:∃r,setMu es k v=r:=⟨_,rfl⟩;have d8:=hY b9;rw[b9]at HQ ⊢;clear hp d3 a9 b6 a5 c4 b8 HR a6 c1 a8 b9;go_wp2_with fail;refine eB (v:=.tuple #[.pointer (some ⟨M,0,none⟩),.int .i64 r.1]) (by simp[results,results34,go_sem,q0]) rfl ?_;exact⟨M,by rw[d8.o],by rw[d8.o];exact HQ.o⟩
def Qwi(l:List Ent):List Ent:=l.filter λe=>Qci e.1==0&&QcP e.2==0
theorem QwW(l:List Ent)(e:Ent):Qwi (l++[e])=if Qci e.1=0/\QcP e.2=0 then Qwi l++[e]else Qwi l:=by
 unfold Qwi;rw[cm];by_cases h:Qci e.1=0/\QcP e.2=0
 .rw [eu h];simp[h.1,h.2]
 rw[eh h];have:(Qci e.1==0&&QcP e.2==0)=false:=by
  cases h1:(Qci e.1==0&&QcP e.2==0)with
  |false=>rfl
  |true=>simp only[Bool.and_eq_true,beq_iff_eq]at h1;exact absurd h1 h
 simp[this]
theorem Qww:∀{l A:List Ent},OkM A->(∀e∈l,Qci e.1=0/\okV e.2)->OkM (QdC A l)
 |[],A,h,_=>h
 |a::r,A,h,hl=>Qww (l:=r) (h.put (hl a (aF ..)).1 (hl a (aF ..)).2) λe I=>hl e (aR _ I)
structure Qwa(w:World)(l:List LE)(wr:World)(j M:Nat)(s:Sl)(xs:List LE)(H:Nat->Prop):Prop where
 ents:xs.map LE.ent=Qwi ((l.take j).map LE.ent)
 sub:∀x∈xs,x∈l
 map:MapAt H wr M (QdC [] (xs.map LE.ent))
 own:wr.ownsRow w.heap.size 78 7 (.slice s.a xs.length s.c) xs.length (QaD xs)
 low:∀b,H b->w.heap.size<=b
 below:∀b,H b->b<wr.heap.size
 row:∀b,s.row=some b->H b
 nw:Nw w wr
 few:xs.length<=j
section
variable{w wr w2 w7 w9 : World}{l : List LE}{j M M' : Nat}{s s7 : Sl}{xs : List LE}{H : Nat -> Prop}{x : LE}
theorem QwB{es:List Ent}(h:MapAt H w M es)(k:Nw w w2):MapAt H w2 M es:=h.sb k (λb I=>I.elim) λI=>I.elim
theorem Qwa.skip(h:Qwa w l wr j M s xs H)(hx:l[j]? = some x)(k:Nw wr w2)(hn:¬(Qci x.k=0/\QcP x.v=0)):Qwa w l w2 (j+1) M s xs H where
 ents:=by
  rw[aT,hx,aC];show _=Qwi (_++[(x.k,x.v)]);rw[QwW,eh hn];exact h.ents
 sub:=h.sub
 map:=QwB h.map k
 own:=Qab h.own (F:=Lt wr) (fN k λb hb=>hb) λb hb=>(Qad h.own hb).2
 low:=h.low
 below:=λb hb=>ab (h.below b hb) k.size
 row:=h.row
 nw:=h.nw.trans k
 few:=dR h.few
theorem Qwa.more(h:Qwa w l wr j M s xs H)(hx:l[j]? = some x)(hp:QwI H wr (QbY (QdC [] (xs.map LE.ent)) x.k x.v) M' w2)(hy:Qci x.k=0/\QcP x.v=0)(k:Nw w2 w7)(N:w9.ownsRow w.heap.size 78 7 (.slice s7.a (xs.length+1) s7.c) (xs.length+1) (QaD xs++x.cells))(hw:Wr w7 w9 s.row)(hs:s7.a=s.a\/s7.a=some ⟨w7,0,none⟩/\Wr w7 w9 none) :
  ∃H',Qwa w l w9 (j+1) M' s7 (xs++[x]) H':=by
 obtain⟨H2,h1,h2,h3,h4,h5,h6⟩:=hp;have hz:=h.nw.size;have z6:=h6.size;have z7:=k.size;have z9:=hw.grown.size;have a2:MapAt H2 w7 M' (QbY (QdC [] (xs.map LE.ent)) x.k x.v):=QwB h5 k;have Z:∀b,s7.row=some b->s.row=some b\/b=w7.heap.size:=λb I=>by
  rcases hs with e |⟨e,-⟩
  .left;unfold Sl.row at I ⊢;rwa[e]at I
  right;unfold Sl.row at I;rw[e]at I;simpa using I.symm
 have a3:M'<w7.heap.size:=ab (h3 M' h5.hm) z7;have a0:s.row≠some M':=λe=>by have:=(Qad h.own e).2;omega
 refine⟨λb=>H2 b\/s7.row=some b,?_,?_,?_,?_,?_,?_,λb I=>.inr I,?_,?_⟩
 ·rw [aC,h.ents,aT,hx,aC]
  show _=Qwi (_++[(x.k,x.v)]);rw[QwW,eu hy];rfl
 ·intro y hy
  rcases aS.1 hy with hy|hy
  .exact h.sub y hy
  rw[aX.1 hy];exact ap hx
 ·rw [aC]
  show MapAt _ _ _ (QdC [] (_++[(x.k,x.v)]));rw[Qls];have a1:St (λb=>s.row=some b) w7 w9:=hw.st λi hi=>hi
  refine MapAt.st (G:=λb=>s.row=some b) (a2.more (G:=λb=>H2 b\/s7.row=some b) (λb I=>.inl I) λb I hg=>?_) a1 (λb I=>.inl (h1 b (h.row b I))) a0;rcases hg with hg|hg
  .exact hg
  rcases Z b hg with e|e
  .exact h1 b (h.row b e)
  omega
 ·rw [aj,Qcp,show QaD [x]=x.cells by simp [QaD]]
  exact N
 ·rintro b (I | I)
  ·rcases h2 b I with e | e
   .exact h.low b e
   omega
  rcases Z b I with e|e
  .exact h.low b (h.row b e)
  omega
 ·rintro b (I | I)
  .have:=h3 b I;omega
  exact(Qad N I).2
 .exact ((h.nw.trans h6).trans k).comp ⟨hw.grown.os,hw.grown.tape,hw.grown.output,hw.grown.size,λi hi hn=>hw.grown.block i hi λe=>hn e.symm⟩ λi hi e=>by have:=h.low i (h.row i e);omega
 rw[aj];exact Nat.succ_le_succ h.few
end
def Qxk(w:World)(l:List LE)(e:Ending)(w':World):Prop:=
 ∃(M:Nat) (s:Sl) (xs:List LE) (H:Nat->Prop),e=.returned (.tuple #[.pointer (some ⟨M,0,none⟩),.slice s.a xs.length s.c])/\Qwa w l w' l.length M s xs H
variable{M:List Ent}
theorem Qwx{k:ByteArray}{v:Val}:(setMu M k v).1=0↔Qci k=0/\QcP v=0:=by
 unfold setMu;by_cases h:Qci k=0
 ·rw [eh (by simp [h])]
  by_cases h2:QcP v=0
  .rw [eh (by simp[h2])];simp[h,h2]
  rw[eu h2];simp[h,h2]
 rw[eu h];simp[h]
theorem Qxi{k:ByteArray}{v:Val}(h:Qci k=0/\QcP v=0):(setMu M k v).2=QbY M k v:=by
 unfold setMu;rw[eh (by simp[h.1]),eh (by simp[h.2])]
theorem QwI.nw{es:List Ent}{M:Nat}(h:QwI H w es M w'):Nw w w':=by
 obtain⟨N,-,-,-,-,-,I⟩:=h;exact I
variable{xs:List LE}
theorem Qwa.nwS{w wr w2:World}{l:List LE}{j M:Nat}(h:Qwa w l wr j M s xs H)(k:Nw wr w2):Qwa w l w2 j M s xs H:=
 ⟨h.ents,h.sub,QwB h.map k,Qab h.own (F:=Lt wr) (fN k λb I=>I) (λb I=>(Qad h.own I).2),h.low,λb I=>ab (h.below b I) k.size,h.row,h.nw.trans k,h.few⟩
theorem QwC(l:List Ent):∀{es:List Ent},Sorted es->Sorted (QdC es l):=by
 induction l with
 |nil=>exactλh=>h
 |cons a l ih=>exactλh=>ih (Qa1 h a.1 a.2)
variable{s0:Sl}
theorem Qwq{l:List LE}(hs:ES w (Lt w.heap.size) s0 l)(hl:l.length<=1000)(hc:∀x∈l,QcI x.v<=1100000):Calls prog 14 #[.slice s0.a l.length s0.c] w (Qxk w l):=by
 obtain⟨i0,hi,d6,e6,d7⟩:=eE Tryz.Qa8;obtain⟨HS,HC⟩:=Yb hs hc;clear hs hc;go_in;go_wp2_with fail;generalize a6:World.alloc w _=w0;have c6:Ext w w0:=by rw[<-a6];exact(fI w).alloc _ _
 have a1:Blk w0 w.heap.size 56 #[.slice none 0 0]:=by rw[<-a6];exact fK w _ _
 have hz:w0.heap.size=w.heap.size+1:=by rw[<-a6];exact ew _ _
 have c8:=hY (show Qwa w l w0 0 w.heap.size Sl.none [] (λb=>b=w.heap.size)from
  ⟨rfl,(λx hx=>by cases hx),⟨rfl,Sl.none,[],a1,⟨Rd.nil _ _ _,λx h=>by simp at h,oN⟩,rfl⟩,eG _ _ _ _,(λb hb=>oM),(λb hb=>oM),(λb hb=>by simp[Sl.row,Sl.none]at hb),fJ c6,ao _⟩)
 clear a6 c6 a1 hz;go_loopw[4,5,6] (λv4 v5 v6 wr=>∃(j M:Nat) (s:Sl) (xs:List LE) (H:Nat->Prop),v4=.pointer (some ⟨M,0,none⟩)/\v5=.slice s.a xs.length s.c/\v6=.int .i64 (j:Int)/\j<=l.length/\Yd (Qwa w l wr j M s xs H)) (λ_ _ v _=>l.length -(intOf v).toNat)
 case atStart=>exact⟨0,w.heap.size,Sl.none,[],_,rfl,rfl,rfl,aA _,c8⟩
 obtain⟨j,M,s,xs,H,rfl,rfl,rfl,hj,N⟩:=hrel;by_cases b6:j<l.length
 ·have l1:(j:Int)<(l.length:Int):=oM
  have f5:decide ((j:Int)<(l.length:Int))=true:=em l1;have l0:(0:Int)<=(j:Int):=oM
  obtain⟨x,hx⟩:∃x,l[j]? = some x:=⟨_,ac b6⟩;have b8:=ap hx;obtain⟨b0,o0,c7,a1,f2,f4,cK,a4,b9,b4⟩:=HS.o.at hx;have b7:∀W,Nw w W->W.cell? ⟨b0,o0+j*7,none⟩=some (.string x.k)/\QaV W b0 (o0+j*7+1) x.v x.sl x.so:=λW hW=>⟨(fN hW (F:=Lt w.heap.size) λb hb=>hb).cell a1 |>.trans cK,a4.agree (fN hW (F:=Lt w.heap.size) λb hb=>hb) a1⟩
  obtain⟨f1,d0,f3⟩:=Yc b7 hx b4;have I:=hY (show ∀W,Nw wr W->W.cell? ⟨b0,o0+j*7,none⟩=some (.string x.k)/\W.cell? ⟨b0,o0+j*7+1,none⟩=some (.int .i64 x.v.kind)/\W.cell? ⟨b0,o0+j*7+1+1,none⟩=some (.bool x.v.b)/\W.cell? ⟨b0,o0+j*7+1+2,none⟩=some (.int .i64 x.v.i)/\W.cell? ⟨b0,o0+j*7+1+3,none⟩=some (.string x.v.t)/\W.cell? ⟨b0,o0+j*7+1+4,none⟩=some (.slice x.sl.a x.v.l.length x.sl.c)/\W.cell? ⟨b0,o0+j*7+1+5,none⟩=some (.slice x.so.a x.v.ok.length x.so.c)from
   λW hW=>by
    obtain⟨h1,h2⟩:=b7 W (N.o.nw.trans hW);exact⟨h1,h2.c0,h2.c1,h2.c2,h2.c3,h2.c4,h2.c5⟩)
  have a9:=hY (show ∀W,Nw wr W->Calls prog 34 #[.pointer (some ⟨M,0,none⟩),.string x.k,QbV x.v x.sl x.so] W λe w'=>∃M',e=.returned (.tuple #[.pointer (some ⟨M',0,none⟩),.int .i64 (setMu (QdC [] (xs.map LE.ent)) x.k x.v).1])/\QwI H W (setMu (QdC [] (xs.map LE.ent)) x.k x.v).2 M' w' fromλW hW=>by
   have a0:=N.o.nwS hW;exact Qwn a0.map a0.below (QwC _ List.Pairwise.nil) (by have h1:=QnJ (xs.map LE.ent) [];rw[aq]at h1;have h2:=a0.few;simp only[List.length_nil]at h1;omega) b4 ((b9.agree (fN a0.nw λb hb=>hb)).mono λb hb=>⟨Nat.lt_of_lt_of_le hb a0.nw.size,λhh=>by have:=a0.low b hh;have:b<w.heap.size:=hb;omega⟩) (HC.o x b8))
  rw[c7];clear b7 hx b8 c7 a1 cK a4 b9 b4;obtain⟨r,hr⟩:∃r,setMu (QdC [] (xs.map LE.ent)) x.k x.v=r:=⟨_,rfl⟩;rw[hr]at a9;have HR:=hY hr;clear hr;go_wp2_with fail;refine eA (S:=(λw'=>Nw wr w')) kM ((fJ ((fI wr).drew))) (λhHeld=>?_);refine Qaf 0 (some 18) I hHeld ?_;refine Qaf 1 (some 19) I hHeld ?_;refine Qaf 2 (some 20) I hHeld ?_;refine Qaf 3 (some 21) I hHeld ?_;refine Qaf 4 (some 22) I hHeld ?_;refine Qaf 5 (some 23) I hHeld ?_;refine Qaf 6 (some 24) I hHeld ?_;refine Qaf 7 (some 25) I hHeld ?_;refine Qaf 8 (some 26) I hHeld ?_;refine Qaf 9 (some 27) I hHeld ?_;refine Qaf 10 (some 28) I hHeld ?_;refine Qac (i:=11) kM rfl (by rfl) (λK hK=>?_);go_simp
  (have f0:=hY hHeld;refine(a9.o _ hHeld).mono ?_;rintro e w2 ⟨M2,rfl,Z⟩;have a7:=hY Z;clear Z)
  refine hK.out _ _ (hHeld.trans a7.o.nw) (λhHeld=>?_);clear hK K
  try go_frame
  refine Qaf 12 (some 17) I hHeld ?_;refine Qaf 13 (some 30) I hHeld ?_;refine Qaf 14 (some 31) I hHeld ?_;refine Qaf 15 (some 7) I hHeld ?_;refine Qaf 16 (some 8) I hHeld ?_;refine eF kM ?_ _;by_cases h0:r.1=0
  ·have g0:(r.1 == 0)=true:=by simp [h0]
   have hy:=Qwx.1 (by rw[HR.o];exact h0:(setMu (QdC [] (xs.map LE.ent)) x.k x.v).1=0);obtain⟨HY,b3⟩:=Yb hy hHeld;have Z:=a7.o;rw[<-HR.o,Qxi hy]at Z;have b5:=hY Z;obtain⟨cK,a4⟩:=f1.o w2 (N.o.nw.trans hHeld);obtain⟨c0,c1,c2,c3,c4,c5⟩:=a4;have e1:=hY (fK w2 78 x.cells.toArray);have a5:Nw w2 (w2.alloc (.cells x.cells.toArray 78)):=fJ ((fI w2).alloc _ _);have d5:=hY a5;have e7:=hY (N.o.nwS (hHeld.trans a5)).own;have d3:xs.length+1<=maxLen:=by have:=N.o.few;unfold maxLen;omega
   have d4:(xs.length+1)*104<=140737488355328:=by have:=N.o.few;omega
   have a2:w.heap.size<=(w2.alloc (.cells x.cells.toArray 78)).heap.size:=((N.o.nw.trans hHeld).trans a5).size;obtain⟨e4,e2,d8⟩:=Yc d3 d4 a2;clear h0 hy Z hHeld a5 d3 d4 a2;go_wp2_with(at_builtin;refine Qak _ rfl (.tmp 35) (.tmp 40) 41 rfl w.heap.size 78 i0 _ 7 104 underlying41 hi d6 e6 d7 rfl oN s xs.length (QaD xs) rfl e7.o (λb=>b=w2.heap.size) ⟨some ⟨w2.heap.size,0,none⟩,1⟩ 1 x.cells rfl (fU e1.o oN rfl) (LE.one _) e4.o e2.o d8.o ?_;intro s7 w9 a3 a8 c9;have e3:=hY a3;have e0:=hY a8;have e8:=hY c9;clear a3 a8 c9);go_roundw
   case measure=>simp[intOf];omega
   obtain⟨H',a0⟩:=(N.o.nwS f0.o).more d0.o b5.o HY.o d5.o e3.o e0.o e8.o;exact⟨j+1,M2,s7,xs++[x],H',rfl,by rw[aj];rfl,by go_num,b6,hY a0⟩
  have g0:(r.1==0)=false:=ev.2 h0;obtain⟨HY,b3⟩:=Yb (show ¬(Qci x.k=0/\QcP x.v=0) fromλhy=>h0 (by rw[<-HR.o];exact Qwx.2 hy)) hHeld;clear h0 hHeld;go_wp2_with fail;go_roundw
  case measure=>simp[intOf];omega
  exact⟨j+1,M,s,xs,H,rfl,rfl,by go_num,b6,hY (N.o.skip d0.o b3.o HY.o)⟩
 obtain rfl:j=l.length:=oM
 have l1:decide ((l.length:Int)<(l.length:Int))=false:=ej oM;go_wp2_with fail;refine eB (v:=.tuple #[.pointer (some ⟨M,0,none⟩),.slice s.a xs.length s.c]) (by simp[results,results14,go_sem]) rfl ?_;exact⟨M,s,xs,H,rfl,N.o⟩
theorem Qyr{l:List LE}(hs:ES w (Lt w) s l):OkM (QdC [] (Qwi (l.map LE.ent))):=
 Qww OkM.nil λe I=>by
  unfold Qwi at I;rw[cf]at I;obtain⟨h1,h2⟩:=I;simp only[Bool.and_eq_true,beq_iff_eq]at h2;obtain⟨x,N,rfl⟩:=bW.1 h1;exact⟨h2.1,(hs.vals x N).1.wf,h2.2⟩
theorem Qwa.es{w wr:World}{l xs:List LE}{j M:Nat}(h:Qwa w l wr j M s xs H)(hs:ES w (Lt w) s0 l)(Z:j<=1000):ES wr (Lt wr) s xs:=
 ⟨(fP h.own).mono λb I=>I.2,λx N=>⟨((hs.vals x (h.sub x N)).1.agree (fN h.nw λb I=>I)).mono λb I=>ab I h.nw.size,(hs.vals x (h.sub x N)).2⟩,by have:=h.few;omega⟩
theorem QxP(l:List Ent):(QdC [] (Qwi l)).length<=l.length:=by
 have h:=QnJ (Qwi l) [];have h2:(Qwi l).length<=l.length:=bU _ _;simp at h;omega
variable{w1:World}
theorem Qxn{l xs:List LE}{M:Nat}(h:Qwa w l w1 l.length M s xs H)(hs:ES w (Lt w) s0 l)(hl:l.length<=60) :
  ∃E:List Ent,OkM E/\E.length<=60/\MapAt H w1 M E/\xs.length<=60/\Calls prog 15 #[.slice s.a xs.length s.c] w1 λe w2=>∃T p,e=.returned (.agg #[.pointer p])/\QaK T=.pointer p/\OkR T/\Qaa T=E/\IsT w2 (In w1.heap.size w2.heap.size) T/\Ext w1 w2:=by
 have I:=h.ents;rw[aU]at I;have N:=h.map;have a2:=h.es hs oM;have a1:=Qyr hs;have Z:=QxP (l.map LE.ent);have a3:=h.few;rw[aq]at Z;rw[<-I]at a1 Z;refine⟨_,a1,oM,N,oM,(Qx4 a2 oM).mono ?_⟩;rintro e w2 ⟨T,rfl,a0,hT,hx⟩;obtain⟨p,hp⟩:=Qaj T;exact⟨T,p,by rw[Qao,hp],hp,a0.both.1,a0.both.2,hT,hx⟩
end Go.Proofs.YtdiecmkpbadgjaaGreatDoor
