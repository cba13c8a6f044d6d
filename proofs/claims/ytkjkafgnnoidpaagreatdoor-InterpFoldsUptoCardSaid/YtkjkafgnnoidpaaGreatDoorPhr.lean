/- What the theorem needs of the texts Fold13: no condition of its own. -/
import Derived.Test.YtkjkafgnnoidpaaGreatDoorPhp
import Derived.Test.YtkjkafgnnoidpaaGreatDoorPhq
set_option linter.unusedVariables false
set_option linter.unusedSimpArgs false
set_option linter.unnecessarySimpa false
set_option maxRecDepth 100000
set_option maxHeartbeats 4000000
namespace Go.Proofs.YtkjkafgnnoidpaaGreatDoor
open Go.Proofs.Tryz
open Go.RowKit Go.Maps Go.Shelf
theorem QvR(l:List Mu)(M:List Ent):∀j,(foldM (l.take j) M).2.length<=M.length+64*j
 |0=>an _
 | j+1=>by
   have D:=QvR l M j;cases z:l[j]? with
   |none=>rw[aT,z];show(foldM (l.take j++[]) M).2.length<=_;rw[aY];omega
   | some x=>
     rw[QlB z];have:=Qv6 (E:=(foldM (l.take j) M).2) (x:=x);dsimp only;omega
variable{H F:Nat->Prop}{w:World}{M0:Nat}{s:Sl}
theorem Qv2{es:List Ent}{l:List Mu}(h:MapAt H w M0 es)(hH:∀b,H b->b<w)(hM:OkM es)(hc:es.length<=1000)(hl:l.length<=40)(hF:∀b,F b->b<w/\¬H b)(hr:Qsd w F s l) :
  Calls prog 36 #[.pointer (some ⟨M0,0,none⟩),.slice s.a l.length s.c] w λe w'=>∃M',e=.returned (.tuple #[.pointer (some ⟨M',0,none⟩),.int .i64 ((foldM l es).1:Int)])/\QvI H w (foldM l es).2 M' w':=by
 have c7:=hY (show((∀b,H b->H b)/\(∀b,H b->H b\/w<=b)/\(∀b,H b->b<w)/\MapAt H w M0 (foldM (l.take 0) es).2/\Nw w w)/\OkM (foldM (l.take 0) es).2 from⟨⟨λ_ h=>h,λ_ h=>.inl h,hH,h,fD _ _⟩,hM⟩);have b6:=hY hr;have c3:=hY hF;clear h hH hM hr hF;go_in;go_wp2_with fail;go_loopw[0,6,7] (λv0 v6 v7 wr=>∃(j M':Nat) (H':Nat->Prop),v0=.pointer (some ⟨M',0,none⟩)/\v7=.int .i64 (j:Int)/\v6=.int .i64 ((foldM (l.take j) es).1:Int)/\j<=l.length/\Yd (((∀b,H b->H' b)/\(∀b,H' b->H b\/w<=b)/\(∀b,H' b->b<wr)/\MapAt H' wr M' (foldM (l.take j) es).2/\Nw w wr)/\OkM (foldM (l.take j) es).2)) (λ_ _ v _=>l.length -(intOf v).toNat)
 case atStart=>exact⟨0,M0,H,rfl,rfl,rfl,aw _,c7⟩
 obtain⟨j,M',H',rfl,rfl,rfl,hj,HQ⟩:=hrel;obtain⟨nr,z⟩:∃n,(foldM (l.take j) es).1=n:=⟨_,rfl⟩;have c8:=QlC l es j;rw[z]at c8 ⊢;have b0:=hY z;clear z;by_cases a9:j<l.length
 ·have l1:(j:Int)<(l.length:Int):=by omega
  have d3:decide ((j:Int)<(l.length:Int))=true:=ej l1;have l0:(0:Int)<=(j:Int):=by omega
  obtain⟨x,hx⟩:∃x,l[j]? = some x:=⟨_,ac a9⟩;obtain⟨b,o,cc,c0,b4,b8⟩:=b6.o.ex;obtain⟨c4,d0,c9⟩:=c0.eq (by omega);obtain⟨⟨Z,R,q3,q4,D⟩,a6⟩:=HQ.o;have b7:=QvR l es j;have b5:=hY ((b4 j x hx).nw D);have a0:RMu w (NH H w) x (cc j):=(b8 j x hx).mono λb X=>c3.o b X
  have HC:=hY (QvN q4 q3 a6 (by omega) (a0.after D R) (al (Qgp hx) (by have:=b6.o.few;omega)));have U:=hY (QlB hx es);have J:=hY (Qww a6 a0);obtain⟨q,hq⟩:∃q,runM (foldM (l.take j) es).2 x=q:=⟨_,rfl⟩;rw[hq]at HC U J;rw[c4];clear hx c0 b4 b8 Z R q3 q4 D a6 b7 a0 hq;go_wp2_with(refine Qak rfl (.tmp 20) rfl b (o+j*19) rfl x (cc j) b5.o ?_);refine HC.o.mono ?_;rintro e w2 ⟨M2,rfl,Y⟩;have HO:=hY Y;clear Y;have HN:=hY (show ∀j',j'=j+1->(foldM (l.take (j+1)) es).2=q.2 fromλ_ _=>by rw[U.o]);have c2:(q.1=0/\(foldM (l.take (j+1)) es).1=nr)\/(q.1≠0/\(foldM (l.take (j+1)) es).1=nr+1):=by
   by_cases N:q.1=0
   .exact .inl ⟨N,by rw[U.o,<-b0.o];dsimp only;rw[em N]⟩
   exact .inr ⟨N,by rw[U.o,<-b0.o];dsimp only;rw[ef N]⟩
  rcases c2 with⟨N,I⟩ |⟨N,I⟩
  ·have g0:(q.1 != 0)=false:=by simp [N]
   have b3:=hY I;clear N I;go_wp2_with fail;go_roundw
   case measure=>simp[intOf];omega
   obtain⟨⟨Z,R,q3,q4,D⟩,-⟩:=HQ.o;obtain⟨G,a1,a2,a3,a4,a5⟩:=HO.o;have hz:=D.size;have he:=HN.o _ rfl;exact⟨j+1,M2,G,rfl,by go_num,by rw[b3.o],a9,hY ⟨⟨λb X=>a1 b (Z b X),λb X=>(a2 b X).elim (R b) λe=>.inr (al hz e),a3,by rw[he];exact a4,D.trans a5⟩,by rw[he];exact J.o⟩⟩
  have g0:(q.1 != 0)=true:=by simp[N]
  have b3:=hY I;clear N I;go_wp2_with fail;go_roundw
  case measure=>simp[intOf];omega
  obtain⟨⟨Z,R,q3,q4,D⟩,-⟩:=HQ.o;obtain⟨G,a1,a2,a3,a4,a5⟩:=HO.o;have hz:=D.size;have he:=HN.o _ rfl;exact⟨j+1,M2,G,rfl,by go_num,by rw[b3.o];go_num,a9,hY ⟨⟨λb X=>a1 b (Z b X),λb X=>(a2 b X).elim (R b) λe=>.inr (al hz e),a3,by rw[he];exact a4,D.trans a5⟩,by rw[he];exact J.o⟩⟩
 obtain rfl:j=l.length:=by omega
 have l1:decide ((l.length:Int)<(l.length:Int))=false:=eh (by omega);have hq:=HQ.o;have z:=b0.o;rw[aM]at hq z;obtain⟨⟨Z,R,q3,q4,D⟩,-⟩:=hq;have c6:=hY (show QvI H w (foldM l es).2 M' wr from⟨H',Z,R,q3,q4,D⟩);have c1:=hY z;clear Z R q3 q4 D z;go_wp2_with fail;go_ret2;exact⟨M',by rw[c1.o]<;>rfl,c6.o⟩
variable{w':World}
theorem Qsd.nw{l:List Mu}(h:Qsd w F s l)(hF:∀b,F b->b<w)(k:Nw w w'):Qsd w' F s l:=by
 obtain⟨b,o,c,h1,h2,D⟩:=h.ex;exact⟨⟨b,o,c,h1,λj m z=>(h2 j m z).nw k,λj m z=>(D j m z).agree (fB k hF)⟩,h.few,h.len⟩
variable{G:Nat->Prop}
theorem Qsd.mono{l:List Mu}(h:Qsd w F s l)(z:∀b,F b->G b):Qsd w G s l:=by
 obtain⟨b,o,c,h1,h2,D⟩:=h.ex;exact⟨⟨b,o,c,h1.mono z,h2,λj m I=>(D j m I).mono z⟩,h.few,h.len⟩
variable{s0:Sl}
theorem folds13{l:List LE}{sm:Sl}{ms:List Mu}(hs:ES w (Lt w) s0 l)(hc:∀x∈l,Qb4 x.v<=1100000)(hr:Qsd w (Lt w) sm ms)(hL:Qb9 w) :
  Calls prog 9 #[.slice s0.a l.length s0.c,.slice sm.a ms.length sm.c] w λe w'=>e=.returned (.bool true)/\Nw w w':=by
 have t2:=hL.lib.big;have o4:=hY (λW (J:Nw w W)=>QsF (hL.nw J));have HL:=hY hL;have HS:=hY hs;have HC:=hY hc;have d0:=hY hr;clear hL hs hc hr;go_in;have c3:(60<l.length\/(¬60<l.length/\40<ms.length))\/(¬60<l.length/\¬40<ms.length):=by omega
 rcases c3 with c3 |⟨v4,t7⟩
 ·have l3:decide ((60:Int)<(l.length:Int))=true∨(decide ((60:Int)<(l.length:Int))=false∧decide ((40:Int)<(ms.length:Int))=true):=c3.imp (fun h=>ej (by omega)) fun h=>⟨decide_eq_false (by omega),ej (by omega)⟩
  rcases l3 with l1 |⟨l1,l2⟩
  all_goals (
   go_wp2_with fail;refine(o4.o w (fx (fv _))).mono ?_;rintro e w1 ⟨rfl,hn⟩;have HN:=hY hn;clear hn;go_wp2_with fail;go_ret;exact⟨rfl,HN.o⟩)
 have l1:decide ((60:Int)<(l.length:Int))=false:=eh (by omega);have l2:decide ((40:Int)<(ms.length:Int))=false:=eh (by omega);go_wp2_with fail;refine(Qla HS.o (by omega) HC.o).mono ?_;rintro e w1 ⟨M,s,xs,H,rfl,X⟩;obtain⟨E,l8,q8,f4,v6,a9⟩:=Qvp X HS.o (by omega);have o3:=hY X.nw;have g5:=hY l8;have k4:=hY a9;have g4:=hY f4;have f5:=hY X.low;have f8:=hY X.below;clear X l8 a9 f4 l1 l2;go_wp2_with fail;refine k4.o.mono ?_;rintro e w2 ⟨T1,p1,rfl,g8,g6,c0,k8,e2⟩;go_upto_region 5 with fail;generalize j8:World.alloc w2 _=w3;obtain⟨e8,i6,v7⟩:=Qcb j8;have d3:Nw w w3:=o3.o.trans ((fx e2).trans (fx e8));have z2:=e2.size;have z1:=o3.o.size;have e3:∀j,(foldM (ms.take j) E).2.length<=60+64*j:=λj=>by have:=QvR ms E j;omega
 have U:∀j,(foldM (ms.take j) E).2.length<=2700:=λj=>by
  by_cases h:j<=40
  .have:=e3 j;omega
  rw[show ms.take j=ms.take 40 by rw[a7 (by omega),a7 (by omega)]];have:=e3 40;omega
 have d6:(foldM ms E).2.length<=2700:=by have:=U ms.length;rwa[aM]at this
 have i3:IsT w3 (In w1.heap.size w2.heap.size) T1:=k8.agree (e8.agree λb D=>D.2);have i5:=hY (show Calls prog 35 #[.agg #[.pointer p1],.slice sm.a ms.length sm.c] w3 λe w'=>∃T' I,e=.returned (.tuple #[.agg #[.pointer I],.int .i64 ((foldM ms E).1:Int)])/\Qay T'=.pointer I/\OkR T'/\IsT w' (Up (In w1.heap.size w2.heap.size) w3 w') T'/\Qab T'=(foldM ms E).2/\Nw w3 w' from by
  have h:=Qqs (w:=w3) (F:=In w1.heap.size w2.heap.size) (T:=T1) (s:=sm) (l:=ms) i3 (λb D=>⟨by have:=D.1;omega,by have:=D.2;omega⟩) g6 (by rw[c0];exact g5.o) ((d0.o.nw (λb D=>D) d3).mono λb D=>ab D d3.size) (HL.o.nw d3) (λj m hj h0=>by
   have hs:QaT m<=64:=by unfold QbE at h0;split at h0<;>omega
   have h1:=U j;rw[c0];have:=Nat.mul_le_mul hs (show 2*((foldM (ms.take j) E).2.length+QaT m)+1<=5529 by omega);unfold Qcd;omega) (λj=>by rw[c0];have:=U j;omega) (by have:=d0.o.few;omega)
  rw[Qau,g8,c0]at h;refine h.mono ?_;rintro e w' ⟨T',rfl,a1,a2,a3,a4,a5,-⟩;obtain⟨I,R⟩:=Qaq T';exact⟨T',I,by rw[Qau,R],R,a1,a2,a3,a5⟩)
 have l5:=hY i3;have g7:=hY d3;have n7:=hY i6;have r8:=hY g8;have q1:=hY g6;have k0:=hY c0;have d8:=hY (g4.o.nw ((fx e2).trans (fx e8)));have q7:w3.cell? ⟨w2,0,none⟩=some (.pointer p1):=i6.cell 0;have q2:=hY e3;have t3:=hY U;have Z:=hY d6;clear j8 e2 e8 i6 d3 g8 g6 c0 k8 i3 e3 U d6 k4 HS HC g4;go_wp2_with fail;refine i5.o.mono ?_;rintro e w4 ⟨T2,p2,rfl,n6,j9,k5,l6,i8⟩;obtain⟨ct,i4⟩:∃n,(foldM ms E).1=n:=⟨_,rfl⟩;rw[i4];have j6:=hY i4;clear i4;go_upto_region 6 with fail;generalize j4:World.alloc w4 _=w5;obtain⟨j1,j3,v5⟩:=Qcb j4;have a6:Nw w3 w5:=i8.trans (fx j1);have z4:=i8.size;have d5:=hY a6;have p0:=hY j3;have o2:=hY (k5.agree (j1.agree λb D=>D.elim (λh=>by have:=h.2;omega) λh=>h.2));have k3:=hY n6;have j2:=hY j9;have e7:=hY l6;have n9:=hY (Qv2 (w:=w5) (d8.o.nw a6) (λb D=>by have:=f8.o b D;have:=a6.size;omega) g5.o (by omega) (by omega) (F:=Lt w) (λb D=>⟨by have e6:b<w:=D;have:=a6.size;omega,λe=>by have:=f5.o b e;have e6:b<w:=D;omega⟩) (d0.o.nw (λb D=>D) (g7.o.trans a6)));have g3:=hY (fF a6 n7.o);clear j4 j1 j3 i8 a6 n6 j9 k5 l6 q7;go_wp2_with fail;refine n9.o.mono ?_;rintro e w6 ⟨M2,rfl,H2,a1,a2,a3,a4,a5⟩;rw[j6.o];have z6:=a5.size;have q7:w6.cell? ⟨w2,0,none⟩=some (.pointer p1):=(fF a5 g3.o).cell 0;go_upto_region 8 with fail;generalize o9:World.alloc w6 _=w7;obtain⟨g9,l7,v8⟩:=Qcb o9;have e0:Nw w5 w7:=a5.trans (fx g9);have q5:=hY (show Nw w w7 from(g7.o.trans d5.o).trans e0);have r5:=hY (show MapAt (λb=>H2 b\/b=w6.heap.size) w7 M2 (foldM ms E).2 from(a4.more (λb D=>.inl D) λb D hg=>hg.elim id λe=>by omega).nw (fx g9));have p6:=hY (show M2≠w6.heap.size fromλe=>by have:=a3 _ a4.hm;omega);have n2:=hY l7;have o1:=hY (fF e0 p0.o);have j7:=hY ((l5.o.agree (fB (d5.o.trans e0) λb D=>by have:=D.2;omega)).mono (G:=λi=>(w<=i/\i≠w6.heap.size)/\i<w7) λi hi=>⟨⟨by have:=hi.1;omega,by have:=hi.2;have:=d5.o.size;omega⟩,by have:=hi.2;have:=d5.o.size;omega⟩);have o6:=hY (show IsT w7 (λb=>b<w5) T2 from(o2.o.agree (fB e0 λb D=>D.elim (λh=>by have:=h.2;omega) λh=>by have:=h.2;omega)).mono λb D=>D.elim (λh=>by have:=h.2;omega) λh=>by have:=h.2;omega);have z5:=d5.o.size;clear o9 g9 l7 e0 a1 a2 a3 a4 a5 q7 l5 o2 n7 p0 g3 g7 d8 f8 f5;go_wp2_with fail;go_loopw[13,14] (λp8 q0 wr=>∃(j:Nat) (T:RT) (p:Option Addr),q0=.int .i64 (j:Int)/\p8=.int .i64 ((foldM (ms.take j) E).1:Int)/\j<=ms.length/\Yd (Qay T=.pointer p/\OkR T/\Qab T=(foldM (ms.take j) E).2/\OkM (Qab T))/\Yd (IsT wr (λi=>(w<=i/\i≠w6.heap.size)/\i<wr) T)/\Yd (Blk wr w6.heap.size 41 #[.pointer p])/\Yd (Sb (λi=>i=w6.heap.size) w7 wr)) (λ_ v _=>ms.length -(intOf v).toNat)
 case atStart=>exact⟨0,T1,p1,rfl,rfl,aw _,hY ⟨r8.o,q1.o,k0.o,by rw[k0.o];exact g5.o⟩,j7,n2,hY (fD _ _)⟩
 obtain⟨j,T,p,rfl,rfl,hj,HQ,HT,e4,b0⟩:=hrel;obtain⟨nr,a0⟩:∃n,(foldM (ms.take j) E).1=n:=⟨_,rfl⟩;have s9:=QlC ms E j;rw[a0]at s9 ⊢;have i1:=hY a0;have o7:Nw w wr:=q5.o.comp b0.o λi hi e=>by omega
 have zr:=b0.o.size;have b8:=hY o7;clear a0 q8 o7;by_cases i7:j<ms.length
 ·have g1:(j:Int)<(ms.length:Int):=by omega
  have t4:decide ((j:Int)<(ms.length:Int))=true:=ej g1;have g0:(0:Int)<=(j:Int):=by omega
  obtain⟨x,hx⟩:∃x,ms[j]? = some x:=⟨_,ac i7⟩;obtain⟨b,o,cc,l9,o0,o8⟩:=d0.o.ex;obtain⟨r6,t9,t0⟩:=l9.eq (by omega);have k9:=hY (show ∀W,Nw wr W->W.rangeAt b (o+j*19) (QfQ x (cc j)).toList fromλW J=>((o0 j x hx).nw (b8.o.trans J)).range);obtain⟨da,j5⟩:=Qvg x (cc j);have q6:=hY j5;obtain⟨hp,ok,he,f9⟩:=HQ.o;have l0:=q2.o j;have e1:=hY (show ∀W,Nw wr W->Calls prog 25 #[.agg #[.pointer p],QaG x (cc j)] W λe w'=>∃T' I,e=.returned (.tuple #[.agg #[.pointer I],.int .i64 (runM (foldM (ms.take j) E).2 x).1])/\Qay T'=.pointer I/\OkR T'/\IsT w' (Up (λi=>(w<=i/\i≠w6.heap.size)/\i<wr) W w') T'/\Qab T'=(runM (foldM (ms.take j) E).2 x).2/\OkM (runM (foldM (ms.take j) E).2 x).2/\Nw W w' fromλW J=>
   (QuZ hp ok he (HT.o.agree (fB J λb D=>D.2)) (λb D=>⟨by have:=D.1.1;omega,ab D.2 J.size⟩) (he▸f9) (by omega) ((o8 j x hx).nw (b8.o.trans J)) (al (Qgp hx) (by have:=d0.o.few;omega)) (HL.o.nw (b8.o.trans J))).mono λe w' ⟨T',I,b1,b2,b3,b4,b5,b6,b7,_⟩=>⟨T',I,b1,b2,b3,b4,b5,b6,b7⟩)
  have f0:=hY (QlB hx E);obtain⟨q,hq⟩:∃q,runM (foldM (ms.take j) E).2 x=q:=⟨_,rfl⟩;rw[hq]at e1 f0;have z:=hY (show ∀W,Nw wr W->W.cell? ⟨w6,0,none⟩=some (.pointer p) fromλW J=>(fF J e4.o).cell 0);rw[r6];have v1:=e4.o.lt;have v2:wr.heap.size<=wr.drew.heap.size:=an _;have t1:wr.drew.heap.size<=wr.heap.size:=an _;have v9:=b8.o.size;clear j5 hx l9 o0 o8 hp ok he f9 l0 hq;go_upto_region 11 with fail;refine QiQ (λw' b _=>∃T' I,Qay T'=.pointer I/\OkR T'/\Qab T'=q.2/\OkM q.2/\IsT w' (λi=>(w<=i/\i≠w6.heap.size)/\i<w'/\i≠b) T'/\Blk w' b 41 #[.pointer I]/\wr<=b/\Nw wr w') [53,54,55,56,57,58,52,59,60] (λb _=>[(15,.pointer (some ⟨b,0,none⟩)),(16,.int .i64 q.1)]) ?_ ?_
  ·skip
   refine ez (S:=(λw'=>Nw wr w')) (by kernel_rfl) ((fx ((fv wr).drew))) (λhHeld=>?_);refine Qad 0 (some 53) z hHeld ?_;refine Qad 1 (some 54) z hHeld ?_;refine Qad 2 (some 55) z hHeld ?_;refine Qad 3 (some 56) z hHeld ?_;refine Qvs 4 (some 57) 31 (.tmp 56) k9 hHeld q6.o ?_;have pm:=Tag.mk 0;have pa:=Tag.mk 1000
   repeat' (first
    |(have:=(pm:Tag 0);have:=(pa:Tag 1000);refine QfT 5 9 (λK tg N=>?_) (λK tg N=>?_))
    |(have:=(pm:Tag 0);have:=(pa:Tag 1001);refine QcH 9 (λK tg N=>?_))
    |(have:=(pm:Tag 1);have:=(pa:Tag 1000);refine QcH 5 (λK tg N=>?_))
    |(have:=(pm:Tag 1);have:=(pa:Tag 1001);refine QcH 10 (λK tg N=>?_))
    | (have:=(tg:Tag 5)
       clear this tg;clear pa;have pa:=Tag.mk 1001;go_simp
       (have s7:=hHeld.size;refine(e1.o _ hHeld).mono ?_;rintro e wc ⟨T',I,rfl,R,c8,c7,c1,c4,f1⟩;have zc:=f1.size;have i9:=hY c7;have q4:=hY R;have r0:=hY c8;have p7:=hY c1;have k6:=hY c4;have r9:=hY f1;(try(have c9:=hY (f1.blk c9.o);have c6:World.cell? _ ⟨_,0,none⟩=some (.pointer none):=c9.o.cell 0;have f6:=c9.o.frozen 0));clear c7 R c8 c1 c4 f1)
       refine N.out _ _ (hHeld.trans r9.o) (λhHeld=>?_);clear N K
       try simp only[Act.put,List.setIfInBounds_toArray,List.set_cons_zero,List.set_cons_succ]
       refine Qad 6 (some 52) z hHeld ?_;refine Qad 7 (some 59) z hHeld ?_;refine Qad 8 (some 60) z hHeld ?_)
    | (have:=(tg:Tag 9)
       clear this tg;clear pm;have pm:=Tag.mk 1;go_simp
       (have s8:=hHeld.size;generalize l4:World.alloc _ _=wz;obtain⟨j0,f2,zz⟩:=Qcb l4;have zd:wz.heap.size<=wz.drew.heap.size:=an _;have c9:=hY f2;have k2:=hY j0;have c6:World.cell? _ ⟨_,0,none⟩=some (.pointer none):=f2.cell 0;have f6:=f2.frozen 0;(try(have i9:=hY (i9.o.agree (j0.agree λb D=>by first|exact D.2|exact D.elim (λh=>by have:=h.2;omega) λh=>h.2))));clear l4 f2 j0)
       refine N.out _ _ ((by first|exact hHeld.trans (fx k2.o)|exact(fx k2.o).trans (fx ((fv wz).drew)))) (λhHeld=>?_);clear N K
       try simp only[Act.put,List.setIfInBounds_toArray,List.set_cons_zero,List.set_cons_succ])
    | (have:=(tg:Tag 10)
       clear this tg;clear pm;have pm:=Tag.mk 2;go_simp
       skip
       refine N.out _ _ (QkX hHeld (by omega) _) (λhHeld=>?_);clear N K
       try simp only[Act.put,List.setIfInBounds_toArray,List.set_cons_zero,List.set_cons_succ]
       refine Qad 11 (some 16) z hHeld ?_)
    | (have:=(pm:Tag 2);have:=(pa:Tag 1001);refine eE (by kernel_rfl) ?_ _
       simp only[Qf1,List.map_cons,List.map_nil,List.cons_append,List.nil_append,List.setIfInBounds_toArray,List.set_cons_zero,List.set_cons_succ];refine QiH ⟨_,.bool true,⟨_,_,q4.o,r0.o,p7.o,k6.o,?_,c9.o.Qdz 0 _,by omega,hHeld⟩,by kernel_rfl,?_⟩
       ·refine (Qts i9.o ?_ ?_ _).mono fun i hi=>?_
        ·intro h
         rcases h with h|h
         .have h1:=h.2;omega
         have h1:=h.1;have h2:=h.2;omega
        ·intro i h
         rcases h with h|h
         .have h1:=h.2;omega
         have h2:=h.2;omega
        rw[eA];rcases hi with h|h
        .have h1:=h.2;exact⟨h.1,by omega,by omega⟩
        have h1:=h.1;have h2:=h.2;exact⟨⟨by omega,by omega⟩,by omega,by omega⟩
       simp only[Qf1,List.map_cons,List.map_nil,List.cons_append,List.nil_append,List.setIfInBounds_toArray,List.set_cons_zero,List.set_cons_succ]
       kernel_rfl))
  intro w9 b2 u2 vs q3;simp only[Qf1,List.map_cons,List.map_nil,List.cons_append,List.nil_append,List.setIfInBounds_toArray,List.set_cons_zero,List.set_cons_succ];obtain⟨T',I,R,c8,c1,c4,c7,e6,q9,c2⟩:=q3;have t8:w9.cell? ⟨b2,0,none⟩=some (.pointer I):=e6.cell 0;have Y:=fF c2 e4.o;have t6:w9.cell? ⟨w6,0,none⟩=some (.pointer p):=Y.cell 0;have v3:=Y.frozen 0;have t5:=Y.lt;have f3:=hY (show(foldM (ms.take (j+1)) E).2=q.2->Yd (Qay T'=.pointer I/\OkR T'/\Qab T'=(foldM (ms.take (j+1)) E).2/\OkM (Qab T'))/\Yd (IsT (w9.setCell ⟨w6,0,none⟩ (.pointer I)) (λi=>(w<=i/\i≠w6.heap.size)/\i<(w9.setCell ⟨w6,0,none⟩ (.pointer I)).heap.size) T')/\Yd (Blk (w9.setCell ⟨w6,0,none⟩ (.pointer I)) w6.heap.size 41 #[.pointer I])/\Yd (Sb (λi=>i=w6.heap.size) w7 (w9.setCell ⟨w6,0,none⟩ (.pointer I))) fromλe=>
   ⟨hY ⟨R,c8,by rw[e];exact c1,by rw[c1];exact c4⟩,hY ((Qts c7 (λh=>h.1.2 rfl) (λi h=>h.2.1) _).mono λi h=>⟨h.1,by rw[eA];exact h.2.1⟩),hY (Y.Qdz 0 _),hY ((b0.o.trans (Nw.any c2 _)).trans ((fD (λi=>i=w6.heap.size) _).set (p:=⟨w6,0,none⟩) (.inr rfl) _))⟩)
  have f7:=hY (show(foldM (ms.take (j+1)) E).2=q.2 by rw[f0.o]);have c3:(q.1=0/\(foldM (ms.take (j+1)) E).1=nr)\/(q.1≠0/\(foldM (ms.take (j+1)) E).1=nr+1):=by
   by_cases h0:q.1=0
   .exact .inl ⟨h0,by rw[f0.o,<-i1.o];dsimp only;rw[em h0]⟩
   exact .inr ⟨h0,by rw[f0.o,<-i1.o];dsimp only;rw[ef h0]⟩
  clear R c8 c1 c4 c7 e6 c2 Y q9;rcases c3 with⟨h0,d7⟩ |⟨h0,d7⟩
  ·have r7:(q.1 != 0)=false:=by simp [h0]
   have i2:=hY d7;clear h0 d7;go_wp2_with fail;go_roundw
   case measure=>simp[intOf];omega
   obtain⟨r1,r2,r3,r4⟩:=f3.o f7.o;exact⟨j+1,T',I,by go_num,by rw[i2.o],i7,r1,r2,r3,r4⟩
  have r7:(q.1 != 0)=true:=by simp[h0]
  have i2:=hY d7;clear h0 d7;go_wp2_with fail;go_roundw
  case measure=>simp[intOf];omega
  obtain⟨r1,r2,r3,r4⟩:=f3.o f7.o;exact⟨j+1,T',I,by go_num,by rw[i2.o];go_num,i7,r1,r2,r3,r4⟩
 obtain rfl:j=ms.length:=by omega
 have g1:decide ((ms.length:Int)<(ms.length:Int))=false:=eh (by omega);have a0:=i1.o;obtain⟨hp,ok,he,-⟩:=HQ.o;rw[aM]at a0 he;obtain rfl:ct=nr:=j6.o.symm.trans a0;have k1:=b0.o.blk o1.o (by omega);have n4:=r5.o.sb b0.o (λb e=>.inr e) p6.o;obtain⟨sM,xM,p3,k7,n8⟩:=n4.ex;have d4:IsT wr (λb=>b<w5) T2:=o6.o.agree λb D=>b0.o.block b (by omega) (by omega)
 have z:=hY (show ∀W,Nw wr W->W.cell? ⟨w4,0,none⟩=some (.pointer p2)/\W.cell? ⟨w6,0,none⟩=some (.pointer p)/\W.cell? ⟨M2,0,none⟩=some (.slice sM.a xM.length sM.c) fromλW J=>⟨(fF J k1).cell 0,(fF J e4.o).cell 0,(fF J p3).cell 0⟩);have o5:=hY (show ∀W,Nw wr W->Calls prog 22 #[.agg #[.pointer p2],.slice sM.a xM.length sM.c] W λe w'=>e=.returned (.bool true)/\Ext W w' fromλW J=>by
  have hz:=J.size;have h:=QoJ (w:=W) (λb D=>by omega) (d4.agree (fB J λb D=>by omega)) j2.o (by rw[e7.o];have:=Z.o;omega) ((k7.agree (fB J λb D=>D.1)).mono λb D=>ab D.1 hz);rwa[Qau,k3.o,e7.o,n8,Qec]at h)
 have i0:=hY (show ∀W,Nw wr W->Calls prog 34 #[.agg #[.pointer p2],.agg #[.pointer p]] W λe w'=>e=.returned (.bool true)/\Ext W w' fromλW J=>by
  have hz:=J.size;have h:=Qkc (w:=W) (λb D=>by omega) (λb D=>ab D.2 hz) (d4.agree (fB J λb D=>by omega)) (HT.o.agree (fB J λb D=>D.2)) j2.o ok (by rw[e7.o];have:=Z.o;omega) (by rw[he];have:=Z.o;omega);rw[Qau,Qau,k3.o,hp,e7.o,he,Qec]at h;exact h)
 have gc:((ct:Int) ==(ct:Int))=true:=by simp
 clear hp ok he k1 n4 p3 k7 n8 d4 a0;go_wp2_with fail;refine ez (S:=(λw'=>Nw wr w')) (by kernel_rfl) ((fx ((fv wr).drew))) (λhHeld=>?_);refine Qad 0 (some 66) z hHeld ?_;refine Qad 1 (some 67) z hHeld ?_;refine Qad 2 (some 68) z hHeld ?_;refine Qad 3 (some 69) z hHeld ?_;refine Qad 4 (some 70) z hHeld ?_;refine Qad 5 (some 71) z hHeld ?_;refine Qad 6 (some 72) z hHeld ?_;refine Qad 7 (some 73) z hHeld ?_;refine Qad 8 (some 74) z hHeld ?_;refine Qad 9 (some 75) z hHeld ?_;refine Qad 10 (some 76) z hHeld ?_;refine Qad 11 (some 77) z hHeld ?_;refine Qad 12 (some 78) z hHeld ?_;refine Qad 13 (some 79) z hHeld ?_;refine Qag (i:=14) (by kernel_rfl) rfl (by rfl) (λK N=>?_);go_simp
 (refine(o5.o _ hHeld).mono ?_;rintro e wa ⟨rfl,p9⟩)
 refine N.out _ _ (hHeld.trans (fx p9)) (λhHeld=>?_);clear N K
 try simp only[Act.put,List.setIfInBounds_toArray,List.set_cons_zero,List.set_cons_succ]
 refine Qad 15 (some 81) z hHeld ?_;refine Qad 16 (some 82) z hHeld ?_;refine Qad 17 (some 83) z hHeld ?_;refine Qad 18 (some 84) z hHeld ?_;refine Qag (i:=19) (by kernel_rfl) rfl (by rfl) (λK N=>?_);go_simp
 (refine(i0.o _ hHeld).mono ?_;rintro e wb ⟨rfl,p4⟩)
 refine N.out _ _ (hHeld.trans (fx p4)) (λhHeld=>?_);clear N K
 try simp only[Act.put,List.setIfInBounds_toArray,List.set_cons_zero,List.set_cons_succ]
 refine Qad 20 (some 86) z hHeld ?_;refine Qad 21 (some 87) z hHeld ?_;refine Qag (i:=22) (by kernel_rfl) rfl (by rfl) (λK N=>?_);go_simp
 (refine(o4.o _ (b8.o.trans hHeld)).mono ?_;rintro e wd ⟨rfl,p5⟩)
 refine N.out _ _ (hHeld.trans p5) (λhHeld=>?_);clear N K
 try simp only[Act.put,List.setIfInBounds_toArray,List.set_cons_zero,List.set_cons_succ]
 refine Qad 23 (some 89) z hHeld ?_;refine Qad 24 (some 4) z hHeld ?_;refine eE (by kernel_rfl) ?_ _;have s4:=hY (b8.o.trans hHeld);go_wp2_with fail;go_ret;exact⟨rfl,s4.o⟩
end Go.Proofs.YtkjkafgnnoidpaaGreatDoor
