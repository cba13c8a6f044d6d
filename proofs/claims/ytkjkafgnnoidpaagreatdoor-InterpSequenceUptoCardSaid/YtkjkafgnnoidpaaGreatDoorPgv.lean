/- What the theorem needs of the texts Seq13: no condition of its own. -/
import Derived.Test.YtkjkafgnnoidpaaGreatDoorPgn
import Derived.Test.YtkjkafgnnoidpaaGreatDoorPgp
import Derived.Test.YtkjkafgnnoidpaaGreatDoorPgs
import Derived.Test.YtkjkafgnnoidpaaGreatDoorPgu
set_option linter.unusedVariables false
set_option linter.unusedSimpArgs false
set_option linter.unnecessarySimpa false
set_option maxRecDepth 100000
set_option maxHeartbeats 4000000
namespace Go.Proofs.YtkjkafgnnoidpaaGreatDoor
open Go.Proofs.Tryz
open Go.RowKit Go.Maps Go.Shelf
variable{w:World}{F:Nat->Prop}{s:Sl}
theorem QvH{ms:List Mu}(h:Qsd w F s ms):RMu w F (Qvv ms) ⟨Sl.none,Sl.none,Sl.none,Sl.none,s⟩:=by
 obtain⟨b,o,c,h1,h2,z⟩:=h.ex;exact .mk b o c (Qcj _ _) (Qcj _ _) h1 h2 z (by decide) (by decide) (by decide) (by decide) h.len
theorem QvG{ms:List Mu}(h:Qsd w F s ms):QcF (Qvv ms)<=1100000:=by
 have:=h.few;rw[QcF,show cntV zeroV=7 by decide +kernel,show(ByteArray.empty).size=0 from rfl];omega
structure Qvx(E:List Ent)(ms:List Mu)(j:Nat)(T:RT)(p:Option Addr):Prop where
 root:Qay T=.pointer p
 ok:OkR T
 ents:Qab T=(Qks (ms.take j) E).2
 zero:(Qks (ms.take j) E).1=0
 okM:OkM (Qab T)
 few:(Qab T).length<=60+64*j
variable{E:List Ent}{j:Nat}
theorem Qvx.next{ms:List Mu}{T D:RT}{p N:Option Addr}{x:Mu}(h:Qvx E ms j T p)(X:ms[j]? = some x)(L:QbE x=0)(U:Qay D=.pointer N)(ok:OkR D)(z:Qab D=(runM (Qab T) x).2)(R:OkM (runM (Qab T) x).2)(J:(runM (Qab T) x).1=0):Qvx E ms (j+1) D N:=by
 have I:=Qvz X E h.zero;rw[QvA L,h.ents]at z J R;rw[ef (by simp[J])]at I;refine⟨U,ok,by rw[I];exact z,by rw[I];exact J,by rw[z];exact R,?_⟩;have hs:QaT x<=64:=by unfold QbE at L;split at L<;>omega
 have h1:=Qp2 x (Qks (ms.take j) E).2;have h2:=h.few;rw[h.ents]at h2;rw[z];omega
variable{T:RT}
theorem Qvx.stop{ms:List Mu}{p:Option Addr}{x:Mu}(h:Qvx E ms j T p)(I:ms[j]? = some x)(J:QbE x=0)(z:(runM (Qab T) x).1≠0):(Qks ms E).1=(runM (Qab T) x).1:=by
 have D:=Qvz I E h.zero;rw[QvA J,h.ents]at z ⊢;rw[em z]at D;rw[QvC (j:=j+1) (by rw[D];exact z),D]
variable{s0:Sl}
theorem seq13{l:List LE}{sm:Sl}{ms:List Mu}(hs:ES w (Lt w) s0 l)(hc:∀x∈l,cntV x.v<=1100000)(hr:Qsd w (Lt w) sm ms)(hL:Qb9 w) :
  Calls prog 7 #[.slice s0.a l.length s0.c,.slice sm.a ms.length sm.c] w λe w'=>e=.returned (.bool true)/\Nw w w':=by
 have t4:=hL.lib.big;have d0:=hY (λW (I:Nw w W)=>QsF (hL.nw I));have HL:=hY hL;have HS:=hY hs;have HC:=hY hc;have f5:=hY (QvG hr);have k5:=hY (show ∀W,Nw w W->RMu W (Lt W) (Qvv ms) ⟨Sl.none,Sl.none,Sl.none,Sl.none,sm⟩ fromλW I=>(QvH hr).nw I);have p7:=hY hr;clear hL hs hc hr;go_in;have j6:(60<l.length\/(¬60<l.length/\40<ms.length))\/(¬60<l.length/\¬40<ms.length):=by omega
 rcases j6 with j6 |⟨o7,p9⟩
 ·rcases j6 with o7 | ⟨o7,p9⟩
  ·have l1:decide ((60:Int)<(l.length:Int))=true:=ej (by omega)
   go_wp2_with fail;refine(d0.o w (fv (fu _))).mono ?_;rintro e w1 ⟨rfl,hn⟩;have HN:=hY hn;clear hn;go_wp2_with fail;go_ret;exact⟨rfl,HN.o⟩
  have l1:decide ((60:Int)<(l.length:Int))=false:=eh (by omega);have l2:decide ((40:Int)<(ms.length:Int))=true:=ej (by omega);go_wp2_with fail;refine(d0.o w (fv (fu _))).mono ?_;rintro e w1 ⟨rfl,hn⟩;have HN:=hY hn;clear hn;go_wp2_with fail;go_ret;exact⟨rfl,HN.o⟩
 have l1:decide ((60:Int)<(l.length:Int))=false:=eh (by omega);have l2:decide ((40:Int)<(ms.length:Int))=false:=eh (by omega);go_wp2_with fail;refine(Qla HS.o (by omega) HC.o).mono ?_;rintro e w1 ⟨M,s,xs,H,rfl,c4⟩;obtain⟨E,l0,v8,-,v2,a0⟩:=Qvp c4 HS.o (by omega);have d8:=hY c4.nw;have i1:=hY l0;have n4:=hY a0;clear c4 l0 a0 l1 l2;go_wp2_with fail;refine n4.o.mono ?_;rintro e w2 ⟨T1,p1,rfl,j3,j5,i8,j4,g7⟩;go_upto_region 5 with fail;generalize n8:World.alloc w2 _=w3;obtain⟨X,p4,v5⟩:=Qcb n8;have e6:Nw w1 w3:=(fv g7).trans (fv X);have z2:=g7.size;have z1:=d8.o.size;have f4:=hY (show ∀W,Nw w3 W->Calls prog 25 #[.agg #[.pointer p1],QaG (Qvv ms) ⟨Sl.none,Sl.none,Sl.none,Sl.none,sm⟩] W λe w'=>∃T' p',e=.returned (.tuple #[.agg #[.pointer p'],.int .i64 (runM E (Qvv ms)).1])/\Qay T'=.pointer p'/\OkR T'/\IsT w' (Up (In w1.heap.size w2.heap.size) W w') T'/\Qab T'=(runM E (Qvv ms)).2/\OkM (runM E (Qvv ms)).2/\Nw W w'/\((runM E (Qvv ms)).2=E->T'=T1) fromλW I=>
  QuZ j3 j5 i8 ((j4.agree (X.agree λb D=>D.2)).agree (fC I λb D=>ab D.2 X.size)) (λb D=>⟨by have:=D.1;omega,ab D.2 (aj X.size I.size)⟩) i1.o (by omega) (k5.o W ((d8.o.trans e6).trans I)) f5.o (HL.o.nw ((d8.o.trans e6).trans I)))
 have q4:=hY (show ∀W,Nw w3 W->IsT W (In w1.heap.size w2.heap.size) T1 fromλW I=>(j4.agree (X.agree λb D=>D.2)).agree (fC I λb D=>ab D.2 X.size));have i0:=hY (d8.o.trans e6);have n9:=hY j3;have q5:=hY j5;have i2:=hY i8;clear n8 g7 X e6 j3 j5 i8 j4 n4 HS HC;go_upto_region 6 with(refine Qa0 rfl rfl rfl (Qvv ms) ⟨Sl.none,Sl.none,Sl.none,Sl.none,sm⟩ (w0:=w3) (b:=w3) rfl ((fu w3).alloc _ _) (fx w3 _ _) rfl rfl rfl ?_;intro w4 j0 l3);have g8:=hY (fv j0);have b8:=hY (p4.ext j0);have g6:=hY (fD l3);have q7:w4.cell? ⟨w2,0,none⟩=some (.pointer p1):=b8.o.cell 0;clear p4 j0 l3;go_wp2_with(refine Qak rfl (.tmp 8) rfl w3.heap.size 0 rfl (Qvv ms) ⟨Sl.none,Sl.none,Sl.none,Sl.none,sm⟩ g6.o ?_);refine(f4.o w4 g8.o).mono ?_;rintro e w5 ⟨T2,Z,rfl,g4,k9,k3,g5,n6,g9,Y⟩;have z:=run_seq i1.o ms;obtain⟨r,hr⟩:∃r,runM E (Qvv ms)=r:=⟨_,rfl⟩;have n2:r.1≠0->r.2=E:=λh=>by rw[<-hr]at h ⊢;exact QpN h
 rw[hr]at g5 n6 Y z ⊢;have c9:r.1=0->r.2.length<=5000:=λh=>by
  have h1:QbE (Qvv ms)=0:=by rw[<-hr]at h;unfold runM at h;split at h<;>simp_all
  have hs:QaT (Qvv ms)<=64:=by unfold QbE at h1;split at h1<;>omega
  rw[<-hr,QvA h1];have:=Qp2 (Qvv ms) E;omega
 have t0:=hY c9;have e8:=hY z;have r4:=hY g4;have r1:=hY k9;have s9:=hY g5;have p0:=hY (show r.1≠0->Z=p1 fromλh=>by
  have d5:=g4;rw[Y (n2 h),n9.o]at d5;injection d5 with d5;exact d5.symm)
 clear hr n2 c9 z Y g4 k9 g5 n6;go_upto_region 7 with fail;generalize o3:World.alloc w5 _=w6;obtain⟨d6,o6,v3⟩:=Qcb o3;have e4:Nw w4 w6:=g9.trans (fv d6);have d7:=hY (g8.o.trans e4);have f2:=hY (e4.blk b8.o);have r9:=hY (g6.o.nw e4);have l4:=hY o6;have z5:=g9.size;have z4:=g8.o.size;have r2:=hY (show ∀W,Agree (Lt w6) w6 W->IsT W (Up (In w1.heap.size w2.heap.size) w4 w5) T2 fromλW I=>by
  have hF:∀b,Up (In w1.heap.size w2.heap.size) w4 w5 b->b<w5:=λb D=>D.elim (λh=>by have:=h.2;omega) λh=>h.2
  exact(k3.agree (d6.agree hF)).agree (I.mono λb D=>ab (hF b D) d6.size))
 clear o3 d6 o6 g9 e4 k3 q7 b8 g6 f4;have f0:=Qve (k5.o w6 (i0.o.trans d7.o)) f5.o;have k6:=hY f0;clear f0;go_wp2_with(refine Qak rfl (.tmp 8) rfl w3.heap.size 0 rfl (Qvv ms) ⟨Sl.none,Sl.none,Sl.none,Sl.none,sm⟩ r9.o ?_);refine k6.o.mono ?_;rintro e w7 ⟨rfl,L⟩;obtain⟨f,hf⟩:∃f,QbE (Qvv ms)=f:=⟨_,rfl⟩;rw[hf]at e8 ⊢;have HF:=hY hf;have f7:=f2.o.ext L;have f8:=l4.o.ext L;have q7:w7.cell? ⟨w2,0,none⟩=some (.pointer p1):=f7.cell 0;have q9:w7.cell? ⟨w5,0,none⟩=some (.pointer Z):=f8.cell 0;have l7:=f7.lt;have l9:=f8.lt;have o4:=hY ((i0.o.trans d7.o).trans (fv L));have v9:=hY L;clear hf;by_cases h0:f=0
 rotate_left
 ·have g0:(f != 0)=true:=by simp [h0]
  have z:=e8.o;rw[em h0]at z;obtain rfl:Z=p1:=p0.o (by rw[z];exact h0);have g1:r.1=f:=by rw[z]
  rw[g1];clear h0 z L g1;go_wp2_with fail;refine(QkQ w7 Z).mono ?_;rintro e w8 ⟨rfl,b3⟩;have e2:=hY (o4.o.trans (fv b3));clear b3;go_wp2_with fail;refine(d0.o w8 e2.o).mono ?_;rintro e w9 ⟨rfl,k1⟩;have q2:=hY (e2.o.trans k1);clear k1;go_wp2_with fail;go_ret;exact⟨rfl,q2.o⟩
 subst h0;have z:=e8.o;rw[ef (λh=>h rfl)]at z;have f9:=hY z;have s4:=hY (QvB HF.o);clear z e8;go_upto_region 11 with fail;generalize l6:World.alloc w7 _=w8;obtain⟨b3,p5,v1⟩:=Qcb l6;have R:=L.trans b3;have o2:=hY p5;have z7:=L.size;have z6:=d7.o.size;have z3:=i0.o.size;have e2:=hY (o4.o.trans (fv b3));have p3:=hY (f2.o.ext R);have k4:=hY (l4.o.ext R);have l8:=hY R;have j8:=hY ((q4.o w8 (d7.o.trans (fv R))).mono (G:=λi=>(w1<=i/\i≠w7.heap.size)/\i<w8) λi hi=>⟨⟨hi.1,by have:=hi.2;omega⟩,by have:=hi.2;omega⟩);have t1:=hY (show Qvx E ms 0 T1 p1 from⟨n9.o,q5.o,by rw[i2.o];rfl,rfl,by rw[i2.o];exact i1.o,by rw[i2.o];omega⟩);clear l6 b3 p5 R L q7 q9;go_wp2_with fail;go_loopw[13] (λq6 wr=>∃(j:Nat) (T:RT) (p:Option Addr),q6=.int .i64 (j:Int)/\j<=ms.length/\Yd (Qvx E ms j T p)/\Yd (IsT wr (λi=>(w1<=i/\i≠w7.heap.size)/\i<wr) T)/\Yd (Blk wr w7.heap.size 41 #[.pointer p])/\Yd (Sb (λi=>i=w7.heap.size) w8 wr)) (λv _=>ms.length -(intOf v).toNat)
 case atStart=>exact⟨0,T1,p1,rfl,av _,t1,j8,o2,hY (fB _ _)⟩
 obtain⟨j,T,p,rfl,hj,HQ,HT,e1,b5⟩:=hrel;have f3:Nw w wr:=e2.o.comp b5.o λi hi e=>by omega
 have zr:=b5.o.size;have c1:=b5.o.blk k4.o (by omega);have c8:=b5.o.blk p3.o (by omega);have j7:wr.cell? ⟨w7,0,none⟩=some (.pointer p):=e1.o.cell 0;have q9:wr.cell? ⟨w5,0,none⟩=some (.pointer Z):=c1.cell 0;have q7:wr.cell? ⟨w2,0,none⟩=some (.pointer p1):=c8.cell 0;have b6:=hY f3;have f1:=hY c1;have g3:=hY c8;clear f3 c1 c8;by_cases o9:j<ms.length
 ·have g1:(j:Int)<(ms.length:Int):=by omega
  have x0:decide ((j:Int)<(ms.length:Int))=true:=ej g1;have g0:(0:Int)<=(j:Int):=by omega
  obtain⟨x,hx⟩:∃x,ms[j]? = some x:=⟨_,ac o9⟩;have i4:=s4.o x (al hx);obtain⟨b,o,cc,o1,k7,k2⟩:=p7.o.ex;obtain⟨q3,t7,t5⟩:=o1.eq (by omega);have p6:=hY (show ∀W,Nw wr W->W.rangeAt b (o+j*19) (QfQ x (cc j)).toList fromλW I=>((k7 j x hx).nw (b6.o.trans I)).range);obtain⟨da,l5⟩:=Qvg x (cc j);have t2:=hY l5;have hQ:=HQ.o;have n7:=hQ.few;have c0:=hY (show ∀W,Nw wr W->Calls prog 25 #[.agg #[.pointer p],QaG x (cc j)] W λe w'=>∃T' p',e=.returned (.tuple #[.agg #[.pointer p'],.int .i64 (runM (Qab T) x).1])/\Qay T'=.pointer p'/\OkR T'/\IsT w' (Up (λi=>(w1<=i/\i≠w7.heap.size)/\i<wr) W w') T'/\Qab T'=(runM (Qab T) x).2/\OkM (runM (Qab T) x).2/\Nw W w'/\((runM (Qab T) x).2=Qab T->T'=T) fromλW I=>
   QuZ hQ.root hQ.ok rfl (HT.o.agree (fC I λb D=>D.2)) (λb D=>⟨by have:=D.1.1;omega,ab D.2 I.size⟩) hQ.okM (by omega) ((k2 j x hx).nw (b6.o.trans I)) (aj (Qgp hx) (by have:=p7.o.few;omega)) (HL.o.nw (b6.o.trans I)))
  have c2:=hY (show(runM (Qab T) x).1≠0->(Qks ms E).1=(runM (Qab T) x).1 fromλh=>hQ.stop hx i4 h);have b7:=hY (show ∀T2 Z,Qay T2=.pointer Z->OkR T2->Qab T2=(runM (Qab T) x).2->OkM (runM (Qab T) x).2->(runM (Qab T) x).1=0->Qvx E ms (j+1) T2 Z fromλT2 Z a1 a2 a3 a4 a5=>hQ.next hx i4 a1 a2 a3 a4 a5);obtain⟨q,hq⟩:∃q,runM (Qab T) x=q:=⟨_,rfl⟩;rw[hq]at c0 c2 b7;have U:=hY (show ∀W,Nw wr W->W.cell? ⟨w7,0,none⟩=some (.pointer p) fromλW I=>(I.blk e1.o).cell 0);rw[q3];have v7:=e1.o.lt;have t9:wr.heap.size<=wr.drew.heap.size:=an _;have t3:wr.drew.heap.size<=wr.heap.size:=an _;clear l5 hx i4 o1 k7 k2 hQ n7 hq j7 q9 q7;go_upto_region 14 with fail;refine QiQ (λw' b _=>∃T' p',Qay T'=.pointer p'/\OkR T'/\Qab T'=q.2/\OkM q.2/\IsT w' (λi=>(w1<=i/\i≠w7.heap.size)/\i<w'/\i≠b) T'/\Blk w' b 41 #[.pointer p']/\wr<=b/\Nw wr w') [63,64,65,66,67,68,62,69,70] (λb _=>[(14,.pointer (some ⟨b,0,none⟩)),(15,.int .i64 q.1)]) ?_ ?_
  ·skip
   refine ez (S:=(λw'=>Nw wr w')) (by kernel_rfl) ((fv ((fu wr).drew))) (λhHeld=>?_);refine Qad 0 (some 63) U hHeld ?_;refine Qad 1 (some 64) U hHeld ?_;refine Qad 2 (some 65) U hHeld ?_;refine Qad 3 (some 66) U hHeld ?_;refine Qvs 4 (some 67) 31 (.tmp 66) p6 hHeld t2.o ?_;have pm:=Tag.mk 0;have pa:=Tag.mk 1000
   repeat' (first
    |(have:=(pm:Tag 0);have:=(pa:Tag 1000);refine QfT 5 9 (λK tg hK=>?_) (λK tg hK=>?_))
    |(have:=(pm:Tag 0);have:=(pa:Tag 1001);refine QcH 9 (λK tg hK=>?_))
    |(have:=(pm:Tag 1);have:=(pa:Tag 1000);refine QcH 5 (λK tg hK=>?_))
    |(have:=(pm:Tag 1);have:=(pa:Tag 1001);refine QcH 10 (λK tg hK=>?_))
    | (have:=(tg:Tag 5)
       clear this tg;clear pa;have pa:=Tag.mk 1001;go_simp
       (have s7:=hHeld.size;refine(c0.o _ hHeld).mono ?_;rintro e wc ⟨T',p',rfl,a9,b4,a8,b0,a6,e0,-⟩;have zc:=e0.size;have i3:=hY a8;have r3:=hY a9;have p8:=hY b4;have r6:=hY b0;have r7:=hY a6;have r5:=hY e0;(try(have d3:=hY (e0.blk d3.o);have c6:World.cell? _ ⟨_,0,none⟩=some (.pointer none):=d3.o.cell 0;have f6:=d3.o.frozen 0));clear a8 a9 b4 b0 a6 e0)
       refine hK.out _ _ (hHeld.trans r5.o) (λhHeld=>?_);clear hK K
       try simp only[Act.put,List.setIfInBounds_toArray,List.set_cons_zero,List.set_cons_succ]
       refine Qad 6 (some 62) U hHeld ?_;refine Qad 7 (some 69) U hHeld ?_;refine Qad 8 (some 70) U hHeld ?_)
    | (have:=(tg:Tag 9)
       clear this tg;clear pm;have pm:=Tag.mk 1;go_simp
       (have s8:=hHeld.size;generalize o8:World.alloc _ _=wz;obtain⟨j1,e7,zz⟩:=Qcb o8;have zd:wz.heap.size<=wz.drew.heap.size:=an _;have d3:=hY e7;have o5:=hY j1;have c6:World.cell? _ ⟨_,0,none⟩=some (.pointer none):=e7.cell 0;have f6:=e7.frozen 0;(try(have i3:=hY (i3.o.agree (j1.agree λb D=>by first|exact D.2|exact D.elim (λh=>by have:=h.2;omega) λh=>h.2))));clear o8 e7 j1)
       refine hK.out _ _ ((by first|exact hHeld.trans (fv o5.o)|exact(fv o5.o).trans (fv ((fu wz).drew)))) (λhHeld=>?_);clear hK K
       try simp only[Act.put,List.setIfInBounds_toArray,List.set_cons_zero,List.set_cons_succ])
    | (have:=(tg:Tag 10)
       clear this tg;clear pm;have pm:=Tag.mk 2;go_simp
       skip
       refine hK.out _ _ (QkX hHeld (by omega) _) (λhHeld=>?_);clear hK K
       try simp only[Act.put,List.setIfInBounds_toArray,List.set_cons_zero,List.set_cons_succ]
       refine Qad 11 (some 15) U hHeld ?_)
    | (have:=(pm:Tag 2);have:=(pa:Tag 1001);refine eE (by kernel_rfl) ?_ _
       simp only[Qf1,List.map_cons,List.map_nil,List.cons_append,List.nil_append,List.setIfInBounds_toArray,List.set_cons_zero,List.set_cons_succ];refine QiH ⟨_,.bool true,⟨_,_,r3.o,p8.o,r6.o,r7.o,?_,d3.o.Qdz 0 _,by omega,hHeld⟩,by kernel_rfl,?_⟩
       ·refine (Qts i3.o ?_ ?_ _).mono fun i hi=>?_
        ·intro h
         rcases h with h|h
         .have h1:=h.2;omega
         have h1:=h.1;have h2:=h.2;omega
        ·intro i h
         rcases h with h|h
         .have h1:=h.2;omega
         have h2:=h.2;omega
        rw[eA];rcases hi with h|h
        .have h1:=h.2;exact⟨h.1,by omega,by omega⟩
        have h1:=h.1;have h2:=h.2;exact⟨⟨by omega,by omega⟩,by omega,by omega⟩
       simp only[Qf1,List.map_cons,List.map_nil,List.cons_append,List.nil_append,List.setIfInBounds_toArray,List.set_cons_zero,List.set_cons_succ]
       kernel_rfl))
  intro w9 b2 u2 vs q1;simp only[Qf1,List.map_cons,List.map_nil,List.cons_append,List.nil_append,List.setIfInBounds_toArray,List.set_cons_zero,List.set_cons_succ];obtain⟨T',p',a9,b4,b0,a6,a8,i7,v4,N⟩:=q1;have v6:w9.cell? ⟨b2,0,none⟩=some (.pointer p'):=i7.cell 0;have J:=Nw.blk N e1.o;have z9:=N.size;have a7:=hY N;have r0:=hY a8;have i6:=hY J;by_cases h0:q.1=0
  ·have q8:(q.1 != 0)=false:=by simp [h0]
   have r8:=hY (b7.o T' p' a9 b4 b0 a6 h0);have j7:w9.cell? ⟨w7,0,none⟩=some (.pointer p):=J.cell 0;have t8:=J.frozen 0;have t6:=J.lt;clear a9 b4 b0 a6 a8 i7 N J h0;go_wp2_with fail;go_roundw
   case measure=>simp[intOf];omega
   refine⟨j+1,T',p',by go_num,o9,r8,hY ((Qts r0.o (λh=>h.1.2 rfl) (λi h=>h.2.1) _).mono λi h=>⟨h.1,by rw[eA];exact h.2.1⟩),hY (i6.o.Qdz 0 _),hY ((b5.o.trans (Nw.any a7.o _)).trans ((fB (λi=>i=w7.heap.size) _).set (p:=⟨w7,0,none⟩) (.inr rfl) _))⟩
  have q8:(q.1 != 0)=true:=by simp[h0]
  have i9:=c2.o h0;have z:=f9.o;rw[em (by rw[i9];exact h0),i9]at z;obtain rfl:Z=p1:=p0.o (by rw[z];exact h0);have k0:r.1=q.1:=by rw[z]
  have q9:w9.cell? ⟨w5,0,none⟩=some (.pointer Z):=(Nw.blk a7.o f1.o).cell 0;have q7:w9.cell? ⟨w2,0,none⟩=some (.pointer Z):=(Nw.blk a7.o g3.o).cell 0;have l9:=(Nw.blk a7.o f1.o).lt;have l7:=(Nw.blk a7.o g3.o).lt;rw[k0];clear a9 b4 b0 a6 a8 i7 N J h0 i9 z k0;go_wp2_with fail;refine(QkQ w9 Z).mono ?_;rintro e wa ⟨rfl,c7⟩;have d4:=hY ((b6.o.trans a7.o).trans (fv c7));clear c7;go_wp2_with fail;refine(d0.o wa d4.o).mono ?_;rintro e wb ⟨rfl,c3⟩;have j2:=hY (d4.o.trans c3);clear c3;go_wp2_with fail;go_ret;exact⟨rfl,j2.o⟩
 obtain rfl:j=ms.length:=by omega
 have g1:decide ((ms.length:Int)<(ms.length:Int))=false:=eh (by omega);have hQ:=HQ.o;have hz:=hQ.zero;have he:=hQ.ents;rw[aP]at hz he;have z:=f9.o;rw[ef (λh=>h hz)]at z;have i5:r.1=0:=by rw[z];exact hz
 have c9:=t0.o i5;have e3:=s9.o;rw[z]at e3 c9;have k8:Agree (Lt w6) w6 wr:=(fC (F:=Lt w6) (fv l8.o) λb D=>D).trans λb D=>b5.o.block b (by have:b<w6:=D;omega) (by have:b<w6:=D;omega)
 have o0:Calls prog 34 #[.agg #[.pointer Z],.agg #[.pointer p]] wr λe w'=>e=.returned (.bool true)/\Ext wr w':=by
  have j9:∀b,Up (In w1.heap.size w2.heap.size) w4 w5 b->b<wr:=λb D=>D.elim (λh=>by have:=h.2;omega) λh=>by have:=h.2;omega
  have h:=Qkc j9 (λb D=>D.2) (r2.o wr k8) HT.o r1.o hQ.ok (by rw[e3];omega) (by rw[he];omega);rw[Qau,Qau,r4.o,hQ.root,e3,he,Qec]at h;exact h
 have q0:=hY o0;rw[i5];clear hQ hz he z i5 c9 e3 k8 o0;go_wp2_with fail;refine q0.o.mono ?_;rintro e wa ⟨rfl,c7⟩;have d4:=hY (b6.o.trans (fv c7));clear c7;go_wp2_with fail;refine(d0.o wa d4.o).mono ?_;rintro e wb ⟨rfl,c3⟩;have j2:=hY (d4.o.trans c3);clear c3;go_wp2_with fail;go_ret;exact⟨rfl,j2.o⟩
end Go.Proofs.YtkjkafgnnoidpaaGreatDoor
