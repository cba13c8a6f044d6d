/- What the theorem needs of the texts Plays13: no condition of its own. -/
import Derived.Test.YtkjkafgnnoidpaaGreatDoorPho
set_option linter.unusedVariables false
set_option linter.unusedSimpArgs false
set_option linter.unnecessarySimpa false
set_option maxRecDepth 100000
set_option maxHeartbeats 4000000
namespace Go.Proofs.YtkjkafgnnoidpaaGreatDoor
open Go.Proofs.Tryz
open Go.RowKit Go.Maps Go.Shelf
variable{E:List Ent}
theorem Qv6{x:Mu}:(runM E x).2.length<=E.length+64:=by
 unfold runM;by_cases h:QbE x=0
 ·rw [ef (by simp [h])]
  have hs:QaT x<=64:=by unfold QbE at h;split at h<;>omega
  have:=Qp2 x E;omega
 rw[em h];exact di _ _
variable{w:World}{F:Nat->Prop}{c:MuS}
theorem Qww(z:OkM E){x:Mu}(D:RMu w F x c):OkM (runM E x).2:=by
 unfold runM;split
 .exact z
 exact Qv8 D z
structure QvT(n B:Nat)(w:World)(E:List Ent)(T:RT)(p:Option Addr)(M:Nat)(H:Nat->Prop):Prop where
 root:Qay T=.pointer p
 ok:OkR T
 ents:Qab T=E
 okM:OkM E
 isT:IsT w (λi=>(n<=i/\i≠B)/\i<w.heap.size) T
 map:MapAt H w M E
 low:∀b,H b->n<=b
 below:∀b,H b->b<w.heap.size
 box:H B
 apart:M≠B
variable{n B:Nat}{w':World}{T:RT}{H:Nat->Prop}
theorem QvT.nw{p:Option Addr}{M:Nat}(h:QvT n B w E T p M H)(k:Nw w w'):QvT n B w' E T p M H:=
 ⟨h.root,h.ok,h.ents,h.okM,(h.isT.agree (fB k λb z=>z.2)).mono λi hi=>⟨hi.1,ab hi.2 k.size⟩,h.map.nw k,h.low,λb z=>ab (h.below b z) k.size,h.box,h.apart⟩
variable{s0:Sl}
theorem plays13{l:List LE}{sm:Sl}{ms:List Mu}(hs:ES w (Lt w) s0 l)(hc:∀x∈l,Qb4 x.v<=1100000)(hr:Qsd w (Lt w) sm ms)(hL:Qb9 w) :
  Calls prog 5 #[.slice s0.a l.length s0.c,.slice sm.a ms.length sm.c] w λe w'=>e=.returned (.bool true)/\Nw w w':=by
 have o5:=hL.lib.big;have k0:=hY (λW (I:Nw w W)=>QsF (hL.nw I));have HL:=hY hL;have HS:=hY hs;have HC:=hY hc;have i8:=hY hr;clear hL hs hc hr;go_in;have e2:(60<l.length\/(¬60<l.length/\40<ms.length))\/(¬60<l.length/\¬40<ms.length):=by omega
 rcases e2 with e2 |⟨p2,o7⟩
 ·have j1:decide ((60:Int)<(l.length:Int))=true∨(decide ((60:Int)<(l.length:Int))=false∧decide ((40:Int)<(ms.length:Int))=true):=e2.imp (fun h=>ej (by omega)) fun h=>⟨decide_eq_false (by omega),ej (by omega)⟩
  rcases j1 with l1 |⟨l1,l2⟩
  all_goals (
   go_wp2_with fail;refine(k0.o w (fx (fv _))).mono ?_;rintro e w1 ⟨rfl,hn⟩;have HN:=hY hn;clear hn;go_wp2_with fail;go_ret;exact⟨rfl,HN.o⟩)
 have l1:decide ((60:Int)<(l.length:Int))=false:=eh (by omega);have l2:decide ((40:Int)<(ms.length:Int))=false:=eh (by omega);go_wp2_with fail;refine(Qla HS.o (by omega) HC.o).mono ?_;rintro e w1 ⟨M,s,xs,H,rfl,Y⟩;obtain⟨E,j4,n6,d5,p4,a6⟩:=Qvp Y HS.o (by omega);have j9:=hY Y.nw;have k4:=hY j4;have i2:=hY a6;have c3:=hY d5;have g9:=hY Y.low;have d6:=hY Y.below;clear Y j4 a6 d5 l1 l2;go_wp2_with fail;refine i2.o.mono ?_;rintro e w2 ⟨T1,p1,rfl,g8,g5,i4,i7,c7⟩;go_upto_region 5 with fail;generalize i0:World.alloc w2 _=w3;obtain⟨c8,k1,p5⟩:=Qcb i0;have j5:Nw w1 w3:=(fx c7).trans (fx c8);have z2:=c7.size;have z1:=j9.o.size;have k7:=hY (show Nw w w3 from j9.o.trans j5);have l9:=hY k1;have f1:=hY (show QvT w.heap.size w2.heap.size w3 E T1 p1 M (λb=>H b\/b=w2.heap.size)from
  ⟨g8,g5,i4,k4.o,(i7.agree (c8.agree fun b D=>D.2)).mono fun i hi=>⟨⟨by have:=hi.1;omega,by have:=hi.2;omega⟩,by have:=hi.2;omega⟩,
   (((c3.o.nw (fx c7)).more (G:=λb=>H b\/b=w2.heap.size) (λb D=>.inl D) λb D hg=>hg.elim id λe=>by omega)).nw (fx c8),
   λb D=>D.elim (g9.o b) λe=>by omega,λb D=>D.elim (λh=>by have:=d6.o b h;omega) λe=>by omega,.inr rfl,λe=>by have:=d6.o _ c3.o.hm;omega⟩)
 clear i0 c7 c8 k1 j5 g8 g5 i4 i7 i2 HS HC c3;go_wp2_with fail;go_loopw[5,8] (λv5 v8 wr=>∃(j:Nat) (Z:List Ent) (T:RT) (p:Option Addr) (M':Nat) (H':Nat->Prop),v5=.pointer (some ⟨M',0,none⟩)/\v8=.int .i64 (j:Int)/\j<=ms.length/\Yd (Z.length<=60+64*j)/\Yd (QvT w.heap.size w2.heap.size wr Z T p M' H')/\Yd (Blk wr w2.heap.size 41 #[.pointer p])/\Yd (Nw w wr)) (λ_ v _=>ms.length -(intOf v).toNat)
 case atStart=>exact⟨0,E,T1,p1,M,_,rfl,rfl,aw _,hY (by omega),f1,l9,k7⟩
 obtain⟨j,Z,T,p,M',H',rfl,rfl,hj,j8,HQ,e8,N⟩:=hrel;clear n6;by_cases k2:j<ms.length
 ·have g1:(j:Int)<(ms.length:Int):=by omega
  have o6:decide ((j:Int)<(ms.length:Int))=true:=ej g1;have g0:(0:Int)<=(j:Int):=by omega
  obtain⟨x,hx⟩:∃x,ms[j]? = some x:=⟨_,ac k2⟩;obtain⟨b,o,cc,j3,f4,f8⟩:=i8.o.ex;obtain⟨o1,o8,o3⟩:=j3.eq (by omega);have k3:=hY (show ∀W,Nw wr W->MuC W b (o+j*19) x (cc j) fromλW I=>(f4 j x hx).nw (N.o.trans I));have i9:=hY (show ∀W,Nw wr W->W.rangeAt b (o+j*19) (QfQ x (cc j)).toList fromλW I=>((f4 j x hx).nw (N.o.trans I)).range);obtain⟨da,g7⟩:=Qvg x (cc j);have n2:=hY g7;have hQ:=HQ.o;have j0:=j8.o;have f0:QcF x<=1100000:=al (Qgp hx) (by have:=i8.o.few;omega);have c2:=hY (show ∀W,Nw wr W->Calls prog 25 #[.agg #[.pointer p],QaG x (cc j)] W λe w'=>∃T' p',e=.returned (.tuple #[.agg #[.pointer p'],.int .i64 (runM Z x).1])/\Qay T'=.pointer p'/\OkR T'/\IsT w' (Up (λi=>(w<=i/\i≠w2.heap.size)/\i<wr) W w') T'/\Qab T'=(runM Z x).2/\OkM (runM Z x).2/\Nw W w'/\((runM Z x).2=Z->T'=T) fromλW I=>
   QuZ hQ.root hQ.ok hQ.ents (hQ.isT.agree (fB I λb D=>D.2)) (λb D=>⟨by have:=D.1.1;omega,ab D.2 I.size⟩) hQ.okM (by omega) ((f8 j x hx).nw (N.o.trans I)) f0 (HL.o.nw (N.o.trans I)))
  have d7:=hY (show ∀W,Nw wr W->Calls prog 21 #[.pointer (some ⟨M',0,none⟩),QaG x (cc j)] W (QvJ H' W (runM Z x)) fromλW I=>
   QvN (hQ.map.nw I) (λb D=>ab (hQ.below b D) I.size) hQ.okM (by omega) (((f8 j x hx).agree (fB (N.o.trans I) λb D=>D)).mono λb D=>⟨Nat.lt_of_lt_of_le D (N.o.trans I).size,λe=>by have:=hQ.low b e;have:b<w:=D;omega⟩) f0)
  have a0:=hY (show(runM Z x).2.length<=60+64*(j+1)by have:=Qv6 (E:=Z) (x:=x);omega);have i5:=hY (show(runM Z x).1≠0->(runM Z x).2=Z from QpN);obtain⟨q,hq⟩:∃q,runM Z x=q:=⟨_,rfl⟩;rw[hq]at c2 d7 a0 i5;have X:=hY (show ∀W,Nw wr W->W.cell? ⟨w2,0,none⟩=some (.pointer p) fromλW I=>(fF I e8.o).cell 0);rw[o1];have o9:=e8.o.lt;have p0:wr.heap.size<=wr.drew.heap.size:=an _;have o4:wr.drew.heap.size<=wr.heap.size:=an _;have p3:=N.o.size;clear g7 hx j3 f4 f8 hQ j0 hq f0;go_upto_region 8 with fail;refine QiQ (λw' b _=>∃T' p',Qay T'=.pointer p'/\OkR T'/\Qab T'=q.2/\OkM q.2/\(q.2=Z->T'=T)/\IsT w' (λi=>(w<=i/\i≠w2.heap.size)/\i<w'/\i≠b) T'/\Blk w' b 41 #[.pointer p']/\wr<=b/\Nw wr w') [36,37,38,39,40,41,35,42,43] (λb _=>[(9,.pointer (some ⟨b,0,none⟩)),(10,.int .i64 q.1)]) ?_ ?_
  ·skip
   refine ez (S:=(λw'=>Nw wr w')) (by kernel_rfl) ((fx ((fv wr).drew))) (λhHeld=>?_);refine Qad 0 (some 36) X hHeld ?_;refine Qad 1 (some 37) X hHeld ?_;refine Qad 2 (some 38) X hHeld ?_;refine Qad 3 (some 39) X hHeld ?_;refine Qvs 4 (some 40) 31 (.tmp 39) i9 hHeld n2.o ?_;have pm:=Tag.mk 0;have pa:=Tag.mk 1000
   repeat' (first
    |(have:=(pm:Tag 0);have:=(pa:Tag 1000);refine QfT 5 9 (λK tg J=>?_) (λK tg J=>?_))
    |(have:=(pm:Tag 0);have:=(pa:Tag 1001);refine QcH 9 (λK tg J=>?_))
    |(have:=(pm:Tag 1);have:=(pa:Tag 1000);refine QcH 5 (λK tg J=>?_))
    |(have:=(pm:Tag 1);have:=(pa:Tag 1001);refine QcH 10 (λK tg J=>?_))
    | (have:=(tg:Tag 5)
       clear this tg;clear pa;have pa:=Tag.mk 1001;go_simp
       (have s7:=hHeld.size;refine(c2.o _ hHeld).mono ?_;rintro e wc ⟨T',p',rfl,b0,b5,b4,c0,b3,R,b8⟩;have zc:=R.size;have g3:=hY b4;have l8:=hY b0;have n9:=hY b5;have k8:=hY c0;have k5:=hY b3;have c9:=hY R;have e6:=hY b8;(try(have b6:=hY (R.blk b6.o);have c6:World.cell? _ ⟨_,0,none⟩=some (.pointer none):=b6.o.cell 0;have f6:=b6.o.frozen 0));clear b4 b0 b5 c0 b3 R b8)
       refine J.out _ _ (hHeld.trans c9.o) (λhHeld=>?_);clear J K
       try simp only[Act.put,List.setIfInBounds_toArray,List.set_cons_zero,List.set_cons_succ]
       refine Qad 6 (some 35) X hHeld ?_;refine Qad 7 (some 42) X hHeld ?_;refine Qad 8 (some 43) X hHeld ?_)
    | (have:=(tg:Tag 9)
       clear this tg;clear pm;have pm:=Tag.mk 1;go_simp
       (have s8:=hHeld.size;generalize j2:World.alloc _ _=wz;obtain⟨f7,d0,zz⟩:=Qcb j2;have zd:wz.heap.size<=wz.drew.heap.size:=an _;have b6:=hY d0;have i1:=hY f7;have c6:World.cell? _ ⟨_,0,none⟩=some (.pointer none):=d0.cell 0;have f6:=d0.frozen 0;(try(have g3:=hY (g3.o.agree (f7.agree λb D=>by first|exact D.2|exact D.elim (λh=>by have:=h.2;omega) λh=>h.2))));clear j2 d0 f7)
       refine J.out _ _ ((by first|exact hHeld.trans (fx i1.o)|exact(fx i1.o).trans (fx ((fv wz).drew)))) (λhHeld=>?_);clear J K
       try simp only[Act.put,List.setIfInBounds_toArray,List.set_cons_zero,List.set_cons_succ])
    | (have:=(tg:Tag 10)
       clear this tg;clear pm;have pm:=Tag.mk 2;go_simp
       skip
       refine J.out _ _ (QkX hHeld (by omega) _) (λhHeld=>?_);clear J K
       try simp only[Act.put,List.setIfInBounds_toArray,List.set_cons_zero,List.set_cons_succ]
       refine Qad 11 (some 10) X hHeld ?_)
    | (have:=(pm:Tag 2);have:=(pa:Tag 1001);refine eE (by kernel_rfl) ?_ _
       simp only[Qf1,List.map_cons,List.map_nil,List.cons_append,List.nil_append,List.setIfInBounds_toArray,List.set_cons_zero,List.set_cons_succ];refine QiH ⟨_,.bool true,⟨_,_,l8.o,n9.o,k8.o,k5.o,e6.o,?_,b6.o.Qdz 0 _,by omega,hHeld⟩,by kernel_rfl,?_⟩
       ·refine (Qts g3.o ?_ ?_ _).mono fun i hi=>?_
        ·intro h
         rcases h with h|h
         .have h1:=h.2;omega
         have h1:=h.1;have h2:=h.2;omega
        ·intro i h
         rcases h with h|h
         .have h1:=h.2;omega
         have h2:=h.2;omega
        rw[eA];rcases hi with h|h
        .have h1:=h.2;exact⟨h.1,by omega,by omega⟩
        have h1:=h.1;have h2:=h.2;exact⟨⟨by omega,by omega⟩,by omega,by omega⟩
       simp only[Qf1,List.map_cons,List.map_nil,List.cons_append,List.nil_append,List.setIfInBounds_toArray,List.set_cons_zero,List.set_cons_succ]
       kernel_rfl))
  intro w9 b2 u2 vs l7;simp only[Qf1,List.map_cons,List.map_nil,List.cons_append,List.nil_append,List.setIfInBounds_toArray,List.set_cons_zero,List.set_cons_succ];obtain⟨T',p',b0,b5,c0,b3,b8,b4,j7,n7,U⟩:=l7;have z9:=U.size;have e7:=hY b0;have g4:=hY b5;have f5:=hY c0;have l5:=hY b3;have e6:=hY b8;have l3:=hY b4;have n8:=hY j7;have g6:=hY U;have k6:=hY (d7.o w9 U);have l6:=hY (k3.o w9 U);clear b0 b5 c0 b3 b8 b4 j7 U;go_wp2_with(refine Qak rfl (.tmp 48) rfl b (o+j*19) rfl x (cc j) l6.o ?_);refine k6.o.mono ?_;rintro e wa ⟨M2,rfl,H2,a1,a2,a3,a4,a5⟩;have za:=a5.size;have c4:=fF (g6.o.trans a5) e8.o;have d8:=fF a5 n8.o;have e1:IsT wa (λi=>(w<=i/\i≠w2.heap.size)/\i<wa) T':=(l3.o.agree (fB a5 λb D=>D.2.1)).mono λi hi=>⟨hi.1,ab hi.2.1 za⟩
  have n4:q.2.length<=10000:=by have:=a0.o;omega
  have d3:=hY (show ∀W,Nw wa W->Calls prog 31 #[.agg #[.pointer p']] W (QaQ q.2 W) fromλW I=>by
   have h:=QcG (w:=W) (λb D=>ab D.2 I.size) (e1.agree (fB I λb D=>D.2)) g4.o (by rw[f5.o];omega);rwa[Qau,e7.o,f5.o]at h)
  obtain⟨sM,xM,f9,i6,j6⟩:=a4.ex;have d4:=hY (show ∀W (se:Sl) (xe:List LE),Nw wa W->ES W (Lt W) se xe->xe.map LE.ent=q.2->Calls prog 30 #[.slice se.a xe.length se.c,.slice sM.a xM.length sM.c] W λe w'=>e=.returned (.bool true)/\Ext W w' fromλW se xe I he hx=>by
   have h9:=Qk9 he ((i6.agree (fB I λb D=>D.1)).mono λb D=>ab D.1 I.size);rwa[hx,j6,Qec]at h9)
  have i3:M2≠w2.heap.size:=λe=>by
   have h1:=f9.cell 0;rw[e,c4.cell]at h1;simp at h1
  have z:=hY (show ∀W,Nw wa W->W.cell? ⟨b2,0,none⟩=some (.pointer p')/\W.cell? ⟨w2,0,none⟩=some (.pointer p)/\W.cell? ⟨M2,0,none⟩=some (.slice sM.a xM.length sM.c) fromλW I=>⟨(fF I d8).cell 0,(fF I c4).cell 0,(fF I f9).cell 0⟩);have f1:=hY (show QvT w.heap.size w2.heap.size wa q.2 T' p' M2 H2 from⟨e7.o,g4.o,f5.o,l5.o,e1,a4,λb D=>(a2 b D).elim (HQ.o.low b) λh=>by omega,a3,a1 _ HQ.o.box,i3⟩);have o0:=hY (show q.1≠0->p'=p fromλh=>by
   have h1:=e7.o;rw[e6.o (i5.o h),HQ.o.root]at h1;injection h1 with h1;exact h1.symm)
  have o2:=hY c4;have k9:=hY (N.o.trans (g6.o.trans a5));have gq:(q.1 != q.1)=false:=by simp
  clear a1 a2 a3 a4 a5 c4 d8 e1 f9 i6 j6 i3 n4 n7;go_upto_region 10 with fail;go_cut [75] (λv w'=>v=.bool false/\Nw wa w')
  case first=>
   by_cases h0:q.1=0
   ·have g0:(q.1 != 0)=false:=by simp [h0]
    clear h0;refine ez (S:=(λw'=>Nw wa w')) (by kernel_rfl) ((fx ((fv wa).drew))) (λhHeld=>?_);refine Qad 0 (some 53) z hHeld ?_;refine Qad 1 (some 54) z hHeld ?_;refine Qad 2 (some 55) z hHeld ?_;refine Qad 3 (some 56) z hHeld ?_;refine Qad 4 (some 57) z hHeld ?_;refine Qad 5 (some 58) z hHeld ?_;refine Qad 6 (some 59) z hHeld ?_;refine QdI 7 (some 60) hHeld ?_;refine QdI 8 (some 61) hHeld ?_;refine QdI 9 (some 62) hHeld ?_;refine QdI 10 (some 63) hHeld ?_;refine Qad 11 (some 64) z hHeld ?_;refine Qad 12 (some 65) z hHeld ?_;refine Qad 13 (some 66) z hHeld ?_;refine Qad 14 (some 67) z hHeld ?_;refine Qad 16 (some 69) z hHeld ?_;refine Qad 17 (some 70) z hHeld ?_;refine Qad 18 (some 71) z hHeld ?_;refine Qad 19 (some 72) z hHeld ?_;refine Qag (i:=15) (by kernel_rfl) rfl (by rfl) (λK J=>?_);go_simp
    (refine(d3.o _ hHeld).mono ?_;rintro e wb ⟨se,xe,rfl,a9,c1,e0⟩;have f3:=hY (c1.es.mono (G:=Lt wb) λb D=>D.2);have e3:=hY a9;clear a9 c1)
    refine J.out _ _ (hHeld.trans (fx e0)) (λhHeld=>?_);clear J K
    try simp only[Act.put,List.setIfInBounds_toArray,List.set_cons_zero,List.set_cons_succ]
    refine Qag (i:=20) (by kernel_rfl) rfl (by rfl) (λK J=>?_);go_simp
    (refine(d4.o _ se xe hHeld f3.o e3.o).mono ?_;rintro e wd ⟨rfl,e4⟩)
    refine J.out _ _ (hHeld.trans (fx e4)) (λhHeld=>?_);clear J K
    try simp only[Act.put,List.setIfInBounds_toArray,List.set_cons_zero,List.set_cons_succ]
    refine Qad 21 (some 74) z hHeld ?_;refine Qad 22 (some 75) z hHeld ?_;refine eE (by kernel_rfl) ?_ _;go_wp2_with fail;go_meet;exact⟨rfl,hHeld⟩
   have g0:(q.1 != 0)=true:=by simp[h0]
   obtain rfl:p'=p:=o0.o h0;clear h0;refine ez (S:=(λw'=>Nw wa w')) (by kernel_rfl) ((fx ((fv wa).drew))) (λhHeld=>?_);refine Qad 0 (some 53) z hHeld ?_;refine Qad 1 (some 54) z hHeld ?_;refine Qad 2 (some 55) z hHeld ?_;refine Qad 3 (some 56) z hHeld ?_;refine Qad 4 (some 57) z hHeld ?_;refine Qad 5 (some 58) z hHeld ?_;refine Qad 6 (some 59) z hHeld ?_;refine Qad 7 (some 60) z hHeld ?_;refine Qad 8 (some 61) z hHeld ?_;refine Qag (i:=9) (by kernel_rfl) rfl (by rfl) (λK J=>?_);go_simp
   (refine(QkQ _ p').mono ?_;rintro e wi ⟨rfl,l4⟩)
   refine J.out _ _ (hHeld.trans (fx l4)) (λhHeld=>?_);clear J K
   try simp only[Act.put,List.setIfInBounds_toArray,List.set_cons_zero,List.set_cons_succ]
   refine Qad 10 (some 63) z hHeld ?_;refine Qad 11 (some 64) z hHeld ?_;refine Qad 12 (some 65) z hHeld ?_;refine Qad 13 (some 66) z hHeld ?_;refine Qad 14 (some 67) z hHeld ?_;refine Qad 16 (some 69) z hHeld ?_;refine Qad 17 (some 70) z hHeld ?_;refine Qad 18 (some 71) z hHeld ?_;refine Qad 19 (some 72) z hHeld ?_;refine Qag (i:=15) (by kernel_rfl) rfl (by rfl) (λK J=>?_);go_simp
   (refine(d3.o _ hHeld).mono ?_;rintro e wb ⟨se,xe,rfl,a9,c1,e0⟩;have f3:=hY (c1.es.mono (G:=Lt wb) λb D=>D.2);have e3:=hY a9;clear a9 c1)
   refine J.out _ _ (hHeld.trans (fx e0)) (λhHeld=>?_);clear J K
   try simp only[Act.put,List.setIfInBounds_toArray,List.set_cons_zero,List.set_cons_succ]
   refine Qag (i:=20) (by kernel_rfl) rfl (by rfl) (λK J=>?_);go_simp
   (refine(d4.o _ se xe hHeld f3.o e3.o).mono ?_;rintro e wd ⟨rfl,e4⟩)
   refine J.out _ _ (hHeld.trans (fx e4)) (λhHeld=>?_);clear J K
   try simp only[Act.put,List.setIfInBounds_toArray,List.set_cons_zero,List.set_cons_succ]
   refine Qad 21 (some 74) z hHeld ?_;refine Qad 22 (some 75) z hHeld ?_;refine eE (by kernel_rfl) ?_ _;go_wp2_with fail;go_meet;exact⟨rfl,hHeld⟩
  obtain⟨rfl,R⟩:=hcut;obtain⟨q1,-,-⟩:=z.o wc R;have b7:=fF R o2.o;have q2:wc.cell? ⟨w2,0,none⟩=some (.pointer p):=b7.cell 0;have f2:=b7.frozen 0;have l2:=b7.lt;have l0:=hY b7;have c9:=hY R;clear b7 R gq;go_wp2_with fail;go_roundw
  case measure=>simp[intOf];omega
  have hs:Sb (λi=>i=w2.heap.size) wc (wc.setCell ⟨w2,0,none⟩ (.pointer p')):=(fD (λi=>i=w2.heap.size) wc).set (p:=⟨w2,0,none⟩) (.inr rfl) _;have hd:=f1.o.nw c9.o;exact⟨j+1,q.2,T',p',M2,H2,rfl,by go_num,k2,a0,hY ⟨hd.root,hd.ok,hd.ents,hd.okM,(Qts hd.isT (λh=>h.1.2 rfl) (λi h=>h.2) _).mono λi h=>⟨h.1,by rw[eA];exact h.2⟩,hd.map.sb hs (λb e=>e▸hd.box) hd.apart,hd.low,λb D=>by rw[eA];exact hd.below b D,hd.box,hd.apart⟩,hY (l0.o.Qdz 0 _),hY ((k9.o.trans c9.o).comp hs λi hi e=>by omega)⟩
 obtain rfl:j=ms.length:=by omega
 have g1:decide ((ms.length:Int)<(ms.length:Int))=false:=eh (by omega);go_wp2_with fail;refine(k0.o wr N.o).mono ?_;rintro e w3 ⟨rfl,hn⟩;have HN:=hY (N.o.trans hn);clear hn;go_wp2_with fail;go_ret;exact⟨rfl,HN.o⟩
end Go.Proofs.YtkjkafgnnoidpaaGreatDoor
