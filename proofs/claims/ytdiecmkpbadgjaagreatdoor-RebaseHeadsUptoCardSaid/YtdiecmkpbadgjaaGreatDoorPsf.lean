/- Steps to the theorem. -/
import Derived.Test.YtdiecmkpbadgjaaGreatDoorPse
set_option linter.all false
set_option maxRecDepth 100000
set_option maxHeartbeats 4000000
namespace Go.Proofs.YtdiecmkpbadgjaaGreatDoor
open Go.Proofs.Tryz
open Go.RowKit Go.Maps Go.Shelf
attribute [local go_sem] Oper.semAt_some
structure OI(w:World)(B:Nat)(a b:Value)(n:Nat)(ok:List ByteArray)(ov:List Val)(pre:List ME)(W:World):Prop where
 blk:Blk W B 275 (wrC a b (n+1+(Qfl ok (ov.take pre.length)+(pre.length-1))))
 sb:Sb (λc=>c=B) w W
 box:Blk W w.heap.size 278 #[.pointer (some ⟨B,0,none⟩)]
variable{w W W':World}{B n:Nat}
theorem OI.nw{a b:Value}{ok:List ByteArray}{ov:List Val}{pre:List ME}(h:OI w B a b n ok ov pre W)(k:Nw W W'):OI w B a b n ok ov pre W':=⟨k.blk h.blk,h.sb.trans (k.any _),k.blk h.box⟩
theorem OI.turn{B x:Nat}{a b:Value}{ok:List ByteArray}{ov:List Val}{pre:List ME}(h:OI w B a b n ok ov pre W)(k:Sb (λi=>i=x) W W')(N:w.heap.size<x)(I:B<w.heap.size):OI w B a b n ok ov pre W':=
 ⟨k.blk h.blk oM,h.sb.comp k (λi hi e=>by have e:i=x:=e;omega),k.blk h.box oM⟩
theorem Qmj:∀(ks:List ByteArray) (l:List Val),l.length=ks.length->ks.length<=QfL ks l
 |[],_,_=>aA _
 |k::ks,[],h=>by cases h
 | k :: ks,d :: r,h=>by
   have:=Qmj ks r (by simpa using h);rw[QfL,cp,aC];omega
variable{ks:List ByteArray}
theorem Qnr{l:List Val}:Qfl ks (l.take 0)=0:=by cases ks<;>simp[Qfl]
variable{F:Nat->Prop}{V:Nat}{sl so:Sl}
theorem Qr2{P:Val->Prop}(hI:Qvg P){bo:Bool}{i:Int}{t:ByteArray}{l:List Val}{ok:List ByteArray}{ov:List Val}{a b:Value} 
  (hP:∀(j:Nat) (d:Val),ov[j]? = some d->P d) (hc:QfL ok ov<=1100000)
  (hV:Blk w V 34 #[.int .i64 6,.bool bo,.int .i64 i,.string t,.slice sl.a l.length sl.c,.slice so.a ok.length so.c]) (h:RV w F (.mk 6 bo i t l ok ov) sl so) (hF:∀i,F i->i<w.heap.size/\i≠B) (g8:V≠B) (hB:Blk w B 275 (wrC a b n)) (hn:n+(2+Qfl ok ov+(ov.length-1))<=9000000) (hL:Qb4 w) (h6:6<=B) :
  Calls prog 253 #[.pointer (some B),.pointer (some V)] w λe w'=>(∃r,e=.returned r)/\Blk w' B 275 (wrC a b (n+(2+Qfl ok ov+(ov.length-1))))/\Sb (λc=>c=B) w w':=by
 cases h with
 |mk bl fl bo' fo cl co hl ho hov el rl ek eo ro bk bi bt nl no=>
 have d0:MOk w F so ok ov:=⟨⟨bo',fo,co,ho,ek,eo,ro⟩,hov,λk hk=>by
  obtain⟨j,hj⟩:=List.mem_iff_getElem?.1 hk;have f7:=(ae.1 hj).1;have:=QkY (ac (l:=ov) (i:=j) oM) hj;omega⟩
 have l1:ok.length<=1100000:=by
  have:=Qmj ok ov hov;omega
 have n2:=hV.lt;have g6:=hB.lt;obtain⟨i5,HV,HF,HB,i4,HI,HP⟩:=Yh d0 hV hF hB hL hI hP;obtain⟨HC,HN,g5⟩:=Yc hc hn hov;clear d0 hV hF hB hL hI hP hc hn el rl ek eo ro hl ho bk bi bt nl no hov;refine(eL (n:=6)).1 ?_;refine fG func253 rfl trivial ?_ rfl;simp only[ntmps253,zL,Nat.reduceAdd,Nat.reduceSub];gi_wp2_with fail;generalize b5:w.alloc (.cells #[.pointer (some B)] _)=W0;have d5:Ext w W0:=by rw[<-b5];exact(gh w).alloc _ _
 have j8:W0.heap.size=w.heap.size+1:=by rw[<-b5];simp
 have g9:Blk W0 w.heap.size 278 #[.pointer (some B)]:=by rw[<-b5];exact gm w _ _
 have d7:=Qcq (w:=W0) ⟨#[123]⟩ (HB.o.ext d5) (by have:=HN.o;show n+1<=_;omega);rw[j8]at d7;obtain⟨f8,j3,k5⟩:=Yc d7 d5 g9;clear b5 d7 d5 g9;refine⟨trivial,?_⟩;refine(eL.2 f8.o).mono ?_;rintro e w1 ⟨⟨r,rfl⟩,f0,b7⟩;have a0:=(j3.o.sb (λc=>c=B)).trans b7;obtain⟨q0,q1,q2,q3,q4,q5⟩:=(a0.blk HV.o g8).c6;have lq:=(a0.blk HV.o g8).lt;have c7:=b7.blk k5.o oM;obtain⟨j1,j9,f1⟩:=Yc f0 a0 c7;have l4:=b7.size;clear f0 b7 a0 c7 f8;gi_wp2_with fail;refine⟨trivial,?_⟩;refine(eL.2 (QrR w1 so.a ok.length so.c)).mono ?_;rintro e w2 ⟨rfl,a3,d6⟩;have a6:=j9.o.ext a3;have c8:Agree F w w2:=λx hx=>a6.block x (HF.o x hx).1 (HF.o x hx).2
 have e4:Qb4 w2:=i4.o.sb a6 λc hc e=>by have e:c=B:=e;omega
 have e1:∀b,F b->b<w2.heap.size:=λb I=>ab (HF.o b I).1 a6.size
 have d3:OI w B a b n ok ov [] w2:=⟨by have:=j1.o.ext a3;rw[show([]:List ME).length=0 from rfl,Qnr];exact this,a6,f1.o.ext a3⟩;have l3:=a3.size;have l0:=d6.lt;have l8:=e4.lib.big;obtain⟨k7,f4,a2⟩:=Yc (QrS d6 (i5.o.agree c8) e1 e4 oM) d3 e1;clear a3 d6 a6 c8 e4 e1 d3 q0 q1 q2 q3 q4 q5;gi_wp2_with fail;refine Qg7 (gf:=264) (lb:=#[.pointer (some w1)]) rfl (ff func264 kM rfl) k7.o (Agree.refl _) (ao _)
  (λb I=>by
    rcases I with I|rfl|I
    .exact a2.o b I
    .omega
    omega) (λ_=>rfl) (OI w B a b n ok ov) (λ_ _ _=>False)
  (λh k hl n6=>h.turn k oM g6) (λh _ _ _=>h) (λW hW hz=>f4.o.nw (gj hW)) ?round ?done ?stop
 case stop=>
  rintro D c pre W hD n8 hX b6;exact hX.elim
 case round=>
  rintro pre x n4 W1 hI o1 a8 hG;obtain⟨tx,d,Vx,b9,b8⟩:=x;obtain⟨⟨k,hk,hd,e7⟩,b4,e3,e8⟩:=hG;dsimp only at hd e7 b4 e3 e8;have f7:=(ae.1 hk).1;have g3:=hY (hI.nw a8);have hcut:=Qmi ok ov (pre.length+1);have k9:=QjY hd hk;have g7:=Qih pre.length;have k2:tx.size=(Qk0 pre.length).size+(Qbf k).size:=by rw[e7,aK]
  have f5:=g5.o;have k0:=HN.o;have c4:n+1+(Qfl ok (ov.take pre.length)+(pre.length-1))+tx.size+1+QgI d<=9000000:=oM
  have a5:n+1+(Qfl ok (ov.take (pre.length+1))+(pre.length+1-1))=n+1+(Qfl ok (ov.take pre.length)+(pre.length-1))+tx.size+1+QgI d:=oM
  have i2:QcI d<=1100000:=by have:=QkY hd hk;have:=HC.o;omega
  obtain⟨j4,j0,c3,e0,f2,f6⟩:=Yg (HP.o _ d hd) i2 c4 a5 b4 e3;have l2:=a8.size;have l5:=b4.lt;have n9:=Qfd d.kind;clear hI a8 hk hd e7 b4 e3 hcut k9 g7 k2 f5 k0 c4 a5 i2 f7;gi_wp2_with fail;refine⟨gu _ _,λW3 k3 j2 i6 g0=>?_⟩;have a4:=g3.o.turn k3 oM g6;have p0:W3.cell? w=some (.pointer (some B)):=a4.box.cell 0;have lp:=a4.box.lt;have l6:=k3.size;have c1:=k3.blk f2.o oM;have c2:RV W3 F d b9 b8:=f6.o.agree λb I=>k3.block b (by have:=a2.o b I;omega) (λe=>by have e:b=_:=e;have:=a2.o b I;omega)
  have i1:=QrB (w:=W3) tx ⟨#[58]⟩ a4.blk (by have:=c3.o;show _+1<=_;omega);obtain⟨b3,g4,i0,j6,o0,l9⟩:=Yg a4 c1 c2 i1 i6 g0;clear k3 j2 i6 g0 a4 c1 c2 i1 g3 f2 f6;gi_wp2_with fail;refine⟨trivial,?_⟩;refine(QaA j6.o).mono ?_;rintro e w5 ⟨⟨r5,rfl⟩,f3,Z⟩;have p5:w5.cell? w=some (.pointer (some B)):=(Z.blk b3.o.box oM).cell 0;have l7:=(Z.blk b3.o.box oM).lt;have n7:=Z.size;have c0:=b3.o.sb.trans Z;have a7:=HI.o d j4.o j0.o w5 F Vx B b9 b8 a b _ (Z.blk g4.o oM) (i0.o.agree λb I=>Z.block b (by have:=a2.o b I;omega) (HF.o b I).2) (λi hi=>⟨by have:=a2.o i hi;omega,(HF.o i hi).2⟩) oM f3 (by have:=c3.o;exact this) (i4.o.sb c0 λc hc e=>by have e:c=B:=e;omega) h6;obtain⟨e6,j5⟩:=Yb a7 Z;clear f3 Z c0 a7 p0;gi_wp2_with fail;refine⟨trivial,?_⟩;refine(QaA e6.o).mono ?_;rintro e w6 ⟨⟨r6,rfl⟩,a9,a1⟩;have N:=j5.o.trans a1;have i8:=hY (show OI w B a b n ok ov (pre++[⟨tx,d,Vx,b9,b8⟩]) w6/\Agree (λb=>(F b\/b=w1.heap.size\/b<6)\/b=w2.heap.size\/b=w2.heap.size+1) W3 w6/\W3.heap.size<=w6.heap.size from
   ⟨⟨by rw [aj,show [(⟨tx,d,Vx,b9,b8⟩:ME)].length=1 from rfl,e0.o];exact a9,b3.o.sb.trans N,N.blk b3.o.box oM⟩,
     λb I=>N.block b (by
      rcases I with(I|rfl|I)|rfl|rfl
      .have:=a2.o b I;omega
      all_goals omega) (λe=>by
      have e:b=B:=e;rcases I with(I|rfl|I)|rfl|rfl
      .exact (HF.o b I).2 e
      all_goals omega),N.size⟩)
  clear a9 a1 N;gi_wp2_with fail;exact i8.o
 rintro D xs W hD hS hI b6;have i7:xs.length=ok.length:=hS;have b0:=hI.blk;rw[i7,<-g5.o,aR]at b0;have p0:W.cell? w=some (.pointer (some B)):=hI.box.cell 0;have lp:=hI.box.lt;have i9:=Qcq (w:=W) ⟨#[125]⟩ b0 (by have:=HN.o;show _+1<=_;omega);obtain⟨k8,j7,k4,e2⟩:=Ye i9 hI b6 hD;have lD:=(az.1 b6).1;clear i9 hI b6 hD hS i7 b0;gi_wp2_with fail;refine⟨trivial,?_⟩;refine(eL.2 k8.o).mono ?_;rintro e w6 ⟨⟨r6,rfl⟩,a9,a1⟩;have d4:w6.heap[D]? = some (.deferred (some [])):=(a1.block D lD (λe=>by have e:D=B:=e;have:=e2.o;omega)).trans k4.o;have d8:=(St.put (o':=.deferred none) d4 rfl rfl).sb;have c9:=d8.blk a9 (by have:=e2.o;omega);have i3:Sb (λc=>c=B) w _:=(j7.o.sb.trans a1).comp d8 (λi hi e=>by have e:i=D:=e;have:=e2.o;omega);obtain⟨k6,f9,k1⟩:=Yc d4 c9 i3;clear a9 a1 d4 d8 c9 i3;gi_wp2_with fail;refine⟨oO,.inl ⟨_,_,rfl,fF k6.o,?_⟩⟩;refine⟨.tuple #[],?_,⟨_,rfl⟩,by rw[show n+(2+Qfl ok ov+(ov.length-1))=n+1+(Qfl ok ov+(ov.length-1))+1 by omega];exact f9.o,k1.o⟩;simp[results,results253,go_sem]
theorem QuZ(m:Nat):Qvg (λd=>SizeOf.sizeOf d<=m):=by
 induction m with
 |zero=>intro d hd;have:=Val.Qb6 d;omega
 |succ m ih=>
 intro d hd hc w F V B sl so a b n hV h hF a0 hB N hL h6;have a1:=h;obtain⟨k,bo,i,t,l,ok,ov⟩:=d;cases h with
 |mk bl fl bo' fo cl co hl ho hov el rl ek eo ro bk bi bt nl no=>
 unfold QcI at hc;unfold QgI at N;unfold Qsv QgI;show Calls _ (fnO k) (_++bsO k V) _ _;by_cases h2:k=2
 ·subst h2
  rw[eH rfl]at N;exact(QrY hV hB oM).mono λe w' h=>by rw[eH rfl];exact h
 by_cases Z:k=3
 ·subst Z
  simp only[if_neg h2,if_pos]at N ⊢;exact QrZ hV hB (by simp[Lit.wf,IntKind.min,IntKind.max,IntKind.signed,IntKind.bits]at bi;omega) (by simp[Lit.wf,IntKind.min,IntKind.max,IntKind.signed,IntKind.bits]at bi;omega) oM hL
 by_cases h4:k=4
 ·subst h4
  simp only[if_neg h2,if_neg Z,if_pos]at N ⊢;exact Qr0 hV hB oM oM hL
 by_cases h5:k=5
 ·subst h5
  simp only[if_neg h2,if_neg Z,if_neg h4,if_pos]at N ⊢;exact Qr1 ih (λj d hj=>bv (ab (Val.QtM hj) hd)) oM hV a1 hF a0 hB N hL h6
 by_cases I:k=6
 ·subst I
  simp only[if_neg h2,if_neg Z,if_neg h4,if_neg h5,if_pos]at N ⊢;exact Qr2 ih (λj d hj=>bv (ab (Val.QtN hj) hd)) oM hV a1 hF a0 hB N hL h6
 simp only[if_neg h2,if_neg Z,if_neg h4,if_neg h5,if_neg I]at N ⊢;have hf:fnO k=255:=by simp[fnO,h2,Z,h4,h5,I]
 have hb:bsO k V=#[]:=by simp[bsO,h2,Z,h4,h5,I]
 rw[hf,hb];exact Qr3 hB oM
end Go.Proofs.YtdiecmkpbadgjaaGreatDoor
namespace Go.Proofs.YtdiecmkpbadgjaaGreatDoor
open Go.Proofs.Tryz
open Go.RowKit Go.Maps Go.Shelf
variable{w:World}{sl so:Sl}
theorem QoK{d:Val}(h:RV w (Lt w) d sl so)(hc:QcI d<=1100000)(hL:Qb4 w):Calls prog 209 #[QbV d sl so] w λe w'=>e=.returned (.int .i64 (QgI d:Int))/\Nw w w':=by
 have a6:=QiE _ w d sl so h;have h6:=hL.lib.big;obtain⟨HH,HC,HL,b0⟩:=Ye h hc hL a6;clear h hc hL a6;go_in;go_wp2_with fail;generalize a5:World.alloc _ _=W0;obtain⟨a4,a7,a9,a2⟩:=Qas w _ _ _ _ W0 a5;obtain⟨b3,a8⟩:=Yb a4 a2;clear a5 a4 a9 a2;refine(Qlm W0 d sl so).mono ?_;rintro e w1 ⟨rfl,Z,a0⟩;rw[a7]at a0;have a3:=a8.o.ext Z;have N:=(gj b3.o).trans (gj Z);have I:=QuZ _ d (ao _) HC.o w1 (Lt w) (w.heap.size+2) (w.heap.size+1) sl so _ _ 0 a0 (HH.o.agree (gp N λb hb=>hb)) (λi hi=>⟨Nat.lt_of_lt_of_le hi N.size,by have hi:i<w:=hi;omega⟩) oM a3 (by have:=b0.o;have:=HC.o;omega) (HL.o.nw N) oM;obtain⟨a1,b4⟩:=Yb I N;have b6:=Qfd d.kind;clear Z a0 a3 N I;go_wp2_with fail;refine a1.o.mono ?_;rintro e w2 ⟨⟨r,rfl⟩,hb,hs⟩;have c3:w2.cell? ⟨w+1,3,none⟩=some (.int .i64 ((0+QgI d:Nat):Int)):=hb.cell 3;rw[aD]at c3;have b5:=hY (b4.o.comp hs λi hi e=>by have e:i=w.heap.size+1:=e;omega);clear hb hs;go_wp2_with fail;go_ret;exact⟨rfl,b5.o⟩
def QcP(d:Val):Int:=if Qda d 1≠0 then Qda d 1 else if 16<Qdv d then 5 else if 1024<QgI d then 6 else 0
theorem Qio{d:Val}(h:RV w (Lt w) d sl so)(hc:QcI d<=1100000)(hL:Qb4 w):Calls prog 193 #[QbV d sl so] w λe w'=>e=.returned (QcP d)/\Nw w w':=by
 have a1:∀W,Nw w W->RV W (Lt W) d sl so:=λW N=>(h.agree (gp N λb hb=>hb)).mono λb hb=>ab hb N.size
 have hm:=λW (N:Nw w W)=>QrM (a1 W N) (hL.lib.nw N)
 have hd:=λW (N:Nw w W) (hq:Qdv d<=1000000)=>Qm7 _ d (ao _) hq W sl so (a1 W N)
 have hb:=λW (N:Nw w W)=>QoK (a1 W N) hc (hL.nw N)
 obtain⟨HM,HD,HB⟩:=Yc hm hd hb;obtain⟨r,hr⟩:∃r,QcP d=r:=⟨_,rfl⟩;rw[hr];have HR:=hY hr;clear hm hd hb hr a1 h hL;go_in;go_wp2_with fail;have a6:=(gh w).alloc (QtS d sl so) 34;have b0:=gm w 34 (QtS d sl so);refine(HM.o _ (gj a6)).mono ?_;rintro e w1 ⟨rfl,a7⟩;have Z:=a7.blk b0;obtain⟨q0,q1,q2,q3,q4,q5⟩:=Z.c6;have lq:=Z.lt;obtain⟨a8,b8⟩:=Yb ((gj a6).trans a7) Z;clear a6 b0 a7 Z;obtain⟨m,hm⟩:∃m,Qda d 1=m:=⟨_,rfl⟩;rw[hm];by_cases a0:m=0
 ·subst a0
  have b6:=Qij d 1 hm;obtain⟨c0,a9⟩:=Yb b6 hm;clear hm b6;go_wp2_with fail;refine(HD.o _ a8.o (by have:=c0.o;omega)).mono ?_;rintro e w2 ⟨rfl,a3⟩;have a5:=b8.o.ext a3;clear q0 q1 q2 q3 q4 q5;obtain⟨q0,q1,q2,q3,q4,q5⟩:=a5.c6;have c3:=a5.lt;have a4:=hY (a8.o.trans (gj a3));clear a3 a5;by_cases I:16<Qdv d
  ·have g0:decide ((16:Int)<(Qdv d:Int))=true:=eI oM
   have b4:r=5:=by rw[<-HR.o,QcP,a9.o,eE oO,eH I]
   have c2:=hY b4;clear b4 I;go_wp2_with fail;go_ret;exact⟨by rw[c2.o];rfl,a4.o⟩
  have g0:decide ((16:Int)<(Qdv d:Int))=false:=eG oM;have a2:=hY I;clear I;go_wp2_with fail;refine(HB.o _ a4.o).mono ?_;rintro e w3 ⟨rfl,b3⟩;have b5:=hY (a4.o.trans b3);clear b3 q0 q1 q2 q3 q4 q5;by_cases hl:1024<QgI d
  ·have g1:decide ((1024:Int)<(QgI d:Int))=true:=eI oM
   have c1:=hY (show r=6 by rw[<-HR.o,QcP,a9.o,eE oO,eE a2.o,eH hl]);clear hl;go_wp2_with fail;go_ret;exact⟨by rw[c1.o];rfl,b5.o⟩
  have g1:decide ((1024:Int)<(QgI d:Int))=false:=eG oM;have b7:=hY (show r=0 by rw[<-HR.o,QcP,a9.o,eE oO,eE a2.o,eE hl]);clear hl;go_wp2_with fail;go_ret;exact⟨by rw[b7.o];rfl,b5.o⟩
 have g0:(m != 0)=true:=by simpa using a0
 have b9:=hY (show r=m by rw[<-HR.o,QcP,hm,eH a0]);clear hm a0;go_wp2_with fail;go_ret;exact⟨by rw[b9.o];rfl,a8.o⟩
mutual
def wfV:Val->Prop
 |.mk _ _ _ _ l ok ov=>ok.length=ov.length/\QkR l/\QkR ov
def QkR:List Val->Prop
 |[]=>True
 |d::r=>wfV d/\QkR r
end
theorem QlJ:∀{l:List Val},(∀(j:Nat) d,l[j]? = some d->wfV d)->QkR l
 |[],_=>by unfold QkR;trivial
 | a :: l,h=>by
   unfold QkR;exact⟨h 0 a rfl,QlJ λj d I=>h (j+1) d (by simpa using I)⟩
variable{F:Nat->Prop}
theorem RV.wf{d:Val}(h:RV w F d sl so):wfV d:=by
 induction h with
 | mk bl fl bo fo cl co hl ho hov el rl ek eo ro bk bi bt nl no ihl iho=>
   unfold wfV;exact⟨hov.symm,QlJ ihl,QlJ iho⟩
theorem Qti{x y:Int}(h:(if x≠0 then x else y)=0):x=0/\y=0:=by
 by_cases I:x=0
 .exact ⟨I,by rw[eE (by simp[I])]at h;exact h⟩
 rw[eH I]at h;exact absurd h I
theorem Qq9(n:Nat):∀(a b:Val) (p q:Nat),SizeOf.sizeOf a<=n->wfV a->wfV b->Qda a p=0->Qda b q=0->Qbq a b=0->a=b:=by
 induction n with
 |zero=>intro a b p q h;have:=Val.Qb6 a;omega
 | succ n ih=>
   intro a b p q hn wa wb N Z I;have hl:∀(l1 l2:List Val) (p q:Nat),SizeOf.sizeOf l1<=n->QkR l1->QkR l2->Qd8 l1 p=0->Qd8 l2 q=0->cmpL l1 l2=0->l1=l2:=by
    intro l1
    induction l1 with
    | nil=>
      intro l2 p q _ _ _ _ _ I;cases l2 with
      |nil=>rfl
      |cons b r=>simp[cmpL]at I
    | cons a l1 ihl=>
      intro l2 p q hs wa wb N Z I;cases l2 with
      |nil=>simp[cmpL]at I
      | cons b l2=>
        simp only[List.cons.sizeOf_spec]at hs;unfold QkR at wa wb;unfold Qd8 at N Z;unfold cmpL at I;obtain⟨b0,I⟩:=Qti I;obtain⟨a8,N⟩:=Qti N;obtain⟨a7,Z⟩:=Qti Z;rw[ih a b p q oM wa.1 wb.1 a8 a7 b0,ihl l2 p q oM wa.2 wb.2 N Z I]
   have ho:∀(v1 v2:List Val) (k1 k2:List ByteArray) (p1 p2:Option ByteArray) (q1 q2:Nat),SizeOf.sizeOf v1<=n->QkR v1->QkR v2->k1.length=v1.length->k2.length=v2.length->QhA p1 k1 v1 q1=0->QhA p2 k2 v2 q2=0->Qe5 v1 k1 k2 v2=0->k1=k2/\v1=v2:=by
    intro v1
    induction v1 with
    | nil=>
      intro v2 k1 k2 p1 p2 q1 q2 _ _ _ h1 h2 _ _ I;cases v2 with
      | nil=>
        simp only[List.length_nil,List.length_eq_zero_iff]at h1 h2;exact⟨by rw[h1,h2],rfl⟩
      |cons b r=>simp[Qe5]at I
    | cons a v1 ihl=>
      intro v2 k1 k2 p1 p2 q1 q2 hs wa wb h1 h2 N Z I;cases v2 with
      |nil=>simp[Qe5]at I
      | cons b v2=>
        cases k1 with
        |nil=>simp at h1
        | cons x k1=>
          cases k2 with
          |nil=>simp at h2
          | cons y k2=>
            simp only[List.cons.sizeOf_spec]at hs;unfold QkR at wa wb;unfold QhA at N Z;unfold Qe5 at I;have I:(if Qbn x y≠0 then Qbn x y else if Qbq a b≠0 then Qbq a b else Qe5 v1 k1 k2 v2)=0:=I;have N:(if !Lib.validD x.data.toList then 3 else if p1.any (λq=>!klt q x)then 8 else if Qda a q1≠0 then Qda a q1 else QhA (some x) k1 v1 q1)=0:=N;have Z:(if !Lib.validD y.data.toList then 3 else if p2.any (λq=>!klt q y)then 8 else if Qda b q2≠0 then Qda b q2 else QhA (some y) k2 v2 q2)=0:=Z;obtain⟨b4,I⟩:=Qti I;obtain⟨b0,I⟩:=Qti I;have a8:Qda a q1=0/\QhA (some x) k1 v1 q1=0:=by
             split at N
             .cases N
             split at N
             .cases N
             exact Qti N
            have a7:Qda b q2=0/\QhA (some y) k2 v2 q2=0:=by
             split at Z
             .cases Z
             split at Z
             .cases Z
             exact Qti Z
            obtain⟨e1,e2⟩:=ihl v2 k1 k2 (some x) (some y) q1 q2 oM wa.2 wb.2 (by simpa using h1) (by simpa using h2) a8.2 a7.2 I;rw[QhQ.1 b4,e1,ih a b q1 q2 oM wa.1 wb.1 a8.1 a7.1 b0,e2];exact⟨rfl,rfl⟩
   obtain⟨k,b1,i,t,l,ok,ov⟩:=a;obtain⟨k',b2,i',t',l',a0,a1⟩:=b;simp only[Val.mk.sizeOf_spec]at hn;unfold wfV at wa wb;unfold Qda at N Z;have I:(if k≠k' then Qcj k k' else if k=2 then Qjg b1 b2 else if k=3 then Qcj i i' else if k=4 then Qbn t t' else if k=5 then cmpL l l' else if k=6 then Qe5 ov ok a0 a1 else 0)=0:=by
    have h2:=I;unfold Qbq at h2;exact h2
   have hk:k=k':=by
    by_cases h:k=k'
    .exact h
    rw[eH h,Qj8]at I;exact absurd I h
   subst hk;have ha:Qb0 k b1 i t l.length ok.length=false:=by
    cases h:Qb0 k b1 i t l.length ok.length with
    |false=>rfl
    |true=>rw[h,eH rfl]at N;cases N
   have hb:Qb0 k b2 i' t' l'.length a0.length=false:=by
    cases h:Qb0 k b2 i' t' l'.length a0.length with
    |false=>rfl
    |true=>rw[h,eH rfl]at Z;cases Z
   rw[ha]at N;rw[hb]at Z;have a9:∀{t:ByteArray},t.size=0->t=ByteArray.empty:=λh=>ByteArray.ext (Array.eq_empty_of_size_eq_zero h)
   have b3:∀{ok:List ByteArray} {ov:List Val},ok.length=ov.length->ok.length=0->ok=[]/\ov=[]:=λh1 h2=>⟨List.eq_nil_of_length_eq_zero h2,au (h1▸h2)⟩
   unfold Qb0 at ha hb;by_cases hr:k<1\/6<k
   .rw [eH hr]at ha;cases ha
   rw[eE hr]at ha hb;simp only[Bool.or_eq_false_iff,Bool.and_eq_false_iff,bne_eq_false_iff_eq]at ha hb;rw[eE oO]at I;obtain⟨⟨⟨⟨a2,a3⟩,a4⟩,a5⟩,a6⟩:=ha;obtain⟨⟨⟨⟨c2,c3⟩,c4⟩,c5⟩,c6⟩:=hb;have eb:b1=b2:=by
    by_cases h:k=2
    .subst h;rw[eH rfl,QmX]at I;exact I
    rw[a2.resolve_left h,c2.resolve_left h]
   have ei:i=i':=by
    by_cases h:k=3
    .subst h;rw[eE oN,eH rfl,Qj8]at I;exact I
    rw[a3.resolve_left h,c3.resolve_left h]
   have et:t=t':=by
    by_cases h:k=4
    .subst h;rw[eE oN,eE oN,eH rfl,QhQ]at I;exact I
    rw[a9 (a4.resolve_left h),a9 (c4.resolve_left h)]
   have el:l=l':=by
    by_cases h:k=5
    ·subst h
     rw[eE oN,eE oN,eE oN,eH rfl]at I;have m1:Qd8 l (p+1)=0:=by
      simp only[Bool.false_eq_true,if_false]at N;split at N
      .cases N
      simpa using N
     have m2:Qd8 l' (q+1)=0:=by
      simp only[Bool.false_eq_true,if_false]at Z;split at Z
      .cases Z
      simpa using Z
     exact hl l l' _ _ oM wa.2.1 wb.2.1 m1 m2 I
    rw[au (a5.resolve_left h),au (c5.resolve_left h)]
   have eo:ok=a0/\ov=a1:=by
    by_cases h:k=6
    ·subst h
     rw[eE oN,eE oN,eE oN,eE oN,eH rfl]at I;have m1:QhA none ok ov (p+1)=0:=by
      simp only[Bool.false_eq_true,if_false]at N;split at N
      .cases N
      simpa using N
     have m2:QhA none a0 a1 (q+1)=0:=by
      simp only[Bool.false_eq_true,if_false]at Z;split at Z
      .cases Z
      simpa using Z
     exact ho ov a1 ok a0 _ _ _ _ oM wa.2.2 wb.2.2 wa.1 wb.1 m1 m2 I
    obtain⟨e1,e2⟩:=b3 wa.1 (a6.resolve_left h);obtain⟨e3,e4⟩:=b3 wb.1 (c6.resolve_left h);rw[e1,e2,e3,e4];exact⟨rfl,rfl⟩
   rw[eb,ei,et,el,eo.1,eo.2]
def okV(v:Val):Prop:=wfV v/\QcP v=0
theorem okV.may{v:Val}(h:okV v):Qda v 1=0:=by
 have h1:=h.2;unfold QcP at h1;by_cases h2:Qda v 1=0
 .exact h2
 rw[eH h2]at h1;exact h1
theorem okV.eq{a b:Val}(N:okV a)(I:okV b)(h:Qbq a b=0):a=b:=Qq9 _ a b 1 1 (ao _) N.1 I.1 N.may I.may h
structure OkM(M:List Ent):Prop where
 sorted:Sorted M
 ok:∀e∈M,Qci e.1=0/\okV e.2
theorem OkM.nil:OkM []:=⟨List.Pairwise.nil,λe h=>by cases h⟩
variable{M:List Ent}
theorem OkM.get(h:OkM M){k:ByteArray}{v:Val}(I:Qaq M k=some v):Qci k=0/\okV v:=h.ok (k,v) (QdW I)
theorem OkM.put(h:OkM M){k:ByteArray}{v:Val}(hk:Qci k=0)(Z:okV v):OkM (QbY M k v):=
 ⟨Qa1 h.sorted k v,λe I=>(QiF I).elim (λN=>N▸⟨hk,Z⟩) (h.ok e)⟩
theorem OkM.del(h:OkM M)(k:ByteArray):OkM (QbM M k):=⟨QaN h.sorted k,λe I=>h.ok e ((Qa3 M k).subset I)⟩
theorem Qe0:∀{a b:List Ent},Sorted a->Sorted b->(∀k,Qaq a k=Qaq b k)->a=b
 |[],[],_,_,_=>rfl
 |[],f::b,_,_,h=>by have:=h f.1;simp[Qaq]at this
 |e::a,[],_,_,h=>by have:=h e.1;simp[Qaq]at this
 | e :: a,f :: b,ha,hb,h=>by
   obtain⟨a1,a2⟩:=be.1 ha;obtain⟨b1,b2⟩:=be.1 hb;have I:∀{x:Ent} {l:List Ent} {k:ByteArray},(∀y∈l,klt x.1 y.1=true)->klt k x.1=true->Qaq (x::l) k=none:=λ{x l k} h1 h2=>by
    have:∀y∈x::l,y.1≠k:=λy hy e=>by
     rcases aH.1 hy with rfl|hy
     .rw [e,Qag]at h2;cases h2
     have:=QaH h2 (h1 y hy);rw[e,Qag]at this;cases this
    cases hg:Qaq (x::l) k with
    |none=>rfl
    |some v=>exact absurd rfl (this _ (QdW hg))
   have hk:e.1=f.1:=by
    refine QbE ?_ ?_
    ·cases Z:klt e.1 f.1 with
     |false=>rfl
     | true=>
       have h1:=h e.1;rw[Qaq,eH rfl,I b1 Z]at h1;cases h1
    cases Z:klt f.1 e.1 with
    |false=>rfl
    | true=>
      have h1:=h f.1;rw[I a1 Z,Qaq,eH rfl]at h1;cases h1
   have N:=h e.1;rw[Qaq,eH rfl,Qaq,eH hk.symm]at N;injection N with N;have he:e=f:=eC hk N;subst he;rw[Qe0 a2 b2 λk=>?_];by_cases hx:e.1=k
   ·have n1:∀ {l:List Ent},(∀ y∈l,klt e.1 y.1=true)→Qaq l k=none:=fun {l} h1=>by
     cases hg:Qaq l k with
     |none=>rfl
     |some v=>have:=h1 _ (QdW hg);rw[hx]at this;rw[show((k,v):Ent).1=k from rfl,Qag]at this;cases this
    rw[n1 a1,n1 b1]
   have:=h k;rwa[Qaq,eE hx,Qaq,eE hx]at this
structure QiZ(B:List Ent)(C:Slots)(M:List Ent):Prop where
 below:OkM B
 ok:OkM M
 chg:Qay C
 now:∀k,QkO B C k=Qaq M k
theorem QiZ.com{B:List Ent}{C:Slots}(h:QiZ B C M):Qfw B C B=M:=by
 have hs:=Qcn B C B h.below.sorted;have ho:∀e∈Qfw B C B,okV e.2:=by
  have:∀(C':Slots) (t:List Ent),(∀p∈C',p∈C)->(∀e∈t,okV e.2)->∀e∈Qfw B C' t,okV e.2:=by
   intro C'
   induction C' with
   |nil=>intro t _ N;rw[Qfw];exact N
   | cons p r ih=>
     intro t hp N;obtain⟨k,s⟩:=p;have hr:=λq hq=>hp q (aS _ hq)
     cases s with
     | some v=>
       rw[Qfw];split
       .exact ih t hr N
       refine ih _ hr λe I=>?_
       rcases QiF I with rfl|I
       ·have h1:=h.now k
        rw[QkO,Qir h.chg (hp _ (aF ..))]at h1;exact(h.ok.get h1.symm).2
       exact N e I
     | none=>
       rw[Qfw];split
       .exact ih _ hr λe I=>N e ((Qa3 t k).subset I)
       exact ih t hr N
  exact this C B (λp hp=>hp) λe I=>(h.below.ok e I).2
 refine Qe0 hs h.ok.sorted λk=>?_
 have h1:=QeB B (k:=k) C B h.chg h.below.sorted rfl;rw[h.now k]at h1;cases ha:Qaq (Qfw B C B) k with
 | none=>
   cases Z:Qaq M k with
   |none=>rfl
   |some b=>rw[ha,Z]at h1;cases h1
 | some a=>
   cases Z:Qaq M k with
   |none=>rw[ha,Z]at h1;cases h1
   | some b=>
     rw[ha,Z]at h1;simp only[Qu3,decide_eq_true_eq]at h1;exact congrArg some ((ho _ (QdW ha)).eq (h.ok.get Z).2 h1)
theorem QiZ.start{B:List Ent}(h:OkM B):QiZ B [] B:=⟨h,h,List.Pairwise.nil,λk=>rfl⟩
theorem QiZ.put{B:List Ent}{C C':Slots}(h:QiZ B C M){k:ByteArray}{v:Val}(N:Qci k=0)(Z:okV v)(hs:Qay C')(hC:∀x,QaZ C' x=if x=k then some (some v)else QaZ C x):QiZ B C' (QbY M k v):=
 ⟨h.below,h.ok.put N Z,hs,λx=>by
   unfold QkO;rw[hC,QeK];by_cases I:x=k
   .rw [eH I,eH I]
   rw[eE I,eE I];exact h.now x⟩
theorem QiZ.del{B:List Ent}{C C':Slots}(h:QiZ B C M){k:ByteArray}(hs:Qay C')(N:∀x,QaZ C' x=if x=k then some none else QaZ C x):QiZ B C' (QbM M k):=
 ⟨h.below,h.ok.del k,hs,λx=>by
   unfold QkO;rw[N,Qcx _ _ _ h.ok.sorted];by_cases I:x=k
   .rw [eH I,eH I]
   rw[eE I,eE I];exact h.now x⟩
def inI(lo hi:ByteArray)(op:Bool)(e:Ent):Bool:=!(klt e.1 lo)&&(op||klt e.1 hi)
def QaM(lo hi:ByteArray)(op:Bool)(es:List Ent):List Ent:=es.filter (inI lo hi op)
theorem QaT(lo hi:ByteArray)(op:Bool)(a b:List Ent):QaM lo hi op (a++b)=QaM lo hi op a++QaM lo hi op b:=bP ..
variable{lo hi:ByteArray}{op:Bool}
theorem QfF{es:List Ent}(h:∀e∈es,klt e.1 lo=true):QaM lo hi op es=[]:=
 List.filter_eq_nil_iff.2 λe I=>by simp[inI,h e I]
def Qjw(hi:ByteArray)(op:Bool)(k:ByteArray):Bool:=!op && !(klt k hi)
theorem QdH{es:List Ent}(h:∀e∈es,Qjw hi op e.1=true):QaM lo hi op es=[]:=
 List.filter_eq_nil_iff.2 λe I=>by
  have:=h e I;simp only[Qjw,Bool.and_eq_true,Bool.not_eq_true']at this;simp[inI,this.1,this.2]
theorem Qo9{a b:ByteArray}(h:Qjw hi op a=true)(I:klt a b=true):Qjw hi op b=true:=by
 simp only[Qjw,Bool.and_eq_true,Bool.not_eq_true']at h ⊢;refine⟨h.1,?_⟩;cases N:klt b hi
 .rfl
 rw[QaH I N]at h;cases h.2
variable{e:Ent}
theorem QhG(h1:klt e.1 lo=false)(h2:Qjw hi op e.1=false):QaM lo hi op [e]=[e]:=by
 have:inI lo hi op e=true:=by
  simp only[Qjw,Bool.and_eq_false_iff,Bool.not_eq_false']at h2;rcases h2 with h2|h2<;>simp[inI,h1,h2]
 simp[QaM,this]
theorem QeX{A B:List Ent}(hs:Sorted (A++B))(h:∃e∈A,Qjw hi op e.1=true):QaM lo hi op B=[]:=by
 obtain⟨e,I,h⟩:=h;exact QdH λx N=>Qo9 h ((Qck hs).2.2 e I x N)
theorem le_last{es:List Ent}(hs:Sorted es)(I:e∈es):klt (Qbl es) e.1=false:=by
 have N:es≠[]:=by rintro rfl;cases I
 rcases List.eq_nil_or_concat es with rfl |⟨a,x,rfl⟩
 .exact absurd rfl N
 rw[List.concat_eq_append]at hs I;have Z:Qbl (a.concat x)=x.1:=by simp[Qbl]
 rw[Z];rcases aO.1 I with h|h
 .exact Qbh ((Qck hs).2.2 e h x (aV.2 rfl))
 rw[aV.1 h];exact Qag _
theorem Qrj{es:List Ent}(hs:Sorted es)(I:e∈es):klt e.1 (Qav es)=false:=by
 cases es with
 |nil=>cases I
 | cons x es=>
   show klt e.1 x.1=false;rcases aH.1 I with rfl|h
   .exact Qag _
   exact Qbh ((be.1 hs).1 e h)
theorem Qnt{es:List Ent}(hs:Sorted es)(h:klt (Qbl es) lo=true):∀e∈es,klt e.1 lo=true:=λe I=>Qdx (le_last hs I) h
theorem Qfx{es:List Ent}(hs:Sorted es)(h:Qjw hi op (Qav es)=true):∀e∈es,Qjw hi op e.1=true:=λe I=>by
 simp only[Qjw,Bool.and_eq_true,Bool.not_eq_true']at h ⊢;refine⟨h.1,?_⟩;cases N:klt e.1 hi
 .rfl
 have:=Qdx (Qrj hs I) N;rw[h.2]at this;cases this
def Qk3:List UInt8->Option (List UInt8)
 |[]=>none
 | b :: t=>match Qk3 t with
   |some e=>some (b::e)
   |none=>if b=255 then none else some [b+1]
theorem Qsw(k:List UInt8):Op.bytesLess k []=false:=by cases k<;>rfl
theorem QhV{b c:UInt8}(I:b≠255):(c<b+1)↔(c<b\/c=b):=by
 have h1:(b+1).toNat=b.toNat+1:=by
  rw[UInt8.toNat_add];have:b.toNat≠255:=λe=>I (UInt8.toNat_inj.1 e)
  have:=b.toNat_lt;show(b.toNat+1)%256=_;omega
 rw[UInt8.lt_iff_toNat_lt,UInt8.lt_iff_toNat_lt,h1,<-UInt8.toNat_inj];omega
theorem Qhm:∀p k:List UInt8,(p.isPrefixOf k)=(!(Op.bytesLess k p)&&(match Qk3 p with|none=>true|some e=>Op.bytesLess k e))
 |[],k=>by simp[Qsw,Qk3,List.isPrefixOf]
 |b::t,[]=>by simp[Op.bytesLess,List.isPrefixOf]
 | b :: t,c :: s=>by
   have ih:=Qhm t s;simp only[List.isPrefixOf,Op.bytesLess,Qk3];by_cases N:c<b
   ·have a0:(b == c)=false:=eJ.2 (by rintro rfl;exact absurd N (UInt8.lt_irrefl _))
    simp[N,a0]
   by_cases he:c=b
   ·subst he
    cases hE:Qk3 t with
    | some e=>
      rw[hE]at ih;simp[Op.bytesLess,ih,UInt8.lt_irrefl]
    | none=>
      rw[hE]at ih;by_cases I:c=255
      .subst I;simp[ih,UInt8.lt_irrefl]
      have h1:c<c+1:=(QhV I).2 (.inr rfl);simp[Op.bytesLess,ih,UInt8.lt_irrefl,I,h1]
   have a0:(b==c)=false:=eJ.2 λe=>he e.symm
   have Z:(c==b)=false:=eJ.2 he;simp only[a0,Bool.false_and,N,decide_false,Z,Bool.or_self,Bool.not_false,Bool.true_and];cases hE:Qk3 t with
   |some e=>simp[Op.bytesLess,N,Z]
   | none=>
     by_cases I:b=255
     ·exfalso
      subst I;have h1:=UInt8.not_lt.1 N;have h2:c<=255:=UInt8.le_iff_toNat_le.2 (by have:=c.toNat_lt;show c.toNat<=255;omega);exact he (UInt8.le_antisymm h2 h1)
     have h1:¬c<b+1:=λh=>by
      rcases(QhV I).1 h with h|h
      .exact N h
      exact he h
     simp[I,Op.bytesLess,h1,Qsw]
theorem Qk4:∀n:Nat,Qk3 (List.replicate n 255)=none
 |0=>rfl
 |n+1=>by rw[dZ,Qk3,Qk4 n];rfl
theorem Qpa{b:UInt8}(I:b≠255)(n:Nat):∀a:List UInt8,Qk3 (a++b::List.replicate n 255)=some (a++[b+1])
 |[]=>by rw[aG,Qk3,Qk4];simp[I]
 |x::a=>by rw[aM,Qk3,Qpa I n a];rfl
abbrev inV(lo hi:ByteArray)(op:Bool):Value:=.agg #[.string lo,.string hi,.bool op]
theorem Qim(w:World)(lo hi:ByteArray)(op:Bool)(k:ByteArray):Calls prog 266 #[inV lo hi op,k] w λe w'=>e=.returned (Qjw hi op k)/\Ext w w':=by
 cases op
 ·go_in
  go_wp2_with fail;go_ret;exact⟨rfl,(gh w).alloc _ _⟩
 go_in;go_wp2_with fail;go_ret;exact⟨rfl,(gh w).alloc _ _⟩
structure Qor(At:World->Prop)(nv:Value)(es:List Ent):Prop where
 ext:∀{W W'},At W->Ext W W'->At W'
 ptr:∃p,nv=.pointer p
 height:∀W,At W->Calls prog 66 #[nv] W λe w'=>e=.returned (.int .i64 0)/\W=w'
 size:∀W,At W->Calls prog 70 #[nv] W λe w'=>e=.returned (.int .i64 es.length)/\∃q,w'=W.drewN q
 kids:∀W,At W->Calls prog 67 #[nv] W λe w'=>e=.returned (.slice none 0 0)/\W=w'
 entry:∀W,At W->∀(i:Nat) (e:Ent),es[i]? = some e->Calls prog 72 #[nv,.int .i64 i] W (Qdq e.1 e.2 W)
 none:∀W,At W->∀i:Int,(i<0\/es.length<=i)->Calls prog 72 #[nv,.int .i64 i] W λe w'=>e=.returned (.tuple #[Qfu ByteArray.empty zeroV Sl.none Sl.none,.bool false])/\Ext W w'
 sorted:Sorted es
 few:es.length<=8
def Qdm(F:Nat->Prop)(h:Nat)(t:PT h)(W:World):Prop:=IsN W F h t/\∀b,F b->b<W.heap.size
variable{h:Nat}{W W':World}
theorem Qdm.ext{t:PT h}(a:Qdm F h t W)(k:Ext W W'):Qdm F h t W':=⟨a.1.agree (k.agree a.2),λb I=>ab (a.2 b I) k.size⟩
theorem Qdm.lt{t:PT h}(a:Qdm F h t W):IsN W (Lt W) h t:=a.1.mono a.2
theorem Qnp{t:PT 0}(ok:OkT 0 t)(hs:Sorted (ents 0 t)):Qor (Qdm F 0 t) (ptr 0 t) (ents 0 t) where
 ext:=Qdm.ext
 ptr:=⟨_,rfl⟩
 height W a:=QaC a.1
 size W a:=Qf8 a.1 (ak (show(ents 0 t).length<=8 from ok) oN)
 kids W a:=QjP a.1
 entry W a i e h:=Qjx a.lt h
 none W a i h:=Qhs a.lt h
 sorted:=hs
 few:=ok
theorem QpE:Qor (λ_=>True) (.pointer none) [] where
 ext _ _:=trivial
 ptr:=⟨_,rfl⟩
 height W _:=QdV W
 size W _:=(QmD W).mono λe w' ⟨h1,h2⟩=>⟨h1,0,h2.symm⟩
 kids W _:=Qmd W
 entry W _ i e h:=by simp at h
 none W _ i _:=Qjy W i
 sorted:=List.Pairwise.nil
 few:=oO
variable{nv:Value}{b1 b2:Nat}
theorem QmW{k k':ByteArray}{v:Val}{i:Nat}(h1:W.cell? b1=some nv)(h2:W.cell? b2=some (.string k))
  (hp:∃p,nv=.pointer p) (Z:Calls prog 72 #[nv,i] W (Qdq k' v W)) :
  Calls prog 287 #[i,.pointer (some b1),.pointer (some b2)] W λe w'=>e=.returned (.bool !(klt k' k))/\Ext W w':=by
 obtain⟨p,rfl⟩:=hp;have I:=eX W _ h2;go_in;go_wp2_with fail;refine Z.mono ?_;rintro e w1 ⟨sl,so,rfl,N,-⟩;have q2:=(N.cell I).trans h2;have l2:b2<w1:=ab I N.size;have HX:=hY N;clear Z N h2;go_wp2;go_ret;exact⟨rfl,HX.o.alloc _ _⟩
theorem QoD{At:World->Prop}{es:List Ent}(Z:Qor At nv es)(hw:At w)(k:ByteArray):Calls prog 278 #[nv,k] w λe w'=>e=.returned (Qct es k)/\Ext w w':=by
 obtain⟨pp,rfl⟩:=Z.ptr;have hl:=Z.few;have b0:∀W,Ext w W->W.cell? w=some (.pointer pp)->W.cell? ⟨w+1,0,none⟩=some (.string k)->Calls prog 69 #[.int .i64 es.length,.func (.func 287) #[] #[.pointer (some w),.pointer (some ⟨w+1,0,none⟩)]] W (QcL es.length (λi=>!(klt ((es[i]?.map Prod.fst).getD ByteArray.empty) k)) W):=by
  intro W hW c1 c2;refine Qd0 287 _ _ es.length _ W (ff func287 kM rfl) oM ?_ ?_
  ·intro i W' hi a2
   obtain⟨x,hx⟩:∃x,es[i]? = some x:=⟨_,ac hi⟩;rw[hx];exact QmW ((a2.cell (eX W _ c1)).trans c1) ((a2.cell (eX W _ c2)).trans c2) ⟨_,rfl⟩ (Z.entry W' (Z.ext (Z.ext hw hW) a2) i x hx)
  intro i j b9 hj I;by_cases a3:i=j
  .subst a3;exact I
  obtain⟨x,hx⟩:∃x,es[i]? = some x:=⟨_,ac oM⟩;obtain⟨y,hy⟩:∃y,es[j]? = some y:=⟨_,ac hj⟩;have b6:=QdK Z.sorted (i:=i) (j:=j) oM hx hy;rw[hx]at I;rw[hy];simp only[Option.map_some,Option.getD_some,Bool.not_eq_true']at I ⊢;cases b3:klt y.1 k
  .rfl
  have:=QaH b6 b3;rw[I]at this;cases this
 obtain⟨HC,b5,HW⟩:=Yc Z b0 hw;clear Z b0 hw;go_in;go_wp2_with fail;generalize a8:World.alloc _ _=W0;obtain⟨a6,b4,a0,a4⟩:=Qas w _ _ _ _ W0 a8;have q0:W0.cell? w=some (.pointer pp):=a0.cell 0;obtain⟨a1,b8,b7⟩:=Yc a6 a0 a4;clear a8 a0 a4 a6 b4;refine(HC.o.size W0 (HC.o.ext HW.o a1.o)).mono ?_;rintro e w1 ⟨rfl,q,rfl⟩;clear q0;go_wp2_with fail;refine(b5.o _ (a1.o.drewN q) (b8.o.cell 0) (b7.o.cell 0)).mono ?_;rintro e w1 ⟨p,rfl,hp,a7,a9,a5⟩;have N:Qct es k=p:=Qlr hp (λi e hi he=>by
   have:(!(klt ((es[i]?.map Prod.fst).getD ByteArray.empty) k))=false:=a7 i hi;rw[he]at this;simpa using this) (λe he=>by
   have:(!(klt ((es[p]?.map Prod.fst).getD ByteArray.empty) k))=true:=a9 p (ao _) (ae.1 he).1;rw[he]at this;simpa using this)
 obtain⟨HE,HP⟩:=Yb ((a1.o.drewN q).trans a5) N;clear a7 a9 N a5;go_wp2_with fail;go_ret;exact⟨by rw[HP.o];rfl,HE.o⟩
theorem Qup{t:PT (h+1)}(ok:OkT (h+1) t){I:PT h}(N:I∈t.2):ents h I≠[]:=by
 have h1:=ok.2.2 I N;have:=Qbk h I h1.1 oM;intro e;rw[e]at this;simp at this
def Qgg(F:Nat->Prop)(T:RT)(W:World):Prop:=IsT W F T/\∀b,F b->b<W.heap.size
variable{T:RT}
theorem Qgg.ext(a:Qgg F T W)(k:Ext W W'):Qgg F T W':=⟨a.1.agree (k.agree a.2),λb I=>ab (a.2 b I) k.size⟩
abbrev ga:=@wpIn_wide
attribute [local go_sem] Oper.semAt_some
abbrev Qta(x:LE):Array Value:=#[.string x.k,QbV x.v x.sl x.so]
structure QmQ(all:List Ent)(pre:List LE)(x:LE)(W0 W1:World):Prop where
 at_:all[pre.length]? = some x.ent
 pre_:pre.map LE.ent=all.take pre.length
 val:RV W1 (In W0.heap.size W1.heap.size) x.v x.sl x.so
 key:x.k.size<=maxLen
def Qbj(lo hi:ByteArray)(op:Bool)(es all:List Ent)(pre:List LE)(J:List LE->(Nat->Prop)->World->Prop)(Jx:List LE->World->Prop)(C:Nat->Prop)(W:World)(e:Ending)(W':World):Prop:=
 (∃(new:List LE) (C':Nat->Prop) (W0:World),(e=.returned (.bool true)\/(e=.returned (.bool false)/\∃x∈es,Qjw hi op x.1=true))/\J (pre++new) C' W0/\Ext W0 W'/\new.map LE.ent=QaM lo hi op es/\St C W W'/\∀b,C' b->C b\/W.heap.size<=b)\/
 (e=.returned (.bool false)/\St C W W'/\∃pre' W0,Jx pre' W0/\Ext W0 W'/\pre'.map LE.ent <+: all)
variable{all rest:List Ent}{x:LE}
theorem QnU{pre I:List LE}{A:List Ent}{B:List Ent}(N:all=pre.map LE.ent++(QaM lo hi op (A++x.ent::B)++rest))(Z:I.map LE.ent=QaM lo hi op A)(h1:klt x.k lo=false)(h2:Qjw hi op x.k=false) :
  all[(pre++I).length]? = some x.ent/\(pre++I).map LE.ent=all.take (pre++I).length/\(I++[x]).map LE.ent=QaM lo hi op (A++[x.ent]):=by
 have e1:QaM lo hi op (A++x.ent::B)=QaM lo hi op A++(x.ent::QaM lo hi op B):=by
  rw[show A++x.ent::B=A++([x.ent]++B)from rfl,QaT,QaT,QhG (e:=x.ent) h1 h2];rfl
 rw[e1,<-Z]at N;have e2:all=(pre++I).map LE.ent++(x.ent ::(QaM lo hi op B++rest)):=by rw[N];simp
 have hl:(pre++I).length=((pre++I).map LE.ent).length:=oO
 refine⟨?_,?_,?_⟩
 .rw [e2,hl,aP (ao _),cu];rfl
 .rw [e2,hl,dI]
 rw[aB,Z,QaT,bn,bJ,QhG (e:=x.ent) h1 h2]
theorem Qlu{es:List Ent}(hs:Sorted es){i:Nat}{x:Ent}(hx:es[i]? = some x)(Z:Qjw hi op x.1=true):QaM lo hi op (es.take i)=QaM lo hi op es:=by
 have hd:es.drop i=x::es.drop (i+1):=by
  obtain⟨h1,rfl⟩:=ae.1 hx;exact aE h1
 conv=>rhs;rw[<-aX i es]
 rw[QaT,QdH (es:=es.drop i),aU];intro e I;have N:Sorted (es.drop i):=di (ed _ _) hs;rw[hd]at I N;rcases aH.1 I with rfl|I
 .exact Z
 exact Qo9 Z ((be.1 N).1 e I)
variable{n:Nat}
theorem QfW{α:Type}{l:List α}{x:α}(h:l[n]? = some x):l.take n++[x] <+: l:=by
 have e:l.take (n+1)=l.take n++[x]:=by rw[aJ,h];rfl
 rw[<-e];exact List.take_prefix _ _
structure Qt1(lo hi:ByteArray)(op:Bool)(es:List Ent)(At:World->Prop)(pre:List LE)(J:List LE->(Nat->Prop)->World->Prop)(C:Nat->Prop)(W:World)(i:Nat)(new:List LE)(C':Nat->Prop)(Wj wr:World):Prop where
 j:J (pre++new) C' Wj
 ext:Ext Wj wr
 new_:new.map LE.ent=QaM lo hi op (es.take i)
 st:St C W wr
 sub:∀b,C' b->C b\/W.heap.size<b
 box:Blk wr W.heap.size 297 #[.string lo,.string hi,.bool op]
 at_:At wr
variable{W0:World}
theorem QkG{At:World->Prop}{es:List Ent}(hc:Qor At nv es)(b8:∀W W',At W->Agree F W W'->W.heap.size<=W'.heap.size->At W')(e3:∀e∈es,e.1.size<=maxLen){pre:List LE}
  {l:Nat} {J:List LE->(Nat->Prop)->World->Prop} {Jx:List LE->World->Prop} (hT:Takes prog l Qta (QmQ all) J Jx) {C:Nat->Prop} (hJ:J pre C W0) (hx:Ext W0 W) (hw:At W) (hF:∀b,F b->b<W.heap.size/\¬C b) (b9:all=pre.map LE.ent++(QaM lo hi op es++rest)) :
  Calls prog 265 #[nv,inV lo hi op,.func (.yield l) #[] #[]] W (Qbj lo hi op es all pre J Jx C W):=by
 obtain⟨pp,rfl⟩:=hc.ptr;have hl:=hc.few;have e8:=hT.lt pre C W0 hJ;have d4:Ext W (W.alloc (.cells #[lo,hi,op] 297)):=(gh W).alloc _ _;have c8:=gm W 297 #[.string lo,.string hi,.bool op];have e0:=QoD hc (hc.ext hw d4) lo;obtain⟨d3,d7⟩:=QgQ es lo hc.sorted;obtain⟨p,hp⟩:∃p,Qct es lo=p:=⟨_,rfl⟩;rw[hp]at e0 d3 d7;have f7:p<=es.length:=by rw[<-hp];exact Qp8 _ _
 have q0:(W.alloc (.cells #[lo,hi,op] 297)).cell? W=some (.string lo):=c8.cell 0;obtain⟨HC,i2,g5,HT,HJ,HX,HW⟩:=Yh hc b8 e3 hT hJ hx hw;obtain⟨HF,e6,g4,f0,i5,i4,i3⟩:=Yh hF b9 c8 e0 d3 d7 d4;have g6:=hY e8;clear hc b8 e3 hT hJ hx hw hF b9 e0 d3 d7 hp c8 d4 e8;refine(eL (n:=5)).1 ?_;refine fK func265 rfl trivial ?_ rfl;simp only[ntmps265,zL,Nat.reduceAdd,Nat.reduceSub];gi_wp2_with fail;refine⟨trivial,?_⟩;refine(eL.2 f0.o).mono ?_;rintro e w1 ⟨rfl,e1⟩;obtain⟨d0,g7⟩:=Yb (i3.o.trans e1) (g4.o.ext e1);clear e1 q0 f0;gi_wp2_with fail;gi_loopw [7] (λv wr=>∃(i:Nat) (a1:List LE) (C':Nat->Prop) (Wj:World),v=.int .i64 i/\p<=i/\i<=es.length/\Qt1 lo hi op es At pre J C W i a1 C' Wj wr) (λv _=>es.length -(intOf v).toNat)
 case atStart=>exact⟨p,[],C,W0,rfl,ao _,f7,⟨by rw[aU];exact HJ.o,HX.o.trans d0.o,by rw[QfF i5.o];rfl,d0.o.st _,λb I=>.inl I,g7.o,HC.o.ext HW.o d0.o⟩⟩
 obtain⟨i,a1,C',Wj,rfl,i6,j7,hS⟩:=hrel;have N:=hY hS;have f8:=HC.o.size wr hS.at_;have i9:=hY f8;clear hS f8;gi_wp2_with fail;refine⟨trivial,?_⟩;refine(eL.2 i9.o).mono ?_;rintro e w2 ⟨rfl,q,rfl⟩;have a2:Ext wr (wr.drewN q):=(gh wr).drewN q;by_cases f3:i<es.length
 ·have g1:(i:Int)<(es.length:Int):=oM
  have j6:decide ((i:Int)<(es.length:Int))=true:=eI g1;obtain⟨x,d6⟩:∃x,es[i]? = some x:=⟨_,ac f3⟩;have f2:=HC.o.entry (wr.drewN q) (HC.o.ext N.o.at_ a2) i x d6;obtain⟨j2,a0⟩:=Yb f2 d6;clear f2 d6;gi_wp2_with fail;refine⟨trivial,?_⟩;refine(eL.2 j2.o).mono ?_;rintro e w3 ⟨sl,so,rfl,d5,f5⟩;have d8:Ext w3 (w3.alloc (.cells #[.string x.1,.int .i64 x.2.kind,.bool x.2.b,.int .i64 x.2.i,.string x.2.t,.slice sl.a x.2.l.length sl.c,.slice so.a x.2.ok.length so.c] 78)):=(gh w3).alloc _ _;have f1:=gm w3 78 #[.string x.1,.int .i64 x.2.kind,.bool x.2.b,.int .i64 x.2.i,.string x.2.t,.slice sl.a x.2.l.length sl.c,.slice so.a x.2.ok.length so.c];obtain⟨e4,a5,f9,f4⟩:=Ye ((a2.trans d5).trans d8) d8 f1 f5;have a8:=N.o.box.ext (a2.trans d5);have g8:w3.cell? W=some (.string lo):=a8.cell 0;have j1:w3.cell? ⟨W.heap.size,1,none⟩=some (.string hi):=a8.cell 1;have g3:w3.cell? ⟨W.heap.size,2,none⟩=some (.bool op):=a8.cell 2;have lb:=a8.lt;clear d5 d8 f1 f5 a8;gi_wp2_with fail;refine⟨trivial,?_⟩;refine(eL.2 (Qim _ lo hi op x.1)).mono ?_;rintro e w5 ⟨rfl,a4⟩;have a9:=e4.o.trans a4;have e7:=f9.o.ext a4;obtain⟨c0,c1,c2,c3,c4,c5,c6⟩:=e7.c7;have b5:=HC.o.ext N.o.at_ a9;have b7:=N.o.box.ext a9;have j8:=a5.o.size;have j9:=a4.size;have k0:=N.o.ext.size;have b3:RV w5 (In wr.heap.size w5.heap.size) x.2 sl so:=((f4.o.agree (a5.o.agree λb I=>I.2)).agree (a4.agree λb I=>by have:=I.2;omega)).mono λb I=>⟨I.1,by have:=I.2;omega⟩
  obtain⟨a7,i1,i8,f6⟩:=Ye a9 b5 b7 b3;clear a4 a9 e7 b5 b7 b3 f4 e4 a5 f9 g8 j1 g3;cases a3:Qjw hi op x.1 with
  | true=>
    gi_wp2_with fail;refine⟨λ_ h=>absurd h oO,?_⟩;gi_wp2_with fail;go_ret;refine .inl ⟨a1,C',Wj,.inr ⟨rfl,x,am a0.o,a3⟩,N.o.j,N.o.ext.trans a7.o,?_,N.o.st.ext a7.o,λb I=>(N.o.sub b I).imp_right bZ⟩;rw[N.o.new_,Qlu HC.o.sorted a0.o a3]
  | false=>
    have i7:klt x.1 lo=false:=i4.o x (by
     obtain⟨h1,rfl⟩:=ae.1 a0.o;rw[List.mem_iff_getElem?];exact⟨i-p,by rw[bc,Nat.add_sub_cancel' i6];exact a0.o⟩)
    have c9:es=es.take i++x::es.drop (i+1):=by
     obtain⟨h1,h2⟩:=ae.1 a0.o
     conv=>lhs;rw[<-aX i es,aE h1,h2]
    obtain⟨n1,n2,n3⟩:=QnU (x:=⟨x.1,x.2,sl,so⟩) (A:=es.take i) (B:=es.drop (i+1)) (all:=all) (rest:=rest) (pre:=pre) (by show all=pre.map LE.ent++(QaM lo hi op (es.take i++x::es.drop (i+1))++rest);rw[<-c9];exact e6.o) N.o.new_ i7 a3;have hy:=HT.o.take (pre++a1) C' ⟨x.1,x.2,sl,so⟩ Wj w5 N.o.j (N.o.ext.trans a7.o) ⟨n1,n2,f6.o.mono λb I=>⟨by have:=I.1;omega,I.2⟩,g5.o x (am a0.o)⟩;obtain⟨fn,j5,assign,body,hy,hR⟩:=hy;obtain⟨HR,i0,j4,g9,k1⟩:=Yf hR n1 n2 n3 c9;clear hR n1 n2 n3 c9;dsimp only[Qta]at hy;gi_wp2_with fail;refine HR.o.mono ?_;rintro e w6 (⟨rfl,C6,e2,Z,a6⟩ |⟨rfl,g0,Z⟩)
    ·have b6:J (pre++(a1++[⟨x.1,x.2,sl,so⟩])) C6 w6:=by rw [←aT];exact e2
     have b0:∀b,b<=W.heap.size->C' b->C b:=λb I h=>by
      rcases N.o.sub b h with h|h
      .exact h
      omega
     have b4:¬C' W.heap.size:=λh=>by
      have h1:=g6.o _ (b0 _ (ao _) h);have:=HX.o.size;omega
     have j0:=hY (show Qt1 lo hi op es At pre J C W (i+1) (a1++[⟨x.1,x.2,sl,so⟩]) C6 w6 w6 from
      ⟨b6,gh _,by rw[g9.o,aJ,a0.o];rfl,(N.o.st.ext a7.o).then Z (λb I h=>b0 b (bZ I) h),λb I=>by
        rcases a6 b I with h|h
        .exact N.o.sub b h
        exact .inr oM,Z.blk i8.o b4,i2.o w5 w6 i1.o (Z.agree.mono λb I=>⟨by have:=(HF.o b I).1;omega,λh=>(HF.o b I).2 (b0 b (bZ (HF.o b I).1) h)⟩) Z.size⟩)
     clear e2 Z a6 b6 b0 b4 hy;gi_wp2_with fail;go_roundw
     case rel=>exact⟨i+1,_,C6,w6,by go_num,oM,f3,j0.o⟩
     simp[intOf];omega
    gi_wp2_with fail;go_ret;have j3:St C W w6:=(N.o.st.ext a7.o).then Z λb I h=>by
     rcases N.o.sub b h with h|h
     .exact h
     omega
    exact .inr ⟨rfl,j3,_,w6,g0,gh _,by
     rw[aB,j4.o];exact QfW i0.o⟩
 obtain rfl:i=es.length:=oM
 gi_wp2_with fail;go_ret;refine .inl ⟨a1,C',Wj,.inl rfl,N.o.j,N.o.ext.trans a2,?_,N.o.st.ext a2,λb I=>(N.o.sub b I).imp_right bZ⟩;rw[N.o.new_,aR]
theorem Qhw{w:World}{F:Nat->Prop}:∀{h:Nat} {t:PT h},IsN w F h t->∀e∈ents h t,e.1.size<=maxLen
 | 0,t,⟨_,s,xs,_,h3,h4⟩,e,I=>by
   have I:e∈t.2:=I;rw[<-h4]at I;obtain⟨x,Z,rfl⟩:=bY.1 I;exact(h3.vals x Z).2
 | h+1,t,⟨_,s,_,_,h4⟩,e,I=>by
   have I:e∈t.2.flatMap (ents h):=I;obtain⟨k,N,I⟩:=cR.1 I;exact Qhw (h4 k N) e I
variable{W1:World}
theorem Qbj.from{es all:List Ent}{pre:List LE}{J:List LE->(Nat->Prop)->World->Prop}{Jx:List LE->World->Prop}{C:Nat->Prop}{e:Ending}(h:Qbj lo hi op es all pre J Jx C W1 e W')(N:Ext W W1):Qbj lo hi op es all pre J Jx C W e W':=by
 rcases h with⟨I,C',W0,h1,h2,h3,Z,h5,h6⟩|h
 .exact .inl ⟨I,C',W0,h1,h2,h3,Z,(N.st C).trans h5,λb hb=>(h6 b hb).imp_right λh=>ak N.size h⟩
 exact .inr ⟨h.1,(N.st C).trans h.2.1,h.2.2⟩
theorem Qbj.bool{es all:List Ent}{pre:List LE}{J:List LE->(Nat->Prop)->World->Prop}{Jx:List LE->World->Prop}{C:Nat->Prop}{e:Ending}(h:Qbj lo hi op es all pre J Jx C W e W'):∃b,e=.returned (.bool b):=by
 rcases h with⟨I,C',W0,h1|h1,_⟩|h
 .exact ⟨_,h1⟩
 .exact ⟨_,h1.1⟩
 exact⟨_,h.1⟩
theorem QkH{At:World->Prop}{es:List Ent}(hc:Qor At nv es)(N:∀W W',At W->Agree F W W'->W.heap.size<=W'.heap.size->At W')(a1:∀e∈es,e.1.size<=maxLen){pre:List LE}
  {l:Nat} {J:List LE->(Nat->Prop)->World->Prop} {Jx:List LE->World->Prop} (hT:Takes prog l Qta (QmQ all) J Jx) {C:Nat->Prop} (hJ:J pre C W0) (hx:Ext W0 W) (hw:At W) (hF:∀b,F b->b<W.heap.size/\¬C b) (Z:all=pre.map LE.ent++(QaM lo hi op es++rest)) :
  Calls prog 257 #[nv,inV lo hi op,.func (.yield l) #[] #[]] W (Qbj lo hi op es all pre J Jx C W):=by
 have I:Ext W (W.alloc (.cells #[lo,hi,op] 297)):=(gh W).alloc _ _;have hh:=hc.height _ (hc.ext hw I);have a0:=QkG hc N a1 hT hJ (hx.trans I) (hc.ext hw I) (λb hb=>⟨Nat.lt_of_lt_of_le (hF b hb).1 I.size,(hF b hb).2⟩) Z;obtain⟨pp,rfl⟩:=hc.ptr;obtain⟨a2,a3⟩:=Yb a0 I;clear hc N a1 hT hJ hx hw hF Z a0 I;go_in;go_wp2_with fail;refine hh.mono ?_;rintro e w1 ⟨rfl,rfl⟩;go_wp2_with fail;refine a2.o.mono ?_;rintro e w2 hp;obtain⟨b,rfl⟩:=hp.bool;have HP:=hY (hp.from a3.o);clear hp;go_wp2_with fail;go_ret;exact HP.o
structure QsQ(lo hi:ByteArray)(op:Bool)(F:Nat->Prop)(h:Nat)(t:PT (h+1))(pre:List LE)(J:List LE->(Nat->Prop)->World->Prop)(C:Nat->Prop)(W w3:World)(g:Nat)(j:Nat)(new:List LE)(C':Nat->Prop)(Wj wr:World):Prop where
 j_:J (pre++new) C' Wj
 ext:Ext Wj wr
 new_:new.map LE.ent=QaM lo hi op ((t.2.take j).flatMap (ents h))
 st:St C W wr
 sub:∀b,C' b->C b\/w3.heap.size<=b
 big:w3.heap.size<=wr.heap.size
 box:Blk wr W.heap.size 297 #[.string lo,.string hi,.bool op]
 rows:∀o,wr.cell? ⟨g,o,none⟩=w3.cell? ⟨g,o,none⟩
 at_:Qdm F (h+1) t wr
theorem QqM{l:Nat}{J:List LE->(Nat->Prop)->World->Prop}{Jx:List LE->World->Prop}(hT:Takes prog l Qta (QmQ all) J Jx) 
  (ih:∀(t:PT h) (pre:List LE) (rest:List Ent) (C:Nat->Prop) (W0 W:World),J pre C W0->Ext W0 W->Qdm F h t W->(∀b,F b->¬C b)->OkT h t->Sorted (ents h t)->(ents h t).length<=1000000->all=pre.map LE.ent++(QaM lo hi op (ents h t)++rest)->
    Calls prog 257 #[ptr h t,inV lo hi op,.func (.yield l) #[] #[]] W (Qbj lo hi op (ents h t) all pre J Jx C W))
  {t:PT (h+1)} {pre:List LE} {C:Nat->Prop} (hJ:J pre C W0) (hx:Ext W0 W) (hn:Qdm F (h+1) t W) (hF:∀b,F b->¬C b) (ok:OkT (h+1) t) (hs:Sorted (ents (h+1) t)) (hl:(ents (h+1) t).length<=1000000) (e0:all=pre.map LE.ent++(QaM lo hi op (ents (h+1) t)++rest)) :
  Calls prog 257 #[ptr (h+1) t,inV lo hi op,.func (.yield l) #[] #[]] W (Qbj lo hi op (ents (h+1) t) all pre J Jx C W):=by
 have g7:=ok.2.1;have g9:=ok.1;have f1:=hT.lt pre C W0 hJ;have d0:Ext W (W.alloc (.cells #[lo,hi,op] 297)):=(gh W).alloc _ _;have c9:=gm W 297 #[.string lo,.string hi,.bool op];have hh:=QaC (hn.ext d0).1;have f4:=Qb9 (hn.ext d0).1 oM;have j4:h+1<1000000:=ab (QcT (h+1) t ok (by show 1<=t.2.length;omega)) hl;have j9:(((h+1:Nat):Int)==0)=false:=eJ.2 oM;have j0:((h:Int)+1==0)=false:=eJ.2 oM;obtain⟨HT,g8,HJ,HX,HN,HF,f6⟩:=Yh hT ih hJ hx hn hF ok;obtain⟨HS,HL,f0,f2,e8,g6⟩:=Yg hs hl e0 d0 c9 f1;clear hT ih hJ hx hn hF ok hs hl e0 d0 c9 f1;refine(eL (n:=5)).1 ?_;refine fK func257 rfl trivial ?_ rfl;simp only[ntmps257,zL,Nat.reduceAdd,Nat.reduceSub];gi_wp2_with fail;refine⟨trivial,?_⟩;refine(eL.2 hh).mono ?_;rintro e w1 ⟨rfl,rfl⟩;gi_wp2_with fail;refine⟨trivial,?_⟩;refine(eL.2 f4).mono ?_;rintro e w3 ⟨sk,rfl,c0,e4⟩;have f7:Rd w3 (Lt w3.heap.size) 1 sk t.2.length (ptrs h t.2):=(gz c0).mono λi hi=>hi.2
 obtain⟨g,k0,rfl,i9,j5,j2,d7⟩:=QaJ c0 oM;have g5:=d7.lt;have j8:W.heap.size<g:=by simp at i9;omega
 obtain⟨i2,d5,i5⟩:=Yc f7 (f2.o.trans e4) (e8.o.ext e4);have j1:=d5.o.size;have j7:=HX.o.size;clear c0 f7 e4 d7 f4 hh e8 f2;gi_wp2_with fail;gi_loopw [19] (λv wr=>∃(j:Nat) (a3:List LE) (C':Nat->Prop) (Wj:World),v=.int .i64 j/\j<=t.2.length/\QsQ lo hi op F h t pre J C W w3 g j a3 C' Wj wr) (λv _=>t.2.length -(intOf v).toNat)
 case atStart=>exact⟨0,[],C,W0,rfl,aA _,⟨by rw[aU];exact HJ.o,HX.o.trans d5.o,rfl,d5.o.st _,λb hb=>.inl hb,ao _,i5.o,λ_=>rfl,HN.o.ext d5.o⟩⟩
 obtain⟨j,a3,C',Wj,rfl,hj,hS⟩:=hrel;have I:=hY hS;clear hS;by_cases e6:j<t.2.length
 ·obtain ⟨N,a4⟩:∃ N,t.2[j]? = some N:=⟨_,ac e6⟩
  obtain⟨b,o',f3,-,-,-,g0⟩:=i2.o.QcV a4;obtain⟨rfl,rfl⟩:g=b/\0=o':=by simpa using f3
  have kc:wr.cell? ⟨g,j,none⟩=some (ptr h N):=by rw[I.o.rows];simpa using g0
  have j6:(j:Int)<(t.2.length:Int):=oM
  have d6:=am a4;have d3:Qdm F h N wr:=⟨I.o.at_.1.2.choose_spec.2.2 N d6,I.o.at_.2⟩;have f8:Sorted (ents h N):=QaL HS.o N d6;have d8:=QbI a4;have b7:ents (h+1) t=(t.2.take j).flatMap (ents h)++(ents h N++(t.2.drop (j+1)).flatMap (ents h)):=by
   show t.2.flatMap (ents h)=_
   conv=>lhs;rw[d8]
   simp only[List.flatMap_append,List.flatMap_cons]
  have i0:(ents h N).length<=1000000:=by have:=HL.o;rw[b7]at this;simp only[List.length_append]at this;omega
  have b9:(t.2.take (j+1)).flatMap (ents h)=(t.2.take j).flatMap (ents h)++ents h N:=by rw[aJ,a4];simp
  obtain⟨b6,b0⟩:=Yb (λW1 (hW:Ext wr W1)=>Qme (d3.ext hW).1) (λW1 (hW:Ext wr W1)=>Qgv (d3.ext hW).1);have a8:=I.o.box;obtain⟨Z,i6,d4,a2,a6⟩:=Yf (show ∀W1,Ext wr W1->W1.cell? W=some (.string lo)/\W1.cell? ⟨W.heap.size,1,none⟩=some (.string hi)/\W1.cell? ⟨W.heap.size,2,none⟩=some (.bool op) fromλW1 hW=>⟨(a8.ext hW).cell 0,(a8.ext hW).cell 1,(a8.ext hW).cell 2⟩) d3 f8 b7 b9;clear a4 f3 g0 d3 f8 d8 b7 b9 a8;cases e7:klt (Qbl (ents h N)) lo with
  | true=>
    have c9:Op.bytesLess (Qbl (ents h N)).toList lo.toList=true:=e7;gi_wp2_with fail;refine ga.2 ?_;refine eO (S:=(λw'=>Ext wr w')) kM (((gh wr).drew)) (λhHeld=>?_);refine Qaf 0 (some 24) Z hHeld ?_;refine Qaf 2 (some 26) Z hHeld ?_;refine Qaf 3 (some 27) Z hHeld ?_;refine Qac (i:=1) kM rfl (by rfl) (λK hK=>?_);go_simp
    (refine(b6.o _ hHeld).mono ?_;rintro e w5 ⟨rfl,rfl⟩)
    refine hK.out _ _ (hHeld) (λhHeld=>?_);clear hK K
    try go_frame
    refine Qaf 4 (some 28) Z hHeld ?_;refine Qaf 5 (some 23) Z hHeld ?_;refine eV kM ?_ _;have b3:=hY hHeld;clear hHeld;have i1:=hY (show QsQ lo hi op F h t pre J C W w3 g (j+1) a3 C' Wj wr.drew from
     ⟨I.o.j_,I.o.ext.trans b3.o,by rw[I.o.new_,a6.o,QaT,QfF (Qnt d4.o e7),aU],I.o.st.ext b3.o,I.o.sub,by have:=b3.o.size;have:=I.o.big;omega,I.o.box.ext b3.o,λo=>(b3.o.cell (by have:=I.o.big;omega)).trans (I.o.rows o),I.o.at_.ext b3.o⟩)
    generalize wr.drew=w6 at *;gi_wp2_with fail;go_roundw
    case rel=>exact⟨j+1,a3,C',Wj,by go_num,e6,i1.o⟩
    simp[intOf];omega
  | false=>
    have c9:Op.bytesLess (Qbl (ents h N)).toList lo.toList=false:=e7;gi_wp2_with fail;refine ga.2 ?_;refine eO (S:=(λw'=>Ext wr w')) kM (((gh wr).drew)) (λhHeld=>?_);refine Qaf 0 (some 24) Z hHeld ?_;refine Qaf 2 (some 26) Z hHeld ?_;refine Qaf 3 (some 27) Z hHeld ?_;refine Qac (i:=1) kM rfl (by rfl) (λK hK=>?_);go_simp
    (refine(b6.o _ hHeld).mono ?_;rintro e w5 ⟨rfl,rfl⟩)
    refine hK.out _ _ (hHeld) (λhHeld=>?_);clear hK K
    try go_frame
    refine Qaf 4 (some 28) Z hHeld ?_;refine Qaf 5 (some 23) Z hHeld ?_;refine eV kM ?_ _;cases a7:Qjw hi op (Qav (ents h N))with
    | true=>
      have c8:=hY (show ∀W1,Calls prog 266 #[inV lo hi op,.string (Qav (ents h N))] W1 λe w'=>e=.returned true/\Ext W1 w' fromλW1=>by have:=Qim W1 lo hi op (Qav (ents h N));rwa[a7]at this);gi_wp2_with fail;refine ga.2 ?_;refine eO (S:=(λw'=>Ext wr w')) kM ((hHeld.drew)) (λhHeld=>?_);refine Qaf 0 (some 30) Z hHeld ?_;refine Qaf 1 (some 31) Z hHeld ?_;refine Qac (i:=2) kM rfl (by rfl) (λK hK=>?_);go_simp
      (refine(b0.o _ hHeld).mono ?_;rintro e w6 ⟨rfl,rfl⟩)
      refine hK.out _ _ (hHeld) (λhHeld=>?_);clear hK K
      try go_frame
      refine Qac (i:=3) kM rfl (by rfl) (λK hK=>?_);go_simp
      (refine(c8.o _).mono ?_;rintro e w7 ⟨rfl,b8⟩)
      refine hK.out _ _ (hHeld.trans b8) (λhHeld=>?_);clear hK K
      try go_frame
      refine Qaf 4 (some 29) Z hHeld ?_;refine eV kM ?_ _;have a1:=hY hHeld;clear hHeld b8;gi_wp2_with fail;go_ret;have f5:=Qup f6.o d6;obtain⟨x,b4⟩:=List.exists_mem_of_ne_nil _ f5;have c1:=Qfx d4.o a7 x b4;refine .inl ⟨a3,C',Wj,.inr ⟨rfl,x,by rw[a2.o];simp[b4],c1⟩,I.o.j_,I.o.ext.trans a1.o,?_,I.o.st.ext a1.o,λb hb=>(I.o.sub b hb).imp_right λh=>oM⟩;have c3:=HS.o;rw[a2.o]at c3;rw[I.o.new_,a2.o,QaT,QaT,QdH (Qfx d4.o a7),QeX (A:=ents h N) (Qck c3).2.1 ⟨x,b4,c1⟩,aU,aU]
    | false=>
      have c8:=hY (show ∀W1,Calls prog 266 #[inV lo hi op,.string (Qav (ents h N))] W1 λe w'=>e=.returned false/\Ext W1 w' fromλW1=>by have:=Qim W1 lo hi op (Qav (ents h N));rwa[a7]at this);gi_wp2_with fail;refine ga.2 ?_;refine eO (S:=(λw'=>Ext wr w')) kM ((hHeld.drew)) (λhHeld=>?_);refine Qaf 0 (some 30) Z hHeld ?_;refine Qaf 1 (some 31) Z hHeld ?_;refine Qac (i:=2) kM rfl (by rfl) (λK hK=>?_);go_simp
      (refine(b0.o _ hHeld).mono ?_;rintro e w6 ⟨rfl,rfl⟩)
      refine hK.out _ _ (hHeld) (λhHeld=>?_);clear hK K
      try go_frame
      refine Qac (i:=3) kM rfl (by rfl) (λK hK=>?_);go_simp
      (refine(c8.o _).mono ?_;rintro e w7 ⟨rfl,b8⟩)
      refine hK.out _ _ (hHeld.trans b8) (λhHeld=>?_);clear hK K
      try go_frame
      refine Qaf 4 (some 29) Z hHeld ?_;refine eV kM ?_ _;have a1:=hY hHeld;obtain⟨q0,q1,q2⟩:=Z.o w7 hHeld;have g4:∀b,F b->¬C' b:=λb hb h=>by
       rcases I.o.sub b h with h|h
       .exact HF.o b hb h
       have:=(HN.o.2 b hb);omega
      have g3:=g8.o N (pre++a3) (QaM lo hi op ((t.2.drop (j+1)).flatMap (ents h))++rest) C' Wj w7 I.o.j_ (I.o.ext.trans a1.o) (i6.o.ext a1.o) g4 (f6.o.2.2 N d6).1 d4.o i0 (by
       rw[f0.o,a2.o,aB,I.o.new_,QaT,QaT];simp only[List.append_assoc])
      have i3:=hY g3;have j3:=a1.o.size;clear hHeld b8 g4 g3;gi_wp2_with fail;refine⟨trivial,?_⟩;refine(eL.2 i3.o).mono ?_;rintro e w8 (⟨a9,C8,W8,i4,c2,c6,e1,a0,a5⟩ |⟨rfl,a0,f9,W8,c2,c6,i7⟩)
      ·have e2:St C W w8:=(I.o.st.ext a1.o).then a0 fun b hb h=>by
        rcases I.o.sub b h with h|h
        .exact h
        omega
       have c7:∀b,C8 b->C b\/w3.heap.size<=b:=λb hb=>by
        rcases a5 b hb with h|h
        .exact I.o.sub b h
        exact .inr (by have:=I.o.big;omega)
       have b5:J (pre++(a3++a9)) C8 W8:=by rw[<-aT];exact c2
       have c4:(a3++a9).map LE.ent=QaM lo hi op ((t.2.take (j+1)).flatMap (ents h)):=by rw[aB,I.o.new_,e1,a6.o,QaT]
       rcases i4 with rfl |⟨rfl,x,b4,c1⟩
       ·have e3:∀ b,b<w3.heap.size→W.heap.size≤b→¬C' b:=fun b h1 h2 h=>by
         rcases I.o.sub b h with h|h
         .have:=g6.o b h;omega
         omega
        have i8:=hY (show QsQ lo hi op F h t pre J C W w3 g (j+1) (a3++a9) C8 W8 w8 from
         ⟨b5,c6,c4,e2,c7,by have:=a0.size;have:=I.o.big;omega,a0.blk (I.o.box.ext a1.o) (e3 _ oM (ao _)),
           λo=>(a0.cell (by have:=I.o.big;omega) (e3 _ g5 oM)).trans ((a1.o.cell (by have:=I.o.big;omega)).trans (I.o.rows o)),
           ⟨(I.o.at_.ext a1.o).1.agree (a0.agree.mono fun b hb=>⟨by have:=(I.o.at_.ext a1.o).2 b hb;omega,fun h=>by
             rcases I.o.sub b h with h|h
             .exact HF.o b hb h
             have:=(HN.o.2 b hb);omega⟩),λb hb=>by have:=a0.size;have:=HN.o.2 b hb;have:=I.o.big;omega⟩⟩)
        clear e2 c7 b5 c4 c2 c6 e1 a0 a5 e3;gi_wp2_with fail;go_roundw
        case rel=>exact⟨j+1,_,C8,W8,by go_num,e6,i8.o⟩
        simp[intOf];omega
       clear a0 a5 e1 c2;gi_wp2_with fail;go_ret;refine .inl ⟨a3++a9,C8,W8,.inr ⟨rfl,x,by rw[a2.o];simp[b4],c1⟩,b5,c6,?_,e2,λb hb=>(c7 b hb).imp_right λh=>oM⟩;have c3:=HS.o;rw[a2.o]at c3;rw[c4,a6.o,a2.o,QaT,QaT,QaT,QeX (A:=ents h N) (Qck c3).2.1 ⟨x,b4,c1⟩,aU]
      gi_wp2_with fail;go_ret;exact .inr ⟨rfl,(I.o.st.ext a1.o).then a0 (λb hb h=>by
       rcases I.o.sub b h with h|h
       .exact h
       omega),f9,W8,c2,c6,i7⟩
 obtain rfl:j=t.2.length:=oM
 gi_wp2_with fail;go_ret;refine .inl ⟨a3,C',Wj,.inl rfl,I.o.j_,I.o.ext,?_,I.o.st,λb hb=>(I.o.sub b hb).imp_right λh=>oM⟩;rw[I.o.new_,aR];rfl
theorem QmI{F:Nat->Prop}{lo hi:ByteArray}{op:Bool}{all:List Ent}{l:Nat}{J:List LE->(Nat->Prop)->World->Prop}{Jx:List LE->World->Prop}(N:Takes prog l Qta (QmQ all) J Jx) :
  ∀(h:Nat) (t:PT h) (pre:List LE) (rest:List Ent) (C:Nat->Prop) (W0 W:World),J pre C W0->Ext W0 W->Qdm F h t W->(∀b,F b->¬C b)->OkT h t->Sorted (ents h t)->(ents h t).length<=1000000->all=pre.map LE.ent++(QaM lo hi op (ents h t)++rest)->
   Calls prog 257 #[ptr h t,inV lo hi op,.func (.yield l) #[] #[]] W (Qbj lo hi op (ents h t) all pre J Jx C W)
 | 0,t,pre,rest,C,W0,W,hJ,hx,hn,hF,ok,hs,_,hall=>
   QkH (F:=F) (Qnp ok hs) (λW W' a Z hz=>⟨a.1.agree Z,λb I=>ab (a.2 b I) hz⟩) (Qhw hn.1) N hJ hx hn (λb I=>⟨hn.2 b I,hF b I⟩) hall
 | h+1,t,pre,rest,C,W0,W,hJ,hx,hn,hF,ok,hs,hl,hall=>
   QqM N (λt pre rest C W0 W a b c d e f g i=>QmI N h t pre rest C W0 W a b c d e f g i) hJ hx hn hF ok hs hl hall
theorem QqL{l:Nat}{J:List LE->(Nat->Prop)->World->Prop}{Jx:List LE->World->Prop}(hT:Takes prog l Qta (QmQ (QaM lo hi op (Qaa T))) J Jx)
  {C:Nat->Prop} (Z:J [] C W0) (hx:Ext W0 W) (I:Qgg F T W) (hF:∀b,F b->¬C b) (ok:OkR T) (N:(Qaa T).length<=1000000) :
  Calls prog 257 #[QaK T,inV lo hi op,.func (.yield l) #[] #[]] W (Qbj lo hi op (Qaa T) (QaM lo hi op (Qaa T)) [] J Jx C W):=by
 match T,I,ok,N with
 |none,_,_,_=>exact QkH (F:=λ_=>False) (rest:=[]) QpE (λ_ _ _ _ _=>trivial) (λe he=>by cases he) hT Z hx trivial (λb hb=>hb.elim) (by simp[Qaa])
 |some ⟨h,t⟩,I,ok,N=>exact QmI hT h t [] [] C W0 W Z hx I hF ok.1 ok.2.2 N (by simp[Qaa])
end Go.Proofs.YtdiecmkpbadgjaaGreatDoor
namespace Go.Proofs.YtdiecmkpbadgjaaGreatDoor
open Go.Proofs.Tryz
open Go.RowKit Go.Shelf
structure Qdr(w:World)(B:Nat)(T:RT)(lo hi:ByteArray)(op:Bool):Prop where
 bt:Blk w B 48 #[QaK T]
 bl:Blk w (B+1) 9 #[.string lo]
 bh:Blk w (B+2) 9 #[.string hi]
 bo:Blk w (B+3) 4 #[.bool op]
def Qt3(F:Nat->Prop)(B:Nat)(b:Nat):Prop:=F b\/(B<=b/\b<B+4)
abbrev Qmy(B:Nat):Array Value:=#[.pointer (some ⟨B,0,none⟩),.pointer (some ⟨B+1,0,none⟩),.pointer (some ⟨B+2,0,none⟩),.pointer (some ⟨B+3,0,none⟩)]
variable{w w':World}{B:Nat}{T:RT}{lo hi:ByteArray}{op:Bool}{F:Nat->Prop}
theorem Qdr.agree(h:Qdr w B T lo hi op)(I:Agree F w w')(hF:∀b,B<=b->b<B+4->F b):Qdr w' B T lo hi op:=
 ⟨h.bt.agree I (hF _ oM oM),h.bl.agree I (hF _ oM oM),h.bh.agree I (hF _ oM oM),h.bo.agree I (hF _ oM oM)⟩
theorem Qdr.lt(h:Qdr w B T lo hi op):B+3<w.heap.size:=h.bo.lt
variable{W W':World}
theorem Qbj.st{es all:List Ent}{pre:List LE}{J:List LE->(Nat->Prop)->World->Prop}{Jx:List LE->World->Prop}{C:Nat->Prop}{e:Ending}(h:Qbj lo hi op es all pre J Jx C W e W'):St C W W':=by
 rcases h with⟨_,_,_,_,_,_,_,I,_⟩ |⟨_,I,_⟩<;>exact I
variable{w0:World}
theorem Qqi(hT:Qgg F T w0)(ok:OkR T)(hl:(Qaa T).length<=1000000)(hB:Qdr w0 B T lo hi op) :
  Qvd prog 256 (Qmy B) Qta (Qt3 F B) (QmQ (QaM lo hi op (Qaa T))) (λxs=>xs.map LE.ent=QaM lo hi op (Qaa T)) (λpre=>pre.map LE.ent <+: QaM lo hi op (Qaa T)) w0:=by
 intro l J Jx C W a3 hA a9 N hJ;have Z:Qdr W B T lo hi op:=hB.agree hA λb h1 h2=>.inr ⟨h1,h2⟩
 have a5:Qgg F T W:=⟨hT.1.agree (hA.mono λb hb=>.inl hb),λb hb=>ab (hT.2 b hb) a9⟩;have a1:=λW1 (hW:Ext W W1)=>QqL a3 hJ hW (a5.ext hW) (λb hb h=>N b h (.inl hb)) ok hl
 have b3:=a3.lt [] C W hJ;obtain⟨p,hp⟩:=Qaj T;rw[hp]at a1;have a2:=Z.bt;rw[hp]at a2;have I:=hY (show ∀W1,St C W W1->W1.cell? B=some (.pointer p)/\W1.cell? ⟨B+1,0,none⟩=some (.string lo)/\W1.cell? ⟨B+2,0,none⟩=some (.string hi)/\W1.cell? ⟨B+3,0,none⟩=some (.bool op) fromλW1 hW=>
  ⟨(hW.blk a2 λh=>N _ h (.inr ⟨oM,oM⟩)).cell 0,(hW.blk Z.bl λh=>N _ h (.inr ⟨oM,oM⟩)).cell 0,(hW.blk Z.bh λh=>N _ h (.inr ⟨oM,oM⟩)).cell 0,(hW.blk Z.bo λh=>N _ h (.inr ⟨oM,oM⟩)).cell 0⟩)
 have b0:=hY a1;clear a3 hA a9 N hJ Z a5 a1 hp hT ok hl hB a2 b3;show Calls _ _ #[.func (.yield l) #[] #[],.pointer (some B),.pointer (some ⟨B+1,0,none⟩),.pointer (some ⟨B+2,0,none⟩),.pointer (some ⟨B+3,0,none⟩)] W _;go_in;go_wp2_with fail;refine eO (S:=(λw'=>St C W w')) kM (((gB C W).drew)) (λhHeld=>?_);refine Qaf 0 (some 6) I hHeld ?_;refine Qaf 2 (some 8) I hHeld ?_;refine Qaf 3 (some 9) I hHeld ?_;refine Qaf 4 (some 10) I hHeld ?_;refine Qaf 5 (some 11) I hHeld ?_;refine Qaf 6 (some 12) I hHeld ?_;refine Qac (i:=1) kM rfl (by rfl) (λK hK=>?_);go_simp
 (refine(QdN _ _).mono ?_;rintro e w1 ⟨rfl,a0⟩;replace a0:=((gh W).drew).trans a0;have a7:=hY a0)
 refine hK.out _ _ (a0.st C) (λhHeld=>?_);clear hK K
 try go_frame
 refine Qac (i:=7) kM rfl (by rfl) (λK hK=>?_);go_simp
 (refine(b0.o _ a7.o).mono ?_;intro e w2 a4;obtain⟨b2,rfl⟩:=a4.bool;have a8:=hY (a4.from a7.o);clear a4)
 refine hK.out _ _ (a8.o.st) (λhHeld=>?_);clear hK K
 try go_frame
 refine eV kM ?_ _;go_wp2_with fail;go_end0;refine⟨⟨_,rfl⟩,?_⟩;rcases a8.o with⟨b4,C',W0,-,h2,h3,h4,-,-⟩ |⟨-,-,a6,W0,h2,h3,h4⟩
 .exact .inl ⟨b4,C',W0,h4,h2,h3⟩
 exact .inr ⟨a6,W0,h4,h2,h3⟩
def Qot(T:RT)(lo hi:ByteArray)(op:Bool)(w:World)(e:Ending)(w':World):Prop:=
 ∃B,e=.returned (.func (.func 256) #[] (Qmy B))/\Ext w w'/\Qdr w' B T lo hi op/\w.heap.size<=B
theorem Qqh(w:World)(T:RT)(lo hi:ByteArray)(op:Bool):Calls prog 233 #[Qao T,lo,hi,op] w (Qot T lo hi op w):=by
 obtain⟨p,I⟩:=Qaj T;rw[Qao,I];go_in;go_wp2_with fail;go_ret;obtain⟨Z,-,b0,b1,b2,N⟩:=Qgx w 48 9 9 4 #[.pointer p] #[.string lo] #[.string hi] #[.bool op] _ rfl;exact⟨w,rfl,Z,⟨by rw[I];exact b0,b1,b2,N⟩,ao _⟩
theorem Bw.trans{a b c:World}(h:Below a.heap.size a b)(k:Below b.heap.size b c):Below a.heap.size a c:=h.trans (k.mono h.size)
theorem Bw.ext{a b c:World}(h:Below a.heap.size a b)(k:Ext b c):Below a.heap.size a c:=Bw.trans h k.below
theorem Qcm(p:ByteArray):p.toList=p.data.toList:=eQ p
theorem QbR(p:ByteArray):p.toList.length=p.size:=by rw[Qcm,aL];rfl
theorem Qgi{p:ByteArray}{i:Nat}(h:i<p.size):p.toList[i]? = some p[i]:=by
 rw[Qcm,bT];exact cz h
def QkS(p:ByteArray)(w:World)(e:Ending)(w':World):Prop:=
 Below w.heap.size w w'/\∃(end_:ByteArray) (ok:Bool),e=.returned (.tuple #[.string end_,.bool ok])/\(match Qk3 p.toList with|none=>ok=false/\end_=ByteArray.empty|some q=>ok=true/\end_.toList=q)
theorem QpM(l:List UInt8):(ByteArray.mk l.toArray).toList=l:=by rw[Qcm]
theorem QnW{p:ByteArray}{i n:Nat}(h:i<p.size)(I:p.toList.drop (i+1)=List.replicate n 255):p.toList=p.toList.take i++p[i]::List.replicate n 255:=by
 have h1:=Qgi h;obtain⟨h2,N⟩:=ae.1 h1
 conv=>lhs;rw[<-aX i p.toList,aE h2,N,I]
theorem extract_toList(p:ByteArray)(k:Nat):(p.extract 0 k).toList=p.toList.take k:=by
 rw[Qcm,Qcm,ByteArray.data_extract];simp
theorem bytesRow_at{s:ByteArray}{cap i:Nat}{b:UInt8}(h:s.toList[i]? = some b):(bytesRow s cap)[i]? = some (.int .u8 (b.toNat:Int)):=by
 rw[Qcm,bT]at h;have hi:=(az.1 h).1;unfold bytesRow;rw[Array.getElem?_append_left (by simpa using hi),Array.getElem?_map,h];rfl
theorem Qh8(s:ByteArray)(cap:Nat):s.size<=(bytesRow s cap).size:=by
 unfold bytesRow;rw[dG,Array.size_map];exact dy _ _
theorem QmZ(w:World)(s:ByteArray)(cap:Nat)(t:TypeId){i:Nat}{b c:UInt8}(N:s.toList[i]? = some b)(W:World)(I:W=(w.alloc (.cells (bytesRow s cap) t ((bytesRow s cap).size,(bytesRow s cap).size+1))).drew) :
  W.cell? ⟨w,i,none⟩=some (.int .u8 (b.toNat:Int))/\W.frozen? ⟨w,i,none⟩=false/\w.heap.size<W.heap.size/\Below w.heap.size w W/\
   ∀j (x:UInt8),(s.toList.set i c)[j]? = some x->(W.setCell ⟨w,i,none⟩ (.int .u8 (c.toNat:Int))).cell? ⟨w,j,none⟩=some (.int .u8 (x.toNat:Int)):=by
 have hr:∀j,W.cell? ⟨w,j,none⟩=(bytesRow s cap)[j]?:=λj=>by
  rw[I];exact World.cell?_alloc_mark w _ _ _ j
 have hi:i<s.size:=by
  have:=(ae.1 N).1;rwa[QbR]at this
 have hh:W.heap[w.heap.size]? = some (.cells (bytesRow s cap) t ((bytesRow s cap).size,(bytesRow s cap).size+1)):=by
  rw[I];exact fI w _
 refine⟨by rw[hr];exact bytesRow_at N,?_,by rw[I];show w.heap.size<(w.alloc _).heap.size;rw[eK];exact dz _,by rw[I];exact((Below.refl _ w).alloc (ao _) _).drew,λj x Z=>?_⟩
 ·unfold World.frozen?
  rw[hh];have:=Qh8 s cap;simp;omega
 by_cases hj:j=i
 ·subst hj
  rw[df (ae.1 N).1]at Z;cases Z;exact fc W _ _ ((hr j).trans (bytesRow_at N))
 rw[du (λe=>hj e.symm)]at Z;rw[Qae _ _ _ _ _ (λe=>hj e.symm),hr];exact bytesRow_at Z
theorem Qlc(w:World)(p:ByteArray)(hp:p.size<=maxLen):Calls prog 232 #[p] w (QkS p w):=by
 unfold maxLen at hp;have b6:∀(s:ByteArray) (W:World),(convert 9 249 (.string s)).run prog W=.ok (.slice (some W) s.size (grownCap W s.size 0 5)) (W.drew.alloc (.cells (bytesRow s (grownCap W s.size 0 5)) 5 ((bytesRow s (grownCap W s.size 0 5)).size,(bytesRow s (grownCap W s.size 0 5)).size+1))):=
  λs W=>run_bytes_of_string W 9 249 5 s underlying9 underlying249 underlying5
 have d0:wrap64 ((p.size:Int)-1)=(p.size:Int)-1:=by unfold wrap64;omega
 go_in;go_wp2_with fail;go_step3;go_wp2_with fail;go_step3;go_wp2_with fail;go_loopw[4] (λv wr=>wr=w/\((v=.int .i64 (-1)/\Qk3 p.toList=none)\/∃i,i<p.size/\v=.int .i64 (i:Int)/\p.toList.drop (i+1)=List.replicate (p.size -(i+1)) 255)) (λv _=>(intOf v+1).toNat)
 case atStart=>
  refine⟨rfl,?_⟩;by_cases h0:p.size=0
  ·refine .inl ⟨by rw [h0];rfl,?_⟩
   have:p.toList=[]:=au (by rw[QbR];exact h0);rw[this];rfl
  refine .inr ⟨p.size-1,oM,by congr 1;omega,?_⟩;rw[bX (by rw[QbR];omega),show p.size -(p.size-1+1)=0 from oM];rfl
 obtain⟨rfl,⟨rfl,hn⟩ |⟨i,hi,rfl,hr⟩⟩:=hrel
 ·have HN:=hY hn
  clear hn;go_wp2_with fail;rw[Exit.noGoto_ret];refine eN (v:=.tuple #[ByteArray.empty,false]) (by simp[results,results232,go_sem];rfl) rfl ?_;exact⟨Below.refl _ _,ByteArray.empty,false,rfl,by rw[HN.o];exact⟨rfl,rfl⟩⟩
 have c7:(i:Int)<(p.size:Int):=oM
 have c9:(0:Int)<=(i:Int):=oM
 have a6:=QnW hi hr;obtain⟨b3,HR⟩:=Yb a6 hr;have c8:wrap64 ((i:Int)-1)=(i:Int)-1:=by unfold wrap64;omega
 clear a6 hr;by_cases I:p[i]=255
 ·have b7:(((p[i].toNat:Nat):Int) != 255)=false:=by rw [I];rfl
  go_wp2_with fail;go_roundw
  case rel=>
   refine⟨trivial,?_⟩;cases i with
   | zero=>
     refine .inl ⟨rfl,?_⟩;rw[b3.o,I,cq,aG,<-dZ];exact Qk4 _
   | succ i=>
     refine .inr ⟨i,oM,oO,?_⟩;have h2:p.toList.drop (i+1)=p[i+1]::p.toList.drop (i+1+1):=by
      have h1:=Qgi hi;obtain⟨h2,h3⟩:=ae.1 h1;rw[aE h2,h3]
     rw[h2,HR.o,I,<-dZ];congr 1;omega
  simp[intOf]
 have b7:(((p[i].toNat:Nat):Int) != 255)=true:=fa.2 λe=>I (UInt8.toNat_inj.1 (by show p[i].toNat=255;omega))
 have c4:min (i+1) p.size=i+1:=oM
 have c6:(p.extract 0 (i+1)).size=i+1:=by rw[<-QbR,extract_toList,av,QbR];omega
 have b5:p[i].toNat<256:=p[i].toNat_lt;have d3:IntKind.u8.wrap ((p[i].toNat:Int)+1)=(p[i].toNat:Int)+1:=by
  have:p[i].toNat≠255:=λe=>I (UInt8.toNat_inj.1 e)
  rw[IntKind.wrap_u8];omega
 obtain⟨q,hq⟩:∃q,q=(p.extract 0 (i+1)).toList.set i (p[i]+1):=⟨_,rfl⟩;have N:(p.extract 0 (i+1)).toList=p.toList.take i++[p[i]]:=by
  rw[extract_toList,aJ,Qgi hi];rfl
 have a0:(p.toList.take i).length=i:=by rw[av,QbR];omega
 have a5:q=p.toList.take i++[p[i]+1]:=by
  rw[hq,N,dL _ _ oM,a0,cu];rfl
 have a8:q.length=i+1:=by rw[a5,aj,a0];rfl
 have a1:Qk3 p.toList=some q:=by rw[b3.o,Qpa I,a5]
 have b0:(p.extract 0 (i+1)).toList[i]? = some p[i]:=by rw[N,aP oM,a0,cu];rfl
 have a9:((p[i]+1).toNat:Int)=(p[i].toNat:Int)+1:=by
  have h1:(p[i]+1).toNat=p[i].toNat+1:=by
   rw[UInt8.toNat_add];have:p[i].toNat≠255:=λe=>I (UInt8.toNat_inj.1 e)
   show(p[i].toNat+1)%256=_;omega
  omega
 have a4:∀W:World,(∀j (hj:j<q.length),W.cell? ((wr:Addr).add j)=some (.int .u8 (q[j].toNat:Int)))->∀a3,(convert 249 9 (.slice (some wr) (i+1) a3)).run prog W=.ok (.string ⟨q.toArray⟩) W:=λW h a3=>by
  have:=run_convert_bytes_back (P:=prog) W 249 9 5 wr a3 q underlying249 underlying5 underlying9 h;rwa[a8]at this
 obtain⟨b8,b4,HQ,c3,c0⟩:=Yf a4 a1 hq b0 a9;clear hq N a0 a5 a8 a1 b0 a9 a4;go_upto_region 8 with(fail);generalize a7:World.drew _=W2;obtain⟨c2,f2,l2,a2,Z⟩:=QmZ wr (p.extract 0 (i+1)) _ _ (c:=p[i]+1) c3.o W2 a7.symm;rw[c0.o,<-HQ.o]at Z;obtain⟨b9,c1⟩:=Yb Z a2;clear a7 Z a2 b6;go_upto_region 9 with(fail);have a4:=b8.o (W2.setCell ⟨wr,i,none⟩ (.int .u8 ((p[i].toNat:Int)+1))) (λj hj=>by
  rw[Qbc,aD];exact b9.o j _ (ac hj))
 go_wp2_with fail;rw[Exit.noGoto_ret];refine eN (v:=.tuple #[.string ⟨q.toArray⟩,true]) (by simp[results,results232,go_sem]) rfl ?_;exact⟨c1.o.setCell (p:=⟨wr,i,none⟩) (ao _) _,_,_,rfl,by rw[b4.o];exact⟨rfl,QpM q⟩⟩
def Qeo(p:ByteArray)(es:List Ent):List Ent:=es.filter λe=>p.toList.isPrefixOf e.1.toList
theorem QkS.range{p:ByteArray}{e:Ending}(h:QkS p w e w'):∃(I:ByteArray) (ok:Bool),e=.returned (.tuple #[I,ok])/\Below w.heap.size w w'/\∀es,QaM p I (!ok) es=Qeo p es:=by
 obtain⟨hb,I,ok,he,N⟩:=h;refine⟨I,ok,he,hb,λes=>?_⟩;refine List.filter_congr λx _=>?_
 rw[Qhm];cases Z:Qk3 p.toList with
 | none=>
   rw[Z]at N;obtain⟨rfl,-⟩:=N;rfl
 | some q=>
   rw[Z]at N;obtain⟨rfl,hq⟩:=N;simp only[inI,Bool.not_true,Bool.false_or,klt,hq]
def QmP(T:RT)(p:ByteArray)(w:World)(e:Ending)(w':World):Prop:=
 ∃(B:Nat) (en:ByteArray) (op:Bool),e=.returned (.func (.func 256) #[] (Qmy B))/\Below w.heap.size w w'/\Qdr w' B T p en op/\w.heap.size<=B/\∀es,QaM p en op es=Qeo p es
theorem QnI(w:World)(T:RT)(p:ByteArray)(hp:p.size<=maxLen):Calls prog 212 #[Qao T,p] w (QmP T p w):=by
 have hr:=λW lo hi op=>Qqh W T lo hi op
 have a3:=λW=>Qlc W p hp
 obtain⟨r,N⟩:=Qaj T;rw[Qao,N];simp only[Qao,N]at hr;have a2:Ext w (w.alloc (.cells #[.pointer r] 48)):=(gh w).alloc _ _;have a1:=gm w 48 #[.pointer r];obtain⟨a8,Z,HR,a9⟩:=Ye a2 a1 hr a3;clear a2 a1 hr N a3;go_in;go_wp2_with fail;refine(a9.o _).mono ?_;intro e w1 he;obtain⟨en,ok,rfl,I,a5⟩:=he.range;have a6:=Bw.trans a8.o.below I;have c0:w1.cell? w=some (.pointer r):=(Z.o.agree (Agree.of_below I (F:=Lt (w.alloc (.cells #[.pointer r] 48)).heap.size) λ_ h=>h) Z.o.lt).cell 0;obtain⟨a0,b0⟩:=Yb a6 a5;clear he I a5 a6;go_wp2_with fail;refine(HR.o _ _ _ _).mono ?_;rintro e w2 ⟨B,rfl,a7,a4,hB⟩;have HP:=hY (show Below w.heap.size w w2/\Qdr w2 B T p en (!ok)/\w.heap.size<=B from⟨Bw.ext a0.o a7,a4,ak a0.o.size hB⟩);clear a7 a4 hB;go_wp2_with fail;go_ret;exact⟨B,en,!ok,rfl,HP.o.1,HP.o.2.1,HP.o.2.2,b0.o⟩
def Qux(n:Int):Val:=.mk 3 false n ByteArray.empty [] [] []
def e5:List Ent:=[(⟨#[97]⟩,Qux 1),(⟨#[98]⟩,Qux 3),(⟨#[98,47,49]⟩,Qux 4),(⟨#[98,47,50]⟩,Qux 0),(⟨#[99]⟩,Qux 2)]
open Go.Maps Go.Sort
abbrev QaP(k:ByteArray):List UInt8:=k.data.toList
theorem Qhy(ks:List ByteArray):(ks.map QaP).map encStr=ks.map .string:=by rw[cN];rfl
theorem QpF:∀x y:List UInt8,Op.bytesLess x y=decide (x<y)
 |[],[]=>rfl
 |[],_::_=>rfl
 |_::_,[]=>rfl
 | a :: x,b :: y=>by
   rw[Op.bytesLess,QpF x y];by_cases h1:a<b
   .simp [h1,List.cons_lt_cons_iff]
   by_cases h2:a=b
   .subst h2;simp[List.cons_lt_cons_iff]
   simp[h1,h2,List.cons_lt_cons_iff]
theorem Qur(a b:ByteArray):klt a b=decide (QaP a<QaP b):=by
 show Op.bytesLess a.toList b.toList=_;rw[eQ,eQ,QpF]
theorem Qgl(ts:List (List UInt8)):(ts.map λl=>(⟨l.toArray⟩:ByteArray)).map QaP=ts:=by
 rw[cN];exact(List.map_congr_left λl _=>rfl).trans (List.map_id _)
theorem QgT{ts:List ByteArray}(h:(ts.map QaP).Pairwise λx y=>decide (x<=y)=true)(hn:ts.Nodup):ts.Pairwise λx y=>klt x y=true:=by
 have h2:=bU.1 h;refine(h2.and hn).imp ?_;rintro x y ⟨N,Z⟩;cases hk:klt x y with
 |true=>rfl
 | false=>
   exfalso;have I:klt y x=true:=QcU hk Z;rw[Qur,e9]at I;rw[e9]at N;exact absurd N (by simpa[List.not_le]using I)
theorem Qhx(l:List (List UInt8)):(l.mergeSort λx y=>decide (x<=y)).Pairwise λx y=>decide (x<=y)=true:=
 List.pairwise_mergeSort (λa b c h1 h2=>by simp only[decide_eq_true_eq]at *;exact List.le_trans h1 h2) (λa b=>by simp only[Bool.or_eq_true,decide_eq_true_eq];exact List.le_total a b) l
variable{s:Sl}{ks:List ByteArray}
theorem QgZ{base:Nat}(N:w.ownsRow base 9 1 (.slice s.a ks.length s.c) ks.length (ks.map .string))(hn:ks.length<=1000000000) :
  Calls prog 175 #[.slice s.a ks.length s.c] w λe w'=>e=.returned (.tuple #[])/\∃ts:List ByteArray,ts.Perm ks/\(ts.map QaP).Pairwise (λx y=>decide (x<=y)=true)/\w'.ownsRow base 9 1 (.slice s.a ts.length s.c) ts.length (ts.map .string)/\ts.length=ks.length/\w.grownBy w' s.row:=by
 rcases N.2 with⟨hv,h0⟩ |⟨g,a1,a6,hv,a4,hg,a5,a3,a2,ht⟩
 ·have hk:ks=[]:=au h0
  subst hk;refine(AnyM.slices_Sort_string_none Tryz.Qsq s.a s.c w).mono ?_;rintro e w' ⟨rfl,rfl⟩;exact⟨rfl,[],List.Perm.refl _,List.Pairwise.nil,N,rfl,⟨rfl,rfl,rfl,ao _,λ_ _ _=>rfl⟩⟩
 injection hv with h1 h2 h3;obtain⟨sa,sc⟩:=s;dsimp only at h1 h3;subst h1 h3;have hH:Holds encStr w g 0 (ks.map QaP).toArray:=holds_of_block hg (by rw[Qhy,aq];simpa using ht);have hc:=AnyM.slices_Sort_string Tryz.Qsq g 0 sc (ks.map QaP) w hH (az.1 hg).1 (by rw[aq];omega);rw[aq]at hc;refine hc.mono ?_;rintro e w' ⟨rfl,n,os,rfl⟩;have hp:((ks.map QaP).mergeSort λx y=>decide (x<=y)).Perm (ks.map QaP):=List.mergeSort_perm _ _;have a0:((ks.map QaP).mergeSort λx y=>decide (x<=y)).length=ks.length:=by rw[hp.length_eq,aq]
 obtain⟨ts,I⟩:∃ts:List ByteArray,ts.map QaP=(ks.map QaP).mergeSort λx y=>decide (x<=y):=⟨_,Qgl _⟩
 have Z:ts.length=ks.length:=by rw[<-a0,<-I,aq]
 refine⟨rfl,ts,?_,by rw[I];exact Qhx _,?_,Z,by rw[<-I];exact grownBy_sorted _⟩
 ·have hq:(ts.map QaP).Perm (ks.map QaP):=by rw [I];exact hp
  have:=hq.map λl:List UInt8=>(⟨l.toArray⟩:ByteArray)
  rw[cN,cN]at this;rwa[show((λl:List UInt8=>(⟨l.toArray⟩:ByteArray))∘QaP)=id from rfl,List.map_id,List.map_id]at this
 rw[<-I,Z,<-Qhy];have:=ownsRow_sorted (w:=w) (base:=base) (cap:=sc) (n:=n) (os:=os) (ss:=ks.map QaP) (ts:=ts.map QaP) (by rw[aq,aq,Z]) a4 hg (by rw[aq];exact a5) a3 a2;rw[aq]at this;exact this
theorem Tryz.Qla:(prog.info? 9).map (λi=>(i.zero,i.size,i.bytes))=some (some (.string ByteArray.empty),1,16):=kM
def Qau(p k:ByteArray):Bool:=p.toList.isPrefixOf k.toList
theorem Qhl(w:World)(k p:ByteArray):Calls prog 199 #[k,p] w λe w'=>e=.returned (Qau p k)/\w'=w:=by
 have I:∀W,Calls prog 214 #[k,p] W λe w'=>e=.returned (Qau p k)/\w'=W:=λW=>by
  have:=Any.strings_HasPrefix Tryz.QjR k p W;unfold Qau;rw[eQ,eQ];exact this
 go_in;go_wp2_with fail;refine(I _).mono ?_;rintro e w' ⟨rfl,rfl⟩;go_wp2_with fail;go_ret;exact⟨rfl,rfl⟩
structure Qdo(w:World)(B:Nat)(ks:List ByteArray)(s:Sl)(W:World):Prop where
 blk:Blk W B 186 #[.slice s.a ks.length s.c]
 own:W.ownsRow (w.heap.size+2) 9 1 (.slice s.a ks.length s.c) ks.length (ks.map .string)
 sb:Sb (λb=>b=B) w W
 sz:w.heap.size+2<=W.heap.size
section
variable{w W W' : World}{B : Nat}{ks : List ByteArray}{s : Sl}
theorem Qdo.row(h:Qdo w B ks s W){b:Nat}(I:s.row=some b):w+2<=b/\b<W:=Qad h.own I
theorem Qdo.keep{G:Nat->Prop}(h:Qdo w B ks s W)(k:Sb G W W')(hB:¬G B)(N:∀b,s.row=some b->¬G b)(Z:∀b,G b->w.heap.size<=b):Qdo w B ks s W':=
 ⟨k.blk h.blk hB,Qab h.own k.agree λb I=>⟨(h.row I).2,N b I⟩,h.sb.comp k λi hi hg=>by have:=Z i hg;omega,ak h.sz k.size⟩
theorem Qdo.ext(h:Qdo w B ks s W)(k:Ext W W'):Qdo w B ks s W':=h.keep (k.sb λ_=>False) (λe=>e) (λ_ _ e=>e) λ_ e=>e.elim
theorem Qdo.start(Z:Blk w B 186 #[.slice none 0 0])(I:Ext w W)(N:w.heap.size+2<=W.heap.size):Qdo w B [] Sl.none W:=
 ⟨Z.ext I,eS _ _ _ _,I.sb _,N⟩
theorem Qdo.snoc{W4 w5:World}{s3:Sl}{x:ByteArray}(hB:B<w.heap.size)(h:Qdo w B ks s W)(hx:Ext W W4)(N:w5.ownsRow (w.heap.size+2) 9 1 (.slice s3.a (ks.length+1) s3.c) (ks.length+1) (ks.map .string++[.string x]))(a5:Wr W4 w5 s.row)(a7:s3.a=s.a\/s3.a=some ⟨W4,0,none⟩/\Wr W4 w5 none) :
  Qdo w B (ks++[x]) s3 (w5.setCell B (.slice s3.a (ks.length+1) s3.c))/\St (λb=>b=B\/s.row=some b) W (w5.setCell B (.slice s3.a (ks.length+1) s3.c))/\(∀b,s3.row=some b->s.row=some b\/W.heap.size<=b)/\(∀b,(b=B\/s3.row=some b)->b<(w5.setCell B (.slice s3.a (ks.length+1) s3.c)).heap.size):=by
 have h0:=h.sb.size;have h1:=hx.size;have h2:=a5.grown.size;have hz:=h.sz;have a0:∀b,s3.row=some b->s.row=some b\/W4.heap.size<=b:=λb I=>by
  rcases a7 with e |⟨e,-⟩
  .exact .inl (by rw[<-I];simp[Sl.row,e])
  right;rw[Sl.row,e]at I;simp at I;omega
 have Z:St (λb=>b=B) w5 (w5.setCell B (.slice s3.a (ks.length+1) s3.c)):=(gB (λb=>b=B) w5).set (p:=⟨B,0,none⟩) (.inr rfl) _;have a2:St (λb=>s.row=some b) W4 w5:=a5.st λi hi=>hi
 have a1:St (λb=>b=B\/s.row=some b) W (w5.setCell B (.slice s3.a (ks.length+1) s3.c)):=((hx.st _).trans (a2.mono λi _ hi=>.inr hi)).trans (Z.mono λi _ hi=>.inl hi);have a3:¬s.row=some B:=λe=>by have:=(h.row e).1;omega
 have a4:(ks++[x]).length=ks.length+1:=oO
 have a6:∀b,s3.row=some b->b<w5.heap.size:=λb I=>(Qad N I).2
 refine⟨⟨?_,?_,?_,by rw[eP];omega⟩,a1,λb I=>(a0 b I).imp id λe=>oM,λb I=>?_⟩
 .rw [a4];exact(a2.blk (h.blk.ext hx) a3).QbH 0 _
 ·rw [a4,aB]
  exact Qab N Z.agree λb I=>⟨a6 b I,λe=>by
   rcases a0 b I with h|h
   .exact a3 (by rw[h,e])
   omega⟩
 .exact h.sb.comp a1.sb λi hi e=>by
   rcases e with e|e
   .exact e
   have:=(h.row e).1;omega
 rw[eP];rcases I with e|e
 .omega
 exact a6 b e
end
inductive Mu where
 |mk (kd:Int) (k tk:ByteArray) (i:Int) (had:Bool) (was:Val) (has:Bool) (v:Val) (l:List Mu)
instance : Inhabited Mu :=⟨.mk 0 ByteArray.empty ByteArray.empty 0 false default false default []⟩
def Mu.kd:Mu->Int | .mk x _ _ _ _ _ _ _ _=>x
def Mu.k:Mu->ByteArray | .mk _ x _ _ _ _ _ _ _=>x
def Mu.tk:Mu->ByteArray | .mk _ _ x _ _ _ _ _ _=>x
def Mu.i:Mu->Int | .mk _ _ _ x _ _ _ _ _=>x
def Mu.had:Mu->Bool | .mk _ _ _ _ x _ _ _ _=>x
def Mu.was:Mu->Val | .mk _ _ _ _ _ x _ _ _=>x
def Mu.has:Mu->Bool | .mk _ _ _ _ _ _ x _ _=>x
def Mu.v:Mu->Val | .mk _ _ _ _ _ _ _ x _=>x
def Mu.l:Mu->List Mu | .mk _ _ _ _ _ _ _ _ x=>x
theorem Mu.Qb6(m:Mu):0<SizeOf.sizeOf m:=by cases m;simp;omega
mutual
def Qa0:Mu->Nat
 |.mk _ _ _ _ _ _ _ _ l=>1+QaF l
def QaF:List Mu->Nat
 |[]=>0
 |m::r=>Qa0 m+QaF r
end
def Qd9(v:Val):Bool:=v.kind==0 && !v.b&&v.i==0&&v.t.size==0&&v.l.length==0&&v.ok.length==0
def QbJ(kd:Int)(k tk:ByteArray)(i:Int)(had:Bool)(was:Val)(has:Bool)(v:Val)(n:Nat):Bool:=
 decide (1<=kd/\kd<=7)&&(kd==6||tk.size==0)&&(kd==3||i==0)&&(kd==4||kd==7 || !had)&&(kd==4 || !has)&&(had||Qd9 was)&&(kd==1||kd==5 ||(kd==4&&has)||Qd9 v)&&(kd==7||n==0)
def Qol(p:ByteArray):Bool:=decide (p.size<=64)&&Lib.validD p.data.toList
def QgF(kd:Int)(k tk:ByteArray)(had:Bool):Bool:=
 if kd=6 then Qol k&&Qol tk else if kd=7/\k.size=0 then !had else Qci k==0
def QhW(kd:Int)(has:Bool):Bool:=kd==1||kd==5 ||(kd==4&&has)
mutual
def QaS:Mu->Nat->Int
 |.mk kd k tk i had was has v l,deep=>if !QbJ kd k tk i had was has v l.length then 9 else if 6<deep then 5 else if !QgF kd k tk had then 8 else if had&&QcP was != 0 then QcP was else if QhW kd has&&QcP v != 0 then QcP v else Qb5 l (deep+1)
def Qb5:List Mu->Nat->Int
 |[],_=>0
 |m::r,deep=>if QaS m deep≠0 then QaS m deep else Qb5 r deep
end
def QbP(m:Mu):Int:=if 64<Qa0 m then 6 else QaS m 1
def asM(M:List Ent)(k:ByteArray)(had:Bool)(was:Val):Bool:=match Qaq M k with
 |some x=>had&&decide (Qbq x was=0)
 |none=>!had
def setMu(M:List Ent)(k:ByteArray)(v:Val):Int × List Ent:=if Qci k≠0 then(8,M)else if QcP v≠0 then(QcP v,M)else(0,QbY M k v)
def Qlb(n:Int):Val:=.mk 3 false n ByteArray.empty [] [] []
def QuP(l:List Val):Val:=.mk 5 false 0 ByteArray.empty l [] []
def Qoy(M:List Ent)(k:ByteArray)(n by_:Int):Int × List Ent:=if(0<by_/\9223372036854775807-by_<n)\/(by_<0/\n < -9223372036854775808-by_)then(7,M)else setMu M k (Qlb (n+by_))
def Qeb(M:List Ent)(k:ByteArray)(by_:Int):Int × List Ent:=match Qaq M k with
 |some x=>if x.kind≠3 then(9,M)else Qoy M k x.i by_
 |none=>Qoy M k 0 by_
def Qoo(M:List Ent)(k:ByteArray)(l:List Val)(x:Val):Int × List Ent:=if 256<=l.length then(6,M)else setMu M k (QuP (l++[x]))
def Qq1(M:List Ent)(k:ByteArray)(x:Val):Int × List Ent:=match Qaq M k with
 |some y=>if y.kind≠5 then(9,M)else Qoo M k y.l x
 |none=>Qoo M k [] x
def QbB(from_ tk k:ByteArray):ByteArray:=tk++k.extract from_.size k.size
def QcF(M:List Ent)(from_ tk:ByteArray):List Ent->Int
 |[]=>0
 |e::r=>if Qci (QbB from_ tk e.1)≠0 then 8 else if(Qaq M (QbB from_ tk e.1)).isSome && !Qau from_ (QbB from_ tk e.1)then 13 else QcF M from_ tk r
def Qqm(M:List Ent)(from_:ByteArray):List Ent:=M.filter λe=>!Qau from_ e.1
def QjI(M:List Ent)(from_:ByteArray):List Ent:=M.filter λe=>Qau from_ e.1
def QgM(M:List Ent)(from_ tk:ByteArray):Int × List Ent:=
 if QcF M from_ tk (QjI M from_)≠0 then(QcF M from_ tk (QjI M from_),M)else(0,QdC (Qqm M from_) ((QjI M from_).map λe=>(QbB from_ tk e.1,e.2)))
mutual
def stepM:Mu->List Ent->Int × List Ent
 | .mk kd k tk i had was has v l,M=>
   if kd=1 then setMu M k v
   else if kd=2 then(if(Qaq M k).isSome then(0,QbM M k)else(12,M))
   else if kd=3 then Qeb M k i
   else if kd=4 then(if asM M k had was then(if has then setMu M k v else(0,QbM M k))else(13,M))
   else if kd=5 then Qq1 M k v
   else if kd=6 then QgM M k tk
   else if kd=7 then(if asM M k had was then(if(QkQ l M).1≠0 then((QkQ l M).1,M)else QkQ l M)else(13,M))
   else(9,M)
def QkQ:List Mu->List Ent->Int × List Ent
 |[],M=>(0,M)
 |m::r,M=>if(stepM m M).1≠0 then((stepM m M).1,M)else QkQ r (stepM m M).2
end
def runM(M:List Ent)(m:Mu):Int × List Ent:=if QbP m≠0 then(QbP m,M)else stepM m M
structure MuS where
 w1:Sl
 w2:Sl
 v1:Sl
 v2:Sl
 s:Sl
instance : Inhabited MuS :=⟨⟨Sl.none, Sl.none, Sl.none, Sl.none, Sl.none⟩⟩
def Qan(m:Mu)(c:MuS):List Value:=[.int .i64 m.kd,.string m.k,.string m.tk,.int .i64 m.i,.bool m.had,.int .i64 m.was.kind,.bool m.was.b,.int .i64 m.was.i,.string m.was.t,.slice c.w1.a m.was.l.length c.w1.c,.slice c.w2.a m.was.ok.length c.w2.c,.bool m.has,.int .i64 m.v.kind,.bool m.v.b,.int .i64 m.v.i,.string m.v.t,.slice c.v1.a m.v.l.length c.v1.c,.slice c.v2.a m.v.ok.length c.v2.c,.slice c.s.a m.l.length c.s.c]
abbrev Qaz(m:Mu)(c:MuS):Value:=.agg (Qan m c).toArray
def MuC(w:World)(b o:Nat)(m:Mu)(c:MuS):Prop:=∀(j:Nat) (u:Value),(Qan m c)[j]? = some u->w.cell? ⟨b,o+j,none⟩=some u
variable{c:MuS}
theorem MuC.agree{b o:Nat}{m:Mu}(h:MuC w b o m c)(N:Agree F w w')(I:F b):MuC w' b o m c:=λj u hu=>(N.cell I).trans (h j u hu)
inductive RMu (w:World) (F:Nat->Prop):Mu->MuS->Prop
 |mk {kd:Int} {k tk:ByteArray} {i:Int} {had:Bool} {was:Val} {has:Bool} {v:Val} {l:List Mu} {c:MuS} (bl fl:Nat) (cl:Nat->MuS)
    (rw_:RV w F was c.w1 c.w2) (rv:RV w F v c.v1 c.v2) (hl:Qd5 F c.s l.length bl fl)
    (el:∀j m,l[j]? = some m->MuC w bl (fl+j*19) m (cl j)) (rl:∀j m,l[j]? = some m->RMu w F m (cl j))
    (bk:k.size<=maxLen) (bt:tk.size<=maxLen) (bkd:(Lit.int .i64 kd).wf=true) (bi:(Lit.int .i64 i).wf=true) (nl:l.length*264<=140737488355328):RMu w F (.mk kd k tk i had was has v l) c
theorem RMu.agree{m:Mu}(h:RMu w F m c)(N:Agree F w w'):RMu w' F m c:=by
 induction h with
 | mk bl fl cl rw_ rv hl el rl bk bt bkd bi nl ih=>
   exact .mk bl fl cl (rw_.agree N) (rv.agree N) hl (λj m I=>(el j m I).agree N (hl.fits (QaW I))) (λj m I=>ih j m I) bk bt bkd bi nl
variable{G:Nat->Prop}
theorem RMu.mono{m:Mu}(h:RMu w F m c)(I:∀i,F i->G i):RMu w G m c:=by
 induction h with
 | mk bl fl cl rw_ rv hl el rl bk bt bkd bi nl ih=>
   exact .mk bl fl cl (rw_.mono I) (rv.mono I) (hl.mono I) el (λj m N=>ih j m N) bk bt bkd bi nl
mutual
def QcC:Mu->Nat
 |.mk kd k tk i had was has v l=>8+k.size+tk.size+QcI was+QcI v+Qcc l
def Qcc:List Mu->Nat
 |[]=>0
 |m::r=>QcC m+Qcc r
end
theorem Qgb:∀{l:List Mu} {j:Nat} {m:Mu},l[j]? = some m->QcC m<=Qcc l
 |[],j,m,h=>by simp at h
 | x :: r,0,m,h=>by
   have:x=m:=by simpa using h
   subst this;rw[Qcc];omega
 |x::r,j+1,m,h=>by have:=Qgb (l:=r) (j:=j) (m:=m) (by simpa using h);rw[Qcc];omega
theorem Qde:∀{l:List Mu} {j:Nat} {m:Mu},l[j]? = some m->QaF (l.take (j+1))=QaF (l.take j)+Qa0 m
 |[],j,m,h=>by simp at h
 | x :: r,0,m,h=>by
   have:x=m:=by simpa using h
   subst this;simp[QaF]
 | x :: r,j+1,m,h=>by
   rw[bp,bp,QaF,QaF,Qde (l:=r) (j:=j) (by simpa using h),bH]
theorem Qqw(n:Nat):∀m:Mu,SizeOf.sizeOf m<=n->Qa0 m<=QcC m:=by
 induction n with
 |zero=>intro m h;have:=Mu.Qb6 m;omega
 | succ n ih=>
   intro m h;obtain⟨kd,k,tk,i,I,N,Z,v,l⟩:=m;simp only[Mu.mk.sizeOf_spec]at h;have hs:∀l:List Mu,SizeOf.sizeOf l<=n->QaF l<=Qcc l:=by
    intro l
    induction l with
    |nil=>intro _;simp[QaF]
    | cons a r ihr=>
      intro hl;simp only[List.cons.sizeOf_spec]at hl;have h1:=ih a oM;have h2:=ihr oM;rw[QaF,Qcc];omega
   have h1:=hs l oM;rw[Qa0,QcC];omega
theorem Qsp(m:Mu):Qa0 m<=QcC m:=Qqw _ m (ao _)
theorem Qgz{P:ByteArray->Bool}:∀{M:List Ent} (k:ByteArray),Qaq (M.filter λe=>P e.1) k=if P k then Qaq M k else none
 |[],k=>by simp[Qaq]
 | e :: r,k=>by
   have N:=Qgz (P:=P) (M:=r) k;rw[bB];by_cases I:e.1=k
   ·subst I
    cases Z:P e.1 with
    |true=>simp[Qaq]
    |false=>rw[eE oO,N,Z];simp
   cases Z:P e.1 with
   | true=>
     rw[eH rfl,Qaq,eE I,N];congr 1;rw[Qaq,eE I]
   | false=>
     rw[eE oO,N];congr 1;rw[Qaq,eE I]
def QeE(M:List Ent)(ks:List ByteArray):List Ent:=ks.foldl QbM M
theorem Qjt:∀{M:List Ent},Sorted M->Sorted (QeE M ks):=by
 induction ks with
 |nil=>exactλh=>h
 |cons k r ih=>exactλh=>ih (QaN h k)
theorem QoW:∀{M:List Ent},Sorted M->∀x,(x∈ks->Qaq (QeE M ks) x=none)/\(x∉ks->Qaq (QeE M ks) x=Qaq M x):=by
 induction ks with
 |nil=>intro M h x;exact⟨λh=>absurd h oO,λ_=>rfl⟩
 | cons k r ih=>
   intro M h x;obtain⟨Z,N⟩:=ih (QaN h k) x;refine⟨λI=>?_,λI=>?_⟩
   ·show Qaq (QeE (QbM M k) r) x=_
    by_cases h1:x∈r
    .exact Z h1
    have h2:x=k:=(aH.1 I).resolve_right h1;rw[N h1,Qcx _ _ _ h,eH h2]
   show Qaq (QeE (QbM M k) r) x=_;rw[N λh1=>I (aS _ h1),Qcx _ _ _ h,eE (λe:x=k=>I (by rw[e];exact aF ..))]
variable{M:List Ent}
theorem Qkn(h:Sorted M)(p:ByteArray):Sorted (Qqm M p):=h.sublist (cJ ..)
theorem Qm8(h:Sorted M)(p:ByteArray):QeE M (Qfh (Qau p) M)=Qqm M p:=
 Qe0 (Qjt h) (Qkn h p) λx=>by
  obtain⟨I,N⟩:=QoW (ks:=Qfh (Qau p) M) h x;unfold Qqm;rw[Qgz (P:=λk=>!Qau p k)];by_cases h1:x∈Qfh (Qau p) M
  .rw [I h1,eE (by simp[((QgL h).1 h1).1])]
  rw[N h1];cases Z:Qau p x with
  |false=>rw[eH (by rfl)]
  | true=>
    rw[eE oO];cases hg:Qaq M x with
    |none=>rfl
    |some v=>exact absurd ((QgL h).2 ⟨Z,by rw[hg];rfl⟩) h1
theorem QhC{M:List Ent}{f t:ByteArray}:∀{L:List Ent} {e:Ent},QcF M f t L=0->e∈L->Qci (QbB f t e.1)=0
 |[],e,_,h=>by cases h
 | x :: r,e,h,I=>by
   rw[QcF]at h;by_cases h1:Qci (QbB f t x.1)=0
   ·rw [eE (by simp [h1])] at h
    rcases aH.1 I with rfl|I
    .exact h1
    split at h
    .cases h
    exact QhC h I
   rw[eH h1]at h;cases h
theorem QhB{M:List Ent}{f t:ByteArray}:∀{L:List Ent} {j:Nat},QcF M f t (L.take j)=0->QcF M f t L=QcF M f t (L.drop j)
 |L,0,_=>rfl
 |[],j+1,_=>oO
 | x :: r,j+1,h=>by
   rw[bp,QcF]at h;rw[QcF,dY];by_cases h1:Qci (QbB f t x.1)=0
   ·rw [eE (by simp [h1])] at h ⊢
    split at h
    .cases h
    rename_i h2;rw[eE h2];exact QhB h
   rw[eH h1]at h;cases h
variable{j:Nat}{e:Ent}
theorem QrU{f t:ByteArray}{L:List Ent}(h:QcF M f t (L.take j)=0)(I:L[j]? = some e) :
  QcF M f t L=if Qci (QbB f t e.1)≠0 then 8 else if(Qaq M (QbB f t e.1)).isSome && !Qau f (QbB f t e.1)then 13 else QcF M f t (L.drop (j+1)):=by
 obtain⟨h1,h2⟩:=ae.1 I;rw[QhB h,aE h1,h2,QcF]
theorem QhD{M:List Ent}{f t:ByteArray}:∀{L:List Ent} {j:Nat} {e:Ent},QcF M f t (L.take j)=0->L[j]? = some e->Qci (QbB f t e.1)=0->((Qaq M (QbB f t e.1)).isSome && !Qau f (QbB f t e.1))=false->QcF M f t (L.take (j+1))=0
 |[],j,e,_,he,_,_=>by simp at he
 | x :: r,0,e,_,he,h1,h2=>by
   have:x=e:=by simpa using he
   subst this;rw[bp,cq,QcF,eE (by simp[h1]),eE (by simp[h2]),QcF]
 | x :: r,j+1,e,h,he,h1,h2=>by
   rw[bp,QcF]at h ⊢;by_cases I:Qci (QbB f t x.1)=0
   ·rw [eE (by simp [I])] at h ⊢
    split at h
    .cases h
    rename_i h4;rw[eE h4];exact QhD h (by simpa using he) h1 h2
   rw[eH I]at h;cases h
theorem QjJ(M:List Ent)(p:ByteArray):Qfh (Qau p) M=(QjI M p).map Prod.fst:=rfl
theorem QgY(M:List Ent)(k:ByteArray)(v:Val):(setMu M k v).2.length<=M.length+1:=by
 unfold setMu;split
 .exact cG _
 split
 .exact cG _
 have:=QcA M k v;show(QbY M k v).length<=_;omega
theorem QkC(P:Ent->Bool):∀M:List Ent,(M.filter λe=>!P e).length+(M.filter P).length<=M.length
 |[]=>oO
 | e :: r=>by
   have N:=QkC P r;rw[bB,bB];cases I:P e
   .rw [eH (by rfl),eE oO];simp only[List.length_cons];omega
   rw[eE oO,eH rfl];simp only[List.length_cons];omega
theorem QpN(M:List Ent)(f t:ByteArray):(QgM M f t).2.length<=M.length:=by
 unfold QgM;split
 .exact ao _
 have h1:=QnJ ((QjI M f).map λe=>(QbB f t e.1,e.2)) (Qqm M f);rw[aq]at h1;exact ak h1 (QkC (λe=>Qau f e.1) M)
theorem QmA(M:List Ent)(k:ByteArray)(l:List Val)(x:Val):(Qoo M k l x).2.length<=M.length+1:=by
 unfold Qoo;split
 .exact cG _
 exact QgY ..
theorem QlP(M:List Ent)(k:ByteArray)(n b:Int):(Qoy M k n b).2.length<=M.length+1:=by
 unfold Qoy;split
 .exact cG _
 exact QgY ..
theorem QoU(M:List Ent)(k:ByteArray):(QbM M k).length<=M.length:=(Qa3 M k).length_le
theorem QnY(n:Nat):∀(m:Mu) (M:List Ent),SizeOf.sizeOf m<=n->(stepM m M).2.length<=M.length+Qa0 m:=by
 induction n with
 |zero=>intro m M h;have:=Mu.Qb6 m;omega
 | succ n ih=>
   intro m M h;obtain⟨kd,k,tk,i,I,Z,N,v,l⟩:=m;simp only[Mu.mk.sizeOf_spec]at h;have hs:∀(l:List Mu) (M:List Ent),SizeOf.sizeOf l<=n->(QkQ l M).2.length<=M.length+QaF l:=by
    intro l
    induction l with
    |nil=>intro M _;simp[QkQ,QaF]
    | cons a r ihr=>
      intro M hl;simp only[List.cons.sizeOf_spec]at hl;unfold QkQ QaF;split
      .show M.length<=_;omega
      have h1:=ih a M oM;have h2:=ihr (stepM a M).2 oM;omega
   unfold stepM Qa0;have h1:=QgY M k v;have h2:=QoU M k;have h3:=QpN M k tk;have h4:=hs l M oM;split
   .omega
   split
   ·split
    .show (QbM M k).length<=_;omega
    show M.length<=_;omega
   split
   ·unfold Qeb
    split
    ·rename_i x _
     split
     .show M.length<=_;omega
     have:=QlP M k x.i i;omega
    have:=QlP M k 0 i;omega
   split
   ·split
    ·split
     .omega
     show(QbM M k).length<=_;omega
    show M.length<=_;omega
   split
   ·unfold Qq1
    split
    ·rename_i y _
     split
     .show M.length<=_;omega
     have:=QmA M k y.l v;omega
    have:=QmA M k [] v;omega
   split
   .omega
   split
   ·split
    ·split
     .show M.length<=_;omega
     omega
    show M.length<=_;omega
   show M.length<=_;omega
theorem Qkv(m:Mu)(M:List Ent):(stepM m M).2.length<=M.length+Qa0 m:=QnY _ m M (ao _)
abbrev kB1:ByteArray:=⟨#[98,47,49]⟩
variable{q:Nat}
theorem Qtt{n:Int}(I:q<=64):Qda (Qi0 n) q=0:=by
 rw[Qi0,Qda];rw[show Qb0 3 false n ByteArray.empty ([]:List Val).length ([]:List ByteArray).length=false by simp[Qb0]];rw[eE oO,eE oM];rfl
theorem Qpd{n:Int}(I : -9223372036854775808<=n)(h1:n<=9223372036854775807):QcP (Qi0 n)=0:=by
 have N:=Lib.itoa_length_le n I h1;unfold QcP;rw[eE (by simp[Qtt (n:=n) (q:=1) oN]),eE (by rw[Qi0,Qdv];decide),eE];rw[Qi0,QgI,eE oN,eH rfl];omega
theorem QuX(n:Int):wfV (Qi0 n):=by unfold Qi0 wfV;exact⟨rfl,by unfold QkR;trivial,by unfold QkR;trivial⟩
theorem QuE{n:Int}(I : -9223372036854775808<=n)(h1:n<=9223372036854775807):okV (Qi0 n):=⟨QuX n,Qpd I h1⟩
abbrev Qfg(k:ByteArray)(n:Int):Mu:=.mk 3 k ByteArray.empty n false zeroV false zeroV []
abbrev Qil(k:ByteArray):Mu:=.mk 2 k ByteArray.empty 0 false zeroV false zeroV []
theorem Qmk{kd:Int}{k tk:ByteArray}{i:Int}{I:Bool}{Z:Val}{N:Bool}{v:Val}(hb:QbJ kd k tk i I Z N v 0=true)(hk:QgF kd k tk I=true)(hw:I=true->QcP Z=0)(hv:QhW kd N=true->QcP v=0):QbP (.mk kd k tk i I Z N v [])=0:=by
 unfold QbP;rw[eE (by rw[Qa0,QaF];decide),QaS,show(([]:List Mu).length)=0 from rfl,hb,hk];rw[eE oO,eE oN,eE oO];rw[eE (λh=>by simp only[Bool.and_eq_true]at h;rw[hw h.1]at h;simp at h),eE (λh=>by simp only[Bool.and_eq_true]at h;rw[hv h.1]at h;simp at h),Qb5]
theorem Qj2:Qd9 zeroV=true:=oN
theorem QpL{k:ByteArray}{N:Int}{I:Bool}(h:Qci k=0)(Z:N≠6)(h0:k.size≠0):QgF N k ByteArray.empty I=true:=by
 unfold QgF;rw[eE Z,eE (λe=>h0 e.2),h];rfl
theorem QrO{k:ByteArray}{n:Int}(h:Qci k=0)(I:k.size≠0):QbP (Qfg k n)=0:=
 Qmk (by simp[QbJ,Qj2]) (QpL h oN I) (λh=>by cases h) (λh=>by simp[QhW]at h)
theorem QrN{k:ByteArray}(h:Qci k=0)(I:k.size≠0):QbP (Qil k)=0:=
 Qmk (by simp[QbJ,Qj2]) (QpL h oN I) (λh=>by cases h) (λh=>by simp[QhW]at h)
theorem Qqp{k:ByteArray}{n:Int}(h:Qci k=0)(I:k.size≠0):runM M (Qfg k n)=Qeb M k n:=by
 unfold runM;rw[eE (by simp[QrO h I]),stepM,eE oN,eE oN,eH rfl]
theorem mB:Qci kB1=0:=by decide +kernel
section
variable{H : Type}{enc : TypeId × Value -> H}{P : Program}{w : World}{held : Bool}
theorem Qwl:∀{l:List (DataW H)} {i:Nat} {d:DataW H},l[i]? = some d->Rows.uptoBulk d<=Rows.uptoBulkAll l
 |[],i,d,h=>by simp at h
 | x :: l,0,d,h=>by
   have:x=d:=by simpa using h
   subst this;simp only[Rows.uptoBulkAll];omega
 | x :: l,i+1,d,h=>by
   have:=Qwl (l:=l) (i:=i) (d:=d) (by simpa using h);simp only[Rows.uptoBulkAll];omega
theorem Qc1{t e:TypeId}{C B Z:Nat}{cs:List Value}{x:DataW H × List MemPlace}(ht:P.underlying t=some (.slice e))(hC:P.cellsOf e=C)(hB:P.bytesOf e=B)(b7:0<C)
  (h:tr enc P w held Z t cs=some x) (hw:WOk P t x.1) :
  ∃(n I:Nat) (s:Sl) (b o:Nat) (es:List (DataW H)),Z=n+1/\cs=[.slice s.a I s.c]/\Qd5 (Lt w) s I b o/\I*B<=140737488351232/\es.length=I/\Rows.uptoBulkAll es+1<=Rows.uptoBulk x.1/\
   ∀i,i<I->∃N y,N.length=C/\(∀j,j<C->w.cell? ⟨b,o+i*C+j,none⟩=N[j]?)/\tr enc P w held n e N=some y/\WOk P e y.1/\es[i]? = some y.1:=by
 rcases DataW.trod_slice ht h with⟨rfl,rfl⟩ |⟨a,I,b6,a0,rest,n,b9,a8,hx,-,hl,hm,a3,b0,c1,-⟩
 ·cases Z with
  |zero=>simp[tr,DataW.trod]at h
  |succ n=>exact⟨n,0,Sl.none,0,0,[],rfl,rfl,.nil _ _,oM,rfl,by simp[Rows.uptoBulk,Rows.uptoBulkAll],λi hi=>oM⟩
 obtain⟨n',a4,s,b,o,c0,a2,hs,a9,he⟩:=QqF ht hC hB b7 h hw;subst a8 hx b9;obtain rfl:n=n':=oM
 have a5:Value.slice (some a) I b6=.slice s.a a4 s.c:=by simpa using a2
 injection a5 with e1 e2 e3;subst e2;refine⟨n,I,s,b,o,a0.map (·.1),rfl,a2,hs,a9,by rw[aq];exact a3,by simp only[Rows.uptoBulk];omega,λi hi=>?_⟩;obtain⟨N,y,a7,hc,a6,b4⟩:=he i hi;refine⟨N,y,a7,hc,a6,b4,?_⟩;have hE:=b0 i hi;rw[ac oM]at hE;obtain⟨b8,h1,h2⟩:=dE.1 hE;obtain⟨-,b3,a1⟩:=World.cells?_some h1;rw[hC]at b3 a1;have b5:s.a=some ⟨b,o,none⟩:=(hs.eq oM).1;rw[b5]at e1;obtain rfl:a=⟨b,o,none⟩:=by injection e1
 have:b8=N:=by
  refine bI λj=>?_
  by_cases hj:j<C
  ·have:=a1 j hj
   rw[Go.WideShapes.add_plain,Go.WideShapes.add_plain]at this;rw[<-hc j hj,<-this]
  rw[aI oM,aI oM]
 subst this;rw[ar,ac oM];have:some (a0[i]' oM)=some y:=by rw[<-h2];exact a6
 simp only[Option.map_some];injection this with this;rw[this]
theorem QcD{t:TypeId}{fs:List Field}{I:Nat}{cs:List Value}{x:DataW H × List MemPlace}(ht:P.underlying t=some (.struct fs.toArray))(h:tr enc P w held I t cs=some x)(hw:WOk P t x.1) :
  ∃n ds,I=n+1/\cs.length=P.cellsOf t/\x.1=.agg ds/\∀(i:Nat) (f:Field),fs[i]? = some f->∃y,tr enc P w held n f.type ((cs.drop f.offset).take (P.cellsOf f.type))=some y/\WOk P f.type y.1/\ds[i]? = some y.1:=by
 obtain⟨xs,n,rfl,rfl,hl,Z,hf⟩:=DataW.trod_struct ht h;refine⟨n,xs.map (·.1),rfl,hl,rfl,λi f hi=>?_⟩;have a0:(DataW.weightsEach P (fs.map (·.type)) (xs.map (·.1))).all (·<=reachBytes)=true:=by
  have:=hw;simpa[WOk,DataW.weights,ht]using this
 have a1:i<fs.length:=(ae.1 hi).1;have h1:=hf i f (by simpa using hi);have N:i<xs.length:=by simp at Z;omega
 rw[ac N]at h1;exact⟨_,h1,weightsEach_at a0 i _ _ (by rw[ar,hi];rfl) (by rw[ar,ac N];rfl),by rw[ar,ac N];rfl⟩
end
theorem Qc3{H:Type}(d:DataW H):1<=Rows.uptoBulk d:=by
 cases d with
 |lit l=>cases l<;>simp[Rows.uptoBulk]
 |_=>simp[Rows.uptoBulk]
section
variable{H : Type}{enc : TypeId × Value -> H}{w : World}{held : Bool}
theorem QiT{P:Program}{t:TypeId}{I:Nat}{cs:List Value}{x:DataW H × List MemPlace}(N:P.underlying t=some .string)(h:tr enc P w held I t cs=some x):∃s,cs=[.string s]/\s.size<=maxLen/\Rows.uptoBulk x.1=s.size+1:=by
 obtain⟨s,h1,rfl,h2⟩:=DataW.trod_string N h;refine⟨s,h1,h2,?_⟩;show s.data.toList.length+1=_;rw[aL];rfl
theorem Qjl:∀(l:List Val) (es:List (DataW H)),l.length=es.length->(∀(i:Nat) v d,l[i]? = some v->es[i]? = some d->QcI v<=Rows.uptoBulk d)->QdR l<=Rows.uptoBulkAll es
 |[],[],_,_=>by simp[QdR]
 |[],d::es,h,_=>by cases h
 |a::xs,[],h,_=>by cases h
 | a :: xs,d :: es,h,k=>by
   have h1:=k 0 a d rfl rfl;have h2:=Qjl xs es (by simpa using h) λi N d' I hd=>k (i+1) N d' (by simpa using I) (by simpa using hd)
   simp only[QdR,Rows.uptoBulkAll];omega
theorem Qjm:∀(ks:List ByteArray) (l:List Val) (es:List (DataW H)),ks.length=es.length->l.length=es.length->(∀(i:Nat) q v d,ks[i]? = some q->l[i]? = some v->es[i]? = some d->q.size+2+QcI v<=Rows.uptoBulk d)->QfL ks l<=Rows.uptoBulkAll es
 |ks,[],es,_,_,_=>by simp[QfL]
 |[],a::xs,es,h,h2,_=>by rw[<-h]at h2;cases h2
 |q::ks,a::xs,[],h,_,_=>by cases h
 | q :: ks,a :: xs,d :: es,h,h',k=>by
   have h1:=k 0 q a d rfl rfl rfl;have h2:=Qjm ks xs es (by simpa using h) (by simpa using h') λi Z a' d' I N hd=>k (i+1) Z a' d' (by simpa using I) (by simpa using N) (by simpa using hd)
   simp only[QfL,Rows.uptoBulkAll,List.headD_cons,List.tail_cons];omega
theorem Qsn{I:List (DataW H)}{n:Nat}{d3 d4 d5:DataW H}(Z:I[3]? = some d3)(N:I[4]? = some d4)(h5:I[5]? = some d5)(hn:n<=Rows.uptoBulk d3+Rows.uptoBulk d4+Rows.uptoBulk d5):3+n<=Rows.uptoBulkAll I:=by
 match I,Z,N,h5 with
 | a :: b :: c :: x :: y :: z :: r,Z,N,h5=>
   simp at Z N h5;subst Z N h5;have:=Qc3 a;have:=Qc3 b;have:=Qc3 c;simp only[Rows.uptoBulkAll];omega
theorem QmG{I:List (DataW H)}{n:Nat}{Z d1:DataW H}(N:I[0]? = some Z)(h1:I[1]? = some d1)(hn:n<=Rows.uptoBulk Z+Rows.uptoBulk d1):n<=Rows.uptoBulkAll I:=by
 match I,N,h1 with
 | a :: b :: r,N,h1=>
   simp at N h1;subst N h1;simp only[Rows.uptoBulkAll];omega
theorem QgW:∀(N:Nat) {cs:List Value} {x:DataW H × List MemPlace},tr enc prog w held N 34 cs=some x->WOk prog 34 x.1->∃v sl so,cs=Qji v sl so/\RV w (Lt w) v sl so/\QcI v<=Rows.uptoBulk x.1:=by
 intro N
 induction N using Nat.strongRecOn with
 |ind N ih=>
 intro cs x h hw;obtain⟨n,ds,rfl,hl,hx,Z⟩:=QcD underlying34 h hw;rw[QbW]at hl;obtain⟨c0,c1,c2,c3,c4,c5,rfl⟩:=Qso hl;obtain⟨y0,h0,-,-⟩:=Z 0 _ rfl;obtain⟨y1,h1,-,-⟩:=Z 1 _ rfl;obtain⟨y2,h2,-,-⟩:=Z 2 _ rfl;obtain⟨y3,h3,-,d3⟩:=Z 3 _ rfl;obtain⟨y4,h4,w4,d4⟩:=Z 4 _ rfl;obtain⟨y5,h5,w5,d5⟩:=Z 5 _ rfl;obtain⟨k,hk,wk⟩:=QkA (k:=.i64) kM h0;obtain⟨bb,hb⟩:=QqE kM h1;obtain⟨i,hi,wi⟩:=QkA (k:=.i64) kM h2;obtain⟨t,ht,wt,b3⟩:=QiT kM h3;obtain⟨n4,a1,s,b,o,a4,c7,a6,hs,c9,b7,b4,he⟩:=Qc1 (e:=34) (C:=6) (B:=88) kM QbW Qjh oN h4 w4;obtain⟨n5,I,s',b',o',a7,d6,a5,b0,b8,a3,b5,b6⟩:=Qc1 (e:=124) (C:=7) (B:=104) kM Qh9 Qh7 oN h5 w5;have k0:∀c:Value,([c0,c1,c2,c3,c4,c5].drop 0).take 1=[c]->c0=c:=λc h=>by simpa using h
 have k1:∀c:Value,([c0,c1,c2,c3,c4,c5].drop 1).take 1=[c]->c1=c:=λc h=>by simpa using h
 have k2:∀c:Value,([c0,c1,c2,c3,c4,c5].drop 2).take 1=[c]->c2=c:=λc h=>by simpa using h
 have k3:∀c:Value,([c0,c1,c2,c3,c4,c5].drop 3).take 1=[c]->c3=c:=λc h=>by simpa using h
 have k4:∀c:Value,([c0,c1,c2,c3,c4,c5].drop 4).take 1=[c]->c4=c:=λc h=>by simpa using h
 have k5:∀c:Value,([c0,c1,c2,c3,c4,c5].drop 5).take 1=[c]->c5=c:=λc h=>by simpa using h
 obtain rfl:=k0 _ hk;obtain rfl:=k1 _ hb;obtain rfl:=k2 _ hi;obtain rfl:=k3 _ ht;obtain rfl:=k4 _ a6;obtain rfl:=k5 _ a5;clear k0 k1 k2 k3 k4 k5 hk hb hi ht a6 a5 h0 h1 h2 h3 h4 h5 Z;have hE:∀i,i<a1->∃a:Val × Sl × Sl,(QaV w b (o+i*6) a.1 a.2.1 a.2.2/\RV w (Lt w) a.1 a.2.1 a.2.2)/\∃d,a4[i]? = some d/\QcI a.1<=Rows.uptoBulk d:=λi hi=>by
  obtain⟨a2,y,d0,hc,ht,hw,hd⟩:=he i hi;obtain⟨v,sl,so,rfl,hr,hv⟩:=ih n4 oM ht hw;exact⟨(v,sl,so),⟨⟨hc 0 oN,hc 1 oN,hc 2 oN,hc 3 oN,hc 4 oN,hc 5 oN⟩,hr⟩,_,hd,hv⟩
 have hM:∀i,i<I->∃a:ByteArray × Val × Sl × Sl,((w.cell? ⟨b',o'+i*7,none⟩=some (.string a.1)/\a.1.size<=maxLen)/\QaV w b' (o'+i*7+1) a.2.1 a.2.2.1 a.2.2.2/\RV w (Lt w) a.2.1 a.2.2.1 a.2.2.2)/\∃d,a7[i]? = some d/\a.1.size+2+QcI a.2.1<=Rows.uptoBulk d:=λi hi=>by
  obtain⟨a2,y,b9,hc,ht,hw,hd⟩:=b6 i hi;obtain⟨n6,c8,rfl,hl,a8,Z⟩:=QcD underlying124 ht hw;obtain⟨z0,g0,-,e0⟩:=Z 0 _ rfl;obtain⟨z1,g1,u1,e1⟩:=Z 1 _ rfl;obtain⟨k,hk,wk,bk⟩:=QiT kM g0;have a9:tr enc prog w held n6 34 ((a2.drop 1).take 6)=some z1:=by
   have:=g1;dsimp only at this;rw[QbW]at this;exact this
  obtain⟨v,sl,so,hv,hr,c6⟩:=ih n6 oM a9 u1;have a0:a2[0]? = some (.string k):=at_of_take hk (j:=0) oN;have cj:∀j,j<6->w.cell? ⟨b',o'+i*7+1+j,none⟩=(Qji v sl so)[j]?:=λj hj=>by
   rw[<-at_of_take hv hj,<-hc (1+j) oM,bH (o'+i*7)]
  refine⟨(k,v,sl,so),⟨⟨(hc 0 oN).trans a0,wk⟩,⟨cj 0 oN,cj 1 oN,cj 2 oN,cj 3 oN,cj 4 oN,cj 5 oN⟩,hr⟩,_,hd,?_⟩;rw[a8];have:=QmG (n:=k.size+1+QcI v) e0 e1 oM;simp only[Rows.uptoBulk];omega
 obtain⟨f,Z⟩:=skolem hE;obtain⟨g,hg⟩:=skolem hM;refine⟨.mk k bb i t ((List.range a1).map λj=>(f j).1) ((List.range I).map λj=>(g j).1) ((List.range I).map λj=>(g j).2.1),s,s',by simp[Qji,Val.kind,Val.b,Val.i,Val.t,Val.l,Val.ok],?_,?_⟩
 ·refine .mk b o b' o' (fun j=>((f j).2.1,(f j).2.2)) (fun j=>((g j).2.2.1,(g j).2.2.2)) (by rw [aq,bC];exact hs) (by rw [aq,bC];exact b0) oO (fun j d hj=>?_) (fun j d hj=>?_) (fun j d hj=>?_) (fun j d hj=>?_) (fun j d hj=>?_) wk wi wt (by rw [aq,bC];omega) (by rw [aq,bC];omega)
  .obtain ⟨h1,rfl⟩:=QaY hj;exact(Z j h1).1.1
  .obtain ⟨h1,rfl⟩:=QaY hj;exact(Z j h1).1.2
  .obtain ⟨h1,rfl⟩:=QaY hj;exact(hg j h1).1.1
  .obtain ⟨h1,rfl⟩:=QaY hj;exact(hg j h1).1.2.1
  obtain⟨h1,rfl⟩:=QaY hj;exact(hg j h1).1.2.2
 have hL:=Qjl ((List.range a1).map λj=>(f j).1) a4 (by simp[b7]) λi v d hi hd=>by
  obtain⟨h1,rfl⟩:=QaY hi;obtain⟨d',h2,h3⟩:=(Z i h1).2;rw[hd]at h2;injection h2 with h2;rw[h2];exact h3
 have hO:=Qjm ((List.range I).map λj=>(g j).1) ((List.range I).map λj=>(g j).2.1) a7 (by simp[a3]) (by simp[a3]) λi q v d hq hi hd=>by
  obtain⟨h1,rfl⟩:=QaY hi;obtain⟨-,rfl⟩:=QaY hq;obtain⟨d',h2,h3⟩:=(hg i h1).2;rw[hd]at h2;injection h2 with h2;rw[h2];exact h3
 have h6:=Qsn (n:=t.size+3+QdR ((List.range a1).map λj=>(f j).1)+QfL ((List.range I).map λj=>(g j).1) ((List.range I).map λj=>(g j).2.1)) d3 d4 d5 oM;rw[hx];simp only[QcI,Rows.uptoBulk];omega
end
section
variable{H : Type}{enc : TypeId × Value -> H}{w : World}{held : Bool}
theorem QdQ:prog.cellsOf 37=19:=kM
theorem Qhn:prog.bytesOf 37=264:=kM
theorem QpR{I:List (DataW H)}{a b c e f:Nat}{d1 d2 d5 d7 d8:DataW H}(h1:I[1]? = some d1)(h2:I[2]? = some d2)(Z:I[5]? = some d5)(h7:I[7]? = some d7)(N:I[8]? = some d8)
  (b1:Rows.uptoBulk d1=a+1) (b2:Rows.uptoBulk d2=b+1) (b5:c<=Rows.uptoBulk d5) (b7:e<=Rows.uptoBulk d7) (b8:f+1<=Rows.uptoBulk d8):7+a+b+c+e+f<=Rows.uptoBulkAll I:=by
 match I,h1,h2,Z,h7,N with
 | x0 :: x1 :: x2 :: x3 :: x4 :: x5 :: x6 :: x7 :: x8 :: r,h1,h2,Z,h7,N=>
   simp at h1 h2 Z h7 N;subst h1 h2 Z h7 N;have:=Qc3 x0;have:=Qc3 x3;have:=Qc3 x4;have:=Qc3 x6;simp only[Rows.uptoBulkAll];omega
theorem Qd2:∀(l:List Mu) (es:List (DataW H)),l.length=es.length->(∀(i:Nat) m d,l[i]? = some m->es[i]? = some d->QcC m<=Rows.uptoBulk d)->Qcc l<=Rows.uptoBulkAll es
 |[],[],_,_=>by simp[Qcc]
 |[],d::es,h,_=>by cases h
 |a::xs,[],h,_=>by cases h
 | a :: xs,d :: es,h,k=>by
   have h1:=k 0 a d rfl rfl;have h2:=Qd2 xs es (by simpa using h) λi N d' I hd=>k (i+1) N d' (by simpa using I) (by simpa using hd)
   simp only[Qcc,Rows.uptoBulkAll];omega
theorem QhE:∀(I:Nat) {cs:List Value} {x:DataW H × List MemPlace},tr enc prog w held I 37 cs=some x->WOk prog 37 x.1->∃m c,cs=Qan m c/\RMu w (Lt w) m c/\QcC m<=Rows.uptoBulk x.1:=by
 intro I
 induction I using Nat.strongRecOn with
 |ind I ih=>
 intro cs x h hw;obtain⟨n,ds,rfl,hl,hx,hf⟩:=QcD underlying37 h hw;rw[QdQ]at hl;obtain⟨y0,h0,-,-⟩:=hf 0 _ rfl;obtain⟨y1,h1,-,d1⟩:=hf 1 _ rfl;obtain⟨y2,h2,-,d2⟩:=hf 2 _ rfl;obtain⟨y3,h3,-,-⟩:=hf 3 _ rfl;obtain⟨y4,h4,-,-⟩:=hf 4 _ rfl;obtain⟨y5,h5,w5,d5⟩:=hf 5 _ rfl;obtain⟨y6,h6,-,-⟩:=hf 6 _ rfl;obtain⟨y7,h7,w7,d7⟩:=hf 7 _ rfl;obtain⟨y8,h8,w8,d8⟩:=hf 8 _ rfl;obtain⟨kd,c2,c1⟩:=QkA (k:=.i64) kM h0;obtain⟨k,hk,wk,bk⟩:=QiT kM h1;obtain⟨tk,c8,b9,c3⟩:=QiT kM h2;obtain⟨i,hi,wi⟩:=QkA (k:=.i64) kM h3;obtain⟨b5,a8⟩:=QqE kM h4;obtain⟨b6,b7⟩:=QqE kM h6;have g5:tr enc prog w held n 34 ((cs.drop 5).take 6)=some y5:=by
  have:=h5;dsimp only at this;rw[QbW]at this;exact this
 have g7:tr enc prog w held n 34 ((cs.drop 12).take 6)=some y7:=by
  have:=h7;dsimp only at this;rw[QbW]at this;exact this
 obtain⟨a9,s1,s2,b4,b0,b3⟩:=QgW n g5 w5;obtain⟨v,s3,s4,hv,rv,cv⟩:=QgW n g7 w7;obtain⟨n8,a6,s,b,o,es,d3,c6,hs,d6,c9,b8,he⟩:=Qc1 (e:=37) (C:=19) (B:=264) kM QdQ Qhn oN h8 w8;have hE:∀i,i<a6->∃a:Mu × MuS,(MuC w b (o+i*19) a.1 a.2/\RMu w (Lt w) a.1 a.2)/\∃d,es[i]? = some d/\QcC a.1<=Rows.uptoBulk d:=λi hi=>by
  obtain⟨d4,y,d0,hc,ht,hw,hd⟩:=he i hi;obtain⟨m,c,rfl,hr,hm⟩:=ih n8 oM ht hw;refine⟨(m,c),⟨λj u hu=>?_,hr⟩,_,hd,hm⟩;have Z:j<19:=(ae.1 hu).1;exact(hc j Z).trans hu
 obtain⟨f,a7⟩:=skolem hE;have c4:cs=Qan (.mk kd k tk i b5 a9 b6 v ((List.range a6).map λj=>(f j).1)) ⟨s1,s2,s3,s4,s⟩:=by
  refine bI λj=>?_
  by_cases Z:j<19
  ·have a0:cs[0]? = some (.int .i64 kd):=at_of_take c2 (j:=0) oN
   have a1:cs[1]? = some (.string k):=at_of_take hk (j:=0) oN;have a2:cs[2]? = some (.string tk):=at_of_take c8 (j:=0) oN;have a3:cs[3]? = some (.int .i64 i):=at_of_take hi (j:=0) oN;have a4:cs[4]? = some (.bool b5):=at_of_take a8 (j:=0) oN;have a5:∀j,j<6->cs[5+j]? =(Qji a9 s1 s2)[j]?:=λj Z=>at_of_take b4 Z
   have c7:cs[11]? = some (.bool b6):=at_of_take b7 (j:=0) oN;have N:∀j,j<6->cs[12+j]? =(Qji v s3 s4)[j]?:=λj Z=>at_of_take hv Z
   have c0:cs[18]? = some (.slice s.a a6 s.c):=at_of_take c6 (j:=0) oN
   match j,Z with
   |0,_=>exact a0
   |1,_=>exact a1
   |2,_=>exact a2
   |3,_=>exact a3
   |4,_=>exact a4
   |5,_=>exact a5 0 oN
   |6,_=>exact a5 1 oN
   |7,_=>exact a5 2 oN
   |8,_=>exact a5 3 oN
   |9,_=>exact a5 4 oN
   |10,_=>exact a5 5 oN
   |11,_=>exact c7
   |12,_=>exact N 0 oN
   |13,_=>exact N 1 oN
   |14,_=>exact N 2 oN
   |15,_=>exact N 3 oN
   |16,_=>exact N 4 oN
   |17,_=>exact N 5 oN
   |18,_=>rw[c0];simp[Qan,Mu.l]
   |j+19,Z=>omega
  rw[aI oM,aI (by simp[Qan];omega)]
 refine⟨_,_,c4,?_,?_⟩
 ·refine .mk b o (fun j=>(f j).2) b0 rv (by rw [aq,bC];exact hs) (fun j m Z=>?_) (fun j m Z=>?_) wk b9 c1 wi (by rw [aq,bC];omega)
  .obtain ⟨h1,rfl⟩:=QaY Z;exact(a7 j h1).1.1
  obtain⟨h1,rfl⟩:=QaY Z;exact(a7 j h1).1.2
 have hL:=Qd2 ((List.range a6).map λj=>(f j).1) es (by simp[c9]) λi m d hi hd=>by
  obtain⟨h1,rfl⟩:=QaY hi;obtain⟨d',h2,h3⟩:=(a7 i h1).2;rw[hd]at h2;injection h2 with h2;rw[h2];exact h3
 have h9:=QpR d1 d2 d5 d7 d8 bk c3 b3 cv (f:=Qcc ((List.range a6).map λj=>(f j).1)) oM;rw[hx];simp only[QcC,Rows.uptoBulk];omega
structure Qu7(w:World)(F:Nat->Prop)(s:Sl)(l:List Mu):Prop where
 ex:∃(b o:Nat) (c:Nat->MuS),Qd5 F s l.length b o/\(∀j m,l[j]? = some m->MuC w b (o+j*19) m (c j))/\∀j m,l[j]? = some m->RMu w F m (c j)
 few:Qcc l<=1099000
 len:l.length*264<=140737488355328
theorem QsE{a0:Nat}{cs:List Value}{x:DataW H × List MemPlace}(h:tr enc prog w held a0 35 cs=some x)(hw:WOk prog 35 x.1)(hB:Rows.uptoBulk x.1<=1048576) :
  ∃(s:Sl) (l:List Mu),cs=[.slice s.a l.length s.c]/\Qu7 w (Lt w) s l:=by
 obtain⟨n,I,s,b,o,es,-,hc,hs,a4,a1,a5,he⟩:=Qc1 (e:=37) (C:=19) (B:=264) underlying35 QdQ Qhn oN h hw;have hE:∀i,i<I->∃a:Mu × MuS,(MuC w b (o+i*19) a.1 a.2/\RMu w (Lt w) a.1 a.2)/\∃d,es[i]? = some d/\QcC a.1<=Rows.uptoBulk d:=λi hi=>by
  obtain⟨a3,y,a2,hc,ht,hw,hd⟩:=he i hi;obtain⟨m,c,rfl,hr,hm⟩:=QhE n ht hw;refine⟨(m,c),⟨λj u hu=>?_,hr⟩,_,hd,hm⟩;have Z:j<19:=(ae.1 hu).1;exact(hc j Z).trans hu
 obtain⟨f,N⟩:=skolem hE;refine⟨s,(List.range I).map λj=>(f j).1,by simpa using hc,⟨b,o,λj=>(f j).2,by rw[aq,bC];exact hs,λj m Z=>?_,λj m Z=>?_⟩,?_,by rw[aq,bC];omega⟩
 .obtain ⟨h1,rfl⟩:=QaY Z;exact(N j h1).1.1
 .obtain ⟨h1,rfl⟩:=QaY Z;exact(N j h1).1.2
 have hL:=Qd2 ((List.range I).map λj=>(f j).1) es (by simp[a1]) λi m d hi hd=>by
  obtain⟨h1,rfl⟩:=QaY hi;obtain⟨d',h2,h3⟩:=(N i h1).2;rw[hd]at h2;injection h2 with h2;rw[h2];exact h3
 omega
end
structure WV where
 v:Val
 sl:Sl
 so:Sl
def WV.cells(x:WV):List Value:=[.int .i64 x.v.kind,.bool x.v.b,.int .i64 x.v.i,.string x.v.t,.slice x.sl.a x.v.l.length x.sl.c,.slice x.so.a x.v.ok.length x.so.c]
def QeF(xs:List WV):List Value:=xs.flatMap WV.cells
theorem Qff(x:WV)(xs:List WV):QeF (x::xs)=x.cells++QeF xs:=by simp[QeF]
theorem Qya(xs ys:List WV):QeF (xs++ys)=QeF xs++QeF ys:=by simp[QeF]
theorem Qne(xs:List WV)(y:WV):QeF (xs++[y])=QeF xs++y.cells:=by simp[QeF]
theorem WV.len(x:WV):x.cells.length=6:=rfl
theorem WV.one(x:WV):∀u∈x.cells,u.oneCell'=true:=by
 intro u hu;simp only[WV.cells,List.mem_cons,List.not_mem_nil,or_false]at hu;rcases hu with rfl|rfl|rfl|rfl|rfl|rfl<;>rfl
theorem Qxc(xs:List WV):∀u∈QeF xs,u.oneCell'=true:=λu hu=>by
 obtain⟨x,-,I⟩:=cR.1 hu;exact x.one u I
theorem QeG(xs:List WV):(QeF xs).length=xs.length*6:=by
 induction xs with
 |nil=>rfl
 |cons x xs ih=>rw[Qff,aj,ih,WV.len,aC];omega
theorem Qip:∀{xs:List WV} {i:Nat} {x:WV},xs[i]? = some x->∀c,c<6->(QeF xs)[i*6+c]? = x.cells[c]?
 |[],i,x,h,_,_=>by simp at h
 | y :: ys,0,x,h,c,hc=>by
   simp at h;subst h;rw[Qff,cE,aD,bu (by rw[WV.len];exact hc)]
 | y :: ys,i+1,x,h,c,hc=>by
   simp at h;rw[Qff,aP (by rw[WV.len];omega),WV.len,show(i+1)*6+c-6=i*6+c from oM];exact Qip h c hc
theorem Qsg{xs:List WV}(h:Rd w F 6 s xs.length (QeF xs)):∃b o,Qd5 F s xs.length b o/\∀j x,xs[j]? = some x->QaV w b (o+j*6) x.v x.sl x.so:=by
 obtain⟨b,o,h1,h2,N⟩:=h;refine⟨b,o,h1,λj x Z=>?_⟩;have I:∀c,c<6->∀u,x.cells[c]? = some u->w.cell? ⟨b,o+j*6+c,none⟩=some u:=λc I u hu=>by
  rw[bH];exact N _ u (by rw[Qip Z c I];exact hu)
 exact⟨I 0 oN _ rfl,I 1 oN _ rfl,I 2 oN _ rfl,I 3 oN _ rfl,I 4 oN _ rfl,I 5 oN _ rfl⟩
theorem Qvw{xs:List WV}{b o:Nat}(h:Qd5 F s xs.length b o)(hc:∀j x,xs[j]? = some x->QaV w b (o+j*6) x.v x.sl x.so):Rd w F 6 s xs.length (QeF xs):=by
 refine⟨b,o,h,QeG xs,λp u hu=>?_⟩;have hp:=(ae.1 hu).1;rw[QeG]at hp;obtain⟨j,c,rfl,N⟩:∃j c,p=j*6+c/\c<6:=⟨p/6,p%6,oM,oM⟩;obtain⟨x,Z⟩:∃x,xs[j]? = some x:=⟨_,ac oM⟩;have e:=hc _ _ Z;rw[Qip Z c N]at hu;rw[<-bH];have I:c=0\/c=1\/c=2\/c=3\/c=4\/c=5:=oM
 rcases I with rfl|rfl|rfl|rfl|rfl|rfl
 .exact e.c0.trans hu
 .exact e.c1.trans hu
 .exact e.c2.trans hu
 .exact e.c3.trans hu
 .exact e.c4.trans hu
 exact e.c5.trans hu
def wl(l:List Val)(c:Nat->Sl × Sl):List WV:=l.mapIdx λj d=>⟨d,(c j).1,(c j).2⟩
theorem QhX(l:List Val)(c:Nat->Sl × Sl):(wl l c).length=l.length:=by simp[wl]
theorem QvV(l:List Val)(c:Nat->Sl × Sl):(wl l c).map WV.v=l:=by
 unfold wl;apply bI;intro j;rw[ar,dt];cases l[j]?<;>rfl
theorem QuY{l:List Val}{c:Nat->Sl × Sl}{x:WV}(h:(wl l c)[j]? = some x):l[j]? = some x.v/\x.sl=(c j).1/\x.so=(c j).2:=by
 unfold wl at h;rw[dt]at h;cases I:l[j]? with
 |none=>rw[I]at h;cases h
 |some d=>rw[I]at h;cases h;exact⟨rfl,rfl,rfl⟩
def Qwg:Val->List Val
 |.mk k _ _ _ l _ ov=>if k=5 then l else if k=6 then ov else[]
theorem Qxr(v:Val):Qdv v=1+Qb1 (Qwg v):=by
 obtain⟨k,b,i,t,l,Z,ov⟩:=v;unfold Qdv Qwg;dsimp only;by_cases I:k=5
 .rw [eH I,eH I]
 rw[eE I,eE I];by_cases N:k=6
 .rw [eH N,eH N]
 rw[eE N,eE N,Qb1]
structure OW(w:World)(base n:Nat)(s:Sl)(xs:List WV):Prop where
 own:w.ownsRow base 34 6 (.slice s.a xs.length s.c) xs.length (QeF xs)
 vals:∀x∈xs,RV w (Lt n) x.v x.sl x.so
theorem OW.nil(w:World)(base n:Nat):OW w base n Sl.none []:=⟨World.ownsRow_nil _ _ _ _,λx h=>by simp at h⟩
theorem OW.ext{base n:Nat}{xs:List WV}(h:OW w base n s xs)(N:Ext w w')(Z:n<=w):OW w' base n s xs:=
 ⟨Qab h.own (N.agree λb (h:Lt w.heap.size b)=>h) (λb I=>(Qad h.own I).2),λx hx=>(h.vals x hx).agree (N.agree λb (I:b<n)=>ab I Z)⟩
variable{s':Sl}
theorem OW.append{base n:Nat}{xs ys:List WV}(hn:n<=base)(hb:base<=w.heap.size)(h:OW w base n s xs)(hv:∀y∈ys,RV w (Lt n) y.v y.sl y.so)
  (N:w'.ownsRow base 34 6 (.slice s'.a (xs.length+ys.length) s'.c) (xs.length+ys.length) (QeF xs++QeF ys)) (a0:Wr w w' s.row):OW w' base n s' (xs++ys):=by
 have I:Agree (Lt n) w w':=a0.agree (λi (hi:i<n)=>oM) (λk hk (hF:k<n)=>by have:=(Qad h.own hk).1;omega);refine⟨by rw[aj,Qya];exact N,λx Z=>?_⟩;rcases aO.1 Z with Z|Z
 .exact (h.vals x Z).agree I
 exact(hv x Z).agree I
abbrev fD:=@Decidable.not_not
theorem Qm6(s:ByteArray)(p:Nat):(Utf8.decode s p).2<=4:=by
 rw[Lib.decode_at];unfold Lib.decodeN
 repeat' split
 all_goals simp
theorem Qna(r:Nat):1<=(Lib.encodeRune (r:Int)).length:=by
 have:=Lib.runeCells_le (r:Int);rw[Lib.runeCells_length]at this;exact this.1
theorem QnN(r:Nat):1<=(QcZ r).length:=by
 unfold QcZ;split
 .exact Qna r
 split<;>simp
theorem Qki(s:ByteArray):∀(f p:Nat),s.size<=p+f->Lib.validD (s.data.toList.drop p)=true->s.size-p<=4*(Qbo (Qbb s f p)).length
 |0,p,h,_=>oM
 | f+1,p,h,I=>by
   by_cases Z:s.size<=p
   .omega
   have hs:s.data.toList.length=s.size:=aL;have N:s.data.toList.drop p≠[]:=λe=>by
    have:=congrArg List.length e;rw[aw,hs]at this;simp at this;omega
   rw[Lib.validD_step _ N,Lib.decodeL_drop]at I;split at I
   .cases I
   rename_i hn;rw[eA]at I;have hd:Utf8.decode s p≠(65533,1):=λe=>hn (by rw[e];exact⟨rfl,rfl⟩)
   have h1:=Lib.width_pos s p;have h4:=Qm6 s p;have ih:=Qki s f (p+(Utf8.decode s p).2) oM I;rw[Qbb,eE Z,eE hd];have hq:(Qbo ((p,(Utf8.decode s p).1)::Qbb s f (p+(Utf8.decode s p).2))).length=(QcZ (Utf8.decode s p).1).length+(Qbo (Qbb s f (p+(Utf8.decode s p).2))).length:=by simp[Qbo]
   rw[hq];have:=QnN (Utf8.decode s p).1;omega
theorem Qkh{s:ByteArray}(h:Lib.validD s.data.toList=true):s.size+8<=4*(Qbf s).size:=by
 have h1:=Qki s s.size 0 oM (by rw[dn];exact h);unfold Qbf;rw[eH h];show s.size+8<=4*((QdG s).toArray.size);rw[bm];unfold QdG Qdn;simp only[List.length_append,List.length_cons,List.length_nil];omega
theorem QrA(n:Int):1<=(Lib.itoa n).length:=by
 unfold Lib.itoa;have:∀u,1<=(Lib.decDigits u).length:=λu=>by
  rw[Lib.decDigits_length];unfold Lib.nDigits
  repeat' split
  all_goals omega
 split
 .rw [aC];omega
 exact this _
mutual
theorem Qig:∀(v:Val) (q:Nat),wfV v->Qda v q=0->QcI v<=7*QgI v
 | .mk k b i t l ok ov,q,hw,h=>by
   obtain⟨a0,hl,ho⟩:=hw;rw[Qda]at h;split at h
   .cases h
   rename_i hodd;split at h
   .cases h
   unfold Qb0 at hodd;split at hodd
   .exact absurd rfl hodd
   rename_i hk;simp only[Bool.or_eq_true,Bool.and_eq_true,bne_iff_ne,ne_eq,not_or,not_and,Decidable.not_not]at hodd;obtain⟨⟨⟨⟨o2,o3⟩,o4⟩,o5⟩,o6⟩:=hodd;have N:k≠4->t.size=0:=o4;have e5:k≠5->l=[]:=λh5=>au (o5 h5)
   have I:k≠6->ov=[]:=λh6=>au (by have:=o6 h6;omega)
   rw[QcI,QgI];by_cases k2:k=2
   ·have:4≤Qut b:=by cases b <;> decide
    rw[eH k2,N oM,e5 oM,I oM];simp only[QdR,QfL];omega
   rw[eE k2];by_cases k3:k=3
   ·have:=QrA i
    rw[eH k3,N oM,e5 oM,I oM];simp only[QdR,QfL];omega
   rw[eE k3];by_cases Z:k=4
   ·rw [eH Z] at h
    have hv:Lib.validD t.data.toList=true:=by
     cases hv:Lib.validD t.data.toList with
     |true=>rfl
     |false=>rw[hv]at h;simp at h
    have:=Qkh hv;rw[eH Z,e5 oM,I oM];simp only[QdR,QfL];omega
   rw[eE Z]at h ⊢;by_cases k5:k=5
   ·rw [eH k5] at h ⊢
    have:=QlW l (q+1) hl h;rw[N oM,I oM];simp only[QfL];omega
   rw[eE k5]at h ⊢;by_cases k6:k=6
   ·rw [eH k6] at h ⊢
    have:=QlX none ok ov (q+1) ho h;rw[N oM,e5 oM];simp only[QdR];omega
   rw[eE k6,N oM,e5 oM,I oM];simp only[QdR,QfL];omega
theorem QlW:∀(l:List Val) (q:Nat),QkR l->Qd8 l q=0->QdR l<=7*QfC l
 |[],q,_,_=>by simp[QdR]
 | d :: r,q,hw,h=>by
   rw[Qd8]at h;obtain⟨hd,N⟩:=hw;by_cases I:Qda d q=0
   ·rw [eE (by simp [I])] at h
    have h1:=Qig d q hd I;have h2:=QlW r q N h;rw[QdR,QfC];omega
   rw[eH I]at h;exact absurd h I
theorem QlX:∀(p:Option ByteArray) (ks:List ByteArray) (l:List Val) (q:Nat),QkR l->QhA p ks l q=0->QfL ks l<=7*Qfl ks l
 |p,ks,[],q,_,_=>by simp[QfL]
 | p,ks,d :: r,q,hw,h=>by
   rw[QhA]at h;obtain⟨hd,N⟩:=hw;split at h
   .cases h
   rename_i hv;split at h
   .cases h
   by_cases I:Qda d q=0
   ·rw [eE (by simp [I])] at h
    have h1:=Qig d q hd I;have h2:=QlX _ ks.tail r q N h;have Z:=Qkh (s:=ks.headD ByteArray.empty) (by simpa using hv);rw[QfL,Qfl];omega
   rw[eH I]at h;exact absurd h I
end
theorem okV.cnt{v:Val}(h:okV v):QcI v<=7168:=by
 have h1:=Qig v 1 h.1 h.may;have h2:=h.2;unfold QcP at h2;split at h2
 .exact absurd h2 (by assumption)
 split at h2
 .cases h2
 split at h2
 .cases h2
 omega
theorem QaE(w:World)(v:Val)(sl so:Sl):Calls prog 204 #[QbV v sl so] w λe w'=>e=.returned (Qd9 v)/\Ext w w':=by
 obtain⟨k,b,i,t,l,I,ov⟩:=v;show Calls _ _ #[.agg #[k,b,i,t,.slice sl.a l.length sl.c,.slice so.a I.length so.c]] _ λe w'=>e=.returned (.bool (k==0 && !b&&i==0&&t.size==0&&l.length==0&&I.length==0))/\Ext w w'
 by_cases hk:k=0
 rotate_left
 ·have gk:(k == 0)=false:=eJ.2 hk
  go_in;go_wp2_with fail;go_ret;exact⟨by simp[hk],(gh w).alloc _ _⟩
 subst hk;by_cases hb:b=true
 ·subst hb
  go_in;go_wp2_with fail;go_ret;exact⟨oO,(gh w).alloc _ _⟩
 obtain rfl:b=false:=by simpa using hb
 by_cases hi:i=0
 rotate_left
 ·have gi:(i == 0)=false:=eJ.2 hi
  go_in;go_wp2_with fail;go_ret;exact⟨by simp[hi],(gh w).alloc _ _⟩
 subst hi;by_cases N:t.size=0
 rotate_left
 ·have gt:=Qbr N
  go_in;go_wp2_with fail;go_ret;exact⟨by simp[N],(gh w).alloc _ _⟩
 have gt:=Qa9 N;by_cases hl:l.length=0
 rotate_left
 ·have gl:((l.length:Int) == 0)=false:=eJ.2 oM
  go_in;go_wp2_with fail;go_ret;exact⟨by simp[hl],(gh w).alloc _ _⟩
 have gl:((l.length:Int)==0)=true:=by rw[hl];rfl
 cases hz:decide (I.length=0)with
 | true=>
   have Z:I.length=0:=fZ hz;have go:((I.length:Int)==0)=true:=by rw[Z];rfl
   go_in;go_wp2_with fail;go_ret;exact⟨by simp[N,hl,Z],(gh w).alloc _ _⟩
 | false=>
   have Z:¬I.length=0:=of_decide_eq_false hz;have go:((I.length:Int)==0)=false:=eJ.2 oM;go_in;go_wp2_with fail;go_ret;exact⟨by simp[Z],(gh w).alloc _ _⟩
variable{H:Nat->Prop}{O:Nat}{d:OD}
theorem Qk1(h:QcK H w O d)(hm:d.mb=none):Calls prog 96 #[.pointer (some O)] w λe w'=>e=.returned (Qao d.T)/\Nw w w':=by
 have c0:w.cell? O=some (QaK d.T):=h.blk.cell 0;have c1:w.cell? ⟨O,1,none⟩=some (.map none):=by have:=h.blk.cell 1;rw[hm]at this;exact this
 have lO:=h.blk.lt;obtain⟨r,hr⟩:=Qaj d.T;rw[Qao,hr];rw[hr]at c0;have l1:O<w.heap.size+1:=oM
 have l2:O<w.heap.size+1+1:=oM
 clear h hm hr;go_in;go_wp2_with fail;generalize a3:World.alloc _ _=W0;obtain⟨a2,a1,I,N⟩:=Qas w _ _ _ _ W0 a3;obtain⟨a8,a7,a6,a9⟩:=Ye a2 I N a1;clear a3 a2 I N l1 l2 a1;refine((eL (n:=5)).1 (Tryz.Qhz none W0)).mono ?_;rintro e w' ⟨rfl,rfl⟩;go_wp2_with fail;refine((eL (n:=5)).1 (Tryz.Qdg W0)).mono ?_;rintro e w2 ⟨v,ss,rfl,rfl,a4,a0,a5⟩;obtain rfl:=a0.2 rfl;have Z:Nw W0 w2:=(gj ((gh W0).alloc #[.map none] 181)).trans (Sb.new a5);have I:=Z.blk a7.o;have N:=Z.blk a6.o;have q0:w2.cell? w=some (.pointer none):=I.cell 0;have q1:w2.cell? ⟨w+1,0,none⟩=some (.pointer r):=N.cell 0;have f0:=I.frozen 0;have k0:=I.lt;have k1:=N.lt;have HN:=hY (show Nw w (w2.setCell w (.pointer r))from
  (((gj a8.o).any (λb=>w<=b)).trans (Z.any _)).set (p:=⟨w,0,none⟩) (.inl (ao _)) _ |>.mono λi hi e=>oM)
 clear a4 a0 a5 Z I N c0 c1;go_wp2_with fail;go_loopw[23] (λq wr=>q=.int .i64 0/\wr=w2) (λ_ _=>0)
 case atStart=>exact⟨rfl,rfl⟩
 obtain⟨rfl,rfl⟩:=hrel;go_wp2_with fail;refine eN (v:=.agg #[.pointer r]) (by simp[results,results96,go_sem,q0]) rfl ?_;exact⟨rfl,HN.o⟩
def Qi1(C:AL SV)(pre:List LE):List ByteArray:=(pre.filter λx=>(QaZ C x.k).isNone).map LE.k
variable{C:AL SV}{x:LE}
theorem Qr4{pre:List LE}(h:QaZ C x.k=none):Qi1 C (pre++[x])=Qi1 C pre++[x.k]:=by
 unfold Qi1;rw[bP,aB,bB,eH (by rw[h];rfl)];rfl
theorem QtA{pre:List LE}{s:SV}(h:QaZ C x.k=some s):Qi1 C (pre++[x])=Qi1 C pre:=by
 unfold Qi1;rw[bP,aB,bB,eE (by rw[h];simp)];simp
theorem Qmt(C:AL SV)(pre:List LE):(Qi1 C pre).length<=pre.length:=by
 unfold Qi1;rw[aq];exact bD _ _
def Qnh(C:AL SV)(p k:ByteArray):Bool:=match QaZ C k with
 |some s=>s.has&&Qau p k
 |none=>false
abbrev QbL(l:List UInt8):ByteArray:=⟨l.toArray⟩
def Qc7(C:AL SV)(p:ByteArray)(ss:List (List UInt8)):List ByteArray:=(ss.map QbL).filter (Qnh C p)
theorem Qpl{p:ByteArray}{ss:List (List UInt8)}{x:List UInt8}(h:Qnh C p (QbL x)=true):Qc7 C p (ss++[x])=Qc7 C p ss++[QbL x]:=by
 unfold Qc7;rw[aB,bP,List.map_singleton,bB,eH h];rfl
theorem Ql7{p:ByteArray}{ss:List (List UInt8)}{x:List UInt8}(h:Qnh C p (QbL x)=false):Qc7 C p (ss++[x])=Qc7 C p ss:=by
 unfold Qc7;rw[aB,bP,List.map_singleton,bB,eE (by rw[h];simp)];simp
theorem Qpk(C:AL SV)(p:ByteArray)(ss:List (List UInt8)):(Qc7 C p ss).length<=ss.length:=by
 unfold Qc7;have:=bD (Qnh C p) (ss.map QbL);rwa[aq]at this
theorem QdL(C:AL SV):strKeys (mapA SV.val C)=C.map λq=>QaP q.1:=by
 show(C.map (Qsx SV.val)).map _=_;rw[cN];rfl
theorem Qpy{a b:ByteArray}(h:klt a b=true):a≠b:=λe=>by rw[e,Qag]at h;cases h
variable{xs:List LE}
theorem Qqb{p:ByteArray}(hs:Sorted (Qaa d.T))(hC:Qay d.C)(hx:xs.map LE.ent=Qeo p (Qaa d.T)){ss:List (List UInt8)}(hp:ss.Perm (d.C.map λq=>QaP q.1)) :
  (Qi1 d.C xs++Qc7 d.C p ss).Nodup/\∀k,k∈Qi1 d.C xs++Qc7 d.C p ss↔(Qau p k=true/\(d.now k).isSome=true):=by
 have hsp:(Qeo p (Qaa d.T)).Pairwise λa b=>klt a.1 b.1=true:=hs.sublist (cJ ..)
 rw[<-hx]at hsp;have hk1:(xs.map LE.k).Pairwise λa b=>klt a b=true:=bU.2 (bU.1 hsp)
 have hn1:(Qi1 d.C xs).Nodup:=((bU.2 ((bU.1 hk1).sublist (cJ ..))).imp λh=>Qpy h);have hnC:(d.C.map λq=>QaP q.1).Nodup:=bU.2 (hC.imp λ{a b} h (e:QaP a.1=QaP b.1)=>Qpy h (congrArg QbL e:QbL (QaP a.1)=QbL (QaP b.1)));have hns:(ss.map QbL).Nodup:=bU.2 ((hp.nodup_iff.2 hnC).imp λ{a b} h (e:QbL a=QbL b)=>h (congrArg QaP e:QaP (QbL a)=QaP (QbL b)));have hn2:(Qc7 d.C p ss).Nodup:=hns.sublist (cJ ..);have hm1:∀k,k∈Qi1 d.C xs↔(Qau p k=true/\(Qaq (Qaa d.T) k).isSome=true/\QaZ d.C k=none):=λk=>by
  have hmem:∀(e:Ent),e∈xs.map LE.ent↔(e∈Qaa d.T/\Qau p e.1=true):=λe=>by rw[hx];exact bQ
  unfold Qi1;rw[bY];constructor
  ·rintro ⟨x,hx',rfl⟩
   obtain⟨h1,h2⟩:=bQ.1 hx';obtain⟨h3,h4⟩:=(hmem x.ent).1 (de h1);exact⟨h4,by have:=Qis hs h3;rw[show x.ent.1=x.k from rfl]at this;rw[this];rfl,Option.isNone_iff_eq_none.1 h2⟩
  rintro⟨h1,h2,h3⟩;obtain⟨v,hv⟩:=db.1 h2;obtain⟨x,hx',he⟩:=bY.1 ((hmem (k,v)).2 ⟨QdW hv,h1⟩);have hxk:x.k=k:=congrArg Prod.fst he;exact⟨x,bQ.2 ⟨hx',by rw[hxk,h3];rfl⟩,hxk⟩
 have hm2:∀k,k∈Qc7 d.C p ss↔Qnh d.C p k=true:=λk=>by
  unfold Qc7;rw[bQ];refine⟨λh=>h.2,λh=>⟨?_,h⟩⟩;unfold Qnh at h;cases hg:QaZ d.C k with
  |none=>rw[hg]at h;cases h
  | some s=>
    have h5:QaP k∈ss:=hp.mem_iff.2 (bY.2 ⟨(k,s),QeJ hg,rfl⟩);exact bY.2 ⟨QaP k,h5,rfl⟩
 refine⟨List.nodup_append.2 ⟨hn1,hn2,λa ha b hb e=>?_⟩,λk=>?_⟩
 ·subst e
  have h1:=((hm1 a).1 ha).2.2;have h2:=(hm2 a).1 hb;unfold Qnh at h2;rw[h1]at h2;cases h2
 rw[aO,hm1,hm2];unfold Qnh;cases hg:QaZ d.C k with
 |none=>rw[Qmo hg];simp
 | some s=>
   rw[Qmp hg];unfold SV.opt;cases hh:s.has<;>cases Qau p k<;>simp[hh]
theorem QsW{x:List UInt8}{N:DataW Value}{yp:List MemPlace}{c:Value}(I:∀zd,(mapA SV.val C).atKey (.string x) zd=N)(Z:QeO c=some (N,yp)):∃sv,QaZ C (QbL x)=some sv/\c=sv.val:=by
 have h1:=Qgh SV.val C (QbL x);cases hg:QaZ C (QbL x)with
 | none=>
   simp only[hg]at h1;have a:=(h1 .nil).symm.trans (I .nil);have b:=(h1 (.held (.bool true))).symm.trans (I _);rw[<-a]at b;cases b
 | some s=>
   simp only[hg]at h1;have a:=(h1 .nil).symm.trans (I .nil);rw[<-a]at Z;exact⟨s,rfl,QeP Z⟩
theorem Qk9{p k:ByteArray}{s:SV}(h:QaZ C k=some s):Qnh C p k=(s.has&&Qau p k):=by unfold Qnh;rw[h]
theorem Qj5{α:Type}[DecidableEq α]:∀{ss l:List α},ss.Nodup->(∀x∈ss,x∈l)->ss.length<=l.length
 |[],l,_,_=>aA _
 | a :: ss,l,hn,hs=>by
   have Z:=hs a (aF ..);have I:=List.nodup_cons.1 hn;have:=Qj5 (ss:=ss) (l:=l.erase a) I.2 λx N=>(List.mem_erase_of_ne (λe=>I.1 (by rw[<-e];exact N))).2 (hs x (aS _ N))
   have he:=List.length_erase_of_mem Z;have:0<l.length:=List.length_pos_of_mem Z;simp only[List.length_cons];omega
theorem Qgq{left:Lit->Bool}{ss:List (List UInt8)}(h:Collected (mapA SV.val C) left ss):ss.length<=C.length:=by
 have h2:=Qj5 (l:=C.map λq=>QaP q.1) h.1 λx I=>by
  have:=((h.2 x).1 I).1;rw[show Lit.string x=Qfz (QbL x)from rfl,Ql5]at this;obtain⟨s,hs⟩:=db.1 this;exact bY.2 ⟨(QbL x,s),QeJ hs,rfl⟩
 rwa[aq]at h2
def QlO(d:OD)(p:ByteArray)(w:World)(e:Ending)(w':World):Prop:=
 ∃(s:Sl) (ks:List ByteArray),e=.returned (.slice s.a ks.length s.c)/\Nw w w'/\Rd w' (In w.heap.size w'.heap.size) 1 s ks.length (ks.map .string)/\ks.Pairwise (λx y=>klt x y=true)/\∀k,k∈ks↔(Qau p k=true/\(d.now k).isSome=true)
variable{w1 w5 w6:World}
theorem Qqc{p:ByteArray}{ks ts:List ByteArray}(h1:Nw w w1)(hB:w.heap.size<=B)(hc:Qdo w1 B ks s W)(hn:ks.Nodup)(hm:∀k,k∈ks↔(Qau p k=true/\(d.now k).isSome=true))
  (hp:ts.Perm ks) (hs:(ts.map QaP).Pairwise λx y=>decide (x<=y)=true) (ho:w5.ownsRow (w1.heap.size+2) 9 1 (.slice s.a ts.length s.c) ts.length (ts.map .string)) (N:W.grownBy w5 s.row) {D:Nat} (h6:Sb (λb=>b=D) w5 w6) (hD:w1.heap.size=D) :
  QlO d p w (.returned (.slice s.a ts.length s.c)) w6:=by
 have hz:=h1.size;have h5:Sb (λb=>s.row=some b) W w5:=⟨N.os,N.tape,N.output,N.size,λi hi hn=>N.block i hi λe=>hn e.symm⟩;refine⟨s,ts,rfl,?_,?_,QgT hs (hp.nodup_iff.2 hn),λk=>(hp.mem_iff).trans (hm k)⟩
 ·have a1:Sb (fun b=>B=b∨w1.heap.size≤b) w1 w6:=((hc.sb.mono fun i _ e=>.inl e.symm).trans (h5.mono fun i _ e=>.inr (by have:=(hc.row e).1;omega))).trans (h6.mono fun i _ e=>.inr oM)
  exact((h1.any (λb=>w<=b)).comp a1 λi hi e=>by rcases e with e|e<;>omega).mono λi hi e=>oM
 have I:∀b,s.row=some b->w1.heap.size+2<=b/\b<w5.heap.size:=λb Z=>Qad ho Z
 have a0:=Qab ho h6.agree λb Z=>⟨(I b Z).2,λe=>by have:=(I b Z).1;omega⟩
 exact(gz a0).mono λi hi=>⟨by have:=hi.1;omega,hi.2⟩
end Go.Proofs.YtdiecmkpbadgjaaGreatDoor
