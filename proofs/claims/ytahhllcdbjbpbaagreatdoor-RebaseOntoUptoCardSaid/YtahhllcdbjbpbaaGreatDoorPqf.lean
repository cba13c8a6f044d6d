/- Steps to the theorem. -/
import Derived.Test.YtahhllcdbjbpbaaGreatDoorPqe
set_option linter.all false
set_option maxRecDepth 100000
set_option maxHeartbeats 4000000
namespace Go.Proofs.YtahhllcdbjbpbaaGreatDoor
open Go.Proofs.Tryz
open Go.RowKit Go.Maps Go.Shelf
attribute [local go_sem] Oper.semAt_some
structure OI(w:AB)(B:Nat)(a b:Value)(n:Nat)(ok:List AA)(ov:List Val)(pre:List ME)(W:AB):Prop where
 blk:AE W B 267 (wrC a b (n+1+(Bf ok (ov.take pre.length)+(pre.length-1))))
 sb:Sb (λc=>c=B) w W
 box:AE W w.heap.size 270 #[.pointer (some ⟨B,0,none⟩)]
variable{w W W':AB}{B n:Nat}
def OI.nw{a b:Value}{ok:List AA}{ov:List Val}{pre:List ME}(h:OI w B a b n ok ov pre W)(k:Nw W W'):OI w B a b n ok ov pre W':=⟨k.blk h.blk,h.sb.trans (k.any _),k.blk h.box⟩
def OI.turn{B x:Nat}{a b:Value}{ok:List AA}{ov:List Val}{pre:List ME}(h:OI w B a b n ok ov pre W)(k:Sb (λi=>i=x) W W')(N:w.heap.size<x)(I:B<w.heap.size):OI w B a b n ok ov pre W':=
 ⟨k.blk h.blk oM,h.sb.comp k (λi hi e=>by have e:i=x:=e;omega),k.blk h.box oM⟩
def T0:∀(ks:List AA) (l:List Val),l.length=ks.length->ks.length<=B9 ks l
 |[],_,_=>aw _
 |k::ks,[],h=>by cases h
 | k :: ks,d :: r,h=>by
   have:=T0 ks r (by simpa using h);rw[B9,cu,aC];omega
variable{ks:List AA}
def oX{l:List Val}:Bf ks (l.take 0)=0:=by cases ks<;>simp[Bf]
variable{F:Nat->Prop}{V:Nat}{sl so:Sl}
def WT{P:Val->Prop}(hI:MZ P){bo:Bool}{i:Int}{t:AA}{l:List Val}{ok:List AA}{ov:List Val}{a b:Value} 
  (hP:∀(j:Nat) (d:Val),ov[j]? = some d->P d) (hc:B9 ok ov<=1100000)
  (hV:AE w V 54 #[.int .i64 6,.bool bo,.int .i64 i,.string t,.slice sl.a l.length sl.c,.slice so.a ok.length so.c]) (h:RV w F (.mk 6 bo i t l ok ov) sl so) (hF:∀i,F i->i<w.heap.size/\i≠B) (i6:V≠B) (hB:AE w B 267 (wrC a b n)) (hn:n+(2+Bf ok ov+(ov.length-1))<=9000000) (hL:Aw w) (h6:6<=B) :
  Calls prog 240 #[.pointer (some B),.pointer (some V)] w λe w'=>(∃r,e=.returned r)/\AE w' B 267 (wrC a b (n+(2+Bf ok ov+(ov.length-1))))/\Sb (λc=>c=B) w w':=by
 cases h with
 |mk bl fl bo' fo cl co hl ho hov el rl ek eo ro bk bi bt nl no=>
 have d3:FV w F so ok ov:=⟨⟨bo',fo,co,ho,ek,eo,ro⟩,hov,λk hk=>by
  obtain⟨j,hj⟩:=List.mem_iff_getElem?.1 hk;have g9:=(ai.1 hj).1;have:=Fy (ac (l:=ov) (i:=j) oM) hj;omega⟩
 have l6:ok.length<=1100000:=by
  have:=T0 ok ov hov;omega
 have o0:=hV.lt;have g0:=hB.lt;obtain⟨f6,HV,HF,HB,j1,HI,HP⟩:=Yh d3 hV hF hB hL hI hP;obtain⟨HC,HN,i3⟩:=Yc hc hn hov;clear d3 hV hF hB hL hI hP hc hn el rl ek eo ro hl ho bk bi bt nl no hov;refine(eR (n:=6)).1 ?_;refine fN func240 rfl trivial ?_ rfl;simp only[ntmps240,zL,Nat.reduceAdd,Nat.reduceSub];gi_wp2_with fail;generalize b6:w.alloc (.cells #[.pointer (some B)] _)=W0;have e7:Ext w W0:=by rw[<-b6];exact(gz w).alloc _ _
 have k0:W0.heap.size=w.heap.size+1:=by rw[<-b6];simp
 have i1:AE W0 w.heap.size 270 #[.pointer (some B)]:=by rw[<-b6];exact gB w _ _
 have f0:=Gg (w:=W0) ⟨#[123]⟩ (HB.o.ext e7) (by have:=HN.o;show n+1<=_;omega);rw[k0]at f0;obtain⟨i0,k6,l1⟩:=Yc f0 e7 i1;clear b6 f0 e7 i1;refine⟨trivial,?_⟩;refine(eR.2 i0.o).mono ?_;rintro e w1 ⟨⟨r,rfl⟩,f4,b9⟩;have a0:=(k6.o.sb (λc=>c=B)).trans b9;obtain⟨q0,q1,q2,q3,q4,q5⟩:=(a0.blk HV.o i6).c6;have lq:=(a0.blk HV.o i6).lt;have c9:=b9.blk l1.o oM;obtain⟨l0,j6,g4⟩:=Yc f4 a0 c9;have o4:=b9.size;clear f4 b9 a0 c9 i0;gi_wp2_with fail;refine⟨trivial,?_⟩;refine(eR.2 (XL w1 so.a ok.length so.c)).mono ?_;rintro e w2 ⟨rfl,a3,e0⟩;have a9:=j6.o.ext a3;have d4:Agree F w w2:=λx hx=>a9.block x (HF.o x hx).1 (HF.o x hx).2
 have f1:Aw w2:=j1.o.sb a9 λc hc e=>by have e:c=B:=e;omega
 have e2:∀b,F b->b<w2.heap.size:=λb I=>ab (HF.o b I).1 a9.size
 have c7:OI w B a b n ok ov [] w2:=⟨by have:=l0.o.ext a3;rw[show([]:List ME).length=0 from rfl,oX];exact this,a9,g4.o.ext a3⟩;have n7:=a3.size;have l5:=e0.lt;have o1:=f1.lib.big;obtain⟨k9,f5,a2⟩:=Yc (kY e0 (f6.o.agree d4) e2 f1 oM) c7 e2;clear a3 e0 a9 d4 f1 e2 c7 q0 q1 q2 q3 q4 q5;gi_wp2_with fail;refine U1 (gf:=251) (lb:=#[.pointer (some w1)]) rfl (fq func251 kM rfl) k9.o (Agree.refl _) (ao _)
  (λb I=>by
    rcases I with I|rfl|I
    .exact a2.o b I
    .omega
    omega) (λ_=>rfl) (OI w B a b n ok ov) (λ_ _ _=>False)
  (λh k hl l9=>h.turn k oM g0) (λh _ _ _=>h) (λW hW hz=>f5.o.nw (gA hW)) ?round ?done ?stop
 case stop=>
  rintro D c pre W hD o3 hX b7;exact hX.elim
 case round=>
  rintro pre x o2 W1 hI n8 b3 hG;obtain⟨tx,d,Vx,b5,b8⟩:=x;obtain⟨⟨k,hk,hd,e1⟩,b4,f2,f9⟩:=hG;dsimp only at hd e1 b4 f2 f9;have g9:=(ai.1 hk).1;have f7:=hY (hI.nw b3);have hcut:=Lu ok ov (pre.length+1);have j7:=Mx hd hk;have g5:=OJ pre.length;have l2:tx.size=(Da pre.length).size+(Bl k).size:=by rw[e1,aP]
  have j0:=i3.o;have j5:=HN.o;have d7:n+1+(Bf ok (ov.take pre.length)+(pre.length-1))+tx.size+1+Be d<=9000000:=oM
  have a4:n+1+(Bf ok (ov.take (pre.length+1))+(pre.length+1-1))=n+1+(Bf ok (ov.take pre.length)+(pre.length-1))+tx.size+1+Be d:=oM
  have i8:Ah d<=1100000:=by have:=Fy hd hk;have:=HC.o;omega
  obtain⟨j4,l3,d8,e8,i5,g8⟩:=Yg (HP.o _ d hd) i8 d7 a4 b4 f2;have l4:=b3.size;have n6:=b4.lt;have l7:=Ob d.kind;clear hI b3 hk hd e1 b4 f2 hcut j7 g5 l2 j0 j5 d7 a4 i8 g9;gi_wp2_with fail;refine⟨gE _ _,λW3 k3 j8 i7 f3=>?_⟩;have a7:=f7.o.turn k3 oM g0;have p0:W3.cell? w=some (.pointer (some B)):=a7.box.cell 0;have lp:=a7.box.lt;have o5:=k3.size;have d5:=k3.blk i5.o oM;have d6:RV W3 F d b5 b8:=g8.o.agree λb I=>k3.block b (by have:=a2.o b I;omega) (λe=>by have e:b=_:=e;have:=a2.o b I;omega)
  have g7:=pw (w:=W3) tx ⟨#[58]⟩ a7.blk (by have:=d8.o;show _+1<=_;omega);obtain⟨a5,g3,f8,k8,l8,n9⟩:=Yg a7 d5 d6 g7 i7 f3;clear k3 j8 i7 f3 a7 d5 d6 g7 f7 i5 g8;gi_wp2_with fail;refine⟨trivial,?_⟩;refine(Dj k8.o).mono ?_;rintro e w5 ⟨⟨r5,rfl⟩,i9,Z⟩;have p5:w5.cell? w=some (.pointer (some B)):=(Z.blk a5.o.box oM).cell 0;have n2:=(Z.blk a5.o.box oM).lt;have n4:=Z.size;have c8:=a5.o.sb.trans Z;have a6:=HI.o d j4.o l3.o w5 F Vx B b5 b8 a b _ (Z.blk g3.o oM) (f8.o.agree λb I=>Z.block b (by have:=a2.o b I;omega) (HF.o b I).2) (λi hi=>⟨by have:=a2.o i hi;omega,(HF.o i hi).2⟩) oM i9 (by have:=d8.o;exact this) (j1.o.sb c8 λc hc e=>by have e:c=B:=e;omega) h6;obtain⟨d9,k2⟩:=Yb a6 Z;clear i9 Z c8 a6 p0;gi_wp2_with fail;refine⟨trivial,?_⟩;refine(Dj d9.o).mono ?_;rintro e w6 ⟨⟨r6,rfl⟩,b0,a1⟩;have N:=k2.o.trans a1;have j2:=hY (show OI w B a b n ok ov (pre++[⟨tx,d,Vx,b5,b8⟩]) w6/\Agree (λb=>(F b\/b=w1.heap.size\/b<6)\/b=w2.heap.size\/b=w2.heap.size+1) W3 w6/\W3.heap.size<=w6.heap.size from
   ⟨⟨by rw [aj,show [(⟨tx,d,Vx,b5,b8⟩:ME)].length=1 from rfl,e8.o];exact b0,a5.o.sb.trans N,N.blk a5.o.box oM⟩,
     λb I=>N.block b (by
      rcases I with(I|rfl|I)|rfl|rfl
      .have:=a2.o b I;omega
      all_goals omega) (λe=>by
      have e:b=B:=e;rcases I with(I|rfl|I)|rfl|rfl
      .exact (HF.o b I).2 e
      all_goals omega),N.size⟩)
  clear b0 a1 N;gi_wp2_with fail;exact j2.o
 rintro D xs W hD hS hI b7;have i2:xs.length=ok.length:=hS;have a8:=hI.blk;rw[i2,<-i3.o,aR]at a8;have p0:W.cell? w=some (.pointer (some B)):=hI.box.cell 0;have lp:=hI.box.lt;have j3:=Gg (w:=W) ⟨#[125]⟩ a8 (by have:=HN.o;show _+1<=_;omega);obtain⟨k1,k4,k5,e3⟩:=Ye j3 hI b7 hD;have lD:=(aA.1 b7).1;clear j3 hI b7 hD hS i2 a8;gi_wp2_with fail;refine⟨trivial,?_⟩;refine(eR.2 k1.o).mono ?_;rintro e w6 ⟨⟨r6,rfl⟩,b0,a1⟩;have e4:w6.heap[D]? = some (.deferred (some [])):=(a1.block D lD (λe=>by have e:D=B:=e;have:=e3.o;omega)).trans k5.o;have e6:=(St.put (o':=.deferred none) e4 rfl rfl).sb;have d0:=e6.blk b0 (by have:=e3.o;omega);have i4:Sb (λc=>c=B) w _:=(k4.o.sb.trans a1).comp e6 (λi hi e=>by have e:i=D:=e;have:=e3.o;omega);obtain⟨k7,g6,j9⟩:=Yc e4 d0 i4;clear b0 a1 e4 e6 d0 i4;gi_wp2_with fail;refine⟨oO,.inl ⟨_,_,rfl,fM k7.o,?_⟩⟩;refine⟨.tuple #[],?_,⟨_,rfl⟩,by rw[show n+(2+Bf ok ov+(ov.length-1))=n+1+(Bf ok ov+(ov.length-1))+1 by omega];exact g6.o,j9.o⟩;simp[results,results240,go_sem]
def WR(m:Nat):MZ (λd=>SizeOf.sizeOf d<=m):=by
 induction m with
 |zero=>intro d hd;have:=Val.CM d;omega
 |succ m ih=>
 intro d hd hc w F V B sl so a b n hV h hF a0 hB I hL h6;have a1:=h;obtain⟨k,bo,i,t,l,ok,ov⟩:=d;cases h with
 |mk bl fl bo' fo cl co hl ho hov el rl ek eo ro bk bi bt nl no=>
 unfold Ah at hc;unfold Be at I;unfold VF Be;show Calls _ (fnO k) (_++bsO k V) _ _;by_cases h2:k=2
 ·subst h2
  rw[eN rfl]at I;exact(pM hV hB oM).mono λe w' h=>by rw[eN rfl];exact h
 by_cases Z:k=3
 ·subst Z
  simp only[if_neg h2,if_pos]at I ⊢;exact Xl hV hB (by simp[Lit.wf,IntKind.min,IntKind.max,IntKind.signed,IntKind.bits]at bi;omega) (by simp[Lit.wf,IntKind.min,IntKind.max,IntKind.signed,IntKind.bits]at bi;omega) oM hL
 by_cases h4:k=4
 ·subst h4
  simp only[if_neg h2,if_neg Z,if_pos]at I ⊢;exact ZF hV hB oM oM hL
 by_cases h5:k=5
 ·subst h5
  simp only[if_neg h2,if_neg Z,if_neg h4,if_pos]at I ⊢;exact XR ih (λj d hj=>bz (ab (Val.Ev hj) hd)) oM hV a1 hF a0 hB I hL h6
 by_cases N:k=6
 ·subst N
  simp only[if_neg h2,if_neg Z,if_neg h4,if_neg h5,if_pos]at I ⊢;exact WT ih (λj d hj=>bz (ab (Val.E0 hj) hd)) oM hV a1 hF a0 hB I hL h6
 simp only[if_neg h2,if_neg Z,if_neg h4,if_neg h5,if_neg N]at I ⊢;have hf:fnO k=242:=by simp[fnO,h2,Z,h4,h5,N]
 have hb:bsO k V=#[]:=by simp[bsO,h2,Z,h4,h5,N]
 rw[hf,hb];exact lF hB oM
end Go.Proofs.YtahhllcdbjbpbaaGreatDoor
namespace Go.Proofs.YtahhllcdbjbpbaaGreatDoor
open Go.Proofs.Tryz
open Go.RowKit Go.Maps Go.Shelf
variable{w:AB}{sl so:Sl}
def jS{d:Val}(h:RV w (Lt w) d sl so)(hc:Ah d<=1100000)(hL:Aw w):Calls prog 187 #[AS d sl so] w λe w'=>e=.returned (.int .i64 (Be d:Int))/\Nw w w':=by
 have a2:=LC _ w d sl so h;have h6:=hL.lib.big;obtain⟨HH,HC,HL,b5⟩:=Ye h hc hL a2;clear h hc hL a2;go_in;go_wp2_with fail;generalize a6:World.alloc _ _=W0;obtain⟨a4,a9,b4,a3⟩:=CH w _ _ _ _ W0 a6;obtain⟨a7,b0⟩:=Yb a4 a3;clear a6 a4 b4 a3;refine(Nn W0 d sl so).mono ?_;rintro e w1 ⟨rfl,a1,Z⟩;rw[a9]at Z;have a5:=b0.o.ext a1;have I:=(gA a7.o).trans (gA a1);have N:=WR _ d (ao _) HC.o w1 (Lt w) (w.heap.size+2) (w.heap.size+1) sl so _ _ 0 Z (HH.o.agree (gC I λb hb=>hb)) (λi hi=>⟨Nat.lt_of_lt_of_le hi I.size,by have hi:i<w:=hi;omega⟩) oM a5 (by have:=b5.o;have:=HC.o;omega) (HL.o.nw I) oM;obtain⟨a0,a8⟩:=Yb N I;have b6:=Ob d.kind;clear a1 Z a5 I N;go_wp2_with fail;refine a0.o.mono ?_;rintro e w2 ⟨⟨r,rfl⟩,hb,hs⟩;have c3:w2.cell? ⟨w+1,3,none⟩=some (.int .i64 ((0+Be d:Nat):Int)):=hb.cell 3;rw[aF]at c3;have b3:=hY (a8.o.comp hs λi hi e=>by have e:i=w.heap.size+1:=e;omega);clear hb hs;go_wp2_with fail;go_ret;exact⟨rfl,b3.o⟩
def AY(d:Val):Int:=if Ai d 1≠0 then Ai d 1 else if 16<Bo d then 5 else if 1024<Be d then 6 else 0
def Mh{d:Val}(h:RV w (Lt w) d sl so)(hc:Ah d<=1100000)(hL:Aw w):Calls prog 160 #[AS d sl so] w λe w'=>e=.returned (AY d)/\Nw w w':=by
 have a0:∀W,Nw w W->RV W (Lt W) d sl so:=λW N=>(h.agree (gC N λb hb=>hb)).mono λb hb=>ab hb N.size
 have hm:=λW (N:Nw w W)=>Z8 (a0 W N) (hL.lib.nw N)
 have hd:=λW (N:Nw w W) (hq:Bo d<=1000000)=>jY _ d (ao _) hq W sl so (a0 W N)
 have hb:=λW (N:Nw w W)=>jS (a0 W N) hc (hL.nw N)
 obtain⟨HM,HD,HB⟩:=Yc hm hd hb;obtain⟨r,hr⟩:∃r,AY d=r:=⟨_,rfl⟩;rw[hr];have HR:=hY hr;clear hm hd hb hr a0 h hL;go_in;go_wp2_with fail;have a5:=(gz w).alloc (Cl d sl so) 54;have b6:=gB w 54 (Cl d sl so);refine(HM.o _ (gA a5)).mono ?_;rintro e w1 ⟨rfl,a6⟩;have Z:=a6.blk b6;obtain⟨q0,q1,q2,q3,q4,q5⟩:=Z.c6;have lq:=Z.lt;obtain⟨a4,c9⟩:=Yb ((gA a5).trans a6) Z;clear a5 b6 a6 Z;obtain⟨m,hm⟩:∃m,Ai d 1=m:=⟨_,rfl⟩;rw[hm];by_cases a1:m=0
 ·subst a1
  have b3:=Jk d 1 hm;obtain⟨b7,a9⟩:=Yb b3 hm;clear hm b3;go_wp2_with fail;refine(HD.o _ a4.o (by have:=b7.o;omega)).mono ?_;rintro e w2 ⟨rfl,a3⟩;have a8:=c9.o.ext a3;clear q0 q1 q2 q3 q4 q5;obtain⟨q0,q1,q2,q3,q4,q5⟩:=a8.c6;have d0:=a8.lt;have a7:=hY (a4.o.trans (gA a3));clear a3 a8;by_cases I:16<Bo d
  ·have g0:decide ((16:Int)<(Bo d:Int))=true:=eO oM
   have b4:r=5:=by rw[<-HR.o,AY,a9.o,eL oO,eN I]
   have c8:=hY b4;clear b4 I;go_wp2_with fail;go_ret;exact⟨by rw[c8.o];rfl,a7.o⟩
  have g0:decide ((16:Int)<(Bo d:Int))=false:=eM oM;have a2:=hY I;clear I;go_wp2_with fail;refine(HB.o _ a7.o).mono ?_;rintro e w3 ⟨rfl,b0⟩;have b5:=hY (a7.o.trans b0);clear b0 q0 q1 q2 q3 q4 q5;by_cases hl:1024<Be d
  ·have g1:decide ((1024:Int)<(Be d:Int))=true:=eO oM
   have b9:=hY (show r=6 by rw[<-HR.o,AY,a9.o,eL oO,eL a2.o,eN hl]);clear hl;go_wp2_with fail;go_ret;exact⟨by rw[b9.o];rfl,b5.o⟩
  have g1:decide ((1024:Int)<(Be d:Int))=false:=eM oM;have b8:=hY (show r=0 by rw[<-HR.o,AY,a9.o,eL oO,eL a2.o,eL hl]);clear hl;go_wp2_with fail;go_ret;exact⟨by rw[b8.o];rfl,b5.o⟩
 have g0:(m != 0)=true:=by simpa using a1
 have c7:=hY (show r=m by rw[<-HR.o,AY,hm,eN a1]);clear hm a1;go_wp2_with fail;go_ret;exact⟨by rw[c7.o];rfl,a4.o⟩
mutual
def wfV:Val->Prop
 |.mk _ _ _ _ l ok ov=>ok.length=ov.length/\By l/\By ov
def By:List Val->Prop
 |[]=>True
 |d::r=>wfV d/\By r
end
def OU:∀{l:List Val},(∀(j:Nat) d,l[j]? = some d->wfV d)->By l
 |[],_=>by unfold By;trivial
 | a :: l,h=>by
   unfold By;exact⟨h 0 a rfl,OU λj d I=>h (j+1) d (by simpa using I)⟩
variable{F:Nat->Prop}
def RV.wf{d:Val}(h:RV w F d sl so):wfV d:=by
 induction h with
 | mk bl fl bo fo cl co hl ho hov el rl ek eo ro bk bi bt nl no ihl iho=>
   unfold wfV;exact⟨hov.symm,OU ihl,OU iho⟩
def GK{x y:Int}(h:(if x≠0 then x else y)=0):x=0/\y=0:=by
 by_cases I:x=0
 .exact ⟨I,by rw[eL (by simp[I])]at h;exact h⟩
 rw[eN I]at h;exact absurd h I
def V'(n:Nat):∀(a b:Val) (p q:Nat),SizeOf.sizeOf a<=n->wfV a->wfV b->Ai a p=0->Ai b q=0->AW a b=0->a=b:=by
 induction n with
 |zero=>intro a b p q h;have:=Val.CM a;omega
 | succ n ih=>
   intro a b p q hn wa wb Z N I;have hl:∀(l1 l2:List Val) (p q:Nat),SizeOf.sizeOf l1<=n->By l1->By l2->Bp l1 p=0->Bp l2 q=0->cmpL l1 l2=0->l1=l2:=by
    intro l1
    induction l1 with
    | nil=>
      intro l2 p q _ _ _ _ _ I;cases l2 with
      |nil=>rfl
      |cons b r=>simp[cmpL]at I
    | cons a l1 ihl=>
      intro l2 p q hs wa wb Z N I;cases l2 with
      |nil=>simp[cmpL]at I
      | cons b l2=>
        simp only[List.cons.sizeOf_spec]at hs;unfold By at wa wb;unfold Bp at Z N;unfold cmpL at I;obtain⟨b0,I⟩:=GK I;obtain⟨a1,Z⟩:=GK Z;obtain⟨a7,N⟩:=GK N;rw[ih a b p q oM wa.1 wb.1 a1 a7 b0,ihl l2 p q oM wa.2 wb.2 Z N I]
   have ho:∀(v1 v2:List Val) (k1 k2:List AA) (p1 p2:Option AA) (q1 q2:Nat),SizeOf.sizeOf v1<=n->By v1->By v2->k1.length=v1.length->k2.length=v2.length->Bi p1 k1 v1 q1=0->Bi p2 k2 v2 q2=0->Bn v1 k1 k2 v2=0->k1=k2/\v1=v2:=by
    intro v1
    induction v1 with
    | nil=>
      intro v2 k1 k2 p1 p2 q1 q2 _ _ _ h1 h2 _ _ I;cases v2 with
      | nil=>
        simp only[List.length_nil,List.length_eq_zero_iff]at h1 h2;exact⟨by rw[h1,h2],rfl⟩
      |cons b r=>simp[Bn]at I
    | cons a v1 ihl=>
      intro v2 k1 k2 p1 p2 q1 q2 hs wa wb h1 h2 Z N I;cases v2 with
      |nil=>simp[Bn]at I
      | cons b v2=>
        cases k1 with
        |nil=>simp at h1
        | cons x k1=>
          cases k2 with
          |nil=>simp at h2
          | cons y k2=>
            simp only[List.cons.sizeOf_spec]at hs;unfold By at wa wb;unfold Bi at Z N;unfold Bn at I;have I:(if BU x y≠0 then BU x y else if AW a b≠0 then AW a b else Bn v1 k1 k2 v2)=0:=I;have Z:(if !Lib.validD x.data.toList then 3 else if p1.any (λq=>!klt q x)then 8 else if Ai a q1≠0 then Ai a q1 else Bi (some x) k1 v1 q1)=0:=Z;have N:(if !Lib.validD y.data.toList then 3 else if p2.any (λq=>!klt q y)then 8 else if Ai b q2≠0 then Ai b q2 else Bi (some y) k2 v2 q2)=0:=N;obtain⟨b4,I⟩:=GK I;obtain⟨b0,I⟩:=GK I;have a1:Ai a q1=0/\Bi (some x) k1 v1 q1=0:=by
             split at Z
             .cases Z
             split at Z
             .cases Z
             exact GK Z
            have a7:Ai b q2=0/\Bi (some y) k2 v2 q2=0:=by
             split at N
             .cases N
             split at N
             .cases N
             exact GK N
            obtain⟨e1,e2⟩:=ihl v2 k1 k2 (some x) (some y) q1 q2 oM wa.2 wb.2 (by simpa using h1) (by simpa using h2) a1.2 a7.2 I;rw[Su.1 b4,e1,ih a b q1 q2 oM wa.1 wb.1 a1.1 a7.1 b0,e2];exact⟨rfl,rfl⟩
   obtain⟨k,b1,i,t,l,ok,ov⟩:=a;obtain⟨k',b2,i',t',l',a0,a8⟩:=b;simp only[Val.mk.sizeOf_spec]at hn;unfold wfV at wa wb;unfold Ai at Z N;have I:(if k≠k' then As k k' else if k=2 then FC b1 b2 else if k=3 then As i i' else if k=4 then BU t t' else if k=5 then cmpL l l' else if k=6 then Bn ov ok a0 a8 else 0)=0:=by
    have h2:=I;unfold AW at h2;exact h2
   have hk:k=k':=by
    by_cases h:k=k'
    .exact h
    rw[eN h,Tl]at I;exact absurd I h
   subst hk;have ha:Ad k b1 i t l.length ok.length=false:=by
    cases h:Ad k b1 i t l.length ok.length with
    |false=>rfl
    |true=>rw[h,eN rfl]at Z;cases Z
   have hb:Ad k b2 i' t' l'.length a0.length=false:=by
    cases h:Ad k b2 i' t' l'.length a0.length with
    |false=>rfl
    |true=>rw[h,eN rfl]at N;cases N
   rw[ha]at Z;rw[hb]at N;have a9:∀{t:AA},t.size=0->t=ByteArray.empty:=λh=>ByteArray.ext (Array.eq_empty_of_size_eq_zero h)
   have b3:∀{ok:List AA} {ov:List Val},ok.length=ov.length->ok.length=0->ok=[]/\ov=[]:=λh1 h2=>⟨List.eq_nil_of_length_eq_zero h2,av (h1▸h2)⟩
   unfold Ad at ha hb;by_cases hr:k<1\/6<k
   .rw [eN hr]at ha;cases ha
   rw[eL hr]at ha hb;simp only[Bool.or_eq_false_iff,Bool.and_eq_false_iff,bne_eq_false_iff_eq]at ha hb;rw[eL oO]at I;obtain⟨⟨⟨⟨a2,a3⟩,a4⟩,a5⟩,a6⟩:=ha;obtain⟨⟨⟨⟨c2,c3⟩,c4⟩,c5⟩,c6⟩:=hb;have eb:b1=b2:=by
    by_cases h:k=2
    .subst h;rw[eN rfl,YI]at I;exact I
    rw[a2.resolve_left h,c2.resolve_left h]
   have ei:i=i':=by
    by_cases h:k=3
    .subst h;rw[eL oN,eN rfl,Tl]at I;exact I
    rw[a3.resolve_left h,c3.resolve_left h]
   have et:t=t':=by
    by_cases h:k=4
    .subst h;rw[eL oN,eL oN,eN rfl,Su]at I;exact I
    rw[a9 (a4.resolve_left h),a9 (c4.resolve_left h)]
   have el:l=l':=by
    by_cases h:k=5
    ·subst h
     rw[eL oN,eL oN,eL oN,eN rfl]at I;have m1:Bp l (p+1)=0:=by
      simp only[Bool.false_eq_true,if_false]at Z;split at Z
      .cases Z
      simpa using Z
     have m2:Bp l' (q+1)=0:=by
      simp only[Bool.false_eq_true,if_false]at N;split at N
      .cases N
      simpa using N
     exact hl l l' _ _ oM wa.2.1 wb.2.1 m1 m2 I
    rw[av (a5.resolve_left h),av (c5.resolve_left h)]
   have eo:ok=a0/\ov=a8:=by
    by_cases h:k=6
    ·subst h
     rw[eL oN,eL oN,eL oN,eL oN,eN rfl]at I;have m1:Bi none ok ov (p+1)=0:=by
      simp only[Bool.false_eq_true,if_false]at Z;split at Z
      .cases Z
      simpa using Z
     have m2:Bi none a0 a8 (q+1)=0:=by
      simp only[Bool.false_eq_true,if_false]at N;split at N
      .cases N
      simpa using N
     exact ho ov a8 ok a0 _ _ _ _ oM wa.2.2 wb.2.2 wa.1 wb.1 m1 m2 I
    obtain⟨e1,e2⟩:=b3 wa.1 (a6.resolve_left h);obtain⟨e3,e4⟩:=b3 wb.1 (c6.resolve_left h);rw[e1,e2,e3,e4];exact⟨rfl,rfl⟩
   rw[eb,ei,et,el,eo.1,eo.2]
def okV(v:Val):Prop:=wfV v/\AY v=0
def okV.may{v:Val}(h:okV v):Ai v 1=0:=by
 have h1:=h.2;unfold AY at h1;by_cases h2:Ai v 1=0
 .exact h2
 rw[eN h2]at h1;exact h1
def okV.eq{a b:Val}(N:okV a)(I:okV b)(h:AW a b=0):a=b:=V' _ a b 1 1 (ao _) N.1 I.1 N.may I.may h
structure Ae(M:List AD):Prop where
 sorted:Sorted M
 ok:∀e∈M,AT e.1=0/\okV e.2
def Ae.nil:Ae []:=⟨List.Pairwise.nil,λe h=>by cases h⟩
variable{M:List AD}
def Ae.get(h:Ae M){k:AA}{v:Val}(I:AH M k=some v):AT k=0/\okV v:=h.ok (k,v) (IJ I)
def Ae.put(h:Ae M){k:AA}{v:Val}(hk:AT k=0)(N:okV v):Ae (AU M k v):=
 ⟨EU h.sorted k v,λe Z=>(MP Z).elim (λI=>I▸⟨hk,N⟩) (h.ok e)⟩
def Ae.del(h:Ae M)(k:AA):Ae (Ac M k):=⟨EI h.sorted k,λe I=>h.ok e ((Fz M k).subset I)⟩
def Jc:∀{a b:List AD},Sorted a->Sorted b->(∀k,AH a k=AH b k)->a=b
 |[],[],_,_,_=>rfl
 |[],f::b,_,_,h=>by have:=h f.1;simp[AH]at this
 |e::a,[],_,_,h=>by have:=h e.1;simp[AH]at this
 | e :: a,f :: b,ha,hb,h=>by
   obtain⟨a1,a2⟩:=aZ.1 ha;obtain⟨b1,b2⟩:=aZ.1 hb;have I:∀{x:AD} {l:List AD} {k:AA},(∀y∈l,klt x.1 y.1=true)->klt k x.1=true->AH (x::l) k=none:=λ{x l k} h1 h2=>by
    have:∀y∈x::l,y.1≠k:=λy hy e=>by
     rcases aH.1 hy with rfl|hy
     .rw [e,BI]at h2;cases h2
     have:=Ck h2 (h1 y hy);rw[e,BI]at this;cases this
    cases hg:AH (x::l) k with
    |none=>rfl
    |some v=>exact absurd rfl (this _ (IJ hg))
   have hk:e.1=f.1:=by
    refine E6 ?_ ?_
    ·cases Z:klt e.1 f.1 with
     |false=>rfl
     | true=>
       have h1:=h e.1;rw[AH,eN rfl,I b1 Z]at h1;cases h1
    cases Z:klt f.1 e.1 with
    |false=>rfl
    | true=>
      have h1:=h f.1;rw[I a1 Z,AH,eN rfl]at h1;cases h1
   have N:=h e.1;rw[AH,eN rfl,AH,eN hk.symm]at N;injection N with N;have he:e=f:=eJ hk N;subst he;rw[Jc a2 b2 λk=>?_];by_cases hx:e.1=k
   ·have n1:∀ {l:List AD},(∀ y∈l,klt e.1 y.1=true)→AH l k=none:=fun {l} h1=>by
     cases hg:AH l k with
     |none=>rfl
     |some v=>have:=h1 _ (IJ hg);rw[hx]at this;rw[show((k,v):AD).1=k from rfl,BI]at this;cases this
    rw[n1 a1,n1 b1]
   have:=h k;rwa[AH,eL hx,AH,eL hx]at this
structure Cq(B:List AD)(C:Slots)(M:List AD):Prop where
 below:Ae B
 ok:Ae M
 chg:Bd C
 now:∀k,DX B C k=AH M k
def Cq.com{B:List AD}{C:Slots}(h:Cq B C M):B4 B C B=M:=by
 have hs:=JF B C B h.below.sorted;have ho:∀e∈B4 B C B,okV e.2:=by
  have:∀(C':Slots) (t:List AD),(∀p∈C',p∈C)->(∀e∈t,okV e.2)->∀e∈B4 B C' t,okV e.2:=by
   intro C'
   induction C' with
   |nil=>intro t _ N;rw[B4];exact N
   | cons p r ih=>
     intro t hp N;obtain⟨k,s⟩:=p;have hr:=λq hq=>hp q (aI _ hq)
     cases s with
     | some v=>
       rw[B4];split
       .exact ih t hr N
       refine ih _ hr λe I=>?_
       rcases MP I with rfl|I
       ·have h1:=h.now k
        rw[DX,Oa h.chg (hp _ (aD ..))]at h1;exact(h.ok.get h1.symm).2
       exact N e I
     | none=>
       rw[B4];split
       .exact ih _ hr λe I=>N e ((Fz t k).subset I)
       exact ih t hr N
  exact this C B (λp hp=>hp) λe I=>(h.below.ok e I).2
 refine Jc hs h.ok.sorted λk=>?_
 have h1:=IY B (k:=k) C B h.chg h.below.sorted rfl;rw[h.now k]at h1;cases ha:AH (B4 B C B) k with
 | none=>
   cases Z:AH M k with
   |none=>rfl
   |some b=>rw[ha,Z]at h1;cases h1
 | some a=>
   cases Z:AH M k with
   |none=>rw[ha,Z]at h1;cases h1
   | some b=>
     rw[ha,Z]at h1;simp only[Le,decide_eq_true_eq]at h1;exact congrArg some ((ho _ (IJ ha)).eq (h.ok.get Z).2 h1)
def Cq.start{B:List AD}(h:Ae B):Cq B [] B:=⟨h,h,List.Pairwise.nil,λk=>rfl⟩
def Cq.put{B:List AD}{C C':Slots}(h:Cq B C M){k:AA}{v:Val}(Z:AT k=0)(hv:okV v)(hs:Bd C')(N:∀x,AQ C' x=if x=k then some (some v)else AQ C x):Cq B C' (AU M k v):=
 ⟨h.below,h.ok.put Z hv,hs,λx=>by
   unfold DX;rw[N,Ic];by_cases I:x=k
   .rw [eN I,eN I]
   rw[eL I,eL I];exact h.now x⟩
def Cq.del{B:List AD}{C C':Slots}(h:Cq B C M){k:AA}(hs:Bd C')(N:∀x,AQ C' x=if x=k then some none else AQ C x):Cq B C' (Ac M k):=
 ⟨h.below,h.ok.del k,hs,λx=>by
   unfold DX;rw[N,Fw _ _ _ h.ok.sorted];by_cases I:x=k
   .rw [eN I,eN I]
   rw[eL I,eL I];exact h.now x⟩
def inI(lo hi:AA)(op:Bool)(e:AD):Bool:=!(klt e.1 lo)&&(op||klt e.1 hi)
def BW(lo hi:AA)(op:Bool)(es:List AD):List AD:=es.filter (inI lo hi op)
def D9(lo hi:AA)(op:Bool)(a b:List AD):BW lo hi op (a++b)=BW lo hi op a++BW lo hi op b:=bT ..
variable{lo hi:AA}{op:Bool}
def Rn{es:List AD}(h:∀e∈es,klt e.1 lo=true):BW lo hi op es=[]:=
 List.filter_eq_nil_iff.2 λe I=>by simp[inI,h e I]
def DJ(hi:AA)(op:Bool)(k:AA):Bool:=!op && !(klt k hi)
def NU{es:List AD}(h:∀e∈es,DJ hi op e.1=true):BW lo hi op es=[]:=
 List.filter_eq_nil_iff.2 λe I=>by
  have:=h e I;simp only[DJ,Bool.and_eq_true,Bool.not_eq_true']at this;simp[inI,this.1,this.2]
def UH{a b:AA}(h:DJ hi op a=true)(I:klt a b=true):DJ hi op b=true:=by
 simp only[DJ,Bool.and_eq_true,Bool.not_eq_true']at h ⊢;refine⟨h.1,?_⟩;cases N:klt b hi
 .rfl
 rw[Ck I N]at h;cases h.2
variable{e:AD}
def Rk(h1:klt e.1 lo=false)(h2:DJ hi op e.1=false):BW lo hi op [e]=[e]:=by
 have:inI lo hi op e=true:=by
  simp only[DJ,Bool.and_eq_false_iff,Bool.not_eq_false']at h2;rcases h2 with h2|h2<;>simp[inI,h1,h2]
 simp[BW,this]
def PV{A B:List AD}(hs:Sorted (A++B))(h:∃e∈A,DJ hi op e.1=true):BW lo hi op B=[]:=by
 obtain⟨e,I,h⟩:=h;exact NU λx N=>UH h ((G9 hs).2.2 e I x N)
def le_last{es:List AD}(hs:Sorted es)(I:e∈es):klt (BZ es) e.1=false:=by
 have N:es≠[]:=by rintro rfl;cases I
 rcases List.eq_nil_or_concat es with rfl |⟨a,x,rfl⟩
 .exact absurd rfl N
 rw[List.concat_eq_append]at hs I;have Z:BZ (a.concat x)=x.1:=by simp[BZ]
 rw[Z];rcases aL.1 I with h|h
 .exact Ej ((G9 hs).2.2 e h x (aV.2 rfl))
 rw[aV.1 h];exact BI _
def ZR{es:List AD}(hs:Sorted es)(I:e∈es):klt e.1 (Az es)=false:=by
 cases es with
 |nil=>cases I
 | cons x es=>
   show klt e.1 x.1=false;rcases aH.1 I with rfl|h
   .exact BI _
   exact Ej ((aZ.1 hs).1 e h)
def gM{es:List AD}(hs:Sorted es)(h:klt (BZ es) lo=true):∀e∈es,klt e.1 lo=true:=λe I=>My (le_last hs I) h
def Ss{es:List AD}(hs:Sorted es)(h:DJ hi op (Az es)=true):∀e∈es,DJ hi op e.1=true:=λe I=>by
 simp only[DJ,Bool.and_eq_true,Bool.not_eq_true']at h ⊢;refine⟨h.1,?_⟩;cases N:klt e.1 hi
 .rfl
 have:=My (ZR hs I) N;rw[h.2]at this;cases this
def Dc:List UInt8->Option (List UInt8)
 |[]=>none
 | b :: t=>match Dc t with
   |some e=>some (b::e)
   |none=>if b=255 then none else some [b+1]
def R9(k:List UInt8):Op.bytesLess k []=false:=by cases k<;>rfl
def On{b c:UInt8}(I:b≠255):(c<b+1)↔(c<b\/c=b):=by
 have h1:(b+1).toNat=b.toNat+1:=by
  rw[UInt8.toNat_add];have:b.toNat≠255:=λe=>I (UInt8.toNat_inj.1 e)
  have:=b.toNat_lt;show(b.toNat+1)%256=_;omega
 rw[UInt8.lt_iff_toNat_lt,UInt8.lt_iff_toNat_lt,h1,<-UInt8.toNat_inj];omega
def UV:∀p k:List UInt8,(p.isPrefixOf k)=(!(Op.bytesLess k p)&&(match Dc p with|none=>true|some e=>Op.bytesLess k e))
 |[],k=>by simp[R9,Dc,List.isPrefixOf]
 |b::t,[]=>by simp[Op.bytesLess,List.isPrefixOf]
 | b :: t,c :: s=>by
   have ih:=UV t s;simp only[List.isPrefixOf,Op.bytesLess,Dc];by_cases N:c<b
   ·have a0:(b == c)=false:=eP.2 (by rintro rfl;exact absurd N (UInt8.lt_irrefl _))
    simp[N,a0]
   by_cases he:c=b
   ·subst he
    cases hE:Dc t with
    | some e=>
      rw[hE]at ih;simp[Op.bytesLess,ih,UInt8.lt_irrefl]
    | none=>
      rw[hE]at ih;by_cases I:c=255
      .subst I;simp[ih,UInt8.lt_irrefl]
      have h1:c<c+1:=(On I).2 (.inr rfl);simp[Op.bytesLess,ih,UInt8.lt_irrefl,I,h1]
   have a0:(b==c)=false:=eP.2 λe=>he e.symm
   have Z:(c==b)=false:=eP.2 he;simp only[a0,Bool.false_and,N,decide_false,Z,Bool.or_self,Bool.not_false,Bool.true_and];cases hE:Dc t with
   |some e=>simp[Op.bytesLess,N,Z]
   | none=>
     by_cases I:b=255
     ·exfalso
      subst I;have h1:=UInt8.not_lt.1 N;have h2:c<=255:=UInt8.le_iff_toNat_le.2 (by have:=c.toNat_lt;show c.toNat<=255;omega);exact he (UInt8.le_antisymm h2 h1)
     have h1:¬c<b+1:=λh=>by
      rcases(On I).1 h with h|h
      .exact N h
      exact he h
     simp[I,Op.bytesLess,h1,R9]
def Nf:∀n:Nat,Dc (List.replicate n 255)=none
 |0=>rfl
 |n+1=>by rw[ef,Dc,Nf n];rfl
def SP{b:UInt8}(I:b≠255)(n:Nat):∀a:List UInt8,Dc (a++b::List.replicate n 255)=some (a++[b+1])
 |[]=>by rw[aG,Dc,Nf];simp[I]
 |x::a=>by rw[aJ,Dc,SP I n a];rfl
abbrev inV(lo hi:AA)(op:Bool):Value:=.agg #[.string lo,.string hi,.bool op]
def NV(w:AB)(lo hi:AA)(op:Bool)(k:AA):Calls prog 253 #[inV lo hi op,k] w λe w'=>e=.returned (DJ hi op k)/\Ext w w':=by
 cases op
 ·go_in
  go_wp2_with fail;go_ret;exact⟨rfl,(gz w).alloc _ _⟩
 go_in;go_wp2_with fail;go_ret;exact⟨rfl,(gz w).alloc _ _⟩
structure IZ(At:AB->Prop)(nv:Value)(es:List AD):Prop where
 ext:∀{W W'},At W->Ext W W'->At W'
 ptr:∃p,nv=.pointer p
 height:∀W,At W->Calls prog 48 #[nv] W λe w'=>e=.returned (.int .i64 0)/\W=w'
 size:∀W,At W->Calls prog 118 #[nv] W λe w'=>e=.returned (.int .i64 es.length)/\∃q,w'=W.drewN q
 kids:∀W,At W->Calls prog 54 #[nv] W λe w'=>e=.returned (.slice none 0 0)/\W=w'
 entry:∀W,At W->∀(i:Nat) (e:AD),es[i]? = some e->Calls prog 171 #[nv,.int .i64 i] W (JL e.1 e.2 W)
 none:∀W,At W->∀i:Int,(i<0\/es.length<=i)->Calls prog 171 #[nv,.int .i64 i] W λe w'=>e=.returned (.tuple #[B3 ByteArray.empty zeroV Sl.none Sl.none,.bool false])/\Ext W w'
 sorted:Sorted es
 few:es.length<=8
def EH(F:Nat->Prop)(h:Nat)(t:PT h)(W:AB):Prop:=AJ W F h t/\∀b,F b->b<W.heap.size
variable{h:Nat}{W W':AB}
def EH.ext{t:PT h}(a:EH F h t W)(k:Ext W W'):EH F h t W':=⟨a.1.agree (k.agree a.2),λb I=>ab (a.2 b I) k.size⟩
def EH.lt{t:PT h}(a:EH F h t W):AJ W (Lt W) h t:=a.1.mono a.2
def pX{t:PT 0}(ok:Aj 0 t)(hs:Sorted (ents 0 t)):IZ (EH F 0 t) (ptr 0 t) (ents 0 t) where
 ext:=EH.ext
 ptr:=⟨_,rfl⟩
 height W a:=Dw a.1
 size W a:=LX a.1 (an (show(ents 0 t).length<=8 from ok) oN)
 kids W a:=P5 a.1
 entry W a i e h:=TS a.lt h
 none W a i h:=VW a.lt h
 sorted:=hs
 few:=ok
def lQ:IZ (λ_=>True) (.pointer none) [] where
 ext _ _:=trivial
 ptr:=⟨_,rfl⟩
 height W _:=J5 W
 size W _:=(SK W).mono λe w' ⟨h1,h2⟩=>⟨h1,0,h2.symm⟩
 kids W _:=SL W
 entry W _ i e h:=by simp at h
 none W _ i _:=R1 W i
 sorted:=List.Pairwise.nil
 few:=oO
variable{nv:Value}{b1 b2:Nat}
def jp{k k':AA}{v:Val}{i:Nat}(h1:W.cell? b1=some nv)(h2:W.cell? b2=some (.string k))
  (hp:∃p,nv=.pointer p) (Z:Calls prog 171 #[nv,i] W (JL k' v W)) :
  Calls prog 274 #[i,.pointer (some b1),.pointer (some b2)] W λe w'=>e=.returned (.bool !(klt k' k))/\Ext W w':=by
 obtain⟨p,rfl⟩:=hp;have I:=fc W _ h2;go_in;go_wp2_with fail;refine Z.mono ?_;rintro e w1 ⟨sl,so,rfl,N,-⟩;have q2:=(N.cell I).trans h2;have l2:b2<w1:=ab I N.size;have HX:=hY N;clear Z N h2;go_wp2;go_ret;exact⟨rfl,HX.o.alloc _ _⟩
def ZL{At:AB->Prop}{es:List AD}(N:IZ At nv es)(hw:At w)(k:AA):Calls prog 265 #[nv,k] w λe w'=>e=.returned (Aq es k)/\Ext w w':=by
 obtain⟨pp,rfl⟩:=N.ptr;have hl:=N.few;have a9:∀W,Ext w W->W.cell? w=some (.pointer pp)->W.cell? ⟨w+1,0,none⟩=some (.string k)->Calls prog 78 #[.int .i64 es.length,.func (.func 274) #[] #[.pointer (some w),.pointer (some ⟨w+1,0,none⟩)]] W (It es.length (λi=>!(klt ((es[i]?.map Prod.fst).getD ByteArray.empty) k)) W):=by
  intro W hW c1 c2;refine Jy 274 _ _ es.length _ W (fq func274 kM rfl) oM ?_ ?_
  ·intro i W' hi a2
   obtain⟨x,hx⟩:∃x,es[i]? = some x:=⟨_,ac hi⟩;rw[hx];exact jp ((a2.cell (fc W _ c1)).trans c1) ((a2.cell (fc W _ c2)).trans c2) ⟨_,rfl⟩ (N.entry W' (N.ext (N.ext hw hW) a2) i x hx)
  intro i j b9 hj I;by_cases a6:i=j
  .subst a6;exact I
  obtain⟨x,hx⟩:∃x,es[i]? = some x:=⟨_,ac oM⟩;obtain⟨y,hy⟩:∃y,es[j]? = some y:=⟨_,ac hj⟩;have b8:=Iv N.sorted (i:=i) (j:=j) oM hx hy;rw[hx]at I;rw[hy];simp only[Option.map_some,Option.getD_some,Bool.not_eq_true']at I ⊢;cases b3:klt y.1 k
  .rfl
  have:=Ck b8 b3;rw[I]at this;cases this
 obtain⟨HC,b5,HW⟩:=Yc N a9 hw;clear N a9 hw;go_in;go_wp2_with fail;generalize b0:World.alloc _ _=W0;obtain⟨a7,b6,a1,a3⟩:=CH w _ _ _ _ W0 b0;have q0:W0.cell? w=some (.pointer pp):=a1.cell 0;obtain⟨a0,b4,b7⟩:=Yc a7 a1 a3;clear b0 a1 a3 a7 b6;refine(HC.o.size W0 (HC.o.ext HW.o a0.o)).mono ?_;rintro e w1 ⟨rfl,q,rfl⟩;clear q0;go_wp2_with fail;refine(b5.o _ (a0.o.drewN q) (b4.o.cell 0) (b7.o.cell 0)).mono ?_;rintro e w1 ⟨p,rfl,hp,a5,a8,a4⟩;have Z:Aq es k=p:=Ib hp (λi e hi he=>by
   have:(!(klt ((es[i]?.map Prod.fst).getD ByteArray.empty) k))=false:=a5 i hi;rw[he]at this;simpa using this) (λe he=>by
   have:(!(klt ((es[p]?.map Prod.fst).getD ByteArray.empty) k))=true:=a8 p (ao _) (ai.1 he).1;rw[he]at this;simpa using this)
 obtain⟨HE,HP⟩:=Yb ((a0.o.drewN q).trans a4) Z;clear a5 a8 Z a4;go_wp2_with fail;go_ret;exact⟨by rw[HP.o];rfl,HE.o⟩
def pT{t:PT (h+1)}(ok:Aj (h+1) t){I:PT h}(N:I∈t.2):ents h I≠[]:=by
 have h1:=ok.2.2 I N;have:=ER h I h1.1 oM;intro e;rw[e]at this;simp at this
def GL(F:Nat->Prop)(T:RT)(W:AB):Prop:=AV W F T/\∀b,F b->b<W.heap.size
variable{T:RT}
def GL.ext(a:GL F T W)(k:Ext W W'):GL F T W':=⟨a.1.agree (k.agree a.2),λb I=>ab (a.2 b I) k.size⟩
abbrev gu:=@wpIn_wide
attribute [local go_sem] Oper.semAt_some
abbrev Ge(x:LE):Array Value:=#[.string x.k,AS x.v x.sl x.so]
structure IN(all:List AD)(pre:List LE)(x:LE)(W0 W1:AB):Prop where
 at_:all[pre.length]? = some x.ent
 pre_:pre.map LE.ent=all.take pre.length
 val:RV W1 (In W0.heap.size W1.heap.size) x.v x.sl x.so
 key:x.k.size<=maxLen
def EF(lo hi:AA)(op:Bool)(es all:List AD)(pre:List LE)(J:List LE->(Nat->Prop)->AB->Prop)(Jx:List LE->AB->Prop)(C:Nat->Prop)(W:AB)(e:AC)(W':AB):Prop:=
 (∃(new:List LE) (C':Nat->Prop) (W0:AB),(e=.returned (.bool true)\/(e=.returned (.bool false)/\∃x∈es,DJ hi op x.1=true))/\J (pre++new) C' W0/\Ext W0 W'/\new.map LE.ent=BW lo hi op es/\St C W W'/\∀b,C' b->C b\/W.heap.size<=b)\/
 (e=.returned (.bool false)/\St C W W'/\∃pre' W0,Jx pre' W0/\Ext W0 W'/\pre'.map LE.ent <+: all)
variable{all rest:List AD}{x:LE}
def Xp{pre I:List LE}{A:List AD}{B:List AD}(N:all=pre.map LE.ent++(BW lo hi op (A++x.ent::B)++rest))(hn:I.map LE.ent=BW lo hi op A)(h1:klt x.k lo=false)(h2:DJ hi op x.k=false) :
  all[(pre++I).length]? = some x.ent/\(pre++I).map LE.ent=all.take (pre++I).length/\(I++[x]).map LE.ent=BW lo hi op (A++[x.ent]):=by
 have e1:BW lo hi op (A++x.ent::B)=BW lo hi op A++(x.ent::BW lo hi op B):=by
  rw[show A++x.ent::B=A++([x.ent]++B)from rfl,D9,D9,Rk (e:=x.ent) h1 h2];rfl
 rw[e1,<-hn]at N;have e2:all=(pre++I).map LE.ent++(x.ent ::(BW lo hi op B++rest)):=by rw[N];simp
 have Z:(pre++I).length=((pre++I).map LE.ent).length:=oO
 refine⟨?_,?_,?_⟩
 .rw [e2,Z,aO (ao _),cE];rfl
 .rw [e2,Z,dL]
 rw[aB,hn,D9,aW,bB,Rk (e:=x.ent) h1 h2]
def oU{es:List AD}(hs:Sorted es){i:Nat}{x:AD}(hx:es[i]? = some x)(Z:DJ hi op x.1=true):BW lo hi op (es.take i)=BW lo hi op es:=by
 have hd:es.drop i=x::es.drop (i+1):=by
  obtain⟨h1,rfl⟩:=ai.1 hx;exact aE h1
 conv=>rhs;rw[<-aX i es]
 rw[D9,NU (es:=es.drop i),aY];intro e I;have N:Sorted (es.drop i):=dm (eu _ _) hs;rw[hd]at I N;rcases aH.1 I with rfl|I
 .exact Z
 exact UH Z ((aZ.1 N).1 e I)
variable{n:Nat}
def jq{α:Type}{l:List α}{x:α}(h:l[n]? = some x):l.take n++[x] <+: l:=by
 have e:l.take (n+1)=l.take n++[x]:=by rw[aK,h];rfl
 rw[<-e];exact List.take_prefix _ _
structure VE(lo hi:AA)(op:Bool)(es:List AD)(At:AB->Prop)(pre:List LE)(J:List LE->(Nat->Prop)->AB->Prop)(C:Nat->Prop)(W:AB)(i:Nat)(new:List LE)(C':Nat->Prop)(Wj wr:AB):Prop where
 j:J (pre++new) C' Wj
 ext:Ext Wj wr
 new_:new.map LE.ent=BW lo hi op (es.take i)
 st:St C W wr
 sub:∀b,C' b->C b\/W.heap.size<b
 box:AE wr W.heap.size 289 #[.string lo,.string hi,.bool op]
 at_:At wr
variable{W0:AB}
def Yv{At:AB->Prop}{es:List AD}(hc:IZ At nv es)(b3:∀W W',At W->Agree F W W'->W.heap.size<=W'.heap.size->At W')(e6:∀e∈es,e.1.size<=maxLen){pre:List LE}
  {l:Nat} {J:List LE->(Nat->Prop)->AB->Prop} {Jx:List LE->AB->Prop} (hT:Takes prog l Ge (IN all) J Jx) {C:Nat->Prop} (hJ:J pre C W0) (hx:Ext W0 W) (hw:At W) (hF:∀b,F b->b<W.heap.size/\¬C b) (b8:all=pre.map LE.ent++(BW lo hi op es++rest)) :
  Calls prog 252 #[nv,inV lo hi op,.func (.yield l) #[] #[]] W (EF lo hi op es all pre J Jx C W):=by
 obtain⟨pp,rfl⟩:=hc.ptr;have hl:=hc.few;have e8:=hT.lt pre C W0 hJ;have d5:Ext W (W.alloc (.cells #[lo,hi,op] 289)):=(gz W).alloc _ _;have c8:=gB W 289 #[.string lo,.string hi,.bool op];have d0:=ZL hc (hc.ext hw d5) lo;obtain⟨d6,d8⟩:=N6 es lo hc.sorted;obtain⟨p,hp⟩:∃p,Aq es lo=p:=⟨_,rfl⟩;rw[hp]at d0 d6 d8;have f5:p<=es.length:=by rw[<-hp];exact Mc _ _
 have q0:(W.alloc (.cells #[lo,hi,op] 289)).cell? ⟨W.heap.size,0,none⟩=some (.string lo):=c8.cell 0;obtain⟨HC,i7,g6,HT,HJ,HX,HW⟩:=Yh hc b3 e6 hT hJ hx hw;obtain⟨HF,e7,i4,f2,i0,g5,f9⟩:=Yh hF b8 c8 d0 d6 d8 d5;have g4:=hY e8;clear hc b3 e6 hT hJ hx hw hF b8 d0 d6 d8 hp c8 d5 e8;refine(eR (n:=5)).1 ?_;refine fT func252 rfl trivial ?_ rfl;simp only[ntmps252,zL,Nat.reduceAdd,Nat.reduceSub];gi_wp2_with fail;refine⟨trivial,?_⟩;refine(eR.2 f2.o).mono ?_;rintro e w1 ⟨rfl,c9⟩;obtain⟨d4,i9⟩:=Yb (f9.o.trans c9) (i4.o.ext c9);clear c9 q0 f2;gi_wp2_with fail;gi_loopw [7] (λv wr=>∃(i:Nat) (a1:List LE) (C':Nat->Prop) (Wj:AB),v=.int .i64 i/\p<=i/\i<=es.length/\VE lo hi op es At pre J C W i a1 C' Wj wr) (λv _=>es.length -(intOf v).toNat)
 case atStart=>exact⟨p,[],C,W0,rfl,ao _,f5,⟨by rw[aY];exact HJ.o,HX.o.trans d4.o,by rw[Rn i0.o];rfl,d4.o.st _,λb I=>.inl I,i9.o,HC.o.ext HW.o d4.o⟩⟩
 obtain⟨i,a1,C',Wj,rfl,j2,j8,hS⟩:=hrel;have Z:=hY hS;have e2:=HC.o.size wr hS.at_;have j1:=hY e2;clear hS e2;gi_wp2_with fail;refine⟨trivial,?_⟩;refine(eR.2 j1.o).mono ?_;rintro e w2 ⟨rfl,q,rfl⟩;have a3:Ext wr (wr.drewN q):=(gz wr).drewN q;by_cases f3:i<es.length
 ·have g1:(i:Int)<(es.length:Int):=oM
  have j9:decide ((i:Int)<(es.length:Int))=true:=eO g1;obtain⟨x,d7⟩:∃x,es[i]? = some x:=⟨_,ac f3⟩;have e3:=HC.o.entry (wr.drewN q) (HC.o.ext Z.o.at_ a3) i x d7;obtain⟨i2,a0⟩:=Yb e3 d7;clear e3 d7;gi_wp2_with fail;refine⟨trivial,?_⟩;refine(eR.2 i2.o).mono ?_;rintro e w3 ⟨sl,so,rfl,e0,f8⟩;have d3:Ext w3 (w3.alloc (.cells #[.string x.1,.int .i64 x.2.kind,.bool x.2.b,.int .i64 x.2.i,.string x.2.t,.slice sl.a x.2.l.length sl.c,.slice so.a x.2.ok.length so.c] 65)):=(gz w3).alloc _ _;have f7:=gB w3 65 #[.string x.1,.int .i64 x.2.kind,.bool x.2.b,.int .i64 x.2.i,.string x.2.t,.slice sl.a x.2.l.length sl.c,.slice so.a x.2.ok.length so.c];obtain⟨f6,a8,e1,f4⟩:=Ye ((a3.trans e0).trans d3) d3 f7 f8;have a4:=Z.o.box.ext (a3.trans e0);have g8:w3.cell? ⟨W.heap.size,0,none⟩=some (.string lo):=a4.cell 0;have i1:w3.cell? ⟨W.heap.size,1,none⟩=some (.string hi):=a4.cell 1;have j0:w3.cell? ⟨W.heap.size,2,none⟩=some (.bool op):=a4.cell 2;have lb:=a4.lt;clear e0 d3 f7 f8 a4;gi_wp2_with fail;refine⟨trivial,?_⟩;refine(eR.2 (NV _ lo hi op x.1)).mono ?_;rintro e w5 ⟨rfl,a2⟩;have a9:=f6.o.trans a2;have f1:=e1.o.ext a2;obtain⟨c0,c1,c2,c3,c4,c5,c6⟩:=f1.c7;have b4:=HC.o.ext Z.o.at_ a9;have b7:=Z.o.box.ext a9;have j5:=a8.o.size;have j7:=a2.size;have j6:=Z.o.ext.size;have b5:RV w5 (In wr.heap.size w5.heap.size) x.2 sl so:=((f4.o.agree (a8.o.agree λb I=>I.2)).agree (a2.agree λb I=>by have:=I.2;omega)).mono λb I=>⟨I.1,by have:=I.2;omega⟩
  obtain⟨a5,g9,i6,e4⟩:=Ye a9 b4 b7 b5;clear a2 a9 f1 b4 b7 b5 f4 f6 a8 e1 g8 i1 j0;cases a6:DJ hi op x.1 with
  | true=>
    gi_wp2_with fail;refine⟨λ_ h=>absurd h oO,?_⟩;gi_wp2_with fail;go_ret;refine .inl ⟨a1,C',Wj,.inr ⟨rfl,x,ap a0.o,a6⟩,Z.o.j,Z.o.ext.trans a5.o,?_,Z.o.st.ext a5.o,λb I=>(Z.o.sub b I).imp_right bY⟩;rw[Z.o.new_,oU HC.o.sorted a0.o a6]
  | false=>
    have g3:klt x.1 lo=false:=g5.o x (by
     obtain⟨h1,rfl⟩:=ai.1 a0.o;rw[List.mem_iff_getElem?];exact⟨i-p,by rw[bm,Nat.add_sub_cancel' j2];exact a0.o⟩)
    have d9:es=es.take i++x::es.drop (i+1):=by
     obtain⟨h1,h2⟩:=ai.1 a0.o
     conv=>lhs;rw[<-aX i es,aE h1,h2]
    obtain⟨n1,n2,n3⟩:=Xp (x:=⟨x.1,x.2,sl,so⟩) (A:=es.take i) (B:=es.drop (i+1)) (all:=all) (rest:=rest) (pre:=pre) (by show all=pre.map LE.ent++(BW lo hi op (es.take i++x::es.drop (i+1))++rest);rw[<-d9];exact e7.o) Z.o.new_ g3 a6;have hy:=HT.o.take (pre++a1) C' ⟨x.1,x.2,sl,so⟩ Wj w5 Z.o.j (Z.o.ext.trans a5.o) ⟨n1,n2,e4.o.mono λb I=>⟨by have:=I.1;omega,I.2⟩,g6.o x (ap a0.o)⟩;obtain⟨fn,j4,assign,body,hy,hR⟩:=hy;obtain⟨HR,g0,i5,i3,k0⟩:=Yf hR n1 n2 n3 d9;clear hR n1 n2 n3 d9;dsimp only[Ge]at hy;gi_wp2_with fail;refine HR.o.mono ?_;rintro e w6 (⟨rfl,C6,f0,N,a7⟩ |⟨rfl,g7,N⟩)
    ·have b6:J (pre++(a1++[⟨x.1,x.2,sl,so⟩])) C6 w6:=by rw [←aU];exact f0
     have b0:∀b,b<=W.heap.size->C' b->C b:=λb I h=>by
      rcases Z.o.sub b h with h|h
      .exact h
      omega
     have b9:¬C' W.heap.size:=λh=>by
      have h1:=g4.o _ (b0 _ (ao _) h);have:=HX.o.size;omega
     have i8:=hY (show VE lo hi op es At pre J C W (i+1) (a1++[⟨x.1,x.2,sl,so⟩]) C6 w6 w6 from
      ⟨b6,gz _,by rw[i3.o,aK,a0.o];rfl,(Z.o.st.ext a5.o).then N (λb I h=>b0 b (bY I) h),λb I=>by
        rcases a7 b I with h|h
        .exact Z.o.sub b h
        exact .inr oM,N.blk i6.o b9,i7.o w5 w6 g9.o (N.agree.mono λb I=>⟨by have:=(HF.o b I).1;omega,λh=>(HF.o b I).2 (b0 b (bY (HF.o b I).1) h)⟩) N.size⟩)
     clear f0 N a7 b6 b0 b9 hy;gi_wp2_with fail;go_roundw
     case rel=>exact⟨i+1,_,C6,w6,by go_num,oM,f3,i8.o⟩
     simp[intOf];omega
    gi_wp2_with fail;go_ret;have j3:St C W w6:=(Z.o.st.ext a5.o).then N λb I h=>by
     rcases Z.o.sub b h with h|h
     .exact h
     omega
    exact .inr ⟨rfl,j3,_,w6,g7,gz _,by
     rw[aB,i5.o];exact jq g0.o⟩
 obtain rfl:i=es.length:=oM
 gi_wp2_with fail;go_ret;refine .inl ⟨a1,C',Wj,.inl rfl,Z.o.j,Z.o.ext.trans a3,?_,Z.o.st.ext a3,λb I=>(Z.o.sub b I).imp_right bY⟩;rw[Z.o.new_,aR]
def UO{w:AB}{F:Nat->Prop}:∀{h:Nat} {t:PT h},AJ w F h t->∀e∈ents h t,e.1.size<=maxLen
 | 0,t,⟨_,s,xs,_,h3,h4⟩,e,I=>by
   have I:e∈t.2:=I;rw[<-h4]at I;obtain⟨x,Z,rfl⟩:=bX.1 I;exact(h3.vals x Z).2
 | h+1,t,⟨_,s,_,_,h4⟩,e,I=>by
   have I:e∈t.2.flatMap (ents h):=I;obtain⟨k,N,I⟩:=cU.1 I;exact UO (h4 k N) e I
variable{W1:AB}
def EF.from{es all:List AD}{pre:List LE}{J:List LE->(Nat->Prop)->AB->Prop}{Jx:List LE->AB->Prop}{C:Nat->Prop}{e:AC}(h:EF lo hi op es all pre J Jx C W1 e W')(N:Ext W W1):EF lo hi op es all pre J Jx C W e W':=by
 rcases h with⟨I,C',W0,h1,h2,h3,h4,h5,Z⟩|h
 .exact .inl ⟨I,C',W0,h1,h2,h3,h4,(N.st C).trans h5,λb hb=>(Z b hb).imp_right λh=>an N.size h⟩
 exact .inr ⟨h.1,(N.st C).trans h.2.1,h.2.2⟩
def EF.bool{es all:List AD}{pre:List LE}{J:List LE->(Nat->Prop)->AB->Prop}{Jx:List LE->AB->Prop}{C:Nat->Prop}{e:AC}(h:EF lo hi op es all pre J Jx C W e W'):∃b,e=.returned (.bool b):=by
 rcases h with⟨I,C',W0,h1|h1,_⟩|h
 .exact ⟨_,h1⟩
 .exact ⟨_,h1.1⟩
 exact⟨_,h.1⟩
def Vh{At:AB->Prop}{es:List AD}(hc:IZ At nv es)(Z:∀W W',At W->Agree F W W'->W.heap.size<=W'.heap.size->At W')(a1:∀e∈es,e.1.size<=maxLen){pre:List LE}
  {l:Nat} {J:List LE->(Nat->Prop)->AB->Prop} {Jx:List LE->AB->Prop} (hT:Takes prog l Ge (IN all) J Jx) {C:Nat->Prop} (hJ:J pre C W0) (hx:Ext W0 W) (hw:At W) (hF:∀b,F b->b<W.heap.size/\¬C b) (N:all=pre.map LE.ent++(BW lo hi op es++rest)) :
  Calls prog 244 #[nv,inV lo hi op,.func (.yield l) #[] #[]] W (EF lo hi op es all pre J Jx C W):=by
 have I:Ext W (W.alloc (.cells #[lo,hi,op] 289)):=(gz W).alloc _ _;have hh:=hc.height _ (hc.ext hw I);have a0:=Yv hc Z a1 hT hJ (hx.trans I) (hc.ext hw I) (λb hb=>⟨Nat.lt_of_lt_of_le (hF b hb).1 I.size,(hF b hb).2⟩) N;obtain⟨pp,rfl⟩:=hc.ptr;obtain⟨a3,a2⟩:=Yb a0 I;clear hc Z a1 hT hJ hx hw hF N a0 I;go_in;go_wp2_with fail;refine hh.mono ?_;rintro e w1 ⟨rfl,rfl⟩;go_wp2_with fail;refine a3.o.mono ?_;rintro e w2 hp;obtain⟨b,rfl⟩:=hp.bool;have HP:=hY (hp.from a2.o);clear hp;go_wp2_with fail;go_ret;exact HP.o
structure NO(lo hi:AA)(op:Bool)(F:Nat->Prop)(h:Nat)(t:PT (h+1))(pre:List LE)(J:List LE->(Nat->Prop)->AB->Prop)(C:Nat->Prop)(W w3:AB)(g:Nat)(j:Nat)(new:List LE)(C':Nat->Prop)(Wj wr:AB):Prop where
 j_:J (pre++new) C' Wj
 ext:Ext Wj wr
 new_:new.map LE.ent=BW lo hi op ((t.2.take j).flatMap (ents h))
 st:St C W wr
 sub:∀b,C' b->C b\/w3.heap.size<=b
 big:w3.heap.size<=wr.heap.size
 box:AE wr W.heap.size 289 #[.string lo,.string hi,.bool op]
 rows:∀o,wr.cell? ⟨g,o,none⟩=w3.cell? ⟨g,o,none⟩
 at_:EH F (h+1) t wr
def Vz{l:Nat}{J:List LE->(Nat->Prop)->AB->Prop}{Jx:List LE->AB->Prop}(hT:Takes prog l Ge (IN all) J Jx) 
  (ih:∀(t:PT h) (pre:List LE) (rest:List AD) (C:Nat->Prop) (W0 W:AB),J pre C W0->Ext W0 W->EH F h t W->(∀b,F b->¬C b)->Aj h t->Sorted (ents h t)->(ents h t).length<=1000000->all=pre.map LE.ent++(BW lo hi op (ents h t)++rest)->
    Calls prog 244 #[ptr h t,inV lo hi op,.func (.yield l) #[] #[]] W (EF lo hi op (ents h t) all pre J Jx C W))
  {t:PT (h+1)} {pre:List LE} {C:Nat->Prop} (hJ:J pre C W0) (hx:Ext W0 W) (hn:EH F (h+1) t W) (hF:∀b,F b->¬C b) (ok:Aj (h+1) t) (hs:Sorted (ents (h+1) t)) (hl:(ents (h+1) t).length<=1000000) (e2:all=pre.map LE.ent++(BW lo hi op (ents (h+1) t)++rest)) :
  Calls prog 244 #[ptr (h+1) t,inV lo hi op,.func (.yield l) #[] #[]] W (EF lo hi op (ents (h+1) t) all pre J Jx C W):=by
 have g9:=ok.2.1;have j2:=ok.1;have f6:=hT.lt pre C W0 hJ;have d8:Ext W (W.alloc (.cells #[lo,hi,op] 289)):=(gz W).alloc _ _;have d6:=gB W 289 #[.string lo,.string hi,.bool op];have hh:=Dw (hn.ext d8).1;have g8:=FZ (hn.ext d8).1 oM;have j8:h+1<1000000:=ab (G6 (h+1) t ok (by show 1<=t.2.length;omega)) hl;have j9:(((h+1:Nat):Int)==0)=false:=eP.2 oM;have j4:((h:Int)+1==0)=false:=eP.2 oM;obtain⟨HT,i0,HJ,HX,HN,HF,f7⟩:=Yh hT ih hJ hx hn hF ok;obtain⟨HS,HL,f3,f4,g4,i7⟩:=Yg hs hl e2 d8 d6 f6;clear hT ih hJ hx hn hF ok hs hl e2 d8 d6 f6;refine(eR (n:=5)).1 ?_;refine fT func244 rfl trivial ?_ rfl;simp only[ntmps244,zL,Nat.reduceAdd,Nat.reduceSub];gi_wp2_with fail;refine⟨trivial,?_⟩;refine(eR.2 hh).mono ?_;rintro e w1 ⟨rfl,rfl⟩;gi_wp2_with fail;refine⟨trivial,?_⟩;refine(eR.2 g8).mono ?_;rintro e w3 ⟨sk,rfl,c8,e8⟩;have g7:Rd w3 (Lt w3.heap.size) 1 sk t.2.length (ptrs h t.2):=(gF c8).mono λi hi=>hi.2
 obtain⟨g,j7,rfl,i4,j5,k3,e3⟩:=Dg c8 oM;have i6:=e3.lt;have k2:W.heap.size<g:=by simp at i4;omega
 obtain⟨i8,e1,j1⟩:=Yc g7 (f4.o.trans e8) (g4.o.ext e8);have j6:=e1.o.size;have k4:=HX.o.size;clear c8 g7 e8 e3 g8 hh g4 f4;gi_wp2_with fail;gi_loopw [19] (λv wr=>∃(j:Nat) (a2:List LE) (C':Nat->Prop) (Wj:AB),v=.int .i64 j/\j<=t.2.length/\NO lo hi op F h t pre J C W w3 g j a2 C' Wj wr) (λv _=>t.2.length -(intOf v).toNat)
 case atStart=>exact⟨0,[],C,W0,rfl,aw _,⟨by rw[aY];exact HJ.o,HX.o.trans e1.o,rfl,e1.o.st _,λb hb=>.inl hb,ao _,j1.o,λ_=>rfl,HN.o.ext e1.o⟩⟩
 obtain⟨j,a2,C',Wj,rfl,hj,hS⟩:=hrel;have I:=hY hS;clear hS;by_cases e7:j<t.2.length
 ·obtain ⟨N,a4⟩:∃ N,t.2[j]? = some N:=⟨_,ac e7⟩
  obtain⟨b,o',g6,-,-,-,f5⟩:=i8.o.EB a4;obtain⟨rfl,rfl⟩:g=b/\0=o':=by simpa using g6
  have kc:wr.cell? ⟨g,j,none⟩=some (ptr h N):=by rw[I.o.rows];simpa using f5
  have k0:(j:Int)<(t.2.length:Int):=oM
  have d7:=ap a4;have d9:EH F h N wr:=⟨I.o.at_.1.2.choose_spec.2.2 N d7,I.o.at_.2⟩;have g3:Sorted (ents h N):=Dh HS.o N d7;have e4:=Ef a4;have c9:ents (h+1) t=(t.2.take j).flatMap (ents h)++(ents h N++(t.2.drop (j+1)).flatMap (ents h)):=by
   show t.2.flatMap (ents h)=_
   conv=>lhs;rw[e4]
   simp only[List.flatMap_append,List.flatMap_cons]
  have i2:(ents h N).length<=1000000:=by have:=HL.o;rw[c9]at this;simp only[List.length_append]at this;omega
  have d4:(t.2.take (j+1)).flatMap (ents h)=(t.2.take j).flatMap (ents h)++ents h N:=by rw[aK,a4];simp
  obtain⟨b5,b0⟩:=Yb (λW1 (hW:Ext wr W1)=>TK (d9.ext hW).1) (λW1 (hW:Ext wr W1)=>M8 (d9.ext hW).1);have a8:=I.o.box;obtain⟨Z,j0,e0,a3,a5⟩:=Yf (show ∀W1,Ext wr W1->W1.cell? W=some (.string lo)/\W1.cell? ⟨W.heap.size,1,none⟩=some (.string hi)/\W1.cell? ⟨W.heap.size,2,none⟩=some (.bool op) fromλW1 hW=>⟨(a8.ext hW).cell 0,(a8.ext hW).cell 1,(a8.ext hW).cell 2⟩) d9 g3 c9 d4;clear a4 g6 f5 d9 g3 e4 c9 d4 a8;cases f1:klt (BZ (ents h N)) lo with
  | true=>
    have d6:Op.bytesLess (BZ (ents h N)).toList lo.toList=true:=f1;gi_wp2_with fail;refine gu.2 ?_;refine eV (S:=(λw'=>Ext wr w')) kM (((gz wr).drew)) (λhHeld=>?_);refine AF 0 (some 24) Z hHeld ?_;refine AF 2 (some 26) Z hHeld ?_;refine AF 3 (some 27) Z hHeld ?_;refine Af (i:=1) kM rfl (by rfl) (λK hK=>?_);go_simp
    (refine(b5.o _ hHeld).mono ?_;rintro e w5 ⟨rfl,rfl⟩)
    refine hK.out _ _ (hHeld) (λhHeld=>?_);clear hK K
    try go_frame
    refine AF 4 (some 28) Z hHeld ?_;refine AF 5 (some 23) Z hHeld ?_;refine fa kM ?_ _;have b3:=hY hHeld;clear hHeld;have j3:=hY (show NO lo hi op F h t pre J C W w3 g (j+1) a2 C' Wj wr.drew from
     ⟨I.o.j_,I.o.ext.trans b3.o,by rw[I.o.new_,a5.o,D9,Rn (gM e0.o f1),aY],I.o.st.ext b3.o,I.o.sub,by have:=b3.o.size;have:=I.o.big;omega,I.o.box.ext b3.o,λo=>(b3.o.cell (by have:=I.o.big;omega)).trans (I.o.rows o),I.o.at_.ext b3.o⟩)
    generalize wr.drew=w6 at *;gi_wp2_with fail;go_roundw
    case rel=>exact⟨j+1,a2,C',Wj,by go_num,e7,j3.o⟩
    simp[intOf];omega
  | false=>
    have d6:Op.bytesLess (BZ (ents h N)).toList lo.toList=false:=f1;gi_wp2_with fail;refine gu.2 ?_;refine eV (S:=(λw'=>Ext wr w')) kM (((gz wr).drew)) (λhHeld=>?_);refine AF 0 (some 24) Z hHeld ?_;refine AF 2 (some 26) Z hHeld ?_;refine AF 3 (some 27) Z hHeld ?_;refine Af (i:=1) kM rfl (by rfl) (λK hK=>?_);go_simp
    (refine(b5.o _ hHeld).mono ?_;rintro e w5 ⟨rfl,rfl⟩)
    refine hK.out _ _ (hHeld) (λhHeld=>?_);clear hK K
    try go_frame
    refine AF 4 (some 28) Z hHeld ?_;refine AF 5 (some 23) Z hHeld ?_;refine fa kM ?_ _;cases a9:DJ hi op (Az (ents h N))with
    | true=>
      have d5:=hY (show ∀W1,Calls prog 253 #[inV lo hi op,.string (Az (ents h N))] W1 λe w'=>e=.returned true/\Ext W1 w' fromλW1=>by have:=NV W1 lo hi op (Az (ents h N));rwa[a9]at this);gi_wp2_with fail;refine gu.2 ?_;refine eV (S:=(λw'=>Ext wr w')) kM ((hHeld.drew)) (λhHeld=>?_);refine AF 0 (some 30) Z hHeld ?_;refine AF 1 (some 31) Z hHeld ?_;refine Af (i:=2) kM rfl (by rfl) (λK hK=>?_);go_simp
      (refine(b0.o _ hHeld).mono ?_;rintro e w6 ⟨rfl,rfl⟩)
      refine hK.out _ _ (hHeld) (λhHeld=>?_);clear hK K
      try go_frame
      refine Af (i:=3) kM rfl (by rfl) (λK hK=>?_);go_simp
      (refine(d5.o _).mono ?_;rintro e w7 ⟨rfl,c7⟩)
      refine hK.out _ _ (hHeld.trans c7) (λhHeld=>?_);clear hK K
      try go_frame
      refine AF 4 (some 29) Z hHeld ?_;refine fa kM ?_ _;have a1:=hY hHeld;clear hHeld c7;gi_wp2_with fail;go_ret;have f9:=pT f7.o d7;obtain⟨x,b4⟩:=List.exists_mem_of_ne_nil _ f9;have d0:=Ss e0.o a9 x b4;refine .inl ⟨a2,C',Wj,.inr ⟨rfl,x,by rw[a3.o];simp[b4],d0⟩,I.o.j_,I.o.ext.trans a1.o,?_,I.o.st.ext a1.o,λb hb=>(I.o.sub b hb).imp_right λh=>oM⟩;have b9:=HS.o;rw[a3.o]at b9;rw[I.o.new_,a3.o,D9,D9,NU (Ss e0.o a9),PV (A:=ents h N) (G9 b9).2.1 ⟨x,b4,d0⟩,aY,aY]
    | false=>
      have d5:=hY (show ∀W1,Calls prog 253 #[inV lo hi op,.string (Az (ents h N))] W1 λe w'=>e=.returned false/\Ext W1 w' fromλW1=>by have:=NV W1 lo hi op (Az (ents h N));rwa[a9]at this);gi_wp2_with fail;refine gu.2 ?_;refine eV (S:=(λw'=>Ext wr w')) kM ((hHeld.drew)) (λhHeld=>?_);refine AF 0 (some 30) Z hHeld ?_;refine AF 1 (some 31) Z hHeld ?_;refine Af (i:=2) kM rfl (by rfl) (λK hK=>?_);go_simp
      (refine(b0.o _ hHeld).mono ?_;rintro e w6 ⟨rfl,rfl⟩)
      refine hK.out _ _ (hHeld) (λhHeld=>?_);clear hK K
      try go_frame
      refine Af (i:=3) kM rfl (by rfl) (λK hK=>?_);go_simp
      (refine(d5.o _).mono ?_;rintro e w7 ⟨rfl,c7⟩)
      refine hK.out _ _ (hHeld.trans c7) (λhHeld=>?_);clear hK K
      try go_frame
      refine AF 4 (some 29) Z hHeld ?_;refine fa kM ?_ _;have a1:=hY hHeld;obtain⟨q0,q1,q2⟩:=Z.o w7 hHeld;have g0:∀b,F b->¬C' b:=λb hb h=>by
       rcases I.o.sub b h with h|h
       .exact HF.o b hb h
       have:=(HN.o.2 b hb);omega
      have g5:=i0.o N (pre++a2) (BW lo hi op ((t.2.drop (j+1)).flatMap (ents h))++rest) C' Wj w7 I.o.j_ (I.o.ext.trans a1.o) (j0.o.ext a1.o) g0 (f7.o.2.2 N d7).1 e0.o i2 (by
       rw[f3.o,a3.o,aB,I.o.new_,D9,D9];simp only[List.append_assoc])
      have i5:=hY g5;have k1:=a1.o.size;clear hHeld c7 g0 g5;gi_wp2_with fail;refine⟨trivial,?_⟩;refine(eR.2 i5.o).mono ?_;rintro e w8 (⟨a7,C8,W8,i9,c6,b6,f2,a0,a6⟩ |⟨rfl,a0,f8,W8,c6,b6,i3⟩)
      ·have f0:St C W w8:=(I.o.st.ext a1.o).then a0 fun b hb h=>by
        rcases I.o.sub b h with h|h
        .exact h
        omega
       have d3:∀b,C8 b->C b\/w3.heap.size<=b:=λb hb=>by
        rcases a6 b hb with h|h
        .exact I.o.sub b h
        exact .inr (by have:=I.o.big;omega)
       have b8:J (pre++(a2++a7)) C8 W8:=by rw[<-aU];exact c6
       have b7:(a2++a7).map LE.ent=BW lo hi op ((t.2.take (j+1)).flatMap (ents h)):=by rw[aB,I.o.new_,f2,a5.o,D9]
       rcases i9 with rfl |⟨rfl,x,b4,d0⟩
       ·have e6:∀ b,b<w3.heap.size→W.heap.size≤b→¬C' b:=fun b h1 h2 h=>by
         rcases I.o.sub b h with h|h
         .have:=i7.o b h;omega
         omega
        have i1:=hY (show NO lo hi op F h t pre J C W w3 g (j+1) (a2++a7) C8 W8 w8 from
         ⟨b8,b6,b7,f0,d3,by have:=a0.size;have:=I.o.big;omega,a0.blk (I.o.box.ext a1.o) (e6 _ oM (ao _)),
           λo=>(a0.cell (by have:=I.o.big;omega) (e6 _ i6 oM)).trans ((a1.o.cell (by have:=I.o.big;omega)).trans (I.o.rows o)),
           ⟨(I.o.at_.ext a1.o).1.agree (a0.agree.mono fun b hb=>⟨by have:=(I.o.at_.ext a1.o).2 b hb;omega,fun h=>by
             rcases I.o.sub b h with h|h
             .exact HF.o b hb h
             have:=(HN.o.2 b hb);omega⟩),λb hb=>by have:=a0.size;have:=HN.o.2 b hb;have:=I.o.big;omega⟩⟩)
        clear f0 d3 b8 b7 c6 b6 f2 a0 a6 e6;gi_wp2_with fail;go_roundw
        case rel=>exact⟨j+1,_,C8,W8,by go_num,e7,i1.o⟩
        simp[intOf];omega
       clear a0 a6 f2 c6;gi_wp2_with fail;go_ret;refine .inl ⟨a2++a7,C8,W8,.inr ⟨rfl,x,by rw[a3.o];simp[b4],d0⟩,b8,b6,?_,f0,λb hb=>(d3 b hb).imp_right λh=>oM⟩;have b9:=HS.o;rw[a3.o]at b9;rw[b7,a5.o,a3.o,D9,D9,D9,PV (A:=ents h N) (G9 b9).2.1 ⟨x,b4,d0⟩,aY]
      gi_wp2_with fail;go_ret;exact .inr ⟨rfl,(I.o.st.ext a1.o).then a0 (λb hb h=>by
       rcases I.o.sub b h with h|h
       .exact h
       omega),f8,W8,c6,b6,i3⟩
 obtain rfl:j=t.2.length:=oM
 gi_wp2_with fail;go_ret;refine .inl ⟨a2,C',Wj,.inl rfl,I.o.j_,I.o.ext,?_,I.o.st,λb hb=>(I.o.sub b hb).imp_right λh=>oM⟩;rw[I.o.new_,aR];rfl
def Uu{F:Nat->Prop}{lo hi:AA}{op:Bool}{all:List AD}{l:Nat}{J:List LE->(Nat->Prop)->AB->Prop}{Jx:List LE->AB->Prop}(N:Takes prog l Ge (IN all) J Jx) :
  ∀(h:Nat) (t:PT h) (pre:List LE) (rest:List AD) (C:Nat->Prop) (W0 W:AB),J pre C W0->Ext W0 W->EH F h t W->(∀b,F b->¬C b)->Aj h t->Sorted (ents h t)->(ents h t).length<=1000000->all=pre.map LE.ent++(BW lo hi op (ents h t)++rest)->
   Calls prog 244 #[ptr h t,inV lo hi op,.func (.yield l) #[] #[]] W (EF lo hi op (ents h t) all pre J Jx C W)
 | 0,t,pre,rest,C,W0,W,hJ,hx,hn,hF,ok,hs,_,hall=>
   Vh (F:=F) (pX ok hs) (λW W' a ha Z=>⟨a.1.agree ha,λb I=>ab (a.2 b I) Z⟩) (UO hn.1) N hJ hx hn (λb I=>⟨hn.2 b I,hF b I⟩) hall
 | h+1,t,pre,rest,C,W0,W,hJ,hx,hn,hF,ok,hs,hl,hall=>
   Vz N (λt pre rest C W0 W a b c d e f g i=>Uu N h t pre rest C W0 W a b c d e f g i) hJ hx hn hF ok hs hl hall
def Zp{l:Nat}{J:List LE->(Nat->Prop)->AB->Prop}{Jx:List LE->AB->Prop}(hT:Takes prog l Ge (IN (BW lo hi op (AG T))) J Jx)
  {C:Nat->Prop} (Z:J [] C W0) (hx:Ext W0 W) (N:GL F T W) (hF:∀b,F b->¬C b) (ok:Am T) (I:(AG T).length<=1000000) :
  Calls prog 244 #[Aa T,inV lo hi op,.func (.yield l) #[] #[]] W (EF lo hi op (AG T) (BW lo hi op (AG T)) [] J Jx C W):=by
 match T,N,ok,I with
 |none,_,_,_=>exact Vh (F:=λ_=>False) (rest:=[]) lQ (λ_ _ _ _ _=>trivial) (λe he=>by cases he) hT Z hx trivial (λb hb=>hb.elim) (by simp[AG])
 |some ⟨h,t⟩,N,ok,I=>exact Uu hT h t [] [] C W0 W Z hx N hF ok.1 ok.2.2 I (by simp[AG])
end Go.Proofs.YtahhllcdbjbpbaaGreatDoor
namespace Go.Proofs.YtahhllcdbjbpbaaGreatDoor
open Go.Proofs.Tryz
open Go.RowKit Go.Shelf
structure EY(w:AB)(B:Nat)(T:RT)(lo hi:AA)(op:Bool):Prop where
 bt:AE w B 36 #[Aa T]
 bl:AE w (B+1) 9 #[.string lo]
 bh:AE w (B+2) 9 #[.string hi]
 bo:AE w (B+3) 4 #[.bool op]
def kz(F:Nat->Prop)(B:Nat)(b:Nat):Prop:=F b\/(B<=b/\b<B+4)
abbrev Jw(B:Nat):Array Value:=#[.pointer (some ⟨B,0,none⟩),.pointer (some ⟨B+1,0,none⟩),.pointer (some ⟨B+2,0,none⟩),.pointer (some ⟨B+3,0,none⟩)]
variable{w w':AB}{B:Nat}{T:RT}{lo hi:AA}{op:Bool}{F:Nat->Prop}
def EY.agree(h:EY w B T lo hi op)(I:Agree F w w')(hF:∀b,B<=b->b<B+4->F b):EY w' B T lo hi op:=
 ⟨h.bt.agree I (hF _ oM oM),h.bl.agree I (hF _ oM oM),h.bh.agree I (hF _ oM oM),h.bo.agree I (hF _ oM oM)⟩
def EY.lt(h:EY w B T lo hi op):B+3<w.heap.size:=h.bo.lt
variable{W W':AB}
def EF.st{es all:List AD}{pre:List LE}{J:List LE->(Nat->Prop)->AB->Prop}{Jx:List LE->AB->Prop}{C:Nat->Prop}{e:AC}(h:EF lo hi op es all pre J Jx C W e W'):St C W W':=by
 rcases h with⟨_,_,_,_,_,_,_,I,_⟩ |⟨_,I,_⟩<;>exact I
variable{w0:AB}
def lT(hT:GL F T w0)(ok:Am T)(hl:(AG T).length<=1000000)(hB:EY w0 B T lo hi op) :
  Mi prog 243 (Jw B) Ge (kz F B) (IN (BW lo hi op (AG T))) (λxs=>xs.map LE.ent=BW lo hi op (AG T)) (λpre=>pre.map LE.ent <+: BW lo hi op (AG T)) w0:=by
 intro l J Jx C W a3 hA a5 N hJ;have Z:EY W B T lo hi op:=hB.agree hA λb h1 h2=>.inr ⟨h1,h2⟩
 have a9:GL F T W:=⟨hT.1.agree (hA.mono λb hb=>.inl hb),λb hb=>ab (hT.2 b hb) a5⟩;have a4:=λW1 (hW:Ext W W1)=>Zp a3 hJ hW (a9.ext hW) (λb hb h=>N b h (.inl hb)) ok hl
 have b4:=a3.lt [] C W hJ;obtain⟨p,hp⟩:=BM T;rw[hp]at a4;have a2:=Z.bt;rw[hp]at a2;have I:=hY (show ∀W1,St C W W1->W1.cell? B=some (.pointer p)/\W1.cell? ⟨B+1,0,none⟩=some (.string lo)/\W1.cell? ⟨B+2,0,none⟩=some (.string hi)/\W1.cell? ⟨B+3,0,none⟩=some (.bool op) fromλW1 hW=>
  ⟨(hW.blk a2 λh=>N _ h (.inr ⟨oM,oM⟩)).cell 0,(hW.blk Z.bl λh=>N _ h (.inr ⟨oM,oM⟩)).cell 0,(hW.blk Z.bh λh=>N _ h (.inr ⟨oM,oM⟩)).cell 0,(hW.blk Z.bo λh=>N _ h (.inr ⟨oM,oM⟩)).cell 0⟩)
 have b0:=hY a4;clear a3 hA a5 N hJ Z a9 a4 hp hT ok hl hB a2 b4;show Calls _ _ #[.func (.yield l) #[] #[],.pointer (some B),.pointer (some ⟨B+1,0,none⟩),.pointer (some ⟨B+2,0,none⟩),.pointer (some ⟨B+3,0,none⟩)] W _;go_in;go_wp2_with fail;refine eV (S:=(λw'=>St C W w')) kM (((gH C W).drew)) (λhHeld=>?_);refine AF 0 (some 6) I hHeld ?_;refine AF 2 (some 8) I hHeld ?_;refine AF 3 (some 9) I hHeld ?_;refine AF 4 (some 10) I hHeld ?_;refine AF 5 (some 11) I hHeld ?_;refine AF 6 (some 12) I hHeld ?_;refine Af (i:=1) kM rfl (by rfl) (λK hK=>?_);go_simp
 (refine(MD _ _).mono ?_;rintro e w1 ⟨rfl,a0⟩;replace a0:=((gz W).drew).trans a0;have a6:=hY a0)
 refine hK.out _ _ (a0.st C) (λhHeld=>?_);clear hK K
 try go_frame
 refine Af (i:=7) kM rfl (by rfl) (λK hK=>?_);go_simp
 (refine(b0.o _ a6.o).mono ?_;intro e w2 a1;obtain⟨b2,rfl⟩:=a1.bool;have a7:=hY (a1.from a6.o);clear a1)
 refine hK.out _ _ (a7.o.st) (λhHeld=>?_);clear hK K
 try go_frame
 refine fa kM ?_ _;go_wp2_with fail;go_end0;refine⟨⟨_,rfl⟩,?_⟩;rcases a7.o with⟨b3,C',W0,-,h2,h3,h4,-,-⟩ |⟨-,-,a8,W0,h2,h3,h4⟩
 .exact .inl ⟨b3,C',W0,h4,h2,h3⟩
 exact .inr ⟨a8,W0,h4,h2,h3⟩
def oV(T:RT)(lo hi:AA)(op:Bool)(w:AB)(e:AC)(w':AB):Prop:=
 ∃B,e=.returned (.func (.func 243) #[] (Jw B))/\Ext w w'/\EY w' B T lo hi op/\w.heap.size<=B
def pD(w:AB)(T:RT)(lo hi:AA)(op:Bool):Calls prog 218 #[AO T,lo,hi,op] w (oV T lo hi op w):=by
 obtain⟨p,I⟩:=BM T;rw[AO,I];go_in;go_wp2_with fail;go_ret;obtain⟨hx,-,Z,b1,b2,N⟩:=VN w 36 9 9 4 #[.pointer p] #[.string lo] #[.string hi] #[.bool op] _ rfl;exact⟨w,rfl,hx,⟨by rw[I];exact Z,b1,b2,N⟩,ao _⟩
def Bw.trans{a b c:AB}(h:Below a.heap.size a b)(k:Below b.heap.size b c):Below a.heap.size a c:=h.trans (k.mono h.size)
def Bw.ext{a b c:AB}(h:Below a.heap.size a b)(k:Ext b c):Below a.heap.size a c:=Bw.trans h k.below
def Gr(p:AA):p.toList=p.data.toList:=eY p
def Fb(p:AA):p.toList.length=p.size:=by rw[Gr,aQ];rfl
def NY{p:AA}{i:Nat}(h:i<p.size):p.toList[i]? = some p[i]:=by
 rw[Gr,bW];exact cF h
def Nk(p:AA)(w:AB)(e:AC)(w':AB):Prop:=
 Below w.heap.size w w'/\∃(end_:AA) (ok:Bool),e=.returned (.tuple #[.string end_,.bool ok])/\(match Dc p.toList with|none=>ok=false/\end_=ByteArray.empty|some q=>ok=true/\end_.toList=q)
def pW(l:List UInt8):(ByteArray.mk l.toArray).toList=l:=by rw[Gr]
def gL{p:AA}{i n:Nat}(h:i<p.size)(I:p.toList.drop (i+1)=List.replicate n 255):p.toList=p.toList.take i++p[i]::List.replicate n 255:=by
 have h1:=NY h;obtain⟨h2,N⟩:=ai.1 h1
 conv=>lhs;rw[<-aX i p.toList,aE h2,N,I]
def extract_toList(p:AA)(k:Nat):(p.extract 0 k).toList=p.toList.take k:=by
 rw[Gr,Gr,ByteArray.data_extract];simp
def bytesRow_at{s:AA}{cap i:Nat}{b:UInt8}(h:s.toList[i]? = some b):(bytesRow s cap)[i]? = some (.int .u8 (b.toNat:Int)):=by
 rw[Gr,bW]at h;have hi:=(aA.1 h).1;unfold bytesRow;rw[Array.getElem?_append_left (by simpa using hi),Array.getElem?_map,h];rfl
def XF(s:AA)(cap:Nat):s.size<=(bytesRow s cap).size:=by
 unfold bytesRow;rw[dJ,Array.size_map];exact dA _ _
def nm(w:AB)(s:AA)(cap:Nat)(t:TypeId){i:Nat}{b c:UInt8}(I:s.toList[i]? = some b)(W:AB)(Z:W=(w.alloc (.cells (bytesRow s cap) t ((bytesRow s cap).size,(bytesRow s cap).size+1))).drew) :
  W.cell? ⟨w,i,none⟩=some (.int .u8 (b.toNat:Int))/\W.frozen? ⟨w,i,none⟩=false/\w.heap.size<W.heap.size/\Below w.heap.size w W/\
   ∀j (x:UInt8),(s.toList.set i c)[j]? = some x->(W.setCell ⟨w,i,none⟩ (.int .u8 (c.toNat:Int))).cell? ⟨w,j,none⟩=some (.int .u8 (x.toNat:Int)):=by
 have hr:∀j,W.cell? ⟨w,j,none⟩=(bytesRow s cap)[j]?:=λj=>by
  rw[Z];exact World.cell?_alloc_mark w _ _ _ j
 have hi:i<s.size:=by
  have:=(ai.1 I).1;rwa[Fb]at this
 have hh:W.heap[w.heap.size]? = some (.cells (bytesRow s cap) t ((bytesRow s cap).size,(bytesRow s cap).size+1)):=by
  rw[Z];exact fP w _
 refine⟨by rw[hr];exact bytesRow_at I,?_,by rw[Z];show w.heap.size<(w.alloc _).heap.size;rw[eQ];exact dB _,by rw[Z];exact((Below.refl _ w).alloc (ao _) _).drew,λj x N=>?_⟩
 ·unfold World.frozen?
  rw[hh];have:=XF s cap;simp;omega
 by_cases hj:j=i
 ·subst hj
  rw[dh (ai.1 I).1]at N;cases N;exact fm W _ _ ((hr j).trans (bytesRow_at I))
 rw[dw (λe=>hj e.symm)]at N;rw[CL _ _ _ _ _ (λe=>hj e.symm),hr];exact bytesRow_at N
def jr(w:AB)(p:AA)(hp:p.size<=maxLen):Calls prog 217 #[p] w (Nk p w):=by
 unfold maxLen at hp;have c7:∀(s:AA) (W:AB),(convert 9 235 (.string s)).run prog W=.ok (.slice (some W) s.size (grownCap W s.size 0 5)) (W.drew.alloc (.cells (bytesRow s (grownCap W s.size 0 5)) 5 ((bytesRow s (grownCap W s.size 0 5)).size,(bytesRow s (grownCap W s.size 0 5)).size+1))):=
  λs W=>run_bytes_of_string W 9 235 5 s underlying9 underlying235 underlying5
 have d4:wrap64 ((p.size:Int)-1)=(p.size:Int)-1:=by unfold wrap64;omega
 go_in;go_wp2_with fail;go_step3;go_wp2_with fail;go_step3;go_wp2_with fail;go_loopw[4] (λv wr=>wr=w/\((v=.int .i64 (-1)/\Dc p.toList=none)\/∃i,i<p.size/\v=.int .i64 (i:Int)/\p.toList.drop (i+1)=List.replicate (p.size -(i+1)) 255)) (λv _=>(intOf v+1).toNat)
 case atStart=>
  refine⟨rfl,?_⟩;by_cases h0:p.size=0
  ·refine .inl ⟨by rw [h0];rfl,?_⟩
   have:p.toList=[]:=av (by rw[Fb];exact h0);rw[this];rfl
  refine .inr ⟨p.size-1,oM,by congr 1;omega,?_⟩;rw[bS (by rw[Fb];omega),show p.size -(p.size-1+1)=0 from oM];rfl
 obtain⟨rfl,⟨rfl,hn⟩ |⟨i,hi,rfl,hr⟩⟩:=hrel
 ·have HN:=hY hn
  clear hn;go_wp2_with fail;rw[Exit.noGoto_ret];refine eU (v:=.tuple #[ByteArray.empty,false]) (by simp[results,results217,go_sem];rfl) rfl ?_;exact⟨Below.refl _ _,ByteArray.empty,false,rfl,by rw[HN.o];exact⟨rfl,rfl⟩⟩
 have d3:(i:Int)<(p.size:Int):=oM
 have d5:(0:Int)<=(i:Int):=oM
 have a7:=gL hi hr;obtain⟨a8,HR⟩:=Yb a7 hr;have d6:wrap64 ((i:Int)-1)=(i:Int)-1:=by unfold wrap64;omega
 clear a7 hr;by_cases I:p[i]=255
 ·have b6:(((p[i].toNat:Nat):Int) != 255)=false:=by rw [I];rfl
  go_wp2_with fail;go_roundw
  case rel=>
   refine⟨trivial,?_⟩;cases i with
   | zero=>
     refine .inl ⟨rfl,?_⟩;rw[a8.o,I,cz,aG,<-ef];exact Nf _
   | succ i=>
     refine .inr ⟨i,oM,oO,?_⟩;have h2:p.toList.drop (i+1)=p[i+1]::p.toList.drop (i+1+1):=by
      have h1:=NY hi;obtain⟨h2,h3⟩:=ai.1 h1;rw[aE h2,h3]
     rw[h2,HR.o,I,<-ef];congr 1;omega
  simp[intOf]
 have b6:(((p[i].toNat:Nat):Int) != 255)=true:=fg.2 λe=>I (UInt8.toNat_inj.1 (by show p[i].toNat=255;omega))
 have c9:min (i+1) p.size=i+1:=oM
 have d0:(p.extract 0 (i+1)).size=i+1:=by rw[<-Fb,extract_toList,au,Fb];omega
 have b5:p[i].toNat<256:=p[i].toNat_lt;have d7:IntKind.u8.wrap ((p[i].toNat:Int)+1)=(p[i].toNat:Int)+1:=by
  have:p[i].toNat≠255:=λe=>I (UInt8.toNat_inj.1 e)
  rw[IntKind.wrap_u8];omega
 obtain⟨q,hq⟩:∃q,q=(p.extract 0 (i+1)).toList.set i (p[i]+1):=⟨_,rfl⟩;have Z:(p.extract 0 (i+1)).toList=p.toList.take i++[p[i]]:=by
  rw[extract_toList,aK,NY hi];rfl
 have a0:(p.toList.take i).length=i:=by rw[au,Fb];omega
 have a4:q=p.toList.take i++[p[i]+1]:=by
  rw[hq,Z,dQ _ _ oM,a0,cE];rfl
 have a6:q.length=i+1:=by rw[a4,aj,a0];rfl
 have a1:Dc p.toList=some q:=by rw[a8.o,SP I,a4]
 have a9:(p.extract 0 (i+1)).toList[i]? = some p[i]:=by rw[Z,aO oM,a0,cE];rfl
 have b4:((p[i]+1).toNat:Int)=(p[i].toNat:Int)+1:=by
  have h1:(p[i]+1).toNat=p[i].toNat+1:=by
   rw[UInt8.toNat_add];have:p[i].toNat≠255:=λe=>I (UInt8.toNat_inj.1 e)
   show(p[i].toNat+1)%256=_;omega
  omega
 have a3:∀W:AB,(∀j (hj:j<q.length),W.cell? ((wr:Addr).add j)=some (.int .u8 (q[j].toNat:Int)))->∀a5,(convert 235 9 (.slice (some wr) (i+1) a5)).run prog W=.ok (.string ⟨q.toArray⟩) W:=λW h a5=>by
  have:=run_convert_bytes_back (P:=prog) W 235 9 5 wr a5 q underlying235 underlying5 underlying9 h;rwa[a6]at this
 obtain⟨b9,b3,HQ,b7,b8⟩:=Yf a3 a1 hq a9 b4;clear hq Z a0 a4 a6 a1 a9 b4 a3;go_upto_region 8 with(fail);generalize b0:World.drew _=W2;obtain⟨c2,f2,l2,a2,N⟩:=nm wr (p.extract 0 (i+1)) _ _ (c:=p[i]+1) b7.o W2 b0.symm;rw[b8.o,<-HQ.o]at N;obtain⟨c8,c6⟩:=Yb N a2;clear b0 N a2 c7;go_upto_region 9 with(fail);have a3:=b9.o (W2.setCell ⟨wr,i,none⟩ (.int .u8 ((p[i].toNat:Int)+1))) (λj hj=>by
  rw[Cb,aF];exact c8.o j _ (ac hj))
 go_wp2_with fail;rw[Exit.noGoto_ret];refine eU (v:=.tuple #[.string ⟨q.toArray⟩,true]) (by simp[results,results217,go_sem]) rfl ?_;exact⟨c6.o.setCell (p:=⟨wr,i,none⟩) (ao _) _,_,_,rfl,by rw[b3.o];exact⟨rfl,pW q⟩⟩
def Gj(p:AA)(es:List AD):List AD:=es.filter λe=>p.toList.isPrefixOf e.1.toList
def Nk.range{p:AA}{e:AC}(h:Nk p w e w'):∃(I:AA) (ok:Bool),e=.returned (.tuple #[I,ok])/\Below w.heap.size w w'/\∀es,BW p I (!ok) es=Gj p es:=by
 obtain⟨hb,I,ok,he,N⟩:=h;refine⟨I,ok,he,hb,λes=>?_⟩;refine List.filter_congr λx _=>?_
 rw[UV];cases Z:Dc p.toList with
 | none=>
   rw[Z]at N;obtain⟨rfl,-⟩:=N;rfl
 | some q=>
   rw[Z]at N;obtain⟨rfl,hq⟩:=N;simp only[inI,Bool.not_true,Bool.false_or,klt,hq]
def YK(T:RT)(p:AA)(w:AB)(e:AC)(w':AB):Prop:=
 ∃(B:Nat) (en:AA) (op:Bool),e=.returned (.func (.func 243) #[] (Jw B))/\Below w.heap.size w w'/\EY w' B T p en op/\w.heap.size<=B/\∀es,BW p en op es=Gj p es
def oB(w:AB)(T:RT)(p:AA)(hp:p.size<=maxLen):Calls prog 190 #[AO T,p] w (YK T p w):=by
 have hr:=λW lo hi op=>pD W T lo hi op
 have a4:=λW=>jr W p hp
 obtain⟨r,N⟩:=BM T;rw[AO,N];simp only[AO,N]at hr;have a2:Ext w (w.alloc (.cells #[.pointer r] 36)):=(gz w).alloc _ _;have a7:=gB w 36 #[.pointer r];obtain⟨a8,a5,HR,a9⟩:=Ye a2 a7 hr a4;clear a2 a7 hr N a4;go_in;go_wp2_with fail;refine(a9.o _).mono ?_;intro e w1 he;obtain⟨en,ok,rfl,I,Z⟩:=he.range;have a3:=Bw.trans a8.o.below I;have c0:w1.cell? w=some (.pointer r):=(a5.o.agree (Agree.of_below I (F:=Lt (w.alloc (.cells #[.pointer r] 36)).heap.size) λ_ h=>h) a5.o.lt).cell 0;obtain⟨a6,b0⟩:=Yb a3 Z;clear he I Z a3;go_wp2_with fail;refine(HR.o _ _ _ _).mono ?_;rintro e w2 ⟨B,rfl,a0,a1,hB⟩;have HP:=hY (show Below w.heap.size w w2/\EY w2 B T p en (!ok)/\w.heap.size<=B from⟨Bw.ext a6.o a0,a1,an a6.o.size hB⟩);clear a0 a1 hB;go_wp2_with fail;go_ret;exact⟨B,en,!ok,rfl,HP.o.1,HP.o.2.1,HP.o.2.2,b0.o⟩
def Ih(n:Int):Val:=.mk 3 false n ByteArray.empty [] [] []
def e5:List AD:=[(⟨#[97]⟩,Ih 1),(⟨#[98]⟩,Ih 3),(⟨#[98,47,49]⟩,Ih 4),(⟨#[98,47,50]⟩,Ih 0),(⟨#[99]⟩,Ih 2)]
open Go.Maps Go.Sort
abbrev Bc(k:AA):List UInt8:=k.data.toList
def Ux(ks:List AA):(ks.map Bc).map encStr=ks.map .string:=by rw[ct];rfl
def TM:∀x y:List UInt8,Op.bytesLess x y=decide (x<y)
 |[],[]=>rfl
 |[],_::_=>rfl
 |_::_,[]=>rfl
 | a :: x,b :: y=>by
   rw[Op.bytesLess,TM x y];by_cases h1:a<b
   .simp [h1,List.cons_lt_cons_iff]
   by_cases h2:a=b
   .subst h2;simp[List.cons_lt_cons_iff]
   simp[h1,h2,List.cons_lt_cons_iff]
def jI(a b:AA):klt a b=decide (Bc a<Bc b):=by
 show Op.bytesLess a.toList b.toList=_;rw[eY,eY,TM]
def UZ(ts:List (List UInt8)):(ts.map λl=>(⟨l.toArray⟩:AA)).map Bc=ts:=by
 rw[ct];exact(List.map_congr_left λl _=>rfl).trans (List.map_id _)
def PK{ts:List AA}(h:(ts.map Bc).Pairwise λx y=>decide (x<=y)=true)(hn:ts.Nodup):ts.Pairwise λx y=>klt x y=true:=by
 have h2:=bO.1 h;refine(h2.and hn).imp ?_;rintro x y ⟨N,Z⟩;cases hk:klt x y with
 |true=>rfl
 | false=>
   exfalso;have I:klt y x=true:=Ie hk Z;rw[jI,fh]at I;rw[fh]at N;exact absurd N (by simpa[List.not_le]using I)
def R'(l:List (List UInt8)):(l.mergeSort λx y=>decide (x<=y)).Pairwise λx y=>decide (x<=y)=true:=
 List.pairwise_mergeSort (λa b c h1 h2=>by simp only[decide_eq_true_eq]at *;exact List.le_trans h1 h2) (λa b=>by simp only[Bool.or_eq_true,decide_eq_true_eq];exact List.le_total a b) l
variable{s:Sl}{ks:List AA}
def Ra{base:Nat}(N:w.ownsRow base 9 1 (.slice s.a ks.length s.c) ks.length (ks.map .string))(hn:ks.length<=1000000000) :
  Calls prog 141 #[.slice s.a ks.length s.c] w λe w'=>e=.returned (.tuple #[])/\∃ts:List AA,ts.Perm ks/\(ts.map Bc).Pairwise (λx y=>decide (x<=y)=true)/\w'.ownsRow base 9 1 (.slice s.a ts.length s.c) ts.length (ts.map .string)/\ts.length=ks.length/\w.grownBy w' s.row:=by
 rcases N.2 with⟨hv,h0⟩ |⟨g,a5,a6,hv,a4,hg,a3,a2,a1,ht⟩
 ·have hk:ks=[]:=av h0
  subst hk;refine(AnyM.slices_Sort_string_none Tryz.LH s.a s.c w).mono ?_;rintro e w' ⟨rfl,rfl⟩;exact⟨rfl,[],List.Perm.refl _,List.Pairwise.nil,N,rfl,⟨rfl,rfl,rfl,ao _,λ_ _ _=>rfl⟩⟩
 injection hv with h1 h2 h3;obtain⟨sa,sc⟩:=s;dsimp only at h1 h3;subst h1 h3;have hH:Holds encStr w g 0 (ks.map Bc).toArray:=holds_of_block hg (by rw[Ux,aq];simpa using ht);have hc:=AnyM.slices_Sort_string Tryz.LH g 0 sc (ks.map Bc) w hH (aA.1 hg).1 (by rw[aq];omega);rw[aq]at hc;refine hc.mono ?_;rintro e w' ⟨rfl,n,os,rfl⟩;have hp:((ks.map Bc).mergeSort λx y=>decide (x<=y)).Perm (ks.map Bc):=List.mergeSort_perm _ _;have a0:((ks.map Bc).mergeSort λx y=>decide (x<=y)).length=ks.length:=by rw[hp.length_eq,aq]
 obtain⟨ts,I⟩:∃ts:List AA,ts.map Bc=(ks.map Bc).mergeSort λx y=>decide (x<=y):=⟨_,UZ _⟩
 have Z:ts.length=ks.length:=by rw[<-a0,<-I,aq]
 refine⟨rfl,ts,?_,by rw[I];exact R' _,?_,Z,by rw[<-I];exact grownBy_sorted _⟩
 ·have hq:(ts.map Bc).Perm (ks.map Bc):=by rw [I];exact hp
  have:=hq.map λl:List UInt8=>(⟨l.toArray⟩:AA)
  rw[ct,ct]at this;rwa[show((λl:List UInt8=>(⟨l.toArray⟩:AA))∘Bc)=id from rfl,List.map_id,List.map_id]at this
 rw[<-I,Z,<-Ux];have:=ownsRow_sorted (w:=w) (base:=base) (cap:=sc) (n:=n) (os:=os) (ss:=ks.map Bc) (ts:=ts.map Bc) (by rw[aq,aq,Z]) a4 hg (by rw[aq];exact a3) a2 a1;rw[aq]at this;exact this
def Tryz.Zy:(prog.info? 9).map (λi=>(i.zero,i.size,i.bytes))=some (some (.string ByteArray.empty),1,16):=kM
def Ab(p k:AA):Bool:=p.toList.isPrefixOf k.toList
def TT(w:AB)(k p:AA):Calls prog 166 #[k,p] w λe w'=>e=.returned (Ab p k)/\w'=w:=by
 have I:∀W,Calls prog 192 #[k,p] W λe w'=>e=.returned (Ab p k)/\w'=W:=λW=>by
  have:=Any.strings_HasPrefix Tryz.Y0 k p W;unfold Ab;rw[eY,eY];exact this
 go_in;go_wp2_with fail;refine(I _).mono ?_;rintro e w' ⟨rfl,rfl⟩;go_wp2_with fail;go_ret;exact⟨rfl,rfl⟩
structure Cs(w:AB)(B:Nat)(ks:List AA)(s:Sl)(W:AB):Prop where
 blk:AE W B 160 #[.slice s.a ks.length s.c]
 own:W.ownsRow (w.heap.size+2) 9 1 (.slice s.a ks.length s.c) ks.length (ks.map .string)
 sb:Sb (λb=>b=B) w W
 sz:w.heap.size+2<=W.heap.size
section
variable{w W W' : AB}{B : Nat}{ks : List AA}{s : Sl}
def Cs.row(h:Cs w B ks s W){b:Nat}(I:s.row=some b):w+2<=b/\b<W:=AM h.own I
def Cs.keep{G:Nat->Prop}(h:Cs w B ks s W)(k:Sb G W W')(N:¬G B)(hr:∀b,s.row=some b->¬G b)(hG:∀b,G b->w.heap.size<=b):Cs w B ks s W':=
 ⟨k.blk h.blk N,AZ h.own k.agree λb I=>⟨(h.row I).2,hr b I⟩,h.sb.comp k λi hi Z=>by have:=hG i Z;omega,an h.sz k.size⟩
def Cs.ext(h:Cs w B ks s W)(k:Ext W W'):Cs w B ks s W':=h.keep (k.sb λ_=>False) (λe=>e) (λ_ _ e=>e) λ_ e=>e.elim
def Cs.start(Z:AE w B 160 #[.slice none 0 0])(I:Ext w W)(N:w.heap.size+2<=W.heap.size):Cs w B [] Sl.none W:=
 ⟨Z.ext I,e9 _ _ _ _,I.sb _,N⟩
def Cs.snoc{W4 w5:AB}{s3:Sl}{x:AA}(hB:B<w.heap.size)(h:Cs w B ks s W)(hx:Ext W W4)(Z:w5.ownsRow (w.heap.size+2) 9 1 (.slice s3.a (ks.length+1) s3.c) (ks.length+1) (ks.map .string++[.string x]))(a2:Wr W4 w5 s.row)(a7:s3.a=s.a\/s3.a=some ⟨W4,0,none⟩/\Wr W4 w5 none) :
  Cs w B (ks++[x]) s3 (w5.setCell B (.slice s3.a (ks.length+1) s3.c))/\St (λb=>b=B\/s.row=some b) W (w5.setCell B (.slice s3.a (ks.length+1) s3.c))/\(∀b,s3.row=some b->s.row=some b\/W.heap.size<=b)/\(∀b,(b=B\/s3.row=some b)->b<(w5.setCell B (.slice s3.a (ks.length+1) s3.c)).heap.size):=by
 have h0:=h.sb.size;have h1:=hx.size;have h2:=a2.grown.size;have hz:=h.sz;have a1:∀b,s3.row=some b->s.row=some b\/W4.heap.size<=b:=λb I=>by
  rcases a7 with e |⟨e,-⟩
  .exact .inl (by rw[<-I];simp[Sl.row,e])
  right;rw[Sl.row,e]at I;simp at I;omega
 have N:St (λb=>b=B) w5 (w5.setCell B (.slice s3.a (ks.length+1) s3.c)):=(gH (λb=>b=B) w5).set (p:=⟨B,0,none⟩) (.inr rfl) _;have a4:St (λb=>s.row=some b) W4 w5:=a2.st λi hi=>hi
 have a0:St (λb=>b=B\/s.row=some b) W (w5.setCell B (.slice s3.a (ks.length+1) s3.c)):=((hx.st _).trans (a4.mono λi _ hi=>.inr hi)).trans (N.mono λi _ hi=>.inl hi);have a6:¬s.row=some B:=λe=>by have:=(h.row e).1;omega
 have a3:(ks++[x]).length=ks.length+1:=oO
 have a5:∀b,s3.row=some b->b<w5.heap.size:=λb I=>(AM Z I).2
 refine⟨⟨?_,?_,?_,by rw[eX];omega⟩,a0,λb I=>(a1 b I).imp id λe=>oM,λb I=>?_⟩
 .rw [a3];exact(a4.blk (h.blk.ext hx) a6).AX 0 _
 ·rw [a3,aB]
  exact AZ Z N.agree λb I=>⟨a5 b I,λe=>by
   rcases a1 b I with h|h
   .exact a6 (by rw[h,e])
   omega⟩
 .exact h.sb.comp a0.sb λi hi e=>by
   rcases e with e|e
   .exact e
   have:=(h.row e).1;omega
 rw[eX];rcases I with e|e
 .omega
 exact a5 b e
end
inductive Mu where
 |mk (kd:Int) (k tk:AA) (i:Int) (had:Bool) (was:Val) (has:Bool) (v:Val) (l:List Mu)
instance : Inhabited Mu :=⟨.mk 0 ByteArray.empty ByteArray.empty 0 false default false default []⟩
def Mu.kd:Mu->Int | .mk x _ _ _ _ _ _ _ _=>x
def Mu.k:Mu->AA | .mk _ x _ _ _ _ _ _ _=>x
def Mu.tk:Mu->AA | .mk _ _ x _ _ _ _ _ _=>x
def Mu.i:Mu->Int | .mk _ _ _ x _ _ _ _ _=>x
def Mu.had:Mu->Bool | .mk _ _ _ _ x _ _ _ _=>x
def Mu.was:Mu->Val | .mk _ _ _ _ _ x _ _ _=>x
def Mu.has:Mu->Bool | .mk _ _ _ _ _ _ x _ _=>x
def Mu.v:Mu->Val | .mk _ _ _ _ _ _ _ x _=>x
def Mu.l:Mu->List Mu | .mk _ _ _ _ _ _ _ _ x=>x
def Mu.CM(m:Mu):0<SizeOf.sizeOf m:=by cases m;simp;omega
mutual
def Ag:Mu->Nat
 |.mk _ _ _ _ _ _ _ _ l=>1+A4 l
def A4:List Mu->Nat
 |[]=>0
 |m::r=>Ag m+A4 r
end
def BJ(v:Val):Bool:=v.kind==0 && !v.b&&v.i==0&&v.t.size==0&&v.l.length==0&&v.ok.length==0
def Ct(kd:Int)(k tk:AA)(i:Int)(had:Bool)(was:Val)(has:Bool)(v:Val)(n:Nat):Bool:=
 decide (1<=kd/\kd<=7)&&(kd==6||tk.size==0)&&(kd==3||i==0)&&(kd==4||kd==7 || !had)&&(kd==4 || !has)&&(had||BJ was)&&(kd==1||kd==5 ||(kd==4&&has)||BJ v)&&(kd==7||n==0)
def CU(p:AA):Bool:=decide (p.size<=64)&&Lib.validD p.data.toList
def Bb(kd:Int)(k tk:AA)(had:Bool):Bool:=
 if kd=6 then CU k&&CU tk else if kd=7/\k.size=0 then !had else AT k==0
def BP(kd:Int)(has:Bool):Bool:=kd==1||kd==5 ||(kd==4&&has)
mutual
def Ao:Mu->Nat->Int
 |.mk kd k tk i had was has v l,deep=>if !Ct kd k tk i had was has v l.length then 9 else if 6<deep then 5 else if !Bb kd k tk had then 8 else if had&&AY was != 0 then AY was else if BP kd has&&AY v != 0 then AY v else Cx l (deep+1)
def Cx:List Mu->Nat->Int
 |[],_=>0
 |m::r,deep=>if Ao m deep≠0 then Ao m deep else Cx r deep
end
def BQ(m:Mu):Int:=if 64<Ag m then 6 else Ao m 1
def asM(M:List AD)(k:AA)(had:Bool)(was:Val):Bool:=match AH M k with
 |some x=>had&&decide (AW x was=0)
 |none=>!had
def setMu(M:List AD)(k:AA)(v:Val):Int × List AD:=if AT k≠0 then(8,M)else if AY v≠0 then(AY v,M)else(0,AU M k v)
def CP(n:Int):Val:=.mk 3 false n ByteArray.empty [] [] []
def Eh(l:List Val):Val:=.mk 5 false 0 ByteArray.empty l [] []
def CX(M:List AD)(k:AA)(n by_:Int):Int × List AD:=if(0<by_/\9223372036854775807-by_<n)\/(by_<0/\n < -9223372036854775808-by_)then(7,M)else setMu M k (CP (n+by_))
def A'(M:List AD)(k:AA)(by_:Int):Int × List AD:=match AH M k with
 |some x=>if x.kind≠3 then(9,M)else CX M k x.i by_
 |none=>CX M k 0 by_
def Cr(M:List AD)(k:AA)(l:List Val)(x:Val):Int × List AD:=if 256<=l.length then(6,M)else setMu M k (Eh (l++[x]))
def DY(M:List AD)(k:AA)(x:Val):Int × List AD:=match AH M k with
 |some y=>if y.kind≠5 then(9,M)else Cr M k y.l x
 |none=>Cr M k [] x
def An(from_ tk k:AA):AA:=tk++k.extract from_.size k.size
def Bt(M:List AD)(from_ tk:AA):List AD->Int
 |[]=>0
 |e::r=>if AT (An from_ tk e.1)≠0 then 8 else if(AH M (An from_ tk e.1)).isSome && !Ab from_ (An from_ tk e.1)then 13 else Bt M from_ tk r
def B8(M:List AD)(from_:AA):List AD:=M.filter λe=>!Ab from_ e.1
def BO(M:List AD)(from_:AA):List AD:=M.filter λe=>Ab from_ e.1
def CN(M:List AD)(from_ tk:AA):Int × List AD:=
 if Bt M from_ tk (BO M from_)≠0 then(Bt M from_ tk (BO M from_),M)else(0,A0 (B8 M from_) ((BO M from_).map λe=>(An from_ tk e.1,e.2)))
mutual
def stepM:Mu->List AD->Int × List AD
 | .mk kd k tk i had was has v l,M=>
   if kd=1 then setMu M k v
   else if kd=2 then(if(AH M k).isSome then(0,Ac M k)else(12,M))
   else if kd=3 then A' M k i
   else if kd=4 then(if asM M k had was then(if has then setMu M k v else(0,Ac M k))else(13,M))
   else if kd=5 then DY M k v
   else if kd=6 then CN M k tk
   else if kd=7 then(if asM M k had was then(if(Al l M).1≠0 then((Al l M).1,M)else Al l M)else(13,M))
   else(9,M)
def Al:List Mu->List AD->Int × List AD
 |[],M=>(0,M)
 |m::r,M=>if(stepM m M).1≠0 then((stepM m M).1,M)else Al r (stepM m M).2
end
def runM(M:List AD)(m:Mu):Int × List AD:=if BQ m≠0 then(BQ m,M)else stepM m M
structure AR where
 w1:Sl
 w2:Sl
 v1:Sl
 v2:Sl
 s:Sl
instance : Inhabited AR :=⟨⟨Sl.none, Sl.none, Sl.none, Sl.none, Sl.none⟩⟩
def A5(m:Mu)(c:AR):List Value:=[.int .i64 m.kd,.string m.k,.string m.tk,.int .i64 m.i,.bool m.had,.int .i64 m.was.kind,.bool m.was.b,.int .i64 m.was.i,.string m.was.t,.slice c.w1.a m.was.l.length c.w1.c,.slice c.w2.a m.was.ok.length c.w2.c,.bool m.has,.int .i64 m.v.kind,.bool m.v.b,.int .i64 m.v.i,.string m.v.t,.slice c.v1.a m.v.l.length c.v1.c,.slice c.v2.a m.v.ok.length c.v2.c,.slice c.s.a m.l.length c.s.c]
abbrev Ap(m:Mu)(c:AR):Value:=.agg (A5 m c).toArray
def Ay(w:AB)(b o:Nat)(m:Mu)(c:AR):Prop:=∀(j:Nat) (u:Value),(A5 m c)[j]? = some u->w.cell? ⟨b,o+j,none⟩=some u
variable{c:AR}
def Ay.agree{b o:Nat}{m:Mu}(h:Ay w b o m c)(N:Agree F w w')(I:F b):Ay w' b o m c:=λj u hu=>(N.cell I).trans (h j u hu)
inductive AK (w:AB) (F:Nat->Prop):Mu->AR->Prop
 |mk {kd:Int} {k tk:AA} {i:Int} {had:Bool} {was:Val} {has:Bool} {v:Val} {l:List Mu} {c:AR} (bl fl:Nat) (cl:Nat->AR)
    (rw_:RV w F was c.w1 c.w2) (rv:RV w F v c.v1 c.v2) (hl:BV F c.s l.length bl fl)
    (el:∀j m,l[j]? = some m->Ay w bl (fl+j*19) m (cl j)) (rl:∀j m,l[j]? = some m->AK w F m (cl j))
    (bk:k.size<=maxLen) (bt:tk.size<=maxLen) (bkd:(Lit.int .i64 kd).wf=true) (bi:(Lit.int .i64 i).wf=true) (nl:l.length*264<=140737488355328):AK w F (.mk kd k tk i had was has v l) c
def AK.agree{m:Mu}(h:AK w F m c)(N:Agree F w w'):AK w' F m c:=by
 induction h with
 | mk bl fl cl rw_ rv hl el rl bk bt bkd bi nl ih=>
   exact .mk bl fl cl (rw_.agree N) (rv.agree N) hl (λj m I=>(el j m I).agree N (hl.fits (De I))) (λj m I=>ih j m I) bk bt bkd bi nl
variable{G:Nat->Prop}
def AK.mono{m:Mu}(h:AK w F m c)(I:∀i,F i->G i):AK w G m c:=by
 induction h with
 | mk bl fl cl rw_ rv hl el rl bk bt bkd bi nl ih=>
   exact .mk bl fl cl (rw_.mono I) (rv.mono I) (hl.mono I) el (λj m N=>ih j m N) bk bt bkd bi nl
mutual
def Av:Mu->Nat
 |.mk kd k tk i had was has v l=>8+k.size+tk.size+Ah was+Ah v+B7 l
def B7:List Mu->Nat
 |[]=>0
 |m::r=>Av m+B7 r
end
def Gd:∀{l:List Mu} {j:Nat} {m:Mu},l[j]? = some m->Av m<=B7 l
 |[],j,m,h=>by simp at h
 | x :: r,0,m,h=>by
   have:x=m:=by simpa using h
   subst this;rw[B7];omega
 |x::r,j+1,m,h=>by have:=Gd (l:=r) (j:=j) (m:=m) (by simpa using h);rw[B7];omega
def GD:∀{l:List Mu} {j:Nat} {m:Mu},l[j]? = some m->A4 (l.take (j+1))=A4 (l.take j)+Ag m
 |[],j,m,h=>by simp at h
 | x :: r,0,m,h=>by
   have:x=m:=by simpa using h
   subst this;simp[A4]
 | x :: r,j+1,m,h=>by
   rw[bq,bq,A4,A4,GD (l:=r) (j:=j) (by simpa using h),bH]
def X4(n:Nat):∀m:Mu,SizeOf.sizeOf m<=n->Ag m<=Av m:=by
 induction n with
 |zero=>intro m h;have:=Mu.CM m;omega
 | succ n ih=>
   intro m h;obtain⟨kd,k,tk,i,N,I,a0,v,l⟩:=m;simp only[Mu.mk.sizeOf_spec]at h;have hs:∀l:List Mu,SizeOf.sizeOf l<=n->A4 l<=B7 l:=by
    intro l
    induction l with
    |nil=>intro _;simp[A4]
    | cons a r ihr=>
      intro Z;simp only[List.cons.sizeOf_spec]at Z;have h1:=ih a oM;have h2:=ihr oM;rw[A4,B7];omega
   have h1:=hs l oM;rw[Ag,Av];omega
def O8(m:Mu):Ag m<=Av m:=X4 _ m (ao _)
def UY{P:AA->Bool}:∀{M:List AD} (k:AA),AH (M.filter λe=>P e.1) k=if P k then AH M k else none
 |[],k=>by simp[AH]
 | e :: r,k=>by
   have N:=UY (P:=P) (M:=r) k;rw[bC];by_cases I:e.1=k
   ·subst I
    cases Z:P e.1 with
    |true=>simp[AH]
    |false=>rw[eL oO,N,Z];simp
   cases Z:P e.1 with
   | true=>
     rw[eN rfl,AH,eL I,N];congr 1;rw[AH,eL I]
   | false=>
     rw[eL oO,N];congr 1;rw[AH,eL I]
def Do(M:List AD)(ks:List AA):List AD:=ks.foldl Ac M
def ZN:∀{M:List AD},Sorted M->Sorted (Do M ks):=by
 induction ks with
 |nil=>exactλh=>h
 |cons k r ih=>exactλh=>ih (EI h k)
def Zl:∀{M:List AD},Sorted M->∀x,(x∈ks->AH (Do M ks) x=none)/\(x∉ks->AH (Do M ks) x=AH M x):=by
 induction ks with
 |nil=>intro M h x;exact⟨λh=>absurd h oO,λ_=>rfl⟩
 | cons k r ih=>
   intro M h x;obtain⟨Z,N⟩:=ih (EI h k) x;refine⟨λI=>?_,λI=>?_⟩
   ·show AH (Do (Ac M k) r) x=_
    by_cases h1:x∈r
    .exact Z h1
    have h2:x=k:=(aH.1 I).resolve_right h1;rw[N h1,Fw _ _ _ h,eN h2]
   show AH (Do (Ac M k) r) x=_;rw[N λh1=>I (aI _ h1),Fw _ _ _ h,eL (λe:x=k=>I (by rw[e];exact aD ..))]
variable{M:List AD}
def JB(h:Sorted M)(p:AA):Sorted (B8 M p):=h.sublist (cQ ..)
def jf(h:Sorted M)(p:AA):Do M (EE (Ab p) M)=B8 M p:=
 Jc (ZN h) (JB h p) λx=>by
  obtain⟨Z,i2⟩:=Zl (ks:=EE (Ab p) M) h x;unfold B8;rw[UY (P:=λk=>!Ab p k)];by_cases h1:x∈EE (Ab p) M
  .rw [Z h1,eL (by simp[((OX h).1 h1).1])]
  rw[i2 h1];cases N:Ab p x with
  |false=>rw[eN (by rfl)]
  | true=>
    rw[eL oO];cases I:AH M x with
    |none=>rfl
    |some v=>exact absurd ((OX h).2 ⟨N,by rw[I];rfl⟩) h1
def To{M:List AD}{f t:AA}:∀{L:List AD} {e:AD},Bt M f t L=0->e∈L->AT (An f t e.1)=0
 |[],e,_,h=>by cases h
 | x :: r,e,h,I=>by
   rw[Bt]at h;by_cases h1:AT (An f t x.1)=0
   ·rw [eL (by simp [h1])] at h
    rcases aH.1 I with rfl|I
    .exact h1
    split at h
    .cases h
    exact To h I
   rw[eN h1]at h;cases h
def Pn{M:List AD}{f t:AA}:∀{L:List AD} {j:Nat},Bt M f t (L.take j)=0->Bt M f t L=Bt M f t (L.drop j)
 |L,0,_=>rfl
 |[],j+1,_=>oO
 | x :: r,j+1,h=>by
   rw[bq,Bt]at h;rw[Bt,ee];by_cases h1:AT (An f t x.1)=0
   ·rw [eL (by simp [h1])] at h ⊢
    split at h
    .cases h
    rename_i h2;rw[eL h2];exact Pn h
   rw[eN h1]at h;cases h
variable{j:Nat}{e:AD}
def L0{f t:AA}{L:List AD}(h:Bt M f t (L.take j)=0)(I:L[j]? = some e) :
  Bt M f t L=if AT (An f t e.1)≠0 then 8 else if(AH M (An f t e.1)).isSome && !Ab f (An f t e.1)then 13 else Bt M f t (L.drop (j+1)):=by
 obtain⟨h1,h2⟩:=ai.1 I;rw[Pn h,aE h1,h2,Bt]
def NC{M:List AD}{f t:AA}:∀{L:List AD} {j:Nat} {e:AD},Bt M f t (L.take j)=0->L[j]? = some e->AT (An f t e.1)=0->((AH M (An f t e.1)).isSome && !Ab f (An f t e.1))=false->Bt M f t (L.take (j+1))=0
 |[],j,e,_,he,_,_=>by simp at he
 | x :: r,0,e,_,he,h1,h2=>by
   have:x=e:=by simpa using he
   subst this;rw[bq,cz,Bt,eL (by simp[h1]),eL (by simp[h2]),Bt]
 | x :: r,j+1,e,h,he,h1,h2=>by
   rw[bq,Bt]at h ⊢;by_cases I:AT (An f t x.1)=0
   ·rw [eL (by simp [I])] at h ⊢
    split at h
    .cases h
    rename_i h4;rw[eL h4];exact NC h (by simpa using he) h1 h2
   rw[eN I]at h;cases h
def Rc(M:List AD)(p:AA):EE (Ab p) M=(BO M p).map Prod.fst:=rfl
def Mn(M:List AD)(k:AA)(v:Val):(setMu M k v).2.length<=M.length+1:=by
 unfold setMu;split
 .exact cN _
 split
 .exact cN _
 have:=Fq M k v;show(AU M k v).length<=_;omega
def Py(P:AD->Bool):∀M:List AD,(M.filter λe=>!P e).length+(M.filter P).length<=M.length
 |[]=>oO
 | e :: r=>by
   have N:=Py P r;rw[bC,bC];cases I:P e
   .rw [eN (by rfl),eL oO];simp only[List.length_cons];omega
   rw[eL oO,eN rfl];simp only[List.length_cons];omega
def V4(M:List AD)(f t:AA):(CN M f t).2.length<=M.length:=by
 unfold CN;split
 .exact ao _
 have h1:=FI ((BO M f).map λe=>(An f t e.1,e.2)) (B8 M f);rw[aq]at h1;exact an h1 (Py (λe=>Ab f e.1) M)
def VQ(M:List AD)(k:AA)(l:List Val)(x:Val):(Cr M k l x).2.length<=M.length+1:=by
 unfold Cr;split
 .exact cN _
 exact Mn ..
def Pb(M:List AD)(k:AA)(n b:Int):(CX M k n b).2.length<=M.length+1:=by
 unfold CX;split
 .exact cN _
 exact Mn ..
def ZX(M:List AD)(k:AA):(Ac M k).length<=M.length:=(Fz M k).length_le
def qE(n:Nat):∀(m:Mu) (M:List AD),SizeOf.sizeOf m<=n->(stepM m M).2.length<=M.length+Ag m:=by
 induction n with
 |zero=>intro m M h;have:=Mu.CM m;omega
 | succ n ih=>
   intro m M h;obtain⟨kd,k,tk,i,Z,I,a0,v,l⟩:=m;simp only[Mu.mk.sizeOf_spec]at h;have hs:∀(l:List Mu) (M:List AD),SizeOf.sizeOf l<=n->(Al l M).2.length<=M.length+A4 l:=by
    intro l
    induction l with
    |nil=>intro M _;simp[Al,A4]
    | cons a r ihr=>
      intro M N;simp only[List.cons.sizeOf_spec]at N;unfold Al A4;split
      .show M.length<=_;omega
      have h1:=ih a M oM;have h2:=ihr (stepM a M).2 oM;omega
   unfold stepM Ag;have h1:=Mn M k v;have h2:=ZX M k;have h3:=V4 M k tk;have h4:=hs l M oM;split
   .omega
   split
   ·split
    .show (Ac M k).length<=_;omega
    show M.length<=_;omega
   split
   ·unfold A'
    split
    ·rename_i x _
     split
     .show M.length<=_;omega
     have:=Pb M k x.i i;omega
    have:=Pb M k 0 i;omega
   split
   ·split
    ·split
     .omega
     show(Ac M k).length<=_;omega
    show M.length<=_;omega
   split
   ·unfold DY
    split
    ·rename_i y _
     split
     .show M.length<=_;omega
     have:=VQ M k y.l v;omega
    have:=VQ M k [] v;omega
   split
   .omega
   split
   ·split
    ·split
     .show M.length<=_;omega
     omega
    show M.length<=_;omega
   show M.length<=_;omega
def OR(m:Mu)(M:List AD):(stepM m M).2.length<=M.length+Ag m:=qE _ m M (ao _)
abbrev kB1:AA:=⟨#[98,47,49]⟩
variable{q:Nat}
def Xz{n:Int}(I:q<=64):Ai (C2 n) q=0:=by
 rw[C2,Ai];rw[show Ad 3 false n ByteArray.empty ([]:List Val).length ([]:List AA).length=false by simp[Ad]];rw[eL oO,eL oM];rfl
def R6{n:Int}(I : -9223372036854775808<=n)(h1:n<=9223372036854775807):AY (C2 n)=0:=by
 have N:=Lib.itoa_length_le n I h1;unfold AY;rw[eL (by simp[Xz (n:=n) (q:=1) oN]),eL (by rw[C2,Bo];decide),eL];rw[C2,Be,eL oN,eN rfl];omega
def Wp(n:Int):wfV (C2 n):=by unfold C2 wfV;exact⟨rfl,by unfold By;trivial,by unfold By;trivial⟩
def Yz{n:Int}(I : -9223372036854775808<=n)(h1:n<=9223372036854775807):okV (C2 n):=⟨Wp n,R6 I h1⟩
abbrev EN(k:AA)(n:Int):Mu:=.mk 3 k ByteArray.empty n false zeroV false zeroV []
abbrev FF(k:AA):Mu:=.mk 2 k ByteArray.empty 0 false zeroV false zeroV []
def Tm{kd:Int}{k tk:AA}{i:Int}{I:Bool}{N:Val}{Z:Bool}{v:Val}(hb:Ct kd k tk i I N Z v 0=true)(hk:Bb kd k tk I=true)(hw:I=true->AY N=0)(hv:BP kd Z=true->AY v=0):BQ (.mk kd k tk i I N Z v [])=0:=by
 unfold BQ;rw[eL (by rw[Ag,A4];decide),Ao,show(([]:List Mu).length)=0 from rfl,hb,hk];rw[eL oO,eL oN,eL oO];rw[eL (λh=>by simp only[Bool.and_eq_true]at h;rw[hw h.1]at h;simp at h),eL (λh=>by simp only[Bool.and_eq_true]at h;rw[hv h.1]at h;simp at h),Cx]
def PX:BJ zeroV=true:=oN
def SQ{k:AA}{N:Int}{I:Bool}(h:AT k=0)(Z:N≠6)(h0:k.size≠0):Bb N k ByteArray.empty I=true:=by
 unfold Bb;rw[eL Z,eL (λe=>h0 e.2),h];rfl
def pi{k:AA}{n:Int}(h:AT k=0)(I:k.size≠0):BQ (EN k n)=0:=
 Tm (by simp[Ct,PX]) (SQ h oN I) (λh=>by cases h) (λh=>by simp[BP]at h)
def iZ{k:AA}(h:AT k=0)(I:k.size≠0):BQ (FF k)=0:=
 Tm (by simp[Ct,PX]) (SQ h oN I) (λh=>by cases h) (λh=>by simp[BP]at h)
def S3{k:AA}{n:Int}(h:AT k=0)(I:k.size≠0):runM M (EN k n)=A' M k n:=by
 unfold runM;rw[eL (by simp[pi h I]),stepM,eL oN,eL oN,eN rfl]
def mB:AT kB1=0:=by decide +kernel
section
variable{H : Type}{enc : TypeId × Value -> H}{P : Program}{w : AB}{held : Bool}
def N4:∀{l:List (DataW H)} {i:Nat} {d:DataW H},l[i]? = some d->Rows.uptoBulk d<=Rows.uptoBulkAll l
 |[],i,d,h=>by simp at h
 | x :: l,0,d,h=>by
   have:x=d:=by simpa using h
   subst this;simp only[Rows.uptoBulkAll];omega
 | x :: l,i+1,d,h=>by
   have:=N4 (l:=l) (i:=i) (d:=d) (by simpa using h);simp only[Rows.uptoBulkAll];omega
def Gp{t e:TypeId}{C B Z:Nat}{cs:List Value}{x:DataW H × List MemPlace}(ht:P.underlying t=some (.slice e))(hC:P.cellsOf e=C)(hB:P.bytesOf e=B)(a7:0<C)
  (h:tr enc P w held Z t cs=some x) (hw:WOk P t x.1) :
  ∃(n I:Nat) (s:Sl) (b o:Nat) (es:List (DataW H)),Z=n+1/\cs=[.slice s.a I s.c]/\BV (Lt w) s I b o/\I*B<=140737488351232/\es.length=I/\Rows.uptoBulkAll es+1<=Rows.uptoBulk x.1/\
   ∀i,i<I->∃N y,N.length=C/\(∀j,j<C->w.cell? ⟨b,o+i*C+j,none⟩=N[j]?)/\tr enc P w held n e N=some y/\WOk P e y.1/\es[i]? = some y.1:=by
 rcases DataW.trod_slice ht h with⟨rfl,rfl⟩ |⟨a,I,b7,a0,rest,n,b9,a8,hx,-,hl,hm,a5,b0,c7,-⟩
 ·cases Z with
  |zero=>simp[tr,DataW.trod]at h
  |succ n=>exact⟨n,0,Sl.none,0,0,[],rfl,rfl,.nil _ _,oM,rfl,by simp[Rows.uptoBulk,Rows.uptoBulkAll],λi hi=>oM⟩
 obtain⟨n',a6,s,b,o,c6,a1,hs,a9,he⟩:=XD ht hC hB a7 h hw;subst a8 hx b9;obtain rfl:n=n':=oM
 have a4:Value.slice (some a) I b7=.slice s.a a6 s.c:=by simpa using a1
 injection a4 with e1 e2 e3;subst e2;refine⟨n,I,s,b,o,a0.map (·.1),rfl,a1,hs,a9,by rw[aq];exact a5,by simp only[Rows.uptoBulk];omega,λi hi=>?_⟩;obtain⟨N,y,b5,hc,a3,b8⟩:=he i hi;refine⟨N,y,b5,hc,a3,b8,?_⟩;have hE:=b0 i hi;rw[ac oM]at hE;obtain⟨b3,h1,h2⟩:=dI.1 hE;obtain⟨-,b6,a2⟩:=World.cells?_some h1;rw[hC]at b6 a2;have b4:s.a=some ⟨b,o,none⟩:=(hs.eq oM).1;rw[b4]at e1;obtain rfl:a=⟨b,o,none⟩:=by injection e1
 have:b3=N:=by
  refine bJ λj=>?_
  by_cases hj:j<C
  ·have:=a2 j hj
   rw[Go.WideShapes.add_plain,Go.WideShapes.add_plain]at this;rw[<-hc j hj,<-this]
  rw[aN oM,aN oM]
 subst this;rw[ar,ac oM];have:some (a0[i]' oM)=some y:=by rw[<-h2];exact a3
 simp only[Option.map_some];injection this with this;rw[this]
def Iz{t:TypeId}{fs:List Field}{I:Nat}{cs:List Value}{x:DataW H × List MemPlace}(ht:P.underlying t=some (.struct fs.toArray))(h:tr enc P w held I t cs=some x)(hw:WOk P t x.1) :
  ∃n ds,I=n+1/\cs.length=P.cellsOf t/\x.1=.agg ds/\∀(i:Nat) (f:Field),fs[i]? = some f->∃y,tr enc P w held n f.type ((cs.drop f.offset).take (P.cellsOf f.type))=some y/\WOk P f.type y.1/\ds[i]? = some y.1:=by
 obtain⟨xs,n,rfl,rfl,hl,Z,hf⟩:=DataW.trod_struct ht h;refine⟨n,xs.map (·.1),rfl,hl,rfl,λi f hi=>?_⟩;have a0:(DataW.weightsEach P (fs.map (·.type)) (xs.map (·.1))).all (·<=reachBytes)=true:=by
  have:=hw;simpa[WOk,DataW.weights,ht]using this
 have a1:i<fs.length:=(ai.1 hi).1;have h1:=hf i f (by simpa using hi);have N:i<xs.length:=by simp at Z;omega
 rw[ac N]at h1;exact⟨_,h1,weightsEach_at a0 i _ _ (by rw[ar,hi];rfl) (by rw[ar,ac N];rfl),by rw[ar,ac N];rfl⟩
end
def GP{H:Type}(d:DataW H):1<=Rows.uptoBulk d:=by
 cases d with
 |lit l=>cases l<;>simp[Rows.uptoBulk]
 |_=>simp[Rows.uptoBulk]
section
variable{H : Type}{enc : TypeId × Value -> H}{w : AB}{held : Bool}
def Jd{P:Program}{t:TypeId}{I:Nat}{cs:List Value}{x:DataW H × List MemPlace}(N:P.underlying t=some .string)(h:tr enc P w held I t cs=some x):∃s,cs=[.string s]/\s.size<=maxLen/\Rows.uptoBulk x.1=s.size+1:=by
 obtain⟨s,h1,rfl,h2⟩:=DataW.trod_string N h;refine⟨s,h1,h2,?_⟩;show s.data.toList.length+1=_;rw[aQ];rfl
def Ue:∀(l:List Val) (es:List (DataW H)),l.length=es.length->(∀(i:Nat) v d,l[i]? = some v->es[i]? = some d->Ah v<=Rows.uptoBulk d)->BX l<=Rows.uptoBulkAll es
 |[],[],_,_=>by simp[BX]
 |[],d::es,h,_=>by cases h
 |a::xs,[],h,_=>by cases h
 | a :: xs,d :: es,h,k=>by
   have h1:=k 0 a d rfl rfl;have h2:=Ue xs es (by simpa using h) λi I d' N hd=>k (i+1) I d' (by simpa using N) (by simpa using hd)
   simp only[BX,Rows.uptoBulkAll];omega
def RQ:∀(ks:List AA) (l:List Val) (es:List (DataW H)),ks.length=es.length->l.length=es.length->(∀(i:Nat) q v d,ks[i]? = some q->l[i]? = some v->es[i]? = some d->q.size+2+Ah v<=Rows.uptoBulk d)->B9 ks l<=Rows.uptoBulkAll es
 |ks,[],es,_,_,_=>by simp[B9]
 |[],a::xs,es,h,h2,_=>by rw[<-h]at h2;cases h2
 |q::ks,a::xs,[],h,_,_=>by cases h
 | q :: ks,a :: xs,d :: es,h,h',k=>by
   have h1:=k 0 q a d rfl rfl rfl;have h2:=RQ ks xs es (by simpa using h) (by simpa using h') λi Z I d' N ha hd=>k (i+1) Z I d' (by simpa using N) (by simpa using ha) (by simpa using hd)
   simp only[B9,Rows.uptoBulkAll,List.headD_cons,List.tail_cons];omega
def Yo{I:List (DataW H)}{n:Nat}{d3 d4 d5:DataW H}(h3:I[3]? = some d3)(N:I[4]? = some d4)(Z:I[5]? = some d5)(hn:n<=Rows.uptoBulk d3+Rows.uptoBulk d4+Rows.uptoBulk d5):3+n<=Rows.uptoBulkAll I:=by
 match I,h3,N,Z with
 | a :: b :: c :: x :: y :: z :: r,h3,N,Z=>
   simp at h3 N Z;subst h3 N Z;have:=GP a;have:=GP b;have:=GP c;simp only[Rows.uptoBulkAll];omega
def SN{N:List (DataW H)}{n:Nat}{Z d1:DataW H}(I:N[0]? = some Z)(h1:N[1]? = some d1)(hn:n<=Rows.uptoBulk Z+Rows.uptoBulk d1):n<=Rows.uptoBulkAll N:=by
 match N,I,h1 with
 | a :: b :: r,I,h1=>
   simp at I h1;subst I h1;simp only[Rows.uptoBulkAll];omega
def ML:∀(Z:Nat) {cs:List Value} {x:DataW H × List MemPlace},tr enc prog w held Z 54 cs=some x->WOk prog 54 x.1->∃v sl so,cs=Gs v sl so/\RV w (Lt w) v sl so/\Ah v<=Rows.uptoBulk x.1:=by
 intro Z
 induction Z using Nat.strongRecOn with
 |ind Z ih=>
 intro cs x h hw;obtain⟨n,ds,rfl,hl,hx,N⟩:=Iz underlying54 h hw;rw[G4]at hl;obtain⟨c0,c1,c2,c3,c4,c5,rfl⟩:=kf hl;obtain⟨y0,h0,-,-⟩:=N 0 _ rfl;obtain⟨y1,h1,-,-⟩:=N 1 _ rfl;obtain⟨y2,h2,-,-⟩:=N 2 _ rfl;obtain⟨y3,h3,-,d3⟩:=N 3 _ rfl;obtain⟨y4,h4,w4,d4⟩:=N 4 _ rfl;obtain⟨y5,h5,w5,d5⟩:=N 5 _ rfl;obtain⟨k,hk,wk⟩:=JO (k:=.i64) kM h0;obtain⟨bb,hb⟩:=Mo kM h1;obtain⟨i,hi,wi⟩:=JO (k:=.i64) kM h2;obtain⟨t,ht,wt,b3⟩:=Jd kM h3;obtain⟨n4,a1,s,b,o,a6,c6,a7,hs,c7,a8,b4,he⟩:=Gp (e:=54) (C:=6) (B:=88) kM G4 Z' oN h4 w4;obtain⟨n5,I,s',b',o',a5,d6,a3,b6,b8,a4,b5,a9⟩:=Gp (e:=107) (C:=7) (B:=104) kM kX ig oN h5 w5;have k0:∀c:Value,([c0,c1,c2,c3,c4,c5].drop 0).take 1=[c]->c0=c:=λc h=>by simpa using h
 have k1:∀c:Value,([c0,c1,c2,c3,c4,c5].drop 1).take 1=[c]->c1=c:=λc h=>by simpa using h
 have k2:∀c:Value,([c0,c1,c2,c3,c4,c5].drop 2).take 1=[c]->c2=c:=λc h=>by simpa using h
 have k3:∀c:Value,([c0,c1,c2,c3,c4,c5].drop 3).take 1=[c]->c3=c:=λc h=>by simpa using h
 have k4:∀c:Value,([c0,c1,c2,c3,c4,c5].drop 4).take 1=[c]->c4=c:=λc h=>by simpa using h
 have k5:∀c:Value,([c0,c1,c2,c3,c4,c5].drop 5).take 1=[c]->c5=c:=λc h=>by simpa using h
 obtain rfl:=k0 _ hk;obtain rfl:=k1 _ hb;obtain rfl:=k2 _ hi;obtain rfl:=k3 _ ht;obtain rfl:=k4 _ a7;obtain rfl:=k5 _ a3;clear k0 k1 k2 k3 k4 k5 hk hb hi ht a7 a3 h0 h1 h2 h3 h4 h5 N;have hE:∀i,i<a1->∃a:Val × Sl × Sl,(BR w b (o+i*6) a.1 a.2.1 a.2.2/\RV w (Lt w) a.1 a.2.1 a.2.2)/\∃d,a6[i]? = some d/\Ah a.1<=Rows.uptoBulk d:=λi hi=>by
  obtain⟨a2,y,c9,hc,ht,hw,hd⟩:=he i hi;obtain⟨v,sl,so,rfl,hr,hv⟩:=ih n4 oM ht hw;exact⟨(v,sl,so),⟨⟨hc 0 oN,hc 1 oN,hc 2 oN,hc 3 oN,hc 4 oN,hc 5 oN⟩,hr⟩,_,hd,hv⟩
 have hM:∀i,i<I->∃a:AA × Val × Sl × Sl,((w.cell? ⟨b',o'+i*7,none⟩=some (.string a.1)/\a.1.size<=maxLen)/\BR w b' (o'+i*7+1) a.2.1 a.2.2.1 a.2.2.2/\RV w (Lt w) a.2.1 a.2.2.1 a.2.2.2)/\∃d,a5[i]? = some d/\a.1.size+2+Ah a.2.1<=Rows.uptoBulk d:=λi hi=>by
  obtain⟨a2,y,d0,hc,ht,hw,hd⟩:=a9 i hi;obtain⟨n6,b9,rfl,hl,b0,N⟩:=Iz underlying107 ht hw;obtain⟨z0,g0,-,e0⟩:=N 0 _ rfl;obtain⟨z1,g1,u1,e1⟩:=N 1 _ rfl;obtain⟨k,hk,wk,bk⟩:=Jd kM g0;have b7:tr enc prog w held n6 54 ((a2.drop 1).take 6)=some z1:=by
   have:=g1;dsimp only at this;rw[G4]at this;exact this
  obtain⟨v,sl,so,hv,hr,c8⟩:=ih n6 oM b7 u1;have a0:a2[0]? = some (.string k):=at_of_take hk (j:=0) oN;have cj:∀j,j<6->w.cell? ⟨b',o'+i*7+1+j,none⟩=(Gs v sl so)[j]?:=λj hj=>by
   rw[<-at_of_take hv hj,<-hc (1+j) oM,bH (o'+i*7)]
  refine⟨(k,v,sl,so),⟨⟨(hc 0 oN).trans a0,wk⟩,⟨cj 0 oN,cj 1 oN,cj 2 oN,cj 3 oN,cj 4 oN,cj 5 oN⟩,hr⟩,_,hd,?_⟩;rw[b0];have:=SN (n:=k.size+1+Ah v) e0 e1 oM;simp only[Rows.uptoBulk];omega
 obtain⟨f,N⟩:=skolem hE;obtain⟨g,hg⟩:=skolem hM;refine⟨.mk k bb i t ((List.range a1).map λj=>(f j).1) ((List.range I).map λj=>(g j).1) ((List.range I).map λj=>(g j).2.1),s,s',by simp[Gs,Val.kind,Val.b,Val.i,Val.t,Val.l,Val.ok],?_,?_⟩
 ·refine .mk b o b' o' (fun j=>((f j).2.1,(f j).2.2)) (fun j=>((g j).2.2.1,(g j).2.2.2)) (by rw [aq,bD];exact hs) (by rw [aq,bD];exact b6) oO (fun j d hj=>?_) (fun j d hj=>?_) (fun j d hj=>?_) (fun j d hj=>?_) (fun j d hj=>?_) wk wi wt (by rw [aq,bD];omega) (by rw [aq,bD];omega)
  .obtain ⟨h1,rfl⟩:=Ci hj;exact(N j h1).1.1
  .obtain ⟨h1,rfl⟩:=Ci hj;exact(N j h1).1.2
  .obtain ⟨h1,rfl⟩:=Ci hj;exact(hg j h1).1.1
  .obtain ⟨h1,rfl⟩:=Ci hj;exact(hg j h1).1.2.1
  obtain⟨h1,rfl⟩:=Ci hj;exact(hg j h1).1.2.2
 have hL:=Ue ((List.range a1).map λj=>(f j).1) a6 (by simp[a8]) λi v d hi hd=>by
  obtain⟨h1,rfl⟩:=Ci hi;obtain⟨d',h2,h3⟩:=(N i h1).2;rw[hd]at h2;injection h2 with h2;rw[h2];exact h3
 have hO:=RQ ((List.range I).map λj=>(g j).1) ((List.range I).map λj=>(g j).2.1) a5 (by simp[a4]) (by simp[a4]) λi q v d hq hi hd=>by
  obtain⟨h1,rfl⟩:=Ci hi;obtain⟨-,rfl⟩:=Ci hq;obtain⟨d',h2,h3⟩:=(hg i h1).2;rw[hd]at h2;injection h2 with h2;rw[h2];exact h3
 have h6:=Yo (n:=t.size+3+BX ((List.range a1).map λj=>(f j).1)+B9 ((List.range I).map λj=>(g j).1) ((List.range I).map λj=>(g j).2.1)) d3 d4 d5 oM;rw[hx];simp only[Ah,Rows.uptoBulk];omega
end
section
variable{H : Type}{enc : TypeId × Value -> H}{w : AB}{held : Bool}
def Ls:prog.cellsOf 59=19:=kM
def Si:prog.bytesOf 59=264:=kM
def iE{I:List (DataW H)}{a b c e f:Nat}{d1 d2 d5 d7 d8:DataW H}(h1:I[1]? = some d1)(h2:I[2]? = some d2)(Z:I[5]? = some d5)(N:I[7]? = some d7)(h8:I[8]? = some d8)
  (b1:Rows.uptoBulk d1=a+1) (b2:Rows.uptoBulk d2=b+1) (b5:c<=Rows.uptoBulk d5) (b7:e<=Rows.uptoBulk d7) (b8:f+1<=Rows.uptoBulk d8):7+a+b+c+e+f<=Rows.uptoBulkAll I:=by
 match I,h1,h2,Z,N,h8 with
 | x0 :: x1 :: x2 :: x3 :: x4 :: x5 :: x6 :: x7 :: x8 :: r,h1,h2,Z,N,h8=>
   simp at h1 h2 Z N h8;subst h1 h2 Z N h8;have:=GP x0;have:=GP x3;have:=GP x4;have:=GP x6;simp only[Rows.uptoBulkAll];omega
def Jo:∀(l:List Mu) (es:List (DataW H)),l.length=es.length->(∀(i:Nat) m d,l[i]? = some m->es[i]? = some d->Av m<=Rows.uptoBulk d)->B7 l<=Rows.uptoBulkAll es
 |[],[],_,_=>by simp[B7]
 |[],d::es,h,_=>by cases h
 |a::xs,[],h,_=>by cases h
 | a :: xs,d :: es,h,k=>by
   have h1:=k 0 a d rfl rfl;have h2:=Jo xs es (by simpa using h) λi I d' N hd=>k (i+1) I d' (by simpa using N) (by simpa using hd)
   simp only[B7,Rows.uptoBulkAll];omega
def Rt:∀(I:Nat) {cs:List Value} {x:DataW H × List MemPlace},tr enc prog w held I 59 cs=some x->WOk prog 59 x.1->∃m c,cs=A5 m c/\AK w (Lt w) m c/\Av m<=Rows.uptoBulk x.1:=by
 intro I
 induction I using Nat.strongRecOn with
 |ind I ih=>
 intro cs x h hw;obtain⟨n,ds,rfl,hl,hx,hf⟩:=Iz underlying59 h hw;rw[Ls]at hl;obtain⟨y0,h0,-,-⟩:=hf 0 _ rfl;obtain⟨y1,h1,-,d1⟩:=hf 1 _ rfl;obtain⟨y2,h2,-,d2⟩:=hf 2 _ rfl;obtain⟨y3,h3,-,-⟩:=hf 3 _ rfl;obtain⟨y4,h4,-,-⟩:=hf 4 _ rfl;obtain⟨y5,h5,w5,d5⟩:=hf 5 _ rfl;obtain⟨y6,h6,-,-⟩:=hf 6 _ rfl;obtain⟨y7,h7,w7,d7⟩:=hf 7 _ rfl;obtain⟨y8,h8,w8,d8⟩:=hf 8 _ rfl;obtain⟨kd,d6,d4⟩:=JO (k:=.i64) kM h0;obtain⟨k,hk,wk,bk⟩:=Jd kM h1;obtain⟨tk,c9,c6,d0⟩:=Jd kM h2;obtain⟨i,hi,wi⟩:=JO (k:=.i64) kM h3;obtain⟨b3,a9⟩:=Mo kM h4;obtain⟨b5,b4⟩:=Mo kM h6;have g5:tr enc prog w held n 54 ((cs.drop 5).take 6)=some y5:=by
  have:=h5;dsimp only at this;rw[G4]at this;exact this
 have g7:tr enc prog w held n 54 ((cs.drop 12).take 6)=some y7:=by
  have:=h7;dsimp only at this;rw[G4]at this;exact this
 obtain⟨b6,s1,s2,b0,b7,a8⟩:=ML n g5 w5;obtain⟨v,s3,s4,hv,rv,cv⟩:=ML n g7 w7;obtain⟨n8,a6,s,b,o,es,e3,d3,hs,e2,d9,b8,he⟩:=Gp (e:=59) (C:=19) (B:=264) kM Ls Si oN h8 w8;have hE:∀i,i<a6->∃a:Mu × AR,(Ay w b (o+i*19) a.1 a.2/\AK w (Lt w) a.1 a.2)/\∃d,es[i]? = some d/\Av a.1<=Rows.uptoBulk d:=λi hi=>by
  obtain⟨e1,y,e0,hc,ht,hw,hd⟩:=he i hi;obtain⟨m,c,rfl,hr,hm⟩:=ih n8 oM ht hw;refine⟨(m,c),⟨λj u hu=>?_,hr⟩,_,hd,hm⟩;have Z:j<19:=(ai.1 hu).1;exact(hc j Z).trans hu
 obtain⟨f,a7⟩:=skolem hE;have b9:cs=A5 (.mk kd k tk i b3 b6 b5 v ((List.range a6).map λj=>(f j).1)) ⟨s1,s2,s3,s4,s⟩:=by
  refine bJ λj=>?_
  by_cases Z:j<19
  ·have a0:cs[0]? = some (.int .i64 kd):=at_of_take d6 (j:=0) oN
   have a1:cs[1]? = some (.string k):=at_of_take hk (j:=0) oN;have a2:cs[2]? = some (.string tk):=at_of_take c9 (j:=0) oN;have a3:cs[3]? = some (.int .i64 i):=at_of_take hi (j:=0) oN;have a4:cs[4]? = some (.bool b3):=at_of_take a9 (j:=0) oN;have a5:∀j,j<6->cs[5+j]? =(Gs b6 s1 s2)[j]?:=λj Z=>at_of_take b0 Z
   have c8:cs[11]? = some (.bool b5):=at_of_take b4 (j:=0) oN;have N:∀j,j<6->cs[12+j]? =(Gs v s3 s4)[j]?:=λj Z=>at_of_take hv Z
   have c7:cs[18]? = some (.slice s.a a6 s.c):=at_of_take d3 (j:=0) oN
   match j,Z with
   |0,_=>exact a0
   |1,_=>exact a1
   |2,_=>exact a2
   |3,_=>exact a3
   |4,_=>exact a4
   |5,_=>exact a5 0 oN
   |6,_=>exact a5 1 oN
   |7,_=>exact a5 2 oN
   |8,_=>exact a5 3 oN
   |9,_=>exact a5 4 oN
   |10,_=>exact a5 5 oN
   |11,_=>exact c8
   |12,_=>exact N 0 oN
   |13,_=>exact N 1 oN
   |14,_=>exact N 2 oN
   |15,_=>exact N 3 oN
   |16,_=>exact N 4 oN
   |17,_=>exact N 5 oN
   |18,_=>rw[c7];simp[A5,Mu.l]
   |j+19,Z=>omega
  rw[aN oM,aN (by simp[A5];omega)]
 refine⟨_,_,b9,?_,?_⟩
 ·refine .mk b o (fun j=>(f j).2) b7 rv (by rw [aq,bD];exact hs) (fun j m Z=>?_) (fun j m Z=>?_) wk c6 d4 wi (by rw [aq,bD];omega)
  .obtain ⟨h1,rfl⟩:=Ci Z;exact(a7 j h1).1.1
  obtain⟨h1,rfl⟩:=Ci Z;exact(a7 j h1).1.2
 have hL:=Jo ((List.range a6).map λj=>(f j).1) es (by simp[d9]) λi m d hi hd=>by
  obtain⟨h1,rfl⟩:=Ci hi;obtain⟨d',h2,h3⟩:=(a7 i h1).2;rw[hd]at h2;injection h2 with h2;rw[h2];exact h3
 have h9:=iE d1 d2 d5 d7 d8 bk d0 a8 cv (f:=B7 ((List.range a6).map λj=>(f j).1)) oM;rw[hx];simp only[Av,Rows.uptoBulk];omega
structure Yj(w:AB)(F:Nat->Prop)(s:Sl)(l:List Mu):Prop where
 ex:∃(b o:Nat) (c:Nat->AR),BV F s l.length b o/\(∀j m,l[j]? = some m->Ay w b (o+j*19) m (c j))/\∀j m,l[j]? = some m->AK w F m (c j)
 few:B7 l<=1099000
 len:l.length*264<=140737488355328
def qQ{a0:Nat}{cs:List Value}{x:DataW H × List MemPlace}(h:tr enc prog w held a0 57 cs=some x)(hw:WOk prog 57 x.1)(hB:Rows.uptoBulk x.1<=1048576) :
  ∃(s:Sl) (l:List Mu),cs=[.slice s.a l.length s.c]/\Yj w (Lt w) s l:=by
 obtain⟨n,N,s,b,o,es,-,hc,hs,a3,a1,a4,he⟩:=Gp (e:=59) (C:=19) (B:=264) underlying57 Ls Si oN h hw;have hE:∀i,i<N->∃a:Mu × AR,(Ay w b (o+i*19) a.1 a.2/\AK w (Lt w) a.1 a.2)/\∃d,es[i]? = some d/\Av a.1<=Rows.uptoBulk d:=λi hi=>by
  obtain⟨a5,y,a2,hc,ht,hw,hd⟩:=he i hi;obtain⟨m,c,rfl,hr,hm⟩:=Rt n ht hw;refine⟨(m,c),⟨λj u hu=>?_,hr⟩,_,hd,hm⟩;have Z:j<19:=(ai.1 hu).1;exact(hc j Z).trans hu
 obtain⟨f,I⟩:=skolem hE;refine⟨s,(List.range N).map λj=>(f j).1,by simpa using hc,⟨b,o,λj=>(f j).2,by rw[aq,bD];exact hs,λj m Z=>?_,λj m Z=>?_⟩,?_,by rw[aq,bD];omega⟩
 .obtain ⟨h1,rfl⟩:=Ci Z;exact(I j h1).1.1
 .obtain ⟨h1,rfl⟩:=Ci Z;exact(I j h1).1.2
 have hL:=Jo ((List.range N).map λj=>(f j).1) es (by simp[a1]) λi m d hi hd=>by
  obtain⟨h1,rfl⟩:=Ci hi;obtain⟨d',h2,h3⟩:=(I i h1).2;rw[hd]at h2;injection h2 with h2;rw[h2];exact h3
 omega
end
structure WV where
 v:Val
 sl:Sl
 so:Sl
def WV.cells(x:WV):List Value:=[.int .i64 x.v.kind,.bool x.v.b,.int .i64 x.v.i,.string x.v.t,.slice x.sl.a x.v.l.length x.sl.c,.slice x.so.a x.v.ok.length x.so.c]
def Ba(xs:List WV):List Value:=xs.flatMap WV.cells
def NZ(x:WV)(xs:List WV):Ba (x::xs)=x.cells++Ba xs:=by simp[Ba]
def pA(xs ys:List WV):Ba (xs++ys)=Ba xs++Ba ys:=by simp[Ba]
def Pl(xs:List WV)(y:WV):Ba (xs++[y])=Ba xs++y.cells:=by simp[Ba]
def WV.len(x:WV):x.cells.length=6:=rfl
def WV.one(x:WV):∀u∈x.cells,u.oneCell'=true:=by
 intro u hu;simp only[WV.cells,List.mem_cons,List.not_mem_nil,or_false]at hu;rcases hu with rfl|rfl|rfl|rfl|rfl|rfl<;>rfl
def PG(xs:List WV):∀u∈Ba xs,u.oneCell'=true:=λu hu=>by
 obtain⟨x,-,I⟩:=cU.1 hu;exact x.one u I
def Jz(xs:List WV):(Ba xs).length=xs.length*6:=by
 induction xs with
 |nil=>rfl
 |cons x xs ih=>rw[NZ,aj,ih,WV.len,aC];omega
def L1:∀{xs:List WV} {i:Nat} {x:WV},xs[i]? = some x->∀c,c<6->(Ba xs)[i*6+c]? = x.cells[c]?
 |[],i,x,h,_,_=>by simp at h
 | y :: ys,0,x,h,c,hc=>by
   simp at h;subst h;rw[NZ,cH,aF,bu (by rw[WV.len];exact hc)]
 | y :: ys,i+1,x,h,c,hc=>by
   simp at h;rw[NZ,aO (by rw[WV.len];omega),WV.len,show(i+1)*6+c-6=i*6+c from oM];exact L1 h c hc
def MI{xs:List WV}(h:Rd w F 6 s xs.length (Ba xs)):∃b o,BV F s xs.length b o/\∀j x,xs[j]? = some x->BR w b (o+j*6) x.v x.sl x.so:=by
 obtain⟨b,o,h1,h2,Z⟩:=h;refine⟨b,o,h1,λj x N=>?_⟩;have I:∀c,c<6->∀u,x.cells[c]? = some u->w.cell? ⟨b,o+j*6+c,none⟩=some u:=λc I u hu=>by
  rw[bH];exact Z _ u (by rw[L1 N c I];exact hu)
 exact⟨I 0 oN _ rfl,I 1 oN _ rfl,I 2 oN _ rfl,I 3 oN _ rfl,I 4 oN _ rfl,I 5 oN _ rfl⟩
def MB{xs:List WV}{b o:Nat}(h:BV F s xs.length b o)(hc:∀j x,xs[j]? = some x->BR w b (o+j*6) x.v x.sl x.so):Rd w F 6 s xs.length (Ba xs):=by
 refine⟨b,o,h,Jz xs,λp u hu=>?_⟩;have hp:=(ai.1 hu).1;rw[Jz]at hp;obtain⟨j,c,rfl,N⟩:∃j c,p=j*6+c/\c<6:=⟨p/6,p%6,oM,oM⟩;obtain⟨x,Z⟩:∃x,xs[j]? = some x:=⟨_,ac oM⟩;have e:=hc _ _ Z;rw[L1 Z c N]at hu;rw[<-bH];have I:c=0\/c=1\/c=2\/c=3\/c=4\/c=5:=oM
 rcases I with rfl|rfl|rfl|rfl|rfl|rfl
 .exact e.c0.trans hu
 .exact e.c1.trans hu
 .exact e.c2.trans hu
 .exact e.c3.trans hu
 .exact e.c4.trans hu
 exact e.c5.trans hu
def wl(l:List Val)(c:Nat->Sl × Sl):List WV:=l.mapIdx λj d=>⟨d,(c j).1,(c j).2⟩
def EO(l:List Val)(c:Nat->Sl × Sl):(wl l c).length=l.length:=by simp[wl]
def Mr(l:List Val)(c:Nat->Sl × Sl):(wl l c).map WV.v=l:=by
 unfold wl;apply bJ;intro j;rw[ar,dv];cases l[j]?<;>rfl
def Gv{l:List Val}{c:Nat->Sl × Sl}{x:WV}(h:(wl l c)[j]? = some x):l[j]? = some x.v/\x.sl=(c j).1/\x.so=(c j).2:=by
 unfold wl at h;rw[dv]at h;cases I:l[j]? with
 |none=>rw[I]at h;cases h
 |some d=>rw[I]at h;cases h;exact⟨rfl,rfl,rfl⟩
def E7:Val->List Val
 |.mk k _ _ _ l _ ov=>if k=5 then l else if k=6 then ov else[]
def js(v:Val):Bo v=1+BE (E7 v):=by
 obtain⟨k,b,i,t,l,Z,ov⟩:=v;unfold Bo E7;dsimp only;by_cases N:k=5
 .rw [eN N,eN N]
 rw[eL N,eL N];by_cases I:k=6
 .rw [eN I,eN I]
 rw[eL I,eL I,BE]
structure OW(w:AB)(base n:Nat)(s:Sl)(xs:List WV):Prop where
 own:w.ownsRow base 54 6 (.slice s.a xs.length s.c) xs.length (Ba xs)
 vals:∀x∈xs,RV w (Lt n) x.v x.sl x.so
def OW.nil(w:AB)(base n:Nat):OW w base n Sl.none []:=⟨World.ownsRow_nil _ _ _ _,λx h=>by simp at h⟩
def OW.ext{base n:Nat}{xs:List WV}(h:OW w base n s xs)(N:Ext w w')(hn:n<=w):OW w' base n s xs:=
 ⟨AZ h.own (N.agree λb (h:Lt w.heap.size b)=>h) (λb I=>(AM h.own I).2),λx Z=>(h.vals x Z).agree (N.agree λb (I:b<n)=>ab I hn)⟩
variable{s':Sl}
def OW.append{base n:Nat}{xs ys:List WV}(hn:n<=base)(hb:base<=w.heap.size)(h:OW w base n s xs)(hv:∀y∈ys,RV w (Lt n) y.v y.sl y.so)
  (N:w'.ownsRow base 54 6 (.slice s'.a (xs.length+ys.length) s'.c) (xs.length+ys.length) (Ba xs++Ba ys)) (a0:Wr w w' s.row):OW w' base n s' (xs++ys):=by
 have I:Agree (Lt n) w w':=a0.agree (λi (hi:i<n)=>oM) (λk hk (hF:k<n)=>by have:=(AM h.own hk).1;omega);refine⟨by rw[aj,pA];exact N,λx Z=>?_⟩;rcases aL.1 Z with Z|Z
 .exact (h.vals x Z).agree I
 exact(hv x Z).agree I
abbrev fJ:=@Decidable.not_not
def iM(s:AA)(p:Nat):(Utf8.decode s p).2<=4:=by
 rw[Lib.decode_at];unfold Lib.decodeN
 repeat' split
 all_goals simp
def oy(r:Nat):1<=(Lib.encodeRune (r:Int)).length:=by
 have:=Lib.runeCells_le (r:Int);rw[Lib.runeCells_length]at this;exact this.1
def Xt(r:Nat):1<=(DL r).length:=by
 unfold DL;split
 .exact oy r
 split<;>simp
def Pw(s:AA):∀(f p:Nat),s.size<=p+f->Lib.validD (s.data.toList.drop p)=true->s.size-p<=4*(CG (Ca s f p)).length
 |0,p,h,_=>oM
 | f+1,p,h,I=>by
   by_cases Z:s.size<=p
   .omega
   have hs:s.data.toList.length=s.size:=aQ;have N:s.data.toList.drop p≠[]:=λe=>by
    have:=congrArg List.length e;rw[az,hs]at this;simp at this;omega
   rw[Lib.validD_step _ N,Lib.decodeL_drop]at I;split at I
   .cases I
   rename_i hn;rw[eH]at I;have hd:Utf8.decode s p≠(65533,1):=λe=>hn (by rw[e];exact⟨rfl,rfl⟩)
   have h1:=Lib.width_pos s p;have h4:=iM s p;have ih:=Pw s f (p+(Utf8.decode s p).2) oM I;rw[Ca,eL Z,eL hd];have hq:(CG ((p,(Utf8.decode s p).1)::Ca s f (p+(Utf8.decode s p).2))).length=(DL (Utf8.decode s p).1).length+(CG (Ca s f (p+(Utf8.decode s p).2))).length:=by simp[CG]
   rw[hq];have:=Xt (Utf8.decode s p).1;omega
def TY{s:AA}(h:Lib.validD s.data.toList=true):s.size+8<=4*(Bl s).size:=by
 have h1:=Pw s s.size 0 oM (by rw[dt];exact h);unfold Bl;rw[eN h];show s.size+8<=4*((C4 s).toArray.size);rw[bp];unfold C4 CW;simp only[List.length_append,List.length_cons,List.length_nil];omega
def Xu(n:Int):1<=(Lib.itoa n).length:=by
 unfold Lib.itoa;have:∀u,1<=(Lib.decDigits u).length:=λu=>by
  rw[Lib.decDigits_length];unfold Lib.nDigits
  repeat' split
  all_goals omega
 split
 .rw [aC];omega
 exact this _
mutual
def NI:∀(v:Val) (q:Nat),wfV v->Ai v q=0->Ah v<=7*Be v
 | .mk k b i t l ok ov,q,hw,h=>by
   obtain⟨a0,hl,ho⟩:=hw;rw[Ai]at h;split at h
   .cases h
   rename_i hodd;split at h
   .cases h
   unfold Ad at hodd;split at hodd
   .exact absurd rfl hodd
   rename_i hk;simp only[Bool.or_eq_true,Bool.and_eq_true,bne_iff_ne,ne_eq,not_or,not_and,Decidable.not_not]at hodd;obtain⟨⟨⟨⟨o2,o3⟩,o4⟩,o5⟩,o6⟩:=hodd;have I:k≠4->t.size=0:=o4;have e5:k≠5->l=[]:=λh5=>av (o5 h5)
   have N:k≠6->ov=[]:=λh6=>av (by have:=o6 h6;omega)
   rw[Ah,Be];by_cases k2:k=2
   ·have:4≤IS b:=by cases b <;> decide
    rw[eN k2,I oM,e5 oM,N oM];simp only[BX,B9];omega
   rw[eL k2];by_cases k3:k=3
   ·have:=Xu i
    rw[eN k3,I oM,e5 oM,N oM];simp only[BX,B9];omega
   rw[eL k3];by_cases Z:k=4
   ·rw [eN Z] at h
    have hv:Lib.validD t.data.toList=true:=by
     cases hv:Lib.validD t.data.toList with
     |true=>rfl
     |false=>rw[hv]at h;simp at h
    have:=TY hv;rw[eN Z,e5 oM,N oM];simp only[BX,B9];omega
   rw[eL Z]at h ⊢;by_cases k5:k=5
   ·rw [eN k5] at h ⊢
    have:=P' l (q+1) hl h;rw[I oM,N oM];simp only[B9];omega
   rw[eL k5]at h ⊢;by_cases k6:k=6
   ·rw [eN k6] at h ⊢
    have:=Tr none ok ov (q+1) ho h;rw[I oM,e5 oM];simp only[BX];omega
   rw[eL k6,I oM,e5 oM,N oM];simp only[BX,B9];omega
def P':∀(l:List Val) (q:Nat),By l->Bp l q=0->BX l<=7*Bm l
 |[],q,_,_=>by simp[BX]
 | d :: r,q,hw,h=>by
   rw[Bp]at h;obtain⟨hd,N⟩:=hw;by_cases I:Ai d q=0
   ·rw [eL (by simp [I])] at h
    have h1:=NI d q hd I;have h2:=P' r q N h;rw[BX,Bm];omega
   rw[eN I]at h;exact absurd h I
def Tr:∀(p:Option AA) (ks:List AA) (l:List Val) (q:Nat),By l->Bi p ks l q=0->B9 ks l<=7*Bf ks l
 |p,ks,[],q,_,_=>by simp[B9]
 | p,ks,d :: r,q,hw,h=>by
   rw[Bi]at h;obtain⟨hd,N⟩:=hw;split at h
   .cases h
   rename_i hv;split at h
   .cases h
   by_cases I:Ai d q=0
   ·rw [eL (by simp [I])] at h
    have h1:=NI d q hd I;have h2:=Tr _ ks.tail r q N h;have Z:=TY (s:=ks.headD ByteArray.empty) (by simpa using hv);rw[B9,Bf];omega
   rw[eN I]at h;exact absurd h I
end
def okV.cnt{v:Val}(h:okV v):Ah v<=7168:=by
 have h1:=NI v 1 h.1 h.may;have h2:=h.2;unfold AY at h2;split at h2
 .exact absurd h2 (by assumption)
 split at h2
 .cases h2
 split at h2
 .cases h2
 omega
def ET(w:AB)(v:Val)(sl so:Sl):Calls prog 182 #[AS v sl so] w λe w'=>e=.returned (BJ v)/\Ext w w':=by
 obtain⟨k,b,i,t,l,I,ov⟩:=v;show Calls _ _ #[.agg #[k,b,i,t,.slice sl.a l.length sl.c,.slice so.a I.length so.c]] _ λe w'=>e=.returned (.bool (k==0 && !b&&i==0&&t.size==0&&l.length==0&&I.length==0))/\Ext w w'
 by_cases hk:k=0
 rotate_left
 ·have gk:(k == 0)=false:=eP.2 hk
  go_in;go_wp2_with fail;go_ret;exact⟨by simp[hk],(gz w).alloc _ _⟩
 subst hk;by_cases hb:b=true
 ·subst hb
  go_in;go_wp2_with fail;go_ret;exact⟨oO,(gz w).alloc _ _⟩
 obtain rfl:b=false:=by simpa using hb
 by_cases hi:i=0
 rotate_left
 ·have gi:(i == 0)=false:=eP.2 hi
  go_in;go_wp2_with fail;go_ret;exact⟨by simp[hi],(gz w).alloc _ _⟩
 subst hi;by_cases N:t.size=0
 rotate_left
 ·have gt:=EG N
  go_in;go_wp2_with fail;go_ret;exact⟨by simp[N],(gz w).alloc _ _⟩
 have gt:=Dm N;by_cases hl:l.length=0
 rotate_left
 ·have gl:((l.length:Int) == 0)=false:=eP.2 oM
  go_in;go_wp2_with fail;go_ret;exact⟨by simp[hl],(gz w).alloc _ _⟩
 have gl:((l.length:Int)==0)=true:=by rw[hl];rfl
 cases hz:decide (I.length=0)with
 | true=>
   have Z:I.length=0:=gp hz;have go:((I.length:Int)==0)=true:=by rw[Z];rfl
   go_in;go_wp2_with fail;go_ret;exact⟨by simp[N,hl,Z],(gz w).alloc _ _⟩
 | false=>
   have Z:¬I.length=0:=of_decide_eq_false hz;have go:((I.length:Int)==0)=false:=eP.2 oM;go_in;go_wp2_with fail;go_ret;exact⟨by simp[Z],(gz w).alloc _ _⟩
variable{H:Nat->Prop}{O:Nat}{d:OD}
def iJ(h:BC H w O d)(hm:d.mb=none):Calls prog 71 #[.pointer (some O)] w λe w'=>e=.returned (AO d.T)/\Nw w w':=by
 have c0:w.cell? O=some (Aa d.T):=h.blk.cell 0;have c1:w.cell? ⟨O,1,none⟩=some (.map none):=by have:=h.blk.cell 1;rw[hm]at this;exact this
 have lO:=h.blk.lt;obtain⟨r,hr⟩:=BM d.T;rw[AO,hr];rw[hr]at c0;have l1:O<w.heap.size+1:=oM
 have l2:O<w.heap.size+1+1:=oM
 clear h hm hr;go_in;go_wp2_with fail;generalize a2:World.alloc _ _=W0;obtain⟨a1,a4,I,N⟩:=CH w _ _ _ _ W0 a2;obtain⟨a6,a8,a7,a9⟩:=Ye a1 I N a4;clear a2 a1 I N l1 l2 a4;refine((eR (n:=5)).1 (Tryz.PC none W0)).mono ?_;rintro e w' ⟨rfl,rfl⟩;go_wp2_with fail;refine((eR (n:=5)).1 (Tryz.Y' W0)).mono ?_;rintro e w2 ⟨v,ss,rfl,rfl,a3,a0,a5⟩;obtain rfl:=a0.2 rfl;have Z:Nw W0 w2:=(gA ((gz W0).alloc #[.map none] 155)).trans (Sb.new a5);have I:=Z.blk a8.o;have N:=Z.blk a7.o;have q0:w2.cell? w=some (.pointer none):=I.cell 0;have q1:w2.cell? ⟨w+1,0,none⟩=some (.pointer r):=N.cell 0;have f0:=I.frozen 0;have k0:=I.lt;have k1:=N.lt;have HN:=hY (show Nw w (w2.setCell w (.pointer r))from
  (((gA a6.o).any (λb=>w<=b)).trans (Z.any _)).set (p:=⟨w,0,none⟩) (.inl (ao _)) _ |>.mono λi hi e=>oM)
 clear a3 a0 a5 Z I N c0 c1;go_wp2_with fail;go_loopw[23] (λq wr=>q=.int .i64 0/\wr=w2) (λ_ _=>0)
 case atStart=>exact⟨rfl,rfl⟩
 obtain⟨rfl,rfl⟩:=hrel;go_wp2_with fail;refine eU (v:=.agg #[.pointer r]) (by simp[results,results71,go_sem,q0]) rfl ?_;exact⟨rfl,HN.o⟩
def Cv(C:AL SV)(pre:List LE):List AA:=(pre.filter λx=>(AQ C x.k).isNone).map LE.k
variable{C:AL SV}{x:LE}
def oE{pre:List LE}(h:AQ C x.k=none):Cv C (pre++[x])=Cv C pre++[x.k]:=by
 unfold Cv;rw[bT,aB,bC,eN (by rw[h];rfl)];rfl
def Z6{pre:List LE}{s:SV}(h:AQ C x.k=some s):Cv C (pre++[x])=Cv C pre:=by
 unfold Cv;rw[bT,aB,bC,eL (by rw[h];simp)];simp
def T8(C:AL SV)(pre:List LE):(Cv C pre).length<=pre.length:=by
 unfold Cv;rw[aq];exact bE _ _
def D8(C:AL SV)(p k:AA):Bool:=match AQ C k with
 |some s=>s.has&&Ab p k
 |none=>false
abbrev Bu(l:List UInt8):AA:=⟨l.toArray⟩
def Cj(C:AL SV)(p:AA)(ss:List (List UInt8)):List AA:=(ss.map Bu).filter (D8 C p)
def Z2{p:AA}{ss:List (List UInt8)}{x:List UInt8}(h:D8 C p (Bu x)=true):Cj C p (ss++[x])=Cj C p ss++[Bu x]:=by
 unfold Cj;rw[aB,bT,List.map_singleton,bC,eN h];rfl
def PN{p:AA}{ss:List (List UInt8)}{x:List UInt8}(h:D8 C p (Bu x)=false):Cj C p (ss++[x])=Cj C p ss:=by
 unfold Cj;rw[aB,bT,List.map_singleton,bC,eL (by rw[h];simp)];simp
def Wh(C:AL SV)(p:AA)(ss:List (List UInt8)):(Cj C p ss).length<=ss.length:=by
 unfold Cj;have:=bE (D8 C p) (ss.map Bu);rwa[aq]at this
def NP(C:AL SV):strKeys (mapA SV.val C)=C.map λq=>Bc q.1:=by
 show(C.map (Fu SV.val)).map _=_;rw[ct];rfl
def N3{a b:AA}(h:klt a b=true):a≠b:=λe=>by rw[e,BI]at h;cases h
variable{xs:List LE}
def SE{p:AA}(hs:Sorted (AG d.T))(hC:Bd d.C)(hx:xs.map LE.ent=Gj p (AG d.T)){ss:List (List UInt8)}(hp:ss.Perm (d.C.map λq=>Bc q.1)) :
  (Cv d.C xs++Cj d.C p ss).Nodup/\∀k,k∈Cv d.C xs++Cj d.C p ss↔(Ab p k=true/\(d.now k).isSome=true):=by
 have hsp:(Gj p (AG d.T)).Pairwise λa b=>klt a.1 b.1=true:=hs.sublist (cQ ..)
 rw[<-hx]at hsp;have hk1:(xs.map LE.k).Pairwise λa b=>klt a b=true:=bO.2 (bO.1 hsp)
 have hn1:(Cv d.C xs).Nodup:=((bO.2 ((bO.1 hk1).sublist (cQ ..))).imp λh=>N3 h);have hnC:(d.C.map λq=>Bc q.1).Nodup:=bO.2 (hC.imp λ{a b} h (e:Bc a.1=Bc b.1)=>N3 h (congrArg Bu e:Bu (Bc a.1)=Bu (Bc b.1)));have hns:(ss.map Bu).Nodup:=bO.2 ((hp.nodup_iff.2 hnC).imp λ{a b} h (e:Bu a=Bu b)=>h (congrArg Bc e:Bc (Bu a)=Bc (Bu b)));have hn2:(Cj d.C p ss).Nodup:=hns.sublist (cQ ..);have hm1:∀k,k∈Cv d.C xs↔(Ab p k=true/\(AH (AG d.T) k).isSome=true/\AQ d.C k=none):=λk=>by
  have hmem:∀(e:AD),e∈xs.map LE.ent↔(e∈AG d.T/\Ab p e.1=true):=λe=>by rw[hx];exact bK
  unfold Cv;rw[bX];constructor
  ·rintro ⟨x,hx',rfl⟩
   obtain⟨h1,h2⟩:=bK.1 hx';obtain⟨h3,h4⟩:=(hmem x.ent).1 (dg h1);exact⟨h4,by have:=L4 hs h3;rw[show x.ent.1=x.k from rfl]at this;rw[this];rfl,Option.isNone_iff_eq_none.1 h2⟩
  rintro⟨h1,h2,h3⟩;obtain⟨v,hv⟩:=de.1 h2;obtain⟨x,hx',he⟩:=bX.1 ((hmem (k,v)).2 ⟨IJ hv,h1⟩);have hxk:x.k=k:=congrArg Prod.fst he;exact⟨x,bK.2 ⟨hx',by rw[hxk,h3];rfl⟩,hxk⟩
 have hm2:∀k,k∈Cj d.C p ss↔D8 d.C p k=true:=λk=>by
  unfold Cj;rw[bK];refine⟨λh=>h.2,λh=>⟨?_,h⟩⟩;unfold D8 at h;cases hg:AQ d.C k with
  |none=>rw[hg]at h;cases h
  | some s=>
    have h5:Bc k∈ss:=hp.mem_iff.2 (bX.2 ⟨(k,s),LV hg,rfl⟩);exact bX.2 ⟨Bc k,h5,rfl⟩
 refine⟨List.nodup_append.2 ⟨hn1,hn2,λa ha b hb e=>?_⟩,λk=>?_⟩
 ·subst e
  have h1:=((hm1 a).1 ha).2.2;have h2:=(hm2 a).1 hb;unfold D8 at h2;rw[h1]at h2;cases h2
 rw[aL,hm1,hm2];unfold D8;cases hg:AQ d.C k with
 |none=>rw[Pd hg];simp
 | some s=>
   rw[Ow hg];unfold SV.opt;cases hh:s.has<;>cases Ab p k<;>simp[hh]
def lN{x:List UInt8}{Z:DataW Value}{yp:List MemPlace}{c:Value}(I:∀zd,(mapA SV.val C).atKey (.string x) zd=Z)(hv:Dx c=some (Z,yp)):∃sv,AQ C (Bu x)=some sv/\c=sv.val:=by
 have h1:=IU SV.val C (Bu x);cases N:AQ C (Bu x)with
 | none=>
   simp only[N]at h1;have a:=(h1 .nil).symm.trans (I .nil);have b:=(h1 (.held (.bool true))).symm.trans (I _);rw[<-a]at b;cases b
 | some s=>
   simp only[N]at h1;have a:=(h1 .nil).symm.trans (I .nil);rw[<-a]at hv;exact⟨s,rfl,Ln hv⟩
def Nt{p k:AA}{s:SV}(h:AQ C k=some s):D8 C p k=(s.has&&Ab p k):=by unfold D8;rw[h]
def Pp{α:Type}[DecidableEq α]:∀{ss l:List α},ss.Nodup->(∀x∈ss,x∈l)->ss.length<=l.length
 |[],l,_,_=>aw _
 | a :: ss,l,hn,hs=>by
   have N:=hs a (aD ..);have I:=List.nodup_cons.1 hn;have:=Pp (ss:=ss) (l:=l.erase a) I.2 λx Z=>(List.mem_erase_of_ne (λe=>I.1 (by rw[<-e];exact Z))).2 (hs x (aI _ Z))
   have he:=List.length_erase_of_mem N;have:0<l.length:=List.length_pos_of_mem N;simp only[List.length_cons];omega
def gV{left:Lit->Bool}{ss:List (List UInt8)}(h:Collected (mapA SV.val C) left ss):ss.length<=C.length:=by
 have h2:=Pp (l:=C.map λq=>Bc q.1) h.1 λx I=>by
  have:=((h.2 x).1 I).1;rw[show Lit.string x=B1 (Bu x)from rfl,VO]at this;obtain⟨s,hs⟩:=de.1 this;exact bX.2 ⟨(Bu x,s),LV hs,rfl⟩
 rwa[aq]at h2
def SU(d:OD)(p:AA)(w:AB)(e:AC)(w':AB):Prop:=
 ∃(s:Sl) (ks:List AA),e=.returned (.slice s.a ks.length s.c)/\Nw w w'/\Rd w' (In w.heap.size w'.heap.size) 1 s ks.length (ks.map .string)/\ks.Pairwise (λx y=>klt x y=true)/\∀k,k∈ks↔(Ab p k=true/\(d.now k).isSome=true)
variable{w1 w5 w6:AB}
def Ud{p:AA}{ks ts:List AA}(h1:Nw w w1)(hB:w.heap.size<=B)(hc:Cs w1 B ks s W)(hn:ks.Nodup)(hm:∀k,k∈ks↔(Ab p k=true/\(d.now k).isSome=true))
  (hp:ts.Perm ks) (hs:(ts.map Bc).Pairwise λx y=>decide (x<=y)=true) (ho:w5.ownsRow (w1.heap.size+2) 9 1 (.slice s.a ts.length s.c) ts.length (ts.map .string)) (N:W.grownBy w5 s.row) {D:Nat} (h6:Sb (λb=>b=D) w5 w6) (hD:w1.heap.size=D) :
  SU d p w (.returned (.slice s.a ts.length s.c)) w6:=by
 have hz:=h1.size;have h5:Sb (λb=>s.row=some b) W w5:=⟨N.os,N.tape,N.output,N.size,λi hi hn=>N.block i hi λe=>hn e.symm⟩;refine⟨s,ts,rfl,?_,?_,PK hs (hp.nodup_iff.2 hn),λk=>(hp.mem_iff).trans (hm k)⟩
 ·have a1:Sb (fun b=>B=b∨w1.heap.size≤b) w1 w6:=((hc.sb.mono fun i _ e=>.inl e.symm).trans (h5.mono fun i _ e=>.inr (by have:=(hc.row e).1;omega))).trans (h6.mono fun i _ e=>.inr oM)
  exact((h1.any (λb=>w<=b)).comp a1 λi hi e=>by rcases e with e|e<;>omega).mono λi hi e=>oM
 have I:∀b,s.row=some b->w1.heap.size+2<=b/\b<w5.heap.size:=λb Z=>AM ho Z
 have a0:=AZ ho h6.agree λb Z=>⟨(I b Z).2,λe=>by have:=(I b Z).1;omega⟩
 exact(gF a0).mono λi hi=>⟨by have:=hi.1;omega,hi.2⟩
end Go.Proofs.YtahhllcdbjbpbaaGreatDoor
