/- What the theorem needs of the texts OwnO, FitV, MuP, ScanP, ScanW, ScanR, ScanT, ScanK, ScanQ, KeysEnd, ScanX, Known08, OvSort, OvPre, MuM, MuV, TrodB, OvCom0, OvPre2, OvPreW, CmpW, CmpI: no condition of its own. -/
import Derived.Test.YtdiecmkpbadgjaaGreatDoorPnf
set_option linter.unusedVariables false
set_option linter.unusedSimpArgs false
set_option linter.unnecessarySimpa false
set_option maxRecDepth 100000
set_option maxHeartbeats 4000000
namespace Go.Proofs.YtdiecmkpbadgjaaGreatDoor
open Go.Proofs.Tryz
open Go.RowKit Go.Maps Go.Shelf
attribute [local go_sem] Oper.semAt_some
structure OI(w:World)(B:Nat)(a b:Value)(n:Nat)(ok:List ByteArray)(ov:List Val)(pre:List ME)(W:World):Prop where
 blk:Blk W B 275 (wrC a b (n+1+(Qfl ok (ov.take pre.length)+(pre.length-1))))
 sb:Sb (λc=>c=B) w W
 box:Blk W w.heap.size 278 #[.pointer (some ⟨B,0,none⟩)]
variable{w W W':World}{B n:Nat}
theorem OI.nw{a b:Value}{ok:List ByteArray}{ov:List Val}{pre:List ME}(h:OI w B a b n ok ov pre W)(k:Nw W W'):OI w B a b n ok ov pre W':=⟨k.blk h.blk,h.sb.trans (k.any _),k.blk h.box⟩
theorem OI.turn{B x:Nat}{a b:Value}{ok:List ByteArray}{ov:List Val}{pre:List ME}(h:OI w B a b n ok ov pre W)(k:Sb (λi=>i=x) W W')(I:w.heap.size<x)(N:B<w.heap.size):OI w B a b n ok ov pre W':=
 ⟨k.blk h.blk oM,h.sb.comp k (λi hi e=>by have e:i=x:=e;omega),k.blk h.box oM⟩
theorem Qmj:∀(ks:List ByteArray) (l:List Val),l.length=ks.length->ks.length<=QfL ks l
 |[],_,_=>aA _
 |k::ks,[],h=>by cases h
 | k :: ks,d :: r,h=>by
   have:=Qmj ks r (by simpa using h);rw[QfL,ce,aB];omega
variable{ks:List ByteArray}
theorem Qnr{l:List Val}:Qfl ks (l.take 0)=0:=by cases ks<;>simp[Qfl]
variable{F:Nat->Prop}{V:Nat}{sl so:Sl}
theorem Qr2{P:Val->Prop}(hI:Qvg P){bo:Bool}{i:Int}{t:ByteArray}{l:List Val}{ok:List ByteArray}{ov:List Val}{a b:Value} 
  (hP:∀(j:Nat) (d:Val),ov[j]? = some d->P d) (hc:QfL ok ov<=1100000)
  (hV:Blk w V 34 #[.int .i64 6,.bool bo,.int .i64 i,.string t,.slice sl.a l.length sl.c,.slice so.a ok.length so.c]) (h:RV w F (.mk 6 bo i t l ok ov) sl so) (hF:∀i,F i->i<w.heap.size/\i≠B) (i9:V≠B) (hB:Blk w B 275 (wrC a b n)) (hn:n+(2+Qfl ok ov+(ov.length-1))<=9000000) (hL:Qb4 w) (h6:6<=B) :
  Calls prog 253 #[.pointer (some ⟨B,0,none⟩),.pointer (some ⟨V,0,none⟩)] w λe w'=>(∃r,e=.returned r)/\Blk w' B 275 (wrC a b (n+(2+Qfl ok ov+(ov.length-1))))/\Sb (λc=>c=B) w w':=by
 cases h with
 |mk bl fl bo' fo cl co hl ho hov el rl ek eo ro bk bi bt nl no=>
 have c3:MOk w F so ok ov:=⟨⟨bo',fo,co,ho,ek,eo,ro⟩,hov,λk hk=>by
  obtain⟨j,hj⟩:=List.mem_iff_getElem?.1 hk;have g4:=(ai.1 hj).1;have:=QkY (ac (l:=ov) (i:=j) oM) hj;omega⟩
 have l1:ok.length<=1100000:=by
  have:=Qmj ok ov hov;omega
 have l8:=hV.lt;have e8:=hB.lt;obtain⟨i6,HV,HF,HB,i0,HI,HP⟩:=Yh c3 hV hF hB hL hI hP;obtain⟨HC,HN,f9⟩:=Yc hc hn hov;clear c3 hV hF hB hL hI hP hc hn el rl ek eo ro hl ho bk bi bt nl no hov;refine(ez (n:=6)).1 ?_;refine fi func253 rfl trivial ?_ rfl;simp only[ntmps253,List.size_toArray,List.length_cons,List.length_nil,Nat.reduceAdd,Nat.reduceSub,Array.replicate_succ,Array.replicate_zero,List.push_toArray,List.append_toArray,List.nil_append,List.cons_append];gi_wp2_with fail;generalize b7:w.alloc (.cells #[.pointer (some ⟨B,0,none⟩)] _)=W0;have d5:Ext w W0:=by rw[<-b7];exact(fI w).alloc _ _
 have j0:W0.heap.size=w.heap.size+1:=by rw[<-b7];simp
 have g6:Blk W0 w.heap.size 278 #[.pointer (some ⟨B,0,none⟩)]:=by rw[<-b7];exact fK w _ _
 have e0:=Qcq (w:=W0) ⟨#[123]⟩ (HB.o.ext d5) (by have:=HN.o;show n+1<=_;omega);rw[j0]at e0;obtain⟨i5,k5,j3⟩:=Yc e0 d5 g6;clear b7 e0 d5 g6;refine⟨trivial,?_⟩;refine(ez.2 i5.o).mono ?_;rintro e w1 ⟨⟨r,rfl⟩,i8,b9⟩;have a0:=(k5.o.sb (λc=>c=B)).trans b9;obtain⟨q0,q1,q2,q3,q4,q5⟩:=(a0.blk HV.o i9).c6;have lq:=(a0.blk HV.o i9).lt;have c0:=b9.blk j3.o oM;obtain⟨j8,k4,i1⟩:=Yc i8 a0 c0;have n2:=b9.size;clear i8 b9 a0 c0 i5;gi_wp2_with fail;refine⟨trivial,?_⟩;refine(ez.2 (QrR w1 so.a ok.length so.c)).mono ?_;rintro e w2 ⟨rfl,a7,e3⟩;have a9:=k4.o.ext a7;have c8:Agree F w w2:=λx hx=>a9.block x (HF.o x hx).1 (HF.o x hx).2
 have d8:Qb4 w2:=i0.o.sb a9 λc hc e=>by have e:c=B:=e;omega
 have d7:∀b,F b->b<w2.heap.size:=λb I=>ab (HF.o b I).1 a9.size
 have c7:OI w B a b n ok ov [] w2:=⟨by have:=j8.o.ext a7;rw[show([]:List ME).length=0 from rfl,Qnr];exact this,a9,i1.o.ext a7⟩;have l4:=a7.size;have l2:=e3.lt;have o0:=d8.lib.big;obtain⟨j9,f5,a1⟩:=Yc (QrS e3 (i6.o.agree c8) d7 d8 oM) c7 d7;clear a7 e3 a9 c8 d8 d7 c7 q0 q1 q2 q3 q4 q5;gi_wp2_with fail;refine Qg7 (gf:=264) (lb:=#[.pointer (some ⟨w1,0,none⟩)]) rfl (eP func264 kM rfl) j9.o (Agree.refl _) (ao _)
  (λb I=>by
    rcases I with I|rfl|I
    .exact a1.o b I
    .omega
    omega) (λ_=>rfl) (OI w B a b n ok ov) (λ_ _ _=>False)
  (λh k hl l6=>h.turn k oM e8) (λh _ _ _=>h) (λW hW hz=>f5.o.nw (fJ hW)) ?round ?done ?stop
 case stop=>
  rintro D c pre W hD l5 hX b4;exact hX.elim
 case round=>
  rintro pre x n7 W1 hI n6 a6 hG;obtain⟨tx,d,Vx,b6,b5⟩:=x;obtain⟨⟨k,hk,hd,e2⟩,b8,d4,i4⟩:=hG;dsimp only at hd e2 b8 d4 i4;have g4:=(ai.1 hk).1;have i7:=hY (hI.nw a6);have hcut:=Qmi ok ov (pre.length+1);have j6:=QjY hd hk;have f6:=Qih pre.length;have k0:tx.size=(Qk0 pre.length).size+(Qbf k).size:=by rw[e2,aL]
  have f0:=f9.o;have k7:=HN.o;have d3:n+1+(Qfl ok (ov.take pre.length)+(pre.length-1))+tx.size+1+QgI d<=9000000:=oM
  have a3:n+1+(Qfl ok (ov.take (pre.length+1))+(pre.length+1-1))=n+1+(Qfl ok (ov.take pre.length)+(pre.length-1))+tx.size+1+QgI d:=oM
  have f4:QcI d<=1100000:=by have:=QkY hd hk;have:=HC.o;omega
  obtain⟨k9,j5,c1,e7,f8,i3⟩:=Yg (HP.o _ d hd) f4 d3 a3 b8 d4;have l0:=a6.size;have n4:=b8.lt;have l9:=Qfd d.kind;clear hI a6 hk hd e2 b8 d4 hcut j6 f6 k0 f0 k7 d3 a3 f4 g4;gi_wp2_with fail;refine⟨fM _ _,λW3 k3 j2 g0 f1=>?_⟩;have a5:=i7.o.turn k3 oM e8;have p0:W3.cell? ⟨w,0,none⟩=some (.pointer (some ⟨B,0,none⟩)):=a5.box.cell 0;have lp:=a5.box.lt;have n9:=k3.size;have c2:=k3.blk f8.o oM;have d0:RV W3 F d b6 b5:=i3.o.agree λb I=>k3.block b (by have:=a1.o b I;omega) (λe=>by have e:b=_:=e;have:=a1.o b I;omega)
  have f3:=QrB (w:=W3) tx ⟨#[58]⟩ a5.blk (by have:=c1.o;show _+1<=_;omega);obtain⟨a8,g5,f2,j4,n8,l7⟩:=Yg a5 c2 d0 f3 g0 f1;clear k3 j2 g0 f1 a5 c2 d0 f3 i7 f8 i3;gi_wp2_with fail;refine⟨trivial,?_⟩;refine(QaA j4.o).mono ?_;rintro e w5 ⟨⟨r5,rfl⟩,g3,N⟩;have p5:w5.cell? ⟨w,0,none⟩=some (.pointer (some ⟨B,0,none⟩)):=(N.blk a8.o.box oM).cell 0;have l3:=(N.blk a8.o.box oM).lt;have o1:=N.size;have c4:=a8.o.sb.trans N;have b3:=HI.o d k9.o j5.o w5 F Vx B b6 b5 a b _ (N.blk g5.o oM) (f2.o.agree λb I=>N.block b (by have:=a1.o b I;omega) (HF.o b I).2) (λi hi=>⟨by have:=a1.o i hi;omega,(HF.o i hi).2⟩) oM g3 (by have:=c1.o;exact this) (i0.o.sb c4 λc hc e=>by have e:c=B:=e;omega) h6;obtain⟨e6,k1⟩:=Yb b3 N;clear g3 N c4 b3 p0;gi_wp2_with fail;refine⟨trivial,?_⟩;refine(QaA e6.o).mono ?_;rintro e w6 ⟨⟨r6,rfl⟩,a4,a2⟩;have Z:=k1.o.trans a2;have g9:=hY (show OI w B a b n ok ov (pre++[⟨tx,d,Vx,b6,b5⟩]) w6/\Agree (λb=>(F b\/b=w1.heap.size\/b<6)\/b=w2.heap.size\/b=w2.heap.size+1) W3 w6/\W3.heap.size<=w6.heap.size from
   ⟨⟨by rw [aj,show [(⟨tx,d,Vx,b6,b5⟩:ME)].length=1 from rfl,e7.o];exact a4,a8.o.sb.trans Z,Z.blk a8.o.box oM⟩,
     λb I=>Z.block b (by
      rcases I with(I|rfl|I)|rfl|rfl
      .have:=a1.o b I;omega
      all_goals omega) (λe=>by
      have e:b=B:=e;rcases I with(I|rfl|I)|rfl|rfl
      .exact (HF.o b I).2 e
      all_goals omega),Z.size⟩)
  clear a4 a2 Z;gi_wp2_with fail;exact g9.o
 rintro D xs W hD hS hI b4;have f7:xs.length=ok.length:=hS;have b0:=hI.blk;rw[f7,<-f9.o,aU]at b0;have p0:W.cell? ⟨w,0,none⟩=some (.pointer (some ⟨B,0,none⟩)):=hI.box.cell 0;have lp:=hI.box.lt;have i2:=Qcq (w:=W) ⟨#[125]⟩ b0 (by have:=HN.o;show _+1<=_;omega);obtain⟨k2,j1,k6,e4⟩:=Ye i2 hI b4 hD;have lD:=(az.1 b4).1;clear i2 hI b4 hD hS f7 b0;gi_wp2_with fail;refine⟨trivial,?_⟩;refine(ez.2 k2.o).mono ?_;rintro e w6 ⟨⟨r6,rfl⟩,a4,a2⟩;have e1:w6.heap[D]? = some (.deferred (some [])):=(a2.block D lD (λe=>by have e:D=B:=e;have:=e4.o;omega)).trans k6.o;have d6:=(St.put (o':=.deferred none) e1 rfl rfl).sb;have c9:=d6.blk a4 (by have:=e4.o;omega);have g7:Sb (λc=>c=B) w _:=(j1.o.sb.trans a2).comp d6 (λi hi e=>by have e:i=D:=e;have:=e4.o;omega);obtain⟨j7,g8,k8⟩:=Yc e1 c9 g7;clear a4 a2 e1 d6 c9 g7;gi_wp2_with fail;refine⟨sM,.inl ⟨_,_,rfl,fh j7.o,?_⟩⟩;refine⟨.tuple #[],?_,⟨_,rfl⟩,by rw[show n+(2+Qfl ok ov+(ov.length-1))=n+1+(Qfl ok ov+(ov.length-1))+1 by omega];exact g8.o,k8.o⟩;simp[results,results253,go_sem]
theorem QuZ(m:Nat):Qvg (λd=>SizeOf.sizeOf d<=m):=by
 induction m with
 |zero=>intro d hd;have:=Val.Qb6 d;omega
 |succ m ih=>
 intro d hd hc w F V B sl so a b n hV h hF a1 hB I hL h6;have a0:=h;obtain⟨k,bo,i,t,l,ok,ov⟩:=d;cases h with
 |mk bl fl bo' fo cl co hl ho hov el rl ek eo ro bk bi bt nl no=>
 unfold QcI at hc;unfold QgI at I;unfold Qsv QgI;show Calls _ (fnO k) (_++bsO k V) _ _;by_cases h2:k=2
 ·subst h2
  rw[eu rfl]at I;exact(QrY hV hB oM).mono λe w' h=>by rw[eu rfl];exact h
 by_cases Z:k=3
 ·subst Z
  simp only[if_neg h2,if_pos]at I ⊢;exact QrZ hV hB (by simp[Lit.wf,IntKind.min,IntKind.max,IntKind.signed,IntKind.bits]at bi;omega) (by simp[Lit.wf,IntKind.min,IntKind.max,IntKind.signed,IntKind.bits]at bi;omega) oM hL
 by_cases h4:k=4
 ·subst h4
  simp only[if_neg h2,if_neg Z,if_pos]at I ⊢;exact Qr0 hV hB oM oM hL
 by_cases h5:k=5
 ·subst h5
  simp only[if_neg h2,if_neg Z,if_neg h4,if_pos]at I ⊢;exact Qr1 ih (λj d hj=>bq (ab (Val.QtM hj) hd)) oM hV a0 hF a1 hB I hL h6
 by_cases N:k=6
 ·subst N
  simp only[if_neg h2,if_neg Z,if_neg h4,if_neg h5,if_pos]at I ⊢;exact Qr2 ih (λj d hj=>bq (ab (Val.QtN hj) hd)) oM hV a0 hF a1 hB I hL h6
 simp only[if_neg h2,if_neg Z,if_neg h4,if_neg h5,if_neg N]at I ⊢;have hf:fnO k=255:=by simp[fnO,h2,Z,h4,h5,N]
 have hb:bsO k V=#[]:=by simp[bsO,h2,Z,h4,h5,N]
 rw[hf,hb];exact Qr3 hB oM
end Go.Proofs.YtdiecmkpbadgjaaGreatDoor
namespace Go.Proofs.YtdiecmkpbadgjaaGreatDoor
open Go.Proofs.Tryz
open Go.RowKit Go.Maps Go.Shelf
variable{w:World}{sl so:Sl}
theorem QoK{d:Val}(h:RV w (Lt w) d sl so)(hc:QcI d<=1100000)(hL:Qb4 w):Calls prog 209 #[QbV d sl so] w λe w'=>e=.returned (.int .i64 (QgI d:Int))/\Nw w w':=by
 have a2:=QiE _ w d sl so h;have h6:=hL.lib.big;obtain⟨HH,HC,HL,a7⟩:=Ye h hc hL a2;clear h hc hL a2;go_in;go_wp2_with fail;generalize a6:World.alloc _ _=W0;obtain⟨a4,b4,b3,a3⟩:=Qas w _ _ _ _ W0 a6;obtain⟨b5,b0⟩:=Yb a4 a3;clear a6 a4 b3 a3;refine(Qlm W0 d sl so).mono ?_;rintro e w1 ⟨rfl,a1,a0⟩;rw[b4]at a0;have a5:=b0.o.ext a1;have I:=(fJ b5.o).trans (fJ a1);have N:=QuZ _ d (ao _) HC.o w1 (Lt w) (w.heap.size+2) (w.heap.size+1) sl so _ _ 0 a0 (HH.o.agree (fN I λb hb=>hb)) (λi hi=>⟨Nat.lt_of_lt_of_le hi I.size,by have hi:i<w:=hi;omega⟩) oM a5 (by have:=a7.o;have:=HC.o;omega) (HL.o.nw I) oM;obtain⟨Z,a8⟩:=Yb N I;have b6:=Qfd d.kind;clear a1 a0 a5 I N;go_wp2_with fail;refine Z.o.mono ?_;rintro e w2 ⟨⟨r,rfl⟩,hb,hs⟩;have c3:w2.cell? ⟨w+1,3,none⟩=some (.int .i64 ((0+QgI d:Nat):Int)):=hb.cell 3;rw[aD]at c3;have a9:=hY (a8.o.comp hs λi hi e=>by have e:i=w.heap.size+1:=e;omega);clear hb hs;go_wp2_with fail;go_ret;exact⟨rfl,a9.o⟩
def QcP(d:Val):Int:=if Qda d 1≠0 then Qda d 1 else if 16<Qdv d then 5 else if 1024<QgI d then 6 else 0
theorem Qio{d:Val}(h:RV w (Lt w) d sl so)(hc:QcI d<=1100000)(hL:Qb4 w):Calls prog 193 #[QbV d sl so] w λe w'=>e=.returned (.int .i64 (QcP d))/\Nw w w':=by
 have a0:∀W,Nw w W->RV W (Lt W) d sl so:=λW N=>(h.agree (fN N λb hb=>hb)).mono λb hb=>ab hb N.size
 have hm:=λW (N:Nw w W)=>QrM (a0 W N) (hL.lib.nw N)
 have hd:=λW (N:Nw w W) (hq:Qdv d<=1000000)=>Qm7 _ d (ao _) hq W sl so (a0 W N)
 have hb:=λW (N:Nw w W)=>QoK (a0 W N) hc (hL.nw N)
 obtain⟨HM,HD,HB⟩:=Yc hm hd hb;obtain⟨r,hr⟩:∃r,QcP d=r:=⟨_,rfl⟩;rw[hr];have HR:=hY hr;clear hm hd hb hr a0 h hL;go_in;go_wp2_with fail;have a7:=(fI w).alloc (QtS d sl so) 34;have b4:=fK w 34 (QtS d sl so);refine(HM.o _ (fJ a7)).mono ?_;rintro e w1 ⟨rfl,a5⟩;have Z:=a5.blk b4;obtain⟨q0,q1,q2,q3,q4,q5⟩:=Z.c6;have lq:=Z.lt;obtain⟨a6,c0⟩:=Yb ((fJ a7).trans a5) Z;clear a7 b4 a5 Z;obtain⟨m,hm⟩:∃m,Qda d 1=m:=⟨_,rfl⟩;rw[hm];by_cases a1:m=0
 ·subst a1
  have b5:=Qij d 1 hm;obtain⟨c1,a9⟩:=Yb b5 hm;clear hm b5;go_wp2_with fail;refine(HD.o _ a6.o (by have:=c1.o;omega)).mono ?_;rintro e w2 ⟨rfl,a4⟩;have a8:=c0.o.ext a4;clear q0 q1 q2 q3 q4 q5;obtain⟨q0,q1,q2,q3,q4,q5⟩:=a8.c6;have c3:=a8.lt;have a3:=hY (a6.o.trans (fJ a4));clear a4 a8;by_cases I:16<Qdv d
  ·have g0:decide ((16:Int)<(Qdv d:Int))=true:=em oM
   have b0:r=5:=by rw[<-HR.o,QcP,a9.o,eh sM,eu I]
   have b9:=hY b0;clear b0 I;go_wp2_with fail;go_ret;exact⟨by rw[b9.o];rfl,a3.o⟩
  have g0:decide ((16:Int)<(Qdv d:Int))=false:=ej oM;have a2:=hY I;clear I;go_wp2_with fail;refine(HB.o _ a3.o).mono ?_;rintro e w3 ⟨rfl,b6⟩;have b3:=hY (a3.o.trans b6);clear b6 q0 q1 q2 q3 q4 q5;by_cases hl:1024<QgI d
  ·have g1:decide ((1024:Int)<(QgI d:Int))=true:=em oM
   have b7:=hY (show r=6 by rw[<-HR.o,QcP,a9.o,eh sM,eh a2.o,eu hl]);clear hl;go_wp2_with fail;go_ret;exact⟨by rw[b7.o];rfl,b3.o⟩
  have g1:decide ((1024:Int)<(QgI d:Int))=false:=ej oM;have b8:=hY (show r=0 by rw[<-HR.o,QcP,a9.o,eh sM,eh a2.o,eh hl]);clear hl;go_wp2_with fail;go_ret;exact⟨by rw[b8.o];rfl,b3.o⟩
 have g0:(m != 0)=true:=by simpa using a1
 have c2:=hY (show r=m by rw[<-HR.o,QcP,hm,eu a1]);clear hm a1;go_wp2_with fail;go_ret;exact⟨by rw[c2.o];rfl,a6.o⟩
mutual
def wfV:Val->Prop
 |.mk _ _ _ _ l ok ov=>ok.length=ov.length/\QkR l/\QkR ov
def QkR:List Val->Prop
 |[]=>True
 |d::r=>wfV d/\QkR r
end
theorem QlJ:∀{l:List Val},(∀(j:Nat) d,l[j]? = some d->wfV d)->QkR l
 |[],_=>by unfold QkR;trivial
 | a :: l,h=>by
   unfold QkR;exact⟨h 0 a rfl,QlJ λj d I=>h (j+1) d (by simpa using I)⟩
variable{F:Nat->Prop}
theorem RV.wf{d:Val}(h:RV w F d sl so):wfV d:=by
 induction h with
 | mk bl fl bo fo cl co hl ho hov el rl ek eo ro bk bi bt nl no ihl iho=>
   unfold wfV;exact⟨hov.symm,QlJ ihl,QlJ iho⟩
theorem Qti{x y:Int}(h:(if x≠0 then x else y)=0):x=0/\y=0:=by
 by_cases I:x=0
 .exact ⟨I,by rw[eh (by simp[I])]at h;exact h⟩
 rw[eu I]at h;exact absurd h I
theorem Qq9(n:Nat):∀(a b:Val) (p q:Nat),SizeOf.sizeOf a<=n->wfV a->wfV b->Qda a p=0->Qda b q=0->Qbq a b=0->a=b:=by
 induction n with
 |zero=>intro a b p q h;have:=Val.Qb6 a;omega
 | succ n ih=>
   intro a b p q hn wa wb N Z I;have hl:∀(l1 l2:List Val) (p q:Nat),SizeOf.sizeOf l1<=n->QkR l1->QkR l2->Qd8 l1 p=0->Qd8 l2 q=0->cmpL l1 l2=0->l1=l2:=by
    intro l1
    induction l1 with
    | nil=>
      intro l2 p q _ _ _ _ _ I;cases l2 with
      |nil=>rfl
      |cons b r=>simp[cmpL]at I
    | cons a l1 ihl=>
      intro l2 p q hs wa wb N Z I;cases l2 with
      |nil=>simp[cmpL]at I
      | cons b l2=>
        simp only[List.cons.sizeOf_spec]at hs;unfold QkR at wa wb;unfold Qd8 at N Z;unfold cmpL at I;obtain⟨b0,I⟩:=Qti I;obtain⟨a1,N⟩:=Qti N;obtain⟨a8,Z⟩:=Qti Z;rw[ih a b p q oM wa.1 wb.1 a1 a8 b0,ihl l2 p q oM wa.2 wb.2 N Z I]
   have ho:∀(v1 v2:List Val) (k1 k2:List ByteArray) (p1 p2:Option ByteArray) (q1 q2:Nat),SizeOf.sizeOf v1<=n->QkR v1->QkR v2->k1.length=v1.length->k2.length=v2.length->QhA p1 k1 v1 q1=0->QhA p2 k2 v2 q2=0->Qe5 v1 k1 k2 v2=0->k1=k2/\v1=v2:=by
    intro v1
    induction v1 with
    | nil=>
      intro v2 k1 k2 p1 p2 q1 q2 _ _ _ h1 h2 _ _ I;cases v2 with
      | nil=>
        simp only[List.length_nil,List.length_eq_zero_iff]at h1 h2;exact⟨by rw[h1,h2],rfl⟩
      |cons b r=>simp[Qe5]at I
    | cons a v1 ihl=>
      intro v2 k1 k2 p1 p2 q1 q2 hs wa wb h1 h2 N Z I;cases v2 with
      |nil=>simp[Qe5]at I
      | cons b v2=>
        cases k1 with
        |nil=>simp at h1
        | cons x k1=>
          cases k2 with
          |nil=>simp at h2
          | cons y k2=>
            simp only[List.cons.sizeOf_spec]at hs;unfold QkR at wa wb;unfold QhA at N Z;unfold Qe5 at I;have I:(if Qbn x y≠0 then Qbn x y else if Qbq a b≠0 then Qbq a b else Qe5 v1 k1 k2 v2)=0:=I;have N:(if !Lib.validD x.data.toList then 3 else if p1.any (λq=>!klt q x)then 8 else if Qda a q1≠0 then Qda a q1 else QhA (some x) k1 v1 q1)=0:=N;have Z:(if !Lib.validD y.data.toList then 3 else if p2.any (λq=>!klt q y)then 8 else if Qda b q2≠0 then Qda b q2 else QhA (some y) k2 v2 q2)=0:=Z;obtain⟨b4,I⟩:=Qti I;obtain⟨b0,I⟩:=Qti I;have a1:Qda a q1=0/\QhA (some x) k1 v1 q1=0:=by
             split at N
             .cases N
             split at N
             .cases N
             exact Qti N
            have a8:Qda b q2=0/\QhA (some y) k2 v2 q2=0:=by
             split at Z
             .cases Z
             split at Z
             .cases Z
             exact Qti Z
            obtain⟨e1,e2⟩:=ihl v2 k1 k2 (some x) (some y) q1 q2 oM wa.2 wb.2 (by simpa using h1) (by simpa using h2) a1.2 a8.2 I;rw[QhQ.1 b4,e1,ih a b q1 q2 oM wa.1 wb.1 a1.1 a8.1 b0,e2];exact⟨rfl,rfl⟩
   obtain⟨k,b1,i,t,l,ok,ov⟩:=a;obtain⟨k',b2,i',t',l',a0,a7⟩:=b;simp only[Val.mk.sizeOf_spec]at hn;unfold wfV at wa wb;unfold Qda at N Z;have I:(if k≠k' then Qcj k k' else if k=2 then Qjg b1 b2 else if k=3 then Qcj i i' else if k=4 then Qbn t t' else if k=5 then cmpL l l' else if k=6 then Qe5 ov ok a0 a7 else 0)=0:=by
    have h2:=I;unfold Qbq at h2;exact h2
   have hk:k=k':=by
    by_cases h:k=k'
    .exact h
    rw[eu h,Qj8]at I;exact absurd I h
   subst hk;have ha:Qb0 k b1 i t l.length ok.length=false:=by
    cases h:Qb0 k b1 i t l.length ok.length with
    |false=>rfl
    |true=>rw[h,eu rfl]at N;cases N
   have hb:Qb0 k b2 i' t' l'.length a0.length=false:=by
    cases h:Qb0 k b2 i' t' l'.length a0.length with
    |false=>rfl
    |true=>rw[h,eu rfl]at Z;cases Z
   rw[ha]at N;rw[hb]at Z;have a9:∀{t:ByteArray},t.size=0->t=ByteArray.empty:=λh=>ByteArray.ext (Array.eq_empty_of_size_eq_zero h)
   have b3:∀{ok:List ByteArray} {ov:List Val},ok.length=ov.length->ok.length=0->ok=[]/\ov=[]:=λh1 h2=>⟨List.eq_nil_of_length_eq_zero h2,ar (h1▸h2)⟩
   unfold Qb0 at ha hb;by_cases hr:k<1\/6<k
   .rw [eu hr]at ha;cases ha
   rw[eh hr]at ha hb;simp only[Bool.or_eq_false_iff,Bool.and_eq_false_iff,bne_eq_false_iff_eq]at ha hb;rw[eh sM]at I;obtain⟨⟨⟨⟨a2,a3⟩,a4⟩,a5⟩,a6⟩:=ha;obtain⟨⟨⟨⟨c2,c3⟩,c4⟩,c5⟩,c6⟩:=hb;have eb:b1=b2:=by
    by_cases h:k=2
    .subst h;rw[eu rfl,QmX]at I;exact I
    rw[a2.resolve_left h,c2.resolve_left h]
   have ei:i=i':=by
    by_cases h:k=3
    .subst h;rw[eh oN,eu rfl,Qj8]at I;exact I
    rw[a3.resolve_left h,c3.resolve_left h]
   have et:t=t':=by
    by_cases h:k=4
    .subst h;rw[eh oN,eh oN,eu rfl,QhQ]at I;exact I
    rw[a9 (a4.resolve_left h),a9 (c4.resolve_left h)]
   have el:l=l':=by
    by_cases h:k=5
    ·subst h
     rw[eh oN,eh oN,eh oN,eu rfl]at I;have m1:Qd8 l (p+1)=0:=by
      simp only[Bool.false_eq_true,if_false]at N;split at N
      .cases N
      simpa using N
     have m2:Qd8 l' (q+1)=0:=by
      simp only[Bool.false_eq_true,if_false]at Z;split at Z
      .cases Z
      simpa using Z
     exact hl l l' _ _ oM wa.2.1 wb.2.1 m1 m2 I
    rw[ar (a5.resolve_left h),ar (c5.resolve_left h)]
   have eo:ok=a0/\ov=a7:=by
    by_cases h:k=6
    ·subst h
     rw[eh oN,eh oN,eh oN,eh oN,eu rfl]at I;have m1:QhA none ok ov (p+1)=0:=by
      simp only[Bool.false_eq_true,if_false]at N;split at N
      .cases N
      simpa using N
     have m2:QhA none a0 a7 (q+1)=0:=by
      simp only[Bool.false_eq_true,if_false]at Z;split at Z
      .cases Z
      simpa using Z
     exact ho ov a7 ok a0 _ _ _ _ oM wa.2.2 wb.2.2 wa.1 wb.1 m1 m2 I
    obtain⟨e1,e2⟩:=b3 wa.1 (a6.resolve_left h);obtain⟨e3,e4⟩:=b3 wb.1 (c6.resolve_left h);rw[e1,e2,e3,e4];exact⟨rfl,rfl⟩
   rw[eb,ei,et,el,eo.1,eo.2]
def okV(v:Val):Prop:=wfV v/\QcP v=0
theorem okV.may{v:Val}(h:okV v):Qda v 1=0:=by
 have h1:=h.2;unfold QcP at h1;by_cases h2:Qda v 1=0
 .exact h2
 rw[eu h2]at h1;exact h1
theorem okV.eq{a b:Val}(N:okV a)(I:okV b)(h:Qbq a b=0):a=b:=Qq9 _ a b 1 1 (ao _) N.1 I.1 N.may I.may h
structure OkM(M:List Ent):Prop where
 sorted:Sorted M
 ok:∀e∈M,Qci e.1=0/\okV e.2
theorem OkM.nil:OkM []:=⟨List.Pairwise.nil,λe h=>by cases h⟩
variable{M:List Ent}
theorem OkM.get(h:OkM M){k:ByteArray}{v:Val}(I:Qaq M k=some v):Qci k=0/\okV v:=h.ok (k,v) (QdW I)
theorem OkM.put(h:OkM M){k:ByteArray}{v:Val}(N:Qci k=0)(I:okV v):OkM (QbY M k v):=
 ⟨Qa1 h.sorted k v,λe he=>(QiF he).elim (λZ=>Z▸⟨N,I⟩) (h.ok e)⟩
theorem OkM.del(h:OkM M)(k:ByteArray):OkM (QbM M k):=⟨QaN h.sorted k,λe I=>h.ok e ((Qa3 M k).subset I)⟩
theorem Qe0:∀{a b:List Ent},Sorted a->Sorted b->(∀k,Qaq a k=Qaq b k)->a=b
 |[],[],_,_,_=>rfl
 |[],f::b,_,_,h=>by have:=h f.1;simp[Qaq]at this
 |e::a,[],_,_,h=>by have:=h e.1;simp[Qaq]at this
 | e :: a,f :: b,ha,hb,h=>by
   obtain⟨a1,a2⟩:=bf.1 ha;obtain⟨b1,b2⟩:=bf.1 hb;have I:∀{x:Ent} {l:List Ent} {k:ByteArray},(∀y∈l,klt x.1 y.1=true)->klt k x.1=true->Qaq (x::l) k=none:=λ{x l k} h1 h2=>by
    have:∀y∈x::l,y.1≠k:=λy hy e=>by
     rcases aH.1 hy with rfl|hy
     .rw [e,Qag]at h2;cases h2
     have:=QaH h2 (h1 y hy);rw[e,Qag]at this;cases this
    cases Z:Qaq (x::l) k with
    |none=>rfl
    |some v=>exact absurd rfl (this _ (QdW Z))
   have hk:e.1=f.1:=by
    refine QbE ?_ ?_
    ·cases hc:klt e.1 f.1 with
     |false=>rfl
     | true=>
       have h1:=h e.1;rw[Qaq,eu rfl,I b1 hc]at h1;cases h1
    cases hc:klt f.1 e.1 with
    |false=>rfl
    | true=>
      have h1:=h f.1;rw[I a1 hc,Qaq,eu rfl]at h1;cases h1
   have N:=h e.1;rw[Qaq,eu rfl,Qaq,eu hk.symm]at N;injection N with N;have he:e=f:=Prod.ext hk N;subst he;rw[Qe0 a2 b2 λk=>?_];by_cases hx:e.1=k
   ·have n1:∀ {l:List Ent},(∀ y∈l,klt e.1 y.1=true)→Qaq l k=none:=fun {l} h1=>by
     cases Z:Qaq l k with
     |none=>rfl
     |some v=>have:=h1 _ (QdW Z);rw[hx]at this;rw[show((k,v):Ent).1=k from rfl,Qag]at this;cases this
    rw[n1 a1,n1 b1]
   have:=h k;rwa[Qaq,eh hx,Qaq,eh hx]at this
structure QiZ(B:List Ent)(C:Slots)(M:List Ent):Prop where
 below:OkM B
 ok:OkM M
 chg:Qay C
 now:∀k,QkO B C k=Qaq M k
theorem QiZ.com{B:List Ent}{C:Slots}(h:QiZ B C M):Qfw B C B=M:=by
 have hs:=Qcn B C B h.below.sorted;have ho:∀e∈Qfw B C B,okV e.2:=by
  have:∀(C':Slots) (t:List Ent),(∀p∈C',p∈C)->(∀e∈t,okV e.2)->∀e∈Qfw B C' t,okV e.2:=by
   intro C'
   induction C' with
   |nil=>intro t _ N;rw[Qfw];exact N
   | cons p r ih=>
     intro t hp N;obtain⟨k,s⟩:=p;have hr:=λq hq=>hp q (aR _ hq)
     cases s with
     | some v=>
       rw[Qfw];split
       .exact ih t hr N
       refine ih _ hr λe I=>?_
       rcases QiF I with rfl|I
       ·have h1:=h.now k
        rw[QkO,Qir h.chg (hp _ (aF ..))]at h1;exact(h.ok.get h1.symm).2
       exact N e I
     | none=>
       rw[Qfw];split
       .exact ih _ hr λe I=>N e ((Qa3 t k).subset I)
       exact ih t hr N
  exact this C B (λp hp=>hp) λe I=>(h.below.ok e I).2
 refine Qe0 hs h.ok.sorted λk=>?_
 have h1:=QeB B (k:=k) C B h.chg h.below.sorted rfl;rw[h.now k]at h1;cases ha:Qaq (Qfw B C B) k with
 | none=>
   cases Z:Qaq M k with
   |none=>rfl
   |some b=>rw[ha,Z]at h1;cases h1
 | some a=>
   cases Z:Qaq M k with
   |none=>rw[ha,Z]at h1;cases h1
   | some b=>
     rw[ha,Z]at h1;simp only[Qu3,decide_eq_true_eq]at h1;exact congrArg some ((ho _ (QdW ha)).eq (h.ok.get Z).2 h1)
theorem QiZ.start{B:List Ent}(h:OkM B):QiZ B [] B:=⟨h,h,List.Pairwise.nil,λk=>rfl⟩
theorem QiZ.put{B:List Ent}{C C':Slots}(h:QiZ B C M){k:ByteArray}{v:Val}(N:Qci k=0)(Z:okV v)(hs:Qay C')(hC:∀x,QaZ C' x=if x=k then some (some v)else QaZ C x):QiZ B C' (QbY M k v):=
 ⟨h.below,h.ok.put N Z,hs,λx=>by
   unfold QkO;rw[hC,QeK];by_cases I:x=k
   .rw [eu I,eu I]
   rw[eh I,eh I];exact h.now x⟩
theorem QiZ.del{B:List Ent}{C C':Slots}(h:QiZ B C M){k:ByteArray}(hs:Qay C')(N:∀x,QaZ C' x=if x=k then some none else QaZ C x):QiZ B C' (QbM M k):=
 ⟨h.below,h.ok.del k,hs,λx=>by
   unfold QkO;rw[N,Qcx _ _ _ h.ok.sorted];by_cases I:x=k
   .rw [eu I,eu I]
   rw[eh I,eh I];exact h.now x⟩
def inI(lo hi:ByteArray)(op:Bool)(e:Ent):Bool:=!(klt e.1 lo)&&(op||klt e.1 hi)
def QaM(lo hi:ByteArray)(op:Bool)(es:List Ent):List Ent:=es.filter (inI lo hi op)
theorem QaT(lo hi:ByteArray)(op:Bool)(a b:List Ent):QaM lo hi op (a++b)=QaM lo hi op a++QaM lo hi op b:=cm ..
variable{lo hi:ByteArray}{op:Bool}
theorem QfF{es:List Ent}(h:∀e∈es,klt e.1 lo=true):QaM lo hi op es=[]:=
 List.filter_eq_nil_iff.2 λe I=>by simp[inI,h e I]
def Qjw(hi:ByteArray)(op:Bool)(k:ByteArray):Bool:=!op && !(klt k hi)
theorem QdH{es:List Ent}(h:∀e∈es,Qjw hi op e.1=true):QaM lo hi op es=[]:=
 List.filter_eq_nil_iff.2 λe I=>by
  have:=h e I;simp only[Qjw,Bool.and_eq_true,Bool.not_eq_true']at this;simp[inI,this.1,this.2]
theorem Qo9{a b:ByteArray}(h:Qjw hi op a=true)(I:klt a b=true):Qjw hi op b=true:=by
 simp only[Qjw,Bool.and_eq_true,Bool.not_eq_true']at h ⊢;refine⟨h.1,?_⟩;cases N:klt b hi
 .rfl
 rw[QaH I N]at h;cases h.2
variable{e:Ent}
theorem QhG(h1:klt e.1 lo=false)(h2:Qjw hi op e.1=false):QaM lo hi op [e]=[e]:=by
 have:inI lo hi op e=true:=by
  simp only[Qjw,Bool.and_eq_false_iff,Bool.not_eq_false']at h2;rcases h2 with h2|h2<;>simp[inI,h1,h2]
 simp[QaM,this]
theorem QeX{A B:List Ent}(hs:Sorted (A++B))(h:∃e∈A,Qjw hi op e.1=true):QaM lo hi op B=[]:=by
 obtain⟨e,N,h⟩:=h;exact QdH λx I=>Qo9 h ((Qck hs).2.2 e N x I)
theorem le_last{es:List Ent}(hs:Sorted es)(N:e∈es):klt (Qbl es) e.1=false:=by
 have I:es≠[]:=by rintro rfl;cases N
 rcases List.eq_nil_or_concat es with rfl |⟨a,x,rfl⟩
 .exact absurd rfl I
 rw[List.concat_eq_append]at hs N;have Z:Qbl (a.concat x)=x.1:=by simp[Qbl]
 rw[Z];rcases aS.1 N with h|h
 .exact Qbh ((Qck hs).2.2 e h x (aX.2 rfl))
 rw[aX.1 h];exact Qag _
theorem Qrj{es:List Ent}(hs:Sorted es)(I:e∈es):klt e.1 (Qav es)=false:=by
 cases es with
 |nil=>cases I
 | cons x es=>
   show klt e.1 x.1=false;rcases aH.1 I with rfl|h
   .exact Qag _
   exact Qbh ((bf.1 hs).1 e h)
theorem Qnt{es:List Ent}(hs:Sorted es)(h:klt (Qbl es) lo=true):∀e∈es,klt e.1 lo=true:=λe I=>Qdx (le_last hs I) h
theorem Qfx{es:List Ent}(hs:Sorted es)(h:Qjw hi op (Qav es)=true):∀e∈es,Qjw hi op e.1=true:=λe N=>by
 simp only[Qjw,Bool.and_eq_true,Bool.not_eq_true']at h ⊢;refine⟨h.1,?_⟩;cases I:klt e.1 hi
 .rfl
 have:=Qdx (Qrj hs N) I;rw[h.2]at this;cases this
def Qk3:List UInt8->Option (List UInt8)
 |[]=>none
 | b :: t=>match Qk3 t with
   |some e=>some (b::e)
   |none=>if b=255 then none else some [b+1]
theorem Qsw(k:List UInt8):Op.bytesLess k []=false:=by cases k<;>rfl
theorem QhV{b c:UInt8}(I:b≠255):(c<b+1)↔(c<b\/c=b):=by
 have h1:(b+1).toNat=b.toNat+1:=by
  rw[UInt8.toNat_add];have:b.toNat≠255:=λe=>I (UInt8.toNat_inj.1 e)
  have:=b.toNat_lt;show(b.toNat+1)%256=_;omega
 rw[UInt8.lt_iff_toNat_lt,UInt8.lt_iff_toNat_lt,h1,<-UInt8.toNat_inj];omega
theorem Qhm:∀p k:List UInt8,(p.isPrefixOf k)=(!(Op.bytesLess k p)&&(match Qk3 p with|none=>true|some e=>Op.bytesLess k e))
 |[],k=>by simp[Qsw,Qk3,List.isPrefixOf]
 |b::t,[]=>by simp[Op.bytesLess,List.isPrefixOf]
 | b :: t,c :: s=>by
   have ih:=Qhm t s;simp only[List.isPrefixOf,Op.bytesLess,Qk3];by_cases N:c<b
   ·have a0:(b == c)=false:=ev.2 (by rintro rfl;exact absurd N (UInt8.lt_irrefl _))
    simp[N,a0]
   by_cases he:c=b
   ·subst he
    cases hE:Qk3 t with
    | some e=>
      rw[hE]at ih;simp[Op.bytesLess,ih,UInt8.lt_irrefl]
    | none=>
      rw[hE]at ih;by_cases I:c=255
      .subst I;simp[ih,UInt8.lt_irrefl]
      have h1:c<c+1:=(QhV I).2 (.inr rfl);simp[Op.bytesLess,ih,UInt8.lt_irrefl,I,h1]
   have a0:(b==c)=false:=ev.2 λe=>he e.symm
   have Z:(c==b)=false:=ev.2 he;simp only[a0,Bool.false_and,N,decide_false,Z,Bool.or_self,Bool.not_false,Bool.true_and];cases hE:Qk3 t with
   |some e=>simp[Op.bytesLess,N,Z]
   | none=>
     by_cases I:b=255
     ·exfalso
      subst I;have h1:=UInt8.not_lt.1 N;have h2:c<=255:=UInt8.le_iff_toNat_le.2 (by have:=c.toNat_lt;show c.toNat<=255;omega);exact he (UInt8.le_antisymm h2 h1)
     have h1:¬c<b+1:=λh=>by
      rcases(QhV I).1 h with h|h
      .exact N h
      exact he h
     simp[I,Op.bytesLess,h1,Qsw]
theorem Qk4:∀n:Nat,Qk3 (List.replicate n 255)=none
 |0=>rfl
 |n+1=>by rw[dN,Qk3,Qk4 n];rfl
theorem Qpa{b:UInt8}(I:b≠255)(n:Nat):∀a:List UInt8,Qk3 (a++b::List.replicate n 255)=some (a++[b+1])
 |[]=>by rw[aG,Qk3,Qk4];simp[I]
 |x::a=>by rw[aI,Qk3,Qpa I n a];rfl
abbrev inV(lo hi:ByteArray)(op:Bool):Value:=.agg #[.string lo,.string hi,.bool op]
theorem Qim(w:World)(lo hi:ByteArray)(op:Bool)(k:ByteArray):Calls prog 266 #[inV lo hi op,.string k] w λe w'=>e=.returned (.bool (Qjw hi op k))/\Ext w w':=by
 cases op
 ·go_in
  go_wp2_with fail;go_ret;exact⟨rfl,(fI w).alloc _ _⟩
 go_in;go_wp2_with fail;go_ret;exact⟨rfl,(fI w).alloc _ _⟩
structure Qor(At:World->Prop)(nv:Value)(es:List Ent):Prop where
 ext:∀{W W'},At W->Ext W W'->At W'
 ptr:∃p,nv=.pointer p
 height:∀W,At W->Calls prog 66 #[nv] W λe w'=>e=.returned (.int .i64 0)/\W=w'
 size:∀W,At W->Calls prog 70 #[nv] W λe w'=>e=.returned (.int .i64 es.length)/\∃q,w'=W.drewN q
 kids:∀W,At W->Calls prog 67 #[nv] W λe w'=>e=.returned (.slice none 0 0)/\W=w'
 entry:∀W,At W->∀(i:Nat) (e:Ent),es[i]? = some e->Calls prog 72 #[nv,.int .i64 i] W (Qdq e.1 e.2 W)
 none:∀W,At W->∀i:Int,(i<0\/es.length<=i)->Calls prog 72 #[nv,.int .i64 i] W λe w'=>e=.returned (.tuple #[Qfu ByteArray.empty zeroV Sl.none Sl.none,.bool false])/\Ext W w'
 sorted:Sorted es
 few:es.length<=8
def Qdm(F:Nat->Prop)(h:Nat)(t:PT h)(W:World):Prop:=IsN W F h t/\∀b,F b->b<W.heap.size
variable{h:Nat}{W W':World}
theorem Qdm.ext{t:PT h}(a:Qdm F h t W)(k:Ext W W'):Qdm F h t W':=⟨a.1.agree (k.agree a.2),λb I=>ab (a.2 b I) k.size⟩
theorem Qdm.lt{t:PT h}(a:Qdm F h t W):IsN W (Lt W) h t:=a.1.mono a.2
theorem Qnp{t:PT 0}(ok:OkT 0 t)(hs:Sorted (ents 0 t)):Qor (Qdm F 0 t) (ptr 0 t) (ents 0 t) where
 ext:=Qdm.ext
 ptr:=⟨_,rfl⟩
 height W a:=QaC a.1
 size W a:=Qf8 a.1 (an (show(ents 0 t).length<=8 from ok) oN)
 kids W a:=QjP a.1
 entry W a i e h:=Qjx a.lt h
 none W a i h:=Qhs a.lt h
 sorted:=hs
 few:=ok
theorem QpE:Qor (λ_=>True) (.pointer none) [] where
 ext _ _:=trivial
 ptr:=⟨_,rfl⟩
 height W _:=QdV W
 size W _:=(QmD W).mono λe w' ⟨h1,h2⟩=>⟨h1,0,h2.symm⟩
 kids W _:=Qmd W
 entry W _ i e h:=by simp at h
 none W _ i _:=Qjy W i
 sorted:=List.Pairwise.nil
 few:=sM
variable{nv:Value}{b1 b2:Nat}
theorem QmW{k k':ByteArray}{v:Val}{i:Nat}(h1:W.cell? ⟨b1,0,none⟩=some nv)(h2:W.cell? ⟨b2,0,none⟩=some (.string k))
  (hp:∃p,nv=.pointer p) (Z:Calls prog 72 #[nv,.int .i64 i] W (Qdq k' v W)) :
  Calls prog 287 #[.int .i64 i,.pointer (some ⟨b1,0,none⟩),.pointer (some ⟨b2,0,none⟩)] W λe w'=>e=.returned (.bool !(klt k' k))/\Ext W w':=by
 obtain⟨p,rfl⟩:=hp;have I:=eH W _ h2;go_in;go_wp2_with fail;refine Z.mono ?_;rintro e w1 ⟨sl,so,rfl,N,-⟩;have q2:=(N.cell I).trans h2;have l2:b2<w1:=ab I N.size;have HX:=hY N;clear Z N h2;go_wp2;go_ret;exact⟨rfl,HX.o.alloc _ _⟩
theorem QoD{At:World->Prop}{es:List Ent}(Z:Qor At nv es)(hw:At w)(k:ByteArray):Calls prog 278 #[nv,.string k] w λe w'=>e=.returned (.int .i64 (Qct es k))/\Ext w w':=by
 obtain⟨pp,rfl⟩:=Z.ptr;have hl:=Z.few;have a5:∀W,Ext w W->W.cell? ⟨w,0,none⟩=some (.pointer pp)->W.cell? ⟨w+1,0,none⟩=some (.string k)->Calls prog 69 #[.int .i64 es.length,.func (.func 287) #[] #[.pointer (some ⟨w,0,none⟩),.pointer (some ⟨w+1,0,none⟩)]] W (QcL es.length (λi=>!(klt ((es[i]?.map Prod.fst).getD ByteArray.empty) k)) W):=by
  intro W hW c1 c2;refine Qd0 287 _ _ es.length _ W (eP func287 kM rfl) oM ?_ ?_
  ·intro i W' hi a2
   obtain⟨x,hx⟩:∃x,es[i]? = some x:=⟨_,ac hi⟩;rw[hx];exact QmW ((a2.cell (eH W _ c1)).trans c1) ((a2.cell (eH W _ c2)).trans c2) ⟨_,rfl⟩ (Z.entry W' (Z.ext (Z.ext hw hW) a2) i x hx)
  intro i j b9 hj I;by_cases a3:i=j
  .subst a3;exact I
  obtain⟨x,hx⟩:∃x,es[i]? = some x:=⟨_,ac oM⟩;obtain⟨y,hy⟩:∃y,es[j]? = some y:=⟨_,ac hj⟩;have b6:=QdK Z.sorted (i:=i) (j:=j) oM hx hy;rw[hx]at I;rw[hy];simp only[Option.map_some,Option.getD_some,Bool.not_eq_true']at I ⊢;cases b8:klt y.1 k
  .rfl
  have:=QaH b6 b8;rw[I]at this;cases this
 obtain⟨HC,b3,HW⟩:=Yc Z a5 hw;clear Z a5 hw;go_in;go_wp2_with fail;generalize a4:World.alloc _ _=W0;obtain⟨a9,b5,a0,a6⟩:=Qas w _ _ _ _ W0 a4;have q0:W0.cell? ⟨w,0,none⟩=some (.pointer pp):=a0.cell 0;obtain⟨a1,b7,b4⟩:=Yc a9 a0 a6;clear a4 a0 a6 a9 b5;refine(HC.o.size W0 (HC.o.ext HW.o a1.o)).mono ?_;rintro e w1 ⟨rfl,q,rfl⟩;clear q0;go_wp2_with fail;refine(b3.o _ (a1.o.drewN q) (b7.o.cell 0) (b4.o.cell 0)).mono ?_;rintro e w1 ⟨p,rfl,hp,a7,a8,b0⟩;have N:Qct es k=p:=Qlr hp (λi e hi he=>by
   have:(!(klt ((es[i]?.map Prod.fst).getD ByteArray.empty) k))=false:=a7 i hi;rw[he]at this;simpa using this) (λe he=>by
   have:(!(klt ((es[p]?.map Prod.fst).getD ByteArray.empty) k))=true:=a8 p (ao _) (ai.1 he).1;rw[he]at this;simpa using this)
 obtain⟨HE,HP⟩:=Yb ((a1.o.drewN q).trans b0) N;clear a7 a8 N b0;go_wp2_with fail;go_ret;exact⟨by rw[HP.o];rfl,HE.o⟩
theorem Qup{t:PT (h+1)}(ok:OkT (h+1) t){I:PT h}(N:I∈t.2):ents h I≠[]:=by
 have h1:=ok.2.2 I N;have:=Qbk h I h1.1 oM;intro e;rw[e]at this;simp at this
def Qgg(F:Nat->Prop)(T:RT)(W:World):Prop:=IsT W F T/\∀b,F b->b<W.heap.size
variable{T:RT}
theorem Qgg.ext(a:Qgg F T W)(k:Ext W W'):Qgg F T W':=⟨a.1.agree (k.agree a.2),λb I=>ab (a.2 b I) k.size⟩
abbrev fG:=@wpIn_wide
attribute [local go_sem] Oper.semAt_some
abbrev Qta(x:LE):Array Value:=#[.string x.k,QbV x.v x.sl x.so]
structure QmQ(all:List Ent)(pre:List LE)(x:LE)(W0 W1:World):Prop where
 at_:all[pre.length]? = some x.ent
 pre_:pre.map LE.ent=all.take pre.length
 val:RV W1 (In W0.heap.size W1.heap.size) x.v x.sl x.so
 key:x.k.size<=maxLen
def Qbj(lo hi:ByteArray)(op:Bool)(es all:List Ent)(pre:List LE)(J:List LE->(Nat->Prop)->World->Prop)(Jx:List LE->World->Prop)(C:Nat->Prop)(W:World)(e:Ending)(W':World):Prop:=
 (∃(new:List LE) (C':Nat->Prop) (W0:World),(e=.returned (.bool true)\/(e=.returned (.bool false)/\∃x∈es,Qjw hi op x.1=true))/\J (pre++new) C' W0/\Ext W0 W'/\new.map LE.ent=QaM lo hi op es/\St C W W'/\∀b,C' b->C b\/W.heap.size<=b)\/
 (e=.returned (.bool false)/\St C W W'/\∃pre' W0,Jx pre' W0/\Ext W0 W'/\pre'.map LE.ent <+: all)
variable{all rest:List Ent}{x:LE}
theorem QnU{pre I:List LE}{A:List Ent}{B:List Ent}(N:all=pre.map LE.ent++(QaM lo hi op (A++x.ent::B)++rest))(Z:I.map LE.ent=QaM lo hi op A)(h1:klt x.k lo=false)(h2:Qjw hi op x.k=false) :
  all[(pre++I).length]? = some x.ent/\(pre++I).map LE.ent=all.take (pre++I).length/\(I++[x]).map LE.ent=QaM lo hi op (A++[x.ent]):=by
 have e1:QaM lo hi op (A++x.ent::B)=QaM lo hi op A++(x.ent::QaM lo hi op B):=by
  rw[show A++x.ent::B=A++([x.ent]++B)from rfl,QaT,QaT,QhG (e:=x.ent) h1 h2];rfl
 rw[e1,<-Z]at N;have e2:all=(pre++I).map LE.ent++(x.ent ::(QaM lo hi op B++rest)):=by rw[N];simp
 have hl:(pre++I).length=((pre++I).map LE.ent).length:=sM
 refine⟨?_,?_,?_⟩
 .rw [e2,hl,aQ (ao _),cD];rfl
 .rw [e2,hl,dO]
 rw[aC,Z,QaT,aY,bF,QhG (e:=x.ent) h1 h2]
theorem Qlu{es:List Ent}(hs:Sorted es){i:Nat}{x:Ent}(hx:es[i]? = some x)(Z:Qjw hi op x.1=true):QaM lo hi op (es.take i)=QaM lo hi op es:=by
 have hd:es.drop i=x::es.drop (i+1):=by
  obtain⟨h1,rfl⟩:=ai.1 hx;exact aE h1
 conv=>rhs;rw[<-aV i es]
 rw[QaT,QdH (es:=es.drop i),aW];intro e I;have N:Sorted (es.drop i):=cV (dQ _ _) hs;rw[hd]at I N;rcases aH.1 I with rfl|I
 .exact Z
 exact Qo9 Z ((bf.1 N).1 e I)
variable{n:Nat}
theorem QfW{α:Type}{l:List α}{x:α}(h:l[n]? = some x):l.take n++[x] <+: l:=by
 have e:l.take (n+1)=l.take n++[x]:=by rw[aT,h];rfl
 rw[<-e];exact List.take_prefix _ _
structure Qt1(lo hi:ByteArray)(op:Bool)(es:List Ent)(At:World->Prop)(pre:List LE)(J:List LE->(Nat->Prop)->World->Prop)(C:Nat->Prop)(W:World)(i:Nat)(new:List LE)(C':Nat->Prop)(Wj wr:World):Prop where
 j:J (pre++new) C' Wj
 ext:Ext Wj wr
 new_:new.map LE.ent=QaM lo hi op (es.take i)
 st:St C W wr
 sub:∀b,C' b->C b\/W.heap.size<b
 box:Blk wr W.heap.size 297 #[.string lo,.string hi,.bool op]
 at_:At wr
variable{pre:List LE}{W0:World}
theorem QkG{At:World->Prop}{es:List Ent}(hc:Qor At nv es)(b3:∀W W',At W->Agree F W W'->W.heap.size<=W'.heap.size->At W')(f3:∀e∈es,e.1.size<=maxLen) 
  {l:Nat} {J:List LE->(Nat->Prop)->World->Prop} {Jx:List LE->World->Prop} (hT:Takes prog l Qta (QmQ all) J Jx) {C:Nat->Prop} (hJ:J pre C W0) (hx:Ext W0 W) (hw:At W) (hF:∀b,F b->b<W.heap.size/\¬C b) (b4:all=pre.map LE.ent++(QaM lo hi op es++rest)) :
  Calls prog 265 #[nv,inV lo hi op,.func (.yield l) #[] #[]] W (Qbj lo hi op es all pre J Jx C W):=by
 obtain⟨pp,rfl⟩:=hc.ptr;have hl:=hc.few;have e7:=hT.lt pre C W0 hJ;have e1:Ext W (W.alloc (.cells #[.string lo,.string hi,.bool op] 297)):=(fI W).alloc _ _;have d8:=fK W 297 #[.string lo,.string hi,.bool op];have c9:=QoD hc (hc.ext hw e1) lo;obtain⟨d0,d7⟩:=QgQ es lo hc.sorted;obtain⟨p,hp⟩:∃p,Qct es lo=p:=⟨_,rfl⟩;rw[hp]at c9 d0 d7;have f1:p<=es.length:=by rw[<-hp];exact Qp8 _ _
 have q0:(W.alloc (.cells #[.string lo,.string hi,.bool op] 297)).cell? ⟨W.heap.size,0,none⟩=some (.string lo):=d8.cell 0;obtain⟨HC,g0,i3,HT,HJ,HX,HW⟩:=Yh hc b3 f3 hT hJ hx hw;obtain⟨HF,e4,i8,f7,g4,g6,g8⟩:=Yh hF b4 d8 c9 d0 d7 e1;have j4:=hY e7;clear hc b3 f3 hT hJ hx hw hF b4 c9 d0 d7 hp d8 e1 e7;refine(ez (n:=5)).1 ?_;refine fr func265 rfl trivial ?_ rfl;simp only[ntmps265,List.size_toArray,List.length_cons,List.length_nil,Nat.reduceAdd,Nat.reduceSub,Array.replicate_succ,Array.replicate_zero,List.push_toArray,List.append_toArray,List.nil_append,List.cons_append];gi_wp2_with fail;refine⟨trivial,?_⟩;refine(ez.2 f7.o).mono ?_;rintro e w1 ⟨rfl,c8⟩;obtain⟨d6,j0⟩:=Yb (g8.o.trans c8) (i8.o.ext c8);clear c8 q0 f7;gi_wp2_with fail;gi_loopw [7] (λv wr=>∃(i:Nat) (a1:List LE) (C':Nat->Prop) (Wj:World),v=.int .i64 i/\p<=i/\i<=es.length/\Qt1 lo hi op es At pre J C W i a1 C' Wj wr) (λv _=>es.length -(intOf v).toNat)
 case atStart=>exact⟨p,[],C,W0,rfl,ao _,f1,⟨by rw[aW];exact HJ.o,HX.o.trans d6.o,by rw[QfF g4.o];rfl,d6.o.st _,λb I=>.inl I,j0.o,HC.o.ext HW.o d6.o⟩⟩
 obtain⟨i,a1,C',Wj,rfl,i7,j9,hS⟩:=hrel;have N:=hY hS;have f8:=HC.o.size wr hS.at_;have i0:=hY f8;clear hS f8;gi_wp2_with fail;refine⟨trivial,?_⟩;refine(ez.2 i0.o).mono ?_;rintro e w2 ⟨rfl,q,rfl⟩;have a5:Ext wr (wr.drewN q):=(fI wr).drewN q;by_cases f2:i<es.length
 ·have g1:(i:Int)<(es.length:Int):=oM
  have j7:decide ((i:Int)<(es.length:Int))=true:=em g1;obtain⟨x,d3⟩:∃x,es[i]? = some x:=⟨_,ac f2⟩;have f6:=HC.o.entry (wr.drewN q) (HC.o.ext N.o.at_ a5) i x d3;obtain⟨j3,a0⟩:=Yb f6 d3;clear f6 d3;gi_wp2_with fail;refine⟨trivial,?_⟩;refine(ez.2 j3.o).mono ?_;rintro e w3 ⟨sl,so,rfl,d4,e2⟩;have e0:Ext w3 (w3.alloc (.cells #[.string x.1,.int .i64 x.2.kind,.bool x.2.b,.int .i64 x.2.i,.string x.2.t,.slice sl.a x.2.l.length sl.c,.slice so.a x.2.ok.length so.c] 78)):=(fI w3).alloc _ _;have e6:=fK w3 78 #[.string x.1,.int .i64 x.2.kind,.bool x.2.b,.int .i64 x.2.i,.string x.2.t,.slice sl.a x.2.l.length sl.c,.slice so.a x.2.ok.length so.c];obtain⟨f0,a7,f4,e8⟩:=Ye ((a5.trans d4).trans e0) e0 e6 e2;have a4:=N.o.box.ext (a5.trans d4);have i1:w3.cell? ⟨W.heap.size,0,none⟩=some (.string lo):=a4.cell 0;have j1:w3.cell? ⟨W.heap.size,1,none⟩=some (.string hi):=a4.cell 1;have i5:w3.cell? ⟨W.heap.size,2,none⟩=some (.bool op):=a4.cell 2;have lb:=a4.lt;clear d4 e0 e6 e2 a4;gi_wp2_with fail;refine⟨trivial,?_⟩;refine(ez.2 (Qim _ lo hi op x.1)).mono ?_;rintro e w5 ⟨rfl,a8⟩;have b0:=f0.o.trans a8;have f9:=f4.o.ext a8;obtain⟨c0,c1,c2,c3,c4,c5,c6⟩:=f9.c7;have b9:=HC.o.ext N.o.at_ b0;have b8:=N.o.box.ext b0;have j8:=a7.o.size;have j6:=a8.size;have k1:=N.o.ext.size;have b6:RV w5 (In wr.heap.size w5.heap.size) x.2 sl so:=((e8.o.agree (a7.o.agree λb I=>I.2)).agree (a8.agree λb I=>by have:=I.2;omega)).mono λb I=>⟨I.1,by have:=I.2;omega⟩
  obtain⟨a3,i9,g9,f5⟩:=Ye b0 b9 b8 b6;clear a8 b0 f9 b9 b8 b6 e8 f0 a7 f4 i1 j1 i5;cases a6:Qjw hi op x.1 with
  | true=>
    gi_wp2_with fail;refine⟨λ_ h=>absurd h sM,?_⟩;gi_wp2_with fail;go_ret;refine .inl ⟨a1,C',Wj,.inr ⟨rfl,x,ap a0.o,a6⟩,N.o.j,N.o.ext.trans a3.o,?_,N.o.st.ext a3.o,λb I=>(N.o.sub b I).imp_right cC⟩;rw[N.o.new_,Qlu HC.o.sorted a0.o a6]
  | false=>
    have j2:klt x.1 lo=false:=g6.o x (by
     obtain⟨h1,rfl⟩:=ai.1 a0.o;rw[List.mem_iff_getElem?];exact⟨i-p,by rw[bc,Nat.add_sub_cancel' i7];exact a0.o⟩)
    have d5:es=es.take i++x::es.drop (i+1):=by
     obtain⟨h1,h2⟩:=ai.1 a0.o
     conv=>lhs;rw[<-aV i es,aE h1,h2]
    obtain⟨n1,n2,n3⟩:=QnU (x:=⟨x.1,x.2,sl,so⟩) (A:=es.take i) (B:=es.drop (i+1)) (all:=all) (rest:=rest) (pre:=pre) (by show all=pre.map LE.ent++(QaM lo hi op (es.take i++x::es.drop (i+1))++rest);rw[<-d5];exact e4.o) N.o.new_ j2 a6;have hy:=HT.o.take (pre++a1) C' ⟨x.1,x.2,sl,so⟩ Wj w5 N.o.j (N.o.ext.trans a3.o) ⟨n1,n2,f5.o.mono λb I=>⟨by have:=I.1;omega,I.2⟩,i3.o x (ap a0.o)⟩;obtain⟨fn,j5,assign,body,hy,hR⟩:=hy;obtain⟨HR,g3,g7,g5,k0⟩:=Yf hR n1 n2 n3 d5;clear hR n1 n2 n3 d5;dsimp only[Qta]at hy;gi_wp2_with fail;refine HR.o.mono ?_;rintro e w6 (⟨rfl,C6,e3,Z,a2⟩ |⟨rfl,i4,Z⟩)
    ·have b7:J (pre++(a1++[⟨x.1,x.2,sl,so⟩])) C6 w6:=by rw [←aN];exact e3
     have a9:∀b,b<=W.heap.size->C' b->C b:=λb I h=>by
      rcases N.o.sub b h with h|h
      .exact h
      omega
     have b5:¬C' W.heap.size:=λh=>by
      have h1:=j4.o _ (a9 _ (ao _) h);have:=HX.o.size;omega
     have i6:=hY (show Qt1 lo hi op es At pre J C W (i+1) (a1++[⟨x.1,x.2,sl,so⟩]) C6 w6 w6 from
      ⟨b7,fI _,by rw[g5.o,aT,a0.o];rfl,(N.o.st.ext a3.o).then Z (λb I h=>a9 b (cC I) h),λb I=>by
        rcases a2 b I with h|h
        .exact N.o.sub b h
        exact .inr oM,Z.blk g9.o b5,g0.o w5 w6 i9.o (Z.agree.mono λb I=>⟨by have:=(HF.o b I).1;omega,λh=>(HF.o b I).2 (a9 b (cC (HF.o b I).1) h)⟩) Z.size⟩)
     clear e3 Z a2 b7 a9 b5 hy;gi_wp2_with fail;go_roundw
     case rel=>exact⟨i+1,_,C6,w6,by go_num,oM,f2,i6.o⟩
     simp[intOf];omega
    gi_wp2_with fail;go_ret;have i2:St C W w6:=(N.o.st.ext a3.o).then Z λb I h=>by
     rcases N.o.sub b h with h|h
     .exact h
     omega
    exact .inr ⟨rfl,i2,_,w6,i4,fI _,by
     rw[aC,g7.o];exact QfW g3.o⟩
 obtain rfl:i=es.length:=oM
 gi_wp2_with fail;go_ret;refine .inl ⟨a1,C',Wj,.inl rfl,N.o.j,N.o.ext.trans a5,?_,N.o.st.ext a5,λb I=>(N.o.sub b I).imp_right cC⟩;rw[N.o.new_,aU]
theorem Qhw{w:World}{F:Nat->Prop}:∀{h:Nat} {t:PT h},IsN w F h t->∀e∈ents h t,e.1.size<=maxLen
 | 0,t,⟨_,s,xs,_,h3,h4⟩,e,I=>by
   have I:e∈t.2:=I;rw[<-h4]at I;obtain⟨x,Z,rfl⟩:=bW.1 I;exact(h3.vals x Z).2
 | h+1,t,⟨_,s,_,_,h4⟩,e,I=>by
   have I:e∈t.2.flatMap (ents h):=I;obtain⟨k,N,I⟩:=cF.1 I;exact Qhw (h4 k N) e I
variable{W1:World}
theorem Qbj.from{es all:List Ent}{J:List LE->(Nat->Prop)->World->Prop}{Jx:List LE->World->Prop}{C:Nat->Prop}{e:Ending}(h:Qbj lo hi op es all pre J Jx C W1 e W')(N:Ext W W1):Qbj lo hi op es all pre J Jx C W e W':=by
 rcases h with⟨I,C',W0,h1,h2,h3,h4,h5,Z⟩|h
 .exact .inl ⟨I,C',W0,h1,h2,h3,h4,(N.st C).trans h5,λb hb=>(Z b hb).imp_right λh=>an N.size h⟩
 exact .inr ⟨h.1,(N.st C).trans h.2.1,h.2.2⟩
theorem Qbj.bool{es all:List Ent}{J:List LE->(Nat->Prop)->World->Prop}{Jx:List LE->World->Prop}{C:Nat->Prop}{e:Ending}(h:Qbj lo hi op es all pre J Jx C W e W'):∃b,e=.returned (.bool b):=by
 rcases h with⟨I,C',W0,h1|h1,_⟩|h
 .exact ⟨_,h1⟩
 .exact ⟨_,h1.1⟩
 exact⟨_,h.1⟩
theorem QkH{At:World->Prop}{es:List Ent}(hc:Qor At nv es)(N:∀W W',At W->Agree F W W'->W.heap.size<=W'.heap.size->At W')(a0:∀e∈es,e.1.size<=maxLen) 
  {l:Nat} {J:List LE->(Nat->Prop)->World->Prop} {Jx:List LE->World->Prop} (hT:Takes prog l Qta (QmQ all) J Jx) {C:Nat->Prop} (hJ:J pre C W0) (hx:Ext W0 W) (hw:At W) (hF:∀b,F b->b<W.heap.size/\¬C b) (Z:all=pre.map LE.ent++(QaM lo hi op es++rest)) :
  Calls prog 257 #[nv,inV lo hi op,.func (.yield l) #[] #[]] W (Qbj lo hi op es all pre J Jx C W):=by
 have I:Ext W (W.alloc (.cells #[.string lo,.string hi,.bool op] 297)):=(fI W).alloc _ _;have hh:=hc.height _ (hc.ext hw I);have a1:=QkG hc N a0 hT hJ (hx.trans I) (hc.ext hw I) (λb hb=>⟨Nat.lt_of_lt_of_le (hF b hb).1 I.size,(hF b hb).2⟩) Z;obtain⟨pp,rfl⟩:=hc.ptr;obtain⟨a2,a3⟩:=Yb a1 I;clear hc N a0 hT hJ hx hw hF Z a1 I;go_in;go_wp2_with fail;refine hh.mono ?_;rintro e w1 ⟨rfl,rfl⟩;go_wp2_with fail;refine a2.o.mono ?_;rintro e w2 hp;obtain⟨b,rfl⟩:=hp.bool;have HP:=hY (hp.from a3.o);clear hp;go_wp2_with fail;go_ret;exact HP.o
structure QsQ(lo hi:ByteArray)(op:Bool)(F:Nat->Prop)(h:Nat)(t:PT (h+1))(pre:List LE)(J:List LE->(Nat->Prop)->World->Prop)(C:Nat->Prop)(W w3:World)(g:Nat)(j:Nat)(new:List LE)(C':Nat->Prop)(Wj wr:World):Prop where
 j_:J (pre++new) C' Wj
 ext:Ext Wj wr
 new_:new.map LE.ent=QaM lo hi op ((t.2.take j).flatMap (ents h))
 st:St C W wr
 sub:∀b,C' b->C b\/w3.heap.size<=b
 big:w3.heap.size<=wr.heap.size
 box:Blk wr W.heap.size 297 #[.string lo,.string hi,.bool op]
 rows:∀o,wr.cell? ⟨g,o,none⟩=w3.cell? ⟨g,o,none⟩
 at_:Qdm F (h+1) t wr
theorem QqM{l:Nat}{J:List LE->(Nat->Prop)->World->Prop}{Jx:List LE->World->Prop}(hT:Takes prog l Qta (QmQ all) J Jx) 
  (ih:∀(t:PT h) (pre:List LE) (rest:List Ent) (C:Nat->Prop) (W0 W:World),J pre C W0->Ext W0 W->Qdm F h t W->(∀b,F b->¬C b)->OkT h t->Sorted (ents h t)->(ents h t).length<=1000000->all=pre.map LE.ent++(QaM lo hi op (ents h t)++rest)->
    Calls prog 257 #[ptr h t,inV lo hi op,.func (.yield l) #[] #[]] W (Qbj lo hi op (ents h t) all pre J Jx C W))
  {t:PT (h+1)} {C:Nat->Prop} (hJ:J pre C W0) (hx:Ext W0 W) (hn:Qdm F (h+1) t W) (hF:∀b,F b->¬C b) (ok:OkT (h+1) t) (hs:Sorted (ents (h+1) t)) (hl:(ents (h+1) t).length<=1000000) (d8:all=pre.map LE.ent++(QaM lo hi op (ents (h+1) t)++rest)) :
  Calls prog 257 #[ptr (h+1) t,inV lo hi op,.func (.yield l) #[] #[]] W (Qbj lo hi op (ents (h+1) t) all pre J Jx C W):=by
 have i1:=ok.2.1;have g7:=ok.1;have f9:=hT.lt pre C W0 hJ;have d6:Ext W (W.alloc (.cells #[.string lo,.string hi,.bool op] 297)):=(fI W).alloc _ _;have d5:=fK W 297 #[.string lo,.string hi,.bool op];have hh:=QaC (hn.ext d6).1;have g4:=Qb9 (hn.ext d6).1 oM;have j3:h+1<1000000:=ab (QcT (h+1) t ok (by show 1<=t.2.length;omega)) hl;have j6:(((h+1:Nat):Int)==0)=false:=ev.2 oM;have j0:((h:Int)+1==0)=false:=ev.2 oM;obtain⟨HT,g9,HJ,HX,HN,HF,e8⟩:=Yh hT ih hJ hx hn hF ok;obtain⟨HS,HL,f0,f7,f3,i9⟩:=Yg hs hl d8 d6 d5 f9;clear hT ih hJ hx hn hF ok hs hl d8 d6 d5 f9;refine(ez (n:=5)).1 ?_;refine fr func257 rfl trivial ?_ rfl;simp only[ntmps257,List.size_toArray,List.length_cons,List.length_nil,Nat.reduceAdd,Nat.reduceSub,Array.replicate_succ,Array.replicate_zero,List.push_toArray,List.append_toArray,List.nil_append,List.cons_append];gi_wp2_with fail;refine⟨trivial,?_⟩;refine(ez.2 hh).mono ?_;rintro e w1 ⟨rfl,rfl⟩;gi_wp2_with fail;refine⟨trivial,?_⟩;refine(ez.2 g4).mono ?_;rintro e w3 ⟨sk,rfl,b7,e4⟩;have f5:Rd w3 (Lt w3.heap.size) 1 sk t.2.length (ptrs h t.2):=(fP b7).mono λi hi=>hi.2
 obtain⟨g,j5,rfl,i6,k0,j9,e0⟩:=QaJ b7 oM;have i4:=e0.lt;have j1:W.heap.size<g:=by simp at i6;omega
 obtain⟨i2,d3,i7⟩:=Yc f5 (f7.o.trans e4) (f3.o.ext e4);have j4:=d3.o.size;have j7:=HX.o.size;clear b7 f5 e4 e0 g4 hh f3 f7;gi_wp2_with fail;gi_loopw [19] (λv wr=>∃(j:Nat) (a2:List LE) (C':Nat->Prop) (Wj:World),v=.int .i64 j/\j<=t.2.length/\QsQ lo hi op F h t pre J C W w3 g j a2 C' Wj wr) (λv _=>t.2.length -(intOf v).toNat)
 case atStart=>exact⟨0,[],C,W0,rfl,aA _,⟨by rw[aW];exact HJ.o,HX.o.trans d3.o,rfl,d3.o.st _,λb hb=>.inl hb,ao _,i7.o,λ_=>rfl,HN.o.ext d3.o⟩⟩
 obtain⟨j,a2,C',Wj,rfl,hj,hS⟩:=hrel;have I:=hY hS;clear hS;by_cases e7:j<t.2.length
 ·obtain ⟨N,a4⟩:∃ N,t.2[j]? = some N:=⟨_,ac e7⟩
  obtain⟨b,o',f6,-,-,-,f2⟩:=i2.o.QcV a4;obtain⟨rfl,rfl⟩:g=b/\0=o':=by simpa using f6
  have kc:wr.cell? ⟨g,j,none⟩=some (ptr h N):=by rw[I.o.rows];simpa using f2
  have j8:(j:Int)<(t.2.length:Int):=oM
  have c9:=ap a4;have d4:Qdm F h N wr:=⟨I.o.at_.1.2.choose_spec.2.2 N c9,I.o.at_.2⟩;have f1:Sorted (ents h N):=QaL HS.o N c9;have d7:=QbI a4;have c0:ents (h+1) t=(t.2.take j).flatMap (ents h)++(ents h N++(t.2.drop (j+1)).flatMap (ents h)):=by
   show t.2.flatMap (ents h)=_
   conv=>lhs;rw[d7]
   simp only[List.flatMap_append,List.flatMap_cons]
  have g6:(ents h N).length<=1000000:=by have:=HL.o;rw[c0]at this;simp only[List.length_append]at this;omega
  have c7:(t.2.take (j+1)).flatMap (ents h)=(t.2.take j).flatMap (ents h)++ents h N:=by rw[aT,a4];simp
  obtain⟨b6,a7⟩:=Yb (λW1 (hW:Ext wr W1)=>Qme (d4.ext hW).1) (λW1 (hW:Ext wr W1)=>Qgv (d4.ext hW).1);have a9:=I.o.box;obtain⟨Z,i0,d0,a3,a6⟩:=Yf (show ∀W1,Ext wr W1->W1.cell? ⟨W.heap.size,0,none⟩=some (.string lo)/\W1.cell? ⟨W.heap.size,1,none⟩=some (.string hi)/\W1.cell? ⟨W.heap.size,2,none⟩=some (.bool op) fromλW1 hW=>⟨(a9.ext hW).cell 0,(a9.ext hW).cell 1,(a9.ext hW).cell 2⟩) d4 f1 c0 c7;clear a4 f6 f2 d4 f1 d7 c0 c7 a9;cases e6:klt (Qbl (ents h N)) lo with
  | true=>
    have d5:Op.bytesLess (Qbl (ents h N)).toList lo.toList=true:=e6;gi_wp2_with fail;refine fG.2 ?_;refine eA (S:=(λw'=>Ext wr w')) kM (((fI wr).drew)) (λhHeld=>?_);refine Qaf 0 (some 24) Z hHeld ?_;refine Qaf 2 (some 26) Z hHeld ?_;refine Qaf 3 (some 27) Z hHeld ?_;refine Qac (i:=1) kM rfl (by rfl) (λK hK=>?_);go_simp
    (refine(b6.o _ hHeld).mono ?_;rintro e w5 ⟨rfl,rfl⟩)
    refine hK.out _ _ (hHeld) (λhHeld=>?_);clear hK K
    try go_frame
    refine Qaf 4 (some 28) Z hHeld ?_;refine Qaf 5 (some 23) Z hHeld ?_;refine eF kM ?_ _;have b3:=hY hHeld;clear hHeld;have i5:=hY (show QsQ lo hi op F h t pre J C W w3 g (j+1) a2 C' Wj wr.drew from
     ⟨I.o.j_,I.o.ext.trans b3.o,by rw[I.o.new_,a6.o,QaT,QfF (Qnt d0.o e6),aW],I.o.st.ext b3.o,I.o.sub,by have:=b3.o.size;have:=I.o.big;omega,I.o.box.ext b3.o,λo=>(b3.o.cell (by have:=I.o.big;omega)).trans (I.o.rows o),I.o.at_.ext b3.o⟩)
    generalize wr.drew=w6 at *;gi_wp2_with fail;go_roundw
    case rel=>exact⟨j+1,a2,C',Wj,by go_num,e7,i5.o⟩
    simp[intOf];omega
  | false=>
    have d5:Op.bytesLess (Qbl (ents h N)).toList lo.toList=false:=e6;gi_wp2_with fail;refine fG.2 ?_;refine eA (S:=(λw'=>Ext wr w')) kM (((fI wr).drew)) (λhHeld=>?_);refine Qaf 0 (some 24) Z hHeld ?_;refine Qaf 2 (some 26) Z hHeld ?_;refine Qaf 3 (some 27) Z hHeld ?_;refine Qac (i:=1) kM rfl (by rfl) (λK hK=>?_);go_simp
    (refine(b6.o _ hHeld).mono ?_;rintro e w5 ⟨rfl,rfl⟩)
    refine hK.out _ _ (hHeld) (λhHeld=>?_);clear hK K
    try go_frame
    refine Qaf 4 (some 28) Z hHeld ?_;refine Qaf 5 (some 23) Z hHeld ?_;refine eF kM ?_ _;cases b0:Qjw hi op (Qav (ents h N))with
    | true=>
      have c2:=hY (show ∀W1,Calls prog 266 #[inV lo hi op,.string (Qav (ents h N))] W1 λe w'=>e=.returned (.bool true)/\Ext W1 w' fromλW1=>by have:=Qim W1 lo hi op (Qav (ents h N));rwa[b0]at this);gi_wp2_with fail;refine fG.2 ?_;refine eA (S:=(λw'=>Ext wr w')) kM ((hHeld.drew)) (λhHeld=>?_);refine Qaf 0 (some 30) Z hHeld ?_;refine Qaf 1 (some 31) Z hHeld ?_;refine Qac (i:=2) kM rfl (by rfl) (λK hK=>?_);go_simp
      (refine(a7.o _ hHeld).mono ?_;rintro e w6 ⟨rfl,rfl⟩)
      refine hK.out _ _ (hHeld) (λhHeld=>?_);clear hK K
      try go_frame
      refine Qac (i:=3) kM rfl (by rfl) (λK hK=>?_);go_simp
      (refine(c2.o _).mono ?_;rintro e w7 ⟨rfl,c4⟩)
      refine hK.out _ _ (hHeld.trans c4) (λhHeld=>?_);clear hK K
      try go_frame
      refine Qaf 4 (some 29) Z hHeld ?_;refine eF kM ?_ _;have a1:=hY hHeld;clear hHeld c4;gi_wp2_with fail;go_ret;have f8:=Qup e8.o c9;obtain⟨x,b4⟩:=List.exists_mem_of_ne_nil _ f8;have c1:=Qfx d0.o b0 x b4;refine .inl ⟨a2,C',Wj,.inr ⟨rfl,x,by rw[a3.o];simp[b4],c1⟩,I.o.j_,I.o.ext.trans a1.o,?_,I.o.st.ext a1.o,λb hb=>(I.o.sub b hb).imp_right λh=>oM⟩;have b9:=HS.o;rw[a3.o]at b9;rw[I.o.new_,a3.o,QaT,QaT,QdH (Qfx d0.o b0),QeX (A:=ents h N) (Qck b9).2.1 ⟨x,b4,c1⟩,aW,aW]
    | false=>
      have c2:=hY (show ∀W1,Calls prog 266 #[inV lo hi op,.string (Qav (ents h N))] W1 λe w'=>e=.returned (.bool false)/\Ext W1 w' fromλW1=>by have:=Qim W1 lo hi op (Qav (ents h N));rwa[b0]at this);gi_wp2_with fail;refine fG.2 ?_;refine eA (S:=(λw'=>Ext wr w')) kM ((hHeld.drew)) (λhHeld=>?_);refine Qaf 0 (some 30) Z hHeld ?_;refine Qaf 1 (some 31) Z hHeld ?_;refine Qac (i:=2) kM rfl (by rfl) (λK hK=>?_);go_simp
      (refine(a7.o _ hHeld).mono ?_;rintro e w6 ⟨rfl,rfl⟩)
      refine hK.out _ _ (hHeld) (λhHeld=>?_);clear hK K
      try go_frame
      refine Qac (i:=3) kM rfl (by rfl) (λK hK=>?_);go_simp
      (refine(c2.o _).mono ?_;rintro e w7 ⟨rfl,c4⟩)
      refine hK.out _ _ (hHeld.trans c4) (λhHeld=>?_);clear hK K
      try go_frame
      refine Qaf 4 (some 29) Z hHeld ?_;refine eF kM ?_ _;have a1:=hY hHeld;obtain⟨q0,q1,q2⟩:=Z.o w7 hHeld;have g3:∀b,F b->¬C' b:=λb hb h=>by
       rcases I.o.sub b h with h|h
       .exact HF.o b hb h
       have:=(HN.o.2 b hb);omega
      have g0:=g9.o N (pre++a2) (QaM lo hi op ((t.2.drop (j+1)).flatMap (ents h))++rest) C' Wj w7 I.o.j_ (I.o.ext.trans a1.o) (i0.o.ext a1.o) g3 (e8.o.2.2 N c9).1 d0.o g6 (by
       rw[f0.o,a3.o,aC,I.o.new_,QaT,QaT];simp only[List.append_assoc])
      have i8:=hY g0;have j2:=a1.o.size;clear hHeld c4 g3 g0;gi_wp2_with fail;refine⟨trivial,?_⟩;refine(ez.2 i8.o).mono ?_;rintro e w8 (⟨a8,C8,W8,g5,c8,b8,e1,a0,a5⟩ |⟨rfl,a0,f4,W8,c8,b8,g8⟩)
      ·have e2:St C W w8:=(I.o.st.ext a1.o).then a0 fun b hb h=>by
        rcases I.o.sub b h with h|h
        .exact h
        omega
       have c3:∀b,C8 b->C b\/w3.heap.size<=b:=λb hb=>by
        rcases a5 b hb with h|h
        .exact I.o.sub b h
        exact .inr (by have:=I.o.big;omega)
       have b5:J (pre++(a2++a8)) C8 W8:=by rw[<-aN];exact c8
       have c6:(a2++a8).map LE.ent=QaM lo hi op ((t.2.take (j+1)).flatMap (ents h)):=by rw[aC,I.o.new_,e1,a6.o,QaT]
       rcases g5 with rfl |⟨rfl,x,b4,c1⟩
       ·have e3:∀ b,b<w3.heap.size→W.heap.size≤b→¬C' b:=fun b h1 h2 h=>by
         rcases I.o.sub b h with h|h
         .have:=i9.o b h;omega
         omega
        have i3:=hY (show QsQ lo hi op F h t pre J C W w3 g (j+1) (a2++a8) C8 W8 w8 from
         ⟨b5,b8,c6,e2,c3,by have:=a0.size;have:=I.o.big;omega,a0.blk (I.o.box.ext a1.o) (e3 _ oM (ao _)),
           λo=>(a0.cell (by have:=I.o.big;omega) (e3 _ i4 oM)).trans ((a1.o.cell (by have:=I.o.big;omega)).trans (I.o.rows o)),
           ⟨(I.o.at_.ext a1.o).1.agree (a0.agree.mono fun b hb=>⟨by have:=(I.o.at_.ext a1.o).2 b hb;omega,fun h=>by
             rcases I.o.sub b h with h|h
             .exact HF.o b hb h
             have:=(HN.o.2 b hb);omega⟩),λb hb=>by have:=a0.size;have:=HN.o.2 b hb;have:=I.o.big;omega⟩⟩)
        clear e2 c3 b5 c6 c8 b8 e1 a0 a5 e3;gi_wp2_with fail;go_roundw
        case rel=>exact⟨j+1,_,C8,W8,by go_num,e7,i3.o⟩
        simp[intOf];omega
       clear a0 a5 e1 c8;gi_wp2_with fail;go_ret;refine .inl ⟨a2++a8,C8,W8,.inr ⟨rfl,x,by rw[a3.o];simp[b4],c1⟩,b5,b8,?_,e2,λb hb=>(c3 b hb).imp_right λh=>oM⟩;have b9:=HS.o;rw[a3.o]at b9;rw[c6,a6.o,a3.o,QaT,QaT,QaT,QeX (A:=ents h N) (Qck b9).2.1 ⟨x,b4,c1⟩,aW]
      gi_wp2_with fail;go_ret;exact .inr ⟨rfl,(I.o.st.ext a1.o).then a0 (λb hb h=>by
       rcases I.o.sub b h with h|h
       .exact h
       omega),f4,W8,c8,b8,g8⟩
 obtain rfl:j=t.2.length:=oM
 gi_wp2_with fail;go_ret;refine .inl ⟨a2,C',Wj,.inl rfl,I.o.j_,I.o.ext,?_,I.o.st,λb hb=>(I.o.sub b hb).imp_right λh=>oM⟩;rw[I.o.new_,aU];rfl
theorem QmI{F:Nat->Prop}{lo hi:ByteArray}{op:Bool}{all:List Ent}{l:Nat}{J:List LE->(Nat->Prop)->World->Prop}{Jx:List LE->World->Prop}(N:Takes prog l Qta (QmQ all) J Jx) :
  ∀(h:Nat) (t:PT h) (pre:List LE) (rest:List Ent) (C:Nat->Prop) (W0 W:World),J pre C W0->Ext W0 W->Qdm F h t W->(∀b,F b->¬C b)->OkT h t->Sorted (ents h t)->(ents h t).length<=1000000->all=pre.map LE.ent++(QaM lo hi op (ents h t)++rest)->
   Calls prog 257 #[ptr h t,inV lo hi op,.func (.yield l) #[] #[]] W (Qbj lo hi op (ents h t) all pre J Jx C W)
 | 0,t,pre,rest,C,W0,W,hJ,hx,hn,hF,ok,hs,_,hall=>
   QkH (F:=F) (Qnp ok hs) (λW W' a ha Z=>⟨a.1.agree ha,λb I=>ab (a.2 b I) Z⟩) (Qhw hn.1) N hJ hx hn (λb I=>⟨hn.2 b I,hF b I⟩) hall
 | h+1,t,pre,rest,C,W0,W,hJ,hx,hn,hF,ok,hs,hl,hall=>
   QqM N (λt pre rest C W0 W a b c d e f g i=>QmI N h t pre rest C W0 W a b c d e f g i) hJ hx hn hF ok hs hl hall
theorem QqL{l:Nat}{J:List LE->(Nat->Prop)->World->Prop}{Jx:List LE->World->Prop}(Z:Takes prog l Qta (QmQ (QaM lo hi op (Qaa T))) J Jx)
  {C:Nat->Prop} (hJ:J [] C W0) (hx:Ext W0 W) (I:Qgg F T W) (hF:∀b,F b->¬C b) (ok:OkR T) (N:(Qaa T).length<=1000000) :
  Calls prog 257 #[QaK T,inV lo hi op,.func (.yield l) #[] #[]] W (Qbj lo hi op (Qaa T) (QaM lo hi op (Qaa T)) [] J Jx C W):=by
 match T,I,ok,N with
 |none,_,_,_=>exact QkH (F:=λ_=>False) (rest:=[]) QpE (λ_ _ _ _ _=>trivial) (λe he=>by cases he) Z hJ hx trivial (λb hb=>hb.elim) (by simp[Qaa])
 |some ⟨h,t⟩,I,ok,N=>exact QmI Z h t [] [] C W0 W hJ hx I hF ok.1 ok.2.2 N (by simp[Qaa])
end Go.Proofs.YtdiecmkpbadgjaaGreatDoor
namespace Go.Proofs.YtdiecmkpbadgjaaGreatDoor
open Go.Proofs.Tryz
open Go.RowKit Go.Shelf
structure Qdr(w:World)(B:Nat)(T:RT)(lo hi:ByteArray)(op:Bool):Prop where
 bt:Blk w B 48 #[QaK T]
 bl:Blk w (B+1) 9 #[.string lo]
 bh:Blk w (B+2) 9 #[.string hi]
 bo:Blk w (B+3) 4 #[.bool op]
def Qt3(F:Nat->Prop)(B:Nat)(b:Nat):Prop:=F b\/(B<=b/\b<B+4)
abbrev Qmy(B:Nat):Array Value:=#[.pointer (some ⟨B,0,none⟩),.pointer (some ⟨B+1,0,none⟩),.pointer (some ⟨B+2,0,none⟩),.pointer (some ⟨B+3,0,none⟩)]
variable{w w':World}{B:Nat}{T:RT}{lo hi:ByteArray}{op:Bool}{F:Nat->Prop}
theorem Qdr.agree(h:Qdr w B T lo hi op)(I:Agree F w w')(hF:∀b,B<=b->b<B+4->F b):Qdr w' B T lo hi op:=
 ⟨h.bt.agree I (hF _ oM oM),h.bl.agree I (hF _ oM oM),h.bh.agree I (hF _ oM oM),h.bo.agree I (hF _ oM oM)⟩
theorem Qdr.lt(h:Qdr w B T lo hi op):B+3<w.heap.size:=h.bo.lt
variable{pre:List LE}{W W':World}
theorem Qbj.st{es all:List Ent}{J:List LE->(Nat->Prop)->World->Prop}{Jx:List LE->World->Prop}{C:Nat->Prop}{e:Ending}(h:Qbj lo hi op es all pre J Jx C W e W'):St C W W':=by
 rcases h with⟨_,_,_,_,_,_,_,I,_⟩ |⟨_,I,_⟩<;>exact I
variable{w0:World}
theorem Qqi(hT:Qgg F T w0)(ok:OkR T)(hl:(Qaa T).length<=1000000)(hB:Qdr w0 B T lo hi op) :
  Qvd prog 256 (Qmy B) Qta (Qt3 F B) (QmQ (QaM lo hi op (Qaa T))) (λxs=>xs.map LE.ent=QaM lo hi op (Qaa T)) (λpre=>pre.map LE.ent <+: QaM lo hi op (Qaa T)) w0:=by
 intro l J Jx C W a4 hA a9 N hJ;have Z:Qdr W B T lo hi op:=hB.agree hA λb h1 h2=>.inr ⟨h1,h2⟩
 have a7:Qgg F T W:=⟨hT.1.agree (hA.mono λb hb=>.inl hb),λb hb=>ab (hT.2 b hb) a9⟩;have a1:=λW1 (hW:Ext W W1)=>QqL a4 hJ hW (a7.ext hW) (λb hb h=>N b h (.inl hb)) ok hl
 have b4:=a4.lt [] C W hJ;obtain⟨p,hp⟩:=Qaj T;rw[hp]at a1;have a2:=Z.bt;rw[hp]at a2;have I:=hY (show ∀W1,St C W W1->W1.cell? ⟨B,0,none⟩=some (.pointer p)/\W1.cell? ⟨B+1,0,none⟩=some (.string lo)/\W1.cell? ⟨B+2,0,none⟩=some (.string hi)/\W1.cell? ⟨B+3,0,none⟩=some (.bool op) fromλW1 hW=>
  ⟨(hW.blk a2 λh=>N _ h (.inr ⟨oM,oM⟩)).cell 0,(hW.blk Z.bl λh=>N _ h (.inr ⟨oM,oM⟩)).cell 0,(hW.blk Z.bh λh=>N _ h (.inr ⟨oM,oM⟩)).cell 0,(hW.blk Z.bo λh=>N _ h (.inr ⟨oM,oM⟩)).cell 0⟩)
 have b0:=hY a1;clear a4 hA a9 N hJ Z a7 a1 hp hT ok hl hB a2 b4;show Calls _ _ #[.func (.yield l) #[] #[],.pointer (some ⟨B,0,none⟩),.pointer (some ⟨B+1,0,none⟩),.pointer (some ⟨B+2,0,none⟩),.pointer (some ⟨B+3,0,none⟩)] W _;go_in;go_wp2_with fail;refine eA (S:=(λw'=>St C W w')) kM (((fQ C W).drew)) (λhHeld=>?_);refine Qaf 0 (some 6) I hHeld ?_;refine Qaf 2 (some 8) I hHeld ?_;refine Qaf 3 (some 9) I hHeld ?_;refine Qaf 4 (some 10) I hHeld ?_;refine Qaf 5 (some 11) I hHeld ?_;refine Qaf 6 (some 12) I hHeld ?_;refine Qac (i:=1) kM rfl (by rfl) (λK hK=>?_);go_simp
 (refine(QdN _ _).mono ?_;rintro e w1 ⟨rfl,a0⟩;replace a0:=((fI W).drew).trans a0;have a8:=hY a0)
 refine hK.out _ _ (a0.st C) (λhHeld=>?_);clear hK K
 try go_frame
 refine Qac (i:=7) kM rfl (by rfl) (λK hK=>?_);go_simp
 (refine(b0.o _ a8.o).mono ?_;intro e w2 a3;obtain⟨b2,rfl⟩:=a3.bool;have a5:=hY (a3.from a8.o);clear a3)
 refine hK.out _ _ (a5.o.st) (λhHeld=>?_);clear hK K
 try go_frame
 refine eF kM ?_ _;go_wp2_with fail;go_end0;refine⟨⟨_,rfl⟩,?_⟩;rcases a5.o with⟨b3,C',W0,-,h2,h3,h4,-,-⟩ |⟨-,-,a6,W0,h2,h3,h4⟩
 .exact .inl ⟨b3,C',W0,h4,h2,h3⟩
 exact .inr ⟨a6,W0,h4,h2,h3⟩
def Qot(T:RT)(lo hi:ByteArray)(op:Bool)(w:World)(e:Ending)(w':World):Prop:=
 ∃B,e=.returned (.func (.func 256) #[] (Qmy B))/\Ext w w'/\Qdr w' B T lo hi op/\w.heap.size<=B
theorem Qqh(w:World)(T:RT)(lo hi:ByteArray)(op:Bool):Calls prog 233 #[Qao T,.string lo,.string hi,.bool op] w (Qot T lo hi op w):=by
 obtain⟨p,I⟩:=Qaj T;rw[Qao,I];go_in;go_wp2_with fail;go_ret;obtain⟨Z,-,b0,b1,b2,N⟩:=Qgx w 48 9 9 4 #[.pointer p] #[.string lo] #[.string hi] #[.bool op] _ rfl;exact⟨w,rfl,Z,⟨by rw[I];exact b0,b1,b2,N⟩,ao _⟩
theorem Bw.trans{a b c:World}(h:Below a.heap.size a b)(k:Below b.heap.size b c):Below a.heap.size a c:=h.trans (k.mono h.size)
theorem Bw.ext{a b c:World}(h:Below a.heap.size a b)(k:Ext b c):Below a.heap.size a c:=Bw.trans h k.below
theorem Qcm(p:ByteArray):p.toList=p.data.toList:=eD p
theorem QbR(p:ByteArray):p.toList.length=p.size:=by rw[Qcm,aP];rfl
theorem Qgi{p:ByteArray}{i:Nat}(h:i<p.size):p.toList[i]? = some p[i]:=by
 rw[Qcm,bJ];exact cg h
def QkS(p:ByteArray)(w:World)(e:Ending)(w':World):Prop:=
 Below w.heap.size w w'/\∃(end_:ByteArray) (ok:Bool),e=.returned (.tuple #[.string end_,.bool ok])/\(match Qk3 p.toList with|none=>ok=false/\end_=ByteArray.empty|some q=>ok=true/\end_.toList=q)
theorem QpM(l:List UInt8):(ByteArray.mk l.toArray).toList=l:=by rw[Qcm]
theorem QnW{p:ByteArray}{i n:Nat}(h:i<p.size)(I:p.toList.drop (i+1)=List.replicate n 255):p.toList=p.toList.take i++p[i]::List.replicate n 255:=by
 have h1:=Qgi h;obtain⟨h2,N⟩:=ai.1 h1
 conv=>lhs;rw[<-aV i p.toList,aE h2,N,I]
theorem extract_toList(p:ByteArray)(k:Nat):(p.extract 0 k).toList=p.toList.take k:=by
 rw[Qcm,Qcm,ByteArray.data_extract];simp
theorem bytesRow_at{s:ByteArray}{cap i:Nat}{b:UInt8}(h:s.toList[i]? = some b):(bytesRow s cap)[i]? = some (.int .u8 (b.toNat:Int)):=by
 rw[Qcm,bJ]at h;have hi:=(az.1 h).1;unfold bytesRow;rw[Array.getElem?_append_left (by simpa using hi),Array.getElem?_map,h];rfl
theorem Qh8(s:ByteArray)(cap:Nat):s.size<=(bytesRow s cap).size:=by
 unfold bytesRow;rw[dv,ed];exact dG _ _
theorem QmZ(w:World)(s:ByteArray)(cap:Nat)(t:TypeId){i:Nat}{b c:UInt8}(N:s.toList[i]? = some b)(W:World)(I:W=(w.alloc (.cells (bytesRow s cap) t ((bytesRow s cap).size,(bytesRow s cap).size+1))).drew) :
  W.cell? ⟨w,i,none⟩=some (.int .u8 (b.toNat:Int))/\W.frozen? ⟨w,i,none⟩=false/\w.heap.size<W.heap.size/\Below w.heap.size w W/\
   ∀j (x:UInt8),(s.toList.set i c)[j]? = some x->(W.setCell ⟨w,i,none⟩ (.int .u8 (c.toNat:Int))).cell? ⟨w,j,none⟩=some (.int .u8 (x.toNat:Int)):=by
 have hr:∀j,W.cell? ⟨w,j,none⟩=(bytesRow s cap)[j]?:=λj=>by
  rw[I];exact World.cell?_alloc_mark w _ _ _ j
 have hi:i<s.size:=by
  have:=(ai.1 N).1;rwa[QbR]at this
 have hh:W.heap[w.heap.size]? = some (.cells (bytesRow s cap) t ((bytesRow s cap).size,(bytesRow s cap).size+1)):=by
  rw[I];exact fp w _
 refine⟨by rw[hr];exact bytesRow_at N,?_,by rw[I];show w.heap.size<(w.alloc _).heap.size;rw[ew];exact dh _,by rw[I];exact((Below.refl _ w).alloc (ao _) _).drew,λj x Z=>?_⟩
 ·unfold World.frozen?
  rw[hh];have:=Qh8 s cap;simp;omega
 by_cases hj:j=i
 ·subst hj
  rw[cR (ai.1 N).1]at Z;cases Z;exact eN W _ _ ((hr j).trans (bytesRow_at N))
 rw[db (λe=>hj e.symm)]at Z;rw[Qae _ _ _ _ _ (λe=>hj e.symm),hr];exact bytesRow_at Z
theorem Qlc(w:World)(p:ByteArray)(hp:p.size<=maxLen):Calls prog 232 #[.string p] w (QkS p w):=by
 unfold maxLen at hp;have b7:∀(s:ByteArray) (W:World),(convert 9 249 (.string s)).run prog W=.ok (.slice (some ⟨W,0,none⟩) s.size (grownCap W s.size 0 5)) (W.drew.alloc (.cells (bytesRow s (grownCap W s.size 0 5)) 5 ((bytesRow s (grownCap W s.size 0 5)).size,(bytesRow s (grownCap W s.size 0 5)).size+1))):=
  λs W=>run_bytes_of_string W 9 249 5 s underlying9 underlying249 underlying5
 have c9:wrap64 ((p.size:Int)-1)=(p.size:Int)-1:=by unfold wrap64;omega
 go_in;go_wp2_with fail;go_step3;go_wp2_with fail;go_step3;go_wp2_with fail;go_loopw[4] (λv wr=>wr=w/\((v=.int .i64 (-1)/\Qk3 p.toList=none)\/∃i,i<p.size/\v=.int .i64 (i:Int)/\p.toList.drop (i+1)=List.replicate (p.size -(i+1)) 255)) (λv _=>(intOf v+1).toNat)
 case atStart=>
  refine⟨rfl,?_⟩;by_cases h0:p.size=0
  ·refine .inl ⟨by rw [h0];rfl,?_⟩
   have:p.toList=[]:=ar (by rw[QbR];exact h0);rw[this];rfl
  refine .inr ⟨p.size-1,oM,by congr 1;omega,?_⟩;rw[bS (by rw[QbR];omega),show p.size -(p.size-1+1)=0 from oM];rfl
 obtain⟨rfl,⟨rfl,hn⟩ |⟨i,hi,rfl,hr⟩⟩:=hrel
 ·have HN:=hY hn
  clear hn;go_wp2_with fail;rw[Exit.noGoto_ret];refine eB (v:=.tuple #[.string ByteArray.empty,.bool false]) (by simp[results,results232,go_sem];rfl) rfl ?_;exact⟨Below.refl _ _,ByteArray.empty,false,rfl,by rw[HN.o];exact⟨rfl,rfl⟩⟩
 have d0:(i:Int)<(p.size:Int):=oM
 have c7:(0:Int)<=(i:Int):=oM
 have a6:=QnW hi hr;obtain⟨b4,HR⟩:=Yb a6 hr;have d3:wrap64 ((i:Int)-1)=(i:Int)-1:=by unfold wrap64;omega
 clear a6 hr;by_cases I:p[i]=255
 ·have c3:(((p[i].toNat:Nat):Int) != 255)=false:=by rw [I];rfl
  go_wp2_with fail;go_roundw
  case rel=>
   refine⟨trivial,?_⟩;cases i with
   | zero=>
     refine .inl ⟨rfl,?_⟩;rw[b4.o,I,dy,aG,<-dN];exact Qk4 _
   | succ i=>
     refine .inr ⟨i,oM,sM,?_⟩;have h2:p.toList.drop (i+1)=p[i+1]::p.toList.drop (i+1+1):=by
      have h1:=Qgi hi;obtain⟨h2,h3⟩:=ai.1 h1;rw[aE h2,h3]
     rw[h2,HR.o,I,<-dN];congr 1;omega
  simp[intOf]
 have c3:(((p[i].toNat:Nat):Int) != 255)=true:=eQ.2 λe=>I (UInt8.toNat_inj.1 (by show p[i].toNat=255;omega))
 have c6:min (i+1) p.size=i+1:=oM
 have c4:(p.extract 0 (i+1)).size=i+1:=by rw[<-QbR,extract_toList,av,QbR];omega
 have b5:p[i].toNat<256:=p[i].toNat_lt;have c8:IntKind.u8.wrap ((p[i].toNat:Int)+1)=(p[i].toNat:Int)+1:=by
  have:p[i].toNat≠255:=λe=>I (UInt8.toNat_inj.1 e)
  rw[IntKind.wrap_u8];omega
 obtain⟨q,hq⟩:∃q,q=(p.extract 0 (i+1)).toList.set i (p[i]+1):=⟨_,rfl⟩;have Z:(p.extract 0 (i+1)).toList=p.toList.take i++[p[i]]:=by
  rw[extract_toList,aT,Qgi hi];rfl
 have a0:(p.toList.take i).length=i:=by rw[av,QbR];omega
 have a4:q=p.toList.take i++[p[i]+1]:=by
  rw[hq,Z,dB _ _ oM,a0,cD];rfl
 have a8:q.length=i+1:=by rw[a4,aj,a0];rfl
 have a1:Qk3 p.toList=some q:=by rw[b4.o,Qpa I,a4]
 have a7:(p.extract 0 (i+1)).toList[i]? = some p[i]:=by rw[Z,aQ oM,a0,cD];rfl
 have a9:((p[i]+1).toNat:Int)=(p[i].toNat:Int)+1:=by
  have h1:(p[i]+1).toNat=p[i].toNat+1:=by
   rw[UInt8.toNat_add];have:p[i].toNat≠255:=λe=>I (UInt8.toNat_inj.1 e)
   show(p[i].toNat+1)%256=_;omega
  omega
 have a5:∀W:World,(∀j (hj:j<q.length),W.cell? ((⟨wr,0,none⟩:Addr).add j)=some (.int .u8 (q[j].toNat:Int)))->∀a3,(convert 249 9 (.slice (some ⟨wr,0,none⟩) (i+1) a3)).run prog W=.ok (.string ⟨q.toArray⟩) W:=λW h a3=>by
  have:=run_convert_bytes_back (P:=prog) W 249 9 5 ⟨wr,0,none⟩ a3 q underlying249 underlying5 underlying9 h;rwa[a8]at this
 obtain⟨c0,b0,HQ,c1,b8⟩:=Yf a5 a1 hq a7 a9;clear hq Z a0 a4 a8 a1 a7 a9 a5;go_upto_region 8 with(fail);generalize b3:World.drew _=W2;obtain⟨c2,f2,l2,a2,N⟩:=QmZ wr (p.extract 0 (i+1)) _ _ (c:=p[i]+1) c1.o W2 b3.symm;rw[b8.o,<-HQ.o]at N;obtain⟨b6,b9⟩:=Yb N a2;clear b3 N a2 b7;go_upto_region 9 with(fail);have a5:=c0.o (W2.setCell ⟨wr,i,none⟩ (.int .u8 ((p[i].toNat:Int)+1))) (λj hj=>by
  rw[Qbc,aD];exact b6.o j _ (ac hj))
 go_wp2_with fail;rw[Exit.noGoto_ret];refine eB (v:=.tuple #[.string ⟨q.toArray⟩,.bool true]) (by simp[results,results232,go_sem]) rfl ?_;exact⟨b9.o.setCell (p:=⟨wr,i,none⟩) (ao _) _,_,_,rfl,by rw[b0.o];exact⟨rfl,QpM q⟩⟩
def Qeo(p:ByteArray)(es:List Ent):List Ent:=es.filter λe=>p.toList.isPrefixOf e.1.toList
theorem QkS.range{p:ByteArray}{e:Ending}(h:QkS p w e w'):∃(N:ByteArray) (ok:Bool),e=.returned (.tuple #[.string N,.bool ok])/\Below w.heap.size w w'/\∀es,QaM p N (!ok) es=Qeo p es:=by
 obtain⟨hb,N,ok,he,I⟩:=h;refine⟨N,ok,he,hb,λes=>?_⟩;refine List.filter_congr λx _=>?_
 rw[Qhm];cases Z:Qk3 p.toList with
 | none=>
   rw[Z]at I;obtain⟨rfl,-⟩:=I;rfl
 | some q=>
   rw[Z]at I;obtain⟨rfl,hq⟩:=I;simp only[inI,Bool.not_true,Bool.false_or,klt,hq]
def QmP(T:RT)(p:ByteArray)(w:World)(e:Ending)(w':World):Prop:=
 ∃(B:Nat) (en:ByteArray) (op:Bool),e=.returned (.func (.func 256) #[] (Qmy B))/\Below w.heap.size w w'/\Qdr w' B T p en op/\w.heap.size<=B/\∀es,QaM p en op es=Qeo p es
theorem QnI(w:World)(T:RT)(p:ByteArray)(hp:p.size<=maxLen):Calls prog 212 #[Qao T,.string p] w (QmP T p w):=by
 have hr:=λW lo hi op=>Qqh W T lo hi op
 have a7:=λW=>Qlc W p hp
 obtain⟨r,N⟩:=Qaj T;rw[Qao,N];simp only[Qao,N]at hr;have a5:Ext w (w.alloc (.cells #[.pointer r] 48)):=(fI w).alloc _ _;have a0:=fK w 48 #[.pointer r];obtain⟨a8,a4,HR,a9⟩:=Ye a5 a0 hr a7;clear a5 a0 hr N a7;go_in;go_wp2_with fail;refine(a9.o _).mono ?_;intro e w1 he;obtain⟨en,ok,rfl,I,a1⟩:=he.range;have a6:=Bw.trans a8.o.below I;have c0:w1.cell? ⟨w,0,none⟩=some (.pointer r):=(a4.o.agree (Agree.of_below I (F:=Lt (w.alloc (.cells #[.pointer r] 48)).heap.size) λ_ h=>h) a4.o.lt).cell 0;obtain⟨a3,b0⟩:=Yb a6 a1;clear he I a1 a6;go_wp2_with fail;refine(HR.o _ _ _ _).mono ?_;rintro e w2 ⟨B,rfl,Z,a2,hB⟩;have HP:=hY (show Below w.heap.size w w2/\Qdr w2 B T p en (!ok)/\w.heap.size<=B from⟨Bw.ext a3.o Z,a2,an a3.o.size hB⟩);clear Z a2 hB;go_wp2_with fail;go_ret;exact⟨B,en,!ok,rfl,HP.o.1,HP.o.2.1,HP.o.2.2,b0.o⟩
def Qux(n:Int):Val:=.mk 3 false n ByteArray.empty [] [] []
def e5:List Ent:=[(⟨#[97]⟩,Qux 1),(⟨#[98]⟩,Qux 3),(⟨#[98,47,49]⟩,Qux 4),(⟨#[98,47,50]⟩,Qux 0),(⟨#[99]⟩,Qux 2)]
open Go.Maps Go.Sort
abbrev QaP(k:ByteArray):List UInt8:=k.data.toList
theorem Qhy(ks:List ByteArray):(ks.map QaP).map encStr=ks.map .string:=by rw[cA];rfl
theorem QpF:∀x y:List UInt8,Op.bytesLess x y=decide (x<y)
 |[],[]=>rfl
 |[],_::_=>rfl
 |_::_,[]=>rfl
 | a :: x,b :: y=>by
   rw[Op.bytesLess,QpF x y];by_cases h1:a<b
   .simp [h1,List.cons_lt_cons_iff]
   by_cases h2:a=b
   .subst h2;simp[List.cons_lt_cons_iff]
   simp[h1,h2,List.cons_lt_cons_iff]
theorem Qur(a b:ByteArray):klt a b=decide (QaP a<QaP b):=by
 show Op.bytesLess a.toList b.toList=_;rw[eD,eD,QpF]
theorem Qgl(ts:List (List UInt8)):(ts.map λl=>(⟨l.toArray⟩:ByteArray)).map QaP=ts:=by
 rw[cA];exact(List.map_congr_left λl _=>rfl).trans (List.map_id _)
theorem QgT{ts:List ByteArray}(h:(ts.map QaP).Pairwise λx y=>decide (x<=y)=true)(Z:ts.Nodup):ts.Pairwise λx y=>klt x y=true:=by
 have h2:=bO.1 h;refine(h2.and Z).imp ?_;rintro x y ⟨N,h4⟩;cases hk:klt x y with
 |true=>rfl
 | false=>
   exfalso;have I:klt y x=true:=QcU hk h4;rw[Qur,eM]at I;rw[eM]at N;exact absurd N (by simpa[List.not_le]using I)
theorem Qhx(l:List (List UInt8)):(l.mergeSort λx y=>decide (x<=y)).Pairwise λx y=>decide (x<=y)=true:=
 List.pairwise_mergeSort (λa b c h1 h2=>by simp only[decide_eq_true_eq]at *;exact List.le_trans h1 h2) (λa b=>by simp only[Bool.or_eq_true,decide_eq_true_eq];exact List.le_total a b) l
variable{s:Sl}{ks:List ByteArray}
theorem QgZ{base:Nat}(N:w.ownsRow base 9 1 (.slice s.a ks.length s.c) ks.length (ks.map .string))(hn:ks.length<=1000000000) :
  Calls prog 175 #[.slice s.a ks.length s.c] w λe w'=>e=.returned (.tuple #[])/\∃ts:List ByteArray,ts.Perm ks/\(ts.map QaP).Pairwise (λx y=>decide (x<=y)=true)/\w'.ownsRow base 9 1 (.slice s.a ts.length s.c) ts.length (ts.map .string)/\ts.length=ks.length/\w.grownBy w' s.row:=by
 rcases N.2 with⟨hv,h0⟩ |⟨g,a1,a6,hv,a4,hg,a5,a2,a3,ht⟩
 ·have hk:ks=[]:=ar h0
  subst hk;refine(AnyM.slices_Sort_string_none Tryz.Qsq s.a s.c w).mono ?_;rintro e w' ⟨rfl,rfl⟩;exact⟨rfl,[],List.Perm.refl _,List.Pairwise.nil,N,rfl,⟨rfl,rfl,rfl,ao _,λ_ _ _=>rfl⟩⟩
 injection hv with h1 h2 h3;obtain⟨sa,sc⟩:=s;dsimp only at h1 h3;subst h1 h3;have hH:Holds encStr w g 0 (ks.map QaP).toArray:=holds_of_block hg (by rw[Qhy,aq];simpa using ht);have hc:=AnyM.slices_Sort_string Tryz.Qsq g 0 sc (ks.map QaP) w hH (az.1 hg).1 (by rw[aq];omega);rw[aq]at hc;refine hc.mono ?_;rintro e w' ⟨rfl,n,os,rfl⟩;have hp:((ks.map QaP).mergeSort λx y=>decide (x<=y)).Perm (ks.map QaP):=List.mergeSort_perm _ _;have a0:((ks.map QaP).mergeSort λx y=>decide (x<=y)).length=ks.length:=by rw[hp.length_eq,aq]
 obtain⟨ts,I⟩:∃ts:List ByteArray,ts.map QaP=(ks.map QaP).mergeSort λx y=>decide (x<=y):=⟨_,Qgl _⟩
 have Z:ts.length=ks.length:=by rw[<-a0,<-I,aq]
 refine⟨rfl,ts,?_,by rw[I];exact Qhx _,?_,Z,by rw[<-I];exact grownBy_sorted _⟩
 ·have hq:(ts.map QaP).Perm (ks.map QaP):=by rw [I];exact hp
  have:=hq.map λl:List UInt8=>(⟨l.toArray⟩:ByteArray)
  rw[cA,cA]at this;rwa[show((λl:List UInt8=>(⟨l.toArray⟩:ByteArray))∘QaP)=id from rfl,List.map_id,List.map_id]at this
 rw[<-I,Z,<-Qhy];have:=ownsRow_sorted (w:=w) (base:=base) (cap:=sc) (n:=n) (os:=os) (ss:=ks.map QaP) (ts:=ts.map QaP) (by rw[aq,aq,Z]) a4 hg (by rw[aq];exact a5) a2 a3;rw[aq]at this;exact this
theorem Tryz.Qla:(prog.info? 9).map (λi=>(i.zero,i.size,i.bytes))=some (some (.string ByteArray.empty),1,16):=kM
def Qau(p k:ByteArray):Bool:=p.toList.isPrefixOf k.toList
theorem Qhl(w:World)(k p:ByteArray):Calls prog 199 #[.string k,.string p] w λe w'=>e=.returned (.bool (Qau p k))/\w'=w:=by
 have I:∀W,Calls prog 214 #[.string k,.string p] W λe w'=>e=.returned (.bool (Qau p k))/\w'=W:=λW=>by
  have:=Any.strings_HasPrefix Tryz.QjR k p W;unfold Qau;rw[eD,eD];exact this
 go_in;go_wp2_with fail;refine(I _).mono ?_;rintro e w' ⟨rfl,rfl⟩;go_wp2_with fail;go_ret;exact⟨rfl,rfl⟩
structure Qdo(w:World)(B:Nat)(ks:List ByteArray)(s:Sl)(W:World):Prop where
 blk:Blk W B 186 #[.slice s.a ks.length s.c]
 own:W.ownsRow (w.heap.size+2) 9 1 (.slice s.a ks.length s.c) ks.length (ks.map .string)
 sb:Sb (λb=>b=B) w W
 sz:w.heap.size+2<=W.heap.size
section
variable{w W W' : World}{B : Nat}{ks : List ByteArray}{s : Sl}
theorem Qdo.row(h:Qdo w B ks s W){b:Nat}(I:s.row=some b):w+2<=b/\b<W:=Qad h.own I
theorem Qdo.keep{G:Nat->Prop}(h:Qdo w B ks s W)(k:Sb G W W')(hB:¬G B)(N:∀b,s.row=some b->¬G b)(Z:∀b,G b->w.heap.size<=b):Qdo w B ks s W':=
 ⟨k.blk h.blk hB,Qab h.own k.agree λb I=>⟨(h.row I).2,N b I⟩,h.sb.comp k λi hi hg=>by have:=Z i hg;omega,an h.sz k.size⟩
theorem Qdo.ext(h:Qdo w B ks s W)(k:Ext W W'):Qdo w B ks s W':=h.keep (k.sb λ_=>False) (λe=>e) (λ_ _ e=>e) λ_ e=>e.elim
theorem Qdo.start(Z:Blk w B 186 #[.slice none 0 0])(I:Ext w W)(N:w.heap.size+2<=W.heap.size):Qdo w B [] Sl.none W:=
 ⟨Z.ext I,eG _ _ _ _,I.sb _,N⟩
theorem Qdo.snoc{W4 w5:World}{s3:Sl}{x:ByteArray}(hB:B<w.heap.size)(h:Qdo w B ks s W)(hx:Ext W W4)(N:w5.ownsRow (w.heap.size+2) 9 1 (.slice s3.a (ks.length+1) s3.c) (ks.length+1) (ks.map .string++[.string x]))(a3:Wr W4 w5 s.row)(a7:s3.a=s.a\/s3.a=some ⟨W4,0,none⟩/\Wr W4 w5 none) :
  Qdo w B (ks++[x]) s3 (w5.setCell ⟨B,0,none⟩ (.slice s3.a (ks.length+1) s3.c))/\St (λb=>b=B\/s.row=some b) W (w5.setCell ⟨B,0,none⟩ (.slice s3.a (ks.length+1) s3.c))/\(∀b,s3.row=some b->s.row=some b\/W.heap.size<=b)/\(∀b,(b=B\/s3.row=some b)->b<(w5.setCell ⟨B,0,none⟩ (.slice s3.a (ks.length+1) s3.c)).heap.size):=by
 have h0:=h.sb.size;have h1:=hx.size;have h2:=a3.grown.size;have hz:=h.sz;have a0:∀b,s3.row=some b->s.row=some b\/W4.heap.size<=b:=λb I=>by
  rcases a7 with e |⟨e,-⟩
  .exact .inl (by rw[<-I];simp[Sl.row,e])
  right;rw[Sl.row,e]at I;simp at I;omega
 have a1:St (λb=>b=B) w5 (w5.setCell ⟨B,0,none⟩ (.slice s3.a (ks.length+1) s3.c)):=(fQ (λb=>b=B) w5).set (p:=⟨B,0,none⟩) (.inr rfl) _;have a5:St (λb=>s.row=some b) W4 w5:=a3.st λi hi=>hi
 have Z:St (λb=>b=B\/s.row=some b) W (w5.setCell ⟨B,0,none⟩ (.slice s3.a (ks.length+1) s3.c)):=((hx.st _).trans (a5.mono λi _ hi=>.inr hi)).trans (a1.mono λi _ hi=>.inl hi);have a2:¬s.row=some B:=λe=>by have:=(h.row e).1;omega
 have a6:(ks++[x]).length=ks.length+1:=sM
 have a4:∀b,s3.row=some b->b<w5.heap.size:=λb I=>(Qad N I).2
 refine⟨⟨?_,?_,?_,by rw[eC];omega⟩,Z,λb I=>(a0 b I).imp id λe=>oM,λb I=>?_⟩
 .rw [a6];exact(a5.blk (h.blk.ext hx) a2).QbH 0 _
 ·rw [a6,aC]
  exact Qab N a1.agree λb I=>⟨a4 b I,λe=>by
   rcases a0 b I with h|h
   .exact a2 (by rw[h,e])
   omega⟩
 .exact h.sb.comp Z.sb λi hi e=>by
   rcases e with e|e
   .exact e
   have:=(h.row e).1;omega
 rw[eC];rcases I with e|e
 .omega
 exact a4 b e
end
inductive Mu where
 |mk (kd:Int) (k tk:ByteArray) (i:Int) (had:Bool) (was:Val) (has:Bool) (v:Val) (l:List Mu)
instance : Inhabited Mu :=⟨.mk 0 ByteArray.empty ByteArray.empty 0 false default false default []⟩
def Mu.kd:Mu->Int | .mk x _ _ _ _ _ _ _ _=>x
def Mu.k:Mu->ByteArray | .mk _ x _ _ _ _ _ _ _=>x
def Mu.tk:Mu->ByteArray | .mk _ _ x _ _ _ _ _ _=>x
def Mu.i:Mu->Int | .mk _ _ _ x _ _ _ _ _=>x
def Mu.had:Mu->Bool | .mk _ _ _ _ x _ _ _ _=>x
def Mu.was:Mu->Val | .mk _ _ _ _ _ x _ _ _=>x
def Mu.has:Mu->Bool | .mk _ _ _ _ _ _ x _ _=>x
def Mu.v:Mu->Val | .mk _ _ _ _ _ _ _ x _=>x
def Mu.l:Mu->List Mu | .mk _ _ _ _ _ _ _ _ x=>x
theorem Mu.Qb6(m:Mu):0<SizeOf.sizeOf m:=by cases m;simp;omega
mutual
def Qa0:Mu->Nat
 |.mk _ _ _ _ _ _ _ _ l=>1+QaF l
def QaF:List Mu->Nat
 |[]=>0
 |m::r=>Qa0 m+QaF r
end
def Qd9(v:Val):Bool:=v.kind==0 && !v.b&&v.i==0&&v.t.size==0&&v.l.length==0&&v.ok.length==0
def QbJ(kd:Int)(k tk:ByteArray)(i:Int)(had:Bool)(was:Val)(has:Bool)(v:Val)(n:Nat):Bool:=
 decide (1<=kd/\kd<=7)&&(kd==6||tk.size==0)&&(kd==3||i==0)&&(kd==4||kd==7 || !had)&&(kd==4 || !has)&&(had||Qd9 was)&&(kd==1||kd==5 ||(kd==4&&has)||Qd9 v)&&(kd==7||n==0)
def Qol(p:ByteArray):Bool:=decide (p.size<=64)&&Lib.validD p.data.toList
def QgF(kd:Int)(k tk:ByteArray)(had:Bool):Bool:=
 if kd=6 then Qol k&&Qol tk else if kd=7/\k.size=0 then !had else Qci k==0
def QhW(kd:Int)(has:Bool):Bool:=kd==1||kd==5 ||(kd==4&&has)
mutual
def QaS:Mu->Nat->Int
 |.mk kd k tk i had was has v l,deep=>if !QbJ kd k tk i had was has v l.length then 9 else if 6<deep then 5 else if !QgF kd k tk had then 8 else if had&&QcP was != 0 then QcP was else if QhW kd has&&QcP v != 0 then QcP v else Qb5 l (deep+1)
def Qb5:List Mu->Nat->Int
 |[],_=>0
 |m::r,deep=>if QaS m deep≠0 then QaS m deep else Qb5 r deep
end
def QbP(m:Mu):Int:=if 64<Qa0 m then 6 else QaS m 1
def asM(M:List Ent)(k:ByteArray)(had:Bool)(was:Val):Bool:=match Qaq M k with
 |some x=>had&&decide (Qbq x was=0)
 |none=>!had
def setMu(M:List Ent)(k:ByteArray)(v:Val):Int × List Ent:=if Qci k≠0 then(8,M)else if QcP v≠0 then(QcP v,M)else(0,QbY M k v)
def Qlb(n:Int):Val:=.mk 3 false n ByteArray.empty [] [] []
def QuP(l:List Val):Val:=.mk 5 false 0 ByteArray.empty l [] []
def Qoy(M:List Ent)(k:ByteArray)(n by_:Int):Int × List Ent:=if(0<by_/\9223372036854775807-by_<n)\/(by_<0/\n < -9223372036854775808-by_)then(7,M)else setMu M k (Qlb (n+by_))
def Qeb(M:List Ent)(k:ByteArray)(by_:Int):Int × List Ent:=match Qaq M k with
 |some x=>if x.kind≠3 then(9,M)else Qoy M k x.i by_
 |none=>Qoy M k 0 by_
def Qoo(M:List Ent)(k:ByteArray)(l:List Val)(x:Val):Int × List Ent:=if 256<=l.length then(6,M)else setMu M k (QuP (l++[x]))
def Qq1(M:List Ent)(k:ByteArray)(x:Val):Int × List Ent:=match Qaq M k with
 |some y=>if y.kind≠5 then(9,M)else Qoo M k y.l x
 |none=>Qoo M k [] x
def QbB(from_ tk k:ByteArray):ByteArray:=tk++k.extract from_.size k.size
def QcF(M:List Ent)(from_ tk:ByteArray):List Ent->Int
 |[]=>0
 |e::r=>if Qci (QbB from_ tk e.1)≠0 then 8 else if(Qaq M (QbB from_ tk e.1)).isSome && !Qau from_ (QbB from_ tk e.1)then 13 else QcF M from_ tk r
def Qqm(M:List Ent)(from_:ByteArray):List Ent:=M.filter λe=>!Qau from_ e.1
def QjI(M:List Ent)(from_:ByteArray):List Ent:=M.filter λe=>Qau from_ e.1
def QgM(M:List Ent)(from_ tk:ByteArray):Int × List Ent:=
 if QcF M from_ tk (QjI M from_)≠0 then(QcF M from_ tk (QjI M from_),M)else(0,QdC (Qqm M from_) ((QjI M from_).map λe=>(QbB from_ tk e.1,e.2)))
mutual
def stepM:Mu->List Ent->Int × List Ent
 | .mk kd k tk i had was has v l,M=>
   if kd=1 then setMu M k v
   else if kd=2 then(if(Qaq M k).isSome then(0,QbM M k)else(12,M))
   else if kd=3 then Qeb M k i
   else if kd=4 then(if asM M k had was then(if has then setMu M k v else(0,QbM M k))else(13,M))
   else if kd=5 then Qq1 M k v
   else if kd=6 then QgM M k tk
   else if kd=7 then(if asM M k had was then(if(QkQ l M).1≠0 then((QkQ l M).1,M)else QkQ l M)else(13,M))
   else(9,M)
def QkQ:List Mu->List Ent->Int × List Ent
 |[],M=>(0,M)
 |m::r,M=>if(stepM m M).1≠0 then((stepM m M).1,M)else QkQ r (stepM m M).2
end
def runM(M:List Ent)(m:Mu):Int × List Ent:=if QbP m≠0 then(QbP m,M)else stepM m M
structure MuS where
 w1:Sl
 w2:Sl
 v1:Sl
 v2:Sl
 s:Sl
instance : Inhabited MuS :=⟨⟨Sl.none, Sl.none, Sl.none, Sl.none, Sl.none⟩⟩
def Qan(m:Mu)(c:MuS):List Value:=[.int .i64 m.kd,.string m.k,.string m.tk,.int .i64 m.i,.bool m.had,.int .i64 m.was.kind,.bool m.was.b,.int .i64 m.was.i,.string m.was.t,.slice c.w1.a m.was.l.length c.w1.c,.slice c.w2.a m.was.ok.length c.w2.c,.bool m.has,.int .i64 m.v.kind,.bool m.v.b,.int .i64 m.v.i,.string m.v.t,.slice c.v1.a m.v.l.length c.v1.c,.slice c.v2.a m.v.ok.length c.v2.c,.slice c.s.a m.l.length c.s.c]
abbrev Qaz(m:Mu)(c:MuS):Value:=.agg (Qan m c).toArray
def MuC(w:World)(b o:Nat)(m:Mu)(c:MuS):Prop:=∀(j:Nat) (u:Value),(Qan m c)[j]? = some u->w.cell? ⟨b,o+j,none⟩=some u
variable{c:MuS}
theorem MuC.agree{b o:Nat}{m:Mu}(h:MuC w b o m c)(N:Agree F w w')(I:F b):MuC w' b o m c:=λj u hu=>(N.cell I).trans (h j u hu)
inductive RMu (w:World) (F:Nat->Prop):Mu->MuS->Prop
 |mk {kd:Int} {k tk:ByteArray} {i:Int} {had:Bool} {was:Val} {has:Bool} {v:Val} {l:List Mu} {c:MuS} (bl fl:Nat) (cl:Nat->MuS)
    (rw_:RV w F was c.w1 c.w2) (rv:RV w F v c.v1 c.v2) (hl:Qd5 F c.s l.length bl fl)
    (el:∀j m,l[j]? = some m->MuC w bl (fl+j*19) m (cl j)) (rl:∀j m,l[j]? = some m->RMu w F m (cl j))
    (bk:k.size<=maxLen) (bt:tk.size<=maxLen) (bkd:(Lit.int .i64 kd).wf=true) (bi:(Lit.int .i64 i).wf=true) (nl:l.length*264<=140737488355328):RMu w F (.mk kd k tk i had was has v l) c
theorem RMu.agree{m:Mu}(h:RMu w F m c)(N:Agree F w w'):RMu w' F m c:=by
 induction h with
 | mk bl fl cl rw_ rv hl el rl bk bt bkd bi nl ih=>
   exact .mk bl fl cl (rw_.agree N) (rv.agree N) hl (λj m I=>(el j m I).agree N (hl.fits (QaW I))) (λj m I=>ih j m I) bk bt bkd bi nl
variable{G:Nat->Prop}
theorem RMu.mono{m:Mu}(h:RMu w F m c)(I:∀i,F i->G i):RMu w G m c:=by
 induction h with
 | mk bl fl cl rw_ rv hl el rl bk bt bkd bi nl ih=>
   exact .mk bl fl cl (rw_.mono I) (rv.mono I) (hl.mono I) el (λj m N=>ih j m N) bk bt bkd bi nl
mutual
def QcC:Mu->Nat
 |.mk kd k tk i had was has v l=>8+k.size+tk.size+QcI was+QcI v+Qcc l
def Qcc:List Mu->Nat
 |[]=>0
 |m::r=>QcC m+Qcc r
end
theorem Qgb:∀{l:List Mu} {j:Nat} {m:Mu},l[j]? = some m->QcC m<=Qcc l
 |[],j,m,h=>by simp at h
 | x :: r,0,m,h=>by
   have:x=m:=by simpa using h
   subst this;rw[Qcc];omega
 |x::r,j+1,m,h=>by have:=Qgb (l:=r) (j:=j) (m:=m) (by simpa using h);rw[Qcc];omega
theorem Qde:∀{l:List Mu} {j:Nat} {m:Mu},l[j]? = some m->QaF (l.take (j+1))=QaF (l.take j)+Qa0 m
 |[],j,m,h=>by simp at h
 | x :: r,0,m,h=>by
   have:x=m:=by simpa using h
   subst this;simp[QaF]
 | x :: r,j+1,m,h=>by
   rw[bp,bp,QaF,QaF,Qde (l:=r) (j:=j) (by simpa using h),bH]
theorem Qqw(n:Nat):∀m:Mu,SizeOf.sizeOf m<=n->Qa0 m<=QcC m:=by
 induction n with
 |zero=>intro m h;have:=Mu.Qb6 m;omega
 | succ n ih=>
   intro m h;obtain⟨kd,k,tk,i,I,Z,a0,v,l⟩:=m;simp only[Mu.mk.sizeOf_spec]at h;have hs:∀l:List Mu,SizeOf.sizeOf l<=n->QaF l<=Qcc l:=by
    intro l
    induction l with
    |nil=>intro _;simp[QaF]
    | cons a r ihr=>
      intro N;simp only[List.cons.sizeOf_spec]at N;have h1:=ih a oM;have h2:=ihr oM;rw[QaF,Qcc];omega
   have h1:=hs l oM;rw[Qa0,QcC];omega
theorem Qsp(m:Mu):Qa0 m<=QcC m:=Qqw _ m (ao _)
theorem Qgz{P:ByteArray->Bool}:∀{M:List Ent} (k:ByteArray),Qaq (M.filter λe=>P e.1) k=if P k then Qaq M k else none
 |[],k=>by simp[Qaq]
 | e :: r,k=>by
   have N:=Qgz (P:=P) (M:=r) k;rw[bA];by_cases I:e.1=k
   ·subst I
    cases Z:P e.1 with
    |true=>simp[Qaq]
    |false=>rw[eh sM,N,Z];simp
   cases Z:P e.1 with
   | true=>
     rw[eu rfl,Qaq,eh I,N];congr 1;rw[Qaq,eh I]
   | false=>
     rw[eh sM,N];congr 1;rw[Qaq,eh I]
def QeE(M:List Ent)(ks:List ByteArray):List Ent:=ks.foldl QbM M
theorem Qjt:∀{M:List Ent},Sorted M->Sorted (QeE M ks):=by
 induction ks with
 |nil=>exactλh=>h
 |cons k r ih=>exactλh=>ih (QaN h k)
theorem QoW:∀{M:List Ent},Sorted M->∀x,(x∈ks->Qaq (QeE M ks) x=none)/\(x∉ks->Qaq (QeE M ks) x=Qaq M x):=by
 induction ks with
 |nil=>intro M h x;exact⟨λh=>absurd h sM,λ_=>rfl⟩
 | cons k r ih=>
   intro M h x;obtain⟨Z,N⟩:=ih (QaN h k) x;refine⟨λI=>?_,λI=>?_⟩
   ·show Qaq (QeE (QbM M k) r) x=_
    by_cases h1:x∈r
    .exact Z h1
    have h2:x=k:=(aH.1 I).resolve_right h1;rw[N h1,Qcx _ _ _ h,eu h2]
   show Qaq (QeE (QbM M k) r) x=_;rw[N λh1=>I (aR _ h1),Qcx _ _ _ h,eh (λe:x=k=>I (by rw[e];exact aF ..))]
variable{M:List Ent}
theorem Qkn(h:Sorted M)(p:ByteArray):Sorted (Qqm M p):=h.sublist (cz ..)
theorem Qm8(h:Sorted M)(p:ByteArray):QeE M (Qfh (Qau p) M)=Qqm M p:=
 Qe0 (Qjt h) (Qkn h p) λx=>by
  obtain⟨Z,N⟩:=QoW (ks:=Qfh (Qau p) M) h x;unfold Qqm;rw[Qgz (P:=λk=>!Qau p k)];by_cases h1:x∈Qfh (Qau p) M
  .rw [Z h1,eh (by simp[((QgL h).1 h1).1])]
  rw[N h1];cases I:Qau p x with
  |false=>rw[eu (by rfl)]
  | true=>
    rw[eh sM];cases hg:Qaq M x with
    |none=>rfl
    |some v=>exact absurd ((QgL h).2 ⟨I,by rw[hg];rfl⟩) h1
theorem QhC{M:List Ent}{f t:ByteArray}:∀{L:List Ent} {e:Ent},QcF M f t L=0->e∈L->Qci (QbB f t e.1)=0
 |[],e,_,h=>by cases h
 | x :: r,e,h,I=>by
   rw[QcF]at h;by_cases h1:Qci (QbB f t x.1)=0
   ·rw [eh (by simp [h1])] at h
    rcases aH.1 I with rfl|I
    .exact h1
    split at h
    .cases h
    exact QhC h I
   rw[eu h1]at h;cases h
theorem QhB{M:List Ent}{f t:ByteArray}:∀{L:List Ent} {j:Nat},QcF M f t (L.take j)=0->QcF M f t L=QcF M f t (L.drop j)
 |L,0,_=>rfl
 |[],j+1,_=>sM
 | x :: r,j+1,h=>by
   rw[bp,QcF]at h;rw[QcF,di];by_cases h1:Qci (QbB f t x.1)=0
   ·rw [eh (by simp [h1])] at h ⊢
    split at h
    .cases h
    rename_i h2;rw[eh h2];exact QhB h
   rw[eu h1]at h;cases h
variable{j:Nat}{e:Ent}
theorem QrU{f t:ByteArray}{L:List Ent}(h:QcF M f t (L.take j)=0)(I:L[j]? = some e) :
  QcF M f t L=if Qci (QbB f t e.1)≠0 then 8 else if(Qaq M (QbB f t e.1)).isSome && !Qau f (QbB f t e.1)then 13 else QcF M f t (L.drop (j+1)):=by
 obtain⟨h1,h2⟩:=ai.1 I;rw[QhB h,aE h1,h2,QcF]
theorem QhD{M:List Ent}{f t:ByteArray}:∀{L:List Ent} {j:Nat} {e:Ent},QcF M f t (L.take j)=0->L[j]? = some e->Qci (QbB f t e.1)=0->((Qaq M (QbB f t e.1)).isSome && !Qau f (QbB f t e.1))=false->QcF M f t (L.take (j+1))=0
 |[],j,e,_,he,_,_=>by simp at he
 | x :: r,0,e,_,he,h1,h2=>by
   have:x=e:=by simpa using he
   subst this;rw[bp,dy,QcF,eh (by simp[h1]),eh (by simp[h2]),QcF]
 | x :: r,j+1,e,h,he,h1,h2=>by
   rw[bp,QcF]at h ⊢;by_cases I:Qci (QbB f t x.1)=0
   ·rw [eh (by simp [I])] at h ⊢
    split at h
    .cases h
    rename_i h4;rw[eh h4];exact QhD h (by simpa using he) h1 h2
   rw[eu I]at h;cases h
theorem QjJ(M:List Ent)(p:ByteArray):Qfh (Qau p) M=(QjI M p).map Prod.fst:=rfl
theorem QgY(M:List Ent)(k:ByteArray)(v:Val):(setMu M k v).2.length<=M.length+1:=by
 unfold setMu;split
 .exact ct _
 split
 .exact ct _
 have:=QcA M k v;show(QbY M k v).length<=_;omega
theorem QkC(P:Ent->Bool):∀M:List Ent,(M.filter λe=>!P e).length+(M.filter P).length<=M.length
 |[]=>sM
 | e :: r=>by
   have N:=QkC P r;rw[bA,bA];cases I:P e
   .rw [eu (by rfl),eh sM];simp only[List.length_cons];omega
   rw[eh sM,eu rfl];simp only[List.length_cons];omega
theorem QpN(M:List Ent)(f t:ByteArray):(QgM M f t).2.length<=M.length:=by
 unfold QgM;split
 .exact ao _
 have h1:=QnJ ((QjI M f).map λe=>(QbB f t e.1,e.2)) (Qqm M f);rw[aq]at h1;exact an h1 (QkC (λe=>Qau f e.1) M)
theorem QmA(M:List Ent)(k:ByteArray)(l:List Val)(x:Val):(Qoo M k l x).2.length<=M.length+1:=by
 unfold Qoo;split
 .exact ct _
 exact QgY ..
theorem QlP(M:List Ent)(k:ByteArray)(n b:Int):(Qoy M k n b).2.length<=M.length+1:=by
 unfold Qoy;split
 .exact ct _
 exact QgY ..
theorem QoU(M:List Ent)(k:ByteArray):(QbM M k).length<=M.length:=(Qa3 M k).length_le
theorem QnY(n:Nat):∀(m:Mu) (M:List Ent),SizeOf.sizeOf m<=n->(stepM m M).2.length<=M.length+Qa0 m:=by
 induction n with
 |zero=>intro m M h;have:=Mu.Qb6 m;omega
 | succ n ih=>
   intro m M h;obtain⟨kd,k,tk,i,I,a0,N,v,l⟩:=m;simp only[Mu.mk.sizeOf_spec]at h;have hs:∀(l:List Mu) (M:List Ent),SizeOf.sizeOf l<=n->(QkQ l M).2.length<=M.length+QaF l:=by
    intro l
    induction l with
    |nil=>intro M _;simp[QkQ,QaF]
    | cons a r ihr=>
      intro M Z;simp only[List.cons.sizeOf_spec]at Z;unfold QkQ QaF;split
      .show M.length<=_;omega
      have h1:=ih a M oM;have h2:=ihr (stepM a M).2 oM;omega
   unfold stepM Qa0;have h1:=QgY M k v;have h2:=QoU M k;have h3:=QpN M k tk;have h4:=hs l M oM;split
   .omega
   split
   ·split
    .show (QbM M k).length<=_;omega
    show M.length<=_;omega
   split
   ·unfold Qeb
    split
    ·rename_i x _
     split
     .show M.length<=_;omega
     have:=QlP M k x.i i;omega
    have:=QlP M k 0 i;omega
   split
   ·split
    ·split
     .omega
     show(QbM M k).length<=_;omega
    show M.length<=_;omega
   split
   ·unfold Qq1
    split
    ·rename_i y _
     split
     .show M.length<=_;omega
     have:=QmA M k y.l v;omega
    have:=QmA M k [] v;omega
   split
   .omega
   split
   ·split
    ·split
     .show M.length<=_;omega
     omega
    show M.length<=_;omega
   show M.length<=_;omega
theorem Qkv(m:Mu)(M:List Ent):(stepM m M).2.length<=M.length+Qa0 m:=QnY _ m M (ao _)
section
variable{H : Type}{enc : TypeId × Value -> H}{P : Program}{w : World}{held : Bool}
theorem Qwl:∀{l:List (DataW H)} {i:Nat} {d:DataW H},l[i]? = some d->Rows.uptoBulk d<=Rows.uptoBulkAll l
 |[],i,d,h=>by simp at h
 | x :: l,0,d,h=>by
   have:x=d:=by simpa using h
   subst this;simp only[Rows.uptoBulkAll];omega
 | x :: l,i+1,d,h=>by
   have:=Qwl (l:=l) (i:=i) (d:=d) (by simpa using h);simp only[Rows.uptoBulkAll];omega
theorem Qc1{t e:TypeId}{C B a0:Nat}{cs:List Value}{x:DataW H × List MemPlace}(ht:P.underlying t=some (.slice e))(hC:P.cellsOf e=C)(hB:P.bytesOf e=B)(b3:0<C)
  (h:tr enc P w held a0 t cs=some x) (hw:WOk P t x.1) :
  ∃(n I:Nat) (s:Sl) (b o:Nat) (es:List (DataW H)),a0=n+1/\cs=[.slice s.a I s.c]/\Qd5 (Lt w) s I b o/\I*B<=140737488351232/\es.length=I/\Rows.uptoBulkAll es+1<=Rows.uptoBulk x.1/\
   ∀i,i<I->∃N y,N.length=C/\(∀j,j<C->w.cell? ⟨b,o+i*C+j,none⟩=N[j]?)/\tr enc P w held n e N=some y/\WOk P e y.1/\es[i]? = some y.1:=by
 rcases DataW.trod_slice ht h with⟨rfl,rfl⟩ |⟨a,I,a7,Z,rest,n,a9,b0,hx,-,hl,hm,a6,a8,c1,-⟩
 ·cases a0 with
  |zero=>simp[tr,DataW.trod]at h
  |succ n=>exact⟨n,0,Sl.none,0,0,[],rfl,rfl,.nil _ _,oM,rfl,by simp[Rows.uptoBulk,Rows.uptoBulkAll],λi hi=>oM⟩
 obtain⟨n',a4,s,b,o,c0,a2,hs,b8,he⟩:=QqF ht hC hB b3 h hw;subst b0 hx a9;obtain rfl:n=n':=oM
 have a5:Value.slice (some a) I a7=.slice s.a a4 s.c:=by simpa using a2
 injection a5 with e1 e2 e3;subst e2;refine⟨n,I,s,b,o,Z.map (·.1),rfl,a2,hs,b8,by rw[aq];exact a6,by simp only[Rows.uptoBulk];omega,λi hi=>?_⟩;obtain⟨N,y,b7,hc,a3,b4⟩:=he i hi;refine⟨N,y,b7,hc,a3,b4,?_⟩;have hE:=a8 i hi;rw[ac oM]at hE;obtain⟨b6,h1,h2⟩:=du.1 hE;obtain⟨-,b5,a1⟩:=World.cells?_some h1;rw[hC]at b5 a1;have b9:s.a=some ⟨b,o,none⟩:=(hs.eq oM).1;rw[b9]at e1;obtain rfl:a=⟨b,o,none⟩:=by injection e1
 have:b6=N:=by
  refine bI λj=>?_
  by_cases hj:j<C
  ·have:=a1 j hj
   rw[Go.WideShapes.add_plain,Go.WideShapes.add_plain]at this;rw[<-hc j hj,<-this]
  rw[aJ oM,aJ oM]
 subst this;rw[au,ac oM];have:some (Z[i]' oM)=some y:=by rw[<-h2];exact a3
 simp only[Option.map_some];injection this with this;rw[this]
theorem QcD{t:TypeId}{fs:List Field}{I:Nat}{cs:List Value}{x:DataW H × List MemPlace}(ht:P.underlying t=some (.struct fs.toArray))(h:tr enc P w held I t cs=some x)(hw:WOk P t x.1) :
  ∃n ds,I=n+1/\cs.length=P.cellsOf t/\x.1=.agg ds/\∀(i:Nat) (f:Field),fs[i]? = some f->∃y,tr enc P w held n f.type ((cs.drop f.offset).take (P.cellsOf f.type))=some y/\WOk P f.type y.1/\ds[i]? = some y.1:=by
 obtain⟨xs,n,rfl,rfl,hl,Z,hf⟩:=DataW.trod_struct ht h;refine⟨n,xs.map (·.1),rfl,hl,rfl,λi f hi=>?_⟩;have a0:(DataW.weightsEach P (fs.map (·.type)) (xs.map (·.1))).all (·<=reachBytes)=true:=by
  have:=hw;simpa[WOk,DataW.weights,ht]using this
 have a1:i<fs.length:=(ai.1 hi).1;have h1:=hf i f (by simpa using hi);have N:i<xs.length:=by simp at Z;omega
 rw[ac N]at h1;exact⟨_,h1,weightsEach_at a0 i _ _ (by rw[au,hi];rfl) (by rw[au,ac N];rfl),by rw[au,ac N];rfl⟩
end
theorem Qc3{H:Type}(d:DataW H):1<=Rows.uptoBulk d:=by
 cases d with
 |lit l=>cases l<;>simp[Rows.uptoBulk]
 |_=>simp[Rows.uptoBulk]
variable{H:Nat->Prop}{O:Nat}{d:OD}
theorem Qk1(h:QcK H w O d)(hm:d.mb=none):Calls prog 96 #[.pointer (some ⟨O,0,none⟩)] w λe w'=>e=.returned (Qao d.T)/\Nw w w':=by
 have c0:w.cell? ⟨O,0,none⟩=some (QaK d.T):=h.blk.cell 0;have c1:w.cell? ⟨O,1,none⟩=some (.map none):=by have:=h.blk.cell 1;rw[hm]at this;exact this
 have lO:=h.blk.lt;obtain⟨r,hr⟩:=Qaj d.T;rw[Qao,hr];rw[hr]at c0;have l1:O<w.heap.size+1:=oM
 have l2:O<w.heap.size+1+1:=oM
 clear h hm hr;go_in;go_wp2_with fail;generalize a4:World.alloc _ _=W0;obtain⟨a2,a1,I,N⟩:=Qas w _ _ _ _ W0 a4;obtain⟨a7,a8,a6,a9⟩:=Ye a2 I N a1;clear a4 a2 I N l1 l2 a1;refine((ez (n:=5)).1 (Tryz.Qhz none W0)).mono ?_;rintro e w' ⟨rfl,rfl⟩;go_wp2_with fail;refine((ez (n:=5)).1 (Tryz.Qdg W0)).mono ?_;rintro e w2 ⟨v,ss,rfl,rfl,a5,a0,a3⟩;obtain rfl:=a0.2 rfl;have Z:Nw W0 w2:=(fJ ((fI W0).alloc #[.map none] 181)).trans (Sb.new a3);have I:=Z.blk a8.o;have N:=Z.blk a6.o;have q0:w2.cell? ⟨w,0,none⟩=some (.pointer none):=I.cell 0;have q1:w2.cell? ⟨w+1,0,none⟩=some (.pointer r):=N.cell 0;have f0:=I.frozen 0;have k0:=I.lt;have k1:=N.lt;have HN:=hY (show Nw w (w2.setCell ⟨w,0,none⟩ (.pointer r))from
  (((fJ a7.o).any (λb=>w<=b)).trans (Z.any _)).set (p:=⟨w,0,none⟩) (.inl (ao _)) _ |>.mono λi hi e=>oM)
 clear a5 a0 a3 Z I N c0 c1;go_wp2_with fail;go_loopw[23] (λq wr=>q=.int .i64 0/\wr=w2) (λ_ _=>0)
 case atStart=>exact⟨rfl,rfl⟩
 obtain⟨rfl,rfl⟩:=hrel;go_wp2_with fail;refine eB (v:=.agg #[.pointer r]) (by simp[results,results96,go_sem,q0]) rfl ?_;exact⟨rfl,HN.o⟩
def Qi1(C:AL SV)(pre:List LE):List ByteArray:=(pre.filter λx=>(QaZ C x.k).isNone).map LE.k
variable{C:AL SV}{x:LE}
theorem Qr4(h:QaZ C x.k=none):Qi1 C (pre++[x])=Qi1 C pre++[x.k]:=by
 unfold Qi1;rw[cm,aC,bA,eu (by rw[h];rfl)];rfl
theorem QtA{s:SV}(h:QaZ C x.k=some s):Qi1 C (pre++[x])=Qi1 C pre:=by
 unfold Qi1;rw[cm,aC,bA,eh (by rw[h];simp)];simp
theorem Qmt(C:AL SV)(pre:List LE):(Qi1 C pre).length<=pre.length:=by
 unfold Qi1;rw[aq];exact bU _ _
def Qnh(C:AL SV)(p k:ByteArray):Bool:=match QaZ C k with
 |some s=>s.has&&Qau p k
 |none=>false
abbrev QbL(l:List UInt8):ByteArray:=⟨l.toArray⟩
def Qc7(C:AL SV)(p:ByteArray)(ss:List (List UInt8)):List ByteArray:=(ss.map QbL).filter (Qnh C p)
theorem Qpl{p:ByteArray}{ss:List (List UInt8)}{x:List UInt8}(h:Qnh C p (QbL x)=true):Qc7 C p (ss++[x])=Qc7 C p ss++[QbL x]:=by
 unfold Qc7;rw[aC,cm,List.map_singleton,bA,eu h];rfl
theorem Ql7{p:ByteArray}{ss:List (List UInt8)}{x:List UInt8}(h:Qnh C p (QbL x)=false):Qc7 C p (ss++[x])=Qc7 C p ss:=by
 unfold Qc7;rw[aC,cm,List.map_singleton,bA,eh (by rw[h];simp)];simp
theorem Qpk(C:AL SV)(p:ByteArray)(ss:List (List UInt8)):(Qc7 C p ss).length<=ss.length:=by
 unfold Qc7;have:=bU (Qnh C p) (ss.map QbL);rwa[aq]at this
theorem QdL(C:AL SV):strKeys (mapA SV.val C)=C.map λq=>QaP q.1:=by
 show(C.map (Qsx SV.val)).map _=_;rw[cA];rfl
theorem Qpy{a b:ByteArray}(h:klt a b=true):a≠b:=λe=>by rw[e,Qag]at h;cases h
variable{xs:List LE}
theorem Qqb{p:ByteArray}(hs:Sorted (Qaa d.T))(hC:Qay d.C)(hx:xs.map LE.ent=Qeo p (Qaa d.T)){ss:List (List UInt8)}(hp:ss.Perm (d.C.map λq=>QaP q.1)) :
  (Qi1 d.C xs++Qc7 d.C p ss).Nodup/\∀k,k∈Qi1 d.C xs++Qc7 d.C p ss↔(Qau p k=true/\(d.now k).isSome=true):=by
 have hsp:(Qeo p (Qaa d.T)).Pairwise λa b=>klt a.1 b.1=true:=hs.sublist (cz ..)
 rw[<-hx]at hsp;have hk1:(xs.map LE.k).Pairwise λa b=>klt a b=true:=bO.2 (bO.1 hsp)
 have hn1:(Qi1 d.C xs).Nodup:=((bO.2 ((bO.1 hk1).sublist (cz ..))).imp λh=>Qpy h);have hnC:(d.C.map λq=>QaP q.1).Nodup:=bO.2 (hC.imp λ{a b} h (e:QaP a.1=QaP b.1)=>Qpy h (congrArg QbL e:QbL (QaP a.1)=QbL (QaP b.1)));have hns:(ss.map QbL).Nodup:=bO.2 ((hp.nodup_iff.2 hnC).imp λ{a b} h (e:QbL a=QbL b)=>h (congrArg QaP e:QaP (QbL a)=QaP (QbL b)));have hn2:(Qc7 d.C p ss).Nodup:=hns.sublist (cz ..);have hm1:∀k,k∈Qi1 d.C xs↔(Qau p k=true/\(Qaq (Qaa d.T) k).isSome=true/\QaZ d.C k=none):=λk=>by
  have hmem:∀(e:Ent),e∈xs.map LE.ent↔(e∈Qaa d.T/\Qau p e.1=true):=λe=>by rw[hx];exact cf
  unfold Qi1;rw[bW];constructor
  ·rintro ⟨x,hx',rfl⟩
   obtain⟨h1,h2⟩:=cf.1 hx';obtain⟨h3,h4⟩:=(hmem x.ent).1 (dj h1);exact⟨h4,by have:=Qis hs h3;rw[show x.ent.1=x.k from rfl]at this;rw[this];rfl,Option.isNone_iff_eq_none.1 h2⟩
  rintro⟨h1,h2,h3⟩;obtain⟨v,hv⟩:=cN.1 h2;obtain⟨x,hx',he⟩:=bW.1 ((hmem (k,v)).2 ⟨QdW hv,h1⟩);have hxk:x.k=k:=congrArg Prod.fst he;exact⟨x,cf.2 ⟨hx',by rw[hxk,h3];rfl⟩,hxk⟩
 have hm2:∀k,k∈Qc7 d.C p ss↔Qnh d.C p k=true:=λk=>by
  unfold Qc7;rw[cf];refine⟨λh=>h.2,λh=>⟨?_,h⟩⟩;unfold Qnh at h;cases hg:QaZ d.C k with
  |none=>rw[hg]at h;cases h
  | some s=>
    have h5:QaP k∈ss:=hp.mem_iff.2 (bW.2 ⟨(k,s),QeJ hg,rfl⟩);exact bW.2 ⟨QaP k,h5,rfl⟩
 refine⟨List.nodup_append.2 ⟨hn1,hn2,λa ha b hb e=>?_⟩,λk=>?_⟩
 ·subst e
  have h1:=((hm1 a).1 ha).2.2;have h2:=(hm2 a).1 hb;unfold Qnh at h2;rw[h1]at h2;cases h2
 rw[aS,hm1,hm2];unfold Qnh;cases hg:QaZ d.C k with
 |none=>rw[Qmo hg];simp
 | some s=>
   rw[Qmp hg];unfold SV.opt;cases hh:s.has<;>cases Qau p k<;>simp[hh]
theorem QsW{x:List UInt8}{N:DataW Value}{yp:List MemPlace}{c:Value}(I:∀zd,(mapA SV.val C).atKey (.string x) zd=N)(Z:QeO c=some (N,yp)):∃sv,QaZ C (QbL x)=some sv/\c=sv.val:=by
 have h1:=Qgh SV.val C (QbL x);cases hg:QaZ C (QbL x)with
 | none=>
   simp only[hg]at h1;have a:=(h1 .nil).symm.trans (I .nil);have b:=(h1 (.held (.bool true))).symm.trans (I _);rw[<-a]at b;cases b
 | some s=>
   simp only[hg]at h1;have a:=(h1 .nil).symm.trans (I .nil);rw[<-a]at Z;exact⟨s,rfl,QeP Z⟩
theorem Qk9{p k:ByteArray}{s:SV}(h:QaZ C k=some s):Qnh C p k=(s.has&&Qau p k):=by unfold Qnh;rw[h]
theorem Qj5{α:Type}[DecidableEq α]:∀{ss l:List α},ss.Nodup->(∀x∈ss,x∈l)->ss.length<=l.length
 |[],l,_,_=>aA _
 | a :: ss,l,hn,hs=>by
   have Z:=hs a (aF ..);have I:=List.nodup_cons.1 hn;have:=Qj5 (ss:=ss) (l:=l.erase a) I.2 λx N=>(List.mem_erase_of_ne (λe=>I.1 (by rw[<-e];exact N))).2 (hs x (aR _ N))
   have he:=List.length_erase_of_mem Z;have:0<l.length:=List.length_pos_of_mem Z;simp only[List.length_cons];omega
theorem Qgq{left:Lit->Bool}{ss:List (List UInt8)}(h:Collected (mapA SV.val C) left ss):ss.length<=C.length:=by
 have h2:=Qj5 (l:=C.map λq=>QaP q.1) h.1 λx I=>by
  have:=((h.2 x).1 I).1;rw[show Lit.string x=Qfz (QbL x)from rfl,Ql5]at this;obtain⟨s,hs⟩:=cN.1 this;exact bW.2 ⟨(QbL x,s),QeJ hs,rfl⟩
 rwa[aq]at h2
def QlO(d:OD)(p:ByteArray)(w:World)(e:Ending)(w':World):Prop:=
 ∃(s:Sl) (ks:List ByteArray),e=.returned (.slice s.a ks.length s.c)/\Nw w w'/\Rd w' (In w.heap.size w'.heap.size) 1 s ks.length (ks.map .string)/\ks.Pairwise (λx y=>klt x y=true)/\∀k,k∈ks↔(Qau p k=true/\(d.now k).isSome=true)
variable{w1 w5 w6:World}
theorem Qqc{p:ByteArray}{ks ts:List ByteArray}(h1:Nw w w1)(hB:w.heap.size<=B)(hc:Qdo w1 B ks s W)(hn:ks.Nodup)(hm:∀k,k∈ks↔(Qau p k=true/\(d.now k).isSome=true))
  (hp:ts.Perm ks) (hs:(ts.map QaP).Pairwise λx y=>decide (x<=y)=true) (ho:w5.ownsRow (w1.heap.size+2) 9 1 (.slice s.a ts.length s.c) ts.length (ts.map .string)) (N:W.grownBy w5 s.row) {D:Nat} (h6:Sb (λb=>b=D) w5 w6) (hD:w1.heap.size=D) :
  QlO d p w (.returned (.slice s.a ts.length s.c)) w6:=by
 have hz:=h1.size;have h5:Sb (λb=>s.row=some b) W w5:=⟨N.os,N.tape,N.output,N.size,λi hi hn=>N.block i hi λe=>hn e.symm⟩;refine⟨s,ts,rfl,?_,?_,QgT hs (hp.nodup_iff.2 hn),λk=>(hp.mem_iff).trans (hm k)⟩
 ·have a1:Sb (fun b=>B=b∨w1.heap.size≤b) w1 w6:=((hc.sb.mono fun i _ e=>.inl e.symm).trans (h5.mono fun i _ e=>.inr (by have:=(hc.row e).1;omega))).trans (h6.mono fun i _ e=>.inr oM)
  exact((h1.any (λb=>w<=b)).comp a1 λi hi e=>by rcases e with e|e<;>omega).mono λi hi e=>oM
 have I:∀b,s.row=some b->w1.heap.size+2<=b/\b<w5.heap.size:=λb Z=>Qad ho Z
 have a0:=Qab ho h6.agree λb Z=>⟨(I b Z).2,λe=>by have:=(I b Z).1;omega⟩
 exact(fP a0).mono λi hi=>⟨by have:=hi.1;omega,hi.2⟩
attribute [local go_sem] Oper.semAt_some
theorem Qhf(w:World):(Instr.range 181 (.map none)).run prog w=.ok (.pointer (some ⟨w,0,none⟩)) (w.alloc (.mapIter none 0 #[] 0)):=by
 simp[Instr.range,run_underlying underlying181,newObj,eO,eZ,Result.andThen];rfl
variable{r:Nat}
theorem QiQ(h:w.heap[r]? = some (.mapIter none 0 #[] 0))(ty:TypeId):(Instr.next (.pointer (some ⟨r,0,none⟩)) false ty).run prog w=.ok (.tuple #[.bool false]) w:=by
 have I:(getObj r).run prog w=.ok (.mapIter none 0 #[] 0) w:=by simp[getObj,Sem.run,h]
 unfold Instr.next;simp only[Sem.run_bind,Sem.run_pure,Result.andThen_ok,I]
variable{P:Program}
theorem Qkl{H:Type}{k:TypeId}{R:Value->Option (DataW H × List MemPlace)}{b r n:Nat}{D:DataW H}{left:Lit->Bool}{cnt:Nat}(h:w.ranges P k R b r n D left cnt)(hb:w'.heap[b]? = w.heap[b]?)(hr:w'.heap[r]? = w.heap[r]?):w'.ranges P k R b r n D left cnt:=by
 obtain⟨es,N,I,Z,c0,h1,h2,h3,h4,h5,h6⟩:=h;exact⟨es,N,I,Z,c0,hb.trans h1,h2,h3,h4,hr.trans h5,h6⟩
theorem QnP{H:Type}{k:TypeId}{R:Value->Option (DataW H × List MemPlace)}{b r n:Nat}{D:DataW H}{left:Lit->Bool}{cnt:Nat}(h:w.ranges P k R b r n D left cnt):b<w/\r<w/\(∀t cs,¬Blk w b t cs):=by
 obtain⟨es,Z,N,a0,c0,h1,h2,h3,h4,h5,h6⟩:=h;refine⟨(az.1 h1).1,(az.1 h5).1,λt cs I=>?_⟩;have I:w.heap[b]? = some (.cells cs t (0,0)):=I;rw[h1]at I;cases I
structure Qva(w1:World)(B r b D:Nat)(C:AL SV)(p:ByteArray)(ks1:List ByteArray)(left:Lit->Bool)(cnt:Nat)(ss:List (List UInt8))(s:Sl)(wr:World):Prop where
 col:Qdo w1 B (ks1++Qc7 C p ss) s wr
 rg:wr.ranges prog 9 QeO b r C.length (mapA SV.val C) left cnt
 co:Collected (mapA SV.val C) left ss
 ne:s.row≠some r
 dk:wr.heap[D]? = some (.deferred (some []))
theorem Qqd(h:QcK H w O d)(hl:(Qaa d.T).length<=1000000)(hn:d.us.length<=1000000){p:ByteArray}(hp:p.size<=maxLen) :
  Calls prog 197 #[.pointer (some ⟨O,0,none⟩),.string p] w (QlO d p w):=by
 obtain⟨i0,hi,o3,p7,o4⟩:=eE Tryz.Qla;have hF:∀b,OvF H w O d b->b<w.heap.size:=λb Z=>Z.1
 have k4:=λW=>QnI W d.T p hp
 have p2:=λW1 (hA:Agree (Lt w) w W1) (hz:w.heap.size<=W1.heap.size) B lo hi op (hB:Qdr W1 B d.T lo hi op)=>Qqi (lo:=lo) (hi:=hi) (op:=op) (show Qgg (OvF H w O d) d.T W1 from⟨h.tree.agree (hA.mono hF),λb Z=>ab (hF b Z) hz⟩) h.ok hl hB
 obtain⟨r,j8⟩:=Qaj d.T;simp only[Qao,j8]at k4;have c0:w.cell? ⟨O,0,none⟩=some (.pointer r):=by rw[<-j8];exact h.blk.cell 0
 have lO:=h.blk.lt;have l1:O<w.heap.size+1:=oM
 obtain⟨c7,r5,r8,p8⟩:=Ye h hF k4 p2;clear h hF k4 p2 j8;refine(ez (n:=6)).1 ?_;refine fi func197 rfl trivial ?_ rfl;simp only[ntmps197,List.size_toArray,List.length_cons,List.length_nil,Nat.reduceAdd,Nat.reduceSub,Array.replicate_succ,Array.replicate_zero,List.push_toArray,List.append_toArray,List.nil_append,List.cons_append];gi_wp2_with fail;generalize p9:World.alloc (World.alloc _ _) _=W0;obtain⟨o9,v8,q4,r6⟩:=Qas w _ _ _ _ W0 p9;obtain⟨q5,o7,p3⟩:=Yc o9 q4 r6;clear p9 o9 q4 r6;refine⟨trivial,?_⟩;refine(ez.2 (r8.o W0)).mono ?_;rintro e w1 ⟨B,en,op,rfl,i1,k8,hB,q6⟩;have d8:=Bw.trans q5.o.below i1;have j4:Nw w w1:=(fJ q5.o).trans (Sb.new i1);have c1:=hY (c7.o.nw j4);have k7:Blk w1 w.heap.size 151 #[.pointer (some ⟨O,0,none⟩)]:=o7.o.agree (Agree.of_below i1 (F:=Lt W0) λ_ h=>h) (by show _<_;omega);have l8:Blk w1 (w.heap.size+1) 186 #[.slice none 0 0]:=p3.o.agree (Agree.of_below i1 (F:=Lt W0) λ_ h=>h) (by show _<_;omega);obtain⟨p5,q2,k2,v4,t1⟩:=Yf (p8.o w1 (Agree.of_below d8 (F:=Lt w) λ_ h=>h) d8.size B p en op k8) j4 k7 l8 (q6 (Qaa d.T));have x0:=k8.lt;have x8:=d8.size;have k0:w.heap.size<w1.heap.size:=k7.lt;have o5:w.heap.size+1<w1.heap.size:=l8.lt;clear i1 k8 r8 p8 d8 k7 l8 q6 o7 p3 j4;rw[t1.o]at p5;gi_wp2_with fail;refine Qg6 (gf:=256) (lb:=Qmy B) rfl (eP func256 kM rfl) p5.o (Agree.refl _) (ao _)
  (λb Z=>Z.elim (λh=>by have:=r5.o b h;omega) (λh=>oM)) (λ_=>rfl)
  (λpre C W=>∃s:Sl,C=(λb=>b=w.heap.size+1\/s.row=some b)/\Qdo w1 (w.heap.size+1) (Qi1 d.C pre) s W) (λ_ _ _=>False) (λb=>b=w.heap.size+1)
  (λb Z=>⟨oM,λh=>h.elim (λh=>by have:=r5.o b h;omega) (λh=>oM)⟩)
  (λh k=>?turn) (λh k=>h) (λW hW hz=>⟨Sl.none,by funext b;simp[Sl.row],Qdo.start v4.o hW hz⟩) ?round ?done ?stop
 case turn=>
  obtain⟨s,e,hc⟩:=h;exact⟨s,e,hc.keep k.sb oM (λb Z=>by have:=(hc.row Z).1;omega) λb Z=>oM⟩
 case stop=>
  rintro D c pre W hD w8 hX i3;exact hX.elim
 case round=>
  rintro pre C x x6 W1 ⟨s,rfl,c9⟩ v2 x4 s9 j3 hG;obtain⟨ks,I⟩:∃ks,Qi1 d.C pre=ks:=⟨_,rfl⟩;have o1:ks.length<1000000:=by
   have h1:=(ai.1 hG.at_).1;have h2:=Qmt d.C pre;have h3:(Qeo p (Qaa d.T)).length<=1000000:=an (bU _ _) hl;rw[<-I];omega
  have t0:=hG.key;rw[I]at c9;have i8:=c9.ext j3;obtain⟨d7,e7⟩:=Yb i8 I;clear c9 i8 j3 hG s9 v2 I;gi_wp2_with fail;refine⟨fI _,λW3 k3=>?_⟩;have N:=d7.o.keep k3.sb oM (λb Z=>by have:=(d7.o.row Z).1;omega) λb Z=>oM
  have b5:=N.sb;have q0:W3.cell? ⟨w,0,none⟩=some (.pointer (some ⟨O,0,none⟩)):=(b5.blk k2.o oM).cell 0;have q1:W3.cell? ⟨O,1,none⟩=some (.map d.mb):=(b5.blk c1.o.blk oM).cell 1;have lq:O<W3.heap.size:=(b5.blk c1.o.blk oM).lt;have b4:Qbp W3 d.mb d.C:=c1.o.map.heap λb Z=>b5.block b (c1.o.map.lt Z) λe=>by have:=c7.o.map.lt Z;omega
  have f8:=Qlg b4 t0;have i5:=hY N;have a2:∀b,s.row=some b->w1.heap.size+2<=b/\b<W3.heap.size:=λb Z=>N.row Z
  have c3:W3.cell? ⟨w+1,0,none⟩=some (.slice s.a ks.length s.c):=N.blk.cell 0;have f3:W3.frozen? ⟨w+1,0,none⟩=false:=N.blk.frozen 0;have l3:=N.blk.lt;cases hg:QaZ d.C x.k with
  | some sv=>
    rw[hg,show Qiw d.C x.k=sv by rw[Qiw,hg];rfl]at f8;obtain⟨g6,v,sl,so⟩:=sv;have HG:=hY hg;clear hg N b5 b4;gi_wp2_with fail;have f0:=(fI W3).alloc #[.bool g6,.int .i64 v.kind,.bool v.b,.int .i64 v.i,.string v.t,.slice sl.a v.l.length sl.c,.slice so.a v.ok.length so.c] 192;exact⟨_,⟨s,rfl,by rw[QtA HG.o,e7.o];exact i5.o.ext f0⟩,f0.st _,λb Z=>.inl Z,λb Z=>by
     have:=f0.size;rcases Z with e|e
     .omega
     have:=(a2 b e).2;omega⟩
  | none=>
    rw[hg,show Qiw d.C x.k=QhY by rw[Qiw,hg];rfl]at f8;have a5:Ext W3 ((W3.alloc (.cells #[.bool false,.int .i64 0,.bool false,.int .i64 0,.string ByteArray.empty,.slice none 0 0,.slice none 0 0] 192)).alloc (.cells #[.string x.k] 9)):=((fI W3).alloc _ _).alloc _ _;have a9:=Qab N.own (a5.agree (F:=Lt W3) λb Z=>Z) λb Z=>(a2 b Z).2
    have n6:ks.length+1<=maxLen:=by unfold maxLen;omega
    have n7:(ks.length+1)*16<=140737488355328:=oM
    have x1:=N.sb.size;have d3:w1.heap.size+2<=((W3.alloc (.cells #[.bool false,.int .i64 0,.bool false,.int .i64 0,.string ByteArray.empty,.slice none 0 0,.slice none 0 0] 192)).alloc (.cells #[.string x.k] 9)).heap.size:=by have:=N.sz;simp;omega
    obtain⟨c2,d4⟩:=Yb a5 a9;have l2:=hY (show Blk ((W3.alloc (.cells #[.bool false,.int .i64 0,.bool false,.int .i64 0,.string ByteArray.empty,.slice none 0 0,.slice none 0 0] 192)).alloc (.cells #[.string x.k] 9)) (W3.heap.size+1) 9 #[.string x.k]by
     have:=fK (W3.alloc (.cells #[.bool false,.int .i64 0,.bool false,.int .i64 0,.string ByteArray.empty,.slice none 0 0,.slice none 0 0] 192)) 9 #[.string x.k];rwa[ew]at this)
    have v3:¬w.heap.size+1=W3.heap.size:=oM
    have p1:¬w.heap.size+1=W3.heap.size+1:=oM
    have t5:w.heap.size+1<W3.heap.size+1:=oM
    have n4:=hY ((a5.frozen (o:=0) l3).trans f3);have k6:s.row≠some (w.heap.size+1):=λe=>by have:=(a2 _ e).1;omega
    have HG:=hY hg;clear hg N b5 b4 a5 a9;gi_wp2_with(gi_at_builtin;refine QbS _ rfl (.tmp 32) (.tmp 34) 186 rfl (w1.heap.size+2) 9 i0 _ 1 16 underlying186 hi o3 p7 o4 rfl oN s ks.length (ks.map .string) rfl d4.o (λb=>b=W3.heap.size+1) ⟨some ⟨W3+1,0,none⟩,1⟩ 1 [.string x.k] rfl (fU l2.o oN rfl) (by simp[Value.oneCell']) n6 n7 d3 ?_;intro s3 w5 b0 a6 f2;have h5:=a6.cell0 (o:=0) c2.o k6 l3;have c5:w5.cell? ⟨w+1,0,none⟩=some (.slice s.a ks.length s.c):=h5.1.trans c3;have l5:=h5.2;have f5:w5.frozen? ⟨w+1,0,none⟩=false:=(a6.fz _ _).trans (n4.out);have k9:=hY b0;have l9:=hY a6;have k5:=hY f2;clear b0 a6 f2 h5);obtain⟨e1,e2,e3,e4⟩:=i5.o.snoc o5 c2.o k9.o l9.o k5.o;exact⟨_,⟨s3,rfl,by rw[Qr4 HG.o,e7.o];exact e1⟩,e2,λb Z=>by
     rcases Z with e|e
     .exact .inl (.inl e)
     exact(e3 b e).imp .inr id,e4⟩
 rintro D xs C W hD hS ⟨s,rfl,c9⟩ i3;have e8:=c9.sb;have q0:W.cell? ⟨w,0,none⟩=some (.pointer (some ⟨O,0,none⟩)):=(e8.blk k2.o oM).cell 0;have q1:W.cell? ⟨O,1,none⟩=some (.map d.mb):=(e8.blk c1.o.blk oM).cell 1;have lq:O<W.heap.size:=(e8.blk c1.o.blk oM).lt;have l0:w.heap.size<W.heap.size:=(e8.blk k2.o oM).lt;have b4:Qbp W d.mb d.C:=c1.o.map.heap λb Z=>e8.block b (c1.o.map.lt Z) λe=>by have:=c7.o.map.lt Z;omega
 have f9:(Qi1 d.C xs).length<=1000000:=by
  have h1:=Qmt d.C xs;have h2:(xs.map LE.ent).length=(Qeo p (Qaa d.T)).length:=by rw[hS]
  have h3:(Qeo p (Qaa d.T)).length<=1000000:=an (bU _ _) hl;rw[aq]at h2;omega
 have o2:=(az.1 i3).1;obtain⟨d7,HS,q7,i9,HD⟩:=Yf c9 hS i3 b4 hD;clear c9 hS i3 b4 e8 hD;obtain⟨mb,j9⟩:∃mb,d.mb=mb:=⟨_,rfl⟩;rw[j9]at q1;have p0:=hY j9;clear j9;rcases mb with _|b
 ·have t8:=fun w=>Qhf w
  gi_wp2_with fail;generalize j5:World.alloc W _=WW;have f4:WW.heap[W.heap.size]? = some (.mapIter none 0 #[] 0):=by rw[<-j5];exact fp W _
  have d0:Nw W WW:=by rw[<-j5];exact Sb.made (World.grownBy_alloc _ _ _)
  have r7:d.C=[]:=by have:=i9.o;rw[p0.o]at this;exact this
  have a8:=Qqb (p:=p) (ss:=[]) c7.o.ok.sorted c7.o.sorted HS.o (by rw[r7];exact List.Perm.nil);have a1:=d7.o.keep (d0.any (λ_=>False)) (λe=>e) (λ_ _ e=>e) (λ_ e=>e.elim);obtain⟨ks,I⟩:∃ks,Qi1 d.C xs=ks:=⟨_,rfl⟩;rw[show Qc7 d.C p []=[]from rfl,aW,I]at a8;rw[I]at a1 f9;obtain⟨s2,rfl⟩:∃s2,s2=s:=⟨_,rfl⟩;obtain⟨b7,b6,s4,f6,c8⟩:=Yf a8 a1 f4 (show WW.heap[D]? = some (.deferred (some []))from(d0.block D o2 (λe=>e)).trans q7.o) (QgZ a1.own oM);have c5:WW.cell? ⟨w+1,0,none⟩=some (.slice s2.a ks.length s2.c):=a1.blk.cell 0;clear j5 t8 a8 a1 f4 d0 I q0 q1 lq l0 r7;gi_loopw [] (λwr=>wr=WW) (λ_=>0)
  case atStart=>rfl
  subst hrel;have v9:=QiQ s4.o;gi_wp2_with fail;refine⟨trivial,?_⟩;refine(ez.2 c8.o).mono ?_;rintro e w5 ⟨rfl,ts,f1,g5,g3,g4,a4⟩;have b3:Sb (λb=>s2.row=some b) wr w5:=⟨a4.os,a4.tape,a4.output,a4.size,λi hi hn=>a4.block i hi λe=>hn e.symm⟩;have a3:=b3.blk b6.o.blk (λe=>by have:=(b6.o.row e).1;omega);have c6:w5.cell? ⟨w+1,0,none⟩=some (.slice s2.a ks.length s2.c):=a3.cell 0;have l6:=a3.lt;have g9:=hY (show w5.heap[D]? = some (.deferred (some []))from(b3.block D (by have:=(az.1 f6.o).1;omega) (λe=>by have:=(b6.o.row e).1;have:=HD.o;omega)).trans f6.o);have a0:=Qqc q2.o (ct _) b6.o b7.o.1 b7.o.2 f1 g5 g3 a4 (St.put (o':=.deferred none) g9.o rfl rfl).sb HD.o.symm;rw[g4]at a0;have d6:=hY a0;clear b3 a3 f1 g5 g3 g4 a4 a0;gi_wp2_with fail;refine⟨sM,.inl ⟨_,_,rfl,fh g9.o,?_⟩⟩;refine⟨.slice s2.a ks.length s2.c,?_,d6.o⟩;simp[results,results197,go_sem]
 have i6:W.ownsMap prog 9 QeO b d.C.length (mapA SV.val d.C):=by
  have:=i9.o;rw[p0.o]at this;exact this
 have j0:=hY i6;clear i6;gi_wp2_with(first |(gi_at_range;refine wpListIn_range_own _ rfl _ 181 rfl 9 192 Qe2 underlying181 QeO b d.C.length _ rfl j0.o ?_;intro w2 i4 r0 t3)|fail);have d0:Nw W w2:=Sb.made r0;obtain⟨b8,l7⟩:∃b8,Qi1 d.C xs=b8:=⟨_,rfl⟩;have a1:=d7.o.keep (d0.any (λ_=>False)) (λe=>e) (λ_ _ e=>e) (λ_ e=>e.elim);rw[l7]at a1 f9;have hs:s.row≠some W.heap.size:=λe=>by have:=(d7.o.row e).2;omega
 have t2:=hY (show Qva w1 (w.heap.size+1) W.heap.size b D d.C p b8 (Maps.has (mapA SV.val d.C)) (Maps.size (mapA SV.val d.C)) [] s w2 from
  ⟨by rw[show Qc7 d.C p []=[]from rfl,aW];exact a1,i4,Collected.start _,hs,(d0.block D o2 (λe=>e)).trans q7.o⟩)
 have s8:=hY l7;have v7:w1.heap.size<=W.heap.size:=d7.o.sb.size;clear i4 r0 t3 d0 a1 hs q0 q1 lq l0 l7;go_frame;gi_loopw [] (λwr=>∃(left:Lit->Bool) (cnt:Nat) (ss:List (List UInt8)) (s2:Sl),Qva w1 (w.heap.size+1) W.heap.size b D d.C p b8 left cnt ss s2 wr) (λwr=>wr.rangeLeft b W.heap.size)
 case atStart=>exact⟨_,_,_,_,t2.o⟩
 obtain⟨left,cnt,ss,s2,hP⟩:=hrel;have i2:=hP.rg;have r9:=Qgq hP.co;have v6:=c7.o.few;have x2:=Qpk d.C p ss;have HP:=hY hP;clear hP;gi_wp2_with(first |(gi_at_next;refine wpListIn_next_ranges _ rfl _ rfl 9 Qe2 QeO encStr id (λx5 kl hk=>by obtain⟨x,hx,_⟩:=Maps.keyOf_str underlying9 hk;exact⟨x,hx⟩) (λv _ _=>⟨v,rfl⟩) b W.heap.size _ _ _ _ rfl i2 ?_ ?_)|fail)
 ·intro v1 k0
  have d5:=HP.o.co.perm j0.o Qe2 underlying9 k0;rw[QdL]at d5;have a8:=Qqb (p:=p) c7.o.ok.sorted c7.o.sorted HS.o d5;have a1:=HP.o.col;rw[s8.o]at a8;obtain⟨ks,I⟩:∃ks,b8++Qc7 d.C p ss=ks:=⟨_,rfl⟩;have o1:ks.length<=2000000:=by rw[<-I,aj];omega
  rw[I]at a8 a1;obtain⟨b7,b6,f6,c8⟩:=Ye a8 a1 HP.o.dk (QgZ a1.own oM);have c5:wr.cell? ⟨w+1,0,none⟩=some (.slice s2.a ks.length s2.c):=a1.blk.cell 0;clear i2 d5 a8 a1 I v1 k0;gi_wp2_with fail;refine⟨trivial,?_⟩;refine(ez.2 c8.o).mono ?_;rintro e w5 ⟨rfl,ts,f1,g5,g3,g4,a4⟩;have b3:Sb (λb=>s2.row=some b) wr w5:=⟨a4.os,a4.tape,a4.output,a4.size,λi hi hn=>a4.block i hi λe=>hn e.symm⟩;have a3:=b3.blk b6.o.blk (λe=>by have:=(b6.o.row e).1;omega);have c6:w5.cell? ⟨w+1,0,none⟩=some (.slice s2.a ks.length s2.c):=a3.cell 0;have l6:=a3.lt;have g9:=hY (show w5.heap[D]? = some (.deferred (some []))from(b3.block D (by have:=(az.1 f6.o).1;omega) (λe=>by have:=(b6.o.row e).1;have:=HD.o;omega)).trans f6.o);have a0:=Qqc q2.o (ct _) b6.o b7.o.1 b7.o.2 f1 g5 g3 a4 (St.put (o':=.deferred none) g9.o rfl rfl).sb HD.o.symm;rw[g4]at a0;have d6:=hY a0;clear b3 a3 f1 g5 g3 g4 a4 a0;gi_wp2_with fail;refine⟨sM,.inl ⟨_,_,rfl,fh g9.o,?_⟩⟩;refine⟨.slice s2.a ks.length s2.c,?_,d6.o⟩;simp[results,results197,go_sem]
 intro x c kl yd yp w3 p4 i7 f8 hv n2 g8 r3 r1 t6 p6;obtain⟨x',ex,rfl,t4⟩:=Maps.keyOf_str underlying9 i7;obtain rfl:=encStr_inj ex;obtain⟨sv,j6,rfl⟩:=QsW n2 hv;have f7:Sb (λi=>i=W.heap.size) wr w3:=Sb.grown r1;have a7:=HP.o.col.keep f7 oM (λi hi e=>HP.o.ne (by rw[hi,e])) (λi e=>oM);have o0:=HP.o.co.step f8 n2;obtain⟨ks,I⟩:∃ks,b8++Qc7 d.C p ss=ks:=⟨_,rfl⟩;have o1:ks.length<=2000000:=by rw[<-I,aj];omega
 rw[I]at a7;have j1:w3.heap[D]? = some (.deferred (some [])):=(f7.block D (by have:=(az.1 HP.o.dk).1;omega) (λe=>by have:=HD.o;omega)).trans HP.o.dk;obtain⟨g6,v,sl,so⟩:=sv;obtain⟨k,hk⟩:∃k,QbL x=k:=⟨_,rfl⟩;have v5:(Instr.entry (.pointer (some ⟨W,0,none⟩))).run prog w3=.ok (.tuple #[.string k,.agg #[.bool g6,.int .i64 v.kind,.bool v.b,.int .i64 v.i,.string v.t,.slice sl.a v.l.length sl.c,.slice so.a v.ok.length so.c]]) w3:=by rw[<-hk];exact p6
 rw[hk]at j6;obtain⟨j7,n8,o6⟩:=QnP g8;have a2:∀i,s2.row=some i->w1.heap.size+2<=i/\i<w3.heap.size:=λi hi=>a7.row hi
 have e0:s2.row≠some W.heap.size:=HP.o.ne;have q3:s2.row≠some b:=λe=>by
  rcases a7.own.2 with⟨hv,-⟩ |⟨gg,x3,x7,hv,-,hc,-⟩
  ·injection hv with e1
   rw[Sl.row,e1]at e;cases e
  injection hv with e1;rw[Sl.row,e1]at e;have:gg=b:=by simpa using e
  subst this;exact o6 _ _ hc
 have t7:¬b=w.heap.size+1:=λe=>o6 _ _ (by rw[e];exact a7.blk)
 have c3:w3.cell? ⟨w+1,0,none⟩=some (.slice s2.a ks.length s2.c):=a7.blk.cell 0;have f3:w3.frozen? ⟨w+1,0,none⟩=false:=a7.blk.frozen 0;have l3:=a7.blk.lt;obtain⟨b9,t9,q8,g0,e6,e7,HK⟩:=Yh a7 o0 g8 i2 j1 I hk;obtain⟨l4,n9⟩:=Yb j6 r3;rw[show(encStr x)=Value.string k from by rw[<-hk]];clear a7 o0 g8 i2 j1 I j6 n2 hv i7 f8 r1 t6 r3 f7 t4 p6;have j2:∀(s3:Sl) (w6:World),Qdo w1 (w.heap.size+1) (b8++Qc7 d.C p (ss++[x])) s3 w6->s3.row≠some W.heap.size->w6.heap[b]? = w3.heap[b]?->w6.heap[W.heap.size]? = w3.heap[W.heap.size]?->w6.heap[D]? = w3.heap[D]?->
   Qva w1 (w.heap.size+1) W.heap.size b D d.C p b8 (λz=>left z && !z.sameKey (.string x)) p4 (ss++[x]) s3 w6:=λs3 w6 h1 h2 h3 h4 h5=>⟨h1,Qkl q8.o h3 h4,t9.o,h2,h5.trans e6.o⟩
 have g7:=hY j2;clear j2;have f0:=(fI w3).alloc #[.bool g6,.int .i64 v.kind,.bool v.b,.int .i64 v.i,.string v.t,.slice sl.a v.l.length sl.c,.slice so.a v.ok.length so.c] 192;have q9:=hY f0;clear f0;cases g6 with
 | false=>
   have k1:Qnh d.C p (QbL x)=false:=by rw[HK.o,Qk9 l4.o];rfl
   have c4:=hY (g7.o s2 _ (by rw[Ql7 k1,e7.o];exact b9.o.ext q9.o) e0 (eJ _ _ _ j7) (eJ _ _ _ n8) (eJ _ _ _ (az.1 e6.o).1));gi_wp2_with fail;refine⟨trivial,?_⟩;gi_wp2_with fail;go_roundw
   case rel=>exact⟨_,_,_,_,c4.o⟩
   rw[c4.o.rg.left_eq,g0.o.left_eq];exact n9.o
 | true=>
   gi_wp2_with fail;refine⟨trivial,?_⟩;refine(ez.2 (Qhl _ k p)).mono ?_;rintro e w4 ⟨rfl,rfl⟩;cases r4:Qau p k with
   | false=>
     have k1:Qnh d.C p (QbL x)=false:=by rw[HK.o,Qk9 l4.o,r4];rfl
     have c4:=hY (g7.o s2 _ (by rw[Ql7 k1,e7.o];exact b9.o.ext q9.o) e0 (eJ _ _ _ j7) (eJ _ _ _ n8) (eJ _ _ _ (az.1 e6.o).1));gi_wp2_with fail;go_roundw
     case rel=>exact⟨_,_,_,_,c4.o⟩
     rw[c4.o.rg.left_eq,g0.o.left_eq];exact n9.o
   | true=>
     have r2:Qnh d.C p (QbL x)=true:=by rw[HK.o,Qk9 l4.o,r4];rfl
     have a5:Ext w3 ((w3.alloc (.cells #[.bool true,.int .i64 v.kind,.bool v.b,.int .i64 v.i,.string v.t,.slice sl.a v.l.length sl.c,.slice so.a v.ok.length so.c] 192)).alloc (.cells #[.string k] 9)):=((fI w3).alloc _ _).alloc _ _;have a9:=Qab b9.o.own (a5.agree (F:=Lt w3) λb Z=>Z) λb Z=>(a2 b Z).2
     have n6:ks.length+1<=maxLen:=by unfold maxLen;omega
     have n7:(ks.length+1)*16<=140737488355328:=oM
     have d3:w1.heap.size+2<=((w3.alloc (.cells #[.bool true,.int .i64 v.kind,.bool v.b,.int .i64 v.i,.string v.t,.slice sl.a v.l.length sl.c,.slice so.a v.ok.length so.c] 192)).alloc (.cells #[.string k] 9)).heap.size:=by have:=b9.o.sz;simp;omega
     obtain⟨c2,d4⟩:=Yb a5 a9;have l2:=hY (show Blk ((w3.alloc (.cells #[.bool true,.int .i64 v.kind,.bool v.b,.int .i64 v.i,.string v.t,.slice sl.a v.l.length sl.c,.slice so.a v.ok.length so.c] 192)).alloc (.cells #[.string k] 9)) (w3.heap.size+1) 9 #[.string k]by
      have:=fK (w3.alloc (.cells #[.bool true,.int .i64 v.kind,.bool v.b,.int .i64 v.i,.string v.t,.slice sl.a v.l.length sl.c,.slice so.a v.ok.length so.c] 192)) 9 #[.string k];rwa[ew]at this)
     have v3:¬w.heap.size+1=w3.heap.size:=oM
     have p1:¬w.heap.size+1=w3.heap.size+1:=oM
     have t5:w.heap.size+1<w3.heap.size+1:=oM
     have n4:=hY ((a5.frozen (o:=0) l3).trans f3);have k6:s2.row≠some (w.heap.size+1):=λe=>by have:=(a2 _ e).1;omega
     clear a5 a9;gi_wp2_with(gi_at_builtin;refine QbS _ rfl (.tmp 53) (.tmp 55) 186 rfl (w1.heap.size+2) 9 i0 _ 1 16 underlying186 hi o3 p7 o4 rfl oN s2 ks.length (ks.map .string) rfl d4.o (λb=>b=w3.heap.size+1) ⟨some ⟨w3+1,0,none⟩,1⟩ 1 [.string k] rfl (fU l2.o oN rfl) (by simp[Value.oneCell']) n6 n7 d3 ?_;intro s3 w5 b0 a6 f2;have h5:=a6.cell0 (o:=0) c2.o k6 l3;have c5:w5.cell? ⟨w+1,0,none⟩=some (.slice s2.a ks.length s2.c):=h5.1.trans c3;have l5:=h5.2;have f5:w5.frozen? ⟨w+1,0,none⟩=false:=(a6.fz _ _).trans (n4.out);have k9:=hY b0;have l9:=hY a6;have k5:=hY f2;clear b0 a6 f2 h5);obtain⟨e1,e2,e3,e4⟩:=b9.o.snoc o5 c2.o k9.o l9.o k5.o;have o8:=(az.1 e6.o).1;have c4:=hY (g7.o s3 _ (by rw[Qpl r2,<-aN,e7.o,HK.o];exact e1) (λe=>by
       rcases e3 _ e with h|h
       .exact e0 h
       .omega) (e2.block b j7 λe=>by
       rcases e with e|e
       .exact t7 e
       .exact q3 e) (e2.block _ n8 λe=>by
       rcases e with e|e
       .omega
       .exact e0 e) (e2.block D o8 λe=>by
       rcases e with e|e
       .have:=HD.o;omega
       have:=(a2 _ e).1;have:=HD.o;omega))
     clear e1 e2 e3 e4;gi_wp2_with fail;go_roundw
     case rel=>exact⟨_,_,_,_,c4.o⟩
     rw[c4.o.rg.left_eq,g0.o.left_eq];exact n9.o
end Go.Proofs.YtdiecmkpbadgjaaGreatDoor
namespace Go.Proofs.YtdiecmkpbadgjaaGreatDoor
open Go.Proofs.Tryz
open Go.RowKit
theorem QcO:∀(a b:List UInt8),Lib.compareBytes a b=if Op.bytesLess a b then -1 else if Op.bytesLess b a then 1 else 0
 |[],[]=>rfl
 |[],b::v=>by simp[Lib.compareBytes,Op.bytesLess]
 |a::u,[]=>by simp[Lib.compareBytes,Op.bytesLess]
 | a :: u,b :: v=>by
   simp only[Lib.compareBytes,Op.bytesLess];by_cases h1:a<b
   .simp [h1]
   by_cases h2:b<a
   ·have I:¬a=b:=fun e=>by subst e;exact h1 h2
    have N:¬b=a:=λe=>I e.symm
    simp[h1,h2,I,N]
   have I:a=b:=UInt8.le_antisymm (UInt8.not_lt.1 h2) (UInt8.not_lt.1 h1);subst I;simp[h1,QcO u v]
theorem Qe9(a b:ByteArray):Lib.compareBytes a.data.toList b.data.toList=Qbn a b:=by
 rw[QcO];unfold Qbn klt;rw[eD,eD]
theorem Qif(w:World)(a b:ByteArray):Calls prog 144 #[.string a,.string b] w λe w'=>e=.returned (.int .i64 (Qbn a b))/\w=w':=by
 rw[<-Qe9];go_in;go_wp2_with fail;rw[run_callFunc_extern func179 kM kM kM (e:=Extern.BytealgCompare.compare) kM,Lib.run_compareString];simp only[Result.andThen];rw[Oper.upon_value];go_wp2_with fail;go_ret;exact⟨rfl,rfl⟩
theorem QcB(w:World)(a b:ByteArray):Calls prog 106 #[.string a,.string b] w λe w'=>e=.returned (.int .i64 (Qbn a b))/\w=w':=by
 have h:=Qif w a b;go_in;go_wp2_with fail;refine h.mono ?_;rintro e w1 ⟨rfl,rfl⟩;go_wp2_with fail;go_ret;exact⟨rfl,rfl⟩
theorem Qsf(w:World)(b:Bool):Calls prog 104 #[.bool b] w λe w'=>e=.returned (.int .i64 (if b then 1 else 0))/\w=w':=by
 cases b
 all_goals
  go_in;go_wp2_with fail;go_ret;exact⟨rfl,rfl⟩
theorem QeQ(w:World)(a:Int):Calls prog 142 #[.int .i64 a] w λe w'=>e=.returned (.bool false)/\w=w':=by
 go_in;go_wp2_with fail;go_ret;exact⟨sM,rfl⟩
theorem Qgr(w:World)(a b:Int):Calls prog 103 #[.int .i64 a,.int .i64 b] w λe w'=>e=.returned (.int .i64 (Qcj a b))/\w=w':=by
 have a0:=QeQ w a;have Z:=QeQ w b;have I:(Qcj a b = -1/\a<b)\/(Qcj a b=1/\¬a<b/\b<a)\/(Qcj a b=0/\¬a<b/\¬b<a):=by
  unfold Qcj;split
  .exact .inl ⟨rfl,by assumption⟩
  split
  .exact .inr (.inl ⟨rfl,by assumption,by assumption⟩)
  exact .inr (.inr ⟨rfl,by assumption,by assumption⟩)
 rcases I with⟨N,h1⟩ |⟨N,h1,h2⟩ |⟨N,h1,h2⟩
 all_goals
  rw[N];clear N;go_in;go_wp2_with fail;refine a0.mono ?_;rintro e w1 ⟨rfl,rfl⟩;go_wp2_with fail;refine Z.mono ?_;rintro e w1 ⟨rfl,rfl⟩;go_wp2_with fail;go_ret;exact⟨rfl,rfl⟩
theorem Qec(w:World)(a:Int):Calls prog 143 #[.int .i64 a] w λe w'=>e=.returned (.bool false)/\w=w':=by
 go_in;go_wp2_with fail;go_ret;exact⟨sM,rfl⟩
theorem QfM(w:World)(a b:Int):Calls prog 105 #[.int .i64 a,.int .i64 b] w λe w'=>e=.returned (.int .i64 (Qcj a b))/\w=w':=by
 have a0:=Qec w a;have Z:=Qec w b;have I:(Qcj a b = -1/\a<b)\/(Qcj a b=1/\¬a<b/\b<a)\/(Qcj a b=0/\¬a<b/\¬b<a):=by
  unfold Qcj;split
  .exact .inl ⟨rfl,by assumption⟩
  split
  .exact .inr (.inl ⟨rfl,by assumption,by assumption⟩)
  exact .inr (.inr ⟨rfl,by assumption,by assumption⟩)
 rcases I with⟨N,h1⟩ |⟨N,h1,h2⟩ |⟨N,h1,h2⟩
 all_goals
  rw[N];clear N;go_in;go_wp2_with fail;refine a0.mono ?_;rintro e w1 ⟨rfl,rfl⟩;go_wp2_with fail;refine Z.mono ?_;rintro e w1 ⟨rfl,rfl⟩;go_wp2_with fail;go_ret;exact⟨rfl,rfl⟩
theorem Qfy(w:World)(a:Int):Calls prog 180 #[.int .i64 a] w λe w'=>e=.returned (.bool false)/\w=w':=by
 go_in;go_wp2_with fail;go_ret;exact⟨sM,rfl⟩
theorem Qea(w:World)(a b:Int):Calls prog 145 #[.int .i64 a,.int .i64 b] w λe w'=>e=.returned (.int .i64 (Qcj a b))/\w=w':=by
 have a0:=Qfy w a;have Z:=Qfy w b;have I:(Qcj a b = -1/\a<b)\/(Qcj a b=1/\¬a<b/\b<a)\/(Qcj a b=0/\¬a<b/\¬b<a):=by
  unfold Qcj;split
  .exact .inl ⟨rfl,by assumption⟩
  split
  .exact .inr (.inl ⟨rfl,by assumption,by assumption⟩)
  exact .inr (.inr ⟨rfl,by assumption,by assumption⟩)
 rcases I with⟨N,h1⟩ |⟨N,h1,h2⟩ |⟨N,h1,h2⟩
 all_goals
  rw[N];clear N;go_in;go_wp2_with fail;refine a0.mono ?_;rintro e w1 ⟨rfl,rfl⟩;go_wp2_with fail;refine Z.mono ?_;rintro e w1 ⟨rfl,rfl⟩;go_wp2_with fail;go_ret;exact⟨rfl,rfl⟩
def QqU(m:Nat):Prop:=∀(x y:Val),SizeOf.sizeOf x<=m->∀(w:World) (sl so sl' so':Sl),RV w (Lt w.heap.size) x sl so->RV w (Lt w.heap.size) y sl' so'->Calls prog 74 #[QbV x sl so,QbV y sl' so'] w (QbN (Qbq x y) w)
theorem Qj1(a b:Nat):∃c:Nat,(if a<b then(a:Int)else(b:Int))=(c:Int)/\(if b<a then(b:Int)else(a:Int))=(c:Int)/\c<=a/\c<=b/\(c=a\/c=b):=by
 by_cases h:a<b
 .exact ⟨a,by rw[eu h],by rw[eh oM],oM,oM,.inl rfl⟩
 by_cases I:b<a
 .exact ⟨b,by rw[eh h],by rw[eu I],oM,oM,.inr rfl⟩
 exact⟨a,by rw[eh h];omega,by rw[eh I],oM,oM,.inl rfl⟩
variable{w:World}{sl so sl' so':Sl}
theorem Qrw{m:Nat}(b0:QqU m){x y:Val}(hd:SizeOf.sizeOf x<=m+1)(h:RV w (Lt w.heap.size) x sl so)(h':RV w (Lt w.heap.size) y sl' so') :
  Calls prog 107 #[.slice sl.a x.l.length sl.c,.slice sl'.a y.l.length sl'.c,.func (.func 74) #[] #[]] w (QbN (cmpL x.l y.l) w):=by
 have HI:=hY b0;clear b0;obtain⟨k,b,i,t,l,ok,ov⟩:=x;obtain⟨k',b',i',t',l',d6,d7⟩:=y;show Calls _ _ #[.slice sl.a l.length sl.c,.slice sl'.a l'.length sl'.c,_] _ (QbN (cmpL l l') w);cases h with
 |mk bl fl bo fo cl co hl ho hov el rl ek eo ro bk bi bt nl no=>
 cases h' with
 |mk bl' fl' bo' fo' cl' co' hl' ho' hov' el' rl' ek' eo' ro' bk' bi' bt' nl' no'=>
 have b3:∀(j:Nat) (d:Val),l[j]? = some d->SizeOf.sizeOf d<=m:=λj d hj=>bq (ab (Val.QtM hj) hd)
 obtain⟨c3,c4,c1,a8,b6⟩:=Yf b3 el rl el' rl';clear b3 el rl ek eo ro hov hd el' rl' ek' eo' ro' hov';have e1:l.length<=140737488355328:=oM
 have c7:l'.length<=140737488355328:=oM
 obtain⟨mn,c2,b9,d0,d3,c8⟩:=Qj1 l.length l'.length;go_in;go_wp2_with fail;clear c2 b9;go_loopw[14] (λq wr=>∃j:Nat,q=.int .i64 j/\j<=mn/\cmpL l l'=cmpL (l.drop j) (l'.drop j)/\Ext w wr) (λq _=>mn -(intOf q).toNat)
 case atStart=>exact⟨0,rfl,aA _,rfl,fI w⟩
 obtain⟨j,rfl,hj,hp,hx⟩:=hrel;obtain⟨HP,HX⟩:=Yb hp hx;by_cases h1:j<mn
 ·have g1:(j:Int)<(mn:Int):=oM
  have g2:(j:Int)<(l.length:Int):=oM
  have g3:(j:Int)<(l'.length:Int):=oM
  obtain⟨d,hd⟩:∃d,l[j]? = some d:=⟨_,ac oM⟩;obtain⟨d',a2⟩:∃d,l'[j]? = some d:=⟨_,ac oM⟩;have HD:=hY (Qjj hd a2);have a1:Agree (Lt w.heap.size) w wr:=hx.agree λ_ h=>h
  obtain⟨sa,sc⟩:=sl;obtain⟨e0,d8⟩:=sl';obtain⟨rfl,d5,a6⟩:=hl.eq oM;obtain⟨rfl,c9,d4⟩:=hl'.eq oM;have a3:=hl.fits oM;have a0:=hl'.fits oM;obtain⟨v0,v1,v2,v3,v4,v5⟩:=(c4.o j d hd).agree a1 a3;obtain⟨a7,b4,a5,b5,b7,b8⟩:=(a8.o j d' a2).agree a1 a0;have c6:=hY (λ(W:World) (N:Ext wr W)=>
   HI.o d d' (c3.o j d hd) W _ _ _ _ (((c1.o j d hd).agree (a1.trans (N.agree λ_ h=>ab h hx.size))).mono λi hi=>ab hi (an hx.size N.size))
    (((b6.o j d' a2).agree (a1.trans (N.agree λ_ h=>ab h hx.size))).mono λi hi=>ab hi (an hx.size N.size)))
  have lb:bl<wr.heap.size:=ab a3 hx.size;have Z:bl'<wr.heap.size:=ab a0 hx.size;have I:=hY (show ∀W,Ext wr W->W.cell? ⟨bl,fl+j*6,none⟩=some (.int .i64 d.kind)/\W.cell? ⟨bl,fl+j*6+1,none⟩=some (.bool d.b)/\W.cell? ⟨bl,fl+j*6+2,none⟩=some (.int .i64 d.i)/\W.cell? ⟨bl,fl+j*6+3,none⟩=some (.string d.t)/\W.cell? ⟨bl,fl+j*6+4,none⟩=some (.slice (cl j).1.a d.l.length (cl j).1.c)/\W.cell? ⟨bl,fl+j*6+5,none⟩=some (.slice (cl j).2.a d.ok.length (cl j).2.c)/\W.cell? ⟨bl',fl'+j*6,none⟩=some (.int .i64 d'.kind)/\W.cell? ⟨bl',fl'+j*6+1,none⟩=some (.bool d'.b)/\W.cell? ⟨bl',fl'+j*6+2,none⟩=some (.int .i64 d'.i)/\W.cell? ⟨bl',fl'+j*6+3,none⟩=some (.string d'.t)/\W.cell? ⟨bl',fl'+j*6+4,none⟩=some (.slice (cl' j).1.a d'.l.length (cl' j).1.c)/\W.cell? ⟨bl',fl'+j*6+5,none⟩=some (.slice (cl' j).2.a d'.ok.length (cl' j).2.c)from
   λW N=>⟨(N.cell lb).trans v0,(N.cell lb).trans v1,(N.cell lb).trans v2,(N.cell lb).trans v3,(N.cell lb).trans v4,(N.cell lb).trans v5,(N.cell Z).trans a7,(N.cell Z).trans b4,(N.cell Z).trans a5,(N.cell Z).trans b5,(N.cell Z).trans b7,(N.cell Z).trans b8⟩)
  clear hp hx hd a2 a1 a3 a0 v0 v1 v2 v3 v4 v5 a7 b4 a5 b5 b7 b8;go_wp2_with fail;refine eA (S:=(λw'=>Ext wr w')) kM (((fI wr).drew)) (λhHeld=>?_);refine Qaf 0 (some 17) I hHeld ?_;refine Qaf 1 (some 18) I hHeld ?_;refine Qaf 2 (some 19) I hHeld ?_;refine Qaf 3 (some 20) I hHeld ?_;refine Qaf 4 (some 21) I hHeld ?_;refine Qaf 5 (some 22) I hHeld ?_;refine Qaf 6 (some 23) I hHeld ?_;refine Qaf 7 (some 24) I hHeld ?_;refine Qaf 8 (some 25) I hHeld ?_;refine Qac (i:=9) kM rfl (by rfl) (λK hK=>?_);go_simp
  (refine(c6.o _ hHeld).mono ?_;rintro e w2 ⟨rfl,a4⟩)
  refine hK.out _ _ (hHeld.trans a4) (λhHeld=>?_);clear hK K
  try go_frame
  refine Qaf 10 (some 8) I hHeld ?_;refine eF kM ?_ _;have a9:=hY (HX.o.trans hHeld);clear hHeld a4;by_cases hc:Qbq d d'=0
  ·have c0:(Qbq d d' != 0)=false:=by simp [hc]
   have HC:=hY hc;clear hc;go_wp2_with fail;go_roundw
   case rel=>exact⟨j+1,by go_num,h1,by rw[HP.o,HD.o,eh (by simp[HC.o])],a9.o⟩
   simp[intOf];omega
  have c0:(Qbq d d' != 0)=true:=eQ.2 hc;have HC:=hY hc;clear hc;go_wp2_with fail;go_ret;rw[HP.o,HD.o,eu HC.o];exact⟨rfl,a9.o⟩
 have g1:¬(j:Int)<(mn:Int):=oM
 have HE:=hY (Qid (l:=l) (l':=l') (j:=j) oM oM oM);have a6:=Qea wr (l.length:Int) (l'.length:Int);clear hp hx;go_wp2_with fail;refine a6.mono ?_;rintro e w2 ⟨rfl,rfl⟩;go_wp2_with fail;go_ret;rw[HP.o,HE.o];exact⟨rfl,HX.o⟩
def QrQ(x y:ByteArray)(d d':Val):Int:=if Qbn x y≠0 then Qbn x y else Qbq d d'
variable{j:Nat}
theorem Qm2{l l':List Val}{k k':List ByteArray}{a b:Val}{x y:ByteArray}(ha:l[j]? = some a)(I:l'[j]? = some b)(Z:k[j]? = some x)(N:k'[j]? = some y) :
  Qe5 (l.drop j) (k.drop j) (k'.drop j) (l'.drop j)=if QrQ x y a b≠0 then QrQ x y a b else Qe5 (l.drop (j+1)) (k.drop (j+1)) (k'.drop (j+1)) (l'.drop (j+1)):=by
 rw[Qjk ha I Z N];unfold QrQ;by_cases h:Qbn x y=0<;>simp[h]
abbrev QvC(k:ByteArray)(d:Val)(sl so:Sl):Value:=.agg #[.string k,.int .i64 d.kind,.bool d.b,.int .i64 d.i,.string d.t,.slice sl.a d.l.length sl.c,.slice so.a d.ok.length so.c]
theorem Qlh{m:Nat}(N:QqU m){d d':Val}(hd:SizeOf.sizeOf d<=m){x y:ByteArray}(h:RV w (Lt w) d sl so)(h':RV w (Lt w) d' sl' so') :
  Calls prog 109 #[QvC x d sl so,QvC y d' sl' so'] w (QbN (QrQ x y d d') w):=by
 obtain⟨a0,HT⟩:=Yb (λ(W:World) (hW:Ext w W)=>N d d' hd W _ _ _ _ ((h.agree (hW.agree λ_ h=>h)).mono λi hi=>ab hi hW.size) ((h'.agree (hW.agree λ_ h=>h)).mono λi hi=>ab hi hW.size)) (λW=>QcB W x y);clear N h h' hd;by_cases I:Qbn x y=0
 ·have Z:QrQ x y d d'=Qbq d d':=by simp [QrQ,I]
  have a1:(Qbn x y != 0)=false:=by simp[I]
  rw[Z];clear Z I;go_in;go_wp2_with fail;refine(HT.o _).mono ?_;rintro e w1 ⟨rfl,rfl⟩;go_wp2_with fail;refine(a0.o _ (((fI w).alloc _ _).alloc _ _)).mono ?_;rintro e w1 ⟨rfl,hx⟩;have HX:=hY ((((fI w).alloc _ _).alloc _ _).trans hx);clear hx;go_wp2_with fail;go_ret;exact⟨rfl,HX.o⟩
 have Z:QrQ x y d d'=Qbn x y:=by simp[QrQ,I]
 have a1:(Qbn x y != 0)=true:=eQ.2 I;rw[Z];clear Z I;go_in;go_wp2_with fail;refine(HT.o _).mono ?_;rintro e w1 ⟨rfl,rfl⟩;go_wp2_with fail;go_ret;exact⟨rfl,((fI w).alloc _ _).alloc _ _⟩
theorem Qrv{m:Nat}(c2:QqU m){x y:Val}(hd:SizeOf.sizeOf x<=m+1)(h:RV w (Lt w.heap.size) x sl so)(h':RV w (Lt w.heap.size) y sl' so') :
  Calls prog 108 #[.slice so.a x.ok.length so.c,.slice so'.a y.ok.length so'.c,.func (.func 109) #[] #[]] w (QbN (Qe5 x.ov x.ok y.ok y.ov) w):=by
 have HI:=hY c2;clear c2;obtain⟨k,b,i,t,l,ok,ov⟩:=x;obtain⟨k',b',i',t',l',I,a4⟩:=y;show Calls _ _ #[.slice so.a ok.length so.c,.slice so'.a I.length so'.c,_] _ (QbN (Qe5 ov ok I a4) w);cases h with
 |mk bl fl bo fo cl co hl ho hov el rl ek eo ro bk bi bt nl no=>
 cases h' with
 |mk bo' fo' bo' fo' cl' co' hl' ho' hov' el' rl' ek' eo' ro' bk' bi' bt' nl' no'=>
 have b6:∀(j:Nat) (d:Val),ov[j]? = some d->SizeOf.sizeOf d<=m:=λj d hj=>bq (ab (Val.QtN hj) hd)
 obtain⟨d6,d4,d7,c3,b0,d8,b7⟩:=Yh b6 eo ro eo' ro' ek ek';obtain⟨a7,a3⟩:=Yb hov hov';clear b6 el rl ek eo ro hov hd el' rl' ek' eo' ro' hov';have f1:ok.length<=140737488355328:=oM
 have e0:I.length<=140737488355328:=oM
 obtain⟨mn,d5,d0,e3,e4,e1⟩:=Qj1 ok.length I.length;go_in;go_wp2_with fail;clear d5 d0;go_loopw[14] (λq wr=>∃j:Nat,q=.int .i64 j/\j<=mn/\Qe5 ov ok I a4=Qe5 (ov.drop j) (ok.drop j) (I.drop j) (a4.drop j)/\Ext w wr) (λq _=>mn -(intOf q).toNat)
 case atStart=>exact⟨0,rfl,aA _,rfl,fI w⟩
 obtain⟨j,rfl,hj,hp,hx⟩:=hrel;obtain⟨HP,HX⟩:=Yb hp hx;by_cases h1:j<mn
 ·have g1:(j:Int)<(mn:Int):=oM
  have g2:(j:Int)<(ok.length:Int):=oM
  have g3:(j:Int)<(I.length:Int):=oM
  obtain⟨d,hd⟩:∃d,ov[j]? = some d:=⟨_,ac (by rw[a7.o];omega)⟩;obtain⟨x,a9⟩:∃d,ok[j]? = some d:=⟨_,ac oM⟩;obtain⟨x',a5⟩:∃d,I[j]? = some d:=⟨_,ac oM⟩;obtain⟨d',a6⟩:∃d,a4[j]? = some d:=⟨_,ac (by rw[a3.o];omega)⟩;have HD:=hY (Qm2 hd a6 a9 a5);have a1:Agree (Lt w.heap.size) w wr:=hx.agree λ_ h=>h
  obtain⟨sa,sc⟩:=so;obtain⟨f0,e8⟩:=so';obtain⟨rfl,e7,b8⟩:=ho.eq oM;obtain⟨rfl,e2,e6⟩:=ho'.eq oM;have a8:=ho.fits oM;have a2:=ho'.fits oM;obtain⟨v0,v1,v2,v3,v4,v5⟩:=(d4.o j d hd).agree a1 a8;obtain⟨c0,c4,b4,c6,c8,c9⟩:=(c3.o j d' a6).agree a1 a2;have kx:=(a1.cell a8).trans (d8.o j x a9).1;have b5:=(a1.cell a2).trans (b7.o j x' a5).1;obtain⟨c,b9⟩:∃c,QrQ x x' d d'=c:=⟨_,rfl⟩;have c7:=hY (λ(W:World) (Z:Ext wr W)=>
   Qlh HI.o (d6.o j d hd) (x:=x) (y:=x') (((d7.o j d hd).agree (a1.trans (Z.agree λ_ h=>ab h hx.size))).mono λi hi=>ab hi (an hx.size Z.size))
    (((b0.o j d' a6).agree (a1.trans (Z.agree λ_ h=>ab h hx.size))).mono λi hi=>ab hi (an hx.size Z.size)))
  have lb:bo<wr.heap.size:=ab a8 hx.size;have a0:bo'<wr.heap.size:=ab a2 hx.size;have N:=hY (show ∀W,Ext wr W->W.cell? ⟨bo,fo+j*7,none⟩=some (.string x)/\W.cell? ⟨bo,fo+j*7+1,none⟩=some (.int .i64 d.kind)/\W.cell? ⟨bo,fo+j*7+2,none⟩=some (.bool d.b)/\W.cell? ⟨bo,fo+j*7+3,none⟩=some (.int .i64 d.i)/\W.cell? ⟨bo,fo+j*7+4,none⟩=some (.string d.t)/\W.cell? ⟨bo,fo+j*7+5,none⟩=some (.slice (co j).1.a d.l.length (co j).1.c)/\W.cell? ⟨bo,fo+j*7+6,none⟩=some (.slice (co j).2.a d.ok.length (co j).2.c)/\W.cell? ⟨bo',fo'+j*7,none⟩=some (.string x')/\W.cell? ⟨bo',fo'+j*7+1,none⟩=some (.int .i64 d'.kind)/\W.cell? ⟨bo',fo'+j*7+2,none⟩=some (.bool d'.b)/\W.cell? ⟨bo',fo'+j*7+3,none⟩=some (.int .i64 d'.i)/\W.cell? ⟨bo',fo'+j*7+4,none⟩=some (.string d'.t)/\W.cell? ⟨bo',fo'+j*7+5,none⟩=some (.slice (co' j).1.a d'.l.length (co' j).1.c)/\W.cell? ⟨bo',fo'+j*7+6,none⟩=some (.slice (co' j).2.a d'.ok.length (co' j).2.c)from
   λW Z=>⟨(Z.cell lb).trans kx,(Z.cell lb).trans v0,(Z.cell lb).trans v1,(Z.cell lb).trans v2,(Z.cell lb).trans v3,(Z.cell lb).trans v4,(Z.cell lb).trans v5,(Z.cell a0).trans b5,(Z.cell a0).trans c0,(Z.cell a0).trans c4,(Z.cell a0).trans b4,(Z.cell a0).trans c6,(Z.cell a0).trans c8,(Z.cell a0).trans c9⟩)
  rw[b9]at HD c7;clear b9 kx b5 a9 a5 hp hx hd a6 a1 a8 a2 v0 v1 v2 v3 v4 v5 c0 c4 b4 c6 c8 c9;go_wp2_with fail;refine eA (S:=(λw'=>Ext wr w')) kM (((fI wr).drew)) (λhHeld=>?_);refine Qaf 0 (some 17) N hHeld ?_;refine Qaf 1 (some 18) N hHeld ?_;refine Qaf 2 (some 19) N hHeld ?_;refine Qaf 3 (some 20) N hHeld ?_;refine Qaf 4 (some 21) N hHeld ?_;refine Qaf 5 (some 22) N hHeld ?_;refine Qaf 6 (some 23) N hHeld ?_;refine Qaf 7 (some 24) N hHeld ?_;refine Qaf 8 (some 25) N hHeld ?_;refine Qac (i:=9) kM rfl (by rfl) (λK hK=>?_);go_simp
  (refine(c7.o _ hHeld).mono ?_;rintro e w2 ⟨rfl,b3⟩)
  refine hK.out _ _ (hHeld.trans b3) (λhHeld=>?_);clear hK K
  try go_frame
  refine Qaf 10 (some 8) N hHeld ?_;refine eF kM ?_ _;have c1:=hY (HX.o.trans hHeld);clear hHeld b3;by_cases hc:c=0
  ·have d3:(c != 0)=false:=by simp [hc]
   have HC:=hY hc;clear hc;go_wp2_with fail;go_roundw
   case rel=>exact⟨j+1,by go_num,h1,by rw[HP.o,HD.o,eh (by simp[HC.o])],c1.o⟩
   simp[intOf];omega
  have d3:(c != 0)=true:=eQ.2 hc;have HC:=hY hc;clear hc;go_wp2_with fail;go_ret;rw[HP.o,HD.o,eu HC.o];exact⟨rfl,c1.o⟩
 have g1:¬(j:Int)<(mn:Int):=oM
 have HE:=hY (Qie (l:=ov) (l':=a4) (k:=ok) (k':=I) (j:=j) (by rw[a7.o,a3.o];omega) (by rw[a7.o];omega) (by rw[a3.o];omega));have b8:=Qea wr (ok.length:Int) (I.length:Int);clear hp hx;go_wp2_with fail;refine b8.mono ?_;rintro e w2 ⟨rfl,rfl⟩;go_wp2_with fail;go_ret;rw[HP.o,HE.o,a7.o,a3.o];exact⟨rfl,HX.o⟩
end Go.Proofs.YtdiecmkpbadgjaaGreatDoor
