/- What the theorem needs of the texts OwnO, FitV, MuP, ScanP, ScanW, ScanR, ScanT, ScanK, ScanQ, KeysEnd, ScanX, Known08, OvSort, OvPre, MuM, MuV, TrodB, OvCom0, OvPre2, OvPreW, CmpW, CmpI: no condition of its own. -/
import Derived.Test.YtdiecmkpbadgjaaGreatDoorPqf
set_option linter.unusedVariables false
set_option linter.unusedSimpArgs false
set_option linter.unnecessarySimpa false
set_option maxRecDepth 100000
set_option maxHeartbeats 4000000
namespace Go.Proofs.YtdiecmkpbadgjaaGreatDoor
open Go.Proofs.Tryz
open Go.RowKit Go.Maps Go.Shelf
attribute [local go_sem] Oper.semAt_some
structure OI(w:World)(B:Nat)(a b:Value)(n:Nat)(ok:List ByteArray)(ov:List Val)(pre:List ME)(W:World):Prop where
 blk:Blk W B 275 (wrC a b (n+1+(Qfl ok (ov.take pre.length)+(pre.length-1))))
 sb:Sb (λc=>c=B) w W
 box:Blk W w.heap.size 278 #[.pointer (some ⟨B,0,none⟩)]
variable{w W W':World}{B n:Nat}
theorem OI.nw{a b:Value}{ok:List ByteArray}{ov:List Val}{pre:List ME}(h:OI w B a b n ok ov pre W)(k:Nw W W'):OI w B a b n ok ov pre W':=⟨k.blk h.blk,h.sb.trans (k.any _),k.blk h.box⟩
theorem OI.turn{B x:Nat}{a b:Value}{ok:List ByteArray}{ov:List Val}{pre:List ME}(h:OI w B a b n ok ov pre W)(k:Sb (λi=>i=x) W W')(I:w.heap.size<x)(N:B<w.heap.size):OI w B a b n ok ov pre W':=
 ⟨k.blk h.blk oM,h.sb.comp k (λi hi e=>by have e:i=x:=e;omega),k.blk h.box oM⟩
theorem Qmj:∀(ks:List ByteArray) (l:List Val),l.length=ks.length->ks.length<=QfL ks l
 |[],_,_=>aD _
 |k::ks,[],h=>by cases h
 | k :: ks,d :: r,h=>by
   have:=Qmj ks r (by simpa using h);rw[QfL,cm,aB];omega
variable{ks:List ByteArray}
theorem Qnr{l:List Val}:Qfl ks (l.take 0)=0:=by cases ks<;>simp[Qfl]
variable{F:Nat->Prop}{V:Nat}{sl so:Sl}
theorem Qr2{P:Val->Prop}(hI:Qvg P){bo:Bool}{i:Int}{t:ByteArray}{l:List Val}{ok:List ByteArray}{ov:List Val}{a b:Value} 
  (hP:∀(j:Nat) (d:Val),ov[j]? = some d->P d) (hc:QfL ok ov<=1100000)
  (hV:Blk w V 34 #[.int .i64 6,.bool bo,.int .i64 i,.string t,.slice sl.a l.length sl.c,.slice so.a ok.length so.c]) (h:RV w F (.mk 6 bo i t l ok ov) sl so) (hF:∀i,F i->i<w.heap.size/\i≠B) (g9:V≠B) (hB:Blk w B 275 (wrC a b n)) (hn:n+(2+Qfl ok ov+(ov.length-1))<=9000000) (hL:Qb4 w) (h6:6<=B) :
  Calls prog 253 #[.pointer (some ⟨B,0,none⟩),.pointer (some ⟨V,0,none⟩)] w λe w'=>(∃r,e=.returned r)/\Blk w' B 275 (wrC a b (n+(2+Qfl ok ov+(ov.length-1))))/\Sb (λc=>c=B) w w':=by
 cases h with
 |mk bl fl bo' fo cl co hl ho hov el rl ek eo ro bk bi bt nl no=>
 have c9:MOk w F so ok ov:=⟨⟨bo',fo,co,ho,ek,eo,ro⟩,hov,λk hk=>by
  obtain⟨j,hj⟩:=List.mem_iff_getElem?.1 hk;have i9:=(ai.1 hj).1;have:=QkY (ac (l:=ov) (i:=j) oM) hj;omega⟩
 have l2:ok.length<=1100000:=by
  have:=Qmj ok ov hov;omega
 have n9:=hV.lt;have f3:=hB.lt;obtain⟨f8,HV,HF,HB,f2,HI,HP⟩:=Yh c9 hV hF hB hL hI hP;obtain⟨HC,HN,g4⟩:=Yc hc hn hov;clear c9 hV hF hB hL hI hP hc hn el rl ek eo ro hl ho bk bi bt nl no hov;refine(eD (n:=6)).1 ?_;refine fu func253 rfl trivial ?_ rfl;simp only[ntmps253,List.size_toArray,List.length_cons,List.length_nil,Nat.reduceAdd,Nat.reduceSub,Array.replicate_succ,Array.replicate_zero,List.push_toArray,List.append_toArray,List.nil_append,List.cons_append];gi_wp2_with fail;generalize b5:w.alloc (.cells #[.pointer (some ⟨B,0,none⟩)] _)=W0;have d7:Ext w W0:=by rw[<-b5];exact(fQ w).alloc _ _
 have k7:W0.heap.size=w.heap.size+1:=by rw[<-b5];simp
 have i4:Blk W0 w.heap.size 278 #[.pointer (some ⟨B,0,none⟩)]:=by rw[<-b5];exact fU w _ _
 have e1:=Qcq (w:=W0) ⟨#[123]⟩ (HB.o.ext d7) (by have:=HN.o;show n+1<=_;omega);rw[k7]at e1;obtain⟨i5,j2,k1⟩:=Yc e1 d7 i4;clear b5 e1 d7 i4;refine⟨trivial,?_⟩;refine(eD.2 i5.o).mono ?_;rintro e w1 ⟨⟨r,rfl⟩,g0,b9⟩;have a0:=(j2.o.sb (λc=>c=B)).trans b9;obtain⟨q0,q1,q2,q3,q4,q5⟩:=(a0.blk HV.o g9).c6;have lq:=(a0.blk HV.o g9).lt;have c7:=b9.blk k1.o oM;obtain⟨k0,j7,g5⟩:=Yc g0 a0 c7;have l3:=b9.size;clear g0 b9 a0 c7 i5;gi_wp2_with fail;refine⟨trivial,?_⟩;refine(eD.2 (QrR w1 so.a ok.length so.c)).mono ?_;rintro e w2 ⟨rfl,a6,e2⟩;have a9:=j7.o.ext a6;have c1:Agree F w w2:=λx hx=>a9.block x (HF.o x hx).1 (HF.o x hx).2
 have d6:Qb4 w2:=f2.o.sb a9 λc hc e=>by have e:c=B:=e;omega
 have e0:∀b,F b->b<w2.heap.size:=λb I=>ab (HF.o b I).1 a9.size
 have c0:OI w B a b n ok ov [] w2:=⟨by have:=k0.o.ext a6;rw[show([]:List ME).length=0 from rfl,Qnr];exact this,a9,g5.o.ext a6⟩;have n2:=a6.size;have l0:=e2.lt;have o0:=d6.lib.big;obtain⟨j9,g6,a1⟩:=Yc (QrS e2 (f8.o.agree c1) e0 d6 oM) c0 e0;clear a6 e2 a9 c1 d6 e0 c0 q0 q1 q2 q3 q4 q5;gi_wp2_with fail;refine Qg7 (gf:=264) (lb:=#[.pointer (some ⟨w1,0,none⟩)]) rfl (eU func264 kM rfl) j9.o (Agree.refl _) (ao _)
  (λb I=>by
    rcases I with I|rfl|I
    .exact a1.o b I
    .omega
    omega) (λ_=>rfl) (OI w B a b n ok ov) (λ_ _ _=>False)
  (λh k hl l6=>h.turn k oM f3) (λh _ _ _=>h) (λW hW hz=>g6.o.nw (fT hW)) ?round ?done ?stop
 case stop=>
  rintro D c pre W hD o1 hX b7;exact hX.elim
 case round=>
  rintro pre x n7 W1 hI l8 a8 hG;obtain⟨tx,d,Vx,b8,b6⟩:=x;obtain⟨⟨k,hk,hd,d5⟩,b4,e7,f0⟩:=hG;dsimp only at hd d5 b4 e7 f0;have i9:=(ai.1 hk).1;have f5:=hY (hI.nw a8);have hcut:=Qmi ok ov (pre.length+1);have j4:=QjY hd hk;have i6:=Qih pre.length;have k6:tx.size=(Qk0 pre.length).size+(Qbf k).size:=by rw[d5,aO]
  have g7:=g4.o;have j3:=HN.o;have d3:n+1+(Qfl ok (ov.take pre.length)+(pre.length-1))+tx.size+1+QgI d<=9000000:=oM
  have a3:n+1+(Qfl ok (ov.take (pre.length+1))+(pre.length+1-1))=n+1+(Qfl ok (ov.take pre.length)+(pre.length-1))+tx.size+1+QgI d:=oM
  have i2:QcI d<=1100000:=by have:=QkY hd hk;have:=HC.o;omega
  obtain⟨k4,j1,c8,d8,i8,g3⟩:=Yg (HP.o _ d hd) i2 d3 a3 b4 e7;have l1:=a8.size;have l5:=b4.lt;have n6:=Qfd d.kind;clear hI a8 hk hd d5 b4 e7 hcut j4 i6 k6 g7 j3 d3 a3 i2 i9;gi_wp2_with fail;refine⟨fW _ _,λW3 k3 k9 f7 f9=>?_⟩;have b0:=f5.o.turn k3 oM f3;have p0:W3.cell? ⟨w,0,none⟩=some (.pointer (some ⟨B,0,none⟩)):=b0.box.cell 0;have lp:=b0.box.lt;have n4:=k3.size;have c4:=k3.blk i8.o oM;have c2:RV W3 F d b8 b6:=g3.o.agree λb I=>k3.block b (by have:=a1.o b I;omega) (λe=>by have e:b=_:=e;have:=a1.o b I;omega)
  have i7:=QrB (w:=W3) tx ⟨#[58]⟩ b0.blk (by have:=c8.o;show _+1<=_;omega);obtain⟨a7,f4,f6,j0,l7,l4⟩:=Yg b0 c4 c2 i7 f7 f9;clear k3 k9 f7 f9 b0 c4 c2 i7 f5 i8 g3;gi_wp2_with fail;refine⟨trivial,?_⟩;refine(QaA j0.o).mono ?_;rintro e w5 ⟨⟨r5,rfl⟩,g8,N⟩;have p5:w5.cell? ⟨w,0,none⟩=some (.pointer (some ⟨B,0,none⟩)):=(N.blk a7.o.box oM).cell 0;have l9:=(N.blk a7.o.box oM).lt;have n8:=N.size;have d0:=a7.o.sb.trans N;have a5:=HI.o d k4.o j1.o w5 F Vx B b8 b6 a b _ (N.blk f4.o oM) (f6.o.agree λb I=>N.block b (by have:=a1.o b I;omega) (HF.o b I).2) (λi hi=>⟨by have:=a1.o i hi;omega,(HF.o i hi).2⟩) oM g8 (by have:=c8.o;exact this) (f2.o.sb d0 λc hc e=>by have e:c=B:=e;omega) h6;obtain⟨e6,k5⟩:=Yb a5 N;clear g8 N d0 a5 p0;gi_wp2_with fail;refine⟨trivial,?_⟩;refine(QaA e6.o).mono ?_;rintro e w6 ⟨⟨r6,rfl⟩,b3,a2⟩;have Z:=k5.o.trans a2;have i3:=hY (show OI w B a b n ok ov (pre++[⟨tx,d,Vx,b8,b6⟩]) w6/\Agree (λb=>(F b\/b=w1.heap.size\/b<6)\/b=w2.heap.size\/b=w2.heap.size+1) W3 w6/\W3.heap.size<=w6.heap.size from
   ⟨⟨by rw [aj,show [(⟨tx,d,Vx,b8,b6⟩:ME)].length=1 from rfl,d8.o];exact b3,a7.o.sb.trans Z,Z.blk a7.o.box oM⟩,
     λb I=>Z.block b (by
      rcases I with(I|rfl|I)|rfl|rfl
      .have:=a1.o b I;omega
      all_goals omega) (λe=>by
      have e:b=B:=e;rcases I with(I|rfl|I)|rfl|rfl
      .exact (HF.o b I).2 e
      all_goals omega),Z.size⟩)
  clear b3 a2 Z;gi_wp2_with fail;exact i3.o
 rintro D xs W hD hS hI b7;have e8:xs.length=ok.length:=hS;have a4:=hI.blk;rw[e8,<-g4.o,aU]at a4;have p0:W.cell? ⟨w,0,none⟩=some (.pointer (some ⟨B,0,none⟩)):=hI.box.cell 0;have lp:=hI.box.lt;have f1:=Qcq (w:=W) ⟨#[125]⟩ a4 (by have:=HN.o;show _+1<=_;omega);obtain⟨k8,j5,k2,e4⟩:=Ye f1 hI b7 hD;have lD:=(az.1 b7).1;clear f1 hI b7 hD hS e8 a4;gi_wp2_with fail;refine⟨trivial,?_⟩;refine(eD.2 k8.o).mono ?_;rintro e w6 ⟨⟨r6,rfl⟩,b3,a2⟩;have d4:w6.heap[D]? = some (.deferred (some [])):=(a2.block D lD (λe=>by have e:D=B:=e;have:=e4.o;omega)).trans k2.o;have e3:=(St.put (o':=.deferred none) d4 rfl rfl).sb;have c3:=e3.blk b3 (by have:=e4.o;omega);have i0:Sb (λc=>c=B) w _:=(j5.o.sb.trans a2).comp e3 (λi hi e=>by have e:i=D:=e;have:=e4.o;omega);obtain⟨j6,i1,j8⟩:=Yc d4 c3 i0;clear b3 a2 d4 e3 c3 i0;gi_wp2_with fail;refine⟨sM,.inl ⟨_,_,rfl,ft j6.o,?_⟩⟩;refine⟨.tuple #[],?_,⟨_,rfl⟩,by rw[show n+(2+Qfl ok ov+(ov.length-1))=n+1+(Qfl ok ov+(ov.length-1))+1 by omega];exact i1.o,j8.o⟩;simp[results,results253,go_sem]
theorem QuZ(m:Nat):Qvg (λd=>SizeOf.sizeOf d<=m):=by
 induction m with
 |zero=>intro d hd;have:=Val.Qb6 d;omega
 |succ m ih=>
 intro d hd hc w F V B sl so a b n hV h hF a0 hB I hL h6;have a1:=h;obtain⟨k,bo,i,t,l,ok,ov⟩:=d;cases h with
 |mk bl fl bo' fo cl co hl ho hov el rl ek eo ro bk bi bt nl no=>
 unfold QcI at hc;unfold QgI at I;unfold Qsv QgI;show Calls _ (fnO k) (_++bsO k V) _ _;by_cases h2:k=2
 ·subst h2
  rw[ez rfl]at I;exact(QrY hV hB oM).mono λe w' h=>by rw[ez rfl];exact h
 by_cases Z:k=3
 ·subst Z
  simp only[if_neg h2,if_pos]at I ⊢;exact QrZ hV hB (by simp[Lit.wf,IntKind.min,IntKind.max,IntKind.signed,IntKind.bits]at bi;omega) (by simp[Lit.wf,IntKind.min,IntKind.max,IntKind.signed,IntKind.bits]at bi;omega) oM hL
 by_cases h4:k=4
 ·subst h4
  simp only[if_neg h2,if_neg Z,if_pos]at I ⊢;exact Qr0 hV hB oM oM hL
 by_cases h5:k=5
 ·subst h5
  simp only[if_neg h2,if_neg Z,if_neg h4,if_pos]at I ⊢;exact Qr1 ih (λj d hj=>bu (ab (Val.QtM hj) hd)) oM hV a1 hF a0 hB I hL h6
 by_cases N:k=6
 ·subst N
  simp only[if_neg h2,if_neg Z,if_neg h4,if_neg h5,if_pos]at I ⊢;exact Qr2 ih (λj d hj=>bu (ab (Val.QtN hj) hd)) oM hV a1 hF a0 hB I hL h6
 simp only[if_neg h2,if_neg Z,if_neg h4,if_neg h5,if_neg N]at I ⊢;have hf:fnO k=255:=by simp[fnO,h2,Z,h4,h5,N]
 have hb:bsO k V=#[]:=by simp[bsO,h2,Z,h4,h5,N]
 rw[hf,hb];exact Qr3 hB oM
end Go.Proofs.YtdiecmkpbadgjaaGreatDoor
namespace Go.Proofs.YtdiecmkpbadgjaaGreatDoor
open Go.Proofs.Tryz
open Go.RowKit Go.Maps Go.Shelf
variable{w:World}{sl so:Sl}
theorem QoK{d:Val}(h:RV w (Lt w) d sl so)(hc:QcI d<=1100000)(hL:Qb4 w):Calls prog 209 #[QbV d sl so] w λe w'=>e=.returned (.int .i64 (QgI d:Int))/\Nw w w':=by
 have a5:=QiE _ w d sl so h;have h6:=hL.lib.big;obtain⟨HH,HC,HL,a9⟩:=Ye h hc hL a5;clear h hc hL a5;go_in;go_wp2_with fail;generalize a6:World.alloc _ _=W0;obtain⟨a2,b3,b4,a3⟩:=Qas w _ _ _ _ W0 a6;obtain⟨b5,a7⟩:=Yb a2 a3;clear a6 a2 b4 a3;refine(Qlm W0 d sl so).mono ?_;rintro e w1 ⟨rfl,a1,a0⟩;rw[b3]at a0;have a4:=a7.o.ext a1;have I:=(fT b5.o).trans (fT a1);have N:=QuZ _ d (ao _) HC.o w1 (Lt w) (w.heap.size+2) (w.heap.size+1) sl so _ _ 0 a0 (HH.o.agree (fY I λb hb=>hb)) (λi hi=>⟨Nat.lt_of_lt_of_le hi I.size,by have hi:i<w:=hi;omega⟩) oM a4 (by have:=a9.o;have:=HC.o;omega) (HL.o.nw I) oM;obtain⟨Z,b0⟩:=Yb N I;have b6:=Qfd d.kind;clear a1 a0 a4 I N;go_wp2_with fail;refine Z.o.mono ?_;rintro e w2 ⟨⟨r,rfl⟩,hb,hs⟩;have c3:w2.cell? ⟨w+1,3,none⟩=some (.int .i64 ((0+QgI d:Nat):Int)):=hb.cell 3;rw[aI]at c3;have a8:=hY (b0.o.comp hs λi hi e=>by have e:i=w.heap.size+1:=e;omega);clear hb hs;go_wp2_with fail;go_ret;exact⟨rfl,a8.o⟩
def QcP(d:Val):Int:=if Qda d 1≠0 then Qda d 1 else if 16<Qdv d then 5 else if 1024<QgI d then 6 else 0
theorem Qio{d:Val}(h:RV w (Lt w) d sl so)(hc:QcI d<=1100000)(hL:Qb4 w):Calls prog 193 #[QbV d sl so] w λe w'=>e=.returned (.int .i64 (QcP d))/\Nw w w':=by
 have Z:∀W,Nw w W->RV W (Lt W) d sl so:=λW N=>(h.agree (fY N λb hb=>hb)).mono λb hb=>ab hb N.size
 have hm:=λW (N:Nw w W)=>QrM (Z W N) (hL.lib.nw N)
 have hd:=λW (N:Nw w W) (hq:Qdv d<=1000000)=>Qm7 _ d (ao _) hq W sl so (Z W N)
 have hb:=λW (N:Nw w W)=>QoK (Z W N) hc (hL.nw N)
 obtain⟨HM,HD,HB⟩:=Yc hm hd hb;obtain⟨r,hr⟩:∃r,QcP d=r:=⟨_,rfl⟩;rw[hr];have HR:=hY hr;clear hm hd hb hr Z h hL;go_in;go_wp2_with fail;have a3:=(fQ w).alloc (QtS d sl so) 34;have b6:=fU w 34 (QtS d sl so);refine(HM.o _ (fT a3)).mono ?_;rintro e w1 ⟨rfl,a9⟩;have a0:=a9.blk b6;obtain⟨q0,q1,q2,q3,q4,q5⟩:=a0.c6;have lq:=a0.lt;obtain⟨a6,b9⟩:=Yb ((fT a3).trans a9) a0;clear a3 b6 a9 a0;obtain⟨m,hm⟩:∃m,Qda d 1=m:=⟨_,rfl⟩;rw[hm];by_cases a1:m=0
 ·subst a1
  have b5:=Qij d 1 hm;obtain⟨c2,a4⟩:=Yb b5 hm;clear hm b5;go_wp2_with fail;refine(HD.o _ a6.o (by have:=c2.o;omega)).mono ?_;rintro e w2 ⟨rfl,a7⟩;have a5:=b9.o.ext a7;clear q0 q1 q2 q3 q4 q5;obtain⟨q0,q1,q2,q3,q4,q5⟩:=a5.c6;have c3:=a5.lt;have a8:=hY (a6.o.trans (fT a7));clear a7 a5;by_cases I:16<Qdv d
  ·have g0:decide ((16:Int)<(Qdv d:Int))=true:=ey oM
   have b0:r=5:=by rw[<-HR.o,QcP,a4.o,ev sM,ez I]
   have c1:=hY b0;clear b0 I;go_wp2_with fail;go_ret;exact⟨by rw[c1.o];rfl,a8.o⟩
  have g0:decide ((16:Int)<(Qdv d:Int))=false:=ew oM;have a2:=hY I;clear I;go_wp2_with fail;refine(HB.o _ a8.o).mono ?_;rintro e w3 ⟨rfl,b4⟩;have b3:=hY (a8.o.trans b4);clear b4 q0 q1 q2 q3 q4 q5;by_cases hl:1024<QgI d
  ·have g1:decide ((1024:Int)<(QgI d:Int))=true:=ey oM
   have b7:=hY (show r=6 by rw[<-HR.o,QcP,a4.o,ev sM,ev a2.o,ez hl]);clear hl;go_wp2_with fail;go_ret;exact⟨by rw[b7.o];rfl,b3.o⟩
  have g1:decide ((1024:Int)<(QgI d:Int))=false:=ew oM;have b8:=hY (show r=0 by rw[<-HR.o,QcP,a4.o,ev sM,ev a2.o,ev hl]);clear hl;go_wp2_with fail;go_ret;exact⟨by rw[b8.o];rfl,b3.o⟩
 have g0:(m != 0)=true:=by simpa using a1
 have c0:=hY (show r=m by rw[<-HR.o,QcP,hm,ez a1]);clear hm a1;go_wp2_with fail;go_ret;exact⟨by rw[c0.o];rfl,a6.o⟩
mutual
def wfV:Val->Prop
 |.mk _ _ _ _ l ok ov=>ok.length=ov.length/\QkR l/\QkR ov
def QkR:List Val->Prop
 |[]=>True
 |d::r=>wfV d/\QkR r
end
theorem QlJ:∀{l:List Val},(∀(j:Nat) d,l[j]? = some d->wfV d)->QkR l
 |[],_=>by unfold QkR;trivial
 | a :: l,h=>by
   unfold QkR;exact⟨h 0 a rfl,QlJ λj d I=>h (j+1) d (by simpa using I)⟩
variable{F:Nat->Prop}
theorem RV.wf{d:Val}(h:RV w F d sl so):wfV d:=by
 induction h with
 | mk bl fl bo fo cl co hl ho hov el rl ek eo ro bk bi bt nl no ihl iho=>
   unfold wfV;exact⟨hov.symm,QlJ ihl,QlJ iho⟩
theorem Qti{x y:Int}(h:(if x≠0 then x else y)=0):x=0/\y=0:=by
 by_cases I:x=0
 .exact ⟨I,by rw[ev (by simp[I])]at h;exact h⟩
 rw[ez I]at h;exact absurd h I
theorem Qq9(n:Nat):∀(a b:Val) (p q:Nat),SizeOf.sizeOf a<=n->wfV a->wfV b->Qda a p=0->Qda b q=0->Qbq a b=0->a=b:=by
 induction n with
 |zero=>intro a b p q h;have:=Val.Qb6 a;omega
 | succ n ih=>
   intro a b p q hn wa wb N Z I;have hl:∀(l1 l2:List Val) (p q:Nat),SizeOf.sizeOf l1<=n->QkR l1->QkR l2->Qd8 l1 p=0->Qd8 l2 q=0->cmpL l1 l2=0->l1=l2:=by
    intro l1
    induction l1 with
    | nil=>
      intro l2 p q _ _ _ _ _ I;cases l2 with
      |nil=>rfl
      |cons b r=>simp[cmpL]at I
    | cons a l1 ihl=>
      intro l2 p q hs wa wb N Z I;cases l2 with
      |nil=>simp[cmpL]at I
      | cons b l2=>
        simp only[List.cons.sizeOf_spec]at hs;unfold QkR at wa wb;unfold Qd8 at N Z;unfold cmpL at I;obtain⟨b0,I⟩:=Qti I;obtain⟨a1,N⟩:=Qti N;obtain⟨a7,Z⟩:=Qti Z;rw[ih a b p q oM wa.1 wb.1 a1 a7 b0,ihl l2 p q oM wa.2 wb.2 N Z I]
   have ho:∀(v1 v2:List Val) (k1 k2:List ByteArray) (p1 p2:Option ByteArray) (q1 q2:Nat),SizeOf.sizeOf v1<=n->QkR v1->QkR v2->k1.length=v1.length->k2.length=v2.length->QhA p1 k1 v1 q1=0->QhA p2 k2 v2 q2=0->Qe5 v1 k1 k2 v2=0->k1=k2/\v1=v2:=by
    intro v1
    induction v1 with
    | nil=>
      intro v2 k1 k2 p1 p2 q1 q2 _ _ _ h1 h2 _ _ I;cases v2 with
      | nil=>
        simp only[List.length_nil,List.length_eq_zero_iff]at h1 h2;exact⟨by rw[h1,h2],rfl⟩
      |cons b r=>simp[Qe5]at I
    | cons a v1 ihl=>
      intro v2 k1 k2 p1 p2 q1 q2 hs wa wb h1 h2 N Z I;cases v2 with
      |nil=>simp[Qe5]at I
      | cons b v2=>
        cases k1 with
        |nil=>simp at h1
        | cons x k1=>
          cases k2 with
          |nil=>simp at h2
          | cons y k2=>
            simp only[List.cons.sizeOf_spec]at hs;unfold QkR at wa wb;unfold QhA at N Z;unfold Qe5 at I;have I:(if Qbn x y≠0 then Qbn x y else if Qbq a b≠0 then Qbq a b else Qe5 v1 k1 k2 v2)=0:=I;have N:(if !Lib.validD x.data.toList then 3 else if p1.any (λq=>!klt q x)then 8 else if Qda a q1≠0 then Qda a q1 else QhA (some x) k1 v1 q1)=0:=N;have Z:(if !Lib.validD y.data.toList then 3 else if p2.any (λq=>!klt q y)then 8 else if Qda b q2≠0 then Qda b q2 else QhA (some y) k2 v2 q2)=0:=Z;obtain⟨b4,I⟩:=Qti I;obtain⟨b0,I⟩:=Qti I;have a1:Qda a q1=0/\QhA (some x) k1 v1 q1=0:=by
             split at N
             .cases N
             split at N
             .cases N
             exact Qti N
            have a7:Qda b q2=0/\QhA (some y) k2 v2 q2=0:=by
             split at Z
             .cases Z
             split at Z
             .cases Z
             exact Qti Z
            obtain⟨e1,e2⟩:=ihl v2 k1 k2 (some x) (some y) q1 q2 oM wa.2 wb.2 (by simpa using h1) (by simpa using h2) a1.2 a7.2 I;rw[QhQ.1 b4,e1,ih a b q1 q2 oM wa.1 wb.1 a1.1 a7.1 b0,e2];exact⟨rfl,rfl⟩
   obtain⟨k,b1,i,t,l,ok,ov⟩:=a;obtain⟨k',b2,i',t',l',a0,a8⟩:=b;simp only[Val.mk.sizeOf_spec]at hn;unfold wfV at wa wb;unfold Qda at N Z;have I:(if k≠k' then Qcj k k' else if k=2 then Qjg b1 b2 else if k=3 then Qcj i i' else if k=4 then Qbn t t' else if k=5 then cmpL l l' else if k=6 then Qe5 ov ok a0 a8 else 0)=0:=by
    have h2:=I;unfold Qbq at h2;exact h2
   have hk:k=k':=by
    by_cases h:k=k'
    .exact h
    rw[ez h,Qj8]at I;exact absurd I h
   subst hk;have ha:Qb0 k b1 i t l.length ok.length=false:=by
    cases h:Qb0 k b1 i t l.length ok.length with
    |false=>rfl
    |true=>rw[h,ez rfl]at N;cases N
   have hb:Qb0 k b2 i' t' l'.length a0.length=false:=by
    cases h:Qb0 k b2 i' t' l'.length a0.length with
    |false=>rfl
    |true=>rw[h,ez rfl]at Z;cases Z
   rw[ha]at N;rw[hb]at Z;have a9:∀{t:ByteArray},t.size=0->t=ByteArray.empty:=λh=>ByteArray.ext (Array.eq_empty_of_size_eq_zero h)
   have b3:∀{ok:List ByteArray} {ov:List Val},ok.length=ov.length->ok.length=0->ok=[]/\ov=[]:=λh1 h2=>⟨List.eq_nil_of_length_eq_zero h2,av (h1▸h2)⟩
   unfold Qb0 at ha hb;by_cases hr:k<1\/6<k
   .rw [ez hr]at ha;cases ha
   rw[ev hr]at ha hb;simp only[Bool.or_eq_false_iff,Bool.and_eq_false_iff,bne_eq_false_iff_eq]at ha hb;rw[ev sM]at I;obtain⟨⟨⟨⟨a2,a3⟩,a4⟩,a5⟩,a6⟩:=ha;obtain⟨⟨⟨⟨c2,c3⟩,c4⟩,c5⟩,c6⟩:=hb;have eb:b1=b2:=by
    by_cases h:k=2
    .subst h;rw[ez rfl,QmX]at I;exact I
    rw[a2.resolve_left h,c2.resolve_left h]
   have ei:i=i':=by
    by_cases h:k=3
    .subst h;rw[ev oN,ez rfl,Qj8]at I;exact I
    rw[a3.resolve_left h,c3.resolve_left h]
   have et:t=t':=by
    by_cases h:k=4
    .subst h;rw[ev oN,ev oN,ez rfl,QhQ]at I;exact I
    rw[a9 (a4.resolve_left h),a9 (c4.resolve_left h)]
   have el:l=l':=by
    by_cases h:k=5
    ·subst h
     rw[ev oN,ev oN,ev oN,ez rfl]at I;have m1:Qd8 l (p+1)=0:=by
      simp only[Bool.false_eq_true,if_false]at N;split at N
      .cases N
      simpa using N
     have m2:Qd8 l' (q+1)=0:=by
      simp only[Bool.false_eq_true,if_false]at Z;split at Z
      .cases Z
      simpa using Z
     exact hl l l' _ _ oM wa.2.1 wb.2.1 m1 m2 I
    rw[av (a5.resolve_left h),av (c5.resolve_left h)]
   have eo:ok=a0/\ov=a8:=by
    by_cases h:k=6
    ·subst h
     rw[ev oN,ev oN,ev oN,ev oN,ez rfl]at I;have m1:QhA none ok ov (p+1)=0:=by
      simp only[Bool.false_eq_true,if_false]at N;split at N
      .cases N
      simpa using N
     have m2:QhA none a0 a8 (q+1)=0:=by
      simp only[Bool.false_eq_true,if_false]at Z;split at Z
      .cases Z
      simpa using Z
     exact ho ov a8 ok a0 _ _ _ _ oM wa.2.2 wb.2.2 wa.1 wb.1 m1 m2 I
    obtain⟨e1,e2⟩:=b3 wa.1 (a6.resolve_left h);obtain⟨e3,e4⟩:=b3 wb.1 (c6.resolve_left h);rw[e1,e2,e3,e4];exact⟨rfl,rfl⟩
   rw[eb,ei,et,el,eo.1,eo.2]
def okV(v:Val):Prop:=wfV v/\QcP v=0
theorem okV.may{v:Val}(h:okV v):Qda v 1=0:=by
 have h1:=h.2;unfold QcP at h1;by_cases h2:Qda v 1=0
 .exact h2
 rw[ez h2]at h1;exact h1
theorem okV.eq{a b:Val}(N:okV a)(I:okV b)(h:Qbq a b=0):a=b:=Qq9 _ a b 1 1 (ao _) N.1 I.1 N.may I.may h
structure OkM(M:List Ent):Prop where
 sorted:Sorted M
 ok:∀e∈M,Qci e.1=0/\okV e.2
theorem OkM.nil:OkM []:=⟨List.Pairwise.nil,λe h=>by cases h⟩
variable{M:List Ent}
theorem OkM.get(h:OkM M){k:ByteArray}{v:Val}(I:Qaq M k=some v):Qci k=0/\okV v:=h.ok (k,v) (QdW I)
theorem OkM.put(h:OkM M){k:ByteArray}{v:Val}(N:Qci k=0)(Z:okV v):OkM (QbY M k v):=
 ⟨Qa1 h.sorted k v,λe he=>(QiF he).elim (λI=>I▸⟨N,Z⟩) (h.ok e)⟩
theorem OkM.del(h:OkM M)(k:ByteArray):OkM (QbM M k):=⟨QaN h.sorted k,λe I=>h.ok e ((Qa3 M k).subset I)⟩
theorem Qe0:∀{a b:List Ent},Sorted a->Sorted b->(∀k,Qaq a k=Qaq b k)->a=b
 |[],[],_,_,_=>rfl
 |[],f::b,_,_,h=>by have:=h f.1;simp[Qaq]at this
 |e::a,[],_,_,h=>by have:=h e.1;simp[Qaq]at this
 | e :: a,f :: b,ha,hb,h=>by
   obtain⟨a1,a2⟩:=aW.1 ha;obtain⟨b1,b2⟩:=aW.1 hb;have I:∀{x:Ent} {l:List Ent} {k:ByteArray},(∀y∈l,klt x.1 y.1=true)->klt k x.1=true->Qaq (x::l) k=none:=λ{x l k} h1 h2=>by
    have:∀y∈x::l,y.1≠k:=λy hy e=>by
     rcases aE.1 hy with rfl|hy
     .rw [e,Qag]at h2;cases h2
     have:=QaH h2 (h1 y hy);rw[e,Qag]at this;cases this
    cases Z:Qaq (x::l) k with
    |none=>rfl
    |some v=>exact absurd rfl (this _ (QdW Z))
   have hk:e.1=f.1:=by
    refine QbE ?_ ?_
    ·cases hc:klt e.1 f.1 with
     |false=>rfl
     | true=>
       have h1:=h e.1;rw[Qaq,ez rfl,I b1 hc]at h1;cases h1
    cases hc:klt f.1 e.1 with
    |false=>rfl
    | true=>
      have h1:=h f.1;rw[I a1 hc,Qaq,ez rfl]at h1;cases h1
   have N:=h e.1;rw[Qaq,ez rfl,Qaq,ez hk.symm]at N;injection N with N;have he:e=f:=Prod.ext hk N;subst he;rw[Qe0 a2 b2 λk=>?_];by_cases hx:e.1=k
   ·have n1:∀ {l:List Ent},(∀ y∈l,klt e.1 y.1=true)→Qaq l k=none:=fun {l} h1=>by
     cases Z:Qaq l k with
     |none=>rfl
     |some v=>have:=h1 _ (QdW Z);rw[hx]at this;rw[show((k,v):Ent).1=k from rfl,Qag]at this;cases this
    rw[n1 a1,n1 b1]
   have:=h k;rwa[Qaq,ev hx,Qaq,ev hx]at this
structure QiZ(B:List Ent)(C:Slots)(M:List Ent):Prop where
 below:OkM B
 ok:OkM M
 chg:Qay C
 now:∀k,QkO B C k=Qaq M k
theorem QiZ.com{B:List Ent}{C:Slots}(h:QiZ B C M):Qfw B C B=M:=by
 have hs:=Qcn B C B h.below.sorted;have ho:∀e∈Qfw B C B,okV e.2:=by
  have:∀(C':Slots) (t:List Ent),(∀p∈C',p∈C)->(∀e∈t,okV e.2)->∀e∈Qfw B C' t,okV e.2:=by
   intro C'
   induction C' with
   |nil=>intro t _ N;rw[Qfw];exact N
   | cons p r ih=>
     intro t hp N;obtain⟨k,s⟩:=p;have hr:=λq hq=>hp q (aF _ hq)
     cases s with
     | some v=>
       rw[Qfw];split
       .exact ih t hr N
       refine ih _ hr λe I=>?_
       rcases QiF I with rfl|I
       ·have h1:=h.now k
        rw[QkO,Qir h.chg (hp _ (aC ..))]at h1;exact(h.ok.get h1.symm).2
       exact N e I
     | none=>
       rw[Qfw];split
       .exact ih _ hr λe I=>N e ((Qa3 t k).subset I)
       exact ih t hr N
  exact this C B (λp hp=>hp) λe I=>(h.below.ok e I).2
 refine Qe0 hs h.ok.sorted λk=>?_
 have h1:=QeB B (k:=k) C B h.chg h.below.sorted rfl;rw[h.now k]at h1;cases ha:Qaq (Qfw B C B) k with
 | none=>
   cases Z:Qaq M k with
   |none=>rfl
   |some b=>rw[ha,Z]at h1;cases h1
 | some a=>
   cases Z:Qaq M k with
   |none=>rw[ha,Z]at h1;cases h1
   | some b=>
     rw[ha,Z]at h1;simp only[Qu3,decide_eq_true_eq]at h1;exact congrArg some ((ho _ (QdW ha)).eq (h.ok.get Z).2 h1)
theorem QiZ.start{B:List Ent}(h:OkM B):QiZ B [] B:=⟨h,h,List.Pairwise.nil,λk=>rfl⟩
theorem QiZ.put{B:List Ent}{C C':Slots}(h:QiZ B C M){k:ByteArray}{v:Val}(N:Qci k=0)(Z:okV v)(hs:Qay C')(hC:∀x,QaZ C' x=if x=k then some (some v)else QaZ C x):QiZ B C' (QbY M k v):=
 ⟨h.below,h.ok.put N Z,hs,λx=>by
   unfold QkO;rw[hC,QeK];by_cases I:x=k
   .rw [ez I,ez I]
   rw[ev I,ev I];exact h.now x⟩
theorem QiZ.del{B:List Ent}{C C':Slots}(h:QiZ B C M){k:ByteArray}(hs:Qay C')(N:∀x,QaZ C' x=if x=k then some none else QaZ C x):QiZ B C' (QbM M k):=
 ⟨h.below,h.ok.del k,hs,λx=>by
   unfold QkO;rw[N,Qcx _ _ _ h.ok.sorted];by_cases I:x=k
   .rw [ez I,ez I]
   rw[ev I,ev I];exact h.now x⟩
def inI(lo hi:ByteArray)(op:Bool)(e:Ent):Bool:=!(klt e.1 lo)&&(op||klt e.1 hi)
def QaM(lo hi:ByteArray)(op:Bool)(es:List Ent):List Ent:=es.filter (inI lo hi op)
theorem QaT(lo hi:ByteArray)(op:Bool)(a b:List Ent):QaM lo hi op (a++b)=QaM lo hi op a++QaM lo hi op b:=cz ..
variable{lo hi:ByteArray}{op:Bool}
theorem QfF{es:List Ent}(h:∀e∈es,klt e.1 lo=true):QaM lo hi op es=[]:=
 List.filter_eq_nil_iff.2 λe I=>by simp[inI,h e I]
def Qjw(hi:ByteArray)(op:Bool)(k:ByteArray):Bool:=!op && !(klt k hi)
theorem QdH{es:List Ent}(h:∀e∈es,Qjw hi op e.1=true):QaM lo hi op es=[]:=
 List.filter_eq_nil_iff.2 λe I=>by
  have:=h e I;simp only[Qjw,Bool.and_eq_true,Bool.not_eq_true']at this;simp[inI,this.1,this.2]
theorem Qo9{a b:ByteArray}(h:Qjw hi op a=true)(I:klt a b=true):Qjw hi op b=true:=by
 simp only[Qjw,Bool.and_eq_true,Bool.not_eq_true']at h ⊢;refine⟨h.1,?_⟩;cases N:klt b hi
 .rfl
 rw[QaH I N]at h;cases h.2
variable{e:Ent}
theorem QhG(h1:klt e.1 lo=false)(h2:Qjw hi op e.1=false):QaM lo hi op [e]=[e]:=by
 have:inI lo hi op e=true:=by
  simp only[Qjw,Bool.and_eq_false_iff,Bool.not_eq_false']at h2;rcases h2 with h2|h2<;>simp[inI,h1,h2]
 simp[QaM,this]
theorem QeX{A B:List Ent}(hs:Sorted (A++B))(h:∃e∈A,Qjw hi op e.1=true):QaM lo hi op B=[]:=by
 obtain⟨e,N,h⟩:=h;exact QdH λx I=>Qo9 h ((Qck hs).2.2 e N x I)
theorem le_last{es:List Ent}(hs:Sorted es)(I:e∈es):klt (Qbl es) e.1=false:=by
 have N:es≠[]:=by rintro rfl;cases I
 rcases List.eq_nil_or_concat es with rfl |⟨a,x,rfl⟩
 .exact absurd rfl N
 rw[List.concat_eq_append]at hs I;have Z:Qbl (a.concat x)=x.1:=by simp[Qbl]
 rw[Z];rcases aS.1 I with h|h
 .exact Qbh ((Qck hs).2.2 e h x (bc.2 rfl))
 rw[bc.1 h];exact Qag _
theorem Qrj{es:List Ent}(hs:Sorted es)(I:e∈es):klt e.1 (Qav es)=false:=by
 cases es with
 |nil=>cases I
 | cons x es=>
   show klt e.1 x.1=false;rcases aE.1 I with rfl|h
   .exact Qag _
   exact Qbh ((aW.1 hs).1 e h)
theorem Qnt{es:List Ent}(hs:Sorted es)(h:klt (Qbl es) lo=true):∀e∈es,klt e.1 lo=true:=λe I=>Qdx (le_last hs I) h
theorem Qfx{es:List Ent}(hs:Sorted es)(h:Qjw hi op (Qav es)=true):∀e∈es,Qjw hi op e.1=true:=λe N=>by
 simp only[Qjw,Bool.and_eq_true,Bool.not_eq_true']at h ⊢;refine⟨h.1,?_⟩;cases I:klt e.1 hi
 .rfl
 have:=Qdx (Qrj hs N) I;rw[h.2]at this;cases this
def Qk3:List UInt8->Option (List UInt8)
 |[]=>none
 | b :: t=>match Qk3 t with
   |some e=>some (b::e)
   |none=>if b=255 then none else some [b+1]
theorem Qsw(k:List UInt8):Op.bytesLess k []=false:=by cases k<;>rfl
theorem QhV{b c:UInt8}(I:b≠255):(c<b+1)↔(c<b\/c=b):=by
 have h1:(b+1).toNat=b.toNat+1:=by
  rw[UInt8.toNat_add];have:b.toNat≠255:=λe=>I (UInt8.toNat_inj.1 e)
  have:=b.toNat_lt;show(b.toNat+1)%256=_;omega
 rw[UInt8.lt_iff_toNat_lt,UInt8.lt_iff_toNat_lt,h1,<-UInt8.toNat_inj];omega
theorem Qhm:∀p k:List UInt8,(p.isPrefixOf k)=(!(Op.bytesLess k p)&&(match Qk3 p with|none=>true|some e=>Op.bytesLess k e))
 |[],k=>by simp[Qsw,Qk3,List.isPrefixOf]
 |b::t,[]=>by simp[Op.bytesLess,List.isPrefixOf]
 | b :: t,c :: s=>by
   have ih:=Qhm t s;simp only[List.isPrefixOf,Op.bytesLess,Qk3];by_cases N:c<b
   ·have a0:(b == c)=false:=eA.2 (by rintro rfl;exact absurd N (UInt8.lt_irrefl _))
    simp[N,a0]
   by_cases he:c=b
   ·subst he
    cases hE:Qk3 t with
    | some e=>
      rw[hE]at ih;simp[Op.bytesLess,ih,UInt8.lt_irrefl]
    | none=>
      rw[hE]at ih;by_cases I:c=255
      .subst I;simp[ih,UInt8.lt_irrefl]
      have h1:c<c+1:=(QhV I).2 (.inr rfl);simp[Op.bytesLess,ih,UInt8.lt_irrefl,I,h1]
   have a0:(b==c)=false:=eA.2 λe=>he e.symm
   have Z:(c==b)=false:=eA.2 he;simp only[a0,Bool.false_and,N,decide_false,Z,Bool.or_self,Bool.not_false,Bool.true_and];cases hE:Qk3 t with
   |some e=>simp[Op.bytesLess,N,Z]
   | none=>
     by_cases I:b=255
     ·exfalso
      subst I;have h1:=UInt8.not_lt.1 N;have h2:c<=255:=UInt8.le_iff_toNat_le.2 (by have:=c.toNat_lt;show c.toNat<=255;omega);exact he (UInt8.le_antisymm h2 h1)
     have h1:¬c<b+1:=λh=>by
      rcases(QhV I).1 h with h|h
      .exact N h
      exact he h
     simp[I,Op.bytesLess,h1,Qsw]
theorem Qk4:∀n:Nat,Qk3 (List.replicate n 255)=none
 |0=>rfl
 |n+1=>by rw[dQ,Qk3,Qk4 n];rfl
theorem Qpa{b:UInt8}(I:b≠255)(n:Nat):∀a:List UInt8,Qk3 (a++b::List.replicate n 255)=some (a++[b+1])
 |[]=>by rw[aJ,Qk3,Qk4];simp[I]
 |x::a=>by rw[aK,Qk3,Qpa I n a];rfl
abbrev inV(lo hi:ByteArray)(op:Bool):Value:=.agg #[.string lo,.string hi,.bool op]
theorem Qim(w:World)(lo hi:ByteArray)(op:Bool)(k:ByteArray):Calls prog 266 #[inV lo hi op,.string k] w λe w'=>e=.returned (.bool (Qjw hi op k))/\Ext w w':=by
 cases op
 ·go_in
  go_wp2_with fail;go_ret;exact⟨rfl,(fQ w).alloc _ _⟩
 go_in;go_wp2_with fail;go_ret;exact⟨rfl,(fQ w).alloc _ _⟩
structure Qor(At:World->Prop)(nv:Value)(es:List Ent):Prop where
 ext:∀{W W'},At W->Ext W W'->At W'
 ptr:∃p,nv=.pointer p
 height:∀W,At W->Calls prog 66 #[nv] W λe w'=>e=.returned (.int .i64 0)/\W=w'
 size:∀W,At W->Calls prog 70 #[nv] W λe w'=>e=.returned (.int .i64 es.length)/\∃q,w'=W.drewN q
 kids:∀W,At W->Calls prog 67 #[nv] W λe w'=>e=.returned (.slice none 0 0)/\W=w'
 entry:∀W,At W->∀(i:Nat) (e:Ent),es[i]? = some e->Calls prog 72 #[nv,.int .i64 i] W (Qdq e.1 e.2 W)
 none:∀W,At W->∀i:Int,(i<0\/es.length<=i)->Calls prog 72 #[nv,.int .i64 i] W λe w'=>e=.returned (.tuple #[Qfu ByteArray.empty zeroV Sl.none Sl.none,.bool false])/\Ext W w'
 sorted:Sorted es
 few:es.length<=8
def Qdm(F:Nat->Prop)(h:Nat)(t:PT h)(W:World):Prop:=IsN W F h t/\∀b,F b->b<W.heap.size
variable{h:Nat}{W W':World}
theorem Qdm.ext{t:PT h}(a:Qdm F h t W)(k:Ext W W'):Qdm F h t W':=⟨a.1.agree (k.agree a.2),λb I=>ab (a.2 b I) k.size⟩
theorem Qdm.lt{t:PT h}(a:Qdm F h t W):IsN W (Lt W) h t:=a.1.mono a.2
theorem Qnp{t:PT 0}(ok:OkT 0 t)(hs:Sorted (ents 0 t)):Qor (Qdm F 0 t) (ptr 0 t) (ents 0 t) where
 ext:=Qdm.ext
 ptr:=⟨_,rfl⟩
 height W a:=QaC a.1
 size W a:=Qf8 a.1 (ak (show(ents 0 t).length<=8 from ok) oN)
 kids W a:=QjP a.1
 entry W a i e h:=Qjx a.lt h
 none W a i h:=Qhs a.lt h
 sorted:=hs
 few:=ok
theorem QpE:Qor (λ_=>True) (.pointer none) [] where
 ext _ _:=trivial
 ptr:=⟨_,rfl⟩
 height W _:=QdV W
 size W _:=(QmD W).mono λe w' ⟨h1,h2⟩=>⟨h1,0,h2.symm⟩
 kids W _:=Qmd W
 entry W _ i e h:=by simp at h
 none W _ i _:=Qjy W i
 sorted:=List.Pairwise.nil
 few:=sM
variable{nv:Value}{b1 b2:Nat}
theorem QmW{k k':ByteArray}{v:Val}{i:Nat}(h1:W.cell? ⟨b1,0,none⟩=some nv)(h2:W.cell? ⟨b2,0,none⟩=some (.string k))
  (hp:∃p,nv=.pointer p) (Z:Calls prog 72 #[nv,.int .i64 i] W (Qdq k' v W)) :
  Calls prog 287 #[.int .i64 i,.pointer (some ⟨b1,0,none⟩),.pointer (some ⟨b2,0,none⟩)] W λe w'=>e=.returned (.bool !(klt k' k))/\Ext W w':=by
 obtain⟨p,rfl⟩:=hp;have I:=eL W _ h2;go_in;go_wp2_with fail;refine Z.mono ?_;rintro e w1 ⟨sl,so,rfl,N,-⟩;have q2:=(N.cell I).trans h2;have l2:b2<w1:=ab I N.size;have HX:=hY N;clear Z N h2;go_wp2;go_ret;exact⟨rfl,HX.o.alloc _ _⟩
theorem QoD{At:World->Prop}{es:List Ent}(Z:Qor At nv es)(hw:At w)(k:ByteArray):Calls prog 278 #[nv,.string k] w λe w'=>e=.returned (.int .i64 (Qct es k))/\Ext w w':=by
 obtain⟨pp,rfl⟩:=Z.ptr;have hl:=Z.few;have a7:∀W,Ext w W->W.cell? ⟨w,0,none⟩=some (.pointer pp)->W.cell? ⟨w+1,0,none⟩=some (.string k)->Calls prog 69 #[.int .i64 es.length,.func (.func 287) #[] #[.pointer (some ⟨w,0,none⟩),.pointer (some ⟨w+1,0,none⟩)]] W (QcL es.length (λi=>!(klt ((es[i]?.map Prod.fst).getD ByteArray.empty) k)) W):=by
  intro W hW c1 c2;refine Qd0 287 _ _ es.length _ W (eU func287 kM rfl) oM ?_ ?_
  ·intro i W' hi a1
   obtain⟨x,hx⟩:∃x,es[i]? = some x:=⟨_,ac hi⟩;rw[hx];exact QmW ((a1.cell (eL W _ c1)).trans c1) ((a1.cell (eL W _ c2)).trans c2) ⟨_,rfl⟩ (Z.entry W' (Z.ext (Z.ext hw hW) a1) i x hx)
  intro i j b9 hj I;by_cases a8:i=j
  .subst a8;exact I
  obtain⟨x,hx⟩:∃x,es[i]? = some x:=⟨_,ac oM⟩;obtain⟨y,hy⟩:∃y,es[j]? = some y:=⟨_,ac hj⟩;have b6:=QdK Z.sorted (i:=i) (j:=j) oM hx hy;rw[hx]at I;rw[hy];simp only[Option.map_some,Option.getD_some,Bool.not_eq_true']at I ⊢;cases b8:klt y.1 k
  .rfl
  have:=QaH b6 b8;rw[I]at this;cases this
 obtain⟨HC,b4,HW⟩:=Yc Z a7 hw;clear Z a7 hw;go_in;go_wp2_with fail;generalize b0:World.alloc _ _=W0;obtain⟨a3,b7,a0,a4⟩:=Qas w _ _ _ _ W0 b0;have q0:W0.cell? ⟨w,0,none⟩=some (.pointer pp):=a0.cell 0;obtain⟨a2,b5,b3⟩:=Yc a3 a0 a4;clear b0 a0 a4 a3 b7;refine(HC.o.size W0 (HC.o.ext HW.o a2.o)).mono ?_;rintro e w1 ⟨rfl,q,rfl⟩;clear q0;go_wp2_with fail;refine(b4.o _ (a2.o.drewN q) (b5.o.cell 0) (b3.o.cell 0)).mono ?_;rintro e w1 ⟨p,rfl,hp,a5,a6,a9⟩;have N:Qct es k=p:=Qlr hp (λi e hi he=>by
   have:(!(klt ((es[i]?.map Prod.fst).getD ByteArray.empty) k))=false:=a5 i hi;rw[he]at this;simpa using this) (λe he=>by
   have:(!(klt ((es[p]?.map Prod.fst).getD ByteArray.empty) k))=true:=a6 p (ao _) (ai.1 he).1;rw[he]at this;simpa using this)
 obtain⟨HE,HP⟩:=Yb ((a2.o.drewN q).trans a9) N;clear a5 a6 N a9;go_wp2_with fail;go_ret;exact⟨by rw[HP.o];rfl,HE.o⟩
theorem Qup{t:PT (h+1)}(ok:OkT (h+1) t){I:PT h}(N:I∈t.2):ents h I≠[]:=by
 have h1:=ok.2.2 I N;have:=Qbk h I h1.1 oM;intro e;rw[e]at this;simp at this
def Qgg(F:Nat->Prop)(T:RT)(W:World):Prop:=IsT W F T/\∀b,F b->b<W.heap.size
variable{T:RT}
theorem Qgg.ext(a:Qgg F T W)(k:Ext W W'):Qgg F T W':=⟨a.1.agree (k.agree a.2),λb I=>ab (a.2 b I) k.size⟩
abbrev fO:=@wpIn_wide
attribute [local go_sem] Oper.semAt_some
abbrev Qta(x:LE):Array Value:=#[.string x.k,QbV x.v x.sl x.so]
structure QmQ(all:List Ent)(pre:List LE)(x:LE)(W0 W1:World):Prop where
 at_:all[pre.length]? = some x.ent
 pre_:pre.map LE.ent=all.take pre.length
 val:RV W1 (In W0.heap.size W1.heap.size) x.v x.sl x.so
 key:x.k.size<=maxLen
def Qbj(lo hi:ByteArray)(op:Bool)(es all:List Ent)(pre:List LE)(J:List LE->(Nat->Prop)->World->Prop)(Jx:List LE->World->Prop)(C:Nat->Prop)(W:World)(e:Ending)(W':World):Prop:=
 (∃(new:List LE) (C':Nat->Prop) (W0:World),(e=.returned (.bool true)\/(e=.returned (.bool false)/\∃x∈es,Qjw hi op x.1=true))/\J (pre++new) C' W0/\Ext W0 W'/\new.map LE.ent=QaM lo hi op es/\St C W W'/\∀b,C' b->C b\/W.heap.size<=b)\/
 (e=.returned (.bool false)/\St C W W'/\∃pre' W0,Jx pre' W0/\Ext W0 W'/\pre'.map LE.ent <+: all)
variable{all rest:List Ent}{x:LE}
theorem QnU{pre I:List LE}{A:List Ent}{B:List Ent}(N:all=pre.map LE.ent++(QaM lo hi op (A++x.ent::B)++rest))(Z:I.map LE.ent=QaM lo hi op A)(h1:klt x.k lo=false)(h2:Qjw hi op x.k=false) :
  all[(pre++I).length]? = some x.ent/\(pre++I).map LE.ent=all.take (pre++I).length/\(I++[x]).map LE.ent=QaM lo hi op (A++[x.ent]):=by
 have e1:QaM lo hi op (A++x.ent::B)=QaM lo hi op A++(x.ent::QaM lo hi op B):=by
  rw[show A++x.ent::B=A++([x.ent]++B)from rfl,QaT,QaT,QhG (e:=x.ent) h1 h2];rfl
 rw[e1,<-Z]at N;have e2:all=(pre++I).map LE.ent++(x.ent ::(QaM lo hi op B++rest)):=by rw[N];simp
 have hl:(pre++I).length=((pre++I).map LE.ent).length:=sM
 refine⟨?_,?_,?_⟩
 .rw [e2,hl,aM (ao _),cF];rfl
 .rw [e2,hl,dR]
 rw[aH,Z,QaT,be,bH,QhG (e:=x.ent) h1 h2]
theorem Qlu{es:List Ent}(hs:Sorted es){i:Nat}{x:Ent}(hx:es[i]? = some x)(Z:Qjw hi op x.1=true):QaM lo hi op (es.take i)=QaM lo hi op es:=by
 have hd:es.drop i=x::es.drop (i+1):=by
  obtain⟨h1,rfl⟩:=ai.1 hx;exact aG h1
 conv=>rhs;rw[<-aX i es]
 rw[QaT,QdH (es:=es.drop i),aY];intro e I;have N:Sorted (es.drop i):=cW (dV _ _) hs;rw[hd]at I N;rcases aE.1 I with rfl|I
 .exact Z
 exact Qo9 Z ((aW.1 N).1 e I)
variable{n:Nat}
theorem QfW{α:Type}{l:List α}{x:α}(h:l[n]? = some x):l.take n++[x] <+: l:=by
 have e:l.take (n+1)=l.take n++[x]:=by rw[aT,h];rfl
 rw[<-e];exact List.take_prefix _ _
structure Qt1(lo hi:ByteArray)(op:Bool)(es:List Ent)(At:World->Prop)(pre:List LE)(J:List LE->(Nat->Prop)->World->Prop)(C:Nat->Prop)(W:World)(i:Nat)(new:List LE)(C':Nat->Prop)(Wj wr:World):Prop where
 j:J (pre++new) C' Wj
 ext:Ext Wj wr
 new_:new.map LE.ent=QaM lo hi op (es.take i)
 st:St C W wr
 sub:∀b,C' b->C b\/W.heap.size<b
 box:Blk wr W.heap.size 297 #[.string lo,.string hi,.bool op]
 at_:At wr
variable{pre:List LE}{W0:World}
theorem QkG{At:World->Prop}{es:List Ent}(hc:Qor At nv es)(b9:∀W W',At W->Agree F W W'->W.heap.size<=W'.heap.size->At W')(e3:∀e∈es,e.1.size<=maxLen) 
  {l:Nat} {J:List LE->(Nat->Prop)->World->Prop} {Jx:List LE->World->Prop} (hT:Takes prog l Qta (QmQ all) J Jx) {C:Nat->Prop} (hJ:J pre C W0) (hx:Ext W0 W) (hw:At W) (hF:∀b,F b->b<W.heap.size/\¬C b) (b5:all=pre.map LE.ent++(QaM lo hi op es++rest)) :
  Calls prog 265 #[nv,inV lo hi op,.func (.yield l) #[] #[]] W (Qbj lo hi op es all pre J Jx C W):=by
 obtain⟨pp,rfl⟩:=hc.ptr;have hl:=hc.few;have e2:=hT.lt pre C W0 hJ;have d0:Ext W (W.alloc (.cells #[.string lo,.string hi,.bool op] 297)):=(fQ W).alloc _ _;have d5:=fU W 297 #[.string lo,.string hi,.bool op];have c8:=QoD hc (hc.ext hw d0) lo;obtain⟨d7,e0⟩:=QgQ es lo hc.sorted;obtain⟨p,hp⟩:∃p,Qct es lo=p:=⟨_,rfl⟩;rw[hp]at c8 d7 e0;have e7:p<=es.length:=by rw[<-hp];exact Qp8 _ _
 have q0:(W.alloc (.cells #[.string lo,.string hi,.bool op] 297)).cell? ⟨W.heap.size,0,none⟩=some (.string lo):=d5.cell 0;obtain⟨HC,g3,i6,HT,HJ,HX,HW⟩:=Yh hc b9 e3 hT hJ hx hw;obtain⟨HF,f4,i4,e6,i2,g0,j1⟩:=Yh hF b5 d5 c8 d7 e0 d0;have g8:=hY e2;clear hc b9 e3 hT hJ hx hw hF b5 c8 d7 e0 hp d5 d0 e2;refine(eD (n:=5)).1 ?_;refine fC func265 rfl trivial ?_ rfl;simp only[ntmps265,List.size_toArray,List.length_cons,List.length_nil,Nat.reduceAdd,Nat.reduceSub,Array.replicate_succ,Array.replicate_zero,List.push_toArray,List.append_toArray,List.nil_append,List.cons_append];gi_wp2_with fail;refine⟨trivial,?_⟩;refine(eD.2 e6.o).mono ?_;rintro e w1 ⟨rfl,d6⟩;obtain⟨d8,i1⟩:=Yb (j1.o.trans d6) (i4.o.ext d6);clear d6 q0 e6;gi_wp2_with fail;gi_loopw [7] (λv wr=>∃(i:Nat) (a0:List LE) (C':Nat->Prop) (Wj:World),v=.int .i64 i/\p<=i/\i<=es.length/\Qt1 lo hi op es At pre J C W i a0 C' Wj wr) (λv _=>es.length -(intOf v).toNat)
 case atStart=>exact⟨p,[],C,W0,rfl,ao _,e7,⟨by rw[aY];exact HJ.o,HX.o.trans d8.o,by rw[QfF i2.o];rfl,d8.o.st _,λb I=>.inl I,i1.o,HC.o.ext HW.o d8.o⟩⟩
 obtain⟨i,a0,C',Wj,rfl,i8,j8,hS⟩:=hrel;have Z:=hY hS;have f1:=HC.o.size wr hS.at_;have j3:=hY f1;clear hS f1;gi_wp2_with fail;refine⟨trivial,?_⟩;refine(eD.2 j3.o).mono ?_;rintro e w2 ⟨rfl,q,rfl⟩;have a6:Ext wr (wr.drewN q):=(fQ wr).drewN q;by_cases f3:i<es.length
 ·have g1:(i:Int)<(es.length:Int):=oM
  have j7:decide ((i:Int)<(es.length:Int))=true:=ey g1;obtain⟨x,e1⟩:∃x,es[i]? = some x:=⟨_,ac f3⟩;have f0:=HC.o.entry (wr.drewN q) (HC.o.ext Z.o.at_ a6) i x e1;obtain⟨j4,a1⟩:=Yb f0 e1;clear f0 e1;gi_wp2_with fail;refine⟨trivial,?_⟩;refine(eD.2 j4.o).mono ?_;rintro e w3 ⟨sl,so,rfl,c9,f9⟩;have d3:Ext w3 (w3.alloc (.cells #[.string x.1,.int .i64 x.2.kind,.bool x.2.b,.int .i64 x.2.i,.string x.2.t,.slice sl.a x.2.l.length sl.c,.slice so.a x.2.ok.length so.c] 78)):=(fQ w3).alloc _ _;have f8:=fU w3 78 #[.string x.1,.int .i64 x.2.kind,.bool x.2.b,.int .i64 x.2.i,.string x.2.t,.slice sl.a x.2.l.length sl.c,.slice so.a x.2.ok.length so.c];obtain⟨f7,a2,f6,f2⟩:=Ye ((a6.trans c9).trans d3) d3 f8 f9;have a7:=Z.o.box.ext (a6.trans c9);have j0:w3.cell? ⟨W.heap.size,0,none⟩=some (.string lo):=a7.cell 0;have i3:w3.cell? ⟨W.heap.size,1,none⟩=some (.string hi):=a7.cell 1;have i0:w3.cell? ⟨W.heap.size,2,none⟩=some (.bool op):=a7.cell 2;have lb:=a7.lt;clear c9 d3 f8 f9 a7;gi_wp2_with fail;refine⟨trivial,?_⟩;refine(eD.2 (Qim _ lo hi op x.1)).mono ?_;rintro e w5 ⟨rfl,a4⟩;have b0:=f7.o.trans a4;have e4:=f6.o.ext a4;obtain⟨c0,c1,c2,c3,c4,c5,c6⟩:=e4.c7;have b6:=HC.o.ext Z.o.at_ b0;have b4:=Z.o.box.ext b0;have k0:=a2.o.size;have j6:=a4.size;have k1:=Z.o.ext.size;have b3:RV w5 (In wr.heap.size w5.heap.size) x.2 sl so:=((f2.o.agree (a2.o.agree λb I=>I.2)).agree (a4.agree λb I=>by have:=I.2;omega)).mono λb I=>⟨I.1,by have:=I.2;omega⟩
  obtain⟨a3,g7,i5,e8⟩:=Ye b0 b6 b4 b3;clear a4 b0 e4 b6 b4 b3 f2 f7 a2 f6 j0 i3 i0;cases a8:Qjw hi op x.1 with
  | true=>
    gi_wp2_with fail;refine⟨λ_ h=>absurd h sM,?_⟩;gi_wp2_with fail;go_ret;refine .inl ⟨a0,C',Wj,.inr ⟨rfl,x,aq a1.o,a8⟩,Z.o.j,Z.o.ext.trans a3.o,?_,Z.o.st.ext a3.o,λb I=>(Z.o.sub b I).imp_right cA⟩;rw[Z.o.new_,Qlu HC.o.sorted a1.o a8]
  | false=>
    have g9:klt x.1 lo=false:=g0.o x (by
     obtain⟨h1,rfl⟩:=ai.1 a1.o;rw[List.mem_iff_getElem?];exact⟨i-p,by rw[bf,Nat.add_sub_cancel' i8];exact a1.o⟩)
    have d4:es=es.take i++x::es.drop (i+1):=by
     obtain⟨h1,h2⟩:=ai.1 a1.o
     conv=>lhs;rw[<-aX i es,aG h1,h2]
    obtain⟨n1,n2,n3⟩:=QnU (x:=⟨x.1,x.2,sl,so⟩) (A:=es.take i) (B:=es.drop (i+1)) (all:=all) (rest:=rest) (pre:=pre) (by show all=pre.map LE.ent++(QaM lo hi op (es.take i++x::es.drop (i+1))++rest);rw[<-d4];exact f4.o) Z.o.new_ g9 a8;have hy:=HT.o.take (pre++a0) C' ⟨x.1,x.2,sl,so⟩ Wj w5 Z.o.j (Z.o.ext.trans a3.o) ⟨n1,n2,e8.o.mono λb I=>⟨by have:=I.1;omega,I.2⟩,i6.o x (aq a1.o)⟩;obtain⟨fn,j5,assign,body,hy,hR⟩:=hy;obtain⟨HR,g6,g5,i9,j9⟩:=Yf hR n1 n2 n3 d4;clear hR n1 n2 n3 d4;dsimp only[Qta]at hy;gi_wp2_with fail;refine HR.o.mono ?_;rintro e w6 (⟨rfl,C6,f5,N,a5⟩ |⟨rfl,i7,N⟩)
    ·have b8:J (pre++(a0++[⟨x.1,x.2,sl,so⟩])) C6 w6:=by rw [←aQ];exact f5
     have a9:∀b,b<=W.heap.size->C' b->C b:=λb I h=>by
      rcases Z.o.sub b h with h|h
      .exact h
      omega
     have b7:¬C' W.heap.size:=λh=>by
      have h1:=g8.o _ (a9 _ (ao _) h);have:=HX.o.size;omega
     have g4:=hY (show Qt1 lo hi op es At pre J C W (i+1) (a0++[⟨x.1,x.2,sl,so⟩]) C6 w6 w6 from
      ⟨b8,fQ _,by rw[i9.o,aT,a1.o];rfl,(Z.o.st.ext a3.o).then N (λb I h=>a9 b (cA I) h),λb I=>by
        rcases a5 b I with h|h
        .exact Z.o.sub b h
        exact .inr oM,N.blk i5.o b7,g3.o w5 w6 g7.o (N.agree.mono λb I=>⟨by have:=(HF.o b I).1;omega,λh=>(HF.o b I).2 (a9 b (cA (HF.o b I).1) h)⟩) N.size⟩)
     clear f5 N a5 b8 a9 b7 hy;gi_wp2_with fail;go_roundw
     case rel=>exact⟨i+1,_,C6,w6,by go_num,oM,f3,g4.o⟩
     simp[intOf];omega
    gi_wp2_with fail;go_ret;have j2:St C W w6:=(Z.o.st.ext a3.o).then N λb I h=>by
     rcases Z.o.sub b h with h|h
     .exact h
     omega
    exact .inr ⟨rfl,j2,_,w6,i7,fQ _,by
     rw[aH,g5.o];exact QfW g6.o⟩
 obtain rfl:i=es.length:=oM
 gi_wp2_with fail;go_ret;refine .inl ⟨a0,C',Wj,.inl rfl,Z.o.j,Z.o.ext.trans a6,?_,Z.o.st.ext a6,λb I=>(Z.o.sub b I).imp_right cA⟩;rw[Z.o.new_,aU]
theorem Qhw{w:World}{F:Nat->Prop}:∀{h:Nat} {t:PT h},IsN w F h t->∀e∈ents h t,e.1.size<=maxLen
 | 0,t,⟨_,s,xs,_,h3,h4⟩,e,I=>by
   have I:e∈t.2:=I;rw[<-h4]at I;obtain⟨x,N,rfl⟩:=bW.1 I;exact(h3.vals x N).2
 | h+1,t,⟨_,s,_,_,h4⟩,e,I=>by
   have I:e∈t.2.flatMap (ents h):=I;obtain⟨k,Z,I⟩:=cG.1 I;exact Qhw (h4 k Z) e I
variable{W1:World}
theorem Qbj.from{es all:List Ent}{J:List LE->(Nat->Prop)->World->Prop}{Jx:List LE->World->Prop}{C:Nat->Prop}{e:Ending}(h:Qbj lo hi op es all pre J Jx C W1 e W')(I:Ext W W1):Qbj lo hi op es all pre J Jx C W e W':=by
 rcases h with⟨N,C',W0,h1,h2,h3,h4,Z,h6⟩|h
 .exact .inl ⟨N,C',W0,h1,h2,h3,h4,(I.st C).trans Z,λb hb=>(h6 b hb).imp_right λh=>ak I.size h⟩
 exact .inr ⟨h.1,(I.st C).trans h.2.1,h.2.2⟩
theorem Qbj.bool{es all:List Ent}{J:List LE->(Nat->Prop)->World->Prop}{Jx:List LE->World->Prop}{C:Nat->Prop}{e:Ending}(h:Qbj lo hi op es all pre J Jx C W e W'):∃b,e=.returned (.bool b):=by
 rcases h with⟨I,C',W0,h1|h1,_⟩|h
 .exact ⟨_,h1⟩
 .exact ⟨_,h1.1⟩
 exact⟨_,h.1⟩
theorem QkH{At:World->Prop}{es:List Ent}(hc:Qor At nv es)(Z:∀W W',At W->Agree F W W'->W.heap.size<=W'.heap.size->At W')(a1:∀e∈es,e.1.size<=maxLen) 
  {l:Nat} {J:List LE->(Nat->Prop)->World->Prop} {Jx:List LE->World->Prop} (hT:Takes prog l Qta (QmQ all) J Jx) {C:Nat->Prop} (hJ:J pre C W0) (hx:Ext W0 W) (hw:At W) (hF:∀b,F b->b<W.heap.size/\¬C b) (N:all=pre.map LE.ent++(QaM lo hi op es++rest)) :
  Calls prog 257 #[nv,inV lo hi op,.func (.yield l) #[] #[]] W (Qbj lo hi op es all pre J Jx C W):=by
 have I:Ext W (W.alloc (.cells #[.string lo,.string hi,.bool op] 297)):=(fQ W).alloc _ _;have hh:=hc.height _ (hc.ext hw I);have a0:=QkG hc Z a1 hT hJ (hx.trans I) (hc.ext hw I) (λb hb=>⟨Nat.lt_of_lt_of_le (hF b hb).1 I.size,(hF b hb).2⟩) N;obtain⟨pp,rfl⟩:=hc.ptr;obtain⟨a2,a3⟩:=Yb a0 I;clear hc Z a1 hT hJ hx hw hF N a0 I;go_in;go_wp2_with fail;refine hh.mono ?_;rintro e w1 ⟨rfl,rfl⟩;go_wp2_with fail;refine a2.o.mono ?_;rintro e w2 hp;obtain⟨b,rfl⟩:=hp.bool;have HP:=hY (hp.from a3.o);clear hp;go_wp2_with fail;go_ret;exact HP.o
structure QsQ(lo hi:ByteArray)(op:Bool)(F:Nat->Prop)(h:Nat)(t:PT (h+1))(pre:List LE)(J:List LE->(Nat->Prop)->World->Prop)(C:Nat->Prop)(W w3:World)(g:Nat)(j:Nat)(new:List LE)(C':Nat->Prop)(Wj wr:World):Prop where
 j_:J (pre++new) C' Wj
 ext:Ext Wj wr
 new_:new.map LE.ent=QaM lo hi op ((t.2.take j).flatMap (ents h))
 st:St C W wr
 sub:∀b,C' b->C b\/w3.heap.size<=b
 big:w3.heap.size<=wr.heap.size
 box:Blk wr W.heap.size 297 #[.string lo,.string hi,.bool op]
 rows:∀o,wr.cell? ⟨g,o,none⟩=w3.cell? ⟨g,o,none⟩
 at_:Qdm F (h+1) t wr
theorem QqM{l:Nat}{J:List LE->(Nat->Prop)->World->Prop}{Jx:List LE->World->Prop}(hT:Takes prog l Qta (QmQ all) J Jx) 
  (ih:∀(t:PT h) (pre:List LE) (rest:List Ent) (C:Nat->Prop) (W0 W:World),J pre C W0->Ext W0 W->Qdm F h t W->(∀b,F b->¬C b)->OkT h t->Sorted (ents h t)->(ents h t).length<=1000000->all=pre.map LE.ent++(QaM lo hi op (ents h t)++rest)->
    Calls prog 257 #[ptr h t,inV lo hi op,.func (.yield l) #[] #[]] W (Qbj lo hi op (ents h t) all pre J Jx C W))
  {t:PT (h+1)} {C:Nat->Prop} (hJ:J pre C W0) (hx:Ext W0 W) (hn:Qdm F (h+1) t W) (hF:∀b,F b->¬C b) (ok:OkT (h+1) t) (hs:Sorted (ents (h+1) t)) (hl:(ents (h+1) t).length<=1000000) (d7:all=pre.map LE.ent++(QaM lo hi op (ents (h+1) t)++rest)) :
  Calls prog 257 #[ptr (h+1) t,inV lo hi op,.func (.yield l) #[] #[]] W (Qbj lo hi op (ents (h+1) t) all pre J Jx C W):=by
 have g8:=ok.2.1;have i8:=ok.1;have e8:=hT.lt pre C W0 hJ;have d5:Ext W (W.alloc (.cells #[.string lo,.string hi,.bool op] 297)):=(fQ W).alloc _ _;have d0:=fU W 297 #[.string lo,.string hi,.bool op];have hh:=QaC (hn.ext d5).1;have g4:=Qb9 (hn.ext d5).1 oM;have j8:h+1<1000000:=ab (QcT (h+1) t ok (by show 1<=t.2.length;omega)) hl;have j3:(((h+1:Nat):Int)==0)=false:=eA.2 oM;have j0:((h:Int)+1==0)=false:=eA.2 oM;obtain⟨HT,i1,HJ,HX,HN,HF,f8⟩:=Yh hT ih hJ hx hn hF ok;obtain⟨HS,HL,g0,f9,f7,i5⟩:=Yg hs hl d7 d5 d0 e8;clear hT ih hJ hx hn hF ok hs hl d7 d5 d0 e8;refine(eD (n:=5)).1 ?_;refine fC func257 rfl trivial ?_ rfl;simp only[ntmps257,List.size_toArray,List.length_cons,List.length_nil,Nat.reduceAdd,Nat.reduceSub,Array.replicate_succ,Array.replicate_zero,List.push_toArray,List.append_toArray,List.nil_append,List.cons_append];gi_wp2_with fail;refine⟨trivial,?_⟩;refine(eD.2 hh).mono ?_;rintro e w1 ⟨rfl,rfl⟩;gi_wp2_with fail;refine⟨trivial,?_⟩;refine(eD.2 g4).mono ?_;rintro e w3 ⟨sk,rfl,c7,e3⟩;have f1:Rd w3 (Lt w3.heap.size) 1 sk t.2.length (ptrs h t.2):=(fZ c7).mono λi hi=>hi.2
 obtain⟨g,j6,rfl,g5,j4,j1,e0⟩:=QaJ c7 oM;have g7:=e0.lt;have j9:W.heap.size<g:=by simp at g5;omega
 obtain⟨i3,c9,g6⟩:=Yc f1 (f9.o.trans e3) (f7.o.ext e3);have j2:=c9.o.size;have j5:=HX.o.size;clear c7 f1 e3 e0 g4 hh f7 f9;gi_wp2_with fail;gi_loopw [19] (λv wr=>∃(j:Nat) (a2:List LE) (C':Nat->Prop) (Wj:World),v=.int .i64 j/\j<=t.2.length/\QsQ lo hi op F h t pre J C W w3 g j a2 C' Wj wr) (λv _=>t.2.length -(intOf v).toNat)
 case atStart=>exact⟨0,[],C,W0,rfl,aD _,⟨by rw[aY];exact HJ.o,HX.o.trans c9.o,rfl,c9.o.st _,λb hb=>.inl hb,ao _,g6.o,λ_=>rfl,HN.o.ext c9.o⟩⟩
 obtain⟨j,a2,C',Wj,rfl,hj,hS⟩:=hrel;have I:=hY hS;clear hS;by_cases e4:j<t.2.length
 ·obtain ⟨N,a4⟩:∃ N,t.2[j]? = some N:=⟨_,ac e4⟩
  obtain⟨b,o',f4,-,-,-,f5⟩:=i3.o.QcV a4;obtain⟨rfl,rfl⟩:g=b/\0=o':=by simpa using f4
  have kc:wr.cell? ⟨g,j,none⟩=some (ptr h N):=by rw[I.o.rows];simpa using f5
  have k0:(j:Int)<(t.2.length:Int):=oM
  have d3:=aq a4;have d6:Qdm F h N wr:=⟨I.o.at_.1.2.choose_spec.2.2 N d3,I.o.at_.2⟩;have f3:Sorted (ents h N):=QaL HS.o N d3;have d8:=QbI a4;have b9:ents (h+1) t=(t.2.take j).flatMap (ents h)++(ents h N++(t.2.drop (j+1)).flatMap (ents h)):=by
   show t.2.flatMap (ents h)=_
   conv=>lhs;rw[d8]
   simp only[List.flatMap_append,List.flatMap_cons]
  have i7:(ents h N).length<=1000000:=by have:=HL.o;rw[b9]at this;simp only[List.length_append]at this;omega
  have c4:(t.2.take (j+1)).flatMap (ents h)=(t.2.take j).flatMap (ents h)++ents h N:=by rw[aT,a4];simp
  obtain⟨b6,a7⟩:=Yb (λW1 (hW:Ext wr W1)=>Qme (d6.ext hW).1) (λW1 (hW:Ext wr W1)=>Qgv (d6.ext hW).1);have b0:=I.o.box;obtain⟨Z,i9,d4,a3,a6⟩:=Yf (show ∀W1,Ext wr W1->W1.cell? ⟨W.heap.size,0,none⟩=some (.string lo)/\W1.cell? ⟨W.heap.size,1,none⟩=some (.string hi)/\W1.cell? ⟨W.heap.size,2,none⟩=some (.bool op) fromλW1 hW=>⟨(b0.ext hW).cell 0,(b0.ext hW).cell 1,(b0.ext hW).cell 2⟩) d6 f3 b9 c4;clear a4 f4 f5 d6 f3 d8 b9 c4 b0;cases e1:klt (Qbl (ents h N)) lo with
  | true=>
    have d0:Op.bytesLess (Qbl (ents h N)).toList lo.toList=true:=e1;gi_wp2_with fail;refine fO.2 ?_;refine eF (S:=(λw'=>Ext wr w')) kM (((fQ wr).drew)) (λhHeld=>?_);refine Qaf 0 (some 24) Z hHeld ?_;refine Qaf 2 (some 26) Z hHeld ?_;refine Qaf 3 (some 27) Z hHeld ?_;refine Qac (i:=1) kM rfl (by rfl) (λK hK=>?_);go_simp
    (refine(b6.o _ hHeld).mono ?_;rintro e w5 ⟨rfl,rfl⟩)
    refine hK.out _ _ (hHeld) (λhHeld=>?_);clear hK K
    try go_frame
    refine Qaf 4 (some 28) Z hHeld ?_;refine Qaf 5 (some 23) Z hHeld ?_;refine eJ kM ?_ _;have b4:=hY hHeld;clear hHeld;have i2:=hY (show QsQ lo hi op F h t pre J C W w3 g (j+1) a2 C' Wj wr.drew from
     ⟨I.o.j_,I.o.ext.trans b4.o,by rw[I.o.new_,a6.o,QaT,QfF (Qnt d4.o e1),aY],I.o.st.ext b4.o,I.o.sub,by have:=b4.o.size;have:=I.o.big;omega,I.o.box.ext b4.o,λo=>(b4.o.cell (by have:=I.o.big;omega)).trans (I.o.rows o),I.o.at_.ext b4.o⟩)
    generalize wr.drew=w6 at *;gi_wp2_with fail;go_roundw
    case rel=>exact⟨j+1,a2,C',Wj,by go_num,e4,i2.o⟩
    simp[intOf];omega
  | false=>
    have d0:Op.bytesLess (Qbl (ents h N)).toList lo.toList=false:=e1;gi_wp2_with fail;refine fO.2 ?_;refine eF (S:=(λw'=>Ext wr w')) kM (((fQ wr).drew)) (λhHeld=>?_);refine Qaf 0 (some 24) Z hHeld ?_;refine Qaf 2 (some 26) Z hHeld ?_;refine Qaf 3 (some 27) Z hHeld ?_;refine Qac (i:=1) kM rfl (by rfl) (λK hK=>?_);go_simp
    (refine(b6.o _ hHeld).mono ?_;rintro e w5 ⟨rfl,rfl⟩)
    refine hK.out _ _ (hHeld) (λhHeld=>?_);clear hK K
    try go_frame
    refine Qaf 4 (some 28) Z hHeld ?_;refine Qaf 5 (some 23) Z hHeld ?_;refine eJ kM ?_ _;cases a8:Qjw hi op (Qav (ents h N))with
    | true=>
      have c6:=hY (show ∀W1,Calls prog 266 #[inV lo hi op,.string (Qav (ents h N))] W1 λe w'=>e=.returned (.bool true)/\Ext W1 w' fromλW1=>by have:=Qim W1 lo hi op (Qav (ents h N));rwa[a8]at this);gi_wp2_with fail;refine fO.2 ?_;refine eF (S:=(λw'=>Ext wr w')) kM ((hHeld.drew)) (λhHeld=>?_);refine Qaf 0 (some 30) Z hHeld ?_;refine Qaf 1 (some 31) Z hHeld ?_;refine Qac (i:=2) kM rfl (by rfl) (λK hK=>?_);go_simp
      (refine(a7.o _ hHeld).mono ?_;rintro e w6 ⟨rfl,rfl⟩)
      refine hK.out _ _ (hHeld) (λhHeld=>?_);clear hK K
      try go_frame
      refine Qac (i:=3) kM rfl (by rfl) (λK hK=>?_);go_simp
      (refine(c6.o _).mono ?_;rintro e w7 ⟨rfl,b7⟩)
      refine hK.out _ _ (hHeld.trans b7) (λhHeld=>?_);clear hK K
      try go_frame
      refine Qaf 4 (some 29) Z hHeld ?_;refine eJ kM ?_ _;have a1:=hY hHeld;clear hHeld b7;gi_wp2_with fail;go_ret;have g3:=Qup f8.o d3;obtain⟨x,b3⟩:=List.exists_mem_of_ne_nil _ g3;have c3:=Qfx d4.o a8 x b3;refine .inl ⟨a2,C',Wj,.inr ⟨rfl,x,by rw[a3.o];simp[b3],c3⟩,I.o.j_,I.o.ext.trans a1.o,?_,I.o.st.ext a1.o,λb hb=>(I.o.sub b hb).imp_right λh=>oM⟩;have c0:=HS.o;rw[a3.o]at c0;rw[I.o.new_,a3.o,QaT,QaT,QdH (Qfx d4.o a8),QeX (A:=ents h N) (Qck c0).2.1 ⟨x,b3,c3⟩,aY,aY]
    | false=>
      have c6:=hY (show ∀W1,Calls prog 266 #[inV lo hi op,.string (Qav (ents h N))] W1 λe w'=>e=.returned (.bool false)/\Ext W1 w' fromλW1=>by have:=Qim W1 lo hi op (Qav (ents h N));rwa[a8]at this);gi_wp2_with fail;refine fO.2 ?_;refine eF (S:=(λw'=>Ext wr w')) kM ((hHeld.drew)) (λhHeld=>?_);refine Qaf 0 (some 30) Z hHeld ?_;refine Qaf 1 (some 31) Z hHeld ?_;refine Qac (i:=2) kM rfl (by rfl) (λK hK=>?_);go_simp
      (refine(a7.o _ hHeld).mono ?_;rintro e w6 ⟨rfl,rfl⟩)
      refine hK.out _ _ (hHeld) (λhHeld=>?_);clear hK K
      try go_frame
      refine Qac (i:=3) kM rfl (by rfl) (λK hK=>?_);go_simp
      (refine(c6.o _).mono ?_;rintro e w7 ⟨rfl,b7⟩)
      refine hK.out _ _ (hHeld.trans b7) (λhHeld=>?_);clear hK K
      try go_frame
      refine Qaf 4 (some 29) Z hHeld ?_;refine eJ kM ?_ _;have a1:=hY hHeld;obtain⟨q0,q1,q2⟩:=Z.o w7 hHeld;have f2:∀b,F b->¬C' b:=λb hb h=>by
       rcases I.o.sub b h with h|h
       .exact HF.o b hb h
       have:=(HN.o.2 b hb);omega
      have f6:=i1.o N (pre++a2) (QaM lo hi op ((t.2.drop (j+1)).flatMap (ents h))++rest) C' Wj w7 I.o.j_ (I.o.ext.trans a1.o) (i9.o.ext a1.o) f2 (f8.o.2.2 N d3).1 d4.o i7 (by
       rw[g0.o,a3.o,aH,I.o.new_,QaT,QaT];simp only[List.append_assoc])
      have g9:=hY f6;have j7:=a1.o.size;clear hHeld b7 f2 f6;gi_wp2_with fail;refine⟨trivial,?_⟩;refine(eD.2 g9.o).mono ?_;rintro e w8 (⟨a9,C8,W8,i4,c8,c2,e2,a0,a5⟩ |⟨rfl,a0,f0,W8,c8,c2,i6⟩)
      ·have e7:St C W w8:=(I.o.st.ext a1.o).then a0 fun b hb h=>by
        rcases I.o.sub b h with h|h
        .exact h
        omega
       have b8:∀b,C8 b->C b\/w3.heap.size<=b:=λb hb=>by
        rcases a5 b hb with h|h
        .exact I.o.sub b h
        exact .inr (by have:=I.o.big;omega)
       have c1:J (pre++(a2++a9)) C8 W8:=by rw[<-aQ];exact c8
       have b5:(a2++a9).map LE.ent=QaM lo hi op ((t.2.take (j+1)).flatMap (ents h)):=by rw[aH,I.o.new_,e2,a6.o,QaT]
       rcases i4 with rfl |⟨rfl,x,b3,c3⟩
       ·have e6:∀ b,b<w3.heap.size→W.heap.size≤b→¬C' b:=fun b h1 h2 h=>by
         rcases I.o.sub b h with h|h
         .have:=i5.o b h;omega
         omega
        have i0:=hY (show QsQ lo hi op F h t pre J C W w3 g (j+1) (a2++a9) C8 W8 w8 from
         ⟨c1,c2,b5,e7,b8,by have:=a0.size;have:=I.o.big;omega,a0.blk (I.o.box.ext a1.o) (e6 _ oM (ao _)),
           λo=>(a0.cell (by have:=I.o.big;omega) (e6 _ g7 oM)).trans ((a1.o.cell (by have:=I.o.big;omega)).trans (I.o.rows o)),
           ⟨(I.o.at_.ext a1.o).1.agree (a0.agree.mono fun b hb=>⟨by have:=(I.o.at_.ext a1.o).2 b hb;omega,fun h=>by
             rcases I.o.sub b h with h|h
             .exact HF.o b hb h
             have:=(HN.o.2 b hb);omega⟩),λb hb=>by have:=a0.size;have:=HN.o.2 b hb;have:=I.o.big;omega⟩⟩)
        clear e7 b8 c1 b5 c8 c2 e2 a0 a5 e6;gi_wp2_with fail;go_roundw
        case rel=>exact⟨j+1,_,C8,W8,by go_num,e4,i0.o⟩
        simp[intOf];omega
       clear a0 a5 e2 c8;gi_wp2_with fail;go_ret;refine .inl ⟨a2++a9,C8,W8,.inr ⟨rfl,x,by rw[a3.o];simp[b3],c3⟩,c1,c2,?_,e7,λb hb=>(b8 b hb).imp_right λh=>oM⟩;have c0:=HS.o;rw[a3.o]at c0;rw[b5,a6.o,a3.o,QaT,QaT,QaT,QeX (A:=ents h N) (Qck c0).2.1 ⟨x,b3,c3⟩,aY]
      gi_wp2_with fail;go_ret;exact .inr ⟨rfl,(I.o.st.ext a1.o).then a0 (λb hb h=>by
       rcases I.o.sub b h with h|h
       .exact h
       omega),f0,W8,c8,c2,i6⟩
 obtain rfl:j=t.2.length:=oM
 gi_wp2_with fail;go_ret;refine .inl ⟨a2,C',Wj,.inl rfl,I.o.j_,I.o.ext,?_,I.o.st,λb hb=>(I.o.sub b hb).imp_right λh=>oM⟩;rw[I.o.new_,aU];rfl
theorem QmI{F:Nat->Prop}{lo hi:ByteArray}{op:Bool}{all:List Ent}{l:Nat}{J:List LE->(Nat->Prop)->World->Prop}{Jx:List LE->World->Prop}(N:Takes prog l Qta (QmQ all) J Jx) :
  ∀(h:Nat) (t:PT h) (pre:List LE) (rest:List Ent) (C:Nat->Prop) (W0 W:World),J pre C W0->Ext W0 W->Qdm F h t W->(∀b,F b->¬C b)->OkT h t->Sorted (ents h t)->(ents h t).length<=1000000->all=pre.map LE.ent++(QaM lo hi op (ents h t)++rest)->
   Calls prog 257 #[ptr h t,inV lo hi op,.func (.yield l) #[] #[]] W (Qbj lo hi op (ents h t) all pre J Jx C W)
 | 0,t,pre,rest,C,W0,W,hJ,hx,hn,hF,ok,hs,_,hall=>
   QkH (F:=F) (Qnp ok hs) (λW W' a Z hz=>⟨a.1.agree Z,λb I=>ab (a.2 b I) hz⟩) (Qhw hn.1) N hJ hx hn (λb I=>⟨hn.2 b I,hF b I⟩) hall
 | h+1,t,pre,rest,C,W0,W,hJ,hx,hn,hF,ok,hs,hl,hall=>
   QqM N (λt pre rest C W0 W a b c d e f g i=>QmI N h t pre rest C W0 W a b c d e f g i) hJ hx hn hF ok hs hl hall
theorem QqL{l:Nat}{J:List LE->(Nat->Prop)->World->Prop}{Jx:List LE->World->Prop}(Z:Takes prog l Qta (QmQ (QaM lo hi op (Qaa T))) J Jx)
  {C:Nat->Prop} (hJ:J [] C W0) (hx:Ext W0 W) (I:Qgg F T W) (hF:∀b,F b->¬C b) (ok:OkR T) (N:(Qaa T).length<=1000000) :
  Calls prog 257 #[QaK T,inV lo hi op,.func (.yield l) #[] #[]] W (Qbj lo hi op (Qaa T) (QaM lo hi op (Qaa T)) [] J Jx C W):=by
 match T,I,ok,N with
 |none,_,_,_=>exact QkH (F:=λ_=>False) (rest:=[]) QpE (λ_ _ _ _ _=>trivial) (λe he=>by cases he) Z hJ hx trivial (λb hb=>hb.elim) (by simp[Qaa])
 |some ⟨h,t⟩,I,ok,N=>exact QmI Z h t [] [] C W0 W hJ hx I hF ok.1 ok.2.2 N (by simp[Qaa])
end Go.Proofs.YtdiecmkpbadgjaaGreatDoor
namespace Go.Proofs.YtdiecmkpbadgjaaGreatDoor
open Go.Proofs.Tryz
open Go.RowKit Go.Shelf
structure Qdr(w:World)(B:Nat)(T:RT)(lo hi:ByteArray)(op:Bool):Prop where
 bt:Blk w B 48 #[QaK T]
 bl:Blk w (B+1) 9 #[.string lo]
 bh:Blk w (B+2) 9 #[.string hi]
 bo:Blk w (B+3) 4 #[.bool op]
def Qt3(F:Nat->Prop)(B:Nat)(b:Nat):Prop:=F b\/(B<=b/\b<B+4)
abbrev Qmy(B:Nat):Array Value:=#[.pointer (some ⟨B,0,none⟩),.pointer (some ⟨B+1,0,none⟩),.pointer (some ⟨B+2,0,none⟩),.pointer (some ⟨B+3,0,none⟩)]
variable{w w':World}{B:Nat}{T:RT}{lo hi:ByteArray}{op:Bool}{F:Nat->Prop}
theorem Qdr.agree(h:Qdr w B T lo hi op)(I:Agree F w w')(hF:∀b,B<=b->b<B+4->F b):Qdr w' B T lo hi op:=
 ⟨h.bt.agree I (hF _ oM oM),h.bl.agree I (hF _ oM oM),h.bh.agree I (hF _ oM oM),h.bo.agree I (hF _ oM oM)⟩
theorem Qdr.lt(h:Qdr w B T lo hi op):B+3<w.heap.size:=h.bo.lt
variable{pre:List LE}{W W':World}
theorem Qbj.st{es all:List Ent}{J:List LE->(Nat->Prop)->World->Prop}{Jx:List LE->World->Prop}{C:Nat->Prop}{e:Ending}(h:Qbj lo hi op es all pre J Jx C W e W'):St C W W':=by
 rcases h with⟨_,_,_,_,_,_,_,I,_⟩ |⟨_,I,_⟩<;>exact I
variable{w0:World}
theorem Qqi(hT:Qgg F T w0)(ok:OkR T)(hl:(Qaa T).length<=1000000)(hB:Qdr w0 B T lo hi op) :
  Qvd prog 256 (Qmy B) Qta (Qt3 F B) (QmQ (QaM lo hi op (Qaa T))) (λxs=>xs.map LE.ent=QaM lo hi op (Qaa T)) (λpre=>pre.map LE.ent <+: QaM lo hi op (Qaa T)) w0:=by
 intro l J Jx C W a2 hA a7 N hJ;have Z:Qdr W B T lo hi op:=hB.agree hA λb h1 h2=>.inr ⟨h1,h2⟩
 have a5:Qgg F T W:=⟨hT.1.agree (hA.mono λb hb=>.inl hb),λb hb=>ab (hT.2 b hb) a7⟩;have a4:=λW1 (hW:Ext W W1)=>QqL a2 hJ hW (a5.ext hW) (λb hb h=>N b h (.inl hb)) ok hl
 have b0:=a2.lt [] C W hJ;obtain⟨p,hp⟩:=Qaj T;rw[hp]at a4;have a1:=Z.bt;rw[hp]at a1;have I:=hY (show ∀W1,St C W W1->W1.cell? ⟨B,0,none⟩=some (.pointer p)/\W1.cell? ⟨B+1,0,none⟩=some (.string lo)/\W1.cell? ⟨B+2,0,none⟩=some (.string hi)/\W1.cell? ⟨B+3,0,none⟩=some (.bool op) fromλW1 hW=>
  ⟨(hW.blk a1 λh=>N _ h (.inr ⟨oM,oM⟩)).cell 0,(hW.blk Z.bl λh=>N _ h (.inr ⟨oM,oM⟩)).cell 0,(hW.blk Z.bh λh=>N _ h (.inr ⟨oM,oM⟩)).cell 0,(hW.blk Z.bo λh=>N _ h (.inr ⟨oM,oM⟩)).cell 0⟩)
 have b3:=hY a4;clear a2 hA a7 N hJ Z a5 a4 hp hT ok hl hB a1 b0;show Calls _ _ #[.func (.yield l) #[] #[],.pointer (some ⟨B,0,none⟩),.pointer (some ⟨B+1,0,none⟩),.pointer (some ⟨B+2,0,none⟩),.pointer (some ⟨B+3,0,none⟩)] W _;go_in;go_wp2_with fail;refine eF (S:=(λw'=>St C W w')) kM (((ga C W).drew)) (λhHeld=>?_);refine Qaf 0 (some 6) I hHeld ?_;refine Qaf 2 (some 8) I hHeld ?_;refine Qaf 3 (some 9) I hHeld ?_;refine Qaf 4 (some 10) I hHeld ?_;refine Qaf 5 (some 11) I hHeld ?_;refine Qaf 6 (some 12) I hHeld ?_;refine Qac (i:=1) kM rfl (by rfl) (λK hK=>?_);go_simp
 (refine(QdN _ _).mono ?_;rintro e w1 ⟨rfl,a0⟩;replace a0:=((fQ W).drew).trans a0;have a9:=hY a0)
 refine hK.out _ _ (a0.st C) (λhHeld=>?_);clear hK K
 try go_frame
 refine Qac (i:=7) kM rfl (by rfl) (λK hK=>?_);go_simp
 (refine(b3.o _ a9.o).mono ?_;intro e w2 a3;obtain⟨b2,rfl⟩:=a3.bool;have a6:=hY (a3.from a9.o);clear a3)
 refine hK.out _ _ (a6.o.st) (λhHeld=>?_);clear hK K
 try go_frame
 refine eJ kM ?_ _;go_wp2_with fail;go_end0;refine⟨⟨_,rfl⟩,?_⟩;rcases a6.o with⟨b4,C',W0,-,h2,h3,h4,-,-⟩ |⟨-,-,a8,W0,h2,h3,h4⟩
 .exact .inl ⟨b4,C',W0,h4,h2,h3⟩
 exact .inr ⟨a8,W0,h4,h2,h3⟩
def Qot(T:RT)(lo hi:ByteArray)(op:Bool)(w:World)(e:Ending)(w':World):Prop:=
 ∃B,e=.returned (.func (.func 256) #[] (Qmy B))/\Ext w w'/\Qdr w' B T lo hi op/\w.heap.size<=B
theorem Qqh(w:World)(T:RT)(lo hi:ByteArray)(op:Bool):Calls prog 233 #[Qao T,.string lo,.string hi,.bool op] w (Qot T lo hi op w):=by
 obtain⟨p,I⟩:=Qaj T;rw[Qao,I];go_in;go_wp2_with fail;go_ret;obtain⟨N,-,Z,b1,b2,b3⟩:=Qgx w 48 9 9 4 #[.pointer p] #[.string lo] #[.string hi] #[.bool op] _ rfl;exact⟨w,rfl,N,⟨by rw[I];exact Z,b1,b2,b3⟩,ao _⟩
theorem Bw.trans{a b c:World}(h:Below a.heap.size a b)(k:Below b.heap.size b c):Below a.heap.size a c:=h.trans (k.mono h.size)
theorem Bw.ext{a b c:World}(h:Below a.heap.size a b)(k:Ext b c):Below a.heap.size a c:=Bw.trans h k.below
theorem Qcm(p:ByteArray):p.toList=p.data.toList:=eH p
theorem QbR(p:ByteArray):p.toList.length=p.size:=by rw[Qcm,aR];rfl
theorem Qgi{p:ByteArray}{i:Nat}(h:i<p.size):p.toList[i]? = some p[i]:=by
 rw[Qcm,bS];exact ct h
def QkS(p:ByteArray)(w:World)(e:Ending)(w':World):Prop:=
 Below w.heap.size w w'/\∃(end_:ByteArray) (ok:Bool),e=.returned (.tuple #[.string end_,.bool ok])/\(match Qk3 p.toList with|none=>ok=false/\end_=ByteArray.empty|some q=>ok=true/\end_.toList=q)
theorem QpM(l:List UInt8):(ByteArray.mk l.toArray).toList=l:=by rw[Qcm]
theorem QnW{p:ByteArray}{i n:Nat}(h:i<p.size)(I:p.toList.drop (i+1)=List.replicate n 255):p.toList=p.toList.take i++p[i]::List.replicate n 255:=by
 have h1:=Qgi h;obtain⟨h2,N⟩:=ai.1 h1
 conv=>lhs;rw[<-aX i p.toList,aG h2,N,I]
theorem extract_toList(p:ByteArray)(k:Nat):(p.extract 0 k).toList=p.toList.take k:=by
 rw[Qcm,Qcm,ByteArray.data_extract];simp
theorem bytesRow_at{s:ByteArray}{cap i:Nat}{b:UInt8}(h:s.toList[i]? = some b):(bytesRow s cap)[i]? = some (.int .u8 (b.toNat:Int)):=by
 rw[Qcm,bS]at h;have hi:=(az.1 h).1;unfold bytesRow;rw[Array.getElem?_append_left (by simpa using hi),Array.getElem?_map,h];rfl
theorem Qh8(s:ByteArray)(cap:Nat):s.size<=(bytesRow s cap).size:=by
 unfold bytesRow;rw[dx,Array.size_map];exact dH _ _
theorem QmZ(w:World)(s:ByteArray)(cap:Nat)(t:TypeId){i:Nat}{b c:UInt8}(N:s.toList[i]? = some b)(W:World)(I:W=(w.alloc (.cells (bytesRow s cap) t ((bytesRow s cap).size,(bytesRow s cap).size+1))).drew) :
  W.cell? ⟨w,i,none⟩=some (.int .u8 (b.toNat:Int))/\W.frozen? ⟨w,i,none⟩=false/\w.heap.size<W.heap.size/\Below w.heap.size w W/\
   ∀j (x:UInt8),(s.toList.set i c)[j]? = some x->(W.setCell ⟨w,i,none⟩ (.int .u8 (c.toNat:Int))).cell? ⟨w,j,none⟩=some (.int .u8 (x.toNat:Int)):=by
 have hr:∀j,W.cell? ⟨w,j,none⟩=(bytesRow s cap)[j]?:=λj=>by
  rw[I];exact World.cell?_alloc_mark w _ _ _ j
 have hi:i<s.size:=by
  have:=(ai.1 N).1;rwa[QbR]at this
 have hh:W.heap[w.heap.size]? = some (.cells (bytesRow s cap) t ((bytesRow s cap).size,(bytesRow s cap).size+1)):=by
  rw[I];exact fB w _
 refine⟨by rw[hr];exact bytesRow_at N,?_,by rw[I];show w.heap.size<(w.alloc _).heap.size;rw[eB];exact dh _,by rw[I];exact((Below.refl _ w).alloc (ao _) _).drew,λj x Z=>?_⟩
 ·unfold World.frozen?
  rw[hh];have:=Qh8 s cap;simp;omega
 by_cases hj:j=i
 ·subst hj
  rw[cS (ai.1 N).1]at Z;cases Z;exact eO W _ _ ((hr j).trans (bytesRow_at N))
 rw[dd (λe=>hj e.symm)]at Z;rw[Qae _ _ _ _ _ (λe=>hj e.symm),hr];exact bytesRow_at Z
theorem Qlc(w:World)(p:ByteArray)(hp:p.size<=maxLen):Calls prog 232 #[.string p] w (QkS p w):=by
 unfold maxLen at hp;have b8:∀(s:ByteArray) (W:World),(convert 9 249 (.string s)).run prog W=.ok (.slice (some ⟨W,0,none⟩) s.size (grownCap W s.size 0 5)) (W.drew.alloc (.cells (bytesRow s (grownCap W s.size 0 5)) 5 ((bytesRow s (grownCap W s.size 0 5)).size,(bytesRow s (grownCap W s.size 0 5)).size+1))):=
  λs W=>run_bytes_of_string W 9 249 5 s underlying9 underlying249 underlying5
 have c7:wrap64 ((p.size:Int)-1)=(p.size:Int)-1:=by unfold wrap64;omega
 go_in;go_wp2_with fail;go_step3;go_wp2_with fail;go_step3;go_wp2_with fail;go_loopw[4] (λv wr=>wr=w/\((v=.int .i64 (-1)/\Qk3 p.toList=none)\/∃i,i<p.size/\v=.int .i64 (i:Int)/\p.toList.drop (i+1)=List.replicate (p.size -(i+1)) 255)) (λv _=>(intOf v+1).toNat)
 case atStart=>
  refine⟨rfl,?_⟩;by_cases h0:p.size=0
  ·refine .inl ⟨by rw [h0];rfl,?_⟩
   have:p.toList=[]:=av (by rw[QbR];exact h0);rw[this];rfl
  refine .inr ⟨p.size-1,oM,by congr 1;omega,?_⟩;rw[bJ (by rw[QbR];omega),show p.size -(p.size-1+1)=0 from oM];rfl
 obtain⟨rfl,⟨rfl,hn⟩ |⟨i,hi,rfl,hr⟩⟩:=hrel
 ·have HN:=hY hn
  clear hn;go_wp2_with fail;rw[Exit.noGoto_ret];refine eE (v:=.tuple #[.string ByteArray.empty,.bool false]) (by simp[results,results232,go_sem];rfl) rfl ?_;exact⟨Below.refl _ _,ByteArray.empty,false,rfl,by rw[HN.o];exact⟨rfl,rfl⟩⟩
 have c8:(i:Int)<(p.size:Int):=oM
 have c9:(0:Int)<=(i:Int):=oM
 have b3:=QnW hi hr;obtain⟨b0,HR⟩:=Yb b3 hr;have d0:wrap64 ((i:Int)-1)=(i:Int)-1:=by unfold wrap64;omega
 clear b3 hr;by_cases I:p[i]=255
 ·have b9:(((p[i].toNat:Nat):Int) != 255)=false:=by rw [I];rfl
  go_wp2_with fail;go_roundw
  case rel=>
   refine⟨trivial,?_⟩;cases i with
   | zero=>
     refine .inl ⟨rfl,?_⟩;rw[b0.o,I,dz,aJ,<-dQ];exact Qk4 _
   | succ i=>
     refine .inr ⟨i,oM,sM,?_⟩;have h2:p.toList.drop (i+1)=p[i+1]::p.toList.drop (i+1+1):=by
      have h1:=Qgi hi;obtain⟨h2,h3⟩:=ai.1 h1;rw[aG h2,h3]
     rw[h2,HR.o,I,<-dQ];congr 1;omega
  simp[intOf]
 have b9:(((p[i].toNat:Nat):Int) != 255)=true:=eT.2 λe=>I (UInt8.toNat_inj.1 (by show p[i].toNat=255;omega))
 have c4:min (i+1) p.size=i+1:=oM
 have c6:(p.extract 0 (i+1)).size=i+1:=by rw[<-QbR,extract_toList,aw,QbR];omega
 have b5:p[i].toNat<256:=p[i].toNat_lt;have d3:IntKind.u8.wrap ((p[i].toNat:Int)+1)=(p[i].toNat:Int)+1:=by
  have:p[i].toNat≠255:=λe=>I (UInt8.toNat_inj.1 e)
  rw[IntKind.wrap_u8];omega
 obtain⟨q,hq⟩:∃q,q=(p.extract 0 (i+1)).toList.set i (p[i]+1):=⟨_,rfl⟩;have Z:(p.extract 0 (i+1)).toList=p.toList.take i++[p[i]]:=by
  rw[extract_toList,aT,Qgi hi];rfl
 have a0:(p.toList.take i).length=i:=by rw[aw,QbR];omega
 have a4:q=p.toList.take i++[p[i]+1]:=by
  rw[hq,Z,dC _ _ oM,a0,cF];rfl
 have a6:q.length=i+1:=by rw[a4,aj,a0];rfl
 have a2:Qk3 p.toList=some q:=by rw[b0.o,Qpa I,a4]
 have a7:(p.extract 0 (i+1)).toList[i]? = some p[i]:=by rw[Z,aM oM,a0,cF];rfl
 have b4:((p[i]+1).toNat:Int)=(p[i].toNat:Int)+1:=by
  have h1:(p[i]+1).toNat=p[i].toNat+1:=by
   rw[UInt8.toNat_add];have:p[i].toNat≠255:=λe=>I (UInt8.toNat_inj.1 e)
   show(p[i].toNat+1)%256=_;omega
  omega
 have a3:∀W:World,(∀j (hj:j<q.length),W.cell? ((⟨wr,0,none⟩:Addr).add j)=some (.int .u8 (q[j].toNat:Int)))->∀a5,(convert 249 9 (.slice (some ⟨wr,0,none⟩) (i+1) a5)).run prog W=.ok (.string ⟨q.toArray⟩) W:=λW h a5=>by
  have:=run_convert_bytes_back (P:=prog) W 249 9 5 ⟨wr,0,none⟩ a5 q underlying249 underlying5 underlying9 h;rwa[a6]at this
 obtain⟨c3,a9,HQ,b7,c1⟩:=Yf a3 a2 hq a7 b4;clear hq Z a0 a4 a6 a2 a7 b4 a3;go_upto_region 8 with(fail);generalize a8:World.drew _=W2;obtain⟨c2,f2,l2,a1,N⟩:=QmZ wr (p.extract 0 (i+1)) _ _ (c:=p[i]+1) b7.o W2 a8.symm;rw[c1.o,<-HQ.o]at N;obtain⟨c0,b6⟩:=Yb N a1;clear a8 N a1 b8;go_upto_region 9 with(fail);have a3:=c3.o (W2.setCell ⟨wr,i,none⟩ (.int .u8 ((p[i].toNat:Int)+1))) (λj hj=>by
  rw[Qbc,aI];exact c0.o j _ (ac hj))
 go_wp2_with fail;rw[Exit.noGoto_ret];refine eE (v:=.tuple #[.string ⟨q.toArray⟩,.bool true]) (by simp[results,results232,go_sem]) rfl ?_;exact⟨b6.o.setCell (p:=⟨wr,i,none⟩) (ao _) _,_,_,rfl,by rw[a9.o];exact⟨rfl,QpM q⟩⟩
def Qeo(p:ByteArray)(es:List Ent):List Ent:=es.filter λe=>p.toList.isPrefixOf e.1.toList
theorem QkS.range{p:ByteArray}{e:Ending}(h:QkS p w e w'):∃(I:ByteArray) (ok:Bool),e=.returned (.tuple #[.string I,.bool ok])/\Below w.heap.size w w'/\∀es,QaM p I (!ok) es=Qeo p es:=by
 obtain⟨hb,I,ok,he,N⟩:=h;refine⟨I,ok,he,hb,λes=>?_⟩;refine List.filter_congr λx _=>?_
 rw[Qhm];cases Z:Qk3 p.toList with
 | none=>
   rw[Z]at N;obtain⟨rfl,-⟩:=N;rfl
 | some q=>
   rw[Z]at N;obtain⟨rfl,hq⟩:=N;simp only[inI,Bool.not_true,Bool.false_or,klt,hq]
def QmP(T:RT)(p:ByteArray)(w:World)(e:Ending)(w':World):Prop:=
 ∃(B:Nat) (en:ByteArray) (op:Bool),e=.returned (.func (.func 256) #[] (Qmy B))/\Below w.heap.size w w'/\Qdr w' B T p en op/\w.heap.size<=B/\∀es,QaM p en op es=Qeo p es
theorem QnI(w:World)(T:RT)(p:ByteArray)(hp:p.size<=maxLen):Calls prog 212 #[Qao T,.string p] w (QmP T p w):=by
 have hr:=λW lo hi op=>Qqh W T lo hi op
 have a6:=λW=>Qlc W p hp
 obtain⟨r,N⟩:=Qaj T;rw[Qao,N];simp only[Qao,N]at hr;have a1:Ext w (w.alloc (.cells #[.pointer r] 48)):=(fQ w).alloc _ _;have a7:=fU w 48 #[.pointer r];obtain⟨b0,a2,HR,a9⟩:=Ye a1 a7 hr a6;clear a1 a7 hr N a6;go_in;go_wp2_with fail;refine(a9.o _).mono ?_;intro e w1 he;obtain⟨en,ok,rfl,I,a3⟩:=he.range;have a0:=Bw.trans b0.o.below I;have c0:w1.cell? ⟨w,0,none⟩=some (.pointer r):=(a2.o.agree (Agree.of_below I (F:=Lt (w.alloc (.cells #[.pointer r] 48)).heap.size) λ_ h=>h) a2.o.lt).cell 0;obtain⟨a4,a8⟩:=Yb a0 a3;clear he I a3 a0;go_wp2_with fail;refine(HR.o _ _ _ _).mono ?_;rintro e w2 ⟨B,rfl,a5,Z,hB⟩;have HP:=hY (show Below w.heap.size w w2/\Qdr w2 B T p en (!ok)/\w.heap.size<=B from⟨Bw.ext a4.o a5,Z,ak a4.o.size hB⟩);clear a5 Z hB;go_wp2_with fail;go_ret;exact⟨B,en,!ok,rfl,HP.o.1,HP.o.2.1,HP.o.2.2,a8.o⟩
def Qux(n:Int):Val:=.mk 3 false n ByteArray.empty [] [] []
def e5:List Ent:=[(⟨#[97]⟩,Qux 1),(⟨#[98]⟩,Qux 3),(⟨#[98,47,49]⟩,Qux 4),(⟨#[98,47,50]⟩,Qux 0),(⟨#[99]⟩,Qux 2)]
open Go.Maps Go.Sort
abbrev QaP(k:ByteArray):List UInt8:=k.data.toList
theorem Qhy(ks:List ByteArray):(ks.map QaP).map encStr=ks.map .string:=by rw[ci];rfl
theorem QpF:∀x y:List UInt8,Op.bytesLess x y=decide (x<y)
 |[],[]=>rfl
 |[],_::_=>rfl
 |_::_,[]=>rfl
 | a :: x,b :: y=>by
   rw[Op.bytesLess,QpF x y];by_cases h1:a<b
   .simp [h1,List.cons_lt_cons_iff]
   by_cases h2:a=b
   .subst h2;simp[List.cons_lt_cons_iff]
   simp[h1,h2,List.cons_lt_cons_iff]
theorem Qur(a b:ByteArray):klt a b=decide (QaP a<QaP b):=by
 show Op.bytesLess a.toList b.toList=_;rw[eH,eH,QpF]
theorem Qgl(ts:List (List UInt8)):(ts.map λl=>(⟨l.toArray⟩:ByteArray)).map QaP=ts:=by
 rw[ci];exact(List.map_congr_left λl _=>rfl).trans (List.map_id _)
theorem QgT{ts:List ByteArray}(h:(ts.map QaP).Pairwise λx y=>decide (x<=y)=true)(hn:ts.Nodup):ts.Pairwise λx y=>klt x y=true:=by
 have h2:=bL.1 h;refine(h2.and hn).imp ?_;rintro x y ⟨N,h4⟩;cases Z:klt x y with
 |true=>rfl
 | false=>
   exfalso;have I:klt y x=true:=QcU Z h4;rw[Qur,eQ]at I;rw[eQ]at N;exact absurd N (by simpa[List.not_le]using I)
theorem Qhx(l:List (List UInt8)):(l.mergeSort λx y=>decide (x<=y)).Pairwise λx y=>decide (x<=y)=true:=
 List.pairwise_mergeSort (λa b c h1 h2=>by simp only[decide_eq_true_eq]at *;exact List.le_trans h1 h2) (λa b=>by simp only[Bool.or_eq_true,decide_eq_true_eq];exact List.le_total a b) l
variable{s:Sl}{ks:List ByteArray}
theorem QgZ{base:Nat}(N:w.ownsRow base 9 1 (.slice s.a ks.length s.c) ks.length (ks.map .string))(hn:ks.length<=1000000000) :
  Calls prog 175 #[.slice s.a ks.length s.c] w λe w'=>e=.returned (.tuple #[])/\∃ts:List ByteArray,ts.Perm ks/\(ts.map QaP).Pairwise (λx y=>decide (x<=y)=true)/\w'.ownsRow base 9 1 (.slice s.a ts.length s.c) ts.length (ts.map .string)/\ts.length=ks.length/\w.grownBy w' s.row:=by
 rcases N.2 with⟨hv,h0⟩ |⟨g,a3,a6,hv,a4,hg,a1,a5,a2,ht⟩
 ·have hk:ks=[]:=av h0
  subst hk;refine(AnyM.slices_Sort_string_none Tryz.Qsq s.a s.c w).mono ?_;rintro e w' ⟨rfl,rfl⟩;exact⟨rfl,[],List.Perm.refl _,List.Pairwise.nil,N,rfl,⟨rfl,rfl,rfl,ao _,λ_ _ _=>rfl⟩⟩
 injection hv with h1 h2 h3;obtain⟨sa,sc⟩:=s;dsimp only at h1 h3;subst h1 h3;have hH:Holds encStr w g 0 (ks.map QaP).toArray:=holds_of_block hg (by rw[Qhy,ar];simpa using ht);have hc:=AnyM.slices_Sort_string Tryz.Qsq g 0 sc (ks.map QaP) w hH (az.1 hg).1 (by rw[ar];omega);rw[ar]at hc;refine hc.mono ?_;rintro e w' ⟨rfl,n,os,rfl⟩;have hp:((ks.map QaP).mergeSort λx y=>decide (x<=y)).Perm (ks.map QaP):=List.mergeSort_perm _ _;have a0:((ks.map QaP).mergeSort λx y=>decide (x<=y)).length=ks.length:=by rw[hp.length_eq,ar]
 obtain⟨ts,I⟩:∃ts:List ByteArray,ts.map QaP=(ks.map QaP).mergeSort λx y=>decide (x<=y):=⟨_,Qgl _⟩
 have Z:ts.length=ks.length:=by rw[<-a0,<-I,ar]
 refine⟨rfl,ts,?_,by rw[I];exact Qhx _,?_,Z,by rw[<-I];exact grownBy_sorted _⟩
 ·have hq:(ts.map QaP).Perm (ks.map QaP):=by rw [I];exact hp
  have:=hq.map λl:List UInt8=>(⟨l.toArray⟩:ByteArray)
  rw[ci,ci]at this;rwa[show((λl:List UInt8=>(⟨l.toArray⟩:ByteArray))∘QaP)=id from rfl,List.map_id,List.map_id]at this
 rw[<-I,Z,<-Qhy];have:=ownsRow_sorted (w:=w) (base:=base) (cap:=sc) (n:=n) (os:=os) (ss:=ks.map QaP) (ts:=ts.map QaP) (by rw[ar,ar,Z]) a4 hg (by rw[ar];exact a1) a5 a2;rw[ar]at this;exact this
theorem Tryz.Qla:(prog.info? 9).map (λi=>(i.zero,i.size,i.bytes))=some (some (.string ByteArray.empty),1,16):=kM
def Qau(p k:ByteArray):Bool:=p.toList.isPrefixOf k.toList
theorem Qhl(w:World)(k p:ByteArray):Calls prog 199 #[.string k,.string p] w λe w'=>e=.returned (.bool (Qau p k))/\w'=w:=by
 have I:∀W,Calls prog 214 #[.string k,.string p] W λe w'=>e=.returned (.bool (Qau p k))/\w'=W:=λW=>by
  have:=Any.strings_HasPrefix Tryz.QjR k p W;unfold Qau;rw[eH,eH];exact this
 go_in;go_wp2_with fail;refine(I _).mono ?_;rintro e w' ⟨rfl,rfl⟩;go_wp2_with fail;go_ret;exact⟨rfl,rfl⟩
structure Qdo(w:World)(B:Nat)(ks:List ByteArray)(s:Sl)(W:World):Prop where
 blk:Blk W B 186 #[.slice s.a ks.length s.c]
 own:W.ownsRow (w.heap.size+2) 9 1 (.slice s.a ks.length s.c) ks.length (ks.map .string)
 sb:Sb (λb=>b=B) w W
 sz:w.heap.size+2<=W.heap.size
section
variable{w W W' : World}{B : Nat}{ks : List ByteArray}{s : Sl}
theorem Qdo.row(h:Qdo w B ks s W){b:Nat}(I:s.row=some b):w+2<=b/\b<W:=Qad h.own I
theorem Qdo.keep{G:Nat->Prop}(h:Qdo w B ks s W)(k:Sb G W W')(Z:¬G B)(hr:∀b,s.row=some b->¬G b)(hG:∀b,G b->w.heap.size<=b):Qdo w B ks s W':=
 ⟨k.blk h.blk Z,Qab h.own k.agree λb I=>⟨(h.row I).2,hr b I⟩,h.sb.comp k λi hi N=>by have:=hG i N;omega,ak h.sz k.size⟩
theorem Qdo.ext(h:Qdo w B ks s W)(k:Ext W W'):Qdo w B ks s W':=h.keep (k.sb λ_=>False) (λe=>e) (λ_ _ e=>e) λ_ e=>e.elim
theorem Qdo.start(Z:Blk w B 186 #[.slice none 0 0])(I:Ext w W)(N:w.heap.size+2<=W.heap.size):Qdo w B [] Sl.none W:=
 ⟨Z.ext I,eK _ _ _ _,I.sb _,N⟩
theorem Qdo.snoc{W4 w5:World}{s3:Sl}{x:ByteArray}(hB:B<w.heap.size)(h:Qdo w B ks s W)(hx:Ext W W4)(a0:w5.ownsRow (w.heap.size+2) 9 1 (.slice s3.a (ks.length+1) s3.c) (ks.length+1) (ks.map .string++[.string x]))(a5:Wr W4 w5 s.row)(a7:s3.a=s.a\/s3.a=some ⟨W4,0,none⟩/\Wr W4 w5 none) :
  Qdo w B (ks++[x]) s3 (w5.setCell ⟨B,0,none⟩ (.slice s3.a (ks.length+1) s3.c))/\St (λb=>b=B\/s.row=some b) W (w5.setCell ⟨B,0,none⟩ (.slice s3.a (ks.length+1) s3.c))/\(∀b,s3.row=some b->s.row=some b\/W.heap.size<=b)/\(∀b,(b=B\/s3.row=some b)->b<(w5.setCell ⟨B,0,none⟩ (.slice s3.a (ks.length+1) s3.c)).heap.size):=by
 have h0:=h.sb.size;have h1:=hx.size;have h2:=a5.grown.size;have hz:=h.sz;have a1:∀b,s3.row=some b->s.row=some b\/W4.heap.size<=b:=λb I=>by
  rcases a7 with e |⟨e,-⟩
  .exact .inl (by rw[<-I];simp[Sl.row,e])
  right;rw[Sl.row,e]at I;simp at I;omega
 have N:St (λb=>b=B) w5 (w5.setCell ⟨B,0,none⟩ (.slice s3.a (ks.length+1) s3.c)):=(ga (λb=>b=B) w5).set (p:=⟨B,0,none⟩) (.inr rfl) _;have a4:St (λb=>s.row=some b) W4 w5:=a5.st λi hi=>hi
 have Z:St (λb=>b=B\/s.row=some b) W (w5.setCell ⟨B,0,none⟩ (.slice s3.a (ks.length+1) s3.c)):=((hx.st _).trans (a4.mono λi _ hi=>.inr hi)).trans (N.mono λi _ hi=>.inl hi);have a3:¬s.row=some B:=λe=>by have:=(h.row e).1;omega
 have a6:(ks++[x]).length=ks.length+1:=sM
 have a2:∀b,s3.row=some b->b<w5.heap.size:=λb I=>(Qad a0 I).2
 refine⟨⟨?_,?_,?_,by rw[eG];omega⟩,Z,λb I=>(a1 b I).imp id λe=>oM,λb I=>?_⟩
 .rw [a6];exact(a4.blk (h.blk.ext hx) a3).QbH 0 _
 ·rw [a6,aH]
  exact Qab a0 N.agree λb I=>⟨a2 b I,λe=>by
   rcases a1 b I with h|h
   .exact a3 (by rw[h,e])
   omega⟩
 .exact h.sb.comp Z.sb λi hi e=>by
   rcases e with e|e
   .exact e
   have:=(h.row e).1;omega
 rw[eG];rcases I with e|e
 .omega
 exact a2 b e
end
inductive Mu where
 |mk (kd:Int) (k tk:ByteArray) (i:Int) (had:Bool) (was:Val) (has:Bool) (v:Val) (l:List Mu)
instance : Inhabited Mu :=⟨.mk 0 ByteArray.empty ByteArray.empty 0 false default false default []⟩
def Mu.kd:Mu->Int | .mk x _ _ _ _ _ _ _ _=>x
def Mu.k:Mu->ByteArray | .mk _ x _ _ _ _ _ _ _=>x
def Mu.tk:Mu->ByteArray | .mk _ _ x _ _ _ _ _ _=>x
def Mu.i:Mu->Int | .mk _ _ _ x _ _ _ _ _=>x
def Mu.had:Mu->Bool | .mk _ _ _ _ x _ _ _ _=>x
def Mu.was:Mu->Val | .mk _ _ _ _ _ x _ _ _=>x
def Mu.has:Mu->Bool | .mk _ _ _ _ _ _ x _ _=>x
def Mu.v:Mu->Val | .mk _ _ _ _ _ _ _ x _=>x
def Mu.l:Mu->List Mu | .mk _ _ _ _ _ _ _ _ x=>x
theorem Mu.Qb6(m:Mu):0<SizeOf.sizeOf m:=by cases m;simp;omega
mutual
def Qa0:Mu->Nat
 |.mk _ _ _ _ _ _ _ _ l=>1+QaF l
def QaF:List Mu->Nat
 |[]=>0
 |m::r=>Qa0 m+QaF r
end
def Qd9(v:Val):Bool:=v.kind==0 && !v.b&&v.i==0&&v.t.size==0&&v.l.length==0&&v.ok.length==0
def QbJ(kd:Int)(k tk:ByteArray)(i:Int)(had:Bool)(was:Val)(has:Bool)(v:Val)(n:Nat):Bool:=
 decide (1<=kd/\kd<=7)&&(kd==6||tk.size==0)&&(kd==3||i==0)&&(kd==4||kd==7 || !had)&&(kd==4 || !has)&&(had||Qd9 was)&&(kd==1||kd==5 ||(kd==4&&has)||Qd9 v)&&(kd==7||n==0)
def Qol(p:ByteArray):Bool:=decide (p.size<=64)&&Lib.validD p.data.toList
def QgF(kd:Int)(k tk:ByteArray)(had:Bool):Bool:=
 if kd=6 then Qol k&&Qol tk else if kd=7/\k.size=0 then !had else Qci k==0
def QhW(kd:Int)(has:Bool):Bool:=kd==1||kd==5 ||(kd==4&&has)
mutual
def QaS:Mu->Nat->Int
 |.mk kd k tk i had was has v l,deep=>if !QbJ kd k tk i had was has v l.length then 9 else if 6<deep then 5 else if !QgF kd k tk had then 8 else if had&&QcP was != 0 then QcP was else if QhW kd has&&QcP v != 0 then QcP v else Qb5 l (deep+1)
def Qb5:List Mu->Nat->Int
 |[],_=>0
 |m::r,deep=>if QaS m deep≠0 then QaS m deep else Qb5 r deep
end
def QbP(m:Mu):Int:=if 64<Qa0 m then 6 else QaS m 1
def asM(M:List Ent)(k:ByteArray)(had:Bool)(was:Val):Bool:=match Qaq M k with
 |some x=>had&&decide (Qbq x was=0)
 |none=>!had
def setMu(M:List Ent)(k:ByteArray)(v:Val):Int × List Ent:=if Qci k≠0 then(8,M)else if QcP v≠0 then(QcP v,M)else(0,QbY M k v)
def Qlb(n:Int):Val:=.mk 3 false n ByteArray.empty [] [] []
def QuP(l:List Val):Val:=.mk 5 false 0 ByteArray.empty l [] []
def Qoy(M:List Ent)(k:ByteArray)(n by_:Int):Int × List Ent:=if(0<by_/\9223372036854775807-by_<n)\/(by_<0/\n < -9223372036854775808-by_)then(7,M)else setMu M k (Qlb (n+by_))
def Qeb(M:List Ent)(k:ByteArray)(by_:Int):Int × List Ent:=match Qaq M k with
 |some x=>if x.kind≠3 then(9,M)else Qoy M k x.i by_
 |none=>Qoy M k 0 by_
def Qoo(M:List Ent)(k:ByteArray)(l:List Val)(x:Val):Int × List Ent:=if 256<=l.length then(6,M)else setMu M k (QuP (l++[x]))
def Qq1(M:List Ent)(k:ByteArray)(x:Val):Int × List Ent:=match Qaq M k with
 |some y=>if y.kind≠5 then(9,M)else Qoo M k y.l x
 |none=>Qoo M k [] x
def QbB(from_ tk k:ByteArray):ByteArray:=tk++k.extract from_.size k.size
def QcF(M:List Ent)(from_ tk:ByteArray):List Ent->Int
 |[]=>0
 |e::r=>if Qci (QbB from_ tk e.1)≠0 then 8 else if(Qaq M (QbB from_ tk e.1)).isSome && !Qau from_ (QbB from_ tk e.1)then 13 else QcF M from_ tk r
def Qqm(M:List Ent)(from_:ByteArray):List Ent:=M.filter λe=>!Qau from_ e.1
def QjI(M:List Ent)(from_:ByteArray):List Ent:=M.filter λe=>Qau from_ e.1
def QgM(M:List Ent)(from_ tk:ByteArray):Int × List Ent:=
 if QcF M from_ tk (QjI M from_)≠0 then(QcF M from_ tk (QjI M from_),M)else(0,QdC (Qqm M from_) ((QjI M from_).map λe=>(QbB from_ tk e.1,e.2)))
mutual
def stepM:Mu->List Ent->Int × List Ent
 | .mk kd k tk i had was has v l,M=>
   if kd=1 then setMu M k v
   else if kd=2 then(if(Qaq M k).isSome then(0,QbM M k)else(12,M))
   else if kd=3 then Qeb M k i
   else if kd=4 then(if asM M k had was then(if has then setMu M k v else(0,QbM M k))else(13,M))
   else if kd=5 then Qq1 M k v
   else if kd=6 then QgM M k tk
   else if kd=7 then(if asM M k had was then(if(QkQ l M).1≠0 then((QkQ l M).1,M)else QkQ l M)else(13,M))
   else(9,M)
def QkQ:List Mu->List Ent->Int × List Ent
 |[],M=>(0,M)
 |m::r,M=>if(stepM m M).1≠0 then((stepM m M).1,M)else QkQ r (stepM m M).2
end
def runM(M:List Ent)(m:Mu):Int × List Ent:=if QbP m≠0 then(QbP m,M)else stepM m M
structure MuS where
 w1:Sl
 w2:Sl
 v1:Sl
 v2:Sl
 s:Sl
instance : Inhabited MuS :=⟨⟨Sl.none, Sl.none, Sl.none, Sl.none, Sl.none⟩⟩
def Qan(m:Mu)(c:MuS):List Value:=[.int .i64 m.kd,.string m.k,.string m.tk,.int .i64 m.i,.bool m.had,.int .i64 m.was.kind,.bool m.was.b,.int .i64 m.was.i,.string m.was.t,.slice c.w1.a m.was.l.length c.w1.c,.slice c.w2.a m.was.ok.length c.w2.c,.bool m.has,.int .i64 m.v.kind,.bool m.v.b,.int .i64 m.v.i,.string m.v.t,.slice c.v1.a m.v.l.length c.v1.c,.slice c.v2.a m.v.ok.length c.v2.c,.slice c.s.a m.l.length c.s.c]
abbrev Qaz(m:Mu)(c:MuS):Value:=.agg (Qan m c).toArray
def MuC(w:World)(b o:Nat)(m:Mu)(c:MuS):Prop:=∀(j:Nat) (u:Value),(Qan m c)[j]? = some u->w.cell? ⟨b,o+j,none⟩=some u
variable{c:MuS}
theorem MuC.agree{b o:Nat}{m:Mu}(h:MuC w b o m c)(N:Agree F w w')(I:F b):MuC w' b o m c:=λj u hu=>(N.cell I).trans (h j u hu)
inductive RMu (w:World) (F:Nat->Prop):Mu->MuS->Prop
 |mk {kd:Int} {k tk:ByteArray} {i:Int} {had:Bool} {was:Val} {has:Bool} {v:Val} {l:List Mu} {c:MuS} (bl fl:Nat) (cl:Nat->MuS)
    (rw_:RV w F was c.w1 c.w2) (rv:RV w F v c.v1 c.v2) (hl:Qd5 F c.s l.length bl fl)
    (el:∀j m,l[j]? = some m->MuC w bl (fl+j*19) m (cl j)) (rl:∀j m,l[j]? = some m->RMu w F m (cl j))
    (bk:k.size<=maxLen) (bt:tk.size<=maxLen) (bkd:(Lit.int .i64 kd).wf=true) (bi:(Lit.int .i64 i).wf=true) (nl:l.length*264<=140737488355328):RMu w F (.mk kd k tk i had was has v l) c
theorem RMu.agree{m:Mu}(h:RMu w F m c)(N:Agree F w w'):RMu w' F m c:=by
 induction h with
 | mk bl fl cl rw_ rv hl el rl bk bt bkd bi nl ih=>
   exact .mk bl fl cl (rw_.agree N) (rv.agree N) hl (λj m I=>(el j m I).agree N (hl.fits (QaW I))) (λj m I=>ih j m I) bk bt bkd bi nl
variable{G:Nat->Prop}
theorem RMu.mono{m:Mu}(h:RMu w F m c)(I:∀i,F i->G i):RMu w G m c:=by
 induction h with
 | mk bl fl cl rw_ rv hl el rl bk bt bkd bi nl ih=>
   exact .mk bl fl cl (rw_.mono I) (rv.mono I) (hl.mono I) el (λj m N=>ih j m N) bk bt bkd bi nl
mutual
def QcC:Mu->Nat
 |.mk kd k tk i had was has v l=>8+k.size+tk.size+QcI was+QcI v+Qcc l
def Qcc:List Mu->Nat
 |[]=>0
 |m::r=>QcC m+Qcc r
end
theorem Qgb:∀{l:List Mu} {j:Nat} {m:Mu},l[j]? = some m->QcC m<=Qcc l
 |[],j,m,h=>by simp at h
 | x :: r,0,m,h=>by
   have:x=m:=by simpa using h
   subst this;rw[Qcc];omega
 |x::r,j+1,m,h=>by have:=Qgb (l:=r) (j:=j) (m:=m) (by simpa using h);rw[Qcc];omega
theorem Qde:∀{l:List Mu} {j:Nat} {m:Mu},l[j]? = some m->QaF (l.take (j+1))=QaF (l.take j)+Qa0 m
 |[],j,m,h=>by simp at h
 | x :: r,0,m,h=>by
   have:x=m:=by simpa using h
   subst this;simp[QaF]
 | x :: r,j+1,m,h=>by
   rw[br,br,QaF,QaF,Qde (l:=r) (j:=j) (by simpa using h),bG]
theorem Qqw(n:Nat):∀m:Mu,SizeOf.sizeOf m<=n->Qa0 m<=QcC m:=by
 induction n with
 |zero=>intro m h;have:=Mu.Qb6 m;omega
 | succ n ih=>
   intro m h;obtain⟨kd,k,tk,i,Z,I,N,v,l⟩:=m;simp only[Mu.mk.sizeOf_spec]at h;have hs:∀l:List Mu,SizeOf.sizeOf l<=n->QaF l<=Qcc l:=by
    intro l
    induction l with
    |nil=>intro _;simp[QaF]
    | cons a r ihr=>
      intro hl;simp only[List.cons.sizeOf_spec]at hl;have h1:=ih a oM;have h2:=ihr oM;rw[QaF,Qcc];omega
   have h1:=hs l oM;rw[Qa0,QcC];omega
theorem Qsp(m:Mu):Qa0 m<=QcC m:=Qqw _ m (ao _)
theorem Qgz{P:ByteArray->Bool}:∀{M:List Ent} (k:ByteArray),Qaq (M.filter λe=>P e.1) k=if P k then Qaq M k else none
 |[],k=>by simp[Qaq]
 | e :: r,k=>by
   have N:=Qgz (P:=P) (M:=r) k;rw[bC];by_cases I:e.1=k
   ·subst I
    cases Z:P e.1 with
    |true=>simp[Qaq]
    |false=>rw[ev sM,N,Z];simp
   cases Z:P e.1 with
   | true=>
     rw[ez rfl,Qaq,ev I,N];congr 1;rw[Qaq,ev I]
   | false=>
     rw[ev sM,N];congr 1;rw[Qaq,ev I]
def QeE(M:List Ent)(ks:List ByteArray):List Ent:=ks.foldl QbM M
theorem Qjt:∀{M:List Ent},Sorted M->Sorted (QeE M ks):=by
 induction ks with
 |nil=>exactλh=>h
 |cons k r ih=>exactλh=>ih (QaN h k)
theorem QoW:∀{M:List Ent},Sorted M->∀x,(x∈ks->Qaq (QeE M ks) x=none)/\(x∉ks->Qaq (QeE M ks) x=Qaq M x):=by
 induction ks with
 |nil=>intro M h x;exact⟨λh=>absurd h sM,λ_=>rfl⟩
 | cons k r ih=>
   intro M h x;obtain⟨Z,N⟩:=ih (QaN h k) x;refine⟨λI=>?_,λI=>?_⟩
   ·show Qaq (QeE (QbM M k) r) x=_
    by_cases h1:x∈r
    .exact Z h1
    have h2:x=k:=(aE.1 I).resolve_right h1;rw[N h1,Qcx _ _ _ h,ez h2]
   show Qaq (QeE (QbM M k) r) x=_;rw[N λh1=>I (aF _ h1),Qcx _ _ _ h,ev (λe:x=k=>I (by rw[e];exact aC ..))]
variable{M:List Ent}
theorem Qkn(h:Sorted M)(p:ByteArray):Sorted (Qqm M p):=h.sublist (cE ..)
theorem Qm8(h:Sorted M)(p:ByteArray):QeE M (Qfh (Qau p) M)=Qqm M p:=
 Qe0 (Qjt h) (Qkn h p) λx=>by
  obtain⟨i1,N⟩:=QoW (ks:=Qfh (Qau p) M) h x;unfold Qqm;rw[Qgz (P:=λk=>!Qau p k)];by_cases h1:x∈Qfh (Qau p) M
  .rw [i1 h1,ev (by simp[((QgL h).1 h1).1])]
  rw[N h1];cases Z:Qau p x with
  |false=>rw[ez (by rfl)]
  | true=>
    rw[ev sM];cases I:Qaq M x with
    |none=>rfl
    |some v=>exact absurd ((QgL h).2 ⟨Z,by rw[I];rfl⟩) h1
theorem QhC{M:List Ent}{f t:ByteArray}:∀{L:List Ent} {e:Ent},QcF M f t L=0->e∈L->Qci (QbB f t e.1)=0
 |[],e,_,h=>by cases h
 | x :: r,e,h,I=>by
   rw[QcF]at h;by_cases h1:Qci (QbB f t x.1)=0
   ·rw [ev (by simp [h1])] at h
    rcases aE.1 I with rfl|I
    .exact h1
    split at h
    .cases h
    exact QhC h I
   rw[ez h1]at h;cases h
theorem QhB{M:List Ent}{f t:ByteArray}:∀{L:List Ent} {j:Nat},QcF M f t (L.take j)=0->QcF M f t L=QcF M f t (L.drop j)
 |L,0,_=>rfl
 |[],j+1,_=>sM
 | x :: r,j+1,h=>by
   rw[br,QcF]at h;rw[QcF,dP];by_cases h1:Qci (QbB f t x.1)=0
   ·rw [ev (by simp [h1])] at h ⊢
    split at h
    .cases h
    rename_i h2;rw[ev h2];exact QhB h
   rw[ez h1]at h;cases h
variable{j:Nat}{e:Ent}
theorem QrU{f t:ByteArray}{L:List Ent}(h:QcF M f t (L.take j)=0)(I:L[j]? = some e) :
  QcF M f t L=if Qci (QbB f t e.1)≠0 then 8 else if(Qaq M (QbB f t e.1)).isSome && !Qau f (QbB f t e.1)then 13 else QcF M f t (L.drop (j+1)):=by
 obtain⟨h1,h2⟩:=ai.1 I;rw[QhB h,aG h1,h2,QcF]
theorem QhD{M:List Ent}{f t:ByteArray}:∀{L:List Ent} {j:Nat} {e:Ent},QcF M f t (L.take j)=0->L[j]? = some e->Qci (QbB f t e.1)=0->((Qaq M (QbB f t e.1)).isSome && !Qau f (QbB f t e.1))=false->QcF M f t (L.take (j+1))=0
 |[],j,e,_,he,_,_=>by simp at he
 | x :: r,0,e,_,he,h1,h2=>by
   have:x=e:=by simpa using he
   subst this;rw[br,dz,QcF,ev (by simp[h1]),ev (by simp[h2]),QcF]
 | x :: r,j+1,e,h,he,h1,h2=>by
   rw[br,QcF]at h ⊢;by_cases I:Qci (QbB f t x.1)=0
   ·rw [ev (by simp [I])] at h ⊢
    split at h
    .cases h
    rename_i h4;rw[ev h4];exact QhD h (by simpa using he) h1 h2
   rw[ez I]at h;cases h
theorem QjJ(M:List Ent)(p:ByteArray):Qfh (Qau p) M=(QjI M p).map Prod.fst:=rfl
theorem QgY(M:List Ent)(k:ByteArray)(v:Val):(setMu M k v).2.length<=M.length+1:=by
 unfold setMu;split
 .exact bY _
 split
 .exact bY _
 have:=QcA M k v;show(QbY M k v).length<=_;omega
theorem QkC(P:Ent->Bool):∀M:List Ent,(M.filter λe=>!P e).length+(M.filter P).length<=M.length
 |[]=>sM
 | e :: r=>by
   have N:=QkC P r;rw[bC,bC];cases I:P e
   .rw [ez (by rfl),ev sM];simp only[List.length_cons];omega
   rw[ev sM,ez rfl];simp only[List.length_cons];omega
theorem QpN(M:List Ent)(f t:ByteArray):(QgM M f t).2.length<=M.length:=by
 unfold QgM;split
 .exact ao _
 have h1:=QnJ ((QjI M f).map λe=>(QbB f t e.1,e.2)) (Qqm M f);rw[ar]at h1;exact ak h1 (QkC (λe=>Qau f e.1) M)
theorem QmA(M:List Ent)(k:ByteArray)(l:List Val)(x:Val):(Qoo M k l x).2.length<=M.length+1:=by
 unfold Qoo;split
 .exact bY _
 exact QgY ..
theorem QlP(M:List Ent)(k:ByteArray)(n b:Int):(Qoy M k n b).2.length<=M.length+1:=by
 unfold Qoy;split
 .exact bY _
 exact QgY ..
theorem QoU(M:List Ent)(k:ByteArray):(QbM M k).length<=M.length:=(Qa3 M k).length_le
theorem QnY(n:Nat):∀(m:Mu) (M:List Ent),SizeOf.sizeOf m<=n->(stepM m M).2.length<=M.length+Qa0 m:=by
 induction n with
 |zero=>intro m M h;have:=Mu.Qb6 m;omega
 | succ n ih=>
   intro m M h;obtain⟨kd,k,tk,i,N,Z,I,v,l⟩:=m;simp only[Mu.mk.sizeOf_spec]at h;have hs:∀(l:List Mu) (M:List Ent),SizeOf.sizeOf l<=n->(QkQ l M).2.length<=M.length+QaF l:=by
    intro l
    induction l with
    |nil=>intro M _;simp[QkQ,QaF]
    | cons a r ihr=>
      intro M hl;simp only[List.cons.sizeOf_spec]at hl;unfold QkQ QaF;split
      .show M.length<=_;omega
      have h1:=ih a M oM;have h2:=ihr (stepM a M).2 oM;omega
   unfold stepM Qa0;have h1:=QgY M k v;have h2:=QoU M k;have h3:=QpN M k tk;have h4:=hs l M oM;split
   .omega
   split
   ·split
    .show (QbM M k).length<=_;omega
    show M.length<=_;omega
   split
   ·unfold Qeb
    split
    ·rename_i x _
     split
     .show M.length<=_;omega
     have:=QlP M k x.i i;omega
    have:=QlP M k 0 i;omega
   split
   ·split
    ·split
     .omega
     show(QbM M k).length<=_;omega
    show M.length<=_;omega
   split
   ·unfold Qq1
    split
    ·rename_i y _
     split
     .show M.length<=_;omega
     have:=QmA M k y.l v;omega
    have:=QmA M k [] v;omega
   split
   .omega
   split
   ·split
    ·split
     .show M.length<=_;omega
     omega
    show M.length<=_;omega
   show M.length<=_;omega
theorem Qkv(m:Mu)(M:List Ent):(stepM m M).2.length<=M.length+Qa0 m:=QnY _ m M (ao _)
section
variable{H : Type}{enc : TypeId × Value -> H}{P : Program}{w : World}{held : Bool}
theorem Qwl:∀{l:List (DataW H)} {i:Nat} {d:DataW H},l[i]? = some d->Rows.uptoBulk d<=Rows.uptoBulkAll l
 |[],i,d,h=>by simp at h
 | x :: l,0,d,h=>by
   have:x=d:=by simpa using h
   subst this;simp only[Rows.uptoBulkAll];omega
 | x :: l,i+1,d,h=>by
   have:=Qwl (l:=l) (i:=i) (d:=d) (by simpa using h);simp only[Rows.uptoBulkAll];omega
theorem Qc1{t e:TypeId}{C B a0:Nat}{cs:List Value}{x:DataW H × List MemPlace}(ht:P.underlying t=some (.slice e))(hC:P.cellsOf e=C)(hB:P.bytesOf e=B)(b7:0<C)
  (h:tr enc P w held a0 t cs=some x) (hw:WOk P t x.1) :
  ∃(n I:Nat) (s:Sl) (b o:Nat) (es:List (DataW H)),a0=n+1/\cs=[.slice s.a I s.c]/\Qd5 (Lt w) s I b o/\I*B<=140737488351232/\es.length=I/\Rows.uptoBulkAll es+1<=Rows.uptoBulk x.1/\
   ∀i,i<I->∃N y,N.length=C/\(∀j,j<C->w.cell? ⟨b,o+i*C+j,none⟩=N[j]?)/\tr enc P w held n e N=some y/\WOk P e y.1/\es[i]? = some y.1:=by
 rcases DataW.trod_slice ht h with⟨rfl,rfl⟩ |⟨a,I,b6,Z,rest,n,a8,b4,hx,-,hl,hm,a3,b3,c1,-⟩
 ·cases a0 with
  |zero=>simp[tr,DataW.trod]at h
  |succ n=>exact⟨n,0,Sl.none,0,0,[],rfl,rfl,.nil _ _,oM,rfl,by simp[Rows.uptoBulk,Rows.uptoBulkAll],λi hi=>oM⟩
 obtain⟨n',a6,s,b,o,c0,a2,hs,b5,he⟩:=QqF ht hC hB b7 h hw;subst b4 hx a8;obtain rfl:n=n':=oM
 have a4:Value.slice (some a) I b6=.slice s.a a6 s.c:=by simpa using a2
 injection a4 with e1 e2 e3;subst e2;refine⟨n,I,s,b,o,Z.map (·.1),rfl,a2,hs,b5,by rw[ar];exact a3,by simp only[Rows.uptoBulk];omega,λi hi=>?_⟩;obtain⟨N,y,a9,hc,a5,b0⟩:=he i hi;refine⟨N,y,a9,hc,a5,b0,?_⟩;have hE:=b3 i hi;rw[ac oM]at hE;obtain⟨a7,h1,h2⟩:=dw.1 hE;obtain⟨-,b8,a1⟩:=World.cells?_some h1;rw[hC]at b8 a1;have b9:s.a=some ⟨b,o,none⟩:=(hs.eq oM).1;rw[b9]at e1;obtain rfl:a=⟨b,o,none⟩:=by injection e1
 have:a7=N:=by
  refine bK λj=>?_
  by_cases hj:j<C
  ·have:=a1 j hj
   rw[Go.WideShapes.add_plain,Go.WideShapes.add_plain]at this;rw[<-hc j hj,<-this]
  rw[aL oM,aL oM]
 subst this;rw[au,ac oM];have:some (Z[i]' oM)=some y:=by rw[<-h2];exact a5
 simp only[Option.map_some];injection this with this;rw[this]
theorem QcD{t:TypeId}{fs:List Field}{I:Nat}{cs:List Value}{x:DataW H × List MemPlace}(ht:P.underlying t=some (.struct fs.toArray))(h:tr enc P w held I t cs=some x)(hw:WOk P t x.1) :
  ∃n ds,I=n+1/\cs.length=P.cellsOf t/\x.1=.agg ds/\∀(i:Nat) (f:Field),fs[i]? = some f->∃y,tr enc P w held n f.type ((cs.drop f.offset).take (P.cellsOf f.type))=some y/\WOk P f.type y.1/\ds[i]? = some y.1:=by
 obtain⟨xs,n,rfl,rfl,hl,Z,hf⟩:=DataW.trod_struct ht h;refine⟨n,xs.map (·.1),rfl,hl,rfl,λi f hi=>?_⟩;have a0:(DataW.weightsEach P (fs.map (·.type)) (xs.map (·.1))).all (·<=reachBytes)=true:=by
  have:=hw;simpa[WOk,DataW.weights,ht]using this
 have a1:i<fs.length:=(ai.1 hi).1;have h1:=hf i f (by simpa using hi);have N:i<xs.length:=by simp at Z;omega
 rw[ac N]at h1;exact⟨_,h1,weightsEach_at a0 i _ _ (by rw[au,hi];rfl) (by rw[au,ac N];rfl),by rw[au,ac N];rfl⟩
end
theorem Qc3{H:Type}(d:DataW H):1<=Rows.uptoBulk d:=by
 cases d with
 |lit l=>cases l<;>simp[Rows.uptoBulk]
 |_=>simp[Rows.uptoBulk]
variable{H:Nat->Prop}{O:Nat}{d:OD}
theorem Qk1(h:QcK H w O d)(hm:d.mb=none):Calls prog 96 #[.pointer (some ⟨O,0,none⟩)] w λe w'=>e=.returned (Qao d.T)/\Nw w w':=by
 have c0:w.cell? ⟨O,0,none⟩=some (QaK d.T):=h.blk.cell 0;have c1:w.cell? ⟨O,1,none⟩=some (.map none):=by have:=h.blk.cell 1;rw[hm]at this;exact this
 have lO:=h.blk.lt;obtain⟨r,hr⟩:=Qaj d.T;rw[Qao,hr];rw[hr]at c0;have l1:O<w.heap.size+1:=oM
 have l2:O<w.heap.size+1+1:=oM
 clear h hm hr;go_in;go_wp2_with fail;generalize a5:World.alloc _ _=W0;obtain⟨a1,a3,I,N⟩:=Qas w _ _ _ _ W0 a5;obtain⟨a8,a7,a6,a9⟩:=Ye a1 I N a3;clear a5 a1 I N l1 l2 a3;refine((eD (n:=5)).1 (Tryz.Qhz none W0)).mono ?_;rintro e w' ⟨rfl,rfl⟩;go_wp2_with fail;refine((eD (n:=5)).1 (Tryz.Qdg W0)).mono ?_;rintro e w2 ⟨v,ss,rfl,rfl,a4,a0,a2⟩;obtain rfl:=a0.2 rfl;have Z:Nw W0 w2:=(fT ((fQ W0).alloc #[.map none] 181)).trans (Sb.new a2);have I:=Z.blk a7.o;have N:=Z.blk a6.o;have q0:w2.cell? ⟨w,0,none⟩=some (.pointer none):=I.cell 0;have q1:w2.cell? ⟨w+1,0,none⟩=some (.pointer r):=N.cell 0;have f0:=I.frozen 0;have k0:=I.lt;have k1:=N.lt;have HN:=hY (show Nw w (w2.setCell ⟨w,0,none⟩ (.pointer r))from
  (((fT a8.o).any (λb=>w<=b)).trans (Z.any _)).set (p:=⟨w,0,none⟩) (.inl (ao _)) _ |>.mono λi hi e=>oM)
 clear a4 a0 a2 Z I N c0 c1;go_wp2_with fail;go_loopw[23] (λq wr=>q=.int .i64 0/\wr=w2) (λ_ _=>0)
 case atStart=>exact⟨rfl,rfl⟩
 obtain⟨rfl,rfl⟩:=hrel;go_wp2_with fail;refine eE (v:=.agg #[.pointer r]) (by simp[results,results96,go_sem,q0]) rfl ?_;exact⟨rfl,HN.o⟩
def Qi1(C:AL SV)(pre:List LE):List ByteArray:=(pre.filter λx=>(QaZ C x.k).isNone).map LE.k
variable{C:AL SV}{x:LE}
theorem Qr4(h:QaZ C x.k=none):Qi1 C (pre++[x])=Qi1 C pre++[x.k]:=by
 unfold Qi1;rw[cz,aH,bC,ez (by rw[h];rfl)];rfl
theorem QtA{s:SV}(h:QaZ C x.k=some s):Qi1 C (pre++[x])=Qi1 C pre:=by
 unfold Qi1;rw[cz,aH,bC,ev (by rw[h];simp)];simp
theorem Qmt(C:AL SV)(pre:List LE):(Qi1 C pre).length<=pre.length:=by
 unfold Qi1;rw[ar];exact bZ _ _
def Qnh(C:AL SV)(p k:ByteArray):Bool:=match QaZ C k with
 |some s=>s.has&&Qau p k
 |none=>false
abbrev QbL(l:List UInt8):ByteArray:=⟨l.toArray⟩
def Qc7(C:AL SV)(p:ByteArray)(ss:List (List UInt8)):List ByteArray:=(ss.map QbL).filter (Qnh C p)
theorem Qpl{p:ByteArray}{ss:List (List UInt8)}{x:List UInt8}(h:Qnh C p (QbL x)=true):Qc7 C p (ss++[x])=Qc7 C p ss++[QbL x]:=by
 unfold Qc7;rw[aH,cz,List.map_singleton,bC,ez h];rfl
theorem Ql7{p:ByteArray}{ss:List (List UInt8)}{x:List UInt8}(h:Qnh C p (QbL x)=false):Qc7 C p (ss++[x])=Qc7 C p ss:=by
 unfold Qc7;rw[aH,cz,List.map_singleton,bC,ev (by rw[h];simp)];simp
theorem Qpk(C:AL SV)(p:ByteArray)(ss:List (List UInt8)):(Qc7 C p ss).length<=ss.length:=by
 unfold Qc7;have:=bZ (Qnh C p) (ss.map QbL);rwa[ar]at this
theorem QdL(C:AL SV):strKeys (mapA SV.val C)=C.map λq=>QaP q.1:=by
 show(C.map (Qsx SV.val)).map _=_;rw[ci];rfl
theorem Qpy{a b:ByteArray}(h:klt a b=true):a≠b:=λe=>by rw[e,Qag]at h;cases h
variable{xs:List LE}
theorem Qqb{p:ByteArray}(hs:Sorted (Qaa d.T))(hC:Qay d.C)(hx:xs.map LE.ent=Qeo p (Qaa d.T)){ss:List (List UInt8)}(hp:ss.Perm (d.C.map λq=>QaP q.1)) :
  (Qi1 d.C xs++Qc7 d.C p ss).Nodup/\∀k,k∈Qi1 d.C xs++Qc7 d.C p ss↔(Qau p k=true/\(d.now k).isSome=true):=by
 have hsp:(Qeo p (Qaa d.T)).Pairwise λa b=>klt a.1 b.1=true:=hs.sublist (cE ..)
 rw[<-hx]at hsp;have hk1:(xs.map LE.k).Pairwise λa b=>klt a b=true:=bL.2 (bL.1 hsp)
 have hn1:(Qi1 d.C xs).Nodup:=((bL.2 ((bL.1 hk1).sublist (cE ..))).imp λh=>Qpy h);have hnC:(d.C.map λq=>QaP q.1).Nodup:=bL.2 (hC.imp λ{a b} h (e:QaP a.1=QaP b.1)=>Qpy h (congrArg QbL e:QbL (QaP a.1)=QbL (QaP b.1)));have hns:(ss.map QbL).Nodup:=bL.2 ((hp.nodup_iff.2 hnC).imp λ{a b} h (e:QbL a=QbL b)=>h (congrArg QaP e:QaP (QbL a)=QaP (QbL b)));have hn2:(Qc7 d.C p ss).Nodup:=hns.sublist (cE ..);have hm1:∀k,k∈Qi1 d.C xs↔(Qau p k=true/\(Qaq (Qaa d.T) k).isSome=true/\QaZ d.C k=none):=λk=>by
  have hmem:∀(e:Ent),e∈xs.map LE.ent↔(e∈Qaa d.T/\Qau p e.1=true):=λe=>by rw[hx];exact cq
  unfold Qi1;rw[bW];constructor
  ·rintro ⟨x,hx',rfl⟩
   obtain⟨h1,h2⟩:=cq.1 hx';obtain⟨h3,h4⟩:=(hmem x.ent).1 (dm h1);exact⟨h4,by have:=Qis hs h3;rw[show x.ent.1=x.k from rfl]at this;rw[this];rfl,Option.isNone_iff_eq_none.1 h2⟩
  rintro⟨h1,h2,h3⟩;obtain⟨v,hv⟩:=cP.1 h2;obtain⟨x,hx',he⟩:=bW.1 ((hmem (k,v)).2 ⟨QdW hv,h1⟩);have hxk:x.k=k:=congrArg Prod.fst he;exact⟨x,cq.2 ⟨hx',by rw[hxk,h3];rfl⟩,hxk⟩
 have hm2:∀k,k∈Qc7 d.C p ss↔Qnh d.C p k=true:=λk=>by
  unfold Qc7;rw[cq];refine⟨λh=>h.2,λh=>⟨?_,h⟩⟩;unfold Qnh at h;cases hg:QaZ d.C k with
  |none=>rw[hg]at h;cases h
  | some s=>
    have h5:QaP k∈ss:=hp.mem_iff.2 (bW.2 ⟨(k,s),QeJ hg,rfl⟩);exact bW.2 ⟨QaP k,h5,rfl⟩
 refine⟨List.nodup_append.2 ⟨hn1,hn2,λa ha b hb e=>?_⟩,λk=>?_⟩
 ·subst e
  have h1:=((hm1 a).1 ha).2.2;have h2:=(hm2 a).1 hb;unfold Qnh at h2;rw[h1]at h2;cases h2
 rw[aS,hm1,hm2];unfold Qnh;cases hg:QaZ d.C k with
 |none=>rw[Qmo hg];simp
 | some s=>
   rw[Qmp hg];unfold SV.opt;cases hh:s.has<;>cases Qau p k<;>simp[hh]
theorem QsW{x:List UInt8}{yd:DataW Value}{yp:List MemPlace}{c:Value}(I:∀zd,(mapA SV.val C).atKey (.string x) zd=yd)(Z:QeO c=some (yd,yp)):∃sv,QaZ C (QbL x)=some sv/\c=sv.val:=by
 have h1:=Qgh SV.val C (QbL x);cases N:QaZ C (QbL x)with
 | none=>
   simp only[N]at h1;have a:=(h1 .nil).symm.trans (I .nil);have b:=(h1 (.held (.bool true))).symm.trans (I _);rw[<-a]at b;cases b
 | some s=>
   simp only[N]at h1;have a:=(h1 .nil).symm.trans (I .nil);rw[<-a]at Z;exact⟨s,rfl,QeP Z⟩
theorem Qk9{p k:ByteArray}{s:SV}(h:QaZ C k=some s):Qnh C p k=(s.has&&Qau p k):=by unfold Qnh;rw[h]
theorem Qj5{α:Type}[DecidableEq α]:∀{ss l:List α},ss.Nodup->(∀x∈ss,x∈l)->ss.length<=l.length
 |[],l,_,_=>aD _
 | a :: ss,l,hn,hs=>by
   have Z:=hs a (aC ..);have I:=List.nodup_cons.1 hn;have:=Qj5 (ss:=ss) (l:=l.erase a) I.2 λx N=>(List.mem_erase_of_ne (λe=>I.1 (by rw[<-e];exact N))).2 (hs x (aF _ N))
   have he:=List.length_erase_of_mem Z;have:0<l.length:=List.length_pos_of_mem Z;simp only[List.length_cons];omega
theorem Qgq{left:Lit->Bool}{ss:List (List UInt8)}(h:Collected (mapA SV.val C) left ss):ss.length<=C.length:=by
 have h2:=Qj5 (l:=C.map λq=>QaP q.1) h.1 λx I=>by
  have:=((h.2 x).1 I).1;rw[show Lit.string x=Qfz (QbL x)from rfl,Ql5]at this;obtain⟨s,hs⟩:=cP.1 this;exact bW.2 ⟨(QbL x,s),QeJ hs,rfl⟩
 rwa[ar]at h2
def QlO(d:OD)(p:ByteArray)(w:World)(e:Ending)(w':World):Prop:=
 ∃(s:Sl) (ks:List ByteArray),e=.returned (.slice s.a ks.length s.c)/\Nw w w'/\Rd w' (In w.heap.size w'.heap.size) 1 s ks.length (ks.map .string)/\ks.Pairwise (λx y=>klt x y=true)/\∀k,k∈ks↔(Qau p k=true/\(d.now k).isSome=true)
variable{w1 w5 w6:World}
theorem Qqc{p:ByteArray}{ks ts:List ByteArray}(h1:Nw w w1)(hB:w.heap.size<=B)(hc:Qdo w1 B ks s W)(hn:ks.Nodup)(hm:∀k,k∈ks↔(Qau p k=true/\(d.now k).isSome=true))
  (hp:ts.Perm ks) (hs:(ts.map QaP).Pairwise λx y=>decide (x<=y)=true) (ho:w5.ownsRow (w1.heap.size+2) 9 1 (.slice s.a ts.length s.c) ts.length (ts.map .string)) (N:W.grownBy w5 s.row) {D:Nat} (h6:Sb (λb=>b=D) w5 w6) (hD:w1.heap.size=D) :
  QlO d p w (.returned (.slice s.a ts.length s.c)) w6:=by
 have hz:=h1.size;have h5:Sb (λb=>s.row=some b) W w5:=⟨N.os,N.tape,N.output,N.size,λi hi hn=>N.block i hi λe=>hn e.symm⟩;refine⟨s,ts,rfl,?_,?_,QgT hs (hp.nodup_iff.2 hn),λk=>(hp.mem_iff).trans (hm k)⟩
 ·have a1:Sb (fun b=>B=b∨w1.heap.size≤b) w1 w6:=((hc.sb.mono fun i _ e=>.inl e.symm).trans (h5.mono fun i _ e=>.inr (by have:=(hc.row e).1;omega))).trans (h6.mono fun i _ e=>.inr oM)
  exact((h1.any (λb=>w<=b)).comp a1 λi hi e=>by rcases e with e|e<;>omega).mono λi hi e=>oM
 have I:∀b,s.row=some b->w1.heap.size+2<=b/\b<w5.heap.size:=λb Z=>Qad ho Z
 have a0:=Qab ho h6.agree λb Z=>⟨(I b Z).2,λe=>by have:=(I b Z).1;omega⟩
 exact(fZ a0).mono λi hi=>⟨by have:=hi.1;omega,hi.2⟩
attribute [local go_sem] Oper.semAt_some
theorem Qhf(w:World):(Instr.range 181 (.map none)).run prog w=.ok (.pointer (some ⟨w,0,none⟩)) (w.alloc (.mapIter none 0 #[] 0)):=by
 simp[Instr.range,run_underlying underlying181,newObj,eS,ff,Result.andThen];rfl
variable{r:Nat}
theorem QiQ(h:w.heap[r]? = some (.mapIter none 0 #[] 0))(ty:TypeId):(Instr.next (.pointer (some ⟨r,0,none⟩)) false ty).run prog w=.ok (.tuple #[.bool false]) w:=by
 have I:(getObj r).run prog w=.ok (.mapIter none 0 #[] 0) w:=by simp[getObj,Sem.run,h]
 unfold Instr.next;simp only[Sem.run_bind,Sem.run_pure,Result.andThen_ok,I]
variable{P:Program}
theorem Qkl{H:Type}{k:TypeId}{R:Value->Option (DataW H × List MemPlace)}{b r n:Nat}{D:DataW H}{left:Lit->Bool}{cnt:Nat}(h:w.ranges P k R b r n D left cnt)(hb:w'.heap[b]? = w.heap[b]?)(hr:w'.heap[r]? = w.heap[r]?):w'.ranges P k R b r n D left cnt:=by
 obtain⟨es,I,N,Z,c0,h1,h2,h3,h4,h5,h6⟩:=h;exact⟨es,I,N,Z,c0,hb.trans h1,h2,h3,h4,hr.trans h5,h6⟩
theorem QnP{H:Type}{k:TypeId}{R:Value->Option (DataW H × List MemPlace)}{b r n:Nat}{D:DataW H}{left:Lit->Bool}{cnt:Nat}(h:w.ranges P k R b r n D left cnt):b<w/\r<w/\(∀t cs,¬Blk w b t cs):=by
 obtain⟨es,N,Z,a0,c0,h1,h2,h3,h4,h5,h6⟩:=h;refine⟨(az.1 h1).1,(az.1 h5).1,λt cs I=>?_⟩;have I:w.heap[b]? = some (.cells cs t (0,0)):=I;rw[h1]at I;cases I
structure Qva(w1:World)(B r b D:Nat)(C:AL SV)(p:ByteArray)(ks1:List ByteArray)(left:Lit->Bool)(cnt:Nat)(ss:List (List UInt8))(s:Sl)(wr:World):Prop where
 col:Qdo w1 B (ks1++Qc7 C p ss) s wr
 rg:wr.ranges prog 9 QeO b r C.length (mapA SV.val C) left cnt
 co:Collected (mapA SV.val C) left ss
 ne:s.row≠some r
 dk:wr.heap[D]? = some (.deferred (some []))
theorem Qqd(h:QcK H w O d)(hl:(Qaa d.T).length<=1000000)(hn:d.us.length<=1000000){p:ByteArray}(hp:p.size<=maxLen) :
  Calls prog 197 #[.pointer (some ⟨O,0,none⟩),.string p] w (QlO d p w):=by
 obtain⟨i0,hi,r4,o0,p4⟩:=eI Tryz.Qla;have hF:∀b,OvF H w O d b->b<w.heap.size:=λb Z=>Z.1
 have k0:=λW=>QnI W d.T p hp
 have r6:=λW1 (hA:Agree (Lt w) w W1) (hz:w.heap.size<=W1.heap.size) B lo hi op (hB:Qdr W1 B d.T lo hi op)=>Qqi (lo:=lo) (hi:=hi) (op:=op) (show Qgg (OvF H w O d) d.T W1 from⟨h.tree.agree (hA.mono hF),λb Z=>ab (hF b Z) hz⟩) h.ok hl hB
 obtain⟨r,k2⟩:=Qaj d.T;simp only[Qao,k2]at k0;have c0:w.cell? ⟨O,0,none⟩=some (.pointer r):=by rw[<-k2];exact h.blk.cell 0
 have lO:=h.blk.lt;have l1:O<w.heap.size+1:=oM
 obtain⟨b7,q8,o1,q6⟩:=Ye h hF k0 r6;clear h hF k0 r6 k2;refine(eD (n:=6)).1 ?_;refine fu func197 rfl trivial ?_ rfl;simp only[ntmps197,List.size_toArray,List.length_cons,List.length_nil,Nat.reduceAdd,Nat.reduceSub,Array.replicate_succ,Array.replicate_zero,List.push_toArray,List.append_toArray,List.nil_append,List.cons_append];gi_wp2_with fail;generalize o9:World.alloc (World.alloc _ _) _=W0;obtain⟨p1,v5,r5,p2⟩:=Qas w _ _ _ _ W0 o9;obtain⟨o7,r0,q7⟩:=Yc p1 r5 p2;clear o9 p1 r5 p2;refine⟨trivial,?_⟩;refine(eD.2 (o1.o W0)).mono ?_;rintro e w1 ⟨B,en,op,rfl,f1,k1,hB,p0⟩;have e6:=Bw.trans o7.o.below f1;have j5:Nw w w1:=(fT o7.o).trans (Sb.new f1);have b9:=hY (b7.o.nw j5);have n6:Blk w1 w.heap.size 151 #[.pointer (some ⟨O,0,none⟩)]:=r0.o.agree (Agree.of_below f1 (F:=Lt W0) λ_ h=>h) (by show _<_;omega);have k5:Blk w1 (w.heap.size+1) 186 #[.slice none 0 0]:=q7.o.agree (Agree.of_below f1 (F:=Lt W0) λ_ h=>h) (by show _<_;omega);obtain⟨p7,o4,n7,s4,t5⟩:=Yf (q6.o w1 (Agree.of_below e6 (F:=Lt w) λ_ h=>h) e6.size B p en op k1) j5 n6 k5 (p0 (Qaa d.T));have w8:=k1.lt;have x5:=e6.size;have j6:w.heap.size<w1.heap.size:=n6.lt;have r8:w.heap.size+1<w1.heap.size:=k5.lt;clear f1 k1 o1 q6 e6 n6 k5 p0 r0 q7 j5;rw[t5.o]at p7;gi_wp2_with fail;refine Qg6 (gf:=256) (lb:=Qmy B) rfl (eU func256 kM rfl) p7.o (Agree.refl _) (ao _)
  (λb Z=>Z.elim (λh=>by have:=q8.o b h;omega) (λh=>oM)) (λ_=>rfl)
  (λpre C W=>∃s:Sl,C=(λb=>b=w.heap.size+1\/s.row=some b)/\Qdo w1 (w.heap.size+1) (Qi1 d.C pre) s W) (λ_ _ _=>False) (λb=>b=w.heap.size+1)
  (λb Z=>⟨oM,λh=>h.elim (λh=>by have:=q8.o b h;omega) (λh=>oM)⟩)
  (λh k=>?turn) (λh k=>h) (λW hW hz=>⟨Sl.none,by funext b;simp[Sl.row],Qdo.start s4.o hW hz⟩) ?round ?done ?stop
 case turn=>
  obtain⟨s,e,hc⟩:=h;exact⟨s,e,hc.keep k.sb oM (λb Z=>by have:=(hc.row Z).1;omega) λb Z=>oM⟩
 case stop=>
  rintro D c pre W hD x6 hX i2;exact hX.elim
 case round=>
  rintro pre C x x3 W1 ⟨s,rfl,d0⟩ t1 x2 t4 j0 hG;obtain⟨ks,I⟩:∃ks,Qi1 d.C pre=ks:=⟨_,rfl⟩;have p6:ks.length<1000000:=by
   have h1:=(ai.1 hG.at_).1;have h2:=Qmt d.C pre;have h3:(Qeo p (Qaa d.T)).length<=1000000:=ak (bZ _ _) hl;rw[<-I];omega
  have t3:=hG.key;rw[I]at d0;have j1:=d0.ext j0;obtain⟨d3,e7⟩:=Yb j1 I;clear d0 j1 j0 hG t4 t1 I;gi_wp2_with fail;refine⟨fQ _,λW3 k3=>?_⟩;have N:=d3.o.keep k3.sb oM (λb Z=>by have:=(d3.o.row Z).1;omega) λb Z=>oM
  have b5:=N.sb;have q0:W3.cell? ⟨w,0,none⟩=some (.pointer (some ⟨O,0,none⟩)):=(b5.blk n7.o oM).cell 0;have q1:W3.cell? ⟨O,1,none⟩=some (.map d.mb):=(b5.blk b9.o.blk oM).cell 1;have lq:O<W3.heap.size:=(b5.blk b9.o.blk oM).lt;have b4:Qbp W3 d.mb d.C:=b9.o.map.heap λb Z=>b5.block b (b9.o.map.lt Z) λe=>by have:=b7.o.map.lt Z;omega
  have g5:=Qlg b4 t3;have i9:=hY N;have a3:∀b,s.row=some b->w1.heap.size+2<=b/\b<W3.heap.size:=λb Z=>N.row Z
  have c3:W3.cell? ⟨w+1,0,none⟩=some (.slice s.a ks.length s.c):=N.blk.cell 0;have f3:W3.frozen? ⟨w+1,0,none⟩=false:=N.blk.frozen 0;have l3:=N.blk.lt;cases hg:QaZ d.C x.k with
  | some sv=>
    rw[hg,show Qiw d.C x.k=sv by rw[Qiw,hg];rfl]at g5;obtain⟨g4,v,sl,so⟩:=sv;have HG:=hY hg;clear hg N b5 b4;gi_wp2_with fail;have f0:=(fQ W3).alloc #[.bool g4,.int .i64 v.kind,.bool v.b,.int .i64 v.i,.string v.t,.slice sl.a v.l.length sl.c,.slice so.a v.ok.length so.c] 192;exact⟨_,⟨s,rfl,by rw[QtA HG.o,e7.o];exact i9.o.ext f0⟩,f0.st _,λb Z=>.inl Z,λb Z=>by
     have:=f0.size;rcases Z with e|e
     .omega
     have:=(a3 b e).2;omega⟩
  | none=>
    rw[hg,show Qiw d.C x.k=QhY by rw[Qiw,hg];rfl]at g5;have a5:Ext W3 ((W3.alloc (.cells #[.bool false,.int .i64 0,.bool false,.int .i64 0,.string ByteArray.empty,.slice none 0 0,.slice none 0 0] 192)).alloc (.cells #[.string x.k] 9)):=((fQ W3).alloc _ _).alloc _ _;have a9:=Qab N.own (a5.agree (F:=Lt W3) λb Z=>Z) λb Z=>(a3 b Z).2
    have k6:ks.length+1<=maxLen:=by unfold maxLen;omega
    have k9:(ks.length+1)*16<=140737488355328:=oM
    have x1:=N.sb.size;have c8:w1.heap.size+2<=((W3.alloc (.cells #[.bool false,.int .i64 0,.bool false,.int .i64 0,.string ByteArray.empty,.slice none 0 0,.slice none 0 0] 192)).alloc (.cells #[.string x.k] 9)).heap.size:=by have:=N.sz;simp;omega
    obtain⟨c4,d6⟩:=Yb a5 a9;have k7:=hY (show Blk ((W3.alloc (.cells #[.bool false,.int .i64 0,.bool false,.int .i64 0,.string ByteArray.empty,.slice none 0 0,.slice none 0 0] 192)).alloc (.cells #[.string x.k] 9)) (W3.heap.size+1) 9 #[.string x.k]by
     have:=fU (W3.alloc (.cells #[.bool false,.int .i64 0,.bool false,.int .i64 0,.string ByteArray.empty,.slice none 0 0,.slice none 0 0] 192)) 9 #[.string x.k];rwa[eB]at this)
    have t0:¬w.heap.size+1=W3.heap.size:=oM
    have p3:¬w.heap.size+1=W3.heap.size+1:=oM
    have t2:w.heap.size+1<W3.heap.size+1:=oM
    have k8:=hY ((a5.frozen (o:=0) l3).trans f3);have n2:s.row≠some (w.heap.size+1):=λe=>by have:=(a3 _ e).1;omega
    have HG:=hY hg;clear hg N b5 b4 a5 a9;gi_wp2_with(gi_at_builtin;refine QbS _ rfl (.tmp 32) (.tmp 34) 186 rfl (w1.heap.size+2) 9 i0 _ 1 16 underlying186 hi r4 o0 p4 rfl oN s ks.length (ks.map .string) rfl d6.o (λb=>b=W3.heap.size+1) ⟨some ⟨W3+1,0,none⟩,1⟩ 1 [.string x.k] rfl (ge k7.o oN rfl) (by simp[Value.oneCell']) k6 k9 c8 ?_;intro s3 w5 b3 a7 f2;have h5:=a7.cell0 (o:=0) c4.o n2 l3;have c5:w5.cell? ⟨w+1,0,none⟩=some (.slice s.a ks.length s.c):=h5.1.trans c3;have l5:=h5.2;have f5:w5.frozen? ⟨w+1,0,none⟩=false:=(a7.fz _ _).trans (k8.out);have j4:=hY b3;have k4:=hY a7;have n8:=hY f2;clear b3 a7 f2 h5);obtain⟨e1,e2,e3,e4⟩:=i9.o.snoc r8 c4.o j4.o k4.o n8.o;exact⟨_,⟨s3,rfl,by rw[Qr4 HG.o,e7.o];exact e1⟩,e2,λb Z=>by
     rcases Z with e|e
     .exact .inl (.inl e)
     exact(e3 b e).imp .inr id,e4⟩
 rintro D xs C W hD hS ⟨s,rfl,d0⟩ i2;have e8:=d0.sb;have q0:W.cell? ⟨w,0,none⟩=some (.pointer (some ⟨O,0,none⟩)):=(e8.blk n7.o oM).cell 0;have q1:W.cell? ⟨O,1,none⟩=some (.map d.mb):=(e8.blk b9.o.blk oM).cell 1;have lq:O<W.heap.size:=(e8.blk b9.o.blk oM).lt;have l0:w.heap.size<W.heap.size:=(e8.blk n7.o oM).lt;have b4:Qbp W d.mb d.C:=b9.o.map.heap λb Z=>e8.block b (b9.o.map.lt Z) λe=>by have:=b7.o.map.lt Z;omega
 have g0:(Qi1 d.C xs).length<=1000000:=by
  have h1:=Qmt d.C xs;have h2:(xs.map LE.ent).length=(Qeo p (Qaa d.T)).length:=by rw[hS]
  have h3:(Qeo p (Qaa d.T)).length<=1000000:=ak (bZ _ _) hl;rw[ar]at h2;omega
 have p9:=(az.1 i2).1;obtain⟨d3,HS,r1,i6,HD⟩:=Yf d0 hS i2 b4 hD;clear d0 hS i2 b4 e8 hD;obtain⟨mb,n9⟩:∃mb,d.mb=mb:=⟨_,rfl⟩;rw[n9]at q1;have p8:=hY n9;clear n9;rcases mb with _|b
 ·have t7:=fun w=>Qhf w
  gi_wp2_with fail;generalize l4:World.alloc W _=WW;have g9:WW.heap[W.heap.size]? = some (.mapIter none 0 #[] 0):=by rw[<-l4];exact fB W _
  have d4:Nw W WW:=by rw[<-l4];exact Sb.made (World.grownBy_alloc _ _ _)
  have r2:d.C=[]:=by have:=i6.o;rw[p8.o]at this;exact this
  have a8:=Qqb (p:=p) (ss:=[]) b7.o.ok.sorted b7.o.sorted HS.o (by rw[r2];exact List.Perm.nil);have a1:=d3.o.keep (d4.any (λ_=>False)) (λe=>e) (λ_ _ e=>e) (λ_ e=>e.elim);obtain⟨ks,I⟩:∃ks,Qi1 d.C xs=ks:=⟨_,rfl⟩;rw[show Qc7 d.C p []=[]from rfl,aY,I]at a8;rw[I]at a1 g0;obtain⟨s2,rfl⟩:∃s2,s2=s:=⟨_,rfl⟩;obtain⟨c7,b6,s8,g3,c9⟩:=Yf a8 a1 g9 (show WW.heap[D]? = some (.deferred (some []))from(d4.block D p9 (λe=>e)).trans r1.o) (QgZ a1.own oM);have c5:WW.cell? ⟨w+1,0,none⟩=some (.slice s2.a ks.length s2.c):=a1.blk.cell 0;clear l4 t7 a8 a1 g9 d4 I q0 q1 lq l0 r2;gi_loopw [] (λwr=>wr=WW) (λ_=>0)
  case atStart=>rfl
  subst hrel;have x7:=QiQ s8.o;gi_wp2_with fail;refine⟨trivial,?_⟩;refine(eD.2 c9.o).mono ?_;rintro e w5 ⟨rfl,ts,f4,f7,i1,g8,a2⟩;have b0:Sb (λb=>s2.row=some b) wr w5:=⟨a2.os,a2.tape,a2.output,a2.size,λi hi hn=>a2.block i hi λe=>hn e.symm⟩;have a4:=b0.blk b6.o.blk (λe=>by have:=(b6.o.row e).1;omega);have c6:w5.cell? ⟨w+1,0,none⟩=some (.slice s2.a ks.length s2.c):=a4.cell 0;have l6:=a4.lt;have g7:=hY (show w5.heap[D]? = some (.deferred (some []))from(b0.block D (by have:=(az.1 g3.o).1;omega) (λe=>by have:=(b6.o.row e).1;have:=HD.o;omega)).trans g3.o);have a0:=Qqc o4.o (bY _) b6.o c7.o.1 c7.o.2 f4 f7 i1 a2 (St.put (o':=.deferred none) g7.o rfl rfl).sb HD.o.symm;rw[g8]at a0;have d7:=hY a0;clear b0 a4 f4 f7 i1 g8 a2 a0;gi_wp2_with fail;refine⟨sM,.inl ⟨_,_,rfl,ft g7.o,?_⟩⟩;refine⟨.slice s2.a ks.length s2.c,?_,d7.o⟩;simp[results,results197,go_sem]
 have j2:W.ownsMap prog 9 QeO b d.C.length (mapA SV.val d.C):=by
  have:=i6.o;rw[p8.o]at this;exact this
 have i8:=hY j2;clear j2;gi_wp2_with(first |(gi_at_range;refine wpListIn_range_own _ rfl _ 181 rfl 9 192 Qe2 underlying181 QeO b d.C.length _ rfl i8.o ?_;intro w2 i5 o6 t8)|fail);have d4:Nw W w2:=Sb.made o6;obtain⟨b8,j8⟩:∃b8,Qi1 d.C xs=b8:=⟨_,rfl⟩;have a1:=d3.o.keep (d4.any (λ_=>False)) (λe=>e) (λ_ _ e=>e) (λ_ e=>e.elim);rw[j8]at a1 g0;have hs:s.row≠some W.heap.size:=λe=>by have:=(d3.o.row e).2;omega
 have v1:=hY (show Qva w1 (w.heap.size+1) W.heap.size b D d.C p b8 (Maps.has (mapA SV.val d.C)) (Maps.size (mapA SV.val d.C)) [] s w2 from
  ⟨by rw[show Qc7 d.C p []=[]from rfl,aY];exact a1,i5,Collected.start _,hs,(d4.block D p9 (λe=>e)).trans r1.o⟩)
 have s9:=hY j8;have v8:w1.heap.size<=W.heap.size:=d3.o.sb.size;clear i5 o6 t8 d4 a1 hs q0 q1 lq l0 j8;go_frame;gi_loopw [] (λwr=>∃(left:Lit->Bool) (cnt:Nat) (ss:List (List UInt8)) (s2:Sl),Qva w1 (w.heap.size+1) W.heap.size b D d.C p b8 left cnt ss s2 wr) (λwr=>wr.rangeLeft b W.heap.size)
 case atStart=>exact⟨_,_,_,_,v1.o⟩
 obtain⟨left,cnt,ss,s2,hP⟩:=hrel;have i3:=hP.rg;have r9:=Qgq hP.co;have v7:=b7.o.few;have v9:=Qpk d.C p ss;have HP:=hY hP;clear hP;gi_wp2_with(first |(gi_at_next;refine wpListIn_next_ranges _ rfl _ rfl 9 Qe2 QeO encStr id (λx0 kl hk=>by obtain⟨x,hx,_⟩:=Maps.keyOf_str underlying9 hk;exact⟨x,hx⟩) (λv _ _=>⟨v,rfl⟩) b W.heap.size _ _ _ _ rfl i3 ?_ ?_)|fail)
 ·intro v3 j6
  have d5:=HP.o.co.perm i8.o Qe2 underlying9 j6;rw[QdL]at d5;have a8:=Qqb (p:=p) b7.o.ok.sorted b7.o.sorted HS.o d5;have a1:=HP.o.col;rw[s9.o]at a8;obtain⟨ks,I⟩:∃ks,b8++Qc7 d.C p ss=ks:=⟨_,rfl⟩;have p6:ks.length<=2000000:=by rw[<-I,aj];omega
  rw[I]at a8 a1;obtain⟨c7,b6,g3,c9⟩:=Ye a8 a1 HP.o.dk (QgZ a1.own oM);have c5:wr.cell? ⟨w+1,0,none⟩=some (.slice s2.a ks.length s2.c):=a1.blk.cell 0;clear i3 d5 a8 a1 I v3 j6;gi_wp2_with fail;refine⟨trivial,?_⟩;refine(eD.2 c9.o).mono ?_;rintro e w5 ⟨rfl,ts,f4,f7,i1,g8,a2⟩;have b0:Sb (λb=>s2.row=some b) wr w5:=⟨a2.os,a2.tape,a2.output,a2.size,λi hi hn=>a2.block i hi λe=>hn e.symm⟩;have a4:=b0.blk b6.o.blk (λe=>by have:=(b6.o.row e).1;omega);have c6:w5.cell? ⟨w+1,0,none⟩=some (.slice s2.a ks.length s2.c):=a4.cell 0;have l6:=a4.lt;have g7:=hY (show w5.heap[D]? = some (.deferred (some []))from(b0.block D (by have:=(az.1 g3.o).1;omega) (λe=>by have:=(b6.o.row e).1;have:=HD.o;omega)).trans g3.o);have a0:=Qqc o4.o (bY _) b6.o c7.o.1 c7.o.2 f4 f7 i1 a2 (St.put (o':=.deferred none) g7.o rfl rfl).sb HD.o.symm;rw[g8]at a0;have d7:=hY a0;clear b0 a4 f4 f7 i1 g8 a2 a0;gi_wp2_with fail;refine⟨sM,.inl ⟨_,_,rfl,ft g7.o,?_⟩⟩;refine⟨.slice s2.a ks.length s2.c,?_,d7.o⟩;simp[results,results197,go_sem]
 intro x c kl yd yp w3 q5 j3 g5 hv l8 f6 r7 o8 v2 q4;obtain⟨x',ex,rfl,t9⟩:=Maps.keyOf_str underlying9 j3;obtain rfl:=encStr_inj ex;obtain⟨sv,j9,rfl⟩:=QsW l8 hv;have f8:Sb (λi=>i=W.heap.size) wr w3:=Sb.grown o8;have a6:=HP.o.col.keep f8 oM (λi hi e=>HP.o.ne (by rw[hi,e])) (λi e=>oM);have o2:=HP.o.co.step g5 l8;obtain⟨ks,I⟩:∃ks,b8++Qc7 d.C p ss=ks:=⟨_,rfl⟩;have p6:ks.length<=2000000:=by rw[<-I,aj];omega
 rw[I]at a6;have i4:w3.heap[D]? = some (.deferred (some [])):=(f8.block D (by have:=(az.1 HP.o.dk).1;omega) (λe=>by have:=HD.o;omega)).trans HP.o.dk;obtain⟨g4,v,sl,so⟩:=sv;obtain⟨k,hk⟩:∃k,QbL x=k:=⟨_,rfl⟩;have v6:(Instr.entry (.pointer (some ⟨W,0,none⟩))).run prog w3=.ok (.tuple #[.string k,.agg #[.bool g4,.int .i64 v.kind,.bool v.b,.int .i64 v.i,.string v.t,.slice sl.a v.l.length sl.c,.slice so.a v.ok.length so.c]]) w3:=by rw[<-hk];exact q4
 rw[hk]at j9;obtain⟨l7,j7,q9⟩:=QnP f6;have a3:∀i,s2.row=some i->w1.heap.size+2<=i/\i<w3.heap.size:=λi hi=>a6.row hi
 have d8:s2.row≠some W.heap.size:=HP.o.ne;have r3:s2.row≠some b:=λe=>by
  rcases a6.own.2 with⟨hv,-⟩ |⟨gg,x4,x8,hv,-,hc,-⟩
  ·injection hv with e1
   rw[Sl.row,e1]at e;cases e
  injection hv with e1;rw[Sl.row,e1]at e;have:gg=b:=by simpa using e
  subst this;exact q9 _ _ hc
 have t6:¬b=w.heap.size+1:=λe=>q9 _ _ (by rw[e];exact a6.blk)
 have c3:w3.cell? ⟨w+1,0,none⟩=some (.slice s2.a ks.length s2.c):=a6.blk.cell 0;have f3:w3.frozen? ⟨w+1,0,none⟩=false:=a6.blk.frozen 0;have l3:=a6.blk.lt;obtain⟨c2,v4,q3,f9,e0,e7,HK⟩:=Yh a6 o2 f6 i3 i4 I hk;obtain⟨l2,l9⟩:=Yb j9 r7;rw[show(encStr x)=Value.string k from by rw[<-hk]];clear a6 o2 f6 i3 i4 I j9 l8 hv j3 g5 o8 v2 r7 f8 t9 q4;have i7:∀(s3:Sl) (w6:World),Qdo w1 (w.heap.size+1) (b8++Qc7 d.C p (ss++[x])) s3 w6->s3.row≠some W.heap.size->w6.heap[b]? = w3.heap[b]?->w6.heap[W.heap.size]? = w3.heap[W.heap.size]?->w6.heap[D]? = w3.heap[D]?->
   Qva w1 (w.heap.size+1) W.heap.size b D d.C p b8 (λz=>left z && !z.sameKey (.string x)) q5 (ss++[x]) s3 w6:=λs3 w6 h1 h2 h3 h4 h5=>⟨h1,Qkl q3.o h3 h4,v4.o,h2,h5.trans e0.o⟩
 have g6:=hY i7;clear i7;have f0:=(fQ w3).alloc #[.bool g4,.int .i64 v.kind,.bool v.b,.int .i64 v.i,.string v.t,.slice sl.a v.l.length sl.c,.slice so.a v.ok.length so.c] 192;have p5:=hY f0;clear f0;cases g4 with
 | false=>
   have n4:Qnh d.C p (QbL x)=false:=by rw[HK.o,Qk9 l2.o];rfl
   have c1:=hY (g6.o s2 _ (by rw[Ql7 n4,e7.o];exact c2.o.ext p5.o) d8 (eN _ _ _ l7) (eN _ _ _ j7) (eN _ _ _ (az.1 e0.o).1));gi_wp2_with fail;refine⟨trivial,?_⟩;gi_wp2_with fail;go_roundw
   case rel=>exact⟨_,_,_,_,c1.o⟩
   rw[c1.o.rg.left_eq,f9.o.left_eq];exact l9.o
 | true=>
   gi_wp2_with fail;refine⟨trivial,?_⟩;refine(eD.2 (Qhl _ k p)).mono ?_;rintro e w4 ⟨rfl,rfl⟩;cases o3:Qau p k with
   | false=>
     have n4:Qnh d.C p (QbL x)=false:=by rw[HK.o,Qk9 l2.o,o3];rfl
     have c1:=hY (g6.o s2 _ (by rw[Ql7 n4,e7.o];exact c2.o.ext p5.o) d8 (eN _ _ _ l7) (eN _ _ _ j7) (eN _ _ _ (az.1 e0.o).1));gi_wp2_with fail;go_roundw
     case rel=>exact⟨_,_,_,_,c1.o⟩
     rw[c1.o.rg.left_eq,f9.o.left_eq];exact l9.o
   | true=>
     have q2:Qnh d.C p (QbL x)=true:=by rw[HK.o,Qk9 l2.o,o3];rfl
     have a5:Ext w3 ((w3.alloc (.cells #[.bool true,.int .i64 v.kind,.bool v.b,.int .i64 v.i,.string v.t,.slice sl.a v.l.length sl.c,.slice so.a v.ok.length so.c] 192)).alloc (.cells #[.string k] 9)):=((fQ w3).alloc _ _).alloc _ _;have a9:=Qab c2.o.own (a5.agree (F:=Lt w3) λb Z=>Z) λb Z=>(a3 b Z).2
     have k6:ks.length+1<=maxLen:=by unfold maxLen;omega
     have k9:(ks.length+1)*16<=140737488355328:=oM
     have c8:w1.heap.size+2<=((w3.alloc (.cells #[.bool true,.int .i64 v.kind,.bool v.b,.int .i64 v.i,.string v.t,.slice sl.a v.l.length sl.c,.slice so.a v.ok.length so.c] 192)).alloc (.cells #[.string k] 9)).heap.size:=by have:=c2.o.sz;simp;omega
     obtain⟨c4,d6⟩:=Yb a5 a9;have k7:=hY (show Blk ((w3.alloc (.cells #[.bool true,.int .i64 v.kind,.bool v.b,.int .i64 v.i,.string v.t,.slice sl.a v.l.length sl.c,.slice so.a v.ok.length so.c] 192)).alloc (.cells #[.string k] 9)) (w3.heap.size+1) 9 #[.string k]by
      have:=fU (w3.alloc (.cells #[.bool true,.int .i64 v.kind,.bool v.b,.int .i64 v.i,.string v.t,.slice sl.a v.l.length sl.c,.slice so.a v.ok.length so.c] 192)) 9 #[.string k];rwa[eB]at this)
     have t0:¬w.heap.size+1=w3.heap.size:=oM
     have p3:¬w.heap.size+1=w3.heap.size+1:=oM
     have t2:w.heap.size+1<w3.heap.size+1:=oM
     have k8:=hY ((a5.frozen (o:=0) l3).trans f3);have n2:s2.row≠some (w.heap.size+1):=λe=>by have:=(a3 _ e).1;omega
     clear a5 a9;gi_wp2_with(gi_at_builtin;refine QbS _ rfl (.tmp 53) (.tmp 55) 186 rfl (w1.heap.size+2) 9 i0 _ 1 16 underlying186 hi r4 o0 p4 rfl oN s2 ks.length (ks.map .string) rfl d6.o (λb=>b=w3.heap.size+1) ⟨some ⟨w3+1,0,none⟩,1⟩ 1 [.string k] rfl (ge k7.o oN rfl) (by simp[Value.oneCell']) k6 k9 c8 ?_;intro s3 w5 b3 a7 f2;have h5:=a7.cell0 (o:=0) c4.o n2 l3;have c5:w5.cell? ⟨w+1,0,none⟩=some (.slice s2.a ks.length s2.c):=h5.1.trans c3;have l5:=h5.2;have f5:w5.frozen? ⟨w+1,0,none⟩=false:=(a7.fz _ _).trans (k8.out);have j4:=hY b3;have k4:=hY a7;have n8:=hY f2;clear b3 a7 f2 h5);obtain⟨e1,e2,e3,e4⟩:=c2.o.snoc r8 c4.o j4.o k4.o n8.o;have o5:=(az.1 e0.o).1;have c1:=hY (g6.o s3 _ (by rw[Qpl q2,<-aQ,e7.o,HK.o];exact e1) (λe=>by
       rcases e3 _ e with h|h
       .exact d8 h
       .omega) (e2.block b l7 λe=>by
       rcases e with e|e
       .exact t6 e
       .exact r3 e) (e2.block _ j7 λe=>by
       rcases e with e|e
       .omega
       .exact d8 e) (e2.block D o5 λe=>by
       rcases e with e|e
       .have:=HD.o;omega
       have:=(a3 _ e).1;have:=HD.o;omega))
     clear e1 e2 e3 e4;gi_wp2_with fail;go_roundw
     case rel=>exact⟨_,_,_,_,c1.o⟩
     rw[c1.o.rg.left_eq,f9.o.left_eq];exact l9.o
end Go.Proofs.YtdiecmkpbadgjaaGreatDoor
namespace Go.Proofs.YtdiecmkpbadgjaaGreatDoor
open Go.Proofs.Tryz
open Go.RowKit
theorem QcO:∀(a b:List UInt8),Lib.compareBytes a b=if Op.bytesLess a b then -1 else if Op.bytesLess b a then 1 else 0
 |[],[]=>rfl
 |[],b::v=>by simp[Lib.compareBytes,Op.bytesLess]
 |a::u,[]=>by simp[Lib.compareBytes,Op.bytesLess]
 | a :: u,b :: v=>by
   simp only[Lib.compareBytes,Op.bytesLess];by_cases h1:a<b
   .simp [h1]
   by_cases h2:b<a
   ·have I:¬a=b:=fun e=>by subst e;exact h1 h2
    have N:¬b=a:=λe=>I e.symm
    simp[h1,h2,I,N]
   have I:a=b:=UInt8.le_antisymm (UInt8.not_lt.1 h2) (UInt8.not_lt.1 h1);subst I;simp[h1,QcO u v]
theorem Qe9(a b:ByteArray):Lib.compareBytes a.data.toList b.data.toList=Qbn a b:=by
 rw[QcO];unfold Qbn klt;rw[eH,eH]
theorem Qif(w:World)(a b:ByteArray):Calls prog 144 #[.string a,.string b] w λe w'=>e=.returned (.int .i64 (Qbn a b))/\w=w':=by
 rw[<-Qe9];go_in;go_wp2_with fail;rw[run_callFunc_extern func179 kM kM kM (e:=Extern.BytealgCompare.compare) kM,Lib.run_compareString];simp only[Result.andThen];rw[Oper.upon_value];go_wp2_with fail;go_ret;exact⟨rfl,rfl⟩
theorem QcB(w:World)(a b:ByteArray):Calls prog 106 #[.string a,.string b] w λe w'=>e=.returned (.int .i64 (Qbn a b))/\w=w':=by
 have h:=Qif w a b;go_in;go_wp2_with fail;refine h.mono ?_;rintro e w1 ⟨rfl,rfl⟩;go_wp2_with fail;go_ret;exact⟨rfl,rfl⟩
theorem Qsf(w:World)(b:Bool):Calls prog 104 #[.bool b] w λe w'=>e=.returned (.int .i64 (if b then 1 else 0))/\w=w':=by
 cases b
 all_goals
  go_in;go_wp2_with fail;go_ret;exact⟨rfl,rfl⟩
theorem QeQ(w:World)(a:Int):Calls prog 142 #[.int .i64 a] w λe w'=>e=.returned (.bool false)/\w=w':=by
 go_in;go_wp2_with fail;go_ret;exact⟨sM,rfl⟩
theorem Qgr(w:World)(a b:Int):Calls prog 103 #[.int .i64 a,.int .i64 b] w λe w'=>e=.returned (.int .i64 (Qcj a b))/\w=w':=by
 have a0:=QeQ w a;have Z:=QeQ w b;have I:(Qcj a b = -1/\a<b)\/(Qcj a b=1/\¬a<b/\b<a)\/(Qcj a b=0/\¬a<b/\¬b<a):=by
  unfold Qcj;split
  .exact .inl ⟨rfl,by assumption⟩
  split
  .exact .inr (.inl ⟨rfl,by assumption,by assumption⟩)
  exact .inr (.inr ⟨rfl,by assumption,by assumption⟩)
 rcases I with⟨N,h1⟩ |⟨N,h1,h2⟩ |⟨N,h1,h2⟩
 all_goals
  rw[N];clear N;go_in;go_wp2_with fail;refine a0.mono ?_;rintro e w1 ⟨rfl,rfl⟩;go_wp2_with fail;refine Z.mono ?_;rintro e w1 ⟨rfl,rfl⟩;go_wp2_with fail;go_ret;exact⟨rfl,rfl⟩
theorem Qec(w:World)(a:Int):Calls prog 143 #[.int .i64 a] w λe w'=>e=.returned (.bool false)/\w=w':=by
 go_in;go_wp2_with fail;go_ret;exact⟨sM,rfl⟩
theorem QfM(w:World)(a b:Int):Calls prog 105 #[.int .i64 a,.int .i64 b] w λe w'=>e=.returned (.int .i64 (Qcj a b))/\w=w':=by
 have a0:=Qec w a;have Z:=Qec w b;have I:(Qcj a b = -1/\a<b)\/(Qcj a b=1/\¬a<b/\b<a)\/(Qcj a b=0/\¬a<b/\¬b<a):=by
  unfold Qcj;split
  .exact .inl ⟨rfl,by assumption⟩
  split
  .exact .inr (.inl ⟨rfl,by assumption,by assumption⟩)
  exact .inr (.inr ⟨rfl,by assumption,by assumption⟩)
 rcases I with⟨N,h1⟩ |⟨N,h1,h2⟩ |⟨N,h1,h2⟩
 all_goals
  rw[N];clear N;go_in;go_wp2_with fail;refine a0.mono ?_;rintro e w1 ⟨rfl,rfl⟩;go_wp2_with fail;refine Z.mono ?_;rintro e w1 ⟨rfl,rfl⟩;go_wp2_with fail;go_ret;exact⟨rfl,rfl⟩
theorem Qfy(w:World)(a:Int):Calls prog 180 #[.int .i64 a] w λe w'=>e=.returned (.bool false)/\w=w':=by
 go_in;go_wp2_with fail;go_ret;exact⟨sM,rfl⟩
theorem Qea(w:World)(a b:Int):Calls prog 145 #[.int .i64 a,.int .i64 b] w λe w'=>e=.returned (.int .i64 (Qcj a b))/\w=w':=by
 have a0:=Qfy w a;have Z:=Qfy w b;have I:(Qcj a b = -1/\a<b)\/(Qcj a b=1/\¬a<b/\b<a)\/(Qcj a b=0/\¬a<b/\¬b<a):=by
  unfold Qcj;split
  .exact .inl ⟨rfl,by assumption⟩
  split
  .exact .inr (.inl ⟨rfl,by assumption,by assumption⟩)
  exact .inr (.inr ⟨rfl,by assumption,by assumption⟩)
 rcases I with⟨N,h1⟩ |⟨N,h1,h2⟩ |⟨N,h1,h2⟩
 all_goals
  rw[N];clear N;go_in;go_wp2_with fail;refine a0.mono ?_;rintro e w1 ⟨rfl,rfl⟩;go_wp2_with fail;refine Z.mono ?_;rintro e w1 ⟨rfl,rfl⟩;go_wp2_with fail;go_ret;exact⟨rfl,rfl⟩
def QqU(m:Nat):Prop:=∀(x y:Val),SizeOf.sizeOf x<=m->∀(w:World) (sl so sl' so':Sl),RV w (Lt w.heap.size) x sl so->RV w (Lt w.heap.size) y sl' so'->Calls prog 74 #[QbV x sl so,QbV y sl' so'] w (QbN (Qbq x y) w)
theorem Qj1(a b:Nat):∃c:Nat,(if a<b then(a:Int)else(b:Int))=(c:Int)/\(if b<a then(b:Int)else(a:Int))=(c:Int)/\c<=a/\c<=b/\(c=a\/c=b):=by
 by_cases h:a<b
 .exact ⟨a,by rw[ez h],by rw[ev oM],oM,oM,.inl rfl⟩
 by_cases I:b<a
 .exact ⟨b,by rw[ev h],by rw[ez I],oM,oM,.inr rfl⟩
 exact⟨a,by rw[ev h];omega,by rw[ev I],oM,oM,.inl rfl⟩
variable{w:World}{sl so sl' so':Sl}
theorem Qrw{m:Nat}(a6:QqU m){x y:Val}(hd:SizeOf.sizeOf x<=m+1)(h:RV w (Lt w.heap.size) x sl so)(h':RV w (Lt w.heap.size) y sl' so') :
  Calls prog 107 #[.slice sl.a x.l.length sl.c,.slice sl'.a y.l.length sl'.c,.func (.func 74) #[] #[]] w (QbN (cmpL x.l y.l) w):=by
 have HI:=hY a6;clear a6;obtain⟨k,b,i,t,l,ok,ov⟩:=x;obtain⟨k',b',i',t',l',d6,e0⟩:=y;show Calls _ _ #[.slice sl.a l.length sl.c,.slice sl'.a l'.length sl'.c,_] _ (QbN (cmpL l l') w);cases h with
 |mk bl fl bo fo cl co hl ho hov el rl ek eo ro bk bi bt nl no=>
 cases h' with
 |mk bl' fl' bo' fo' cl' co' hl' ho' hov' el' rl' ek' eo' ro' bk' bi' bt' nl' no'=>
 have a7:∀(j:Nat) (d:Val),l[j]? = some d->SizeOf.sizeOf d<=m:=λj d hj=>bu (ab (Val.QtM hj) hd)
 obtain⟨c3,c2,b9,a4,b0⟩:=Yf a7 el rl el' rl';clear a7 el rl ek eo ro hov hd el' rl' ek' eo' ro' hov';have d7:l.length<=140737488355328:=oM
 have d4:l'.length<=140737488355328:=oM
 obtain⟨mn,c1,c6,c9,d3,c7⟩:=Qj1 l.length l'.length;go_in;go_wp2_with fail;clear c1 c6;go_loopw[14] (λq wr=>∃j:Nat,q=.int .i64 j/\j<=mn/\cmpL l l'=cmpL (l.drop j) (l'.drop j)/\Ext w wr) (λq _=>mn -(intOf q).toNat)
 case atStart=>exact⟨0,rfl,aD _,rfl,fQ w⟩
 obtain⟨j,rfl,hj,hp,hx⟩:=hrel;obtain⟨HP,HX⟩:=Yb hp hx;by_cases h1:j<mn
 ·have g1:(j:Int)<(mn:Int):=oM
  have g2:(j:Int)<(l.length:Int):=oM
  have g3:(j:Int)<(l'.length:Int):=oM
  obtain⟨d,hd⟩:∃d,l[j]? = some d:=⟨_,ac oM⟩;obtain⟨d',a2⟩:∃d,l'[j]? = some d:=⟨_,ac oM⟩;have HD:=hY (Qjj hd a2);have a1:Agree (Lt w.heap.size) w wr:=hx.agree λ_ h=>h
  obtain⟨sa,sc⟩:=sl;obtain⟨d8,e1⟩:=sl';obtain⟨rfl,d5,a9⟩:=hl.eq oM;obtain⟨rfl,c8,d0⟩:=hl'.eq oM;have a3:=hl.fits oM;have a0:=hl'.fits oM;obtain⟨v0,v1,v2,v3,v4,v5⟩:=(c2.o j d hd).agree a1 a3;obtain⟨b5,a8,b4,b3,a5,b8⟩:=(a4.o j d' a2).agree a1 a0;have c4:=hY (λ(W:World) (N:Ext wr W)=>
   HI.o d d' (c3.o j d hd) W _ _ _ _ (((b9.o j d hd).agree (a1.trans (N.agree λ_ h=>ab h hx.size))).mono λi hi=>ab hi (ak hx.size N.size))
    (((b0.o j d' a2).agree (a1.trans (N.agree λ_ h=>ab h hx.size))).mono λi hi=>ab hi (ak hx.size N.size)))
  have lb:bl<wr.heap.size:=ab a3 hx.size;have Z:bl'<wr.heap.size:=ab a0 hx.size;have I:=hY (show ∀W,Ext wr W->W.cell? ⟨bl,fl+j*6,none⟩=some (.int .i64 d.kind)/\W.cell? ⟨bl,fl+j*6+1,none⟩=some (.bool d.b)/\W.cell? ⟨bl,fl+j*6+2,none⟩=some (.int .i64 d.i)/\W.cell? ⟨bl,fl+j*6+3,none⟩=some (.string d.t)/\W.cell? ⟨bl,fl+j*6+4,none⟩=some (.slice (cl j).1.a d.l.length (cl j).1.c)/\W.cell? ⟨bl,fl+j*6+5,none⟩=some (.slice (cl j).2.a d.ok.length (cl j).2.c)/\W.cell? ⟨bl',fl'+j*6,none⟩=some (.int .i64 d'.kind)/\W.cell? ⟨bl',fl'+j*6+1,none⟩=some (.bool d'.b)/\W.cell? ⟨bl',fl'+j*6+2,none⟩=some (.int .i64 d'.i)/\W.cell? ⟨bl',fl'+j*6+3,none⟩=some (.string d'.t)/\W.cell? ⟨bl',fl'+j*6+4,none⟩=some (.slice (cl' j).1.a d'.l.length (cl' j).1.c)/\W.cell? ⟨bl',fl'+j*6+5,none⟩=some (.slice (cl' j).2.a d'.ok.length (cl' j).2.c)from
   λW N=>⟨(N.cell lb).trans v0,(N.cell lb).trans v1,(N.cell lb).trans v2,(N.cell lb).trans v3,(N.cell lb).trans v4,(N.cell lb).trans v5,(N.cell Z).trans b5,(N.cell Z).trans a8,(N.cell Z).trans b4,(N.cell Z).trans b3,(N.cell Z).trans a5,(N.cell Z).trans b8⟩)
  clear hp hx hd a2 a1 a3 a0 v0 v1 v2 v3 v4 v5 b5 a8 b4 b3 a5 b8;go_wp2_with fail;refine eF (S:=(λw'=>Ext wr w')) kM (((fQ wr).drew)) (λhHeld=>?_);refine Qaf 0 (some 17) I hHeld ?_;refine Qaf 1 (some 18) I hHeld ?_;refine Qaf 2 (some 19) I hHeld ?_;refine Qaf 3 (some 20) I hHeld ?_;refine Qaf 4 (some 21) I hHeld ?_;refine Qaf 5 (some 22) I hHeld ?_;refine Qaf 6 (some 23) I hHeld ?_;refine Qaf 7 (some 24) I hHeld ?_;refine Qaf 8 (some 25) I hHeld ?_;refine Qac (i:=9) kM rfl (by rfl) (λK hK=>?_);go_simp
  (refine(c4.o _ hHeld).mono ?_;rintro e w2 ⟨rfl,b6⟩)
  refine hK.out _ _ (hHeld.trans b6) (λhHeld=>?_);clear hK K
  try go_frame
  refine Qaf 10 (some 8) I hHeld ?_;refine eJ kM ?_ _;have b7:=hY (HX.o.trans hHeld);clear hHeld b6;by_cases hc:Qbq d d'=0
  ·have c0:(Qbq d d' != 0)=false:=by simp [hc]
   have HC:=hY hc;clear hc;go_wp2_with fail;go_roundw
   case rel=>exact⟨j+1,by go_num,h1,by rw[HP.o,HD.o,ev (by simp[HC.o])],b7.o⟩
   simp[intOf];omega
  have c0:(Qbq d d' != 0)=true:=eT.2 hc;have HC:=hY hc;clear hc;go_wp2_with fail;go_ret;rw[HP.o,HD.o,ez HC.o];exact⟨rfl,b7.o⟩
 have g1:¬(j:Int)<(mn:Int):=oM
 have HE:=hY (Qid (l:=l) (l':=l') (j:=j) oM oM oM);have a9:=Qea wr (l.length:Int) (l'.length:Int);clear hp hx;go_wp2_with fail;refine a9.mono ?_;rintro e w2 ⟨rfl,rfl⟩;go_wp2_with fail;go_ret;rw[HP.o,HE.o];exact⟨rfl,HX.o⟩
def QrQ(x y:ByteArray)(d d':Val):Int:=if Qbn x y≠0 then Qbn x y else Qbq d d'
variable{j:Nat}
theorem Qm2{l l':List Val}{k k':List ByteArray}{a b:Val}{x y:ByteArray}(ha:l[j]? = some a)(Z:l'[j]? = some b)(N:k[j]? = some x)(I:k'[j]? = some y) :
  Qe5 (l.drop j) (k.drop j) (k'.drop j) (l'.drop j)=if QrQ x y a b≠0 then QrQ x y a b else Qe5 (l.drop (j+1)) (k.drop (j+1)) (k'.drop (j+1)) (l'.drop (j+1)):=by
 rw[Qjk ha Z N I];unfold QrQ;by_cases h:Qbn x y=0<;>simp[h]
abbrev QvC(k:ByteArray)(d:Val)(sl so:Sl):Value:=.agg #[.string k,.int .i64 d.kind,.bool d.b,.int .i64 d.i,.string d.t,.slice sl.a d.l.length sl.c,.slice so.a d.ok.length so.c]
theorem Qlh{m:Nat}(N:QqU m){d d':Val}(hd:SizeOf.sizeOf d<=m){x y:ByteArray}(h:RV w (Lt w) d sl so)(h':RV w (Lt w) d' sl' so') :
  Calls prog 109 #[QvC x d sl so,QvC y d' sl' so'] w (QbN (QrQ x y d d') w):=by
 obtain⟨a1,HT⟩:=Yb (λ(W:World) (hW:Ext w W)=>N d d' hd W _ _ _ _ ((h.agree (hW.agree λ_ h=>h)).mono λi hi=>ab hi hW.size) ((h'.agree (hW.agree λ_ h=>h)).mono λi hi=>ab hi hW.size)) (λW=>QcB W x y);clear N h h' hd;by_cases I:Qbn x y=0
 ·have Z:QrQ x y d d'=Qbq d d':=by simp [QrQ,I]
  have a0:(Qbn x y != 0)=false:=by simp[I]
  rw[Z];clear Z I;go_in;go_wp2_with fail;refine(HT.o _).mono ?_;rintro e w1 ⟨rfl,rfl⟩;go_wp2_with fail;refine(a1.o _ (((fQ w).alloc _ _).alloc _ _)).mono ?_;rintro e w1 ⟨rfl,hx⟩;have HX:=hY ((((fQ w).alloc _ _).alloc _ _).trans hx);clear hx;go_wp2_with fail;go_ret;exact⟨rfl,HX.o⟩
 have Z:QrQ x y d d'=Qbn x y:=by simp[QrQ,I]
 have a0:(Qbn x y != 0)=true:=eT.2 I;rw[Z];clear Z I;go_in;go_wp2_with fail;refine(HT.o _).mono ?_;rintro e w1 ⟨rfl,rfl⟩;go_wp2_with fail;go_ret;exact⟨rfl,((fQ w).alloc _ _).alloc _ _⟩
theorem Qrv{m:Nat}(b6:QqU m){x y:Val}(hd:SizeOf.sizeOf x<=m+1)(h:RV w (Lt w.heap.size) x sl so)(h':RV w (Lt w.heap.size) y sl' so') :
  Calls prog 108 #[.slice so.a x.ok.length so.c,.slice so'.a y.ok.length so'.c,.func (.func 109) #[] #[]] w (QbN (Qe5 x.ov x.ok y.ok y.ov) w):=by
 have HI:=hY b6;clear b6;obtain⟨k,b,i,t,l,ok,ov⟩:=x;obtain⟨k',b',i',t',l',I,a5⟩:=y;show Calls _ _ #[.slice so.a ok.length so.c,.slice so'.a I.length so'.c,_] _ (QbN (Qe5 ov ok I a5) w);cases h with
 |mk bl fl bo fo cl co hl ho hov el rl ek eo ro bk bi bt nl no=>
 cases h' with
 |mk bo' fo' bo' fo' cl' co' hl' ho' hov' el' rl' ek' eo' ro' bk' bi' bt' nl' no'=>
 have b7:∀(j:Nat) (d:Val),ov[j]? = some d->SizeOf.sizeOf d<=m:=λj d hj=>bu (ab (Val.QtN hj) hd)
 obtain⟨d4,d7,d5,b4,c2,d3,b0⟩:=Yh b7 eo ro eo' ro' ek ek';obtain⟨a8,a3⟩:=Yb hov hov';clear b7 el rl ek eo ro hov hd el' rl' ek' eo' ro' hov';have e8:ok.length<=140737488355328:=oM
 have e6:I.length<=140737488355328:=oM
 obtain⟨mn,d6,d8,e2,e4,e0⟩:=Qj1 ok.length I.length;go_in;go_wp2_with fail;clear d6 d8;go_loopw[14] (λq wr=>∃j:Nat,q=.int .i64 j/\j<=mn/\Qe5 ov ok I a5=Qe5 (ov.drop j) (ok.drop j) (I.drop j) (a5.drop j)/\Ext w wr) (λq _=>mn -(intOf q).toNat)
 case atStart=>exact⟨0,rfl,aD _,rfl,fQ w⟩
 obtain⟨j,rfl,hj,hp,hx⟩:=hrel;obtain⟨HP,HX⟩:=Yb hp hx;by_cases h1:j<mn
 ·have g1:(j:Int)<(mn:Int):=oM
  have g2:(j:Int)<(ok.length:Int):=oM
  have g3:(j:Int)<(I.length:Int):=oM
  obtain⟨d,hd⟩:∃d,ov[j]? = some d:=⟨_,ac (by rw[a8.o];omega)⟩;obtain⟨x,a9⟩:∃d,ok[j]? = some d:=⟨_,ac oM⟩;obtain⟨x',a4⟩:∃d,I[j]? = some d:=⟨_,ac oM⟩;obtain⟨d',a7⟩:∃d,a5[j]? = some d:=⟨_,ac (by rw[a3.o];omega)⟩;have HD:=hY (Qm2 hd a7 a9 a4);have a0:Agree (Lt w.heap.size) w wr:=hx.agree λ_ h=>h
  obtain⟨sa,sc⟩:=so;obtain⟨f0,f1⟩:=so';obtain⟨rfl,e7,b9⟩:=ho.eq oM;obtain⟨rfl,e1,e3⟩:=ho'.eq oM;have a6:=ho.fits oM;have a2:=ho'.fits oM;obtain⟨v0,v1,v2,v3,v4,v5⟩:=(d7.o j d hd).agree a0 a6;obtain⟨c4,b8,c3,c0,b3,c9⟩:=(b4.o j d' a7).agree a0 a2;have kx:=(a0.cell a6).trans (d3.o j x a9).1;have c1:=(a0.cell a2).trans (b0.o j x' a4).1;obtain⟨c,b5⟩:∃c,QrQ x x' d d'=c:=⟨_,rfl⟩;have c7:=hY (λ(W:World) (Z:Ext wr W)=>
   Qlh HI.o (d4.o j d hd) (x:=x) (y:=x') (((d5.o j d hd).agree (a0.trans (Z.agree λ_ h=>ab h hx.size))).mono λi hi=>ab hi (ak hx.size Z.size))
    (((c2.o j d' a7).agree (a0.trans (Z.agree λ_ h=>ab h hx.size))).mono λi hi=>ab hi (ak hx.size Z.size)))
  have lb:bo<wr.heap.size:=ab a6 hx.size;have a1:bo'<wr.heap.size:=ab a2 hx.size;have N:=hY (show ∀W,Ext wr W->W.cell? ⟨bo,fo+j*7,none⟩=some (.string x)/\W.cell? ⟨bo,fo+j*7+1,none⟩=some (.int .i64 d.kind)/\W.cell? ⟨bo,fo+j*7+2,none⟩=some (.bool d.b)/\W.cell? ⟨bo,fo+j*7+3,none⟩=some (.int .i64 d.i)/\W.cell? ⟨bo,fo+j*7+4,none⟩=some (.string d.t)/\W.cell? ⟨bo,fo+j*7+5,none⟩=some (.slice (co j).1.a d.l.length (co j).1.c)/\W.cell? ⟨bo,fo+j*7+6,none⟩=some (.slice (co j).2.a d.ok.length (co j).2.c)/\W.cell? ⟨bo',fo'+j*7,none⟩=some (.string x')/\W.cell? ⟨bo',fo'+j*7+1,none⟩=some (.int .i64 d'.kind)/\W.cell? ⟨bo',fo'+j*7+2,none⟩=some (.bool d'.b)/\W.cell? ⟨bo',fo'+j*7+3,none⟩=some (.int .i64 d'.i)/\W.cell? ⟨bo',fo'+j*7+4,none⟩=some (.string d'.t)/\W.cell? ⟨bo',fo'+j*7+5,none⟩=some (.slice (co' j).1.a d'.l.length (co' j).1.c)/\W.cell? ⟨bo',fo'+j*7+6,none⟩=some (.slice (co' j).2.a d'.ok.length (co' j).2.c)from
   λW Z=>⟨(Z.cell lb).trans kx,(Z.cell lb).trans v0,(Z.cell lb).trans v1,(Z.cell lb).trans v2,(Z.cell lb).trans v3,(Z.cell lb).trans v4,(Z.cell lb).trans v5,(Z.cell a1).trans c1,(Z.cell a1).trans c4,(Z.cell a1).trans b8,(Z.cell a1).trans c3,(Z.cell a1).trans c0,(Z.cell a1).trans b3,(Z.cell a1).trans c9⟩)
  rw[b5]at HD c7;clear b5 kx c1 a9 a4 hp hx hd a7 a0 a6 a2 v0 v1 v2 v3 v4 v5 c4 b8 c3 c0 b3 c9;go_wp2_with fail;refine eF (S:=(λw'=>Ext wr w')) kM (((fQ wr).drew)) (λhHeld=>?_);refine Qaf 0 (some 17) N hHeld ?_;refine Qaf 1 (some 18) N hHeld ?_;refine Qaf 2 (some 19) N hHeld ?_;refine Qaf 3 (some 20) N hHeld ?_;refine Qaf 4 (some 21) N hHeld ?_;refine Qaf 5 (some 22) N hHeld ?_;refine Qaf 6 (some 23) N hHeld ?_;refine Qaf 7 (some 24) N hHeld ?_;refine Qaf 8 (some 25) N hHeld ?_;refine Qac (i:=9) kM rfl (by rfl) (λK hK=>?_);go_simp
  (refine(c7.o _ hHeld).mono ?_;rintro e w2 ⟨rfl,c6⟩)
  refine hK.out _ _ (hHeld.trans c6) (λhHeld=>?_);clear hK K
  try go_frame
  refine Qaf 10 (some 8) N hHeld ?_;refine eJ kM ?_ _;have c8:=hY (HX.o.trans hHeld);clear hHeld c6;by_cases hc:c=0
  ·have d0:(c != 0)=false:=by simp [hc]
   have HC:=hY hc;clear hc;go_wp2_with fail;go_roundw
   case rel=>exact⟨j+1,by go_num,h1,by rw[HP.o,HD.o,ev (by simp[HC.o])],c8.o⟩
   simp[intOf];omega
  have d0:(c != 0)=true:=eT.2 hc;have HC:=hY hc;clear hc;go_wp2_with fail;go_ret;rw[HP.o,HD.o,ez HC.o];exact⟨rfl,c8.o⟩
 have g1:¬(j:Int)<(mn:Int):=oM
 have HE:=hY (Qie (l:=ov) (l':=a5) (k:=ok) (k':=I) (j:=j) (by rw[a8.o,a3.o];omega) (by rw[a8.o];omega) (by rw[a3.o];omega));have b9:=Qea wr (ok.length:Int) (I.length:Int);clear hp hx;go_wp2_with fail;refine b9.mono ?_;rintro e w2 ⟨rfl,rfl⟩;go_wp2_with fail;go_ret;rw[HP.o,HE.o,a8.o,a3.o];exact⟨rfl,HX.o⟩
end Go.Proofs.YtdiecmkpbadgjaaGreatDoor
