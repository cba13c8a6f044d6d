/- What the theorem needs of the texts OwnO, FitV, MuP, ScanP, ScanW, ScanR, ScanT, ScanK, ScanQ, KeysEnd, ScanX, Known08, OvSort, OvPre, MuM, TrodB: no condition of its own. -/
import Derived.Test.YtkjkafgnnoidpaaGreatDoorPgf
set_option linter.unusedVariables false
set_option linter.unusedSimpArgs false
set_option linter.unnecessarySimpa false
set_option maxRecDepth 100000
set_option maxHeartbeats 4000000
namespace Go.Proofs.YtkjkafgnnoidpaaGreatDoor
open Go.Proofs.Tryz
open Go.RowKit Go.Maps Go.Shelf
attribute [local go_sem] Oper.semAt_some
structure OI(w:World)(B:Nat)(a b:Value)(n:Nat)(ok:List ByteArray)(ov:List Val)(pre:List ME)(W:World):Prop where
 blk:Blk W B 160 (wrC a b (n+1+(Qeq ok (ov.take pre.length)+(pre.length-1))))
 sb:Sb (λc=>c=B) w W
 box:Blk W w.heap.size 163 #[.pointer (some ⟨B,0,none⟩)]
variable{w W W':World}{B n:Nat}
theorem OI.nw{a b:Value}{ok:List ByteArray}{ov:List Val}{pre:List ME}(h:OI w B a b n ok ov pre W)(k:Nw W W'):OI w B a b n ok ov pre W':=⟨k.blk h.blk,h.sb.trans (k.any _),k.blk h.box⟩
theorem OI.turn{B x:Nat}{a b:Value}{ok:List ByteArray}{ov:List Val}{pre:List ME}(h:OI w B a b n ok ov pre W)(k:Sb (λi=>i=x) W W')(D:w.heap.size<x)(z:B<w.heap.size):OI w B a b n ok ov pre W':=
 ⟨k.blk h.blk (by omega),h.sb.comp k (λi hi e=>by have e:i=x:=e;omega),k.blk h.box (by omega)⟩
theorem QlT:∀(ks:List ByteArray) (l:List Val),l.length=ks.length->ks.length<=QfR ks l
 |[],_,_=>av _
 |k::ks,[],h=>by cases h
 | k :: ks,d :: r,h=>by
   have:=QlT ks r (by simpa using h);rw[QfR,bV,az];omega
variable{ks:List ByteArray}
theorem QmX{l:List Val}:Qeq ks (l.take 0)=0:=by cases ks<;>simp[Qeq]
variable{F:Nat->Prop}{V:Nat}{sl so:Sl}
theorem Qrm{P:Val->Prop}(hI:Qt9 P){bo:Bool}{i:Int}{t:ByteArray}{l:List Val}{ok:List ByteArray}{ov:List Val}{a b:Value} 
  (hP:∀(j:Nat) (d:Val),ov[j]? = some d->P d) (hc:QfR ok ov<=1100000)
  (hV:Blk w V 28 #[.int .i64 6,.bool bo,.int .i64 i,.string t,.slice sl.a l.length sl.c,.slice so.a ok.length so.c]) (h:RV w F (.mk 6 bo i t l ok ov) sl so) (hF:∀i,F i->i<w/\i≠B) (f9:V≠B) (hB:Blk w B 160 (wrC a b n)) (hn:n+(2+Qeq ok ov+(ov.length-1))<=9000000) (hL:Qb9 w) (h6:6<=B) :
  Calls prog 166 #[.pointer (some ⟨B,0,none⟩),.pointer (some ⟨V,0,none⟩)] w λe w'=>(∃r,e=.returned r)/\Blk w' B 160 (wrC a b (n+(2+Qeq ok ov+(ov.length-1))))/\Sb (λc=>c=B) w w':=by
 cases h with
 |mk bl fl bo' fo cl co hl ho hov el rl ek eo ro bk bi bt nl no=>
 have b5:MOk w F so ok ov:=⟨⟨bo',fo,co,ho,ek,eo,ro⟩,hov,λk hk=>by
  obtain⟨j,hj⟩:=List.mem_iff_getElem?.1 hk;have f6:=(ah.1 hj).1;have:=QdG (ac (l:=ov) (i:=j) (by omega)) hj;omega⟩
 have k6:ok.length<=1100000:=by
  have:=QlT ok ov hov;omega
 have l8:=hV.lt;have e6:=hB.lt;have g9:=hY b5;have HV:=hY hV;have HF:=hY hF;have HB:=hY hB;have e8:=hY hL;have HI:=hY hI;have HP:=hY hP;have HC:=hY hc;have HN:=hY hn;have i2:=hY hov;clear b5 hV hF hB hL hI hP hc hn el rl ek eo ro hl ho bk bi bt nl no hov;refine(eC (n:=6)).1 ?_;refine callsIn_of_wp_marks func166 rfl trivial ?_ rfl;simp only[ntmps166,List.size_toArray,List.length_cons,List.length_nil,Nat.reduceAdd,Nat.reduceSub,Array.replicate_succ,Array.replicate_zero,List.push_toArray,List.append_toArray,List.nil_append,List.cons_append];gi_wp2_with fail;generalize a5:w.alloc (.cells #[.pointer (some ⟨B,0,none⟩)] _)=W0;have d0:Ext w W0:=by rw[<-a5];exact(fu w).alloc _ _
 have j6:W0.heap.size=w.heap.size+1:=by rw[<-a5];simp
 have g5:Blk W0 w.heap.size 163 #[.pointer (some ⟨B,0,none⟩)]:=by rw[<-a5];exact fx w _ _
 have e0:=Qcz (w:=W0) ⟨#[123]⟩ (HB.o.ext d0) (by have:=HN.o;show n+1<=_;omega);rw[j6]at e0;have g7:=hY e0;have i5:=hY d0;have j0:=hY g5;clear a5 e0 d0 g5;refine⟨trivial,?_⟩;refine(eC.2 g7.o).mono ?_;rintro e w1 ⟨⟨r,rfl⟩,g0,b0⟩;have L:=(i5.o.sb (λc=>c=B)).trans b0;obtain⟨q0,q1,q2,q3,q4,q5⟩:=(L.blk HV.o f9).c6;have lq:=(L.blk HV.o f9).lt;have b8:=b0.blk j0.o (by omega);have i8:=hY g0;have j4:=hY L;have f5:=hY b8;have l0:=b0.size;clear g0 b0 L b8 g7;gi_wp2_with fail;refine⟨trivial,?_⟩;refine(eC.2 (Qrd w1 so.a ok.length so.c)).mono ?_;rintro e w2 ⟨rfl,U,c4⟩;have Z:=j4.o.ext U;have b3:Agree F w w2:=λx hx=>Z.block x (HF.o x hx).1 (HF.o x hx).2
 have d4:Qb9 w2:=e8.o.sb Z λc hc e=>by have e:c=B:=e;omega
 have d8:∀b,F b->b<w2:=λb z=>ab (HF.o b z).1 Z.size
 have c2:OI w B a b n ok ov [] w2:=⟨by have:=i8.o.ext U;rw[show([]:List ME).length=0 from rfl,QmX];exact this,Z,f5.o.ext U⟩;have k8:=U.size;have k5:=c4.lt;have k7:=d4.lib.big;have k1:=hY (Qre c4 (g9.o.agree b3) d8 d4 (by omega));have e7:=hY c2;have N:=hY d8;clear U c4 Z b3 d4 d8 c2 q0 q1 q2 q3 q4 q5;gi_wp2_with fail;refine Qhn (gf:=208) (lb:=#[.pointer (some ⟨w1,0,none⟩)]) rfl (eO func208 (by kernel_rfl) rfl) k1.o (Agree.refl _) (an _)
  (λb z=>by
    rcases z with z|rfl|z
    .exact N.o b z
    .omega
    omega) (λ_=>rfl) (OI w B a b n ok ov) (λ_ _ _=>False)
  (λh k hl l4=>h.turn k (by omega) e6) (λh _ _ _=>h) (λW hW hz=>e7.o.nw (fv hW)) ?round ?done ?stop
 case stop=>
  rintro D c pre W hD l2 hX a8;exact hX.elim
 case round=>
  rintro pre x n2 W1 hI l5 a0 hG;obtain⟨tx,d,Vx,a7,a9⟩:=x;obtain⟨⟨k,hk,hd,c7⟩,a6,d5,e4⟩:=hG;dsimp only at hd c7 a6 d5 e4;have f6:=(ah.1 hk).1;have f0:=hY (hI.nw a0);have hcut:=Qgg ok ov (pre.length+1);have i6:=QgR hd hk;have f4:=Qif pre.length;have j5:tx.size=(QkE pre.length).size+(Qa6 k).size:=by rw[c7,aJ]
  have i0:=i2.o;have j9:=HN.o;have c3:n+1+(Qeq ok (ov.take pre.length)+(pre.length-1))+tx.size+1+Qdy d<=9000000:=by omega
  have a2:n+1+(Qeq ok (ov.take (pre.length+1))+(pre.length+1-1))=n+1+(Qeq ok (ov.take pre.length)+(pre.length-1))+tx.size+1+Qdy d:=by omega
  have g4:cntV d<=1100000:=by have:=QdG hd hk;have:=HC.o;omega
  have j7:=hY (HP.o _ d hd);have j1:=hY g4;have c1:=hY c3;have d6:=hY a2;have f8:=hY a6;have f3:=hY d5;have k4:=a0.size;have n4:=a6.lt;have l9:=Qfk d.kind;clear hI a0 hk hd c7 a6 d5 hcut i6 f4 j5 i0 j9 c3 a2 g4 f6;gi_wp2_with fail;refine⟨fB _ _,λW3 k3 k0 f7 f1=>?_⟩;have X:=f0.o.turn k3 (by omega) e6;have p0:W3.cell? ⟨w,0,none⟩=some (.pointer (some ⟨B,0,none⟩)):=X.box.cell 0;have lp:=X.box.lt;have l6:=k3.size;have b7:=k3.blk f8.o (by omega);have c0:RV W3 F d a7 a9:=f3.o.agree λb z=>k3.block b (by have:=N.o b z;omega) (λe=>by have e:b=_:=e;have:=N.o b z;omega)
  have i1:=QqU (w:=W3) tx ⟨#[58]⟩ X.blk (by have:=c1.o;show _+1<=_;omega);have a1:=hY X;have g6:=hY b7;have g3:=hY c0;have k2:=hY i1;have k9:=hY f7;have l3:=hY f1;clear k3 k0 f7 f1 X b7 c0 i1 f0 f8 f3;gi_wp2_with fail;refine⟨trivial,?_⟩;refine(Qax k2.o).mono ?_;rintro e w5 ⟨⟨r5,rfl⟩,i3,I⟩;have p5:w5.cell? ⟨w,0,none⟩=some (.pointer (some ⟨B,0,none⟩)):=(I.blk a1.o.box (by omega)).cell 0;have l7:=(I.blk a1.o.box (by omega)).lt;have l1:=I.size;have b6:=a1.o.sb.trans I;have a3:=HI.o d j7.o j1.o w5 F Vx B a7 a9 a b _ (I.blk g6.o (by omega)) (g3.o.agree λb z=>I.block b (by have:=N.o b z;omega) (HF.o b z).2) (λi hi=>⟨by have:=N.o i hi;omega,(HF.o i hi).2⟩) (by omega) i3 (by have:=c1.o;exact this) (e8.o.sb b6 λc hc e=>by have e:c=B:=e;omega) h6;have c9:=hY a3;have i4:=hY I;clear i3 I b6 a3 p0;gi_wp2_with fail;refine⟨trivial,?_⟩;refine(Qax c9.o).mono ?_;rintro e w6 ⟨⟨r6,rfl⟩,a4,R⟩;have J:=i4.o.trans R;have e3:=hY (show OI w B a b n ok ov (pre++[⟨tx,d,Vx,a7,a9⟩]) w6/\Agree (λb=>(F b\/b=w1.heap.size\/b<6)\/b=w2.heap.size\/b=w2.heap.size+1) W3 w6/\W3.heap.size<=w6.heap.size from
   ⟨⟨by rw [ai,show [(⟨tx,d,Vx,a7,a9⟩:ME)].length=1 from rfl,d6.o];exact a4,a1.o.sb.trans J,J.blk a1.o.box (by omega)⟩,
     λb z=>J.block b (by
      rcases z with(z|rfl|z)|rfl|rfl
      .have:=N.o b z;omega
      all_goals omega) (λe=>by
      have e:b=B:=e;rcases z with(z|rfl|z)|rfl|rfl
      .exact (HF.o b z).2 e
      all_goals omega),J.size⟩)
  clear a4 R J;gi_wp2_with fail;exact e3.o
 rintro D xs W hD hS hI a8;have f2:xs.length=ok.length:=hS;have Y:=hI.blk;rw[f2,<-i2.o,aP]at Y;have p0:W.cell? ⟨w,0,none⟩=some (.pointer (some ⟨B,0,none⟩)):=hI.box.cell 0;have lp:=hI.box.lt;have e2:=Qcz (w:=W) ⟨#[125]⟩ Y (by have:=HN.o;show _+1<=_;omega);have i9:=hY e2;have i7:=hY hI;have j2:=hY a8;have c8:=hY hD;have lD:=(aA.1 a8).1;clear e2 hI a8 hD hS f2 Y;gi_wp2_with fail;refine⟨trivial,?_⟩;refine(eC.2 i9.o).mono ?_;rintro e w6 ⟨⟨r6,rfl⟩,a4,R⟩;have d3:w6.heap[D]? = some (.deferred (some [])):=(R.block D lD (λe=>by have e:D=B:=e;have:=c8.o;omega)).trans j2.o;have d7:=(St.put (o':=.deferred none) d3 rfl rfl).sb;have b4:=d7.blk a4 (by have:=c8.o;omega);have g8:Sb (λc=>c=B) w _:=(i7.o.sb.trans R).comp d7 (λi hi e=>by have e:i=D:=e;have:=c8.o;omega);have j3:=hY d3;have e1:=hY b4;have j8:=hY g8;clear a4 R d3 d7 b4 g8;gi_wp2_with fail;refine⟨by simp,.inl ⟨_,_,rfl,ft j3.o,?_⟩⟩;refine⟨.tuple #[],?_,⟨_,rfl⟩,by rw[show n+(2+Qeq ok ov+(ov.length-1))=n+1+(Qeq ok ov+(ov.length-1))+1 by omega];exact e1.o,j8.o⟩;simp[results,results166,go_sem]
theorem QtY(m:Nat):Qt9 (λd=>SizeOf.sizeOf d<=m):=by
 induction m with
 |zero=>intro d hd;have:=Val.Qb7 d;omega
 |succ m ih=>
 intro d hd hc w F V B sl so a b n R h hF N J z Y h6;have X:=h;obtain⟨k,bo,i,t,l,ok,ov⟩:=d;cases h with
 |mk bl fl bo' fo cl co hl ho hov el rl ek eo ro bk bi bt nl no=>
 unfold cntV at hc;unfold Qdy at z;unfold QrQ Qdy;show Calls _ (fnO k) (_++bsO k V) _ _;by_cases h2:k=2
 ·subst h2
  rw[em rfl]at z;exact(Qri R J (by omega)).mono λe w' h=>by rw[em rfl];exact h
 by_cases I:k=3
 ·subst I
  simp only[if_neg h2,if_pos]at z ⊢;exact Qrj R J (by simp[Lit.wf,IntKind.min,IntKind.max,IntKind.signed,IntKind.bits]at bi;omega) (by simp[Lit.wf,IntKind.min,IntKind.max,IntKind.signed,IntKind.bits]at bi;omega) (by omega) Y
 by_cases L:k=4
 ·subst L
  simp only[if_neg h2,if_neg I,if_pos]at z ⊢;exact Qrk R J (by omega) (by omega) Y
 by_cases U:k=5
 ·subst U
  simp only[if_neg h2,if_neg I,if_neg L,if_pos]at z ⊢;exact Qrl ih (λj d Z=>bq (ab (Val.Qqm Z) hd)) (by omega) R X hF N J z Y h6
 by_cases D:k=6
 ·subst D
  simp only[if_neg h2,if_neg I,if_neg L,if_neg U,if_pos]at z ⊢;exact Qrm ih (λj d Z=>bq (ab (Val.Qqn Z) hd)) (by omega) R X hF N J z Y h6
 simp only[if_neg h2,if_neg I,if_neg L,if_neg U,if_neg D]at z ⊢;have hf:fnO k=168:=by simp[fnO,h2,I,L,U,D]
 have hb:bsO k V=#[]:=by simp[bsO,h2,I,L,U,D]
 rw[hf,hb];exact Qrn J (by omega)
end Go.Proofs.YtkjkafgnnoidpaaGreatDoor
namespace Go.Proofs.YtkjkafgnnoidpaaGreatDoor
open Go.Proofs.Tryz
open Go.RowKit Go.Maps Go.Shelf
variable{w:World}{sl so:Sl}
theorem Qob{d:Val}(h:RV w (Lt w) d sl so)(hc:cntV d<=1100000)(hL:Qb9 w):Calls prog 68 #[aggV d sl so] w λe w'=>e=.returned (.int .i64 (Qdy d:Int))/\Nw w w':=by
 have N:=Qgh _ w d sl so h;have h6:=hL.lib.big;have HH:=hY h;have HC:=hY hc;have HL:=hY hL;have a6:=hY N;clear h hc hL N;go_in;go_wp2_with fail;generalize Y:World.alloc _ _=W0;obtain⟨R,a3,a2,X⟩:=Qap w _ _ _ _ W0 Y;have a4:=hY R;have a5:=hY X;clear Y R a2 X;refine(QkY W0 d sl so).mono ?_;rintro e w1 ⟨rfl,I,J⟩;rw[a3]at J;have U:=a5.o.ext I;have D:=(fv a4.o).trans (fv I);have z:=QtY _ d (an _) HC.o w1 (Lt w) (w.heap.size+2) (w.heap.size+1) sl so _ _ 0 J (HH.o.agree (fC D λb Z=>Z)) (λi hi=>⟨Nat.lt_of_lt_of_le hi D.size,by have hi:i<w:=hi;omega⟩) (by omega) U (by have:=a6.o;have:=HC.o;omega) (HL.o.nw D) (by omega);have L:=hY z;have a1:=hY D;have a7:=Qfk d.kind;clear I J U D z;go_wp2_with fail;refine L.o.mono ?_;rintro e w2 ⟨⟨r,rfl⟩,Z,hs⟩;have c3:w2.cell? ⟨w+1,3,none⟩=some (.int .i64 ((0+Qdy d:Nat):Int)):=Z.cell 3;rw[aB]at c3;have a0:=hY (a1.o.comp hs λi hi e=>by have e:i=w.heap.size+1:=e;omega);clear Z hs;go_wp2_with fail;go_ret;exact⟨rfl,a0.o⟩
def Qbw(d:Val):Int:=if QbN d 1≠0 then QbN d 1 else if 16<Qbp d then 5 else if 1024<Qdy d then 6 else 0
theorem Qim{d:Val}(h:RV w (Lt w) d sl so)(hc:cntV d<=1100000)(hL:Qb9 w):Calls prog 40 #[aggV d sl so] w λe w'=>e=.returned (.int .i64 (Qbw d))/\Nw w w':=by
 have I:∀W,Nw w W->RV W (Lt W) d sl so:=λW D=>(h.agree (fC D λb hb=>hb)).mono λb hb=>ab hb D.size
 have L:=λW (D:Nw w W)=>Qq7 (I W D) (hL.lib.nw D)
 have hd:=λW (D:Nw w W) (hq:Qbp d<=1000000)=>QmH _ d (an _) hq W sl so (I W D)
 have hb:=λW (D:Nw w W)=>Qob (I W D) hc (hL.nw D)
 have HM:=hY L;have HD:=hY hd;have HB:=hY hb;obtain⟨r,hr⟩:∃r,Qbw d=r:=⟨_,rfl⟩;rw[hr];have HR:=hY hr;clear L hd hb hr I h hL;go_in;go_wp2_with fail;have U:=(fu w).alloc (Qlj d sl so) 28;have a5:=fx w 28 (Qlj d sl so);refine(HM.o _ (fv U)).mono ?_;rintro e w1 ⟨rfl,a1⟩;have J:=a1.blk a5;obtain⟨q0,q1,q2,q3,q4,q5⟩:=J.c6;have lq:=J.lt;have a2:=hY ((fv U).trans a1);have b5:=hY J;clear U a5 a1 J;obtain⟨m,L⟩:∃m,QbN d 1=m:=⟨_,rfl⟩;rw[L];by_cases N:m=0
 ·subst N
  have a7:=Qgc d 1 L;have b4:=hY a7;have Z:=hY L;clear L a7;go_wp2_with fail;refine(HD.o _ a2.o (by have:=b4.o;omega)).mono ?_;rintro e w2 ⟨rfl,a0⟩;have Y:=b5.o.ext a0;clear q0 q1 q2 q3 q4 q5;obtain⟨q0,q1,q2,q3,q4,q5⟩:=Y.c6;have b6:=Y.lt;have X:=hY (a2.o.trans (fv a0));clear a0 Y;by_cases z:16<Qbp d
  ·have g0:decide ((16:Int)<(Qbp d:Int))=true:=ej (by omega)
   have a3:r=5:=by rw[<-HR.o,Qbw,Z.o,ef (by simp),em z]
   have a8:=hY a3;clear a3 z;go_wp2_with fail;go_ret;exact⟨by rw[a8.o];rfl,X.o⟩
  have g0:decide ((16:Int)<(Qbp d:Int))=false:=eh (by omega);have R:=hY z;clear z;go_wp2_with fail;refine(HB.o _ X.o).mono ?_;rintro e w3 ⟨rfl,a4⟩;have a6:=hY (X.o.trans a4);clear a4 q0 q1 q2 q3 q4 q5;by_cases hl:1024<Qdy d
  ·have g1:decide ((1024:Int)<(Qdy d:Int))=true:=ej (by omega)
   have a9:=hY (show r=6 by rw[<-HR.o,Qbw,Z.o,ef (by simp),ef R.o,em hl]);clear hl;go_wp2_with fail;go_ret;exact⟨by rw[a9.o];rfl,a6.o⟩
  have g1:decide ((1024:Int)<(Qdy d:Int))=false:=eh (by omega);have b0:=hY (show r=0 by rw[<-HR.o,Qbw,Z.o,ef (by simp),ef R.o,ef hl]);clear hl;go_wp2_with fail;go_ret;exact⟨by rw[b0.o];rfl,a6.o⟩
 have g0:(m != 0)=true:=by simpa using N
 have b3:=hY (show r=m by rw[<-HR.o,Qbw,L,em N]);clear L N;go_wp2_with fail;go_ret;exact⟨by rw[b3.o];rfl,a2.o⟩
mutual
def wfV:Val->Prop
 |.mk _ _ _ _ l ok ov=>ok.length=ov.length/\Qkk l/\Qkk ov
def Qkk:List Val->Prop
 |[]=>True
 |d::r=>wfV d/\Qkk r
end
theorem QiP:∀{l:List Val},(∀(j:Nat) d,l[j]? = some d->wfV d)->Qkk l
 |[],_=>by unfold Qkk;trivial
 | a :: l,h=>by
   unfold Qkk;exact⟨h 0 a rfl,QiP λj d z=>h (j+1) d (by simpa using z)⟩
variable{F:Nat->Prop}
theorem RV.wf{d:Val}(h:RV w F d sl so):wfV d:=by
 induction h with
 | mk bl fl bo fo cl co hl ho hov el rl ek eo ro bk bi bt nl no ihl iho=>
   unfold wfV;exact⟨hov.symm,QiP ihl,QiP iho⟩
theorem Qsz{x y:Int}(h:(if x≠0 then x else y)=0):x=0/\y=0:=by
 by_cases z:x=0
 .exact ⟨z,by rw[ef (by simp[z])]at h;exact h⟩
 rw[em z]at h;exact absurd h z
theorem QqA(n:Nat):∀(a b:Val) (p q:Nat),SizeOf.sizeOf a<=n->wfV a->wfV b->QbN a p=0->QbN b q=0->Qbo a b=0->a=b:=by
 induction n with
 |zero=>intro a b p q h;have:=Val.Qb7 a;omega
 | succ n ih=>
   intro a b p q hn R L I D z;have hl:∀(l1 l2:List Val) (p q:Nat),SizeOf.sizeOf l1<=n->Qkk l1->Qkk l2->Qbz l1 p=0->Qbz l2 q=0->cmpL l1 l2=0->l1=l2:=by
    intro l1
    induction l1 with
    | nil=>
      intro l2 p q _ _ _ _ _ z;cases l2 with
      |nil=>rfl
      |cons b r=>simp[cmpL]at z
    | cons a l1 ihl=>
      intro l2 p q hs R L I D z;cases l2 with
      |nil=>simp[cmpL]at z
      | cons b l2=>
        simp only[List.cons.sizeOf_spec]at hs;unfold Qkk at R L;unfold Qbz at I D;unfold cmpL at z;obtain⟨a9,z⟩:=Qsz z;obtain⟨a1,I⟩:=Qsz I;obtain⟨a0,D⟩:=Qsz D;rw[ih a b p q (by omega) R.1 L.1 a1 a0 a9,ihl l2 p q (by omega) R.2 L.2 I D z]
   have ho:∀(X J:List Val) (Y U:List ByteArray) (p1 p2:Option ByteArray) (q1 Z:Nat),SizeOf.sizeOf X<=n->Qkk X->Qkk J->Y.length=X.length->U.length=J.length->Qer p1 Y X q1=0->Qer p2 U J Z=0->Qfe X Y U J=0->Y=U/\X=J:=by
    intro X
    induction X with
    | nil=>
      intro J Y U p1 p2 q1 Z _ _ _ h1 h2 _ _ z;cases J with
      | nil=>
        simp only[List.length_nil,List.length_eq_zero_iff]at h1 h2;exact⟨by rw[h1,h2],rfl⟩
      |cons b r=>simp[Qfe]at z
    | cons a X ihl=>
      intro J Y U p1 p2 q1 Z hs R L h1 h2 I D z;cases J with
      |nil=>simp[Qfe]at z
      | cons b J=>
        cases Y with
        |nil=>simp at h1
        | cons x Y=>
          cases U with
          |nil=>simp at h2
          | cons y U=>
            simp only[List.cons.sizeOf_spec]at hs;unfold Qkk at R L;unfold Qer at I D;unfold Qfe at z;have z:(if Qbn x y≠0 then Qbn x y else if Qbo a b≠0 then Qbo a b else Qfe X Y U J)=0:=z;have I:(if !Lib.validD x.data.toList then 3 else if p1.any (λq=>!klt q x)then 8 else if QbN a q1≠0 then QbN a q1 else Qer (some x) Y X q1)=0:=I;have D:(if !Lib.validD y.data.toList then 3 else if p2.any (λq=>!klt q y)then 8 else if QbN b Z≠0 then QbN b Z else Qer (some y) U J Z)=0:=D;obtain⟨b3,z⟩:=Qsz z;obtain⟨a9,z⟩:=Qsz z;have a1:QbN a q1=0/\Qer (some x) Y X q1=0:=by
             split at I
             .cases I
             split at I
             .cases I
             exact Qsz I
            have a0:QbN b Z=0/\Qer (some y) U J Z=0:=by
             split at D
             .cases D
             split at D
             .cases D
             exact Qsz D
            obtain⟨e1,e2⟩:=ihl J Y U (some x) (some y) q1 Z (by omega) R.2 L.2 (by simpa using h1) (by simpa using h2) a1.2 a0.2 z;rw[QhZ.1 b3,e1,ih a b q1 Z (by omega) R.1 L.1 a1.1 a0.1 a9,e2];exact⟨rfl,rfl⟩
   obtain⟨k,b1,i,t,l,ok,ov⟩:=a;obtain⟨k',b2,i',t',l',N,a7⟩:=b;simp only[Val.mk.sizeOf_spec]at hn;unfold wfV at R L;unfold QbN at I D;have z:(if k≠k' then Qcp k k' else if k=2 then Qi7 b1 b2 else if k=3 then Qcp i i' else if k=4 then Qbn t t' else if k=5 then cmpL l l' else if k=6 then Qfe ov ok N a7 else 0)=0:=by
    have h2:=z;unfold Qbo at h2;exact h2
   have hk:k=k':=by
    by_cases h:k=k'
    .exact h
    rw[em h,QjN]at z;exact absurd z h
   subst hk;have ha:QbD k b1 i t l.length ok.length=false:=by
    cases h:QbD k b1 i t l.length ok.length with
    |false=>rfl
    |true=>rw[h,em rfl]at I;cases I
   have hb:QbD k b2 i' t' l'.length N.length=false:=by
    cases h:QbD k b2 i' t' l'.length N.length with
    |false=>rfl
    |true=>rw[h,em rfl]at D;cases D
   rw[ha]at I;rw[hb]at D;have a8:∀{t:ByteArray},t.size=0->t=ByteArray.empty:=λh=>dO (Array.eq_empty_of_size_eq_zero h)
   have b0:∀{ok:List ByteArray} {ov:List Val},ok.length=ov.length->ok.length=0->ok=[]/\ov=[]:=λh1 h2=>⟨List.eq_nil_of_length_eq_zero h2,ar (h1▸h2)⟩
   unfold QbD at ha hb;by_cases hr:k<1\/6<k
   .rw [em hr]at ha;cases ha
   rw[ef hr]at ha hb;simp only[Bool.or_eq_false_iff,Bool.and_eq_false_iff,bne_eq_false_iff_eq]at ha hb;rw[ef (by simp)]at z;obtain⟨⟨⟨⟨a2,a3⟩,a4⟩,a5⟩,a6⟩:=ha;obtain⟨⟨⟨⟨c2,c3⟩,c4⟩,c5⟩,c6⟩:=hb;have eb:b1=b2:=by
    by_cases h:k=2
    .subst h;rw[em rfl,QmA]at z;exact z
    rw[a2.resolve_left h,c2.resolve_left h]
   have ei:i=i':=by
    by_cases h:k=3
    .subst h;rw[ef (by decide),em rfl,QjN]at z;exact z
    rw[a3.resolve_left h,c3.resolve_left h]
   have et:t=t':=by
    by_cases h:k=4
    .subst h;rw[ef (by decide),ef (by decide),em rfl,QhZ]at z;exact z
    rw[a8 (a4.resolve_left h),a8 (c4.resolve_left h)]
   have el:l=l':=by
    by_cases h:k=5
    ·subst h
     rw[ef (by decide),ef (by decide),ef (by decide),em rfl]at z;have m1:Qbz l (p+1)=0:=by
      simp only[Bool.false_eq_true,if_false]at I;split at I
      .cases I
      simpa using I
     have m2:Qbz l' (q+1)=0:=by
      simp only[Bool.false_eq_true,if_false]at D;split at D
      .cases D
      simpa using D
     exact hl l l' _ _ (by omega) R.2.1 L.2.1 m1 m2 z
    rw[ar (a5.resolve_left h),ar (c5.resolve_left h)]
   have eo:ok=N/\ov=a7:=by
    by_cases h:k=6
    ·subst h
     rw[ef (by decide),ef (by decide),ef (by decide),ef (by decide),em rfl]at z;have m1:Qer none ok ov (p+1)=0:=by
      simp only[Bool.false_eq_true,if_false]at I;split at I
      .cases I
      simpa using I
     have m2:Qer none N a7 (q+1)=0:=by
      simp only[Bool.false_eq_true,if_false]at D;split at D
      .cases D
      simpa using D
     exact ho ov a7 ok N _ _ _ _ (by omega) R.2.2 L.2.2 R.1 L.1 m1 m2 z
    obtain⟨e1,e2⟩:=b0 R.1 (a6.resolve_left h);obtain⟨e3,e4⟩:=b0 L.1 (c6.resolve_left h);rw[e1,e2,e3,e4];exact⟨rfl,rfl⟩
   rw[eb,ei,et,el,eo.1,eo.2]
def okV(v:Val):Prop:=wfV v/\Qbw v=0
theorem okV.may{v:Val}(h:okV v):QbN v 1=0:=by
 have h1:=h.2;unfold Qbw at h1;by_cases h2:QbN v 1=0
 .exact h2
 rw[em h2]at h1;exact h1
theorem okV.eq{a b:Val}(z:okV a)(D:okV b)(h:Qbo a b=0):a=b:=QqA _ a b 1 1 (an _) z.1 D.1 z.may D.may h
structure OkM(M:List Ent):Prop where
 sorted:Sorted M
 ok:∀e∈M,Qbd e.1=0/\okV e.2
theorem OkM.nil:OkM []:=⟨List.Pairwise.nil,λe h=>by cases h⟩
variable{M:List Ent}
theorem OkM.get(h:OkM M){k:ByteArray}{v:Val}(z:Qam M k=some v):Qbd k=0/\okV v:=h.ok (k,v) (Qcg z)
theorem OkM.put(h:OkM M){k:ByteArray}{v:Val}(J:Qbd k=0)(I:okV v):OkM (Qbq M k v):=
 ⟨QaS h.sorted k v,λe z=>(QiB z).elim (λD=>D▸⟨J,I⟩) (h.ok e)⟩
theorem OkM.del(h:OkM M)(k:ByteArray):OkM (Qb2 M k):=⟨QaR h.sorted k,λe z=>h.ok e ((Qba M k).subset z)⟩
theorem QdW:∀{a b:List Ent},Sorted a->Sorted b->(∀k,Qam a k=Qam b k)->a=b
 |[],[],_,_,_=>rfl
 |[],f::b,_,_,h=>by have:=h f.1;simp[Qam]at this
 |e::a,[],_,_,h=>by have:=h e.1;simp[Qam]at this
 | e :: a,f :: b,ha,hb,h=>by
   obtain⟨U,Y⟩:=aV.1 ha;obtain⟨b1,b2⟩:=aV.1 hb;have z:∀{x:Ent} {l:List Ent} {k:ByteArray},(∀y∈l,klt x.1 y.1=true)->klt k x.1=true->Qam (x::l) k=none:=λ{x l k} h1 h2=>by
    have:∀y∈x::l,y.1≠k:=λy I e=>by
     rcases aF.1 I with rfl|I
     .rw [e,Qah]at h2;cases h2
     have:=QaI h2 (h1 y I);rw[e,Qah]at this;cases this
    cases L:Qam (x::l) k with
    |none=>rfl
    |some v=>exact absurd rfl (this _ (Qcg L))
   have R:e.1=f.1:=by
    refine QbR ?_ ?_
    ·cases J:klt e.1 f.1 with
     |false=>rfl
     | true=>
       have h1:=h e.1;rw[Qam,em rfl,z b1 J]at h1;cases h1
    cases J:klt f.1 e.1 with
    |false=>rfl
    | true=>
      have h1:=h f.1;rw[z U J,Qam,em rfl]at h1;cases h1
   have D:=h e.1;rw[Qam,em rfl,Qam,em R.symm]at D;injection D with D;have X:e=f:=ee R D;subst X;rw[QdW Y b2 λk=>?_];by_cases N:e.1=k
   ·have n1:∀ {l:List Ent},(∀ y∈l,klt e.1 y.1=true)→Qam l k=none:=fun {l} h1=>by
     cases L:Qam l k with
     |none=>rfl
     |some v=>have:=h1 _ (Qcg L);rw[N]at this;rw[show((k,v):Ent).1=k from rfl,Qah]at this;cases this
    rw[n1 U,n1 b1]
   have:=h k;rwa[Qam,ef N,Qam,ef N]at this
structure QiS(B:List Ent)(C:Slots)(M:List Ent):Prop where
 below:OkM B
 ok:OkM M
 chg:Qav C
 now:∀k,Qkq B C k=Qam M k
theorem QiS.com{B:List Ent}{C:Slots}(h:QiS B C M):QfC B C B=M:=by
 have hs:=Qcw B C B h.below.sorted;have U:∀e∈QfC B C B,okV e.2:=by
  have:∀(N:Slots) (t:List Ent),(∀p∈N,p∈C)->(∀e∈t,okV e.2)->∀e∈QfC B N t,okV e.2:=by
   intro N
   induction N with
   |nil=>intro t _ D;rw[QfC];exact D
   | cons p r ih=>
     intro t R D;obtain⟨k,s⟩:=p;have J:=λq X=>R q (aI _ X)
     cases s with
     | some v=>
       rw[QfC];split
       .exact ih t J D
       refine ih _ J λe z=>?_
       rcases QiB z with rfl|z
       ·have h1:=h.now k
        rw[Qkq,Qio h.chg (R _ (aw ..))]at h1;exact(h.ok.get h1.symm).2
       exact D e z
     | none=>
       rw[QfC];split
       .exact ih _ J λe z=>D e ((Qba t k).subset z)
       exact ih t J D
  exact this C B (λp R=>R) λe z=>(h.below.ok e z).2
 refine QdW hs h.ok.sorted λk=>?_
 have h1:=QeS B (k:=k) C B h.chg h.below.sorted rfl;rw[h.now k]at h1;cases L:Qam (QfC B C B) k with
 | none=>
   cases I:Qam M k with
   |none=>rfl
   |some b=>rw[L,I]at h1;cases h1
 | some a=>
   cases I:Qam M k with
   |none=>rw[L,I]at h1;cases h1
   | some b=>
     rw[L,I]at h1;simp only[Qt2,decide_eq_true_eq]at h1;exact congrArg some ((U _ (Qcg L)).eq (h.ok.get I).2 h1)
theorem QiS.start{B:List Ent}(h:OkM B):QiS B [] B:=⟨h,h,List.Pairwise.nil,λk=>rfl⟩
theorem QiS.put{B:List Ent}{C D:Slots}(h:QiS B C M){k:ByteArray}{v:Val}(L:Qbd k=0)(J:okV v)(hs:Qav D)(I:∀x,Qa5 D x=if x=k then some (some v)else Qa5 C x):QiS B D (Qbq M k v):=
 ⟨h.below,h.ok.put L J,hs,λx=>by
   unfold Qkq;rw[I,Qdg];by_cases z:x=k
   .rw [em z,em z]
   rw[ef z,ef z];exact h.now x⟩
theorem QiS.del{B:List Ent}{C D:Slots}(h:QiS B C M){k:ByteArray}(hs:Qav D)(I:∀x,Qa5 D x=if x=k then some none else Qa5 C x):QiS B D (Qb2 M k):=
 ⟨h.below,h.ok.del k,hs,λx=>by
   unfold Qkq;rw[I,QcL _ _ _ h.ok.sorted];by_cases z:x=k
   .rw [em z,em z]
   rw[ef z,ef z];exact h.now x⟩
def inI(lo hi:ByteArray)(op:Bool)(e:Ent):Bool:=!(klt e.1 lo)&&(op||klt e.1 hi)
def QaN(lo hi:ByteArray)(op:Bool)(es:List Ent):List Ent:=es.filter (inI lo hi op)
theorem QaZ(lo hi:ByteArray)(op:Bool)(a b:List Ent):QaN lo hi op (a++b)=QaN lo hi op a++QaN lo hi op b:=cu ..
variable{lo hi:ByteArray}{op:Bool}
theorem QfK{es:List Ent}(h:∀e∈es,klt e.1 lo=true):QaN lo hi op es=[]:=
 List.filter_eq_nil_iff.2 λe z=>by simp[inI,h e z]
def Qjn(hi:ByteArray)(op:Bool)(k:ByteArray):Bool:=!op && !(klt k hi)
theorem QdR{es:List Ent}(h:∀e∈es,Qjn hi op e.1=true):QaN lo hi op es=[]:=
 List.filter_eq_nil_iff.2 λe z=>by
  have:=h e z;simp only[Qjn,Bool.and_eq_true,Bool.not_eq_true']at this;simp[inI,this.1,this.2]
theorem Qoy{a b:ByteArray}(h:Qjn hi op a=true)(z:klt a b=true):Qjn hi op b=true:=by
 simp only[Qjn,Bool.and_eq_true,Bool.not_eq_true']at h ⊢;refine⟨h.1,?_⟩;cases D:klt b hi
 .rfl
 rw[QaI z D]at h;cases h.2
theorem QhS{e:Ent}(h1:klt e.1 lo=false)(h2:Qjn hi op e.1=false):QaN lo hi op [e]=[e]:=by
 have:inI lo hi op e=true:=by
  simp only[Qjn,Bool.and_eq_false_iff,Bool.not_eq_false']at h2;rcases h2 with h2|h2<;>simp[inI,h1,h2]
 simp[QaN,this]
theorem Qe9{A B:List Ent}(hs:Sorted (A++B))(h:∃e∈A,Qjn hi op e.1=true):QaN lo hi op B=[]:=by
 obtain⟨e,z,h⟩:=h;exact QdR λx D=>Qoy h ((Qcs hs).2.2 e z x D)
theorem le_last{es:List Ent}(hs:Sorted es){e:Ent}(z:e∈es):klt (QbM es) e.1=false:=by
 have D:es≠[]:=by rintro rfl;cases z
 rcases List.eq_nil_or_concat es with rfl |⟨a,x,rfl⟩
 .exact absurd rfl D
 rw[List.concat_eq_append]at hs z;have I:QbM (a.concat x)=x.1:=by simp[QbM]
 rw[I];rcases aE.1 z with h|h
 .exact Qby ((Qcs hs).2.2 e h x (br.2 rfl))
 rw[br.1 h];exact Qah _
theorem QqI{es:List Ent}(hs:Sorted es){e:Ent}(z:e∈es):klt e.1 (Qaw es)=false:=by
 cases es with
 |nil=>cases z
 | cons x es=>
   show klt e.1 x.1=false;rcases aF.1 z with rfl|h
   .exact Qah _
   exact Qby ((aV.1 hs).1 e h)
theorem QmZ{es:List Ent}(hs:Sorted es)(h:klt (QbM es) lo=true):∀e∈es,klt e.1 lo=true:=λe z=>QdJ (le_last hs z) h
theorem QfD{es:List Ent}(hs:Sorted es)(h:Qjn hi op (Qaw es)=true):∀e∈es,Qjn hi op e.1=true:=λe z=>by
 simp only[Qjn,Bool.and_eq_true,Bool.not_eq_true']at h ⊢;refine⟨h.1,?_⟩;cases D:klt e.1 hi
 .rfl
 have:=QdJ (QqI hs z) D;rw[h.2]at this;cases this
def QkI:List UInt8->Option (List UInt8)
 |[]=>none
 | b :: t=>match QkI t with
   |some e=>some (b::e)
   |none=>if b=255 then none else some [b+1]
theorem QrR(k:List UInt8):Op.bytesLess k []=false:=by cases k<;>rfl
theorem Qh3{b c:UInt8}(z:b≠255):(c<b+1)↔(c<b\/c=b):=by
 have h1:(b+1).toNat=b.toNat+1:=by
  rw[UInt8.toNat_add];have:b.toNat≠255:=λe=>z (UInt8.toNat_inj.1 e)
  have:=b.toNat_lt;show(b.toNat+1)%256=_;omega
 rw[UInt8.lt_iff_toNat_lt,UInt8.lt_iff_toNat_lt,h1,<-UInt8.toNat_inj];omega
theorem QhC:∀p k:List UInt8,(p.isPrefixOf k)=(!(Op.bytesLess k p)&&(match QkI p with|none=>true|some e=>Op.bytesLess k e))
 |[],k=>by simp[QrR,QkI,List.isPrefixOf]
 |b::t,[]=>by simp[Op.bytesLess,List.isPrefixOf]
 | b :: t,c :: s=>by
   have N:=QhC t s;simp only[List.isPrefixOf,Op.bytesLess,QkI];by_cases D:c<b
   ·have J:(b == c)=false:=eu.2 (by rintro rfl;exact absurd D (UInt8.lt_irrefl _))
    simp[D,J]
   by_cases L:c=b
   ·subst L
    cases R:QkI t with
    | some e=>
      rw[R]at N;simp[Op.bytesLess,N,UInt8.lt_irrefl]
    | none=>
      rw[R]at N;by_cases z:c=255
      .subst z;simp[N,UInt8.lt_irrefl]
      have h1:c<c+1:=(Qh3 z).2 (.inr rfl);simp[Op.bytesLess,N,UInt8.lt_irrefl,z,h1]
   have J:(b==c)=false:=eu.2 λe=>L e.symm
   have I:(c==b)=false:=eu.2 L;simp only[J,Bool.false_and,D,decide_false,I,Bool.or_self,Bool.not_false,Bool.true_and];cases R:QkI t with
   |some e=>simp[Op.bytesLess,D,I]
   | none=>
     by_cases z:b=255
     ·exfalso
      subst z;have h1:=UInt8.not_lt.1 D;have h2:c<=255:=UInt8.le_iff_toNat_le.2 (by have:=c.toNat_lt;show c.toNat<=255;omega);exact L (UInt8.le_antisymm h2 h1)
     have h1:¬c<b+1:=λh=>by
      rcases(Qh3 z).1 h with h|h
      .exact D h
      exact L h
     simp[z,Op.bytesLess,h1,QrR]
theorem QkJ:∀n:Nat,QkI (List.replicate n 255)=none
 |0=>rfl
 |n+1=>by rw[dH,QkI,QkJ n];rfl
theorem Qoz{b:UInt8}(z:b≠255)(n:Nat):∀a:List UInt8,QkI (a++b::List.replicate n 255)=some (a++[b+1])
 |[]=>by rw[aL,QkI,QkJ];simp[z]
 |x::a=>by rw[aG,QkI,Qoz z n a];rfl
abbrev inV(lo hi:ByteArray)(op:Bool):Value:=.agg #[.string lo,.string hi,.bool op]
theorem Qih(w:World)(lo hi:ByteArray)(op:Bool)(k:ByteArray):Calls prog 252 #[inV lo hi op,.string k] w λe w'=>e=.returned (.bool (Qjn hi op k))/\Ext w w':=by
 cases op
 ·go_in
  go_wp2_with fail;go_ret;exact⟨rfl,(fu w).alloc _ _⟩
 go_in;go_wp2_with fail;go_ret;exact⟨rfl,(fu w).alloc _ _⟩
structure QnV(At:World->Prop)(nv:Value)(es:List Ent):Prop where
 ext:∀{W W'},At W->Ext W W'->At W'
 ptr:∃p,nv=.pointer p
 height:∀W,At W->Calls prog 94 #[nv] W λe w'=>e=.returned (.int .i64 0)/\W=w'
 size:∀W,At W->Calls prog 98 #[nv] W λe w'=>e=.returned (.int .i64 es.length)/\∃q,w'=W.drewN q
 kids:∀W,At W->Calls prog 95 #[nv] W λe w'=>e=.returned (.slice none 0 0)/\W=w'
 entry:∀W,At W->∀(i:Nat) (e:Ent),es[i]? = some e->Calls prog 100 #[nv,.int .i64 i] W (QdA e.1 e.2 W)
 none:∀W,At W->∀i:Int,(i<0\/es.length<=i)->Calls prog 100 #[nv,.int .i64 i] W λe w'=>e=.returned (.tuple #[Qgu ByteArray.empty zeroV Sl.none Sl.none,.bool false])/\Ext W w'
 sorted:Sorted es
 few:es.length<=8
def Qdu(F:Nat->Prop)(h:Nat)(t:PT h)(W:World):Prop:=IsN W F h t/\∀b,F b->b<W.heap.size
variable{h:Nat}{W W':World}
theorem Qdu.ext{t:PT h}(a:Qdu F h t W)(k:Ext W W'):Qdu F h t W':=⟨a.1.agree (k.agree a.2),λb z=>ab (a.2 b z) k.size⟩
theorem Qdu.lt{t:PT h}(a:Qdu F h t W):IsN W (Lt W) h t:=a.1.mono a.2
theorem QmW{t:PT 0}(ok:OkT 0 t)(hs:Sorted (ents 0 t)):QnV (Qdu F 0 t) (ptr 0 t) (ents 0 t) where
 ext:=Qdu.ext
 ptr:=⟨_,rfl⟩
 height W a:=QaO a.1
 size W a:=Qgo a.1 (aj (show(ents 0 t).length<=8 from ok) (by decide))
 kids W a:=QjA a.1
 entry W a i e h:=Qjo a.lt h
 none W a i h:=QhH a.lt h
 sorted:=hs
 few:=ok
theorem Qo6:QnV (λ_=>True) (.pointer none) [] where
 ext _ _:=trivial
 ptr:=⟨_,rfl⟩
 height W _:=Qd8 W
 size W _:=(Qme W).mono λe w' ⟨h1,h2⟩=>⟨h1,0,h2.symm⟩
 kids W _:=QlQ W
 entry W _ i e h:=by simp at h
 none W _ i _:=Qjp W i
 sorted:=List.Pairwise.nil
 few:=by simp
variable{nv:Value}{b1 b2:Nat}
theorem Qmz{k k':ByteArray}{v:Val}{i:Nat}(h1:W.cell? ⟨b1,0,none⟩=some nv)(h2:W.cell? ⟨b2,0,none⟩=some (.string k))
  (J:∃p,nv=.pointer p) (I:Calls prog 100 #[nv,.int .i64 i] W (QdA k' v W)) :
  Calls prog 258 #[.int .i64 i,.pointer (some ⟨b1,0,none⟩),.pointer (some ⟨b2,0,none⟩)] W λe w'=>e=.returned (.bool !(klt k' k))/\Ext W w':=by
 obtain⟨p,rfl⟩:=J;have z:=eH W _ h2;go_in;go_wp2_with fail;refine I.mono ?_;rintro e w1 ⟨sl,so,rfl,D,-⟩;have N:=(D.cell z).trans h2;have R:b2<w1:=ab z D.size;have L:=hY D;clear I D h2;go_wp2;go_ret;exact⟨rfl,L.o.alloc _ _⟩
theorem Qn6{At:World->Prop}{es:List Ent}(I:QnV At nv es)(hw:At w)(k:ByteArray):Calls prog 257 #[nv,.string k] w λe w'=>e=.returned (.int .i64 (Qcc es k))/\Ext w w':=by
 obtain⟨pp,rfl⟩:=I.ptr;have hl:=I.few;have a2:∀W,Ext w W->W.cell? ⟨w,0,none⟩=some (.pointer pp)->W.cell? ⟨w+1,0,none⟩=some (.string k)->Calls prog 97 #[.int .i64 es.length,.func (.func 258) #[] #[.pointer (some ⟨w,0,none⟩),.pointer (some ⟨w+1,0,none⟩)]] W (QcX es.length (λi=>!(klt ((es[i]?.map Prod.fst).getD ByteArray.empty) k)) W):=by
  intro W hW c1 c2;refine Qed 258 _ _ es.length _ W (eO func258 (by kernel_rfl) rfl) (by omega) ?_ ?_
  ·intro i W' hi J
   obtain⟨x,hx⟩:∃x,es[i]? = some x:=⟨_,ac hi⟩;rw[hx];exact Qmz ((J.cell (eH W _ c1)).trans c1) ((J.cell (eH W _ c2)).trans c2) ⟨_,rfl⟩ (I.entry W' (I.ext (I.ext hw hW) J) i x hx)
  intro i j a9 hj z;by_cases Z:i=j
  .subst Z;exact z
  obtain⟨x,hx⟩:∃x,es[i]? = some x:=⟨_,ac (by omega)⟩;obtain⟨y,hy⟩:∃y,es[j]? = some y:=⟨_,ac hj⟩;have a7:=QdX I.sorted (i:=i) (j:=j) (by omega) hx hy;rw[hx]at z;rw[hy];simp only[Option.map_some,Option.getD_some,Bool.not_eq_true']at z ⊢;cases a4:klt y.1 k
  .rfl
  have:=QaI a7 a4;rw[z]at this;cases this
 have HC:=hY I;have a5:=hY a2;have HW:=hY hw;clear I a2 hw;go_in;go_wp2_with fail;generalize a1:World.alloc _ _=W0;obtain⟨U,a6,L,X⟩:=Qap w _ _ _ _ W0 a1;have q0:W0.cell? ⟨w,0,none⟩=some (.pointer pp):=L.cell 0;have N:=hY U;have a3:=hY L;have a8:=hY X;clear a1 L X U a6;refine(HC.o.size W0 (HC.o.ext HW.o N.o)).mono ?_;rintro e w1 ⟨rfl,q,rfl⟩;clear q0;go_wp2_with fail;refine(a5.o _ (N.o.drewN q) (a3.o.cell 0) (a8.o.cell 0)).mono ?_;rintro e w1 ⟨p,rfl,hp,Y,a0,R⟩;have D:Qcc es k=p:=QgZ hp (λi e hi he=>by
   have:(!(klt ((es[i]?.map Prod.fst).getD ByteArray.empty) k))=false:=Y i hi;rw[he]at this;simpa using this) (λe he=>by
   have:(!(klt ((es[p]?.map Prod.fst).getD ByteArray.empty) k))=true:=a0 p (an _) (ah.1 he).1;rw[he]at this;simpa using this)
 have HE:=hY ((N.o.drewN q).trans R);have HP:=hY D;clear Y a0 D R;go_wp2_with fail;go_ret;exact⟨by rw[HP.o];rfl,HE.o⟩
theorem Qtu{t:PT (h+1)}(ok:OkT (h+1) t){z:PT h}(D:z∈t.2):ents h z≠[]:=by
 have h1:=ok.2.2 z D;have:=QbB h z h1.1 (by omega);intro e;rw[e]at this;simp at this
def Qgt(F:Nat->Prop)(T:RT)(W:World):Prop:=IsT W F T/\∀b,F b->b<W.heap.size
variable{T:RT}
theorem Qgt.ext(a:Qgt F T W)(k:Ext W W'):Qgt F T W':=⟨a.1.agree (k.agree a.2),λb z=>ab (a.2 b z) k.size⟩
attribute [local go_sem] Oper.semAt_some
abbrev Qst(x:LE):Array Value:=#[.string x.k,aggV x.v x.sl x.so]
structure Qmt(all:List Ent)(pre:List LE)(x:LE)(W0 W1:World):Prop where
 at_:all[pre.length]? = some x.ent
 pre_:pre.map LE.ent=all.take pre.length
 val:RV W1 (In W0.heap.size W1.heap.size) x.v x.sl x.so
 key:x.k.size<=maxLen
def Qbl(lo hi:ByteArray)(op:Bool)(es all:List Ent)(pre:List LE)(J:List LE->(Nat->Prop)->World->Prop)(Jx:List LE->World->Prop)(C:Nat->Prop)(W:World)(e:Ending)(W':World):Prop:=
 (∃(new:List LE) (C':Nat->Prop) (W0:World),(e=.returned (.bool true)\/(e=.returned (.bool false)/\∃x∈es,Qjn hi op x.1=true))/\J (pre++new) C' W0/\Ext W0 W'/\new.map LE.ent=QaN lo hi op es/\St C W W'/\∀b,C' b->C b\/W.heap.size<=b)\/
 (e=.returned (.bool false)/\St C W W'/\∃pre' W0,Jx pre' W0/\Ext W0 W'/\pre'.map LE.ent <+: all)
variable{all rest:List Ent}{x:LE}
theorem Qnn{pre z:List LE}{A:List Ent}{B:List Ent}(D:all=pre.map LE.ent++(QaN lo hi op (A++x.ent::B)++rest))(I:z.map LE.ent=QaN lo hi op A)(h1:klt x.k lo=false)(h2:Qjn hi op x.k=false) :
  all[(pre++z).length]? = some x.ent/\(pre++z).map LE.ent=all.take (pre++z).length/\(z++[x]).map LE.ent=QaN lo hi op (A++[x.ent]):=by
 have N:QaN lo hi op (A++x.ent::B)=QaN lo hi op A++(x.ent::QaN lo hi op B):=by
  rw[show A++x.ent::B=A++([x.ent]++B)from rfl,QaZ,QaZ,QhS (e:=x.ent) h1 h2];rfl
 rw[N,<-I]at D;have J:all=(pre++z).map LE.ent++(x.ent ::(QaN lo hi op B++rest)):=by rw[D];simp
 have L:(pre++z).length=((pre++z).map LE.ent).length:=by simp
 refine⟨?_,?_,?_⟩
 .rw [J,L,aU (an _),dg];rfl
 .rw [J,L,dK]
 rw[aR,I,QaZ,aS,bp,QhS (e:=x.ent) h1 h2]
theorem Qk5{es:List Ent}(hs:Sorted es){i:Nat}{x:Ent}(J:es[i]? = some x)(I:Qjn hi op x.1=true):QaN lo hi op (es.take i)=QaN lo hi op es:=by
 have hd:es.drop i=x::es.drop (i+1):=by
  obtain⟨h1,rfl⟩:=ah.1 J;exact aD h1
 conv=>rhs;rw[<-aX i es]
 rw[QaZ,QdR (es:=es.drop i),bc];intro e z;have D:Sorted (es.drop i):=cV (dM _ _) hs;rw[hd]at z D;rcases aF.1 z with rfl|z
 .exact I
 exact Qoy I ((aV.1 D).1 e z)
variable{n:Nat}
theorem Qf5{α:Type}{l:List α}{x:α}(h:l[n]? = some x):l.take n++[x] <+: l:=by
 have e:l.take (n+1)=l.take n++[x]:=by rw[aZ,h];rfl
 rw[<-e];exact List.take_prefix _ _
structure Qtb(lo hi:ByteArray)(op:Bool)(es:List Ent)(At:World->Prop)(pre:List LE)(J:List LE->(Nat->Prop)->World->Prop)(C:Nat->Prop)(W:World)(i:Nat)(new:List LE)(C':Nat->Prop)(Wj wr:World):Prop where
 j:J (pre++new) C' Wj
 ext:Ext Wj wr
 new_:new.map LE.ent=QaN lo hi op (es.take i)
 st:St C W wr
 sub:∀b,C' b->C b\/W.heap.size<b
 box:Blk wr W.heap.size 274 #[.string lo,.string hi,.bool op]
 at_:At wr
variable{pre:List LE}{W0:World}
theorem Qki{At:World->Prop}{es:List Ent}(hc:QnV At nv es)(a6:∀W W',At W->Agree F W W'->W.heap.size<=W'.heap.size->At W')(e4:∀e∈es,e.1.size<=maxLen) 
  {l:Nat} {J:List LE->(Nat->Prop)->World->Prop} {Jx:List LE->World->Prop} (hT:Takes prog l Qst (Qmt all) J Jx) {C:Nat->Prop} (hJ:J pre C W0) (hx:Ext W0 W) (hw:At W) (hF:∀b,F b->b<W.heap.size/\¬C b) (a4:all=pre.map LE.ent++(QaN lo hi op es++rest)) :
  Calls prog 250 #[nv,inV lo hi op,.func (.yield l) #[] #[]] W (Qbl lo hi op es all pre J Jx C W):=by
 obtain⟨pp,rfl⟩:=hc.ptr;have hl:=hc.few;have e6:=hT.lt pre C W0 hJ;have c8:Ext W (W.alloc (.cells #[.string lo,.string hi,.bool op] 274)):=(fu W).alloc _ _;have b4:=fx W 274 #[.string lo,.string hi,.bool op];have b8:=Qn6 hc (hc.ext hw c8) lo;obtain⟨d4,b3⟩:=Qg0 es lo hc.sorted;obtain⟨p,hp⟩:∃p,Qcc es lo=p:=⟨_,rfl⟩;rw[hp]at b8 d4 b3;have e7:p<=es.length:=by rw[<-hp];exact Qk3 _ _
 have q0:(W.alloc (.cells #[.string lo,.string hi,.bool op] 274)).cell? ⟨W.heap.size,0,none⟩=some (.string lo):=b4.cell 0;have HC:=hY hc;have i9:=hY a6;have f9:=hY e4;have HT:=hY hT;have HJ:=hY hJ;have HX:=hY hx;have HW:=hY hw;have HF:=hY hF;have d5:=hY a4;have g6:=hY b4;have e0:=hY b8;have g3:=hY d4;have f5:=hY b3;have i8:=hY c8;have i7:=hY e6;clear hc a6 e4 hT hJ hx hw hF a4 b8 d4 b3 hp b4 c8 e6;refine(eC (n:=5)).1 ?_;refine callsIn_of_wp func250 rfl trivial ?_ rfl;simp only[ntmps250,List.size_toArray,List.length_cons,List.length_nil,Nat.reduceAdd,Nat.reduceSub,Array.replicate_succ,Array.replicate_zero,List.push_toArray,List.append_toArray,List.nil_append,List.cons_append];gi_wp2_with fail;refine⟨trivial,?_⟩;refine(eC.2 e0.o).mono ?_;rintro e w1 ⟨rfl,b5⟩;have d3:=hY (i8.o.trans b5);have g4:=hY (g6.o.ext b5);clear b5 q0 e0;gi_wp2_with fail;gi_loopw [7] (λv wr=>∃(i:Nat) (N:List LE) (C':Nat->Prop) (Wj:World),v=.int .i64 i/\p<=i/\i<=es.length/\Qtb lo hi op es At pre J C W i N C' Wj wr) (λv _=>es.length -(intOf v).toNat)
 case atStart=>exact⟨p,[],C,W0,rfl,an _,e7,⟨by rw[bc];exact HJ.o,HX.o.trans d3.o,by rw[QfK g3.o];rfl,d3.o.st _,λb z=>.inl z,g4.o,HC.o.ext HW.o d3.o⟩⟩
 obtain⟨i,N,C',Wj,rfl,i3,j2,hS⟩:=hrel;have D:=hY hS;have d7:=HC.o.size wr hS.at_;have i5:=hY d7;clear hS d7;gi_wp2_with fail;refine⟨trivial,?_⟩;refine(eC.2 i5.o).mono ?_;rintro e w2 ⟨rfl,q,rfl⟩;have Y:Ext wr (wr.drewN q):=(fu wr).drewN q;by_cases f1:i<es.length
 ·have g1:(i:Int)<(es.length:Int):=by omega
  have j6:decide ((i:Int)<(es.length:Int))=true:=ej g1;obtain⟨x,c9⟩:∃x,es[i]? = some x:=⟨_,ac f1⟩;have f0:=HC.o.entry (wr.drewN q) (HC.o.ext D.o.at_ Y) i x c9;have f6:=hY f0;have L:=hY c9;clear f0 c9;gi_wp2_with fail;refine⟨trivial,?_⟩;refine(eC.2 f6.o).mono ?_;rintro e w3 ⟨sl,so,rfl,b7,f3⟩;have d0:Ext w3 (w3.alloc (.cells #[.string x.1,.int .i64 x.2.kind,.bool x.2.b,.int .i64 x.2.i,.string x.2.t,.slice sl.a x.2.l.length sl.c,.slice so.a x.2.ok.length so.c] 70)):=(fu w3).alloc _ _;have e1:=fx w3 70 #[.string x.1,.int .i64 x.2.kind,.bool x.2.b,.int .i64 x.2.i,.string x.2.t,.slice sl.a x.2.l.length sl.c,.slice so.a x.2.ok.length so.c];have e2:=hY ((Y.trans b7).trans d0);have X:=hY d0;have d6:=hY e1;have e8:=hY f3;have a1:=D.o.box.ext (Y.trans b7);have i4:w3.cell? ⟨W.heap.size,0,none⟩=some (.string lo):=a1.cell 0;have g5:w3.cell? ⟨W.heap.size,1,none⟩=some (.string hi):=a1.cell 1;have f8:w3.cell? ⟨W.heap.size,2,none⟩=some (.bool op):=a1.cell 2;have lb:=a1.lt;clear b7 d0 e1 f3 a1;gi_wp2_with fail;refine⟨trivial,?_⟩;refine(eC.2 (Qih _ lo hi op x.1)).mono ?_;rintro e w5 ⟨rfl,U⟩;have a2:=e2.o.trans U;have f2:=d6.o.ext U;obtain⟨c0,c1,c2,c3,c4,c5,c6⟩:=f2.c7;have a7:=HC.o.ext D.o.at_ a2;have a9:=D.o.box.ext a2;have j5:=X.o.size;have j4:=U.size;have j3:=D.o.ext.size;have b0:RV w5 (In wr.heap.size w5.heap.size) x.2 sl so:=((e8.o.agree (X.o.agree λb z=>z.2)).agree (U.agree λb z=>by have:=z.2;omega)).mono λb z=>⟨z.1,by have:=z.2;omega⟩
  have a0:=hY a2;have f7:=hY a7;have g7:=hY a9;have e3:=hY b0;clear U a2 f2 a7 a9 b0 e8 e2 X d6 i4 g5 f8;cases R:Qjn hi op x.1 with
  | true=>
    gi_wp2_with fail;refine⟨λ_ h=>absurd h (by simp),?_⟩;gi_wp2_with fail;go_ret;refine .inl ⟨N,C',Wj,.inr ⟨rfl,x,al L.o,R⟩,D.o.j,D.o.ext.trans a0.o,?_,D.o.st.ext a0.o,λb z=>(D.o.sub b z).imp_right cQ⟩;rw[D.o.new_,Qk5 HC.o.sorted L.o R]
  | false=>
    have g0:klt x.1 lo=false:=f5.o x (by
     obtain⟨h1,rfl⟩:=ah.1 L.o;rw[List.mem_iff_getElem?];exact⟨i-p,by rw[be,Nat.add_sub_cancel' i3];exact L.o⟩)
    have b6:es=es.take i++x::es.drop (i+1):=by
     obtain⟨h1,h2⟩:=ah.1 L.o
     conv=>lhs;rw[<-aX i es,aD h1,h2]
    obtain⟨n1,n2,n3⟩:=Qnn (x:=⟨x.1,x.2,sl,so⟩) (A:=es.take i) (B:=es.drop (i+1)) (all:=all) (rest:=rest) (pre:=pre) (by show all=pre.map LE.ent++(QaN lo hi op (es.take i++x::es.drop (i+1))++rest);rw[<-b6];exact d5.o) D.o.new_ g0 R;have hy:=HT.o.take (pre++N) C' ⟨x.1,x.2,sl,so⟩ Wj w5 D.o.j (D.o.ext.trans a0.o) ⟨n1,n2,e3.o.mono λb z=>⟨by have:=z.1;omega,z.2⟩,f9.o x (al L.o)⟩;obtain⟨fn,j0,f4,j1,hy,hR⟩:=hy;have HR:=hY hR;have i1:=hY n1;have i0:=hY n2;have i6:=hY n3;have j7:=hY b6;clear hR n1 n2 n3 b6;dsimp only[Qst]at hy;gi_wp2_with fail;refine HR.o.mono ?_;rintro e w6 (⟨rfl,C6,d8,I,Z⟩ |⟨rfl,g8,I⟩)
    ·have a5:J (pre++(N++[⟨x.1,x.2,sl,so⟩])) C6 w6:=by rw [←aO];exact d8
     have a3:∀b,b<=W.heap.size->C' b->C b:=λb z h=>by
      rcases D.o.sub b h with h|h
      .exact h
      omega
     have a8:¬C' W.heap.size:=λh=>by
      have h1:=i7.o _ (a3 _ (an _) h);have:=HX.o.size;omega
     have g9:=hY (show Qtb lo hi op es At pre J C W (i+1) (N++[⟨x.1,x.2,sl,so⟩]) C6 w6 w6 from
      ⟨a5,fu _,by rw[i6.o,aZ,L.o];rfl,(D.o.st.ext a0.o).then I (λb z h=>a3 b (cQ z) h),λb z=>by
        rcases Z b z with h|h
        .exact D.o.sub b h
        exact .inr (by omega),I.blk g7.o a8,i9.o w5 w6 f7.o (I.agree.mono λb z=>⟨by have:=(HF.o b z).1;omega,λh=>(HF.o b z).2 (a3 b (cQ (HF.o b z).1) h)⟩) I.size⟩)
     clear d8 I Z a5 a3 a8 hy;gi_wp2_with fail;go_roundw
     case rel=>exact⟨i+1,_,C6,w6,by go_num,by omega,f1,g9.o⟩
     simp[intOf];omega
    gi_wp2_with fail;go_ret;have i2:St C W w6:=(D.o.st.ext a0.o).then I λb z h=>by
     rcases D.o.sub b h with h|h
     .exact h
     omega
    exact .inr ⟨rfl,i2,_,w6,g8,fu _,by
     rw[aR,i0.o];exact Qf5 i1.o⟩
 obtain rfl:i=es.length:=by omega
 gi_wp2_with fail;go_ret;refine .inl ⟨N,C',Wj,.inl rfl,D.o.j,D.o.ext.trans Y,?_,D.o.st.ext Y,λb z=>(D.o.sub b z).imp_right cQ⟩;rw[D.o.new_,aP]
theorem QhJ{w:World}{F:Nat->Prop}:∀{h:Nat} {t:PT h},IsN w F h t->∀e∈ents h t,e.1.size<=maxLen
 | 0,t,⟨_,s,xs,_,h3,h4⟩,e,z=>by
   have z:e∈t.2:=z;rw[<-h4]at z;obtain⟨x,I,rfl⟩:=bM.1 z;exact(h3.vals x I).2
 | h+1,t,⟨_,s,_,_,h4⟩,e,z=>by
   have z:e∈t.2.flatMap (ents h):=z;obtain⟨k,D,z⟩:=ct.1 z;exact QhJ (h4 k D) e z
theorem Qbl.from{es all:List Ent}{J:List LE->(Nat->Prop)->World->Prop}{Jx:List LE->World->Prop}{C:Nat->Prop}{W I:World}{e:Ending}(h:Qbl lo hi op es all pre J Jx C I e W')(D:Ext W I):Qbl lo hi op es all pre J Jx C W e W':=by
 rcases h with⟨z,N,W0,h1,h2,L,U,R,X⟩|h
 .exact .inl ⟨z,N,W0,h1,h2,L,U,(D.st C).trans R,λb Y=>(X b Y).imp_right λh=>aj D.size h⟩
 exact .inr ⟨h.1,(D.st C).trans h.2.1,h.2.2⟩
theorem Qbl.bool{es all:List Ent}{J:List LE->(Nat->Prop)->World->Prop}{Jx:List LE->World->Prop}{C:Nat->Prop}{e:Ending}(h:Qbl lo hi op es all pre J Jx C W e W'):∃b,e=.returned (.bool b):=by
 rcases h with⟨z,D,W0,h1|h1,_⟩|h
 .exact ⟨_,h1⟩
 .exact ⟨_,h1.1⟩
 exact⟨_,h.1⟩
theorem Qkj{U:World->Prop}{es:List Ent}(L:QnV U nv es)(I:∀W W',U W->Agree F W W'->W.heap.size<=W'.heap.size->U W')(R:∀e∈es,e.1.size<=maxLen) 
  {l:Nat} {J:List LE->(Nat->Prop)->World->Prop} {Jx:List LE->World->Prop} (hT:Takes prog l Qst (Qmt all) J Jx) {C:Nat->Prop} (hJ:J pre C W0) (hx:Ext W0 W) (Y:U W) (hF:∀b,F b->b<W/\¬C b) (D:all=pre.map LE.ent++(QaN lo hi op es++rest)) :
  Calls prog 239 #[nv,inV lo hi op,.func (.yield l) #[] #[]] W (Qbl lo hi op es all pre J Jx C W):=by
 have z:Ext W (W.alloc (.cells #[.string lo,.string hi,.bool op] 274)):=(fu W).alloc _ _;have hh:=L.height _ (L.ext Y z);have N:=Qki L I R hT hJ (hx.trans z) (L.ext Y z) (λb hb=>⟨Nat.lt_of_lt_of_le (hF b hb).1 z.size,(hF b hb).2⟩) D;obtain⟨pp,rfl⟩:=L.ptr;have a0:=hY N;have X:=hY z;clear L I R hT hJ hx Y hF D N z;go_in;go_wp2_with fail;refine hh.mono ?_;rintro e w1 ⟨rfl,rfl⟩;go_wp2_with fail;refine a0.o.mono ?_;rintro e w2 Z;obtain⟨b,rfl⟩:=Z.bool;have HP:=hY (Z.from X.o);clear Z;go_wp2_with fail;go_ret;exact HP.o
structure Qse(lo hi:ByteArray)(op:Bool)(F:Nat->Prop)(h:Nat)(t:PT (h+1))(pre:List LE)(J:List LE->(Nat->Prop)->World->Prop)(C:Nat->Prop)(W w3:World)(g:Nat)(j:Nat)(new:List LE)(C':Nat->Prop)(Wj wr:World):Prop where
 j_:J (pre++new) C' Wj
 ext:Ext Wj wr
 new_:new.map LE.ent=QaN lo hi op ((t.2.take j).flatMap (ents h))
 st:St C W wr
 sub:∀b,C' b->C b\/w3.heap.size<=b
 big:w3.heap.size<=wr.heap.size
 box:Blk wr W.heap.size 274 #[.string lo,.string hi,.bool op]
 rows:∀o,wr.cell? ⟨g,o,none⟩=w3.cell? ⟨g,o,none⟩
 at_:Qdu F (h+1) t wr
theorem Qqe{l:Nat}{J:List LE->(Nat->Prop)->World->Prop}{Jx:List LE->World->Prop}(hT:Takes prog l Qst (Qmt all) J Jx) 
  (ih:∀(t:PT h) (pre:List LE) (rest:List Ent) (C:Nat->Prop) (W0 W:World),J pre C W0->Ext W0 W->Qdu F h t W->(∀b,F b->¬C b)->OkT h t->Sorted (ents h t)->(ents h t).length<=1000000->all=pre.map LE.ent++(QaN lo hi op (ents h t)++rest)->
    Calls prog 239 #[ptr h t,inV lo hi op,.func (.yield l) #[] #[]] W (Qbl lo hi op (ents h t) all pre J Jx C W))
  {t:PT (h+1)} {C:Nat->Prop} (hJ:J pre C W0) (hx:Ext W0 W) (hn:Qdu F (h+1) t W) (hF:∀b,F b->¬C b) (ok:OkT (h+1) t) (hs:Sorted (ents (h+1) t)) (hl:(ents (h+1) t).length<=1000000) (d3:all=pre.map LE.ent++(QaN lo hi op (ents (h+1) t)++rest)) :
  Calls prog 239 #[ptr (h+1) t,inV lo hi op,.func (.yield l) #[] #[]] W (Qbl lo hi op (ents (h+1) t) all pre J Jx C W):=by
 have g7:=ok.2.1;have g5:=ok.1;have f6:=hT.lt pre C W0 hJ;have c9:Ext W (W.alloc (.cells #[.string lo,.string hi,.bool op] 274)):=(fu W).alloc _ _;have c6:=fx W 274 #[.string lo,.string hi,.bool op];have hh:=QaO (hn.ext c9).1;have e7:=QcO (hn.ext c9).1 (by omega);have j6:h+1<1000000:=ab (Qc2 (h+1) t ok (by show 1<=t.2.length;omega)) hl;have i9:(((h+1:Nat):Int)==0)=false:=eu.2 (by omega);have i6:((h:Int)+1==0)=false:=eu.2 (by omega);have HT:=hY hT;have g0:=hY ih;have HJ:=hY hJ;have HX:=hY hx;have HN:=hY hn;have HF:=hY hF;have e8:=hY ok;have HS:=hY hs;have HL:=hY hl;have e3:=hY d3;have f0:=hY c9;have e6:=hY c6;have g4:=hY f6;clear hT ih hJ hx hn hF ok hs hl d3 c9 c6 f6;refine(eC (n:=5)).1 ?_;refine callsIn_of_wp func239 rfl trivial ?_ rfl;simp only[ntmps239,List.size_toArray,List.length_cons,List.length_nil,Nat.reduceAdd,Nat.reduceSub,Array.replicate_succ,Array.replicate_zero,List.push_toArray,List.append_toArray,List.nil_append,List.cons_append];gi_wp2_with fail;refine⟨trivial,?_⟩;refine(eC.2 hh).mono ?_;rintro e w1 ⟨rfl,rfl⟩;gi_wp2_with fail;refine⟨trivial,?_⟩;refine(eC.2 e7).mono ?_;rintro e w3 ⟨sk,rfl,b6,d6⟩;have f2:Rd w3 (Lt w3.heap.size) 1 sk t.2.length (ptrs h t.2):=(fE b6).mono λi hi=>hi.2
 obtain⟨g,i7,rfl,g3,j1,j2,d4⟩:=Qa2 b6 (by omega);have i3:=d4.lt;have j0:W.heap.size<g:=by simp at g3;omega
 have g8:=hY f2;have c7:=hY (f0.o.trans d6);have i0:=hY (e6.o.ext d6);have j3:=c7.o.size;have i8:=HX.o.size;clear b6 f2 d6 d4 e7 hh e6 f0;gi_wp2_with fail;gi_loopw [19] (λv wr=>∃(j:Nat) (U:List LE) (C':Nat->Prop) (Wj:World),v=.int .i64 j/\j<=t.2.length/\Qse lo hi op F h t pre J C W w3 g j U C' Wj wr) (λv _=>t.2.length -(intOf v).toNat)
 case atStart=>exact⟨0,[],C,W0,rfl,av _,⟨by rw[bc];exact HJ.o,HX.o.trans c7.o,rfl,c7.o.st _,λb X=>.inl X,an _,i0.o,λ_=>rfl,HN.o.ext c7.o⟩⟩
 obtain⟨j,U,C',Wj,rfl,hj,hS⟩:=hrel;have z:=hY hS;clear hS;by_cases e1:j<t.2.length
 ·obtain ⟨D,Z⟩:∃ D,t.2[j]? = some D:=⟨_,ac e1⟩
  obtain⟨b,o',f4,-,-,-,e4⟩:=g8.o.Qc4 Z;obtain⟨rfl,rfl⟩:g=b/\0=o':=by simpa using f4
  have kc:wr.cell? ⟨g,j,none⟩=some (ptr h D):=by rw[z.o.rows];simpa using e4
  have j4:(j:Int)<(t.2.length:Int):=by omega
  have c8:=al Z;have c4:Qdu F h D wr:=⟨z.o.at_.1.2.choose_spec.2.2 D c8,z.o.at_.2⟩;have f7:Sorted (ents h D):=QaK HS.o D c8;have d5:=QbU Z;have b8:ents (h+1) t=(t.2.take j).flatMap (ents h)++(ents h D++(t.2.drop (j+1)).flatMap (ents h)):=by
   show t.2.flatMap (ents h)=_
   conv=>lhs;rw[d5]
   simp only[List.flatMap_append,List.flatMap_cons]
  have g6:(ents h D).length<=1000000:=by have:=HL.o;rw[b8]at this;simp only[List.length_append]at this;omega
  have b5:(t.2.take (j+1)).flatMap (ents h)=(t.2.take j).flatMap (ents h)++ents h D:=by rw[aZ,Z];simp
  have b7:=hY (λY (hW:Ext wr Y)=>QqW (c4.ext hW).1);have a3:=hY (λY (hW:Ext wr Y)=>Qjr (c4.ext hW).1);have a5:=z.o.box;have I:=hY (show ∀Y,Ext wr Y->Y.cell? ⟨W.heap.size,0,none⟩=some (.string lo)/\Y.cell? ⟨W.heap.size,1,none⟩=some (.string hi)/\Y.cell? ⟨W.heap.size,2,none⟩=some (.bool op) fromλY hW=>⟨(a5.ext hW).cell 0,(a5.ext hW).cell 1,(a5.ext hW).cell 2⟩);have i2:=hY c4;have d0:=hY f7;have R:=hY b8;have a0:=hY b5;clear Z f4 e4 c4 f7 d5 b8 b5 a5;cases d8:klt (QbM (ents h D)) lo with
  | true=>
    have c6:Op.bytesLess (QbM (ents h D)).toList lo.toList=true:=d8;gi_wp2_with fail;refine wpIn_wide.2 ?_;refine ez (S:=(λw'=>Ext wr w')) (by kernel_rfl) (((fu wr).drew)) (λhHeld=>?_);refine Qad 0 (some 24) I hHeld ?_;refine Qad 2 (some 26) I hHeld ?_;refine Qad 3 (some 27) I hHeld ?_;refine Qag (i:=1) (by kernel_rfl) rfl (by rfl) (λK hK=>?_);go_simp
    (refine(b7.o _ hHeld).mono ?_;rintro e w5 ⟨rfl,rfl⟩)
    refine hK.out _ _ (hHeld) (λhHeld=>?_);clear hK K
    try simp only[Act.put,List.setIfInBounds_toArray,List.set_cons_zero,List.set_cons_succ]
    refine Qad 4 (some 28) I hHeld ?_;refine Qad 5 (some 23) I hHeld ?_;refine eE (by kernel_rfl) ?_ _;have a7:=hY hHeld;clear hHeld;have i1:=hY (show Qse lo hi op F h t pre J C W w3 g (j+1) U C' Wj wr.drew from
     ⟨z.o.j_,z.o.ext.trans a7.o,by rw[z.o.new_,a0.o,QaZ,QfK (QmZ d0.o d8),bc],z.o.st.ext a7.o,z.o.sub,by have:=a7.o.size;have:=z.o.big;omega,z.o.box.ext a7.o,λo=>(a7.o.cell (by have:=z.o.big;omega)).trans (z.o.rows o),z.o.at_.ext a7.o⟩)
    generalize wr.drew=w6 at *;gi_wp2_with fail;go_roundw
    case rel=>exact⟨j+1,U,C',Wj,by go_num,e1,i1.o⟩
    simp[intOf];omega
  | false=>
    have c6:Op.bytesLess (QbM (ents h D)).toList lo.toList=false:=d8;gi_wp2_with fail;refine wpIn_wide.2 ?_;refine ez (S:=(λw'=>Ext wr w')) (by kernel_rfl) (((fu wr).drew)) (λhHeld=>?_);refine Qad 0 (some 24) I hHeld ?_;refine Qad 2 (some 26) I hHeld ?_;refine Qad 3 (some 27) I hHeld ?_;refine Qag (i:=1) (by kernel_rfl) rfl (by rfl) (λK hK=>?_);go_simp
    (refine(b7.o _ hHeld).mono ?_;rintro e w5 ⟨rfl,rfl⟩)
    refine hK.out _ _ (hHeld) (λhHeld=>?_);clear hK K
    try simp only[Act.put,List.setIfInBounds_toArray,List.set_cons_zero,List.set_cons_succ]
    refine Qad 4 (some 28) I hHeld ?_;refine Qad 5 (some 23) I hHeld ?_;refine eE (by kernel_rfl) ?_ _;cases a2:Qjn hi op (Qaw (ents h D))with
    | true=>
      have a9:=hY (show ∀Y,Calls prog 252 #[inV lo hi op,.string (Qaw (ents h D))] Y λe w'=>e=.returned (.bool true)/\Ext Y w' fromλY=>by have:=Qih Y lo hi op (Qaw (ents h D));rwa[a2]at this);gi_wp2_with fail;refine wpIn_wide.2 ?_;refine ez (S:=(λw'=>Ext wr w')) (by kernel_rfl) ((hHeld.drew)) (λhHeld=>?_);refine Qad 0 (some 30) I hHeld ?_;refine Qad 1 (some 31) I hHeld ?_;refine Qag (i:=2) (by kernel_rfl) rfl (by rfl) (λK hK=>?_);go_simp
      (refine(a3.o _ hHeld).mono ?_;rintro e w6 ⟨rfl,rfl⟩)
      refine hK.out _ _ (hHeld) (λhHeld=>?_);clear hK K
      try simp only[Act.put,List.setIfInBounds_toArray,List.set_cons_zero,List.set_cons_succ]
      refine Qag (i:=3) (by kernel_rfl) rfl (by rfl) (λK hK=>?_);go_simp
      (refine(a9.o _).mono ?_;rintro e w7 ⟨rfl,a8⟩)
      refine hK.out _ _ (hHeld.trans a8) (λhHeld=>?_);clear hK K
      try simp only[Act.put,List.setIfInBounds_toArray,List.set_cons_zero,List.set_cons_succ]
      refine Qad 4 (some 29) I hHeld ?_;refine eE (by kernel_rfl) ?_ _;have N:=hY hHeld;clear hHeld a8;gi_wp2_with fail;go_ret;have f5:=Qtu e8.o c8;obtain⟨x,a6⟩:=List.exists_mem_of_ne_nil _ f5;have b0:=QfD d0.o a2 x a6;refine .inl ⟨U,C',Wj,.inr ⟨rfl,x,by rw[R.o];simp[a6],b0⟩,z.o.j_,z.o.ext.trans N.o,?_,z.o.st.ext N.o,λb X=>(z.o.sub b X).imp_right λh=>by omega⟩;have c2:=HS.o;rw[R.o]at c2;rw[z.o.new_,R.o,QaZ,QaZ,QdR (QfD d0.o a2),Qe9 (A:=ents h D) (Qcs c2).2.1 ⟨x,a6,b0⟩,bc,bc]
    | false=>
      have a9:=hY (show ∀Y,Calls prog 252 #[inV lo hi op,.string (Qaw (ents h D))] Y λe w'=>e=.returned (.bool false)/\Ext Y w' fromλY=>by have:=Qih Y lo hi op (Qaw (ents h D));rwa[a2]at this);gi_wp2_with fail;refine wpIn_wide.2 ?_;refine ez (S:=(λw'=>Ext wr w')) (by kernel_rfl) ((hHeld.drew)) (λhHeld=>?_);refine Qad 0 (some 30) I hHeld ?_;refine Qad 1 (some 31) I hHeld ?_;refine Qag (i:=2) (by kernel_rfl) rfl (by rfl) (λK hK=>?_);go_simp
      (refine(a3.o _ hHeld).mono ?_;rintro e w6 ⟨rfl,rfl⟩)
      refine hK.out _ _ (hHeld) (λhHeld=>?_);clear hK K
      try simp only[Act.put,List.setIfInBounds_toArray,List.set_cons_zero,List.set_cons_succ]
      refine Qag (i:=3) (by kernel_rfl) rfl (by rfl) (λK hK=>?_);go_simp
      (refine(a9.o _).mono ?_;rintro e w7 ⟨rfl,a8⟩)
      refine hK.out _ _ (hHeld.trans a8) (λhHeld=>?_);clear hK K
      try simp only[Act.put,List.setIfInBounds_toArray,List.set_cons_zero,List.set_cons_succ]
      refine Qad 4 (some 29) I hHeld ?_;refine eE (by kernel_rfl) ?_ _;have N:=hY hHeld;obtain⟨q0,q1,q2⟩:=I.o w7 hHeld;have f1:∀b,F b->¬C' b:=λb X h=>by
       rcases z.o.sub b h with h|h
       .exact HF.o b X h
       have:=(HN.o.2 b X);omega
      have f3:=g0.o D (pre++U) (QaN lo hi op ((t.2.drop (j+1)).flatMap (ents h))++rest) C' Wj w7 z.o.j_ (z.o.ext.trans N.o) (i2.o.ext N.o) f1 (e8.o.2.2 D c8).1 d0.o g6 (by
       rw[e3.o,R.o,aR,z.o.new_,QaZ,QaZ];simp only[List.append_assoc])
      have g9:=hY f3;have j5:=N.o.size;clear hHeld a8 f1 f3;gi_wp2_with fail;refine⟨trivial,?_⟩;refine(eC.2 g9.o).mono ?_;rintro e w8 (⟨a4,C8,W8,i5,c0,c1,e2,L,a1⟩ |⟨rfl,L,f8,W8,c0,c1,f9⟩)
      ·have e0:St C W w8:=(z.o.st.ext N.o).then L fun b X h=>by
        rcases z.o.sub b h with h|h
        .exact h
        omega
       have b4:∀b,C8 b->C b\/w3.heap.size<=b:=λb X=>by
        rcases a1 b X with h|h
        .exact z.o.sub b h
        exact .inr (by have:=z.o.big;omega)
       have c3:J (pre++(U++a4)) C8 W8:=by rw[<-aO];exact c0
       have b3:(U++a4).map LE.ent=QaN lo hi op ((t.2.take (j+1)).flatMap (ents h)):=by rw[aR,z.o.new_,e2,a0.o,QaZ]
       rcases i5 with rfl |⟨rfl,x,a6,b0⟩
       ·have d7:∀ b,b<w3.heap.size→W.heap.size≤b→¬C' b:=fun b h1 h2 h=>by
         rcases z.o.sub b h with h|h
         .have:=g4.o b h;omega
         omega
        have i4:=hY (show Qse lo hi op F h t pre J C W w3 g (j+1) (U++a4) C8 W8 w8 from
         ⟨c3,c1,b3,e0,b4,by have:=L.size;have:=z.o.big;omega,L.blk (z.o.box.ext N.o) (d7 _ (by omega) (an _)),
           λo=>(L.cell (by have:=z.o.big;omega) (d7 _ i3 (by omega))).trans ((N.o.cell (by have:=z.o.big;omega)).trans (z.o.rows o)),
           ⟨(z.o.at_.ext N.o).1.agree (L.agree.mono fun b X=>⟨by have:=(z.o.at_.ext N.o).2 b X;omega,fun h=>by
             rcases z.o.sub b h with h|h
             .exact HF.o b X h
             have:=(HN.o.2 b X);omega⟩),λb X=>by have:=L.size;have:=HN.o.2 b X;have:=z.o.big;omega⟩⟩)
        clear e0 b4 c3 b3 c0 c1 e2 L a1 d7;gi_wp2_with fail;go_roundw
        case rel=>exact⟨j+1,_,C8,W8,by go_num,e1,i4.o⟩
        simp[intOf];omega
       clear L a1 e2 c0;gi_wp2_with fail;go_ret;refine .inl ⟨U++a4,C8,W8,.inr ⟨rfl,x,by rw[R.o];simp[a6],b0⟩,c3,c1,?_,e0,λb X=>(b4 b X).imp_right λh=>by omega⟩;have c2:=HS.o;rw[R.o]at c2;rw[b3,a0.o,R.o,QaZ,QaZ,QaZ,Qe9 (A:=ents h D) (Qcs c2).2.1 ⟨x,a6,b0⟩,bc]
      gi_wp2_with fail;go_ret;exact .inr ⟨rfl,(z.o.st.ext N.o).then L (λb X h=>by
       rcases z.o.sub b h with h|h
       .exact h
       omega),f8,W8,c0,c1,f9⟩
 obtain rfl:j=t.2.length:=by omega
 gi_wp2_with fail;go_ret;refine .inl ⟨U,C',Wj,.inl rfl,z.o.j_,z.o.ext,?_,z.o.st,λb X=>(z.o.sub b X).imp_right λh=>by omega⟩;rw[z.o.new_,aP];rfl
theorem Qmj{F:Nat->Prop}{lo hi:ByteArray}{op:Bool}{all:List Ent}{l:Nat}{J:List LE->(Nat->Prop)->World->Prop}{Jx:List LE->World->Prop}(D:Takes prog l Qst (Qmt all) J Jx) :
  ∀(h:Nat) (t:PT h) (pre:List LE) (rest:List Ent) (C:Nat->Prop) (W0 W:World),J pre C W0->Ext W0 W->Qdu F h t W->(∀b,F b->¬C b)->OkT h t->Sorted (ents h t)->(ents h t).length<=1000000->all=pre.map LE.ent++(QaN lo hi op (ents h t)++rest)->
   Calls prog 239 #[ptr h t,inV lo hi op,.func (.yield l) #[] #[]] W (Qbl lo hi op (ents h t) all pre J Jx C W)
 | 0,t,pre,rest,C,W0,W,hJ,hx,hn,hF,ok,hs,_,hall=>
   Qkj (F:=F) (QmW ok hs) (λW W' a I L=>⟨a.1.agree I,λb z=>ab (a.2 b z) L⟩) (QhJ hn.1) D hJ hx hn (λb z=>⟨hn.2 b z,hF b z⟩) hall
 | h+1,t,pre,rest,C,W0,W,hJ,hx,hn,hF,ok,hs,hl,hall=>
   Qqe D (λt pre rest C W0 W a b c d e f g i=>Qmj D h t pre rest C W0 W a b c d e f g i) hJ hx hn hF ok hs hl hall
theorem Qqd{l:Nat}{J:List LE->(Nat->Prop)->World->Prop}{Jx:List LE->World->Prop}(L:Takes prog l Qst (Qmt (QaN lo hi op (Qab T))) J Jx)
  {C:Nat->Prop} (I:J [] C W0) (N:Ext W0 W) (z:Qgt F T W) (hF:∀b,F b->¬C b) (ok:OkR T) (D:(Qab T).length<=1000000) :
  Calls prog 239 #[Qay T,inV lo hi op,.func (.yield l) #[] #[]] W (Qbl lo hi op (Qab T) (QaN lo hi op (Qab T)) [] J Jx C W):=by
 match T,z,ok,D with
 |none,_,_,_=>exact Qkj (F:=λ_=>False) (rest:=[]) Qo6 (λ_ _ _ _ _=>trivial) (λe R=>by cases R) L I N trivial (λb U=>U.elim) (by simp[Qab])
 |some ⟨h,t⟩,z,ok,D=>exact Qmj L h t [] [] C W0 W I N z hF ok.1 ok.2.2 D (by simp[Qab])
end Go.Proofs.YtkjkafgnnoidpaaGreatDoor
namespace Go.Proofs.YtkjkafgnnoidpaaGreatDoor
open Go.Proofs.Tryz
open Go.RowKit Go.Shelf
structure QdB(w:World)(B:Nat)(T:RT)(lo hi:ByteArray)(op:Bool):Prop where
 bt:Blk w B 41 #[Qay T]
 bl:Blk w (B+1) 9 #[.string lo]
 bh:Blk w (B+2) 9 #[.string hi]
 bo:Blk w (B+3) 4 #[.bool op]
def Qtd(F:Nat->Prop)(B:Nat)(b:Nat):Prop:=F b\/(B<=b/\b<B+4)
abbrev Ql6(B:Nat):Array Value:=#[.pointer (some ⟨B,0,none⟩),.pointer (some ⟨B+1,0,none⟩),.pointer (some ⟨B+2,0,none⟩),.pointer (some ⟨B+3,0,none⟩)]
variable{w w':World}{B:Nat}{T:RT}{lo hi:ByteArray}{op:Bool}{F:Nat->Prop}
theorem QdB.agree(h:QdB w B T lo hi op)(z:Agree F w w')(hF:∀b,B<=b->b<B+4->F b):QdB w' B T lo hi op:=
 ⟨h.bt.agree z (hF _ (by omega) (by omega)),h.bl.agree z (hF _ (by omega) (by omega)),h.bh.agree z (hF _ (by omega) (by omega)),h.bo.agree z (hF _ (by omega) (by omega))⟩
theorem QdB.lt(h:QdB w B T lo hi op):B+3<w.heap.size:=h.bo.lt
variable{pre:List LE}{W W':World}
theorem Qbl.st{es all:List Ent}{J:List LE->(Nat->Prop)->World->Prop}{Jx:List LE->World->Prop}{C:Nat->Prop}{e:Ending}(h:Qbl lo hi op es all pre J Jx C W e W'):St C W W':=by
 rcases h with⟨_,_,_,_,_,_,_,z,_⟩ |⟨_,z,_⟩<;>exact z
variable{w0:World}
theorem QpH(hT:Qgt F T w0)(ok:OkR T)(hl:(Qab T).length<=1000000)(hB:QdB w0 B T lo hi op) :
  Quw prog 238 (Ql6 B) Qst (Qtd F B) (Qmt (QaN lo hi op (Qab T))) (λxs=>xs.map LE.ent=QaN lo hi op (Qab T)) (λpre=>pre.map LE.ent <+: QaN lo hi op (Qab T)) w0:=by
 intro l J Jx C W R hA a2 z hJ;have I:QdB W B T lo hi op:=hB.agree hA λb h1 h2=>.inr ⟨h1,h2⟩
 have a4:Qgt F T W:=⟨hT.1.agree (hA.mono λb hb=>.inl hb),λb hb=>ab (hT.2 b hb) a2⟩;have X:=λN (Z:Ext W N)=>Qqd R hJ Z (a4.ext Z) (λb hb h=>z b h (.inl hb)) ok hl
 have a7:=R.lt [] C W hJ;obtain⟨p,hp⟩:=Qaq T;rw[hp]at X;have Y:=I.bt;rw[hp]at Y;have D:=hY (show ∀N,St C W N->N.cell? ⟨B,0,none⟩=some (.pointer p)/\N.cell? ⟨B+1,0,none⟩=some (.string lo)/\N.cell? ⟨B+2,0,none⟩=some (.string hi)/\N.cell? ⟨B+3,0,none⟩=some (.bool op) fromλN Z=>
  ⟨(Z.blk Y λh=>z _ h (.inr ⟨by omega,by omega⟩)).cell 0,(Z.blk I.bl λh=>z _ h (.inr ⟨by omega,by omega⟩)).cell 0,(Z.blk I.bh λh=>z _ h (.inr ⟨by omega,by omega⟩)).cell 0,(Z.blk I.bo λh=>z _ h (.inr ⟨by omega,by omega⟩)).cell 0⟩)
 have a6:=hY X;clear R hA a2 z hJ I a4 X hp hT ok hl hB Y a7;show Calls _ _ #[.func (.yield l) #[] #[],.pointer (some ⟨B,0,none⟩),.pointer (some ⟨B+1,0,none⟩),.pointer (some ⟨B+2,0,none⟩),.pointer (some ⟨B+3,0,none⟩)] W _;go_in;go_wp2_with fail;refine ez (S:=(λw'=>St C W w')) (by kernel_rfl) (((St.refl C W).drew)) (λhHeld=>?_);refine Qad 0 (some 6) D hHeld ?_;refine Qad 2 (some 8) D hHeld ?_;refine Qad 3 (some 9) D hHeld ?_;refine Qad 4 (some 10) D hHeld ?_;refine Qad 5 (some 11) D hHeld ?_;refine Qad 6 (some 12) D hHeld ?_;refine Qag (i:=1) (by kernel_rfl) rfl (by rfl) (λK hK=>?_);go_simp
 (refine(Qkb _ _).mono ?_;rintro e w1 ⟨rfl,L⟩;replace L:=((fu W).drew).trans L;have a3:=hY L)
 refine hK.out _ _ (L.st C) (λhHeld=>?_);clear hK K
 try simp only[Act.put,List.setIfInBounds_toArray,List.set_cons_zero,List.set_cons_succ]
 refine Qag (i:=7) (by kernel_rfl) rfl (by rfl) (λK hK=>?_);go_simp
 (refine(a6.o _ a3.o).mono ?_;intro e w2 U;obtain⟨b2,rfl⟩:=U.bool;have a0:=hY (U.from a3.o);clear U)
 refine hK.out _ _ (a0.o.st) (λhHeld=>?_);clear hK K
 try simp only[Act.put,List.setIfInBounds_toArray,List.set_cons_zero,List.set_cons_succ]
 refine eE (by kernel_rfl) ?_ _;go_wp2_with fail;go_end0;refine⟨⟨_,rfl⟩,?_⟩;rcases a0.o with⟨a5,C',W0,-,h2,h3,h4,-,-⟩ |⟨-,-,a1,W0,h2,h3,h4⟩
 .exact .inl ⟨a5,C',W0,h4,h2,h3⟩
 exact .inr ⟨a1,W0,h4,h2,h3⟩
def QnY(T:RT)(lo hi:ByteArray)(op:Bool)(w:World)(e:Ending)(w':World):Prop:=
 ∃B,e=.returned (.func (.func 238) #[] (Ql6 B))/\Ext w w'/\QdB w' B T lo hi op/\w.heap.size<=B
theorem QpG(w:World)(T:RT)(lo hi:ByteArray)(op:Bool):Calls prog 210 #[Qau T,.string lo,.string hi,.bool op] w (QnY T lo hi op w):=by
 obtain⟨p,z⟩:=Qaq T;rw[Qau,z];go_in;go_wp2_with fail;go_ret;obtain⟨J,-,D,b1,b2,I⟩:=QgJ w 41 9 9 4 #[.pointer p] #[.string lo] #[.string hi] #[.bool op] _ rfl;exact⟨w,rfl,J,⟨by rw[z];exact D,b1,b2,I⟩,an _⟩
theorem Bw.trans{a b c:World}(h:Below a.heap.size a b)(k:Below b.heap.size b c):Below a.heap.size a c:=h.trans (k.mono h.size)
theorem Bw.ext{a b c:World}(h:Below a.heap.size a b)(k:Ext b c):Below a.heap.size a c:=Bw.trans h k.below
theorem Qcu(p:ByteArray):p.toList=p.data.toList:=eB p
theorem Qbj(p:ByteArray):p.toList.length=p.size:=by rw[Qcu,aH];rfl
theorem Qgw{p:ByteArray}{i:Nat}(h:i<p.size):p.toList[i]? = some p[i]:=by
 rw[Qcu,bN];exact Array.getElem?_eq_getElem h
def Qkt(p:ByteArray)(w:World)(e:Ending)(w':World):Prop:=
 Below w.heap.size w w'/\∃(end_:ByteArray) (ok:Bool),e=.returned (.tuple #[.string end_,.bool ok])/\(match QkI p.toList with|none=>ok=false/\end_=ByteArray.empty|some q=>ok=true/\end_.toList=q)
theorem Qpk(l:List UInt8):(ByteArray.mk l.toArray).toList=l:=by rw[Qcu]
theorem Qnp{p:ByteArray}{i n:Nat}(h:i<p.size)(z:p.toList.drop (i+1)=List.replicate n 255):p.toList=p.toList.take i++p[i]::List.replicate n 255:=by
 have h1:=Qgw h;obtain⟨h2,D⟩:=ah.1 h1
 conv=>lhs;rw[<-aX i p.toList,aD h2,D,z]
theorem extract_toList(p:ByteArray)(k:Nat):(p.extract 0 k).toList=p.toList.take k:=by
 rw[Qcu,Qcu,dv];simp
theorem bytesRow_at{s:ByteArray}{cap i:Nat}{b:UInt8}(h:s.toList[i]? = some b):(bytesRow s cap)[i]? = some (.int .u8 (b.toNat:Int)):=by
 rw[Qcu,bN]at h;have hi:=(aA.1 h).1;unfold bytesRow;rw[Array.getElem?_append_left (by simpa using hi),Array.getElem?_map,h];rfl
theorem Qh9(s:ByteArray)(cap:Nat):s.size<=(bytesRow s cap).size:=by
 unfold bytesRow;rw[du,Array.size_map];exact dP _ _
theorem QmB(w:World)(s:ByteArray)(cap:Nat)(t:TypeId){i:Nat}{b c:UInt8}(I:s.toList[i]? = some b)(W:World)(z:W=(w.alloc (.cells (bytesRow s cap) t ((bytesRow s cap).size,(bytesRow s cap).size+1))).drew) :
  W.cell? ⟨w,i,none⟩=some (.int .u8 (b.toNat:Int))/\W.frozen? ⟨w,i,none⟩=false/\w.heap.size<W.heap.size/\Below w.heap.size w W/\
   ∀j (x:UInt8),(s.toList.set i c)[j]? = some x->(W.setCell ⟨w,i,none⟩ (.int .u8 (c.toNat:Int))).cell? ⟨w,j,none⟩=some (.int .u8 (x.toNat:Int)):=by
 have J:∀j,W.cell? ⟨w,j,none⟩=(bytesRow s cap)[j]?:=λj=>by
  rw[z];exact World.cell?_alloc_mark w _ _ _ j
 have hi:i<s.size:=by
  have:=(ah.1 I).1;rwa[Qbj]at this
 have N:W.heap[w.heap.size]? = some (.cells (bytesRow s cap) t ((bytesRow s cap).size,(bytesRow s cap).size+1)):=by
  rw[z];exact fg w _
 refine⟨by rw[J];exact bytesRow_at I,?_,by rw[z];show w.heap.size<(w.alloc _).heap.size;rw[ew];exact df _,by rw[z];exact((Below.refl _ w).alloc (an _) _).drew,λj x D=>?_⟩
 ·unfold World.frozen?
  rw[N];have:=Qh9 s cap;simp;omega
 by_cases L:j=i
 ·subst L
  rw[cO (ah.1 I).1]at D;cases D;exact eM W _ _ ((J j).trans (bytesRow_at I))
 rw[cY (λe=>L e.symm)]at D;rw[Qaf _ _ _ _ _ (λe=>L e.symm),J];exact bytesRow_at D
theorem QkR(w:World)(p:ByteArray)(hp:p.size<=maxLen):Calls prog 209 #[.string p] w (Qkt p w):=by
 unfold maxLen at hp;have a9:∀(s:ByteArray) (W:World),(convert 9 156 (.string s)).run prog W=.ok (.slice (some ⟨W,0,none⟩) s.size (grownCap W s.size 0 5)) (W.drew.alloc (.cells (bytesRow s (grownCap W s.size 0 5)) 5 ((bytesRow s (grownCap W s.size 0 5)).size,(bytesRow s (grownCap W s.size 0 5)).size+1))):=
  λs W=>run_bytes_of_string W 9 156 5 s underlying9 underlying156 underlying5
 have c1:wrap64 ((p.size:Int)-1)=(p.size:Int)-1:=by unfold wrap64;omega
 go_in;go_wp2_with fail;go_step3;go_wp2_with fail;go_step3;go_wp2_with fail;go_loopw[4] (λv wr=>wr=w/\((v=.int .i64 (-1)/\QkI p.toList=none)\/∃i,i<p.size/\v=.int .i64 (i:Int)/\p.toList.drop (i+1)=List.replicate (p.size -(i+1)) 255)) (λv _=>(intOf v+1).toNat)
 case atStart=>
  refine⟨rfl,?_⟩;by_cases h0:p.size=0
  ·refine .inl ⟨by rw [h0];rfl,?_⟩
   have:p.toList=[]:=ar (by rw[Qbj];exact h0);rw[this];rfl
  refine .inr ⟨p.size-1,by omega,by congr 1;omega,?_⟩;rw[bC (by rw[Qbj];omega),show p.size -(p.size-1+1)=0 from by omega];rfl
 obtain⟨rfl,⟨rfl,hn⟩ |⟨i,hi,rfl,hr⟩⟩:=hrel
 ·have HN:=hY hn
  clear hn;go_wp2_with fail;rw[Exit.noGoto_ret];refine eD (v:=.tuple #[.string ByteArray.empty,.bool false]) (by simp[results,results209,go_sem];rfl) rfl ?_;exact⟨Below.refl _ _,ByteArray.empty,false,rfl,by rw[HN.o];exact⟨rfl,rfl⟩⟩
 have c3:(i:Int)<(p.size:Int):=by omega
 have b7:(0:Int)<=(i:Int):=by omega
 have a2:=Qnp hi hr;have a0:=hY a2;have HR:=hY hr;have b8:wrap64 ((i:Int)-1)=(i:Int)-1:=by unfold wrap64;omega
 clear a2 hr;by_cases z:p[i]=255
 ·have a7:(((p[i].toNat:Nat):Int) != 255)=false:=by rw [z];rfl
  go_wp2_with fail;go_roundw
  case rel=>
   refine⟨trivial,?_⟩;cases i with
   | zero=>
     refine .inl ⟨rfl,?_⟩;rw[a0.o,z,cx,aL,<-dH];exact QkJ _
   | succ i=>
     refine .inr ⟨i,by omega,by simp,?_⟩;have h2:p.toList.drop (i+1)=p[i+1]::p.toList.drop (i+1+1):=by
      have h1:=Qgw hi;obtain⟨h2,h3⟩:=ah.1 h1;rw[aD h2,h3]
     rw[h2,HR.o,z,<-dH];congr 1;omega
  simp[intOf]
 have a7:(((p[i].toNat:Nat):Int) != 255)=true:=eK.2 λe=>z (UInt8.toNat_inj.1 (by show p[i].toNat=255;omega))
 have b6:min (i+1) p.size=i+1:=by omega
 have b5:(p.extract 0 (i+1)).size=i+1:=by rw[<-Qbj,extract_toList,ap,Qbj];omega
 have a5:p[i].toNat<256:=p[i].toNat_lt;have c0:IntKind.u8.wrap ((p[i].toNat:Int)+1)=(p[i].toNat:Int)+1:=by
  have:p[i].toNat≠255:=λe=>z (UInt8.toNat_inj.1 e)
  rw[IntKind.wrap_u8];omega
 obtain⟨q,hq⟩:∃q,q=(p.extract 0 (i+1)).toList.set i (p[i]+1):=⟨_,rfl⟩;have D:(p.extract 0 (i+1)).toList=p.toList.take i++[p[i]]:=by
  rw[extract_toList,aZ,Qgw hi];rfl
 have J:(p.toList.take i).length=i:=by rw[ap,Qbj];omega
 have X:q=p.toList.take i++[p[i]+1]:=by
  rw[hq,D,dz _ _ (by omega),J,dg];rfl
 have a4:q.length=i+1:=by rw[X,ai,J];rfl
 have N:QkI p.toList=some q:=by rw[a0.o,Qoz z,X]
 have a3:(p.extract 0 (i+1)).toList[i]? = some p[i]:=by rw[D,aU (by omega),J,dg];rfl
 have Y:((p[i]+1).toNat:Int)=(p[i].toNat:Int)+1:=by
  have h1:(p[i]+1).toNat=p[i].toNat+1:=by
   rw[UInt8.toNat_add];have:p[i].toNat≠255:=λe=>z (UInt8.toNat_inj.1 e)
   show(p[i].toNat+1)%256=_;omega
  omega
 have U:∀W:World,(∀j (hj:j<q.length),W.cell? ((⟨wr,0,none⟩:Addr).add j)=some (.int .u8 (q[j].toNat:Int)))->∀R,(convert 156 9 (.slice (some ⟨wr,0,none⟩) (i+1) R)).run prog W=.ok (.string ⟨q.toArray⟩) W:=λW h R=>by
  have:=run_convert_bytes_back (P:=prog) W 156 9 5 ⟨wr,0,none⟩ R q underlying156 underlying5 underlying9 h;rwa[a4]at this
 have a8:=hY U;have a1:=hY N;have HQ:=hY hq;have b4:=hY a3;have a6:=hY Y;clear hq D J X a4 N a3 Y U;go_upto_region 8 with(fail);generalize Z:World.drew _=W2;obtain⟨c2,f2,l2,L,I⟩:=QmB wr (p.extract 0 (i+1)) _ _ (c:=p[i]+1) b4.o W2 Z.symm;rw[a6.o,<-HQ.o]at I;have b3:=hY I;have b0:=hY L;clear Z I L a9;go_upto_region 9 with(fail);have U:=a8.o (W2.setCell ⟨wr,i,none⟩ (.int .u8 ((p[i].toNat:Int)+1))) (λj hj=>by
  rw[Qbu,aB];exact b3.o j _ (ac hj))
 go_wp2_with fail;rw[Exit.noGoto_ret];refine eD (v:=.tuple #[.string ⟨q.toArray⟩,.bool true]) (by simp[results,results209,go_sem]) rfl ?_;exact⟨b0.o.setCell (p:=⟨wr,i,none⟩) (an _) _,_,_,rfl,by rw[a1.o];exact⟨rfl,Qpk q⟩⟩
def QeB(p:ByteArray)(es:List Ent):List Ent:=es.filter λe=>p.toList.isPrefixOf e.1.toList
theorem Qkt.range{p:ByteArray}{e:Ending}(h:Qkt p w e w'):∃(z:ByteArray) (ok:Bool),e=.returned (.tuple #[.string z,.bool ok])/\Below w.heap.size w w'/\∀es,QaN p z (!ok) es=QeB p es:=by
 obtain⟨N,z,ok,J,D⟩:=h;refine⟨z,ok,J,N,λes=>?_⟩;refine List.filter_congr λx _=>?_
 rw[QhC];cases I:QkI p.toList with
 | none=>
   rw[I]at D;obtain⟨rfl,-⟩:=D;rfl
 | some q=>
   rw[I]at D;obtain⟨rfl,L⟩:=D;simp only[inI,Bool.not_true,Bool.false_or,klt,L]
def Qms(T:RT)(p:ByteArray)(w:World)(e:Ending)(w':World):Prop:=
 ∃(B:Nat) (en:ByteArray) (op:Bool),e=.returned (.func (.func 238) #[] (Ql6 B))/\Below w.heap.size w w'/\QdB w' B T p en op/\w.heap.size<=B/\∀es,QaN p en op es=QeB p es
theorem Qnc(w:World)(T:RT)(p:ByteArray)(hp:p.size<=maxLen):Calls prog 172 #[Qau T,.string p] w (Qms T p w):=by
 have hr:=λW lo hi op=>QpG W T lo hi op
 have Y:=λW=>QkR W p hp
 obtain⟨r,z⟩:=Qaq T;rw[Qau,z];simp only[Qau,z]at hr;have N:Ext w (w.alloc (.cells #[.pointer r] 41)):=(fu w).alloc _ _;have U:=fx w 41 #[.pointer r];have a2:=hY N;have L:=hY U;have HR:=hY hr;have a0:=hY Y;clear N U hr z Y;go_in;go_wp2_with fail;refine(a0.o _).mono ?_;intro e w1 he;obtain⟨en,ok,rfl,D,R⟩:=he.range;have I:=Bw.trans a2.o.below D;have c0:w1.cell? ⟨w,0,none⟩=some (.pointer r):=(L.o.agree (Agree.of_below D (F:=Lt (w.alloc (.cells #[.pointer r] 41)).heap.size) λ_ h=>h) L.o.lt).cell 0;have J:=hY I;have a1:=hY R;clear he D R I;go_wp2_with fail;refine(HR.o _ _ _ _).mono ?_;rintro e w2 ⟨B,rfl,X,Z,hB⟩;have HP:=hY (show Below w.heap.size w w2/\QdB w2 B T p en (!ok)/\w.heap.size<=B from⟨Bw.ext J.o X,Z,aj J.o.size hB⟩);clear X Z hB;go_wp2_with fail;go_ret;exact⟨B,en,!ok,rfl,HP.o.1,HP.o.2.1,HP.o.2.2,a1.o⟩
def QtB(n:Int):Val:=.mk 3 false n ByteArray.empty [] [] []
def e5:List Ent:=[(⟨#[97]⟩,QtB 1),(⟨#[98]⟩,QtB 3),(⟨#[98,47,49]⟩,QtB 4),(⟨#[98,47,50]⟩,QtB 0),(⟨#[99]⟩,QtB 2)]
open Go.Maps Go.Sort
abbrev QaV(k:ByteArray):List UInt8:=k.data.toList
theorem QhL(ks:List ByteArray):(ks.map QaV).map encStr=ks.map .string:=by rw[cA];rfl
theorem Qo7:∀x y:List UInt8,Op.bytesLess x y=decide (x<y)
 |[],[]=>rfl
 |[],_::_=>rfl
 |_::_,[]=>rfl
 | a :: x,b :: y=>by
   rw[Op.bytesLess,Qo7 x y];by_cases h1:a<b
   .simp [h1,List.cons_lt_cons_iff]
   by_cases h2:a=b
   .subst h2;simp[List.cons_lt_cons_iff]
   simp[h1,h2,List.cons_lt_cons_iff]
theorem Qtv(a b:ByteArray):klt a b=decide (QaV a<QaV b):=by
 show Op.bytesLess a.toList b.toList=_;rw[eB,eB,Qo7]
theorem Qgy(ts:List (List UInt8)):(ts.map λl=>(⟨l.toArray⟩:ByteArray)).map QaV=ts:=by
 rw[cA];exact(List.map_congr_left λl _=>rfl).trans (List.map_id _)
theorem Qg7{ts:List ByteArray}(h:(ts.map QaV).Pairwise λx y=>decide (x<=y)=true)(I:ts.Nodup):ts.Pairwise λx y=>klt x y=true:=by
 have h2:=bJ.1 h;refine(h2.and I).imp ?_;rintro x y ⟨z,J⟩;cases L:klt x y with
 |true=>rfl
 | false=>
   exfalso;have D:klt y x=true:=Qc3 L J;rw[Qtv,eL]at D;rw[eL]at z;exact absurd z (by simpa[List.not_le]using D)
theorem QhK(l:List (List UInt8)):(l.mergeSort λx y=>decide (x<=y)).Pairwise λx y=>decide (x<=y)=true:=
 List.pairwise_mergeSort (λa b c h1 h2=>by simp only[decide_eq_true_eq]at *;exact List.le_trans h1 h2) (λa b=>by simp only[Bool.or_eq_true,decide_eq_true_eq];exact List.le_total a b) l
variable{s:Sl}{ks:List ByteArray}
theorem Qhg{base:Nat}(D:w.ownsRow base 9 1 (.slice s.a ks.length s.c) ks.length (ks.map .string))(hn:ks.length<=1000000000) :
  Calls prog 85 #[.slice s.a ks.length s.c] w λe w'=>e=.returned (.tuple #[])/\∃ts:List ByteArray,ts.Perm ks/\(ts.map QaV).Pairwise (λx y=>decide (x<=y)=true)/\w'.ownsRow base 9 1 (.slice s.a ts.length s.c) ts.length (ts.map .string)/\ts.length=ks.length/\w.grownBy w' s.row:=by
 rcases D.2 with⟨Z,h0⟩ |⟨g,U,a0,Z,N,R,X,L,Y,ht⟩
 ·have hk:ks=[]:=ar h0
  subst hk;refine(AnyM.slices_Sort_string_none Tryz.QrI s.a s.c w).mono ?_;rintro e w' ⟨rfl,rfl⟩;exact⟨rfl,[],List.Perm.refl _,List.Pairwise.nil,D,rfl,⟨rfl,rfl,rfl,an _,λ_ _ _=>rfl⟩⟩
 injection Z with h1 h2 h3;obtain⟨sa,sc⟩:=s;dsimp only at h1 h3;subst h1 h3;have hH:Holds encStr w g 0 (ks.map QaV).toArray:=holds_of_block R (by rw[QhL,aq];simpa using ht);have hc:=AnyM.slices_Sort_string Tryz.QrI g 0 sc (ks.map QaV) w hH (aA.1 R).1 (by rw[aq];omega);rw[aq]at hc;refine hc.mono ?_;rintro e w' ⟨rfl,n,os,rfl⟩;have hp:((ks.map QaV).mergeSort λx y=>decide (x<=y)).Perm (ks.map QaV):=List.mergeSort_perm _ _;have J:((ks.map QaV).mergeSort λx y=>decide (x<=y)).length=ks.length:=by rw[hp.length_eq,aq]
 obtain⟨ts,z⟩:∃ts:List ByteArray,ts.map QaV=(ks.map QaV).mergeSort λx y=>decide (x<=y):=⟨_,Qgy _⟩
 have I:ts.length=ks.length:=by rw[<-J,<-z,aq]
 refine⟨rfl,ts,?_,by rw[z];exact QhK _,?_,I,by rw[<-z];exact grownBy_sorted _⟩
 ·have hq:(ts.map QaV).Perm (ks.map QaV):=by rw [z];exact hp
  have:=hq.map λl:List UInt8=>(⟨l.toArray⟩:ByteArray)
  rw[cA,cA]at this;rwa[show((λl:List UInt8=>(⟨l.toArray⟩:ByteArray))∘QaV)=id from rfl,List.map_id,List.map_id]at this
 rw[<-z,I,<-QhL];have:=ownsRow_sorted (w:=w) (base:=base) (cap:=sc) (n:=n) (os:=os) (ss:=ks.map QaV) (ts:=ts.map QaV) (by rw[aq,aq,I]) N R (by rw[aq];exact X) L Y;rw[aq]at this;exact this
theorem Tryz.QkP:(prog.info? 9).map (λi=>(i.zero,i.size,i.bytes))=some (some (.string ByteArray.empty),1,16):=by kernel_rfl
def Qaj(p k:ByteArray):Bool:=p.toList.isPrefixOf k.toList
theorem QhB(w:World)(k p:ByteArray):Calls prog 123 #[.string k,.string p] w λe w'=>e=.returned (.bool (Qaj p k))/\w'=w:=by
 have z:∀W,Calls prog 174 #[.string k,.string p] W λe w'=>e=.returned (.bool (Qaj p k))/\w'=W:=λW=>by
  have:=Any.strings_HasPrefix Tryz.QjC k p W;unfold Qaj;rw[eB,eB];exact this
 go_in;go_wp2_with fail;refine(z _).mono ?_;rintro e w' ⟨rfl,rfl⟩;go_wp2_with fail;go_ret;exact⟨rfl,rfl⟩
structure Qdv(w:World)(B:Nat)(ks:List ByteArray)(s:Sl)(W:World):Prop where
 blk:Blk W B 91 #[.slice s.a ks.length s.c]
 own:W.ownsRow (w.heap.size+2) 9 1 (.slice s.a ks.length s.c) ks.length (ks.map .string)
 sb:Sb (λb=>b=B) w W
 sz:w.heap.size+2<=W.heap.size
section
variable{w W W' : World}{B : Nat}{ks : List ByteArray}{s : Sl}
theorem Qdv.row(h:Qdv w B ks s W){b:Nat}(z:s.row=some b):w+2<=b/\b<W:=Qaa h.own z
theorem Qdv.keep{G:Nat->Prop}(h:Qdv w B ks s W)(k:Sb G W W')(I:¬G B)(D:∀b,s.row=some b->¬G b)(J:∀b,G b->w<=b):Qdv w B ks s W':=
 ⟨k.blk h.blk I,Qae h.own k.agree λb z=>⟨(h.row z).2,D b z⟩,h.sb.comp k λi hi L=>by have:=J i L;omega,aj h.sz k.size⟩
theorem Qdv.ext(h:Qdv w B ks s W)(k:Ext W W'):Qdv w B ks s W':=h.keep (k.sb λ_=>False) (λe=>e) (λ_ _ e=>e) λ_ e=>e.elim
theorem Qdv.start(I:Blk w B 91 #[.slice none 0 0])(z:Ext w W)(D:w.heap.size+2<=W.heap.size):Qdv w B [] Sl.none W:=
 ⟨I.ext z,eJ _ _ _ _,z.sb _,D⟩
theorem Qdv.snoc{N w5:World}{s3:Sl}{x:ByteArray}(hB:B<w.heap.size)(h:Qdv w B ks s W)(hx:Ext W N)(L:w5.ownsRow (w.heap.size+2) 9 1 (.slice s3.a (ks.length+1) s3.c) (ks.length+1) (ks.map .string++[.string x]))(Z:Wr N w5 s.row)(a0:s3.a=s.a\/s3.a=some ⟨N,0,none⟩/\Wr N w5 none) :
  Qdv w B (ks++[x]) s3 (w5.setCell ⟨B,0,none⟩ (.slice s3.a (ks.length+1) s3.c))/\St (λb=>b=B\/s.row=some b) W (w5.setCell ⟨B,0,none⟩ (.slice s3.a (ks.length+1) s3.c))/\(∀b,s3.row=some b->s.row=some b\/W<=b)/\(∀b,(b=B\/s3.row=some b)->b<(w5.setCell ⟨B,0,none⟩ (.slice s3.a (ks.length+1) s3.c)).heap.size):=by
 have h0:=h.sb.size;have h1:=hx.size;have h2:=Z.grown.size;have hz:=h.sz;have I:∀b,s3.row=some b->s.row=some b\/N<=b:=λb z=>by
  rcases a0 with e |⟨e,-⟩
  .exact .inl (by rw[<-z];simp[Sl.row,e])
  right;rw[Sl.row,e]at z;simp at z;omega
 have J:St (λb=>b=B) w5 (w5.setCell ⟨B,0,none⟩ (.slice s3.a (ks.length+1) s3.c)):=(St.refl (λb=>b=B) w5).set (p:=⟨B,0,none⟩) (.inr rfl) _;have X:St (λb=>s.row=some b) N w5:=Z.st λi hi=>hi
 have D:St (λb=>b=B\/s.row=some b) W (w5.setCell ⟨B,0,none⟩ (.slice s3.a (ks.length+1) s3.c)):=((hx.st _).trans (X.mono λi _ hi=>.inr hi)).trans (J.mono λi _ hi=>.inl hi);have U:¬s.row=some B:=λe=>by have:=(h.row e).1;omega
 have R:(ks++[x]).length=ks.length+1:=by simp
 have Y:∀b,s3.row=some b->b<w5:=λb z=>(Qaa L z).2
 refine⟨⟨?_,?_,?_,by rw[eA];omega⟩,D,λb z=>(I b z).imp id λe=>by omega,λb z=>?_⟩
 .rw [R];exact(X.blk (h.blk.ext hx) U).Qdz 0 _
 ·rw [R,aR]
  exact Qae L J.agree λb z=>⟨Y b z,λe=>by
   rcases I b z with h|h
   .exact U (by rw[h,e])
   omega⟩
 .exact h.sb.comp D.sb λi hi e=>by
   rcases e with e|e
   .exact e
   have:=(h.row e).1;omega
 rw[eA];rcases z with e|e
 .omega
 exact Y b e
end
inductive Mu where
 |mk (kd:Int) (k tk:ByteArray) (i:Int) (had:Bool) (was:Val) (has:Bool) (v:Val) (l:List Mu)
instance : Inhabited Mu :=⟨.mk 0 ByteArray.empty ByteArray.empty 0 false default false default []⟩
def Mu.kd:Mu->Int | .mk x _ _ _ _ _ _ _ _=>x
def Mu.k:Mu->ByteArray | .mk _ x _ _ _ _ _ _ _=>x
def Mu.tk:Mu->ByteArray | .mk _ _ x _ _ _ _ _ _=>x
def Mu.i:Mu->Int | .mk _ _ _ x _ _ _ _ _=>x
def Mu.had:Mu->Bool | .mk _ _ _ _ x _ _ _ _=>x
def Mu.was:Mu->Val | .mk _ _ _ _ _ x _ _ _=>x
def Mu.has:Mu->Bool | .mk _ _ _ _ _ _ x _ _=>x
def Mu.v:Mu->Val | .mk _ _ _ _ _ _ _ x _=>x
def Mu.l:Mu->List Mu | .mk _ _ _ _ _ _ _ _ x=>x
theorem Mu.Qb7(m:Mu):0<SizeOf.sizeOf m:=by cases m;simp;omega
mutual
def QaT:Mu->Nat
 |.mk _ _ _ _ _ _ _ _ l=>1+QaC l
def QaC:List Mu->Nat
 |[]=>0
 |m::r=>QaT m+QaC r
end
def Qel(v:Val):Bool:=v.kind==0 && !v.b&&v.i==0&&v.t.size==0&&v.l.length==0&&v.ok.length==0
def Qbv(kd:Int)(k tk:ByteArray)(i:Int)(had:Bool)(was:Val)(has:Bool)(v:Val)(n:Nat):Bool:=
 decide (1<=kd/\kd<=7)&&(kd==6||tk.size==0)&&(kd==3||i==0)&&(kd==4||kd==7 || !had)&&(kd==4 || !has)&&(had||Qel was)&&(kd==1||kd==5 ||(kd==4&&has)||Qel v)&&(kd==7||n==0)
def Qf8(p:ByteArray):Bool:=decide (p.size<=64)&&Lib.validD p.data.toList
def QfU(kd:Int)(k tk:ByteArray)(had:Bool):Bool:=
 if kd=6 then Qf8 k&&Qf8 tk else if kd=7/\k.size=0 then !had else Qbd k==0
def Qhx(kd:Int)(has:Bool):Bool:=kd==1||kd==5 ||(kd==4&&has)
mutual
def QaW:Mu->Nat->Int
 |.mk kd k tk i had was has v l,deep=>if !Qbv kd k tk i had was has v l.length then 9 else if 6<deep then 5 else if !QfU kd k tk had then 8 else if had&&Qbw was != 0 then Qbw was else if Qhx kd has&&Qbw v != 0 then Qbw v else Qce l (deep+1)
def Qce:List Mu->Nat->Int
 |[],_=>0
 |m::r,deep=>if QaW m deep≠0 then QaW m deep else Qce r deep
end
def QbE(m:Mu):Int:=if 64<QaT m then 6 else QaW m 1
def asM(M:List Ent)(k:ByteArray)(had:Bool)(was:Val):Bool:=match Qam M k with
 |some x=>had&&decide (Qbo x was=0)
 |none=>!had
def setMu(M:List Ent)(k:ByteArray)(v:Val):Int × List Ent:=if Qbd k≠0 then(8,M)else if Qbw v≠0 then(Qbw v,M)else(0,Qbq M k v)
def QlO(n:Int):Val:=.mk 3 false n ByteArray.empty [] [] []
def Qf2(l:List Val):Val:=.mk 5 false 0 ByteArray.empty l [] []
def Qqx(M:List Ent)(k:ByteArray)(n by_:Int):Int × List Ent:=if(0<by_/\9223372036854775807-by_<n)\/(by_<0/\n < -9223372036854775808-by_)then(7,M)else setMu M k (QlO (n+by_))
def Qeo(M:List Ent)(k:ByteArray)(by_:Int):Int × List Ent:=match Qam M k with
 |some x=>if x.kind≠3 then(9,M)else Qqx M k x.i by_
 |none=>Qqx M k 0 by_
def Qma(M:List Ent)(k:ByteArray)(l:List Val)(x:Val):Int × List Ent:=if 256<=l.length then(6,M)else setMu M k (Qf2 (l++[x]))
def Qqk(M:List Ent)(k:ByteArray)(x:Val):Int × List Ent:=match Qam M k with
 |some y=>if y.kind≠5 then(9,M)else Qma M k y.l x
 |none=>Qma M k [] x
def QaF(from_ tk k:ByteArray):ByteArray:=tk++k.extract from_.size k.size
def Qb5(M:List Ent)(from_ tk:ByteArray):List Ent->Int
 |[]=>0
 |e::r=>if Qbd (QaF from_ tk e.1)≠0 then 8 else if(Qam M (QaF from_ tk e.1)).isSome && !Qaj from_ (QaF from_ tk e.1)then 13 else Qb5 M from_ tk r
def Qg6(M:List Ent)(from_:ByteArray):List Ent:=M.filter λe=>!Qaj from_ e.1
def Qca(M:List Ent)(from_:ByteArray):List Ent:=M.filter λe=>Qaj from_ e.1
def QcA(M:List Ent)(from_ tk:ByteArray):Int × List Ent:=
 if Qb5 M from_ tk (Qca M from_)≠0 then(Qb5 M from_ tk (Qca M from_),M)else(0,QaJ (Qg6 M from_) ((Qca M from_).map λe=>(QaF from_ tk e.1,e.2)))
mutual
def stepM:Mu->List Ent->Int × List Ent
 | .mk kd k tk i had was has v l,M=>
   if kd=1 then setMu M k v
   else if kd=2 then(if(Qam M k).isSome then(0,Qb2 M k)else(12,M))
   else if kd=3 then Qeo M k i
   else if kd=4 then(if asM M k had was then(if has then setMu M k v else(0,Qb2 M k))else(13,M))
   else if kd=5 then Qqk M k v
   else if kd=6 then QcA M k tk
   else if kd=7 then(if asM M k had was then(if(Qks l M).1≠0 then((Qks l M).1,M)else Qks l M)else(13,M))
   else(9,M)
def Qks:List Mu->List Ent->Int × List Ent
 |[],M=>(0,M)
 |m::r,M=>if(stepM m M).1≠0 then((stepM m M).1,M)else Qks r (stepM m M).2
end
def runM(M:List Ent)(m:Mu):Int × List Ent:=if QbE m≠0 then(QbE m,M)else stepM m M
structure MuS where
 w1:Sl
 w2:Sl
 v1:Sl
 v2:Sl
 s:Sl
instance : Inhabited MuS :=⟨⟨Sl.none, Sl.none, Sl.none, Sl.none, Sl.none⟩⟩
def QaE(m:Mu)(c:MuS):List Value:=[.int .i64 m.kd,.string m.k,.string m.tk,.int .i64 m.i,.bool m.had,.int .i64 m.was.kind,.bool m.was.b,.int .i64 m.was.i,.string m.was.t,.slice c.w1.a m.was.l.length c.w1.c,.slice c.w2.a m.was.ok.length c.w2.c,.bool m.has,.int .i64 m.v.kind,.bool m.v.b,.int .i64 m.v.i,.string m.v.t,.slice c.v1.a m.v.l.length c.v1.c,.slice c.v2.a m.v.ok.length c.v2.c,.slice c.s.a m.l.length c.s.c]
abbrev QaG(m:Mu)(c:MuS):Value:=.agg (QaE m c).toArray
def MuC(w:World)(b o:Nat)(m:Mu)(c:MuS):Prop:=∀(j:Nat) (u:Value),(QaE m c)[j]? = some u->w.cell? ⟨b,o+j,none⟩=some u
variable{c:MuS}
theorem MuC.agree{b o:Nat}{m:Mu}(h:MuC w b o m c)(z:Agree F w w')(D:F b):MuC w' b o m c:=λj u hu=>(z.cell D).trans (h j u hu)
inductive RMu (w:World) (F:Nat->Prop):Mu->MuS->Prop
 |mk {kd:Int} {k tk:ByteArray} {i:Int} {had:Bool} {was:Val} {has:Bool} {v:Val} {l:List Mu} {c:MuS} (bl fl:Nat) (cl:Nat->MuS)
    (rw_:RV w F was c.w1 c.w2) (rv:RV w F v c.v1 c.v2) (hl:QeM F c.s l.length bl fl)
    (el:∀j m,l[j]? = some m->MuC w bl (fl+j*19) m (cl j)) (rl:∀j m,l[j]? = some m->RMu w F m (cl j))
    (bk:k.size<=maxLen) (bt:tk.size<=maxLen) (bkd:(Lit.int .i64 kd).wf=true) (bi:(Lit.int .i64 i).wf=true) (nl:l.length*264<=140737488355328):RMu w F (.mk kd k tk i had was has v l) c
theorem RMu.agree{m:Mu}(h:RMu w F m c)(D:Agree F w w'):RMu w' F m c:=by
 induction h with
 | mk bl fl cl rw_ rv hl el rl bk bt bkd bi nl ih=>
   exact .mk bl fl cl (rw_.agree D) (rv.agree D) hl (λj m z=>(el j m z).agree D (hl.fits (QbS z))) (λj m z=>ih j m z) bk bt bkd bi nl
variable{G:Nat->Prop}
theorem RMu.mono{m:Mu}(h:RMu w F m c)(z:∀i,F i->G i):RMu w G m c:=by
 induction h with
 | mk bl fl cl rw_ rv hl el rl bk bt bkd bi nl ih=>
   exact .mk bl fl cl (rw_.mono z) (rv.mono z) (hl.mono z) el (λj m D=>ih j m D) bk bt bkd bi nl
mutual
def QcF:Mu->Nat
 |.mk kd k tk i had was has v l=>8+k.size+tk.size+cntV was+cntV v+Qdr l
def Qdr:List Mu->Nat
 |[]=>0
 |m::r=>QcF m+Qdr r
end
theorem Qgp:∀{l:List Mu} {j:Nat} {m:Mu},l[j]? = some m->QcF m<=Qdr l
 |[],j,m,h=>by simp at h
 | x :: r,0,m,h=>by
   have:x=m:=by simpa using h
   subst this;rw[Qdr];omega
 |x::r,j+1,m,h=>by have:=Qgp (l:=r) (j:=j) (m:=m) (by simpa using h);rw[Qdr];omega
theorem Qdm:∀{l:List Mu} {j:Nat} {m:Mu},l[j]? = some m->QaC (l.take (j+1))=QaC (l.take j)+QaT m
 |[],j,m,h=>by simp at h
 | x :: r,0,m,h=>by
   have:x=m:=by simpa using h
   subst this;simp[QaC]
 | x :: r,j+1,m,h=>by
   rw[aT,aT,QaC,QaC,Qdm (l:=r) (j:=j) (by simpa using h),bF]
theorem QpV(n:Nat):∀m:Mu,SizeOf.sizeOf m<=n->QaT m<=QcF m:=by
 induction n with
 |zero=>intro m h;have:=Mu.Qb7 m;omega
 | succ n ih=>
   intro m h;obtain⟨N,k,L,i,D,z,I,v,l⟩:=m;simp only[Mu.mk.sizeOf_spec]at h;have hs:∀l:List Mu,SizeOf.sizeOf l<=n->QaC l<=Qdr l:=by
    intro l
    induction l with
    |nil=>intro _;simp[QaC]
    | cons a r ihr=>
      intro J;simp only[List.cons.sizeOf_spec]at J;have h1:=ih a (by omega);have h2:=ihr (by omega);rw[QaC,Qdr];omega
   have h1:=hs l (by omega);rw[QaT,QcF];omega
theorem QrH(m:Mu):QaT m<=QcF m:=QpV _ m (an _)
section
variable{H : Type}{enc : TypeId × Value -> H}{P : Program}{w : World}{held : Bool}
theorem Qu2:∀{l:List (DataW H)} {i:Nat} {d:DataW H},l[i]? = some d->Rows.uptoBulk d<=Rows.uptoBulkAll l
 |[],i,d,h=>by simp at h
 | x :: l,0,d,h=>by
   have:x=d:=by simpa using h
   subst this;simp only[Rows.uptoBulkAll];omega
 | x :: l,i+1,d,h=>by
   have:=Qu2 (l:=l) (i:=i) (d:=d) (by simpa using h);simp only[Rows.uptoBulkAll];omega
theorem Qef{t e:TypeId}{C B I:Nat}{cs:List Value}{x:DataW H × List MemPlace}(ht:P.underlying t=some (.slice e))(hC:P.cellsOf e=C)(hB:P.bytesOf e=B)(a7:0<C)
  (h:tr enc P w held I t cs=some x) (hw:WOk P t x.1) :
  ∃(n z:Nat) (s:Sl) (b o:Nat) (es:List (DataW H)),I=n+1/\cs=[.slice s.a z s.c]/\QeM (Lt w) s z b o/\z*B<=140737488351232/\es.length=z/\Rows.uptoBulkAll es+1<=Rows.uptoBulk x.1/\
   ∀i,i<z->∃D y,D.length=C/\(∀j,j<C->w.cell? ⟨b,o+i*C+j,none⟩=D[j]?)/\tr enc P w held n e D=some y/\WOk P e y.1/\es[i]? = some y.1:=by
 rcases DataW.trod_slice ht h with⟨rfl,rfl⟩ |⟨a,z,a1,J,rest,n,a8,a9,hx,-,hl,hm,Y,a2,b3,-⟩
 ·cases I with
  |zero=>simp[tr,DataW.trod]at h
  |succ n=>exact⟨n,0,Sl.none,0,0,[],rfl,rfl,.nil _ _,by omega,rfl,by simp[Rows.uptoBulk,Rows.uptoBulkAll],λi hi=>by omega⟩
 obtain⟨n',X,s,b,o,b0,N,hs,a6,he⟩:=Qfd ht hC hB a7 h hw;subst a9 hx a8;obtain rfl:n=n':=by omega
 have R:Value.slice (some a) z a1=.slice s.a X s.c:=by simpa using N
 injection R with e1 e2 e3;subst e2;refine⟨n,z,s,b,o,J.map (·.1),rfl,N,hs,a6,by rw[aq];exact Y,by simp only[Rows.uptoBulk];omega,λi hi=>?_⟩;obtain⟨D,y,a4,hc,U,a5⟩:=he i hi;refine⟨D,y,a4,hc,U,a5,?_⟩;have hE:=a2 i hi;rw[ac (by omega)]at hE;obtain⟨a0,h1,h2⟩:=dt.1 hE;obtain⟨-,Z,L⟩:=World.cells?_some h1;rw[hC]at Z L;have a3:s.a=some ⟨b,o,none⟩:=(hs.eq (by omega)).1;rw[a3]at e1;obtain rfl:a=⟨b,o,none⟩:=by injection e1
 have:a0=D:=by
  refine bH λj=>?_
  by_cases hj:j<C
  ·have:=L j hj
   rw[Go.WideShapes.add_plain,Go.WideShapes.add_plain]at this;rw[<-hc j hj,<-this]
  rw[aN (by omega),aN (by omega)]
 subst this;rw[ao,ac (by omega)];have:some (J[i]'(by omega))=some y:=by rw[<-h2];exact U
 simp only[Option.map_some];injection this with this;rw[this]
theorem Qd0{t:TypeId}{J:List Field}{z:Nat}{cs:List Value}{x:DataW H × List MemPlace}(R:P.underlying t=some (.struct J.toArray))(h:tr enc P w held z t cs=some x)(Z:WOk P t x.1) :
  ∃n N,z=n+1/\cs.length=P.cellsOf t/\x.1=.agg N/\∀(i:Nat) (f:Field),J[i]? = some f->∃y,tr enc P w held n f.type ((cs.drop f.offset).take (P.cellsOf f.type))=some y/\WOk P f.type y.1/\N[i]? = some y.1:=by
 obtain⟨xs,n,rfl,rfl,X,I,U⟩:=DataW.trod_struct R h;refine⟨n,xs.map (·.1),rfl,X,rfl,λi f hi=>?_⟩;have L:(DataW.weightsEach P (J.map (·.type)) (xs.map (·.1))).all (·<=reachBytes)=true:=by
  have:=Z;simpa[WOk,DataW.weights,R]using this
 have Y:i<J.length:=(ah.1 hi).1;have h1:=U i f (by simpa using hi);have D:i<xs.length:=by simp at I;omega
 rw[ac D]at h1;exact⟨_,h1,weightsEach_at L i _ _ (by rw[ao,hi];rfl) (by rw[ao,ac D];rfl),by rw[ao,ac D];rfl⟩
end
theorem Qdd{H:Type}(d:DataW H):1<=Rows.uptoBulk d:=by
 cases d with
 |lit l=>cases l<;>simp[Rows.uptoBulk]
 |_=>simp[Rows.uptoBulk]
end Go.Proofs.YtkjkafgnnoidpaaGreatDoor
