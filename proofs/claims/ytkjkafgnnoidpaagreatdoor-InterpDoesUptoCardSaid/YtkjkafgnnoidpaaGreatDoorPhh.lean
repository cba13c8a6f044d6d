/- What the theorem needs of the texts OwnO, FitV, MuP, ScanP, ScanW, ScanR, ScanT, ScanK, ScanQ, KeysEnd, ScanX, Known08, OvSort, OvPre, MuM, TrodB: no condition of its own. -/
import Derived.Test.YtkjkafgnnoidpaaGreatDoorPhg
set_option linter.unusedVariables false
set_option linter.unusedSimpArgs false
set_option linter.unnecessarySimpa false
set_option maxRecDepth 100000
set_option maxHeartbeats 4000000
namespace Go.Proofs.YtkjkafgnnoidpaaGreatDoor
open Go.Proofs.Tryz
open Go.RowKit Go.Maps Go.Shelf
attribute [local go_sem] Oper.semAt_some
structure OI(w:World)(B:Nat)(a b:Value)(n:Nat)(ok:List ByteArray)(ov:List Val)(pre:List ME)(W:World):Prop where
 blk:Blk W B 160 (wrC a b (n+1+(Qeq ok (ov.take pre.length)+(pre.length-1))))
 sb:Sb (λc=>c=B) w W
 box:Blk W w.heap.size 163 #[.pointer (some ⟨B,0,none⟩)]
variable{w W W':World}{B n:Nat}
theorem OI.nw{a b:Value}{ok:List ByteArray}{ov:List Val}{pre:List ME}(h:OI w B a b n ok ov pre W)(k:Nw W W'):OI w B a b n ok ov pre W':=⟨k.blk h.blk,h.sb.trans (k.any _),k.blk h.box⟩
theorem OI.turn{B x:Nat}{a b:Value}{ok:List ByteArray}{ov:List Val}{pre:List ME}(h:OI w B a b n ok ov pre W)(k:Sb (λi=>i=x) W W')(z:w.heap.size<x)(D:B<w.heap.size):OI w B a b n ok ov pre W':=
 ⟨k.blk h.blk (by omega),h.sb.comp k (λi hi e=>by have e:i=x:=e;omega),k.blk h.box (by omega)⟩
theorem QlT:∀(ks:List ByteArray) (l:List Val),l.length=ks.length->ks.length<=QfR ks l
 |[],_,_=>aw _
 |k::ks,[],h=>by cases h
 | k :: ks,d :: r,h=>by
   have:=QlT ks r (by simpa using h);rw[QfR,bZ,av];omega
variable{ks:List ByteArray}
theorem QmX{l:List Val}:Qeq ks (l.take 0)=0:=by cases ks<;>simp[Qeq]
variable{F:Nat->Prop}{V:Nat}{sl so:Sl}
theorem Qrm{P:Val->Prop}(hI:Qt9 P){bo:Bool}{i:Int}{t:ByteArray}{l:List Val}{ok:List ByteArray}{ov:List Val}{a b:Value} 
  (hP:∀(j:Nat) (d:Val),ov[j]? = some d->P d) (hc:QfR ok ov<=1100000)
  (hV:Blk w V 28 #[.int .i64 6,.bool bo,.int .i64 i,.string t,.slice sl.a l.length sl.c,.slice so.a ok.length so.c]) (h:RV w F (.mk 6 bo i t l ok ov) sl so) (hF:∀i,F i->i<w/\i≠B) (g6:V≠B) (hB:Blk w B 160 (wrC a b n)) (hn:n+(2+Qeq ok ov+(ov.length-1))<=9000000) (hL:Qb9 w) (h6:6<=B) :
  Calls prog 166 #[.pointer (some ⟨B,0,none⟩),.pointer (some ⟨V,0,none⟩)] w λe w'=>(∃r,e=.returned r)/\Blk w' B 160 (wrC a b (n+(2+Qeq ok ov+(ov.length-1))))/\Sb (λc=>c=B) w w':=by
 cases h with
 |mk bl fl bo' fo cl co hl ho hov el rl ek eo ro bk bi bt nl no=>
 have c7:MOk w F so ok ov:=⟨⟨bo',fo,co,ho,ek,eo,ro⟩,hov,λk hk=>by
  obtain⟨j,hj⟩:=List.mem_iff_getElem?.1 hk;have g7:=(ah.1 hj).1;have:=QdG (ac (l:=ov) (i:=j) (by omega)) hj;omega⟩
 have k8:ok.length<=1100000:=by
  have:=QlT ok ov hov;omega
 have l6:=hV.lt;have g0:=hB.lt;have i4:=hY c7;have HV:=hY hV;have HF:=hY hF;have HB:=hY hB;have i0:=hY hL;have HI:=hY hI;have HP:=hY hP;have HC:=hY hc;have HN:=hY hn;have f3:=hY hov;clear c7 hV hF hB hL hI hP hc hn el rl ek eo ro hl ho bk bi bt nl no hov;refine(eC (n:=6)).1 ?_;refine callsIn_of_wp_marks func166 rfl trivial ?_ rfl;simp only[ntmps166,List.size_toArray,List.length_cons,List.length_nil,Nat.reduceAdd,Nat.reduceSub,Array.replicate_succ,Array.replicate_zero,List.push_toArray,List.append_toArray,List.nil_append,List.cons_append];gi_wp2_with fail;generalize a9:w.alloc (.cells #[.pointer (some ⟨B,0,none⟩)] _)=W0;have e1:Ext w W0:=by rw[<-a9];exact(fv w).alloc _ _
 have i9:W0.heap.size=w.heap.size+1:=by rw[<-a9];simp
 have f6:Blk W0 w.heap.size 163 #[.pointer (some ⟨B,0,none⟩)]:=by rw[<-a9];exact fA w _ _
 have d8:=Qcz (w:=W0) ⟨#[123]⟩ (HB.o.ext e1) (by have:=HN.o;show n+1<=_;omega);rw[i9]at d8;have f1:=hY d8;have k1:=hY e1;have j5:=hY f6;clear a9 d8 e1 f6;refine⟨trivial,?_⟩;refine(eC.2 f1.o).mono ?_;rintro e w1 ⟨⟨r,rfl⟩,e6,b3⟩;have R:=(k1.o.sb (λc=>c=B)).trans b3;obtain⟨q0,q1,q2,q3,q4,q5⟩:=(R.blk HV.o g6).c6;have lq:=(R.blk HV.o g6).lt;have b7:=b3.blk j5.o (by omega);have k0:=hY e6;have i8:=hY R;have i6:=hY b7;have l9:=b3.size;clear e6 b3 R b7 f1;gi_wp2_with fail;refine⟨trivial,?_⟩;refine(eC.2 (Qrd w1 so.a ok.length so.c)).mono ?_;rintro e w2 ⟨rfl,Y,d6⟩;have a2:=i8.o.ext Y;have c0:Agree F w w2:=λx hx=>a2.block x (HF.o x hx).1 (HF.o x hx).2
 have e4:Qb9 w2:=i0.o.sb a2 λc hc e=>by have e:c=B:=e;omega
 have d3:∀b,F b->b<w2:=λb I=>ab (HF.o b I).1 a2.size
 have c2:OI w B a b n ok ov [] w2:=⟨by have:=k0.o.ext Y;rw[show([]:List ME).length=0 from rfl,QmX];exact this,a2,i6.o.ext Y⟩;have n9:=Y.size;have l0:=d6.lt;have l1:=e4.lib.big;have j0:=hY (Qre d6 (i4.o.agree c0) d3 e4 (by omega));have g4:=hY c2;have U:=hY d3;clear Y d6 a2 c0 e4 d3 c2 q0 q1 q2 q3 q4 q5;gi_wp2_with fail;refine Qhn (gf:=208) (lb:=#[.pointer (some ⟨w1,0,none⟩)]) rfl (eO func208 (by kernel_rfl) rfl) j0.o (Agree.refl _) (an _)
  (λb I=>by
    rcases I with I|rfl|I
    .exact U.o b I
    .omega
    omega) (λ_=>rfl) (OI w B a b n ok ov) (λ_ _ _=>False)
  (λh k hl n8=>h.turn k (by omega) g0) (λh _ _ _=>h) (λW hW hz=>g4.o.nw (fx hW)) ?round ?done ?stop
 case stop=>
  rintro D c z W hD l2 hX b6;exact hX.elim
 case round=>
  rintro z x l8 W1 hI n6 a0 hG;obtain⟨tx,d,Vx,b5,b4⟩:=x;obtain⟨⟨k,hk,hd,d7⟩,b0,d4,i2⟩:=hG;dsimp only at hd d7 b0 d4 i2;have g7:=(ah.1 hk).1;have f0:=hY (hI.nw a0);have hcut:=Qgg ok ov (z.length+1);have k6:=QgR hd hk;have f5:=Qif z.length;have k7:tx.size=(QkE z.length).size+(Qa6 k).size:=by rw[d7,aK]
  have f7:=f3.o;have k2:=HN.o;have c9:n+1+(Qeq ok (ov.take z.length)+(z.length-1))+tx.size+1+Qdy d<=9000000:=by omega
  have a6:n+1+(Qeq ok (ov.take (z.length+1))+(z.length+1-1))=n+1+(Qeq ok (ov.take z.length)+(z.length-1))+tx.size+1+Qdy d:=by omega
  have i5:Qb4 d<=1100000:=by have:=QdG hd hk;have:=HC.o;omega
  have j6:=hY (HP.o _ d hd);have j2:=hY i5;have c4:=hY c9;have e2:=hY a6;have g8:=hY b0;have f2:=hY d4;have k9:=a0.size;have l5:=b0.lt;have l3:=Qfk d.kind;clear hI a0 hk hd d7 b0 d4 hcut k6 f5 k7 f7 k2 c9 a6 i5 g7;gi_wp2_with fail;refine⟨fD _ _,λW3 k3 k5 i1 i7=>?_⟩;have Z:=f0.o.turn k3 (by omega) g0;have p0:W3.cell? ⟨w,0,none⟩=some (.pointer (some ⟨B,0,none⟩)):=Z.box.cell 0;have lp:=Z.box.lt;have n7:=k3.size;have c3:=k3.blk g8.o (by omega);have b8:RV W3 F d b5 b4:=f2.o.agree λb I=>k3.block b (by have:=U.o b I;omega) (λe=>by have e:b=_:=e;have:=U.o b I;omega)
  have g3:=QqU (w:=W3) tx ⟨#[58]⟩ Z.blk (by have:=c4.o;show _+1<=_;omega);have a4:=hY Z;have g5:=hY c3;have f4:=hY b8;have j8:=hY g3;have n4:=hY i1;have l4:=hY i7;clear k3 k5 i1 i7 Z c3 b8 g3 f0 g8 f2;gi_wp2_with fail;refine⟨trivial,?_⟩;refine(Qax j8.o).mono ?_;rintro e w5 ⟨⟨r5,rfl⟩,e7,J⟩;have p5:w5.cell? ⟨w,0,none⟩=some (.pointer (some ⟨B,0,none⟩)):=(J.blk a4.o.box (by omega)).cell 0;have l7:=(J.blk a4.o.box (by omega)).lt;have n2:=J.size;have c8:=a4.o.sb.trans J;have a5:=HI.o d j6.o j2.o w5 F Vx B b5 b4 a b _ (J.blk g5.o (by omega)) (f4.o.agree λb I=>J.block b (by have:=U.o b I;omega) (HF.o b I).2) (λi hi=>⟨by have:=U.o i hi;omega,(HF.o i hi).2⟩) (by omega) e7 (by have:=c4.o;exact this) (i0.o.sb c8 λc hc e=>by have e:c=B:=e;omega) h6;have e3:=hY a5;have j1:=hY J;clear e7 J c8 a5 p0;gi_wp2_with fail;refine⟨trivial,?_⟩;refine(Qax e3.o).mono ?_;rintro e w6 ⟨⟨r6,rfl⟩,a1,X⟩;have N:=j1.o.trans X;have f8:=hY (show OI w B a b n ok ov (z++[⟨tx,d,Vx,b5,b4⟩]) w6/\Agree (λb=>(F b\/b=w1.heap.size\/b<6)\/b=w2.heap.size\/b=w2.heap.size+1) W3 w6/\W3.heap.size<=w6.heap.size from
   ⟨⟨by rw [ak,show [(⟨tx,d,Vx,b5,b4⟩:ME)].length=1 from rfl,e2.o];exact a1,a4.o.sb.trans N,N.blk a4.o.box (by omega)⟩,
     λb I=>N.block b (by
      rcases I with(I|rfl|I)|rfl|rfl
      .have:=U.o b I;omega
      all_goals omega) (λe=>by
      have e:b=B:=e;rcases I with(I|rfl|I)|rfl|rfl
      .exact (HF.o b I).2 e
      all_goals omega),N.size⟩)
  clear a1 X N;gi_wp2_with fail;exact f8.o
 rintro D xs W hD hS hI b6;have i3:xs.length=ok.length:=hS;have a3:=hI.blk;rw[i3,<-f3.o,aM]at a3;have p0:W.cell? ⟨w,0,none⟩=some (.pointer (some ⟨B,0,none⟩)):=hI.box.cell 0;have lp:=hI.box.lt;have g9:=Qcz (w:=W) ⟨#[125]⟩ a3 (by have:=HN.o;show _+1<=_;omega);have k4:=hY g9;have j4:=hY hI;have j7:=hY b6;have e0:=hY hD;have lD:=(aC.1 b6).1;clear g9 hI b6 hD hS i3 a3;gi_wp2_with fail;refine⟨trivial,?_⟩;refine(eC.2 k4.o).mono ?_;rintro e w6 ⟨⟨r6,rfl⟩,a1,X⟩;have d5:w6.heap[D]? = some (.deferred (some [])):=(X.block D lD (λe=>by have e:D=B:=e;have:=e0.o;omega)).trans j7.o;have d0:=(St.put (o':=.deferred none) d5 rfl rfl).sb;have c1:=d0.blk a1 (by have:=e0.o;omega);have f9:Sb (λc=>c=B) w _:=(j4.o.sb.trans X).comp d0 (λi hi e=>by have e:i=D:=e;have:=e0.o;omega);have j3:=hY d5;have e8:=hY c1;have j9:=hY f9;clear a1 X d5 d0 c1 f9;gi_wp2_with fail;refine⟨by simp,.inl ⟨_,_,rfl,fu j3.o,?_⟩⟩;refine⟨.tuple #[],?_,⟨_,rfl⟩,by rw[show n+(2+Qeq ok ov+(ov.length-1))=n+1+(Qeq ok ov+(ov.length-1))+1 by omega];exact e8.o,j9.o⟩;simp[results,results166,go_sem]
theorem QtY(m:Nat):Qt9 (λd=>SizeOf.sizeOf d<=m):=by
 induction m with
 |zero=>intro d hd;have:=Val.Qb7 d;omega
 |succ m ih=>
 intro d hd hc w F V B sl so a b n U h hF R N z Z h6;have Y:=h;obtain⟨k,bo,i,t,l,ok,ov⟩:=d;cases h with
 |mk bl fl bo' fo cl co hl ho hov el rl ek eo ro bk bi bt nl no=>
 unfold Qb4 at hc;unfold Qdy at z;unfold QrQ Qdy;show Calls _ (fnO k) (_++bsO k V) _ _;by_cases h2:k=2
 ·subst h2
  rw[em rfl]at z;exact(Qri U N (by omega)).mono λe w' h=>by rw[em rfl];exact h
 by_cases I:k=3
 ·subst I
  simp only[if_neg h2,if_pos]at z ⊢;exact Qrj U N (by simp[Lit.wf,IntKind.min,IntKind.max,IntKind.signed,IntKind.bits]at bi;omega) (by simp[Lit.wf,IntKind.min,IntKind.max,IntKind.signed,IntKind.bits]at bi;omega) (by omega) Z
 by_cases J:k=4
 ·subst J
  simp only[if_neg h2,if_neg I,if_pos]at z ⊢;exact Qrk U N (by omega) (by omega) Z
 by_cases X:k=5
 ·subst X
  simp only[if_neg h2,if_neg I,if_neg J,if_pos]at z ⊢;exact Qrl ih (λj d hj=>bq (ab (Val.Qqm hj) hd)) (by omega) U Y hF R N z Z h6
 by_cases D:k=6
 ·subst D
  simp only[if_neg h2,if_neg I,if_neg J,if_neg X,if_pos]at z ⊢;exact Qrm ih (λj d hj=>bq (ab (Val.Qqn hj) hd)) (by omega) U Y hF R N z Z h6
 simp only[if_neg h2,if_neg I,if_neg J,if_neg X,if_neg D]at z ⊢;have hf:fnO k=168:=by simp[fnO,h2,I,J,X,D]
 have hb:bsO k V=#[]:=by simp[bsO,h2,I,J,X,D]
 rw[hf,hb];exact Qrn N (by omega)
end Go.Proofs.YtkjkafgnnoidpaaGreatDoor
namespace Go.Proofs.YtkjkafgnnoidpaaGreatDoor
open Go.Proofs.Tryz
open Go.RowKit Go.Maps Go.Shelf
variable{w:World}{sl so:Sl}
theorem Qob{d:Val}(h:RV w (Lt w) d sl so)(hc:Qb4 d<=1100000)(hL:Qb9 w):Calls prog 68 #[Qbg d sl so] w λe w'=>e=.returned (.int .i64 (Qdy d:Int))/\Nw w w':=by
 have Z:=Qgh _ w d sl so h;have h6:=hL.lib.big;have HH:=hY h;have HC:=hY hc;have HL:=hY hL;have a5:=hY Z;clear h hc hL Z;go_in;go_wp2_with fail;generalize Y:World.alloc _ _=W0;obtain⟨X,a0,a1,R⟩:=Qap w _ _ _ _ W0 Y;have a3:=hY X;have a2:=hY R;clear Y X a1 R;refine(QkY W0 d sl so).mono ?_;rintro e w1 ⟨rfl,I,N⟩;rw[a0]at N;have U:=a2.o.ext I;have D:=(fx a3.o).trans (fx I);have z:=QtY _ d (an _) HC.o w1 (Lt w) (w.heap.size+2) (w.heap.size+1) sl so _ _ 0 N (HH.o.agree (fB D λb hb=>hb)) (λi hi=>⟨Nat.lt_of_lt_of_le hi D.size,by have hi:i<w:=hi;omega⟩) (by omega) U (by have:=a5.o;have:=HC.o;omega) (HL.o.nw D) (by omega);have J:=hY z;have a6:=hY D;have a9:=Qfk d.kind;clear I N U D z;go_wp2_with fail;refine J.o.mono ?_;rintro e w2 ⟨⟨r,rfl⟩,hb,hs⟩;have c3:w2.cell? ⟨w+1,3,none⟩=some (.int .i64 ((0+Qdy d:Nat):Int)):=hb.cell 3;rw[aA]at c3;have a4:=hY (a6.o.comp hs λi hi e=>by have e:i=w.heap.size+1:=e;omega);clear hb hs;go_wp2_with fail;go_ret;exact⟨rfl,a4.o⟩
def Qbw(d:Val):Int:=if QbN d 1≠0 then QbN d 1 else if 16<Qbp d then 5 else if 1024<Qdy d then 6 else 0
theorem Qim{d:Val}(h:RV w (Lt w) d sl so)(hc:Qb4 d<=1100000)(hL:Qb9 w):Calls prog 40 #[Qbg d sl so] w λe w'=>e=.returned (.int .i64 (Qbw d))/\Nw w w':=by
 have N:∀W,Nw w W->RV W (Lt W) d sl so:=λW D=>(h.agree (fB D λb hb=>hb)).mono λb hb=>ab hb D.size
 have J:=λW (D:Nw w W)=>Qq7 (N W D) (hL.lib.nw D)
 have hd:=λW (D:Nw w W) (hq:Qbp d<=1000000)=>QmH _ d (an _) hq W sl so (N W D)
 have hb:=λW (D:Nw w W)=>Qob (N W D) hc (hL.nw D)
 have HM:=hY J;have HD:=hY hd;have HB:=hY hb;obtain⟨r,hr⟩:∃r,Qbw d=r:=⟨_,rfl⟩;rw[hr];have HR:=hY hr;clear J hd hb hr N h hL;go_in;go_wp2_with fail;have a0:=(fv w).alloc (Qlj d sl so) 28;have b0:=fA w 28 (Qlj d sl so);refine(HM.o _ (fx a0)).mono ?_;rintro e w1 ⟨rfl,Y⟩;have I:=Y.blk b0;obtain⟨q0,q1,q2,q3,q4,q5⟩:=I.c6;have lq:=I.lt;have a1:=hY ((fx a0).trans Y);have b5:=hY I;clear a0 b0 Y I;obtain⟨m,J⟩:∃m,QbN d 1=m:=⟨_,rfl⟩;rw[J];by_cases R:m=0
 ·subst R
  have a9:=Qgc d 1 J;have b3:=hY a9;have X:=hY J;clear J a9;go_wp2_with fail;refine(HD.o _ a1.o (by have:=b3.o;omega)).mono ?_;rintro e w2 ⟨rfl,Z⟩;have a3:=b5.o.ext Z;clear q0 q1 q2 q3 q4 q5;obtain⟨q0,q1,q2,q3,q4,q5⟩:=a3.c6;have c0:=a3.lt;have a2:=hY (a1.o.trans (fx Z));clear Z a3;by_cases z:16<Qbp d
  ·have g0:decide ((16:Int)<(Qbp d:Int))=true:=ej (by omega)
   have a6:r=5:=by rw[<-HR.o,Qbw,X.o,ef (by simp),em z]
   have b8:=hY a6;clear a6 z;go_wp2_with fail;go_ret;exact⟨by rw[b8.o];rfl,a2.o⟩
  have g0:decide ((16:Int)<(Qbp d:Int))=false:=eh (by omega);have U:=hY z;clear z;go_wp2_with fail;refine(HB.o _ a2.o).mono ?_;rintro e w3 ⟨rfl,a4⟩;have a5:=hY (a2.o.trans a4);clear a4 q0 q1 q2 q3 q4 q5;by_cases hl:1024<Qdy d
  ·have g1:decide ((1024:Int)<(Qdy d:Int))=true:=ej (by omega)
   have b6:=hY (show r=6 by rw[<-HR.o,Qbw,X.o,ef (by simp),ef U.o,em hl]);clear hl;go_wp2_with fail;go_ret;exact⟨by rw[b6.o];rfl,a5.o⟩
  have g1:decide ((1024:Int)<(Qdy d:Int))=false:=eh (by omega);have b4:=hY (show r=0 by rw[<-HR.o,Qbw,X.o,ef (by simp),ef U.o,ef hl]);clear hl;go_wp2_with fail;go_ret;exact⟨by rw[b4.o];rfl,a5.o⟩
 have g0:(m != 0)=true:=by simpa using R
 have b7:=hY (show r=m by rw[<-HR.o,Qbw,J,em R]);clear J R;go_wp2_with fail;go_ret;exact⟨by rw[b7.o];rfl,a1.o⟩
mutual
def wfV:Val->Prop
 |.mk _ _ _ _ l ok ov=>ok.length=ov.length/\Qkk l/\Qkk ov
def Qkk:List Val->Prop
 |[]=>True
 |d::r=>wfV d/\Qkk r
end
theorem QiP:∀{l:List Val},(∀(j:Nat) d,l[j]? = some d->wfV d)->Qkk l
 |[],_=>by unfold Qkk;trivial
 | a :: l,h=>by
   unfold Qkk;exact⟨h 0 a rfl,QiP λj d z=>h (j+1) d (by simpa using z)⟩
variable{F:Nat->Prop}
theorem RV.wf{d:Val}(h:RV w F d sl so):wfV d:=by
 induction h with
 | mk bl fl bo fo cl co hl ho hov el rl ek eo ro bk bi bt nl no ihl iho=>
   unfold wfV;exact⟨hov.symm,QiP ihl,QiP iho⟩
theorem Qsz{x y:Int}(h:(if x≠0 then x else y)=0):x=0/\y=0:=by
 by_cases z:x=0
 .exact ⟨z,by rw[ef (by simp[z])]at h;exact h⟩
 rw[em z]at h;exact absurd h z
theorem QqA(n:Nat):∀(a b:Val) (p q:Nat),SizeOf.sizeOf a<=n->wfV a->wfV b->QbN a p=0->QbN b q=0->Qbo a b=0->a=b:=by
 induction n with
 |zero=>intro a b p q h;have:=Val.Qb7 a;omega
 | succ n ih=>
   intro a b p q hn U R I D z;have hl:∀(l1 l2:List Val) (p q:Nat),SizeOf.sizeOf l1<=n->Qkk l1->Qkk l2->Qbz l1 p=0->Qbz l2 q=0->cmpL l1 l2=0->l1=l2:=by
    intro l1
    induction l1 with
    | nil=>
      intro l2 p q _ _ _ _ _ z;cases l2 with
      |nil=>rfl
      |cons b r=>simp[cmpL]at z
    | cons a l1 ihl=>
      intro l2 p q hs U R I D z;cases l2 with
      |nil=>simp[cmpL]at z
      | cons b l2=>
        simp only[List.cons.sizeOf_spec]at hs;unfold Qkk at U R;unfold Qbz at I D;unfold cmpL at z;obtain⟨b3,z⟩:=Qsz z;obtain⟨a1,I⟩:=Qsz I;obtain⟨a9,D⟩:=Qsz D;rw[ih a b p q (by omega) U.1 R.1 a1 a9 b3,ihl l2 p q (by omega) U.2 R.2 I D z]
   have ho:∀(Y J:List Val) (Z X:List ByteArray) (p1 p2:Option ByteArray) (q1 q2:Nat),SizeOf.sizeOf Y<=n->Qkk Y->Qkk J->Z.length=Y.length->X.length=J.length->Qer p1 Z Y q1=0->Qer p2 X J q2=0->Qfe Y Z X J=0->Z=X/\Y=J:=by
    intro Y
    induction Y with
    | nil=>
      intro J Z X p1 p2 q1 q2 _ _ _ h1 h2 _ _ z;cases J with
      | nil=>
        simp only[List.length_nil,List.length_eq_zero_iff]at h1 h2;exact⟨by rw[h1,h2],rfl⟩
      |cons b r=>simp[Qfe]at z
    | cons a Y ihl=>
      intro J Z X p1 p2 q1 q2 hs U R h1 h2 I D z;cases J with
      |nil=>simp[Qfe]at z
      | cons b J=>
        cases Z with
        |nil=>simp at h1
        | cons x Z=>
          cases X with
          |nil=>simp at h2
          | cons y X=>
            simp only[List.cons.sizeOf_spec]at hs;unfold Qkk at U R;unfold Qer at I D;unfold Qfe at z;have z:(if Qbn x y≠0 then Qbn x y else if Qbo a b≠0 then Qbo a b else Qfe Y Z X J)=0:=z;have I:(if !Lib.validD x.data.toList then 3 else if p1.any (λq=>!klt q x)then 8 else if QbN a q1≠0 then QbN a q1 else Qer (some x) Z Y q1)=0:=I;have D:(if !Lib.validD y.data.toList then 3 else if p2.any (λq=>!klt q y)then 8 else if QbN b q2≠0 then QbN b q2 else Qer (some y) X J q2)=0:=D;obtain⟨b5,z⟩:=Qsz z;obtain⟨b3,z⟩:=Qsz z;have a1:QbN a q1=0/\Qer (some x) Z Y q1=0:=by
             split at I
             .cases I
             split at I
             .cases I
             exact Qsz I
            have a9:QbN b q2=0/\Qer (some y) X J q2=0:=by
             split at D
             .cases D
             split at D
             .cases D
             exact Qsz D
            obtain⟨e1,e2⟩:=ihl J Z X (some x) (some y) q1 q2 (by omega) U.2 R.2 (by simpa using h1) (by simpa using h2) a1.2 a9.2 z;rw[QhZ.1 b5,e1,ih a b q1 q2 (by omega) U.1 R.1 a1.1 a9.1 b3,e2];exact⟨rfl,rfl⟩
   obtain⟨k,b1,i,t,l,ok,ov⟩:=a;obtain⟨k',b2,i',t',l',N,a0⟩:=b;simp only[Val.mk.sizeOf_spec]at hn;unfold wfV at U R;unfold QbN at I D;have z:(if k≠k' then Qcp k k' else if k=2 then Qi7 b1 b2 else if k=3 then Qcp i i' else if k=4 then Qbn t t' else if k=5 then cmpL l l' else if k=6 then Qfe ov ok N a0 else 0)=0:=by
    have h2:=z;unfold Qbo at h2;exact h2
   have hk:k=k':=by
    by_cases h:k=k'
    .exact h
    rw[em h,QjN]at z;exact absurd z h
   subst hk;have ha:QbD k b1 i t l.length ok.length=false:=by
    cases h:QbD k b1 i t l.length ok.length with
    |false=>rfl
    |true=>rw[h,em rfl]at I;cases I
   have hb:QbD k b2 i' t' l'.length N.length=false:=by
    cases h:QbD k b2 i' t' l'.length N.length with
    |false=>rfl
    |true=>rw[h,em rfl]at D;cases D
   rw[ha]at I;rw[hb]at D;have b0:∀{t:ByteArray},t.size=0->t=ByteArray.empty:=λh=>dR (Array.eq_empty_of_size_eq_zero h)
   have b4:∀{ok:List ByteArray} {ov:List Val},ok.length=ov.length->ok.length=0->ok=[]/\ov=[]:=λh1 h2=>⟨List.eq_nil_of_length_eq_zero h2,ar (h1▸h2)⟩
   unfold QbD at ha hb;by_cases hr:k<1\/6<k
   .rw [em hr]at ha;cases ha
   rw[ef hr]at ha hb;simp only[Bool.or_eq_false_iff,Bool.and_eq_false_iff,bne_eq_false_iff_eq]at ha hb;rw[ef (by simp)]at z;obtain⟨⟨⟨⟨a2,a3⟩,a4⟩,a5⟩,a6⟩:=ha;obtain⟨⟨⟨⟨c2,c3⟩,c4⟩,c5⟩,c6⟩:=hb;have eb:b1=b2:=by
    by_cases h:k=2
    .subst h;rw[em rfl,QmA]at z;exact z
    rw[a2.resolve_left h,c2.resolve_left h]
   have ei:i=i':=by
    by_cases h:k=3
    .subst h;rw[ef (by decide),em rfl,QjN]at z;exact z
    rw[a3.resolve_left h,c3.resolve_left h]
   have et:t=t':=by
    by_cases h:k=4
    .subst h;rw[ef (by decide),ef (by decide),em rfl,QhZ]at z;exact z
    rw[b0 (a4.resolve_left h),b0 (c4.resolve_left h)]
   have el:l=l':=by
    by_cases h:k=5
    ·subst h
     rw[ef (by decide),ef (by decide),ef (by decide),em rfl]at z;have m1:Qbz l (p+1)=0:=by
      simp only[Bool.false_eq_true,if_false]at I;split at I
      .cases I
      simpa using I
     have m2:Qbz l' (q+1)=0:=by
      simp only[Bool.false_eq_true,if_false]at D;split at D
      .cases D
      simpa using D
     exact hl l l' _ _ (by omega) U.2.1 R.2.1 m1 m2 z
    rw[ar (a5.resolve_left h),ar (c5.resolve_left h)]
   have eo:ok=N/\ov=a0:=by
    by_cases h:k=6
    ·subst h
     rw[ef (by decide),ef (by decide),ef (by decide),ef (by decide),em rfl]at z;have m1:Qer none ok ov (p+1)=0:=by
      simp only[Bool.false_eq_true,if_false]at I;split at I
      .cases I
      simpa using I
     have m2:Qer none N a0 (q+1)=0:=by
      simp only[Bool.false_eq_true,if_false]at D;split at D
      .cases D
      simpa using D
     exact ho ov a0 ok N _ _ _ _ (by omega) U.2.2 R.2.2 U.1 R.1 m1 m2 z
    obtain⟨e1,e2⟩:=b4 U.1 (a6.resolve_left h);obtain⟨e3,e4⟩:=b4 R.1 (c6.resolve_left h);rw[e1,e2,e3,e4];exact⟨rfl,rfl⟩
   rw[eb,ei,et,el,eo.1,eo.2]
def okV(v:Val):Prop:=wfV v/\Qbw v=0
theorem okV.may{v:Val}(h:okV v):QbN v 1=0:=by
 have h1:=h.2;unfold Qbw at h1;by_cases h2:QbN v 1=0
 .exact h2
 rw[em h2]at h1;exact h1
theorem okV.eq{a b:Val}(z:okV a)(D:okV b)(h:Qbo a b=0):a=b:=QqA _ a b 1 1 (an _) z.1 D.1 z.may D.may h
structure OkM(M:List Ent):Prop where
 sorted:Sorted M
 ok:∀e∈M,Qbd e.1=0/\okV e.2
theorem OkM.nil:OkM []:=⟨List.Pairwise.nil,λe h=>by cases h⟩
variable{M:List Ent}
theorem OkM.get(h:OkM M){k:ByteArray}{v:Val}(z:Qam M k=some v):Qbd k=0/\okV v:=h.ok (k,v) (Qcg z)
theorem OkM.put(h:OkM M){k:ByteArray}{v:Val}(z:Qbd k=0)(J:okV v):OkM (Qbq M k v):=
 ⟨QaS h.sorted k v,λe I=>(QiB I).elim (λD=>D▸⟨z,J⟩) (h.ok e)⟩
theorem OkM.del(h:OkM M)(k:ByteArray):OkM (Qb2 M k):=⟨QaR h.sorted k,λe z=>h.ok e ((Qba M k).subset z)⟩
theorem QdW:∀{a b:List Ent},Sorted a->Sorted b->(∀k,Qam a k=Qam b k)->a=b
 |[],[],_,_,_=>rfl
 |[],f::b,_,_,h=>by have:=h f.1;simp[Qam]at this
 |e::a,[],_,_,h=>by have:=h e.1;simp[Qam]at this
 | e :: a,f :: b,ha,hb,h=>by
   obtain⟨U,Y⟩:=aW.1 ha;obtain⟨b1,b2⟩:=aW.1 hb;have z:∀{x:Ent} {l:List Ent} {k:ByteArray},(∀y∈l,klt x.1 y.1=true)->klt k x.1=true->Qam (x::l) k=none:=λ{x l k} h1 h2=>by
    have:∀y∈x::l,y.1≠k:=λy N e=>by
     rcases aG.1 N with rfl|N
     .rw [e,Qah]at h2;cases h2
     have:=QaI h2 (h1 y N);rw[e,Qah]at this;cases this
    cases J:Qam (x::l) k with
    |none=>rfl
    |some v=>exact absurd rfl (this _ (Qcg J))
   have X:e.1=f.1:=by
    refine QbR ?_ ?_
    ·cases I:klt e.1 f.1 with
     |false=>rfl
     | true=>
       have h1:=h e.1;rw[Qam,em rfl,z b1 I]at h1;cases h1
    cases I:klt f.1 e.1 with
    |false=>rfl
    | true=>
      have h1:=h f.1;rw[z U I,Qam,em rfl]at h1;cases h1
   have D:=h e.1;rw[Qam,em rfl,Qam,em X.symm]at D;injection D with D;have Z:e=f:=ed X D;subst Z;rw[QdW Y b2 λk=>?_];by_cases R:e.1=k
   ·have n1:∀ {l:List Ent},(∀ y∈l,klt e.1 y.1=true)→Qam l k=none:=fun {l} h1=>by
     cases J:Qam l k with
     |none=>rfl
     |some v=>have:=h1 _ (Qcg J);rw[R]at this;rw[show((k,v):Ent).1=k from rfl,Qah]at this;cases this
    rw[n1 U,n1 b1]
   have:=h k;rwa[Qam,ef R,Qam,ef R]at this
structure QiS(B:List Ent)(C:Slots)(M:List Ent):Prop where
 below:OkM B
 ok:OkM M
 chg:Qav C
 now:∀k,Qkq B C k=Qam M k
theorem QiS.com{B:List Ent}{C:Slots}(h:QiS B C M):QfC B C B=M:=by
 have hs:=Qcw B C B h.below.sorted;have X:∀e∈QfC B C B,okV e.2:=by
  have:∀(J:Slots) (t:List Ent),(∀p∈J,p∈C)->(∀e∈t,okV e.2)->∀e∈QfC B J t,okV e.2:=by
   intro J
   induction J with
   |nil=>intro t _ D;rw[QfC];exact D
   | cons p r ih=>
     intro t N D;obtain⟨k,s⟩:=p;have U:=λq Y=>N q (aI _ Y)
     cases s with
     | some v=>
       rw[QfC];split
       .exact ih t U D
       refine ih _ U λe z=>?_
       rcases QiB z with rfl|z
       ·have h1:=h.now k
        rw[Qkq,Qio h.chg (N _ (az ..))]at h1;exact(h.ok.get h1.symm).2
       exact D e z
     | none=>
       rw[QfC];split
       .exact ih _ U λe z=>D e ((Qba t k).subset z)
       exact ih t U D
  exact this C B (λp N=>N) λe z=>(h.below.ok e z).2
 refine QdW hs h.ok.sorted λk=>?_
 have h1:=QeS B (k:=k) C B h.chg h.below.sorted rfl;rw[h.now k]at h1;cases R:Qam (QfC B C B) k with
 | none=>
   cases I:Qam M k with
   |none=>rfl
   |some b=>rw[R,I]at h1;cases h1
 | some a=>
   cases I:Qam M k with
   |none=>rw[R,I]at h1;cases h1
   | some b=>
     rw[R,I]at h1;simp only[Qt2,decide_eq_true_eq]at h1;exact congrArg some ((X _ (Qcg R)).eq (h.ok.get I).2 h1)
theorem QiS.start{B:List Ent}(h:OkM B):QiS B [] B:=⟨h,h,List.Pairwise.nil,λk=>rfl⟩
theorem QiS.put{B:List Ent}{C D:Slots}(h:QiS B C M){k:ByteArray}{v:Val}(I:Qbd k=0)(J:okV v)(hs:Qav D)(N:∀x,Qa5 D x=if x=k then some (some v)else Qa5 C x):QiS B D (Qbq M k v):=
 ⟨h.below,h.ok.put I J,hs,λx=>by
   unfold Qkq;rw[N,Qdg];by_cases z:x=k
   .rw [em z,em z]
   rw[ef z,ef z];exact h.now x⟩
theorem QiS.del{B:List Ent}{C D:Slots}(h:QiS B C M){k:ByteArray}(hs:Qav D)(I:∀x,Qa5 D x=if x=k then some none else Qa5 C x):QiS B D (Qb2 M k):=
 ⟨h.below,h.ok.del k,hs,λx=>by
   unfold Qkq;rw[I,QcL _ _ _ h.ok.sorted];by_cases z:x=k
   .rw [em z,em z]
   rw[ef z,ef z];exact h.now x⟩
def inI(lo hi:ByteArray)(op:Bool)(e:Ent):Bool:=!(klt e.1 lo)&&(op||klt e.1 hi)
def QaN(lo hi:ByteArray)(op:Bool)(es:List Ent):List Ent:=es.filter (inI lo hi op)
theorem QaZ(lo hi:ByteArray)(op:Bool)(a b:List Ent):QaN lo hi op (a++b)=QaN lo hi op a++QaN lo hi op b:=bN ..
variable{lo hi:ByteArray}{op:Bool}
theorem QfK{es:List Ent}(h:∀e∈es,klt e.1 lo=true):QaN lo hi op es=[]:=
 List.filter_eq_nil_iff.2 λe z=>by simp[inI,h e z]
def Qjn(hi:ByteArray)(op:Bool)(k:ByteArray):Bool:=!op && !(klt k hi)
theorem QdR{es:List Ent}(h:∀e∈es,Qjn hi op e.1=true):QaN lo hi op es=[]:=
 List.filter_eq_nil_iff.2 λe z=>by
  have:=h e z;simp only[Qjn,Bool.and_eq_true,Bool.not_eq_true']at this;simp[inI,this.1,this.2]
theorem Qoy{a b:ByteArray}(h:Qjn hi op a=true)(z:klt a b=true):Qjn hi op b=true:=by
 simp only[Qjn,Bool.and_eq_true,Bool.not_eq_true']at h ⊢;refine⟨h.1,?_⟩;cases D:klt b hi
 .rfl
 rw[QaI z D]at h;cases h.2
theorem QhS{e:Ent}(h1:klt e.1 lo=false)(h2:Qjn hi op e.1=false):QaN lo hi op [e]=[e]:=by
 have:inI lo hi op e=true:=by
  simp only[Qjn,Bool.and_eq_false_iff,Bool.not_eq_false']at h2;rcases h2 with h2|h2<;>simp[inI,h1,h2]
 simp[QaN,this]
theorem Qe9{A B:List Ent}(hs:Sorted (A++B))(h:∃e∈A,Qjn hi op e.1=true):QaN lo hi op B=[]:=by
 obtain⟨e,D,h⟩:=h;exact QdR λx z=>Qoy h ((Qcs hs).2.2 e D x z)
theorem le_last{es:List Ent}(hs:Sorted es){e:Ent}(z:e∈es):klt (QbM es) e.1=false:=by
 have D:es≠[]:=by rintro rfl;cases z
 rcases List.eq_nil_or_concat es with rfl |⟨a,x,rfl⟩
 .exact absurd rfl D
 rw[List.concat_eq_append]at hs z;have I:QbM (a.concat x)=x.1:=by simp[QbM]
 rw[I];rcases aB.1 z with h|h
 .exact Qby ((Qcs hs).2.2 e h x (bn.2 rfl))
 rw[bn.1 h];exact Qah _
theorem QqI{es:List Ent}(hs:Sorted es){e:Ent}(z:e∈es):klt e.1 (Qaw es)=false:=by
 cases es with
 |nil=>cases z
 | cons x es=>
   show klt e.1 x.1=false;rcases aG.1 z with rfl|h
   .exact Qah _
   exact Qby ((aW.1 hs).1 e h)
theorem QmZ{es:List Ent}(hs:Sorted es)(h:klt (QbM es) lo=true):∀e∈es,klt e.1 lo=true:=λe z=>QdJ (le_last hs z) h
theorem QfD{es:List Ent}(hs:Sorted es)(h:Qjn hi op (Qaw es)=true):∀e∈es,Qjn hi op e.1=true:=λe z=>by
 simp only[Qjn,Bool.and_eq_true,Bool.not_eq_true']at h ⊢;refine⟨h.1,?_⟩;cases D:klt e.1 hi
 .rfl
 have:=QdJ (QqI hs z) D;rw[h.2]at this;cases this
def QkI:List UInt8->Option (List UInt8)
 |[]=>none
 | b :: t=>match QkI t with
   |some e=>some (b::e)
   |none=>if b=255 then none else some [b+1]
theorem QrR(k:List UInt8):Op.bytesLess k []=false:=by cases k<;>rfl
theorem Qh3{b c:UInt8}(z:b≠255):(c<b+1)↔(c<b\/c=b):=by
 have h1:(b+1).toNat=b.toNat+1:=by
  rw[UInt8.toNat_add];have:b.toNat≠255:=λe=>z (UInt8.toNat_inj.1 e)
  have:=b.toNat_lt;show(b.toNat+1)%256=_;omega
 rw[UInt8.lt_iff_toNat_lt,UInt8.lt_iff_toNat_lt,h1,<-UInt8.toNat_inj];omega
theorem QhC:∀p k:List UInt8,(p.isPrefixOf k)=(!(Op.bytesLess k p)&&(match QkI p with|none=>true|some e=>Op.bytesLess k e))
 |[],k=>by simp[QrR,QkI,List.isPrefixOf]
 |b::t,[]=>by simp[Op.bytesLess,List.isPrefixOf]
 | b :: t,c :: s=>by
   have R:=QhC t s;simp only[List.isPrefixOf,Op.bytesLess,QkI];by_cases D:c<b
   ·have J:(b == c)=false:=eu.2 (by rintro rfl;exact absurd D (UInt8.lt_irrefl _))
    simp[D,J]
   by_cases N:c=b
   ·subst N
    cases U:QkI t with
    | some e=>
      rw[U]at R;simp[Op.bytesLess,R,UInt8.lt_irrefl]
    | none=>
      rw[U]at R;by_cases z:c=255
      .subst z;simp[R,UInt8.lt_irrefl]
      have h1:c<c+1:=(Qh3 z).2 (.inr rfl);simp[Op.bytesLess,R,UInt8.lt_irrefl,z,h1]
   have J:(b==c)=false:=eu.2 λe=>N e.symm
   have I:(c==b)=false:=eu.2 N;simp only[J,Bool.false_and,D,decide_false,I,Bool.or_self,Bool.not_false,Bool.true_and];cases U:QkI t with
   |some e=>simp[Op.bytesLess,D,I]
   | none=>
     by_cases z:b=255
     ·exfalso
      subst z;have h1:=UInt8.not_lt.1 D;have h2:c<=255:=UInt8.le_iff_toNat_le.2 (by have:=c.toNat_lt;show c.toNat<=255;omega);exact N (UInt8.le_antisymm h2 h1)
     have h1:¬c<b+1:=λh=>by
      rcases(Qh3 z).1 h with h|h
      .exact D h
      exact N h
     simp[z,Op.bytesLess,h1,QrR]
theorem QkJ:∀n:Nat,QkI (List.replicate n 255)=none
 |0=>rfl
 |n+1=>by rw[dK,QkI,QkJ n];rfl
theorem Qoz{b:UInt8}(z:b≠255)(n:Nat):∀a:List UInt8,QkI (a++b::List.replicate n 255)=some (a++[b+1])
 |[]=>by rw[aJ,QkI,QkJ];simp[z]
 |x::a=>by rw[aF,QkI,Qoz z n a];rfl
abbrev inV(lo hi:ByteArray)(op:Bool):Value:=.agg #[.string lo,.string hi,.bool op]
theorem Qih(w:World)(lo hi:ByteArray)(op:Bool)(k:ByteArray):Calls prog 252 #[inV lo hi op,.string k] w λe w'=>e=.returned (.bool (Qjn hi op k))/\Ext w w':=by
 cases op
 ·go_in
  go_wp2_with fail;go_ret;exact⟨rfl,(fv w).alloc _ _⟩
 go_in;go_wp2_with fail;go_ret;exact⟨rfl,(fv w).alloc _ _⟩
structure QnV(At:World->Prop)(nv:Value)(es:List Ent):Prop where
 ext:∀{W W'},At W->Ext W W'->At W'
 ptr:∃p,nv=.pointer p
 height:∀W,At W->Calls prog 94 #[nv] W λe w'=>e=.returned (.int .i64 0)/\W=w'
 size:∀W,At W->Calls prog 98 #[nv] W λe w'=>e=.returned (.int .i64 es.length)/\∃q,w'=W.drewN q
 kids:∀W,At W->Calls prog 95 #[nv] W λe w'=>e=.returned (.slice none 0 0)/\W=w'
 entry:∀W,At W->∀(i:Nat) (e:Ent),es[i]? = some e->Calls prog 100 #[nv,.int .i64 i] W (QdA e.1 e.2 W)
 none:∀W,At W->∀i:Int,(i<0\/es.length<=i)->Calls prog 100 #[nv,.int .i64 i] W λe w'=>e=.returned (.tuple #[Qgu ByteArray.empty zeroV Sl.none Sl.none,.bool false])/\Ext W w'
 sorted:Sorted es
 few:es.length<=8
def Qdu(F:Nat->Prop)(h:Nat)(t:PT h)(W:World):Prop:=IsN W F h t/\∀b,F b->b<W.heap.size
variable{h:Nat}{W W':World}
theorem Qdu.ext{t:PT h}(a:Qdu F h t W)(k:Ext W W'):Qdu F h t W':=⟨a.1.agree (k.agree a.2),λb z=>ab (a.2 b z) k.size⟩
theorem Qdu.lt{t:PT h}(a:Qdu F h t W):IsN W (Lt W) h t:=a.1.mono a.2
theorem QmW{t:PT 0}(ok:OkT 0 t)(hs:Sorted (ents 0 t)):QnV (Qdu F 0 t) (ptr 0 t) (ents 0 t) where
 ext:=Qdu.ext
 ptr:=⟨_,rfl⟩
 height W a:=QaO a.1
 size W a:=Qgo a.1 (al (show(ents 0 t).length<=8 from ok) (by decide))
 kids W a:=QjA a.1
 entry W a i e h:=Qjo a.lt h
 none W a i h:=QhH a.lt h
 sorted:=hs
 few:=ok
theorem Qo6:QnV (λ_=>True) (.pointer none) [] where
 ext _ _:=trivial
 ptr:=⟨_,rfl⟩
 height W _:=Qd8 W
 size W _:=(Qme W).mono λe w' ⟨h1,h2⟩=>⟨h1,0,h2.symm⟩
 kids W _:=QlQ W
 entry W _ i e h:=by simp at h
 none W _ i _:=Qjp W i
 sorted:=List.Pairwise.nil
 few:=by simp
variable{nv:Value}{b1 b2:Nat}
theorem Qmz{k k':ByteArray}{v:Val}{i:Nat}(h1:W.cell? ⟨b1,0,none⟩=some nv)(h2:W.cell? ⟨b2,0,none⟩=some (.string k))
  (J:∃p,nv=.pointer p) (I:Calls prog 100 #[nv,.int .i64 i] W (QdA k' v W)) :
  Calls prog 258 #[.int .i64 i,.pointer (some ⟨b1,0,none⟩),.pointer (some ⟨b2,0,none⟩)] W λe w'=>e=.returned (.bool !(klt k' k))/\Ext W w':=by
 obtain⟨p,rfl⟩:=J;have z:=eH W _ h2;go_in;go_wp2_with fail;refine I.mono ?_;rintro e w1 ⟨sl,so,rfl,D,-⟩;have R:=(D.cell z).trans h2;have U:b2<w1:=ab z D.size;have N:=hY D;clear I D h2;go_wp2;go_ret;exact⟨rfl,N.o.alloc _ _⟩
theorem Qn6{At:World->Prop}{es:List Ent}(D:QnV At nv es)(hw:At w)(k:ByteArray):Calls prog 257 #[nv,.string k] w λe w'=>e=.returned (.int .i64 (Qcc es k))/\Ext w w':=by
 obtain⟨pp,rfl⟩:=D.ptr;have hl:=D.few;have a4:∀W,Ext w W->W.cell? ⟨w,0,none⟩=some (.pointer pp)->W.cell? ⟨w+1,0,none⟩=some (.string k)->Calls prog 97 #[.int .i64 es.length,.func (.func 258) #[] #[.pointer (some ⟨w,0,none⟩),.pointer (some ⟨w+1,0,none⟩)]] W (QcX es.length (λi=>!(klt ((es[i]?.map Prod.fst).getD ByteArray.empty) k)) W):=by
  intro W hW c1 c2;refine Qed 258 _ _ es.length _ W (eO func258 (by kernel_rfl) rfl) (by omega) ?_ ?_
  ·intro i W' hi N
   obtain⟨x,Y⟩:∃x,es[i]? = some x:=⟨_,ac hi⟩;rw[Y];exact Qmz ((N.cell (eH W _ c1)).trans c1) ((N.cell (eH W _ c2)).trans c2) ⟨_,rfl⟩ (D.entry W' (D.ext (D.ext hw hW) N) i x Y)
  intro i j b5 hj z;by_cases a0:i=j
  .subst a0;exact z
  obtain⟨x,Y⟩:∃x,es[i]? = some x:=⟨_,ac (by omega)⟩;obtain⟨y,hy⟩:∃y,es[j]? = some y:=⟨_,ac hj⟩;have a6:=QdX D.sorted (i:=i) (j:=j) (by omega) Y hy;rw[Y]at z;rw[hy];simp only[Option.map_some,Option.getD_some,Bool.not_eq_true']at z ⊢;cases b0:klt y.1 k
  .rfl
  have:=QaI a6 b0;rw[z]at this;cases this
 have HC:=hY D;have a5:=hY a4;have HW:=hY hw;clear D a4 hw;go_in;go_wp2_with fail;generalize a1:World.alloc _ _=W0;obtain⟨Z,a9,R,U⟩:=Qap w _ _ _ _ W0 a1;have q0:W0.cell? ⟨w,0,none⟩=some (.pointer pp):=R.cell 0;have J:=hY Z;have b3:=hY R;have b4:=hY U;clear a1 R U Z a9;refine(HC.o.size W0 (HC.o.ext HW.o J.o)).mono ?_;rintro e w1 ⟨rfl,q,rfl⟩;clear q0;go_wp2_with fail;refine(a5.o _ (J.o.drewN q) (b3.o.cell 0) (b4.o.cell 0)).mono ?_;rintro e w1 ⟨p,rfl,hp,a2,a3,X⟩;have I:Qcc es k=p:=QgZ hp (λi e hi he=>by
   have:(!(klt ((es[i]?.map Prod.fst).getD ByteArray.empty) k))=false:=a2 i hi;rw[he]at this;simpa using this) (λe he=>by
   have:(!(klt ((es[p]?.map Prod.fst).getD ByteArray.empty) k))=true:=a3 p (an _) (ah.1 he).1;rw[he]at this;simpa using this)
 have HE:=hY ((J.o.drewN q).trans X);have HP:=hY I;clear a2 a3 I X;go_wp2_with fail;go_ret;exact⟨by rw[HP.o];rfl,HE.o⟩
theorem Qtu{t:PT (h+1)}(ok:OkT (h+1) t){z:PT h}(D:z∈t.2):ents h z≠[]:=by
 have h1:=ok.2.2 z D;have:=QbB h z h1.1 (by omega);intro e;rw[e]at this;simp at this
def Qgt(F:Nat->Prop)(T:RT)(W:World):Prop:=IsT W F T/\∀b,F b->b<W.heap.size
variable{T:RT}
theorem Qgt.ext(a:Qgt F T W)(k:Ext W W'):Qgt F T W':=⟨a.1.agree (k.agree a.2),λb z=>ab (a.2 b z) k.size⟩
attribute [local go_sem] Oper.semAt_some
abbrev Qst(x:LE):Array Value:=#[.string x.k,Qbg x.v x.sl x.so]
structure Qmt(all:List Ent)(pre:List LE)(x:LE)(W0 W1:World):Prop where
 at_:all[pre.length]? = some x.ent
 pre_:pre.map LE.ent=all.take pre.length
 val:RV W1 (In W0.heap.size W1.heap.size) x.v x.sl x.so
 key:x.k.size<=maxLen
def Qbl(lo hi:ByteArray)(op:Bool)(es all:List Ent)(pre:List LE)(J:List LE->(Nat->Prop)->World->Prop)(Jx:List LE->World->Prop)(C:Nat->Prop)(W:World)(e:Ending)(W':World):Prop:=
 (∃(new:List LE) (C':Nat->Prop) (W0:World),(e=.returned (.bool true)\/(e=.returned (.bool false)/\∃x∈es,Qjn hi op x.1=true))/\J (pre++new) C' W0/\Ext W0 W'/\new.map LE.ent=QaN lo hi op es/\St C W W'/\∀b,C' b->C b\/W.heap.size<=b)\/
 (e=.returned (.bool false)/\St C W W'/\∃pre' W0,Jx pre' W0/\Ext W0 W'/\pre'.map LE.ent <+: all)
variable{all rest:List Ent}{x:LE}
theorem Qnn{pre z:List LE}{A:List Ent}{B:List Ent}(D:all=pre.map LE.ent++(QaN lo hi op (A++x.ent::B)++rest))(J:z.map LE.ent=QaN lo hi op A)(h1:klt x.k lo=false)(h2:Qjn hi op x.k=false) :
  all[(pre++z).length]? = some x.ent/\(pre++z).map LE.ent=all.take (pre++z).length/\(z++[x]).map LE.ent=QaN lo hi op (A++[x.ent]):=by
 have R:QaN lo hi op (A++x.ent::B)=QaN lo hi op A++(x.ent::QaN lo hi op B):=by
  rw[show A++x.ent::B=A++([x.ent]++B)from rfl,QaZ,QaZ,QhS (e:=x.ent) h1 h2];rfl
 rw[R,<-J]at D;have N:all=(pre++z).map LE.ent++(x.ent ::(QaN lo hi op B++rest)):=by rw[D];simp
 have I:(pre++z).length=((pre++z).map LE.ent).length:=by simp
 refine⟨?_,?_,?_⟩
 .rw [N,I,aU (an _),cW];rfl
 .rw [N,I,dA]
 rw[aL,J,QaZ,aR,be,QhS (e:=x.ent) h1 h2]
theorem Qk5{es:List Ent}(hs:Sorted es){i:Nat}{x:Ent}(J:es[i]? = some x)(I:Qjn hi op x.1=true):QaN lo hi op (es.take i)=QaN lo hi op es:=by
 have hd:es.drop i=x::es.drop (i+1):=by
  obtain⟨h1,rfl⟩:=ah.1 J;exact aE h1
 conv=>rhs;rw[<-aX i es]
 rw[QaZ,QdR (es:=es.drop i),aY];intro e z;have D:Sorted (es.drop i):=cE (dP _ _) hs;rw[hd]at z D;rcases aG.1 z with rfl|z
 .exact I
 exact Qoy I ((aW.1 D).1 e z)
variable{n:Nat}
theorem Qf5{α:Type}{l:List α}{x:α}(h:l[n]? = some x):l.take n++[x] <+: l:=by
 have e:l.take (n+1)=l.take n++[x]:=by rw[aT,h];rfl
 rw[<-e];exact List.take_prefix _ _
structure Qtb(lo hi:ByteArray)(op:Bool)(es:List Ent)(At:World->Prop)(pre:List LE)(J:List LE->(Nat->Prop)->World->Prop)(C:Nat->Prop)(W:World)(i:Nat)(new:List LE)(C':Nat->Prop)(Wj wr:World):Prop where
 j:J (pre++new) C' Wj
 ext:Ext Wj wr
 new_:new.map LE.ent=QaN lo hi op (es.take i)
 st:St C W wr
 sub:∀b,C' b->C b\/W.heap.size<b
 box:Blk wr W.heap.size 274 #[.string lo,.string hi,.bool op]
 at_:At wr
variable{W0:World}
theorem Qki{At:World->Prop}{es:List Ent}(hc:QnV At nv es)(b0:∀W W',At W->Agree F W W'->W.heap.size<=W'.heap.size->At W')(e1:∀e∈es,e.1.size<=maxLen){pre:List LE}
  {l:Nat} {J:List LE->(Nat->Prop)->World->Prop} {Jx:List LE->World->Prop} (hT:Takes prog l Qst (Qmt all) J Jx) {C:Nat->Prop} (hJ:J pre C W0) (hx:Ext W0 W) (hw:At W) (hF:∀b,F b->b<W.heap.size/\¬C b) (a6:all=pre.map LE.ent++(QaN lo hi op es++rest)) :
  Calls prog 250 #[nv,inV lo hi op,.func (.yield l) #[] #[]] W (Qbl lo hi op es all pre J Jx C W):=by
 obtain⟨pp,rfl⟩:=hc.ptr;have hl:=hc.few;have e8:=hT.lt pre C W0 hJ;have d5:Ext W (W.alloc (.cells #[.string lo,.string hi,.bool op] 274)):=(fv W).alloc _ _;have b6:=fA W 274 #[.string lo,.string hi,.bool op];have b7:=Qn6 hc (hc.ext hw d5) lo;obtain⟨c9,b8⟩:=Qg0 es lo hc.sorted;obtain⟨p,hp⟩:∃p,Qcc es lo=p:=⟨_,rfl⟩;rw[hp]at b7 c9 b8;have f1:p<=es.length:=by rw[<-hp];exact Qk3 _ _
 have q0:(W.alloc (.cells #[.string lo,.string hi,.bool op] 274)).cell? ⟨W.heap.size,0,none⟩=some (.string lo):=b6.cell 0;have HC:=hY hc;have i6:=hY b0;have g8:=hY e1;have HT:=hY hT;have HJ:=hY hJ;have HX:=hY hx;have HW:=hY hw;have HF:=hY hF;have f5:=hY a6;have g4:=hY b6;have f4:=hY b7;have j1:=hY c9;have i4:=hY b8;have j2:=hY d5;have i2:=hY e8;clear hc b0 e1 hT hJ hx hw hF a6 b7 c9 b8 hp b6 d5 e8;refine(eC (n:=5)).1 ?_;refine callsIn_of_wp func250 rfl trivial ?_ rfl;simp only[ntmps250,List.size_toArray,List.length_cons,List.length_nil,Nat.reduceAdd,Nat.reduceSub,Array.replicate_succ,Array.replicate_zero,List.push_toArray,List.append_toArray,List.nil_append,List.cons_append];gi_wp2_with fail;refine⟨trivial,?_⟩;refine(eC.2 f4.o).mono ?_;rintro e w1 ⟨rfl,c8⟩;have d0:=hY (j2.o.trans c8);have f8:=hY (g4.o.ext c8);clear c8 q0 f4;gi_wp2_with fail;gi_loopw [7] (λv wr=>∃(i:Nat) (R:List LE) (C':Nat->Prop) (Wj:World),v=.int .i64 i/\p<=i/\i<=es.length/\Qtb lo hi op es At pre J C W i R C' Wj wr) (λv _=>es.length -(intOf v).toNat)
 case atStart=>exact⟨p,[],C,W0,rfl,an _,f1,⟨by rw[aY];exact HJ.o,HX.o.trans d0.o,by rw[QfK j1.o];rfl,d0.o.st _,λb z=>.inl z,f8.o,HC.o.ext HW.o d0.o⟩⟩
 obtain⟨i,R,C',Wj,rfl,g9,j6,hS⟩:=hrel;have D:=hY hS;have f2:=HC.o.size wr hS.at_;have f9:=hY f2;clear hS f2;gi_wp2_with fail;refine⟨trivial,?_⟩;refine(eC.2 f9.o).mono ?_;rintro e w2 ⟨rfl,q,rfl⟩;have a1:Ext wr (wr.drewN q):=(fv wr).drewN q;by_cases e7:i<es.length
 ·have g1:(i:Int)<(es.length:Int):=by omega
  have j5:decide ((i:Int)<(es.length:Int))=true:=ej g1;obtain⟨x,d3⟩:∃x,es[i]? = some x:=⟨_,ac e7⟩;have e2:=HC.o.entry (wr.drewN q) (HC.o.ext D.o.at_ a1) i x d3;have g3:=hY e2;have N:=hY d3;clear e2 d3;gi_wp2_with fail;refine⟨trivial,?_⟩;refine(eC.2 g3.o).mono ?_;rintro e w3 ⟨sl,so,rfl,d6,e6⟩;have d4:Ext w3 (w3.alloc (.cells #[.string x.1,.int .i64 x.2.kind,.bool x.2.b,.int .i64 x.2.i,.string x.2.t,.slice sl.a x.2.l.length sl.c,.slice so.a x.2.ok.length so.c] 70)):=(fv w3).alloc _ _;have d8:=fA w3 70 #[.string x.1,.int .i64 x.2.kind,.bool x.2.b,.int .i64 x.2.i,.string x.2.t,.slice sl.a x.2.l.length sl.c,.slice so.a x.2.ok.length so.c];have f0:=hY ((a1.trans d6).trans d4);have Z:=hY d4;have f3:=hY d8;have e4:=hY e6;have U:=D.o.box.ext (a1.trans d6);have i3:w3.cell? ⟨W.heap.size,0,none⟩=some (.string lo):=U.cell 0;have g7:w3.cell? ⟨W.heap.size,1,none⟩=some (.string hi):=U.cell 1;have i0:w3.cell? ⟨W.heap.size,2,none⟩=some (.bool op):=U.cell 2;have lb:=U.lt;clear d6 d4 d8 e6 U;gi_wp2_with fail;refine⟨trivial,?_⟩;refine(eC.2 (Qih _ lo hi op x.1)).mono ?_;rintro e w5 ⟨rfl,a2⟩;have a4:=f0.o.trans a2;have e0:=f3.o.ext a2;obtain⟨c0,c1,c2,c3,c4,c5,c6⟩:=e0.c7;have a9:=HC.o.ext D.o.at_ a4;have a5:=D.o.box.ext a4;have j8:=Z.o.size;have k0:=a2.size;have j9:=D.o.ext.size;have b4:RV w5 (In wr.heap.size w5.heap.size) x.2 sl so:=((e4.o.agree (Z.o.agree λb z=>z.2)).agree (a2.agree λb z=>by have:=z.2;omega)).mono λb z=>⟨z.1,by have:=z.2;omega⟩
  have Y:=hY a4;have j0:=hY a9;have i7:=hY a5;have f6:=hY b4;clear a2 a4 e0 a9 a5 b4 e4 f0 Z f3 i3 g7 i0;cases a0:Qjn hi op x.1 with
  | true=>
    gi_wp2_with fail;refine⟨λ_ h=>absurd h (by simp),?_⟩;gi_wp2_with fail;go_ret;refine .inl ⟨R,C',Wj,.inr ⟨rfl,x,am N.o,a0⟩,D.o.j,D.o.ext.trans Y.o,?_,D.o.st.ext Y.o,λb z=>(D.o.sub b z).imp_right b9⟩;rw[D.o.new_,Qk5 HC.o.sorted N.o a0]
  | false=>
    have g6:klt x.1 lo=false:=i4.o x (by
     obtain⟨h1,rfl⟩:=ah.1 N.o;rw[List.mem_iff_getElem?];exact⟨i-p,by rw[bj,Nat.add_sub_cancel' g9];exact N.o⟩)
    have d7:es=es.take i++x::es.drop (i+1):=by
     obtain⟨h1,h2⟩:=ah.1 N.o
     conv=>lhs;rw[<-aX i es,aE h1,h2]
    obtain⟨n1,n2,n3⟩:=Qnn (x:=⟨x.1,x.2,sl,so⟩) (A:=es.take i) (B:=es.drop (i+1)) (all:=all) (rest:=rest) (pre:=pre) (by show all=pre.map LE.ent++(QaN lo hi op (es.take i++x::es.drop (i+1))++rest);rw[<-d7];exact f5.o) D.o.new_ g6 a0;have hy:=HT.o.take (pre++R) C' ⟨x.1,x.2,sl,so⟩ Wj w5 D.o.j (D.o.ext.trans Y.o) ⟨n1,n2,f6.o.mono λb z=>⟨by have:=z.1;omega,z.2⟩,g8.o x (am N.o)⟩;obtain⟨fn,j3,f7,j4,hy,hR⟩:=hy;have HR:=hY hR;have i1:=hY n1;have i9:=hY n2;have g0:=hY n3;have j7:=hY d7;clear hR n1 n2 n3 d7;dsimp only[Qst]at hy;gi_wp2_with fail;refine HR.o.mono ?_;rintro e w6 (⟨rfl,C6,e3,I,X⟩ |⟨rfl,i8,I⟩)
    ·have b3:J (pre++(R++[⟨x.1,x.2,sl,so⟩])) C6 w6:=by rw [←aS];exact e3
     have a3:∀b,b<=W.heap.size->C' b->C b:=λb z h=>by
      rcases D.o.sub b h with h|h
      .exact h
      omega
     have b5:¬C' W.heap.size:=λh=>by
      have h1:=i2.o _ (a3 _ (an _) h);have:=HX.o.size;omega
     have i5:=hY (show Qtb lo hi op es At pre J C W (i+1) (R++[⟨x.1,x.2,sl,so⟩]) C6 w6 w6 from
      ⟨b3,fv _,by rw[g0.o,aT,N.o];rfl,(D.o.st.ext Y.o).then I (λb z h=>a3 b (b9 z) h),λb z=>by
        rcases X b z with h|h
        .exact D.o.sub b h
        exact .inr (by omega),I.blk i7.o b5,i6.o w5 w6 j0.o (I.agree.mono λb z=>⟨by have:=(HF.o b z).1;omega,λh=>(HF.o b z).2 (a3 b (b9 (HF.o b z).1) h)⟩) I.size⟩)
     clear e3 I X b3 a3 b5 hy;gi_wp2_with fail;go_roundw
     case rel=>exact⟨i+1,_,C6,w6,by go_num,by omega,e7,i5.o⟩
     simp[intOf];omega
    gi_wp2_with fail;go_ret;have g5:St C W w6:=(D.o.st.ext Y.o).then I λb z h=>by
     rcases D.o.sub b h with h|h
     .exact h
     omega
    exact .inr ⟨rfl,g5,_,w6,i8,fv _,by
     rw[aL,i9.o];exact Qf5 i1.o⟩
 obtain rfl:i=es.length:=by omega
 gi_wp2_with fail;go_ret;refine .inl ⟨R,C',Wj,.inl rfl,D.o.j,D.o.ext.trans a1,?_,D.o.st.ext a1,λb z=>(D.o.sub b z).imp_right b9⟩;rw[D.o.new_,aM]
theorem QhJ{w:World}{F:Nat->Prop}:∀{h:Nat} {t:PT h},IsN w F h t->∀e∈ents h t,e.1.size<=maxLen
 | 0,t,⟨_,s,xs,_,h3,h4⟩,e,z=>by
   have z:e∈t.2:=z;rw[<-h4]at z;obtain⟨x,D,rfl⟩:=bE.1 z;exact(h3.vals x D).2
 | h+1,t,⟨_,s,_,_,h4⟩,e,z=>by
   have z:e∈t.2.flatMap (ents h):=z;obtain⟨k,I,z⟩:=cA.1 z;exact QhJ (h4 k I) e z
theorem Qbl.from{es all:List Ent}{pre:List LE}{J:List LE->(Nat->Prop)->World->Prop}{Jx:List LE->World->Prop}{C:Nat->Prop}{W I:World}{e:Ending}(h:Qbl lo hi op es all pre J Jx C I e W')(D:Ext W I):Qbl lo hi op es all pre J Jx C W e W':=by
 rcases h with⟨z,N,W0,h1,h2,U,Z,X,R⟩|h
 .exact .inl ⟨z,N,W0,h1,h2,U,Z,(D.st C).trans X,λb Y=>(R b Y).imp_right λh=>al D.size h⟩
 exact .inr ⟨h.1,(D.st C).trans h.2.1,h.2.2⟩
theorem Qbl.bool{es all:List Ent}{pre:List LE}{J:List LE->(Nat->Prop)->World->Prop}{Jx:List LE->World->Prop}{C:Nat->Prop}{e:Ending}(h:Qbl lo hi op es all pre J Jx C W e W'):∃b,e=.returned (.bool b):=by
 rcases h with⟨z,D,W0,h1|h1,_⟩|h
 .exact ⟨_,h1⟩
 .exact ⟨_,h1.1⟩
 exact⟨_,h.1⟩
theorem Qkj{X:World->Prop}{es:List Ent}(N:QnV X nv es)(D:∀W W',X W->Agree F W W'->W.heap.size<=W'.heap.size->X W')(U:∀e∈es,e.1.size<=maxLen){pre:List LE}
  {l:Nat} {J:List LE->(Nat->Prop)->World->Prop} {Jx:List LE->World->Prop} (hT:Takes prog l Qst (Qmt all) J Jx) {C:Nat->Prop} (hJ:J pre C W0) (hx:Ext W0 W) (hw:X W) (hF:∀b,F b->b<W/\¬C b) (I:all=pre.map LE.ent++(QaN lo hi op es++rest)) :
  Calls prog 239 #[nv,inV lo hi op,.func (.yield l) #[] #[]] W (Qbl lo hi op es all pre J Jx C W):=by
 have z:Ext W (W.alloc (.cells #[.string lo,.string hi,.bool op] 274)):=(fv W).alloc _ _;have hh:=N.height _ (N.ext hw z);have R:=Qki N D U hT hJ (hx.trans z) (N.ext hw z) (λb hb=>⟨Nat.lt_of_lt_of_le (hF b hb).1 z.size,(hF b hb).2⟩) I;obtain⟨pp,rfl⟩:=N.ptr;have a0:=hY R;have Z:=hY z;clear N D U hT hJ hx hw hF I R z;go_in;go_wp2_with fail;refine hh.mono ?_;rintro e w1 ⟨rfl,rfl⟩;go_wp2_with fail;refine a0.o.mono ?_;rintro e w2 Y;obtain⟨b,rfl⟩:=Y.bool;have HP:=hY (Y.from Z.o);clear Y;go_wp2_with fail;go_ret;exact HP.o
structure Qse(lo hi:ByteArray)(op:Bool)(F:Nat->Prop)(h:Nat)(t:PT (h+1))(pre:List LE)(J:List LE->(Nat->Prop)->World->Prop)(C:Nat->Prop)(W w3:World)(g:Nat)(j:Nat)(new:List LE)(C':Nat->Prop)(Wj wr:World):Prop where
 j_:J (pre++new) C' Wj
 ext:Ext Wj wr
 new_:new.map LE.ent=QaN lo hi op ((t.2.take j).flatMap (ents h))
 st:St C W wr
 sub:∀b,C' b->C b\/w3.heap.size<=b
 big:w3.heap.size<=wr.heap.size
 box:Blk wr W.heap.size 274 #[.string lo,.string hi,.bool op]
 rows:∀o,wr.cell? ⟨g,o,none⟩=w3.cell? ⟨g,o,none⟩
 at_:Qdu F (h+1) t wr
theorem Qqe{l:Nat}{J:List LE->(Nat->Prop)->World->Prop}{Jx:List LE->World->Prop}(hT:Takes prog l Qst (Qmt all) J Jx) 
  (ih:∀(t:PT h) (pre:List LE) (rest:List Ent) (C:Nat->Prop) (W0 W:World),J pre C W0->Ext W0 W->Qdu F h t W->(∀b,F b->¬C b)->OkT h t->Sorted (ents h t)->(ents h t).length<=1000000->all=pre.map LE.ent++(QaN lo hi op (ents h t)++rest)->
    Calls prog 239 #[ptr h t,inV lo hi op,.func (.yield l) #[] #[]] W (Qbl lo hi op (ents h t) all pre J Jx C W))
  {t:PT (h+1)} {pre:List LE} {C:Nat->Prop} (hJ:J pre C W0) (hx:Ext W0 W) (hn:Qdu F (h+1) t W) (hF:∀b,F b->¬C b) (ok:OkT (h+1) t) (hs:Sorted (ents (h+1) t)) (hl:(ents (h+1) t).length<=1000000) (d6:all=pre.map LE.ent++(QaN lo hi op (ents (h+1) t)++rest)) :
  Calls prog 239 #[ptr (h+1) t,inV lo hi op,.func (.yield l) #[] #[]] W (Qbl lo hi op (ents (h+1) t) all pre J Jx C W):=by
 have i7:=ok.2.1;have g8:=ok.1;have f1:=hT.lt pre C W0 hJ;have c9:Ext W (W.alloc (.cells #[.string lo,.string hi,.bool op] 274)):=(fv W).alloc _ _;have c8:=fA W 274 #[.string lo,.string hi,.bool op];have hh:=QaO (hn.ext c9).1;have f3:=QcO (hn.ext c9).1 (by omega);have j2:h+1<1000000:=ab (Qc2 (h+1) t ok (by show 1<=t.2.length;omega)) hl;have j8:(((h+1:Nat):Int)==0)=false:=eu.2 (by omega);have i9:((h:Int)+1==0)=false:=eu.2 (by omega);have HT:=hY hT;have i8:=hY ih;have HJ:=hY hJ;have HX:=hY hx;have HN:=hY hn;have HF:=hY hF;have e7:=hY ok;have HS:=hY hs;have HL:=hY hl;have f5:=hY d6;have f7:=hY c9;have g0:=hY c8;have i4:=hY f1;clear hT ih hJ hx hn hF ok hs hl d6 c9 c8 f1;refine(eC (n:=5)).1 ?_;refine callsIn_of_wp func239 rfl trivial ?_ rfl;simp only[ntmps239,List.size_toArray,List.length_cons,List.length_nil,Nat.reduceAdd,Nat.reduceSub,Array.replicate_succ,Array.replicate_zero,List.push_toArray,List.append_toArray,List.nil_append,List.cons_append];gi_wp2_with fail;refine⟨trivial,?_⟩;refine(eC.2 hh).mono ?_;rintro e w1 ⟨rfl,rfl⟩;gi_wp2_with fail;refine⟨trivial,?_⟩;refine(eC.2 f3).mono ?_;rintro e w3 ⟨sk,rfl,b7,e6⟩;have f2:Rd w3 (Lt w3.heap.size) 1 sk t.2.length (ptrs h t.2):=(fE b7).mono λi hi=>hi.2
 obtain⟨g,j3,rfl,i0,j9,j0,d8⟩:=Qa2 b7 (by omega);have g5:=d8.lt;have j7:W.heap.size<g:=by simp at i0;omega
 have g4:=hY f2;have d3:=hY (f7.o.trans e6);have i2:=hY (g0.o.ext e6);have j5:=d3.o.size;have j1:=HX.o.size;clear b7 f2 e6 d8 f3 hh g0 f7;gi_wp2_with fail;gi_loopw [19] (λv wr=>∃(j:Nat) (X:List LE) (C':Nat->Prop) (Wj:World),v=.int .i64 j/\j<=t.2.length/\Qse lo hi op F h t pre J C W w3 g j X C' Wj wr) (λv _=>t.2.length -(intOf v).toNat)
 case atStart=>exact⟨0,[],C,W0,rfl,aw _,⟨by rw[aY];exact HJ.o,HX.o.trans d3.o,rfl,d3.o.st _,λb Y=>.inl Y,an _,i2.o,λ_=>rfl,HN.o.ext d3.o⟩⟩
 obtain⟨j,X,C',Wj,rfl,hj,hS⟩:=hrel;have z:=hY hS;clear hS;by_cases e3:j<t.2.length
 ·obtain ⟨D,a0⟩:∃ D,t.2[j]? = some D:=⟨_,ac e3⟩
  obtain⟨b,o',f0,-,-,-,f9⟩:=g4.o.Qc4 a0;obtain⟨rfl,rfl⟩:g=b/\0=o':=by simpa using f0
  have kc:wr.cell? ⟨g,j,none⟩=some (ptr h D):=by rw[z.o.rows];simpa using f9
  have j6:(j:Int)<(t.2.length:Int):=by omega
  have d0:=am a0;have d5:Qdu F h D wr:=⟨z.o.at_.1.2.choose_spec.2.2 D d0,z.o.at_.2⟩;have f8:Sorted (ents h D):=QaK HS.o D d0;have d7:=QbU a0;have c6:ents (h+1) t=(t.2.take j).flatMap (ents h)++(ents h D++(t.2.drop (j+1)).flatMap (ents h)):=by
   show t.2.flatMap (ents h)=_
   conv=>lhs;rw[d7]
   simp only[List.flatMap_append,List.flatMap_cons]
  have i5:(ents h D).length<=1000000:=by have:=HL.o;rw[c6]at this;simp only[List.length_append]at this;omega
  have c7:(t.2.take (j+1)).flatMap (ents h)=(t.2.take j).flatMap (ents h)++ents h D:=by rw[aT,a0];simp
  have c4:=hY (λZ (hW:Ext wr Z)=>QqW (d5.ext hW).1);have a5:=hY (λZ (hW:Ext wr Z)=>Qjr (d5.ext hW).1);have a3:=z.o.box;have I:=hY (show ∀Z,Ext wr Z->Z.cell? ⟨W.heap.size,0,none⟩=some (.string lo)/\Z.cell? ⟨W.heap.size,1,none⟩=some (.string hi)/\Z.cell? ⟨W.heap.size,2,none⟩=some (.bool op) fromλZ hW=>⟨(a3.ext hW).cell 0,(a3.ext hW).cell 1,(a3.ext hW).cell 2⟩);have i3:=hY d5;have d4:=hY f8;have U:=hY c6;have a2:=hY c7;clear a0 f0 f9 d5 f8 d7 c6 c7 a3;cases e2:klt (QbM (ents h D)) lo with
  | true=>
    have c8:Op.bytesLess (QbM (ents h D)).toList lo.toList=true:=e2;gi_wp2_with fail;refine wpIn_wide.2 ?_;refine ez (S:=(λw'=>Ext wr w')) (by kernel_rfl) (((fv wr).drew)) (λhHeld=>?_);refine Qad 0 (some 24) I hHeld ?_;refine Qad 2 (some 26) I hHeld ?_;refine Qad 3 (some 27) I hHeld ?_;refine Qag (i:=1) (by kernel_rfl) rfl (by rfl) (λK hK=>?_);go_simp
    (refine(c4.o _ hHeld).mono ?_;rintro e w5 ⟨rfl,rfl⟩)
    refine hK.out _ _ (hHeld) (λhHeld=>?_);clear hK K
    try simp only[Act.put,List.setIfInBounds_toArray,List.set_cons_zero,List.set_cons_succ]
    refine Qad 4 (some 28) I hHeld ?_;refine Qad 5 (some 23) I hHeld ?_;refine eE (by kernel_rfl) ?_ _;have b0:=hY hHeld;clear hHeld;have g7:=hY (show Qse lo hi op F h t pre J C W w3 g (j+1) X C' Wj wr.drew from
     ⟨z.o.j_,z.o.ext.trans b0.o,by rw[z.o.new_,a2.o,QaZ,QfK (QmZ d4.o e2),aY],z.o.st.ext b0.o,z.o.sub,by have:=b0.o.size;have:=z.o.big;omega,z.o.box.ext b0.o,λo=>(b0.o.cell (by have:=z.o.big;omega)).trans (z.o.rows o),z.o.at_.ext b0.o⟩)
    generalize wr.drew=w6 at *;gi_wp2_with fail;go_roundw
    case rel=>exact⟨j+1,X,C',Wj,by go_num,e3,g7.o⟩
    simp[intOf];omega
  | false=>
    have c8:Op.bytesLess (QbM (ents h D)).toList lo.toList=false:=e2;gi_wp2_with fail;refine wpIn_wide.2 ?_;refine ez (S:=(λw'=>Ext wr w')) (by kernel_rfl) (((fv wr).drew)) (λhHeld=>?_);refine Qad 0 (some 24) I hHeld ?_;refine Qad 2 (some 26) I hHeld ?_;refine Qad 3 (some 27) I hHeld ?_;refine Qag (i:=1) (by kernel_rfl) rfl (by rfl) (λK hK=>?_);go_simp
    (refine(c4.o _ hHeld).mono ?_;rintro e w5 ⟨rfl,rfl⟩)
    refine hK.out _ _ (hHeld) (λhHeld=>?_);clear hK K
    try simp only[Act.put,List.setIfInBounds_toArray,List.set_cons_zero,List.set_cons_succ]
    refine Qad 4 (some 28) I hHeld ?_;refine Qad 5 (some 23) I hHeld ?_;refine eE (by kernel_rfl) ?_ _;cases a4:Qjn hi op (Qaw (ents h D))with
    | true=>
      have b8:=hY (show ∀Z,Calls prog 252 #[inV lo hi op,.string (Qaw (ents h D))] Z λe w'=>e=.returned (.bool true)/\Ext Z w' fromλZ=>by have:=Qih Z lo hi op (Qaw (ents h D));rwa[a4]at this);gi_wp2_with fail;refine wpIn_wide.2 ?_;refine ez (S:=(λw'=>Ext wr w')) (by kernel_rfl) ((hHeld.drew)) (λhHeld=>?_);refine Qad 0 (some 30) I hHeld ?_;refine Qad 1 (some 31) I hHeld ?_;refine Qag (i:=2) (by kernel_rfl) rfl (by rfl) (λK hK=>?_);go_simp
      (refine(a5.o _ hHeld).mono ?_;rintro e w6 ⟨rfl,rfl⟩)
      refine hK.out _ _ (hHeld) (λhHeld=>?_);clear hK K
      try simp only[Act.put,List.setIfInBounds_toArray,List.set_cons_zero,List.set_cons_succ]
      refine Qag (i:=3) (by kernel_rfl) rfl (by rfl) (λK hK=>?_);go_simp
      (refine(b8.o _).mono ?_;rintro e w7 ⟨rfl,b6⟩)
      refine hK.out _ _ (hHeld.trans b6) (λhHeld=>?_);clear hK K
      try simp only[Act.put,List.setIfInBounds_toArray,List.set_cons_zero,List.set_cons_succ]
      refine Qad 4 (some 29) I hHeld ?_;refine eE (by kernel_rfl) ?_ _;have R:=hY hHeld;clear hHeld b6;gi_wp2_with fail;go_ret;have f6:=Qtu e7.o d0;obtain⟨x,a9⟩:=List.exists_mem_of_ne_nil _ f6;have b4:=QfD d4.o a4 x a9;refine .inl ⟨X,C',Wj,.inr ⟨rfl,x,by rw[U.o];simp[a9],b4⟩,z.o.j_,z.o.ext.trans R.o,?_,z.o.st.ext R.o,λb Y=>(z.o.sub b Y).imp_right λh=>by omega⟩;have c0:=HS.o;rw[U.o]at c0;rw[z.o.new_,U.o,QaZ,QaZ,QdR (QfD d4.o a4),Qe9 (A:=ents h D) (Qcs c0).2.1 ⟨x,a9,b4⟩,aY,aY]
    | false=>
      have b8:=hY (show ∀Z,Calls prog 252 #[inV lo hi op,.string (Qaw (ents h D))] Z λe w'=>e=.returned (.bool false)/\Ext Z w' fromλZ=>by have:=Qih Z lo hi op (Qaw (ents h D));rwa[a4]at this);gi_wp2_with fail;refine wpIn_wide.2 ?_;refine ez (S:=(λw'=>Ext wr w')) (by kernel_rfl) ((hHeld.drew)) (λhHeld=>?_);refine Qad 0 (some 30) I hHeld ?_;refine Qad 1 (some 31) I hHeld ?_;refine Qag (i:=2) (by kernel_rfl) rfl (by rfl) (λK hK=>?_);go_simp
      (refine(a5.o _ hHeld).mono ?_;rintro e w6 ⟨rfl,rfl⟩)
      refine hK.out _ _ (hHeld) (λhHeld=>?_);clear hK K
      try simp only[Act.put,List.setIfInBounds_toArray,List.set_cons_zero,List.set_cons_succ]
      refine Qag (i:=3) (by kernel_rfl) rfl (by rfl) (λK hK=>?_);go_simp
      (refine(b8.o _).mono ?_;rintro e w7 ⟨rfl,b6⟩)
      refine hK.out _ _ (hHeld.trans b6) (λhHeld=>?_);clear hK K
      try simp only[Act.put,List.setIfInBounds_toArray,List.set_cons_zero,List.set_cons_succ]
      refine Qad 4 (some 29) I hHeld ?_;refine eE (by kernel_rfl) ?_ _;have R:=hY hHeld;obtain⟨q0,q1,q2⟩:=I.o w7 hHeld;have f4:∀b,F b->¬C' b:=λb Y h=>by
       rcases z.o.sub b h with h|h
       .exact HF.o b Y h
       have:=(HN.o.2 b Y);omega
      have e8:=i8.o D (pre++X) (QaN lo hi op ((t.2.drop (j+1)).flatMap (ents h))++rest) C' Wj w7 z.o.j_ (z.o.ext.trans R.o) (i3.o.ext R.o) f4 (e7.o.2.2 D d0).1 d4.o i5 (by
       rw[f5.o,U.o,aL,z.o.new_,QaZ,QaZ];simp only[List.append_assoc])
      have i6:=hY e8;have j4:=R.o.size;clear hHeld b6 f4 e8;gi_wp2_with fail;refine⟨trivial,?_⟩;refine(eC.2 i6.o).mono ?_;rintro e w8 (⟨a6,C8,W8,g6,b3,b5,e0,N,a1⟩ |⟨rfl,N,g3,W8,b3,b5,i1⟩)
      ·have e1:St C W w8:=(z.o.st.ext R.o).then N fun b Y h=>by
        rcases z.o.sub b h with h|h
        .exact h
        omega
       have c1:∀b,C8 b->C b\/w3.heap.size<=b:=λb Y=>by
        rcases a1 b Y with h|h
        .exact z.o.sub b h
        exact .inr (by have:=z.o.big;omega)
       have c3:J (pre++(X++a6)) C8 W8:=by rw[<-aS];exact b3
       have c2:(X++a6).map LE.ent=QaN lo hi op ((t.2.take (j+1)).flatMap (ents h)):=by rw[aL,z.o.new_,e0,a2.o,QaZ]
       rcases g6 with rfl |⟨rfl,x,a9,b4⟩
       ·have e4:∀ b,b<w3.heap.size→W.heap.size≤b→¬C' b:=fun b h1 h2 h=>by
         rcases z.o.sub b h with h|h
         .have:=i4.o b h;omega
         omega
        have g9:=hY (show Qse lo hi op F h t pre J C W w3 g (j+1) (X++a6) C8 W8 w8 from
         ⟨c3,b5,c2,e1,c1,by have:=N.size;have:=z.o.big;omega,N.blk (z.o.box.ext R.o) (e4 _ (by omega) (an _)),
           λo=>(N.cell (by have:=z.o.big;omega) (e4 _ g5 (by omega))).trans ((R.o.cell (by have:=z.o.big;omega)).trans (z.o.rows o)),
           ⟨(z.o.at_.ext R.o).1.agree (N.agree.mono fun b Y=>⟨by have:=(z.o.at_.ext R.o).2 b Y;omega,fun h=>by
             rcases z.o.sub b h with h|h
             .exact HF.o b Y h
             have:=(HN.o.2 b Y);omega⟩),λb Y=>by have:=N.size;have:=HN.o.2 b Y;have:=z.o.big;omega⟩⟩)
        clear e1 c1 c3 c2 b3 b5 e0 N a1 e4;gi_wp2_with fail;go_roundw
        case rel=>exact⟨j+1,_,C8,W8,by go_num,e3,g9.o⟩
        simp[intOf];omega
       clear N a1 e0 b3;gi_wp2_with fail;go_ret;refine .inl ⟨X++a6,C8,W8,.inr ⟨rfl,x,by rw[U.o];simp[a9],b4⟩,c3,b5,?_,e1,λb Y=>(c1 b Y).imp_right λh=>by omega⟩;have c0:=HS.o;rw[U.o]at c0;rw[c2,a2.o,U.o,QaZ,QaZ,QaZ,Qe9 (A:=ents h D) (Qcs c0).2.1 ⟨x,a9,b4⟩,aY]
      gi_wp2_with fail;go_ret;exact .inr ⟨rfl,(z.o.st.ext R.o).then N (λb Y h=>by
       rcases z.o.sub b h with h|h
       .exact h
       omega),g3,W8,b3,b5,i1⟩
 obtain rfl:j=t.2.length:=by omega
 gi_wp2_with fail;go_ret;refine .inl ⟨X,C',Wj,.inl rfl,z.o.j_,z.o.ext,?_,z.o.st,λb Y=>(z.o.sub b Y).imp_right λh=>by omega⟩;rw[z.o.new_,aM];rfl
theorem Qmj{F:Nat->Prop}{lo hi:ByteArray}{op:Bool}{all:List Ent}{l:Nat}{J:List LE->(Nat->Prop)->World->Prop}{Jx:List LE->World->Prop}(D:Takes prog l Qst (Qmt all) J Jx) :
  ∀(h:Nat) (t:PT h) (pre:List LE) (rest:List Ent) (C:Nat->Prop) (W0 W:World),J pre C W0->Ext W0 W->Qdu F h t W->(∀b,F b->¬C b)->OkT h t->Sorted (ents h t)->(ents h t).length<=1000000->all=pre.map LE.ent++(QaN lo hi op (ents h t)++rest)->
   Calls prog 239 #[ptr h t,inV lo hi op,.func (.yield l) #[] #[]] W (Qbl lo hi op (ents h t) all pre J Jx C W)
 | 0,t,pre,rest,C,W0,W,hJ,hx,hn,hF,ok,hs,_,hall=>
   Qkj (F:=F) (QmW ok hs) (λW W' a N I=>⟨a.1.agree N,λb z=>ab (a.2 b z) I⟩) (QhJ hn.1) D hJ hx hn (λb z=>⟨hn.2 b z,hF b z⟩) hall
 | h+1,t,pre,rest,C,W0,W,hJ,hx,hn,hF,ok,hs,hl,hall=>
   Qqe D (λt pre rest C W0 W a b c d e f g i=>Qmj D h t pre rest C W0 W a b c d e f g i) hJ hx hn hF ok hs hl hall
theorem Qqd{l:Nat}{J:List LE->(Nat->Prop)->World->Prop}{Jx:List LE->World->Prop}(R:Takes prog l Qst (Qmt (QaN lo hi op (Qab T))) J Jx)
  {C:Nat->Prop} (N:J [] C W0) (I:Ext W0 W) (D:Qgt F T W) (hF:∀b,F b->¬C b) (ok:OkR T) (z:(Qab T).length<=1000000) :
  Calls prog 239 #[Qay T,inV lo hi op,.func (.yield l) #[] #[]] W (Qbl lo hi op (Qab T) (QaN lo hi op (Qab T)) [] J Jx C W):=by
 match T,D,ok,z with
 |none,_,_,_=>exact Qkj (F:=λ_=>False) (rest:=[]) Qo6 (λ_ _ _ _ _=>trivial) (λe U=>by cases U) R N I trivial (λb X=>X.elim) (by simp[Qab])
 |some ⟨h,t⟩,D,ok,z=>exact Qmj R h t [] [] C W0 W N I D hF ok.1 ok.2.2 z (by simp[Qab])
end Go.Proofs.YtkjkafgnnoidpaaGreatDoor
namespace Go.Proofs.YtkjkafgnnoidpaaGreatDoor
open Go.Proofs.Tryz
open Go.RowKit Go.Shelf
structure QdB(w:World)(B:Nat)(T:RT)(lo hi:ByteArray)(op:Bool):Prop where
 bt:Blk w B 41 #[Qay T]
 bl:Blk w (B+1) 9 #[.string lo]
 bh:Blk w (B+2) 9 #[.string hi]
 bo:Blk w (B+3) 4 #[.bool op]
def Qtd(F:Nat->Prop)(B:Nat)(b:Nat):Prop:=F b\/(B<=b/\b<B+4)
abbrev Ql6(B:Nat):Array Value:=#[.pointer (some ⟨B,0,none⟩),.pointer (some ⟨B+1,0,none⟩),.pointer (some ⟨B+2,0,none⟩),.pointer (some ⟨B+3,0,none⟩)]
variable{w w':World}{B:Nat}{T:RT}{lo hi:ByteArray}{op:Bool}{F:Nat->Prop}
theorem QdB.agree(h:QdB w B T lo hi op)(z:Agree F w w')(hF:∀b,B<=b->b<B+4->F b):QdB w' B T lo hi op:=
 ⟨h.bt.agree z (hF _ (by omega) (by omega)),h.bl.agree z (hF _ (by omega) (by omega)),h.bh.agree z (hF _ (by omega) (by omega)),h.bo.agree z (hF _ (by omega) (by omega))⟩
theorem QdB.lt(h:QdB w B T lo hi op):B+3<w.heap.size:=h.bo.lt
variable{W W':World}
theorem Qbl.st{es all:List Ent}{pre:List LE}{J:List LE->(Nat->Prop)->World->Prop}{Jx:List LE->World->Prop}{C:Nat->Prop}{e:Ending}(h:Qbl lo hi op es all pre J Jx C W e W'):St C W W':=by
 rcases h with⟨_,_,_,_,_,_,_,z,_⟩ |⟨_,z,_⟩<;>exact z
variable{w0:World}
theorem QpH(hT:Qgt F T w0)(ok:OkR T)(hl:(Qab T).length<=1000000)(hB:QdB w0 B T lo hi op) :
  Quw prog 238 (Ql6 B) Qst (Qtd F B) (Qmt (QaN lo hi op (Qab T))) (λxs=>xs.map LE.ent=QaN lo hi op (Qab T)) (λpre=>pre.map LE.ent <+: QaN lo hi op (Qab T)) w0:=by
 intro l J Jx C W X hA a4 D hJ;have I:QdB W B T lo hi op:=hB.agree hA λb h1 h2=>.inr ⟨h1,h2⟩
 have a1:Qgt F T W:=⟨hT.1.agree (hA.mono λb hb=>.inl hb),λb hb=>ab (hT.2 b hb) a4⟩;have a0:=λR (Z:Ext W R)=>Qqd X hJ Z (a1.ext Z) (λb hb h=>D b h (.inl hb)) ok hl
 have a9:=X.lt [] C W hJ;obtain⟨p,hp⟩:=Qaq T;rw[hp]at a0;have Y:=I.bt;rw[hp]at Y;have z:=hY (show ∀R,St C W R->R.cell? ⟨B,0,none⟩=some (.pointer p)/\R.cell? ⟨B+1,0,none⟩=some (.string lo)/\R.cell? ⟨B+2,0,none⟩=some (.string hi)/\R.cell? ⟨B+3,0,none⟩=some (.bool op) fromλR Z=>
  ⟨(Z.blk Y λh=>D _ h (.inr ⟨by omega,by omega⟩)).cell 0,(Z.blk I.bl λh=>D _ h (.inr ⟨by omega,by omega⟩)).cell 0,(Z.blk I.bh λh=>D _ h (.inr ⟨by omega,by omega⟩)).cell 0,(Z.blk I.bo λh=>D _ h (.inr ⟨by omega,by omega⟩)).cell 0⟩)
 have b0:=hY a0;clear X hA a4 D hJ I a1 a0 hp hT ok hl hB Y a9;show Calls _ _ #[.func (.yield l) #[] #[],.pointer (some ⟨B,0,none⟩),.pointer (some ⟨B+1,0,none⟩),.pointer (some ⟨B+2,0,none⟩),.pointer (some ⟨B+3,0,none⟩)] W _;go_in;go_wp2_with fail;refine ez (S:=(λw'=>St C W w')) (by kernel_rfl) (((St.refl C W).drew)) (λhHeld=>?_);refine Qad 0 (some 6) z hHeld ?_;refine Qad 2 (some 8) z hHeld ?_;refine Qad 3 (some 9) z hHeld ?_;refine Qad 4 (some 10) z hHeld ?_;refine Qad 5 (some 11) z hHeld ?_;refine Qad 6 (some 12) z hHeld ?_;refine Qag (i:=1) (by kernel_rfl) rfl (by rfl) (λK hK=>?_);go_simp
 (refine(Qkb _ _).mono ?_;rintro e w1 ⟨rfl,N⟩;replace N:=((fv W).drew).trans N;have a5:=hY N)
 refine hK.out _ _ (N.st C) (λhHeld=>?_);clear hK K
 try simp only[Act.put,List.setIfInBounds_toArray,List.set_cons_zero,List.set_cons_succ]
 refine Qag (i:=7) (by kernel_rfl) rfl (by rfl) (λK hK=>?_);go_simp
 (refine(b0.o _ a5.o).mono ?_;intro e w2 U;obtain⟨b2,rfl⟩:=U.bool;have a2:=hY (U.from a5.o);clear U)
 refine hK.out _ _ (a2.o.st) (λhHeld=>?_);clear hK K
 try simp only[Act.put,List.setIfInBounds_toArray,List.set_cons_zero,List.set_cons_succ]
 refine eE (by kernel_rfl) ?_ _;go_wp2_with fail;go_end0;refine⟨⟨_,rfl⟩,?_⟩;rcases a2.o with⟨a6,C',W0,-,h2,h3,h4,-,-⟩ |⟨-,-,a3,W0,h2,h3,h4⟩
 .exact .inl ⟨a6,C',W0,h4,h2,h3⟩
 exact .inr ⟨a3,W0,h4,h2,h3⟩
def QnY(T:RT)(lo hi:ByteArray)(op:Bool)(w:World)(e:Ending)(w':World):Prop:=
 ∃B,e=.returned (.func (.func 238) #[] (Ql6 B))/\Ext w w'/\QdB w' B T lo hi op/\w.heap.size<=B
theorem QpG(w:World)(T:RT)(lo hi:ByteArray)(op:Bool):Calls prog 210 #[Qau T,.string lo,.string hi,.bool op] w (QnY T lo hi op w):=by
 obtain⟨p,z⟩:=Qaq T;rw[Qau,z];go_in;go_wp2_with fail;go_ret;obtain⟨D,-,I,b1,b2,J⟩:=QgJ w 41 9 9 4 #[.pointer p] #[.string lo] #[.string hi] #[.bool op] _ rfl;exact⟨w,rfl,D,⟨by rw[z];exact I,b1,b2,J⟩,an _⟩
theorem Bw.trans{a b c:World}(h:Below a.heap.size a b)(k:Below b.heap.size b c):Below a.heap.size a c:=h.trans (k.mono h.size)
theorem Bw.ext{a b c:World}(h:Below a.heap.size a b)(k:Ext b c):Below a.heap.size a c:=Bw.trans h k.below
theorem Qcu(p:ByteArray):p.toList=p.data.toList:=eB p
theorem Qbj(p:ByteArray):p.toList.length=p.size:=by rw[Qcu,aH];rfl
theorem Qgw{p:ByteArray}{i:Nat}(h:i<p.size):p.toList[i]? = some p[i]:=by
 rw[Qcu,bR];exact Array.getElem?_eq_getElem h
def Qkt(p:ByteArray)(w:World)(e:Ending)(w':World):Prop:=
 Below w.heap.size w w'/\∃(end_:ByteArray) (ok:Bool),e=.returned (.tuple #[.string end_,.bool ok])/\(match QkI p.toList with|none=>ok=false/\end_=ByteArray.empty|some q=>ok=true/\end_.toList=q)
theorem Qpk(l:List UInt8):(ByteArray.mk l.toArray).toList=l:=by rw[Qcu]
theorem Qnp{p:ByteArray}{i n:Nat}(h:i<p.size)(D:p.toList.drop (i+1)=List.replicate n 255):p.toList=p.toList.take i++p[i]::List.replicate n 255:=by
 have h1:=Qgw h;obtain⟨h2,z⟩:=ah.1 h1
 conv=>lhs;rw[<-aX i p.toList,aE h2,z,D]
theorem extract_toList(p:ByteArray)(k:Nat):(p.extract 0 k).toList=p.toList.take k:=by
 rw[Qcu,Qcu,dy];simp
theorem bytesRow_at{s:ByteArray}{cap i:Nat}{b:UInt8}(h:s.toList[i]? = some b):(bytesRow s cap)[i]? = some (.int .u8 (b.toNat:Int)):=by
 rw[Qcu,bR]at h;have hi:=(aC.1 h).1;unfold bytesRow;rw[Array.getElem?_append_left (by simpa using hi),Array.getElem?_map,h];rfl
theorem Qh9(s:ByteArray)(cap:Nat):s.size<=(bytesRow s cap).size:=by
 unfold bytesRow;rw[dx,Array.size_map];exact di _ _
theorem QmB(w:World)(s:ByteArray)(cap:Nat)(t:TypeId){i:Nat}{b c:UInt8}(I:s.toList[i]? = some b)(W:World)(D:W=(w.alloc (.cells (bytesRow s cap) t ((bytesRow s cap).size,(bytesRow s cap).size+1))).drew) :
  W.cell? ⟨w,i,none⟩=some (.int .u8 (b.toNat:Int))/\W.frozen? ⟨w,i,none⟩=false/\w.heap.size<W.heap.size/\Below w.heap.size w W/\
   ∀j (x:UInt8),(s.toList.set i c)[j]? = some x->(W.setCell ⟨w,i,none⟩ (.int .u8 (c.toNat:Int))).cell? ⟨w,j,none⟩=some (.int .u8 (x.toNat:Int)):=by
 have N:∀j,W.cell? ⟨w,j,none⟩=(bytesRow s cap)[j]?:=λj=>by
  rw[D];exact World.cell?_alloc_mark w _ _ _ j
 have hi:i<s.size:=by
  have:=(ah.1 I).1;rwa[Qbj]at this
 have R:W.heap[w.heap.size]? = some (.cells (bytesRow s cap) t ((bytesRow s cap).size,(bytesRow s cap).size+1)):=by
  rw[D];exact fh w _
 refine⟨by rw[N];exact bytesRow_at I,?_,by rw[D];show w.heap.size<(w.alloc _).heap.size;rw[ey];exact dj _,by rw[D];exact((Below.refl _ w).alloc (an _) _).drew,λj x z=>?_⟩
 ·unfold World.frozen?
  rw[R];have:=Qh9 s cap;simp;omega
 by_cases J:j=i
 ·subst J
  rw[cV (ah.1 I).1]at z;cases z;exact eM W _ _ ((N j).trans (bytesRow_at I))
 rw[de (λe=>J e.symm)]at z;rw[Qaf _ _ _ _ _ (λe=>J e.symm),N];exact bytesRow_at z
theorem QkR(w:World)(p:ByteArray)(hp:p.size<=maxLen):Calls prog 209 #[.string p] w (Qkt p w):=by
 unfold maxLen at hp;have b0:∀(s:ByteArray) (W:World),(convert 9 156 (.string s)).run prog W=.ok (.slice (some ⟨W,0,none⟩) s.size (grownCap W s.size 0 5)) (W.drew.alloc (.cells (bytesRow s (grownCap W s.size 0 5)) 5 ((bytesRow s (grownCap W s.size 0 5)).size,(bytesRow s (grownCap W s.size 0 5)).size+1))):=
  λs W=>run_bytes_of_string W 9 156 5 s underlying9 underlying156 underlying5
 have c6:wrap64 ((p.size:Int)-1)=(p.size:Int)-1:=by unfold wrap64;omega
 go_in;go_wp2_with fail;go_step3;go_wp2_with fail;go_step3;go_wp2_with fail;go_loopw[4] (λv wr=>wr=w/\((v=.int .i64 (-1)/\QkI p.toList=none)\/∃i,i<p.size/\v=.int .i64 (i:Int)/\p.toList.drop (i+1)=List.replicate (p.size -(i+1)) 255)) (λv _=>(intOf v+1).toNat)
 case atStart=>
  refine⟨rfl,?_⟩;by_cases h0:p.size=0
  ·refine .inl ⟨by rw [h0];rfl,?_⟩
   have:p.toList=[]:=ar (by rw[Qbj];exact h0);rw[this];rfl
  refine .inr ⟨p.size-1,by omega,by congr 1;omega,?_⟩;rw[bC (by rw[Qbj];omega),show p.size -(p.size-1+1)=0 from by omega];rfl
 obtain⟨rfl,⟨rfl,hn⟩ |⟨i,hi,rfl,hr⟩⟩:=hrel
 ·have HN:=hY hn
  clear hn;go_wp2_with fail;rw[Exit.noGoto_ret];refine eD (v:=.tuple #[.string ByteArray.empty,.bool false]) (by simp[results,results209,go_sem];rfl) rfl ?_;exact⟨Below.refl _ _,ByteArray.empty,false,rfl,by rw[HN.o];exact⟨rfl,rfl⟩⟩
 have c1:(i:Int)<(p.size:Int):=by omega
 have c7:(0:Int)<=(i:Int):=by omega
 have a3:=Qnp hi hr;have Z:=hY a3;have HR:=hY hr;have c3:wrap64 ((i:Int)-1)=(i:Int)-1:=by unfold wrap64;omega
 clear a3 hr;by_cases z:p[i]=255
 ·have a9:(((p[i].toNat:Nat):Int) != 255)=false:=by rw [z];rfl
  go_wp2_with fail;go_roundw
  case rel=>
   refine⟨trivial,?_⟩;cases i with
   | zero=>
     refine .inl ⟨rfl,?_⟩;rw[Z.o,z,bO,aJ,<-dK];exact QkJ _
   | succ i=>
     refine .inr ⟨i,by omega,by simp,?_⟩;have h2:p.toList.drop (i+1)=p[i+1]::p.toList.drop (i+1+1):=by
      have h1:=Qgw hi;obtain⟨h2,h3⟩:=ah.1 h1;rw[aE h2,h3]
     rw[h2,HR.o,z,<-dK];congr 1;omega
  simp[intOf]
 have a9:(((p[i].toNat:Nat):Int) != 255)=true:=eL.2 λe=>z (UInt8.toNat_inj.1 (by show p[i].toNat=255;omega))
 have c0:min (i+1) p.size=i+1:=by omega
 have b8:(p.extract 0 (i+1)).size=i+1:=by rw[<-Qbj,extract_toList,ap,Qbj];omega
 have a6:p[i].toNat<256:=p[i].toNat_lt;have c4:IntKind.u8.wrap ((p[i].toNat:Int)+1)=(p[i].toNat:Int)+1:=by
  have:p[i].toNat≠255:=λe=>z (UInt8.toNat_inj.1 e)
  rw[IntKind.wrap_u8];omega
 obtain⟨q,hq⟩:∃q,q=(p.extract 0 (i+1)).toList.set i (p[i]+1):=⟨_,rfl⟩;have I:(p.extract 0 (i+1)).toList=p.toList.take i++[p[i]]:=by
  rw[extract_toList,aT,Qgw hi];rfl
 have J:(p.toList.take i).length=i:=by rw[ap,Qbj];omega
 have X:q=p.toList.take i++[p[i]+1]:=by
  rw[hq,I,dD _ _ (by omega),J,cW];rfl
 have a5:q.length=i+1:=by rw[X,ak,J];rfl
 have R:QkI p.toList=some q:=by rw[Z.o,Qoz z,X]
 have a1:(p.extract 0 (i+1)).toList[i]? = some p[i]:=by rw[I,aU (by omega),J,cW];rfl
 have a2:((p[i]+1).toNat:Int)=(p[i].toNat:Int)+1:=by
  have h1:(p[i]+1).toNat=p[i].toNat+1:=by
   rw[UInt8.toNat_add];have:p[i].toNat≠255:=λe=>z (UInt8.toNat_inj.1 e)
   show(p[i].toNat+1)%256=_;omega
  omega
 have Y:∀W:World,(∀j (hj:j<q.length),W.cell? ((⟨wr,0,none⟩:Addr).add j)=some (.int .u8 (q[j].toNat:Int)))->∀U,(convert 156 9 (.slice (some ⟨wr,0,none⟩) (i+1) U)).run prog W=.ok (.string ⟨q.toArray⟩) W:=λW h U=>by
  have:=run_convert_bytes_back (P:=prog) W 156 9 5 ⟨wr,0,none⟩ U q underlying156 underlying5 underlying9 h;rwa[a5]at this
 have b7:=hY Y;have a0:=hY R;have HQ:=hY hq;have b5:=hY a1;have b4:=hY a2;clear hq I J X a5 R a1 a2 Y;go_upto_region 8 with(fail);generalize a4:World.drew _=W2;obtain⟨c2,f2,l2,N,D⟩:=QmB wr (p.extract 0 (i+1)) _ _ (c:=p[i]+1) b5.o W2 a4.symm;rw[b4.o,<-HQ.o]at D;have b6:=hY D;have b3:=hY N;clear a4 D N b0;go_upto_region 9 with(fail);have Y:=b7.o (W2.setCell ⟨wr,i,none⟩ (.int .u8 ((p[i].toNat:Int)+1))) (λj hj=>by
  rw[Qbu,aA];exact b6.o j _ (ac hj))
 go_wp2_with fail;rw[Exit.noGoto_ret];refine eD (v:=.tuple #[.string ⟨q.toArray⟩,.bool true]) (by simp[results,results209,go_sem]) rfl ?_;exact⟨b3.o.setCell (p:=⟨wr,i,none⟩) (an _) _,_,_,rfl,by rw[a0.o];exact⟨rfl,Qpk q⟩⟩
def QeB(p:ByteArray)(es:List Ent):List Ent:=es.filter λe=>p.toList.isPrefixOf e.1.toList
theorem Qkt.range{p:ByteArray}{e:Ending}(h:Qkt p w e w'):∃(D:ByteArray) (ok:Bool),e=.returned (.tuple #[.string D,.bool ok])/\Below w.heap.size w w'/\∀es,QaN p D (!ok) es=QeB p es:=by
 obtain⟨N,D,ok,J,z⟩:=h;refine⟨D,ok,J,N,λes=>?_⟩;refine List.filter_congr λx _=>?_
 rw[QhC];cases I:QkI p.toList with
 | none=>
   rw[I]at z;obtain⟨rfl,-⟩:=z;rfl
 | some q=>
   rw[I]at z;obtain⟨rfl,R⟩:=z;simp only[inI,Bool.not_true,Bool.false_or,klt,R]
def Qms(T:RT)(p:ByteArray)(w:World)(e:Ending)(w':World):Prop:=
 ∃(B:Nat) (en:ByteArray) (op:Bool),e=.returned (.func (.func 238) #[] (Ql6 B))/\Below w.heap.size w w'/\QdB w' B T p en op/\w.heap.size<=B/\∀es,QaN p en op es=QeB p es
theorem Qnc(w:World)(T:RT)(p:ByteArray)(hp:p.size<=maxLen):Calls prog 172 #[Qau T,.string p] w (Qms T p w):=by
 have hr:=λW lo hi op=>QpG W T lo hi op
 have J:=λW=>QkR W p hp
 obtain⟨r,D⟩:=Qaq T;rw[Qau,D];simp only[Qau,D]at hr;have Z:Ext w (w.alloc (.cells #[.pointer r] 41)):=(fv w).alloc _ _;have a0:=fA w 41 #[.pointer r];have a2:=hY Z;have N:=hY a0;have HR:=hY hr;have a3:=hY J;clear Z a0 hr D J;go_in;go_wp2_with fail;refine(a3.o _).mono ?_;intro e w1 he;obtain⟨en,ok,rfl,z,U⟩:=he.range;have I:=Bw.trans a2.o.below z;have c0:w1.cell? ⟨w,0,none⟩=some (.pointer r):=(N.o.agree (Agree.of_below z (F:=Lt (w.alloc (.cells #[.pointer r] 41)).heap.size) λ_ h=>h) N.o.lt).cell 0;have Y:=hY I;have a1:=hY U;clear he z U I;go_wp2_with fail;refine(HR.o _ _ _ _).mono ?_;rintro e w2 ⟨B,rfl,X,R,hB⟩;have HP:=hY (show Below w.heap.size w w2/\QdB w2 B T p en (!ok)/\w.heap.size<=B from⟨Bw.ext Y.o X,R,al Y.o.size hB⟩);clear X R hB;go_wp2_with fail;go_ret;exact⟨B,en,!ok,rfl,HP.o.1,HP.o.2.1,HP.o.2.2,a1.o⟩
def QtB(n:Int):Val:=.mk 3 false n ByteArray.empty [] [] []
def e5:List Ent:=[(⟨#[97]⟩,QtB 1),(⟨#[98]⟩,QtB 3),(⟨#[98,47,49]⟩,QtB 4),(⟨#[98,47,50]⟩,QtB 0),(⟨#[99]⟩,QtB 2)]
open Go.Maps Go.Sort
abbrev QaV(k:ByteArray):List UInt8:=k.data.toList
theorem QhL(ks:List ByteArray):(ks.map QaV).map encStr=ks.map .string:=by rw[cG];rfl
theorem Qo7:∀x y:List UInt8,Op.bytesLess x y=decide (x<y)
 |[],[]=>rfl
 |[],_::_=>rfl
 |_::_,[]=>rfl
 | a :: x,b :: y=>by
   rw[Op.bytesLess,Qo7 x y];by_cases h1:a<b
   .simp [h1,List.cons_lt_cons_iff]
   by_cases h2:a=b
   .subst h2;simp[List.cons_lt_cons_iff]
   simp[h1,h2,List.cons_lt_cons_iff]
theorem Qtv(a b:ByteArray):klt a b=decide (QaV a<QaV b):=by
 show Op.bytesLess a.toList b.toList=_;rw[eB,eB,Qo7]
theorem Qgy(ts:List (List UInt8)):(ts.map λl=>(⟨l.toArray⟩:ByteArray)).map QaV=ts:=by
 rw[cG];exact(List.map_congr_left λl _=>rfl).trans (List.map_id _)
theorem Qg7{ts:List ByteArray}(h:(ts.map QaV).Pairwise λx y=>decide (x<=y)=true)(J:ts.Nodup):ts.Pairwise λx y=>klt x y=true:=by
 have h2:=bG.1 h;refine(h2.and J).imp ?_;rintro x y ⟨D,N⟩;cases I:klt x y with
 |true=>rfl
 | false=>
   exfalso;have z:klt y x=true:=Qc3 I N;rw[Qtv,eK]at z;rw[eK]at D;exact absurd D (by simpa[List.not_le]using z)
theorem QhK(l:List (List UInt8)):(l.mergeSort λx y=>decide (x<=y)).Pairwise λx y=>decide (x<=y)=true:=
 List.pairwise_mergeSort (λa b c h1 h2=>by simp only[decide_eq_true_eq]at *;exact List.le_trans h1 h2) (λa b=>by simp only[Bool.or_eq_true,decide_eq_true_eq];exact List.le_total a b) l
variable{s:Sl}{ks:List ByteArray}
theorem Qhg{base:Nat}(D:w.ownsRow base 9 1 (.slice s.a ks.length s.c) ks.length (ks.map .string))(hn:ks.length<=1000000000) :
  Calls prog 85 #[.slice s.a ks.length s.c] w λe w'=>e=.returned (.tuple #[])/\∃ts:List ByteArray,ts.Perm ks/\(ts.map QaV).Pairwise (λx y=>decide (x<=y)=true)/\w'.ownsRow base 9 1 (.slice s.a ts.length s.c) ts.length (ts.map .string)/\ts.length=ks.length/\w.grownBy w' s.row:=by
 rcases D.2 with⟨hv,h0⟩ |⟨g,U,a0,hv,R,X,Y,N,Z,ht⟩
 ·have hk:ks=[]:=ar h0
  subst hk;refine(AnyM.slices_Sort_string_none Tryz.QrI s.a s.c w).mono ?_;rintro e w' ⟨rfl,rfl⟩;exact⟨rfl,[],List.Perm.refl _,List.Pairwise.nil,D,rfl,⟨rfl,rfl,rfl,an _,λ_ _ _=>rfl⟩⟩
 injection hv with h1 h2 h3;obtain⟨sa,sc⟩:=s;dsimp only at h1 h3;subst h1 h3;have hH:Holds encStr w g 0 (ks.map QaV).toArray:=holds_of_block X (by rw[QhL,ao];simpa using ht);have hc:=AnyM.slices_Sort_string Tryz.QrI g 0 sc (ks.map QaV) w hH (aC.1 X).1 (by rw[ao];omega);rw[ao]at hc;refine hc.mono ?_;rintro e w' ⟨rfl,n,os,rfl⟩;have hp:((ks.map QaV).mergeSort λx y=>decide (x<=y)).Perm (ks.map QaV):=List.mergeSort_perm _ _;have J:((ks.map QaV).mergeSort λx y=>decide (x<=y)).length=ks.length:=by rw[hp.length_eq,ao]
 obtain⟨ts,z⟩:∃ts:List ByteArray,ts.map QaV=(ks.map QaV).mergeSort λx y=>decide (x<=y):=⟨_,Qgy _⟩
 have I:ts.length=ks.length:=by rw[<-J,<-z,ao]
 refine⟨rfl,ts,?_,by rw[z];exact QhK _,?_,I,by rw[<-z];exact grownBy_sorted _⟩
 ·have hq:(ts.map QaV).Perm (ks.map QaV):=by rw [z];exact hp
  have:=hq.map λl:List UInt8=>(⟨l.toArray⟩:ByteArray)
  rw[cG,cG]at this;rwa[show((λl:List UInt8=>(⟨l.toArray⟩:ByteArray))∘QaV)=id from rfl,List.map_id,List.map_id]at this
 rw[<-z,I,<-QhL];have:=ownsRow_sorted (w:=w) (base:=base) (cap:=sc) (n:=n) (os:=os) (ss:=ks.map QaV) (ts:=ts.map QaV) (by rw[ao,ao,I]) R X (by rw[ao];exact Y) N Z;rw[ao]at this;exact this
theorem Tryz.QkP:(prog.info? 9).map (λi=>(i.zero,i.size,i.bytes))=some (some (.string ByteArray.empty),1,16):=by kernel_rfl
def Qaj(p k:ByteArray):Bool:=p.toList.isPrefixOf k.toList
theorem QhB(w:World)(k p:ByteArray):Calls prog 123 #[.string k,.string p] w λe w'=>e=.returned (.bool (Qaj p k))/\w'=w:=by
 have z:∀W,Calls prog 174 #[.string k,.string p] W λe w'=>e=.returned (.bool (Qaj p k))/\w'=W:=λW=>by
  have:=Any.strings_HasPrefix Tryz.QjC k p W;unfold Qaj;rw[eB,eB];exact this
 go_in;go_wp2_with fail;refine(z _).mono ?_;rintro e w' ⟨rfl,rfl⟩;go_wp2_with fail;go_ret;exact⟨rfl,rfl⟩
structure Qdv(w:World)(B:Nat)(ks:List ByteArray)(s:Sl)(W:World):Prop where
 blk:Blk W B 91 #[.slice s.a ks.length s.c]
 own:W.ownsRow (w.heap.size+2) 9 1 (.slice s.a ks.length s.c) ks.length (ks.map .string)
 sb:Sb (λb=>b=B) w W
 sz:w.heap.size+2<=W.heap.size
section
variable{w W W' : World}{B : Nat}{ks : List ByteArray}{s : Sl}
theorem Qdv.row(h:Qdv w B ks s W){b:Nat}(z:s.row=some b):w+2<=b/\b<W:=Qaa h.own z
theorem Qdv.keep{G:Nat->Prop}(h:Qdv w B ks s W)(k:Sb G W W')(D:¬G B)(N:∀b,s.row=some b->¬G b)(J:∀b,G b->w<=b):Qdv w B ks s W':=
 ⟨k.blk h.blk D,Qae h.own k.agree λb z=>⟨(h.row z).2,N b z⟩,h.sb.comp k λi hi I=>by have:=J i I;omega,al h.sz k.size⟩
theorem Qdv.ext(h:Qdv w B ks s W)(k:Ext W W'):Qdv w B ks s W':=h.keep (k.sb λ_=>False) (λe=>e) (λ_ _ e=>e) λ_ e=>e.elim
theorem Qdv.start(I:Blk w B 91 #[.slice none 0 0])(z:Ext w W)(D:w.heap.size+2<=W.heap.size):Qdv w B [] Sl.none W:=
 ⟨I.ext z,eI _ _ _ _,z.sb _,D⟩
theorem Qdv.snoc{R w5:World}{s3:Sl}{x:ByteArray}(hB:B<w.heap.size)(h:Qdv w B ks s W)(hx:Ext W R)(J:w5.ownsRow (w.heap.size+2) 9 1 (.slice s3.a (ks.length+1) s3.c) (ks.length+1) (ks.map .string++[.string x]))(a0:Wr R w5 s.row)(a1:s3.a=s.a\/s3.a=some ⟨R,0,none⟩/\Wr R w5 none) :
  Qdv w B (ks++[x]) s3 (w5.setCell ⟨B,0,none⟩ (.slice s3.a (ks.length+1) s3.c))/\St (λb=>b=B\/s.row=some b) W (w5.setCell ⟨B,0,none⟩ (.slice s3.a (ks.length+1) s3.c))/\(∀b,s3.row=some b->s.row=some b\/W<=b)/\(∀b,(b=B\/s3.row=some b)->b<(w5.setCell ⟨B,0,none⟩ (.slice s3.a (ks.length+1) s3.c)).heap.size):=by
 have h0:=h.sb.size;have h1:=hx.size;have h2:=a0.grown.size;have hz:=h.sz;have I:∀b,s3.row=some b->s.row=some b\/R<=b:=λb z=>by
  rcases a1 with e |⟨e,-⟩
  .exact .inl (by rw[<-z];simp[Sl.row,e])
  right;rw[Sl.row,e]at z;simp at z;omega
 have D:St (λb=>b=B) w5 (w5.setCell ⟨B,0,none⟩ (.slice s3.a (ks.length+1) s3.c)):=(St.refl (λb=>b=B) w5).set (p:=⟨B,0,none⟩) (.inr rfl) _;have Y:St (λb=>s.row=some b) R w5:=a0.st λi hi=>hi
 have N:St (λb=>b=B\/s.row=some b) W (w5.setCell ⟨B,0,none⟩ (.slice s3.a (ks.length+1) s3.c)):=((hx.st _).trans (Y.mono λi _ hi=>.inr hi)).trans (D.mono λi _ hi=>.inl hi);have Z:¬s.row=some B:=λe=>by have:=(h.row e).1;omega
 have X:(ks++[x]).length=ks.length+1:=by simp
 have U:∀b,s3.row=some b->b<w5:=λb z=>(Qaa J z).2
 refine⟨⟨?_,?_,?_,by rw[eA];omega⟩,N,λb z=>(I b z).imp id λe=>by omega,λb z=>?_⟩
 .rw [X];exact(Y.blk (h.blk.ext hx) Z).Qdz 0 _
 ·rw [X,aL]
  exact Qae J D.agree λb z=>⟨U b z,λe=>by
   rcases I b z with h|h
   .exact Z (by rw[h,e])
   omega⟩
 .exact h.sb.comp N.sb λi hi e=>by
   rcases e with e|e
   .exact e
   have:=(h.row e).1;omega
 rw[eA];rcases z with e|e
 .omega
 exact U b e
end
inductive Mu where
 |mk (kd:Int) (k tk:ByteArray) (i:Int) (had:Bool) (was:Val) (has:Bool) (v:Val) (l:List Mu)
instance : Inhabited Mu :=⟨.mk 0 ByteArray.empty ByteArray.empty 0 false default false default []⟩
def Mu.kd:Mu->Int | .mk x _ _ _ _ _ _ _ _=>x
def Mu.k:Mu->ByteArray | .mk _ x _ _ _ _ _ _ _=>x
def Mu.tk:Mu->ByteArray | .mk _ _ x _ _ _ _ _ _=>x
def Mu.i:Mu->Int | .mk _ _ _ x _ _ _ _ _=>x
def Mu.had:Mu->Bool | .mk _ _ _ _ x _ _ _ _=>x
def Mu.was:Mu->Val | .mk _ _ _ _ _ x _ _ _=>x
def Mu.has:Mu->Bool | .mk _ _ _ _ _ _ x _ _=>x
def Mu.v:Mu->Val | .mk _ _ _ _ _ _ _ x _=>x
def Mu.l:Mu->List Mu | .mk _ _ _ _ _ _ _ _ x=>x
theorem Mu.Qb7(m:Mu):0<SizeOf.sizeOf m:=by cases m;simp;omega
mutual
def QaT:Mu->Nat
 |.mk _ _ _ _ _ _ _ _ l=>1+QaC l
def QaC:List Mu->Nat
 |[]=>0
 |m::r=>QaT m+QaC r
end
def Qel(v:Val):Bool:=v.kind==0 && !v.b&&v.i==0&&v.t.size==0&&v.l.length==0&&v.ok.length==0
def Qbv(kd:Int)(k tk:ByteArray)(i:Int)(had:Bool)(was:Val)(has:Bool)(v:Val)(n:Nat):Bool:=
 decide (1<=kd/\kd<=7)&&(kd==6||tk.size==0)&&(kd==3||i==0)&&(kd==4||kd==7 || !had)&&(kd==4 || !has)&&(had||Qel was)&&(kd==1||kd==5 ||(kd==4&&has)||Qel v)&&(kd==7||n==0)
def Qf8(p:ByteArray):Bool:=decide (p.size<=64)&&Lib.validD p.data.toList
def QfU(kd:Int)(k tk:ByteArray)(had:Bool):Bool:=
 if kd=6 then Qf8 k&&Qf8 tk else if kd=7/\k.size=0 then !had else Qbd k==0
def Qhx(kd:Int)(has:Bool):Bool:=kd==1||kd==5 ||(kd==4&&has)
mutual
def QaW:Mu->Nat->Int
 |.mk kd k tk i had was has v l,deep=>if !Qbv kd k tk i had was has v l.length then 9 else if 6<deep then 5 else if !QfU kd k tk had then 8 else if had&&Qbw was != 0 then Qbw was else if Qhx kd has&&Qbw v != 0 then Qbw v else Qce l (deep+1)
def Qce:List Mu->Nat->Int
 |[],_=>0
 |m::r,deep=>if QaW m deep≠0 then QaW m deep else Qce r deep
end
def QbE(m:Mu):Int:=if 64<QaT m then 6 else QaW m 1
def asM(M:List Ent)(k:ByteArray)(had:Bool)(was:Val):Bool:=match Qam M k with
 |some x=>had&&decide (Qbo x was=0)
 |none=>!had
def setMu(M:List Ent)(k:ByteArray)(v:Val):Int × List Ent:=if Qbd k≠0 then(8,M)else if Qbw v≠0 then(Qbw v,M)else(0,Qbq M k v)
def QlO(n:Int):Val:=.mk 3 false n ByteArray.empty [] [] []
def Qf2(l:List Val):Val:=.mk 5 false 0 ByteArray.empty l [] []
def Qqx(M:List Ent)(k:ByteArray)(n by_:Int):Int × List Ent:=if(0<by_/\9223372036854775807-by_<n)\/(by_<0/\n < -9223372036854775808-by_)then(7,M)else setMu M k (QlO (n+by_))
def Qeo(M:List Ent)(k:ByteArray)(by_:Int):Int × List Ent:=match Qam M k with
 |some x=>if x.kind≠3 then(9,M)else Qqx M k x.i by_
 |none=>Qqx M k 0 by_
def Qma(M:List Ent)(k:ByteArray)(l:List Val)(x:Val):Int × List Ent:=if 256<=l.length then(6,M)else setMu M k (Qf2 (l++[x]))
def Qqk(M:List Ent)(k:ByteArray)(x:Val):Int × List Ent:=match Qam M k with
 |some y=>if y.kind≠5 then(9,M)else Qma M k y.l x
 |none=>Qma M k [] x
def QaF(from_ tk k:ByteArray):ByteArray:=tk++k.extract from_.size k.size
def Qb5(M:List Ent)(from_ tk:ByteArray):List Ent->Int
 |[]=>0
 |e::r=>if Qbd (QaF from_ tk e.1)≠0 then 8 else if(Qam M (QaF from_ tk e.1)).isSome && !Qaj from_ (QaF from_ tk e.1)then 13 else Qb5 M from_ tk r
def Qg6(M:List Ent)(from_:ByteArray):List Ent:=M.filter λe=>!Qaj from_ e.1
def Qca(M:List Ent)(from_:ByteArray):List Ent:=M.filter λe=>Qaj from_ e.1
def QcA(M:List Ent)(from_ tk:ByteArray):Int × List Ent:=
 if Qb5 M from_ tk (Qca M from_)≠0 then(Qb5 M from_ tk (Qca M from_),M)else(0,QaJ (Qg6 M from_) ((Qca M from_).map λe=>(QaF from_ tk e.1,e.2)))
mutual
def stepM:Mu->List Ent->Int × List Ent
 | .mk kd k tk i had was has v l,M=>
   if kd=1 then setMu M k v
   else if kd=2 then(if(Qam M k).isSome then(0,Qb2 M k)else(12,M))
   else if kd=3 then Qeo M k i
   else if kd=4 then(if asM M k had was then(if has then setMu M k v else(0,Qb2 M k))else(13,M))
   else if kd=5 then Qqk M k v
   else if kd=6 then QcA M k tk
   else if kd=7 then(if asM M k had was then(if(Qks l M).1≠0 then((Qks l M).1,M)else Qks l M)else(13,M))
   else(9,M)
def Qks:List Mu->List Ent->Int × List Ent
 |[],M=>(0,M)
 |m::r,M=>if(stepM m M).1≠0 then((stepM m M).1,M)else Qks r (stepM m M).2
end
def runM(M:List Ent)(m:Mu):Int × List Ent:=if QbE m≠0 then(QbE m,M)else stepM m M
structure MuS where
 w1:Sl
 w2:Sl
 v1:Sl
 v2:Sl
 s:Sl
instance : Inhabited MuS :=⟨⟨Sl.none, Sl.none, Sl.none, Sl.none, Sl.none⟩⟩
def QaE(m:Mu)(c:MuS):List Value:=[.int .i64 m.kd,.string m.k,.string m.tk,.int .i64 m.i,.bool m.had,.int .i64 m.was.kind,.bool m.was.b,.int .i64 m.was.i,.string m.was.t,.slice c.w1.a m.was.l.length c.w1.c,.slice c.w2.a m.was.ok.length c.w2.c,.bool m.has,.int .i64 m.v.kind,.bool m.v.b,.int .i64 m.v.i,.string m.v.t,.slice c.v1.a m.v.l.length c.v1.c,.slice c.v2.a m.v.ok.length c.v2.c,.slice c.s.a m.l.length c.s.c]
abbrev QaG(m:Mu)(c:MuS):Value:=.agg (QaE m c).toArray
def MuC(w:World)(b o:Nat)(m:Mu)(c:MuS):Prop:=∀(j:Nat) (u:Value),(QaE m c)[j]? = some u->w.cell? ⟨b,o+j,none⟩=some u
variable{c:MuS}
theorem MuC.agree{b o:Nat}{m:Mu}(h:MuC w b o m c)(D:Agree F w w')(z:F b):MuC w' b o m c:=λj u hu=>(D.cell z).trans (h j u hu)
inductive RMu (w:World) (F:Nat->Prop):Mu->MuS->Prop
 |mk {kd:Int} {k tk:ByteArray} {i:Int} {had:Bool} {was:Val} {has:Bool} {v:Val} {l:List Mu} {c:MuS} (bl fl:Nat) (cl:Nat->MuS)
    (rw_:RV w F was c.w1 c.w2) (rv:RV w F v c.v1 c.v2) (hl:QeM F c.s l.length bl fl)
    (el:∀j m,l[j]? = some m->MuC w bl (fl+j*19) m (cl j)) (rl:∀j m,l[j]? = some m->RMu w F m (cl j))
    (bk:k.size<=maxLen) (bt:tk.size<=maxLen) (bkd:(Lit.int .i64 kd).wf=true) (bi:(Lit.int .i64 i).wf=true) (nl:l.length*264<=140737488355328):RMu w F (.mk kd k tk i had was has v l) c
theorem RMu.agree{m:Mu}(h:RMu w F m c)(D:Agree F w w'):RMu w' F m c:=by
 induction h with
 | mk bl fl cl rw_ rv hl el rl bk bt bkd bi nl ih=>
   exact .mk bl fl cl (rw_.agree D) (rv.agree D) hl (λj m z=>(el j m z).agree D (hl.fits (QbS z))) (λj m z=>ih j m z) bk bt bkd bi nl
variable{G:Nat->Prop}
theorem RMu.mono{m:Mu}(h:RMu w F m c)(z:∀i,F i->G i):RMu w G m c:=by
 induction h with
 | mk bl fl cl rw_ rv hl el rl bk bt bkd bi nl ih=>
   exact .mk bl fl cl (rw_.mono z) (rv.mono z) (hl.mono z) el (λj m D=>ih j m D) bk bt bkd bi nl
mutual
def QcF:Mu->Nat
 |.mk kd k tk i had was has v l=>8+k.size+tk.size+Qb4 was+Qb4 v+Qdr l
def Qdr:List Mu->Nat
 |[]=>0
 |m::r=>QcF m+Qdr r
end
theorem Qgp:∀{l:List Mu} {j:Nat} {m:Mu},l[j]? = some m->QcF m<=Qdr l
 |[],j,m,h=>by simp at h
 | x :: r,0,m,h=>by
   have:x=m:=by simpa using h
   subst this;rw[Qdr];omega
 |x::r,j+1,m,h=>by have:=Qgp (l:=r) (j:=j) (m:=m) (by simpa using h);rw[Qdr];omega
theorem Qdm:∀{l:List Mu} {j:Nat} {m:Mu},l[j]? = some m->QaC (l.take (j+1))=QaC (l.take j)+QaT m
 |[],j,m,h=>by simp at h
 | x :: r,0,m,h=>by
   have:x=m:=by simpa using h
   subst this;simp[QaC]
 | x :: r,j+1,m,h=>by
   rw[aV,aV,QaC,QaC,Qdm (l:=r) (j:=j) (by simpa using h),bH]
theorem QpV(n:Nat):∀m:Mu,SizeOf.sizeOf m<=n->QaT m<=QcF m:=by
 induction n with
 |zero=>intro m h;have:=Mu.Qb7 m;omega
 | succ n ih=>
   intro m h;obtain⟨R,k,N,i,z,D,J,v,l⟩:=m;simp only[Mu.mk.sizeOf_spec]at h;have hs:∀l:List Mu,SizeOf.sizeOf l<=n->QaC l<=Qdr l:=by
    intro l
    induction l with
    |nil=>intro _;simp[QaC]
    | cons a r ihr=>
      intro I;simp only[List.cons.sizeOf_spec]at I;have h1:=ih a (by omega);have h2:=ihr (by omega);rw[QaC,Qdr];omega
   have h1:=hs l (by omega);rw[QaT,QcF];omega
theorem QrH(m:Mu):QaT m<=QcF m:=QpV _ m (an _)
section
variable{H : Type}{enc : TypeId × Value -> H}{P : Program}{w : World}{held : Bool}
theorem Qu2:∀{l:List (DataW H)} {i:Nat} {d:DataW H},l[i]? = some d->Rows.uptoBulk d<=Rows.uptoBulkAll l
 |[],i,d,h=>by simp at h
 | x :: l,0,d,h=>by
   have:x=d:=by simpa using h
   subst this;simp only[Rows.uptoBulkAll];omega
 | x :: l,i+1,d,h=>by
   have:=Qu2 (l:=l) (i:=i) (d:=d) (by simpa using h);simp only[Rows.uptoBulkAll];omega
theorem Qef{t e:TypeId}{C B J:Nat}{cs:List Value}{x:DataW H × List MemPlace}(ht:P.underlying t=some (.slice e))(hC:P.cellsOf e=C)(hB:P.bytesOf e=B)(a0:0<C)
  (h:tr enc P w held J t cs=some x) (hw:WOk P t x.1) :
  ∃(n z:Nat) (s:Sl) (b o:Nat) (es:List (DataW H)),J=n+1/\cs=[.slice s.a z s.c]/\QeM (Lt w) s z b o/\z*B<=140737488351232/\es.length=z/\Rows.uptoBulkAll es+1<=Rows.uptoBulk x.1/\
   ∀i,i<z->∃D y,D.length=C/\(∀j,j<C->w.cell? ⟨b,o+i*C+j,none⟩=D[j]?)/\tr enc P w held n e D=some y/\WOk P e y.1/\es[i]? = some y.1:=by
 rcases DataW.trod_slice ht h with⟨rfl,rfl⟩ |⟨a,z,a3,I,rest,n,a2,b4,hx,-,hl,hm,X,a1,b6,-⟩
 ·cases J with
  |zero=>simp[tr,DataW.trod]at h
  |succ n=>exact⟨n,0,Sl.none,0,0,[],rfl,rfl,.nil _ _,by omega,rfl,by simp[Rows.uptoBulk,Rows.uptoBulkAll],λi hi=>by omega⟩
 obtain⟨n',Y,s,b,o,b5,R,hs,a6,he⟩:=Qfd ht hC hB a0 h hw;subst b4 hx a2;obtain rfl:n=n':=by omega
 have U:Value.slice (some a) z a3=.slice s.a Y s.c:=by simpa using R
 injection U with e1 e2 e3;subst e2;refine⟨n,z,s,b,o,I.map (·.1),rfl,R,hs,a6,by rw[ao];exact X,by simp only[Rows.uptoBulk];omega,λi hi=>?_⟩;obtain⟨D,y,a9,hc,Z,b3⟩:=he i hi;refine⟨D,y,a9,hc,Z,b3,?_⟩;have hE:=a1 i hi;rw[ac (by omega)]at hE;obtain⟨b0,h1,h2⟩:=dw.1 hE;obtain⟨-,a5,N⟩:=World.cells?_some h1;rw[hC]at a5 N;have a4:s.a=some ⟨b,o,none⟩:=(hs.eq (by omega)).1;rw[a4]at e1;obtain rfl:a=⟨b,o,none⟩:=by injection e1
 have:b0=D:=by
  refine bK λj=>?_
  by_cases hj:j<C
  ·have:=N j hj
   rw[Go.WideShapes.add_plain,Go.WideShapes.add_plain]at this;rw[<-hc j hj,<-this]
  rw[aQ (by omega),aQ (by omega)]
 subst this;rw[aq,ac (by omega)];have:some (I[i]'(by omega))=some y:=by rw[<-h2];exact Z
 simp only[Option.map_some];injection this with this;rw[this]
theorem Qd0{t:TypeId}{J:List Field}{z:Nat}{cs:List Value}{x:DataW H × List MemPlace}(R:P.underlying t=some (.struct J.toArray))(h:tr enc P w held z t cs=some x)(Z:WOk P t x.1) :
  ∃n U,z=n+1/\cs.length=P.cellsOf t/\x.1=.agg U/\∀(i:Nat) (f:Field),J[i]? = some f->∃y,tr enc P w held n f.type ((cs.drop f.offset).take (P.cellsOf f.type))=some y/\WOk P f.type y.1/\U[i]? = some y.1:=by
 obtain⟨xs,n,rfl,rfl,hl,I,Y⟩:=DataW.trod_struct R h;refine⟨n,xs.map (·.1),rfl,hl,rfl,λi f hi=>?_⟩;have N:(DataW.weightsEach P (J.map (·.type)) (xs.map (·.1))).all (·<=reachBytes)=true:=by
  have:=Z;simpa[WOk,DataW.weights,R]using this
 have X:i<J.length:=(ah.1 hi).1;have h1:=Y i f (by simpa using hi);have D:i<xs.length:=by simp at I;omega
 rw[ac D]at h1;exact⟨_,h1,weightsEach_at N i _ _ (by rw[aq,hi];rfl) (by rw[aq,ac D];rfl),by rw[aq,ac D];rfl⟩
end
theorem Qdd{H:Type}(d:DataW H):1<=Rows.uptoBulk d:=by
 cases d with
 |lit l=>cases l<;>simp[Rows.uptoBulk]
 |_=>simp[Rows.uptoBulk]
end Go.Proofs.YtkjkafgnnoidpaaGreatDoor
