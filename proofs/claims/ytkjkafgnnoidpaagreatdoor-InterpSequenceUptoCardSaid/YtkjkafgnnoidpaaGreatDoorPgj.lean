/- What the theorem needs of the texts OvLay3, TurnK, Int4, Int5, Int6, Int7, TotM, Int8, Int9: no condition of its own. -/
import Derived.Test.YtkjkafgnnoidpaaGreatDoorPgi
set_option linter.unusedVariables false
set_option linter.unusedSimpArgs false
set_option linter.unnecessarySimpa false
set_option maxRecDepth 100000
set_option maxHeartbeats 4000000
namespace Go.Proofs.YtkjkafgnnoidpaaGreatDoor
open Go.Proofs.Tryz
open Go.RowKit Go.Maps Go.Sort Go.Shelf
def Tryz.QfW:Go.Shelf.Ren:=⟨λ| 103=>173|210=>211|206=>212|n=>n,λ| 9=>9|4=>4|24=>205|3=>3|n=>n,λ| n=>n⟩
theorem Tryz.QjB:Go.Proofs.Lays.n103 prog Tryz.QfW:={
 mixed:=by kernel_rfl
 f103:=func173.trans (congrArg some (by kernel_rfl))
 f206:=func212.trans (congrArg some (by kernel_rfl))
 f210:=func211.trans (congrArg some (by kernel_rfl))
 t3:=underlying3
 a3:=isAgg3
 z3:=sizeOf3
 v3:=zeroValue3
 t4:=underlying4
 a4:=isAgg4
 z4:=sizeOf4
 v4:=zeroValue4
 t9:=underlying9
 a9:=isAgg9
 z9:=sizeOf9
 v9:=zeroValue9
 t24:=underlying205
 a24:=isAgg205
 z24:=sizeOf205
 v24:=zeroValue205 }
theorem Qs4{k f:ByteArray}(h:Qaj f k=true):(⟨(Lib.trimPrefix k.data.toList f.data.toList).toArray⟩:ByteArray)=k.extract f.size k.size:=by
 have z:Lib.hasPrefix k.data.toList f.data.toList=true:=by
  have:=h;unfold Qaj at this;rw[eB,eB]at this;exact this
 apply dO;apply cZ.1;unfold Lib.trimPrefix;rw[em z,dv,Array.toList_extract];show(k.data.toList.drop f.data.toList.length)=_;rw[List.extract_eq_take_drop];have h1:f.data.toList.length=f.size:=aH;have h2:k.data.toList.length=k.size:=aH;rw[h1,bj];rw[au,h2];exact an _
variable{w:World}
theorem Qp8{k f t:ByteArray}(N:Qaj f k=true)(a0:k.size+t.size<=4611686018427387904)(R:QiW w) :
  Calls prog 122 #[.string k,.string f,.string t] w λe w'=>(∃s,e=.returned (.tuple #[.string s,.int .i64 (Qbd (QaF f t k))])/\(Qbd (QaF f t k)=0->s=QaF f t k))/\Nw w w':=by
 have I:=λW=>Any.strings_CutPrefix Tryz.QjB k f W
 rw[Qs4 N]at I;rw[show Lib.hasPrefix k.data.toList f.data.toList=true by have:=N;unfold Qaj at this;rw[eB,eB]at this;exact this]at I;have Z:=hY I;have z:(QaF f t k).size<=maxLen:=by
  have h1:(k.extract f.size k.size).size<=k.size:=by rw[bT];omega
  unfold QaF maxLen;rw[aJ];omega
 obtain⟨q,L⟩:∃q,QaF f t k=q:=⟨_,rfl⟩;rw[L]at z ⊢;have HQ:=hY (show t++k.extract f.size k.size=q from L);have HS:=hY z;clear I z L;go_in;go_wp2_with fail;refine(Z.o _).mono ?_;rintro e w' ⟨rfl,rfl⟩;go_wp2_with fail;rw[HQ.o];have Y:=hY (Qdj (w:=w') HS.o R);clear R N;refine Y.o.mono ?_;rintro e w1 ⟨rfl,X⟩;have U:=hY X;clear X;by_cases D:Qbd q=0
 ·have J:=hY D
  have g:(Qbd q==0)=true:=by simp[D]
  clear D;go_wp2_with fail;go_ret2;exact⟨⟨q,by rw[J.o]<;>rfl,λ_=>rfl⟩,U.o⟩
 have J:=hY D;have g:(Qbd q==0)=false:=eu.2 D;clear D;go_wp2_with fail;go_ret2;exact⟨⟨_,rfl,λh=>absurd h J.o⟩,U.o⟩
variable{H:Nat->Prop}{O:Nat}{d:OD}{M:List Ent}
theorem QuY(h:OvX H w O d M)(I:(Qab d.T).length<=1000000)(z:d.us.length<=1000000){p:ByteArray}(D:p.size<=maxLen) :
  Calls prog 121 #[.pointer (some ⟨O,0,none⟩),.string p] w λe w'=>∃s:Sl,e=.returned (.slice s.a (Qfm (Qaj p) M).length s.c)/\Nw w w'/\Rd w' (In w.heap.size w'.heap.size) 1 s (Qfm (Qaj p) M).length ((Qfm (Qaj p) M).map .string):=
 (Qpz h.ov I z D).mono λe w' ⟨s,ks,h1,h2,h3,h4,h5⟩=>by
   obtain rfl:ks=Qfm (Qaj p) M:=QiK h4 (QmU h.rel.ok.sorted) λk=>by rw[h5 k,QgV h.rel.ok.sorted,h.now k]
   exact⟨s,h1,h2,h3⟩
abbrev mvE(f t:ByteArray)(e:Ent):Ent:=(QaF f t e.1,e.2)
variable{f:ByteArray}{j:Nat}
theorem Qiq{e:Ent}(h:(Qca M f)[j]? = some e):e∈M/\Qaj f e.1=true:=by
 have:=al h;unfold Qca at this;exact bX.1 this
theorem Qe4{k:ByteArray}(h:Qbd k=0):k.size<=64:=by
 unfold Qbd at h;split at h
 .cases h
 split at h
 .cases h
 omega
def QrO(n:Nat)(w:World)(s:Sl)(b:Nat):Prop:=n<=b/\b<w.heap.size/\s.row≠some b
variable{n:Nat}{sl so:Sl}
theorem QtR{wr W w9:World}{s2 s7:Sl}{v:Val}(h:Nw wr W)(z:Wr W w9 s2.row)(hs:s7.a=s2.a\/s7.a=some ⟨W,0,none⟩/\Wr W w9 none)(D:RV wr (QrO n wr s2) v sl so):RV w9 (QrO n w9 s7) v sl so:=by
 have h1:RV W (QrO n wr s2) v sl so:=D.agree (fC h λb J=>J.2.1);have h2:RV w9 (QrO n wr s2) v sl so:=h1.agree (z.agree (λi hi=>ab hi.2.1 h.size) λk I hF=>hF.2.2 I);refine h2.mono λi hi=>⟨hi.1,ab hi.2.1 (aj h.size z.grown.size),λe=>?_⟩
 rcases hs with hs |⟨hs,-⟩
 .exact hi.2.2 (by unfold Sl.row at e ⊢;rwa[hs]at e)
 unfold Sl.row at e;rw[hs]at e;have e:some W.heap.size=some i:=e;injection e with e;have:=hi.2.1;have:=h.size;omega
theorem Qrh{f t:ByteArray}(h:OvX H w O d M)(hH:∀b,H b->b<w.heap.size)(hn:d.us.length+2*M.length<=1000000)(hl:(Qab d.T).length<=1000000)(hf:f.size<=maxLen)
  (ht:t.size<=100000000) (hL:Qb9 w) (hG:∀b,b<6->H b) :
  Calls prog 78 #[.pointer (some ⟨O,0,none⟩),.string f,.string t] w λe w'=>e=.returned (.int .i64 (QcA M f t).1)/\∃d',GoX H w O d (QcA M f t).2 (2*M.length) w' d':=by
 have c6:=QuY h hl (by omega) hf;obtain⟨r,hr⟩:∃r,QcA M f t=r:=⟨_,rfl⟩;rw[hr];obtain⟨L,d4⟩:∃L,Qca M f=L:=⟨_,rfl⟩;have Y:Qfm (Qaj f) M=L.map Prod.fst:=by rw[Qjw,d4]
 have l5:(Qfm (Qaj f) M).length=L.length:=by rw[Y,aq]
 have j0:L.length<=M.length:=by rw[<-d4];exact bY _ _
 rw[l5,Y]at c6;have HH:=hY h;have k8:=hY hH;have HN:=hY hn;have i6:=hY hl;have HT:=hY ht;have j1:=hY hL;have n6:=hY hG;have HR:=hY hr;have a4:=hY d4;have a6:=hY j0;have HP:=hY c6;obtain⟨i0,hi,p6,n8,n7⟩:=eG Tryz.Qa1;clear h hH hn hl ht hL hr d4 j0 c6 Y l5 hf hG;go_in;go_wp2_with fail;refine HP.o.mono ?_;rintro e w1 ⟨s,rfl,k0,k5⟩;have Z:=hY k0;have l2:=hY k5;clear k0 k5;go_wp2_with fail;go_loopw[8,27] (λv8 p5 wr=>∃(j:Nat) (s2:Sl) (ys:List LE),p5=.int .i64 (j:Int)/\v8=.slice s2.a ys.length s2.c/\j<=L.length/\Yd (ys.length=j)/\Yd (ys.map LE.ent=(L.take j).map (mvE f t))/\Yd (Nw w1 wr)/\
  Yd (wr.ownsRow w1.heap.size 70 7 (.slice s2.a ys.length s2.c) ys.length (Qai ys))/\Yd (∀y∈ys,RV wr (QrO w1.heap.size wr s2) y.v y.sl y.so)/\Yd (Qb5 M f t (L.take j)=0)) (λ_ v _=>L.length -(intOf v).toNat)
 case atStart=>exact⟨0,Sl.none,[],rfl,rfl,av _,hY rfl,hY rfl,hY (fB _ _),hY (eJ _ _ _ _),hY (λy hy=>by cases hy),hY rfl⟩
 obtain⟨j,s2,ys,rfl,rfl,hj,c8,g8,HX,a9,k7,e7⟩:=hrel;by_cases l7:j<L.length
 ·have l1:(j:Int)<(L.length:Int):=by omega
  have s8:decide ((j:Int)<(L.length:Int))=true:=ej l1;have l0:(0:Int)<=(j:Int):=by omega
  obtain⟨x,hx⟩:∃x,L[j]? = some x:=⟨_,ac l7⟩;obtain⟨b0,o0,R,-,a0⟩:=l2.o;obtain⟨a5,g4,c7⟩:=R.eq (by omega);have a8:=R.fits (by omega);have cK:wr.cell? ⟨b0,o0+j,none⟩=some (.string x.1):=by
   rw[HX.o.cell a8.2 (λe=>e)];exact a0 j _ (by rw[ao,ao,hx];rfl)
  have hg:=Qiq (M:=M) (f:=f) (j:=j) (e:=x) (by rw[a4.o];exact hx);have c1:=HH.o.rel.ok.ok x hg.1;have Y:=Qe4 c1.1;have b8:=Qp8 (w:=wr) (t:=t) hg.2 (by have:=HT.o;omega) (j1.o.nw (Z.o.trans HX.o)).lib;have p1:=hY b8;have q1:=hY (show Qam M x.1=some x.2 from QcM HH.o.rel.ok.sorted hg.1);have p3:=hY (Qrg e7.o hx);have r2:=hY (λh1 h2=>QhP e7.o hx h1 h2);have p7:=hY hx;have r1:=hY Y;rw[a5];clear a0 R a8 hg c1 Y b8 hx;go_wp2_with fail;refine p1.o.mono ?_;rintro e w2 ⟨⟨q',rfl,g6⟩,e8⟩;have j6:=hY ((Z.o.trans HX.o).trans e8);have q8:=hY e8;have J:=p3.o;by_cases hm:Qbd (QaF f t x.1)=0
  rotate_left
  ·have g:(Qbd (QaF f t x.1) == 0)=false:=eu.2 hm
   rw[em hm]at J;have I:r=(8,M):=by rw[<-HR.o];unfold QcA;rw[a4.o,J];exact em (by decide)
   have D:=hY I;clear hm J I g6 e8 cK;go_wp2_with fail;go_ret;exact⟨by rw[D.o]<;>rfl,d,by rw[D.o];exact HH.o.stay j6.o⟩
  obtain rfl:=g6 hm;rw[ef (λh=>h hm)]at J;have X:=Qto (HH.o.nw j6.o) i6.o (k:=QaF f t x.1) (aj (Qe4 hm) (by decide));have d7:=hY X;have HM:=hY hm;have k4:=hY J;rw[hm];clear hm J g6 e8 X cK;go_wp2_with fail;refine d7.o.mono ?_;rintro e w3 ⟨s3,s4,rfl,j4,-⟩;obtain⟨y3,j9⟩:∃y,(Qam M (QaF f t x.1)).getD zeroV=y:=⟨_,rfl⟩;obtain⟨g3,b3⟩:∃g,(Qam M (QaF f t x.1)).isSome=g:=⟨_,rfl⟩;obtain⟨q,hq⟩:∃q,QaF f t x.1=q:=⟨_,rfl⟩;rw[j9,b3,hq];have j8:=hY b3;have HQ:=hY hq;have k9:=hY (q8.o.trans (fv j4));clear j4 j9 b3 hq d7;go_upto_region 10 with fail;have i5:=(fu w3).alloc #[.int .i64 y3.kind,.bool y3.b,.int .i64 y3.i,.string y3.t,.slice s3.a y3.l.length s3.c,.slice s4.a y3.ok.length s4.c] 28;generalize o5:World.alloc _ _=w4 at i5 ⊢;have j2:=hY (k9.o.trans (fv i5));clear o5 i5;go_cut [52] (λv w'=>v=.bool (g3 && !Qaj f q)/\w'=w4)
  case first=>
   cases g3 with
   | false=>
     go_wp2_with fail;go_meet;exact⟨rfl,rfl⟩
   | true=>
     go_wp2_with fail;refine(QhB _ q f).mono ?_;rintro e w5 ⟨rfl,rfl⟩;go_wp2_with fail;go_meet;exact⟨rfl,rfl⟩
  obtain⟨hv,hw⟩:=hcut;subst hv;have f1:=hY (show Nw wr wc by rw[hw];exact j2.o);clear hw j2 k9;rcases aQ (g3 && !Qaj f q)with z|z
  ·have J:=k4.o
   rw[j8.o,HQ.o]at J;rw[em z]at J;have I:r=(13,M):=by rw[<-HR.o];unfold QcA;rw[a4.o,J];exact em (by decide)
   have D:=hY I;rw[z];clear z J I;go_wp2_with fail;go_ret;exact⟨by rw[D.o]<;>rfl,d,by rw[D.o];exact HH.o.stay (Z.o.trans (HX.o.trans f1.o))⟩
  have b4:=r2.o (by rw[HM.o]) (by rw[j8.o,HQ.o];exact z);have k3:=hY b4;have X:=Qto (HH.o.nw (Z.o.trans (HX.o.trans f1.o))) i6.o (k:=x.1) (aj r1.o (by decide));rw[q1.o]at X;have g7:=hY X;rw[z];clear z b4 X;go_wp2_with fail;refine g7.o.mono ?_;rintro e w6 ⟨s5,U,rfl,i9,l4⟩;have p9:=hY (f1.o.trans (fv i9));have p2:=hY (show RV w6 (In wc.heap.size w6.heap.size) x.2 s5 U from l4.rv);clear i9 l4;rw[show(some x.2:Option Val).getD zeroV=x.2 from rfl];go_upto_region 13 with fail;have b5:=(fu w6).alloc #[.int .i64 x.2.kind,.bool x.2.b,.int .i64 x.2.i,.string x.2.t,.slice s5.a x.2.l.length s5.c,.slice U.a x.2.ok.length U.c] 28;have a2:=fx w6 28 #[.int .i64 x.2.kind,.bool x.2.b,.int .i64 x.2.i,.string x.2.t,.slice s5.a x.2.l.length s5.c,.slice U.a x.2.ok.length U.c];generalize p0:World.alloc _ _=w7 at b5 a2 ⊢;have r0:=hY (p9.o.trans (fv b5));have p4:=hY (p2.o.agree (b5.agree λb (z:In wc.heap.size w6.heap.size b)=>z.2));have f7:=aj f1.o.size (an wc.heap.size);have b6:=hY f7;have d5:=hY b5.size;have e0:w7.cell? ⟨w6.heap.size,0,none⟩=some (.int .i64 x.2.kind):=a2.cell 0;have e1:w7.cell? ⟨w6.heap.size,1,none⟩=some (.bool x.2.b):=a2.cell 1;have e2:w7.cell? ⟨w6.heap.size,2,none⟩=some (.int .i64 x.2.i):=a2.cell 2;have e3:w7.cell? ⟨w6.heap.size,3,none⟩=some (.string x.2.t):=a2.cell 3;have e4:w7.cell? ⟨w6.heap.size,4,none⟩=some (.slice s5.a x.2.l.length s5.c):=a2.cell 4;have e5:w7.cell? ⟨w6.heap.size,5,none⟩=some (.slice U.a x.2.ok.length U.c):=a2.cell 5;have i1:=(fu w7).alloc (⟨q,x.2,s5,U⟩:LE).cells.toArray 70;have n4:=hY (fx w7 70 (⟨q,x.2,s5,U⟩:LE).cells.toArray);have d8:=hY (r0.o.trans (fv i1));have q4:=hY i1;have c2:Nw wr (w7.alloc (.cells (⟨q,x.2,s5,U⟩:LE).cells.toArray 70)):=d8.o;have l3:=hY (Qae (F:=Lt wr.heap.size) a9.o (fC c2 λb z=>z) λb z=>(Qaa a9.o z).2);have l8:ys.length+1<=maxLen:=by have:=c8.o;have:=a6.o;have:=HN.o;unfold maxLen;omega
  have k1:(ys.length+1)*104<=140737488355328:=by have:=c8.o;have:=a6.o;have:=HN.o;omega
  have c4:w1.heap.size<=(w7.alloc (.cells (⟨q,x.2,s5,U⟩:LE).cells.toArray 70)).heap.size:=(HX.o.trans d8.o).size;have o7:=hY l8;have q7:=hY k1;have q2:=hY c4;have r5:=hY c2;clear p0 b5 a2 i1 c2 l8 k1 c4 f7;go_wp2_with(at_builtin;refine Qac _ rfl (.tmp 59) (.tmp 63) 22 rfl w1.heap.size 70 i0 _ 7 104 underlying22 hi p6 n8 n7 rfl (by decide) s2 ys.length (Qai ys) rfl l3.o (λb=>b=w7.heap.size) ⟨some ⟨w7.heap.size,0,none⟩,1⟩ 1 (⟨q,x.2,s5,U⟩:LE).cells rfl (fG n4.o (by decide) rfl) (LE.one _) o7.o q7.o q2.o ?_;intro s7 w9 b7 f5 l6;have q6:=hY b7;have f0:=hY f5;have j3:=hY l6;clear b7 f5 l6);have q5:L.length<=1000000:=by have:=a6.o;have:=HN.o;omega
  have d0:wrap64 ((j:Int)+1)=((j+1:Nat):Int):=by unfold wrap64;omega
  go_roundw
  case measure=>rw[d0];simp[intOf];omega
  have r4:=λb (z:s2.row=some b)=>Qaa l3.o z
  have q9:Sb (λb=>s2.row=some b) (w7.alloc (.cells (⟨q,x.2,s5,U⟩:LE).cells.toArray 70)) w9:=by
   have hg:=f0.o.grown;exact⟨hg.os,hg.tape,hg.output,hg.size,λi hi hn=>hg.block i hi λe=>hn e.symm⟩
  refine⟨j+1,s7,ys++[⟨q,x.2,s5,U⟩],by rw[d0],by rw[ai];rfl,l7,hY (by rw[ai,c8.o];rfl),hY ?_,hY ?_,hY ?_,hY ?_,k3⟩
  ·rw [aR,g8.o,aZ,p7.o,aR]
   show _++[(q,x.2)]=_++[(QaF f t x.1,x.2)];rw[HQ.o]
  .exact (HX.o.trans d8.o).comp q9 λi hi e=>by have:=(r4 i e).1;omega
  ·rw [ai,QaA,show Qai [(⟨q,x.2,s5,U⟩:LE)]=(⟨q,x.2,s5,U⟩:LE).cells by simp [Qai]]
   exact q6.o
  intro y hy;rcases aE.1 hy with hy|hy
  .exact QtR d8.o f0.o j3.o (k7.o y hy)
  obtain rfl:y=⟨q,x.2,s5,U⟩:=by simpa using hy
  have r9:(w7.alloc (.cells (⟨q,x.2,s5,U⟩:LE).cells.toArray 70)).heap.size=w7.heap.size+1:=ew _ _;have l9:=λb (z:s2.row=some b)=>(Qaa a9.o z).2
  have r6:w7.heap.size+1<=w9.heap.size:=by
   have h:=f0.o.grown.size;rw[ew]at h;exact h
  have h1:RV w9 (In wc.heap.size w6.heap.size) x.2 s5 U:=(p4.o.agree (q4.o.agree λb (z:In wc.heap.size w6.heap.size b)=>ab z.2 d5.o)).agree (f0.o.agree (λb z=>by rw[ew];have:=z.2;have:=d5.o;omega) λk hk hF=>by have:=l9 k hk;have:=hF.1;have:=b6.o;omega);refine h1.mono λb z=>⟨by have:=z.1;have:=b6.o;have:=HX.o.size;omega,by have:=z.2;have:=d5.o;omega,λe=>?_⟩
  rcases j3.o with hs |⟨hs,-⟩
  ·have e:s2.row=some b:=by unfold Sl.row at e ⊢;rwa [hs] at e
   have:=l9 b e;have:=z.1;have:=b6.o;omega
  unfold Sl.row at e;rw[hs]at e;have e:some (w7.alloc (.cells (⟨q,x.2,s5,U⟩:LE).cells.toArray 70)).heap.size=some b:=e;injection e with e;have:=z.2;have:=d5.o;omega
 obtain rfl:j=L.length:=by omega
 have l1:decide ((L.length:Int)<(L.length:Int))=false:=eh (by omega);have b4:Qb5 M f t L=0:=by have:=e7.o;rwa[aP]at this
 have j7:ys.map LE.ent=L.map (mvE f t):=by have:=g8.o;rwa[aP]at this
 have I:r=(0,QaJ (QeT M (L.map Prod.fst)) (L.map (mvE f t))):=by
  rw[<-HR.o];unfold QcA;rw[a4.o,ef (by rw[b4];exactλh=>h rfl),<-QmI HH.o.rel.ok.sorted f,Qjw,a4.o]
 have D:=hY I;have n2:=hY j7;have o3:=hY b4;have i7:=hY (λ(b:Nat) (z:OvB O d b)=>HH.o.ov.Qbe z);have r3:=hY (HH.o.nw (Z.o.trans HX.o));have c9:=hY (Z.o.trans HX.o);clear b4 j7 I e7 g8
 rename World=>W0
 have q5:L.length<=500000:=by have:=a6.o;have:=HN.o;omega
 go_wp2_with fail;go_loopw[68] (λo2 w2=>∃(i:Nat) (d':OD),o2=.int .i64 (i:Int)/\i<=L.length/\Yd (GoX H W0 O d (QeT M ((L.take i).map Prod.fst)) i w2 d')) (λv _=>L.length -(intOf v).toNat)
 case atStart=>exact⟨0,d,rfl,av _,hY (r3.o.stay (fB _ _))⟩
 obtain⟨i,d1,rfl,o6,a1⟩:=hrel;by_cases f6:i<L.length
 ·have m1:(i:Int)<(L.length:Int):=by omega
  have o9:decide ((i:Int)<(L.length:Int))=true:=ej m1;have m0:(0:Int)<=(i:Int):=by omega
  obtain⟨x,hx⟩:∃x,L[i]? = some x:=⟨_,ac f6⟩;obtain⟨b0,o0,R,-,a0⟩:=l2.o;obtain⟨a5,g4,c7⟩:=R.eq (by omega);have a8:=R.fits (by omega);have cK:wr.cell? ⟨b0,o0+i,none⟩=some (.string x.1):=by
   rw[a1.o.go.sb.cell (ab a8.2 HX.o.size) (λe=>by have:=i7.o b0 e;have:=a8.1;omega),HX.o.cell a8.2 (λe=>e)];exact a0 i _ (by rw[ao,ao,hx];rfl)
  have hg:=Qiq (M:=M) (f:=f) (j:=i) (e:=x) (by rw[a4.o];exact hx);have Y:=Qe4 (HH.o.rel.ok.ok x hg.1).1;have f8:=Que a1.o.at_ (λb z=>ab (k8.o b z) (aj c9.o.size a1.o.go.sb.size)) (by have:=a1.o.few;have:=HN.o;have:=a6.o;omega) (by rw[a1.o.T];exact i6.o) (k:=x.1) (aj Y (by decide));have j5:=hY f8;have n9:=hY (show Qb2 (QeT M ((L.take i).map Prod.fst)) x.1=QeT M ((L.take (i+1)).map Prod.fst)by
   rw[aZ,hx,aR];unfold QeT;rw[List.foldl_append];rfl)
  rw[a5];clear a0 R a8 hg Y f8 hx;go_wp2_with fail;refine j5.o.mono ?_;rintro e w5 ⟨rfl,d2,i3⟩;rw[n9.o]at i3;have g7:=hY (a1.o.trans i3);clear i3;have d0:wrap64 ((i:Int)+1)=((i+1:Nat):Int):=by unfold wrap64;omega
  go_wp2_with fail;go_roundw
  case measure=>simp[intOf];omega
  exact⟨i+1,d2,by go_num,f6,g7⟩
 obtain rfl:i=L.length:=by omega
 have i4:=a1.o;rw[aP]at i4;have d7:=hY i4;have m1:decide ((L.length:Int)<(L.length:Int))=false:=eh (by omega);have c0:=hY (show ys.length=L.length from c8.o);have r7:ys.length<=500000:=by have:=c8.o;omega
 rename World=>W1
 clear i4 a1 l1 m1 o6 hj;have l1:decide ((L.length:Int)<(L.length:Int))=false:=eh (by omega);go_wp2_with fail;go_loopw[78] (λq0 w3=>∃(i:Nat) (d':OD),q0=.int .i64 (i:Int)/\i<=ys.length/\Yd (GoX H W0 O d (QaJ (QeT M (L.map Prod.fst)) ((L.take i).map (mvE f t))) (L.length+i) w3 d')) (λv _=>ys.length -(intOf v).toNat)
 case atStart=>exact⟨0,d1,rfl,av _,d7⟩
 obtain⟨i,d2,rfl,r8,N⟩:=hrel;by_cases f9:i<ys.length
 ·have m1:(i:Int)<(ys.length:Int):=by omega
  have o9:decide ((i:Int)<(ys.length:Int))=true:=ej m1;have m0:(0:Int)<=(i:Int):=by omega
  obtain⟨y,hy⟩:∃y,ys[i]? = some y:=⟨_,ac f9⟩;obtain⟨x,hx⟩:∃x,L[i]? = some x:=⟨_,ac (by have:=c0.o;omega)⟩;have d6:y.ent=mvE f t x:=by
   have:=congrArg (λl=>l[i]?) n2.o;simp only[List.getElem?_map,hy,hx,Option.map_some]at this;injection this
  have hk:y.k=QaF f t x.1:=congrArg Prod.fst d6;have hv:y.v=x.2:=congrArg Prod.snd d6;have hg:=Qiq (M:=M) (f:=f) (j:=i) (e:=x) (by rw[a4.o];exact hx);have c1:=HH.o.rel.ok.ok x hg.1;have g0:Qbd y.k=0:=by rw[hk];exact QhO o3.o (al hx)
  have g5:okV y.v:=by rw[hv];exact c1.2
  have f2:∀M',setMu M' y.k y.v=(0,Qbq M' y.k y.v):=λM'=>by
   unfold setMu;rw[ef (λh=>h g0),ef (λh=>h g5.2)]
  obtain⟨b1,o1,R,-,a0⟩:=fE a9.o;obtain⟨a5,g4,c7⟩:=R.eq (by omega);have g9:=R.fits (by omega);have a5:s2.a=some ⟨b1,o1,none⟩:=a5;have a3:∀c u,c<7->y.cells[c]? = some u->wr.cell? ⟨b1,o1+i*7+c,none⟩=some u:=λc u hc hu=>by
   rw[N.o.go.sb.cell g9.2 (λe=>by have:=i7.o b1 e;have:=g9.1;have:=Z.o.size;omega),bF];exact a0 _ _ (by rw[QcK hy c hc];exact hu)
  have e0:wr.cell? ⟨b1,o1+i*7,none⟩=some (.string y.k):=a3 0 _ (by decide) rfl;have e1:wr.cell? ⟨b1,o1+i*7+1,none⟩=some (.int .i64 y.v.kind):=a3 1 _ (by decide) rfl;have e2:wr.cell? ⟨b1,o1+i*7+2,none⟩=some (.bool y.v.b):=a3 2 _ (by decide) rfl;have e3:wr.cell? ⟨b1,o1+i*7+3,none⟩=some (.int .i64 y.v.i):=a3 3 _ (by decide) rfl;have e4:wr.cell? ⟨b1,o1+i*7+4,none⟩=some (.string y.v.t):=a3 4 _ (by decide) rfl;have e5:wr.cell? ⟨b1,o1+i*7+5,none⟩=some (.slice y.sl.a y.v.l.length y.sl.c):=a3 5 _ (by decide) rfl;have e6:wr.cell? ⟨b1,o1+i*7+6,none⟩=some (.slice y.so.a y.v.ok.length y.so.c):=a3 6 _ (by decide) rfl;have a7:=(fu wr).alloc y.cells.toArray 70;have k2:=k7.o y (al hy);have f3:RV wr (QrO w1.heap.size W0 s2) y.v y.sl y.so:=k2.agree λb (z:QrO w1.heap.size W0 s2 b)=>N.o.go.sb.block b z.2.1 λe=>by have:=i7.o b e;have:=z.1;have:=Z.o.size;omega
  have f4:RV (wr.alloc (.cells y.cells.toArray 70)) (Lt (wr.alloc (.cells y.cells.toArray 70)).heap.size) y.v y.sl y.so:=(f3.agree (a7.agree λb (z:QrO w1.heap.size W0 s2 b)=>ab z.2.1 N.o.go.sb.size)).mono λb z=>ab z.2.1 (aj N.o.go.sb.size a7.size)
  have c3:=Qql (k:=y.k) (N.o.at_.nw (fv a7)) (λb z=>ab (k8.o b z) (aj c9.o.size (aj N.o.go.sb.size a7.size))) (by have:=N.o.few;have:=HN.o;have:=a6.o;have:=c0.o;omega) (aj (Qe4 g0) (by decide)) f4 (aj g5.cnt (by decide)) (((j1.o.nw c9.o).sb N.o.go.sb (λb z e=>HH.o.ov.out b e (n6.o b z))).nw (fv a7));rw[f2]at c3;have k6:=hY c3;have o4:=hY (fv a7);have q3:=hY (show Qbq (QaJ (QeT M (L.map Prod.fst)) ((L.take i).map (mvE f t))) y.k y.v=QaJ (QeT M (L.map Prod.fst)) ((L.take (i+1)).map (mvE f t))by
   rw[aZ,hx,aR];show _=QaJ _ (_++[mvE f t x]);rw[QeC,<-d6];rfl)
  rw[a5];clear hk hv hg c1 g0 g5 f2 a0 R g9 a3 a7 k2 f3 f4 c3 hy hx d6 g4 c7;go_wp2_with fail;refine k6.o.mono ?_;rintro e w5 ⟨rfl,d3,b3⟩;have i2:=N.o.trans (b3.since o4.o);rw[q3.o]at i2;have o8:=hY i2;clear b3 i2;have d0:wrap64 ((i:Int)+1)=((i+1:Nat):Int):=by unfold wrap64;omega
  go_wp2_with fail;go_roundw
  case measure=>simp[intOf];omega
  exact⟨i+1,d3,by go_num,f9,o8⟩
 obtain rfl:i=ys.length:=by omega
 have m1:decide ((ys.length:Int)<(ys.length:Int))=false:=eh (by omega);have i8:=N.o;rw[c0.o,aP]at i8;have p8:=hY ((i8.since c9.o).more (m:=2*M.length) (by have:=a6.o;omega));clear i8 N;go_wp2_with fail;go_ret;exact⟨by rw[D.o]<;>rfl,d2,by rw[D.o];exact p8.o⟩
def HB(H:Nat->Prop)(a b:Nat):Nat->Prop:=λi=>H i\/(a<=i/\i<b)
variable{w0:World}
theorem OvX.boxes(h:OvX H w O d M)(k:Nw w w0):OvX (HB H w.heap.size w0.heap.size) w0 O d M:=
 OvX.nw ⟨h.ov.more λb D e=>e.elim id λz=>by have:=z.1;omega,h.rel⟩ k
variable{G:Nat->Prop}{w':World}
theorem GoX.less{d d':OD}(h:GoX G w O d M n w' d')(z:∀b,H b->G b):GoX H w O d M n w' d':=
 ⟨⟨h.go.at_.more λb _ e=>z b e,h.go.sb,h.go.new⟩,h.T,h.rel,h.us,h.hs,h.few⟩
variable{B:Nat}{u:Value}
theorem heap_set{v:Value}(h:w'.heap[B]? = w.heap[B]?){t:TypeId}(z:Blk w B t #[u]):(w'.setCell ⟨B,0,none⟩ v).heap[B]? =(w.setCell ⟨B,0,none⟩ v).heap[B]?:=by
 have h1:Blk (w.setCell ⟨B,0,none⟩ v) B t #[v]:=z.Qdz 0 v;have h2:Blk (w'.setCell ⟨B,0,none⟩ v) B t #[v]:=(show Blk w' B t #[u]from h.trans z).Qdz 0 v;exact Eq.trans h2 (Eq.symm h1)
theorem GoX.code{d d':OD}(h:GoX H w O d M n w' d'){t:TypeId}{u v:Value}(N:H B)(J:Blk w B t #[u])(U:¬OvB O d B) :
  GoX H (w.setCell ⟨B,0,none⟩ v) O d M n (w'.setCell ⟨B,0,none⟩ v) d':=by
 have s1:Sb (λi=>i=B) w (w.setCell ⟨B,0,none⟩ v):=(fB (λi=>i=B) w).set (p:=⟨B,0,none⟩) (.inr rfl) v;have s2:Sb (λi=>i=B) w' (w'.setCell ⟨B,0,none⟩ v):=(fB (λi=>i=B) w').set (p:=⟨B,0,none⟩) (.inr rfl) v;have D:(w.setCell ⟨B,0,none⟩ v).heap.size=w.heap.size:=by simp
 have L:(w'.setCell ⟨B,0,none⟩ v).heap.size=w'.heap.size:=by simp
 have hs:=h.go.sb;have R:=J.lt;refine⟨⟨h.go.at_.sb s2 λb e=>by rw[e];exact N,⟨?_,?_,?_,by rw[D,L];exact hs.size,λi hi I=>?_⟩,λb z=>(h.go.new b z).imp id λe=>by rw[D];exact e⟩,h.T,h.rel,h.us,h.hs,h.few⟩
 .rw [s2.os,hs.os,s1.os]
 .rw [s2.tape,hs.tape,s1.tape]
 .rw [s2.output,hs.output,s1.output]
 rw[D]at hi;by_cases e:i=B
 ·subst e
  exact heap_set (hs.block i hi I) J
 rw[s2.block i (ab hi hs.size) e,hs.block i hi I,s1.block i hi e]
variable{w1:World}
theorem Qsq{d d1:OD}{M M1:List Ent}{n D R U:Nat}{code:Int}(u:FrameMode)(h:OvX H w0 O d M)(g:GoX H w0 O d M1 n w1 d1)(hn:d1.us.length<=1000000)
  (X:Blk w1 D 43 #[.int .i64 code]) (h2:Blk w1 R 36 #[.pointer (some ⟨O,0,none⟩)]) (h5:Blk w1 U 3 #[.int .i64 (d.us.length:Int)]) (o4:¬OvB O d D) (l4:D<w0.heap.size) :
  CallsD prog 74 #[.pointer (some ⟨D,0,none⟩),.pointer (some ⟨R,0,none⟩),.pointer (some ⟨U,0,none⟩)] u w1 λe u' w'=>u'=u/\(e=.returned (.tuple #[])/\Blk w' D 43 #[.int .i64 code]/\∃d2,GoX H w0 O d (if code=0 then M1 else M) n w' d2):=by
 have c4:w1.cell? ⟨D,0,none⟩=some (.int .i64 code):=X.cell 0;have c2:w1.cell? ⟨R,0,none⟩=some (.pointer (some ⟨O,0,none⟩)):=h2.cell 0;have c5:w1.cell? ⟨U,0,none⟩=some (.int .i64 (d.us.length:Int)):=h5.cell 0;have z:=Qub h g hn;have HB:=hY z;have Y:=hY g;have Z:=hY X;have I:=hY o4;have L:=hY l4;clear z h g hn X h2 h5 o4 l4;by_cases N:code=0
 ·subst N
  go_enter_d func74,ntmps74;go_wp2_with fail;go_end0;exact⟨rfl,Z.o,d1,Y.o⟩
 have g0:(code==0)=false:=eu.2 N;have H0:=hY N;clear N;go_enter_d func74,ntmps74;go_wp2_with fail;refine HB.o.mono ?_;rintro e w2 ⟨rfl,d2,hg,-⟩;have J:=hY hg;clear hg;go_wp2_with fail;go_end0;exact⟨rfl,(J.o.go.sb.block D L.o I.o).trans ((Y.o.go.sb.block D L.o I.o).symm.trans Z.o),d2,J.o.more (av _)⟩
theorem Qcx{w I w3:World}{d d1:OD}{M M1:List Ent}{n N D R:Nat}{code:Int}{z:Value}(hw:Nw w I)(h:OvX (HB H w.heap.size I.heap.size) I O d M)(L:∀b,OvB O d b->b<w.heap.size)
  (g:GoX (HB H w.heap.size I.heap.size) I O d M1 n w3 d1) (hn:d1.us.length<=1000000) (U:Blk I D 43 #[z]) (h2:Blk I N 36 #[.pointer (some ⟨O,0,none⟩)]) (h5:Blk I R 3 #[.int .i64 (d.us.length:Int)])
  (X:w.heap.size<=D) (l2:w.heap.size<=N) (l5:w.heap.size<=R) (n2:N≠D) (n5:R≠D) :
  CallsD prog 74 #[.pointer (some ⟨D,0,none⟩),.pointer (some ⟨N,0,none⟩),.pointer (some ⟨R,0,none⟩)] .returning (w3.setCell ⟨D,0,none⟩ (.int .i64 code)) λe u' w'=>
   u'=.returning/\(e=.returned (.tuple #[])/\Blk w' D 43 #[.int .i64 code]/\∃d2,GoX H w O d (if code=0 then M1 else M) n w' d2):=by
 have J:∀{b},w.heap.size<=b->¬OvB O d b:=λhb e=>by have:=L _ e;omega
 have s0:Sb (λi=>i=D) I (I.setCell ⟨D,0,none⟩ (.int .i64 code)):=(fB (λi=>i=D) I).set (p:=⟨D,0,none⟩) (.inr rfl) _;have s3:Sb (λi=>i=D) w3 (w3.setCell ⟨D,0,none⟩ (.int .i64 code)):=(fB (λi=>i=D) w3).set (p:=⟨D,0,none⟩) (.inr rfl) _;have hB:HB H w.heap.size I.heap.size D:=.inr ⟨X,U.lt⟩;have Z:=g.code (v:=.int .i64 code) hB U (J X);have hx:OvX (HB H w.heap.size I.heap.size) (I.setCell ⟨D,0,none⟩ (.int .i64 code)) O d M:=⟨h.ov.sb s0 λb e=>by rw[e];exact hB,h.rel⟩;have z0:(I.setCell ⟨D,0,none⟩ (.int .i64 code)).heap.size=I.heap.size:=by simp
 have Y:Nw w (I.setCell ⟨D,0,none⟩ (.int .i64 code)):=hw.comp s0 λi hi e=>by omega
 refine(Qsq .returning hx Z hn ((g.go.sb.blk U (J X)).Qdz 0 (.int .i64 code)) (s3.blk (g.go.sb.blk h2 (J l2)) n2) (s3.blk (g.go.sb.blk h5 (J l5)) n5) (J X) (by rw[z0];exact U.lt)).mono ?_;rintro e u' w' ⟨h1,a0,h3,d2,hg⟩;exact⟨h1,a0,h3,d2,(hg.less λb e=>.inl e).since Y⟩
theorem Qgm{k:ByteArray}{v:Val}(h:(setMu M k v).1≠0):(setMu M k v).2=M:=by
 unfold setMu at h ⊢;split at h
 .rw [em (by assumption)]
 rename_i h1;rw[ef h1];split at h
 .rw [em (by assumption)]
 exact absurd rfl h
theorem Qn4{k:ByteArray}{n b:Int}(h:(Qqx M k n b).1≠0):(Qqx M k n b).2=M:=by
 unfold Qqx at h ⊢;split at h
 .rw [em (by assumption)]
 rename_i h1;rw[ef h1];exact Qgm h
theorem QpM{k:ByteArray}{l:List Val}{x:Val}(h:(Qma M k l x).1≠0):(Qma M k l x).2=M:=by
 unfold Qma at h ⊢;split at h
 .rw [em (by assumption)]
 rename_i h1;rw[ef h1];exact Qgm h
theorem Qck{m:Mu}:(stepM m M).1≠0->(stepM m M).2=M:=by
 obtain⟨z,k,tk,i,X,Z,Y,v,l⟩:=m;rw[stepM];by_cases U:z=1
 .rw [em U];exact Qgm
 rw[ef U];by_cases R:z=2
 ·rw [em R];split
  .exact λh=>absurd rfl h
  exactλ_=>rfl
 rw[ef R];by_cases N:z=3
 ·rw [em N];unfold Qeo;split
  ·split
   .exact λ_=>rfl
   exact Qn4
  exact Qn4
 rw[ef N];by_cases D:z=4
 ·rw [em D];split
  ·split
   .exact Qgm
   exactλh=>absurd rfl h
  exactλ_=>rfl
 rw[ef D];by_cases J:z=5
 ·rw [em J];unfold Qqk;split
  ·split
   .exact λ_=>rfl
   exact QpM
  exact QpM
 rw[ef J];by_cases I:z=6
 ·rw [em I];unfold QcA;split
  .exact λ_=>rfl
  exactλh=>absurd rfl h
 rw[ef I];by_cases L:z=7
 ·rw [em L];split
  ·split
   .exact λ_=>rfl
   rename_i h1;exactλh=>absurd h h1
  exactλ_=>rfl
 rw[ef L]
 exactλ_=>rfl
def Qcd(m:Mu)(M:List Ent):Nat:=QaT m*(2*(M.length+QaT m)+1)
theorem QdE(m:Mu)(M:List Ent):1+2*M.length<=Qcd m M:=by
 have h:1<=QaT m:=by rw[Qgn];omega
 unfold Qcd
 calc 1+2*M.length<=1*(2*(M.length+QaT m)+1):=by omega
  _<=QaT m*(2*(M.length+QaT m)+1):=bZ _ h
theorem Qs2(m:Mu):m.tk.size<=QcF m:=by
 obtain⟨L,k,z,i,I,D,J,v,l⟩:=m;rw[QcF];show z.size<=_;omega
theorem Qjm{d d2:OD}{r:Int × List Ent}(h:r.1≠0->r.2=M)(z:GoX H w O d (if r.1=0 then r.2 else M) n w' d2):∃d',GoX H w O d r.2 n w' d':=by
 refine⟨d2,?_⟩;by_cases D:r.1=0
 .rw [em D]at z;exact z
 rw[ef D]at z;rw[h D];exact z
variable{c:MuS}
theorem Qop{m:Mu}(h:OvX H w O d M)(hH:∀b,H b->b<w)(hG:∀b,b<6->H b)(hm:RMu w (λb=>b<w/\¬OvB O d b) m c)(hL:Qb9 w)
  (hd:d.us.length+Qcd m M<=1000000) (hl:(Qab d.T).length<=1000000) (ht:QcF m<=1000000) (hk:m.kd=1) :
  Calls prog 46 #[.pointer (some ⟨O,0,none⟩),QaG m c] w λe w'=>e=.returned (.int .i64 (stepM m M).1)/\∃d',GoX H w O d (stepM m M).2 (Qcd m M) w' d':=by
 have e3:∀(fn:Fn) (first a5:Array Value) (w:World),(Instr.makeFunc fn first a5).run prog w=.ok (.func fn first a5) w:=λ_ _ _ _=>rfl
 have e1:(m.kd==1)=true:=by simp[hk]
 have HD:=hY hd;have e4:=hY hl;have d6:=hY ht;have c6:=hY (QdE m M);have d3:=hY hk;clear hd hl ht hk;obtain⟨r,hr⟩:∃r,stepM m M=r:=⟨_,rfl⟩;rw[hr];have c8:=hY (show r.1≠0->r.2=M fromλh=>by rw[<-hr]at h ⊢;exact Qck h);have HR:=hY hr;clear hr;go_enter_defers func46,ntmps46;go_upto_region 1 with fail;generalize b7:World.alloc _ _=W0;obtain⟨a2,a8,a0,c3,D⟩:=Qas w _ _ _ _ _ _ W0 b7;have c2:W0.cell? ⟨w,0,none⟩=some (.pointer (some ⟨O,0,none⟩)):=a0.cell 0;have L:=QdN (h.ov.nw (fv a2));have d5:=hY L;have a9:=hY a2;have b0:=hY a0;have b8:=hY c3;have a4:=hY D;have b4:=hY a8;have HH:=hY h;have d0:=hY hH;have d8:=hY hG;have HM:=hY hm;have HL:=hY hL;clear b7 a2 a8 a0 c3 D L h hH hG hm hL;go_wp2_with fail;refine d5.o.mono ?_;rintro e w1 ⟨rfl,I⟩;go_upto_region 2 with fail;have z:=(fu w1).alloc #[.int .i64 (d.us.length:Int)] 3;have a3:=fx w1 3 #[.int .i64 (d.us.length:Int)];have a1:(w1.alloc (.cells #[.int .i64 (d.us.length:Int)] 3)).heap.size=w1.heap.size+1:=ew _ _;generalize c7:World.alloc _ _=W2 at z a3 a1 ⊢;have J:=hY ((a9.o.trans I).trans z);have X:=hY ((b0.o.ext I).ext z);have b5:=hY ((b8.o.ext I).ext z);have Y:=hY ((a4.o.ext I).ext z);have d4:=hY a3;have HZ:=hY (show w.heap.size+3<=w1.heap.size/\W2.heap.size=w1.heap.size+1 from⟨by rw[<-b4.o];exact I.size,a1⟩);have N:=hY (fD b5.o);have b6:=hY (HH.o.boxes (fv J.o));clear c7 I z a3 a1 c2 a9 b0 b8 a4 b4;have k0:=N.o.kind;go_upto_region 4 with fail;have c0:stepM m M=setMu M m.k m.v:=by
  obtain⟨kd,k,tk,i,d7,e2,e0,v,l⟩:=m;have hk:kd=1:=d3.o;subst hk;rw[stepM];rfl
 obtain⟨v0,v1,v2,v3,v4,v5⟩:=N.o.v6;have b1:=N.o.c1;have e6:=N.o.c2;have b3:W2.cell? ⟨w+1,3,none⟩=some (.int .i64 m.i):=N.o 3 _ rfl;have b2:W2.cell? ⟨w,0,none⟩=some (.pointer (some ⟨O,0,none⟩)):=X.o.cell 0;have Z:RMu W2 (Lt W2) m c:=(HM.o.agree (J.o.agree λb U=>U.1)).mono λb U=>ab U.1 J.o.size
 have R:=Qql (k:=m.k) b6.o (λb U=>U.elim (λe=>ab (d0.o b e) J.o.size) λe=>e.2) (by have:=HD.o;have:=c6.o;omega) Z.parts.2.2.1 Z.parts.2.1 (aj (Qka m).1 (by have:=d6.o;omega)) (HL.o.nw (fv J.o));rw[<-c0,HR.o]at R;clear c0;have a6:=hY R;clear R Z;go_wp2_with fail;refine a6.o.mono ?_;rintro e w3 ⟨rfl,d1,hg⟩;have HG:=hY (hg.more (m:=Qcd m M) (by have:=c6.o;omega));have D:=hg.go.sb.blk Y.o (λe=>by have:=HH.o.ov.Qbe e;omega);have c4:w3.cell? ⟨w+1+1,0,none⟩=some (.int .i64 0):=D.cell 0;have f4:=D.frozen 0;clear hg D k0;go_wp2_with fail;refine eR (f:=74) (args:=#[.pointer (some ⟨w+1+1,0,none⟩),.pointer (some ⟨w,0,none⟩),.pointer (some ⟨w1,0,none⟩)]) (by simp) (by simp[go_sem]) ?_;refine(Qcx (code:=r.1) (fv J.o) b6.o (λb e=>HH.o.ov.Qbe e) HG.o (by have:=HG.o.few;have:=HD.o;omega) Y.o X.o d4.o (by omega) (by omega) (by have:=HZ.o;omega) (by omega) (by have:=HZ.o;omega)).mono ?_;rintro e u' c9 ⟨rfl,rfl,U,d2,hg⟩;have q4:c9.cell? ⟨w+1+1,0,none⟩=some (.int .i64 r.1):=U.cell 0;have a7:=Qjm (r:=r) c8.o hg;clear U hg;simp[Leaves,settle,results,results46,go_sem,q4,a7]
theorem Qoq{m:Mu}(h:OvX H w O d M)(hH:∀b,H b->b<w)(hG:∀b,b<6->H b)(hm:RMu w (λb=>b<w/\¬OvB O d b) m c)(hL:Qb9 w)
  (hd:d.us.length+Qcd m M<=1000000) (hl:(Qab d.T).length<=1000000) (ht:QcF m<=1000000) (hk:m.kd=2) :
  Calls prog 46 #[.pointer (some ⟨O,0,none⟩),QaG m c] w λe w'=>e=.returned (.int .i64 (stepM m M).1)/\∃d',GoX H w O d (stepM m M).2 (Qcd m M) w' d':=by
 have e4:∀(fn:Fn) (first a9:Array Value) (w:World),(Instr.makeFunc fn first a9).run prog w=.ok (.func fn first a9) w:=λ_ _ _ _=>rfl
 have e1:(m.kd==1)=false:=by simp[hk]
 have e2:(m.kd==2)=true:=by simp[hk]
 have HD:=hY hd;have d5:=hY hl;have e6:=hY ht;have c8:=hY (QdE m M);have d3:=hY hk;clear hd hl ht hk;obtain⟨r,hr⟩:∃r,stepM m M=r:=⟨_,rfl⟩;rw[hr];have d6:=hY (show r.1≠0->r.2=M fromλh=>by rw[<-hr]at h ⊢;exact Qck h);have HR:=hY hr;clear hr;go_enter_defers func46,ntmps46;go_upto_region 1 with fail;generalize c0:World.alloc _ _=W0;obtain⟨a5,b3,a1,c7,z⟩:=Qas w _ _ _ _ _ _ W0 c0;have c2:W0.cell? ⟨w,0,none⟩=some (.pointer (some ⟨O,0,none⟩)):=a1.cell 0;have N:=QdN (h.ov.nw (fv a5));have d4:=hY N;have b4:=hY a5;have b5:=hY a1;have c3:=hY c7;have a7:=hY z;have b7:=hY b3;have HH:=hY h;have d0:=hY hH;have d8:=hY hG;have HM:=hY hm;have HL:=hY hL;clear c0 a5 b3 a1 c7 z N h hH hG hm hL;go_wp2_with fail;refine d4.o.mono ?_;rintro e w1 ⟨rfl,J⟩;go_upto_region 2 with fail;have I:=(fu w1).alloc #[.int .i64 (d.us.length:Int)] 3;have a6:=fx w1 3 #[.int .i64 (d.us.length:Int)];have a2:(w1.alloc (.cells #[.int .i64 (d.us.length:Int)] 3)).heap.size=w1.heap.size+1:=ew _ _;generalize c9:World.alloc _ _=W2 at I a6 a2 ⊢;have L:=hY ((b4.o.trans J).trans I);have Y:=hY ((b5.o.ext J).ext I);have b8:=hY ((c3.o.ext J).ext I);have D:=hY ((a7.o.ext J).ext I);have c6:=hY a6;have HZ:=hY (show w.heap.size+3<=w1.heap.size/\W2.heap.size=w1.heap.size+1 from⟨by rw[<-b7.o];exact J.size,a2⟩);have b6:=hY (fD b8.o);have a3:=hY (HH.o.boxes (fv L.o));clear c9 J I a6 a2 c2 b4 b5 c3 a7 b7;have k0:=b6.o.kind;go_upto_region 4 with fail;have a4:stepM m M=if(Qam M m.k).isSome then(0,Qb2 M m.k)else(12,M):=by
  obtain⟨kd,k,tk,i,d7,e3,e0,v,l⟩:=m;have hk:kd=2:=d3.o;subst hk;rw[stepM];rfl
 have b1:=b6.o.c1;have b2:W2.cell? ⟨w,0,none⟩=some (.pointer (some ⟨O,0,none⟩)):=Y.o.cell 0;have a8:RMu W2 (Lt W2) m c:=(HM.o.agree (L.o.agree λb X=>X.1)).mono λb X=>ab X.1 L.o.size
 have a0:=Que (k:=m.k) a3.o (λb X=>X.elim (λe=>ab (d0.o b e) L.o.size) λe=>e.2) (by have:=HD.o;have:=c8.o;omega) d5.o a8.parts.2.2.1;rw[HR.o]at a4;have Z:=hY a4;have b0:=hY a0;clear a0 a8 a4;go_wp2_with fail;refine b0.o.mono ?_;rintro e w3 ⟨rfl,d1,hg⟩;have HG:=hY (hg.more (m:=Qcd m M) (by have:=c8.o;omega));clear hg k0;rcases aQ (Qam M m.k).isSome with hi|hi
 ·have hs:=Z.o
  rw[em hi]at hs;subst hs;rw[hi];clear hi Z;have z:=HG.o.go.sb.blk D.o (λe=>by have:=HH.o.ov.Qbe e;omega);have c4:w3.cell? ⟨w+1+1,0,none⟩=some (.int .i64 0):=z.cell 0;have f4:=z.frozen 0;clear z;go_wp2_with fail;refine eR (f:=74) (args:=#[.pointer (some ⟨w+1+1,0,none⟩),.pointer (some ⟨w,0,none⟩),.pointer (some ⟨w1,0,none⟩)]) (by simp) (by simp[go_sem]) ?_;refine(Qcx (code:=0) (fv L.o) a3.o (λb e=>HH.o.ov.Qbe e) HG.o (by have:=HG.o.few;have:=HD.o;omega) D.o Y.o c6.o (by omega) (by omega) (by have:=HZ.o;omega) (by omega) (by have:=HZ.o;omega)).mono ?_;rintro e u' U ⟨rfl,rfl,X,d2,hg⟩;have q4:U.cell? ⟨w+1+1,0,none⟩=some (.int .i64 0):=X.cell 0;have R:=(show ∃d',GoX H w O d (Qb2 M m.k) (Qcd m M) U d' from⟨d2,hg⟩);clear X hg;simp[Leaves,settle,results,results46,go_sem,q4,R]
 have hs:=Z.o;rw[ef (by rw[hi];decide)]at hs;subst hs;rw[hi];clear hi Z;have z:=HG.o.go.sb.blk D.o (λe=>by have:=HH.o.ov.Qbe e;omega);have c4:w3.cell? ⟨w+1+1,0,none⟩=some (.int .i64 0):=z.cell 0;have f4:=z.frozen 0;clear z;go_wp2_with fail;refine eR (f:=74) (args:=#[.pointer (some ⟨w+1+1,0,none⟩),.pointer (some ⟨w,0,none⟩),.pointer (some ⟨w1,0,none⟩)]) (by simp) (by simp[go_sem]) ?_;refine(Qcx (code:=12) (fv L.o) a3.o (λb e=>HH.o.ov.Qbe e) HG.o (by have:=HG.o.few;have:=HD.o;omega) D.o Y.o c6.o (by omega) (by omega) (by have:=HZ.o;omega) (by omega) (by have:=HZ.o;omega)).mono ?_;rintro e u' U ⟨rfl,rfl,X,d2,hg⟩;have q4:U.cell? ⟨w+1+1,0,none⟩=some (.int .i64 12):=X.cell 0;have R:=(show ∃d',GoX H w O d M (Qcd m M) U d' from⟨d2,hg⟩);clear X hg;simp[Leaves,settle,results,results46,go_sem,q4,R]
theorem Qor{m:Mu}(h:OvX H w O d M)(hH:∀b,H b->b<w)(hG:∀b,b<6->H b)(hm:RMu w (λb=>b<w/\¬OvB O d b) m c)(hL:Qb9 w)
  (hd:d.us.length+Qcd m M<=1000000) (hl:(Qab d.T).length<=1000000) (ht:QcF m<=1000000) (hk:m.kd=3) :
  Calls prog 46 #[.pointer (some ⟨O,0,none⟩),QaG m c] w λe w'=>e=.returned (.int .i64 (stepM m M).1)/\∃d',GoX H w O d (stepM m M).2 (Qcd m M) w' d':=by
 have e6:∀(fn:Fn) (first a5:Array Value) (w:World),(Instr.makeFunc fn first a5).run prog w=.ok (.func fn first a5) w:=λ_ _ _ _=>rfl
 have e1:(m.kd==1)=false:=by simp[hk]
 have e2:(m.kd==2)=false:=by simp[hk]
 have e3:(m.kd==3)=true:=by simp[hk]
 have HD:=hY hd;have d6:=hY hl;have e8:=hY ht;have c6:=hY (QdE m M);have d3:=hY hk;clear hd hl ht hk;obtain⟨r,hr⟩:∃r,stepM m M=r:=⟨_,rfl⟩;rw[hr];have c8:=hY (show r.1≠0->r.2=M fromλh=>by rw[<-hr]at h ⊢;exact Qck h);have HR:=hY hr;clear hr;go_enter_defers func46,ntmps46;go_upto_region 1 with fail;generalize b7:World.alloc _ _=W0;obtain⟨a2,a8,a0,c3,D⟩:=Qas w _ _ _ _ _ _ W0 b7;have c2:W0.cell? ⟨w,0,none⟩=some (.pointer (some ⟨O,0,none⟩)):=a0.cell 0;have L:=QdN (h.ov.nw (fv a2));have d5:=hY L;have a9:=hY a2;have b0:=hY a0;have b8:=hY c3;have a4:=hY D;have b4:=hY a8;have HH:=hY h;have d0:=hY hH;have d8:=hY hG;have HM:=hY hm;have HL:=hY hL;clear b7 a2 a8 a0 c3 D L h hH hG hm hL;go_wp2_with fail;refine d5.o.mono ?_;rintro e w1 ⟨rfl,I⟩;go_upto_region 2 with fail;have z:=(fu w1).alloc #[.int .i64 (d.us.length:Int)] 3;have a3:=fx w1 3 #[.int .i64 (d.us.length:Int)];have a1:(w1.alloc (.cells #[.int .i64 (d.us.length:Int)] 3)).heap.size=w1.heap.size+1:=ew _ _;generalize c7:World.alloc _ _=W2 at z a3 a1 ⊢;have J:=hY ((a9.o.trans I).trans z);have X:=hY ((b0.o.ext I).ext z);have b5:=hY ((b8.o.ext I).ext z);have Y:=hY ((a4.o.ext I).ext z);have d4:=hY a3;have HZ:=hY (show w.heap.size+3<=w1.heap.size/\W2.heap.size=w1.heap.size+1 from⟨by rw[<-b4.o];exact I.size,a1⟩);have N:=hY (fD b5.o);have b6:=hY (HH.o.boxes (fv J.o));clear c7 I z a3 a1 c2 a9 b0 b8 a4 b4;have k0:=N.o.kind;go_upto_region 4 with fail;have c0:stepM m M=Qeo M m.k m.i:=by
  obtain⟨kd,k,tk,i,d7,e4,e0,v,l⟩:=m;have hk:kd=3:=d3.o;subst hk;rw[stepM];rfl
 obtain⟨v0,v1,v2,v3,v4,v5⟩:=N.o.v6;have b1:=N.o.c1;have e7:=N.o.c2;have b3:W2.cell? ⟨w+1,3,none⟩=some (.int .i64 m.i):=N.o 3 _ rfl;have b2:W2.cell? ⟨w,0,none⟩=some (.pointer (some ⟨O,0,none⟩)):=X.o.cell 0;have Z:RMu W2 (Lt W2) m c:=(HM.o.agree (J.o.agree λb U=>U.1)).mono λb U=>ab U.1 J.o.size
 have R:=Qsx (k:=m.k) (by_:=m.i) b6.o (λb U=>U.elim (λe=>ab (d0.o b e) J.o.size) λe=>e.2) (by have:=HD.o;have:=c6.o;omega) d6.o Z.parts.2.2.1 Z.parts.2.2.2.2 (HL.o.nw (fv J.o));rw[<-c0,HR.o]at R;clear c0;have a6:=hY R;clear R Z;go_wp2_with fail;refine a6.o.mono ?_;rintro e w3 ⟨rfl,d1,hg⟩;have HG:=hY (hg.more (m:=Qcd m M) (by have:=c6.o;omega));have D:=hg.go.sb.blk Y.o (λe=>by have:=HH.o.ov.Qbe e;omega);have c4:w3.cell? ⟨w+1+1,0,none⟩=some (.int .i64 0):=D.cell 0;have f4:=D.frozen 0;clear hg D k0;go_wp2_with fail;refine eR (f:=74) (args:=#[.pointer (some ⟨w+1+1,0,none⟩),.pointer (some ⟨w,0,none⟩),.pointer (some ⟨w1,0,none⟩)]) (by simp) (by simp[go_sem]) ?_;refine(Qcx (code:=r.1) (fv J.o) b6.o (λb e=>HH.o.ov.Qbe e) HG.o (by have:=HG.o.few;have:=HD.o;omega) Y.o X.o d4.o (by omega) (by omega) (by have:=HZ.o;omega) (by omega) (by have:=HZ.o;omega)).mono ?_;rintro e u' c9 ⟨rfl,rfl,U,d2,hg⟩;have q4:c9.cell? ⟨w+1+1,0,none⟩=some (.int .i64 r.1):=U.cell 0;have a7:=Qjm (r:=r) c8.o hg;clear U hg;simp[Leaves,settle,results,results46,go_sem,q4,a7]
theorem Qos{m:Mu}(h:OvX H w O d M)(hH:∀b,H b->b<w)(hG:∀b,b<6->H b)(hm:RMu w (λb=>b<w/\¬OvB O d b) m c)(hL:Qb9 w)
  (hd:d.us.length+Qcd m M<=1000000) (hl:(Qab d.T).length<=1000000) (ht:QcF m<=1000000) (X:m.kd=4) :
  Calls prog 46 #[.pointer (some ⟨O,0,none⟩),QaG m c] w λe w'=>e=.returned (.int .i64 (stepM m M).1)/\∃d',GoX H w O d (stepM m M).2 (Qcd m M) w' d':=by
 have f0:∀(fn:Fn) (first a6:Array Value) (w:World),(Instr.makeFunc fn first a6).run prog w=.ok (.func fn first a6) w:=λ_ _ _ _=>rfl
 have e1:(m.kd==1)=false:=by simp[X]
 have e2:(m.kd==2)=false:=by simp[X]
 have e3:(m.kd==3)=false:=by simp[X]
 have e4:(m.kd==4)=true:=by simp[X]
 have HD:=hY hd;have d7:=hY hl;have d8:=hY ht;have c7:=hY (QdE m M);have d4:=hY X;clear hd hl ht X;obtain⟨r,hr⟩:∃r,stepM m M=r:=⟨_,rfl⟩;rw[hr];have c9:=hY (show r.1≠0->r.2=M fromλh=>by rw[<-hr]at h ⊢;exact Qck h);have HR:=hY hr;clear hr;go_enter_defers func46,ntmps46;go_upto_region 1 with fail;generalize b8:World.alloc _ _=W0;obtain⟨a2,a9,a0,c6,D⟩:=Qas w _ _ _ _ _ _ W0 b8;have c2:W0.cell? ⟨w,0,none⟩=some (.pointer (some ⟨O,0,none⟩)):=a0.cell 0;have N:=QdN (h.ov.nw (fv a2));have d6:=hY N;have b0:=hY a2;have b4:=hY a0;have c0:=hY c6;have a4:=hY D;have b5:=hY a9;have HH:=hY h;have d3:=hY hH;have e6:=hY hG;have HM:=hY hm;have HL:=hY hL;clear b8 a2 a9 a0 c6 D N h hH hG hm hL;go_wp2_with fail;refine d6.o.mono ?_;rintro e w1 ⟨rfl,J⟩;go_upto_region 2 with fail;have z:=(fu w1).alloc #[.int .i64 (d.us.length:Int)] 3;have a3:=fx w1 3 #[.int .i64 (d.us.length:Int)];have a1:(w1.alloc (.cells #[.int .i64 (d.us.length:Int)] 3)).heap.size=w1.heap.size+1:=ew _ _;generalize c8:World.alloc _ _=W2 at z a3 a1 ⊢;have L:=hY ((b0.o.trans J).trans z);have Y:=hY ((b4.o.ext J).ext z);have b6:=hY ((c0.o.ext J).ext z);have Z:=hY ((a4.o.ext J).ext z);have d5:=hY a3;have HZ:=hY (show w.heap.size+3<=w1.heap.size/\W2.heap.size=w1.heap.size+1 from⟨by rw[<-b5.o];exact J.size,a1⟩);have I:=hY (fD b6.o);have b7:=hY (HH.o.boxes (fv L.o));clear c8 J z a3 a1 c2 b0 b4 c0 a4 b5;have k0:=I.o.kind;go_upto_region 4 with fail;have c3:stepM m M=Qti M m:=by
  obtain⟨kd,k,tk,i,e0,e8,e7,v,l⟩:=m;have X:kd=4:=d4.o;subst X;rw[stepM];rfl
 obtain⟨v0,v1,v2,v3,v4,v5⟩:=I.o.v6;have b1:=I.o.c1;have f1:=I.o.c2;have b3:W2.cell? ⟨w+1,3,none⟩=some (.int .i64 m.i):=I.o 3 _ rfl;have b2:W2.cell? ⟨w,0,none⟩=some (.pointer (some ⟨O,0,none⟩)):=Y.o.cell 0;have a5:RMu W2 (Lt W2) m c:=(HM.o.agree (L.o.agree λb U=>U.1)).mono λb U=>ab U.1 L.o.size
 have R:=Qsk (m:=m) (c:=c) b7.o (λb U=>U.elim (λe=>ab (d3.o b e) L.o.size) λe=>e.2) (by have:=HD.o;have:=c7.o;omega) d7.o a5 (by have:=d8.o;omega) (HL.o.nw (fv L.o));rw[<-c3,HR.o]at R;clear c3;have a7:=hY R;clear R a5;go_wp2_with(refine Qak rfl (.tmp 3) rfl (w.heap.size+1) 0 rfl m c I.o ?_);refine a7.o.mono ?_;rintro e w3 ⟨rfl,d1,hg⟩;have HG:=hY (hg.more (m:=Qcd m M) (by have:=c7.o;omega));have D:=hg.go.sb.blk Z.o (λe=>by have:=HH.o.ov.Qbe e;omega);have c4:w3.cell? ⟨w+1+1,0,none⟩=some (.int .i64 0):=D.cell 0;have f4:=D.frozen 0;clear hg D k0;go_wp2_with fail;refine eR (f:=74) (args:=#[.pointer (some ⟨w+1+1,0,none⟩),.pointer (some ⟨w,0,none⟩),.pointer (some ⟨w1,0,none⟩)]) (by simp) (by simp[go_sem]) ?_;refine(Qcx (code:=r.1) (fv L.o) b7.o (λb e=>HH.o.ov.Qbe e) HG.o (by have:=HG.o.few;have:=HD.o;omega) Z.o Y.o d5.o (by omega) (by omega) (by have:=HZ.o;omega) (by omega) (by have:=HZ.o;omega)).mono ?_;rintro e u' d0 ⟨rfl,rfl,U,d2,hg⟩;have q4:d0.cell? ⟨w+1+1,0,none⟩=some (.int .i64 r.1):=U.cell 0;have a8:=Qjm (r:=r) c9.o hg;clear U hg;simp[Leaves,settle,results,results46,go_sem,q4,a8]
theorem Qot{m:Mu}(h:OvX H w O d M)(hH:∀b,H b->b<w)(hG:∀b,b<6->H b)(hm:RMu w (λb=>b<w/\¬OvB O d b) m c)(hL:Qb9 w)
  (hd:d.us.length+Qcd m M<=1000000) (hl:(Qab d.T).length<=1000000) (ht:QcF m<=1000000) (U:m.kd=5) :
  Calls prog 46 #[.pointer (some ⟨O,0,none⟩),QaG m c] w λe w'=>e=.returned (.int .i64 (stepM m M).1)/\∃d',GoX H w O d (stepM m M).2 (Qcd m M) w' d':=by
 have f0:∀(fn:Fn) (first a6:Array Value) (w:World),(Instr.makeFunc fn first a6).run prog w=.ok (.func fn first a6) w:=λ_ _ _ _=>rfl
 have e1:(m.kd==1)=false:=by simp[U]
 have e2:(m.kd==2)=false:=by simp[U]
 have e3:(m.kd==3)=false:=by simp[U]
 have e4:(m.kd==4)=false:=by simp[U]
 have e5:(m.kd==5)=true:=by simp[U]
 have HD:=hY hd;have d7:=hY hl;have d8:=hY ht;have c7:=hY (QdE m M);have d4:=hY U;clear hd hl ht U;obtain⟨r,hr⟩:∃r,stepM m M=r:=⟨_,rfl⟩;rw[hr];have c9:=hY (show r.1≠0->r.2=M fromλh=>by rw[<-hr]at h ⊢;exact Qck h);have HR:=hY hr;clear hr;go_enter_defers func46,ntmps46;go_upto_region 1 with fail;generalize b8:World.alloc _ _=W0;obtain⟨a3,a9,a1,c6,D⟩:=Qas w _ _ _ _ _ _ W0 b8;have c2:W0.cell? ⟨w,0,none⟩=some (.pointer (some ⟨O,0,none⟩)):=a1.cell 0;have L:=QdN (h.ov.nw (fv a3));have d6:=hY L;have b0:=hY a3;have b4:=hY a1;have c0:=hY c6;have a5:=hY D;have b5:=hY a9;have HH:=hY h;have d3:=hY hH;have e6:=hY hG;have HM:=hY hm;have HL:=hY hL;clear b8 a3 a9 a1 c6 D L h hH hG hm hL;go_wp2_with fail;refine d6.o.mono ?_;rintro e w1 ⟨rfl,I⟩;go_upto_region 2 with fail;have z:=(fu w1).alloc #[.int .i64 (d.us.length:Int)] 3;have a4:=fx w1 3 #[.int .i64 (d.us.length:Int)];have a2:(w1.alloc (.cells #[.int .i64 (d.us.length:Int)] 3)).heap.size=w1.heap.size+1:=ew _ _;generalize c8:World.alloc _ _=W2 at z a4 a2 ⊢;have J:=hY ((b0.o.trans I).trans z);have Y:=hY ((b4.o.ext I).ext z);have b6:=hY ((c0.o.ext I).ext z);have Z:=hY ((a5.o.ext I).ext z);have d5:=hY a4;have HZ:=hY (show w.heap.size+3<=w1.heap.size/\W2.heap.size=w1.heap.size+1 from⟨by rw[<-b5.o];exact I.size,a2⟩);have N:=hY (fD b6.o);have b7:=hY (HH.o.boxes (fv J.o));clear c8 I z a4 a2 c2 b0 b4 c0 a5 b5;have k0:=N.o.kind;go_upto_region 4 with fail;have c3:stepM m M=Qqk M m.k m.v:=by
  obtain⟨kd,k,tk,i,e0,e8,e7,v,l⟩:=m;have U:kd=5:=d4.o;subst U;rw[stepM];rfl
 obtain⟨v0,v1,v2,v3,v4,v5⟩:=N.o.v6;have b1:=N.o.c1;have f1:=N.o.c2;have b3:W2.cell? ⟨w+1,3,none⟩=some (.int .i64 m.i):=N.o 3 _ rfl;have b2:W2.cell? ⟨w,0,none⟩=some (.pointer (some ⟨O,0,none⟩)):=Y.o.cell 0;have a0:RMu W2 (Lt W2) m c:=(HM.o.agree (J.o.agree λb X=>X.1)).mono λb X=>ab X.1 J.o.size
 have R:=Qmy (k:=m.k) b7.o (λb X=>X.elim (λe=>ab (d3.o b e) J.o.size) λe=>e.2) (by have:=HD.o;have:=c7.o;omega) d7.o a0.parts.2.2.1 a0.parts.2.1 (aj (Qka m).1 (by have:=d8.o;omega)) (HL.o.nw (fv J.o));rw[<-c3,HR.o]at R;clear c3;have a7:=hY R;clear R a0;go_wp2_with fail;refine a7.o.mono ?_;rintro e w3 ⟨rfl,d1,hg⟩;have HG:=hY (hg.more (m:=Qcd m M) (by have:=c7.o;omega));have D:=hg.go.sb.blk Z.o (λe=>by have:=HH.o.ov.Qbe e;omega);have c4:w3.cell? ⟨w+1+1,0,none⟩=some (.int .i64 0):=D.cell 0;have f4:=D.frozen 0;clear hg D k0;go_wp2_with fail;refine eR (f:=74) (args:=#[.pointer (some ⟨w+1+1,0,none⟩),.pointer (some ⟨w,0,none⟩),.pointer (some ⟨w1,0,none⟩)]) (by simp) (by simp[go_sem]) ?_;refine(Qcx (code:=r.1) (fv J.o) b7.o (λb e=>HH.o.ov.Qbe e) HG.o (by have:=HG.o.few;have:=HD.o;omega) Z.o Y.o d5.o (by omega) (by omega) (by have:=HZ.o;omega) (by omega) (by have:=HZ.o;omega)).mono ?_;rintro e u' d0 ⟨rfl,rfl,X,d2,hg⟩;have q4:d0.cell? ⟨w+1+1,0,none⟩=some (.int .i64 r.1):=X.cell 0;have a8:=Qjm (r:=r) c9.o hg;clear X hg;simp[Leaves,settle,results,results46,go_sem,q4,a8]
theorem Qou{m:Mu}(h:OvX H w O d M)(hH:∀b,H b->b<w)(hG:∀b,b<6->H b)(hm:RMu w (λb=>b<w/\¬OvB O d b) m c)(hL:Qb9 w)
  (hd:d.us.length+Qcd m M<=1000000) (hl:(Qab d.T).length<=1000000) (ht:QcF m<=1000000) (X:m.kd=6) :
  Calls prog 46 #[.pointer (some ⟨O,0,none⟩),QaG m c] w λe w'=>e=.returned (.int .i64 (stepM m M).1)/\∃d',GoX H w O d (stepM m M).2 (Qcd m M) w' d':=by
 have f1:∀(fn:Fn) (first a6:Array Value) (w:World),(Instr.makeFunc fn first a6).run prog w=.ok (.func fn first a6) w:=λ_ _ _ _=>rfl
 have e1:(m.kd==1)=false:=by simp[X]
 have e2:(m.kd==2)=false:=by simp[X]
 have e3:(m.kd==3)=false:=by simp[X]
 have e4:(m.kd==4)=false:=by simp[X]
 have e5:(m.kd==5)=false:=by simp[X]
 have e6:(m.kd==6)=true:=by simp[X]
 have HD:=hY hd;have d8:=hY hl;have e0:=hY ht;have c7:=hY (QdE m M);have d5:=hY X;clear hd hl ht X;obtain⟨r,hr⟩:∃r,stepM m M=r:=⟨_,rfl⟩;rw[hr];have c9:=hY (show r.1≠0->r.2=M fromλh=>by rw[<-hr]at h ⊢;exact Qck h);have HR:=hY hr;clear hr;go_enter_defers func46,ntmps46;go_upto_region 1 with fail;generalize b8:World.alloc _ _=W0;obtain⟨a2,a9,a0,c6,D⟩:=Qas w _ _ _ _ _ _ W0 b8;have c2:W0.cell? ⟨w,0,none⟩=some (.pointer (some ⟨O,0,none⟩)):=a0.cell 0;have L:=QdN (h.ov.nw (fv a2));have d7:=hY L;have b0:=hY a2;have b4:=hY a0;have c0:=hY c6;have a4:=hY D;have b5:=hY a9;have HH:=hY h;have d4:=hY hH;have d0:=hY hG;have HM:=hY hm;have HL:=hY hL;clear b8 a2 a9 a0 c6 D L h hH hG hm hL;go_wp2_with fail;refine d7.o.mono ?_;rintro e w1 ⟨rfl,I⟩;go_upto_region 2 with fail;have z:=(fu w1).alloc #[.int .i64 (d.us.length:Int)] 3;have a3:=fx w1 3 #[.int .i64 (d.us.length:Int)];have a1:(w1.alloc (.cells #[.int .i64 (d.us.length:Int)] 3)).heap.size=w1.heap.size+1:=ew _ _;generalize c8:World.alloc _ _=W2 at z a3 a1 ⊢;have J:=hY ((b0.o.trans I).trans z);have Y:=hY ((b4.o.ext I).ext z);have b6:=hY ((c0.o.ext I).ext z);have Z:=hY ((a4.o.ext I).ext z);have d6:=hY a3;have HZ:=hY (show w.heap.size+3<=w1.heap.size/\W2.heap.size=w1.heap.size+1 from⟨by rw[<-b5.o];exact I.size,a1⟩);have N:=hY (fD b6.o);have b7:=hY (HH.o.boxes (fv J.o));clear c8 I z a3 a1 c2 b0 b4 c0 a4 b5;have k0:=N.o.kind;go_upto_region 4 with fail;have c3:stepM m M=QcA M m.k m.tk:=by
  obtain⟨kd,k,tk,i,e7,f0,e8,v,l⟩:=m;have X:kd=6:=d5.o;subst X;rw[stepM];rfl
 obtain⟨v0,v1,v2,v3,v4,v5⟩:=N.o.v6;have b1:=N.o.c1;have f2:=N.o.c2;have b3:W2.cell? ⟨w+1,3,none⟩=some (.int .i64 m.i):=N.o 3 _ rfl;have b2:W2.cell? ⟨w,0,none⟩=some (.pointer (some ⟨O,0,none⟩)):=Y.o.cell 0;have a5:RMu W2 (Lt W2) m c:=(HM.o.agree (J.o.agree λb U=>U.1)).mono λb U=>ab U.1 J.o.size
 have R:=Qrh (f:=m.k) (t:=m.tk) b7.o (λb U=>U.elim (λe=>ab (d4.o b e) J.o.size) λe=>e.2) (by have:=HD.o;have:=c7.o;omega) d8.o a5.parts.2.2.1 (aj (Qs2 m) (by have:=e0.o;omega)) (HL.o.nw (fv J.o)) (λb U=>.inl (d0.o b U));rw[<-c3,HR.o]at R;clear c3;have a7:=hY R;clear R a5;go_wp2_with fail;refine a7.o.mono ?_;rintro e w3 ⟨rfl,d1,hg⟩;have HG:=hY (hg.more (m:=Qcd m M) (by have:=c7.o;omega));have D:=hg.go.sb.blk Z.o (λe=>by have:=HH.o.ov.Qbe e;omega);have c4:w3.cell? ⟨w+1+1,0,none⟩=some (.int .i64 0):=D.cell 0;have f4:=D.frozen 0;clear hg D k0;go_wp2_with fail;refine eR (f:=74) (args:=#[.pointer (some ⟨w+1+1,0,none⟩),.pointer (some ⟨w,0,none⟩),.pointer (some ⟨w1,0,none⟩)]) (by simp) (by simp[go_sem]) ?_;refine(Qcx (code:=r.1) (fv J.o) b7.o (λb e=>HH.o.ov.Qbe e) HG.o (by have:=HG.o.few;have:=HD.o;omega) Z.o Y.o d6.o (by omega) (by omega) (by have:=HZ.o;omega) (by omega) (by have:=HZ.o;omega)).mono ?_;rintro e u' d3 ⟨rfl,rfl,U,d2,hg⟩;have q4:d3.cell? ⟨w+1+1,0,none⟩=some (.int .i64 r.1):=U.cell 0;have a8:=Qjm (r:=r) c9.o hg;clear U hg;simp[Leaves,settle,results,results46,go_sem,q4,a8]
theorem Qow{m:Mu}(h:OvX H w O d M)(hH:∀b,H b->b<w)(hG:∀b,b<6->H b)(hm:RMu w (λb=>b<w/\¬OvB O d b) m c)(hL:Qb9 w)
  (hd:d.us.length+Qcd m M<=1000000) (hl:(Qab d.T).length<=1000000) (ht:QcF m<=1000000) (z:m.kd≠1/\m.kd≠2/\m.kd≠3/\m.kd≠4/\m.kd≠5/\m.kd≠6/\m.kd≠7) :
  Calls prog 46 #[.pointer (some ⟨O,0,none⟩),QaG m c] w λe w'=>e=.returned (.int .i64 (stepM m M).1)/\∃d',GoX H w O d (stepM m M).2 (Qcd m M) w' d':=by
 have d6:∀(fn:Fn) (first a0:Array Value) (w:World),(Instr.makeFunc fn first a0).run prog w=.ok (.func fn first a0) w:=λ_ _ _ _=>rfl
 have e1:(m.kd==1)=false:=eu.2 z.1;have e2:(m.kd==2)=false:=eu.2 z.2.1;have e3:(m.kd==3)=false:=eu.2 z.2.2.1;have e4:(m.kd==4)=false:=eu.2 z.2.2.2.1;have e5:(m.kd==5)=false:=eu.2 z.2.2.2.2.1;have e6:(m.kd==6)=false:=eu.2 z.2.2.2.2.2.1;have e7:(m.kd==7)=false:=eu.2 z.2.2.2.2.2.2;have HD:=hY hd;have d7:=hY hl;have d8:=hY ht;have d5:=hY (QdE m M);have c0:=hY z;clear hd hl ht z;obtain⟨r,hr⟩:∃r,stepM m M=r:=⟨_,rfl⟩;rw[hr];have c7:=hY (show r.1≠0->r.2=M fromλh=>by rw[<-hr]at h ⊢;exact Qck h);have HR:=hY hr;clear hr;go_enter_defers func46,ntmps46;go_upto_region 1 with fail;generalize b0:World.alloc _ _=W0;obtain⟨X,a3,N,b6,a6⟩:=Qas w _ _ _ _ _ _ W0 b0;have c2:W0.cell? ⟨w,0,none⟩=some (.pointer (some ⟨O,0,none⟩)):=N.cell 0;have J:=QdN (h.ov.nw (fv X));have c6:=hY J;have a4:=hY X;have a5:=hY N;have b3:=hY b6;have Z:=hY a6;have a7:=hY a3;have HH:=hY h;have d3:=hY hH;have c9:=hY hG;have HM:=hY hm;have HL:=hY hL;clear b0 X a3 N b6 a6 J h hH hG hm hL;go_wp2_with fail;refine c6.o.mono ?_;rintro e w1 ⟨rfl,I⟩;go_upto_region 2 with fail;have D:=(fu w1).alloc #[.int .i64 (d.us.length:Int)] 3;have Y:=fx w1 3 #[.int .i64 (d.us.length:Int)];have R:(w1.alloc (.cells #[.int .i64 (d.us.length:Int)] 3)).heap.size=w1.heap.size+1:=ew _ _;generalize b7:World.alloc _ _=W2 at D Y R ⊢;have b5:=hY ((a4.o.trans I).trans D);have b4:=hY ((a5.o.ext I).ext D);have a8:=hY ((b3.o.ext I).ext D);have L:=hY ((Z.o.ext I).ext D);have c1:=hY Y;have HZ:=hY (show w.heap.size+3<=w1.heap.size/\W2.heap.size=w1.heap.size+1 from⟨by rw[<-a7.o];exact I.size,R⟩);have b8:=hY (fD a8.o);have a9:=hY (HH.o.boxes (fv b5.o));clear b7 I D Y R c2 a4 a5 b3 Z a7;have k0:=b8.o.kind;go_upto_region 4 with fail;have c3:r=(9,M):=by
  rw[<-HR.o];obtain⟨U,k,tk,i,c8,d4,d0,v,l⟩:=m;have z:U≠1/\U≠2/\U≠3/\U≠4/\U≠5/\U≠6/\U≠7:=c0.o;rw[stepM,ef z.1,ef z.2.1,ef z.2.2.1,ef z.2.2.2.1,ef z.2.2.2.2.1,ef z.2.2.2.2.2.1,ef z.2.2.2.2.2.2]
 subst c3;have HG:=hY (a9.o.stay (n:=Qcd m M) (fB _ W2));have c4:W2.cell? ⟨w+1+1,0,none⟩=some (.int .i64 0):=L.o.cell 0;have f4:=L.o.frozen 0;go_wp2_with fail;refine eR (f:=74) (args:=#[.pointer (some ⟨w+1+1,0,none⟩),.pointer (some ⟨w,0,none⟩),.pointer (some ⟨w1,0,none⟩)]) (by simp) (by simp[go_sem]) ?_;refine(Qcx (code:=9) (fv b5.o) a9.o (λb e=>HH.o.ov.Qbe e) HG.o (by have:=HG.o.few;have:=HD.o;omega) L.o b4.o c1.o (by omega) (by omega) (by have:=HZ.o;omega) (by omega) (by have:=HZ.o;omega)).mono ?_;rintro e u' a2 ⟨rfl,rfl,hb,d2,hg⟩;have q4:a2.cell? ⟨w+1+1,0,none⟩=some (.int .i64 9):=hb.cell 0;have a1:=(show ∃d',GoX H w O d M (Qcd m M) a2 d' from⟨d2,hg⟩);clear hb hg;simp[Leaves,settle,results,results46,go_sem,q4,a1]
theorem Qs0{l:List Mu}{x:Mu}(h:l[j]? = some x)(M:List Ent):Qks (l.drop j) M=if(stepM x M).1≠0 then((stepM x M).1,M)else Qks (l.drop (j+1)) (stepM x M).2:=by
 obtain⟨h1,h2⟩:=ah.1 h;rw[aD h1,h2,Qks]
def QuM(m:Mu):Prop:=∀(j:Nat) (x:Mu),m.l[j]? = some x->∀(y:MuS) (H:Nat->Prop) (W:World) (O:Nat) (d:OD) (M:List Ent),OvX H W O d M->(∀b,H b->b<W.heap.size)->(∀b,b<6->H b)->RMu W (λb=>b<W.heap.size/\¬OvB O d b) x y->Qb9 W->
 d.us.length+Qcd x M<=1000000->(Qab d.T).length<=1000000->QcF x<=1000000->
 Calls prog 46 #[.pointer (some ⟨O,0,none⟩),QaG x y] W λe w'=>e=.returned (.int .i64 (stepM x M).1)/\∃d',GoX H W O d (stepM x M).2 (Qcd x M) w' d'
theorem Qov{m:Mu}(h:OvX H w O d M)(hH:∀b,H b->b<w.heap.size)(hG:∀b,b<6->H b)(hm:RMu w (λb=>b<w.heap.size/\¬OvB O d b) m c)(hL:Qb9 w)
  (hd:d.us.length+Qcd m M<=1000000) (hl:(Qab d.T).length<=1000000) (ht:QcF m<=1000000) (hk:m.kd=7) (b4:m.k.size=0->m.had=false)
  (ih:QuM m) :
  Calls prog 46 #[.pointer (some ⟨O,0,none⟩),QaG m c] w λe w'=>e=.returned (.int .i64 (stepM m M).1)/\∃d',GoX H w O d (stepM m M).2 (Qcd m M) w' d':=by
 have l5:∀(fn:Fn) (first d5:Array Value) (w:World),(Instr.makeFunc fn first d5).run prog w=.ok (.func fn first d5) w:=λ_ _ _ _=>rfl
 have e1:(m.kd==1)=false:=by simp[hk]
 have e2:(m.kd==2)=false:=by simp[hk]
 have e3:(m.kd==3)=false:=by simp[hk]
 have e4:(m.kd==4)=false:=by simp[hk]
 have e5:(m.kd==5)=false:=by simp[hk]
 have e6:(m.kd==6)=false:=by simp[hk]
 have e7:(m.kd==7)=true:=by simp[hk]
 have HD:=hY hd;have g9:=hY hl;have j4:=hY ht;have k8:=hY (QdE m M);have j0:=hY hk;have d3:=hY b4;have i9:=hY ih;clear hd hl ht hk b4 ih;obtain⟨r,hr⟩:∃r,stepM m M=r:=⟨_,rfl⟩;rw[hr];have k4:=hY (show r.1≠0->r.2=M fromλh=>by rw[<-hr]at h ⊢;exact Qck h);have HR:=hY hr;clear hr;go_enter_defers func46,ntmps46;go_upto_region 1 with fail;generalize e0:World.alloc _ _=W0;obtain⟨b8,f5,a4,a8,D⟩:=Qas w _ _ _ _ _ _ W0 e0;have c2:W0.cell? ⟨w.heap.size,0,none⟩=some (.pointer (some ⟨O,0,none⟩)):=a4.cell 0;have a3:=QdN (h.ov.nw (fv b8));have j2:=hY a3;have d7:=hY b8;have f6:=hY a4;have g3:=hY a8;have f1:=hY D;have f9:=hY f5;have HH:=hY h;have j9:=hY hH;have d4:=hY hG;have HM:=hY hm;have HL:=hY hL;clear e0 b8 f5 a4 a8 D a3 h hH hG hm hL;go_wp2_with fail;refine j2.o.mono ?_;rintro e w1 ⟨rfl,a2⟩;go_upto_region 2 with fail;have Z:=(fu w1).alloc #[.int .i64 (d.us.length:Int)] 3;have d0:=fx w1 3 #[.int .i64 (d.us.length:Int)];have b6:(w1.alloc (.cells #[.int .i64 (d.us.length:Int)] 3)).heap.size=w1.heap.size+1:=ew _ _;generalize j5:World.alloc _ _=W2 at Z d0 b6 ⊢;have N:=hY ((d7.o.trans a2).trans Z);have Y:=hY ((f6.o.ext a2).ext Z);have f8:=hY ((g3.o.ext a2).ext Z);have L:=hY ((f1.o.ext a2).ext Z);have c6:=hY d0;have HZ:=hY (show w.heap.size+3<=w1.heap.size/\W2.heap.size=w1.heap.size+1 from⟨by rw[<-f9.o];exact a2.size,b6⟩);have a9:=hY (fD f8.o);have a1:=hY (HH.o.boxes (fv N.o));clear j5 a2 Z d0 b6 c2 d7 f6 g3 f1 f9;have k0:=a9.o.kind;go_upto_region 4 with fail;go_upto_region 19 with fail;have a7:stepM m M=if asM M m.k m.had m.was then(if(Qks m.l M).1≠0 then((Qks m.l M).1,M)else Qks m.l M)else(13,M):=by
  obtain⟨kd,k,tk,i,had,l3,k5,v,l⟩:=m;have hk:kd=7:=j0.o;subst hk;rw[stepM];rfl
 rw[HR.o]at a7;have b5:=hY a7;have b1:=a9.o.c1;have b2:W2.cell? ⟨w.heap.size,0,none⟩=some (.pointer (some ⟨O,0,none⟩)):=Y.o.cell 0;have f2:RMu W2 (Lt W2.heap.size) m c:=(HM.o.agree (N.o.agree λb I=>I.1)).mono λb I=>ab I.1 N.o.size
 have c0:=hY (Qmc a1.o g9.o f2);clear a7 f2 k0;go_cut [68]from 60 to 68 (λv w'=>v=.bool (!asM M m.k m.had m.was)/\Nw W2 w')
 case first=>
  by_cases a0:m.k.size=0
  ·have g0:=Qbc a0
   have ha:asM M m.k m.had m.was=true:=by
    have hn:Qam M m.k=none:=by
     cases hg:Qam M m.k with
     |none=>rfl
     | some y=>
       have:=(HH.o.rel.ok.get hg).1;unfold Qbd at this;rw[em a0]at this;cases this
    unfold asM;rw[hn,d3.o a0];rfl
   have HA:=hY ha;clear ha a0;go_wp2_with fail;go_meet;exact⟨by rw[HA.o]<;>rfl,fB _ _⟩
  have g0:=Qbx a0;clear a0
  repeat (first |(refine wp_load_mid 31 (.tmp 3) rfl (w.heap.size+1) 0 rfl (QaE m c) _ a9.o.range underlying31 rfl (by rw[QgS];exact Tryz.QkO) ?_)|go_values|go_skip|go_guarded|go_step)
  refine c0.o.mono ?_;rintro e w3 ⟨rfl,d8⟩;have k1:=hY (fv d8);clear d8;go_wp2_with fail;go_meet;exact⟨rfl,k1.o⟩
 obtain⟨hv,hn⟩:=hcut;subst hv;have i4:=hY hn;have D:=hn.blk L.o;have c4:wc.cell? ⟨w.heap.size+1+1,0,none⟩=some (.int .i64 0):=D.cell 0;have f4:=D.frozen 0;have HC:=hY (a9.o.nw hn);clear hn D b1 b2;rcases aQ (asM M m.k m.had m.was)with ha|ha
 rotate_left
 ·have hs:=b5.o
  rw[ef (by rw[ha];decide)]at hs;subst hs;have HG:=hY (a1.o.stay (n:=Qcd m M) i4.o);rw[show(!asM M m.k m.had m.was)=true by rw[ha];rfl];clear ha;go_wp2_with fail;refine eR (f:=74) (args:=#[.pointer (some ⟨w.heap.size+1+1,0,none⟩),.pointer (some ⟨w.heap.size,0,none⟩),.pointer (some ⟨w1.heap.size,0,none⟩)]) (by simp) (by simp[go_sem]) ?_;refine(Qcx (code:=13) (fv N.o) a1.o (λb e=>HH.o.ov.Qbe e) HG.o (by have:=HG.o.few;have:=HD.o;omega) L.o Y.o c6.o (by omega) (by omega) (by have:=HZ.o;omega) (by omega) (by have:=HZ.o;omega)).mono ?_;rintro e u' U ⟨rfl,rfl,I,d2,hg⟩;have q4:U.cell? ⟨w.heap.size+1+1,0,none⟩=some (.int .i64 13):=I.cell 0;have R:=(show ∃d',GoX H w O d M (Qcd m M) U d' from⟨d2,hg⟩);clear I hg;simp[Leaves,settle,results,results46,go_sem,q4,R]
 have hs:=b5.o;rw[em ha]at hs;have HS:=hY hs;rw[show(!asM M m.k m.had m.was)=false by rw[ha];rfl];have l4:wc.cell? ⟨w.heap.size+1,8+10,none⟩=some (.slice c.s.a m.l.length c.s.c):=HC.o 18 _ rfl;have k3:=HM.o.len;clear hs ha c4 f4;go_wp2_with fail;go_loopw[72] (λi7 wr=>∃(j:Nat) (d1:OD) (M1:List Ent),i7=.int .i64 (j:Int)/\j<=m.l.length/\Yd (GoX (HB H w.heap.size W2.heap.size) W2 O d M1 (QaC (m.l.take j)*(2*(M.length+QaT m)+1)) wr d1)/\Yd (Qks (m.l.drop j) M1=Qks m.l M)/\Yd (M1.length<=M.length+QaC (m.l.take j))) (λv _=>m.l.length -(intOf v).toNat)
 case atStart=>exact⟨0,d,M,rfl,av _,hY (a1.o.stay i4.o),hY rfl,hY (dP _ _)⟩
 obtain⟨j,d1,M1,rfl,hj,J,g8,j1⟩:=hrel;by_cases g7:j<m.l.length
 ·have l1:(j:Int)<(m.l.length:Int):=by omega
  have l2:decide ((j:Int)<(m.l.length:Int))=true:=ej l1;have l0:(0:Int)<=(j:Int):=by omega
  obtain⟨x,hx⟩:∃x,m.l[j]? = some x:=⟨_,ac g7⟩;obtain⟨b,o,y,i5,b0,k6,k7,g5,g4⟩:=HM.o.at hx;have f3:=N.o.size;have X:Sb (OvB O d) w wr:=((fv N.o).any _).trans J.o.go.sb;have i3:=hY (show MuC wr b (o+j*19) x y fromλi u hu=>(X.cell b0.1 b0.2).trans (g5 i u hu));have k9:b<wr.heap.size:=ab b0.1 X.size;have i0:=Qdm hx;have k2:=Qfb m.l (j+1);have j3:=Qgn m;have j7:=j1.o;have j6:Qcd x M1<=QaT x*(2*(M.length+QaT m)+1):=Nat.mul_le_mul_left _ (by omega);have a4:QaC (m.l.take (j+1))*(2*(M.length+QaT m)+1)=QaC (m.l.take j)*(2*(M.length+QaT m)+1)+QaT x*(2*(M.length+QaT m)+1):=by rw[i0,ec]
  have a8:QaC (m.l.take (j+1))*(2*(M.length+QaT m)+1)<=Qcd m M:=bZ _ (by omega);have a6:=λW (hW:Ext wr W)=>i9.o j x hx y (HB H w.heap.size W2.heap.size) W O d1 M1 (J.o.at_.nw (fv hW)) (λb I=>ab (I.elim (λe=>ab (j9.o b e) f3) λe=>e.2) (aj J.o.go.sb.size hW.size)) (λb I=>.inl (d4.o b I))
   ((g4.agree (λb I=>(X.trans ((fv hW).any _)).block b I.1 I.2)).mono λb I=>⟨Nat.lt_of_lt_of_le I.1 (aj X.size hW.size),λe=>(J.o.go.new b e).elim I.2 λe2=>by have:=I.1;omega⟩)
   (((HL.o.nw (fv N.o)).sb J.o.go.sb (λb I e=>HH.o.ov.out b e (d4.o b I))).nw (fv hW)) (by have:=J.o.few;have:=HD.o;omega) (by rw[J.o.T];exact g9.o) (aj (Qgp hx) (aj (Qr7 m) j4.o))
  have b7:=hY a6;have c9:=hY (show QaC (m.l.take j)*(2*(M.length+QaT m)+1)+Qcd x M1<=QaC (m.l.take (j+1))*(2*(M.length+QaT m)+1)/\QaC (m.l.take (j+1))*(2*(M.length+QaT m)+1)<=Qcd m M from⟨by omega,a8⟩);have i8:=hY (show(stepM x M1).2.length<=M.length+QaC (m.l.take (j+1))by have:=Qp2 x M1;omega);have z:=g8.o;rw[Qs0 hx]at z;have b3:=hY z;have a5:=J.o.go.sb.blk Y.o (λe=>by have:=HH.o.ov.Qbe e;omega);have i1:wr.cell? ⟨w.heap.size,0,none⟩=some (.pointer (some ⟨O,0,none⟩)):=a5.cell 0;have g6:=a5.lt;obtain⟨q,hq⟩:∃q,stepM x M1=q:=⟨_,rfl⟩;have HQ:=hY hq;rw[i5];clear f3 X i0 k2 j3 j7 j6 a4 a8 a6 z a5 g4 g5 hx hq b0;go_wp2_with(first |(refine Qak rfl (.tmp 74) rfl b (o+j*19) rfl x y i3.o ?_) |(refine Qa0 rfl rfl rfl x y (w0:=wr) (b:=wr.heap.size) rfl ((fu wr).alloc _ _) (fx wr _ _) rfl rfl rfl ?_;intro w5 c8 d6;have i2:=hY c8;have i6:=(c8.cell g6).trans i1;have j8:=hY (fD d6);clear c8 d6) |(refine Qak rfl (.tmp 7) rfl wr.heap.size 0 rfl x y j8.o ?_));refine(b7.o _ i2.o).mono ?_;rintro e w6 ⟨rfl,d2,c7⟩;rw[HQ.o]at c7 ⊢;have f0:=hY (J.o.trans (c7.since (fv i2.o)));clear c7 i6 i1 g6;by_cases h0:q.1=0
  ·have g0:(q.1 == 0)=true:=by simp [h0]
   have z:=b3.o;have c3:=i8.o;rw[HQ.o]at z c3;rw[ef (λh=>h h0)]at z;have e8:=hY z;have f7:=hY c3;clear z c3 h0;go_wp2_with fail;go_roundw
   case measure=>simp[intOf];omega
   exact⟨j+1,d2,q.2,by go_num,g7,hY (f0.o.more c9.o.1),e8,f7⟩
  have g0:(q.1==0)=false:=eu.2 h0;have z:=b3.o;rw[HQ.o,em h0]at z;have hs:=HS.o;rw[<-z,em h0]at hs;subst hs;have HG:=hY (f0.o.more (m:=Qcd m M) (aj c9.o.1 c9.o.2));have D:=HG.o.go.sb.blk L.o (λe=>by have:=HH.o.ov.Qbe e;omega);have c4:w6.cell? ⟨w.heap.size+1+1,0,none⟩=some (.int .i64 0):=D.cell 0;have f4:=D.frozen 0;have H0:=hY h0;clear D z h0;go_wp2_with fail;refine eR (f:=74) (args:=#[.pointer (some ⟨w.heap.size+1+1,0,none⟩),.pointer (some ⟨w.heap.size,0,none⟩),.pointer (some ⟨w1.heap.size,0,none⟩)]) (by simp) (by simp[go_sem]) ?_;refine(Qcx (code:=q.1) (fv N.o) a1.o (λb e=>HH.o.ov.Qbe e) HG.o (by have:=HG.o.few;have:=HD.o;omega) L.o Y.o c6.o (by omega) (by omega) (by have:=HZ.o;omega) (by omega) (by have:=HZ.o;omega)).mono ?_;rintro e u' U ⟨rfl,rfl,I,d2,hg⟩;have q4:U.cell? ⟨w.heap.size+1+1,0,none⟩=some (.int .i64 q.1):=I.cell 0;have R:=(show ∃d',GoX H w O d M (Qcd m M) U d' from⟨d2,by rw[ef H0.o]at hg;exact hg⟩);clear I hg;simp[Leaves,settle,results,results46,go_sem,q4,R]
 obtain rfl:j=m.l.length:=by omega
 have l1:decide ((m.l.length:Int)<(m.l.length:Int))=false:=eh (by omega);have z:=g8.o;rw[cq,Qks]at z;have hs:=HS.o;rw[<-z,ef (λh=>h rfl)]at hs;subst hs;have HG:=hY (J.o.more (m:=Qcd m M) (by rw[aP];exact bZ _ (by rw[Qgn];omega)));have D:=HG.o.go.sb.blk L.o (λe=>by have:=HH.o.ov.Qbe e;omega);have c4:wr.cell? ⟨w.heap.size+1+1,0,none⟩=some (.int .i64 0):=D.cell 0;have f4:=D.frozen 0;clear D z;go_wp2_with fail;refine eR (f:=74) (args:=#[.pointer (some ⟨w.heap.size+1+1,0,none⟩),.pointer (some ⟨w.heap.size,0,none⟩),.pointer (some ⟨w1.heap.size,0,none⟩)]) (by simp) (by simp[go_sem]) ?_;refine(Qcx (code:=0) (fv N.o) a1.o (λb e=>HH.o.ov.Qbe e) HG.o (by have:=HG.o.few;have:=HD.o;omega) L.o Y.o c6.o (by omega) (by omega) (by have:=HZ.o;omega) (by omega) (by have:=HZ.o;omega)).mono ?_;rintro e u' U ⟨rfl,rfl,I,d2,hg⟩;have q4:U.cell? ⟨w.heap.size+1+1,0,none⟩=some (.int .i64 0):=I.cell 0;have R:=(show ∃d',GoX H w O d M1 (Qcd m M) U d' from⟨d2,hg⟩);clear I hg;simp[Leaves,settle,results,results46,go_sem,q4,R]
theorem QlW{v:Val}(I:wfV v)(h:Qel v=true):cntV v<=7168:=by
 obtain⟨k,b,i,t,l,R,N⟩:=v;simp only[Qel,Val.kind,Val.b,Val.i,Val.t,Val.l,Val.ok,Bool.and_eq_true,beq_iff_eq,Bool.not_eq_true']at h;obtain⟨⟨⟨⟨⟨-,-⟩,-⟩,h1⟩,h2⟩,J⟩:=h;have D:l=[]:=ar h2;have z:R=[]:=ar J;subst D z;unfold wfV at I;have L:N=[]:=ar I.1.symm;subst L;rw[cntV,Qd4,QfR,h1];decide
theorem QqV{k:ByteArray}(h:Qbd k=0):k.size<=64:=by
 unfold Qbd at h;split at h
 .cases h
 split at h
 .cases h
 omega
theorem Qlr{k:ByteArray}(h:Qf8 k=true):k.size<=64:=by
 unfold Qf8 at h;simp only[Bool.and_eq_true,decide_eq_true_eq]at h;exact h.1
variable{F:Nat->Prop}
theorem Qq3{m:Mu}(h:RMu w F m c):∀q,QaW m q=0->QcF m<=14472*QaT m:=by
 induction h with
 | @mk kd k tk i had was has v l c bl fl cl rw_ rv hl el rl bk bt bkd bi nl ih=>
   intro q z;rw[QaW]at z;split at z
   .cases z
   rename_i c1;split at z
   .cases z
   split at z
   .cases z
   rename_i c3;split at z
   .rename_i c4;simp only[Bool.and_eq_true,bne_iff_ne]at c4;exact absurd z c4.2
   rename_i c4;split at z
   .rename_i c5;simp only[Bool.and_eq_true,bne_iff_ne]at c5;exact absurd z c5.2
   rename_i c5;have R:Qbv kd k tk i had was has v l.length=true:=by simpa using c1
   have D:QfU kd k tk had=true:=by simpa using c3
   unfold Qbv at R;simp only[Bool.and_eq_true]at R;obtain⟨⟨⟨⟨⟨⟨⟨-,b2⟩,-⟩,-⟩,-⟩,Y⟩,Z⟩,-⟩:=R;have hk:k.size<=64/\tk.size<=64:=by
    unfold QfU at D;by_cases U:kd=6
    ·rw [em U,bn] at D
     exact⟨Qlr D.1,Qlr D.2⟩
    rw[ef U]at D;have ht:tk.size=0:=by simpa[U]using b2
    by_cases h7:kd=7/\k.size=0
    .omega
    rw[ef h7]at D;have:=QqV (k:=k) (by simpa using D);omega
   have hw:cntV was<=7168:=by
    cases I:had with
    | true=>
      rw[I]at c4;have L:Qbw was=0:=by simpa using c4
      exact okV.cnt ⟨rw_.wf,L⟩
    | false=>
      rw[I]at Y;exact QlW rw_.wf (by simpa using Y)
   have hv:cntV v<=7168:=by
    cases I:Qhx kd has with
    | true=>
      rw[I]at c5;have L:Qbw v=0:=by simpa using c5
      exact okV.cnt ⟨rv.wf,L⟩
    | false=>
      unfold Qhx at I;rw[I]at Z;exact QlW rv.wf (by simpa using Z)
   have X:∀(l:List Mu) (q:Nat),(∀(j:Nat) (x:Mu),l[j]? = some x->∀q,QaW x q=0->QcF x<=14472*QaT x)->Qce l q=0->Qdr l<=14472*QaC l:=by
    intro l
    induction l with
    |nil=>intro q _ _;rw[Qdr];omega
    | cons a r ihr=>
      intro q I z;rw[Qce]at z;by_cases J:QaW a q=0
      ·rw [ef (fun e=>e J)] at z
       have h1:=I 0 a rfl q J;have h2:=ihr q (λj x N=>I (j+1) x (by simpa using N)) z;rw[Qdr,QaC];omega
      rw[em J]at z;exact absurd z J
   have:=X l (q+1) (λj x N=>ih j x N) z;rw[QcF,QaT];omega
theorem Qs3{m:Mu}(h:RMu w F m c)(z:QbE m=0):QcF m<=1000000:=by
 unfold QbE at z;split at z
 .cases z
 have:=Qq3 h 1 z;omega
variable{q:Nat}
theorem Qpa{m:Mu}(h:QaW m q=0):QfU m.kd m.k m.tk m.had=true/\Qce m.l (q+1)=0:=by
 rw[Qdk]at h;split at h
 .cases h
 split at h
 .cases h
 split at h
 .cases h
 rename_i hk;split at h
 ·rename_i h1
  simp[h]at h1
 split at h
 ·rename_i h1
  simp[h]at h1
 exact⟨by simpa using hk,h⟩
theorem looks_at:∀{l:List Mu} {q j:Nat} {x:Mu},Qce l q=0->l[j]? = some x->QaW x q=0
 |[],q,j,x,_,hx=>by simp at hx
 | m :: r,q,0,x,h,hx=>by
   obtain rfl:m=x:=by simpa using hx
   rw[Qce]at h;by_cases z:QaW m q=0
   .exact z
   rw[em z]at h;exact h
 | m :: r,q,j+1,x,h,hx=>by
   rw[Qce]at h;by_cases z:QaW m q=0
   ·rw [ef (fun e=>e z)] at h
    exact looks_at (l:=r) (j:=j) h (by simpa using hx)
   rw[em z]at h;exact absurd h z
theorem Qss(n:Nat):∀(m:Mu) (q:Nat),SizeOf.sizeOf m<=n->QaW m q=0->∀(c:MuS) (H:Nat->Prop) (w:World) (O:Nat) (d:OD) (M:List Ent),OvX H w O d M->(∀b,H b->b<w)->(∀b,b<6->H b)->RMu w (λb=>b<w/\¬OvB O d b) m c->Qb9 w->
  d.us.length+Qcd m M<=1000000->(Qab d.T).length<=1000000->QcF m<=1000000->
  Calls prog 46 #[.pointer (some ⟨O,0,none⟩),QaG m c] w λe w'=>e=.returned (.int .i64 (stepM m M).1)/\∃d',GoX H w O d (stepM m M).2 (Qcd m M) w' d':=by
 induction n with
 |zero=>intro m q h;have:=Mu.Qb7 m;omega
 | succ n ih=>
   intro m q hn hq c H w O d M h D L J z hd I N;by_cases k1:m.kd=1
   .exact Qop h D L J z hd I N k1
   by_cases k2:m.kd=2
   .exact Qoq h D L J z hd I N k2
   by_cases k3:m.kd=3
   .exact Qor h D L J z hd I N k3
   by_cases X:m.kd=4
   .exact Qos h D L J z hd I N X
   by_cases Z:m.kd=5
   .exact Qot h D L J z hd I N Z
   by_cases Y:m.kd=6
   .exact Qou h D L J z hd I N Y
   by_cases R:m.kd=7
   ·obtain ⟨U,hs⟩:=Qpa hq
    refine Qov h D L J z hd I N R (λh0=>?_) λj x hx y H' W O' d' M' h1 h2 h3 h4 h5 h6 h7 h8=>ih x (q+1) (by have:=Mu.QtV hx;omega) (looks_at hs hx) y H' W O' d' M' h1 h2 h3 h4 h5 h6 h7 h8
    unfold QfU at U;rw[ef (by omega),em ⟨R,h0⟩]at U;simpa using U
   exact Qow h D L J z hd I N ⟨k1,k2,k3,X,Z,Y,R⟩
theorem Qsr{m:Mu}(N:QaW m q=0)(h:OvX H w O d M)(I:∀b,H b->b<w)(D:∀b,b<6->H b)(R:RMu w (λb=>b<w/\¬OvB O d b) m c)(z:Qb9 w)
  (hd:d.us.length+Qcd m M<=1000000) (L:(Qab d.T).length<=1000000) (J:QcF m<=1000000) :
  Calls prog 46 #[.pointer (some ⟨O,0,none⟩),QaG m c] w λe w'=>e=.returned (.int .i64 (stepM m M).1)/\∃d',GoX H w O d (stepM m M).2 (Qcd m M) w' d':=Qss _ m q (an _) N c H w O d M h I D R z hd L J
theorem Qrb{m:Mu}(h:QbE m=0):QaW m 1=0:=by
 unfold QbE at h;split at h
 .cases h
 exact h
theorem Qs9{m:Mu}(h:OvX H w O d M)(hH:∀b,H b->b<w)(hG:∀b,b<6->H b)(hm:RMu w (λb=>b<w/\¬OvB O d b) m c)(hL:Qb9 w)
  (hd:QbE m=0->d.us.length+Qcd m M<=1000000) (hl:(Qab d.T).length<=1000000) (ht:QcF m<=1100000) :
  Calls prog 20 #[.pointer (some ⟨O,0,none⟩),QaG m c] w λe w'=>e=.returned (.int .i64 (runM M m).1)/\∃d',GoX H w O d (runM M m).2 (Qcd m M) w' d':=by
 have L:∀W,Nw w W->RMu W (λb=>b<W/\¬OvB O d b) m c:=λW D=>(hm.agree (fC D λb I=>I.1)).mono λb I=>⟨Nat.lt_of_lt_of_le I.1 D.size,I.2⟩
 have J:=λW (D:Nw w W)=>Qq6 ((L W D).mono (G:=Lt W) λb I=>I.1) ht (hL.nw D)
 have a1:=λ(z:QbE m=0) W (D:Nw w W)=>Qsr (q:=1) (Qrb z) (h.nw D) (λb I=>ab (hH b I) D.size) hG (L W D) (hL.nw D) (hd z) hl (Qs3 hm z)
 obtain⟨r,hr⟩:∃r,runM M m=r:=⟨_,rfl⟩;rw[hr];have HR:=hY hr;have R:=hY J;have a3:=hY a1;have HH:=hY h;clear h hH hG hm hL hd hl ht L J a1 hr;go_in;go_upto_region 1 with fail;generalize a0:World.alloc _ _=W0;obtain⟨X,Y,a2⟩:=Qaz (m:=m) (c:=c) a0;have Z:=hY (fv X);have U:=hY Y;clear a0 X Y a2;go_wp2_with(refine Qak rfl (.tmp 3) rfl w.heap.size 0 rfl m c U.o ?_);refine(R.o _ Z.o).mono ?_;rintro e w1 ⟨rfl,hn⟩;have N:=hY (Z.o.trans hn);have a4:=hY (U.o.nw hn);clear hn;by_cases z:QbE m=0
 ·have g0:(QbE m == 0)=true:=by simp [z]
  have hs:stepM m M=r:=by rw[<-HR.o];unfold runM;rw[ef (λe=>e z)]
  have hc:=a3.o z w1 N.o;rw[hs]at hc;have HC:=hY hc;clear z hs hc;go_wp2_with(refine Qak rfl (.tmp 3) rfl w.heap.size 0 rfl m c a4.o ?_);refine HC.o.mono ?_;rintro e w2 ⟨rfl,d1,hg⟩;have HG:=hY (hg.since N.o);clear hg;go_wp2_with fail;go_ret;exact⟨rfl,d1,HG.o⟩
 have g0:(QbE m==0)=false:=eu.2 z;have hs:r=(QbE m,M):=by rw[<-HR.o];unfold runM;rw[em z]
 subst hs;clear z;go_wp2_with fail;go_ret;exact⟨rfl,d,HH.o.stay N.o⟩
theorem QpN{m:Mu}(h:(runM M m).1≠0):(runM M m).2=M:=by
 unfold runM at h ⊢;split at h
 .rw [em (by assumption)]
 rename_i h1;rw[ef h1];exact Qck h
variable{T:RT}
theorem QnZ{m:Mu}(hT:IsT w F T)(hF:∀b,F b->6<=b/\b<w.heap.size)(ok:OkR T)(hM:OkM (Qab T))(hm:RMu w (Lt w.heap.size) m c)(hL:Qb9 w)(hd:QbE m=0->(Qab T).length+Qcd m (Qab T)<=1000000)(hl:(Qab T).length<=1000000)(ht:QcF m<=1100000) :
  Calls prog 25 #[Qau T,QaG m c] w λe w'=>∃T',e=.returned (.tuple #[Qau T',.int .i64 (runM (Qab T) m).1])/\OkR T'/\IsT w' (Up F w w') T'/\Qab T'=(runM (Qab T) m).2/\OkM (runM (Qab T) m).2/\Nw w w'/\((runM (Qab T) m).2=Qab T->T'=T):=by
 obtain⟨r,hr⟩:∃r,runM (Qab T) m=r:=⟨_,rfl⟩;rw[hr];have HR:=hY hr;have d0:=hY (show r.1≠0->r.2=Qab T fromλh=>by rw[<-hr]at h ⊢;exact QpN h);obtain⟨p,hp⟩:=Qaq T;have HP:=hY hp;have HT:=hY hT;have HF:=hY hF;have c1:=hY ok;have e0:=hY hM;have HM:=hY hm;have HL:=hY hL;have HD:=hY hd;have f0:=hY ht;have d5:=hY hl;have d8:=hY (show r.1=0->QbE m=0 fromλh=>by rw[<-hr]at h;unfold runM at h;split at h<;>simp_all);rw[Qau,hp];clear hr hp hT hF ok hM hm hL hd ht hl;go_in;go_upto_region 1 with fail;generalize b7:World.alloc _ _=W0;obtain⟨J,c6,a8,c4,b5⟩:=Qas w _ _ _ _ _ _ W0 b7;clear b7;have c0:W0.cell? ⟨w.heap.size,0,none⟩=some (.pointer p):=a8.cell 0;have d3:=fv J;have X:=Qqz (w:=W0) (F:=F) (H:=λb=>b<W0.heap.size/\¬F b) (T:=T) (HT.o.agree (J.agree λb D=>(HF.o b D).2)) c1.o (λb D=>⟨Nat.lt_of_lt_of_le (HF.o b D).2 J.size,λe=>e.2 D⟩) (λb D=>D.1);rw[Qau,HP.o]at X;have f7:=hY X;have b6:=hY J;have e4:=hY a8;have f4:=hY b5;have d6:=hY (fD c4);have a9:=hY c6;clear J d3 a8 c4 b5 c6 X;go_wp2_with fail;refine f7.o.mono ?_;rintro e w1 ⟨O,rfl,hO,b8,U⟩;have L:=(fv b6.o).trans (fv U);have b0:OvX (λb=>b<W0.heap.size/\¬F b) w1 O (od0 T) (Qab T):=⟨b8,QiS.start e0.o⟩;have a3:=Qs9 (m:=m) (c:=c) b0 (λb D=>ab D.1 U.size) (λb D=>⟨Nat.lt_of_lt_of_le D (HL.o.nw (fv b6.o)).lib.big,λe=>by have:=(HF.o b e).1;omega⟩) ((HM.o.agree (fC L λb D=>D)).mono λb D=>⟨Nat.lt_of_lt_of_le D L.size,λe=>by
  have g3:b<w.heap.size:=D;have hz:=a9.o;rcases e with e|e|e
  .omega
  .cases e
  cases e⟩) (HL.o.nw L) (λZ=>by show 0+_<=_;have:=HD.o Z;omega) d5.o f0.o
 rw[HR.o]at a3;have d7:=hY a3;have g4:=hY b0;have e1:=hY L;have a6:=hY U;have c9:=hY (d6.o.ext U);have HO:=hY hO;clear a3 b0 L U b8 hO c0;go_wp2_with(refine Qak rfl (.tmp 3) rfl (w.heap.size+1) 0 rfl m c c9.o ?_);refine d7.o.mono ?_;rintro e w2 ⟨rfl,d1,R⟩;have HG:=hY R;have b3:=hY (show OkM r.2 from R.rel.ok);have I:∀b,b<W0.heap.size->¬OvB O (od0 T) b:=λb D e=>by
  have:=HO.o;rcases e with e|e|e
  .omega
  .cases e
  cases e
 have g5:=hY I;have hz:=a9.o;have a4:=R.go.sb.blk (e4.o.ext a6.o) (I _ (by omega));have N:=R.go.sb.blk (f4.o.ext a6.o) (I _ (by omega));have c7:=hY N;have q0:w2.cell? ⟨w.heap.size,0,none⟩=some (.pointer p):=a4.cell 0;have q2:∃z,w2.cell? ⟨w.heap.size+1+1,0,none⟩=some z:=⟨_,N.cell 0⟩;have f2:=N.frozen 0;have a2:=hY (show Nw w w2 from e1.o.comp R.go.sb λi hi e=>I i (by omega) e);obtain⟨z,q2⟩:=q2;by_cases Z:r.1=0
 ·have g0:(r.1 == 0)=true:=by simp [Z]
  have a1:=QuT R.at_ (by rw[R.T];have h1:=R.few;have h2:=R.go.at_.few;have h3:=HD.o (d8.o Z);have h4:(od0 T).us.length=0:=rfl;have h5:(Qab (od0 T).T).length=(Qab T).length:=rfl;omega);have c3:=hY a1;have H0:=hY Z;clear R I hz a4 N Z a1;go_wp2_with fail;refine c3.o.mono ?_;rintro e w3 ⟨T',rfl,f5,c2,c8,a0,a5⟩;obtain⟨p',a7⟩:=Qaq T';have Y:=a0.blk c7.o;have q3:=Y.cell 0;have f3:=Y.frozen 0;have d4:=hY Y;have f8:=hY a7;have e8:=hY (a2.o.trans a0);have e7:=hY a0;have e6:=hY c2;have f1:=hY c8;have f6:=hY (show r.2=Qab T->T'=T fromλh=>by have h1:=HG.o.T;rw[h1]at a5;exact a5 h);rw[Qau,a7];clear Y a0 c2 c8 a7 q0 q2 f2 a5;go_wp2_with fail;generalize hW:World.setCell _ _ _=W;have hs:Sb (λi=>i=w.heap.size+1+1) w3 W:=by rw[<-hW];exact(fB (λi=>i=w.heap.size+1+1) w3).set (p:=⟨w.heap.size+1+1,0,none⟩) (.inr rfl) _
  have D:Blk W (w.heap.size+1+1) 41 #[.pointer p']:=by rw[<-hW];exact d4.o.Qdz 0 (.pointer p')
  have q4:W.cell? ⟨w.heap.size+1+1,0,none⟩=some (.pointer p'):=D.cell 0;clear hW q3 f3;refine eD (v:=.tuple #[.agg #[.pointer p'],.int .i64 0]) (by simp[results,results25,go_sem,q4]) rfl ?_;refine⟨T',by rw[Qau,f8.o,H0.o],f5,?_,f1.o,b3.o,e8.o.comp hs λi hi e=>by omega,f6.o⟩;have f9:=a9.o;refine(e6.o.agree (F:=Up (OvF (λb=>b<W0.heap.size/\¬F b) w2 O d1) w2 w3) λb D=>hs.block b ?_ ?_).mono λb D=>?_
  all_goals
   have s1:=e7.o.size;have s2:=hs.size;have s3:=a2.o.size;have s4:=HL.o.lib.big;have s5:=a6.o.size;have s6:=HG.o.go.sb.size
  ·rcases D with e | e
   .exact ab e.1 s1
   exact e.2
  ·intro e2
   rcases D with e|e
   .exact e.2.2 ⟨by omega,λe3=>by have:=(HF.o b e3).2;omega⟩
   omega
  rcases D with e|e
  ·by_cases hf:F b
   .exact .inl hf
   have h1:=e.1;by_cases h2:b<W0.heap.size
   .exact absurd ⟨h2,hf⟩ e.2.2
   exact .inr ⟨by omega,by omega⟩
  exact .inr ⟨by omega,by omega⟩
 have g0:(r.1==0)=false:=eu.2 Z;have H0:=hY Z;clear R I hz a4 N Z;go_wp2_with fail;generalize hW:World.setCell _ _ _=W;have hs:Sb (λi=>i=w.heap.size+1+1) w2 W:=by rw[<-hW];exact(fB (λi=>i=w.heap.size+1+1) w2).set (p:=⟨w.heap.size+1+1,0,none⟩) (.inr rfl) _
 have D:Blk W (w.heap.size+1+1) 41 #[.pointer p]:=by rw[<-hW];exact c7.o.Qdz 0 (.pointer p)
 have q4:W.cell? ⟨w.heap.size+1+1,0,none⟩=some (.pointer p):=D.cell 0;have b4:Nw w W:=a2.o.comp hs λi hi e=>by omega
 clear hW q0 q2 f2;refine eD (v:=.tuple #[.agg #[.pointer p],.int .i64 r.1]) (by simp[results,results25,go_sem,q4]) rfl ?_;exact⟨T,by rw[Qau,HP.o],c1.o,(HT.o.agree (fC b4 λb D=>(HF.o b D).2)).mono λb D=>.inl D,(d0.o H0.o).symm,b3.o,b4,λ_=>rfl⟩
end Go.Proofs.YtkjkafgnnoidpaaGreatDoor
