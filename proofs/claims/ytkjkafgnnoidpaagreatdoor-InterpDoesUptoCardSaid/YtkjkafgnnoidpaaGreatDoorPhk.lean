/- What the theorem needs of the texts OvLay3, TurnK, Int4, Int5, Int6, Int7, TotM, Int8, Int9: no condition of its own. -/
import Derived.Test.YtkjkafgnnoidpaaGreatDoorPhj
set_option linter.unusedVariables false
set_option linter.unusedSimpArgs false
set_option linter.unnecessarySimpa false
set_option maxRecDepth 100000
set_option maxHeartbeats 4000000
namespace Go.Proofs.YtkjkafgnnoidpaaGreatDoor
open Go.Proofs.Tryz
open Go.RowKit Go.Maps Go.Sort Go.Shelf
def Tryz.QfW:Go.Shelf.Ren:=⟨λ| 103=>173|210=>211|206=>212|n=>n,λ| 9=>9|4=>4|24=>205|3=>3|n=>n,λ| n=>n⟩
theorem Tryz.QjB:Go.Proofs.Lays.n103 prog Tryz.QfW:={
 mixed:=by kernel_rfl
 f103:=func173.trans (congrArg some (by kernel_rfl))
 f206:=func212.trans (congrArg some (by kernel_rfl))
 f210:=func211.trans (congrArg some (by kernel_rfl))
 t3:=underlying3
 a3:=isAgg3
 z3:=sizeOf3
 v3:=zeroValue3
 t4:=underlying4
 a4:=isAgg4
 z4:=sizeOf4
 v4:=zeroValue4
 t9:=underlying9
 a9:=isAgg9
 z9:=sizeOf9
 v9:=zeroValue9
 t24:=underlying205
 a24:=isAgg205
 z24:=sizeOf205
 v24:=zeroValue205 }
theorem Qs4{k f:ByteArray}(h:Qaj f k=true):(⟨(Lib.trimPrefix k.data.toList f.data.toList).toArray⟩:ByteArray)=k.extract f.size k.size:=by
 have z:Lib.hasPrefix k.data.toList f.data.toList=true:=by
  have:=h;unfold Qaj at this;rw[eB,eB]at this;exact this
 apply dR;apply df.1;unfold Lib.trimPrefix;rw[em z,dy,Array.toList_extract];show(k.data.toList.drop f.data.toList.length)=_;rw[List.extract_eq_take_drop];have h1:f.data.toList.length=f.size:=aH;have h2:k.data.toList.length=k.size:=aH;rw[h1,a7];rw[au,h2];exact an _
variable{w:World}
theorem Qp8{k f t:ByteArray}(J:Qaj f k=true)(a0:k.size+t.size<=4611686018427387904)(X:QiW w) :
  Calls prog 122 #[.string k,.string f,.string t] w λe w'=>(∃s,e=.returned (.tuple #[.string s,.int .i64 (Qbd (QaF f t k))])/\(Qbd (QaF f t k)=0->s=QaF f t k))/\Nw w w':=by
 have I:=λW=>Any.strings_CutPrefix Tryz.QjB k f W
 rw[Qs4 J]at I;rw[show Lib.hasPrefix k.data.toList f.data.toList=true by have:=J;unfold Qaj at this;rw[eB,eB]at this;exact this]at I;have HC:=hY I;have z:(QaF f t k).size<=maxLen:=by
  have h1:(k.extract f.size k.size).size<=k.size:=by rw[bQ];omega
  unfold QaF maxLen;rw[aK];omega
 obtain⟨q,R⟩:∃q,QaF f t k=q:=⟨_,rfl⟩;rw[R]at z ⊢;have HQ:=hY (show t++k.extract f.size k.size=q from R);have Z:=hY z;clear I z R;go_in;go_wp2_with fail;refine(HC.o _).mono ?_;rintro e w' ⟨rfl,rfl⟩;go_wp2_with fail;rw[HQ.o];have HK:=hY (Qdj (w:=w') Z.o X);clear X J;refine HK.o.mono ?_;rintro e w1 ⟨rfl,Y⟩;have U:=hY Y;clear Y;by_cases D:Qbd q=0
 ·have N:=hY D
  have g:(Qbd q==0)=true:=by simp[D]
  clear D;go_wp2_with fail;go_ret2;exact⟨⟨q,by rw[N.o]<;>rfl,λ_=>rfl⟩,U.o⟩
 have N:=hY D;have g:(Qbd q==0)=false:=eu.2 D;clear D;go_wp2_with fail;go_ret2;exact⟨⟨_,rfl,λh=>absurd h N.o⟩,U.o⟩
variable{H:Nat->Prop}{O:Nat}{d:OD}{M:List Ent}
theorem QuY(h:OvX H w O d M)(z:(Qab d.T).length<=1000000)(D:d.us.length<=1000000){p:ByteArray}(I:p.size<=maxLen) :
  Calls prog 121 #[.pointer (some ⟨O,0,none⟩),.string p] w λe w'=>∃s:Sl,e=.returned (.slice s.a (Qfm (Qaj p) M).length s.c)/\Nw w w'/\Rd w' (In w.heap.size w'.heap.size) 1 s (Qfm (Qaj p) M).length ((Qfm (Qaj p) M).map .string):=
 (Qpz h.ov z D I).mono λe w' ⟨s,ks,h1,h2,h3,h4,h5⟩=>by
   obtain rfl:ks=Qfm (Qaj p) M:=QiK h4 (QmU h.rel.ok.sorted) λk=>by rw[h5 k,QgV h.rel.ok.sorted,h.now k]
   exact⟨s,h1,h2,h3⟩
abbrev mvE(f t:ByteArray)(e:Ent):Ent:=(QaF f t e.1,e.2)
variable{f:ByteArray}{j:Nat}
theorem Qiq{e:Ent}(h:(Qca M f)[j]? = some e):e∈M/\Qaj f e.1=true:=by
 have:=am h;unfold Qca at this;exact bI.1 this
theorem Qe4{k:ByteArray}(h:Qbd k=0):k.size<=64:=by
 unfold Qbd at h;split at h
 .cases h
 split at h
 .cases h
 omega
def QrO(n:Nat)(w:World)(s:Sl)(b:Nat):Prop:=n<=b/\b<w.heap.size/\s.row≠some b
variable{n:Nat}{sl so:Sl}
theorem QtR{wr W w9:World}{s2 s7:Sl}{v:Val}(h:Nw wr W)(z:Wr W w9 s2.row)(hs:s7.a=s2.a\/s7.a=some ⟨W,0,none⟩/\Wr W w9 none)(I:RV wr (QrO n wr s2) v sl so):RV w9 (QrO n w9 s7) v sl so:=by
 have h1:RV W (QrO n wr s2) v sl so:=I.agree (fB h λb J=>J.2.1);have h2:RV w9 (QrO n wr s2) v sl so:=h1.agree (z.agree (λi hi=>ab hi.2.1 h.size) λk D hF=>hF.2.2 D);refine h2.mono λi hi=>⟨hi.1,ab hi.2.1 (al h.size z.grown.size),λe=>?_⟩
 rcases hs with hs |⟨hs,-⟩
 .exact hi.2.2 (by unfold Sl.row at e ⊢;rwa[hs]at e)
 unfold Sl.row at e;rw[hs]at e;have e:some W.heap.size=some i:=e;injection e with e;have:=hi.2.1;have:=h.size;omega
theorem Qrh{f t:ByteArray}(h:OvX H w O d M)(hH:∀b,H b->b<w.heap.size)(hn:d.us.length+2*M.length<=1000000)(hl:(Qab d.T).length<=1000000)(hf:f.size<=maxLen)
  (ht:t.size<=100000000) (hL:Qb9 w) (hG:∀b,b<6->H b) :
  Calls prog 78 #[.pointer (some ⟨O,0,none⟩),.string f,.string t] w λe w'=>e=.returned (.int .i64 (QcA M f t).1)/\∃d',GoX H w O d (QcA M f t).2 (2*M.length) w' d':=by
 have c7:=QuY h hl (by omega) hf;obtain⟨r,hr⟩:∃r,QcA M f t=r:=⟨_,rfl⟩;rw[hr];obtain⟨L,f3⟩:∃L,Qca M f=L:=⟨_,rfl⟩;have Y:Qfm (Qaj f) M=L.map Prod.fst:=by rw[Qjw,f3]
 have k9:(Qfm (Qaj f) M).length=L.length:=by rw[Y,ao]
 have n2:L.length<=M.length:=by rw[<-f3];exact bA _ _
 rw[k9,Y]at c7;have HH:=hY h;have j5:=hY hH;have HN:=hY hn;have g9:=hY hl;have HT:=hY ht;have l2:=hY hL;have p8:=hY hG;have HR:=hY hr;have a5:=hY f3;have b3:=hY n2;have HP:=hY c7;obtain⟨i0,hi,o2,p9,r7⟩:=eG Tryz.Qa1;clear h hH hn hl ht hL hr f3 n2 c7 Y k9 hf hG;go_in;go_wp2_with fail;refine HP.o.mono ?_;rintro e w1 ⟨s,rfl,l9,k2⟩;have a3:=hY l9;have j3:=hY k2;clear l9 k2;go_wp2_with fail;go_loopw[8,27] (λv8 o7 wr=>∃(j:Nat) (s2:Sl) (ys:List LE),o7=.int .i64 (j:Int)/\v8=.slice s2.a ys.length s2.c/\j<=L.length/\Yd (ys.length=j)/\Yd (ys.map LE.ent=(L.take j).map (mvE f t))/\Yd (Nw w1 wr)/\
  Yd (wr.ownsRow w1.heap.size 70 7 (.slice s2.a ys.length s2.c) ys.length (Qai ys))/\Yd (∀y∈ys,RV wr (QrO w1.heap.size wr s2) y.v y.sl y.so)/\Yd (Qb5 M f t (L.take j)=0)) (λ_ v _=>L.length -(intOf v).toNat)
 case atStart=>exact⟨0,Sl.none,[],rfl,rfl,aw _,hY rfl,hY rfl,hY (fD _ _),hY (eI _ _ _ _),hY (λy hy=>by cases hy),hY rfl⟩
 obtain⟨j,s2,ys,rfl,rfl,hj,d4,g7,HX,b5,j6,d8⟩:=hrel;by_cases l7:j<L.length
 ·have l1:(j:Int)<(L.length:Int):=by omega
  have t0:decide ((j:Int)<(L.length:Int))=true:=ej l1;have l0:(0:Int)<=(j:Int):=by omega
  obtain⟨x,Z⟩:∃x,L[j]? = some x:=⟨_,ac l7⟩;obtain⟨b0,o0,J,-,a4⟩:=j3.o;obtain⟨b4,i3,b8⟩:=J.eq (by omega);have a9:=J.fits (by omega);have cK:wr.cell? ⟨b0,o0+j,none⟩=some (.string x.1):=by
   rw[HX.o.cell a9.2 (λe=>e)];exact a4 j _ (by rw[aq,aq,Z];rfl)
  have hg:=Qiq (M:=M) (f:=f) (j:=j) (e:=x) (by rw[a5.o];exact Z);have c1:=HH.o.rel.ok.ok x hg.1;have Y:=Qe4 c1.1;have c9:=Qp8 (w:=wr) (t:=t) hg.2 (by have:=HT.o;omega) (l2.o.nw (a3.o.trans HX.o)).lib;have q9:=hY c9;have q2:=hY (show Qam M x.1=some x.2 from QcM HH.o.rel.ok.sorted hg.1);have r3:=hY (Qrg d8.o Z);have p0:=hY (λh1 h2=>QhP d8.o Z h1 h2);have q1:=hY Z;have r1:=hY Y;rw[b4];clear a4 J a9 hg c1 Y c9 Z;go_wp2_with fail;refine q9.o.mono ?_;rintro e w2 ⟨⟨q',rfl,j1⟩,e7⟩;have k4:=hY ((a3.o.trans HX.o).trans e7);have q7:=hY e7;have R:=r3.o;by_cases hm:Qbd (QaF f t x.1)=0
  rotate_left
  ·have g:(Qbd (QaF f t x.1) == 0)=false:=eu.2 hm
   rw[em hm]at R;have I:r=(8,M):=by rw[<-HR.o];unfold QcA;rw[a5.o,R];exact em (by decide)
   have D:=hY I;clear hm R I j1 e7 cK;go_wp2_with fail;go_ret;exact⟨by rw[D.o]<;>rfl,d,by rw[D.o];exact HH.o.stay k4.o⟩
  obtain rfl:=j1 hm;rw[ef (λh=>h hm)]at R;have U:=Qto (HH.o.nw k4.o) g9.o (k:=QaF f t x.1) (al (Qe4 hm) (by decide));have f2:=hY U;have HM:=hY hm;have j7:=hY R;rw[hm];clear hm R j1 e7 U cK;go_wp2_with fail;refine f2.o.mono ?_;rintro e w3 ⟨s3,s4,rfl,n4,-⟩;obtain⟨y3,j2⟩:∃y,(Qam M (QaF f t x.1)).getD zeroV=y:=⟨_,rfl⟩;obtain⟨g3,b6⟩:∃g,(Qam M (QaF f t x.1)).isSome=g:=⟨_,rfl⟩;obtain⟨q,hq⟩:∃q,QaF f t x.1=q:=⟨_,rfl⟩;rw[j2,b6,hq];have l8:=hY b6;have HQ:=hY hq;have l4:=hY (q7.o.trans (fx n4));clear n4 j2 b6 hq f2;go_upto_region 10 with fail;have i2:=(fv w3).alloc #[.int .i64 y3.kind,.bool y3.b,.int .i64 y3.i,.string y3.t,.slice s3.a y3.l.length s3.c,.slice s4.a y3.ok.length s4.c] 28;generalize r6:World.alloc _ _=w4 at i2 ⊢;have k1:=hY (l4.o.trans (fx i2));clear r6 i2;go_cut [52] (λv w'=>v=.bool (g3 && !Qaj f q)/\w'=w4)
  case first=>
   cases g3 with
   | false=>
     go_wp2_with fail;go_meet;exact⟨rfl,rfl⟩
   | true=>
     go_wp2_with fail;refine(QhB _ q f).mono ?_;rintro e w5 ⟨rfl,rfl⟩;go_wp2_with fail;go_meet;exact⟨rfl,rfl⟩
  obtain⟨hv,hw⟩:=hcut;subst hv;have f4:=hY (show Nw wr wc by rw[hw];exact k1.o);clear hw k1 l4;rcases aO (g3 && !Qaj f q)with z|z
  ·have R:=j7.o
   rw[l8.o,HQ.o]at R;rw[em z]at R;have I:r=(13,M):=by rw[<-HR.o];unfold QcA;rw[a5.o,R];exact em (by decide)
   have D:=hY I;rw[z];clear z R I;go_wp2_with fail;go_ret;exact⟨by rw[D.o]<;>rfl,d,by rw[D.o];exact HH.o.stay (a3.o.trans (HX.o.trans f4.o))⟩
  have b7:=p0.o (by rw[HM.o]) (by rw[l8.o,HQ.o];exact z);have j8:=hY b7;have U:=Qto (HH.o.nw (a3.o.trans (HX.o.trans f4.o))) g9.o (k:=x.1) (al r1.o (by decide));rw[q2.o]at U;have i4:=hY U;rw[z];clear z b7 U;go_wp2_with fail;refine i4.o.mono ?_;rintro e w6 ⟨s5,X,rfl,k7,k5⟩;have q6:=hY (f4.o.trans (fx k7));have r2:=hY (show RV w6 (In wc.heap.size w6.heap.size) x.2 s5 X from k5.rv);clear k7 k5;rw[show(some x.2:Option Val).getD zeroV=x.2 from rfl];go_upto_region 13 with fail;have c2:=(fv w6).alloc #[.int .i64 x.2.kind,.bool x.2.b,.int .i64 x.2.i,.string x.2.t,.slice s5.a x.2.l.length s5.c,.slice X.a x.2.ok.length X.c] 28;have a1:=fA w6 28 #[.int .i64 x.2.kind,.bool x.2.b,.int .i64 x.2.i,.string x.2.t,.slice s5.a x.2.l.length s5.c,.slice X.a x.2.ok.length X.c];generalize r4:World.alloc _ _=w7 at c2 a1 ⊢;have o5:=hY (q6.o.trans (fx c2));have o9:=hY (r2.o.agree (c2.agree λb (z:In wc.heap.size w6.heap.size b)=>z.2));have f9:=al f4.o.size (an wc.heap.size);have c4:=hY f9;have f1:=hY c2.size;have e0:w7.cell? ⟨w6.heap.size,0,none⟩=some (.int .i64 x.2.kind):=a1.cell 0;have e1:w7.cell? ⟨w6.heap.size,1,none⟩=some (.bool x.2.b):=a1.cell 1;have e2:w7.cell? ⟨w6.heap.size,2,none⟩=some (.int .i64 x.2.i):=a1.cell 2;have e3:w7.cell? ⟨w6.heap.size,3,none⟩=some (.string x.2.t):=a1.cell 3;have e4:w7.cell? ⟨w6.heap.size,4,none⟩=some (.slice s5.a x.2.l.length s5.c):=a1.cell 4;have e5:w7.cell? ⟨w6.heap.size,5,none⟩=some (.slice X.a x.2.ok.length X.c):=a1.cell 5;have i1:=(fv w7).alloc (⟨q,x.2,s5,X⟩:LE).cells.toArray 70;have o4:=hY (fA w7 70 (⟨q,x.2,s5,X⟩:LE).cells.toArray);have f0:=hY (o5.o.trans (fx i1));have q8:=hY i1;have c0:Nw wr (w7.alloc (.cells (⟨q,x.2,s5,X⟩:LE).cells.toArray 70)):=f0.o;have l6:=hY (Qae (F:=Lt wr.heap.size) b5.o (fB c0 λb z=>z) λb z=>(Qaa b5.o z).2);have j4:ys.length+1<=maxLen:=by have:=d4.o;have:=b3.o;have:=HN.o;unfold maxLen;omega
  have k8:(ys.length+1)*104<=140737488355328:=by have:=d4.o;have:=b3.o;have:=HN.o;omega
  have d0:w1.heap.size<=(w7.alloc (.cells (⟨q,x.2,s5,X⟩:LE).cells.toArray 70)).heap.size:=(HX.o.trans f0.o).size;have r5:=hY j4;have q4:=hY k8;have n7:=hY d0;have r8:=hY c0;clear r4 c2 a1 i1 c0 j4 k8 d0 f9;go_wp2_with(at_builtin;refine Qac _ rfl (.tmp 59) (.tmp 63) 22 rfl w1.heap.size 70 i0 _ 7 104 underlying22 hi o2 p9 r7 rfl (by decide) s2 ys.length (Qai ys) rfl l6.o (λb=>b=w7.heap.size) ⟨some ⟨w7.heap.size,0,none⟩,1⟩ 1 (⟨q,x.2,s5,X⟩:LE).cells rfl (fH o4.o (by decide) rfl) (LE.one _) r5.o q4.o n7.o ?_;intro s7 w9 c3 f8 k6;have o3:=hY c3;have d6:=hY f8;have l5:=hY k6;clear c3 f8 k6);have p5:L.length<=1000000:=by have:=b3.o;have:=HN.o;omega
  have e8:wrap64 ((j:Int)+1)=((j+1:Nat):Int):=by unfold wrap64;omega
  go_roundw
  case measure=>rw[e8];simp[intOf];omega
  have n8:=λb (z:s2.row=some b)=>Qaa l6.o z
  have p2:Sb (λb=>s2.row=some b) (w7.alloc (.cells (⟨q,x.2,s5,X⟩:LE).cells.toArray 70)) w9:=by
   have hg:=d6.o.grown;exact⟨hg.os,hg.tape,hg.output,hg.size,λi hi hn=>hg.block i hi λe=>hn e.symm⟩
  refine⟨j+1,s7,ys++[⟨q,x.2,s5,X⟩],by rw[e8],by rw[ak];rfl,l7,hY (by rw[ak,d4.o];rfl),hY ?_,hY ?_,hY ?_,hY ?_,j8⟩
  ·rw [aL,g7.o,aT,q1.o,aL]
   show _++[(q,x.2)]=_++[(QaF f t x.1,x.2)];rw[HQ.o]
  .exact (HX.o.trans f0.o).comp p2 λi hi e=>by have:=(n8 i e).1;omega
  ·rw [ak,QaA,show Qai [(⟨q,x.2,s5,X⟩:LE)]=(⟨q,x.2,s5,X⟩:LE).cells by simp [Qai]]
   exact o3.o
  intro y hy;rcases aB.1 hy with hy|hy
  .exact QtR f0.o d6.o l5.o (j6.o y hy)
  obtain rfl:y=⟨q,x.2,s5,X⟩:=by simpa using hy
  have s9:(w7.alloc (.cells (⟨q,x.2,s5,X⟩:LE).cells.toArray 70)).heap.size=w7.heap.size+1:=ey _ _;have k0:=λb (z:s2.row=some b)=>(Qaa b5.o z).2
  have r9:w7.heap.size+1<=w9.heap.size:=by
   have h:=d6.o.grown.size;rw[ey]at h;exact h
  have h1:RV w9 (In wc.heap.size w6.heap.size) x.2 s5 X:=(o9.o.agree (q8.o.agree λb (z:In wc.heap.size w6.heap.size b)=>ab z.2 f1.o)).agree (d6.o.agree (λb z=>by rw[ey];have:=z.2;have:=f1.o;omega) λk hk hF=>by have:=k0 k hk;have:=hF.1;have:=c4.o;omega);refine h1.mono λb z=>⟨by have:=z.1;have:=c4.o;have:=HX.o.size;omega,by have:=z.2;have:=f1.o;omega,λe=>?_⟩
  rcases l5.o with hs |⟨hs,-⟩
  ·have e:s2.row=some b:=by unfold Sl.row at e ⊢;rwa [hs] at e
   have:=k0 b e;have:=z.1;have:=c4.o;omega
  unfold Sl.row at e;rw[hs]at e;have e:some (w7.alloc (.cells (⟨q,x.2,s5,X⟩:LE).cells.toArray 70)).heap.size=some b:=e;injection e with e;have:=z.2;have:=f1.o;omega
 obtain rfl:j=L.length:=by omega
 have l1:decide ((L.length:Int)<(L.length:Int))=false:=eh (by omega);have b7:Qb5 M f t L=0:=by have:=d8.o;rwa[aM]at this
 have l3:ys.map LE.ent=L.map (mvE f t):=by have:=g7.o;rwa[aM]at this
 have I:r=(0,QaJ (QeT M (L.map Prod.fst)) (L.map (mvE f t))):=by
  rw[<-HR.o];unfold QcA;rw[a5.o,ef (by rw[b7];exactλh=>h rfl),<-QmI HH.o.rel.ok.sorted f,Qjw,a5.o]
 have D:=hY I;have p6:=hY l3;have q3:=hY b7;have i7:=hY (λ(b:Nat) (z:OvB O d b)=>HH.o.ov.Qbe z);have o8:=hY (HH.o.nw (a3.o.trans HX.o));have d5:=hY (a3.o.trans HX.o);clear b7 l3 I d8 g7
 rename World=>W0
 have p5:L.length<=500000:=by have:=b3.o;have:=HN.o;omega
 go_wp2_with fail;go_loopw[68] (λp4 w2=>∃(i:Nat) (d':OD),p4=.int .i64 (i:Int)/\i<=L.length/\Yd (GoX H W0 O d (QeT M ((L.take i).map Prod.fst)) i w2 d')) (λv _=>L.length -(intOf v).toNat)
 case atStart=>exact⟨0,d,rfl,aw _,hY (o8.o.stay (fD _ _))⟩
 obtain⟨i,d1,rfl,n9,a0⟩:=hrel;by_cases g4:i<L.length
 ·have m1:(i:Int)<(L.length:Int):=by omega
  have o6:decide ((i:Int)<(L.length:Int))=true:=ej m1;have m0:(0:Int)<=(i:Int):=by omega
  obtain⟨x,Z⟩:∃x,L[i]? = some x:=⟨_,ac g4⟩;obtain⟨b0,o0,J,-,a4⟩:=j3.o;obtain⟨b4,i3,b8⟩:=J.eq (by omega);have a9:=J.fits (by omega);have cK:wr.cell? ⟨b0,o0+i,none⟩=some (.string x.1):=by
   rw[a0.o.go.sb.cell (ab a9.2 HX.o.size) (λe=>by have:=i7.o b0 e;have:=a9.1;omega),HX.o.cell a9.2 (λe=>e)];exact a4 i _ (by rw[aq,aq,Z];rfl)
  have hg:=Qiq (M:=M) (f:=f) (j:=i) (e:=x) (by rw[a5.o];exact Z);have Y:=Qe4 (HH.o.rel.ok.ok x hg.1).1;have g0:=Que a0.o.at_ (λb z=>ab (j5.o b z) (al d5.o.size a0.o.go.sb.size)) (by have:=a0.o.few;have:=HN.o;have:=b3.o;omega) (by rw[a0.o.T];exact g9.o) (k:=x.1) (al Y (by decide));have n6:=hY g0;have q5:=hY (show Qb2 (QeT M ((L.take i).map Prod.fst)) x.1=QeT M ((L.take (i+1)).map Prod.fst)by
   rw[aT,Z,aL];unfold QeT;rw[List.foldl_append];rfl)
  rw[b4];clear a4 J a9 hg Y g0 Z;go_wp2_with fail;refine n6.o.mono ?_;rintro e w5 ⟨rfl,d2,i5⟩;rw[q5.o]at i5;have i4:=hY (a0.o.trans i5);clear i5;have e8:wrap64 ((i:Int)+1)=((i+1:Nat):Int):=by unfold wrap64;omega
  go_wp2_with fail;go_roundw
  case measure=>simp[intOf];omega
  exact⟨i+1,d2,by go_num,g4,i4⟩
 obtain rfl:i=L.length:=by omega
 have g8:=a0.o;rw[aM]at g8;have f2:=hY g8;have m1:decide ((L.length:Int)<(L.length:Int))=false:=eh (by omega);have c6:=hY (show ys.length=L.length from d4.o);have t1:ys.length<=500000:=by have:=d4.o;omega
 rename World=>W1
 clear g8 a0 l1 m1 n9 hj;have l1:decide ((L.length:Int)<(L.length:Int))=false:=eh (by omega);go_wp2_with fail;go_loopw[78] (λq0 w3=>∃(i:Nat) (d':OD),q0=.int .i64 (i:Int)/\i<=ys.length/\Yd (GoX H W0 O d (QaJ (QeT M (L.map Prod.fst)) ((L.take i).map (mvE f t))) (L.length+i) w3 d')) (λv _=>ys.length -(intOf v).toNat)
 case atStart=>exact⟨0,d1,rfl,aw _,f2⟩
 obtain⟨i,d2,rfl,s8,N⟩:=hrel;by_cases f7:i<ys.length
 ·have m1:(i:Int)<(ys.length:Int):=by omega
  have o6:decide ((i:Int)<(ys.length:Int))=true:=ej m1;have m0:(0:Int)<=(i:Int):=by omega
  obtain⟨y,hy⟩:∃y,ys[i]? = some y:=⟨_,ac f7⟩;obtain⟨x,Z⟩:∃x,L[i]? = some x:=⟨_,ac (by have:=c6.o;omega)⟩;have d7:y.ent=mvE f t x:=by
   have:=congrArg (λl=>l[i]?) p6.o;simp only[List.getElem?_map,hy,Z,Option.map_some]at this;injection this
  have hk:y.k=QaF f t x.1:=congrArg Prod.fst d7;have hv:y.v=x.2:=congrArg Prod.snd d7;have hg:=Qiq (M:=M) (f:=f) (j:=i) (e:=x) (by rw[a5.o];exact Z);have c1:=HH.o.rel.ok.ok x hg.1;have i8:Qbd y.k=0:=by rw[hk];exact QhO q3.o (am Z)
  have j0:okV y.v:=by rw[hv];exact c1.2
  have g5:∀M',setMu M' y.k y.v=(0,Qbq M' y.k y.v):=λM'=>by
   unfold setMu;rw[ef (λh=>h i8),ef (λh=>h j0.2)]
  obtain⟨b1,o1,J,-,a4⟩:=fE b5.o;obtain⟨b4,i3,b8⟩:=J.eq (by omega);have g6:=J.fits (by omega);have b4:s2.a=some ⟨b1,o1,none⟩:=b4;have a2:∀c u,c<7->y.cells[c]? = some u->wr.cell? ⟨b1,o1+i*7+c,none⟩=some u:=λc u hc hu=>by
   rw[N.o.go.sb.cell g6.2 (λe=>by have:=i7.o b1 e;have:=g6.1;have:=a3.o.size;omega),bH];exact a4 _ _ (by rw[QcK hy c hc];exact hu)
  have e0:wr.cell? ⟨b1,o1+i*7,none⟩=some (.string y.k):=a2 0 _ (by decide) rfl;have e1:wr.cell? ⟨b1,o1+i*7+1,none⟩=some (.int .i64 y.v.kind):=a2 1 _ (by decide) rfl;have e2:wr.cell? ⟨b1,o1+i*7+2,none⟩=some (.bool y.v.b):=a2 2 _ (by decide) rfl;have e3:wr.cell? ⟨b1,o1+i*7+3,none⟩=some (.int .i64 y.v.i):=a2 3 _ (by decide) rfl;have e4:wr.cell? ⟨b1,o1+i*7+4,none⟩=some (.string y.v.t):=a2 4 _ (by decide) rfl;have e5:wr.cell? ⟨b1,o1+i*7+5,none⟩=some (.slice y.sl.a y.v.l.length y.sl.c):=a2 5 _ (by decide) rfl;have e6:wr.cell? ⟨b1,o1+i*7+6,none⟩=some (.slice y.so.a y.v.ok.length y.so.c):=a2 6 _ (by decide) rfl;have a6:=(fv wr).alloc y.cells.toArray 70;have k3:=j6.o y (am hy);have f6:RV wr (QrO w1.heap.size W0 s2) y.v y.sl y.so:=k3.agree λb (z:QrO w1.heap.size W0 s2 b)=>N.o.go.sb.block b z.2.1 λe=>by have:=i7.o b e;have:=z.1;have:=a3.o.size;omega
  have f5:RV (wr.alloc (.cells y.cells.toArray 70)) (Lt (wr.alloc (.cells y.cells.toArray 70)).heap.size) y.v y.sl y.so:=(f6.agree (a6.agree λb (z:QrO w1.heap.size W0 s2 b)=>ab z.2.1 N.o.go.sb.size)).mono λb z=>ab z.2.1 (al N.o.go.sb.size a6.size)
  have c8:=Qql (k:=y.k) (N.o.at_.nw (fx a6)) (λb z=>ab (j5.o b z) (al d5.o.size (al N.o.go.sb.size a6.size))) (by have:=N.o.few;have:=HN.o;have:=b3.o;have:=c6.o;omega) (al (Qe4 i8) (by decide)) f5 (al j0.cnt (by decide)) (((l2.o.nw d5.o).sb N.o.go.sb (λb z e=>HH.o.ov.out b e (p8.o b z))).nw (fx a6));rw[g5]at c8;have j9:=hY c8;have r0:=hY (fx a6);have p7:=hY (show Qbq (QaJ (QeT M (L.map Prod.fst)) ((L.take i).map (mvE f t))) y.k y.v=QaJ (QeT M (L.map Prod.fst)) ((L.take (i+1)).map (mvE f t))by
   rw[aT,Z,aL];show _=QaJ _ (_++[mvE f t x]);rw[QeC,<-d7];rfl)
  rw[b4];clear hk hv hg c1 i8 j0 g5 a4 J g6 a2 a6 k3 f6 f5 c8 hy Z d7 i3 b8;go_wp2_with fail;refine j9.o.mono ?_;rintro e w5 ⟨rfl,d3,b6⟩;have i6:=N.o.trans (b6.since r0.o);rw[p7.o]at i6;have p1:=hY i6;clear b6 i6;have e8:wrap64 ((i:Int)+1)=((i+1:Nat):Int):=by unfold wrap64;omega
  go_wp2_with fail;go_roundw
  case measure=>simp[intOf];omega
  exact⟨i+1,d3,by go_num,f7,p1⟩
 obtain rfl:i=ys.length:=by omega
 have m1:decide ((ys.length:Int)<(ys.length:Int))=false:=eh (by omega);have i9:=N.o;rw[c6.o,aM]at i9;have p3:=hY ((i9.since d5.o).more (m:=2*M.length) (by have:=b3.o;omega));clear i9 N;go_wp2_with fail;go_ret;exact⟨by rw[D.o]<;>rfl,d2,by rw[D.o];exact p3.o⟩
def HB(H:Nat->Prop)(a b:Nat):Nat->Prop:=λi=>H i\/(a<=i/\i<b)
variable{w0:World}
theorem OvX.boxes(h:OvX H w O d M)(k:Nw w w0):OvX (HB H w.heap.size w0.heap.size) w0 O d M:=
 OvX.nw ⟨h.ov.more λb D e=>e.elim id λz=>by have:=z.1;omega,h.rel⟩ k
variable{G:Nat->Prop}{w':World}
theorem GoX.less{d d':OD}(h:GoX G w O d M n w' d')(z:∀b,H b->G b):GoX H w O d M n w' d':=
 ⟨⟨h.go.at_.more λb _ e=>z b e,h.go.sb,h.go.new⟩,h.T,h.rel,h.us,h.hs,h.few⟩
variable{B:Nat}{u:Value}
theorem heap_set{v:Value}(h:w'.heap[B]? = w.heap[B]?){t:TypeId}(z:Blk w B t #[u]):(w'.setCell ⟨B,0,none⟩ v).heap[B]? =(w.setCell ⟨B,0,none⟩ v).heap[B]?:=by
 have h1:Blk (w.setCell ⟨B,0,none⟩ v) B t #[v]:=z.Qdz 0 v;have h2:Blk (w'.setCell ⟨B,0,none⟩ v) B t #[v]:=(show Blk w' B t #[u]from h.trans z).Qdz 0 v;exact Eq.trans h2 (Eq.symm h1)
theorem GoX.code{d d':OD}(h:GoX H w O d M n w' d'){t:TypeId}{u v:Value}(N:H B)(J:Blk w B t #[u])(U:¬OvB O d B) :
  GoX H (w.setCell ⟨B,0,none⟩ v) O d M n (w'.setCell ⟨B,0,none⟩ v) d':=by
 have s1:Sb (λi=>i=B) w (w.setCell ⟨B,0,none⟩ v):=(fD (λi=>i=B) w).set (p:=⟨B,0,none⟩) (.inr rfl) v;have s2:Sb (λi=>i=B) w' (w'.setCell ⟨B,0,none⟩ v):=(fD (λi=>i=B) w').set (p:=⟨B,0,none⟩) (.inr rfl) v;have z:(w.setCell ⟨B,0,none⟩ v).heap.size=w.heap.size:=by simp
 have R:(w'.setCell ⟨B,0,none⟩ v).heap.size=w'.heap.size:=by simp
 have hs:=h.go.sb;have X:=J.lt;refine⟨⟨h.go.at_.sb s2 λb e=>by rw[e];exact N,⟨?_,?_,?_,by rw[z,R];exact hs.size,λi hi I=>?_⟩,λb D=>(h.go.new b D).imp id λe=>by rw[z];exact e⟩,h.T,h.rel,h.us,h.hs,h.few⟩
 .rw [s2.os,hs.os,s1.os]
 .rw [s2.tape,hs.tape,s1.tape]
 .rw [s2.output,hs.output,s1.output]
 rw[z]at hi;by_cases e:i=B
 ·subst e
  exact heap_set (hs.block i hi I) J
 rw[s2.block i (ab hi hs.size) e,hs.block i hi I,s1.block i hi e]
def noB(c:Int)(n:Nat):Nat:=if c=0 then n else 0
theorem Qwq(c:Int)(n:Nat):noB c n<=n:=by unfold noB;split<;>omega
variable{w1:World}
theorem Qsq{d d1:OD}{M M1:List Ent}{n D U X:Nat}{code:Int}(u:FrameMode)(h:OvX H w0 O d M)(g:GoX H w0 O d M1 n w1 d1)(hn:d1.us.length<=1000000)
  (Y:Blk w1 D 43 #[.int .i64 code]) (h2:Blk w1 U 36 #[.pointer (some ⟨O,0,none⟩)]) (h5:Blk w1 X 3 #[.int .i64 (d.us.length:Int)]) (o4:¬OvB O d D) (l4:D<w0.heap.size) :
  CallsD prog 74 #[.pointer (some ⟨D,0,none⟩),.pointer (some ⟨U,0,none⟩),.pointer (some ⟨X,0,none⟩)] u w1 λe u' w'=>u'=u/\(e=.returned (.tuple #[])/\Blk w' D 43 #[.int .i64 code]/\∃d2,GoX H w0 O d (if code=0 then M1 else M) (noB code n) w' d2):=by
 have c4:w1.cell? ⟨D,0,none⟩=some (.int .i64 code):=Y.cell 0;have c2:w1.cell? ⟨U,0,none⟩=some (.pointer (some ⟨O,0,none⟩)):=h2.cell 0;have c5:w1.cell? ⟨X,0,none⟩=some (.int .i64 (d.us.length:Int)):=h5.cell 0;have z:=Qub h g hn;have HB:=hY z;have HG:=hY g;have H4:=hY Y;have N:=hY o4;have I:=hY l4;clear z h g hn Y h2 h5 o4 l4;by_cases R:code=0
 ·subst R
  go_enter_d func74,ntmps74;go_wp2_with fail;go_end0;exact⟨rfl,H4.o,d1,HG.o⟩
 have g0:(code==0)=false:=eu.2 R;have H0:=hY R;clear R;go_enter_d func74,ntmps74;go_wp2_with fail;refine HB.o.mono ?_;rintro e w2 ⟨rfl,d2,Z,-⟩;have J:=hY Z;clear Z;go_wp2_with fail;go_end0;exact⟨rfl,(J.o.go.sb.block D I.o N.o).trans ((HG.o.go.sb.block D I.o N.o).symm.trans H4.o),d2,J.o.more (aw _)⟩
theorem Qcx{w I w3:World}{d d1:OD}{M M1:List Ent}{n R D U:Nat}{code:Int}{z:Value}(hw:Nw w I)(h:OvX (HB H w.heap.size I.heap.size) I O d M)(N:∀b,OvB O d b->b<w.heap.size)
  (g:GoX (HB H w.heap.size I.heap.size) I O d M1 n w3 d1) (hn:d1.us.length<=1000000) (X:Blk I D 43 #[z]) (h2:Blk I R 36 #[.pointer (some ⟨O,0,none⟩)]) (h5:Blk I U 3 #[.int .i64 (d.us.length:Int)])
  (Y:w.heap.size<=D) (l2:w.heap.size<=R) (l5:w.heap.size<=U) (n2:R≠D) (n5:U≠D) :
  CallsD prog 74 #[.pointer (some ⟨D,0,none⟩),.pointer (some ⟨R,0,none⟩),.pointer (some ⟨U,0,none⟩)] .returning (w3.setCell ⟨D,0,none⟩ (.int .i64 code)) λe u' w'=>
   u'=.returning/\(e=.returned (.tuple #[])/\Blk w' D 43 #[.int .i64 code]/\∃d2,GoX H w O d (if code=0 then M1 else M) (noB code n) w' d2):=by
 have J:∀{b},w.heap.size<=b->¬OvB O d b:=λhb e=>by have:=N _ e;omega
 have s0:Sb (λi=>i=D) I (I.setCell ⟨D,0,none⟩ (.int .i64 code)):=(fD (λi=>i=D) I).set (p:=⟨D,0,none⟩) (.inr rfl) _;have s3:Sb (λi=>i=D) w3 (w3.setCell ⟨D,0,none⟩ (.int .i64 code)):=(fD (λi=>i=D) w3).set (p:=⟨D,0,none⟩) (.inr rfl) _;have hB:HB H w.heap.size I.heap.size D:=.inr ⟨Y,X.lt⟩;have Z:=g.code (v:=.int .i64 code) hB X (J Y);have hx:OvX (HB H w.heap.size I.heap.size) (I.setCell ⟨D,0,none⟩ (.int .i64 code)) O d M:=⟨h.ov.sb s0 λb e=>by rw[e];exact hB,h.rel⟩;have z0:(I.setCell ⟨D,0,none⟩ (.int .i64 code)).heap.size=I.heap.size:=by simp
 have a1:Nw w (I.setCell ⟨D,0,none⟩ (.int .i64 code)):=hw.comp s0 λi hi e=>by omega
 refine(Qsq .returning hx Z hn ((g.go.sb.blk X (J Y)).Qdz 0 (.int .i64 code)) (s3.blk (g.go.sb.blk h2 (J l2)) n2) (s3.blk (g.go.sb.blk h5 (J l5)) n5) (J Y) (by rw[z0];exact X.lt)).mono ?_;rintro e u' w' ⟨h1,a0,h3,d2,hg⟩;exact⟨h1,a0,h3,d2,(hg.less λb e=>.inl e).since a1⟩
theorem Qgm{k:ByteArray}{v:Val}(h:(setMu M k v).1≠0):(setMu M k v).2=M:=by
 unfold setMu at h ⊢;split at h
 .rw [em (by assumption)]
 rename_i h1;rw[ef h1];split at h
 .rw [em (by assumption)]
 exact absurd rfl h
theorem Qn4{k:ByteArray}{n b:Int}(h:(Qqx M k n b).1≠0):(Qqx M k n b).2=M:=by
 unfold Qqx at h ⊢;split at h
 .rw [em (by assumption)]
 rename_i h1;rw[ef h1];exact Qgm h
theorem QpM{k:ByteArray}{l:List Val}{x:Val}(h:(Qma M k l x).1≠0):(Qma M k l x).2=M:=by
 unfold Qma at h ⊢;split at h
 .rw [em (by assumption)]
 rename_i h1;rw[ef h1];exact Qgm h
theorem Qck{m:Mu}:(stepM m M).1≠0->(stepM m M).2=M:=by
 obtain⟨z,k,tk,i,Y,Z,a0,v,l⟩:=m;rw[stepM];by_cases U:z=1
 .rw [em U];exact Qgm
 rw[ef U];by_cases R:z=2
 ·rw [em R];split
  .exact λh=>absurd rfl h
  exactλ_=>rfl
 rw[ef R];by_cases X:z=3
 ·rw [em X];unfold Qeo;split
  ·split
   .exact λ_=>rfl
   exact Qn4
  exact Qn4
 rw[ef X];by_cases I:z=4
 ·rw [em I];split
  ·split
   .exact Qgm
   exactλh=>absurd rfl h
  exactλ_=>rfl
 rw[ef I];by_cases D:z=5
 ·rw [em D];unfold Qqk;split
  ·split
   .exact λ_=>rfl
   exact QpM
  exact QpM
 rw[ef D];by_cases N:z=6
 ·rw [em N];unfold QcA;split
  .exact λ_=>rfl
  exactλh=>absurd rfl h
 rw[ef N];by_cases J:z=7
 ·rw [em J];split
  ·split
   .exact λ_=>rfl
   rename_i h1;exactλh=>absurd h h1
  exactλ_=>rfl
 rw[ef J]
 exactλ_=>rfl
def Qcd(m:Mu)(M:List Ent):Nat:=QaT m*(2*(M.length+QaT m)+1)
theorem QdE(m:Mu)(M:List Ent):1+2*M.length<=Qcd m M:=by
 have h:1<=QaT m:=by rw[Qgn];omega
 unfold Qcd
 calc 1+2*M.length<=1*(2*(M.length+QaT m)+1):=by omega
  _<=QaT m*(2*(M.length+QaT m)+1):=cg _ h
theorem Qs2(m:Mu):m.tk.size<=QcF m:=by
 obtain⟨N,k,z,i,D,I,J,v,l⟩:=m;rw[QcF];show z.size<=_;omega
theorem Qjm{d d2:OD}{r:Int × List Ent}(h:r.1≠0->r.2=M)(z:GoX H w O d (if r.1=0 then r.2 else M) (noB r.1 n) w' d2):∃d',GoX H w O d r.2 (noB r.1 n) w' d':=by
 refine⟨d2,?_⟩;by_cases D:r.1=0
 .simp only[if_pos D]at z ⊢;exact z
 simp only[if_neg D]at z ⊢;rw[h D];exact z
variable{c:MuS}
theorem Qop{m:Mu}(h:OvX H w O d M)(hH:∀b,H b->b<w)(hG:∀b,b<6->H b)(hm:RMu w (λb=>b<w/\¬OvB O d b) m c)(hL:Qb9 w)
  (hd:d.us.length+Qcd m M<=1000000) (hl:(Qab d.T).length<=1000000) (ht:QcF m<=1000000) (hk:m.kd=1) :
  Calls prog 46 #[.pointer (some ⟨O,0,none⟩),QaG m c] w λe w'=>e=.returned (.int .i64 (stepM m M).1)/\∃d',GoX H w O d (stepM m M).2 (noB (stepM m M).1 (Qcd m M)) w' d':=by
 have e4:∀(fn:Fn) (first c6:Array Value) (w:World),(Instr.makeFunc fn first c6).run prog w=.ok (.func fn first c6) w:=λ_ _ _ _=>rfl
 have e1:(m.kd==1)=true:=by simp[hk]
 have HD:=hY hd;have e6:=hY hl;have d6:=hY ht;have c3:=hY (QdE m M);have d4:=hY hk;clear hd hl ht hk;obtain⟨r,hr⟩:∃r,stepM m M=r:=⟨_,rfl⟩;rw[hr];have d5:=hY (show r.1≠0->r.2=M fromλh=>by rw[<-hr]at h ⊢;exact Qck h);have HR:=hY hr;clear hr;go_enter_defers func46,ntmps46;go_upto_region 1 with fail;generalize b6:World.alloc _ _=W0;obtain⟨a2,b0,a4,b8,z⟩:=Qas w _ _ _ _ _ _ W0 b6;have c2:W0.cell? ⟨w,0,none⟩=some (.pointer (some ⟨O,0,none⟩)):=a4.cell 0;have R:=QdN (h.ov.nw (fx a2));have d3:=hY R;have b4:=hY a2;have a6:=hY a4;have a9:=hY b8;have c7:=hY z;have a5:=hY b0;have HH:=hY h;have d0:=hY hH;have f0:=hY hG;have HM:=hY hm;have HL:=hY hL;clear b6 a2 b0 a4 b8 z R h hH hG hm hL;go_wp2_with fail;refine d3.o.mono ?_;rintro e w1 ⟨rfl,J⟩;go_upto_region 2 with fail;have D:=(fv w1).alloc #[.int .i64 (d.us.length:Int)] 3;have a0:=fA w1 3 #[.int .i64 (d.us.length:Int)];have a3:(w1.alloc (.cells #[.int .i64 (d.us.length:Int)] 3)).heap.size=w1.heap.size+1:=ey _ _;generalize d8:World.alloc _ _=W2 at D a0 a3 ⊢;have I:=hY ((b4.o.trans J).trans D);have X:=hY ((a6.o.ext J).ext D);have c9:=hY ((a9.o.ext J).ext D);have Y:=hY ((c7.o.ext J).ext D);have e0:=hY a0;have HZ:=hY (show w.heap.size+3<=w1.heap.size/\W2.heap.size=w1.heap.size+1 from⟨by rw[<-a5.o];exact J.size,a3⟩);have U:=hY (fG c9.o);have c0:=hY (HH.o.boxes (fx I.o));clear d8 J D a0 a3 c2 b4 a6 a9 c7 a5;have k0:=U.o.kind;go_upto_region 4 with fail;have b5:stepM m M=setMu M m.k m.v:=by
  obtain⟨kd,k,tk,i,e3,e8,e7,v,l⟩:=m;have hk:kd=1:=d4.o;subst hk;rw[stepM];rfl
 obtain⟨v0,v1,v2,v3,v4,v5⟩:=U.o.v6;have b1:=U.o.c1;have e2:=U.o.c2;have b3:W2.cell? ⟨w+1,3,none⟩=some (.int .i64 m.i):=U.o 3 _ rfl;have b2:W2.cell? ⟨w,0,none⟩=some (.pointer (some ⟨O,0,none⟩)):=X.o.cell 0;have a1:RMu W2 (Lt W2) m c:=(HM.o.agree (I.o.agree λb Z=>Z.1)).mono λb Z=>ab Z.1 I.o.size
 have N:=Qql (k:=m.k) c0.o (λb Z=>Z.elim (λe=>ab (d0.o b e) I.o.size) λe=>e.2) (by have:=HD.o;have:=c3.o;omega) a1.parts.2.2.1 a1.parts.2.1 (al (Qka m).1 (by have:=d6.o;omega)) (HL.o.nw (fx I.o));rw[<-b5,HR.o]at N;clear b5;have b7:=hY N;clear N a1;go_wp2_with fail;refine b7.o.mono ?_;rintro e w3 ⟨rfl,d1,hg⟩;have HG:=hY (hg.more (m:=Qcd m M) (by have:=c3.o;omega));have z:=hg.go.sb.blk Y.o (λe=>by have:=HH.o.ov.Qbe e;omega);have c4:w3.cell? ⟨w+1+1,0,none⟩=some (.int .i64 0):=z.cell 0;have f4:=z.frozen 0;clear hg z k0;go_wp2_with fail;refine eR (f:=74) (args:=#[.pointer (some ⟨w+1+1,0,none⟩),.pointer (some ⟨w,0,none⟩),.pointer (some ⟨w1,0,none⟩)]) (by simp) (by simp[go_sem]) ?_;refine(Qcx (code:=r.1) (fx I.o) c0.o (λb e=>HH.o.ov.Qbe e) HG.o (by have:=HG.o.few;have:=HD.o;omega) Y.o X.o e0.o (by omega) (by omega) (by have:=HZ.o;omega) (by omega) (by have:=HZ.o;omega)).mono ?_;rintro e u' d7 ⟨rfl,rfl,Z,d2,hg⟩;have q4:d7.cell? ⟨w+1+1,0,none⟩=some (.int .i64 r.1):=Z.cell 0;have c8:=Qjm (r:=r) d5.o hg;clear Z hg;simp[Leaves,settle,results,results46,go_sem,q4,c8]
theorem Qoq{m:Mu}(h:OvX H w O d M)(hH:∀b,H b->b<w)(hG:∀b,b<6->H b)(hm:RMu w (λb=>b<w/\¬OvB O d b) m c)(hL:Qb9 w)
  (hd:d.us.length+Qcd m M<=1000000) (hl:(Qab d.T).length<=1000000) (ht:QcF m<=1000000) (hk:m.kd=2) :
  Calls prog 46 #[.pointer (some ⟨O,0,none⟩),QaG m c] w λe w'=>e=.returned (.int .i64 (stepM m M).1)/\∃d',GoX H w O d (stepM m M).2 (noB (stepM m M).1 (Qcd m M)) w' d':=by
 have e3:∀(fn:Fn) (first c6:Array Value) (w:World),(Instr.makeFunc fn first c6).run prog w=.ok (.func fn first c6) w:=λ_ _ _ _=>rfl
 have e1:(m.kd==1)=false:=by simp[hk]
 have e2:(m.kd==2)=true:=by simp[hk]
 have HD:=hY hd;have d6:=hY hl;have e8:=hY ht;have c3:=hY (QdE m M);have d7:=hY hk;clear hd hl ht hk;obtain⟨r,hr⟩:∃r,stepM m M=r:=⟨_,rfl⟩;rw[hr];have e6:=hY (show r.1≠0->r.2=M fromλh=>by rw[<-hr]at h ⊢;exact Qck h);have HR:=hY hr;clear hr;go_enter_defers func46,ntmps46;go_upto_region 1 with fail;generalize b7:World.alloc _ _=W0;obtain⟨a5,b5,a9,c0,z⟩:=Qas w _ _ _ _ _ _ W0 b7;have c2:W0.cell? ⟨w,0,none⟩=some (.pointer (some ⟨O,0,none⟩)):=a9.cell 0;have U:=QdN (h.ov.nw (fx a5));have d5:=hY U;have b6:=hY a5;have b3:=hY a9;have b4:=hY c0;have c8:=hY z;have b0:=hY b5;have HH:=hY h;have d4:=hY hH;have f0:=hY hG;have HM:=hY hm;have HL:=hY hL;clear b7 a5 b5 a9 c0 z U h hH hG hm hL;go_wp2_with fail;refine d5.o.mono ?_;rintro e w1 ⟨rfl,N⟩;go_upto_region 2 with fail;have I:=(fv w1).alloc #[.int .i64 (d.us.length:Int)] 3;have a2:=fA w1 3 #[.int .i64 (d.us.length:Int)];have a6:(w1.alloc (.cells #[.int .i64 (d.us.length:Int)] 3)).heap.size=w1.heap.size+1:=ey _ _;generalize d8:World.alloc _ _=W2 at I a2 a6 ⊢;have J:=hY ((b6.o.trans N).trans I);have R:=hY ((b3.o.ext N).ext I);have d0:=hY ((b4.o.ext N).ext I);have D:=hY ((c8.o.ext N).ext I);have c9:=hY a2;have HZ:=hY (show w.heap.size+3<=w1.heap.size/\W2.heap.size=w1.heap.size+1 from⟨by rw[<-b0.o];exact N.size,a6⟩);have d3:=hY (fG d0.o);have a4:=hY (HH.o.boxes (fx J.o));clear d8 N I a2 a6 c2 b6 b3 b4 c8 b0;have k0:=d3.o.kind;go_upto_region 4 with fail;have a3:stepM m M=if(Qam M m.k).isSome then(0,Qb2 M m.k)else(12,M):=by
  obtain⟨kd,k,tk,i,e0,e7,e4,v,l⟩:=m;have hk:kd=2:=d7.o;subst hk;rw[stepM];rfl
 have b1:=d3.o.c1;have b2:W2.cell? ⟨w,0,none⟩=some (.pointer (some ⟨O,0,none⟩)):=R.o.cell 0;have c7:RMu W2 (Lt W2) m c:=(HM.o.agree (J.o.agree λb Z=>Z.1)).mono λb Z=>ab Z.1 J.o.size
 have a1:=Que (k:=m.k) a4.o (λb Z=>Z.elim (λe=>ab (d4.o b e) J.o.size) λe=>e.2) (by have:=HD.o;have:=c3.o;omega) d6.o c7.parts.2.2.1;rw[HR.o]at a3;have a0:=hY a3;have b8:=hY a1;clear a1 c7 a3;go_wp2_with fail;refine b8.o.mono ?_;rintro e w3 ⟨rfl,d1,hg⟩;have HG:=hY (hg.more (m:=Qcd m M) (by have:=c3.o;omega));clear hg k0;rcases aO (Qam M m.k).isSome with hi|hi
 ·have hs:=a0.o
  rw[em hi]at hs;subst hs;rw[hi];clear hi a0;have z:=HG.o.go.sb.blk D.o (λe=>by have:=HH.o.ov.Qbe e;omega);have c4:w3.cell? ⟨w+1+1,0,none⟩=some (.int .i64 0):=z.cell 0;have f4:=z.frozen 0;clear z;go_wp2_with fail;refine eR (f:=74) (args:=#[.pointer (some ⟨w+1+1,0,none⟩),.pointer (some ⟨w,0,none⟩),.pointer (some ⟨w1,0,none⟩)]) (by simp) (by simp[go_sem]) ?_;refine(Qcx (code:=0) (fx J.o) a4.o (λb e=>HH.o.ov.Qbe e) HG.o (by have:=HG.o.few;have:=HD.o;omega) D.o R.o c9.o (by omega) (by omega) (by have:=HZ.o;omega) (by omega) (by have:=HZ.o;omega)).mono ?_;rintro e u' X ⟨rfl,rfl,Z,d2,hg⟩;have q4:X.cell? ⟨w+1+1,0,none⟩=some (.int .i64 0):=Z.cell 0;have Y:=(show ∃d',GoX H w O d (Qb2 M m.k) (noB 0 (Qcd m M)) X d' from⟨d2,hg⟩);clear Z hg;simp[Leaves,settle,results,results46,go_sem,q4,Y]
 have hs:=a0.o;rw[ef (by rw[hi];decide)]at hs;subst hs;rw[hi];clear hi a0;have z:=HG.o.go.sb.blk D.o (λe=>by have:=HH.o.ov.Qbe e;omega);have c4:w3.cell? ⟨w+1+1,0,none⟩=some (.int .i64 0):=z.cell 0;have f4:=z.frozen 0;clear z;go_wp2_with fail;refine eR (f:=74) (args:=#[.pointer (some ⟨w+1+1,0,none⟩),.pointer (some ⟨w,0,none⟩),.pointer (some ⟨w1,0,none⟩)]) (by simp) (by simp[go_sem]) ?_;refine(Qcx (code:=12) (fx J.o) a4.o (λb e=>HH.o.ov.Qbe e) HG.o (by have:=HG.o.few;have:=HD.o;omega) D.o R.o c9.o (by omega) (by omega) (by have:=HZ.o;omega) (by omega) (by have:=HZ.o;omega)).mono ?_;rintro e u' X ⟨rfl,rfl,Z,d2,hg⟩;have q4:X.cell? ⟨w+1+1,0,none⟩=some (.int .i64 12):=Z.cell 0;have Y:=(show ∃d',GoX H w O d M (noB 12 (Qcd m M)) X d' from⟨d2,hg⟩);clear Z hg;simp[Leaves,settle,results,results46,go_sem,q4,Y]
theorem Qor{m:Mu}(h:OvX H w O d M)(hH:∀b,H b->b<w)(hG:∀b,b<6->H b)(hm:RMu w (λb=>b<w/\¬OvB O d b) m c)(hL:Qb9 w)
  (hd:d.us.length+Qcd m M<=1000000) (hl:(Qab d.T).length<=1000000) (ht:QcF m<=1000000) (hk:m.kd=3) :
  Calls prog 46 #[.pointer (some ⟨O,0,none⟩),QaG m c] w λe w'=>e=.returned (.int .i64 (stepM m M).1)/\∃d',GoX H w O d (stepM m M).2 (noB (stepM m M).1 (Qcd m M)) w' d':=by
 have e7:∀(fn:Fn) (first c6:Array Value) (w:World),(Instr.makeFunc fn first c6).run prog w=.ok (.func fn first c6) w:=λ_ _ _ _=>rfl
 have e1:(m.kd==1)=false:=by simp[hk]
 have e2:(m.kd==2)=false:=by simp[hk]
 have e3:(m.kd==3)=true:=by simp[hk]
 have HD:=hY hd;have d4:=hY hl;have f1:=hY ht;have c3:=hY (QdE m M);have d5:=hY hk;clear hd hl ht hk;obtain⟨r,hr⟩:∃r,stepM m M=r:=⟨_,rfl⟩;rw[hr];have d6:=hY (show r.1≠0->r.2=M fromλh=>by rw[<-hr]at h ⊢;exact Qck h);have HR:=hY hr;clear hr;go_enter_defers func46,ntmps46;go_upto_region 1 with fail;generalize b6:World.alloc _ _=W0;obtain⟨a2,b0,a4,b8,z⟩:=Qas w _ _ _ _ _ _ W0 b6;have c2:W0.cell? ⟨w,0,none⟩=some (.pointer (some ⟨O,0,none⟩)):=a4.cell 0;have R:=QdN (h.ov.nw (fx a2));have d3:=hY R;have b4:=hY a2;have a6:=hY a4;have a9:=hY b8;have c7:=hY z;have a5:=hY b0;have HH:=hY h;have d0:=hY hH;have f2:=hY hG;have HM:=hY hm;have HL:=hY hL;clear b6 a2 b0 a4 b8 z R h hH hG hm hL;go_wp2_with fail;refine d3.o.mono ?_;rintro e w1 ⟨rfl,J⟩;go_upto_region 2 with fail;have D:=(fv w1).alloc #[.int .i64 (d.us.length:Int)] 3;have a0:=fA w1 3 #[.int .i64 (d.us.length:Int)];have a3:(w1.alloc (.cells #[.int .i64 (d.us.length:Int)] 3)).heap.size=w1.heap.size+1:=ey _ _;generalize d8:World.alloc _ _=W2 at D a0 a3 ⊢;have I:=hY ((b4.o.trans J).trans D);have X:=hY ((a6.o.ext J).ext D);have c9:=hY ((a9.o.ext J).ext D);have Y:=hY ((c7.o.ext J).ext D);have e0:=hY a0;have HZ:=hY (show w.heap.size+3<=w1.heap.size/\W2.heap.size=w1.heap.size+1 from⟨by rw[<-a5.o];exact J.size,a3⟩);have U:=hY (fG c9.o);have c0:=hY (HH.o.boxes (fx I.o));clear d8 J D a0 a3 c2 b4 a6 a9 c7 a5;have k0:=U.o.kind;go_upto_region 4 with fail;have b5:stepM m M=Qeo M m.k m.i:=by
  obtain⟨kd,k,tk,i,e6,f0,e8,v,l⟩:=m;have hk:kd=3:=d5.o;subst hk;rw[stepM];rfl
 obtain⟨v0,v1,v2,v3,v4,v5⟩:=U.o.v6;have b1:=U.o.c1;have e4:=U.o.c2;have b3:W2.cell? ⟨w+1,3,none⟩=some (.int .i64 m.i):=U.o 3 _ rfl;have b2:W2.cell? ⟨w,0,none⟩=some (.pointer (some ⟨O,0,none⟩)):=X.o.cell 0;have a1:RMu W2 (Lt W2) m c:=(HM.o.agree (I.o.agree λb Z=>Z.1)).mono λb Z=>ab Z.1 I.o.size
 have N:=Qsx (k:=m.k) (by_:=m.i) c0.o (λb Z=>Z.elim (λe=>ab (d0.o b e) I.o.size) λe=>e.2) (by have:=HD.o;have:=c3.o;omega) d4.o a1.parts.2.2.1 a1.parts.2.2.2.2 (HL.o.nw (fx I.o));rw[<-b5,HR.o]at N;clear b5;have b7:=hY N;clear N a1;go_wp2_with fail;refine b7.o.mono ?_;rintro e w3 ⟨rfl,d1,hg⟩;have HG:=hY (hg.more (m:=Qcd m M) (by have:=c3.o;omega));have z:=hg.go.sb.blk Y.o (λe=>by have:=HH.o.ov.Qbe e;omega);have c4:w3.cell? ⟨w+1+1,0,none⟩=some (.int .i64 0):=z.cell 0;have f4:=z.frozen 0;clear hg z k0;go_wp2_with fail;refine eR (f:=74) (args:=#[.pointer (some ⟨w+1+1,0,none⟩),.pointer (some ⟨w,0,none⟩),.pointer (some ⟨w1,0,none⟩)]) (by simp) (by simp[go_sem]) ?_;refine(Qcx (code:=r.1) (fx I.o) c0.o (λb e=>HH.o.ov.Qbe e) HG.o (by have:=HG.o.few;have:=HD.o;omega) Y.o X.o e0.o (by omega) (by omega) (by have:=HZ.o;omega) (by omega) (by have:=HZ.o;omega)).mono ?_;rintro e u' d7 ⟨rfl,rfl,Z,d2,hg⟩;have q4:d7.cell? ⟨w+1+1,0,none⟩=some (.int .i64 r.1):=Z.cell 0;have c8:=Qjm (r:=r) d6.o hg;clear Z hg;simp[Leaves,settle,results,results46,go_sem,q4,c8]
theorem Qos{m:Mu}(h:OvX H w O d M)(hH:∀b,H b->b<w)(hG:∀b,b<6->H b)(hm:RMu w (λb=>b<w/\¬OvB O d b) m c)(hL:Qb9 w)
  (hd:d.us.length+Qcd m M<=1000000) (hl:(Qab d.T).length<=1000000) (ht:QcF m<=1000000) (Z:m.kd=4) :
  Calls prog 46 #[.pointer (some ⟨O,0,none⟩),QaG m c] w λe w'=>e=.returned (.int .i64 (stepM m M).1)/\∃d',GoX H w O d (stepM m M).2 (noB (stepM m M).1 (Qcd m M)) w' d':=by
 have f0:∀(fn:Fn) (first c3:Array Value) (w:World),(Instr.makeFunc fn first c3).run prog w=.ok (.func fn first c3) w:=λ_ _ _ _=>rfl
 have e1:(m.kd==1)=false:=by simp[Z]
 have e2:(m.kd==2)=false:=by simp[Z]
 have e3:(m.kd==3)=false:=by simp[Z]
 have e4:(m.kd==4)=true:=by simp[Z]
 have HD:=hY hd;have d4:=hY hl;have d7:=hY ht;have c0:=hY (QdE m M);have d5:=hY Z;clear hd hl ht Z;obtain⟨r,hr⟩:∃r,stepM m M=r:=⟨_,rfl⟩;rw[hr];have d6:=hY (show r.1≠0->r.2=M fromλh=>by rw[<-hr]at h ⊢;exact Qck h);have HR:=hY hr;clear hr;go_enter_defers func46,ntmps46;go_upto_region 1 with fail;generalize b5:World.alloc _ _=W0;obtain⟨a1,a9,a3,b7,z⟩:=Qas w _ _ _ _ _ _ W0 b5;have c2:W0.cell? ⟨w,0,none⟩=some (.pointer (some ⟨O,0,none⟩)):=a3.cell 0;have U:=QdN (h.ov.nw (fx a1));have d3:=hY U;have b0:=hY a1;have a5:=hY a3;have a6:=hY b7;have c7:=hY z;have a4:=hY a9;have HH:=hY h;have d0:=hY hH;have f3:=hY hG;have HM:=hY hm;have HL:=hY hL;clear b5 a1 a9 a3 b7 z U h hH hG hm hL;go_wp2_with fail;refine d3.o.mono ?_;rintro e w1 ⟨rfl,J⟩;go_upto_region 2 with fail;have D:=(fv w1).alloc #[.int .i64 (d.us.length:Int)] 3;have a0:=fA w1 3 #[.int .i64 (d.us.length:Int)];have a2:(w1.alloc (.cells #[.int .i64 (d.us.length:Int)] 3)).heap.size=w1.heap.size+1:=ey _ _;generalize e0:World.alloc _ _=W2 at D a0 a2 ⊢;have I:=hY ((b0.o.trans J).trans D);have X:=hY ((a5.o.ext J).ext D);have c9:=hY ((a6.o.ext J).ext D);have Y:=hY ((c7.o.ext J).ext D);have e6:=hY a0;have HZ:=hY (show w.heap.size+3<=w1.heap.size/\W2.heap.size=w1.heap.size+1 from⟨by rw[<-a4.o];exact J.size,a2⟩);have N:=hY (fG c9.o);have b8:=hY (HH.o.boxes (fx I.o));clear e0 J D a0 a2 c2 b0 a5 a6 c7 a4;have k0:=N.o.kind;go_upto_region 4 with fail;have b4:stepM m M=Qti M m:=by
  obtain⟨kd,k,tk,i,e8,f2,f1,v,l⟩:=m;have Z:kd=4:=d5.o;subst Z;rw[stepM];rfl
 obtain⟨v0,v1,v2,v3,v4,v5⟩:=N.o.v6;have b1:=N.o.c1;have e7:=N.o.c2;have b3:W2.cell? ⟨w+1,3,none⟩=some (.int .i64 m.i):=N.o 3 _ rfl;have b2:W2.cell? ⟨w,0,none⟩=some (.pointer (some ⟨O,0,none⟩)):=X.o.cell 0;have c6:RMu W2 (Lt W2) m c:=(HM.o.agree (I.o.agree λb hb=>hb.1)).mono λb hb=>ab hb.1 I.o.size
 have R:=Qsk (m:=m) (c:=c) b8.o (λb hb=>hb.elim (λe=>ab (d0.o b e) I.o.size) λe=>e.2) (by have:=HD.o;have:=c0.o;omega) d4.o c6 (by have:=d7.o;omega) (HL.o.nw (fx I.o));rw[<-b4,HR.o]at R;clear b4;have b6:=hY R;clear R c6;go_wp2_with(refine Qak rfl (.tmp 3) rfl (w.heap.size+1) 0 rfl m c N.o ?_);refine b6.o.mono ?_;rintro e w3 ⟨rfl,d1,hg⟩;have HG:=hY (hg.more (m:=Qcd m M) (by have:=c0.o;omega));have z:=hg.go.sb.blk Y.o (λe=>by have:=HH.o.ov.Qbe e;omega);have c4:w3.cell? ⟨w+1+1,0,none⟩=some (.int .i64 0):=z.cell 0;have f4:=z.frozen 0;clear hg z k0;go_wp2_with fail;refine eR (f:=74) (args:=#[.pointer (some ⟨w+1+1,0,none⟩),.pointer (some ⟨w,0,none⟩),.pointer (some ⟨w1,0,none⟩)]) (by simp) (by simp[go_sem]) ?_;refine(Qcx (code:=r.1) (fx I.o) b8.o (λb e=>HH.o.ov.Qbe e) HG.o (by have:=HG.o.few;have:=HD.o;omega) Y.o X.o e6.o (by omega) (by omega) (by have:=HZ.o;omega) (by omega) (by have:=HZ.o;omega)).mono ?_;rintro e u' d8 ⟨rfl,rfl,hb,d2,hg⟩;have q4:d8.cell? ⟨w+1+1,0,none⟩=some (.int .i64 r.1):=hb.cell 0;have c8:=Qjm (r:=r) d6.o hg;clear hb hg;simp[Leaves,settle,results,results46,go_sem,q4,c8]
theorem Qot{m:Mu}(h:OvX H w O d M)(hH:∀b,H b->b<w)(hG:∀b,b<6->H b)(hm:RMu w (λb=>b<w/\¬OvB O d b) m c)(hL:Qb9 w)
  (hd:d.us.length+Qcd m M<=1000000) (hl:(Qab d.T).length<=1000000) (ht:QcF m<=1000000) (X:m.kd=5) :
  Calls prog 46 #[.pointer (some ⟨O,0,none⟩),QaG m c] w λe w'=>e=.returned (.int .i64 (stepM m M).1)/\∃d',GoX H w O d (stepM m M).2 (noB (stepM m M).1 (Qcd m M)) w' d':=by
 have f0:∀(fn:Fn) (first c6:Array Value) (w:World),(Instr.makeFunc fn first c6).run prog w=.ok (.func fn first c6) w:=λ_ _ _ _=>rfl
 have e1:(m.kd==1)=false:=by simp[X]
 have e2:(m.kd==2)=false:=by simp[X]
 have e3:(m.kd==3)=false:=by simp[X]
 have e4:(m.kd==4)=false:=by simp[X]
 have e5:(m.kd==5)=true:=by simp[X]
 have HD:=hY hd;have d4:=hY hl;have d7:=hY ht;have c3:=hY (QdE m M);have d5:=hY X;clear hd hl ht X;obtain⟨r,hr⟩:∃r,stepM m M=r:=⟨_,rfl⟩;rw[hr];have d6:=hY (show r.1≠0->r.2=M fromλh=>by rw[<-hr]at h ⊢;exact Qck h);have HR:=hY hr;clear hr;go_enter_defers func46,ntmps46;go_upto_region 1 with fail;generalize b6:World.alloc _ _=W0;obtain⟨a2,b0,a4,b8,z⟩:=Qas w _ _ _ _ _ _ W0 b6;have c2:W0.cell? ⟨w,0,none⟩=some (.pointer (some ⟨O,0,none⟩)):=a4.cell 0;have R:=QdN (h.ov.nw (fx a2));have d3:=hY R;have b4:=hY a2;have a6:=hY a4;have a9:=hY b8;have c7:=hY z;have a5:=hY b0;have HH:=hY h;have d0:=hY hH;have f3:=hY hG;have HM:=hY hm;have HL:=hY hL;clear b6 a2 b0 a4 b8 z R h hH hG hm hL;go_wp2_with fail;refine d3.o.mono ?_;rintro e w1 ⟨rfl,J⟩;go_upto_region 2 with fail;have D:=(fv w1).alloc #[.int .i64 (d.us.length:Int)] 3;have a0:=fA w1 3 #[.int .i64 (d.us.length:Int)];have a3:(w1.alloc (.cells #[.int .i64 (d.us.length:Int)] 3)).heap.size=w1.heap.size+1:=ey _ _;generalize e0:World.alloc _ _=W2 at D a0 a3 ⊢;have I:=hY ((b4.o.trans J).trans D);have Y:=hY ((a6.o.ext J).ext D);have c9:=hY ((a9.o.ext J).ext D);have Z:=hY ((c7.o.ext J).ext D);have e6:=hY a0;have HZ:=hY (show w.heap.size+3<=w1.heap.size/\W2.heap.size=w1.heap.size+1 from⟨by rw[<-a5.o];exact J.size,a3⟩);have U:=hY (fG c9.o);have c0:=hY (HH.o.boxes (fx I.o));clear e0 J D a0 a3 c2 b4 a6 a9 c7 a5;have k0:=U.o.kind;go_upto_region 4 with fail;have b5:stepM m M=Qqk M m.k m.v:=by
  obtain⟨kd,k,tk,i,e8,f2,f1,v,l⟩:=m;have X:kd=5:=d5.o;subst X;rw[stepM];rfl
 obtain⟨v0,v1,v2,v3,v4,v5⟩:=U.o.v6;have b1:=U.o.c1;have e7:=U.o.c2;have b3:W2.cell? ⟨w+1,3,none⟩=some (.int .i64 m.i):=U.o 3 _ rfl;have b2:W2.cell? ⟨w,0,none⟩=some (.pointer (some ⟨O,0,none⟩)):=Y.o.cell 0;have a1:RMu W2 (Lt W2) m c:=(HM.o.agree (I.o.agree λb hb=>hb.1)).mono λb hb=>ab hb.1 I.o.size
 have N:=Qmy (k:=m.k) c0.o (λb hb=>hb.elim (λe=>ab (d0.o b e) I.o.size) λe=>e.2) (by have:=HD.o;have:=c3.o;omega) d4.o a1.parts.2.2.1 a1.parts.2.1 (al (Qka m).1 (by have:=d7.o;omega)) (HL.o.nw (fx I.o));rw[<-b5,HR.o]at N;clear b5;have b7:=hY N;clear N a1;go_wp2_with fail;refine b7.o.mono ?_;rintro e w3 ⟨rfl,d1,hg⟩;have HG:=hY (hg.more (m:=Qcd m M) (by have:=c3.o;omega));have z:=hg.go.sb.blk Z.o (λe=>by have:=HH.o.ov.Qbe e;omega);have c4:w3.cell? ⟨w+1+1,0,none⟩=some (.int .i64 0):=z.cell 0;have f4:=z.frozen 0;clear hg z k0;go_wp2_with fail;refine eR (f:=74) (args:=#[.pointer (some ⟨w+1+1,0,none⟩),.pointer (some ⟨w,0,none⟩),.pointer (some ⟨w1,0,none⟩)]) (by simp) (by simp[go_sem]) ?_;refine(Qcx (code:=r.1) (fx I.o) c0.o (λb e=>HH.o.ov.Qbe e) HG.o (by have:=HG.o.few;have:=HD.o;omega) Z.o Y.o e6.o (by omega) (by omega) (by have:=HZ.o;omega) (by omega) (by have:=HZ.o;omega)).mono ?_;rintro e u' d8 ⟨rfl,rfl,hb,d2,hg⟩;have q4:d8.cell? ⟨w+1+1,0,none⟩=some (.int .i64 r.1):=hb.cell 0;have c8:=Qjm (r:=r) d6.o hg;clear hb hg;simp[Leaves,settle,results,results46,go_sem,q4,c8]
theorem Qou{m:Mu}(h:OvX H w O d M)(hH:∀b,H b->b<w)(hG:∀b,b<6->H b)(hm:RMu w (λb=>b<w/\¬OvB O d b) m c)(hL:Qb9 w)
  (hd:d.us.length+Qcd m M<=1000000) (hl:(Qab d.T).length<=1000000) (ht:QcF m<=1000000) (X:m.kd=6) :
  Calls prog 46 #[.pointer (some ⟨O,0,none⟩),QaG m c] w λe w'=>e=.returned (.int .i64 (stepM m M).1)/\∃d',GoX H w O d (stepM m M).2 (noB (stepM m M).1 (Qcd m M)) w' d':=by
 have f3:∀(fn:Fn) (first c6:Array Value) (w:World),(Instr.makeFunc fn first c6).run prog w=.ok (.func fn first c6) w:=λ_ _ _ _=>rfl
 have e1:(m.kd==1)=false:=by simp[X]
 have e2:(m.kd==2)=false:=by simp[X]
 have e3:(m.kd==3)=false:=by simp[X]
 have e4:(m.kd==4)=false:=by simp[X]
 have e5:(m.kd==5)=false:=by simp[X]
 have e6:(m.kd==6)=true:=by simp[X]
 have HD:=hY hd;have d5:=hY hl;have d8:=hY ht;have c3:=hY (QdE m M);have d6:=hY X;clear hd hl ht X;obtain⟨r,hr⟩:∃r,stepM m M=r:=⟨_,rfl⟩;rw[hr];have d7:=hY (show r.1≠0->r.2=M fromλh=>by rw[<-hr]at h ⊢;exact Qck h);have HR:=hY hr;clear hr;go_enter_defers func46,ntmps46;go_upto_region 1 with fail;generalize b6:World.alloc _ _=W0;obtain⟨a2,b0,a4,b8,z⟩:=Qas w _ _ _ _ _ _ W0 b6;have c2:W0.cell? ⟨w,0,none⟩=some (.pointer (some ⟨O,0,none⟩)):=a4.cell 0;have R:=QdN (h.ov.nw (fx a2));have d4:=hY R;have b4:=hY a2;have a6:=hY a4;have a9:=hY b8;have c8:=hY z;have a5:=hY b0;have HH:=hY h;have d3:=hY hH;have e7:=hY hG;have HM:=hY hm;have HL:=hY hL;clear b6 a2 b0 a4 b8 z R h hH hG hm hL;go_wp2_with fail;refine d4.o.mono ?_;rintro e w1 ⟨rfl,J⟩;go_upto_region 2 with fail;have D:=(fv w1).alloc #[.int .i64 (d.us.length:Int)] 3;have a1:=fA w1 3 #[.int .i64 (d.us.length:Int)];have a3:(w1.alloc (.cells #[.int .i64 (d.us.length:Int)] 3)).heap.size=w1.heap.size+1:=ey _ _;generalize e8:World.alloc _ _=W2 at D a1 a3 ⊢;have I:=hY ((b4.o.trans J).trans D);have Z:=hY ((a6.o.ext J).ext D);have d0:=hY ((a9.o.ext J).ext D);have a0:=hY ((c8.o.ext J).ext D);have f0:=hY a1;have HZ:=hY (show w.heap.size+3<=w1.heap.size/\W2.heap.size=w1.heap.size+1 from⟨by rw[<-a5.o];exact J.size,a3⟩);have U:=hY (fG d0.o);have c0:=hY (HH.o.boxes (fx I.o));clear e8 J D a1 a3 c2 b4 a6 a9 c8 a5;have k0:=U.o.kind;go_upto_region 4 with fail;have b5:stepM m M=QcA M m.k m.tk:=by
  obtain⟨kd,k,tk,i,f2,f6,f5,v,l⟩:=m;have X:kd=6:=d6.o;subst X;rw[stepM];rfl
 obtain⟨v0,v1,v2,v3,v4,v5⟩:=U.o.v6;have b1:=U.o.c1;have f1:=U.o.c2;have b3:W2.cell? ⟨w+1,3,none⟩=some (.int .i64 m.i):=U.o 3 _ rfl;have b2:W2.cell? ⟨w,0,none⟩=some (.pointer (some ⟨O,0,none⟩)):=Z.o.cell 0;have c7:RMu W2 (Lt W2) m c:=(HM.o.agree (I.o.agree λb Y=>Y.1)).mono λb Y=>ab Y.1 I.o.size
 have N:=Qrh (f:=m.k) (t:=m.tk) c0.o (λb Y=>Y.elim (λe=>ab (d3.o b e) I.o.size) λe=>e.2) (by have:=HD.o;have:=c3.o;omega) d5.o c7.parts.2.2.1 (al (Qs2 m) (by have:=d8.o;omega)) (HL.o.nw (fx I.o)) (λb Y=>.inl (e7.o b Y));rw[<-b5,HR.o]at N;clear b5;have b7:=hY N;clear N c7;go_wp2_with fail;refine b7.o.mono ?_;rintro e w3 ⟨rfl,d1,hg⟩;have HG:=hY (hg.more (m:=Qcd m M) (by have:=c3.o;omega));have z:=hg.go.sb.blk a0.o (λe=>by have:=HH.o.ov.Qbe e;omega);have c4:w3.cell? ⟨w+1+1,0,none⟩=some (.int .i64 0):=z.cell 0;have f4:=z.frozen 0;clear hg z k0;go_wp2_with fail;refine eR (f:=74) (args:=#[.pointer (some ⟨w+1+1,0,none⟩),.pointer (some ⟨w,0,none⟩),.pointer (some ⟨w1,0,none⟩)]) (by simp) (by simp[go_sem]) ?_;refine(Qcx (code:=r.1) (fx I.o) c0.o (λb e=>HH.o.ov.Qbe e) HG.o (by have:=HG.o.few;have:=HD.o;omega) a0.o Z.o f0.o (by omega) (by omega) (by have:=HZ.o;omega) (by omega) (by have:=HZ.o;omega)).mono ?_;rintro e u' e0 ⟨rfl,rfl,Y,d2,hg⟩;have q4:e0.cell? ⟨w+1+1,0,none⟩=some (.int .i64 r.1):=Y.cell 0;have c9:=Qjm (r:=r) d7.o hg;clear Y hg;simp[Leaves,settle,results,results46,go_sem,q4,c9]
theorem Qow{m:Mu}(h:OvX H w O d M)(hH:∀b,H b->b<w)(hG:∀b,b<6->H b)(hm:RMu w (λb=>b<w/\¬OvB O d b) m c)(hL:Qb9 w)
  (hd:d.us.length+Qcd m M<=1000000) (hl:(Qab d.T).length<=1000000) (ht:QcF m<=1000000) (z:m.kd≠1/\m.kd≠2/\m.kd≠3/\m.kd≠4/\m.kd≠5/\m.kd≠6/\m.kd≠7) :
  Calls prog 46 #[.pointer (some ⟨O,0,none⟩),QaG m c] w λe w'=>e=.returned (.int .i64 (stepM m M).1)/\∃d',GoX H w O d (stepM m M).2 (noB (stepM m M).1 (Qcd m M)) w' d':=by
 have d4:∀(fn:Fn) (first b5:Array Value) (w:World),(Instr.makeFunc fn first b5).run prog w=.ok (.func fn first b5) w:=λ_ _ _ _=>rfl
 have e1:(m.kd==1)=false:=eu.2 z.1;have e2:(m.kd==2)=false:=eu.2 z.2.1;have e3:(m.kd==3)=false:=eu.2 z.2.2.1;have e4:(m.kd==4)=false:=eu.2 z.2.2.2.1;have e5:(m.kd==5)=false:=eu.2 z.2.2.2.2.1;have e6:(m.kd==6)=false:=eu.2 z.2.2.2.2.2.1;have e7:(m.kd==7)=false:=eu.2 z.2.2.2.2.2.2;have HD:=hY hd;have d5:=hY hl;have e8:=hY ht;have d7:=hY (QdE m M);have c6:=hY z;clear hd hl ht z;obtain⟨r,hr⟩:∃r,stepM m M=r:=⟨_,rfl⟩;rw[hr];have d8:=hY (show r.1≠0->r.2=M fromλh=>by rw[<-hr]at h ⊢;exact Qck h);have HR:=hY hr;clear hr;go_enter_defers func46,ntmps46;go_upto_region 1 with fail;generalize a9:World.alloc _ _=W0;obtain⟨X,a4,Z,b3,a1⟩:=Qas w _ _ _ _ _ _ W0 a9;have c2:W0.cell? ⟨w,0,none⟩=some (.pointer (some ⟨O,0,none⟩)):=Z.cell 0;have N:=QdN (h.ov.nw (fx X));have c3:=hY N;have a6:=hY X;have a2:=hY Z;have a3:=hY b3;have b7:=hY a1;have a0:=hY a4;have HH:=hY h;have d3:=hY hH;have f0:=hY hG;have HM:=hY hm;have HL:=hY hL;clear a9 X a4 Z b3 a1 N h hH hG hm hL;go_wp2_with fail;refine c3.o.mono ?_;rintro e w1 ⟨rfl,I⟩;go_upto_region 2 with fail;have D:=(fv w1).alloc #[.int .i64 (d.us.length:Int)] 3;have R:=fA w1 3 #[.int .i64 (d.us.length:Int)];have Y:(w1.alloc (.cells #[.int .i64 (d.us.length:Int)] 3)).heap.size=w1.heap.size+1:=ey _ _;generalize c7:World.alloc _ _=W2 at D R Y ⊢;have b0:=hY ((a6.o.trans I).trans D);have a5:=hY ((a2.o.ext I).ext D);have c0:=hY ((a3.o.ext I).ext D);have J:=hY ((b7.o.ext I).ext D);have c8:=hY R;have HZ:=hY (show w.heap.size+3<=w1.heap.size/\W2.heap.size=w1.heap.size+1 from⟨by rw[<-a0.o];exact I.size,Y⟩);have c9:=hY (fG c0.o);have b4:=hY (HH.o.boxes (fx b0.o));clear c7 I D R Y c2 a6 a2 a3 b7 a0;have k0:=c9.o.kind;go_upto_region 4 with fail;have c1:r=(9,M):=by
  rw[<-HR.o];obtain⟨U,k,tk,i,d0,e0,d6,v,l⟩:=m;have z:U≠1/\U≠2/\U≠3/\U≠4/\U≠5/\U≠6/\U≠7:=c6.o;rw[stepM,ef z.1,ef z.2.1,ef z.2.2.1,ef z.2.2.2.1,ef z.2.2.2.2.1,ef z.2.2.2.2.2.1,ef z.2.2.2.2.2.2]
 subst c1;have HG:=hY (b4.o.stay (n:=Qcd m M) (fD _ W2));have c4:W2.cell? ⟨w+1+1,0,none⟩=some (.int .i64 0):=J.o.cell 0;have f4:=J.o.frozen 0;go_wp2_with fail;refine eR (f:=74) (args:=#[.pointer (some ⟨w+1+1,0,none⟩),.pointer (some ⟨w,0,none⟩),.pointer (some ⟨w1,0,none⟩)]) (by simp) (by simp[go_sem]) ?_;refine(Qcx (code:=9) (fx b0.o) b4.o (λb e=>HH.o.ov.Qbe e) HG.o (by have:=HG.o.few;have:=HD.o;omega) J.o a5.o c8.o (by omega) (by omega) (by have:=HZ.o;omega) (by omega) (by have:=HZ.o;omega)).mono ?_;rintro e u' b6 ⟨rfl,rfl,hb,d2,hg⟩;have q4:b6.cell? ⟨w+1+1,0,none⟩=some (.int .i64 9):=hb.cell 0;have b8:=(show ∃d',GoX H w O d M (noB 9 (Qcd m M)) b6 d' from⟨d2,hg⟩);clear hb hg;simp[Leaves,settle,results,results46,go_sem,q4,b8]
theorem Qs0{l:List Mu}{x:Mu}(h:l[j]? = some x)(M:List Ent):Qks (l.drop j) M=if(stepM x M).1≠0 then((stepM x M).1,M)else Qks (l.drop (j+1)) (stepM x M).2:=by
 obtain⟨h1,h2⟩:=ah.1 h;rw[aE h1,h2,Qks]
def QuM(m:Mu):Prop:=∀(j:Nat) (x:Mu),m.l[j]? = some x->∀(y:MuS) (H:Nat->Prop) (W:World) (O:Nat) (d:OD) (M:List Ent),OvX H W O d M->(∀b,H b->b<W.heap.size)->(∀b,b<6->H b)->RMu W (λb=>b<W.heap.size/\¬OvB O d b) x y->Qb9 W->
 d.us.length+Qcd x M<=1000000->(Qab d.T).length<=1000000->QcF x<=1000000->
 Calls prog 46 #[.pointer (some ⟨O,0,none⟩),QaG x y] W λe w'=>e=.returned (.int .i64 (stepM x M).1)/\∃d',GoX H W O d (stepM x M).2 (Qcd x M) w' d'
theorem Qov{m:Mu}(h:OvX H w O d M)(hH:∀b,H b->b<w.heap.size)(hG:∀b,b<6->H b)(hm:RMu w (λb=>b<w.heap.size/\¬OvB O d b) m c)(hL:Qb9 w)
  (hd:d.us.length+Qcd m M<=1000000) (hl:(Qab d.T).length<=1000000) (ht:QcF m<=1000000) (hk:m.kd=7) (b6:m.k.size=0->m.had=false)
  (ih:QuM m) :
  Calls prog 46 #[.pointer (some ⟨O,0,none⟩),QaG m c] w λe w'=>e=.returned (.int .i64 (stepM m M).1)/\∃d',GoX H w O d (stepM m M).2 (noB (stepM m M).1 (Qcd m M)) w' d':=by
 have k9:∀(fn:Fn) (first e8:Array Value) (w:World),(Instr.makeFunc fn first e8).run prog w=.ok (.func fn first e8) w:=λ_ _ _ _=>rfl
 have e1:(m.kd==1)=false:=by simp[hk]
 have e2:(m.kd==2)=false:=by simp[hk]
 have e3:(m.kd==3)=false:=by simp[hk]
 have e4:(m.kd==4)=false:=by simp[hk]
 have e5:(m.kd==5)=false:=by simp[hk]
 have e6:(m.kd==6)=false:=by simp[hk]
 have e7:(m.kd==7)=true:=by simp[hk]
 have HD:=hY hd;have e0:=hY hl;have k3:=hY ht;have l3:=hY (QdE m M);have j9:=hY hk;have f3:=hY b6;have k5:=hY ih;clear hd hl ht hk b6 ih;obtain⟨r,hr⟩:∃r,stepM m M=r:=⟨_,rfl⟩;rw[hr];have l4:=hY (show r.1≠0->r.2=M fromλh=>by rw[<-hr]at h ⊢;exact Qck h);have HR:=hY hr;clear hr;go_enter_defers func46,ntmps46;go_upto_region 1 with fail;generalize d8:World.alloc _ _=W0;obtain⟨c8,d6,a6,a9,D⟩:=Qas w _ _ _ _ _ _ W0 d8;have c2:W0.cell? ⟨w.heap.size,0,none⟩=some (.pointer (some ⟨O,0,none⟩)):=a6.cell 0;have b0:=QdN (h.ov.nw (fx c8));have j4:=hY b0;have g3:=hY c8;have f8:=hY a6;have f9:=hY a9;have i5:=hY D;have f6:=hY d6;have HH:=hY h;have j2:=hY hH;have f2:=hY hG;have HM:=hY hm;have HL:=hY hL;clear d8 c8 d6 a6 a9 D b0 h hH hG hm hL;go_wp2_with fail;refine j4.o.mono ?_;rintro e w1 ⟨rfl,a1⟩;go_upto_region 2 with fail;have a0:=(fv w1).alloc #[.int .i64 (d.us.length:Int)] 3;have c0:=fA w1 3 #[.int .i64 (d.us.length:Int)];have d5:(w1.alloc (.cells #[.int .i64 (d.us.length:Int)] 3)).heap.size=w1.heap.size+1:=ey _ _;generalize k4:World.alloc _ _=W2 at a0 c0 d5 ⊢;have R:=hY ((g3.o.trans a1).trans a0);have Y:=hY ((f8.o.ext a1).ext a0);have f5:=hY ((f9.o.ext a1).ext a0);have N:=hY ((i5.o.ext a1).ext a0);have d4:=hY c0;have HZ:=hY (show w.heap.size+3<=w1.heap.size/\W2.heap.size=w1.heap.size+1 from⟨by rw[<-f6.o];exact a1.size,d5⟩);have b4:=hY (fG f5.o);have a2:=hY (HH.o.boxes (fx R.o));clear k4 a1 a0 c0 d5 c2 g3 f8 f9 i5 f6;have k0:=b4.o.kind;go_upto_region 4 with fail;go_upto_region 19 with fail;have a5:stepM m M=if asM M m.k m.had m.was then(if(Qks m.l M).1≠0 then((Qks m.l M).1,M)else Qks m.l M)else(13,M):=by
  obtain⟨kd,k,tk,i,k8,l8,l2,v,l⟩:=m;have hk:kd=7:=j9.o;subst hk;rw[stepM];rfl
 rw[HR.o]at a5;have b8:=hY a5;have b1:=b4.o.c1;have b2:W2.cell? ⟨w.heap.size,0,none⟩=some (.pointer (some ⟨O,0,none⟩)):=Y.o.cell 0;have f0:RMu W2 (Lt W2.heap.size) m c:=(HM.o.agree (R.o.agree λb I=>I.1)).mono λb I=>ab I.1 R.o.size
 have c3:=hY (Qmc a2.o e0.o f0);clear a5 f0 k0;go_cut [68]from 60 to 68 (λv w'=>v=.bool (!asM M m.k m.had m.was)/\Nw W2 w')
 case first=>
  by_cases a3:m.k.size=0
  ·have g0:=Qbc a3
   have ha:asM M m.k m.had m.was=true:=by
    have hn:Qam M m.k=none:=by
     cases hg:Qam M m.k with
     |none=>rfl
     | some y=>
       have:=(HH.o.rel.ok.get hg).1;unfold Qbd at this;rw[em a3]at this;cases this
    unfold asM;rw[hn,f3.o a3];rfl
   have HA:=hY ha;clear ha a3;go_wp2_with fail;go_meet;exact⟨by rw[HA.o]<;>rfl,fD _ _⟩
  have g0:=Qbx a3;clear a3
  repeat (first |(refine wp_load_mid 31 (.tmp 3) rfl (w.heap.size+1) 0 rfl (QaE m c) _ b4.o.range underlying31 rfl (by rw[QgS];exact Tryz.QkO) ?_)|go_values|go_skip|go_guarded|go_step)
  refine c3.o.mono ?_;rintro e w3 ⟨rfl,i4⟩;have k1:=hY (fx i4);clear i4;go_wp2_with fail;go_meet;exact⟨rfl,k1.o⟩
 obtain⟨hv,hn⟩:=hcut;subst hv;have i7:=hY hn;have D:=hn.blk N.o;have c4:wc.cell? ⟨w.heap.size+1+1,0,none⟩=some (.int .i64 0):=D.cell 0;have f4:=D.frozen 0;have HC:=hY (b4.o.nw hn);clear hn D b1 b2;rcases aO (asM M m.k m.had m.was)with ha|ha
 rotate_left
 ·have hs:=b8.o
  rw[ef (by rw[ha];decide)]at hs;subst hs;have HG:=hY (a2.o.stay (n:=Qcd m M) i7.o);rw[show(!asM M m.k m.had m.was)=true by rw[ha];rfl];clear ha;go_wp2_with fail;refine eR (f:=74) (args:=#[.pointer (some ⟨w.heap.size+1+1,0,none⟩),.pointer (some ⟨w.heap.size,0,none⟩),.pointer (some ⟨w1.heap.size,0,none⟩)]) (by simp) (by simp[go_sem]) ?_;refine(Qcx (code:=13) (fx R.o) a2.o (λb e=>HH.o.ov.Qbe e) HG.o (by have:=HG.o.few;have:=HD.o;omega) N.o Y.o d4.o (by omega) (by omega) (by have:=HZ.o;omega) (by omega) (by have:=HZ.o;omega)).mono ?_;rintro e u' U ⟨rfl,rfl,I,d2,hg⟩;have q4:U.cell? ⟨w.heap.size+1+1,0,none⟩=some (.int .i64 13):=I.cell 0;have X:=(show ∃d',GoX H w O d M (noB 13 (Qcd m M)) U d' from⟨d2,hg⟩);clear I hg;simp[Leaves,settle,results,results46,go_sem,q4,X]
 have hs:=b8.o;rw[em ha]at hs;have HS:=hY hs;rw[show(!asM M m.k m.had m.was)=false by rw[ha];rfl];have l9:wc.cell? ⟨w.heap.size+1,8+10,none⟩=some (.slice c.s.a m.l.length c.s.c):=HC.o 18 _ rfl;have k6:=HM.o.len;clear hs ha c4 f4;go_wp2_with fail;go_loopw[72] (λj8 wr=>∃(j:Nat) (d1:OD) (M1:List Ent),j8=.int .i64 (j:Int)/\j<=m.l.length/\Yd (GoX (HB H w.heap.size W2.heap.size) W2 O d M1 (QaC (m.l.take j)*(2*(M.length+QaT m)+1)) wr d1)/\Yd (Qks (m.l.drop j) M1=Qks m.l M)/\Yd (M1.length<=M.length+QaC (m.l.take j))) (λv _=>m.l.length -(intOf v).toNat)
 case atStart=>exact⟨0,d,M,rfl,aw _,hY (a2.o.stay i7.o),hY rfl,hY (di _ _)⟩
 obtain⟨j,d1,M1,rfl,hj,J,d7,j3⟩:=hrel;by_cases i0:j<m.l.length
 ·have l1:(j:Int)<(m.l.length:Int):=by omega
  have l5:decide ((j:Int)<(m.l.length:Int))=true:=ej l1;have l0:(0:Int)<=(j:Int):=by omega
  obtain⟨x,hx⟩:∃x,m.l[j]? = some x:=⟨_,ac i0⟩;obtain⟨b,o,y,k2,b5,l6,k7,g7,f7⟩:=HM.o.at hx;have i6:=R.o.size;have Z:Sb (OvB O d) w wr:=((fx R.o).any _).trans J.o.go.sb;have i1:=hY (show MuC wr b (o+j*19) x y fromλi u hu=>(Z.cell b5.1 b5.2).trans (g7 i u hu));have l7:b<wr.heap.size:=ab b5.1 Z.size;have i3:=Qdm hx;have j7:=Qfb m.l (j+1);have j0:=Qgn m;have j5:=j3.o;have i8:Qcd x M1<=QaT x*(2*(M.length+QaT m)+1):=Nat.mul_le_mul_left _ (by omega);have a6:QaC (m.l.take (j+1))*(2*(M.length+QaT m)+1)=QaC (m.l.take j)*(2*(M.length+QaT m)+1)+QaT x*(2*(M.length+QaT m)+1):=by rw[i3,ec]
  have a9:QaC (m.l.take (j+1))*(2*(M.length+QaT m)+1)<=Qcd m M:=cg _ (by omega);have b3:=λW (hW:Ext wr W)=>k5.o j x hx y (HB H w.heap.size W2.heap.size) W O d1 M1 (J.o.at_.nw (fx hW)) (λb I=>ab (I.elim (λe=>ab (j2.o b e) i6) λe=>e.2) (al J.o.go.sb.size hW.size)) (λb I=>.inl (f2.o b I))
   ((f7.agree (λb I=>(Z.trans ((fx hW).any _)).block b I.1 I.2)).mono λb I=>⟨Nat.lt_of_lt_of_le I.1 (al Z.size hW.size),λe=>(J.o.go.new b e).elim I.2 λe2=>by have:=I.1;omega⟩)
   (((HL.o.nw (fx R.o)).sb J.o.go.sb (λb I e=>HH.o.ov.out b e (f2.o b I))).nw (fx hW)) (by have:=J.o.few;have:=HD.o;omega) (by rw[J.o.T];exact e0.o) (al (Qgp hx) (al (Qr7 m) k3.o))
  have d0:=hY b3;have c9:=hY (show QaC (m.l.take j)*(2*(M.length+QaT m)+1)+Qcd x M1<=QaC (m.l.take (j+1))*(2*(M.length+QaT m)+1)/\QaC (m.l.take (j+1))*(2*(M.length+QaT m)+1)<=Qcd m M from⟨by omega,a9⟩);have j6:=hY (show(stepM x M1).2.length<=M.length+QaC (m.l.take (j+1))by have:=Qp2 x M1;omega);have z:=d7.o;rw[Qs0 hx]at z;have b7:=hY z;have a4:=J.o.go.sb.blk Y.o (λe=>by have:=HH.o.ov.Qbe e;omega);have i2:wr.cell? ⟨w.heap.size,0,none⟩=some (.pointer (some ⟨O,0,none⟩)):=a4.cell 0;have g5:=a4.lt;obtain⟨q,hq⟩:∃q,stepM x M1=q:=⟨_,rfl⟩;have HQ:=hY hq;rw[k2];clear i6 Z i3 j7 j0 j5 i8 a6 a9 b3 z a4 f7 g7 hx hq b5;go_wp2_with(first |(refine Qak rfl (.tmp 74) rfl b (o+j*19) rfl x y i1.o ?_) |(refine Qa0 rfl rfl rfl x y (w0:=wr) (b:=wr.heap.size) rfl ((fv wr).alloc _ _) (fA wr _ _) rfl rfl rfl ?_;intro w5 d3 g6;have g9:=hY d3;have j1:=(d3.cell g5).trans i2;have i9:=hY (fG g6);clear d3 g6) |(refine Qak rfl (.tmp 7) rfl wr.heap.size 0 rfl x y i9.o ?_));refine(d0.o _ g9.o).mono ?_;rintro e w6 ⟨rfl,d2,c6⟩;rw[HQ.o]at c6 ⊢;have f1:=hY (J.o.trans (c6.since (fx g9.o)));clear c6 j1 i2 g5;by_cases h0:q.1=0
  ·have g0:(q.1 == 0)=true:=by simp [h0]
   have z:=b7.o;have c7:=j6.o;rw[HQ.o]at z c7;rw[ef (λh=>h h0)]at z;have g8:=hY z;have g4:=hY c7;clear z c7 h0;go_wp2_with fail;go_roundw
   case measure=>simp[intOf];omega
   exact⟨j+1,d2,q.2,by go_num,i0,hY (f1.o.more c9.o.1),g8,g4⟩
  have g0:(q.1==0)=false:=eu.2 h0;have z:=b7.o;rw[HQ.o,em h0]at z;have hs:=HS.o;rw[<-z,em h0]at hs;subst hs;have HG:=hY (f1.o.more (m:=Qcd m M) (al c9.o.1 c9.o.2));have D:=HG.o.go.sb.blk N.o (λe=>by have:=HH.o.ov.Qbe e;omega);have c4:w6.cell? ⟨w.heap.size+1+1,0,none⟩=some (.int .i64 0):=D.cell 0;have f4:=D.frozen 0;have H0:=hY h0;clear D z h0;go_wp2_with fail;refine eR (f:=74) (args:=#[.pointer (some ⟨w.heap.size+1+1,0,none⟩),.pointer (some ⟨w.heap.size,0,none⟩),.pointer (some ⟨w1.heap.size,0,none⟩)]) (by simp) (by simp[go_sem]) ?_;refine(Qcx (code:=q.1) (fx R.o) a2.o (λb e=>HH.o.ov.Qbe e) HG.o (by have:=HG.o.few;have:=HD.o;omega) N.o Y.o d4.o (by omega) (by omega) (by have:=HZ.o;omega) (by omega) (by have:=HZ.o;omega)).mono ?_;rintro e u' U ⟨rfl,rfl,I,d2,hg⟩;have q4:U.cell? ⟨w.heap.size+1+1,0,none⟩=some (.int .i64 q.1):=I.cell 0;have X:=(show ∃d',GoX H w O d M (noB q.1 (Qcd m M)) U d' from⟨d2,by simp only[if_neg H0.o]at hg;exact hg⟩);clear I hg;simp[Leaves,settle,results,results46,go_sem,q4,X]
 obtain rfl:j=m.l.length:=by omega
 have l1:decide ((m.l.length:Int)<(m.l.length:Int))=false:=eh (by omega);have z:=d7.o;rw[cz,Qks]at z;have hs:=HS.o;rw[<-z,ef (λh=>h rfl)]at hs;subst hs;have HG:=hY (J.o.more (m:=Qcd m M) (by rw[aM];exact cg _ (by rw[Qgn];omega)));have D:=HG.o.go.sb.blk N.o (λe=>by have:=HH.o.ov.Qbe e;omega);have c4:wr.cell? ⟨w.heap.size+1+1,0,none⟩=some (.int .i64 0):=D.cell 0;have f4:=D.frozen 0;clear D z;go_wp2_with fail;refine eR (f:=74) (args:=#[.pointer (some ⟨w.heap.size+1+1,0,none⟩),.pointer (some ⟨w.heap.size,0,none⟩),.pointer (some ⟨w1.heap.size,0,none⟩)]) (by simp) (by simp[go_sem]) ?_;refine(Qcx (code:=0) (fx R.o) a2.o (λb e=>HH.o.ov.Qbe e) HG.o (by have:=HG.o.few;have:=HD.o;omega) N.o Y.o d4.o (by omega) (by omega) (by have:=HZ.o;omega) (by omega) (by have:=HZ.o;omega)).mono ?_;rintro e u' U ⟨rfl,rfl,I,d2,hg⟩;have q4:U.cell? ⟨w.heap.size+1+1,0,none⟩=some (.int .i64 0):=I.cell 0;have X:=(show ∃d',GoX H w O d M1 (noB 0 (Qcd m M)) U d' from⟨d2,hg⟩);clear I hg;simp[Leaves,settle,results,results46,go_sem,q4,X]
theorem QlW{v:Val}(I:wfV v)(h:Qel v=true):Qb4 v<=7168:=by
 obtain⟨k,b,i,t,l,N,R⟩:=v;simp only[Qel,Val.kind,Val.b,Val.i,Val.t,Val.l,Val.ok,Bool.and_eq_true,beq_iff_eq,Bool.not_eq_true']at h;obtain⟨⟨⟨⟨⟨-,-⟩,-⟩,h1⟩,h2⟩,J⟩:=h;have z:l=[]:=ar h2;have D:N=[]:=ar J;subst z D;unfold wfV at I;have U:R=[]:=ar I.1.symm;subst U;rw[Qb4,Qd4,QfR,h1];decide
theorem QqV{k:ByteArray}(h:Qbd k=0):k.size<=64:=by
 unfold Qbd at h;split at h
 .cases h
 split at h
 .cases h
 omega
theorem Qlr{k:ByteArray}(h:Qf8 k=true):k.size<=64:=by
 unfold Qf8 at h;simp only[Bool.and_eq_true,decide_eq_true_eq]at h;exact h.1
variable{F:Nat->Prop}
theorem Qq3{m:Mu}(h:RMu w F m c):∀q,QaW m q=0->QcF m<=14472*QaT m:=by
 induction h with
 | @mk kd k tk i had was has v l c bl fl cl rw_ rv hl el rl bk bt bkd bi nl ih=>
   intro q z;rw[QaW]at z;split at z
   .cases z
   rename_i c1;split at z
   .cases z
   split at z
   .cases z
   rename_i c3;split at z
   .rename_i c4;simp only[Bool.and_eq_true,bne_iff_ne]at c4;exact absurd z c4.2
   rename_i c4;split at z
   .rename_i c5;simp only[Bool.and_eq_true,bne_iff_ne]at c5;exact absurd z c5.2
   rename_i c5;have Y:Qbv kd k tk i had was has v l.length=true:=by simpa using c1
   have D:QfU kd k tk had=true:=by simpa using c3
   unfold Qbv at Y;simp only[Bool.and_eq_true]at Y;obtain⟨⟨⟨⟨⟨⟨⟨-,b2⟩,-⟩,-⟩,-⟩,Z⟩,b7⟩,-⟩:=Y;have hk:k.size<=64/\tk.size<=64:=by
    unfold QfU at D;by_cases X:kd=6
    ·rw [em X,ba] at D
     exact⟨Qlr D.1,Qlr D.2⟩
    rw[ef X]at D;have ht:tk.size=0:=by simpa[X]using b2
    by_cases h7:kd=7/\k.size=0
    .omega
    rw[ef h7]at D;have:=QqV (k:=k) (by simpa using D);omega
   have hw:Qb4 was<=7168:=by
    cases I:had with
    | true=>
      rw[I]at c4;have N:Qbw was=0:=by simpa using c4
      exact okV.cnt ⟨rw_.wf,N⟩
    | false=>
      rw[I]at Z;exact QlW rw_.wf (by simpa using Z)
   have hv:Qb4 v<=7168:=by
    cases I:Qhx kd has with
    | true=>
      rw[I]at c5;have N:Qbw v=0:=by simpa using c5
      exact okV.cnt ⟨rv.wf,N⟩
    | false=>
      unfold Qhx at I;rw[I]at b7;exact QlW rv.wf (by simpa using b7)
   have R:∀(l:List Mu) (q:Nat),(∀(j:Nat) (x:Mu),l[j]? = some x->∀q,QaW x q=0->QcF x<=14472*QaT x)->Qce l q=0->Qdr l<=14472*QaC l:=by
    intro l
    induction l with
    |nil=>intro q _ _;rw[Qdr];omega
    | cons a r ihr=>
      intro q I z;rw[Qce]at z;by_cases J:QaW a q=0
      ·rw [ef (fun e=>e J)] at z
       have h1:=I 0 a rfl q J;have h2:=ihr q (λj x U=>I (j+1) x (by simpa using U)) z;rw[Qdr,QaC];omega
      rw[em J]at z;exact absurd z J
   have:=R l (q+1) (λj x U=>ih j x U) z;rw[QcF,QaT];omega
theorem Qs3{m:Mu}(h:RMu w F m c)(z:QbE m=0):QcF m<=1000000:=by
 unfold QbE at z;split at z
 .cases z
 have:=Qq3 h 1 z;omega
variable{q:Nat}
theorem Qpa{m:Mu}(h:QaW m q=0):QfU m.kd m.k m.tk m.had=true/\Qce m.l (q+1)=0:=by
 rw[Qdk]at h;split at h
 .cases h
 split at h
 .cases h
 split at h
 .cases h
 rename_i hk;split at h
 ·rename_i h1
  simp[h]at h1
 split at h
 ·rename_i h1
  simp[h]at h1
 exact⟨by simpa using hk,h⟩
theorem looks_at:∀{l:List Mu} {q j:Nat} {x:Mu},Qce l q=0->l[j]? = some x->QaW x q=0
 |[],q,j,x,_,hx=>by simp at hx
 | m :: r,q,0,x,h,hx=>by
   obtain rfl:m=x:=by simpa using hx
   rw[Qce]at h;by_cases z:QaW m q=0
   .exact z
   rw[em z]at h;exact h
 | m :: r,q,j+1,x,h,hx=>by
   rw[Qce]at h;by_cases z:QaW m q=0
   ·rw [ef (fun e=>e z)] at h
    exact looks_at (l:=r) (j:=j) h (by simpa using hx)
   rw[em z]at h;exact absurd h z
theorem Qss(n:Nat):∀(m:Mu) (q:Nat),SizeOf.sizeOf m<=n->QaW m q=0->∀(c:MuS) (H:Nat->Prop) (w:World) (O:Nat) (d:OD) (M:List Ent),OvX H w O d M->(∀b,H b->b<w)->(∀b,b<6->H b)->RMu w (λb=>b<w/\¬OvB O d b) m c->Qb9 w->
  d.us.length+Qcd m M<=1000000->(Qab d.T).length<=1000000->QcF m<=1000000->
  Calls prog 46 #[.pointer (some ⟨O,0,none⟩),QaG m c] w λe w'=>e=.returned (.int .i64 (stepM m M).1)/\∃d',GoX H w O d (stepM m M).2 (noB (stepM m M).1 (Qcd m M)) w' d':=by
 induction n with
 |zero=>intro m q h;have:=Mu.Qb7 m;omega
 | succ n ih=>
   intro m q hn hq c H w O d M h I J N R hd D z;by_cases k1:m.kd=1
   .exact Qop h I J N R hd D z k1
   by_cases k2:m.kd=2
   .exact Qoq h I J N R hd D z k2
   by_cases k3:m.kd=3
   .exact Qor h I J N R hd D z k3
   by_cases k4:m.kd=4
   .exact Qos h I J N R hd D z k4
   by_cases Y:m.kd=5
   .exact Qot h I J N R hd D z Y
   by_cases k6:m.kd=6
   .exact Qou h I J N R hd D z k6
   by_cases U:m.kd=7
   ·obtain ⟨X,hs⟩:=Qpa hq
    refine Qov h I J N R hd D z U (λh0=>?_) λj x Z y H' W O' d' M' h1 h2 h3 h4 h5 h6 h7 h8=>(ih x (q+1) (by have:=Mu.QtV Z;omega) (looks_at hs Z) y H' W O' d' M' h1 h2 h3 h4 h5 h6 h7 h8).mono λe w' ⟨p1,p2,p3⟩=>⟨p1,p2,p3.more (Qwq _ _)⟩
    unfold QfU at X;rw[ef (by omega),em ⟨U,h0⟩]at X;simpa using X
   exact Qow h I J N R hd D z ⟨k1,k2,k3,k4,Y,k6,U⟩
theorem Qsr{m:Mu}(N:QaW m q=0)(h:OvX H w O d M)(J:∀b,H b->b<w)(U:∀b,b<6->H b)(R:RMu w (λb=>b<w/\¬OvB O d b) m c)(D:Qb9 w)
  (hd:d.us.length+Qcd m M<=1000000) (I:(Qab d.T).length<=1000000) (z:QcF m<=1000000) :
  Calls prog 46 #[.pointer (some ⟨O,0,none⟩),QaG m c] w λe w'=>e=.returned (.int .i64 (stepM m M).1)/\∃d',GoX H w O d (stepM m M).2 (noB (stepM m M).1 (Qcd m M)) w' d':=Qss _ m q (an _) N c H w O d M h J U R D hd I z
theorem Qrb{m:Mu}(h:QbE m=0):QaW m 1=0:=by
 unfold QbE at h;split at h
 .cases h
 exact h
theorem Qs9{m:Mu}(h:OvX H w O d M)(hH:∀b,H b->b<w)(hG:∀b,b<6->H b)(hm:RMu w (λb=>b<w/\¬OvB O d b) m c)(hL:Qb9 w)
  (hd:QbE m=0->d.us.length+Qcd m M<=1000000) (hl:(Qab d.T).length<=1000000) (ht:QcF m<=1100000) :
  Calls prog 20 #[.pointer (some ⟨O,0,none⟩),QaG m c] w λe w'=>e=.returned (.int .i64 (runM M m).1)/\∃d',GoX H w O d (runM M m).2 (noB (runM M m).1 (Qcd m M)) w' d':=by
 have N:∀W,Nw w W->RMu W (λb=>b<W/\¬OvB O d b) m c:=λW D=>(hm.agree (fB D λb J=>J.1)).mono λb J=>⟨Nat.lt_of_lt_of_le J.1 D.size,J.2⟩
 have I:=λW (D:Nw w W)=>Qq6 ((N W D).mono (G:=Lt W) λb J=>J.1) ht (hL.nw D)
 have X:=λ(z:QbE m=0) W (D:Nw w W)=>Qsr (q:=1) (Qrb z) (h.nw D) (λb J=>ab (hH b J) D.size) hG (N W D) (hL.nw D) (hd z) hl (Qs3 hm z)
 obtain⟨r,hr⟩:∃r,runM M m=r:=⟨_,rfl⟩;rw[hr];have HR:=hY hr;have U:=hY I;have a3:=hY X;have HH:=hY h;clear h hH hG hm hL hd hl ht N I X hr;go_in;go_upto_region 1 with fail;generalize a2:World.alloc _ _=W0;obtain⟨a1,Y,a4⟩:=Qaz (m:=m) (c:=c) a2;have a0:=hY (fx a1);have Z:=hY Y;clear a2 a1 Y a4;go_wp2_with(refine Qak rfl (.tmp 3) rfl w.heap.size 0 rfl m c Z.o ?_);refine(U.o _ a0.o).mono ?_;rintro e w1 ⟨rfl,hn⟩;have R:=hY (a0.o.trans hn);have a5:=hY (Z.o.nw hn);clear hn;by_cases z:QbE m=0
 ·have g0:(QbE m == 0)=true:=by simp [z]
  have hs:stepM m M=r:=by rw[<-HR.o];unfold runM;rw[ef (λe=>e z)]
  have hc:=a3.o z w1 R.o;rw[hs]at hc;have HC:=hY hc;clear z hs hc;go_wp2_with(refine Qak rfl (.tmp 3) rfl w.heap.size 0 rfl m c a5.o ?_);refine HC.o.mono ?_;rintro e w2 ⟨rfl,d1,hg⟩;have HG:=hY (hg.since R.o);clear hg;go_wp2_with fail;go_ret;exact⟨rfl,d1,HG.o⟩
 have g0:(QbE m==0)=false:=eu.2 z;have hs:r=(QbE m,M):=by rw[<-HR.o];unfold runM;rw[em z]
 subst hs;clear z;go_wp2_with fail;go_ret;exact⟨rfl,d,HH.o.stay R.o⟩
theorem QpN{m:Mu}(h:(runM M m).1≠0):(runM M m).2=M:=by
 unfold runM at h ⊢;split at h
 .rw [em (by assumption)]
 rename_i h1;rw[ef h1];exact Qck h
variable{T:RT}
theorem QnZ{m:Mu}(hT:IsT w F T)(hF:∀b,F b->6<=b/\b<w.heap.size)(ok:OkR T)(hM:OkM (Qab T))(hm:RMu w (Lt w.heap.size) m c)(hL:Qb9 w)(hd:QbE m=0->(Qab T).length+Qcd m (Qab T)<=1000000)(hl:(Qab T).length<=1000000)(ht:QcF m<=1100000) :
  Calls prog 25 #[Qau T,QaG m c] w λe w'=>∃T',e=.returned (.tuple #[Qau T',.int .i64 (runM (Qab T) m).1])/\OkR T'/\IsT w' (Up F w w') T'/\Qab T'=(runM (Qab T) m).2/\OkM (runM (Qab T) m).2/\Nw w w'/\((runM (Qab T) m).2=Qab T->T'=T):=by
 obtain⟨r,hr⟩:∃r,runM (Qab T) m=r:=⟨_,rfl⟩;rw[hr];have HR:=hY hr;have e1:=hY (show r.1≠0->r.2=Qab T fromλh=>by rw[<-hr]at h ⊢;exact QpN h);obtain⟨p,hp⟩:=Qaq T;have HP:=hY hp;have HT:=hY hT;have HF:=hY hF;have b6:=hY ok;have f5:=hY hM;have HM:=hY hm;have HL:=hY hL;have HD:=hY hd;have f9:=hY ht;have e8:=hY hl;have f4:=hY (show r.1=0->QbE m=0 fromλh=>by rw[<-hr]at h;unfold runM at h;split at h<;>simp_all);rw[Qau,hp];clear hr hp hT hF ok hM hm hL hd ht hl;go_in;go_upto_region 1 with fail;generalize c2:World.alloc _ _=W0;obtain⟨Y,b8,a6,b7,c6⟩:=Qas w _ _ _ _ _ _ W0 c2;clear c2;have c0:W0.cell? ⟨w.heap.size,0,none⟩=some (.pointer p):=a6.cell 0;have e7:=fx Y;have N:=Qqz (w:=W0) (F:=F) (H:=λb=>b<W0.heap.size/\¬F b) (T:=T) (HT.o.agree (Y.agree λb D=>(HF.o b D).2)) b6.o (λb D=>⟨Nat.lt_of_lt_of_le (HF.o b D).2 Y.size,λe=>e.2 D⟩) (λb D=>D.1);rw[Qau,HP.o]at N;have f7:=hY N;have c7:=hY Y;have e4:=hY a6;have f1:=hY c6;have f0:=hY (fG b7);have b3:=hY b8;clear Y e7 a6 b7 c6 b8 N;go_wp2_with fail;refine f7.o.mono ?_;rintro e w1 ⟨O,rfl,hO,d0,J⟩;have X:=(fx c7.o).trans (fx J);have a3:OvX (λb=>b<W0.heap.size/\¬F b) w1 O (od0 T) (Qab T):=⟨d0,QiS.start f5.o⟩;have b4:=Qs9 (m:=m) (c:=c) a3 (λb D=>ab D.1 J.size) (λb D=>⟨Nat.lt_of_lt_of_le D (HL.o.nw (fx c7.o)).lib.big,λe=>by have:=(HF.o b e).1;omega⟩) ((HM.o.agree (fB X λb D=>D)).mono λb D=>⟨Nat.lt_of_lt_of_le D X.size,λe=>by
  have g5:b<w.heap.size:=D;have hz:=b3.o;rcases e with e|e|e
  .omega
  .cases e
  cases e⟩) (HL.o.nw X) (λZ=>by show 0+_<=_;have:=HD.o Z;omega) e8.o f9.o
 rw[HR.o]at b4;have f8:=hY b4;have g8:=hY a3;have f6:=hY X;have a9:=hY J;have c8:=hY (f0.o.ext J);have HO:=hY hO;clear b4 a3 X J d0 hO c0;go_wp2_with(refine Qak rfl (.tmp 3) rfl (w.heap.size+1) 0 rfl m c c8.o ?_);refine f8.o.mono ?_;rintro e w2 ⟨rfl,d1,U⟩;have HG:=hY U;have d4:=hY (show OkM r.2 from U.rel.ok);have I:∀b,b<W0.heap.size->¬OvB O (od0 T) b:=λb D e=>by
  have:=HO.o;rcases e with e|e|e
  .omega
  .cases e
  cases e
 have g6:=hY I;have hz:=b3.o;have b5:=U.go.sb.blk (e4.o.ext a9.o) (I _ (by omega));have R:=U.go.sb.blk (f1.o.ext a9.o) (I _ (by omega));have c4:=hY R;have q0:w2.cell? ⟨w.heap.size,0,none⟩=some (.pointer p):=b5.cell 0;have q2:∃z,w2.cell? ⟨w.heap.size+1+1,0,none⟩=some z:=⟨_,R.cell 0⟩;have f2:=R.frozen 0;have a4:=hY (show Nw w w2 from f6.o.comp U.go.sb λi hi e=>I i (by omega) e);obtain⟨z,q2⟩:=q2;by_cases Z:r.1=0
 ·have g0:(r.1 == 0)=true:=by simp [Z]
  have a2:=QuT U.at_ (by rw[U.T];have h1:=al U.few (Nat.add_le_add_left (Qwq _ _) _);have h2:=U.go.at_.few;have h3:=HD.o (f4.o Z);have h4:(od0 T).us.length=0:=rfl;have h5:(Qab (od0 T).T).length=(Qab T).length:=rfl;omega);have c9:=hY a2;have H0:=hY Z;clear U I hz b5 R Z a2;go_wp2_with fail;refine c9.o.mono ?_;rintro e w3 ⟨T',rfl,e6,c3,c1,a0,b0⟩;obtain⟨p',a5⟩:=Qaq T';have a1:=a0.blk c4.o;have q3:=a1.cell 0;have f3:=a1.frozen 0;have g3:=hY a1;have e0:=hY a5;have d6:=hY (a4.o.trans a0);have g4:=hY a0;have d8:=hY c3;have d7:=hY c1;have d5:=hY (show r.2=Qab T->T'=T fromλh=>by have h1:=HG.o.T;rw[h1]at b0;exact b0 h);rw[Qau,a5];clear a1 a0 c3 c1 a5 q0 q2 f2 b0;go_wp2_with fail;generalize hW:World.setCell _ _ _=W;have hs:Sb (λi=>i=w.heap.size+1+1) w3 W:=by rw[<-hW];exact(fD (λi=>i=w.heap.size+1+1) w3).set (p:=⟨w.heap.size+1+1,0,none⟩) (.inr rfl) _
  have D:Blk W (w.heap.size+1+1) 41 #[.pointer p']:=by rw[<-hW];exact g3.o.Qdz 0 (.pointer p')
  have q4:W.cell? ⟨w.heap.size+1+1,0,none⟩=some (.pointer p'):=D.cell 0;clear hW q3 f3;refine eD (v:=.tuple #[.agg #[.pointer p'],.int .i64 0]) (by simp[results,results25,go_sem,q4]) rfl ?_;refine⟨T',by rw[Qau,e0.o,H0.o],e6,?_,d7.o,d4.o,d6.o.comp hs λi hi e=>by omega,d5.o⟩;have g7:=b3.o;refine(d8.o.agree (F:=Up (OvF (λb=>b<W0.heap.size/\¬F b) w2 O d1) w2 w3) λb D=>hs.block b ?_ ?_).mono λb D=>?_
  all_goals
   have s1:=g4.o.size;have s2:=hs.size;have s3:=a4.o.size;have s4:=HL.o.lib.big;have s5:=a9.o.size;have s6:=HG.o.go.sb.size
  ·rcases D with e | e
   .exact ab e.1 s1
   exact e.2
  ·intro e2
   rcases D with e|e
   .exact e.2.2 ⟨by omega,λe3=>by have:=(HF.o b e3).2;omega⟩
   omega
  rcases D with e|e
  ·by_cases hf:F b
   .exact .inl hf
   have h1:=e.1;by_cases h2:b<W0.heap.size
   .exact absurd ⟨h2,hf⟩ e.2.2
   exact .inr ⟨by omega,by omega⟩
  exact .inr ⟨by omega,by omega⟩
 have g0:(r.1==0)=false:=eu.2 Z;have H0:=hY Z;clear U I hz b5 R Z;go_wp2_with fail;generalize hW:World.setCell _ _ _=W;have hs:Sb (λi=>i=w.heap.size+1+1) w2 W:=by rw[<-hW];exact(fD (λi=>i=w.heap.size+1+1) w2).set (p:=⟨w.heap.size+1+1,0,none⟩) (.inr rfl) _
 have D:Blk W (w.heap.size+1+1) 41 #[.pointer p]:=by rw[<-hW];exact c4.o.Qdz 0 (.pointer p)
 have q4:W.cell? ⟨w.heap.size+1+1,0,none⟩=some (.pointer p):=D.cell 0;have d3:Nw w W:=a4.o.comp hs λi hi e=>by omega
 clear hW q0 q2 f2;refine eD (v:=.tuple #[.agg #[.pointer p],.int .i64 r.1]) (by simp[results,results25,go_sem,q4]) rfl ?_;exact⟨T,by rw[Qau,HP.o],b6.o,(HT.o.agree (fB d3 λb D=>(HF.o b D).2)).mono λb D=>.inl D,(e1.o H0.o).symm,d4.o,d3,λ_=>rfl⟩
end Go.Proofs.YtkjkafgnnoidpaaGreatDoor
