/- Steps to the theorem. -/
import Derived.Great.BuildSlice
import Derived.Test.YtdiecmkpbadgjaaGreatDoorPsh
set_option linter.all false
set_option maxRecDepth 100000
set_option maxHeartbeats 4000000
namespace Go.Proofs.YtdiecmkpbadgjaaGreatDoor
open Go.Proofs.Tryz
open Go.RowKit Go.Maps Go.Sort Go.Shelf
def Tryz.QfP:Go.Shelf.Ren:=⟨λ| 103=>213|210=>234|206=>235|n=>n,λ| 9=>9|4=>4|24=>258|3=>3|n=>n,λ| n=>n⟩
theorem Tryz.QjQ:Go.Proofs.Lays.n103 prog Tryz.QfP:={
 mixed:=by kernel_rfl
 f103:=func213.trans (congrArg some kM)
 f206:=func235.trans (congrArg some kM)
 f210:=func234.trans (congrArg some kM)
 t3:=underlying3
 a3:=isAgg3
 z3:=sizeOf3
 v3:=zeroValue3
 t4:=underlying4
 a4:=isAgg4
 z4:=sizeOf4
 v4:=zeroValue4
 t9:=underlying9
 a9:=isAgg9
 z9:=sizeOf9
 v9:=zeroValue9
 t24:=underlying258
 a24:=isAgg258
 z24:=sizeOf258
 v24:=zeroValue258 }
theorem QtR{k f:ByteArray}(h:Qau f k=true):(⟨(Lib.trimPrefix k.data.toList f.data.toList).toArray⟩:ByteArray)=k.extract f.size k.size:=by
 have I:Lib.hasPrefix k.data.toList f.data.toList=true:=by
  have:=h;unfold Qau at this;rw[eQ,eQ]at this;exact this
 apply ByteArray.ext;apply dO.1;unfold Lib.trimPrefix;rw[eH I,ByteArray.data_extract,Array.toList_extract];show(k.data.toList.drop f.data.toList.length)=_;rw[List.extract_eq_take_drop];have h1:f.data.toList.length=f.size:=aL;have h2:k.data.toList.length=k.size:=aL;rw[h1,aW];rw[aw,h2];exact ao _
variable{w:World}
theorem QqG{k f t:ByteArray}(hb:Qau f k=true)(a0:k.size+t.size<=4611686018427387904)(hL:Qi4 w) :
  Calls prog 198 #[k,f,t] w λe w'=>(∃s,e=.returned (.tuple #[.string s,.int .i64 (Qci (QbB f t k))])/\(Qci (QbB f t k)=0->s=QbB f t k))/\Nw w w':=by
 have Z:=λW=>Any.strings_CutPrefix Tryz.QjQ k f W
 rw[QtR hb]at Z;rw[show Lib.hasPrefix k.data.toList f.data.toList=true by have:=hb;unfold Qau at this;rw[eQ,eQ]at this;exact this]at Z;have HC:=hY Z;have I:(QbB f t k).size<=maxLen:=by
  have h1:(k.extract f.size k.size).size<=k.size:=by rw[bW];omega
  unfold QbB maxLen;rw[aK];omega
 obtain⟨q,hq⟩:∃q,QbB f t k=q:=⟨_,rfl⟩;rw[hq]at I ⊢;obtain⟨HQ,HS⟩:=Yb (show t++k.extract f.size k.size=q from hq) I;clear Z I hq;go_in;go_wp2_with fail;refine(HC.o _).mono ?_;rintro e w' ⟨rfl,rfl⟩;go_wp2_with fail;rw[HQ.o];have HK:=hY (Qc8 (w:=w') HS.o hL);clear hL hb;refine HK.o.mono ?_;rintro e w1 ⟨rfl,hn⟩;have HN:=hY hn;clear hn;by_cases N:Qci q=0
 ·have HZ:=hY N
  have g:(Qci q==0)=true:=by simp[N]
  clear N;go_wp2_with fail;go_ret2;exact⟨⟨q,by rw[HZ.o]<;>rfl,λ_=>rfl⟩,HN.o⟩
 have HZ:=hY N;have g:(Qci q==0)=false:=eJ.2 N;clear N;go_wp2_with fail;go_ret2;exact⟨⟨_,rfl,λh=>absurd h HZ.o⟩,HN.o⟩
variable{H:Nat->Prop}{O:Nat}{d:OD}{M:List Ent}
theorem QvU(h:OvX H w O d M)(N:(Qaa d.T).length<=1000000)(Z:d.us.length<=1000000){p:ByteArray}(I:p.size<=maxLen) :
  Calls prog 197 #[.pointer (some O),p] w λe w'=>∃s:Sl,e=.returned (.slice s.a (Qfh (Qau p) M).length s.c)/\Nw w w'/\Rd w' (In w.heap.size w'.heap.size) 1 s (Qfh (Qau p) M).length ((Qfh (Qau p) M).map .string):=
 (Qqd h.ov N Z I).mono λe w' ⟨s,ks,h1,h2,h3,h4,h5⟩=>by
   obtain rfl:ks=Qfh (Qau p) M:=QiP h4 (Qnn h.rel.ok.sorted) λk=>by rw[h5 k,QgL h.rel.ok.sorted,h.now k]
   exact⟨s,h1,h2,h3⟩
abbrev mvE(f t:ByteArray)(e:Ent):Ent:=(QbB f t e.1,e.2)
variable{f:ByteArray}{j:Nat}{e:Ent}
theorem Qiv(h:(QjI M f)[j]? = some e):e∈M/\Qau f e.1=true:=by
 have:=am h;unfold QjI at this;exact bQ.1 this
theorem QeT{k:ByteArray}(h:Qci k=0):k.size<=64:=by
 unfold Qci at h;split at h
 .cases h
 split at h
 .cases h
 omega
variable{n:Nat}{s2 s7 sl so:Sl}
theorem QuQ{wr W w9:World}{v:Val}(h:Nw wr W)(I:Wr W w9 s2.row)(hs:s7.a=s2.a\/s7.a=some ⟨W,0,none⟩/\Wr W w9 none)(Z:RV wr (QlN n wr s2) v sl so):RV w9 (QlN n w9 s7) v sl so:=by
 have h1:RV W (QlN n wr s2) v sl so:=Z.agree (gp h λb hb=>hb.2.1);have h2:RV w9 (QlN n wr s2) v sl so:=h1.agree (I.agree (λi hi=>ab hi.2.1 h.size) λk N hF=>hF.2.2 N);refine h2.mono λi hi=>⟨hi.1,ab hi.2.1 (ak h.size I.grown.size),λe=>?_⟩
 rcases hs with hs |⟨hs,-⟩
 .exact hi.2.2 (by unfold Sl.row at e ⊢;rwa[hs]at e)
 unfold Sl.row at e;rw[hs]at e;have e:some W.heap.size=some i:=e;injection e with e;have:=hi.2.1;have:=h.size;omega
theorem QrV{f t:ByteArray}(h:OvX H w O d M)(hH:∀b,H b->b<w.heap.size)(hn:d.us.length+2*M.length<=1000000)(hl:(Qaa d.T).length<=1000000)(hf:f.size<=maxLen)
  (ht:t.size<=100000000) (hL:Qb4 w) (hG:∀b,b<6->H b) :
  Calls prog 172 #[.pointer (some O),f,t] w λe w'=>e=.returned (.int .i64 (QgM M f t).1)/\∃d',GoX H w O d (QgM M f t).2 (2*M.length) w' d':=by
 have c4:=QvU h hl oM hf;obtain⟨r,hr⟩:∃r,QgM M f t=r:=⟨_,rfl⟩;rw[hr];obtain⟨L,f4⟩:∃L,QjI M f=L:=⟨_,rfl⟩;have a4:Qfh (Qau f) M=L.map Prod.fst:=by rw[QjJ,f4]
 have j9:(Qfh (Qau f) M).length=L.length:=by rw[a4,aq]
 have n7:L.length<=M.length:=by rw[<-f4];exact bD _ _
 rw[j9,a4]at c4;obtain⟨HH,j5,HN,i1,HT,n2,r4⟩:=Yh h hH hn hl ht hL hG;obtain⟨HR,b3,b5,HP⟩:=Ye hr f4 n7 c4;obtain⟨i0,hi,p3,o6,o2⟩:=eR Tryz.Qa8;clear h hH hn hl ht hL hr f4 n7 c4 a4 j9 hf hG;go_in;go_wp2_with fail;refine HP.o.mono ?_;rintro e w1 ⟨s,rfl,k4,k5⟩;obtain⟨a8,k1⟩:=Yb k4 k5;clear k4 k5;go_wp2_with fail;go_loopw[8,27] (λv8 q6 wr=>∃(j:Nat) (s2:Sl) (ys:List LE),q6=.int .i64 (j:Int)/\v8=.slice s2.a ys.length s2.c/\j<=L.length/\Yd (ys.length=j)/\Yd (ys.map LE.ent=(L.take j).map (mvE f t))/\Yd (Nw w1 wr)/\
  Yd (wr.ownsRow w1.heap.size 78 7 (.slice s2.a ys.length s2.c) ys.length (QaD ys))/\Yd (∀y∈ys,RV wr (QlN w1.heap.size wr s2) y.v y.sl y.so)/\Yd (QcF M f t (L.take j)=0)) (λ_ v _=>L.length -(intOf v).toNat)
 case atStart=>exact⟨0,Sl.none,[],rfl,rfl,aA _,hY rfl,hY rfl,hY (gu _ _),hY (eS _ _ _ _),hY (λy hy=>by cases hy),hY rfl⟩
 obtain⟨j,s2,ys,rfl,rfl,hj,c3,i5,HX,b8,j4,f2⟩:=hrel;by_cases l9:j<L.length
 ·have l1:(j:Int)<(L.length:Int):=oM
  have t3:decide ((j:Int)<(L.length:Int))=true:=eI l1;have l0:(0:Int)<=(j:Int):=oM
  obtain⟨x,hx⟩:∃x,L[j]? = some x:=⟨_,ac l9⟩;obtain⟨b0,o0,a0,-,a5⟩:=k1.o;obtain⟨b7,g9,d4⟩:=a0.eq oM;have b4:=a0.fits oM;have cK:wr.cell? ⟨b0,o0+j,none⟩=some (.string x.1):=by
   rw[HX.o.cell b4.2 (λe=>e)];exact a5 j _ (by rw[ar,ar,hx];rfl)
  have hg:=Qiv (M:=M) (f:=f) (j:=j) (e:=x) (by rw[b3.o];exact hx);have d6:=HH.o.rel.ok.ok x hg.1;have a4:=QeT d6.1;have d5:=QqG (w:=wr) (t:=t) hg.2 (by have:=HT.o;omega) (n2.o.nw (a8.o.trans HX.o)).lib;obtain⟨r5,p4,o8,r2,r7,q1⟩:=Yg d5 (show Qaq M x.1=some x.2 from Qis HH.o.rel.ok.sorted hg.1) (QrU f2.o hx) (λh1 h2=>QhD f2.o hx h1 h2) hx a4;rw[b7];clear a5 a0 b4 hg d6 a4 d5 hx;go_wp2_with fail;refine r5.o.mono ?_;rintro e w2 ⟨⟨q',rfl,i3⟩,d7⟩;obtain⟨n8,o3⟩:=Yb ((a8.o.trans HX.o).trans d7) d7;have a2:=o8.o;by_cases hm:Qci (QbB f t x.1)=0
  rotate_left
  ·have g:(Qci (QbB f t x.1) == 0)=false:=eJ.2 hm
   rw[eH hm]at a2;have N:r=(8,M):=by rw[<-HR.o];unfold QgM;rw[b3.o,a2];exact eH oN
   have Z:=hY N;clear hm a2 N i3 d7 cK;go_wp2_with fail;go_ret;exact⟨by rw[Z.o]<;>rfl,d,by rw[Z.o];exact HH.o.stay n8.o⟩
  obtain rfl:=i3 hm;rw[eE (λh=>h hm)]at a2;have a3:=Quh (HH.o.nw n8.o) i1.o (k:=QbB f t x.1) (ak (QeT hm) oN);obtain⟨f3,HM,j7⟩:=Yc a3 hm a2;rw[hm];clear hm a2 i3 d7 a3 cK;go_wp2_with fail;refine f3.o.mono ?_;rintro e w3 ⟨s3,s4,rfl,l6,-⟩;obtain⟨y3,l3⟩:∃y,(Qaq M (QbB f t x.1)).getD zeroV=y:=⟨_,rfl⟩;obtain⟨g3,c0⟩:∃g,(Qaq M (QbB f t x.1)).isSome=g:=⟨_,rfl⟩;obtain⟨q,hq⟩:∃q,QbB f t x.1=q:=⟨_,rfl⟩;rw[l3,c0,hq];obtain⟨n6,HQ,l2⟩:=Yc c0 hq (o3.o.trans (gj l6));clear l6 l3 c0 hq f3;go_upto_region 10 with fail;have i6:=(gh w3).alloc #[.int .i64 y3.kind,.bool y3.b,.int .i64 y3.i,.string y3.t,.slice s3.a y3.l.length s3.c,.slice s4.a y3.ok.length s4.c] 34;generalize q0:World.alloc _ _=w4 at i6 ⊢;have k9:=hY (l2.o.trans (gj i6));clear q0 i6;go_cut [52] (λv w'=>v=.bool (g3 && !Qau f q)/\w'=w4)
  case first=>
   cases g3 with
   | false=>
     go_wp2_with fail;go_meet;exact⟨rfl,rfl⟩
   | true=>
     go_wp2_with fail;refine(Qhl _ q f).mono ?_;rintro e w5 ⟨rfl,rfl⟩;go_wp2_with fail;go_meet;exact⟨rfl,rfl⟩
  obtain⟨hv,hw⟩:=hcut;subst hv;have e8:=hY (show Nw wr wc by rw[hw];exact k9.o);clear hw k9 l2;rcases aY (g3 && !Qau f q)with I|I
  ·have a2:=j7.o
   rw[n6.o,HQ.o]at a2;rw[eH I]at a2;have N:r=(13,M):=by rw[<-HR.o];unfold QgM;rw[b3.o,a2];exact eH oN
   have Z:=hY N;rw[I];clear I a2 N;go_wp2_with fail;go_ret;exact⟨by rw[Z.o]<;>rfl,d,by rw[Z.o];exact HH.o.stay (a8.o.trans (HX.o.trans e8.o))⟩
  have b9:=r2.o (by rw[HM.o]) (by rw[n6.o,HQ.o];exact I);have k7:=hY b9;have a3:=Quh (HH.o.nw (a8.o.trans (HX.o.trans e8.o))) i1.o (k:=x.1) (ak q1.o oN);rw[p4.o]at a3;have i9:=hY a3;rw[I];clear I b9 a3;go_wp2_with fail;refine i9.o.mono ?_;rintro e w6 ⟨s5,s6,rfl,j6,l7⟩;obtain⟨q4,p8⟩:=Yb (e8.o.trans (gj j6)) (show RV w6 (In wc.heap.size w6.heap.size) x.2 s5 s6 from l7.rv);clear j6 l7;rw[show(some x.2:Option Val).getD zeroV=x.2 from rfl];go_upto_region 13 with fail;have c6:=(gh w6).alloc #[.int .i64 x.2.kind,.bool x.2.b,.int .i64 x.2.i,.string x.2.t,.slice s5.a x.2.l.length s5.c,.slice s6.a x.2.ok.length s6.c] 34;have a6:=gm w6 34 #[.int .i64 x.2.kind,.bool x.2.b,.int .i64 x.2.i,.string x.2.t,.slice s5.a x.2.l.length s5.c,.slice s6.a x.2.ok.length s6.c];generalize o9:World.alloc _ _=w7 at c6 a6 ⊢;obtain⟨r6,q5⟩:=Yb (q4.o.trans (gj c6)) (p8.o.agree (c6.agree λb (I:In wc.heap.size w6.heap.size b)=>I.2));have g0:=ak e8.o.size (ao wc.heap.size);obtain⟨c7,e7⟩:=Yb g0 c6.size;have e0:w7.cell? w6=some (.int .i64 x.2.kind):=a6.cell 0;have e1:w7.cell? ⟨w6.heap.size,1,none⟩=some (.bool x.2.b):=a6.cell 1;have e2:w7.cell? ⟨w6.heap.size,2,none⟩=some (.int .i64 x.2.i):=a6.cell 2;have e3:w7.cell? ⟨w6.heap.size,3,none⟩=some (.string x.2.t):=a6.cell 3;have e4:w7.cell? ⟨w6.heap.size,4,none⟩=some (.slice s5.a x.2.l.length s5.c):=a6.cell 4;have e5:w7.cell? ⟨w6.heap.size,5,none⟩=some (.slice s6.a x.2.ok.length s6.c):=a6.cell 5;have j2:=(gh w7).alloc (⟨q,x.2,s5,s6⟩:LE).cells.toArray 78;obtain⟨o4,f6,q9⟩:=Yc (gm w7 78 (⟨q,x.2,s5,s6⟩:LE).cells.toArray) (r6.o.trans (gj j2)) j2;have c2:Nw wr (w7.alloc (.cells (⟨q,x.2,s5,s6⟩:LE).cells.toArray 78)):=f6.o;have k0:=hY (Qab (F:=Lt wr.heap.size) b8.o (gp c2 λb I=>I) λb I=>(Qad b8.o I).2);have k3:ys.length+1<=maxLen:=by have:=c3.o;have:=b5.o;have:=HN.o;unfold maxLen;omega
  have n4:(ys.length+1)*104<=140737488355328:=by have:=c3.o;have:=b5.o;have:=HN.o;omega
  have d0:w1.heap.size<=(w7.alloc (.cells (⟨q,x.2,s5,s6⟩:LE).cells.toArray 78)).heap.size:=(HX.o.trans f6.o).size;obtain⟨p5,p6,p7,s8⟩:=Ye k3 n4 d0 c2;clear o9 c6 a6 j2 c2 k3 n4 d0 g0;go_wp2_with(at_builtin;refine Qak _ rfl (.tmp 59) (.tmp 63) 41 rfl w1.heap.size 78 i0 _ 7 104 underlying41 hi p3 o6 o2 rfl oN s2 ys.length (QaD ys) rfl k0.o (λb=>b=w7.heap.size) ⟨some w7,1⟩ 1 (⟨q,x.2,s5,s6⟩:LE).cells rfl (gA o4.o oN rfl) (LE.one _) p5.o p6.o p7.o ?_;intro s7 w9 c9 g7 l8;have r3:=hY c9;have f5:=hY g7;have k8:=hY l8;clear c9 g7 l8);have q3:L.length<=1000000:=by have:=b5.o;have:=HN.o;omega
  have f0:wrap64 ((j:Int)+1)=((j+1:Nat):Int):=by unfold wrap64;omega
  go_roundw
  case measure=>rw[f0];simp[intOf];omega
  have q7:=λb (I:s2.row=some b)=>Qad k0.o I
  have q8:Sb (λb=>s2.row=some b) (w7.alloc (.cells (⟨q,x.2,s5,s6⟩:LE).cells.toArray 78)) w9:=by
   have hg:=f5.o.grown;exact⟨hg.os,hg.tape,hg.output,hg.size,λi hi hn=>hg.block i hi λe=>hn e.symm⟩
  refine⟨j+1,s7,ys++[⟨q,x.2,s5,s6⟩],by rw[f0],by rw[aj];rfl,l9,hY (by rw[aj,c3.o];rfl),hY ?_,hY ?_,hY ?_,hY ?_,k7⟩
  ·rw [aB,i5.o,aJ,r7.o,aB]
   show _++[(q,x.2)]=_++[(QbB f t x.1,x.2)];rw[HQ.o]
  .exact (HX.o.trans f6.o).comp q8 λi hi e=>by have:=(q7 i e).1;omega
  ·rw [aj,Qcp,show QaD [(⟨q,x.2,s5,s6⟩:LE)]=(⟨q,x.2,s5,s6⟩:LE).cells by simp [QaD]]
   exact r3.o
  intro y hy;rcases aO.1 hy with hy|hy
  .exact QuQ f6.o f5.o k8.o (j4.o y hy)
  obtain rfl:y=⟨q,x.2,s5,s6⟩:=by simpa using hy
  have t1:(w7.alloc (.cells (⟨q,x.2,s5,s6⟩:LE).cells.toArray 78)).heap.size=w7.heap.size+1:=eK _ _;have k6:=λb (I:s2.row=some b)=>(Qad b8.o I).2
  have s9:w7.heap.size+1<=w9.heap.size:=by
   have h:=f5.o.grown.size;rw[eK]at h;exact h
  have h1:RV w9 (In wc.heap.size w6.heap.size) x.2 s5 s6:=(q5.o.agree (q9.o.agree λb (I:In wc.heap.size w6.heap.size b)=>ab I.2 e7.o)).agree (f5.o.agree (λb I=>by rw[eK];have:=I.2;have:=e7.o;omega) λk hk hF=>by have:=k6 k hk;have:=hF.1;have:=c7.o;omega);refine h1.mono λb I=>⟨by have:=I.1;have:=c7.o;have:=HX.o.size;omega,by have:=I.2;have:=e7.o;omega,λe=>?_⟩
  rcases k8.o with hs |⟨hs,-⟩
  ·have e:s2.row=some b:=by unfold Sl.row at e ⊢;rwa [hs] at e
   have:=k6 b e;have:=I.1;have:=c7.o;omega
  unfold Sl.row at e;rw[hs]at e;have e:some (w7.alloc (.cells (⟨q,x.2,s5,s6⟩:LE).cells.toArray 78)).heap.size=some b:=e;injection e with e;have:=I.2;have:=e7.o;omega
 obtain rfl:j=L.length:=oM
 have l1:decide ((L.length:Int)<(L.length:Int))=false:=eG oM;have b9:QcF M f t L=0:=by have:=f2.o;rwa[aR]at this
 have j8:ys.map LE.ent=L.map (mvE f t):=by have:=i5.o;rwa[aR]at this
 have N:r=(0,QdC (QeE M (L.map Prod.fst)) (L.map (mvE f t))):=by
  rw[<-HR.o];unfold QgM;rw[b3.o,eE (by rw[b9];exactλh=>h rfl),<-Qm8 HH.o.rel.ok.sorted f,QjJ,b3.o]
 obtain⟨Z,r1,o7,i4,q2,d8⟩:=Yg N j8 b9 (λ(b:Nat) (I:OvB O d b)=>HH.o.ov.Qbe I) (HH.o.nw (a8.o.trans HX.o)) (a8.o.trans HX.o);clear b9 j8 N f2 i5
 rename World=>W0
 have q3:L.length<=500000:=by have:=b5.o;have:=HN.o;omega
 go_wp2_with fail;go_loopw[68] (λp0 w2=>∃(i:Nat) (d':OD),p0=.int .i64 (i:Int)/\i<=L.length/\Yd (GoX H W0 O d (QeE M ((L.take i).map Prod.fst)) i w2 d')) (λv _=>L.length -(intOf v).toNat)
 case atStart=>exact⟨0,d,rfl,aA _,hY (q2.o.stay (gu _ _))⟩
 obtain⟨i,d1,rfl,n9,a7⟩:=hrel;by_cases g5:i<L.length
 ·have m1:(i:Int)<(L.length:Int):=oM
  have p9:decide ((i:Int)<(L.length:Int))=true:=eI m1;have m0:(0:Int)<=(i:Int):=oM
  obtain⟨x,hx⟩:∃x,L[i]? = some x:=⟨_,ac g5⟩;obtain⟨b0,o0,a0,-,a5⟩:=k1.o;obtain⟨b7,g9,d4⟩:=a0.eq oM;have b4:=a0.fits oM;have cK:wr.cell? ⟨b0,o0+i,none⟩=some (.string x.1):=by
   rw[a7.o.go.sb.cell (ab b4.2 HX.o.size) (λe=>by have:=i4.o b0 e;have:=b4.1;omega),HX.o.cell b4.2 (λe=>e)];exact a5 i _ (by rw[ar,ar,hx];rfl)
  have hg:=Qiv (M:=M) (f:=f) (j:=i) (e:=x) (by rw[b3.o];exact hx);have a4:=QeT (HH.o.rel.ok.ok x hg.1).1;have f7:=Qvk a7.o.at_ (λb I=>ab (j5.o b I) (ak d8.o.size a7.o.go.sb.size)) (by have:=a7.o.few;have:=HN.o;have:=b5.o;omega) (by rw[a7.o.T];exact i1.o) (k:=x.1) (ak a4 oN);have k2:=hY f7;have r0:=hY (show QbM (QeE M ((L.take i).map Prod.fst)) x.1=QeE M ((L.take (i+1)).map Prod.fst)by
   rw[aJ,hx,aB];unfold QeE;rw[ee];rfl)
  rw[b7];clear a5 a0 b4 hg a4 f7 hx;go_wp2_with fail;refine k2.o.mono ?_;rintro e w5 ⟨rfl,d2,j3⟩;rw[r0.o]at j3;have i9:=hY (a7.o.trans j3);clear j3;have f0:wrap64 ((i:Int)+1)=((i+1:Nat):Int):=by unfold wrap64;omega
  go_wp2_with fail;go_roundw
  case measure=>simp[intOf];omega
  exact⟨i+1,d2,by go_num,g5,i9⟩
 obtain rfl:i=L.length:=oM
 have i7:=a7.o;rw[aR]at i7;have f3:=hY i7;have m1:decide ((L.length:Int)<(L.length:Int))=false:=eG oM;have c1:=hY (show ys.length=L.length from c3.o);have t2:ys.length<=500000:=by have:=c3.o;omega
 rename World=>W1
 clear i7 a7 l1 m1 n9 hj;have l1:decide ((L.length:Int)<(L.length:Int))=false:=eG oM;go_wp2_with fail;go_loopw[78] (λp1 w3=>∃(i:Nat) (d':OD),p1=.int .i64 (i:Int)/\i<=ys.length/\Yd (GoX H W0 O d (QdC (QeE M (L.map Prod.fst)) ((L.take i).map (mvE f t))) (L.length+i) w3 d')) (λv _=>ys.length -(intOf v).toNat)
 case atStart=>exact⟨0,d1,rfl,aA _,f3⟩
 obtain⟨i,d2,rfl,t0,a1⟩:=hrel;by_cases f9:i<ys.length
 ·have m1:(i:Int)<(ys.length:Int):=oM
  have p9:decide ((i:Int)<(ys.length:Int))=true:=eI m1;have m0:(0:Int)<=(i:Int):=oM
  obtain⟨y,hy⟩:∃y,ys[i]? = some y:=⟨_,ac f9⟩;obtain⟨x,hx⟩:∃x,L[i]? = some x:=⟨_,ac (by have:=c1.o;omega)⟩;have f1:y.ent=mvE f t x:=by
   have:=congrArg (λl=>l[i]?) r1.o;simp only[List.getElem?_map,hy,hx,Option.map_some]at this;injection this
  have hk:y.k=QbB f t x.1:=congrArg Prod.fst f1;have hv:y.v=x.2:=congrArg Prod.snd f1;have hg:=Qiv (M:=M) (f:=f) (j:=i) (e:=x) (by rw[b3.o];exact hx);have d6:=HH.o.rel.ok.ok x hg.1;have j0:Qci y.k=0:=by rw[hk];exact QhC o7.o (am hx)
  have j1:okV y.v:=by rw[hv];exact d6.2
  have f8:∀M',setMu M' y.k y.v=(0,QbY M' y.k y.v):=λM'=>by
   unfold setMu;rw[eE (λh=>h j0),eE (λh=>h j1.2)]
  obtain⟨b1,o1,a0,-,a5⟩:=gz b8.o;obtain⟨b7,g9,d4⟩:=a0.eq oM;have g8:=a0.fits oM;have b7:s2.a=some ⟨b1,o1,none⟩:=b7;have a9:∀c u,c<7->y.cells[c]? = some u->wr.cell? ⟨b1,o1+i*7+c,none⟩=some u:=λc u hc hu=>by
   rw[a1.o.go.sb.cell g8.2 (λe=>by have:=i4.o b1 e;have:=g8.1;have:=a8.o.size;omega),bH];exact a5 _ _ (by rw[Qc4 hy c hc];exact hu)
  have e0:wr.cell? ⟨b1,o1+i*7,none⟩=some (.string y.k):=a9 0 _ oN rfl;have e1:wr.cell? ⟨b1,o1+i*7+1,none⟩=some (.int .i64 y.v.kind):=a9 1 _ oN rfl;have e2:wr.cell? ⟨b1,o1+i*7+2,none⟩=some (.bool y.v.b):=a9 2 _ oN rfl;have e3:wr.cell? ⟨b1,o1+i*7+3,none⟩=some (.int .i64 y.v.i):=a9 3 _ oN rfl;have e4:wr.cell? ⟨b1,o1+i*7+4,none⟩=some (.string y.v.t):=a9 4 _ oN rfl;have e5:wr.cell? ⟨b1,o1+i*7+5,none⟩=some (.slice y.sl.a y.v.l.length y.sl.c):=a9 5 _ oN rfl;have e6:wr.cell? ⟨b1,o1+i*7+6,none⟩=some (.slice y.so.a y.v.ok.length y.so.c):=a9 6 _ oN rfl;have b6:=(gh wr).alloc y.cells.toArray 78;have l4:=j4.o y (am hy);have g4:RV wr (QlN w1.heap.size W0 s2) y.v y.sl y.so:=l4.agree λb (I:QlN w1.heap.size W0 s2 b)=>a1.o.go.sb.block b I.2.1 λe=>by have:=i4.o b e;have:=I.1;have:=a8.o.size;omega
  have g6:RV (wr.alloc (.cells y.cells.toArray 78)) (Lt (wr.alloc (.cells y.cells.toArray 78)).heap.size) y.v y.sl y.so:=(g4.agree (b6.agree λb (I:QlN w1.heap.size W0 s2 b)=>ab I.2.1 a1.o.go.sb.size)).mono λb I=>ab I.2.1 (ak a1.o.go.sb.size b6.size)
  have c8:=QqS (k:=y.k) (a1.o.at_.nw (gj b6)) (λb I=>ab (j5.o b I) (ak d8.o.size (ak a1.o.go.sb.size b6.size))) (by have:=a1.o.few;have:=HN.o;have:=b5.o;have:=c1.o;omega) (ak (QeT j0) oN) g6 (ak j1.cnt oN) (((n2.o.nw d8.o).sb a1.o.go.sb (λb I e=>HH.o.ov.out b e (r4.o b I))).nw (gj b6));rw[f8]at c8;obtain⟨l5,o5⟩:=Yb c8 (gj b6);have r8:=hY (show QbY (QdC (QeE M (L.map Prod.fst)) ((L.take i).map (mvE f t))) y.k y.v=QdC (QeE M (L.map Prod.fst)) ((L.take (i+1)).map (mvE f t))by
   rw[aJ,hx,aB];show _=QdC _ (_++[mvE f t x]);rw[Qls,<-f1];rfl)
  rw[b7];clear hk hv hg d6 j0 j1 f8 a5 a0 g8 a9 b6 l4 g4 g6 c8 hy hx f1 g9 d4;go_wp2_with fail;refine l5.o.mono ?_;rintro e w5 ⟨rfl,d3,c0⟩;have i8:=a1.o.trans (c0.since o5.o);rw[r8.o]at i8;have r9:=hY i8;clear c0 i8;have f0:wrap64 ((i:Int)+1)=((i+1:Nat):Int):=by unfold wrap64;omega
  go_wp2_with fail;go_roundw
  case measure=>simp[intOf];omega
  exact⟨i+1,d3,by go_num,f9,r9⟩
 obtain rfl:i=ys.length:=oM
 have m1:decide ((ys.length:Int)<(ys.length:Int))=false:=eG oM;have i2:=a1.o;rw[c1.o,aR]at i2;have p2:=hY ((i2.since d8.o).more (m:=2*M.length) (by have:=b5.o;omega));clear i2 a1;go_wp2_with fail;go_ret;exact⟨by rw[Z.o]<;>rfl,d2,by rw[Z.o];exact p2.o⟩
def HB(H:Nat->Prop)(a b:Nat):Nat->Prop:=λi=>H i\/(a<=i/\i<b)
variable{w0:World}
theorem OvX.boxes(h:OvX H w O d M)(k:Nw w w0):OvX (HB H w.heap.size w0.heap.size) w0 O d M:=
 OvX.nw ⟨h.ov.more λb N e=>e.elim id λI=>by have:=I.1;omega,h.rel⟩ k
variable{G:Nat->Prop}{w':World}
theorem GoX.less{d d':OD}(h:GoX G w O d M n w' d')(I:∀b,H b->G b):GoX H w O d M n w' d':=
 ⟨⟨h.go.at_.more λb _ e=>I b e,h.go.sb,h.go.new⟩,h.T,h.rel,h.us,h.hs,h.few⟩
variable{B:Nat}{u:Value}
theorem heap_set{v:Value}(h:w'.heap[B]? = w.heap[B]?){t:TypeId}(I:Blk w B t #[u]):(w'.setCell B v).heap[B]? =(w.setCell B v).heap[B]?:=by
 have h1:Blk (w.setCell B v) B t #[v]:=I.QbH 0 v;have h2:Blk (w'.setCell B v) B t #[v]:=(show Blk w' B t #[u]from h.trans I).QbH 0 v;exact Eq.trans h2 (Eq.symm h1)
theorem GoX.code{d d':OD}(h:GoX H w O d M n w' d'){t:TypeId}{u v:Value}(hB:H B)(hb:Blk w B t #[u])(ho:¬OvB O d B) :
  GoX H (w.setCell B v) O d M n (w'.setCell B v) d':=by
 have s1:Sb (λi=>i=B) w (w.setCell B v):=(gu (λi=>i=B) w).set (p:=⟨B,0,none⟩) (.inr rfl) v;have s2:Sb (λi=>i=B) w' (w'.setCell B v):=(gu (λi=>i=B) w').set (p:=⟨B,0,none⟩) (.inr rfl) v;have I:(w.setCell B v).heap.size=w.heap.size:=oO
 have z2:(w'.setCell B v).heap.size=w'.heap.size:=oO
 have hs:=h.go.sb;have hl:=hb.lt;refine⟨⟨h.go.at_.sb s2 λb e=>by rw[e];exact hB,⟨?_,?_,?_,by rw[I,z2];exact hs.size,λi hi Z=>?_⟩,λb N=>(h.go.new b N).imp id λe=>by rw[I];exact e⟩,h.T,h.rel,h.us,h.hs,h.few⟩
 .rw [s2.os,hs.os,s1.os]
 .rw [s2.tape,hs.tape,s1.tape]
 .rw [s2.output,hs.output,s1.output]
 rw[I]at hi;by_cases e:i=B
 ·subst e
  exact heap_set (hs.block i hi Z) hb
 rw[s2.block i (ab hi hs.size) e,hs.block i hi Z,s1.block i hi e]
def noB(c:Int)(n:Nat):Nat:=if c=0 then n else 0
theorem QsF(c:Int)(n:Nat):noB c n<=n:=by unfold noB;split<;>omega
variable{w1:World}
theorem Qs6{d d1:OD}{M M1:List Ent}{n N B2 B5:Nat}{code:Int}(u:FrameMode)(h:OvX H w0 O d M)(g:GoX H w0 O d M1 n w1 d1)(hn:d1.us.length<=1000000)
  (h4:Blk w1 N 71 #[.int .i64 code]) (h2:Blk w1 B2 151 #[.pointer (some O)]) (h5:Blk w1 B5 3 #[.int .i64 (d.us.length:Int)]) (o4:¬OvB O d N) (l4:N<w0.heap.size) :
  CallsD prog 165 #[.pointer (some N),.pointer (some B2),.pointer (some B5)] u w1 λe u' w'=>u'=u/\(e=.returned (.tuple #[])/\Blk w' N 71 #[.int .i64 code]/\∃d2,GoX H w0 O d (if code=0 then M1 else M) (noB code n) w' d2):=by
 have c4:w1.cell? N=some (.int .i64 code):=h4.cell 0;have c2:w1.cell? B2=some (.pointer (some O)):=h2.cell 0;have c5:w1.cell? B5=some (.int .i64 (d.us.length:Int)):=h5.cell 0;have I:=Qvj h g hn;obtain⟨HB,HG,H4,a1,Z⟩:=Yf I g h4 o4 l4;clear I h g hn h4 h2 h5 o4 l4;by_cases h0:code=0
 ·subst h0
  go_enter_d func165,ntmps165;go_wp2_with fail;go_end0;exact⟨rfl,H4.o,d1,HG.o⟩
 have g0:(code==0)=false:=eJ.2 h0;have H0:=hY h0;clear h0;go_enter_d func165,ntmps165;go_wp2_with fail;refine HB.o.mono ?_;rintro e w2 ⟨rfl,d2,hg,-⟩;have a0:=hY hg;clear hg;go_wp2_with fail;go_end0;exact⟨rfl,(a0.o.go.sb.block N Z.o a1.o).trans ((HG.o.go.sb.block N Z.o a1.o).symm.trans H4.o),d2,a0.o.more (aA _)⟩
variable{z:Value}
theorem Qco{w N w3:World}{d d1:OD}{M M1:List Ent}{n B2 I B5:Nat}{code:Int}(hw:Nw w N)(h:OvX (HB H w.heap.size N.heap.size) N O d M)(a0:∀b,OvB O d b->b<w.heap.size)
  (g:GoX (HB H w.heap.size N.heap.size) N O d M1 n w3 d1) (hn:d1.us.length<=1000000) (h4:Blk N I 71 #[z]) (h2:Blk N B2 151 #[.pointer (some O)]) (h5:Blk N B5 3 #[.int .i64 (d.us.length:Int)])
  (l4:w.heap.size<=I) (l2:w.heap.size<=B2) (l5:w.heap.size<=B5) (n2:B2≠I) (n5:B5≠I) :
  CallsD prog 165 #[.pointer (some I),.pointer (some B2),.pointer (some B5)] .returning (w3.setCell I (.int .i64 code)) λe u' w'=>
   u'=.returning/\(e=.returned (.tuple #[])/\Blk w' I 71 #[.int .i64 code]/\∃d2,GoX H w O d (if code=0 then M1 else M) (noB code n) w' d2):=by
 have Z:∀{b},w.heap.size<=b->¬OvB O d b:=λhb e=>by have:=a0 _ e;omega
 have s0:Sb (λi=>i=I) N (N.setCell I (.int .i64 code)):=(gu (λi=>i=I) N).set (p:=⟨I,0,none⟩) (.inr rfl) _;have s3:Sb (λi=>i=I) w3 (w3.setCell I (.int .i64 code)):=(gu (λi=>i=I) w3).set (p:=⟨I,0,none⟩) (.inr rfl) _;have hB:HB H w.heap.size N.heap.size I:=.inr ⟨l4,h4.lt⟩;have a1:=g.code (v:=.int .i64 code) hB h4 (Z l4);have hx:OvX (HB H w.heap.size N.heap.size) (N.setCell I (.int .i64 code)) O d M:=⟨h.ov.sb s0 λb e=>by rw[e];exact hB,h.rel⟩;have z0:(N.setCell I (.int .i64 code)).heap.size=N.heap.size:=oO
 have a2:Nw w (N.setCell I (.int .i64 code)):=hw.comp s0 λi hi e=>oM
 refine(Qs6 .returning hx a1 hn ((g.go.sb.blk h4 (Z l4)).QbH 0 (.int .i64 code)) (s3.blk (g.go.sb.blk h2 (Z l2)) n2) (s3.blk (g.go.sb.blk h5 (Z l5)) n5) (Z l4) (by rw[z0];exact h4.lt)).mono ?_;rintro e u' w' ⟨h1,a3,h3,d2,hg⟩;exact⟨h1,a3,h3,d2,(hg.less λb e=>.inl e).since a2⟩
theorem Qf6{k:ByteArray}{v:Val}(h:(setMu M k v).1≠0):(setMu M k v).2=M:=by
 unfold setMu at h ⊢;split at h
 .rw [eH (by assumption)]
 rename_i h1;rw[eE h1];split at h
 .rw [eH (by assumption)]
 exact absurd rfl h
theorem Qoz{k:ByteArray}{n b:Int}(h:(Qoy M k n b).1≠0):(Qoy M k n b).2=M:=by
 unfold Qoy at h ⊢;split at h
 .rw [eH (by assumption)]
 rename_i h1;rw[eE h1];exact Qf6 h
theorem Qqn{k:ByteArray}{l:List Val}{x:Val}(h:(Qoo M k l x).1≠0):(Qoo M k l x).2=M:=by
 unfold Qoo at h ⊢;split at h
 .rw [eH (by assumption)]
 rename_i h1;rw[eE h1];exact Qf6 h
theorem Qcb{m:Mu}:(stepM m M).1≠0->(stepM m M).2=M:=by
 obtain⟨I,k,tk,i,a0,a2,a1,v,l⟩:=m;rw[stepM];by_cases k1:I=1
 .rw [eH k1];exact Qf6
 rw[eE k1];by_cases k2:I=2
 ·rw [eH k2];split
  .exact λh=>absurd rfl h
  exactλ_=>rfl
 rw[eE k2];by_cases k3:I=3
 ·rw [eH k3];unfold Qeb;split
  ·split
   .exact λ_=>rfl
   exact Qoz
  exact Qoz
 rw[eE k3];by_cases N:I=4
 ·rw [eH N];split
  ·split
   .exact Qf6
   exactλh=>absurd rfl h
  exactλ_=>rfl
 rw[eE N];by_cases Z:I=5
 ·rw [eH Z];unfold Qq1;split
  ·split
   .exact λ_=>rfl
   exact Qqn
  exact Qqn
 rw[eE Z];by_cases k6:I=6
 ·rw [eH k6];unfold QgM;split
  .exact λ_=>rfl
  exactλh=>absurd rfl h
 rw[eE k6];by_cases k7:I=7
 ·rw [eH k7];split
  ·split
   .exact λ_=>rfl
   rename_i h1;exactλh=>absurd h h1
  exactλ_=>rfl
 rw[eE k7]
 exactλ_=>rfl
def Qb8(m:Mu)(M:List Ent):Nat:=Qa0 m*(2*(M.length+Qa0 m)+1)
theorem Qdu(m:Mu)(M:List Ent):1+2*M.length<=Qb8 m M:=by
 have h:1<=Qa0 m:=by rw[Qf7];omega
 unfold Qb8
 calc 1+2*M.length<=1*(2*(M.length+Qa0 m)+1):=oM
  _<=Qa0 m*(2*(M.length+Qa0 m)+1):=cg _ h
theorem QtP(m:Mu):m.tk.size<=QcC m:=by
 obtain⟨kd,k,Z,i,I,N,a0,v,l⟩:=m;rw[QcC];show Z.size<=_;omega
theorem Qjv{d d2:OD}{r:Int × List Ent}(h:r.1≠0->r.2=M)(I:GoX H w O d (if r.1=0 then r.2 else M) (noB r.1 n) w' d2):∃d',GoX H w O d r.2 (noB r.1 n) w' d':=by
 refine⟨d2,?_⟩;by_cases N:r.1=0
 .simp only[if_pos N]at I ⊢;exact I
 simp only[if_neg N]at I ⊢;rw[h N];exact I
variable{c:MuS}
theorem Qo0{m:Mu}(h:OvX H w O d M)(hH:∀b,H b->b<w.heap.size)(hG:∀b,b<6->H b)(hm:RMu w (λb=>b<w/\¬OvB O d b) m c)(hL:Qb4 w)
  (hd:d.us.length+Qb8 m M<=1000000) (hl:(Qaa d.T).length<=1000000) (ht:QcC m<=1000000) (hk:m.kd=1) :
  Calls prog 131 #[.pointer (some O),Qaz m c] w λe w'=>e=.returned (.int .i64 (stepM m M).1)/\∃d',GoX H w O d (stepM m M).2 (noB (stepM m M).1 (Qb8 m M)) w' d':=by
 have f1:∀(fn:Fn) (first c8:Array Value) (w:World),(Instr.makeFunc fn first c8).run prog w=.ok (.func fn first c8) w:=λ_ _ _ _=>rfl
 have e1:(m.kd==1)=true:=by simp[hk]
 obtain⟨HD,e7,d8,c6,d7⟩:=Yf hd hl ht (Qdu m M) hk;clear hd hl ht hk;obtain⟨r,hr⟩:∃r,stepM m M=r:=⟨_,rfl⟩;rw[hr];obtain⟨e0,HR⟩:=Yb (show r.1≠0->r.2=M fromλh=>by rw[<-hr]at h ⊢;exact Qcb h) hr;clear hr;go_enter_defers func131,ntmps131;go_upto_region 1 with fail;generalize d0:World.alloc _ _=W0;obtain⟨b0,c0,a9,c9,Z⟩:=Qal w _ _ _ _ _ _ W0 d0;have c2:W0.cell? w=some (.pointer (some O)):=a9.cell 0;have a3:=QdB (h.ov.nw (gj b0));obtain⟨e3,b7,b6,b5,d4,b4,HH⟩:=Yh a3 b0 a9 c9 Z c0 h;obtain⟨e4,f0,HM,HL⟩:=Ye hH hG hm hL;clear d0 b0 c0 a9 c9 Z a3 h hH hG hm hL;go_wp2_with fail;refine e3.o.mono ?_;rintro e w1 ⟨rfl,a0⟩;go_upto_region 2 with fail;have I:=(gh w1).alloc #[.int .i64 (d.us.length:Int)] 3;have a7:=gm w1 3 #[.int .i64 (d.us.length:Int)];have a6:(w1.alloc (.cells #[.int .i64 (d.us.length:Int)] 3)).heap.size=w1.heap.size+1:=eK _ _;generalize d5:World.alloc _ _=W2 at I a7 a6 ⊢;obtain⟨N,a5,b8,a4,e2,HZ⟩:=Yg ((b7.o.trans a0).trans I) ((b6.o.ext a0).ext I) ((b5.o.ext a0).ext I) ((d4.o.ext a0).ext I) a7 (show w.heap.size+3<=w1.heap.size/\W2.heap.size=w1.heap.size+1 from⟨by rw[<-b4.o];exact a0.size,a6⟩);obtain⟨a2,c3⟩:=Yb (gC b8.o) (HH.o.boxes (gj N.o));clear d5 a0 I a7 a6 c2 b7 b6 b5 d4 b4;have k0:=a2.o.kind;go_upto_region 4 with fail;have d3:stepM m M=setMu M m.k m.v:=by
  obtain⟨kd,k,tk,i,f2,e6,f3,v,l⟩:=m;have hk:kd=1:=d7.o;subst hk;rw[stepM];rfl
 obtain⟨v0,v1,v2,v3,v4,v5⟩:=a2.o.v6;have b1:=a2.o.c1;have e8:=a2.o.c2;have b3:W2.cell? ⟨w+1,3,none⟩=some (.int .i64 m.i):=a2.o 3 _ rfl;have b2:W2.cell? w=some (.pointer (some O)):=a5.o.cell 0;have a8:RMu W2 (Lt W2) m c:=(HM.o.agree (N.o.agree λb hb=>hb.1)).mono λb hb=>ab hb.1 N.o.size
 have a1:=QqS (k:=m.k) c3.o (λb hb=>hb.elim (λe=>ab (e4.o b e) N.o.size) λe=>e.2) (by have:=HD.o;have:=c6.o;omega) a8.parts.2.2.1 a8.parts.2.1 (ak (Qkz m).1 (by have:=d8.o;omega)) (HL.o.nw (gj N.o));rw[<-d3,HR.o]at a1;clear d3;have b9:=hY a1;clear a1 a8;go_wp2_with fail;refine b9.o.mono ?_;rintro e w3 ⟨rfl,d1,hg⟩;have HG:=hY (hg.more (m:=Qb8 m M) (by have:=c6.o;omega));have Z:=hg.go.sb.blk a4.o (λe=>by have:=HH.o.ov.Qbe e;omega);have c4:w3.cell? ⟨w+1+1,0,none⟩=some (.int .i64 0):=Z.cell 0;have f4:=Z.frozen 0;clear hg Z k0;go_wp2_with fail;refine fp (f:=165) (args:=#[.pointer (some ⟨w+1+1,0,none⟩),.pointer (some w),.pointer (some w1)]) oO (by simp[go_sem]) ?_;refine(Qco (code:=r.1) (gj N.o) c3.o (λb e=>HH.o.ov.Qbe e) HG.o (by have:=HG.o.few;have:=HD.o;omega) a4.o a5.o e2.o oM oM (by have:=HZ.o;omega) oM (by have:=HZ.o;omega)).mono ?_;rintro e u' d6 ⟨rfl,rfl,hb,d2,hg⟩;have q4:d6.cell? ⟨w+1+1,0,none⟩=some (.int .i64 r.1):=hb.cell 0;have c7:=Qjv (r:=r) e0.o hg;clear hb hg;simp[Leaves,settle,results,results131,go_sem,q4,c7]
theorem Qo1{m:Mu}(h:OvX H w O d M)(hH:∀b,H b->b<w.heap.size)(hG:∀b,b<6->H b)(hm:RMu w (λb=>b<w/\¬OvB O d b) m c)(hL:Qb4 w)
  (hd:d.us.length+Qb8 m M<=1000000) (hl:(Qaa d.T).length<=1000000) (ht:QcC m<=1000000) (hk:m.kd=2) :
  Calls prog 131 #[.pointer (some O),Qaz m c] w λe w'=>e=.returned (.int .i64 (stepM m M).1)/\∃d',GoX H w O d (stepM m M).2 (noB (stepM m M).1 (Qb8 m M)) w' d':=by
 have f0:∀(fn:Fn) (first d0:Array Value) (w:World),(Instr.makeFunc fn first d0).run prog w=.ok (.func fn first d0) w:=λ_ _ _ _=>rfl
 have e1:(m.kd==1)=false:=by simp[hk]
 have e2:(m.kd==2)=true:=by simp[hk]
 obtain⟨HD,d8,e8,c7,e0⟩:=Yf hd hl ht (Qdu m M) hk;clear hd hl ht hk;obtain⟨r,hr⟩:∃r,stepM m M=r:=⟨_,rfl⟩;rw[hr];obtain⟨f1,HR⟩:=Yb (show r.1≠0->r.2=M fromλh=>by rw[<-hr]at h ⊢;exact Qcb h) hr;clear hr;go_enter_defers func131,ntmps131;go_upto_region 1 with fail;generalize d4:World.alloc _ _=W0;obtain⟨b4,c6,b3,d3,I⟩:=Qal w _ _ _ _ _ _ W0 d4;have c2:W0.cell? w=some (.pointer (some O)):=b3.cell 0;have a4:=QdB (h.ov.nw (gj b4));obtain⟨e3,b9,b8,b7,d6,b6,HH⟩:=Yh a4 b4 b3 d3 I c6 h;obtain⟨e4,e7,HM,HL⟩:=Ye hH hG hm hL;clear d4 b4 c6 b3 d3 I a4 h hH hG hm hL;go_wp2_with fail;refine e3.o.mono ?_;rintro e w1 ⟨rfl,a1⟩;go_upto_region 2 with fail;have Z:=(gh w1).alloc #[.int .i64 (d.us.length:Int)] 3;have a9:=gm w1 3 #[.int .i64 (d.us.length:Int)];have a8:(w1.alloc (.cells #[.int .i64 (d.us.length:Int)] 3)).heap.size=w1.heap.size+1:=eK _ _;generalize d7:World.alloc _ _=W2 at Z a9 a8 ⊢;obtain⟨a0,a3,c0,N,d5,HZ⟩:=Yg ((b9.o.trans a1).trans Z) ((b8.o.ext a1).ext Z) ((b7.o.ext a1).ext Z) ((d6.o.ext a1).ext Z) a9 (show w.heap.size+3<=w1.heap.size/\W2.heap.size=w1.heap.size+1 from⟨by rw[<-b6.o];exact a1.size,a8⟩);obtain⟨c8,b0⟩:=Yb (gC c0.o) (HH.o.boxes (gj a0.o));clear d7 a1 Z a9 a8 c2 b9 b8 b7 d6 b6;have k0:=c8.o.kind;go_upto_region 4 with fail;have b5:stepM m M=if(Qaq M m.k).isSome then(0,QbM M m.k)else(12,M):=by
  obtain⟨kd,k,tk,i,f2,e6,f3,v,l⟩:=m;have hk:kd=2:=e0.o;subst hk;rw[stepM];rfl
 have b1:=c8.o.c1;have b2:W2.cell? w=some (.pointer (some O)):=a3.o.cell 0;have c9:RMu W2 (Lt W2) m c:=(HM.o.agree (a0.o.agree λb hb=>hb.1)).mono λb hb=>ab hb.1 a0.o.size
 have a7:=Qvk (k:=m.k) b0.o (λb hb=>hb.elim (λe=>ab (e4.o b e) a0.o.size) λe=>e.2) (by have:=HD.o;have:=c7.o;omega) d8.o c9.parts.2.2.1;rw[HR.o]at b5;obtain⟨a6,c3⟩:=Yb b5 a7;clear a7 c9 b5;go_wp2_with fail;refine c3.o.mono ?_;rintro e w3 ⟨rfl,d1,hg⟩;have HG:=hY (hg.more (m:=Qb8 m M) (by have:=c7.o;omega));clear hg k0;rcases aY (Qaq M m.k).isSome with hi|hi
 ·have hs:=a6.o
  rw[eH hi]at hs;subst hs;rw[hi];clear hi a6;have I:=HG.o.go.sb.blk N.o (λe=>by have:=HH.o.ov.Qbe e;omega);have c4:w3.cell? ⟨w+1+1,0,none⟩=some (.int .i64 0):=I.cell 0;have f4:=I.frozen 0;clear I;go_wp2_with fail;refine fp (f:=165) (args:=#[.pointer (some ⟨w+1+1,0,none⟩),.pointer (some w),.pointer (some w1)]) oO (by simp[go_sem]) ?_;refine(Qco (code:=0) (gj a0.o) b0.o (λb e=>HH.o.ov.Qbe e) HG.o (by have:=HG.o.few;have:=HD.o;omega) N.o a3.o d5.o oM oM (by have:=HZ.o;omega) oM (by have:=HZ.o;omega)).mono ?_;rintro e u' a2 ⟨rfl,rfl,hb,d2,hg⟩;have q4:a2.cell? ⟨w+1+1,0,none⟩=some (.int .i64 0):=hb.cell 0;have a5:=(show ∃d',GoX H w O d (QbM M m.k) (noB 0 (Qb8 m M)) a2 d' from⟨d2,hg⟩);clear hb hg;simp[Leaves,settle,results,results131,go_sem,q4,a5]
 have hs:=a6.o;rw[eE (by rw[hi];decide)]at hs;subst hs;rw[hi];clear hi a6;have I:=HG.o.go.sb.blk N.o (λe=>by have:=HH.o.ov.Qbe e;omega);have c4:w3.cell? ⟨w+1+1,0,none⟩=some (.int .i64 0):=I.cell 0;have f4:=I.frozen 0;clear I;go_wp2_with fail;refine fp (f:=165) (args:=#[.pointer (some ⟨w+1+1,0,none⟩),.pointer (some w),.pointer (some w1)]) oO (by simp[go_sem]) ?_;refine(Qco (code:=12) (gj a0.o) b0.o (λb e=>HH.o.ov.Qbe e) HG.o (by have:=HG.o.few;have:=HD.o;omega) N.o a3.o d5.o oM oM (by have:=HZ.o;omega) oM (by have:=HZ.o;omega)).mono ?_;rintro e u' a2 ⟨rfl,rfl,hb,d2,hg⟩;have q4:a2.cell? ⟨w+1+1,0,none⟩=some (.int .i64 12):=hb.cell 0;have a5:=(show ∃d',GoX H w O d M (noB 12 (Qb8 m M)) a2 d' from⟨d2,hg⟩);clear hb hg;simp[Leaves,settle,results,results131,go_sem,q4,a5]
theorem Qo2{m:Mu}(h:OvX H w O d M)(hH:∀b,H b->b<w.heap.size)(hG:∀b,b<6->H b)(hm:RMu w (λb=>b<w/\¬OvB O d b) m c)(hL:Qb4 w)
  (hd:d.us.length+Qb8 m M<=1000000) (hl:(Qaa d.T).length<=1000000) (ht:QcC m<=1000000) (hk:m.kd=3) :
  Calls prog 131 #[.pointer (some O),Qaz m c] w λe w'=>e=.returned (.int .i64 (stepM m M).1)/\∃d',GoX H w O d (stepM m M).2 (noB (stepM m M).1 (Qb8 m M)) w' d':=by
 have f3:∀(fn:Fn) (first c8:Array Value) (w:World),(Instr.makeFunc fn first c8).run prog w=.ok (.func fn first c8) w:=λ_ _ _ _=>rfl
 have e1:(m.kd==1)=false:=by simp[hk]
 have e2:(m.kd==2)=false:=by simp[hk]
 have e3:(m.kd==3)=true:=by simp[hk]
 obtain⟨HD,d7,f2,c6,d8⟩:=Yf hd hl ht (Qdu m M) hk;clear hd hl ht hk;obtain⟨r,hr⟩:∃r,stepM m M=r:=⟨_,rfl⟩;rw[hr];obtain⟨e0,HR⟩:=Yb (show r.1≠0->r.2=M fromλh=>by rw[<-hr]at h ⊢;exact Qcb h) hr;clear hr;go_enter_defers func131,ntmps131;go_upto_region 1 with fail;generalize d0:World.alloc _ _=W0;obtain⟨b0,c0,a9,c9,Z⟩:=Qal w _ _ _ _ _ _ W0 d0;have c2:W0.cell? w=some (.pointer (some O)):=a9.cell 0;have a3:=QdB (h.ov.nw (gj b0));obtain⟨e6,b7,b6,b5,d4,b4,HH⟩:=Yh a3 b0 a9 c9 Z c0 h;obtain⟨e7,f1,HM,HL⟩:=Ye hH hG hm hL;clear d0 b0 c0 a9 c9 Z a3 h hH hG hm hL;go_wp2_with fail;refine e6.o.mono ?_;rintro e w1 ⟨rfl,a0⟩;go_upto_region 2 with fail;have I:=(gh w1).alloc #[.int .i64 (d.us.length:Int)] 3;have a7:=gm w1 3 #[.int .i64 (d.us.length:Int)];have a6:(w1.alloc (.cells #[.int .i64 (d.us.length:Int)] 3)).heap.size=w1.heap.size+1:=eK _ _;generalize d5:World.alloc _ _=W2 at I a7 a6 ⊢;obtain⟨N,a5,b8,a4,e4,HZ⟩:=Yg ((b7.o.trans a0).trans I) ((b6.o.ext a0).ext I) ((b5.o.ext a0).ext I) ((d4.o.ext a0).ext I) a7 (show w.heap.size+3<=w1.heap.size/\W2.heap.size=w1.heap.size+1 from⟨by rw[<-b4.o];exact a0.size,a6⟩);obtain⟨a2,c3⟩:=Yb (gC b8.o) (HH.o.boxes (gj N.o));clear d5 a0 I a7 a6 c2 b7 b6 b5 d4 b4;have k0:=a2.o.kind;go_upto_region 4 with fail;have d3:stepM m M=Qeb M m.k m.i:=by
  obtain⟨kd,k,tk,i,f5,e8,f6,v,l⟩:=m;have hk:kd=3:=d8.o;subst hk;rw[stepM];rfl
 obtain⟨v0,v1,v2,v3,v4,v5⟩:=a2.o.v6;have b1:=a2.o.c1;have f0:=a2.o.c2;have b3:W2.cell? ⟨w+1,3,none⟩=some (.int .i64 m.i):=a2.o 3 _ rfl;have b2:W2.cell? w=some (.pointer (some O)):=a5.o.cell 0;have a8:RMu W2 (Lt W2) m c:=(HM.o.agree (N.o.agree λb hb=>hb.1)).mono λb hb=>ab hb.1 N.o.size
 have a1:=Qte (k:=m.k) (by_:=m.i) c3.o (λb hb=>hb.elim (λe=>ab (e7.o b e) N.o.size) λe=>e.2) (by have:=HD.o;have:=c6.o;omega) d7.o a8.parts.2.2.1 a8.parts.2.2.2.2 (HL.o.nw (gj N.o));rw[<-d3,HR.o]at a1;clear d3;have b9:=hY a1;clear a1 a8;go_wp2_with fail;refine b9.o.mono ?_;rintro e w3 ⟨rfl,d1,hg⟩;have HG:=hY (hg.more (m:=Qb8 m M) (by have:=c6.o;omega));have Z:=hg.go.sb.blk a4.o (λe=>by have:=HH.o.ov.Qbe e;omega);have c4:w3.cell? ⟨w+1+1,0,none⟩=some (.int .i64 0):=Z.cell 0;have f4:=Z.frozen 0;clear hg Z k0;go_wp2_with fail;refine fp (f:=165) (args:=#[.pointer (some ⟨w+1+1,0,none⟩),.pointer (some w),.pointer (some w1)]) oO (by simp[go_sem]) ?_;refine(Qco (code:=r.1) (gj N.o) c3.o (λb e=>HH.o.ov.Qbe e) HG.o (by have:=HG.o.few;have:=HD.o;omega) a4.o a5.o e4.o oM oM (by have:=HZ.o;omega) oM (by have:=HZ.o;omega)).mono ?_;rintro e u' d6 ⟨rfl,rfl,hb,d2,hg⟩;have q4:d6.cell? ⟨w+1+1,0,none⟩=some (.int .i64 r.1):=hb.cell 0;have c7:=Qjv (r:=r) e0.o hg;clear hb hg;simp[Leaves,settle,results,results131,go_sem,q4,c7]
theorem Qo3{m:Mu}(h:OvX H w O d M)(hH:∀b,H b->b<w.heap.size)(hG:∀b,b<6->H b)(hm:RMu w (λb=>b<w/\¬OvB O d b) m c)(hL:Qb4 w)
  (hd:d.us.length+Qb8 m M<=1000000) (hl:(Qaa d.T).length<=1000000) (ht:QcC m<=1000000) (hk:m.kd=4) :
  Calls prog 131 #[.pointer (some O),Qaz m c] w λe w'=>e=.returned (.int .i64 (stepM m M).1)/\∃d',GoX H w O d (stepM m M).2 (noB (stepM m M).1 (Qb8 m M)) w' d':=by
 have f5:∀(fn:Fn) (first c8:Array Value) (w:World),(Instr.makeFunc fn first c8).run prog w=.ok (.func fn first c8) w:=λ_ _ _ _=>rfl
 have e1:(m.kd==1)=false:=by simp[hk]
 have e2:(m.kd==2)=false:=by simp[hk]
 have e3:(m.kd==3)=false:=by simp[hk]
 have e4:(m.kd==4)=true:=by simp[hk]
 obtain⟨HD,d7,e0,c3,d8⟩:=Yf hd hl ht (Qdu m M) hk;clear hd hl ht hk;obtain⟨r,hr⟩:∃r,stepM m M=r:=⟨_,rfl⟩;rw[hr];obtain⟨e6,HR⟩:=Yb (show r.1≠0->r.2=M fromλh=>by rw[<-hr]at h ⊢;exact Qcb h) hr;clear hr;go_enter_defers func131,ntmps131;go_upto_region 1 with fail;generalize d0:World.alloc _ _=W0;obtain⟨a9,b9,a8,c9,Z⟩:=Qal w _ _ _ _ _ _ W0 d0;have c2:W0.cell? w=some (.pointer (some O)):=a8.cell 0;have a3:=QdB (h.ov.nw (gj a9));obtain⟨e8,b6,b5,b4,d4,b0,HH⟩:=Yh a3 a9 a8 c9 Z b9 h;obtain⟨f0,f3,HM,HL⟩:=Ye hH hG hm hL;clear d0 a9 b9 a8 c9 Z a3 h hH hG hm hL;go_wp2_with fail;refine e8.o.mono ?_;rintro e w1 ⟨rfl,a0⟩;go_upto_region 2 with fail;have I:=(gh w1).alloc #[.int .i64 (d.us.length:Int)] 3;have a7:=gm w1 3 #[.int .i64 (d.us.length:Int)];have a6:(w1.alloc (.cells #[.int .i64 (d.us.length:Int)] 3)).heap.size=w1.heap.size+1:=eK _ _;generalize d5:World.alloc _ _=W2 at I a7 a6 ⊢;obtain⟨N,a5,b7,a4,e7,HZ⟩:=Yg ((b6.o.trans a0).trans I) ((b5.o.ext a0).ext I) ((b4.o.ext a0).ext I) ((d4.o.ext a0).ext I) a7 (show w.heap.size+3<=w1.heap.size/\W2.heap.size=w1.heap.size+1 from⟨by rw[<-b0.o];exact a0.size,a6⟩);obtain⟨a1,c0⟩:=Yb (gC b7.o) (HH.o.boxes (gj N.o));clear d5 a0 I a7 a6 c2 b6 b5 b4 d4 b0;have k0:=a1.o.kind;go_upto_region 4 with fail;have d3:stepM m M=Qt9 M m:=by
  obtain⟨kd,k,tk,i,f6,f1,f7,v,l⟩:=m;have hk:kd=4:=d8.o;subst hk;rw[stepM];rfl
 obtain⟨v0,v1,v2,v3,v4,v5⟩:=a1.o.v6;have b1:=a1.o.c1;have f2:=a1.o.c2;have b3:W2.cell? ⟨w+1,3,none⟩=some (.int .i64 m.i):=a1.o 3 _ rfl;have b2:W2.cell? w=some (.pointer (some O)):=a5.o.cell 0;have c6:RMu W2 (Lt W2) m c:=(HM.o.agree (N.o.agree λb hb=>hb.1)).mono λb hb=>ab hb.1 N.o.size
 have a2:=QsY (m:=m) (c:=c) c0.o (λb hb=>hb.elim (λe=>ab (f0.o b e) N.o.size) λe=>e.2) (by have:=HD.o;have:=c3.o;omega) d7.o c6 (by have:=e0.o;omega) (HL.o.nw (gj N.o));rw[<-d3,HR.o]at a2;clear d3;have b8:=hY a2;clear a2 c6;go_wp2_with(refine Qah rfl (.tmp 3) rfl (w.heap.size+1) 0 rfl m c a1.o ?_);refine b8.o.mono ?_;rintro e w3 ⟨rfl,d1,hg⟩;have HG:=hY (hg.more (m:=Qb8 m M) (by have:=c3.o;omega));have Z:=hg.go.sb.blk a4.o (λe=>by have:=HH.o.ov.Qbe e;omega);have c4:w3.cell? ⟨w+1+1,0,none⟩=some (.int .i64 0):=Z.cell 0;have f4:=Z.frozen 0;clear hg Z k0;go_wp2_with fail;refine fp (f:=165) (args:=#[.pointer (some ⟨w+1+1,0,none⟩),.pointer (some w),.pointer (some w1)]) oO (by simp[go_sem]) ?_;refine(Qco (code:=r.1) (gj N.o) c0.o (λb e=>HH.o.ov.Qbe e) HG.o (by have:=HG.o.few;have:=HD.o;omega) a4.o a5.o e7.o oM oM (by have:=HZ.o;omega) oM (by have:=HZ.o;omega)).mono ?_;rintro e u' d6 ⟨rfl,rfl,hb,d2,hg⟩;have q4:d6.cell? ⟨w+1+1,0,none⟩=some (.int .i64 r.1):=hb.cell 0;have c7:=Qjv (r:=r) e6.o hg;clear hb hg;simp[Leaves,settle,results,results131,go_sem,q4,c7]
theorem Qo4{m:Mu}(h:OvX H w O d M)(hH:∀b,H b->b<w.heap.size)(hG:∀b,b<6->H b)(hm:RMu w (λb=>b<w/\¬OvB O d b) m c)(hL:Qb4 w)
  (hd:d.us.length+Qb8 m M<=1000000) (hl:(Qaa d.T).length<=1000000) (ht:QcC m<=1000000) (hk:m.kd=5) :
  Calls prog 131 #[.pointer (some O),Qaz m c] w λe w'=>e=.returned (.int .i64 (stepM m M).1)/\∃d',GoX H w O d (stepM m M).2 (noB (stepM m M).1 (Qb8 m M)) w' d':=by
 have f5:∀(fn:Fn) (first c8:Array Value) (w:World),(Instr.makeFunc fn first c8).run prog w=.ok (.func fn first c8) w:=λ_ _ _ _=>rfl
 have e1:(m.kd==1)=false:=by simp[hk]
 have e2:(m.kd==2)=false:=by simp[hk]
 have e3:(m.kd==3)=false:=by simp[hk]
 have e4:(m.kd==4)=false:=by simp[hk]
 have e5:(m.kd==5)=true:=by simp[hk]
 obtain⟨HD,d7,e0,c6,d8⟩:=Yf hd hl ht (Qdu m M) hk;clear hd hl ht hk;obtain⟨r,hr⟩:∃r,stepM m M=r:=⟨_,rfl⟩;rw[hr];obtain⟨e6,HR⟩:=Yb (show r.1≠0->r.2=M fromλh=>by rw[<-hr]at h ⊢;exact Qcb h) hr;clear hr;go_enter_defers func131,ntmps131;go_upto_region 1 with fail;generalize d0:World.alloc _ _=W0;obtain⟨b0,c0,a9,c9,Z⟩:=Qal w _ _ _ _ _ _ W0 d0;have c2:W0.cell? w=some (.pointer (some O)):=a9.cell 0;have a3:=QdB (h.ov.nw (gj b0));obtain⟨e8,b7,b6,b5,d4,b4,HH⟩:=Yh a3 b0 a9 c9 Z c0 h;obtain⟨f0,f3,HM,HL⟩:=Ye hH hG hm hL;clear d0 b0 c0 a9 c9 Z a3 h hH hG hm hL;go_wp2_with fail;refine e8.o.mono ?_;rintro e w1 ⟨rfl,a0⟩;go_upto_region 2 with fail;have I:=(gh w1).alloc #[.int .i64 (d.us.length:Int)] 3;have a7:=gm w1 3 #[.int .i64 (d.us.length:Int)];have a6:(w1.alloc (.cells #[.int .i64 (d.us.length:Int)] 3)).heap.size=w1.heap.size+1:=eK _ _;generalize d5:World.alloc _ _=W2 at I a7 a6 ⊢;obtain⟨N,a5,b8,a4,e7,HZ⟩:=Yg ((b7.o.trans a0).trans I) ((b6.o.ext a0).ext I) ((b5.o.ext a0).ext I) ((d4.o.ext a0).ext I) a7 (show w.heap.size+3<=w1.heap.size/\W2.heap.size=w1.heap.size+1 from⟨by rw[<-b4.o];exact a0.size,a6⟩);obtain⟨a2,c3⟩:=Yb (gC b8.o) (HH.o.boxes (gj N.o));clear d5 a0 I a7 a6 c2 b7 b6 b5 d4 b4;have k0:=a2.o.kind;go_upto_region 4 with fail;have d3:stepM m M=Qq1 M m.k m.v:=by
  obtain⟨kd,k,tk,i,f6,f1,f7,v,l⟩:=m;have hk:kd=5:=d8.o;subst hk;rw[stepM];rfl
 obtain⟨v0,v1,v2,v3,v4,v5⟩:=a2.o.v6;have b1:=a2.o.c1;have f2:=a2.o.c2;have b3:W2.cell? ⟨w+1,3,none⟩=some (.int .i64 m.i):=a2.o 3 _ rfl;have b2:W2.cell? w=some (.pointer (some O)):=a5.o.cell 0;have a8:RMu W2 (Lt W2) m c:=(HM.o.agree (N.o.agree λb hb=>hb.1)).mono λb hb=>ab hb.1 N.o.size
 have a1:=QmV (k:=m.k) c3.o (λb hb=>hb.elim (λe=>ab (f0.o b e) N.o.size) λe=>e.2) (by have:=HD.o;have:=c6.o;omega) d7.o a8.parts.2.2.1 a8.parts.2.1 (ak (Qkz m).1 (by have:=e0.o;omega)) (HL.o.nw (gj N.o));rw[<-d3,HR.o]at a1;clear d3;have b9:=hY a1;clear a1 a8;go_wp2_with fail;refine b9.o.mono ?_;rintro e w3 ⟨rfl,d1,hg⟩;have HG:=hY (hg.more (m:=Qb8 m M) (by have:=c6.o;omega));have Z:=hg.go.sb.blk a4.o (λe=>by have:=HH.o.ov.Qbe e;omega);have c4:w3.cell? ⟨w+1+1,0,none⟩=some (.int .i64 0):=Z.cell 0;have f4:=Z.frozen 0;clear hg Z k0;go_wp2_with fail;refine fp (f:=165) (args:=#[.pointer (some ⟨w+1+1,0,none⟩),.pointer (some w),.pointer (some w1)]) oO (by simp[go_sem]) ?_;refine(Qco (code:=r.1) (gj N.o) c3.o (λb e=>HH.o.ov.Qbe e) HG.o (by have:=HG.o.few;have:=HD.o;omega) a4.o a5.o e7.o oM oM (by have:=HZ.o;omega) oM (by have:=HZ.o;omega)).mono ?_;rintro e u' d6 ⟨rfl,rfl,hb,d2,hg⟩;have q4:d6.cell? ⟨w+1+1,0,none⟩=some (.int .i64 r.1):=hb.cell 0;have c7:=Qjv (r:=r) e6.o hg;clear hb hg;simp[Leaves,settle,results,results131,go_sem,q4,c7]
theorem Qo5{m:Mu}(h:OvX H w O d M)(hH:∀b,H b->b<w.heap.size)(hG:∀b,b<6->H b)(hm:RMu w (λb=>b<w/\¬OvB O d b) m c)(hL:Qb4 w)
  (hd:d.us.length+Qb8 m M<=1000000) (hl:(Qaa d.T).length<=1000000) (ht:QcC m<=1000000) (hk:m.kd=6) :
  Calls prog 131 #[.pointer (some O),Qaz m c] w λe w'=>e=.returned (.int .i64 (stepM m M).1)/\∃d',GoX H w O d (stepM m M).2 (noB (stepM m M).1 (Qb8 m M)) w' d':=by
 have f6:∀(fn:Fn) (first c8:Array Value) (w:World),(Instr.makeFunc fn first c8).run prog w=.ok (.func fn first c8) w:=λ_ _ _ _=>rfl
 have e1:(m.kd==1)=false:=by simp[hk]
 have e2:(m.kd==2)=false:=by simp[hk]
 have e3:(m.kd==3)=false:=by simp[hk]
 have e4:(m.kd==4)=false:=by simp[hk]
 have e5:(m.kd==5)=false:=by simp[hk]
 have e6:(m.kd==6)=true:=by simp[hk]
 obtain⟨HD,d7,e7,c3,d8⟩:=Yf hd hl ht (Qdu m M) hk;clear hd hl ht hk;obtain⟨r,hr⟩:∃r,stepM m M=r:=⟨_,rfl⟩;rw[hr];obtain⟨e8,HR⟩:=Yb (show r.1≠0->r.2=M fromλh=>by rw[<-hr]at h ⊢;exact Qcb h) hr;clear hr;go_enter_defers func131,ntmps131;go_upto_region 1 with fail;generalize d0:World.alloc _ _=W0;obtain⟨a9,b9,a8,c9,Z⟩:=Qal w _ _ _ _ _ _ W0 d0;have c2:W0.cell? w=some (.pointer (some O)):=a8.cell 0;have a3:=QdB (h.ov.nw (gj a9));obtain⟨f1,b6,b5,b4,d4,b0,HH⟩:=Yh a3 a9 a8 c9 Z b9 h;obtain⟨f2,e0,HM,HL⟩:=Ye hH hG hm hL;clear d0 a9 b9 a8 c9 Z a3 h hH hG hm hL;go_wp2_with fail;refine f1.o.mono ?_;rintro e w1 ⟨rfl,a0⟩;go_upto_region 2 with fail;have I:=(gh w1).alloc #[.int .i64 (d.us.length:Int)] 3;have a7:=gm w1 3 #[.int .i64 (d.us.length:Int)];have a6:(w1.alloc (.cells #[.int .i64 (d.us.length:Int)] 3)).heap.size=w1.heap.size+1:=eK _ _;generalize d5:World.alloc _ _=W2 at I a7 a6 ⊢;obtain⟨N,a5,b7,a4,f0,HZ⟩:=Yg ((b6.o.trans a0).trans I) ((b5.o.ext a0).ext I) ((b4.o.ext a0).ext I) ((d4.o.ext a0).ext I) a7 (show w.heap.size+3<=w1.heap.size/\W2.heap.size=w1.heap.size+1 from⟨by rw[<-b0.o];exact a0.size,a6⟩);obtain⟨a2,c0⟩:=Yb (gC b7.o) (HH.o.boxes (gj N.o));clear d5 a0 I a7 a6 c2 b6 b5 b4 d4 b0;have k0:=a2.o.kind;go_upto_region 4 with fail;have d3:stepM m M=QgM M m.k m.tk:=by
  obtain⟨kd,k,tk,i,f7,f3,f8,v,l⟩:=m;have hk:kd=6:=d8.o;subst hk;rw[stepM];rfl
 obtain⟨v0,v1,v2,v3,v4,v5⟩:=a2.o.v6;have b1:=a2.o.c1;have f5:=a2.o.c2;have b3:W2.cell? ⟨w+1,3,none⟩=some (.int .i64 m.i):=a2.o 3 _ rfl;have b2:W2.cell? w=some (.pointer (some O)):=a5.o.cell 0;have c6:RMu W2 (Lt W2) m c:=(HM.o.agree (N.o.agree λb hb=>hb.1)).mono λb hb=>ab hb.1 N.o.size
 have a1:=QrV (f:=m.k) (t:=m.tk) c0.o (λb hb=>hb.elim (λe=>ab (f2.o b e) N.o.size) λe=>e.2) (by have:=HD.o;have:=c3.o;omega) d7.o c6.parts.2.2.1 (ak (QtP m) (by have:=e7.o;omega)) (HL.o.nw (gj N.o)) (λb hb=>.inl (e0.o b hb));rw[<-d3,HR.o]at a1;clear d3;have b8:=hY a1;clear a1 c6;go_wp2_with fail;refine b8.o.mono ?_;rintro e w3 ⟨rfl,d1,hg⟩;have HG:=hY (hg.more (m:=Qb8 m M) (by have:=c3.o;omega));have Z:=hg.go.sb.blk a4.o (λe=>by have:=HH.o.ov.Qbe e;omega);have c4:w3.cell? ⟨w+1+1,0,none⟩=some (.int .i64 0):=Z.cell 0;have f4:=Z.frozen 0;clear hg Z k0;go_wp2_with fail;refine fp (f:=165) (args:=#[.pointer (some ⟨w+1+1,0,none⟩),.pointer (some w),.pointer (some w1)]) oO (by simp[go_sem]) ?_;refine(Qco (code:=r.1) (gj N.o) c0.o (λb e=>HH.o.ov.Qbe e) HG.o (by have:=HG.o.few;have:=HD.o;omega) a4.o a5.o f0.o oM oM (by have:=HZ.o;omega) oM (by have:=HZ.o;omega)).mono ?_;rintro e u' d6 ⟨rfl,rfl,hb,d2,hg⟩;have q4:d6.cell? ⟨w+1+1,0,none⟩=some (.int .i64 r.1):=hb.cell 0;have c7:=Qjv (r:=r) e8.o hg;clear hb hg;simp[Leaves,settle,results,results131,go_sem,q4,c7]
theorem Qo7{m:Mu}(h:OvX H w O d M)(hH:∀b,H b->b<w.heap.size)(hG:∀b,b<6->H b)(hm:RMu w (λb=>b<w/\¬OvB O d b) m c)(hL:Qb4 w)
  (hd:d.us.length+Qb8 m M<=1000000) (hl:(Qaa d.T).length<=1000000) (ht:QcC m<=1000000) (I:m.kd≠1/\m.kd≠2/\m.kd≠3/\m.kd≠4/\m.kd≠5/\m.kd≠6/\m.kd≠7) :
  Calls prog 131 #[.pointer (some O),Qaz m c] w λe w'=>e=.returned (.int .i64 (stepM m M).1)/\∃d',GoX H w O d (stepM m M).2 (noB (stepM m M).1 (Qb8 m M)) w' d':=by
 have e8:∀(fn:Fn) (first c0:Array Value) (w:World),(Instr.makeFunc fn first c0).run prog w=.ok (.func fn first c0) w:=λ_ _ _ _=>rfl
 have e1:(m.kd==1)=false:=eJ.2 I.1;have e2:(m.kd==2)=false:=eJ.2 I.2.1;have e3:(m.kd==3)=false:=eJ.2 I.2.2.1;have e4:(m.kd==4)=false:=eJ.2 I.2.2.2.1;have e5:(m.kd==5)=false:=eJ.2 I.2.2.2.2.1;have e6:(m.kd==6)=false:=eJ.2 I.2.2.2.2.2.1;have e7:(m.kd==7)=false:=eJ.2 I.2.2.2.2.2.2;obtain⟨HD,d6,e0,d7,c8⟩:=Yf hd hl ht (Qdu m M) I;clear hd hl ht I;obtain⟨r,hr⟩:∃r,stepM m M=r:=⟨_,rfl⟩;rw[hr];obtain⟨f0,HR⟩:=Yb (show r.1≠0->r.2=M fromλh=>by rw[<-hr]at h ⊢;exact Qcb h) hr;clear hr;go_enter_defers func131,ntmps131;go_upto_region 1 with fail;generalize c3:World.alloc _ _=W0;obtain⟨a5,b6,a4,c1,b4⟩:=Qal w _ _ _ _ _ _ W0 c3;have c2:W0.cell? w=some (.pointer (some O)):=a4.cell 0;have a1:=QdB (h.ov.nw (gj a5));obtain⟨d4,b3,b0,a7,c6,a6,HH⟩:=Yh a1 a5 a4 c1 b4 b6 h;obtain⟨f3,d8,HM,HL⟩:=Ye hH hG hm hL;clear c3 a5 b6 a4 c1 b4 a1 h hH hG hm hL;go_wp2_with fail;refine d4.o.mono ?_;rintro e w1 ⟨rfl,Z⟩;go_upto_region 2 with fail;have N:=(gh w1).alloc #[.int .i64 (d.us.length:Int)] 3;have a3:=gm w1 3 #[.int .i64 (d.us.length:Int)];have a2:(w1.alloc (.cells #[.int .i64 (d.us.length:Int)] 3)).heap.size=w1.heap.size+1:=eK _ _;generalize c7:World.alloc _ _=W2 at N a3 a2 ⊢;obtain⟨a9,b8,b5,a0,d0,HZ⟩:=Yg ((b3.o.trans Z).trans N) ((b0.o.ext Z).ext N) ((a7.o.ext Z).ext N) ((c6.o.ext Z).ext N) a3 (show w.heap.size+3<=w1.heap.size/\W2.heap.size=w1.heap.size+1 from⟨by rw[<-a6.o];exact Z.size,a2⟩);obtain⟨c9,b7⟩:=Yb (gC b5.o) (HH.o.boxes (gj a9.o));clear c7 Z N a3 a2 c2 b3 b0 a7 c6 a6;have k0:=c9.o.kind;go_upto_region 4 with fail;have d3:r=(9,M):=by
  rw[<-HR.o];obtain⟨kd,k,tk,i,f1,d5,f2,v,l⟩:=m;have I:kd≠1/\kd≠2/\kd≠3/\kd≠4/\kd≠5/\kd≠6/\kd≠7:=c8.o;rw[stepM,eE I.1,eE I.2.1,eE I.2.2.1,eE I.2.2.2.1,eE I.2.2.2.2.1,eE I.2.2.2.2.2.1,eE I.2.2.2.2.2.2]
 subst d3;have HG:=hY (b7.o.stay (n:=Qb8 m M) (gu _ W2));have c4:W2.cell? ⟨w+1+1,0,none⟩=some (.int .i64 0):=a0.o.cell 0;have f4:=a0.o.frozen 0;go_wp2_with fail;refine fp (f:=165) (args:=#[.pointer (some ⟨w+1+1,0,none⟩),.pointer (some w),.pointer (some w1)]) oO (by simp[go_sem]) ?_;refine(Qco (code:=9) (gj a9.o) b7.o (λb e=>HH.o.ov.Qbe e) HG.o (by have:=HG.o.few;have:=HD.o;omega) a0.o b8.o d0.o oM oM (by have:=HZ.o;omega) oM (by have:=HZ.o;omega)).mono ?_;rintro e u' a8 ⟨rfl,rfl,hb,d2,hg⟩;have q4:a8.cell? ⟨w+1+1,0,none⟩=some (.int .i64 9):=hb.cell 0;have b9:=(show ∃d',GoX H w O d M (noB 9 (Qb8 m M)) a8 d' from⟨d2,hg⟩);clear hb hg;simp[Leaves,settle,results,results131,go_sem,q4,b9]
theorem QtK{l:List Mu}{x:Mu}(h:l[j]? = some x)(M:List Ent):QkQ (l.drop j) M=if(stepM x M).1≠0 then((stepM x M).1,M)else QkQ (l.drop (j+1)) (stepM x M).2:=by
 obtain⟨h1,h2⟩:=ae.1 h;rw[aE h1,h2,QkQ]
def QvM(m:Mu):Prop:=∀(j:Nat) (x:Mu),m.l[j]? = some x->∀(y:MuS) (H:Nat->Prop) (W:World) (O:Nat) (d:OD) (M:List Ent),OvX H W O d M->(∀b,H b->b<W.heap.size)->(∀b,b<6->H b)->RMu W (λb=>b<W.heap.size/\¬OvB O d b) x y->Qb4 W->
 d.us.length+Qb8 x M<=1000000->(Qaa d.T).length<=1000000->QcC x<=1000000->
 Calls prog 131 #[.pointer (some ⟨O,0,none⟩),Qaz x y] W λe w'=>e=.returned (.int .i64 (stepM x M).1)/\∃d',GoX H W O d (stepM x M).2 (Qb8 x M) w' d'
theorem Qo6{m:Mu}(h:OvX H w O d M)(hH:∀b,H b->b<w.heap.size)(hG:∀b,b<6->H b)(hm:RMu w (λb=>b<w.heap.size/\¬OvB O d b) m c)(hL:Qb4 w)
  (hd:d.us.length+Qb8 m M<=1000000) (hl:(Qaa d.T).length<=1000000) (ht:QcC m<=1000000) (hk:m.kd=7) (c7:m.k.size=0->m.had=false)
  (ih:QvM m) :
  Calls prog 131 #[.pointer (some O),Qaz m c] w λe w'=>e=.returned (.int .i64 (stepM m M).1)/\∃d',GoX H w O d (stepM m M).2 (noB (stepM m M).1 (Qb8 m M)) w' d':=by
 have n2:∀(fn:Fn) (first i9:Array Value) (w:World),(Instr.makeFunc fn first i9).run prog w=.ok (.func fn first i9) w:=λ_ _ _ _=>rfl
 have e1:(m.kd==1)=false:=by simp[hk]
 have e2:(m.kd==2)=false:=by simp[hk]
 have e3:(m.kd==3)=false:=by simp[hk]
 have e4:(m.kd==4)=false:=by simp[hk]
 have e5:(m.kd==5)=false:=by simp[hk]
 have e6:(m.kd==6)=false:=by simp[hk]
 have e7:(m.kd==7)=true:=by simp[hk]
 obtain⟨HD,f2,k2,l8,k6,g8,j8⟩:=Yh hd hl ht (Qdu m M) hk c7 ih;clear hd hl ht hk c7 ih;obtain⟨r,hr⟩:∃r,stepM m M=r:=⟨_,rfl⟩;rw[hr];obtain⟨n4,HR⟩:=Yb (show r.1≠0->r.2=M fromλh=>by rw[<-hr]at h ⊢;exact Qcb h) hr;clear hr;go_enter_defers func131,ntmps131;go_upto_region 1 with fail;generalize f7:World.alloc _ _=W0;obtain⟨d4,f3,b5,b6,N⟩:=Qal w _ _ _ _ _ _ W0 f7;have c2:W0.cell? w=some (.pointer (some O)):=b5.cell 0;have b4:=QdB (h.ov.nw (gj d4));obtain⟨k3,f0,g6,g4,f9,e8,HH⟩:=Yh b4 d4 b5 b6 N f3 h;obtain⟨k9,i6,HM,HL⟩:=Ye hH hG hm hL;clear f7 d4 f3 b5 b6 N b4 h hH hG hm hL;go_wp2_with fail;refine k3.o.mono ?_;rintro e w1 ⟨rfl,a7⟩;go_upto_region 2 with fail;have b0:=(gh w1).alloc #[.int .i64 (d.us.length:Int)] 3;have d0:=gm w1 3 #[.int .i64 (d.us.length:Int)];have c9:(w1.alloc (.cells #[.int .i64 (d.us.length:Int)] 3)).heap.size=w1.heap.size+1:=eK _ _;generalize j3:World.alloc _ _=W2 at b0 d0 c9 ⊢;obtain⟨a2,a5,g9,a1,d5,HZ⟩:=Yg ((f0.o.trans a7).trans b0) ((g6.o.ext a7).ext b0) ((g4.o.ext a7).ext b0) ((f9.o.ext a7).ext b0) d0 (show w.heap.size+3<=w1.heap.size/\W2.heap.size=w1.heap.size+1 from⟨by rw[<-e8.o];exact a7.size,c9⟩);obtain⟨c0,a9⟩:=Yb (gC g9.o) (HH.o.boxes (gj a2.o));clear j3 a7 b0 d0 c9 c2 f0 g6 g4 f9 e8;have k0:=c0.o.kind;go_upto_region 4 with fail;go_upto_region 19 with fail;have b8:stepM m M=if asM M m.k m.had m.was then(if(QkQ m.l M).1≠0 then((QkQ m.l M).1,M)else QkQ m.l M)else(13,M):=by
  obtain⟨kd,k,tk,i,l5,l4,n6,v,l⟩:=m;have hk:kd=7:=k6.o;subst hk;rw[stepM];rfl
 rw[HR.o]at b8;have c3:=hY b8;have b1:=c0.o.c1;have b2:W2.cell? w=some (.pointer (some O)):=a5.o.cell 0;have i5:RMu W2 (Lt W2.heap.size) m c:=(HM.o.agree (a2.o.agree λb Z=>Z.1)).mono λb Z=>ab Z.1 a2.o.size
 have d3:=hY (QmC a9.o f2.o i5);clear b8 i5 k0;go_cut [68]from 60 to 68 (λv w'=>v=.bool (!asM M m.k m.had m.was)/\Nw W2 w')
 case first=>
  by_cases a8:m.k.size=0
  ·have g0:=Qa9 a8
   have ha:asM M m.k m.had m.was=true:=by
    have hn:Qaq M m.k=none:=by
     cases hg:Qaq M m.k with
     |none=>rfl
     | some y=>
       have:=(HH.o.rel.ok.get hg).1;unfold Qci at this;rw[eH a8]at this;cases this
    unfold asM;rw[hn,g8.o a8];rfl
   have HA:=hY ha;clear ha a8;go_wp2_with fail;go_meet;exact⟨by rw[HA.o]<;>rfl,gu _ _⟩
  have g0:=Qbr a8;clear a8
  repeat (first |(refine wp_load_mid 37 (.tmp 3) rfl (w.heap.size+1) 0 rfl (Qan m c) _ c0.o.range underlying37 rfl (by rw[QfD];exact Tryz.Qem) ?_)|go_values|go_skip|go_guarded|go_step)
  refine d3.o.mono ?_;rintro e w3 ⟨rfl,i2⟩;have k5:=hY (gj i2);clear i2;go_wp2_with fail;go_meet;exact⟨rfl,k5.o⟩
 obtain⟨hv,hn⟩:=hcut;subst hv;have g3:=hY hn;have N:=hn.blk a1.o;have c4:wc.cell? ⟨w.heap.size+1+1,0,none⟩=some (.int .i64 0):=N.cell 0;have f4:=N.frozen 0;have HC:=hY (c0.o.nw hn);clear hn N b1 b2;rcases aY (asM M m.k m.had m.was)with ha|ha
 rotate_left
 ·have hs:=c3.o
  rw[eE (by rw[ha];decide)]at hs;subst hs;have HG:=hY (a9.o.stay (n:=Qb8 m M) g3.o);rw[show(!asM M m.k m.had m.was)=true by rw[ha];rfl];clear ha;go_wp2_with fail;refine fp (f:=165) (args:=#[.pointer (some ⟨w.heap.size+1+1,0,none⟩),.pointer (some w),.pointer (some w1)]) oO (by simp[go_sem]) ?_;refine(Qco (code:=13) (gj a2.o) a9.o (λb e=>HH.o.ov.Qbe e) HG.o (by have:=HG.o.few;have:=HD.o;omega) a1.o a5.o d5.o oM oM (by have:=HZ.o;omega) oM (by have:=HZ.o;omega)).mono ?_;rintro e u' a4 ⟨rfl,rfl,Z,d2,hg⟩;have q4:a4.cell? ⟨w.heap.size+1+1,0,none⟩=some (.int .i64 13):=Z.cell 0;have a6:=(show ∃d',GoX H w O d M (noB 13 (Qb8 m M)) a4 d' from⟨d2,hg⟩);clear Z hg;simp[Leaves,settle,results,results131,go_sem,q4,a6]
 have hs:=c3.o;rw[eH ha]at hs;have HS:=hY hs;rw[show(!asM M m.k m.had m.was)=false by rw[ha];rfl];have l7:wc.cell? ⟨w.heap.size+1,8+10,none⟩=some (.slice c.s.a m.l.length c.s.c):=HC.o 18 _ rfl;have l2:=HM.o.len;clear hs ha c4 f4;go_wp2_with fail;go_loopw[72] (λk4 wr=>∃(j:Nat) (d1:OD) (M1:List Ent),k4=.int .i64 (j:Int)/\j<=m.l.length/\Yd (GoX (HB H w.heap.size W2.heap.size) W2 O d M1 (QaF (m.l.take j)*(2*(M.length+Qa0 m)+1)) wr d1)/\Yd (QkQ (m.l.drop j) M1=QkQ m.l M)/\Yd (M1.length<=M.length+QaF (m.l.take j))) (λv _=>m.l.length -(intOf v).toNat)
 case atStart=>exact⟨0,d,M,rfl,aA _,hY (a9.o.stay g3.o),hY rfl,hY (dy _ _)⟩
 obtain⟨j,d1,M1,rfl,hj,a0,i7,j7⟩:=hrel;by_cases i3:j<m.l.length
 ·have l1:(j:Int)<(m.l.length:Int):=oM
  have l9:decide ((j:Int)<(m.l.length:Int))=true:=eI l1;have l0:(0:Int)<=(j:Int):=oM
  obtain⟨x,hx⟩:∃x,m.l[j]? = some x:=⟨_,ac i3⟩;obtain⟨b,o,y,k8,b9,l6,l3,i1,i4⟩:=HM.o.at hx;have j1:=a2.o.size;have a3:Sb (OvB O d) w wr:=((gj a2.o).any _).trans a0.o.go.sb;have g7:=hY (show MuC wr b (o+j*19) x y fromλi u hu=>(a3.cell b9.1 b9.2).trans (i1 i u hu));have n7:b<wr.heap.size:=ab b9.1 a3.size;have f5:=Qde hx;have j5:=QeZ m.l (j+1);have k1:=Qf7 m;have j9:=j7.o;have j6:Qb8 x M1<=Qa0 x*(2*(M.length+Qa0 m)+1):=Nat.mul_le_mul_left _ oM;have b5:QaF (m.l.take (j+1))*(2*(M.length+Qa0 m)+1)=QaF (m.l.take j)*(2*(M.length+Qa0 m)+1)+Qa0 x*(2*(M.length+Qa0 m)+1):=by rw[f5,eB]
  have b6:QaF (m.l.take (j+1))*(2*(M.length+Qa0 m)+1)<=Qb8 m M:=cg _ oM;have b3:=λW (hW:Ext wr W)=>j8.o j x hx y (HB H w.heap.size W2.heap.size) W O d1 M1 (a0.o.at_.nw (gj hW)) (λb Z=>ab (Z.elim (λe=>ab (k9.o b e) j1) λe=>e.2) (ak a0.o.go.sb.size hW.size)) (λb Z=>.inl (i6.o b Z))
   ((i4.agree (λb Z=>(a3.trans ((gj hW).any _)).block b Z.1 Z.2)).mono λb Z=>⟨Nat.lt_of_lt_of_le Z.1 (ak a3.size hW.size),λe=>(a0.o.go.new b e).elim Z.2 λe2=>by have:=Z.1;omega⟩)
   (((HL.o.nw (gj a2.o)).sb a0.o.go.sb (λb Z e=>HH.o.ov.out b e (i6.o b Z))).nw (gj hW)) (by have:=a0.o.few;have:=HD.o;omega) (by rw[a0.o.T];exact f2.o) (ak (Qgb hx) (ak (QsJ m) k2.o))
  obtain⟨e0,c8,j2⟩:=Yc b3 (show QaF (m.l.take j)*(2*(M.length+Qa0 m)+1)+Qb8 x M1<=QaF (m.l.take (j+1))*(2*(M.length+Qa0 m)+1)/\QaF (m.l.take (j+1))*(2*(M.length+Qa0 m)+1)<=Qb8 m M from⟨oM,b6⟩) (show(stepM x M1).2.length<=M.length+QaF (m.l.take (j+1))by have:=Qkv x M1;omega);have I:=i7.o;rw[QtK hx]at I;have c6:=hY I;have b7:=a0.o.go.sb.blk a5.o (λe=>by have:=HH.o.ov.Qbe e;omega);have g5:wr.cell? w=some (.pointer (some O)):=b7.cell 0;have j0:=b7.lt;obtain⟨q,hq⟩:∃q,stepM x M1=q:=⟨_,rfl⟩;have HQ:=hY hq;rw[k8];clear j1 a3 f5 j5 k1 j9 j6 b5 b6 b3 I b7 i4 i1 hx hq b9;go_wp2_with(first |(refine Qah rfl (.tmp 74) rfl b (o+j*19) rfl x y g7.o ?_) |(refine QaR rfl rfl rfl x y (w0:=wr) (b:=wr.heap.size) rfl ((gh wr).alloc _ _) (gm wr _ _) rfl rfl rfl ?_;intro w5 d7 i8;have f6:=hY d7;have j4:=(d7.cell j0).trans g5;have k7:=hY (gC i8);clear d7 i8) |(refine Qah rfl (.tmp 7) rfl wr.heap.size 0 rfl x y k7.o ?_));refine(e0.o _ f6.o).mono ?_;rintro e w6 ⟨rfl,d2,d8⟩;rw[HQ.o]at d8 ⊢;have i0:=hY (a0.o.trans (d8.since (gj f6.o)));clear d8 j4 g5 j0;by_cases h0:q.1=0
  ·have g0:(q.1 == 0)=true:=by simp [h0]
   have I:=c6.o;have d6:=j2.o;rw[HQ.o]at I d6;rw[eE (λh=>h h0)]at I;obtain⟨f1,f8⟩:=Yb I d6;clear I d6 h0;go_wp2_with fail;go_roundw
   case measure=>simp[intOf];omega
   exact⟨j+1,d2,q.2,by go_num,i3,hY (i0.o.more c8.o.1),f1,f8⟩
  have g0:(q.1==0)=false:=eJ.2 h0;have I:=c6.o;rw[HQ.o,eH h0]at I;have hs:=HS.o;rw[<-I,eH h0]at hs;subst hs;have HG:=hY (i0.o.more (m:=Qb8 m M) (ak c8.o.1 c8.o.2));have N:=HG.o.go.sb.blk a1.o (λe=>by have:=HH.o.ov.Qbe e;omega);have c4:w6.cell? ⟨w.heap.size+1+1,0,none⟩=some (.int .i64 0):=N.cell 0;have f4:=N.frozen 0;have H0:=hY h0;clear N I h0;go_wp2_with fail;refine fp (f:=165) (args:=#[.pointer (some ⟨w.heap.size+1+1,0,none⟩),.pointer (some w),.pointer (some w1)]) oO (by simp[go_sem]) ?_;refine(Qco (code:=q.1) (gj a2.o) a9.o (λb e=>HH.o.ov.Qbe e) HG.o (by have:=HG.o.few;have:=HD.o;omega) a1.o a5.o d5.o oM oM (by have:=HZ.o;omega) oM (by have:=HZ.o;omega)).mono ?_;rintro e u' a4 ⟨rfl,rfl,Z,d2,hg⟩;have q4:a4.cell? ⟨w.heap.size+1+1,0,none⟩=some (.int .i64 q.1):=Z.cell 0;have a6:=(show ∃d',GoX H w O d M (noB q.1 (Qb8 m M)) a4 d' from⟨d2,by simp only[if_neg H0.o]at hg;exact hg⟩);clear Z hg;simp[Leaves,settle,results,results131,go_sem,q4,a6]
 obtain rfl:j=m.l.length:=oM
 have l1:decide ((m.l.length:Int)<(m.l.length:Int))=false:=eG oM;have I:=i7.o;rw[cQ,QkQ]at I;have hs:=HS.o;rw[<-I,eE (λh=>h rfl)]at hs;subst hs;have HG:=hY (a0.o.more (m:=Qb8 m M) (by rw[aR];exact cg _ (by rw[Qf7];omega)));have N:=HG.o.go.sb.blk a1.o (λe=>by have:=HH.o.ov.Qbe e;omega);have c4:wr.cell? ⟨w.heap.size+1+1,0,none⟩=some (.int .i64 0):=N.cell 0;have f4:=N.frozen 0;clear N I;go_wp2_with fail;refine fp (f:=165) (args:=#[.pointer (some ⟨w.heap.size+1+1,0,none⟩),.pointer (some w),.pointer (some w1)]) oO (by simp[go_sem]) ?_;refine(Qco (code:=0) (gj a2.o) a9.o (λb e=>HH.o.ov.Qbe e) HG.o (by have:=HG.o.few;have:=HD.o;omega) a1.o a5.o d5.o oM oM (by have:=HZ.o;omega) oM (by have:=HZ.o;omega)).mono ?_;rintro e u' a4 ⟨rfl,rfl,Z,d2,hg⟩;have q4:a4.cell? ⟨w.heap.size+1+1,0,none⟩=some (.int .i64 0):=Z.cell 0;have a6:=(show ∃d',GoX H w O d M1 (noB 0 (Qb8 m M)) a4 d' from⟨d2,hg⟩);clear Z hg;simp[Leaves,settle,results,results131,go_sem,q4,a6]
theorem Qmm{v:Val}(Z:wfV v)(h:Qd9 v=true):QcI v<=7168:=by
 obtain⟨k,b,i,t,l,ok,ov⟩:=v;simp only[Qd9,Val.kind,Val.b,Val.i,Val.t,Val.l,Val.ok,Bool.and_eq_true,beq_iff_eq,Bool.not_eq_true']at h;obtain⟨⟨⟨⟨⟨-,-⟩,-⟩,h1⟩,h2⟩,h3⟩:=h;have I:l=[]:=au h2;have N:ok=[]:=au h3;subst I N;unfold wfV at Z;have h4:ov=[]:=au Z.1.symm;subst h4;rw[QcI,QdR,QfL,h1];decide
theorem QrC{k:ByteArray}(h:Qci k=0):k.size<=64:=by
 unfold Qci at h;split at h
 .cases h
 split at h
 .cases h
 omega
theorem QlR{k:ByteArray}(h:Qol k=true):k.size<=64:=by
 unfold Qol at h;simp only[Bool.and_eq_true,decide_eq_true_eq]at h;exact h.1
variable{F:Nat->Prop}
theorem QrJ{m:Mu}(h:RMu w F m c):∀q,QaS m q=0->QcC m<=14472*Qa0 m:=by
 induction h with
 | @mk kd k tk i had was has v l c bl fl cl rw_ rv hl el rl bk bt bkd bi nl ih=>
   intro q I;rw[QaS]at I;split at I
   .cases I
   rename_i c1;split at I
   .cases I
   split at I
   .cases I
   rename_i c3;split at I
   .rename_i c4;simp only[Bool.and_eq_true,bne_iff_ne]at c4;exact absurd I c4.2
   rename_i c4;split at I
   .rename_i c5;simp only[Bool.and_eq_true,bne_iff_ne]at c5;exact absurd I c5.2
   rename_i c5;have hb:QbJ kd k tk i had was has v l.length=true:=by simpa using c1
   have N:QgF kd k tk had=true:=by simpa using c3
   unfold QbJ at hb;simp only[Bool.and_eq_true]at hb;obtain⟨⟨⟨⟨⟨⟨⟨-,b2⟩,-⟩,-⟩,-⟩,b6⟩,b7⟩,-⟩:=hb;have hk:k.size<=64/\tk.size<=64:=by
    unfold QgF at N;by_cases h6:kd=6
    ·rw [eH h6,bq] at N
     exact⟨QlR N.1,QlR N.2⟩
    rw[eE h6]at N;have ht:tk.size=0:=by simpa[h6]using b2
    by_cases h7:kd=7/\k.size=0
    .omega
    rw[eE h7]at N;have:=QrC (k:=k) (by simpa using N);omega
   have hw:QcI was<=7168:=by
    cases Z:had with
    | true=>
      rw[Z]at c4;have hf:QcP was=0:=by simpa using c4
      exact okV.cnt ⟨rw_.wf,hf⟩
    | false=>
      rw[Z]at b6;exact Qmm rw_.wf (by simpa using b6)
   have hv:QcI v<=7168:=by
    cases Z:QhW kd has with
    | true=>
      rw[Z]at c5;have hf:QcP v=0:=by simpa using c5
      exact okV.cnt ⟨rv.wf,hf⟩
    | false=>
      unfold QhW at Z;rw[Z]at b7;exact Qmm rv.wf (by simpa using b7)
   have a0:∀(l:List Mu) (q:Nat),(∀(j:Nat) (x:Mu),l[j]? = some x->∀q,QaS x q=0->QcC x<=14472*Qa0 x)->Qb5 l q=0->Qcc l<=14472*QaF l:=by
    intro l
    induction l with
    |nil=>intro q _ _;rw[Qcc];omega
    | cons a r ihr=>
      intro q Z I;rw[Qb5]at I;by_cases h0:QaS a q=0
      ·rw [eE (fun e=>e h0)] at I
       have h1:=Z 0 a rfl q h0;have h2:=ihr q (λj x hj=>Z (j+1) x (by simpa using hj)) I;rw[Qcc,QaF];omega
      rw[eH h0]at I;exact absurd I h0
   have:=a0 l (q+1) (λj x hj=>ih j x hj) I;rw[QcC,Qa0];omega
theorem QtQ{m:Mu}(h:RMu w F m c)(I:QbP m=0):QcC m<=1000000:=by
 unfold QbP at I;split at I
 .cases I
 have:=QrJ h 1 I;omega
variable{q:Nat}
theorem QpI{m:Mu}(h:QaS m q=0):QgF m.kd m.k m.tk m.had=true/\Qb5 m.l (q+1)=0:=by
 rw[Qc9]at h;split at h
 .cases h
 split at h
 .cases h
 split at h
 .cases h
 rename_i hk;split at h
 ·rename_i h1
  simp[h]at h1
 split at h
 ·rename_i h1
  simp[h]at h1
 exact⟨by simpa using hk,h⟩
theorem looks_at:∀{l:List Mu} {q j:Nat} {x:Mu},Qb5 l q=0->l[j]? = some x->QaS x q=0
 |[],q,j,x,_,hx=>by simp at hx
 | m :: r,q,0,x,h,hx=>by
   obtain rfl:m=x:=by simpa using hx
   rw[Qb5]at h;by_cases I:QaS m q=0
   .exact I
   rw[eH I]at h;exact h
 | m :: r,q,j+1,x,h,hx=>by
   rw[Qb5]at h;by_cases I:QaS m q=0
   ·rw [eE (fun e=>e I)] at h
    exact looks_at (l:=r) (j:=j) h (by simpa using hx)
   rw[eH I]at h;exact absurd h I
theorem Qs8(n:Nat):∀(m:Mu) (q:Nat),SizeOf.sizeOf m<=n->QaS m q=0->∀(c:MuS) (H:Nat->Prop) (w:World) (O:Nat) (d:OD) (M:List Ent),OvX H w O d M->(∀b,H b->b<w.heap.size)->(∀b,b<6->H b)->RMu w (λb=>b<w/\¬OvB O d b) m c->Qb4 w->
  d.us.length+Qb8 m M<=1000000->(Qaa d.T).length<=1000000->QcC m<=1000000->
  Calls prog 131 #[.pointer (some O),Qaz m c] w λe w'=>e=.returned (.int .i64 (stepM m M).1)/\∃d',GoX H w O d (stepM m M).2 (noB (stepM m M).1 (Qb8 m M)) w' d':=by
 induction n with
 |zero=>intro m q h;have:=Mu.Qb6 m;omega
 | succ n ih=>
   intro m q hn hq c H w O d M h Z hG N I hd hl ht;by_cases k1:m.kd=1
   .exact Qo0 h Z hG N I hd hl ht k1
   by_cases k2:m.kd=2
   .exact Qo1 h Z hG N I hd hl ht k2
   by_cases k3:m.kd=3
   .exact Qo2 h Z hG N I hd hl ht k3
   by_cases k4:m.kd=4
   .exact Qo3 h Z hG N I hd hl ht k4
   by_cases k5:m.kd=5
   .exact Qo4 h Z hG N I hd hl ht k5
   by_cases k6:m.kd=6
   .exact Qo5 h Z hG N I hd hl ht k6
   by_cases k7:m.kd=7
   ·obtain ⟨hk,hs⟩:=QpI hq
    refine Qo6 h Z hG N I hd hl ht k7 (λh0=>?_) λj x hx y H' W O' d' M' h1 h2 h3 h4 h5 h6 h7 h8=>(ih x (q+1) (by have:=Mu.Qsr hx;omega) (looks_at hs hx) y H' W O' d' M' h1 h2 h3 h4 h5 h6 h7 h8).mono λe w' ⟨p1,p2,p3⟩=>⟨p1,p2,p3.more (QsF _ _)⟩
    unfold QgF at hk;rw[eE oM,eH ⟨k7,h0⟩]at hk;simpa using hk
   exact Qo7 h Z hG N I hd hl ht ⟨k1,k2,k3,k4,k5,k6,k7⟩
theorem Qs7{m:Mu}(I:QaS m q=0)(h:OvX H w O d M)(hH:∀b,H b->b<w.heap.size)(Z:∀b,b<6->H b)(hm:RMu w (λb=>b<w/\¬OvB O d b) m c)(hL:Qb4 w)
  (hd:d.us.length+Qb8 m M<=1000000) (hl:(Qaa d.T).length<=1000000) (N:QcC m<=1000000) :
  Calls prog 131 #[.pointer (some O),Qaz m c] w λe w'=>e=.returned (.int .i64 (stepM m M).1)/\∃d',GoX H w O d (stepM m M).2 (noB (stepM m M).1 (Qb8 m M)) w' d':=Qs8 _ m q (ao _) I c H w O d M h hH Z hm hL hd hl N
theorem QrP{m:Mu}(h:QbP m=0):QaS m 1=0:=by
 unfold QbP at h;split at h
 .cases h
 exact h
theorem QtZ{m:Mu}(h:OvX H w O d M)(hH:∀b,H b->b<w.heap.size)(hG:∀b,b<6->H b)(hm:RMu w (λb=>b<w/\¬OvB O d b) m c)(hL:Qb4 w)
  (hd:QbP m=0->d.us.length+Qb8 m M<=1000000) (hl:(Qaa d.T).length<=1000000) (ht:QcC m<=1100000) :
  Calls prog 95 #[.pointer (some O),Qaz m c] w λe w'=>e=.returned (.int .i64 (runM M m).1)/\∃d',GoX H w O d (runM M m).2 (noB (runM M m).1 (Qb8 m M)) w' d':=by
 have a0:∀W,Nw w W->RMu W (λb=>b<W/\¬OvB O d b) m c:=λW N=>(hm.agree (gp N λb hb=>hb.1)).mono λb hb=>⟨Nat.lt_of_lt_of_le hb.1 N.size,hb.2⟩
 have Z:=λW (N:Nw w W)=>QrL ((a0 W N).mono (G:=Lt W) λb hb=>hb.1) ht (hL.nw N)
 have a8:=λ(I:QbP m=0) W (N:Nw w W)=>Qs7 (q:=1) (QrP I) (h.nw N) (λb hb=>ab (hH b hb) N.size) hG (a0 W N) (hL.nw N) (hd I) hl (QtQ hm I)
 obtain⟨r,hr⟩:∃r,runM M m=r:=⟨_,rfl⟩;rw[hr];obtain⟨HR,a2,b3,HH⟩:=Ye hr Z a8 h;clear h hH hG hm hL hd hl ht a0 Z a8 hr;go_in;go_upto_region 1 with fail;generalize a7:World.alloc _ _=W0;obtain⟨a6,a4,a9⟩:=QaB (m:=m) (c:=c) a7;obtain⟨a5,a3⟩:=Yb (gj a6) a4;clear a7 a6 a4 a9;go_wp2_with(refine Qah rfl (.tmp 3) rfl w.heap.size 0 rfl m c a3.o ?_);refine(a2.o _ a5.o).mono ?_;rintro e w1 ⟨rfl,hn⟩;obtain⟨a1,b0⟩:=Yb (a5.o.trans hn) (a3.o.nw hn);clear hn;by_cases I:QbP m=0
 ·have g0:(QbP m == 0)=true:=by simp [I]
  have hs:stepM m M=r:=by rw[<-HR.o];unfold runM;rw[eE (λe=>e I)]
  have hc:=b3.o I w1 a1.o;rw[hs]at hc;have HC:=hY hc;clear I hs hc;go_wp2_with(refine Qah rfl (.tmp 3) rfl w.heap.size 0 rfl m c b0.o ?_);refine HC.o.mono ?_;rintro e w2 ⟨rfl,d1,hg⟩;have HG:=hY (hg.since a1.o);clear hg;go_wp2_with fail;go_ret;exact⟨rfl,d1,HG.o⟩
 have g0:(QbP m==0)=false:=eJ.2 I;have hs:r=(QbP m,M):=by rw[<-HR.o];unfold runM;rw[eH I]
 subst hs;clear I;go_wp2_with fail;go_ret;exact⟨rfl,d,HH.o.stay a1.o⟩
theorem QtJ{m:Mu}(h:(runM M m).1≠0):(runM M m).2=M:=by
 unfold runM at h ⊢;split at h
 .rw [eH (by assumption)]
 rename_i h1;rw[eE h1];exact Qcb h
variable{T:RT}
theorem QsT{m:Mu}(hT:IsT w F T)(hF:∀b,F b->6<=b/\b<w.heap.size)(ok:OkR T)(hM:OkM (Qaa T))(hm:RMu w (Lt w.heap.size) m c)(hL:Qb4 w)(hd:QbP m=0->(Qaa T).length+Qb8 m (Qaa T)<=1000000)(hl:(Qaa T).length<=1000000)(ht:QcC m<=1100000) :
  Calls prog 61 #[Qao T,Qaz m c] w λe w'=>∃T',e=.returned (.tuple #[Qao T',.int .i64 (runM (Qaa T) m).1])/\OkR T'/\IsT w' (Up F w w') T'/\Qaa T'=(runM (Qaa T) m).2/\OkM (runM (Qaa T) m).2/\Nw w w'/\((runM (Qaa T) m).2=Qaa T->T'=T):=by
 obtain⟨r,hr⟩:∃r,runM (Qaa T) m=r:=⟨_,rfl⟩;rw[hr];obtain⟨HR,g4⟩:=Yb hr (show r.1≠0->r.2=Qaa T fromλh=>by rw[<-hr]at h ⊢;exact QtJ h);obtain⟨p,hp⟩:=Qaj T;obtain⟨HP,HT,HF,c6,g5,HM,HL⟩:=Yh hp hT hF ok hM hm hL;obtain⟨HD,f1,d6,e1⟩:=Ye hd ht hl (show r.1=0->QbP m=0 fromλh=>by rw[<-hr]at h;unfold runM at h;split at h<;>simp_all);rw[Qao,hp];clear hr hp hT hF ok hM hm hL hd ht hl;go_in;go_upto_region 1 with fail;generalize c4:World.alloc _ _=W0;obtain⟨a0,c2,b4,b8,c3⟩:=Qal w _ _ _ _ _ _ W0 c4;clear c4;have c0:W0.cell? w=some (.pointer p):=b4.cell 0;have e8:=gj a0;have a3:=Qq5 (w:=W0) (F:=F) (H:=λb=>b<W0.heap.size/\¬F b) (T:=T) (HT.o.agree (a0.agree λb I=>(HF.o b I).2)) c6.o (λb I=>⟨Nat.lt_of_lt_of_le (HF.o b I).2 a0.size,λe=>e.2 I⟩) (λb I=>I.1);rw[Qao,HP.o]at a3;obtain⟨e6,b9,g3,f7,e7,a7⟩:=Yg a3 a0 b4 c3 (gC b8) c2;clear a0 e8 b4 b8 c3 c2 a3;go_wp2_with fail;refine e6.o.mono ?_;rintro e w1 ⟨O,rfl,hO,d4,Z⟩;have a1:=(gj b9.o).trans (gj Z);have a9:OvX (λb=>b<W0.heap.size/\¬F b) w1 O (od0 T) (Qaa T):=⟨d4,QiZ.start g5.o⟩;have b7:=QtZ (m:=m) (c:=c) a9 (λb I=>ab I.1 Z.size) (λb I=>⟨Nat.lt_of_lt_of_le I (HL.o.nw (gj b9.o)).lib.big,λe=>by have:=(HF.o b e).1;omega⟩) ((HM.o.agree (gp a1 λb I=>I)).mono λb I=>⟨Nat.lt_of_lt_of_le I a1.size,λe=>by
  have g8:b<w.heap.size:=I;have hz:=a7.o;rcases e with e|e|e
  .omega
  .cases e
  cases e⟩) (HL.o.nw a1) (λh0=>by show 0+_<=_;have:=HD.o h0;omega) d6.o f1.o
 rw[HR.o]at b7;obtain⟨e4,g6,f9,b0,c1,HO⟩:=Yg b7 a9 a1 Z (e7.o.ext Z) hO;clear b7 a9 a1 Z d4 hO c0;go_wp2_with(refine Qah rfl (.tmp 3) rfl (w.heap.size+1) 0 rfl m c c1.o ?_);refine e4.o.mono ?_;rintro e w2 ⟨rfl,d1,hg⟩;obtain⟨HG,d5⟩:=Yb hg (show OkM r.2 from hg.rel.ok);have N:∀b,b<W0.heap.size->¬OvB O (od0 T) b:=λb I e=>by
  have:=HO.o;rcases e with e|e|e
  .omega
  .cases e
  cases e
 have g7:=hY N;have hz:=a7.o;have b3:=hg.go.sb.blk (g3.o.ext b0.o) (N _ oM);have a2:=hg.go.sb.blk (f7.o.ext b0.o) (N _ oM);have c9:=hY a2;have q0:w2.cell? w=some (.pointer p):=b3.cell 0;have q2:∃z,w2.cell? ⟨w.heap.size+1+1,0,none⟩=some z:=⟨_,a2.cell 0⟩;have f2:=a2.frozen 0;have a8:=hY (show Nw w w2 from f9.o.comp hg.go.sb λi hi e=>N i oM e);obtain⟨z,q2⟩:=q2;by_cases h0:r.1=0
 ·have g0:(r.1 == 0)=true:=by simp [h0]
  have a6:=QvR hg.at_ (by rw[hg.T];have h1:=ak hg.few (Nat.add_le_add_left (QsF _ _) _);have h2:=hg.go.at_.few;have h3:=HD.o (e1.o h0);have h4:(od0 T).us.length=0:=rfl;have h5:(Qaa (od0 T).T).length=(Qaa T).length:=rfl;omega);obtain⟨c8,H0⟩:=Yb a6 h0;clear hg N hz b3 a2 h0 a6;go_wp2_with fail;refine c8.o.mono ?_;rintro e w3 ⟨T',rfl,d8,d3,d0,a4,b6⟩;obtain⟨p',b5⟩:=Qaj T';have a5:=a4.blk c9.o;have q3:=a5.cell 0;have f3:=a5.frozen 0;obtain⟨f6,f0,f8,e0,d7,f5,f4⟩:=Yh a5 b5 (a8.o.trans a4) a4 d3 d0 (show r.2=Qaa T->T'=T fromλh=>by have h1:=HG.o.T;rw[h1]at b6;exact b6 h);rw[Qao,b5];clear a5 a4 d3 d0 b5 q0 q2 f2 b6;go_wp2_with fail;generalize hW:World.setCell _ _ _=W;have hs:Sb (λi=>i=w.heap.size+1+1) w3 W:=by rw[<-hW];exact(gu (λi=>i=w.heap.size+1+1) w3).set (p:=⟨w.heap.size+1+1,0,none⟩) (.inr rfl) _
  have I:Blk W (w.heap.size+1+1) 48 #[.pointer p']:=by rw[<-hW];exact f6.o.QbH 0 (.pointer p')
  have q4:W.cell? ⟨w.heap.size+1+1,0,none⟩=some (.pointer p'):=I.cell 0;clear hW q3 f3;refine eN (v:=.tuple #[.agg #[.pointer p'],.int .i64 0]) (by simp[results,results61,go_sem,q4]) rfl ?_;refine⟨T',by rw[Qao,f0.o,H0.o],d8,?_,f5.o,d5.o,f8.o.comp hs λi hi e=>oM,f4.o⟩;have g9:=a7.o;refine(d7.o.agree (F:=Up (OvF (λb=>b<W0.heap.size/\¬F b) w2 O d1) w2 w3) λb I=>hs.block b ?_ ?_).mono λb I=>?_
  all_goals
   have s1:=e0.o.size;have s2:=hs.size;have s3:=a8.o.size;have s4:=HL.o.lib.big;have s5:=b0.o.size;have s6:=HG.o.go.sb.size
  ·rcases I with e | e
   .exact ab e.1 s1
   exact e.2
  ·intro e2
   rcases I with e|e
   .exact e.2.2 ⟨oM,λe3=>by have:=(HF.o b e3).2;omega⟩
   omega
  rcases I with e|e
  ·by_cases hf:F b
   .exact .inl hf
   have h1:=e.1;by_cases h2:b<W0.heap.size
   .exact absurd ⟨h2,hf⟩ e.2.2
   exact .inr ⟨oM,oM⟩
  exact .inr ⟨oM,oM⟩
 have g0:(r.1==0)=false:=eJ.2 h0;have H0:=hY h0;clear hg N hz b3 a2 h0;go_wp2_with fail;generalize hW:World.setCell _ _ _=W;have hs:Sb (λi=>i=w.heap.size+1+1) w2 W:=by rw[<-hW];exact(gu (λi=>i=w.heap.size+1+1) w2).set (p:=⟨w.heap.size+1+1,0,none⟩) (.inr rfl) _
 have I:Blk W (w.heap.size+1+1) 48 #[.pointer p]:=by rw[<-hW];exact c9.o.QbH 0 (.pointer p)
 have q4:W.cell? ⟨w.heap.size+1+1,0,none⟩=some (.pointer p):=I.cell 0;have c7:Nw w W:=a8.o.comp hs λi hi e=>oM
 clear hW q0 q2 f2;refine eN (v:=.tuple #[.agg #[.pointer p],.int .i64 r.1]) (by simp[results,results61,go_sem,q4]) rfl ?_;exact⟨T,by rw[Qao,HP.o],c6.o,(HT.o.agree (gp c7 λb I=>(HF.o b I).2)).mono λb I=>.inl I,(g4.o H0.o).symm,d5.o,c7,λ_=>rfl⟩
theorem QmB(w:World)(F:Nat->Prop){n:Int}(I:(Lit.int .i64 n).wf=true):RV w F (Qi0 n) Sl.none Sl.none:=RV.flat _ _ _ _ _ _ oN I oN
variable{g:Nat}{xs:List LE}
theorem Qud(I:Blk w g 78 (QaD xs).toArray)(N:∀x∈xs,RV w (Lt w) x.v x.sl x.so/\x.k.size<=maxLen)(Z:xs.length<=1000000):ES w (Lt w) ⟨some g,xs.length⟩ xs:=
 ⟨(gA (cs:=QaD xs) (n:=xs.length) (size:=7) I (ak Z oN) (QcR xs)).mono λi hi=>by subst hi;exact I.lt,N,oM⟩
theorem QpP{kd:Int}{k tk:ByteArray}{i:Int}{N:Bool}{I:Val}{a0:Bool}{v:Val}{a1 a2 a3 a4:Sl}(h1:RV w F I a1 a2)(h2:RV w F v a3 a4)(bk:k.size<=maxLen)(bt:tk.size<=maxLen)(Z:(Lit.int .i64 kd).wf=true)(bi:(Lit.int .i64 i).wf=true) :
  RMu w F (.mk kd k tk i N I a0 v []) ⟨a1,a2,a3,a4,Sl.none⟩:=
 .mk 0 0 (λ_=>default) h1 h2 (.nil _ _) (λj m h=>by simp at h) (λj m h=>by simp at h) bk bt Z bi oO
section
variable{P : Program}{c : Code}{Q : Exit -> Act -> World -> Prop}{a : Act}{w : World}
def QnK(tm:Array Value):List (Nat × Value)->Array Value
 |[]=>tm
 |(i,v)::l=>QnK (tm.setIfInBounds i v) l
def QuH(R:Act->World->Prop):Exit->Act->World->Prop
 |.normal,a,w=>R a w
 |_,_,_=>False
theorem QrX{R:Act->World->Prop}(h:R a w):QuH R .normal a w:=h
theorem Qss(N:World->Nat->Value->Prop)(Z:List Nat)(last:Nat->Value->List (Nat × Value))
  (h1:c.wp P (QuH λI w'=>∃b u,N w' b u/\I.defers=a.defers/\I.tmps=QnK a.tmps ((Z.map λd=>(d,I.tmps.getD d undef))++last b u)) a w)
  (h2:∀(w':World) (b:Nat) (u:Value) (vs:Nat->Value),N w' b u->Q .normal { tmps:=QnK a.tmps ((Z.map λd=>(d,vs d))++last b u),defers:=a.defers } w'):c.wp P Q a w:=
 wp_mono h1 λe I w' h=>by
  cases e with
  | normal=>
    obtain⟨b,u,hr,hd,ht⟩:=h;have:=h2 w' b u (λd=>I.tmps.getD d undef) hr;rw[<-ht,<-hd]at this;exact this
  |_=>exact h.elim
end
theorem Qb2{X W:World}{c:Array Value}{t:TypeId}(h:X.alloc (.cells c t)=W):Ext X W/\Blk W X.heap.size t c/\X.heap.size<W.heap.size:=by
 rw[<-h];exact⟨(gh X).alloc _ _,gm X _ _,by rw[eK];omega⟩
theorem QpW(h:Nw w0 w){b o:Nat}(I:w0<=b)(v:Value):Nw w0 (w.setCell ⟨b,o,none⟩ v):=
 h.comp ((gu (λi=>i=b) w).set (p:=⟨b,o,none⟩) (.inr rfl) v) λi hi e=>oM
theorem Qum(h:IsT w F T){b o:Nat}(I:¬F b)(hF:∀b,F b->b<w.heap.size)(v:Value):IsT (w.setCell ⟨b,o,none⟩ v) F T:=
 h.agree λi hi=>((gu (λi=>i=b) w).set (p:=⟨b,o,none⟩) (.inr rfl) v).block i (hF i hi) λe=>I (e▸hi)
def QtY(E:List Ent)(n:Nat)(w':World)(b:Nat):Prop:=∃T p,QaK T=.pointer p/\OkR T/\Qaa T=E/\IsT w' (λi=>n<=i/\i<w'.heap.size/\i≠b) T/\Blk w' b 48 #[.pointer p]/\n<=b
variable{E:List Ent}
theorem Qq6{p:Option Addr}{b:Nat}(N:QaK T=.pointer p)(ok:OkR T)(I:Qaa T=E)(Z:IsT w F T)(hb:Blk w b 48 #[z])(hl:n<=b)(hF:∀i,F i->n<=i/\i<w.heap.size/\i≠b) :
  QtY E n (w.setCell b (.pointer p)) b:=
 ⟨T,p,N,ok,I,(Qum Z (λh=>(hF b h).2.2 rfl) (λi hi=>(hF i hi).2.1) _).mono λi hi=>⟨(hF i hi).1,ab (hF i hi).2.1 ((gu (λi=>i=b) w).set (p:=⟨b,0,none⟩) (.inr rfl) (.pointer p)).size,(hF i hi).2.2⟩,hb.QbH 0 (.pointer p),hl⟩
abbrev yS:MuS:=⟨Sl.none,Sl.none,Sl.none,Sl.none,Sl.none⟩
theorem QpQ(w:World)(F:Nat->Prop){k:ByteArray}{n:Int}(N:k.size<=maxLen)(I:(Lit.int .i64 n).wf=true):RMu w F (Qfg k n) yS:=QpP (Qdd _ _) (Qdd _ _) N oN oN I
theorem Quv(w:World)(F:Nat->Prop){k:ByteArray}(I:k.size<=maxLen):RMu w F (Qil k) yS:=QpP (Qdd _ _) (Qdd _ _) I oN oN oN
theorem Qsb{k:ByteArray}{n:Int}(hk:k.size<=maxLen)(Z:(Lit.int .i64 n).wf=true) :
  Calls prog 28 #[.agg #[.pointer none],.string k,Qvu n] w λe w'=>∃T p,e=.returned (.agg #[.pointer p])/\QaK T=.pointer p/\OkR T/\Qaa T=[(k,Qi0 n)]/\IsT w' (In w.heap.size w'.heap.size) T/\Ext w w':=by
 have h:=Qqf (w:=w) (F:=λ_=>False) (T:=none) (λb h=>h.elim) trivial trivial oN hk (QmB w (Lt w) Z);refine h.mono ?_;rintro e w' ⟨T,rfl,N,hT,hx⟩;obtain⟨p,I⟩:=Qaj T;exact⟨T,p,by rw[Qao,I],I,N.ok trivial,by rw[N.ents trivial];rfl,hT.mono λb hb=>hb.elim (λh=>h.elim) id,hx⟩
theorem Qiq{α:Type}{f:α->List Value}{k:Nat}(I:∀a,(f a).length=k):∀(l:List α) (j:Nat) (a:α),l[j]? = some a->∀i u,(f a)[i]? = some u->(l.flatMap f)[j*k+i]? = some u
 |[],j,a,h,_,_,_=>by simp at h
 | x :: r,0,a,h,i,u,hu=>by
   have:x=a:=by simpa using h
   subst this;rw[aZ,cE,aD,bu (ae.1 hu).1];exact hu
 | x :: r,j+1,a,h,i,u,hu=>by
   rw[aZ,aP (by rw[I,Nat.succ_mul];omega),I,show(j+1)*k+i-k=j*k+i by rw[Nat.succ_mul];omega];exact Qiq I r j a (by simpa using h) i u hu
theorem Qml(p:Mu × MuS):∀u∈Qan p.1 p.2,u.oneCell'=true:=by
 intro u hu;simp only[Qan,List.mem_cons,List.not_mem_nil,or_false]at hu;rcases hu with rfl|rfl|rfl|rfl|rfl|rfl|rfl|rfl|rfl|rfl|rfl|rfl|rfl|rfl|rfl|rfl|rfl|rfl|rfl<;>rfl
theorem Qba(g:Nat):∀(vs:List Value) (o:Nat) (W:World),Agree (λb=>b≠g) W (W.setCells g o vs)/\(W.setCells g o vs).heap.size=W.heap.size
 |[],_,W=>⟨Agree.refl _,rfl⟩
 | v :: vs,o,W=>by
   obtain⟨h1,h2⟩:=Qba g vs (o+1) (W.setCell ⟨g,o,none⟩ v);exact⟨(gw W ⟨g,o,none⟩ v λh=>h rfl).trans h1,h2.trans (eP _ _ _)⟩
variable{vs:List Value}{c':MuS}
theorem Qp6{w v:World}{b o:Nat}{T:TypeId}{m m':Mu}(N:Blk w b T (Qa2 m c))(h:w.setCells b o vs=v)(I:QuS (Qan m c) o vs=Qan m' c'):Blk v b T (Qa2 m' c')/\Agree (λi=>i≠b) w v/\v.heap.size=w.heap.size:=by
 subst h;obtain⟨h1,h2⟩:=Qba b vs o w;exact⟨by have:=Qh4 vs o N;rwa[I]at this,h1,h2⟩
structure Nm where
 id:Int
 m:Mu
instance : Inhabited Nm :=⟨⟨0, default⟩⟩
def Qbw(n:Nm)(c:MuS):List Value:=.int .u64 n.id::Qan n.m c
abbrev QqR(n:Nm)(c:MuS):Value:=.agg (Qbw n c).toArray
abbrev Qh5(n:Nm)(c:MuS):Array Value:=(Qbw n c).toArray
theorem Qtp(n:Nm)(c:MuS):(Qbw n c).length=20:=rfl
theorem Qtw(p:Nm × MuS):∀u∈Qbw p.1 p.2,u.oneCell'=true:=by
 intro u hu;rcases aH.1 hu with rfl|hu
 .rfl
 exact Qml (p.1.m,p.2) u hu
def NmC(w:World)(b o:Nat)(n:Nm)(c:MuS):Prop:=∀(j:Nat) (u:Value),(Qbw n c)[j]? = some u->w.cell? ⟨b,o+j,none⟩=some u
theorem NmC.agree{b o:Nat}{n:Nm}(h:NmC w b o n c)(N:Agree F w w')(I:F b):NmC w' b o n c:=λj u hu=>(N.cell I).trans (h j u hu)
theorem NmC.mu{b o:Nat}{n:Nm}(h:NmC w b o n c):MuC w b (o+1) n.m c:=λj u hu=>by
 have h1:=h (j+1) u hu;rwa[show o+(j+1)=o+1+j by omega]at h1
theorem NmC.id{b o:Nat}{n:Nm}(h:NmC w b o n c):w.cell? ⟨b,o,none⟩=some (.int .u64 n.id):=h 0 _ rfl
theorem NmC.range{b o:Nat}{n:Nm}(h:NmC w b o n c):w.rangeAt b o (Qbw n c):=h
theorem NmC.Qax{b:Nat}{t:TypeId}{n:Nm}(h:Blk w b t (Qh5 n c)):NmC w b 0 n c:=λj u hu=>by
 rw[aD,h.cell];simpa using hu
theorem NmC.lt{b o:Nat}{n:Nm}(h:NmC w b o n c):b<w:=eX w _ (h 0 _ rfl)
theorem NmC.ext{b o:Nat}{n:Nm}(h:NmC w b o n c)(k:Ext w w'):NmC w' b o n c:=λj u hu=>(k.cell h.lt).trans (h j u hu)
structure Qa7(w:World)(F:Nat->Prop)(s:Sl)(l:List Nm):Prop where
 ex:∃(b o:Nat) (c:Nat->MuS),Qd5 F s l.length b o/\(∀j n,l[j]? = some n->NmC w b (o+j*20) n (c j))/\∀j n,l[j]? = some n->RMu w F n.m (c j)
 wf:∀n∈l,(Lit.int .u64 n.id).wf=true
 len:l.length*272<=140737488355328
variable{s:Sl}
theorem Qa7.agree{l:List Nm}(h:Qa7 w F s l)(N:Agree F w w'):Qa7 w' F s l:=by
 obtain⟨b,o,c,h1,h2,Z⟩:=h.ex;exact⟨⟨b,o,c,h1,λj n I=>(h2 j n I).agree N (h1.fits (QaW I)),λj n I=>(Z j n I).agree N⟩,h.wf,h.len⟩
theorem Qa7.mono{l:List Nm}(h:Qa7 w F s l)(I:∀b,F b->G b):Qa7 w G s l:=by
 obtain⟨b,o,c,h1,h2,N⟩:=h.ex;exact⟨⟨b,o,c,h1.mono I,h2,λj n Z=>(N j n Z).mono I⟩,h.wf,h.len⟩
theorem Qa7.ext{l:List Nm}(h:Qa7 w F s l)(k:Ext w w')(hF:∀b,F b->b<w.heap.size):Qa7 w' F s l:=h.agree (k.agree hF)
theorem Qa7.at{l:List Nm}(h:Qa7 w F s l){x:Nm}(I:l[j]? = some x) :
  ∃b o y,s.a=some ⟨b,o,none⟩/\F b/\l.length<=s.c/\s.c<=maxLen/\NmC w b (o+j*20) x y/\RMu w F x.m y:=by
 obtain⟨b,o,c,h1,h2,h3⟩:=h.ex;obtain⟨Z,e2,N⟩:=h1.eq (QaW I);exact⟨b,o,c j,Z,h1.fits (QaW I),e2,N,h2 j x I,h3 j x I⟩
theorem RMu.mk'{m:Mu}(h:RMu w F m c)(h1:RV w' G m.was c'.w1 c'.w2)(h2:RV w' G m.v c'.v1 c'.v2){bl fl:Nat}{cl:Nat->MuS}(N:Qd5 G c'.s m.l.length bl fl)
  (Z:∀j x,m.l[j]? = some x->MuC w' bl (fl+j*19) x (cl j)) (I:∀j x,m.l[j]? = some x->RMu w' G x (cl j)):RMu w' G m c':=by
 cases h with
 |mk bl0 fl0 cl0 rw_ rv hl0 el0 rl0 bk bt bkd bi nl=>exact .mk bl fl cl h1 h2 N Z I bk bt bkd bi nl
theorem QuJ{base n c:Nat}{a:Option Addr}{e:TypeId}{ys:List (Mu × MuS)}(h:w.ownsRow base e 19 (.slice a n c) n (ys.flatMap λp=>Qan p.1 p.2))(Z:ys.length=n) :
  ∃bl fl,Qd5 (In base w.heap.size) ⟨a,c⟩ n bl fl/\∀j p,ys[j]? = some p->MuC w bl (fl+j*19) p.1 p.2:=by
 obtain⟨b,o,h1,h2,N⟩:=gz h;refine⟨b,o,h1,λj p I i u hu=>?_⟩;have:=N (j*19+i) u (Qiq (f:=λp:Mu × MuS=>Qan p.1 p.2) (λ_=>rfl) ys j p I i u hu);rwa[show o+(j*19+i)=o+j*19+i by omega]at this
theorem QuK{base n c:Nat}{a:Option Addr}{e:TypeId}{ys:List (Nm × MuS)}(h:w.ownsRow base e 20 (.slice a n c) n (ys.flatMap λp=>Qbw p.1 p.2))(Z:ys.length=n) :
  ∃bl fl,Qd5 (In base w.heap.size) ⟨a,c⟩ n bl fl/\∀j p,ys[j]? = some p->NmC w bl (fl+j*20) p.1 p.2:=by
 obtain⟨b,o,h1,h2,N⟩:=gz h;refine⟨b,o,h1,λj p I i u hu=>?_⟩;have:=N (j*20+i) u (Qiq (f:=λp:Nm × MuS=>Qbw p.1 p.2) (λ_=>rfl) ys j p I i u hu);rwa[show o+(j*20+i)=o+j*20+i by omega]at this
def QbD(l:List Mu)(M:List Ent):List Int × List Ent:=l.foldl (λp m=>(p.1++[(runM p.2 m).1],(runM p.2 m).2)) ([],M)
theorem Qf4{l:List Mu}{x:Mu}(h:l[j]? = some x)(M:List Ent):QbD (l.take (j+1)) M=((QbD (l.take j) M).1++[(runM (QbD (l.take j) M).2 x).1],(runM (QbD (l.take j) M).2 x).2):=by
 rw[aJ,h];unfold QbD;show((l.take j)++[x]).foldl _ _=_;rw[ee];rfl
theorem QgA(l:List Mu)(M:List Ent):∀j,j<=l.length->(QbD (l.take j) M).1.length=j
 |0,_=>rfl
 | j+1,h=>by
   rw[Qf4 (ac (show j<l.length by omega)),aj,QgA l M j oM];rfl
theorem Qqo{x:Mu}:(runM E x).2.length<=E.length+64:=by
 unfold runM;by_cases h:QbP x=0
 ·rw [eE (by simp [h])]
  have hs:Qa0 x<=64:=by unfold QbP at h;split at h<;>omega
  have:=Qkv x E;omega
 rw[eH h];exact dy _ _
theorem QeN(l:List Mu)(M:List Ent):∀j,(QbD (l.take j) M).2.length<=M.length+64*j
 |0=>ao _
 | j+1=>by
   have N:=QeN l M j;cases I:l[j]? with
   |none=>rw[aJ,I];show(QbD (l.take j++[]) M).2.length<=_;rw[aU];omega
   | some x=>
     rw[Qf4 I];have:=Qqo (E:=(QbD (l.take j) M).2) (x:=x);dsimp only;omega
def QbK(last:Int)(l:List Nm):List Nm:=l.filter λn=>decide (last<n.id)
theorem Qnq(last:Int)(l:List Nm)(x:Nm):QbK last (l++[x])=if last<x.id then QbK last l++[x]else QbK last l:=by
 unfold QbK;rw[bP];by_cases h:last<x.id
 .rw [eH h];simp[h]
 rw[eE h];simp[h]
theorem QgH(last:Int)(l:List Nm):(QbK last l).length<=l.length:=bD _ _
abbrev kN:ByteArray:=⟨#[110]⟩
abbrev QkP(n:Int):List Ent:=[(kN,Qi0 n)]
theorem mKN:Qci kN=0:=by decide +kernel
theorem Quq:klt kN kN=false:=by decide +kernel
theorem Qty{n:Int}(N : -9223372036854775808<=n)(h1:n<=9223372036854775807):OkM (QkP n):=
 ⟨by unfold Sorted;simp,λe I=>by rw[aV.1 I];exact⟨mKN,QuE N h1⟩⟩
theorem Qqt{n:Int}(N : -9223372036854775808<=n)(h1:n<=9223372036854775807):setMu M kN (Qlb n)=(0,QbY M kN (Qi0 n)):=by
 unfold setMu;have I:QcP (Qlb n)=0:=Qpd N h1;rw[eE (by simp[mKN]),eE (by simp[I])];rfl
theorem Qtf{n:Int}(I:0<=n)(h1:n<=1000):runM (QkP n) (Qfg kN 1)=(0,QkP (n+1)):=by
 rw[Qqp mKN oN];unfold Qeb;rw[show Qaq (QkP n) kN=some (Qi0 n)by simp[Qaq]];show(if(3:Int)≠3 then _ else Qoy _ _ n 1)=_;rw[eE oO];unfold Qoy;rw[eE oM,Qqt oM oM];simp[QbY,Quq]
theorem Ql8:runM [] (Qfg kN 1)=(0,QkP 1):=by
 rw[Qqp mKN oN];unfold Qeb;rw[show Qaq [] kN=none from rfl];show Qoy _ _ 0 1=_;unfold Qoy;rw[eE oM,Qqt oM oM];rfl
theorem QoX:runM M (Qil kN)=if(Qaq M kN).isSome then(0,QbM M kN)else(12,M):=by
 unfold runM;rw[eE (by simp[QrN mKN oN]),stepM,eE oN,eH rfl]
theorem QoY(n:Int):runM (QkP n) (Qil kN)=(0,[]):=by
 rw[QoX,show Qaq (QkP n) kN=some (Qi0 n)by simp[Qaq]];simp[QbM,Quq]
theorem Qrf:runM [] (Qil kN)=(12,[]):=by rw[QoX];rfl
abbrev lK:List Mu:=[Qfg kN 1,Qil kN,Qfg kN 1]
theorem Qui:QbD lK (QkP 5)=([0,0,0],QkP 1):=by
 unfold QbD;simp only[List.foldl_cons,List.foldl_nil,Qtf (n:=5) oN oN,QoY,Ql8];rfl
theorem QsB:QbD (lK.drop 1) []=([12,0],QkP 1):=by
 unfold QbD;simp only[List.drop_succ_cons,List.drop_zero,List.foldl_cons,List.foldl_nil,Qrf,Ql8];rfl
theorem Tryz.Qpn:(prog.info? 39).map (·.size)=some 20:=kM
theorem Tryz.Qcz:(prog.info? 39).map (λi=>(i.zero,i.size,i.bytes))=some (some (QqR ⟨0,.mk 0 ByteArray.empty ByteArray.empty 0 false zeroV false zeroV []⟩ ⟨Sl.none,Sl.none,Sl.none,Sl.none,Sl.none⟩),20,272):=kM
variable{ops:Array Oper}{a:Act}{Q:Exit->Act->World->Prop}
theorem QjZ{rest:List Oper}{op:Oper}(I:op.guard=none)(x:Operand)(ho:op.op=.load 39 x)
  (b o:Nat) (Z:a.eval x=.pointer (some ⟨b,o,none⟩)) (m:Nm) (c:MuS) (N:NmC w b o m c) (h:wpList prog ops Q rest (a.put op.dst (QqR m c)) w):wpList prog ops Q (op::rest) a w:=
 wpList_load_mid I 39 x ho b o Z (Qbw m c) _ N.range underlying39 rfl (by rw[Qtp];exact Tryz.Qpn) h
theorem Qjf{w v:World}{b:Nat}{T:TypeId}{z:Array Value}(hz:Blk w b T z)(hs:z.size=vs.length)(h:w.setCells b 0 vs=v):Blk v b T vs.toArray:=by
 subst h;have N:w.there b 0 vs.length:=Qe3 hz (by rw[hs];exact ao _);have hr:=fT w b 0 vs N;obtain⟨z',h1,h2⟩:=Qcv vs 0 hz;have I:z'.toList=vs:=by
  refine bI λj=>?_
  rw[bT];by_cases hj:j<vs.length
  ·obtain ⟨v,hv⟩:∃ v,vs[j]? = some v:=⟨_,ac hj⟩
   have h3:=hr j v hv;rw[aD,h1.cell]at h3;rw[h3,hv]
  rw[Array.getElem?_eq_none oM,aI oM]
 have Z:z'=vs.toArray:=dO.1 (I.trans (cd).symm);exact Z▸h1
theorem Qnb{rest:List Oper}{op:Oper}(N:op.guard=none)(hd:op.dst=none){T:TypeId}{x y:Operand}(ho:op.op=.store T x y)
  (vs:List Value) (hi:(prog.info? T).map (·.size)=some vs.length) (h1:∀u∈vs,u.oneCell'=true) {b:Nat} (hb:w0.heap.size=b) (hw:Ext w0 w) {z:Array Value} (Z:Blk w b T z) (I:z.size=vs.length) (hx:a.eval x=.pointer (some b)) (hy:a.eval y=.agg vs.toArray)
  (h:∀w',Ext w0 w'->Blk w' b T vs.toArray->wpList prog ops Q rest a w'):wpList prog ops Q (op::rest) a w:=by
 refine fE N T x y ho b 0 vs.toArray hx hy (Qe3 Z (by rw[I,bm];exact ao _)) (by rw[hi,bm]) (fO h1) ?_;have e:vs.toArray.toList=vs:=cd;have ep:a.put op.dst undef=a:=by rw[hd];rfl
 rw[ep,e];exact h _ (Ext.setCells oM _ _ hw) (Qjf Z I rfl)
theorem Qsz{rest:List Oper}{op:Oper}(N:op.guard=none)(hd:op.dst=none){x y:Operand}(ho:op.op=.store 39 x y)
  (n:Nm) (c:MuS) {b:Nat} (hb:w0.heap.size=b) (Z:Ext w0 w) {z:Array Value} (hz:Blk w b 39 z) (I:z.size=20) (hx:a.eval x=.pointer (some b)) (hy:a.eval y=QqR n c)
  (h:∀w',Ext w0 w'->Blk w' b 39 (Qh5 n c)->wpList prog ops Q rest a w'):wpList prog ops Q (op::rest) a w:=
 Qnb N hd ho (Qbw n c) (by rw[Qtp];exact Tryz.Qpn) (Qtw (n,c)) hb Z hz I hx hy h
theorem QnZ{rest:List Oper}{op:Oper}(N:op.guard=none)(x y:Operand)(ho:op.op=.store 37 x y)(b o:Nat)(m:Mu)(c:MuS)(I:w.there b o 19)
  (hx:a.eval x=.pointer (some ⟨b,o,none⟩)) (Z:a.eval y=Qaz m c) (h:wpList prog ops Q rest (a.put op.dst undef) (w.setCells b o (Qan m c))):wpList prog ops Q (op::rest) a w:=
 fE N 37 x y ho b o (Qa2 m c) hx Z I (by exact Tryz.Qem) (fO (Qml (m,c))) h
theorem QbT{rest:List Oper}{o:Oper}(hg:o.guard=none)(t e:TypeId)(N:Nat)(I:Array (Nat × Operand))(ho:o.op=.buildSlice t N I)
  (vs:List Value) (size:Nat) {ie:TypeInfo} (hu:prog.underlying t=some (.slice e)) (a1:prog.info? e=some ie) (hs:ie.size=size) (hz:ie.zero=some z) (hp:0<size) (hl:vs.length=N) (a2:0<N) (a3:N*size<=1000)
  (h1:∀v∈vs,v.cells.size=size) (a0:(I.toList.map λx=>(x.1,a.eval x.2))=(vs.zipIdx 0).map λx=>(x.2,x.1)) (Z:Array Value) (hc:(vs.flatMap λv=>v.cells.toList).toArray=Z)
  (h:wpList prog ops Q rest (a.put o.dst (.slice (some w) N N)) (w.alloc (.cells Z e))):wpList prog ops Q (o::rest) a w:=by
 subst hs hc hl;have h0:0<vs.length*ie.size:=Nat.mul_pos a2 hp;refine wpList_buildSlice hg t e _ I ho _ ie z hu a1 hz oM oM ?_ h;rw[Array.toList_map];rw[a0];exact Great.fill_whole hp vs _ h1 (by rw[Array.size_map,Array.size_range])
theorem Qa4{rest:List Oper}{o:Oper}(Z:o.guard=none)(t:TypeId)(I:Array (Nat × Operand))(ho:o.op=.build t I)(cs:Array Value)
  (N:prog.built t (I.toList.map λx=>(x.1,a.eval x.2))=some cs) (h:wpList prog ops Q rest (a.put o.dst (.agg cs)) w):wpList prog ops Q (o::rest) a w:=by
 have e:(I.map λ(i,x)=>(i,a.eval x)).toList=I.toList.map λx=>(x.1,a.eval x.2):=Array.toList_map ..
 refine wpList_build Z t I ho (by rw[e,N];rfl) ?_;rw[e,N];exact h
theorem Qh6(I:Int)(m:Mu)(c:MuS):prog.built 39 [(0,.int .u64 I),(1,Qaz m c)]=some (Qh5 ⟨I,m⟩ c):=kM
structure Qvf(g:Nat)(cs:Array Value)(codes:List Int)(S:Nat->(Nat->Prop)->World->Prop):Prop where
 eg:∀args w,(callFunc g args).run prog w=.ok (.enter g args) w
 call:∀j code D W,codes[j]? = some code->S j D W->Calls prog g (#[.int .i64 code]++cs) W λe w'=>e=.returned (.tuple #[])/\∃D',S (j+1) D' w'/\Sb D W w'/\∀b,D' b->D b\/W.heap.size<=b
 stay:∀j D X W W',S j D W->Sb X W W'->(∀b,D b->¬X b)->S j D W'
 lt:∀j D W,S j D W->∀b,D b->b<W.heap.size
theorem Qnf{l:List Mu}{x:Mu}(h:l[j]? = some x)(M:List Ent):(QbD l M).1[j]? = some (runM (QbD (l.take j) M).2 x).1:=by
 have N:∀(r:List Mu) (p:List Int × List Ent),∃q,(r.foldl (λp m=>(p.1++[(runM p.2 m).1],(runM p.2 m).2)) p).1=p.1++q:=by
  intro r
  induction r with
  |nil=>intro p;exact⟨[],oO⟩
  | cons a r ih=>
    intro p;obtain⟨q,I⟩:=ih (p.1++[(runM p.2 a).1],(runM p.2 a).2);exact⟨(runM p.2 a).1::q,by rw[dV,I,aT];rfl⟩
 have h1:=Qf4 h M;obtain⟨q,I⟩:=N (l.drop (j+1)) (QbD (l.take (j+1)) M);have h2:(QbD l M).1=(QbD (l.take (j+1)) M).1++q:=by
  rw[<-I];unfold QbD;rw[<-ee,aX]
 have Z:=QgA l M j (by have:=(ae.1 h).1;omega);rw[h2,h1,aT,aP oM,Z,cu];rfl
abbrev Qe6(l:List Nm):List Mu:=l.map Nm.m
structure Qey(w:World)(F G:Nat->Prop)(T:RT)(s:Sl)(l:List Nm):Prop where
 tree:IsT w F T
 old:∀b,F b->6<=b/\b<w.heap.size
 ok:OkR T
 okM:OkM (Qaa T)
 row:Qa7 w G s l
 rowOld:∀b,G b->b<w.heap.size
 lib:Qb4 w
 few:(Qaa T).length+64*l.length<=5000
 tot:Qcc (Qe6 l)<=1099000
theorem Qey.ext{l:List Nm}(h:Qey w F G T s l)(k:Nw w w'):Qey w' F G T s l:=
 ⟨h.tree.agree (gp k λb I=>(h.old b I).2),λb I=>⟨(h.old b I).1,ab (h.old b I).2 k.size⟩,h.ok,h.okM,h.row.agree (gp k h.rowOld),λb I=>ab (h.rowOld b I) k.size,h.lib.nw k,h.few,h.tot⟩
theorem Qey.bud{l:List Nm}(h:Qey w F G T s l){m:Mu}(N:j<=l.length)(I:QbP m=0):(QbD ((Qe6 l).take j) (Qaa T)).2.length+Qb8 m (QbD ((Qe6 l).take j) (Qaa T)).2<=1000000:=by
 have hs:Qa0 m<=64:=by unfold QbP at I;split at I<;>omega
 have h1:=QeN (Qe6 l) (Qaa T) j;have h2:=h.few;have:=Nat.mul_le_mul hs (show 2*((QbD ((Qe6 l).take j) (Qaa T)).2.length+Qa0 m)+1<=10129 by omega);unfold Qb8;omega
theorem Qkp{F G D0:Nat->Prop}{l:List Nm}{cs:Array Value}{S:Nat->(Nat->Prop)->World->Prop}(h:Qey w F G T s l)(hS:Qvf g cs (QbD (Qe6 l) (Qaa T)).1 S)(h0:S 0 D0 w)(hD:∀b,D0 b->6<=b/\¬F b/\¬G b) :
  Calls prog 38 #[Qao T,.slice s.a l.length s.c,.func (.func g) #[] cs] w λe w'=>∃T' D,e=.returned (Qao T')/\OkR T'/\IsT w' (λb=>(F b\/w<=b)/\b<w'/\¬D b) T'/\Qaa T'=(QbD (Qe6 l) (Qaa T)).2/\OkM (Qaa T')/\S l.length D w'/\Sb D0 w w'/\(∀b,D b->D0 b\/w.heap.size<=b)/\((∀n∈l,(runM (Qaa T) n.m).2=Qaa T)->T'=T):=by
 obtain⟨p,hp⟩:=Qaj T;have c2:=hS.lt _ _ _ h0;have o0:=hS.eg;have n2:=h.lib.lib.big;have n4:=h.row.len;obtain⟨HP,H,HS,H0,HD,a2⟩:=Yg hp h hS h0 hD c2;rw[Qao,hp];clear hp h hS h0 hD c2;go_in;go_upto_region 1 with fail;generalize f9:World.alloc _ _=W0;obtain⟨f7,f6,g9,e7⟩:=Qas w _ _ _ _ W0 f9;obtain⟨a3,l5,j4,j2⟩:=Ye f7 g9 e7 f6;clear f9 f7 g9 e7 f6;go_wp2_with fail;go_loopw[13] (λk8 wr=>∃(j:Nat) (T1:RT) (p1:Option Addr) (D:Nat->Prop),k8=.int .i64 (j:Int)/\j<=l.length/\Yd (QaK T1=.pointer p1)/\Yd (Blk wr w.heap.size 48 #[.pointer p1])/\Yd (OkR T1)/\
  Yd (IsT wr (λb=>(F b\/W0<=b)/\b<wr/\¬D b) T1)/\Yd (Qaa T1=(QbD ((Qe6 l).take j) (Qaa T)).2)/\Yd (OkM (Qaa T1))/\Yd (S j D wr)/\Yd (∀b,D b->D0 b\/W0.heap.size<=b)/\Yd (Sb (λb=>b=w.heap.size\/D0 b) W0 wr)/\Yd ((∀n∈l,(runM (Qaa T) n.m).2=Qaa T)->T1=T)) (λv _=>l.length -(intOf v).toNat)
 case atStart=>
  have hz:=a3.o.size;refine⟨0,T,p,D0,rfl,aA _,HP,l5,hY H.o.ok,hY ((H.o.tree.agree (a3.o.agree λb I=>(H.o.old b I).2)).mono λb I=>⟨.inl I,?_,λe=>(HD.o b e).2.1 I⟩),hY rfl,hY H.o.okM,hY (HS.o.stay _ _ (λ_=>False) _ _ H0.o (a3.o.sb _) λ_ _ e=>e),hY λb I=>.inl I,hY (gu _ _),hY λ_=>rfl⟩;have:=(H.o.old b I).2;omega
 obtain⟨j,T1,p1,D,rfl,hj,i1,b4,c0,g5,b8,j0,b3,a5,a7,a4⟩:=hrel;have hz:=j2.o;have z1:=a3.o.size;have z2:=a7.o.size;have b9:=hY (show Sb D0 w wr from(a3.o.sb D0).comp a7.o λi hi e=>e.resolve_left oM);by_cases i2:j<l.length
 ·have l1:(j:Int)<(l.length:Int):=oM
  have n9:decide ((j:Int)<(l.length:Int))=true:=eI l1;have l0:(0:Int)<=(j:Int):=oM
  obtain⟨x,hx⟩:∃x,l[j]? = some x:=⟨_,ac i2⟩;obtain⟨b,o,y,l7,l6,n7,n6,f2,i5⟩:=H.o.row.at hx;have c9:Agree G w wr:=λb I=>b9.o.block b (H.o.rowOld b I) λe=>(HD.o b e).2.2 I
  obtain⟨c1,j8⟩:=Yb (f2.agree c9 l6) (i5.agree c9);have n8:=c1.o.lt;have b7:(Qe6 l)[j]? = some x.m:=by rw[ar,hx];rfl
  have j5:=hY (am hx);have i3:∀b,G b->b<wr.heap.size:=λb I=>ab (H.o.rowOld b I) b9.o.size
  have f0:=hY i3;have a6:∀W,Ext wr W->Calls prog 61 #[.agg #[.pointer p1],Qaz x.m y] W λe w'=>∃T',e=.returned (.tuple #[Qao T',.int .i64 (runM (Qaa T1) x.m).1])/\OkR T'/\IsT w' (Up (λb=>(F b\/W0<=b)/\b<wr/\¬D b) W w') T'/\Qaa T'=(runM (Qaa T1) x.m).2/\OkM (runM (Qaa T1) x.m).2/\Nw W w'/\((runM (Qaa T1) x.m).2=Qaa T1->T'=T1):=λW hW=>by
   have h:=QsT (w:=W) (F:=λb=>(F b\/W0<=b)/\b<wr/\¬D b) (T:=T1) (m:=x.m) (c:=y) (g5.o.agree (hW.agree λb I=>I.2.1)) (λb I=>⟨I.1.elim (λe=>(H.o.old b e).1) λe=>oM,ab I.2.1 hW.size⟩) c0.o j0.o ((j8.o.agree (hW.agree f0.o)).mono λb I=>ab (f0.o b I) hW.size) (H.o.lib.sb (b9.o.ext hW) λb I e=>by have:=(HD.o b e).1;omega) (λh0=>by rw[b8.o];exact H.o.bud hj h0) (by
     rw[b8.o];have h1:=QeN (Qe6 l) (Qaa T) j;have h2:=H.o.few;omega) (ak (Qgb b7) (by have:=H.o.tot;omega))
   rw[Qao,i1.o]at h;exact h
  obtain⟨e4,j9,e1⟩:=Yc a6 (Qf4 b7 (Qaa T)) (Qnf b7 (Qaa T));have q0:wr.cell? w=some (.pointer p1):=b4.o.cell 0;have l2:=b4.o.lt;rw[l7];clear f2 i5 c9 a6 hx b7 i3 z1 z2;go_wp2_with(first |(refine QjZ rfl (.tmp 15) rfl b (o+j*20) rfl x y c1.o ?_) |(refine Qsz rfl rfl rfl x y (w0:=wr) (b:=wr) rfl ((gh wr).alloc _ _) (gm wr _ _) rfl rfl rfl ?_;intro w5 d8 i6;have d5:=hY d8;have q5:=(d8.cell l2).trans q0;have l4:=hY (NmC.Qax i6).mu;clear d8 i6) |(refine Qah rfl (.tmp 19) rfl wr.heap.size (0+1) rfl x.m y l4.o ?_));refine(e4.o _ d5.o).mono ?_;rintro e w6 ⟨T2,rfl,g8,i8,d7,e6,c6,a9⟩;obtain⟨p2,e3⟩:=Qaj T2;rw[Qao,e3];obtain⟨q,hq⟩:∃q,runM (Qaa T1) x.m=q:=⟨_,rfl⟩;rw[hq]at d7 e6 a9 ⊢;have e0:=j9.o;have a0:=e1.o;rw[<-b8.o,hq]at e0 a0;obtain⟨HA,HC,k7,k2,j7,i4,j6⟩:=Yh e0 a0 e3 g8 i8 d7 e6;have i9:=hY ((gj d5.o).trans c6);have j3:=hY (show(∀n∈l,(runM (Qaa T) n.m).2=Qaa T)->T2=T fromλc4=>by
   have h1:=a4.o c4;have h2:=c4 x j5.o;rw[<-h1]at h2;rw[hq]at h2;exact(a9 h2).trans h1)
  obtain⟨c3,f5⟩:=Yb d5.o.size c6.size;clear e0 a0 e3 g8 i8 d7 e6 c6 a9 hq q5 q0 l2;go_upto_region 5 with fail;generalize d4:World.alloc _ _=w7;have d3:Ext w6 w7:=by rw[<-d4];exact(gh w6).alloc _ _
  have d6:Blk w7 w6.heap.size 48 #[.pointer p2]:=by rw[<-d4];exact gm w6 _ _
  have z7:w6.heap.size<w7.heap.size:=d6.lt;obtain⟨k4,e2⟩:=Yb d6 (show Nw wr w7 from i9.o.trans (gj d3));have k9:=hY (j7.o.agree (d3.agree λb I=>by
   rcases I with I|I
   .have:=I.2.1;have:=c3.o;have:=f5.o;omega
   exact I.2))
  have c7:=HS.o.stay _ _ (λ_=>False) _ _ b3.o e2.o λ_ _ e=>e
  obtain⟨k1,k6⟩:=Yb c7 (HS.o.call _ _ _ _ HC.o c7);clear d4 d3 d6 c7;go_wp2_with fail;refine k6.o.mono ?_;rintro e w8 ⟨rfl,D',i7,a1,g0⟩;have z6:wr.heap.size<=w6.heap.size:=i9.o.size;have b0:=HS.o.lt _ _ _ b3.o;have g6:=HS.o.lt _ _ _ k1.o;have g3:=a1.blk k4.o λe=>by have:=b0 _ e;omega
  have q8:w8.cell? w6=some (.pointer p2):=g3.cell 0;have f1:¬D w.heap.size:=λe=>by
   rcases a5.o _ e with h|h
   .have:=a2.o _ h;omega
   omega
  have Z:=a1.blk (Nw.blk e2.o b4.o) f1;have c8:w8.cell? w=some (.pointer p1):=Z.cell 0;have f8:=Z.frozen 0;have l8:=Z.lt;obtain⟨e8,l3,a8,g4⟩:=Ye Z i7 a1 g0;clear i7 a1 g0 g3 f1 Z b0 g6;go_wp2_with fail;generalize d0:World.setCell _ _ _=w9;have i0:Sb (λi=>i=w.heap.size) w8 w9:=by rw[<-d0];exact(gu (λi=>i=w.heap.size) w8).set (p:=⟨w,0,none⟩) (.inr rfl) _
  have f3:Blk w9 w.heap.size 48 #[.pointer p2]:=by rw[<-d0];exact e8.o.QbH 0 (.pointer p2)
  obtain⟨b5,k0⟩:=Yb i0 f3;clear d0 i0 f3 q8 c8 f8;go_roundw
  case measure=>simp[intOf];omega
  have z1:=a3.o.size;have z2:=a7.o.size;have z8:=a8.o.size;have z9:=b5.o.size;have b0:=HS.o.lt _ _ _ b3.o;have g7:∀b,D' b->D0 b\/W0.heap.size<=b:=λb I=>(g4.o b I).elim (a5.o b) λe=>.inr oM
  have k3:¬D' w.heap.size:=λe=>by
   rcases g7 _ e with h|h
   .have:=a2.o _ h;omega
   omega
  have z5:=c3.o;have N:∀b,Up (λb=>(F b\/W0<=b)/\b<wr/\¬D b) w5 w6 b->(F b\/W0<=b)/\b<w6/\¬D b/\b≠w.heap.size:=λb I=>by
   rcases I with⟨h1,h2,h3⟩ |⟨h1,h2⟩
   ·refine ⟨h1,oM,h3,?_⟩
    rcases h1 with h1|h1
    .have:=(H.o.old b h1).2;omega
    omega
   exact⟨.inr oM,h2,λe=>by have:=b0 b e;omega,oM⟩
  refine⟨j+1,T2,p2,D',by go_num,i2,k7,k0,k2,hY (((k9.o.agree λb I=>a8.o.block b ?_ ?_).agree λb I=>b5.o.block b ?_ ?_).mono λb I=>?_),hY (by rw[HA.o];exact i4.o),hY (by rw[i4.o];exact j6.o),hY (HS.o.stay _ _ _ _ _ l3.o b5.o λb I e=>k3 (e▸I)),hY g7,hY ((a7.o.trans (Nw.any e2.o _)).comp ((a8.o.mono (G:=λb=>b=w.heap.size\/D b) λi _ hi=>.inr hi).trans (b5.o.mono λi _ hi=>.inl hi)) λi hi e=>?_),j3⟩
  .have:=(N b I).2.1;omega
  .exact (N b I).2.2.1
  .have:=(N b I).2.1;omega
  .exact (N b I).2.2.2
  ·refine ⟨(N b I).1,by have:=(N b I).2.1;omega,fun e=>?_⟩
   rcases g4.o b e with h|h
   .exact (N b I).2.2.1 h
   have:=(N b I).2.1;omega
  rcases e with e|e
  .exact .inl e
  rcases a5.o i e with h|h
  .exact .inr h
  omega
 obtain rfl:j=l.length:=oM
 have l1:decide ((l.length:Int)<(l.length:Int))=false:=eG oM;have q0:wr.cell? w=some (.pointer p1):=b4.o.cell 0;have b6:=a7.o.blk j4.o (by
  rintro(e|e)
  .omega
  have:=a2.o _ e;omega)
 have k5:=hY b6;have q4:wr.cell? ⟨w+1,0,none⟩=some _:=b6.cell 0;have f4:=b6.frozen 0;clear b6;have j1:=hY (show(Qe6 l).take l.length=Qe6 l from aW (by rw[aq];exact ao _));go_wp2_with fail;generalize hW:World.setCell _ _ _=W;have hs:Sb (λi=>i=w.heap.size+1) wr W:=by rw[<-hW];exact(gu (λi=>i=w.heap.size+1) wr).set (p:=⟨w+1,0,none⟩) (.inr rfl) _
 have I:Blk W (w.heap.size+1) 48 #[.pointer p1]:=by rw[<-hW];exact k5.o.QbH 0 (.pointer p1)
 have q5:W.cell? ⟨w+1,0,none⟩=some (.pointer p1):=I.cell 0;clear hW q0 q4 f4;refine eN (v:=.agg #[.pointer p1]) (by simp[results,results38,go_sem,q5]) rfl ?_;have z3:=hs.size;have l9:¬D (w.heap.size+1):=λe=>by
  rcases a5.o _ e with h|h
  .have:=a2.o _ h;omega
  omega
 refine⟨T1,D,by rw[Qao,i1.o],c0.o,(g5.o.agree λb I=>hs.block b I.2.1 ?_).mono λb I=>⟨I.1.imp id λe=>oM,by have:=I.2.1;omega,I.2.2⟩,by rw[b8.o,j1.o],j0.o,HS.o.stay _ _ _ _ _ b3.o hs λb I e=>l9 (e▸I),b9.o.comp hs λi hi e=>oM,λb I=>(a5.o b I).imp id λe=>oM,a4.o⟩;rcases I.1 with e|e
 .have:=(H.o.old b e).2;omega
 omega
theorem QqD(codes:List Int):Qvf 39 #[] codes λ_ D _=>∀b,¬D b where
 eg:=λargs w=>rfl
 call:=λj code D W _ h=>by
  refine Calls.mono (R:=λe w'=>e=.returned (.tuple #[])/\Ext W w') ?_ λe w' ⟨h1,h2⟩=>⟨h1,λ_=>False,λ_ e=>e,h2.sb _,λb e=>e.elim⟩
  show Calls prog 39 #[code] W _;go_in;go_wp2_with fail;go_end0;exact⟨rfl,gh _⟩
 stay:=λ_ _ _ _ _ h _ _=>h
 lt:=λ_ _ _ h b hb=>(h b hb).elim
theorem Qhv{l:List Nm}(h:Qey w F G T s l) :
  Calls prog 18 #[Qao T,.slice s.a l.length s.c] w λe w'=>∃T',e=.returned (Qao T')/\OkR T'/\IsT w' (Up F w w') T'/\Qaa T'=(QbD (Qe6 l) (Qaa T)).2/\OkM (Qaa T')/\Nw w w'/\((∀n∈l,(runM (Qaa T) n.m).2=Qaa T)->T'=T):=by
 obtain⟨p,hp⟩:=Qaj T;obtain⟨Z,HF⟩:=Yb (λW (hW:Ext w W)=>Qkp (h.ext (gj hW)) (QqD _) (D0:=λ_=>False) (λ_ e=>e) λ_ e=>e.elim) h.old;rw[Qao,hp]at Z ⊢;clear hp h;go_in;go_upto_region 1 with fail;generalize a8:World.alloc _ _=W0;obtain⟨a7,a4,a6,I⟩:=Qas w _ _ _ _ W0 a8;obtain⟨a2,a5⟩:=Yb a7 I;have q0:W0.cell? w=some (.pointer p):=a6.cell 0;clear a8 a7 a4 a6 I;go_wp2_with fail;refine(Z.o _ a2.o).mono ?_;rintro e w1 ⟨T',D,rfl,ok,hT,he,hM,hS,a3,hD,N⟩;obtain⟨p',a1⟩:=Qaj T';rw[Qao,a1];have I:=a3.blk a5.o λe=>e
 have q1:w1.cell? ⟨w+1,0,none⟩=some _:=I.cell 0;have f1:=I.frozen 0;have l1:=I.lt;obtain⟨HB,HP,b0,HT,HE,HM,a9⟩:=Yh I a1 ok hT he hM a3;have a0:=hY N;clear a1 ok hT he hM a3 N I q0 hS hD;go_wp2_with fail;generalize hW:World.setCell _ _ _=W;have hs:Sb (λi=>i=w.heap.size+1) w1 W:=by rw[<-hW];exact(gu (λi=>i=w.heap.size+1) w1).set (p:=⟨w+1,0,none⟩) (.inr rfl) _
 have hb:Blk W (w.heap.size+1) 48 #[.pointer p']:=by rw[<-hW];exact HB.o.QbH 0 (.pointer p')
 have q5:W.cell? ⟨w+1,0,none⟩=some (.pointer p'):=hb.cell 0;clear hW q1 f1;refine eN (v:=.agg #[.pointer p']) (by simp[results,results18,go_sem,q5]) rfl ?_;have z0:=a2.o.size;have z1:=a9.o.size;have z2:=hs.size;have a4:w.heap.size+1<W0.heap.size:=a5.o.lt;refine⟨T',by rw[Qao,HP.o],b0.o,(HT.o.agree λb hb=>hs.block b hb.2.1 ?_).mono λb hb=>hb.1.imp id λe=>⟨oM,by have:=hb.2.1;omega⟩,HE.o,HM.o,((gj a2.o).trans a9.o).comp hs λi hi e=>oM,a0.o⟩;rcases hb.1 with e|e
 .have:=(HF.o b e).2;omega
 omega
def QlL(n B:Nat)(codes:List Int)(j:Nat)(D:Nat->Prop)(W:World):Prop:=
 ∃sc:Sl,Blk W B 58 #[.slice sc.a j sc.c]/\W.ownsRow n 71 1 (.slice sc.a j sc.c) j ((codes.take j).map (.int .i64))/\sc.row≠some B/\∀b,D b↔b=B\/sc.row=some b
theorem Tryz.QjL:(prog.info? 71).map (λi=>(i.zero,i.size,i.bytes))=some (some (.int .i64 0),1,8):=kM
variable{D:Nat->Prop}{W:World}
theorem Qm3{I:List Int}{code:Int}(hl:I.length<=1000)(hn:n<=B)(hc:I[j]? = some code)(h:QlL n B I j D W) :
  Calls prog 40 #[code,.pointer (some B)] W λe w'=>e=.returned (.tuple #[])/\∃D',QlL n B I (j+1) D' w'/\Sb D W w'/\∀b,D' b->D b\/W.heap.size<=b:=by
 obtain⟨sc,N,Z,a7,hD⟩:=h;obtain⟨i0,hi,b0,c1,b7⟩:=eR Tryz.QjL;have c0:W.cell? B=some (.slice sc.a j sc.c):=N.cell 0;have lB:=N.lt;have c6:j<I.length:=(ae.1 hc).1;have a1:=(gh W).alloc #[.int .i64 code] 71;obtain⟨b8,b3,HB,c7,HD,HC,a4⟩:=Yh (gm W 71 #[.int .i64 code]) (Qab (F:=Lt W) Z (a1.agree λb N=>N) λb N=>(Qad Z N).2) (N.ext a1) Z hD hc a1;obtain⟨b4,b5,b9,a6⟩:=Ye (show j+1<=maxLen by unfold maxLen;omega) (show(j+1)*8<=140737488355328 by omega) (show n<=(W.alloc (.cells #[code] 71)).heap.size from ak (bZ (Nat.lt_of_le_of_lt hn lB)) a1.size) a7;clear N Z hD a1 hc a7;go_in;go_wp2_with(at_builtin;refine Qak _ rfl (.tmp 3) (.tmp 5) 58 rfl n 71 i0 _ 1 8 underlying58 hi b0 c1 b7 rfl oN sc j ((I.take j).map (.int .i64)) rfl b3.o (λb=>b=W.heap.size) ⟨some W,1⟩ 1 [.int .i64 code] rfl (gA b8.o oN rfl) (by simp[Value.oneCell']) b4.o b5.o b9.o ?_;intro s7 w9 a3 a0 a5;have a2:Blk w9 B 58 #[.slice sc.a j sc.c]:=(a0.grown.block B HB.o.lt (λe=>a6.o e.symm)).trans HB.o;have c9:w9.cell? B=some (.slice sc.a j sc.c):=a2.cell 0;have f9:=a2.frozen 0;have l9:=a2.lt;have c4:=hY a2;have b6:=hY a3;have c2:=hY a0;have a8:=hY a5;clear a2 a3 a0 a5);go_end0;have a9:s7.row≠some B:=λe=>by
  rcases a8.o with hs |⟨hs,-⟩
  .exact a6.o (by unfold Sl.row at e ⊢;rwa[hs]at e)
  unfold Sl.row at e;rw[hs]at e;have e:some (W.alloc (.cells #[code] 71)).heap.size=some B:=e;injection e with e;have:=a4.o.size;omega
 refine⟨rfl,λb=>b=B\/s7.row=some b,⟨s7,c4.o.QbH 0 _,?_,a9,λb=>Iff.rfl⟩,?_,λb N=>?_⟩
 ·rw [aJ,HC.o,aB]
  exact Qab (F:=λb=>s7.row=some b) b6.o (gw _ _ _ a9) λb N=>N
 ·have c3:Sb D (W.alloc (.cells #[code] 71)) w9:=by
   have hg:=c2.o.grown;exact⟨hg.os,hg.tape,hg.output,hg.size,λi hi hn=>hg.block i hi λe=>hn ((HD.o i).2 (.inr e.symm))⟩
  exact((a4.o.sb D).trans c3).set (p:=⟨B,0,none⟩) (.inr ((HD.o B).2 (.inl rfl))) _
 rcases N with rfl|N
 .exact .inl ((HD.o _).2 (.inl rfl))
 rcases a8.o with hs |⟨hs,-⟩
 .exact .inl ((HD.o b).2 (.inr (by unfold Sl.row at N ⊢;rwa[hs]at N)))
 unfold Sl.row at N;rw[hs]at N;have N:some (W.alloc (.cells #[code] 71)).heap.size=some b:=N;injection N with N;have:=a4.o.size;exact .inr oM
theorem Qoe{codes:List Int}(hl:codes.length<=1000)(hn:n<=B):Qvf 40 #[.pointer (some B)] codes (QlL n B codes) where
 eg:=λargs w=>rfl
 call:=λj code D W hc h=>Qm3 hl hn hc h
 stay:=λj D X W W' ⟨sc,h1,h2,h3,h4⟩ k hX=>⟨sc,k.blk h1 (hX _ ((h4 _).2 (.inl rfl))),Qab (F:=λb=>sc.row=some b) h2 (λb hb=>k.block b (Qad h2 hb).2 (hX _ ((h4 _).2 (.inr hb)))) λb hb=>hb,h3,h4⟩
 lt:=λj D W ⟨sc,h1,h2,h3,h4⟩ b hb=>by
  rcases(h4 b).1 hb with rfl|e
  .exact h1.lt
  exact(Qad h2 e).2
theorem Qgp{l:List Nm}(h:Qey w F G T s l)(hl:l.length<=1000) :
  Calls prog 20 #[Qao T,.slice s.a l.length s.c] w λe w'=>∃sc:Sl,e=.returned (.slice sc.a l.length sc.c)/\Rd w' (In w.heap.size w'.heap.size) 1 sc l.length ((QbD (Qe6 l) (Qaa T)).1.map (.int .i64))/\Nw w w':=by
 obtain⟨p,hp⟩:=Qaj T;obtain⟨I,N⟩:∃c,(QbD (Qe6 l) (Qaa T)).1=c:=⟨_,rfl⟩;have a1:I.length=l.length:=by
  have:=QgA (Qe6 l) (Qaa T) l.length (by rw[aq];exact ao _);rwa[aW (by rw[aq];exact ao _),N]at this
 obtain⟨i0,hi,b4,c2,b6⟩:=eR Tryz.QjL;have c4:∀W,(Instr.makeSlice 58 (.int .i64 0) (.int .i64 (l.length:Int))).run prog W=.ok (.slice (some W) 0 l.length) (W.alloc (.cells (madeCells (Value.int .i64 0).cells (l.length*i0.size)) 71)):=λW=>QbG (P:=prog) 58 71 i0 _ underlying58 hi b4 .i64 .i64 0 l.length (aA _) (by rw[b6];omega) oM W
 obtain⟨Z,HF,HG⟩:=Yc (λW (hW:Ext w W) B D0 (hB:w.heap.size+1<=B) h0 hD=>Qkp (h.ext (gj hW)) (Qoe (n:=w+1) (B:=B) (by rw[N,a1];exact hl) hB) (D0:=D0) h0 hD) h.old h.rowOld;have c0:=h.lib.lib.big;rw[Qao,hp,N]at Z;rw[Qao,hp];obtain⟨b7,b5⟩:=Yb a1 N;clear hp h N a1;go_in;go_upto_region 2 with fail;generalize a5:World.alloc _ _=W3;obtain⟨a2,c3,a6,a4,a9⟩:=Qal w _ _ _ _ _ _ W3 a5;have b3:QlL (w.heap.size+1) (w.heap.size+1+1) I 0 (λb=>b=w.heap.size+1+1\/some (w.heap.size+1)=some b) W3:=
  ⟨⟨some ⟨w+1,0,none⟩,l.length⟩,a9,⟨oO,.inr ⟨w+1,l.length,_,rfl,ao _,a4,aA _,by unfold maxLen;omega,by rw [fV,dD],oO⟩⟩,fun e=>by
    have e:some (w.heap.size+1)=some (w.heap.size+1+1):=e;injection e with e;omega,λb=>Iff.rfl⟩
 have HC:=hY (Z.o W3 a2 (w.heap.size+1+1) _ oM b3 λb hb=>by
  have c1:w<=b:=by
   rcases hb with hb|hb
   .omega
   injection hb with hb;omega
  exact⟨oM,λe=>by have:=(HF.o b e).2;omega,λe=>by have:=HG.o b e;omega⟩)
 have q0:W3.cell? w=some (.pointer p):=a6.cell 0;have b8:=hY a2;clear a5 a2 a6 a4 a9 b3;go_wp2_with fail;refine HC.o.mono ?_;rintro e w4 ⟨T',D,rfl,-,-,-,-,hS,b0,-,-⟩;obtain⟨p',a8⟩:=Qaj T';rw[Qao,a8];obtain⟨sc,a7,a0,-,-⟩:=hS;have q4:w4.cell? ⟨w+1+1,0,none⟩=some (.slice sc.a l.length sc.c):=a7.cell 0;obtain⟨a3,b9⟩:=Yb a0 b0;clear a7 a0 b0 q0 a8;go_wp2_with fail;go_ret;refine⟨sc,rfl,?_,(gj b8.o).comp b9.o λi hi e=>?_⟩
 ·have h:=gz a3.o
  rw[aW (by rw[b7.o];exact ao _)]at h;rw[b5.o];exact h.mono λb hb=>⟨by have:=hb.1;omega,hb.2⟩
 rcases e with e|e
 .omega
 injection e with e;omega
def QtU:MuS:=⟨Sl.none,Sl.none,Sl.none,Sl.none,Sl.none⟩
theorem Tryz.QgB:(prog.info? 37).map (λi=>(i.zero,i.size,i.bytes))=some (some (Qaz (.mk 0 ByteArray.empty ByteArray.empty 0 false zeroV false zeroV []) QtU),19,264):=kM
theorem QhR{b:Nat}{T:TypeId}{m:Mu}(h:Blk w b T (Qa2 m c))(o n:Nat)(N:o+n<=19):w.there b o n:=λj I=>by
 refine⟨?_,h.frozen _⟩;rw[h.cell,cz (by rw[bm,QfD];omega)];rfl
def Qi2(m:Mu)(w:World)(e:Ending)(w':World):Prop:=∃c',e=.returned (Qaz m c')/\Ext w w'/\RMu w' (In w.heap.size w'.heap.size) m c'
theorem QpO{wr W w9:World}{m:Mu}(h:Nw wr W)(I:Wr W w9 s2.row)(hs:s7.a=s2.a\/s7.a=some ⟨W,0,none⟩/\Wr W w9 none)(Z:RMu wr (QlN n wr s2) m c):RMu w9 (QlN n w9 s7) m c:=by
 have h1:RMu W (QlN n wr s2) m c:=Z.agree (gp h λb hb=>hb.2.1);have h2:RMu w9 (QlN n wr s2) m c:=h1.agree (I.agree (λi hi=>ab hi.2.1 h.size) λk N hF=>hF.2.2 N);refine h2.mono λi hi=>⟨hi.1,ab hi.2.1 (ak h.size I.grown.size),λe=>?_⟩
 rcases hs with hs |⟨hs,-⟩
 .exact hi.2.2 (by unfold Sl.row at e ⊢;rwa[hs]at e)
 unfold Sl.row at e;rw[hs]at e;have e:some W.heap.size=some i:=e;injection e with e;have:=hi.2.1;have:=h.size;omega
variable{w6 w9:World}
theorem Qtu{m:Mu}(hn:n<=w0)(N:∀b,s2.row=some b->b<w0.heap.size)(h:Nw w6 W)(hw:Wr W w9 s2.row)(hs:s7.a=s2.a\/s7.a=some ⟨W,0,none⟩/\Wr W w9 none)(Z:RMu w6 (In w0.heap.size w6.heap.size) m c):RMu w9 (QlN n w9 s7) m c:=
 QpO h hw hs (Z.mono λb I=>⟨Nat.le_trans hn I.1,I.2,λe=>by have:=N b e;have:=I.1;omega⟩)
theorem Qm5(n:Nat):∀(m:Mu) (c:MuS) (w:World),SizeOf.sizeOf m<=n->RMu w (Lt w) m c->Calls prog 33 #[Qaz m c] w (Qi2 m w):=by
 induction n with
 |zero=>intro m c w h;have:=Mu.Qb6 m;omega
 | succ n ih=>
   intro m c w hn hm;obtain⟨k9,k4,-,-,-⟩:=hm.parts;obtain⟨i0,hi,d0,c4,g0⟩:=eR Tryz.QgB;have q2:=hm.len;obtain⟨g4,j4,HI,HM,HN⟩:=Yf (λW (hW:Ext w W)=>QdS _ _ (ao _) W _ _ ((k9.agree (hW.agree λ_ h=>h)).mono (G:=Lt W) λb I=>ab I hW.size)) (λW (hW:Ext w W)=>QdS _ _ (ao _) W _ _ ((k4.agree (hW.agree λ_ h=>h)).mono (G:=Lt W) λb I=>ab I hW.size)) ih hm hn;clear ih hm hn k9 k4;go_in;go_upto_region 1 with fail;generalize i3:World.alloc _ _=W0;obtain⟨i2,e0,b0,a3⟩:=Qas w _ _ _ _ W0 i3;have b0:Blk W0 w.heap.size 37 (Qa2 m c):=b0;obtain⟨-,-,-,-,-,c5,c6,c7,c8,c9,l5,-,-,-,-,-,-,-,-⟩:=(gC b0).c19;obtain⟨b7,k5,f2,f3⟩:=Ye i2 b0 a3 e0;clear i3 i2 b0 a3 e0;go_wp2_with fail;refine(g4.o _ b7.o).mono ?_;rintro e w1 ⟨sl,so,rfl,a4,l2⟩;have a3:=k5.o.ext a4;obtain⟨d3,f6,f5,g5,g7,g8⟩:=Yg (QhR a3 5 6 oN) a3 (f2.o.ext a4) (b7.o.trans a4) l2.rv a4.size;clear a3 a4 l2 c5 c6 c7 c8 c9 l5;go_wp2_with(refine fE rfl 34 (.tmp 9) (.tmp 8) rfl w.heap.size 5 #[.int .i64 m.was.kind,.bool m.was.b,.int .i64 m.was.i,.string m.was.t,.slice sl.a m.was.l.length sl.c,.slice so.a m.was.ok.length so.c] rfl rfl d3.o kM (by simp[Value.oneCell']) ?_;generalize e6:World.setCells _ _ _ _=v2;obtain⟨e2,i7,f7⟩:=Qp6 (m':=m) (c':=⟨sl,so,c.v1,c.v2,c.s⟩) f6.o e6 rfl;have l4:Ext w v2:=(by rw[<-e6];exact Ext.setCells (ao _) _ _ g5.o);obtain⟨-,-,-,-,-,-,-,-,-,-,-,-,o7,o3,p1,p7,o8,l6,-⟩:=(gC e2).c19;have j1:=hY e2;have e4:=hY i7;have l3:=hY f7;have d6:=hY l4;clear e6 e2 i7 f7 l4);refine(j4.o _ d6.o).mono ?_;rintro e w3 ⟨Z,N,rfl,c1,f8⟩;have e3:=j1.o.ext c1;obtain⟨c3,i8,j3,i5,b9⟩:=Yf (QhR e3 12 6 oN) e3 (d6.o.trans c1) f8.rv c1;clear e3 c1 f8 o7 o3 p1 p7 o8 l6;go_wp2_with(refine fE rfl 34 (.tmp 13) (.tmp 12) rfl w.heap.size 12 #[.int .i64 m.v.kind,.bool m.v.b,.int .i64 m.v.i,.string m.v.t,.slice Z.a m.v.l.length Z.c,.slice N.a m.v.ok.length N.c] rfl rfl c3.o kM (by simp[Value.oneCell']) ?_;generalize d7:World.setCells _ _ _ _=v4;obtain⟨a0,g9,i1⟩:=Qp6 (m':=m) (c':=⟨sl,so,Z,N,c.s⟩) i8.o d7 rfl;have i4:Ext w v4:=(by rw[<-d7];exact Ext.setCells (ao _) _ _ j3.o);have j8:v4.cell? ⟨w,0+18,none⟩=some (.slice c.s.a m.l.length c.s.c):=(gC a0) 18 _ rfl;have o5:=hY a0;have b8:=hY g9;have k1:=hY i1;have j0:=hY i4;clear d7 a0 g9 i1 i4);have e0:=f3.o;have z1:=g8.o;have z2:=l3.o;have z3:=b9.o.size;have z4:=k1.o;have q1:=b7.o.size;obtain⟨l9,p3,p5⟩:=Yc (show RV v4 (λb=>w+2<=b/\b<v4) m.was sl so from(((g7.o.agree (e4.o.mono λb I e=>by have:=I.1;omega)).agree (b9.o.agree λb I=>by have:=I.2;omega)).agree (b8.o.mono λb I e=>by have:=I.1;omega)).mono λb I=>⟨by have:=I.1;omega,by have:=I.2;omega⟩) (show RV v4 (λb=>w+2<=b/\b<v4) m.v Z N from(i5.o.agree (b8.o.mono λb I e=>by have:=I.1;omega)).mono λb I=>⟨by have:=I.1;omega,by have:=I.2;omega⟩) (show Blk v4 (w.heap.size+1) 37 _ from(b8.o _ oM).trans (((e4.o _ oM).trans f5.o) |>λh=>(b9.o.heap oM).trans h));clear g7 i5 k5 f6 j1 i8 e4 b8 f2 f5 g4 j4 b7 g5 d6 j3 b9 d3 c3 f3 l3 k1 g8;go_loopw[3,17] (λv3 o0 wr=>∃(j:Nat) (s2:Sl) (ys:List (Mu × MuS)),o0=.int .i64 (j:Int)/\v3=.slice s2.a ys.length s2.c/\j<=m.l.length/\Yd (ys.length=j)/\Yd (ys.map Prod.fst=m.l.take j)/\Yd (Ext v4 wr)/\Yd (wr.ownsRow v4.heap.size 37 19 (.slice s2.a ys.length s2.c) ys.length (ys.flatMap λp=>Qan p.1 p.2))/\Yd (∀y∈ys,RMu wr (QlN v4.heap.size wr s2) y.1 y.2)) (λ_ v _=>m.l.length -(intOf v).toNat)
   case atStart=>exact⟨0,Sl.none,[],rfl,rfl,aA _,hY rfl,hY rfl,hY (gh _),hY (eS _ _ _ _),hY λy h=>by cases h⟩
   obtain⟨j,s2,ys,rfl,rfl,hj,a9,HY,HX,a1,f1⟩:=hrel;by_cases k2:j<m.l.length
   ·have l1:(j:Int)<(m.l.length:Int):=oM
    have q7:decide ((j:Int)<(m.l.length:Int))=true:=eI l1;have l0:(0:Int)<=(j:Int):=oM
    obtain⟨x,hx⟩:∃x,m.l[j]? = some x:=⟨_,ac k2⟩;obtain⟨b,o,y,p8,c2,q6,q5,c0,k6⟩:=HM.o.at hx;have c2:b<w:=c2;have a8:Ext w wr:=j0.o.trans HX.o;have q4:b<wr:=ab c2 a8.size;obtain⟨j2,f0,p2⟩:=Yc (c0.agree (a8.agree λ_ h=>h) c2) (λW (hW:Ext wr W)=>HI.o x y W (by have:=Mu.Qsr hx;have:=HN.o;omega) ((k6.agree ((a8.trans hW).agree λ_ h=>h)).mono λb I=>ab I (a8.trans hW).size)) (show m.l.take (j+1)=m.l.take j++[x]by rw[aJ,hx];rfl);rw[p8];clear k6 c0 hx a8;go_wp2_with(first |(refine Qah rfl (.tmp 19) rfl b (o+j*19) rfl x y j2.o ?_) |(refine QiR rfl (.tmp 5) (.tmp 20) rfl x y (w0:=wr) (b:=wr) rfl ((gh wr).alloc _ _) (gm wr _ _) rfl rfl rfl ?_;intro w5 b4 k7;have a7:=hY b4;have p4:=hY (gC k7);clear b4 k7) |(refine Qah rfl (.tmp 5) rfl wr.heap.size 0 rfl x y p4.o ?_));refine(f0.o _ a7.o).mono ?_;rintro e w6 ⟨c',rfl,f4,j7⟩;have b3:=a7.o.trans f4;have d8:=(gh w6).alloc (Qa2 x c') 37;have l7:=hY (gm w6 37 (Qa2 x c'));have a2:Ext wr (w6.alloc (.cells (Qa2 x c') 37)):=b3.trans d8;obtain⟨d4,p9,q3,o1,k8,g6,n7⟩:=Yh a2 d8 b3 j7 a7.o.size (Qab (F:=Lt wr) a1.o (a2.agree λb I=>I) λb I=>(Qad a1.o I).2) (show ys.length+1<=maxLen by unfold maxLen;have:=a9.out;omega);obtain⟨n9,o2⟩:=Yb (show(ys.length+1)*264<=140737488355328 by have:=a9.out;omega) (show v4.heap.size<=(w6.alloc (.cells (Qa2 x c') 37)).heap.size from(HX.o.trans a2).size);clear f4 j7 b3 d8 a2;go_wp2_with(first |(refine QbT rfl 35 37 1 #[(0,.tmp 23)] rfl [Qaz x c'] 19 underlying35 hi c4 d0 oN rfl oN oN (λv hv=>by rw[aV.1 hv];rfl) rfl (Qa2 x c') rfl ?_) |(at_builtin;refine Qak _ rfl (.tmp 21) (.tmp 24) 35 rfl v4.heap.size 37 i0 _ 19 264 underlying35 hi d0 c4 g0 rfl oN s2 ys.length (ys.flatMap λp=>Qan p.1 p.2) rfl g6.o (λb=>b=w6.heap.size) ⟨some w6,1⟩ 1 (Qan x c') rfl (gA l7.o oN rfl) (Qml (x,c')) n7.o n9.o o2.o ?_;intro s7 w9 a6 d5 j9;have p6:=hY a6;have e8:=hY d5;have i9:=hY j9;clear a6 d5 j9));go_roundw
    case measure=>simp[intOf];omega
    have o9:=λb (I:s2.row=some b)=>(Qad a1.o I)
    refine⟨j+1,s7,ys++[(x,c')],by go_num,by rw[aj];rfl,k2,hY (by rw[aj,a9.out];rfl),hY (by rw[aB,HY.o,p2.o];rfl),hY ?_,hY ?_,hY λz hz=>?_⟩
    .exact (HX.o.trans d4.o).wr e8.o λi hi=>(Qad g6.o hi).1
    ·rw [aj,aQ,show [(x,c')].flatMap (fun p=>Qan p.1 p.2)=Qan x c' by simp]
     exact p6.o
    rcases aO.1 hz with hz|hz
    .exact QpO (gj d4.o) e8.o i9.o (f1.o z hz)
    rw[aV.1 hz];have:=k8.o;exact Qtu (w0:=w5) (by have:=HX.o.size;omega) (λb I=>by have:=(o9 b I).2;omega) (gj p9.o) e8.o i9.o o1.o
   obtain rfl:j=m.l.length:=oM
   have l1:decide ((m.l.length:Int)<(m.l.length:Int))=false:=eG oM;have a0:=o5.o.ext HX.o;have j8:wr.cell? ⟨w,18,none⟩=some _:=a0.cell 18;have n2:=a0.frozen 18;have lb:=a0.lt;have hy:=HY.o;rw[aR]at hy;obtain⟨l8,o4,p0⟩:=Yc hy a0 (p5.o.ext HX.o);clear a0 hy;rw[a9.out];go_upto_region 10 with fail;generalize b5:World.setCell _ _ _=w5;have g3:Blk w5 w.heap.size 37 (Qa2 m ⟨sl,so,Z,N,s2⟩):=by
    have:=o4.o.QbH 18 (.slice s2.a m.l.length s2.c);rw[b5]at this;exact this
   have a5:Agree (λb=>b≠w.heap.size) wr w5:=by rw[<-b5];exact gw wr ⟨w,18,none⟩ _ λh=>h rfl
   have b4:Ext w w5:=by rw[<-b5];exact(j0.o.trans HX.o).setCell (p:=⟨w,18,none⟩) (ao _) _
   have j5:w5.heap.size=wr.heap.size:=by rw[<-b5];exact eP _ _ _
   have e7:Blk w5 (w.heap.size+1) 37 _:=(a5 _ oM).trans p0.o;obtain⟨k0,o6,n8,k3,a7,n6⟩:=Yg (Qe3 e7 (show 19<=_ by decide)) (gC g3) e7 a5 b4 j5;clear b5 g3 a5 b4 j5 e7 j8 n2;go_wp2_with(first |(refine Qah rfl (.tmp 1) rfl w.heap.size 0 rfl m ⟨sl,so,Z,N,s2⟩ o6.o ?_) |(refine fE rfl 37 (.tmp 2) (.tmp 29) rfl (w.heap.size+1) 0 (Qa2 m ⟨sl,so,Z,N,s2⟩) rfl rfl k0.o (by exact Tryz.Qem) (fO (Qml (m,⟨sl,so,Z,N,s2⟩))) ?_));generalize hV:World.setCells _ _ _ _=v;have q0:Blk v (w.heap.size+1) 37 (Qa2 m ⟨sl,so,Z,N,s2⟩):=Qjf n8.o rfl hV;have f9:Agree (λb=>b≠w.heap.size+1) w5 v/\v.heap.size=w5.heap.size:=by rw[<-hV];exact Qba _ _ _ _
   have n4:Ext w v:=by rw[<-hV];exact Ext.setCells (cG _) _ _ a7.o
   clear hV;refine eN (v:=Qaz m ⟨sl,so,Z,N,s2⟩) (results_cell_row (p:=2) (ty:=37) results33 _ v (w.heap.size+1) 37 _ (0,0) _ rfl q0 underlying37 rfl (by exact Tryz.Qem)) rfl ?_;have zx:=HX.o.size;have zs:=n6.o;have zf:=f9.2;have b6:Agree (λb=>w+2<=b) wr v:=λb I=>(f9.1 b oM).trans (k3.o b oM)
   obtain⟨bl,fl,e1,c0⟩:=QuJ a1.o rfl;have i6:∀b,v4.heap.size<=b->b<wr.heap.size->In w.heap.size v.heap.size b:=λb h1 h2=>⟨oM,oM⟩
   have j6:∀k x,m.l[k]? = some x->∃p:Mu × MuS,ys[k]? = some p/\p.1=x:=λk x hx=>by
    rw[<-l8.o,ar]at hx;cases hp:ys[k]? with
    |none=>rw[hp]at hx;cases hx
    |some p=>rw[hp]at hx;injection hx with hx;exact⟨p,hp,hx⟩
   refine⟨_,rfl,n4,HM.o.mk' (bl:=bl) (fl:=fl) (cl:=λk=>((ys[k]?).getD default).2) ?_ ?_ ?_ (λk x hx=>?_) λk x hx=>?_⟩
   .exact ((l9.o.agree (HX.o.agree λb I=>I.2)).agree (b6.mono λb I=>I.1)).mono λb I=>⟨by have:=I.1;omega,by have:=I.2;omega⟩
   .exact ((p3.o.agree (HX.o.agree λb I=>I.2)).agree (b6.mono λb I=>I.1)).mono λb I=>⟨by have:=I.1;omega,by have:=I.2;omega⟩
   ·have:=a9.out
    rw[this]at e1;exact e1.mono λb I=>i6 b I.1 I.2
   ·obtain ⟨p,hp,rfl⟩:=j6 k x hx
    simp only[hp];exact(c0 k p hp).agree (F:=λb=>v4<=b) (b6.mono λb I=>oM) (e1.fits (QaW hp)).1
   obtain⟨p,hp,rfl⟩:=j6 k x hx;simp only[hp];exact((f1.o p (am hp)).agree (b6.mono λb I=>by have:=I.1;omega)).mono λb I=>i6 b I.1 I.2.1
theorem QoS{m:Mu}(h:RMu w (Lt w) m c):Calls prog 33 #[Qaz m c] w (Qi2 m w):=Qm5 _ m c w (ao _) h
abbrev Qd6(ys:List (Nm × MuS)):List Value:=ys.flatMap λp=>Qbw p.1 p.2
theorem QjD(a b:List (Nm × MuS)):Qd6 (a++b)=Qd6 a++Qd6 b:=aQ
theorem Qun{last:Int}{x:Nm}{y:MuS}(hB:Blk w B 22 #[.int .u64 last]):Calls prog 32 #[QqR x y,.pointer (some B)] w λe w'=>e=.returned (.bool (decide (last<x.id)))/\Ext w w':=by
 have HB:=hY hB;clear hB;go_in;go_upto_region 1 with fail;generalize N:World.alloc _ _=W0;have I:Ext w W0:=by rw[<-N];exact(gh w).alloc _ _
 have Z:Blk W0 w.heap.size 39 (Qh5 x y):=by rw[<-N];exact gm w _ _
 have c0:W0.cell? w=some (.int .u64 x.id):=(NmC.Qax Z).id;have c1:W0.cell? B=some (.int .u64 last):=(HB.o.ext I).cell 0;have a0:=hY I;clear N I Z;go_wp2_with fail;go_ret;exact⟨rfl,a0.o⟩
theorem Qmf{last:Int}{l:List Nm}{x:Nm}(h:l[j]? = some x):QbK last (l.take (j+1))=if last<x.id then QbK last (l.take j)++[x]else QbK last (l.take j):=by
 rw[aJ,h];exact Qnq _ _ _
theorem Qrl{l:List Nm}{last:Int}(hr:Qa7 w F s l)(hF:∀b,F b->b<w.heap.size)(hB:Blk w B 22 #[.int .u64 last]) :
  Calls prog 31 #[.slice s.a l.length s.c,.func (.func 32) #[] #[.pointer (some B)]] w λe w'=>∃(s':Sl) (ys:List (Nm × MuS)),e=.returned (.slice s'.a ys.length s'.c)/\Ext w w'/\ys.map Prod.fst=QbK last l/\w'.ownsRow w.heap.size 39 20 (.slice s'.a ys.length s'.c) ys.length (Qd6 ys)/\∀y∈ys,RMu w F y.1.m y.2:=by
 obtain⟨i0,hi,b6,b0,c6⟩:=eR Tryz.Qcz;have e1:=hr.len;obtain⟨HR,HF,HB⟩:=Yc hr hF hB;clear hr hF hB;go_in;go_wp2_with fail;go_loopw[5,10] (λv5 c4 wr=>∃(j:Nat) (s2:Sl) (ys:List (Nm × MuS)),c4=.int .i64 (j:Int)/\v5=.slice s2.a ys.length s2.c/\j<=l.length/\ys.length<=j/\Yd (ys.map Prod.fst=QbK last (l.take j))/\Yd (Ext w wr)/\Yd (wr.ownsRow w.heap.size 39 20 (.slice s2.a ys.length s2.c) ys.length (Qd6 ys))/\Yd (∀y∈ys,RMu w F y.1.m y.2)) (λ_ v _=>l.length -(intOf v).toNat)
 case atStart=>exact⟨0,Sl.none,[],rfl,rfl,aA _,ao _,hY rfl,hY (gh _),hY (eS _ _ _ _),hY λy h=>by cases h⟩
 obtain⟨j,s2,ys,rfl,rfl,hj,c1,HY,HX,I,a4⟩:=hrel;by_cases a7:j<l.length
 ·have l1:(j:Int)<(l.length:Int):=oM
  have e7:decide ((j:Int)<(l.length:Int))=true:=eI l1;have l0:(0:Int)<=(j:Int):=oM
  obtain⟨x,hx⟩:∃x,l[j]? = some x:=⟨_,ac a7⟩;obtain⟨b,o,y,d7,a9,e6,e2,b5,c2⟩:=HR.o.at hx;have a8:Agree F w wr:=HX.o.agree HF.o;have a2:=hY (b5.agree a8 a9);have e3:=a2.o.lt;obtain⟨c9,b4⟩:=Yb c2 (Qmf (last:=last) hx);rw[d7];clear b5 c2 a8 hx a9;go_wp2_with(first |(refine QjZ rfl (.tmp 12) rfl b (o+j*20) rfl x y a2.o ?_) |(refine Qsz rfl rfl rfl x y (w0:=wr) (b:=wr) rfl ((gh wr).alloc _ _) (gm wr _ _) rfl rfl rfl ?_;intro w5 b3 c3;have b9:=hY b3;have c0:=hY (NmC.Qax c3);clear b3 c3) |(refine QjZ rfl (.tmp 7) rfl wr.heap.size 0 rfl x y c0.o ?_));refine(Qun (HB.o.ext (HX.o.trans b9.o))).mono ?_;rintro e w6 ⟨rfl,a5⟩;obtain⟨a1,d5⟩:=Yb (b9.o.trans a5) (c0.o.ext a5);clear a5;by_cases hk:last<x.id
  ·have g:decide (last<x.id)=true:=eI hk
   have N:=b4.o;rw[eH hk]at N;have HA:=hY N;have a6:=(gh w6).alloc (Qh5 x y) 39;obtain⟨c7,e0⟩:=Yb (gm w6 39 (Qh5 x y)) a6;have Z:Ext wr (w6.alloc (.cells (Qh5 x y) 39)):=a1.o.trans a6;obtain⟨b7,d0,d3,d6⟩:=Ye (Qab (F:=Lt wr) I.o (Z.agree λb hb=>hb) λb hb=>(Qad I.o hb).2) (show ys.length+1<=maxLen by unfold maxLen;omega) (show(ys.length+1)*272<=140737488355328 by omega) (show w.heap.size<=(w6.alloc (.cells (Qh5 x y) 39)).heap.size from(HX.o.trans Z).size);rw[g];clear hk g N a6 Z;go_wp2_with(first |(refine QjZ rfl (.tmp 7) rfl wr.heap.size 0 rfl x y d5.o ?_) |(refine QbT rfl 23 39 1 #[(0,.tmp 18)] rfl [QqR x y] 20 underlying23 hi b0 b6 oN rfl oN oN (λv hv=>by rw[aV.1 hv];rfl) rfl (Qh5 x y) rfl ?_) |(at_builtin;refine Qak _ rfl (.tmp 17) (.tmp 19) 23 rfl w.heap.size 39 i0 _ 20 272 underlying23 hi b6 b0 c6 rfl oN s2 ys.length (Qd6 ys) rfl b7.o (λb=>b=w6.heap.size) ⟨some w6,1⟩ 1 (Qbw x y) rfl (gA c7.o oN rfl) (Qtw (x,y)) d0.o d3.o d6.o ?_;intro s7 w9 a0 a3 b8;have d4:=hY a0;have d8:=hY a3;have e4:=hY b8;clear a0 a3 b8));go_roundw
   case measure=>simp[intOf];omega
   refine⟨j+1,s7,ys++[(x,y)],by go_num,by rw[aj];rfl,a7,by rw[aj];exact Nat.succ_le_succ c1,hY (by rw[aB,HY.o,HA.o];rfl),hY ?_,hY ?_,hY λz hz=>?_⟩
   .exact ((HX.o.trans a1.o).trans e0.o).wr d8.o λi hi=>(Qad b7.o hi).1
   ·rw [aj,QjD,show Qd6 [(x,y)]=Qbw x y by simp [Qd6]]
    exact d4.o
   rcases aO.1 hz with hz|hz
   .exact a4.o z hz
   rw[aV.1 hz];exact c9.o
  have g:decide (last<x.id)=false:=eG hk;have N:=b4.o;rw[eE hk]at N;have HA:=hY N;rw[g];clear hk g N;go_wp2_with fail;go_roundw
  case measure=>simp[intOf];omega
  exact⟨j+1,s2,ys,by go_num,rfl,a7,ef c1,hY (by rw[HA.o];exact HY.o),hY (HX.o.trans a1.o),hY (Qab (F:=Lt wr) I.o (a1.o.agree λb hb=>hb) λb hb=>(Qad I.o hb).2),a4⟩
 obtain rfl:j=l.length:=oM
 have l1:decide ((l.length:Int)<(l.length:Int))=false:=eG oM;have hy:=HY.o;rw[aR]at hy;have c8:=hY hy;clear hy;go_wp2_with fail;go_ret;exact⟨s2,ys,rfl,HX.o,c8.o,I.o,a4.o⟩
variable{cs:List Value}
theorem Qp4{base e size n:Nat}(h:w.ownsRow base e size (.slice s.a n s.c) n cs)(hn:0<n):∃g I,s.a=some ⟨g,0,none⟩/\base<=g/\Blk w g e I/\n*size<=I.size/\n<=s.c/\s.c<=maxLen:=by
 rcases h.2 with⟨hv,h0⟩ |⟨g,a2,I,hv,a1,hg,N,a0,Z,ht⟩
 .omega
 simp only[Value.slice.injEq]at hv;obtain⟨h1,-,h2⟩:=hv;subst h2;exact⟨g,I,h1,a1,hg,by rw[Z];exact cg _ N,N,a0⟩
structure Qos(w:World)(F:Nat->Prop)(g:Nat)(L:List Nm)(j:Nat)(cc:Nat->MuS)(wr:World):Prop where
 x:Ext w wr
 blk:0<L.length->∃cur,Blk wr g 39 cur/\L.length*20<=cur.size
 cells:∀k x,L[k]? = some x->NmC wr g (k*20) x (cc k)
 new:∀k x,k<j->L[k]? = some x->RMu wr (λb=>w.heap.size<=b/\b<wr.heap.size/\b≠g) x.m (cc k)
 old:∀k x,j<=k->L[k]? = some x->RMu w F x.m (cc k)
theorem Qos.step{w wr W:World}{L:List Nm}{cc:Nat->MuS}(h:Qos w F g L j cc wr)(hg:w<=g){x:Nm}(hx:L[j]? = some x)(k:Ext wr W)(hr:RMu W (In wr.heap.size W.heap.size) x.m c') :
  Qos w F g L (j+1) (λi=>if i=j then c' else cc i) (W.setCells g (j*20+1) (Qan x.m c')):=by
 have b0:j<L.length:=(ae.1 hx).1;obtain⟨a8,I,hc⟩:=h.blk oM;have a9:=I.lt;have a1:=I.ext k;have a7:W.there g (j*20+1) (Qan x.m c').length:=λi hi=>by
  rw[QfD]at hi;refine⟨?_,a1.frozen _⟩;rw[a1.cell,cz oM];rfl
 have a6:=fT W g (j*20+1) (Qan x.m c') a7;have a0:∀o',(o'<j*20+1\/j*20+20<=o')->(W.setCells g (j*20+1) (Qan x.m c')).cell? ⟨g,o',none⟩=W.cell? ⟨g,o',none⟩:=λo' ho=>by
  rw[World.cell?_setCells_out g _ _ _ _ (λ_ _=>by rw[QfD];show o'<j*20+1\/j*20+1+19<=o';omega)]
 have a4:Agree (λb=>b≠g) W (W.setCells g (j*20+1) (Qan x.m c')):=(Qba g (Qan x.m c') (j*20+1) W).1;have a5:(W.setCells g (j*20+1) (Qan x.m c')).heap.size=W.heap.size:=(Qba g (Qan x.m c') (j*20+1) W).2;refine⟨Ext.setCells hg _ _ (h.x.trans k),?_,λi y Z=>?_,λi y hi Z=>?_,λi y hi Z=>?_⟩
 ·obtain ⟨a2,h1,h2⟩:=Qcv (Qan x.m c') (j*20+1) a1
  exactλ_=>⟨a2,h1,by rw[h2];exact hc⟩
 ·have a3:=(h.cells i y Z).ext k
  by_cases N:i=j
  ·subst N
   obtain rfl:x=y:=by rw[hx]at Z;injection Z
   simp only[if_pos];intro q u hu;cases q with
   |zero=>rw[a0 _ (.inl oM)];exact a3 0 u (by simpa[Qbw]using hu)
   | succ q=>
     have:=a6 q u (by simpa[Qbw]using hu);rwa[show i*20+(q+1)=i*20+1+q by omega]
  simp only[if_neg N];intro q u hu;have hq:q<20:=by have:=(ae.1 hu).1;rwa[Qtp]at this
  rw[a0 _ oM];exact a3 q u hu
 ·by_cases N:i=j
  ·subst N
   obtain rfl:x=y:=by rw[hx]at Z;injection Z
   simp only[if_pos];exact(hr.agree (a4.mono λb I e=>by have:=I.1;omega)).mono λb I=>⟨by have:=I.1;have:=h.x.size;omega,by rw[a5];exact I.2,λe=>by have:=I.1;omega⟩
  simp only[if_neg N];have h1:=h.new i y oM Z;exact((h1.agree (k.agree λb I=>I.2.1)).agree (a4.mono λb I=>I.2.2)).mono λb I=>⟨I.1,by rw[a5];exact ab I.2.1 k.size,I.2.2⟩
 rw[eE oM];exact h.old i y oM Z
theorem Qfk{l:List Nm}{last:Int}(hr:Qa7 w F s l)(hF:∀b,F b->b<w.heap.size) :
  Calls prog 12 #[.int .u64 last,.slice s.a l.length s.c] w λe w'=>∃s':Sl,e=.returned (.slice s'.a (QbK last l).length s'.c)/\Ext w w'/\Qa7 w' (In w.heap.size w'.heap.size) s' (QbK last l):=by
 have d7:=hr.len;have d0:=QgH last l;obtain⟨b9,HG,HF⟩:=Yc (show ∀n∈QbK last l,(Lit.int .u64 n.id).wf=true fromλn hn=>hr.wf n (bQ.1 hn).1) (λW (hW:Ext w W) B hB=>Qrl (B:=B) (last:=last) (hr.ext hW hF) (λb Z=>ab (hF b Z) hW.size) hB) hF;obtain⟨L,hL⟩:∃L,QbK last l=L:=⟨_,rfl⟩;rw[hL]at d0 b9 HG ⊢;clear hr hF hL;go_in;go_upto_region 1 with fail;generalize c3:World.alloc _ _=W0;obtain⟨b0,b4,e4⟩:=Qb2 c3;obtain⟨a8,HC⟩:=Yb b0 (HG.o W0 b0 _ b4);clear c3 b0 b4;go_wp2_with fail;refine HC.o.mono ?_;rintro e w1 ⟨s1,ys,rfl,b5,a9,a1,b6⟩;have N:ys.length=L.length:=by rw[<-a9,aq]
 obtain⟨bl,fl,a3,b8⟩:=QuK a1 rfl;have z0:=a8.o.size;have a4:0<L.length->s1.a=some ⟨bl,0,none⟩/\w<=bl/\L.length<=s1.c/\s1.c<=maxLen/\fl=0/\∃a0,Blk w1 bl 39 a0/\L.length*20<=a0.size:=λh0=>by
  obtain⟨g,a0,h1,h2,h3,h4,h5,h6⟩:=Qp4 a1 (by rw[N];exact h0);obtain⟨e1,-,-⟩:=a3.eq (by rw[N];exact h0);have e1:s1.a=some ⟨bl,fl,none⟩:=e1;rw[h1]at e1;injection e1 with e1;injection e1 with e1 e2;subst e1 e2;rw[N]at h4 h5;exact⟨h1,oM,h5,h6,rfl,a0,h3,h4⟩
 have hM:Qos w F bl L 0 (λk=>((ys[k]?).getD default).2) w1:=by
  have b7:∀k x,L[k]? = some x->∃p:Nm × MuS,ys[k]? = some p/\p.1=x:=λk x I=>by
   rw[<-a9,ar]at I;cases hp:ys[k]? with
   |none=>rw[hp]at I;cases I
   |some p=>rw[hp]at I;injection I with I;exact⟨p,hp,I⟩
  refine⟨a8.o.trans b5,λh0=>(a4 h0).2.2.2.2.2,λk x I=>?_,λk x h0=>absurd h0 (ew k),λk x _ I=>?_⟩
  ·obtain ⟨p,hp,rfl⟩:=b7 k x I
   have h1:=b8 k p hp;rw[(a4 (QaW I)).2.2.2.2.1,aD]at h1;simp only[hp];exact h1
  obtain⟨p,hp,rfl⟩:=b7 k x I;simp only[hp];exact(b6 p (am hp)).agree λb Z=>(a8.o.heap (HF.o b Z)).symm
 obtain⟨HM,b3⟩:=Yb hM a4;rw[N]at a3 ⊢;have c9:=hY a3;clear b5 a9 a1 b6 N a3 b8 a4 hM;go_wp2_with fail;go_loopw[12] (λv wr=>∃(j:Nat) (cc:Nat->MuS),v=.int .i64 (j:Int)/\j<=L.length/\w1.heap.size<=wr.heap.size/\Yd (Qos w F bl L j cc wr)) (λv _=>L.length -(intOf v).toNat)
 case atStart=>exact⟨0,_,rfl,aA _,ao _,HM⟩
 obtain⟨j,cc,rfl,hj,e8,HL⟩:=hrel;by_cases c0:j<L.length
 ·have l1:(j:Int)<(L.length:Int):=oM
  have e6:decide ((j:Int)<(L.length:Int))=true:=eI l1;have l0:(0:Int)<=(j:Int):=oM
  obtain⟨x,I⟩:∃x,L[j]? = some x:=⟨_,ac c0⟩;obtain⟨d3,c6,e3,e0,-,-⟩:=b3.o oM;have a5:=hY (HL.o.cells j x I).mu;have c1:=HL.o.old j x (ao _) I;obtain⟨c8,d4,d5⟩:=Yc (QoS ((c1.agree (HL.o.x.agree HF.o)).mono (G:=Lt wr) λb Z=>ab (HF.o b Z) HL.o.x.size)) I c6;have d8:=a5.o.lt;rw[d3];clear c1 I c6;go_wp2_with(refine Qah rfl (.tmp 20) rfl bl (j*20+1) rfl x.m (cc j) a5.o ?_);refine c8.o.mono ?_;rintro e w5 ⟨c',rfl,a2,c2⟩;have a6:=HL.o.step d5.o d4.o a2 c2;have a7:=hY a6;have c4:w5.there bl (j*20+1) 19:=by
   obtain⟨a0,h1,h2⟩:=HL.o.blk oM;have h3:=h1.ext a2;intro i hi;refine⟨?_,h3.frozen _⟩;rw[h3.cell,cz oM];rfl
  have c7:=hY c4;have e7:=a2.size;clear a2 c2 a6 c4;go_wp2_with(refine QnZ rfl (.tmp 24) (.tmp 22) rfl bl (j*20+1) x.m c' c7.o rfl rfl ?_;generalize hV:World.setCells _ _ _ _=v;rw[hV]at a7;have d6:=hY (show v.heap.size=w5.heap.size from(by rw[<-hV];exact(Qba _ _ _ _).2));clear hV);go_roundw
  case measure=>simp[intOf];omega
  exact⟨j+1,_,by go_num,c0,by have:=d6.o;omega,a7⟩
 obtain rfl:j=L.length:=oM
 have l1:decide ((L.length:Int)<(L.length:Int))=false:=eG oM;go_wp2_with fail;go_ret;exact⟨s1,rfl,HL.o.x,⟨bl,fl,cc,c9.o.mono λb Z=>⟨by have:=Z.1;omega,by have:=Z.2;omega⟩,λk x I=>by rw[(b3.o (QaW I)).2.2.2.2.1,aD];exact HL.o.cells k x I,λk x I=>(HL.o.new k x (ae.1 I).1 I).mono λb Z=>⟨Z.1,Z.2.1⟩⟩,b9.o,oM⟩
end Go.Proofs.YtdiecmkpbadgjaaGreatDoor
