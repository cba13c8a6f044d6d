/- Steps to the theorem. -/
import Derived.Great.BuildSlice
import Derived.Test.YtahhllcdbjbpbaaGreatDoorPqh
set_option linter.all false
set_option maxRecDepth 100000
set_option maxHeartbeats 4000000
namespace Go.Proofs.YtahhllcdbjbpbaaGreatDoor
open Go.Proofs.Tryz
open Go.RowKit Go.Maps Go.Sort Go.Shelf
def Tryz.ZI:Go.Shelf.Ren:=⟨λ| 103=>191|210=>219|206=>220|n=>n,λ| 9=>9|4=>4|24=>244|3=>3|n=>n,λ| n=>n⟩
def Tryz.Xr:Go.Proofs.Lays.n103 prog Tryz.ZI:={
 mixed:=by kernel_rfl
 f103:=func191.trans (congrArg some kM)
 f206:=func220.trans (congrArg some kM)
 f210:=func219.trans (congrArg some kM)
 t3:=underlying3
 a3:=isAgg3
 z3:=sizeOf3
 v3:=zeroValue3
 t4:=underlying4
 a4:=isAgg4
 z4:=sizeOf4
 v4:=zeroValue4
 t9:=underlying9
 a9:=isAgg9
 z9:=sizeOf9
 v9:=zeroValue9
 t24:=underlying244
 a24:=isAgg244
 z24:=sizeOf244
 v24:=zeroValue244 }
def kg{k f:AA}(h:Ab f k=true):(⟨(Lib.trimPrefix k.data.toList f.data.toList).toArray⟩:AA)=k.extract f.size k.size:=by
 have I:Lib.hasPrefix k.data.toList f.data.toList=true:=by
  have:=h;unfold Ab at this;rw[eY,eY]at this;exact this
 apply ByteArray.ext;apply dU.1;unfold Lib.trimPrefix;rw[eN I,ByteArray.data_extract,Array.toList_extract];show(k.data.toList.drop f.data.toList.length)=_;rw[List.extract_eq_take_drop];have h1:f.data.toList.length=f.size:=aQ;have h2:k.data.toList.length=k.size:=aQ;rw[h1,aM];rw[az,h2];exact ao _
variable{w:AB}
def nW{k f t:AA}(hb:Ab f k=true)(a0:k.size+t.size<=4611686018427387904)(hL:DD w) :
  Calls prog 165 #[k,f,t] w λe w'=>(∃s,e=.returned (.tuple #[.string s,.int .i64 (AT (An f t k))])/\(AT (An f t k)=0->s=An f t k))/\Nw w w':=by
 have Z:=λW=>Any.strings_CutPrefix Tryz.Xr k f W
 rw[kg hb]at Z;rw[show Lib.hasPrefix k.data.toList f.data.toList=true by have:=hb;unfold Ab at this;rw[eY,eY]at this;exact this]at Z;have HC:=hY Z;have I:(An f t k).size<=maxLen:=by
  have h1:(k.extract f.size k.size).size<=k.size:=by rw[cd];omega
  unfold An maxLen;rw[aP];omega
 obtain⟨q,hq⟩:∃q,An f t k=q:=⟨_,rfl⟩;rw[hq]at I ⊢;obtain⟨HQ,HS⟩:=Yb (show t++k.extract f.size k.size=q from hq) I;clear Z I hq;go_in;go_wp2_with fail;refine(HC.o _).mono ?_;rintro e w' ⟨rfl,rfl⟩;go_wp2_with fail;rw[HQ.o];have HK:=hY (Li (w:=w') HS.o hL);clear hL hb;refine HK.o.mono ?_;rintro e w1 ⟨rfl,hn⟩;have HN:=hY hn;clear hn;by_cases N:AT q=0
 ·have HZ:=hY N
  have g:(AT q==0)=true:=by simp[N]
  clear N;go_wp2_with fail;go_ret2;exact⟨⟨q,by rw[HZ.o]<;>rfl,λ_=>rfl⟩,HN.o⟩
 have HZ:=hY N;have g:(AT q==0)=false:=eP.2 N;clear N;go_wp2_with fail;go_ret2;exact⟨⟨_,rfl,λh=>absurd h HZ.o⟩,HN.o⟩
variable{H:Nat->Prop}{O:Nat}{d:OD}{M:List AD}
def kC(h:BD H w O d M)(N:(AG d.T).length<=1000000)(Z:d.us.length<=1000000){p:AA}(I:p.size<=maxLen) :
  Calls prog 164 #[.pointer (some O),p] w λe w'=>∃s:Sl,e=.returned (.slice s.a (EE (Ab p) M).length s.c)/\Nw w w'/\Rd w' (In w.heap.size w'.heap.size) 1 s (EE (Ab p) M).length ((EE (Ab p) M).map .string):=
 (oW h.ov N Z I).mono λe w' ⟨s,ks,h1,h2,h3,h4,h5⟩=>by
   obtain rfl:ks=EE (Ab p) M:=Mw h4 (nA h.rel.ok.sorted) λk=>by rw[h5 k,OX h.rel.ok.sorted,h.now k]
   exact⟨s,h1,h2,h3⟩
abbrev mvE(f t:AA)(e:AD):AD:=(An f t e.1,e.2)
variable{f:AA}{j:Nat}{e:AD}
def Mq(h:(BO M f)[j]? = some e):e∈M/\Ab f e.1=true:=by
 have:=ap h;unfold BO at this;exact bK.1 this
def Iu{k:AA}(h:AT k=0):k.size<=64:=by
 unfold AT at h;split at h
 .cases h
 split at h
 .cases h
 omega
variable{n:Nat}{s2 s7 sl so:Sl}
def jE{wr W w9:AB}{v:Val}(h:Nw wr W)(I:Wr W w9 s2.row)(hs:s7.a=s2.a\/s7.a=some ⟨W,0,none⟩/\Wr W w9 none)(hv:RV wr (Du n wr s2) v sl so):RV w9 (Du n w9 s7) v sl so:=by
 have h1:RV W (Du n wr s2) v sl so:=hv.agree (gC h λb N=>N.2.1);have h2:RV w9 (Du n wr s2) v sl so:=h1.agree (I.agree (λi hi=>ab hi.2.1 h.size) λk Z hF=>hF.2.2 Z);refine h2.mono λi hi=>⟨hi.1,ab hi.2.1 (an h.size I.grown.size),λe=>?_⟩
 rcases hs with hs |⟨hs,-⟩
 .exact hi.2.2 (by unfold Sl.row at e ⊢;rwa[hs]at e)
 unfold Sl.row at e;rw[hs]at e;have e:some W.heap.size=some i:=e;injection e with e;have:=hi.2.1;have:=h.size;omega
def jB{f t:AA}(h:BD H w O d M)(hH:∀b,H b->b<w.heap.size)(hn:d.us.length+2*M.length<=1000000)(hl:(AG d.T).length<=1000000)(hf:f.size<=maxLen)
  (ht:t.size<=100000000) (hL:Aw w) (hG:∀b,b<6->H b) :
  Calls prog 138 #[.pointer (some O),f,t] w λe w'=>e=.returned (.int .i64 (CN M f t).1)/\∃d',Ar H w O d (CN M f t).2 (2*M.length) w' d':=by
 have d9:=kC h hl oM hf;obtain⟨r,hr⟩:∃r,CN M f t=r:=⟨_,rfl⟩;rw[hr];obtain⟨L,f6⟩:∃L,BO M f=L:=⟨_,rfl⟩;have a4:EE (Ab f) M=L.map Prod.fst:=by rw[Rc,f6]
 have k1:(EE (Ab f) M).length=L.length:=by rw[a4,aq]
 have k4:L.length<=M.length:=by rw[<-f6];exact bE _ _
 rw[k1,a4]at d9;obtain⟨HH,l7,HN,i9,HT,n8,r1⟩:=Yh h hH hn hl ht hL hG;obtain⟨HR,b6,b5,HP⟩:=Ye hr f6 k4 d9;obtain⟨i0,hi,p5,r9,p8⟩:=eZ Tryz.DK;clear h hH hn hl ht hL hr f6 k4 d9 a4 k1 hf hG;go_in;go_wp2_with fail;refine HP.o.mono ?_;rintro e w1 ⟨s,rfl,l4,o3⟩;obtain⟨a6,l3⟩:=Yb l4 o3;clear l4 o3;go_wp2_with fail;go_loopw[8,27] (λv8 r0 wr=>∃(j:Nat) (s2:Sl) (ys:List LE),r0=.int .i64 (j:Int)/\v8=.slice s2.a ys.length s2.c/\j<=L.length/\Yd (ys.length=j)/\Yd (ys.map LE.ent=(L.take j).map (mvE f t))/\Yd (Nw w1 wr)/\
  Yd (wr.ownsRow w1.heap.size 65 7 (.slice s2.a ys.length s2.c) ys.length (AP ys))/\Yd (∀y∈ys,RV wr (Du w1.heap.size wr s2) y.v y.sl y.so)/\Yd (Bt M f t (L.take j)=0)) (λ_ v _=>L.length -(intOf v).toNat)
 case atStart=>exact⟨0,Sl.none,[],rfl,rfl,aw _,hY rfl,hY rfl,hY (gE _ _),hY (e9 _ _ _ _),hY (λy hy=>by cases hy),hY rfl⟩
 obtain⟨j,s2,ys,rfl,rfl,hj,e8,j6,HX,b8,o4,f2⟩:=hrel;by_cases k6:j<L.length
 ·have l1:(j:Int)<(L.length:Int):=oM
  have t4:decide ((j:Int)<(L.length:Int))=true:=eO l1;have l0:(0:Int)<=(j:Int):=oM
  obtain⟨x,hx⟩:∃x,L[j]? = some x:=⟨_,ac k6⟩;obtain⟨b0,o0,a1,-,a5⟩:=l3.o;obtain⟨b4,i6,c7⟩:=a1.eq oM;have b7:=a1.fits oM;have cK:wr.cell? ⟨b0,o0+j,none⟩=some (.string x.1):=by
   rw[HX.o.cell b7.2 (λe=>e)];exact a5 j _ (by rw[ar,ar,hx];rfl)
  have hg:=Mq (M:=M) (f:=f) (j:=j) (e:=x) (by rw[b6.o];exact hx);have d4:=HH.o.rel.ok.ok x hg.1;have a4:=Iu d4.1;have d0:=nW (w:=wr) (t:=t) hg.2 (by have:=HT.o;omega) (n8.o.nw (a6.o.trans HX.o)).lib;obtain⟨q7,t1,q8,p6,r8,q6⟩:=Yg d0 (show AH M x.1=some x.2 from L4 HH.o.rel.ok.sorted hg.1) (L0 f2.o hx) (λh1 h2=>NC f2.o hx h1 h2) hx a4;rw[b4];clear a5 a1 b7 hg d4 a4 d0 hx;go_wp2_with fail;refine q7.o.mono ?_;rintro e w2 ⟨⟨q',rfl,j3⟩,f8⟩;obtain⟨l5,p3⟩:=Yb ((a6.o.trans HX.o).trans f8) f8;have a0:=q8.o;by_cases hm:AT (An f t x.1)=0
  rotate_left
  ·have g:(AT (An f t x.1) == 0)=false:=eP.2 hm
   rw[eN hm]at a0;have Z:r=(8,M):=by rw[<-HR.o];unfold CN;rw[b6.o,a0];exact eN oN
   have N:=hY Z;clear hm a0 Z j3 f8 cK;go_wp2_with fail;go_ret;exact⟨by rw[N.o]<;>rfl,d,by rw[N.o];exact HH.o.stay l5.o⟩
  obtain rfl:=j3 hm;rw[eL (λh=>h hm)]at a0;have a3:=Ij (HH.o.nw l5.o) i9.o (k:=An f t x.1) (an (Iu hm) oN);obtain⟨f7,HM,k2⟩:=Yc a3 hm a0;rw[hm];clear hm a0 j3 f8 a3 cK;go_wp2_with fail;refine f7.o.mono ?_;rintro e w3 ⟨s3,s4,rfl,k9,-⟩;obtain⟨y3,n7⟩:∃y,(AH M (An f t x.1)).getD zeroV=y:=⟨_,rfl⟩;obtain⟨g3,c6⟩:∃g,(AH M (An f t x.1)).isSome=g:=⟨_,rfl⟩;obtain⟨q,hq⟩:∃q,An f t x.1=q:=⟨_,rfl⟩;rw[n7,c6,hq];obtain⟨l9,HQ,n2⟩:=Yc c6 hq (p3.o.trans (gA k9));clear k9 n7 c6 hq f7;go_upto_region 10 with fail;have j0:=(gz w3).alloc #[.int .i64 y3.kind,.bool y3.b,.int .i64 y3.i,.string y3.t,.slice s3.a y3.l.length s3.c,.slice s4.a y3.ok.length s4.c] 54;generalize r2:World.alloc _ _=w4 at j0 ⊢;have o2:=hY (n2.o.trans (gA j0));clear r2 j0;go_cut [52] (λv w'=>v=.bool (g3 && !Ab f q)/\w'=w4)
  case first=>
   cases g3 with
   | false=>
     go_wp2_with fail;go_meet;exact⟨rfl,rfl⟩
   | true=>
     go_wp2_with fail;refine(TT _ q f).mono ?_;rintro e w5 ⟨rfl,rfl⟩;go_wp2_with fail;go_meet;exact⟨rfl,rfl⟩
  obtain⟨hv,hw⟩:=hcut;subst hv;have f1:=hY (show Nw wr wc by rw[hw];exact o2.o);clear hw o2 n2;rcases be (g3 && !Ab f q)with I|I
  ·have a0:=k2.o
   rw[l9.o,HQ.o]at a0;rw[eN I]at a0;have Z:r=(13,M):=by rw[<-HR.o];unfold CN;rw[b6.o,a0];exact eN oN
   have N:=hY Z;rw[I];clear I a0 Z;go_wp2_with fail;go_ret;exact⟨by rw[N.o]<;>rfl,d,by rw[N.o];exact HH.o.stay (a6.o.trans (HX.o.trans f1.o))⟩
  have b9:=p6.o (by rw[HM.o]) (by rw[l9.o,HQ.o];exact I);have l2:=hY b9;have a3:=Ij (HH.o.nw (a6.o.trans (HX.o.trans f1.o))) i9.o (k:=x.1) (an q6.o oN);rw[t1.o]at a3;have i4:=hY a3;rw[I];clear I b9 a3;go_wp2_with fail;refine i4.o.mono ?_;rintro e w6 ⟨s5,s6,rfl,n4,l6⟩;obtain⟨p7,p2⟩:=Yb (f1.o.trans (gA n4)) (show RV w6 (In wc.heap.size w6.heap.size) x.2 s5 s6 from l6.rv);clear n4 l6;rw[show(some x.2:Option Val).getD zeroV=x.2 from rfl];go_upto_region 13 with fail;have c8:=(gz w6).alloc #[.int .i64 x.2.kind,.bool x.2.b,.int .i64 x.2.i,.string x.2.t,.slice s5.a x.2.l.length s5.c,.slice s6.a x.2.ok.length s6.c] 54;have a9:=gB w6 54 #[.int .i64 x.2.kind,.bool x.2.b,.int .i64 x.2.i,.string x.2.t,.slice s5.a x.2.l.length s5.c,.slice s6.a x.2.ok.length s6.c];generalize s8:World.alloc _ _=w7 at c8 a9 ⊢;obtain⟨o7,r3⟩:=Yb (p7.o.trans (gA c8)) (p2.o.agree (c8.agree λb (I:In wc.heap.size w6.heap.size b)=>I.2));have g4:=an f1.o.size (ao wc.heap.size);obtain⟨d5,f3⟩:=Yb g4 c8.size;have e0:w7.cell? w6=some (.int .i64 x.2.kind):=a9.cell 0;have e1:w7.cell? ⟨w6.heap.size,1,none⟩=some (.bool x.2.b):=a9.cell 1;have e2:w7.cell? ⟨w6.heap.size,2,none⟩=some (.int .i64 x.2.i):=a9.cell 2;have e3:w7.cell? ⟨w6.heap.size,3,none⟩=some (.string x.2.t):=a9.cell 3;have e4:w7.cell? ⟨w6.heap.size,4,none⟩=some (.slice s5.a x.2.l.length s5.c):=a9.cell 4;have e5:w7.cell? ⟨w6.heap.size,5,none⟩=some (.slice s6.a x.2.ok.length s6.c):=a9.cell 5;have i7:=(gz w7).alloc (⟨q,x.2,s5,s6⟩:LE).cells.toArray 65;obtain⟨r7,f9,q9⟩:=Yc (gB w7 65 (⟨q,x.2,s5,s6⟩:LE).cells.toArray) (o7.o.trans (gA i7)) i7;have e7:Nw wr (w7.alloc (.cells (⟨q,x.2,s5,s6⟩:LE).cells.toArray 65)):=f9.o;have k7:=hY (AZ (F:=Lt wr.heap.size) b8.o (gC e7 λb I=>I) λb I=>(AM b8.o I).2);have k0:ys.length+1<=maxLen:=by have:=e8.o;have:=b5.o;have:=HN.o;unfold maxLen;omega
  have n6:(ys.length+1)*104<=140737488355328:=by have:=e8.o;have:=b5.o;have:=HN.o;omega
  have d8:w1.heap.size<=(w7.alloc (.cells (⟨q,x.2,s5,s6⟩:LE).cells.toArray 65)).heap.size:=(HX.o.trans f9.o).size;obtain⟨q3,r4,q2,t3⟩:=Ye k0 n6 d8 e7;clear s8 c8 a9 i7 e7 k0 n6 d8 g4;go_wp2_with(at_builtin;refine Bq _ rfl (.tmp 59) (.tmp 63) 22 rfl w1.heap.size 65 i0 _ 7 104 underlying22 hi p5 r9 p8 rfl oN s2 ys.length (AP ys) rfl k7.o (λb=>b=w7.heap.size) ⟨some w7,1⟩ 1 (⟨q,x.2,s5,s6⟩:LE).cells rfl (gG r7.o oN rfl) (LE.one _) q3.o r4.o q2.o ?_;intro s7 w9 d6 g5 l8;have s9:=hY d6;have f4:=hY g5;have k3:=hY l8;clear d6 g5 l8);have p1:L.length<=1000000:=by have:=b5.o;have:=HN.o;omega
  have g0:wrap64 ((j:Int)+1)=((j+1:Nat):Int):=by unfold wrap64;omega
  go_roundw
  case measure=>rw[g0];simp[intOf];omega
  have o6:=λb (I:s2.row=some b)=>AM k7.o I
  have q1:Sb (λb=>s2.row=some b) (w7.alloc (.cells (⟨q,x.2,s5,s6⟩:LE).cells.toArray 65)) w9:=by
   have hg:=f4.o.grown;exact⟨hg.os,hg.tape,hg.output,hg.size,λi hi hn=>hg.block i hi λe=>hn e.symm⟩
  refine⟨j+1,s7,ys++[⟨q,x.2,s5,s6⟩],by rw[g0],by rw[aj];rfl,k6,hY (by rw[aj,e8.o];rfl),hY ?_,hY ?_,hY ?_,hY ?_,l2⟩
  ·rw [aB,j6.o,aK,r8.o,aB]
   show _++[(q,x.2)]=_++[(An f t x.1,x.2)];rw[HQ.o]
  .exact (HX.o.trans f9.o).comp q1 λi hi e=>by have:=(o6 i e).1;omega
  ·rw [aj,D5,show AP [(⟨q,x.2,s5,s6⟩:LE)]=(⟨q,x.2,s5,s6⟩:LE).cells by simp [AP]]
   exact s9.o
  intro y hy;rcases aL.1 hy with hy|hy
  .exact jE f9.o f4.o k3.o (o4.o y hy)
  obtain rfl:y=⟨q,x.2,s5,s6⟩:=by simpa using hy
  have t7:(w7.alloc (.cells (⟨q,x.2,s5,s6⟩:LE).cells.toArray 65)).heap.size=w7.heap.size+1:=eQ _ _;have j9:=λb (I:s2.row=some b)=>(AM b8.o I).2
  have t2:w7.heap.size+1<=w9.heap.size:=by
   have h:=f4.o.grown.size;rw[eQ]at h;exact h
  have h1:RV w9 (In wc.heap.size w6.heap.size) x.2 s5 s6:=(r3.o.agree (q9.o.agree λb (I:In wc.heap.size w6.heap.size b)=>ab I.2 f3.o)).agree (f4.o.agree (λb I=>by rw[eQ];have:=I.2;have:=f3.o;omega) λk hk hF=>by have:=j9 k hk;have:=hF.1;have:=d5.o;omega);refine h1.mono λb I=>⟨by have:=I.1;have:=d5.o;have:=HX.o.size;omega,by have:=I.2;have:=f3.o;omega,λe=>?_⟩
  rcases k3.o with hs |⟨hs,-⟩
  ·have e:s2.row=some b:=by unfold Sl.row at e ⊢;rwa [hs] at e
   have:=j9 b e;have:=I.1;have:=d5.o;omega
  unfold Sl.row at e;rw[hs]at e;have e:some (w7.alloc (.cells (⟨q,x.2,s5,s6⟩:LE).cells.toArray 65)).heap.size=some b:=e;injection e with e;have:=I.2;have:=f3.o;omega
 obtain rfl:j=L.length:=oM
 have l1:decide ((L.length:Int)<(L.length:Int))=false:=eM oM;have b9:Bt M f t L=0:=by have:=f2.o;rwa[aR]at this
 have k8:ys.map LE.ent=L.map (mvE f t):=by have:=j6.o;rwa[aR]at this
 have Z:r=(0,A0 (Do M (L.map Prod.fst)) (L.map (mvE f t))):=by
  rw[<-HR.o];unfold CN;rw[b6.o,eL (by rw[b9];exactλh=>h rfl),<-jf HH.o.rel.ok.sorted f,Rc,b6.o]
 obtain⟨N,o8,p4,j4,q5,f5⟩:=Yg Z k8 b9 (λ(b:Nat) (I:DZ O d b)=>HH.o.ov.CC I) (HH.o.nw (a6.o.trans HX.o)) (a6.o.trans HX.o);clear b9 k8 Z f2 j6
 rename AB=>W0
 have p1:L.length<=500000:=by have:=b5.o;have:=HN.o;omega
 go_wp2_with fail;go_loopw[68] (λt0 w2=>∃(i:Nat) (d':OD),t0=.int .i64 (i:Int)/\i<=L.length/\Yd (Ar H W0 O d (Do M ((L.take i).map Prod.fst)) i w2 d')) (λv _=>L.length -(intOf v).toNat)
 case atStart=>exact⟨0,d,rfl,aw _,hY (q5.o.stay (gE _ _))⟩
 obtain⟨i,d1,rfl,p0,a8⟩:=hrel;by_cases g6:i<L.length
 ·have m1:(i:Int)<(L.length:Int):=oM
  have r5:decide ((i:Int)<(L.length:Int))=true:=eO m1;have m0:(0:Int)<=(i:Int):=oM
  obtain⟨x,hx⟩:∃x,L[i]? = some x:=⟨_,ac g6⟩;obtain⟨b0,o0,a1,-,a5⟩:=l3.o;obtain⟨b4,i6,c7⟩:=a1.eq oM;have b7:=a1.fits oM;have cK:wr.cell? ⟨b0,o0+i,none⟩=some (.string x.1):=by
   rw[a8.o.go.sb.cell (ab b7.2 HX.o.size) (λe=>by have:=j4.o b0 e;have:=b7.1;omega),HX.o.cell b7.2 (λe=>e)];exact a5 i _ (by rw[ar,ar,hx];rfl)
  have hg:=Mq (M:=M) (f:=f) (j:=i) (e:=x) (by rw[b6.o];exact hx);have a4:=Iu (HH.o.rel.ok.ok x hg.1).1;have g8:=MJ a8.o.at_ (λb I=>ab (l7.o b I) (an f5.o.size a8.o.go.sb.size)) (by have:=a8.o.few;have:=HN.o;have:=b5.o;omega) (by rw[a8.o.T];exact i9.o) (k:=x.1) (an a4 oN);have j8:=hY g8;have q0:=hY (show Ac (Do M ((L.take i).map Prod.fst)) x.1=Do M ((L.take (i+1)).map Prod.fst)by
   rw[aK,hx,aB];unfold Do;rw[ew];rfl)
  rw[b4];clear a5 a1 b7 hg a4 g8 hx;go_wp2_with fail;refine j8.o.mono ?_;rintro e w5 ⟨rfl,d2,j7⟩;rw[q0.o]at j7;have i4:=hY (a8.o.trans j7);clear j7;have g0:wrap64 ((i:Int)+1)=((i+1:Nat):Int):=by unfold wrap64;omega
  go_wp2_with fail;go_roundw
  case measure=>simp[intOf];omega
  exact⟨i+1,d2,by go_num,g6,i4⟩
 obtain rfl:i=L.length:=oM
 have i5:=a8.o;rw[aR]at i5;have f7:=hY i5;have m1:decide ((L.length:Int)<(L.length:Int))=false:=eM oM;have c9:=hY (show ys.length=L.length from e8.o);have t5:ys.length<=500000:=by have:=e8.o;omega
 rename AB=>W1
 clear i5 a8 l1 m1 p0 hj;have l1:decide ((L.length:Int)<(L.length:Int))=false:=eM oM;go_wp2_with fail;go_loopw[78] (λq4 w3=>∃(i:Nat) (d':OD),q4=.int .i64 (i:Int)/\i<=ys.length/\Yd (Ar H W0 O d (A0 (Do M (L.map Prod.fst)) ((L.take i).map (mvE f t))) (L.length+i) w3 d')) (λv _=>ys.length -(intOf v).toNat)
 case atStart=>exact⟨0,d1,rfl,aw _,f7⟩
 obtain⟨i,d2,rfl,t6,a2⟩:=hrel;by_cases i2:i<ys.length
 ·have m1:(i:Int)<(ys.length:Int):=oM
  have r5:decide ((i:Int)<(ys.length:Int))=true:=eO m1;have m0:(0:Int)<=(i:Int):=oM
  obtain⟨y,hy⟩:∃y,ys[i]? = some y:=⟨_,ac i2⟩;obtain⟨x,hx⟩:∃x,L[i]? = some x:=⟨_,ac (by have:=c9.o;omega)⟩;have f0:y.ent=mvE f t x:=by
   have:=congrArg (λl=>l[i]?) o8.o;simp only[List.getElem?_map,hy,hx,Option.map_some]at this;injection this
  have hk:y.k=An f t x.1:=congrArg Prod.fst f0;have hv:y.v=x.2:=congrArg Prod.snd f0;have hg:=Mq (M:=M) (f:=f) (j:=i) (e:=x) (by rw[b6.o];exact hx);have d4:=HH.o.rel.ok.ok x hg.1;have i8:AT y.k=0:=by rw[hk];exact To p4.o (ap hx)
  have j5:okV y.v:=by rw[hv];exact d4.2
  have g7:∀M',setMu M' y.k y.v=(0,AU M' y.k y.v):=λM'=>by
   unfold setMu;rw[eL (λh=>h i8),eL (λh=>h j5.2)]
  obtain⟨b1,o1,a1,-,a5⟩:=gF b8.o;obtain⟨b4,i6,c7⟩:=a1.eq oM;have i3:=a1.fits oM;have b4:s2.a=some ⟨b1,o1,none⟩:=b4;have a7:∀c u,c<7->y.cells[c]? = some u->wr.cell? ⟨b1,o1+i*7+c,none⟩=some u:=λc u hc hu=>by
   rw[a2.o.go.sb.cell i3.2 (λe=>by have:=j4.o b1 e;have:=i3.1;have:=a6.o.size;omega),bH];exact a5 _ _ (by rw[Fc hy c hc];exact hu)
  have e0:wr.cell? ⟨b1,o1+i*7,none⟩=some (.string y.k):=a7 0 _ oN rfl;have e1:wr.cell? ⟨b1,o1+i*7+1,none⟩=some (.int .i64 y.v.kind):=a7 1 _ oN rfl;have e2:wr.cell? ⟨b1,o1+i*7+2,none⟩=some (.bool y.v.b):=a7 2 _ oN rfl;have e3:wr.cell? ⟨b1,o1+i*7+3,none⟩=some (.int .i64 y.v.i):=a7 3 _ oN rfl;have e4:wr.cell? ⟨b1,o1+i*7+4,none⟩=some (.string y.v.t):=a7 4 _ oN rfl;have e5:wr.cell? ⟨b1,o1+i*7+5,none⟩=some (.slice y.sl.a y.v.l.length y.sl.c):=a7 5 _ oN rfl;have e6:wr.cell? ⟨b1,o1+i*7+6,none⟩=some (.slice y.so.a y.v.ok.length y.so.c):=a7 6 _ oN rfl;have b3:=(gz wr).alloc y.cells.toArray 65;have n9:=o4.o y (ap hy);have g9:RV wr (Du w1.heap.size W0 s2) y.v y.sl y.so:=n9.agree λb (I:Du w1.heap.size W0 s2 b)=>a2.o.go.sb.block b I.2.1 λe=>by have:=j4.o b e;have:=I.1;have:=a6.o.size;omega
  have i1:RV (wr.alloc (.cells y.cells.toArray 65)) (Lt (wr.alloc (.cells y.cells.toArray 65)).heap.size) y.v y.sl y.so:=(g9.agree (b3.agree λb (I:Du w1.heap.size W0 s2 b)=>ab I.2.1 a2.o.go.sb.size)).mono λb I=>ab I.2.1 (an a2.o.go.sb.size b3.size)
  have d7:=E5 (k:=y.k) (a2.o.at_.nw (gA b3)) (λb I=>ab (l7.o b I) (an f5.o.size (an a2.o.go.sb.size b3.size))) (by have:=a2.o.few;have:=HN.o;have:=b5.o;have:=c9.o;omega) (an (Iu i8) oN) i1 (an j5.cnt oN) (((n8.o.nw f5.o).sb a2.o.go.sb (λb I e=>HH.o.ov.out b e (r1.o b I))).nw (gA b3));rw[g7]at d7;obtain⟨k5,o5⟩:=Yb d7 (gA b3);have r6:=hY (show AU (A0 (Do M (L.map Prod.fst)) ((L.take i).map (mvE f t))) y.k y.v=A0 (Do M (L.map Prod.fst)) ((L.take (i+1)).map (mvE f t))by
   rw[aK,hx,aB];show _=A0 _ (_++[mvE f t x]);rw[I4,<-f0];rfl)
  rw[b4];clear hk hv hg d4 i8 j5 g7 a5 a1 i3 a7 b3 n9 g9 i1 d7 hy hx f0 i6 c7;go_wp2_with fail;refine k5.o.mono ?_;rintro e w5 ⟨rfl,d3,c6⟩;have j1:=a2.o.trans (c6.since o5.o);rw[r6.o]at j1;have o9:=hY j1;clear c6 j1;have g0:wrap64 ((i:Int)+1)=((i+1:Nat):Int):=by unfold wrap64;omega
  go_wp2_with fail;go_roundw
  case measure=>simp[intOf];omega
  exact⟨i+1,d3,by go_num,i2,o9⟩
 obtain rfl:i=ys.length:=oM
 have m1:decide ((ys.length:Int)<(ys.length:Int))=false:=eM oM;have j2:=a2.o;rw[c9.o,aR]at j2;have p9:=hY ((j2.since f5.o).more (m:=2*M.length) (by have:=b5.o;omega));clear j2 a2;go_wp2_with fail;go_ret;exact⟨by rw[N.o]<;>rfl,d2,by rw[N.o];exact p9.o⟩
def HB(H:Nat->Prop)(a b:Nat):Nat->Prop:=λi=>H i\/(a<=i/\i<b)
variable{w0:AB}
def BD.boxes(h:BD H w O d M)(k:Nw w w0):BD (HB H w.heap.size w0.heap.size) w0 O d M:=
 BD.nw ⟨h.ov.more λb N e=>e.elim id λI=>by have:=I.1;omega,h.rel⟩ k
variable{G:Nat->Prop}{w':AB}
def Ar.less{d d':OD}(h:Ar G w O d M n w' d')(I:∀b,H b->G b):Ar H w O d M n w' d':=
 ⟨⟨h.go.at_.more λb _ e=>I b e,h.go.sb,h.go.new⟩,h.T,h.rel,h.us,h.hs,h.few⟩
variable{B:Nat}{u:Value}
def heap_set{v:Value}(h:w'.heap[B]? = w.heap[B]?){t:TypeId}(I:AE w B t #[u]):(w'.setCell B v).heap[B]? =(w.setCell B v).heap[B]?:=by
 have h1:AE (w.setCell B v) B t #[v]:=I.AX 0 v;have h2:AE (w'.setCell B v) B t #[v]:=(show AE w' B t #[u]from h.trans I).AX 0 v;exact Eq.trans h2 (Eq.symm h1)
def Ar.code{d d':OD}(h:Ar H w O d M n w' d'){t:TypeId}{u v:Value}(hB:H B)(hb:AE w B t #[u])(ho:¬DZ O d B) :
  Ar H (w.setCell B v) O d M n (w'.setCell B v) d':=by
 have s1:Sb (λi=>i=B) w (w.setCell B v):=(gE (λi=>i=B) w).set (p:=⟨B,0,none⟩) (.inr rfl) v;have s2:Sb (λi=>i=B) w' (w'.setCell B v):=(gE (λi=>i=B) w').set (p:=⟨B,0,none⟩) (.inr rfl) v;have I:(w.setCell B v).heap.size=w.heap.size:=oO
 have z2:(w'.setCell B v).heap.size=w'.heap.size:=oO
 have hs:=h.go.sb;have hl:=hb.lt;refine⟨⟨h.go.at_.sb s2 λb e=>by rw[e];exact hB,⟨?_,?_,?_,by rw[I,z2];exact hs.size,λi hi Z=>?_⟩,λb N=>(h.go.new b N).imp id λe=>by rw[I];exact e⟩,h.T,h.rel,h.us,h.hs,h.few⟩
 .rw [s2.os,hs.os,s1.os]
 .rw [s2.tape,hs.tape,s1.tape]
 .rw [s2.output,hs.output,s1.output]
 rw[I]at hi;by_cases e:i=B
 ·subst e
  exact heap_set (hs.block i hi Z) hb
 rw[s2.block i (ab hi hs.size) e,hs.block i hi Z,s1.block i hi e]
def noB(c:Int)(n:Nat):Nat:=if c=0 then n else 0
def U3(c:Int)(n:Nat):noB c n<=n:=by unfold noB;split<;>omega
variable{w1:AB}
def pU{d d1:OD}{M M1:List AD}{n N B2 B5:Nat}{code:Int}(u:FrameMode)(h:BD H w0 O d M)(g:Ar H w0 O d M1 n w1 d1)(hn:d1.us.length<=1000000)
  (h4:AE w1 N 71 #[.int .i64 code]) (h2:AE w1 B2 128 #[.pointer (some O)]) (h5:AE w1 B5 3 #[.int .i64 (d.us.length:Int)]) (o4:¬DZ O d N) (l4:N<w0.heap.size) :
  CallsD prog 131 #[.pointer (some N),.pointer (some B2),.pointer (some B5)] u w1 λe u' w'=>u'=u/\(e=.returned (.tuple #[])/\AE w' N 71 #[.int .i64 code]/\∃d2,Ar H w0 O d (if code=0 then M1 else M) (noB code n) w' d2):=by
 have c4:w1.cell? N=some (.int .i64 code):=h4.cell 0;have c2:w1.cell? B2=some (.pointer (some O)):=h2.cell 0;have c5:w1.cell? B5=some (.int .i64 (d.us.length:Int)):=h5.cell 0;have I:=pz h g hn;obtain⟨HB,HG,H4,a1,a0⟩:=Yf I g h4 o4 l4;clear I h g hn h4 h2 h5 o4 l4;by_cases h0:code=0
 ·subst h0
  go_enter_d func131,ntmps131;go_wp2_with fail;go_end0;exact⟨rfl,H4.o,d1,HG.o⟩
 have g0:(code==0)=false:=eP.2 h0;have H0:=hY h0;clear h0;go_enter_d func131,ntmps131;go_wp2_with fail;refine HB.o.mono ?_;rintro e w2 ⟨rfl,d2,hg,-⟩;have Z:=hY hg;clear hg;go_wp2_with fail;go_end0;exact⟨rfl,(Z.o.go.sb.block N a0.o a1.o).trans ((HG.o.go.sb.block N a0.o a1.o).symm.trans H4.o),d2,Z.o.more (aw _)⟩
variable{z:Value}
def Eg{w N w3:AB}{d d1:OD}{M M1:List AD}{n B2 I B5:Nat}{code:Int}(hw:Nw w N)(h:BD (HB H w.heap.size N.heap.size) N O d M)(a0:∀b,DZ O d b->b<w.heap.size)
  (g:Ar (HB H w.heap.size N.heap.size) N O d M1 n w3 d1) (hn:d1.us.length<=1000000) (h4:AE N I 71 #[z]) (h2:AE N B2 128 #[.pointer (some O)]) (h5:AE N B5 3 #[.int .i64 (d.us.length:Int)])
  (l4:w.heap.size<=I) (l2:w.heap.size<=B2) (l5:w.heap.size<=B5) (n2:B2≠I) (n5:B5≠I) :
  CallsD prog 131 #[.pointer (some I),.pointer (some B2),.pointer (some B5)] .returning (w3.setCell I (.int .i64 code)) λe u' w'=>
   u'=.returning/\(e=.returned (.tuple #[])/\AE w' I 71 #[.int .i64 code]/\∃d2,Ar H w O d (if code=0 then M1 else M) (noB code n) w' d2):=by
 have Z:∀{b},w.heap.size<=b->¬DZ O d b:=λhb e=>by have:=a0 _ e;omega
 have s0:Sb (λi=>i=I) N (N.setCell I (.int .i64 code)):=(gE (λi=>i=I) N).set (p:=⟨I,0,none⟩) (.inr rfl) _;have s3:Sb (λi=>i=I) w3 (w3.setCell I (.int .i64 code)):=(gE (λi=>i=I) w3).set (p:=⟨I,0,none⟩) (.inr rfl) _;have hB:HB H w.heap.size N.heap.size I:=.inr ⟨l4,h4.lt⟩;have a2:=g.code (v:=.int .i64 code) hB h4 (Z l4);have hx:BD (HB H w.heap.size N.heap.size) (N.setCell I (.int .i64 code)) O d M:=⟨h.ov.sb s0 λb e=>by rw[e];exact hB,h.rel⟩;have z0:(N.setCell I (.int .i64 code)).heap.size=N.heap.size:=oO
 have a3:Nw w (N.setCell I (.int .i64 code)):=hw.comp s0 λi hi e=>oM
 refine(pU .returning hx a2 hn ((g.go.sb.blk h4 (Z l4)).AX 0 (.int .i64 code)) (s3.blk (g.go.sb.blk h2 (Z l2)) n2) (s3.blk (g.go.sb.blk h5 (Z l5)) n5) (Z l4) (by rw[z0];exact h4.lt)).mono ?_;rintro e u' w' ⟨h1,a1,h3,d2,hg⟩;exact⟨h1,a1,h3,d2,(hg.less λb e=>.inl e).since a3⟩
def J9{k:AA}{v:Val}(h:(setMu M k v).1≠0):(setMu M k v).2=M:=by
 unfold setMu at h ⊢;split at h
 .rw [eN (by assumption)]
 rename_i h1;rw[eL h1];split at h
 .rw [eN (by assumption)]
 exact absurd rfl h
def Tg{k:AA}{n b:Int}(h:(CX M k n b).1≠0):(CX M k n b).2=M:=by
 unfold CX at h ⊢;split at h
 .rw [eN (by assumption)]
 rename_i h1;rw[eL h1];exact J9 h
def Vg{k:AA}{l:List Val}{x:Val}(h:(Cr M k l x).1≠0):(Cr M k l x).2=M:=by
 unfold Cr at h ⊢;split at h
 .rw [eN (by assumption)]
 rename_i h1;rw[eL h1];exact J9 h
def Ep{m:Mu}:(stepM m M).1≠0->(stepM m M).2=M:=by
 obtain⟨I,k,tk,i,a1,a0,a2,v,l⟩:=m;rw[stepM];by_cases k1:I=1
 .rw [eN k1];exact J9
 rw[eL k1];by_cases Z:I=2
 ·rw [eN Z];split
  .exact λh=>absurd rfl h
  exactλ_=>rfl
 rw[eL Z];by_cases k3:I=3
 ·rw [eN k3];unfold A';split
  ·split
   .exact λ_=>rfl
   exact Tg
  exact Tg
 rw[eL k3];by_cases k4:I=4
 ·rw [eN k4];split
  ·split
   .exact J9
   exactλh=>absurd rfl h
  exactλ_=>rfl
 rw[eL k4];by_cases k5:I=5
 ·rw [eN k5];unfold DY;split
  ·split
   .exact λ_=>rfl
   exact Vg
  exact Vg
 rw[eL k5];by_cases N:I=6
 ·rw [eN N];unfold CN;split
  .exact λ_=>rfl
  exactλh=>absurd rfl h
 rw[eL N];by_cases k7:I=7
 ·rw [eN k7];split
  ·split
   .exact λ_=>rfl
   rename_i h1;exactλh=>absurd h h1
  exactλ_=>rfl
 rw[eL k7]
 exactλ_=>rfl
def Ax(m:Mu)(M:List AD):Nat:=Ag m*(2*(M.length+Ag m)+1)
def Fo(m:Mu)(M:List AD):1+2*M.length<=Ax m M:=by
 have h:1<=Ag m:=by rw[Gy];omega
 unfold Ax
 calc 1+2*M.length<=1*(2*(M.length+Ag m)+1):=oM
  _<=Ag m*(2*(M.length+Ag m)+1):=ci _ h
def jR(m:Mu):m.tk.size<=Av m:=by
 obtain⟨kd,k,Z,i,N,I,a0,v,l⟩:=m;rw[Av];show Z.size<=_;omega
def I2{d d2:OD}{r:Int × List AD}(h:r.1≠0->r.2=M)(I:Ar H w O d (if r.1=0 then r.2 else M) (noB r.1 n) w' d2):∃d',Ar H w O d r.2 (noB r.1 n) w' d':=by
 refine⟨d2,?_⟩;by_cases N:r.1=0
 .simp only[if_pos N]at I ⊢;exact I
 simp only[if_neg N]at I ⊢;rw[h N];exact I
variable{c:AR}
def Ys{m:Mu}(h:BD H w O d M)(hH:∀b,H b->b<w.heap.size)(hG:∀b,b<6->H b)(hm:AK w (λb=>b<w/\¬DZ O d b) m c)(hL:Aw w)
  (hd:d.us.length+Ax m M<=1000000) (hl:(AG d.T).length<=1000000) (ht:Av m<=1000000) (hk:m.kd=1) :
  Calls prog 100 #[.pointer (some O),Ap m c] w λe w'=>e=.returned (.int .i64 (stepM m M).1)/\∃d',Ar H w O d (stepM m M).2 (noB (stepM m M).1 (Ax m M)) w' d':=by
 have f2:∀(fn:Fn) (first b7:Array Value) (w:AB),(Instr.makeFunc fn first b7).run prog w=.ok (.func fn first b7) w:=λ_ _ _ _=>rfl
 have e1:(m.kd==1)=true:=by simp[hk]
 obtain⟨HD,e8,e6,b6,e3⟩:=Yf hd hl ht (Fo m M) hk;clear hd hl ht hk;obtain⟨r,hr⟩:∃r,stepM m M=r:=⟨_,rfl⟩;rw[hr];obtain⟨d8,HR⟩:=Yb (show r.1≠0->r.2=M fromλh=>by rw[<-hr]at h ⊢;exact Ep h) hr;clear hr;go_enter_defers func100,ntmps100;go_upto_region 1 with fail;generalize b8:World.alloc _ _=W0;obtain⟨a7,c6,a8,d0,a0⟩:=Ch w _ _ _ _ _ _ W0 b8;have c2:W0.cell? w=some (.pointer (some O)):=a8.cell 0;have a1:=F5 (h.ov.nw (gA a7));obtain⟨e0,b5,d5,d4,b4,c8,HH⟩:=Yh a1 a7 a8 d0 a0 c6 h;obtain⟨e4,f0,HM,HL⟩:=Ye hH hG hm hL;clear b8 a7 c6 a8 d0 a0 a1 h hH hG hm hL;go_wp2_with fail;refine e0.o.mono ?_;rintro e w1 ⟨rfl,Z⟩;go_upto_region 2 with fail;have I:=(gz w1).alloc #[.int .i64 (d.us.length:Int)] 3;have b0:=gB w1 3 #[.int .i64 (d.us.length:Int)];have a9:(w1.alloc (.cells #[.int .i64 (d.us.length:Int)] 3)).heap.size=w1.heap.size+1:=eQ _ _;generalize e2:World.alloc _ _=W2 at I b0 a9 ⊢;obtain⟨N,a5,b9,a4,d7,HZ⟩:=Yg ((b5.o.trans Z).trans I) ((d5.o.ext Z).ext I) ((d4.o.ext Z).ext I) ((b4.o.ext Z).ext I) b0 (show w.heap.size+3<=w1.heap.size/\W2.heap.size=w1.heap.size+1 from⟨by rw[<-c8.o];exact Z.size,a9⟩);obtain⟨a3,d3⟩:=Yb (gI b9.o) (HH.o.boxes (gA N.o));clear e2 Z I b0 a9 c2 b5 d5 d4 b4 c8;have k0:=a3.o.kind;go_upto_region 4 with fail;have d6:stepM m M=setMu M m.k m.v:=by
  obtain⟨kd,k,tk,i,e7,f5,f3,v,l⟩:=m;have hk:kd=1:=e3.o;subst hk;rw[stepM];rfl
 obtain⟨v0,v1,v2,v3,v4,v5⟩:=a3.o.v6;have b1:=a3.o.c1;have f1:=a3.o.c2;have b3:W2.cell? ⟨w+1,3,none⟩=some (.int .i64 m.i):=a3.o 3 _ rfl;have b2:W2.cell? w=some (.pointer (some O)):=a5.o.cell 0;have a6:AK W2 (Lt W2) m c:=(HM.o.agree (N.o.agree λb hb=>hb.1)).mono λb hb=>ab hb.1 N.o.size
 have a2:=E5 (k:=m.k) d3.o (λb hb=>hb.elim (λe=>ab (e4.o b e) N.o.size) λe=>e.2) (by have:=HD.o;have:=b6.o;omega) a6.parts.2.2.1 a6.parts.2.1 (an (Fl m).1 (by have:=e6.o;omega)) (HL.o.nw (gA N.o));rw[<-d6,HR.o]at a2;clear d6;have c7:=hY a2;clear a2 a6;go_wp2_with fail;refine c7.o.mono ?_;rintro e w3 ⟨rfl,d1,hg⟩;have HG:=hY (hg.more (m:=Ax m M) (by have:=b6.o;omega));have a0:=hg.go.sb.blk a4.o (λe=>by have:=HH.o.ov.CC e;omega);have c4:w3.cell? ⟨w+1+1,0,none⟩=some (.int .i64 0):=a0.cell 0;have f4:=a0.frozen 0;clear hg a0 k0;go_wp2_with fail;refine fA (f:=131) (args:=#[.pointer (some ⟨w+1+1,0,none⟩),.pointer (some w),.pointer (some w1)]) oO (by simp[go_sem]) ?_;refine(Eg (code:=r.1) (gA N.o) d3.o (λb e=>HH.o.ov.CC e) HG.o (by have:=HG.o.few;have:=HD.o;omega) a4.o a5.o d7.o oM oM (by have:=HZ.o;omega) oM (by have:=HZ.o;omega)).mono ?_;rintro e u' d9 ⟨rfl,rfl,hb,d2,hg⟩;have q4:d9.cell? ⟨w+1+1,0,none⟩=some (.int .i64 r.1):=hb.cell 0;have c9:=I2 (r:=r) d8.o hg;clear hb hg;simp[Leaves,settle,results,results100,go_sem,q4,c9]
def gW{m:Mu}(h:BD H w O d M)(hH:∀b,H b->b<w.heap.size)(hG:∀b,b<6->H b)(hm:AK w (λb=>b<w/\¬DZ O d b) m c)(hL:Aw w)
  (hd:d.us.length+Ax m M<=1000000) (hl:(AG d.T).length<=1000000) (ht:Av m<=1000000) (hk:m.kd=2) :
  Calls prog 100 #[.pointer (some O),Ap m c] w λe w'=>e=.returned (.int .i64 (stepM m M).1)/\∃d',Ar H w O d (stepM m M).2 (noB (stepM m M).1 (Ax m M)) w' d':=by
 have f1:∀(fn:Fn) (first c7:Array Value) (w:AB),(Instr.makeFunc fn first c7).run prog w=.ok (.func fn first c7) w:=λ_ _ _ _=>rfl
 have e1:(m.kd==1)=false:=by simp[hk]
 have e2:(m.kd==2)=true:=by simp[hk]
 obtain⟨HD,d9,f2,c6,e4⟩:=Yf hd hl ht (Fo m M) hk;clear hd hl ht hk;obtain⟨r,hr⟩:∃r,stepM m M=r:=⟨_,rfl⟩;rw[hr];obtain⟨e8,HR⟩:=Yb (show r.1≠0->r.2=M fromλh=>by rw[<-hr]at h ⊢;exact Ep h) hr;clear hr;go_enter_defers func100,ntmps100;go_upto_region 1 with fail;generalize c8:World.alloc _ _=W0;obtain⟨a8,d0,a9,d6,I⟩:=Ch w _ _ _ _ _ _ W0 c8;have c2:W0.cell? w=some (.pointer (some O)):=a9.cell 0;have a2:=F5 (h.ov.nw (gA a8));obtain⟨e0,b7,d8,d7,b6,d5,HH⟩:=Yh a2 a8 a9 d6 I d0 h;obtain⟨e6,f0,HM,HL⟩:=Ye hH hG hm hL;clear c8 a8 d0 a9 d6 I a2 h hH hG hm hL;go_wp2_with fail;refine e0.o.mono ?_;rintro e w1 ⟨rfl,a1⟩;go_upto_region 2 with fail;have Z:=(gz w1).alloc #[.int .i64 (d.us.length:Int)] 3;have b3:=gB w1 3 #[.int .i64 (d.us.length:Int)];have b0:(w1.alloc (.cells #[.int .i64 (d.us.length:Int)] 3)).heap.size=w1.heap.size+1:=eQ _ _;generalize e3:World.alloc _ _=W2 at Z b3 b0 ⊢;obtain⟨a0,a5,c9,N,b8,HZ⟩:=Yg ((b7.o.trans a1).trans Z) ((d8.o.ext a1).ext Z) ((d7.o.ext a1).ext Z) ((b6.o.ext a1).ext Z) b3 (show w.heap.size+3<=w1.heap.size/\W2.heap.size=w1.heap.size+1 from⟨by rw[<-d5.o];exact a1.size,b0⟩);obtain⟨d4,b4⟩:=Yb (gI c9.o) (HH.o.boxes (gA a0.o));clear e3 a1 Z b3 b0 c2 b7 d8 d7 b6 d5;have k0:=d4.o.kind;go_upto_region 4 with fail;have b5:stepM m M=if(AH M m.k).isSome then(0,Ac M m.k)else(12,M):=by
  obtain⟨kd,k,tk,i,e7,f5,f3,v,l⟩:=m;have hk:kd=2:=e4.o;subst hk;rw[stepM];rfl
 have b1:=d4.o.c1;have b2:W2.cell? w=some (.pointer (some O)):=a5.o.cell 0;have b9:AK W2 (Lt W2) m c:=(HM.o.agree (a0.o.agree λb hb=>hb.1)).mono λb hb=>ab hb.1 a0.o.size
 have a7:=MJ (k:=m.k) b4.o (λb hb=>hb.elim (λe=>ab (e6.o b e) a0.o.size) λe=>e.2) (by have:=HD.o;have:=c6.o;omega) d9.o b9.parts.2.2.1;rw[HR.o]at b5;obtain⟨a6,d3⟩:=Yb b5 a7;clear a7 b9 b5;go_wp2_with fail;refine d3.o.mono ?_;rintro e w3 ⟨rfl,d1,hg⟩;have HG:=hY (hg.more (m:=Ax m M) (by have:=c6.o;omega));clear hg k0;rcases be (AH M m.k).isSome with hi|hi
 ·have hs:=a6.o
  rw[eN hi]at hs;subst hs;rw[hi];clear hi a6;have I:=HG.o.go.sb.blk N.o (λe=>by have:=HH.o.ov.CC e;omega);have c4:w3.cell? ⟨w+1+1,0,none⟩=some (.int .i64 0):=I.cell 0;have f4:=I.frozen 0;clear I;go_wp2_with fail;refine fA (f:=131) (args:=#[.pointer (some ⟨w+1+1,0,none⟩),.pointer (some w),.pointer (some w1)]) oO (by simp[go_sem]) ?_;refine(Eg (code:=0) (gA a0.o) b4.o (λb e=>HH.o.ov.CC e) HG.o (by have:=HG.o.few;have:=HD.o;omega) N.o a5.o b8.o oM oM (by have:=HZ.o;omega) oM (by have:=HZ.o;omega)).mono ?_;rintro e u' a3 ⟨rfl,rfl,hb,d2,hg⟩;have q4:a3.cell? ⟨w+1+1,0,none⟩=some (.int .i64 0):=hb.cell 0;have a4:=(show ∃d',Ar H w O d (Ac M m.k) (noB 0 (Ax m M)) a3 d' from⟨d2,hg⟩);clear hb hg;simp[Leaves,settle,results,results100,go_sem,q4,a4]
 have hs:=a6.o;rw[eL (by rw[hi];decide)]at hs;subst hs;rw[hi];clear hi a6;have I:=HG.o.go.sb.blk N.o (λe=>by have:=HH.o.ov.CC e;omega);have c4:w3.cell? ⟨w+1+1,0,none⟩=some (.int .i64 0):=I.cell 0;have f4:=I.frozen 0;clear I;go_wp2_with fail;refine fA (f:=131) (args:=#[.pointer (some ⟨w+1+1,0,none⟩),.pointer (some w),.pointer (some w1)]) oO (by simp[go_sem]) ?_;refine(Eg (code:=12) (gA a0.o) b4.o (λb e=>HH.o.ov.CC e) HG.o (by have:=HG.o.few;have:=HD.o;omega) N.o a5.o b8.o oM oM (by have:=HZ.o;omega) oM (by have:=HZ.o;omega)).mono ?_;rintro e u' a3 ⟨rfl,rfl,hb,d2,hg⟩;have q4:a3.cell? ⟨w+1+1,0,none⟩=some (.int .i64 12):=hb.cell 0;have a4:=(show ∃d',Ar H w O d M (noB 12 (Ax m M)) a3 d' from⟨d2,hg⟩);clear hb hg;simp[Leaves,settle,results,results100,go_sem,q4,a4]
def jF{m:Mu}(h:BD H w O d M)(hH:∀b,H b->b<w.heap.size)(hG:∀b,b<6->H b)(hm:AK w (λb=>b<w/\¬DZ O d b) m c)(hL:Aw w)
  (hd:d.us.length+Ax m M<=1000000) (hl:(AG d.T).length<=1000000) (ht:Av m<=1000000) (hk:m.kd=3) :
  Calls prog 100 #[.pointer (some O),Ap m c] w λe w'=>e=.returned (.int .i64 (stepM m M).1)/\∃d',Ar H w O d (stepM m M).2 (noB (stepM m M).1 (Ax m M)) w' d':=by
 have f3:∀(fn:Fn) (first b7:Array Value) (w:AB),(Instr.makeFunc fn first b7).run prog w=.ok (.func fn first b7) w:=λ_ _ _ _=>rfl
 have e1:(m.kd==1)=false:=by simp[hk]
 have e2:(m.kd==2)=false:=by simp[hk]
 have e3:(m.kd==3)=true:=by simp[hk]
 obtain⟨HD,e0,f5,b6,e7⟩:=Yf hd hl ht (Fo m M) hk;clear hd hl ht hk;obtain⟨r,hr⟩:∃r,stepM m M=r:=⟨_,rfl⟩;rw[hr];obtain⟨d8,HR⟩:=Yb (show r.1≠0->r.2=M fromλh=>by rw[<-hr]at h ⊢;exact Ep h) hr;clear hr;go_enter_defers func100,ntmps100;go_upto_region 1 with fail;generalize b8:World.alloc _ _=W0;obtain⟨a7,c6,a8,d0,a0⟩:=Ch w _ _ _ _ _ _ W0 b8;have c2:W0.cell? w=some (.pointer (some O)):=a8.cell 0;have a1:=F5 (h.ov.nw (gA a7));obtain⟨e4,b5,d5,d4,b4,c8,HH⟩:=Yh a1 a7 a8 d0 a0 c6 h;obtain⟨e8,f1,HM,HL⟩:=Ye hH hG hm hL;clear b8 a7 c6 a8 d0 a0 a1 h hH hG hm hL;go_wp2_with fail;refine e4.o.mono ?_;rintro e w1 ⟨rfl,Z⟩;go_upto_region 2 with fail;have I:=(gz w1).alloc #[.int .i64 (d.us.length:Int)] 3;have b0:=gB w1 3 #[.int .i64 (d.us.length:Int)];have a9:(w1.alloc (.cells #[.int .i64 (d.us.length:Int)] 3)).heap.size=w1.heap.size+1:=eQ _ _;generalize e6:World.alloc _ _=W2 at I b0 a9 ⊢;obtain⟨N,a5,b9,a4,d7,HZ⟩:=Yg ((b5.o.trans Z).trans I) ((d5.o.ext Z).ext I) ((d4.o.ext Z).ext I) ((b4.o.ext Z).ext I) b0 (show w.heap.size+3<=w1.heap.size/\W2.heap.size=w1.heap.size+1 from⟨by rw[<-c8.o];exact Z.size,a9⟩);obtain⟨a3,d3⟩:=Yb (gI b9.o) (HH.o.boxes (gA N.o));clear e6 Z I b0 a9 c2 b5 d5 d4 b4 c8;have k0:=a3.o.kind;go_upto_region 4 with fail;have d6:stepM m M=A' M m.k m.i:=by
  obtain⟨kd,k,tk,i,f0,f7,f6,v,l⟩:=m;have hk:kd=3:=e7.o;subst hk;rw[stepM];rfl
 obtain⟨v0,v1,v2,v3,v4,v5⟩:=a3.o.v6;have b1:=a3.o.c1;have f2:=a3.o.c2;have b3:W2.cell? ⟨w+1,3,none⟩=some (.int .i64 m.i):=a3.o 3 _ rfl;have b2:W2.cell? w=some (.pointer (some O)):=a5.o.cell 0;have a6:AK W2 (Lt W2) m c:=(HM.o.agree (N.o.agree λb hb=>hb.1)).mono λb hb=>ab hb.1 N.o.size
 have a2:=kP (k:=m.k) (by_:=m.i) d3.o (λb hb=>hb.elim (λe=>ab (e8.o b e) N.o.size) λe=>e.2) (by have:=HD.o;have:=b6.o;omega) e0.o a6.parts.2.2.1 a6.parts.2.2.2.2 (HL.o.nw (gA N.o));rw[<-d6,HR.o]at a2;clear d6;have c7:=hY a2;clear a2 a6;go_wp2_with fail;refine c7.o.mono ?_;rintro e w3 ⟨rfl,d1,hg⟩;have HG:=hY (hg.more (m:=Ax m M) (by have:=b6.o;omega));have a0:=hg.go.sb.blk a4.o (λe=>by have:=HH.o.ov.CC e;omega);have c4:w3.cell? ⟨w+1+1,0,none⟩=some (.int .i64 0):=a0.cell 0;have f4:=a0.frozen 0;clear hg a0 k0;go_wp2_with fail;refine fA (f:=131) (args:=#[.pointer (some ⟨w+1+1,0,none⟩),.pointer (some w),.pointer (some w1)]) oO (by simp[go_sem]) ?_;refine(Eg (code:=r.1) (gA N.o) d3.o (λb e=>HH.o.ov.CC e) HG.o (by have:=HG.o.few;have:=HD.o;omega) a4.o a5.o d7.o oM oM (by have:=HZ.o;omega) oM (by have:=HZ.o;omega)).mono ?_;rintro e u' d9 ⟨rfl,rfl,hb,d2,hg⟩;have q4:d9.cell? ⟨w+1+1,0,none⟩=some (.int .i64 r.1):=hb.cell 0;have c9:=I2 (r:=r) d8.o hg;clear hb hg;simp[Leaves,settle,results,results100,go_sem,q4,c9]
def YA{m:Mu}(h:BD H w O d M)(hH:∀b,H b->b<w.heap.size)(hG:∀b,b<6->H b)(hm:AK w (λb=>b<w/\¬DZ O d b) m c)(hL:Aw w)
  (hd:d.us.length+Ax m M<=1000000) (hl:(AG d.T).length<=1000000) (ht:Av m<=1000000) (hk:m.kd=4) :
  Calls prog 100 #[.pointer (some O),Ap m c] w λe w'=>e=.returned (.int .i64 (stepM m M).1)/\∃d',Ar H w O d (stepM m M).2 (noB (stepM m M).1 (Ax m M)) w' d':=by
 have f6:∀(fn:Fn) (first b7:Array Value) (w:AB),(Instr.makeFunc fn first b7).run prog w=.ok (.func fn first b7) w:=λ_ _ _ _=>rfl
 have e1:(m.kd==1)=false:=by simp[hk]
 have e2:(m.kd==2)=false:=by simp[hk]
 have e3:(m.kd==3)=false:=by simp[hk]
 have e4:(m.kd==4)=true:=by simp[hk]
 obtain⟨HD,e0,f1,b6,e8⟩:=Yf hd hl ht (Fo m M) hk;clear hd hl ht hk;obtain⟨r,hr⟩:∃r,stepM m M=r:=⟨_,rfl⟩;rw[hr];obtain⟨d8,HR⟩:=Yb (show r.1≠0->r.2=M fromλh=>by rw[<-hr]at h ⊢;exact Ep h) hr;clear hr;go_enter_defers func100,ntmps100;go_upto_region 1 with fail;generalize b8:World.alloc _ _=W0;obtain⟨a6,c6,a7,d0,a1⟩:=Ch w _ _ _ _ _ _ W0 b8;have c2:W0.cell? w=some (.pointer (some O)):=a7.cell 0;have a2:=F5 (h.ov.nw (gA a6));obtain⟨e6,b4,d5,d4,b0,c8,HH⟩:=Yh a2 a6 a7 d0 a1 c6 h;obtain⟨f0,f3,HM,HL⟩:=Ye hH hG hm hL;clear b8 a6 c6 a7 d0 a1 a2 h hH hG hm hL;go_wp2_with fail;refine e6.o.mono ?_;rintro e w1 ⟨rfl,Z⟩;go_upto_region 2 with fail;have I:=(gz w1).alloc #[.int .i64 (d.us.length:Int)] 3;have a9:=gB w1 3 #[.int .i64 (d.us.length:Int)];have a8:(w1.alloc (.cells #[.int .i64 (d.us.length:Int)] 3)).heap.size=w1.heap.size+1:=eQ _ _;generalize e7:World.alloc _ _=W2 at I a9 a8 ⊢;obtain⟨N,a5,b9,a4,d7,HZ⟩:=Yg ((b4.o.trans Z).trans I) ((d5.o.ext Z).ext I) ((d4.o.ext Z).ext I) ((b0.o.ext Z).ext I) a9 (show w.heap.size+3<=w1.heap.size/\W2.heap.size=w1.heap.size+1 from⟨by rw[<-c8.o];exact Z.size,a8⟩);obtain⟨a0,d3⟩:=Yb (gI b9.o) (HH.o.boxes (gA N.o));clear e7 Z I a9 a8 c2 b4 d5 d4 b0 c8;have k0:=a0.o.kind;go_upto_region 4 with fail;have d6:stepM m M=JD M m:=by
  obtain⟨kd,k,tk,i,f2,f8,f7,v,l⟩:=m;have hk:kd=4:=e8.o;subst hk;rw[stepM];rfl
 obtain⟨v0,v1,v2,v3,v4,v5⟩:=a0.o.v6;have b1:=a0.o.c1;have f5:=a0.o.c2;have b3:W2.cell? ⟨w+1,3,none⟩=some (.int .i64 m.i):=a0.o 3 _ rfl;have b2:W2.cell? w=some (.pointer (some O)):=a5.o.cell 0;have b5:AK W2 (Lt W2) m c:=(HM.o.agree (N.o.agree λb hb=>hb.1)).mono λb hb=>ab hb.1 N.o.size
 have a3:=ow (m:=m) (c:=c) d3.o (λb hb=>hb.elim (λe=>ab (f0.o b e) N.o.size) λe=>e.2) (by have:=HD.o;have:=b6.o;omega) e0.o b5 (by have:=f1.o;omega) (HL.o.nw (gA N.o));rw[<-d6,HR.o]at a3;clear d6;have c7:=hY a3;clear a3 b5;go_wp2_with(refine A9 rfl (.tmp 3) rfl (w.heap.size+1) 0 rfl m c a0.o ?_);refine c7.o.mono ?_;rintro e w3 ⟨rfl,d1,hg⟩;have HG:=hY (hg.more (m:=Ax m M) (by have:=b6.o;omega));have a1:=hg.go.sb.blk a4.o (λe=>by have:=HH.o.ov.CC e;omega);have c4:w3.cell? ⟨w+1+1,0,none⟩=some (.int .i64 0):=a1.cell 0;have f4:=a1.frozen 0;clear hg a1 k0;go_wp2_with fail;refine fA (f:=131) (args:=#[.pointer (some ⟨w+1+1,0,none⟩),.pointer (some w),.pointer (some w1)]) oO (by simp[go_sem]) ?_;refine(Eg (code:=r.1) (gA N.o) d3.o (λb e=>HH.o.ov.CC e) HG.o (by have:=HG.o.few;have:=HD.o;omega) a4.o a5.o d7.o oM oM (by have:=HZ.o;omega) oM (by have:=HZ.o;omega)).mono ?_;rintro e u' d9 ⟨rfl,rfl,hb,d2,hg⟩;have q4:d9.cell? ⟨w+1+1,0,none⟩=some (.int .i64 r.1):=hb.cell 0;have c9:=I2 (r:=r) d8.o hg;clear hb hg;simp[Leaves,settle,results,results100,go_sem,q4,c9]
def qB{m:Mu}(h:BD H w O d M)(hH:∀b,H b->b<w.heap.size)(hG:∀b,b<6->H b)(hm:AK w (λb=>b<w/\¬DZ O d b) m c)(hL:Aw w)
  (hd:d.us.length+Ax m M<=1000000) (hl:(AG d.T).length<=1000000) (ht:Av m<=1000000) (hk:m.kd=5) :
  Calls prog 100 #[.pointer (some O),Ap m c] w λe w'=>e=.returned (.int .i64 (stepM m M).1)/\∃d',Ar H w O d (stepM m M).2 (noB (stepM m M).1 (Ax m M)) w' d':=by
 have f6:∀(fn:Fn) (first b7:Array Value) (w:AB),(Instr.makeFunc fn first b7).run prog w=.ok (.func fn first b7) w:=λ_ _ _ _=>rfl
 have e1:(m.kd==1)=false:=by simp[hk]
 have e2:(m.kd==2)=false:=by simp[hk]
 have e3:(m.kd==3)=false:=by simp[hk]
 have e4:(m.kd==4)=false:=by simp[hk]
 have e5:(m.kd==5)=true:=by simp[hk]
 obtain⟨HD,e0,f1,b6,e8⟩:=Yf hd hl ht (Fo m M) hk;clear hd hl ht hk;obtain⟨r,hr⟩:∃r,stepM m M=r:=⟨_,rfl⟩;rw[hr];obtain⟨d8,HR⟩:=Yb (show r.1≠0->r.2=M fromλh=>by rw[<-hr]at h ⊢;exact Ep h) hr;clear hr;go_enter_defers func100,ntmps100;go_upto_region 1 with fail;generalize b8:World.alloc _ _=W0;obtain⟨a7,c6,a8,d0,a0⟩:=Ch w _ _ _ _ _ _ W0 b8;have c2:W0.cell? w=some (.pointer (some O)):=a8.cell 0;have a1:=F5 (h.ov.nw (gA a7));obtain⟨e6,b5,d5,d4,b4,c8,HH⟩:=Yh a1 a7 a8 d0 a0 c6 h;obtain⟨f0,f3,HM,HL⟩:=Ye hH hG hm hL;clear b8 a7 c6 a8 d0 a0 a1 h hH hG hm hL;go_wp2_with fail;refine e6.o.mono ?_;rintro e w1 ⟨rfl,Z⟩;go_upto_region 2 with fail;have I:=(gz w1).alloc #[.int .i64 (d.us.length:Int)] 3;have b0:=gB w1 3 #[.int .i64 (d.us.length:Int)];have a9:(w1.alloc (.cells #[.int .i64 (d.us.length:Int)] 3)).heap.size=w1.heap.size+1:=eQ _ _;generalize e7:World.alloc _ _=W2 at I b0 a9 ⊢;obtain⟨N,a5,b9,a4,d7,HZ⟩:=Yg ((b5.o.trans Z).trans I) ((d5.o.ext Z).ext I) ((d4.o.ext Z).ext I) ((b4.o.ext Z).ext I) b0 (show w.heap.size+3<=w1.heap.size/\W2.heap.size=w1.heap.size+1 from⟨by rw[<-c8.o];exact Z.size,a9⟩);obtain⟨a3,d3⟩:=Yb (gI b9.o) (HH.o.boxes (gA N.o));clear e7 Z I b0 a9 c2 b5 d5 d4 b4 c8;have k0:=a3.o.kind;go_upto_region 4 with fail;have d6:stepM m M=DY M m.k m.v:=by
  obtain⟨kd,k,tk,i,f2,f8,f7,v,l⟩:=m;have hk:kd=5:=e8.o;subst hk;rw[stepM];rfl
 obtain⟨v0,v1,v2,v3,v4,v5⟩:=a3.o.v6;have b1:=a3.o.c1;have f5:=a3.o.c2;have b3:W2.cell? ⟨w+1,3,none⟩=some (.int .i64 m.i):=a3.o 3 _ rfl;have b2:W2.cell? w=some (.pointer (some O)):=a5.o.cell 0;have a6:AK W2 (Lt W2) m c:=(HM.o.agree (N.o.agree λb hb=>hb.1)).mono λb hb=>ab hb.1 N.o.size
 have a2:=Vo (k:=m.k) d3.o (λb hb=>hb.elim (λe=>ab (f0.o b e) N.o.size) λe=>e.2) (by have:=HD.o;have:=b6.o;omega) e0.o a6.parts.2.2.1 a6.parts.2.1 (an (Fl m).1 (by have:=f1.o;omega)) (HL.o.nw (gA N.o));rw[<-d6,HR.o]at a2;clear d6;have c7:=hY a2;clear a2 a6;go_wp2_with fail;refine c7.o.mono ?_;rintro e w3 ⟨rfl,d1,hg⟩;have HG:=hY (hg.more (m:=Ax m M) (by have:=b6.o;omega));have a0:=hg.go.sb.blk a4.o (λe=>by have:=HH.o.ov.CC e;omega);have c4:w3.cell? ⟨w+1+1,0,none⟩=some (.int .i64 0):=a0.cell 0;have f4:=a0.frozen 0;clear hg a0 k0;go_wp2_with fail;refine fA (f:=131) (args:=#[.pointer (some ⟨w+1+1,0,none⟩),.pointer (some w),.pointer (some w1)]) oO (by simp[go_sem]) ?_;refine(Eg (code:=r.1) (gA N.o) d3.o (λb e=>HH.o.ov.CC e) HG.o (by have:=HG.o.few;have:=HD.o;omega) a4.o a5.o d7.o oM oM (by have:=HZ.o;omega) oM (by have:=HZ.o;omega)).mono ?_;rintro e u' d9 ⟨rfl,rfl,hb,d2,hg⟩;have q4:d9.cell? ⟨w+1+1,0,none⟩=some (.int .i64 r.1):=hb.cell 0;have c9:=I2 (r:=r) d8.o hg;clear hb hg;simp[Leaves,settle,results,results100,go_sem,q4,c9]
def nX{m:Mu}(h:BD H w O d M)(hH:∀b,H b->b<w.heap.size)(hG:∀b,b<6->H b)(hm:AK w (λb=>b<w/\¬DZ O d b) m c)(hL:Aw w)
  (hd:d.us.length+Ax m M<=1000000) (hl:(AG d.T).length<=1000000) (ht:Av m<=1000000) (hk:m.kd=6) :
  Calls prog 100 #[.pointer (some O),Ap m c] w λe w'=>e=.returned (.int .i64 (stepM m M).1)/\∃d',Ar H w O d (stepM m M).2 (noB (stepM m M).1 (Ax m M)) w' d':=by
 have f7:∀(fn:Fn) (first b7:Array Value) (w:AB),(Instr.makeFunc fn first b7).run prog w=.ok (.func fn first b7) w:=λ_ _ _ _=>rfl
 have e1:(m.kd==1)=false:=by simp[hk]
 have e2:(m.kd==2)=false:=by simp[hk]
 have e3:(m.kd==3)=false:=by simp[hk]
 have e4:(m.kd==4)=false:=by simp[hk]
 have e5:(m.kd==5)=false:=by simp[hk]
 have e6:(m.kd==6)=true:=by simp[hk]
 obtain⟨HD,e0,f3,b6,f1⟩:=Yf hd hl ht (Fo m M) hk;clear hd hl ht hk;obtain⟨r,hr⟩:∃r,stepM m M=r:=⟨_,rfl⟩;rw[hr];obtain⟨d8,HR⟩:=Yb (show r.1≠0->r.2=M fromλh=>by rw[<-hr]at h ⊢;exact Ep h) hr;clear hr;go_enter_defers func100,ntmps100;go_upto_region 1 with fail;generalize b8:World.alloc _ _=W0;obtain⟨a6,c6,a7,d0,a0⟩:=Ch w _ _ _ _ _ _ W0 b8;have c2:W0.cell? w=some (.pointer (some O)):=a7.cell 0;have a1:=F5 (h.ov.nw (gA a6));obtain⟨e7,b4,d5,d4,b0,c8,HH⟩:=Yh a1 a6 a7 d0 a0 c6 h;obtain⟨f2,f0,HM,HL⟩:=Ye hH hG hm hL;clear b8 a6 c6 a7 d0 a0 a1 h hH hG hm hL;go_wp2_with fail;refine e7.o.mono ?_;rintro e w1 ⟨rfl,Z⟩;go_upto_region 2 with fail;have I:=(gz w1).alloc #[.int .i64 (d.us.length:Int)] 3;have a9:=gB w1 3 #[.int .i64 (d.us.length:Int)];have a8:(w1.alloc (.cells #[.int .i64 (d.us.length:Int)] 3)).heap.size=w1.heap.size+1:=eQ _ _;generalize e8:World.alloc _ _=W2 at I a9 a8 ⊢;obtain⟨N,a5,b9,a4,d7,HZ⟩:=Yg ((b4.o.trans Z).trans I) ((d5.o.ext Z).ext I) ((d4.o.ext Z).ext I) ((b0.o.ext Z).ext I) a9 (show w.heap.size+3<=w1.heap.size/\W2.heap.size=w1.heap.size+1 from⟨by rw[<-c8.o];exact Z.size,a8⟩);obtain⟨a3,d3⟩:=Yb (gI b9.o) (HH.o.boxes (gA N.o));clear e8 Z I a9 a8 c2 b4 d5 d4 b0 c8;have k0:=a3.o.kind;go_upto_region 4 with fail;have d6:stepM m M=CN M m.k m.tk:=by
  obtain⟨kd,k,tk,i,f5,f9,f8,v,l⟩:=m;have hk:kd=6:=f1.o;subst hk;rw[stepM];rfl
 obtain⟨v0,v1,v2,v3,v4,v5⟩:=a3.o.v6;have b1:=a3.o.c1;have f6:=a3.o.c2;have b3:W2.cell? ⟨w+1,3,none⟩=some (.int .i64 m.i):=a3.o 3 _ rfl;have b2:W2.cell? w=some (.pointer (some O)):=a5.o.cell 0;have b5:AK W2 (Lt W2) m c:=(HM.o.agree (N.o.agree λb hb=>hb.1)).mono λb hb=>ab hb.1 N.o.size
 have a2:=jB (f:=m.k) (t:=m.tk) d3.o (λb hb=>hb.elim (λe=>ab (f2.o b e) N.o.size) λe=>e.2) (by have:=HD.o;have:=b6.o;omega) e0.o b5.parts.2.2.1 (an (jR m) (by have:=f3.o;omega)) (HL.o.nw (gA N.o)) (λb hb=>.inl (f0.o b hb));rw[<-d6,HR.o]at a2;clear d6;have c7:=hY a2;clear a2 b5;go_wp2_with fail;refine c7.o.mono ?_;rintro e w3 ⟨rfl,d1,hg⟩;have HG:=hY (hg.more (m:=Ax m M) (by have:=b6.o;omega));have a0:=hg.go.sb.blk a4.o (λe=>by have:=HH.o.ov.CC e;omega);have c4:w3.cell? ⟨w+1+1,0,none⟩=some (.int .i64 0):=a0.cell 0;have f4:=a0.frozen 0;clear hg a0 k0;go_wp2_with fail;refine fA (f:=131) (args:=#[.pointer (some ⟨w+1+1,0,none⟩),.pointer (some w),.pointer (some w1)]) oO (by simp[go_sem]) ?_;refine(Eg (code:=r.1) (gA N.o) d3.o (λb e=>HH.o.ov.CC e) HG.o (by have:=HG.o.few;have:=HD.o;omega) a4.o a5.o d7.o oM oM (by have:=HZ.o;omega) oM (by have:=HZ.o;omega)).mono ?_;rintro e u' d9 ⟨rfl,rfl,hb,d2,hg⟩;have q4:d9.cell? ⟨w+1+1,0,none⟩=some (.int .i64 r.1):=hb.cell 0;have c9:=I2 (r:=r) d8.o hg;clear hb hg;simp[Leaves,settle,results,results100,go_sem,q4,c9]
def oK{m:Mu}(h:BD H w O d M)(hH:∀b,H b->b<w.heap.size)(hG:∀b,b<6->H b)(hm:AK w (λb=>b<w/\¬DZ O d b) m c)(hL:Aw w)
  (hd:d.us.length+Ax m M<=1000000) (hl:(AG d.T).length<=1000000) (ht:Av m<=1000000) (I:m.kd≠1/\m.kd≠2/\m.kd≠3/\m.kd≠4/\m.kd≠5/\m.kd≠6/\m.kd≠7) :
  Calls prog 100 #[.pointer (some O),Ap m c] w λe w'=>e=.returned (.int .i64 (stepM m M).1)/\∃d',Ar H w O d (stepM m M).2 (noB (stepM m M).1 (Ax m M)) w' d':=by
 have f2:∀(fn:Fn) (first b0:Array Value) (w:AB),(Instr.makeFunc fn first b0).run prog w=.ok (.func fn first b0) w:=λ_ _ _ _=>rfl
 have e1:(m.kd==1)=false:=eP.2 I.1;have e2:(m.kd==2)=false:=eP.2 I.2.1;have e3:(m.kd==3)=false:=eP.2 I.2.2.1;have e4:(m.kd==4)=false:=eP.2 I.2.2.2.1;have e5:(m.kd==5)=false:=eP.2 I.2.2.2.2.1;have e6:(m.kd==6)=false:=eP.2 I.2.2.2.2.2.1;have e7:(m.kd==7)=false:=eP.2 I.2.2.2.2.2.2;obtain⟨HD,e0,f3,e8,d5⟩:=Yf hd hl ht (Fo m M) I;clear hd hl ht I;obtain⟨r,hr⟩:∃r,stepM m M=r:=⟨_,rfl⟩;rw[hr];obtain⟨d9,HR⟩:=Yb (show r.1≠0->r.2=M fromλh=>by rw[<-hr]at h ⊢;exact Ep h) hr;clear hr;go_enter_defers func100,ntmps100;go_upto_region 1 with fail;generalize b3:World.alloc _ _=W0;obtain⟨a2,b5,a3,b8,c9⟩:=Ch w _ _ _ _ _ _ W0 b3;have c2:W0.cell? w=some (.pointer (some O)):=a3.cell 0;have a0:=F5 (h.ov.nw (gA a2));obtain⟨d3,a7,c8,c6,a6,b6,HH⟩:=Yh a0 a2 a3 b8 c9 b5 h;obtain⟨f1,f0,HM,HL⟩:=Ye hH hG hm hL;clear b3 a2 b5 a3 b8 c9 a0 h hH hG hm hL;go_wp2_with fail;refine d3.o.mono ?_;rintro e w1 ⟨rfl,Z⟩;go_upto_region 2 with fail;have N:=(gz w1).alloc #[.int .i64 (d.us.length:Int)] 3;have a5:=gB w1 3 #[.int .i64 (d.us.length:Int)];have a4:(w1.alloc (.cells #[.int .i64 (d.us.length:Int)] 3)).heap.size=w1.heap.size+1:=eQ _ _;generalize d4:World.alloc _ _=W2 at N a5 a4 ⊢;obtain⟨a9,c7,b4,a1,d0,HZ⟩:=Yg ((a7.o.trans Z).trans N) ((c8.o.ext Z).ext N) ((c6.o.ext Z).ext N) ((a6.o.ext Z).ext N) a5 (show w.heap.size+3<=w1.heap.size/\W2.heap.size=w1.heap.size+1 from⟨by rw[<-b6.o];exact Z.size,a4⟩);obtain⟨d6,b9⟩:=Yb (gI b4.o) (HH.o.boxes (gA a9.o));clear d4 Z N a5 a4 c2 a7 c8 c6 a6 b6;have k0:=d6.o.kind;go_upto_region 4 with fail;have d7:r=(9,M):=by
  rw[<-HR.o];obtain⟨kd,k,tk,i,d8,f6,f5,v,l⟩:=m;have I:kd≠1/\kd≠2/\kd≠3/\kd≠4/\kd≠5/\kd≠6/\kd≠7:=d5.o;rw[stepM,eL I.1,eL I.2.1,eL I.2.2.1,eL I.2.2.2.1,eL I.2.2.2.2.1,eL I.2.2.2.2.2.1,eL I.2.2.2.2.2.2]
 subst d7;have HG:=hY (b9.o.stay (n:=Ax m M) (gE _ W2));have c4:W2.cell? ⟨w+1+1,0,none⟩=some (.int .i64 0):=a1.o.cell 0;have f4:=a1.o.frozen 0;go_wp2_with fail;refine fA (f:=131) (args:=#[.pointer (some ⟨w+1+1,0,none⟩),.pointer (some w),.pointer (some w1)]) oO (by simp[go_sem]) ?_;refine(Eg (code:=9) (gA a9.o) b9.o (λb e=>HH.o.ov.CC e) HG.o (by have:=HG.o.few;have:=HD.o;omega) a1.o c7.o d0.o oM oM (by have:=HZ.o;omega) oM (by have:=HZ.o;omega)).mono ?_;rintro e u' a8 ⟨rfl,rfl,hb,d2,hg⟩;have q4:a8.cell? ⟨w+1+1,0,none⟩=some (.int .i64 9):=hb.cell 0;have b7:=(show ∃d',Ar H w O d M (noB 9 (Ax m M)) a8 d' from⟨d2,hg⟩);clear hb hg;simp[Leaves,settle,results,results100,go_sem,q4,b7]
def oC{l:List Mu}{x:Mu}(h:l[j]? = some x)(M:List AD):Al (l.drop j) M=if(stepM x M).1≠0 then((stepM x M).1,M)else Al (l.drop (j+1)) (stepM x M).2:=by
 obtain⟨h1,h2⟩:=ai.1 h;rw[aE h1,h2,Al]
def lC(m:Mu):Prop:=∀(j:Nat) (x:Mu),m.l[j]? = some x->∀(y:AR) (H:Nat->Prop) (W:AB) (O:Nat) (d:OD) (M:List AD),BD H W O d M->(∀b,H b->b<W.heap.size)->(∀b,b<6->H b)->AK W (λb=>b<W.heap.size/\¬DZ O d b) x y->Aw W->
 d.us.length+Ax x M<=1000000->(AG d.T).length<=1000000->Av x<=1000000->
 Calls prog 100 #[.pointer (some ⟨O,0,none⟩),Ap x y] W λe w'=>e=.returned (.int .i64 (stepM x M).1)/\∃d',Ar H W O d (stepM x M).2 (Ax x M) w' d'
def Zn{m:Mu}(h:BD H w O d M)(hH:∀b,H b->b<w.heap.size)(hG:∀b,b<6->H b)(hm:AK w (λb=>b<w.heap.size/\¬DZ O d b) m c)(hL:Aw w)
  (hd:d.us.length+Ax m M<=1000000) (hl:(AG d.T).length<=1000000) (ht:Av m<=1000000) (hk:m.kd=7) (c8:m.k.size=0->m.had=false)
  (ih:lC m) :
  Calls prog 100 #[.pointer (some O),Ap m c] w λe w'=>e=.returned (.int .i64 (stepM m M).1)/\∃d',Ar H w O d (stepM m M).2 (noB (stepM m M).1 (Ax m M)) w' d':=by
 have l6:∀(fn:Fn) (first f3:Array Value) (w:AB),(Instr.makeFunc fn first f3).run prog w=.ok (.func fn first f3) w:=λ_ _ _ _=>rfl
 have e1:(m.kd==1)=false:=by simp[hk]
 have e2:(m.kd==2)=false:=by simp[hk]
 have e3:(m.kd==3)=false:=by simp[hk]
 have e4:(m.kd==4)=false:=by simp[hk]
 have e5:(m.kd==5)=false:=by simp[hk]
 have e6:(m.kd==6)=false:=by simp[hk]
 have e7:(m.kd==7)=true:=by simp[hk]
 obtain⟨HD,i4,k3,n4,k8,i2,j4⟩:=Yh hd hl ht (Fo m M) hk c8 ih;clear hd hl ht hk c8 ih;obtain⟨r,hr⟩:∃r,stepM m M=r:=⟨_,rfl⟩;rw[hr];obtain⟨n2,HR⟩:=Yb (show r.1≠0->r.2=M fromλh=>by rw[<-hr]at h ⊢;exact Ep h) hr;clear hr;go_enter_defers func100,ntmps100;go_upto_region 1 with fail;generalize f5:World.alloc _ _=W0;obtain⟨d7,f7,b3,b5,N⟩:=Ch w _ _ _ _ _ _ W0 f5;have c2:W0.cell? w=some (.pointer (some O)):=b3.cell 0;have b6:=F5 (h.ov.nw (gA d7));obtain⟨j5,i1,g6,j0,g9,i9,HH⟩:=Yh b6 d7 b3 b5 N f7 h;obtain⟨k9,i8,HM,HL⟩:=Ye hH hG hm hL;clear f5 d7 f7 b3 b5 N b6 h hH hG hm hL;go_wp2_with fail;refine j5.o.mono ?_;rintro e w1 ⟨rfl,a8⟩;go_upto_region 2 with fail;have a7:=(gz w1).alloc #[.int .i64 (d.us.length:Int)] 3;have d9:=gB w1 3 #[.int .i64 (d.us.length:Int)];have d5:(w1.alloc (.cells #[.int .i64 (d.us.length:Int)] 3)).heap.size=w1.heap.size+1:=eQ _ _;generalize j7:World.alloc _ _=W2 at a7 d9 d5 ⊢;obtain⟨a2,a5,f6,a1,d3,HZ⟩:=Yg ((i1.o.trans a8).trans a7) ((g6.o.ext a8).ext a7) ((j0.o.ext a8).ext a7) ((g9.o.ext a8).ext a7) d9 (show w.heap.size+3<=w1.heap.size/\W2.heap.size=w1.heap.size+1 from⟨by rw[<-i9.o];exact a8.size,d5⟩);obtain⟨c6,a9⟩:=Yb (gI f6.o) (HH.o.boxes (gA a2.o));clear j7 a8 a7 d9 d5 c2 i1 g6 j0 g9 i9;have k0:=c6.o.kind;go_upto_region 4 with fail;go_upto_region 19 with fail;have b7:stepM m M=if asM M m.k m.had m.was then(if(Al m.l M).1≠0 then((Al m.l M).1,M)else Al m.l M)else(13,M):=by
  obtain⟨kd,k,tk,i,l5,n8,l8,v,l⟩:=m;have hk:kd=7:=k8.o;subst hk;rw[stepM];rfl
 rw[HR.o]at b7;have c7:=hY b7;have b1:=c6.o.c1;have b2:W2.cell? w=some (.pointer (some O)):=a5.o.cell 0;have i3:AK W2 (Lt W2.heap.size) m c:=(HM.o.agree (a2.o.agree λb Z=>Z.1)).mono λb Z=>ab Z.1 a2.o.size
 have d8:=hY (UB a9.o i4.o i3);clear b7 i3 k0;go_cut [68]from 60 to 68 (λv w'=>v=.bool (!asM M m.k m.had m.was)/\Nw W2 w')
 case first=>
  by_cases b0:m.k.size=0
  ·have g0:=Dm b0
   have ha:asM M m.k m.had m.was=true:=by
    have hn:AH M m.k=none:=by
     cases hg:AH M m.k with
     |none=>rfl
     | some y=>
       have:=(HH.o.rel.ok.get hg).1;unfold AT at this;rw[eN b0]at this;cases this
    unfold asM;rw[hn,i2.o b0];rfl
   have HA:=hY ha;clear ha b0;go_wp2_with fail;go_meet;exact⟨by rw[HA.o]<;>rfl,gE _ _⟩
  have g0:=EG b0;clear b0
  repeat (first |(refine wp_load_mid 59 (.tmp 3) rfl (w.heap.size+1) 0 rfl (A5 m c) _ c6.o.range underlying59 rfl (by rw[F4];exact Tryz.GZ) ?_)|go_values|go_skip|go_guarded|go_step)
  refine d8.o.mono ?_;rintro e w3 ⟨rfl,g8⟩;have l2:=hY (gA g8);clear g8;go_wp2_with fail;go_meet;exact⟨rfl,l2.o⟩
 obtain⟨hv,hn⟩:=hcut;subst hv;have j2:=hY hn;have N:=hn.blk a1.o;have c4:wc.cell? ⟨w.heap.size+1+1,0,none⟩=some (.int .i64 0):=N.cell 0;have f4:=N.frozen 0;have HC:=hY (c6.o.nw hn);clear hn N b1 b2;rcases be (asM M m.k m.had m.was)with ha|ha
 rotate_left
 ·have hs:=c7.o
  rw[eL (by rw[ha];decide)]at hs;subst hs;have HG:=hY (a9.o.stay (n:=Ax m M) j2.o);rw[show(!asM M m.k m.had m.was)=true by rw[ha];rfl];clear ha;go_wp2_with fail;refine fA (f:=131) (args:=#[.pointer (some ⟨w.heap.size+1+1,0,none⟩),.pointer (some w),.pointer (some w1)]) oO (by simp[go_sem]) ?_;refine(Eg (code:=13) (gA a2.o) a9.o (λb e=>HH.o.ov.CC e) HG.o (by have:=HG.o.few;have:=HD.o;omega) a1.o a5.o d3.o oM oM (by have:=HZ.o;omega) oM (by have:=HZ.o;omega)).mono ?_;rintro e u' a3 ⟨rfl,rfl,Z,d2,hg⟩;have q4:a3.cell? ⟨w.heap.size+1+1,0,none⟩=some (.int .i64 13):=Z.cell 0;have a4:=(show ∃d',Ar H w O d M (noB 13 (Ax m M)) a3 d' from⟨d2,hg⟩);clear Z hg;simp[Leaves,settle,results,results100,go_sem,q4,a4]
 have hs:=c7.o;rw[eN ha]at hs;have HS:=hY hs;rw[show(!asM M m.k m.had m.was)=false by rw[ha];rfl];have n6:wc.cell? ⟨w.heap.size+1,8+10,none⟩=some (.slice c.s.a m.l.length c.s.c):=HC.o 18 _ rfl;have l3:=HM.o.len;clear hs ha c4 f4;go_wp2_with fail;go_loopw[72] (λk7 wr=>∃(j:Nat) (d1:OD) (M1:List AD),k7=.int .i64 (j:Int)/\j<=m.l.length/\Yd (Ar (HB H w.heap.size W2.heap.size) W2 O d M1 (A4 (m.l.take j)*(2*(M.length+Ag m)+1)) wr d1)/\Yd (Al (m.l.drop j) M1=Al m.l M)/\Yd (M1.length<=M.length+A4 (m.l.take j))) (λv _=>m.l.length -(intOf v).toNat)
 case atStart=>exact⟨0,d,M,rfl,aw _,hY (a9.o.stay j2.o),hY rfl,hY (dA _ _)⟩
 obtain⟨j,d1,M1,rfl,hj,a0,i7,j9⟩:=hrel;by_cases g3:j<m.l.length
 ·have l1:(j:Int)<(m.l.length:Int):=oM
  have l7:decide ((j:Int)<(m.l.length:Int))=true:=eO l1;have l0:(0:Int)<=(j:Int):=oM
  obtain⟨x,hx⟩:∃x,m.l[j]? = some x:=⟨_,ac g3⟩;obtain⟨b,o,y,j6,b9,l4,n7,j1,g7⟩:=HM.o.at hx;have i0:=a2.o.size;have a6:Sb (DZ O d) w wr:=((gA a2.o).any _).trans a0.o.go.sb;have i6:=hY (show Ay wr b (o+j*19) x y fromλi u hu=>(a6.cell b9.1 b9.2).trans (j1 i u hu));have l9:b<wr.heap.size:=ab b9.1 a6.size;have f9:=GD hx;have k5:=GW m.l (j+1);have k1:=Gy m;have k6:=j9.o;have j3:Ax x M1<=Ag x*(2*(M.length+Ag m)+1):=Nat.mul_le_mul_left _ oM;have b3:A4 (m.l.take (j+1))*(2*(M.length+Ag m)+1)=A4 (m.l.take j)*(2*(M.length+Ag m)+1)+Ag x*(2*(M.length+Ag m)+1):=by rw[f9,eI]
  have b5:A4 (m.l.take (j+1))*(2*(M.length+Ag m)+1)<=Ax m M:=ci _ oM;have b4:=λW (hW:Ext wr W)=>j4.o j x hx y (HB H w.heap.size W2.heap.size) W O d1 M1 (a0.o.at_.nw (gA hW)) (λb Z=>ab (Z.elim (λe=>ab (k9.o b e) i0) λe=>e.2) (an a0.o.go.sb.size hW.size)) (λb Z=>.inl (i8.o b Z))
   ((g7.agree (λb Z=>(a6.trans ((gA hW).any _)).block b Z.1 Z.2)).mono λb Z=>⟨Nat.lt_of_lt_of_le Z.1 (an a6.size hW.size),λe=>(a0.o.go.new b e).elim Z.2 λe2=>by have:=Z.1;omega⟩)
   (((HL.o.nw (gA a2.o)).sb a0.o.go.sb (λb Z e=>HH.o.ov.out b e (i8.o b Z))).nw (gA hW)) (by have:=a0.o.few;have:=HD.o;omega) (by rw[a0.o.T];exact i4.o) (an (Gd hx) (an (J3 m) k3.o))
  obtain⟨d4,d6,k4⟩:=Yc b4 (show A4 (m.l.take j)*(2*(M.length+Ag m)+1)+Ax x M1<=A4 (m.l.take (j+1))*(2*(M.length+Ag m)+1)/\A4 (m.l.take (j+1))*(2*(M.length+Ag m)+1)<=Ax m M from⟨oM,b5⟩) (show(stepM x M1).2.length<=M.length+A4 (m.l.take (j+1))by have:=OR x M1;omega);have I:=i7.o;rw[oC hx]at I;have c9:=hY I;have b8:=a0.o.go.sb.blk a5.o (λe=>by have:=HH.o.ov.CC e;omega);have f0:wr.cell? w=some (.pointer (some O)):=b8.cell 0;have f8:=b8.lt;obtain⟨q,hq⟩:∃q,stepM x M1=q:=⟨_,rfl⟩;have HQ:=hY hq;rw[j6];clear i0 a6 f9 k5 k1 k6 j3 b3 b5 b4 I b8 g7 j1 hx hq b9;go_wp2_with(first |(refine A9 rfl (.tmp 74) rfl b (o+j*19) rfl x y i6.o ?_) |(refine LK rfl rfl rfl x y (w0:=wr) (b:=wr.heap.size) rfl ((gz wr).alloc _ _) (gB wr _ _) rfl rfl rfl ?_;intro w5 d0 g5;have f2:=hY d0;have k2:=(d0.cell f8).trans f0;have j8:=hY (gI g5);clear d0 g5) |(refine A9 rfl (.tmp 7) rfl wr.heap.size 0 rfl x y j8.o ?_));refine(d4.o _ f2.o).mono ?_;rintro e w6 ⟨rfl,d2,e8⟩;rw[HQ.o]at e8 ⊢;have f1:=hY (a0.o.trans (e8.since (gA f2.o)));clear e8 k2 f0 f8;by_cases h0:q.1=0
  ·have g0:(q.1 == 0)=true:=by simp [h0]
   have I:=c9.o;have e0:=k4.o;rw[HQ.o]at I e0;rw[eL (λh=>h h0)]at I;obtain⟨i5,g4⟩:=Yb I e0;clear I e0 h0;go_wp2_with fail;go_roundw
   case measure=>simp[intOf];omega
   exact⟨j+1,d2,q.2,by go_num,g3,hY (f1.o.more d6.o.1),i5,g4⟩
  have g0:(q.1==0)=false:=eP.2 h0;have I:=c9.o;rw[HQ.o,eN h0]at I;have hs:=HS.o;rw[<-I,eN h0]at hs;subst hs;have HG:=hY (f1.o.more (m:=Ax m M) (an d6.o.1 d6.o.2));have N:=HG.o.go.sb.blk a1.o (λe=>by have:=HH.o.ov.CC e;omega);have c4:w6.cell? ⟨w.heap.size+1+1,0,none⟩=some (.int .i64 0):=N.cell 0;have f4:=N.frozen 0;have H0:=hY h0;clear N I h0;go_wp2_with fail;refine fA (f:=131) (args:=#[.pointer (some ⟨w.heap.size+1+1,0,none⟩),.pointer (some w),.pointer (some w1)]) oO (by simp[go_sem]) ?_;refine(Eg (code:=q.1) (gA a2.o) a9.o (λb e=>HH.o.ov.CC e) HG.o (by have:=HG.o.few;have:=HD.o;omega) a1.o a5.o d3.o oM oM (by have:=HZ.o;omega) oM (by have:=HZ.o;omega)).mono ?_;rintro e u' a3 ⟨rfl,rfl,Z,d2,hg⟩;have q4:a3.cell? ⟨w.heap.size+1+1,0,none⟩=some (.int .i64 q.1):=Z.cell 0;have a4:=(show ∃d',Ar H w O d M (noB q.1 (Ax m M)) a3 d' from⟨d2,by simp only[if_neg H0.o]at hg;exact hg⟩);clear Z hg;simp[Leaves,settle,results,results100,go_sem,q4,a4]
 obtain rfl:j=m.l.length:=oM
 have l1:decide ((m.l.length:Int)<(m.l.length:Int))=false:=eM oM;have I:=i7.o;rw[cT,Al]at I;have hs:=HS.o;rw[<-I,eL (λh=>h rfl)]at hs;subst hs;have HG:=hY (a0.o.more (m:=Ax m M) (by rw[aR];exact ci _ (by rw[Gy];omega)));have N:=HG.o.go.sb.blk a1.o (λe=>by have:=HH.o.ov.CC e;omega);have c4:wr.cell? ⟨w.heap.size+1+1,0,none⟩=some (.int .i64 0):=N.cell 0;have f4:=N.frozen 0;clear N I;go_wp2_with fail;refine fA (f:=131) (args:=#[.pointer (some ⟨w.heap.size+1+1,0,none⟩),.pointer (some w),.pointer (some w1)]) oO (by simp[go_sem]) ?_;refine(Eg (code:=0) (gA a2.o) a9.o (λb e=>HH.o.ov.CC e) HG.o (by have:=HG.o.few;have:=HD.o;omega) a1.o a5.o d3.o oM oM (by have:=HZ.o;omega) oM (by have:=HZ.o;omega)).mono ?_;rintro e u' a3 ⟨rfl,rfl,Z,d2,hg⟩;have q4:a3.cell? ⟨w.heap.size+1+1,0,none⟩=some (.int .i64 0):=Z.cell 0;have a4:=(show ∃d',Ar H w O d M1 (noB 0 (Ax m M)) a3 d' from⟨d2,hg⟩);clear Z hg;simp[Leaves,settle,results,results100,go_sem,q4,a4]
def Ol{v:Val}(Z:wfV v)(h:BJ v=true):Ah v<=7168:=by
 obtain⟨k,b,i,t,l,ok,ov⟩:=v;simp only[BJ,Val.kind,Val.b,Val.i,Val.t,Val.l,Val.ok,Bool.and_eq_true,beq_iff_eq,Bool.not_eq_true']at h;obtain⟨⟨⟨⟨⟨-,-⟩,-⟩,h1⟩,h2⟩,h3⟩:=h;have N:l=[]:=av h2;have I:ok=[]:=av h3;subst N I;unfold wfV at Z;have h4:ov=[]:=av Z.1.symm;subst h4;rw[Ah,BX,B9,h1];decide
def ZG{k:AA}(h:AT k=0):k.size<=64:=by
 unfold AT at h;split at h
 .cases h
 split at h
 .cases h
 omega
def RZ{k:AA}(h:CU k=true):k.size<=64:=by
 unfold CU at h;simp only[Bool.and_eq_true,decide_eq_true_eq]at h;exact h.1
variable{F:Nat->Prop}
def qI{m:Mu}(h:AK w F m c):∀q,Ao m q=0->Av m<=14472*Ag m:=by
 induction h with
 | @mk kd k tk i had was has v l c bl fl cl rw_ rv hl el rl bk bt bkd bi nl ih=>
   intro q I;rw[Ao]at I;split at I
   .cases I
   rename_i c1;split at I
   .cases I
   split at I
   .cases I
   rename_i c3;split at I
   .rename_i c4;simp only[Bool.and_eq_true,bne_iff_ne]at c4;exact absurd I c4.2
   rename_i c4;split at I
   .rename_i c5;simp only[Bool.and_eq_true,bne_iff_ne]at c5;exact absurd I c5.2
   rename_i c5;have hb:Ct kd k tk i had was has v l.length=true:=by simpa using c1
   have N:Bb kd k tk had=true:=by simpa using c3
   unfold Ct at hb;simp only[Bool.and_eq_true]at hb;obtain⟨⟨⟨⟨⟨⟨⟨-,b2⟩,-⟩,-⟩,-⟩,b6⟩,b7⟩,-⟩:=hb;have hk:k.size<=64/\tk.size<=64:=by
    unfold Bb at N;by_cases h6:kd=6
    ·rw [eN h6,br] at N
     exact⟨RZ N.1,RZ N.2⟩
    rw[eL h6]at N;have ht:tk.size=0:=by simpa[h6]using b2
    by_cases h7:kd=7/\k.size=0
    .omega
    rw[eL h7]at N;have:=ZG (k:=k) (by simpa using N);omega
   have hw:Ah was<=7168:=by
    cases Z:had with
    | true=>
      rw[Z]at c4;have hf:AY was=0:=by simpa using c4
      exact okV.cnt ⟨rw_.wf,hf⟩
    | false=>
      rw[Z]at b6;exact Ol rw_.wf (by simpa using b6)
   have hv:Ah v<=7168:=by
    cases Z:BP kd has with
    | true=>
      rw[Z]at c5;have hf:AY v=0:=by simpa using c5
      exact okV.cnt ⟨rv.wf,hf⟩
    | false=>
      unfold BP at Z;rw[Z]at b7;exact Ol rv.wf (by simpa using b7)
   have a0:∀(l:List Mu) (q:Nat),(∀(j:Nat) (x:Mu),l[j]? = some x->∀q,Ao x q=0->Av x<=14472*Ag x)->Cx l q=0->B7 l<=14472*A4 l:=by
    intro l
    induction l with
    |nil=>intro q _ _;rw[B7];omega
    | cons a r ihr=>
      intro q Z I;rw[Cx]at I;by_cases h0:Ao a q=0
      ·rw [eL (fun e=>e h0)] at I
       have h1:=Z 0 a rfl q h0;have h2:=ihr q (λj x hj=>Z (j+1) x (by simpa using hj)) I;rw[B7,A4];omega
      rw[eN h0]at I;exact absurd I h0
   have:=a0 l (q+1) (λj x hj=>ih j x hj) I;rw[Av,Ag];omega
def T5{m:Mu}(h:AK w F m c)(I:BQ m=0):Av m<=1000000:=by
 unfold BQ at I;split at I
 .cases I
 have:=qI h 1 I;omega
variable{q:Nat}
def T9{m:Mu}(h:Ao m q=0):Bb m.kd m.k m.tk m.had=true/\Cx m.l (q+1)=0:=by
 rw[GJ]at h;split at h
 .cases h
 split at h
 .cases h
 split at h
 .cases h
 rename_i hk;split at h
 ·rename_i h1
  simp[h]at h1
 split at h
 ·rename_i h1
  simp[h]at h1
 exact⟨by simpa using hk,h⟩
def looks_at:∀{l:List Mu} {q j:Nat} {x:Mu},Cx l q=0->l[j]? = some x->Ao x q=0
 |[],q,j,x,_,hx=>by simp at hx
 | m :: r,q,0,x,h,hx=>by
   obtain rfl:m=x:=by simpa using hx
   rw[Cx]at h;by_cases I:Ao m q=0
   .exact I
   rw[eN I]at h;exact h
 | m :: r,q,j+1,x,h,hx=>by
   rw[Cx]at h;by_cases I:Ao m q=0
   ·rw [eL (fun e=>e I)] at h
    exact looks_at (l:=r) (j:=j) h (by simpa using hx)
   rw[eN I]at h;exact absurd h I
def nc(n:Nat):∀(m:Mu) (q:Nat),SizeOf.sizeOf m<=n->Ao m q=0->∀(c:AR) (H:Nat->Prop) (w:AB) (O:Nat) (d:OD) (M:List AD),BD H w O d M->(∀b,H b->b<w.heap.size)->(∀b,b<6->H b)->AK w (λb=>b<w/\¬DZ O d b) m c->Aw w->
  d.us.length+Ax m M<=1000000->(AG d.T).length<=1000000->Av m<=1000000->
  Calls prog 100 #[.pointer (some O),Ap m c] w λe w'=>e=.returned (.int .i64 (stepM m M).1)/\∃d',Ar H w O d (stepM m M).2 (noB (stepM m M).1 (Ax m M)) w' d':=by
 induction n with
 |zero=>intro m q h;have:=Mu.CM m;omega
 | succ n ih=>
   intro m q hn hq c H w O d M h hH hG Z hL hd N I;by_cases k1:m.kd=1
   .exact Ys h hH hG Z hL hd N I k1
   by_cases k2:m.kd=2
   .exact gW h hH hG Z hL hd N I k2
   by_cases k3:m.kd=3
   .exact jF h hH hG Z hL hd N I k3
   by_cases k4:m.kd=4
   .exact YA h hH hG Z hL hd N I k4
   by_cases k5:m.kd=5
   .exact qB h hH hG Z hL hd N I k5
   by_cases k6:m.kd=6
   .exact nX h hH hG Z hL hd N I k6
   by_cases k7:m.kd=7
   ·obtain ⟨hk,hs⟩:=T9 hq
    refine Zn h hH hG Z hL hd N I k7 (λh0=>?_) λj x hx y H' W O' d' M' h1 h2 h3 h4 h5 h6 h7 h8=>(ih x (q+1) (by have:=Mu.Gc hx;omega) (looks_at hs hx) y H' W O' d' M' h1 h2 h3 h4 h5 h6 h7 h8).mono λe w' ⟨p1,p2,p3⟩=>⟨p1,p2,p3.more (U3 _ _)⟩
    unfold Bb at hk;rw[eL oM,eN ⟨k7,h0⟩]at hk;simpa using hk
   exact oK h hH hG Z hL hd N I ⟨k1,k2,k3,k4,k5,k6,k7⟩
def nf{m:Mu}(hq:Ao m q=0)(h:BD H w O d M)(hH:∀b,H b->b<w.heap.size)(Z:∀b,b<6->H b)(hm:AK w (λb=>b<w/\¬DZ O d b) m c)(N:Aw w)
  (hd:d.us.length+Ax m M<=1000000) (hl:(AG d.T).length<=1000000) (I:Av m<=1000000) :
  Calls prog 100 #[.pointer (some O),Ap m c] w λe w'=>e=.returned (.int .i64 (stepM m M).1)/\∃d',Ar H w O d (stepM m M).2 (noB (stepM m M).1 (Ax m M)) w' d':=nc _ m q (ao _) hq c H w O d M h hH Z hm N hd hl I
def Sm{m:Mu}(h:BQ m=0):Ao m 1=0:=by
 unfold BQ at h;split at h
 .cases h
 exact h
def iF{m:Mu}(h:BD H w O d M)(hH:∀b,H b->b<w.heap.size)(hG:∀b,b<6->H b)(hm:AK w (λb=>b<w/\¬DZ O d b) m c)(hL:Aw w)
  (hd:BQ m=0->d.us.length+Ax m M<=1000000) (hl:(AG d.T).length<=1000000) (ht:Av m<=1100000) :
  Calls prog 70 #[.pointer (some O),Ap m c] w λe w'=>e=.returned (.int .i64 (runM M m).1)/\∃d',Ar H w O d (runM M m).2 (noB (runM M m).1 (Ax m M)) w' d':=by
 have a1:∀W,Nw w W->AK W (λb=>b<W/\¬DZ O d b) m c:=λW N=>(hm.agree (gC N λb hb=>hb.1)).mono λb hb=>⟨Nat.lt_of_lt_of_le hb.1 N.size,hb.2⟩
 have Z:=λW (N:Nw w W)=>ZC ((a1 W N).mono (G:=Lt W) λb hb=>hb.1) ht (hL.nw N)
 have a8:=λ(I:BQ m=0) W (N:Nw w W)=>nf (q:=1) (Sm I) (h.nw N) (λb hb=>ab (hH b hb) N.size) hG (a1 W N) (hL.nw N) (hd I) hl (T5 hm I)
 obtain⟨r,hr⟩:∃r,runM M m=r:=⟨_,rfl⟩;rw[hr];obtain⟨HR,a4,a9,HH⟩:=Ye hr Z a8 h;clear h hH hG hm hL hd hl ht a1 Z a8 hr;go_in;go_upto_region 1 with fail;generalize a5:World.alloc _ _=W0;obtain⟨a3,a7,b0⟩:=Bh (m:=m) (c:=c) a5;obtain⟨a2,a6⟩:=Yb (gA a3) a7;clear a5 a3 a7 b0;go_wp2_with(refine A9 rfl (.tmp 3) rfl w.heap.size 0 rfl m c a6.o ?_);refine(a4.o _ a2.o).mono ?_;rintro e w1 ⟨rfl,hn⟩;obtain⟨a0,b3⟩:=Yb (a2.o.trans hn) (a6.o.nw hn);clear hn;by_cases I:BQ m=0
 ·have g0:(BQ m == 0)=true:=by simp [I]
  have hs:stepM m M=r:=by rw[<-HR.o];unfold runM;rw[eL (λe=>e I)]
  have hc:=a9.o I w1 a0.o;rw[hs]at hc;have HC:=hY hc;clear I hs hc;go_wp2_with(refine A9 rfl (.tmp 3) rfl w.heap.size 0 rfl m c b3.o ?_);refine HC.o.mono ?_;rintro e w2 ⟨rfl,d1,hg⟩;have HG:=hY (hg.since a0.o);clear hg;go_wp2_with fail;go_ret;exact⟨rfl,d1,HG.o⟩
 have g0:(BQ m==0)=false:=eP.2 I;have hs:r=(BQ m,M):=by rw[<-HR.o];unfold runM;rw[eN I]
 subst hs;clear I;go_wp2_with fail;go_ret;exact⟨rfl,d,HH.o.stay a0.o⟩
def ir{m:Mu}(h:(runM M m).1≠0):(runM M m).2=M:=by
 unfold runM at h ⊢;split at h
 .rw [eN (by assumption)]
 rename_i h1;rw[eL h1];exact Ep h
variable{T:RT}
def YQ{m:Mu}(hT:AV w F T)(hF:∀b,F b->6<=b/\b<w.heap.size)(ok:Am T)(hM:Ae (AG T))(hm:AK w (Lt w.heap.size) m c)(hL:Aw w)(hd:BQ m=0->(AG T).length+Ax m (AG T)<=1000000)(hl:(AG T).length<=1000000)(ht:Av m<=1100000) :
  Calls prog 38 #[AO T,Ap m c] w λe w'=>∃T',e=.returned (.tuple #[AO T',.int .i64 (runM (AG T) m).1])/\Am T'/\AV w' (Up F w w') T'/\AG T'=(runM (AG T) m).2/\Ae (runM (AG T) m).2/\Nw w w'/\((runM (AG T) m).2=AG T->T'=T):=by
 obtain⟨r,hr⟩:∃r,runM (AG T) m=r:=⟨_,rfl⟩;rw[hr];obtain⟨HR,f8⟩:=Yb hr (show r.1≠0->r.2=AG T fromλh=>by rw[<-hr]at h ⊢;exact ir h);obtain⟨p,hp⟩:=BM T;obtain⟨HP,HT,HF,c9,e1,HM,HL⟩:=Yh hp hT hF ok hM hm hL;obtain⟨HD,f1,f7,e6⟩:=Ye hd ht hl (show r.1=0->BQ m=0 fromλh=>by rw[<-hr]at h;unfold runM at h;split at h<;>simp_all);rw[AO,hp];clear hr hp hT hF ok hM hm hL hd ht hl;go_in;go_upto_region 1 with fail;generalize c8:World.alloc _ _=W0;obtain⟨a2,d0,b3,b9,c7⟩:=Ch w _ _ _ _ _ _ W0 c8;clear c8;have c0:W0.cell? w=some (.pointer p):=b3.cell 0;have g7:=gA a2;have a0:=gY (w:=W0) (F:=F) (H:=λb=>b<W0.heap.size/\¬F b) (T:=T) (HT.o.agree (a2.agree λb I=>(HF.o b I).2)) c9.o (λb I=>⟨Nat.lt_of_lt_of_le (HF.o b I).2 a2.size,λe=>e.2 I⟩) (λb I=>I.1);rw[AO,HP.o]at a0;obtain⟨e4,d6,g3,f5,g4,b6⟩:=Yg a0 a2 b3 c7 (gI b9) d0;clear a2 g7 b3 b9 c7 d0 a0;go_wp2_with fail;refine e4.o.mono ?_;rintro e w1 ⟨O,rfl,hO,d9,a1⟩;have a3:=(gA d6.o).trans (gA a1);have b5:BD (λb=>b<W0.heap.size/\¬F b) w1 O (od0 T) (AG T):=⟨d9,Cq.start e1.o⟩;have b7:=iF (m:=m) (c:=c) b5 (λb I=>ab I.1 a1.size) (λb I=>⟨Nat.lt_of_lt_of_le I (HL.o.nw (gA d6.o)).lib.big,λe=>by have:=(HF.o b e).1;omega⟩) ((HM.o.agree (gC a3 λb I=>I)).mono λb I=>⟨Nat.lt_of_lt_of_le I a3.size,λe=>by
  have i0:b<w.heap.size:=I;have hz:=b6.o;rcases e with e|e|e
  .omega
  .cases e
  cases e⟩) (HL.o.nw a3) (λh0=>by show 0+_<=_;have:=HD.o h0;omega) f7.o f1.o
 rw[HR.o]at b7;obtain⟨g5,i1,e0,a7,d5,HO⟩:=Yg b7 b5 a3 a1 (g4.o.ext a1) hO;clear b7 b5 a3 a1 d9 hO c0;go_wp2_with(refine A9 rfl (.tmp 3) rfl (w.heap.size+1) 0 rfl m c d5.o ?_);refine g5.o.mono ?_;rintro e w2 ⟨rfl,d1,hg⟩;obtain⟨HG,d7⟩:=Yb hg (show Ae r.2 from hg.rel.ok);have N:∀b,b<W0.heap.size->¬DZ O (od0 T) b:=λb I e=>by
  have:=HO.o;rcases e with e|e|e
  .omega
  .cases e
  cases e
 have i2:=hY N;have hz:=b6.o;have b4:=hg.go.sb.blk (g3.o.ext a7.o) (N _ oM);have Z:=hg.go.sb.blk (f5.o.ext a7.o) (N _ oM);have d3:=hY Z;have q0:w2.cell? w=some (.pointer p):=b4.cell 0;have q2:∃z,w2.cell? ⟨w.heap.size+1+1,0,none⟩=some z:=⟨_,Z.cell 0⟩;have f2:=Z.frozen 0;have b0:=hY (show Nw w w2 from e0.o.comp hg.go.sb λi hi e=>N i oM e);obtain⟨z,q2⟩:=q2;by_cases h0:r.1=0
 ·have g0:(r.1 == 0)=true:=by simp [h0]
  have a6:=np hg.at_ (by rw[hg.T];have h1:=an hg.few (Nat.add_le_add_left (U3 _ _) _);have h2:=hg.go.at_.few;have h3:=HD.o (e6.o h0);have h4:(od0 T).us.length=0:=rfl;have h5:(AG (od0 T).T).length=(AG T).length:=rfl;omega);obtain⟨c6,H0⟩:=Yb a6 h0;clear hg N hz b4 Z h0 a6;go_wp2_with fail;refine c6.o.mono ?_;rintro e w3 ⟨T',rfl,g6,d4,b8,a4,a8⟩;obtain⟨p',a9⟩:=BM T';have a5:=a4.blk d3.o;have q3:=a5.cell 0;have f3:=a5.frozen 0;obtain⟨g8,e7,e8,f6,f0,f9,f4⟩:=Yh a5 a9 (b0.o.trans a4) a4 d4 b8 (show r.2=AG T->T'=T fromλh=>by have h1:=HG.o.T;rw[h1]at a8;exact a8 h);rw[AO,a9];clear a5 a4 d4 b8 a9 q0 q2 f2 a8;go_wp2_with fail;generalize hW:World.setCell _ _ _=W;have hs:Sb (λi=>i=w.heap.size+1+1) w3 W:=by rw[<-hW];exact(gE (λi=>i=w.heap.size+1+1) w3).set (p:=⟨w.heap.size+1+1,0,none⟩) (.inr rfl) _
  have I:AE W (w.heap.size+1+1) 36 #[.pointer p']:=by rw[<-hW];exact g8.o.AX 0 (.pointer p')
  have q4:W.cell? ⟨w.heap.size+1+1,0,none⟩=some (.pointer p'):=I.cell 0;clear hW q3 f3;refine eU (v:=.tuple #[.agg #[.pointer p'],.int .i64 0]) (by simp[results,results38,go_sem,q4]) rfl ?_;refine⟨T',by rw[AO,e7.o,H0.o],g6,?_,f9.o,d7.o,e8.o.comp hs λi hi e=>oM,f4.o⟩;have g9:=b6.o;refine(f0.o.agree (F:=Up (BL (λb=>b<W0.heap.size/\¬F b) w2 O d1) w2 w3) λb I=>hs.block b ?_ ?_).mono λb I=>?_
  all_goals
   have s1:=f6.o.size;have s2:=hs.size;have s3:=b0.o.size;have s4:=HL.o.lib.big;have s5:=a7.o.size;have s6:=HG.o.go.sb.size
  ·rcases I with e | e
   .exact ab e.1 s1
   exact e.2
  ·intro e2
   rcases I with e|e
   .exact e.2.2 ⟨oM,λe3=>by have:=(HF.o b e3).2;omega⟩
   omega
  rcases I with e|e
  ·by_cases hf:F b
   .exact .inl hf
   have h1:=e.1;by_cases h2:b<W0.heap.size
   .exact absurd ⟨h2,hf⟩ e.2.2
   exact .inr ⟨oM,oM⟩
  exact .inr ⟨oM,oM⟩
 have g0:(r.1==0)=false:=eP.2 h0;have H0:=hY h0;clear hg N hz b4 Z h0;go_wp2_with fail;generalize hW:World.setCell _ _ _=W;have hs:Sb (λi=>i=w.heap.size+1+1) w2 W:=by rw[<-hW];exact(gE (λi=>i=w.heap.size+1+1) w2).set (p:=⟨w.heap.size+1+1,0,none⟩) (.inr rfl) _
 have I:AE W (w.heap.size+1+1) 36 #[.pointer p]:=by rw[<-hW];exact d3.o.AX 0 (.pointer p)
 have q4:W.cell? ⟨w.heap.size+1+1,0,none⟩=some (.pointer p):=I.cell 0;have d8:Nw w W:=b0.o.comp hs λi hi e=>oM
 clear hW q0 q2 f2;refine eU (v:=.tuple #[.agg #[.pointer p],.int .i64 r.1]) (by simp[results,results38,go_sem,q4]) rfl ?_;exact⟨T,by rw[AO,HP.o],c9.o,(HT.o.agree (gC d8 λb I=>(HF.o b I).2)).mono λb I=>.inl I,(f8.o H0.o).symm,d7.o,d8,λ_=>rfl⟩
def TA(w:AB)(F:Nat->Prop){n:Int}(I:(Lit.int .i64 n).wf=true):RV w F (C2 n) Sl.none Sl.none:=RV.flat _ _ _ _ _ _ oN I oN
variable{g:Nat}{xs:List LE}
def iu(I:AE w g 65 (AP xs).toArray)(N:∀x∈xs,RV w (Lt w) x.v x.sl x.so/\x.k.size<=maxLen)(Z:xs.length<=1000000):ES w (Lt w) ⟨some g,xs.length⟩ xs:=
 ⟨(gG (cs:=AP xs) (n:=xs.length) (size:=7) I (an Z oN) (GA xs)).mono λi hi=>by subst hi;exact I.lt,N,oM⟩
def Rq{kd:Int}{k tk:AA}{i:Int}{Z:Bool}{I:Val}{a0:Bool}{v:Val}{a1 a2 a3 a4:Sl}(h1:RV w F I a1 a2)(h2:RV w F v a3 a4)(bk:k.size<=maxLen)(bt:tk.size<=maxLen)(N:(Lit.int .i64 kd).wf=true)(bi:(Lit.int .i64 i).wf=true) :
  AK w F (.mk kd k tk i Z I a0 v []) ⟨a1,a2,a3,a4,Sl.none⟩:=
 .mk 0 0 (λ_=>default) h1 h2 (.nil _ _) (λj m h=>by simp at h) (λj m h=>by simp at h) bk bt N bi oO
section
variable{P : Program}{c : Code}{Q : Exit -> Act -> AB -> Prop}{a : Act}{w : AB}
def Ei(tm:Array Value):List (Nat × Value)->Array Value
 |[]=>tm
 |(i,v)::l=>Ei (tm.setIfInBounds i v) l
def M3(R:Act->AB->Prop):Exit->Act->AB->Prop
 |.normal,a,w=>R a w
 |_,_,_=>False
def SI{R:Act->AB->Prop}(h:R a w):M3 R .normal a w:=h
def Xk(N:AB->Nat->Value->Prop)(Z:List Nat)(last:Nat->Value->List (Nat × Value))
  (h1:c.wp P (M3 λI w'=>∃b u,N w' b u/\I.defers=a.defers/\I.tmps=Ei a.tmps ((Z.map λd=>(d,I.tmps.getD d undef))++last b u)) a w)
  (h2:∀(w':AB) (b:Nat) (u:Value) (vs:Nat->Value),N w' b u->Q .normal { tmps:=Ei a.tmps ((Z.map λd=>(d,vs d))++last b u),defers:=a.defers } w'):c.wp P Q a w:=
 wp_mono h1 λe I w' h=>by
  cases e with
  | normal=>
    obtain⟨b,u,hr,hd,ht⟩:=h;have:=h2 w' b u (λd=>I.tmps.getD d undef) hr;rw[<-ht,<-hd]at this;exact this
  |_=>exact h.elim
end
def D4{X W:AB}{c:Array Value}{t:TypeId}(h:X.alloc (.cells c t)=W):Ext X W/\AE W X.heap.size t c/\X.heap.size<W.heap.size:=by
 rw[<-h];exact⟨(gz X).alloc _ _,gB X _ _,by rw[eQ];omega⟩
def Ug(h:Nw w0 w){b o:Nat}(I:w0<=b)(v:Value):Nw w0 (w.setCell ⟨b,o,none⟩ v):=
 h.comp ((gE (λi=>i=b) w).set (p:=⟨b,o,none⟩) (.inr rfl) v) λi hi e=>oM
def kQ(h:AV w F T){b o:Nat}(I:¬F b)(hF:∀b,F b->b<w.heap.size)(v:Value):AV (w.setCell ⟨b,o,none⟩ v) F T:=
 h.agree λi hi=>((gE (λi=>i=b) w).set (p:=⟨b,o,none⟩) (.inr rfl) v).block i (hF i hi) λe=>I (e▸hi)
def Oo(E:List AD)(n:Nat)(w':AB)(b:Nat):Prop:=∃T p,Aa T=.pointer p/\Am T/\AG T=E/\AV w' (λi=>n<=i/\i<w'.heap.size/\i≠b) T/\AE w' b 36 #[.pointer p]/\n<=b
variable{E:List AD}
def qC{p:Option Addr}{b:Nat}(Z:Aa T=.pointer p)(ok:Am T)(N:AG T=E)(hT:AV w F T)(I:AE w b 36 #[z])(hl:n<=b)(hF:∀i,F i->n<=i/\i<w.heap.size/\i≠b) :
  Oo E n (w.setCell b (.pointer p)) b:=
 ⟨T,p,Z,ok,N,(kQ hT (λh=>(hF b h).2.2 rfl) (λi hi=>(hF i hi).2.1) _).mono λi hi=>⟨(hF i hi).1,ab (hF i hi).2.1 ((gE (λi=>i=b) w).set (p:=⟨b,0,none⟩) (.inr rfl) (.pointer p)).size,(hF i hi).2.2⟩,I.AX 0 (.pointer p),hl⟩
abbrev zS:AR:=⟨Sl.none,Sl.none,Sl.none,Sl.none,Sl.none⟩
def U5(w:AB)(F:Nat->Prop){k:AA}{n:Int}(I:k.size<=maxLen)(N:(Lit.int .i64 n).wf=true):AK w F (EN k n) zS:=Rq (JQ _ _) (JQ _ _) I oN oN N
def kD(w:AB)(F:Nat->Prop){k:AA}(I:k.size<=maxLen):AK w F (FF k) zS:=Rq (JQ _ _) (JQ _ _) I oN oN oN
def qF{k:AA}{n:Int}(hk:k.size<=maxLen)(wn:(Lit.int .i64 n).wf=true) :
  Calls prog 15 #[.agg #[.pointer none],.string k,NF n] w λe w'=>∃T p,e=.returned (.agg #[.pointer p])/\Aa T=.pointer p/\Am T/\AG T=[(k,C2 n)]/\AV w' (In w.heap.size w'.heap.size) T/\Ext w w':=by
 have h:=OM (w:=w) (F:=λ_=>False) (T:=none) (λb h=>h.elim) trivial trivial oN hk (TA w (Lt w) wn);refine h.mono ?_;rintro e w' ⟨T,rfl,I,hT,hx⟩;obtain⟨p,N⟩:=BM T;exact⟨T,p,by rw[AO,N],N,I.ok trivial,by rw[I.ents trivial];rfl,hT.mono λb Z=>Z.elim (λh=>h.elim) id,hx⟩
def Lj{α:Type}{f:α->List Value}{k:Nat}(I:∀a,(f a).length=k):∀(l:List α) (j:Nat) (a:α),l[j]? = some a->∀i u,(f a)[i]? = some u->(l.flatMap f)[j*k+i]? = some u
 |[],j,a,h,_,_,_=>by simp at h
 | x :: r,0,a,h,i,u,hu=>by
   have:x=a:=by simpa using h
   subst this;rw[bc,cH,aF,bu (ai.1 hu).1];exact hu
 | x :: r,j+1,a,h,i,u,hu=>by
   rw[bc,aO (by rw[I,Nat.succ_mul];omega),I,show(j+1)*k+i-k=j*k+i by rw[Nat.succ_mul];omega];exact Lj I r j a (by simpa using h) i u hu
def Lp(p:Mu × AR):∀u∈A5 p.1 p.2,u.oneCell'=true:=by
 intro u hu;simp only[A5,List.mem_cons,List.not_mem_nil,or_false]at hu;rcases hu with rfl|rfl|rfl|rfl|rfl|rfl|rfl|rfl|rfl|rfl|rfl|rfl|rfl|rfl|rfl|rfl|rfl|rfl|rfl<;>rfl
def IF(g:Nat):∀(vs:List Value) (o:Nat) (W:AB),Agree (λb=>b≠g) W (W.setCells g o vs)/\(W.setCells g o vs).heap.size=W.heap.size
 |[],_,W=>⟨Agree.refl _,rfl⟩
 | v :: vs,o,W=>by
   obtain⟨h1,h2⟩:=IF g vs (o+1) (W.setCell ⟨g,o,none⟩ v);exact⟨(gD W ⟨g,o,none⟩ v λh=>h rfl).trans h1,h2.trans (eX _ _ _)⟩
variable{vs:List Value}{c':AR}
def Te{w v:AB}{b o:Nat}{T:TypeId}{m m':Mu}(I:AE w b T (BS m c))(h:w.setCells b o vs=v)(N:IA (A5 m c) o vs=A5 m' c'):AE v b T (BS m' c')/\Agree (λi=>i≠b) w v/\v.heap.size=w.heap.size:=by
 subst h;obtain⟨h1,h2⟩:=IF b vs o w;exact⟨by have:=Nj vs o I;rwa[N]at this,h1,h2⟩
structure Nm where
 id:Int
 m:Mu
instance : Inhabited Nm :=⟨⟨0, default⟩⟩
def Ce(n:Nm)(c:AR):List Value:=.int .u64 n.id::A5 n.m c
abbrev FE(n:Nm)(c:AR):Value:=.agg (Ce n c).toArray
abbrev DU(n:Nm)(c:AR):Array Value:=(Ce n c).toArray
def Mj(n:Nm)(c:AR):(Ce n c).length=20:=rfl
def Nc(p:Nm × AR):∀u∈Ce p.1 p.2,u.oneCell'=true:=by
 intro u hu;rcases aH.1 hu with rfl|hu
 .rfl
 exact Lp (p.1.m,p.2) u hu
def Bs(w:AB)(b o:Nat)(n:Nm)(c:AR):Prop:=∀(j:Nat) (u:Value),(Ce n c)[j]? = some u->w.cell? ⟨b,o+j,none⟩=some u
def Bs.agree{b o:Nat}{n:Nm}(h:Bs w b o n c)(N:Agree F w w')(I:F b):Bs w' b o n c:=λj u hu=>(N.cell I).trans (h j u hu)
def Bs.mu{b o:Nat}{n:Nm}(h:Bs w b o n c):Ay w b (o+1) n.m c:=λj u hu=>by
 have h1:=h (j+1) u hu;rwa[show o+(j+1)=o+1+j by omega]at h1
def Bs.id{b o:Nat}{n:Nm}(h:Bs w b o n c):w.cell? ⟨b,o,none⟩=some (.int .u64 n.id):=h 0 _ rfl
def Bs.range{b o:Nat}{n:Nm}(h:Bs w b o n c):w.rangeAt b o (Ce n c):=h
def Bs.GI{b:Nat}{t:TypeId}{n:Nm}(h:AE w b t (DU n c)):Bs w b 0 n c:=λj u hu=>by
 rw[aF,h.cell];simpa using hu
def Bs.lt{b o:Nat}{n:Nm}(h:Bs w b o n c):b<w:=fc w _ (h 0 _ rfl)
def Bs.ext{b o:Nat}{n:Nm}(h:Bs w b o n c)(k:Ext w w'):Bs w' b o n c:=λj u hu=>(k.cell h.lt).trans (h j u hu)
structure A7(w:AB)(F:Nat->Prop)(s:Sl)(l:List Nm):Prop where
 ex:∃(b o:Nat) (c:Nat->AR),BV F s l.length b o/\(∀j n,l[j]? = some n->Bs w b (o+j*20) n (c j))/\∀j n,l[j]? = some n->AK w F n.m (c j)
 wf:∀n∈l,(Lit.int .u64 n.id).wf=true
 len:l.length*272<=140737488355328
variable{s:Sl}
def A7.agree{l:List Nm}(h:A7 w F s l)(N:Agree F w w'):A7 w' F s l:=by
 obtain⟨b,o,c,h1,h2,Z⟩:=h.ex;exact⟨⟨b,o,c,h1,λj n I=>(h2 j n I).agree N (h1.fits (De I)),λj n I=>(Z j n I).agree N⟩,h.wf,h.len⟩
def A7.mono{l:List Nm}(h:A7 w F s l)(I:∀b,F b->G b):A7 w G s l:=by
 obtain⟨b,o,c,h1,h2,Z⟩:=h.ex;exact⟨⟨b,o,c,h1.mono I,h2,λj n N=>(Z j n N).mono I⟩,h.wf,h.len⟩
def A7.ext{l:List Nm}(h:A7 w F s l)(k:Ext w w')(hF:∀b,F b->b<w.heap.size):A7 w' F s l:=h.agree (k.agree hF)
def A7.at{l:List Nm}(h:A7 w F s l){x:Nm}(I:l[j]? = some x) :
  ∃b o y,s.a=some ⟨b,o,none⟩/\F b/\l.length<=s.c/\s.c<=maxLen/\Bs w b (o+j*20) x y/\AK w F x.m y:=by
 obtain⟨b,o,c,h1,h2,h3⟩:=h.ex;obtain⟨N,e2,Z⟩:=h1.eq (De I);exact⟨b,o,c j,N,h1.fits (De I),e2,Z,h2 j x I,h3 j x I⟩
def AK.mk'{m:Mu}(h:AK w F m c)(h1:RV w' G m.was c'.w1 c'.w2)(h2:RV w' G m.v c'.v1 c'.v2){bl fl:Nat}{cl:Nat->AR}(N:BV G c'.s m.l.length bl fl)
  (I:∀j x,m.l[j]? = some x->Ay w' bl (fl+j*19) x (cl j)) (Z:∀j x,m.l[j]? = some x->AK w' G x (cl j)):AK w' G m c':=by
 cases h with
 |mk bl0 fl0 cl0 rw_ rv hl0 el0 rl0 bk bt bkd bi nl=>exact .mk bl fl cl h1 h2 N I Z bk bt bkd bi nl
def ZE{base n c:Nat}{a:Option Addr}{e:TypeId}{ys:List (Mu × AR)}(h:w.ownsRow base e 19 (.slice a n c) n (ys.flatMap λp=>A5 p.1 p.2))(Z:ys.length=n) :
  ∃bl fl,BV (In base w.heap.size) ⟨a,c⟩ n bl fl/\∀j p,ys[j]? = some p->Ay w bl (fl+j*19) p.1 p.2:=by
 obtain⟨b,o,h1,h2,N⟩:=gF h;refine⟨b,o,h1,λj p I i u hu=>?_⟩;have:=N (j*19+i) u (Lj (f:=λp:Mu × AR=>A5 p.1 p.2) (λ_=>rfl) ys j p I i u hu);rwa[show o+(j*19+i)=o+j*19+i by omega]at this
def Ph{base n c:Nat}{a:Option Addr}{e:TypeId}{ys:List (Nm × AR)}(h:w.ownsRow base e 20 (.slice a n c) n (ys.flatMap λp=>Ce p.1 p.2))(Z:ys.length=n) :
  ∃bl fl,BV (In base w.heap.size) ⟨a,c⟩ n bl fl/\∀j p,ys[j]? = some p->Bs w bl (fl+j*20) p.1 p.2:=by
 obtain⟨b,o,h1,h2,N⟩:=gF h;refine⟨b,o,h1,λj p I i u hu=>?_⟩;have:=N (j*20+i) u (Lj (f:=λp:Nm × AR=>Ce p.1 p.2) (λ_=>rfl) ys j p I i u hu);rwa[show o+(j*20+i)=o+j*20+i by omega]at this
def BA(l:List Mu)(M:List AD):List Int × List AD:=l.foldl (λp m=>(p.1++[(runM p.2 m).1],(runM p.2 m).2)) ([],M)
def GF{l:List Mu}{x:Mu}(h:l[j]? = some x)(M:List AD):BA (l.take (j+1)) M=((BA (l.take j) M).1++[(runM (BA (l.take j) M).2 x).1],(runM (BA (l.take j) M).2 x).2):=by
 rw[aK,h];unfold BA;show((l.take j)++[x]).foldl _ _=_;rw[ew];rfl
def Nl(l:List Mu)(M:List AD):∀j,j<=l.length->(BA (l.take j) M).1.length=j
 |0,_=>rfl
 | j+1,h=>by
   rw[GF (ac (show j<l.length by omega)),aj,Nl l M j oM];rfl
def YV{x:Mu}:(runM E x).2.length<=E.length+64:=by
 unfold runM;by_cases h:BQ x=0
 ·rw [eL (by simp [h])]
  have hs:Ag x<=64:=by unfold BQ at h;split at h<;>omega
  have:=OR x E;omega
 rw[eN h];exact dA _ _
def Gi(l:List Mu)(M:List AD):∀j,(BA (l.take j) M).2.length<=M.length+64*j
 |0=>ao _
 | j+1=>by
   have N:=Gi l M j;cases I:l[j]? with
   |none=>rw[aK,I];show(BA (l.take j++[]) M).2.length<=_;rw[aY];omega
   | some x=>
     rw[GF I];have:=YV (E:=(BA (l.take j) M).2) (x:=x);dsimp only;omega
def BH(last:Int)(l:List Nm):List Nm:=l.filter λn=>decide (last<n.id)
def pr(last:Int)(l:List Nm)(x:Nm):BH last (l++[x])=if last<x.id then BH last l++[x]else BH last l:=by
 unfold BH;rw[bT];by_cases h:last<x.id
 .rw [eN h];simp[h]
 rw[eL h];simp[h]
def JC(last:Int)(l:List Nm):(BH last l).length<=l.length:=bE _ _
abbrev kN:AA:=⟨#[110]⟩
abbrev DT(n:Int):List AD:=[(kN,C2 n)]
def mKN:AT kN=0:=by decide +kernel
def RF:klt kN kN=false:=by decide +kernel
def X'{n:Int}(N : -9223372036854775808<=n)(h1:n<=9223372036854775807):Ae (DT n):=
 ⟨by unfold Sorted;simp,λe I=>by rw[aV.1 I];exact⟨mKN,Yz N h1⟩⟩
def TG{n:Int}(N : -9223372036854775808<=n)(h1:n<=9223372036854775807):setMu M kN (CP n)=(0,AU M kN (C2 n)):=by
 unfold setMu;have I:AY (CP n)=0:=R6 N h1;rw[eL (by simp[mKN]),eL (by simp[I])];rfl
def Xy{n:Int}(I:0<=n)(h1:n<=1000):runM (DT n) (EN kN 1)=(0,DT (n+1)):=by
 rw[S3 mKN oN];unfold A';rw[show AH (DT n) kN=some (C2 n)by simp[AH]];show(if(3:Int)≠3 then _ else CX _ _ n 1)=_;rw[eL oO];unfold CX;rw[eL oM,TG oM oM];simp[AU,RF]
def Ub:runM [] (EN kN 1)=(0,DT 1):=by
 rw[S3 mKN oN];unfold A';rw[show AH [] kN=none from rfl];show CX _ _ 0 1=_;unfold CX;rw[eL oM,TG oM oM];rfl
def VU:runM M (FF kN)=if(AH M kN).isSome then(0,Ac M kN)else(12,M):=by
 unfold runM;rw[eL (by simp[iZ mKN oN]),stepM,eL oN,eN rfl]
def Yi(n:Int):runM (DT n) (FF kN)=(0,[]):=by
 rw[VU,show AH (DT n) kN=some (C2 n)by simp[AH]];simp[Ac,RF]
def YX:runM [] (FF kN)=(12,[]):=by rw[VU];rfl
abbrev lK:List Mu:=[EN kN 1,FF kN,EN kN 1]
def US:BA lK (DT 5)=([0,0,0],DT 1):=by
 unfold BA;simp only[List.foldl_cons,List.foldl_nil,Xy (n:=5) oN oN,Yi,Ub];rfl
def Tt:BA (lK.drop 1) []=([12,0],DT 1):=by
 unfold BA;simp only[List.drop_succ_cons,List.drop_zero,List.foldl_cons,List.foldl_nil,YX,Ub];rfl
def Tryz.Un:(prog.info? 61).map (·.size)=some 20:=kM
def Tryz.OV:(prog.info? 61).map (λi=>(i.zero,i.size,i.bytes))=some (some (FE ⟨0,.mk 0 ByteArray.empty ByteArray.empty 0 false zeroV false zeroV []⟩ ⟨Sl.none,Sl.none,Sl.none,Sl.none,Sl.none⟩),20,272):=kM
variable{ops:Array Oper}{a:Act}{Q:Exit->Act->AB->Prop}
def JK{rest:List Oper}{op:Oper}(I:op.guard=none)(x:Operand)(Z:op.op=.load 61 x)
  (b o:Nat) (hx:a.eval x=.pointer (some ⟨b,o,none⟩)) (m:Nm) (c:AR) (N:Bs w b o m c) (h:wpList prog ops Q rest (a.put op.dst (FE m c)) w):wpList prog ops Q (op::rest) a w:=
 wpList_load_mid I 61 x Z b o hx (Ce m c) _ N.range underlying61 rfl (by rw[Mj];exact Tryz.Un) h
def P7{w v:AB}{b:Nat}{T:TypeId}{z:Array Value}(hz:AE w b T z)(hs:z.size=vs.length)(h:w.setCells b 0 vs=v):AE v b T vs.toArray:=by
 subst h;have Z:w.there b 0 vs.length:=Ju hz (by rw[hs];exact ao _);have hr:=ga w b 0 vs Z;obtain⟨z',h1,h2⟩:=Lw vs 0 hz;have N:z'.toList=vs:=by
  refine bJ λj=>?_
  rw[bW];by_cases hj:j<vs.length
  ·obtain ⟨v,hv⟩:∃ v,vs[j]? = some v:=⟨_,ac hj⟩
   have h3:=hr j v hv;rw[aF,h1.cell]at h3;rw[h3,hv]
  rw[Array.getElem?_eq_none oM,aN oM]
 have I:z'=vs.toArray:=dU.1 (N.trans (ce).symm);exact I▸h1
def jc{rest:List Oper}{op:Oper}(N:op.guard=none)(hd:op.dst=none){T:TypeId}{x y:Operand}(ho:op.op=.store T x y)
  (vs:List Value) (hi:(prog.info? T).map (·.size)=some vs.length) (h1:∀u∈vs,u.oneCell'=true) {b:Nat} (hb:w0.heap.size=b) (hw:Ext w0 w) {z:Array Value} (Z:AE w b T z) (I:z.size=vs.length) (hx:a.eval x=.pointer (some b)) (hy:a.eval y=.agg vs.toArray)
  (h:∀w',Ext w0 w'->AE w' b T vs.toArray->wpList prog ops Q rest a w'):wpList prog ops Q (op::rest) a w:=by
 refine fK N T x y ho b 0 vs.toArray hx hy (Ju Z (by rw[I,bp];exact ao _)) (by rw[hi,bp]) (fW h1) ?_;have e:vs.toArray.toList=vs:=ce;have ep:a.put op.dst undef=a:=by rw[hd];rfl
 rw[ep,e];exact h _ (Ext.setCells oM _ _ hw) (P7 Z I rfl)
def P4{rest:List Oper}{op:Oper}(N:op.guard=none)(hd:op.dst=none){x y:Operand}(Z:op.op=.store 61 x y)
  (n:Nm) (c:AR) {b:Nat} (hb:w0.heap.size=b) (hw:Ext w0 w) {z:Array Value} (hz:AE w b 61 z) (I:z.size=20) (hx:a.eval x=.pointer (some b)) (hy:a.eval y=FE n c)
  (h:∀w',Ext w0 w'->AE w' b 61 (DU n c)->wpList prog ops Q rest a w'):wpList prog ops Q (op::rest) a w:=
 jc N hd Z (Ce n c) (by rw[Mj];exact Tryz.Un) (Nc (n,c)) hb hw hz I hx hy h
def od{rest:List Oper}{op:Oper}(N:op.guard=none)(x y:Operand)(Z:op.op=.store 59 x y)(b o:Nat)(m:Mu)(c:AR)(I:w.there b o 19)
  (hx:a.eval x=.pointer (some ⟨b,o,none⟩)) (hy:a.eval y=Ap m c) (h:wpList prog ops Q rest (a.put op.dst undef) (w.setCells b o (A5 m c))):wpList prog ops Q (op::rest) a w:=
 fK N 59 x y Z b o (BS m c) hx hy I (by exact Tryz.GZ) (fW (Lp (m,c))) h
def LZ{rest:List Oper}{o:Oper}(hg:o.guard=none)(t e:TypeId)(N:Nat)(I:Array (Nat × Operand))(ho:o.op=.buildSlice t N I)
  (vs:List Value) (size:Nat) {ie:TypeInfo} (hu:prog.underlying t=some (.slice e)) (a1:prog.info? e=some ie) (hs:ie.size=size) (hz:ie.zero=some z) (hp:0<size) (hl:vs.length=N) (a2:0<N) (a3:N*size<=1000)
  (h1:∀v∈vs,v.cells.size=size) (a0:(I.toList.map λx=>(x.1,a.eval x.2))=(vs.zipIdx 0).map λx=>(x.2,x.1)) (Z:Array Value) (hc:(vs.flatMap λv=>v.cells.toList).toArray=Z)
  (h:wpList prog ops Q rest (a.put o.dst (.slice (some w) N N)) (w.alloc (.cells Z e))):wpList prog ops Q (o::rest) a w:=by
 subst hs hc hl;have h0:0<vs.length*ie.size:=Nat.mul_pos a2 hp;refine wpList_buildSlice hg t e _ I ho _ ie z hu a1 hz oM oM ?_ h;rw[Array.toList_map];rw[a0];exact Great.fill_whole hp vs _ h1 (by rw[Array.size_map,Array.size_range])
def JH{rest:List Oper}{o:Oper}(Z:o.guard=none)(t:TypeId)(I:Array (Nat × Operand))(ho:o.op=.build t I)(cs:Array Value)
  (N:prog.built t (I.toList.map λx=>(x.1,a.eval x.2))=some cs) (h:wpList prog ops Q rest (a.put o.dst (.agg cs)) w):wpList prog ops Q (o::rest) a w:=by
 have e:(I.map λ(i,x)=>(i,a.eval x)).toList=I.toList.map λx=>(x.1,a.eval x.2):=Array.toList_map ..
 refine wpList_build Z t I ho (by rw[e,N];rfl) ?_;rw[e,N];exact h
def Mm(I:Int)(m:Mu)(c:AR):prog.built 61 [(0,.int .u64 I),(1,Ap m c)]=some (DU ⟨I,m⟩ c):=kM
structure NG(g:Nat)(cs:Array Value)(codes:List Int)(S:Nat->(Nat->Prop)->AB->Prop):Prop where
 eg:∀args w,(callFunc g args).run prog w=.ok (.enter g args) w
 call:∀j code D W,codes[j]? = some code->S j D W->Calls prog g (#[.int .i64 code]++cs) W λe w'=>e=.returned (.tuple #[])/\∃D',S (j+1) D' w'/\Sb D W w'/\∀b,D' b->D b\/W.heap.size<=b
 stay:∀j D X W W',S j D W->Sb X W W'->(∀b,D b->¬X b)->S j D W'
 lt:∀j D W,S j D W->∀b,D b->b<W.heap.size
def XX{l:List Mu}{x:Mu}(h:l[j]? = some x)(M:List AD):(BA l M).1[j]? = some (runM (BA (l.take j) M).2 x).1:=by
 have N:∀(r:List Mu) (p:List Int × List AD),∃q,(r.foldl (λp m=>(p.1++[(runM p.2 m).1],(runM p.2 m).2)) p).1=p.1++q:=by
  intro r
  induction r with
  |nil=>intro p;exact⟨[],oO⟩
  | cons a r ih=>
    intro p;obtain⟨q,I⟩:=ih (p.1++[(runM p.2 a).1],(runM p.2 a).2);exact⟨(runM p.2 a).1::q,by rw[dZ,I,aU];rfl⟩
 have h1:=GF h M;obtain⟨q,I⟩:=N (l.drop (j+1)) (BA (l.take (j+1)) M);have h2:(BA l M).1=(BA (l.take (j+1)) M).1++q:=by
  rw[<-I];unfold BA;rw[<-ew,aX]
 have Z:=Nl l M j (by have:=(ai.1 h).1;omega);rw[h2,h1,aU,aO oM,Z,cE];rfl
abbrev A8(l:List Nm):List Mu:=l.map Nm.m
structure C7(w:AB)(F G:Nat->Prop)(T:RT)(s:Sl)(l:List Nm):Prop where
 tree:AV w F T
 old:∀b,F b->6<=b/\b<w.heap.size
 ok:Am T
 okM:Ae (AG T)
 row:A7 w G s l
 rowOld:∀b,G b->b<w.heap.size
 lib:Aw w
 few:(AG T).length+64*l.length<=5000
 tot:B7 (A8 l)<=1099000
def C7.ext{l:List Nm}(h:C7 w F G T s l)(k:Nw w w'):C7 w' F G T s l:=
 ⟨h.tree.agree (gC k λb I=>(h.old b I).2),λb I=>⟨(h.old b I).1,ab (h.old b I).2 k.size⟩,h.ok,h.okM,h.row.agree (gC k h.rowOld),λb I=>ab (h.rowOld b I) k.size,h.lib.nw k,h.few,h.tot⟩
def C7.bud{l:List Nm}(h:C7 w F G T s l){m:Mu}(N:j<=l.length)(I:BQ m=0):(BA ((A8 l).take j) (AG T)).2.length+Ax m (BA ((A8 l).take j) (AG T)).2<=1000000:=by
 have hs:Ag m<=64:=by unfold BQ at I;split at I<;>omega
 have h1:=Gi (A8 l) (AG T) j;have h2:=h.few;have:=Nat.mul_le_mul hs (show 2*((BA ((A8 l).take j) (AG T)).2.length+Ag m)+1<=10129 by omega);unfold Ax;omega
def Pf{F G D0:Nat->Prop}{l:List Nm}{cs:Array Value}{S:Nat->(Nat->Prop)->AB->Prop}(h:C7 w F G T s l)(hS:NG g cs (BA (A8 l) (AG T)).1 S)(h0:S 0 D0 w)(hD:∀b,D0 b->6<=b/\¬F b/\¬G b) :
  Calls prog 21 #[AO T,.slice s.a l.length s.c,.func (.func g) #[] cs] w λe w'=>∃T' D,e=.returned (AO T')/\Am T'/\AV w' (λb=>(F b\/w<=b)/\b<w'/\¬D b) T'/\AG T'=(BA (A8 l) (AG T)).2/\Ae (AG T')/\S l.length D w'/\Sb D0 w w'/\(∀b,D b->D0 b\/w.heap.size<=b)/\((∀n∈l,(runM (AG T) n.m).2=AG T)->T'=T):=by
 obtain⟨p,hp⟩:=BM T;have c6:=hS.lt _ _ _ h0;have o3:=hS.eg;have o0:=h.lib.lib.big;have n9:=h.row.len;obtain⟨HP,H,HS,H0,HD,a1⟩:=Yg hp h hS h0 hD c6;rw[AO,hp];clear hp h hS h0 hD c6;go_in;go_upto_region 1 with fail;generalize f9:World.alloc _ _=W0;obtain⟨i5,g0,i4,f2⟩:=CH w _ _ _ _ W0 f9;obtain⟨a3,n4,n2,n6⟩:=Ye i5 i4 f2 g0;clear f9 i5 i4 f2 g0;go_wp2_with fail;go_loopw[13] (λl5 wr=>∃(j:Nat) (T1:RT) (p1:Option Addr) (D:Nat->Prop),l5=.int .i64 (j:Int)/\j<=l.length/\Yd (Aa T1=.pointer p1)/\Yd (AE wr w.heap.size 36 #[.pointer p1])/\Yd (Am T1)/\
  Yd (AV wr (λb=>(F b\/W0<=b)/\b<wr/\¬D b) T1)/\Yd (AG T1=(BA ((A8 l).take j) (AG T)).2)/\Yd (Ae (AG T1))/\Yd (S j D wr)/\Yd (∀b,D b->D0 b\/W0.heap.size<=b)/\Yd (Sb (λb=>b=w.heap.size\/D0 b) W0 wr)/\Yd ((∀n∈l,(runM (AG T) n.m).2=AG T)->T1=T)) (λv _=>l.length -(intOf v).toNat)
 case atStart=>
  have hz:=a3.o.size;refine⟨0,T,p,D0,rfl,aw _,HP,n4,hY H.o.ok,hY ((H.o.tree.agree (a3.o.agree λb I=>(H.o.old b I).2)).mono λb I=>⟨.inl I,?_,λe=>(HD.o b e).2.1 I⟩),hY rfl,hY H.o.okM,hY (HS.o.stay _ _ (λ_=>False) _ _ H0.o (a3.o.sb _) λ_ _ e=>e),hY λb I=>.inl I,hY (gE _ _),hY λ_=>rfl⟩;have:=(H.o.old b I).2;omega
 obtain⟨j,T1,p1,D,rfl,hj,i7,b0,d3,j1,b5,j3,b7,a9,a8,a5⟩:=hrel;have hz:=n6.o;have z1:=a3.o.size;have z2:=a8.o.size;have b4:=hY (show Sb D0 w wr from(a3.o.sb D0).comp a8.o λi hi e=>e.resolve_left oM);by_cases g6:j<l.length
 ·have l1:(j:Int)<(l.length:Int):=oM
  have o4:decide ((j:Int)<(l.length:Int))=true:=eO l1;have l0:(0:Int)<=(j:Int):=oM
  obtain⟨x,hx⟩:∃x,l[j]? = some x:=⟨_,ac g6⟩;obtain⟨b,o,y,k1,k7,o2,n8,f6,i1⟩:=H.o.row.at hx;have e0:Agree G w wr:=λb I=>b4.o.block b (H.o.rowOld b I) λe=>(HD.o b e).2.2 I
  obtain⟨d0,k9⟩:=Yb (f6.agree e0 k7) (i1.agree e0);have o1:=d0.o.lt;have b6:(A8 l)[j]? = some x.m:=by rw[ar,hx];rfl
  have k8:=hY (ap hx);have j2:∀b,G b->b<wr.heap.size:=λb I=>ab (H.o.rowOld b I) b4.o.size
  have j4:=hY j2;have a4:∀W,Ext wr W->Calls prog 38 #[.agg #[.pointer p1],Ap x.m y] W λe w'=>∃T',e=.returned (.tuple #[AO T',.int .i64 (runM (AG T1) x.m).1])/\Am T'/\AV w' (Up (λb=>(F b\/W0<=b)/\b<wr/\¬D b) W w') T'/\AG T'=(runM (AG T1) x.m).2/\Ae (runM (AG T1) x.m).2/\Nw W w'/\((runM (AG T1) x.m).2=AG T1->T'=T1):=λW hW=>by
   have h:=YQ (w:=W) (F:=λb=>(F b\/W0<=b)/\b<wr/\¬D b) (T:=T1) (m:=x.m) (c:=y) (j1.o.agree (hW.agree λb I=>I.2.1)) (λb I=>⟨I.1.elim (λe=>(H.o.old b e).1) λe=>oM,ab I.2.1 hW.size⟩) d3.o j3.o ((k9.o.agree (hW.agree j4.o)).mono λb I=>ab (j4.o b I) hW.size) (H.o.lib.sb (b4.o.ext hW) λb I e=>by have:=(HD.o b e).1;omega) (λh0=>by rw[b5.o];exact H.o.bud hj h0) (by
     rw[b5.o];have h1:=Gi (A8 l) (AG T) j;have h2:=H.o.few;omega) (an (Gd b6) (by have:=H.o.tot;omega))
   rw[AO,i7.o]at h;exact h
  obtain⟨d9,l9,e6⟩:=Yc a4 (GF b6 (AG T)) (XX b6 (AG T));have q0:wr.cell? w=some (.pointer p1):=b0.o.cell 0;have l2:=b0.o.lt;rw[k1];clear f6 i1 e0 a4 hx b6 j2 z1 z2;go_wp2_with(first |(refine JK rfl (.tmp 15) rfl b (o+j*20) rfl x y d0.o ?_) |(refine P4 rfl rfl rfl x y (w0:=wr) (b:=wr) rfl ((gz wr).alloc _ _) (gB wr _ _) rfl rfl rfl ?_;intro w5 d4 i0;have d7:=hY d4;have q5:=(d4.cell l2).trans q0;have k5:=hY (Bs.GI i0).mu;clear d4 i0) |(refine A9 rfl (.tmp 19) rfl wr.heap.size (0+1) rfl x.m y k5.o ?_));refine(d9.o _ d7.o).mono ?_;rintro e w6 ⟨T2,rfl,g5,f7,e1,e4,e7,a7⟩;obtain⟨p2,e3⟩:=BM T2;rw[AO,e3];obtain⟨q,hq⟩:∃q,runM (AG T1) x.m=q:=⟨_,rfl⟩;rw[hq]at e1 e4 a7 ⊢;have d6:=l9.o;have a0:=e6.o;rw[<-b5.o,hq]at d6 a0;obtain⟨HA,HC,l7,k4,j7,f5,j6⟩:=Yh d6 a0 e3 g5 f7 e1 e4;have j0:=hY ((gA d7.o).trans e7);have k0:=hY (show(∀n∈l,(runM (AG T) n.m).2=AG T)->T2=T fromλc9=>by
   have h1:=a5.o c9;have h2:=c9 x k8.o;rw[<-h1]at h2;rw[hq]at h2;exact(a7 h2).trans h1)
  obtain⟨c7,i3⟩:=Yb d7.o.size e7.size;clear d6 a0 e3 g5 f7 e1 e4 e7 a7 hq q5 q0 l2;go_upto_region 5 with fail;generalize f0:World.alloc _ _=w7;have e2:Ext w6 w7:=by rw[<-f0];exact(gz w6).alloc _ _
  have f1:AE w7 w6.heap.size 36 #[.pointer p2]:=by rw[<-f0];exact gB w6 _ _
  have z7:w6.heap.size<w7.heap.size:=f1.lt;obtain⟨k3,d5⟩:=Yb f1 (show Nw wr w7 from j0.o.trans (gA e2));have k6:=hY (j7.o.agree (e2.agree λb I=>by
   rcases I with I|I
   .have:=I.2.1;have:=c7.o;have:=i3.o;omega
   exact I.2))
  have e8:=HS.o.stay _ _ (λ_=>False) _ _ b7.o d5.o λ_ _ e=>e
  obtain⟨j8,l4⟩:=Yb e8 (HS.o.call _ _ _ _ HC.o e8);clear f0 e2 f1 e8;go_wp2_with fail;refine l4.o.mono ?_;rintro e w8 ⟨rfl,D',g8,a2,i2⟩;have z6:wr.heap.size<=w6.heap.size:=j0.o.size;have b8:=HS.o.lt _ _ _ b7.o;have g4:=HS.o.lt _ _ _ j8.o;have i9:=a2.blk k3.o λe=>by have:=b8 _ e;omega
  have q8:w8.cell? w6=some (.pointer p2):=i9.cell 0;have i8:¬D w.heap.size:=λe=>by
   rcases a9.o _ e with h|h
   .have:=a1.o _ h;omega
   omega
  have Z:=a2.blk (gK d5.o b0.o) i8;have c8:w8.cell? w=some (.pointer p1):=Z.cell 0;have f8:=Z.frozen 0;have l8:=Z.lt;obtain⟨i6,k2,a6,g7⟩:=Ye Z g8 a2 i2;clear g8 a2 i2 i9 i8 Z b8 g4;go_wp2_with fail;generalize d8:World.setCell _ _ _=w9;have g9:Sb (λi=>i=w.heap.size) w8 w9:=by rw[<-d8];exact(gE (λi=>i=w.heap.size) w8).set (p:=⟨w,0,none⟩) (.inr rfl) _
  have f3:AE w9 w.heap.size 36 #[.pointer p2]:=by rw[<-d8];exact i6.o.AX 0 (.pointer p2)
  obtain⟨b3,j9⟩:=Yb g9 f3;clear d8 g9 f3 q8 c8 f8;go_roundw
  case measure=>simp[intOf];omega
  have z1:=a3.o.size;have z2:=a8.o.size;have z8:=a6.o.size;have z9:=b3.o.size;have b8:=HS.o.lt _ _ _ b7.o;have g3:∀b,D' b->D0 b\/W0.heap.size<=b:=λb I=>(g7.o b I).elim (a9.o b) λe=>.inr oM
  have l3:¬D' w.heap.size:=λe=>by
   rcases g3 _ e with h|h
   .have:=a1.o _ h;omega
   omega
  have z5:=c7.o;have N:∀b,Up (λb=>(F b\/W0<=b)/\b<wr/\¬D b) w5 w6 b->(F b\/W0<=b)/\b<w6/\¬D b/\b≠w.heap.size:=λb I=>by
   rcases I with⟨h1,h2,h3⟩ |⟨h1,h2⟩
   ·refine ⟨h1,oM,h3,?_⟩
    rcases h1 with h1|h1
    .have:=(H.o.old b h1).2;omega
    omega
   exact⟨.inr oM,h2,λe=>by have:=b8 b e;omega,oM⟩
  refine⟨j+1,T2,p2,D',by go_num,g6,l7,j9,k4,hY (((k6.o.agree λb I=>a6.o.block b ?_ ?_).agree λb I=>b3.o.block b ?_ ?_).mono λb I=>?_),hY (by rw[HA.o];exact f5.o),hY (by rw[f5.o];exact j6.o),hY (HS.o.stay _ _ _ _ _ k2.o b3.o λb I e=>l3 (e▸I)),hY g3,hY ((a8.o.trans (Nw.any d5.o _)).comp ((a6.o.mono (G:=λb=>b=w.heap.size\/D b) λi _ hi=>.inr hi).trans (b3.o.mono λi _ hi=>.inl hi)) λi hi e=>?_),k0⟩
  .have:=(N b I).2.1;omega
  .exact (N b I).2.2.1
  .have:=(N b I).2.1;omega
  .exact (N b I).2.2.2
  ·refine ⟨(N b I).1,by have:=(N b I).2.1;omega,fun e=>?_⟩
   rcases g7.o b e with h|h
   .exact (N b I).2.2.1 h
   have:=(N b I).2.1;omega
  rcases e with e|e
  .exact .inl e
  rcases a9.o i e with h|h
  .exact .inr h
  omega
 obtain rfl:j=l.length:=oM
 have l1:decide ((l.length:Int)<(l.length:Int))=false:=eM oM;have q0:wr.cell? w=some (.pointer p1):=b0.o.cell 0;have b9:=a8.o.blk n2.o (by
  rintro(e|e)
  .omega
  have:=a1.o _ e;omega)
 have l6:=hY b9;have q4:wr.cell? ⟨w+1,0,none⟩=some _:=b9.cell 0;have f4:=b9.frozen 0;clear b9;have j5:=hY (show(A8 l).take l.length=A8 l from aM (by rw[aq];exact ao _));go_wp2_with fail;generalize hW:World.setCell _ _ _=W;have hs:Sb (λi=>i=w.heap.size+1) wr W:=by rw[<-hW];exact(gE (λi=>i=w.heap.size+1) wr).set (p:=⟨w+1,0,none⟩) (.inr rfl) _
 have I:AE W (w.heap.size+1) 36 #[.pointer p1]:=by rw[<-hW];exact l6.o.AX 0 (.pointer p1)
 have q5:W.cell? ⟨w+1,0,none⟩=some (.pointer p1):=I.cell 0;clear hW q0 q4 f4;refine eU (v:=.agg #[.pointer p1]) (by simp[results,results21,go_sem,q5]) rfl ?_;have z3:=hs.size;have n7:¬D (w.heap.size+1):=λe=>by
  rcases a9.o _ e with h|h
  .have:=a1.o _ h;omega
  omega
 refine⟨T1,D,by rw[AO,i7.o],d3.o,(j1.o.agree λb I=>hs.block b I.2.1 ?_).mono λb I=>⟨I.1.imp id λe=>oM,by have:=I.2.1;omega,I.2.2⟩,by rw[b5.o,j5.o],j3.o,HS.o.stay _ _ _ _ _ b7.o hs λb I e=>n7 (e▸I),b4.o.comp hs λi hi e=>oM,λb I=>(a9.o b I).imp id λe=>oM,a5.o⟩;rcases I.1 with e|e
 .have:=(H.o.old b e).2;omega
 omega
def iD(codes:List Int):NG 22 #[] codes λ_ D _=>∀b,¬D b where
 eg:=λargs w=>rfl
 call:=λj code D W _ h=>by
  refine Calls.mono (R:=λe w'=>e=.returned (.tuple #[])/\Ext W w') ?_ λe w' ⟨h1,h2⟩=>⟨h1,λ_=>False,λ_ e=>e,h2.sb _,λb e=>e.elim⟩
  show Calls prog 22 #[code] W _;go_in;go_wp2_with fail;go_end0;exact⟨rfl,gz _⟩
 stay:=λ_ _ _ _ _ h _ _=>h
 lt:=λ_ _ _ h b hb=>(h b hb).elim
def MR{l:List Nm}(h:C7 w F G T s l) :
  Calls prog 8 #[AO T,.slice s.a l.length s.c] w λe w'=>∃T',e=.returned (AO T')/\Am T'/\AV w' (Up F w w') T'/\AG T'=(BA (A8 l) (AG T)).2/\Ae (AG T')/\Nw w w'/\((∀n∈l,(runM (AG T) n.m).2=AG T)->T'=T):=by
 obtain⟨p,hp⟩:=BM T;obtain⟨Z,HF⟩:=Yb (λW (hW:Ext w W)=>Pf (h.ext (gA hW)) (iD _) (D0:=λ_=>False) (λ_ e=>e) λ_ e=>e.elim) h.old;rw[AO,hp]at Z ⊢;clear hp h;go_in;go_upto_region 1 with fail;generalize a6:World.alloc _ _=W0;obtain⟨a5,a7,a9,I⟩:=CH w _ _ _ _ W0 a6;obtain⟨a0,a8⟩:=Yb a5 I;have q0:W0.cell? w=some (.pointer p):=a9.cell 0;clear a6 a5 a7 a9 I;go_wp2_with fail;refine(Z.o _ a0.o).mono ?_;rintro e w1 ⟨T',D,rfl,ok,hT,he,hM,hS,a3,hD,N⟩;obtain⟨p',a2⟩:=BM T';rw[AO,a2];have I:=a3.blk a8.o λe=>e
 have q1:w1.cell? ⟨w+1,0,none⟩=some _:=I.cell 0;have f1:=I.frozen 0;have l1:=I.lt;obtain⟨HB,HP,b0,HT,HE,HM,a4⟩:=Yh I a2 ok hT he hM a3;have a1:=hY N;clear a2 ok hT he hM a3 N I q0 hS hD;go_wp2_with fail;generalize hW:World.setCell _ _ _=W;have hs:Sb (λi=>i=w.heap.size+1) w1 W:=by rw[<-hW];exact(gE (λi=>i=w.heap.size+1) w1).set (p:=⟨w+1,0,none⟩) (.inr rfl) _
 have hb:AE W (w.heap.size+1) 36 #[.pointer p']:=by rw[<-hW];exact HB.o.AX 0 (.pointer p')
 have q5:W.cell? ⟨w+1,0,none⟩=some (.pointer p'):=hb.cell 0;clear hW q1 f1;refine eU (v:=.agg #[.pointer p']) (by simp[results,results8,go_sem,q5]) rfl ?_;have z0:=a0.o.size;have z1:=a4.o.size;have z2:=hs.size;have a7:w.heap.size+1<W0.heap.size:=a8.o.lt;refine⟨T',by rw[AO,HP.o],b0.o,(HT.o.agree λb hb=>hs.block b hb.2.1 ?_).mono λb hb=>hb.1.imp id λe=>⟨oM,by have:=hb.2.1;omega⟩,HE.o,HM.o,((gA a0.o).trans a4.o).comp hs λi hi e=>oM,a1.o⟩;rcases hb.1 with e|e
 .have:=(HF.o b e).2;omega
 omega
def LI(n B:Nat)(codes:List Int)(j:Nat)(D:Nat->Prop)(W:AB):Prop:=
 ∃sc:Sl,AE W B 62 #[.slice sc.a j sc.c]/\W.ownsRow n 71 1 (.slice sc.a j sc.c) j ((codes.take j).map (.int .i64))/\sc.row≠some B/\∀b,D b↔b=B\/sc.row=some b
def Tryz.Uw:(prog.info? 71).map (λi=>(i.zero,i.size,i.bytes))=some (some (.int .i64 0),1,8):=kM
variable{D:Nat->Prop}{W:AB}
def im{I:List Int}{code:Int}(hl:I.length<=1000)(hn:n<=B)(hc:I[j]? = some code)(h:LI n B I j D W) :
  Calls prog 33 #[code,.pointer (some B)] W λe w'=>e=.returned (.tuple #[])/\∃D',LI n B I (j+1) D' w'/\Sb D W w'/\∀b,D' b->D b\/W.heap.size<=b:=by
 obtain⟨sc,N,Z,a9,hD⟩:=h;obtain⟨i0,hi,d0,c7,b4⟩:=eZ Tryz.Uw;have c0:W.cell? B=some (.slice sc.a j sc.c):=N.cell 0;have lB:=N.lt;have d4:j<I.length:=(ai.1 hc).1;have a3:=(gz W).alloc #[.int .i64 code] 71;obtain⟨b6,b5,HB,d3,HD,HC,a4⟩:=Yh (gB W 71 #[.int .i64 code]) (AZ (F:=Lt W) Z (a3.agree λb N=>N) λb N=>(AM Z N).2) (N.ext a3) Z hD hc a3;obtain⟨c6,b3,b9,a5⟩:=Ye (show j+1<=maxLen by unfold maxLen;omega) (show(j+1)*8<=140737488355328 by omega) (show n<=(W.alloc (.cells #[code] 71)).heap.size from an (bY (Nat.lt_of_le_of_lt hn lB)) a3.size) a9;clear N Z hD a3 hc a9;go_in;go_wp2_with(at_builtin;refine Bq _ rfl (.tmp 3) (.tmp 5) 62 rfl n 71 i0 _ 1 8 underlying62 hi d0 c7 b4 rfl oN sc j ((I.take j).map (.int .i64)) rfl b5.o (λb=>b=W.heap.size) ⟨some W,1⟩ 1 [.int .i64 code] rfl (gG b6.o oN rfl) (by simp[Value.oneCell']) c6.o b3.o b9.o ?_;intro s7 w9 a0 a2 a6;have a1:AE w9 B 62 #[.slice sc.a j sc.c]:=(a2.grown.block B HB.o.lt (λe=>a5.o e.symm)).trans HB.o;have c9:w9.cell? B=some (.slice sc.a j sc.c):=a1.cell 0;have f9:=a1.frozen 0;have l9:=a1.lt;have b7:=hY a1;have c8:=hY a0;have b0:=hY a2;have a8:=hY a6;clear a1 a0 a2 a6);go_end0;have a7:s7.row≠some B:=λe=>by
  rcases a8.o with hs |⟨hs,-⟩
  .exact a5.o (by unfold Sl.row at e ⊢;rwa[hs]at e)
  unfold Sl.row at e;rw[hs]at e;have e:some (W.alloc (.cells #[code] 71)).heap.size=some B:=e;injection e with e;have:=a4.o.size;omega
 refine⟨rfl,λb=>b=B\/s7.row=some b,⟨s7,b7.o.AX 0 _,?_,a7,λb=>Iff.rfl⟩,?_,λb N=>?_⟩
 ·rw [aK,HC.o,aB]
  exact AZ (F:=λb=>s7.row=some b) c8.o (gD _ _ _ a7) λb N=>N
 ·have b8:Sb D (W.alloc (.cells #[code] 71)) w9:=by
   have hg:=b0.o.grown;exact⟨hg.os,hg.tape,hg.output,hg.size,λi hi hn=>hg.block i hi λe=>hn ((HD.o i).2 (.inr e.symm))⟩
  exact((a4.o.sb D).trans b8).set (p:=⟨B,0,none⟩) (.inr ((HD.o B).2 (.inl rfl))) _
 rcases N with rfl|N
 .exact .inl ((HD.o _).2 (.inl rfl))
 rcases a8.o with hs |⟨hs,-⟩
 .exact .inl ((HD.o b).2 (.inr (by unfold Sl.row at N ⊢;rwa[hs]at N)))
 unfold Sl.row at N;rw[hs]at N;have N:some (W.alloc (.cells #[code] 71)).heap.size=some b:=N;injection N with N;have:=a4.o.size;exact .inr oM
def ll{codes:List Int}(hl:codes.length<=1000)(hn:n<=B):NG 33 #[.pointer (some B)] codes (LI n B codes) where
 eg:=λargs w=>rfl
 call:=λj code D W hc h=>im hl hn hc h
 stay:=λj D X W W' ⟨sc,h1,h2,h3,h4⟩ k hX=>⟨sc,k.blk h1 (hX _ ((h4 _).2 (.inl rfl))),AZ (F:=λb=>sc.row=some b) h2 (λb hb=>k.block b (AM h2 hb).2 (hX _ ((h4 _).2 (.inr hb)))) λb hb=>hb,h3,h4⟩
 lt:=λj D W ⟨sc,h1,h2,h3,h4⟩ b hb=>by
  rcases(h4 b).1 hb with rfl|e
  .exact h1.lt
  exact(AM h2 e).2
def O0{l:List Nm}(h:C7 w F G T s l)(hl:l.length<=1000) :
  Calls prog 17 #[AO T,.slice s.a l.length s.c] w λe w'=>∃sc:Sl,e=.returned (.slice sc.a l.length sc.c)/\Rd w' (In w.heap.size w'.heap.size) 1 sc l.length ((BA (A8 l) (AG T)).1.map (.int .i64))/\Nw w w':=by
 obtain⟨p,hp⟩:=BM T;obtain⟨N,I⟩:∃c,(BA (A8 l) (AG T)).1=c:=⟨_,rfl⟩;have a2:N.length=l.length:=by
  have:=Nl (A8 l) (AG T) l.length (by rw[aq];exact ao _);rwa[aM (by rw[aq];exact ao _),I]at this
 obtain⟨i0,hi,b9,c9,b6⟩:=eZ Tryz.Uw;have d3:∀W,(Instr.makeSlice 62 (.int .i64 0) (.int .i64 (l.length:Int))).run prog W=.ok (.slice (some ⟨W,0,none⟩) 0 l.length) (W.alloc (.cells (madeCells (Value.int .i64 0).cells (l.length*i0.size)) 71)):=λW=>I' (P:=prog) 62 71 i0 _ underlying62 hi b9 .i64 .i64 0 l.length (aw _) (by rw[b6];omega) oM W
 obtain⟨a0,HF,HG⟩:=Yc (λW (hW:Ext w W) B D0 (hB:w.heap.size+1<=B) h0 hD=>Pf (h.ext (gA hW)) (ll (n:=w+1) (B:=B) (by rw[I,a2];exact hl) hB) (D0:=D0) h0 hD) h.old h.rowOld;have c7:=h.lib.lib.big;rw[AO,hp,I]at a0;rw[AO,hp];obtain⟨b7,c6⟩:=Yb a2 I;clear hp h I a2;go_in;go_upto_region 2 with fail;generalize b3:World.alloc _ _=W3;obtain⟨a3,d0,b4,a6,a9⟩:=Ch w _ _ _ _ _ _ W3 b3;have a4:LI (w.heap.size+1) (w.heap.size+1+1) N 0 (λb=>b=w.heap.size+1+1\/some (w.heap.size+1)=some b) W3:=
  ⟨⟨some ⟨w+1,0,none⟩,l.length⟩,a9,⟨oO,.inr ⟨w+1,l.length,_,rfl,ao _,a6,aw _,by unfold maxLen;omega,by rw [gh,dH],oO⟩⟩,fun e=>by
    have e:some (w.heap.size+1)=some (w.heap.size+1+1):=e;injection e with e;omega,λb=>Iff.rfl⟩
 have HC:=hY (a0.o W3 a3 (w.heap.size+1+1) _ oM a4 λb Z=>by
  have c8:w<=b:=by
   rcases Z with Z|Z
   .omega
   injection Z with Z;omega
  exact⟨oM,λe=>by have:=(HF.o b e).2;omega,λe=>by have:=HG.o b e;omega⟩)
 have q0:W3.cell? w=some (.pointer p):=b4.cell 0;have b5:=hY a3;clear b3 a3 b4 a6 a9 a4;go_wp2_with fail;refine HC.o.mono ?_;rintro e w4 ⟨T',D,rfl,-,-,-,-,hS,b0,-,-⟩;obtain⟨p',a8⟩:=BM T';rw[AO,a8];obtain⟨sc,a7,a1,-,-⟩:=hS;have q4:w4.cell? ⟨w+1+1,0,none⟩=some (.slice sc.a l.length sc.c):=a7.cell 0;obtain⟨a5,b8⟩:=Yb a1 b0;clear a7 a1 b0 q0 a8;go_wp2_with fail;go_ret;refine⟨sc,rfl,?_,(gA b5.o).comp b8.o λi hi e=>?_⟩
 ·have h:=gF a5.o
  rw[aM (by rw[b7.o];exact ao _)]at h;rw[c6.o];exact h.mono λb Z=>⟨by have:=Z.1;omega,Z.2⟩
 rcases e with e|e
 .omega
 injection e with e;omega
def ZY:AR:=⟨Sl.none,Sl.none,Sl.none,Sl.none,Sl.none⟩
def Tryz.jA:(prog.info? 59).map (λi=>(i.zero,i.size,i.bytes))=some (some (Ap (.mk 0 ByteArray.empty ByteArray.empty 0 false zeroV false zeroV []) ZY),19,264):=kM
def Rb{b:Nat}{T:TypeId}{m:Mu}(h:AE w b T (BS m c))(o n:Nat)(N:o+n<=19):w.there b o n:=λj I=>by
 refine⟨?_,h.frozen _⟩;rw[h.cell,cF (by rw[bp,F4];omega)];rfl
def TH(m:Mu)(w:AB)(e:AC)(w':AB):Prop:=∃c',e=.returned (Ap m c')/\Ext w w'/\AK w' (In w.heap.size w'.heap.size) m c'
def S4{wr W w9:AB}{m:Mu}(h:Nw wr W)(I:Wr W w9 s2.row)(hs:s7.a=s2.a\/s7.a=some ⟨W,0,none⟩/\Wr W w9 none)(hv:AK wr (Du n wr s2) m c):AK w9 (Du n w9 s7) m c:=by
 have h1:AK W (Du n wr s2) m c:=hv.agree (gC h λb N=>N.2.1);have h2:AK w9 (Du n wr s2) m c:=h1.agree (I.agree (λi hi=>ab hi.2.1 h.size) λk Z hF=>hF.2.2 Z);refine h2.mono λi hi=>⟨hi.1,ab hi.2.1 (an h.size I.grown.size),λe=>?_⟩
 rcases hs with hs |⟨hs,-⟩
 .exact hi.2.2 (by unfold Sl.row at e ⊢;rwa[hs]at e)
 unfold Sl.row at e;rw[hs]at e;have e:some W.heap.size=some i:=e;injection e with e;have:=hi.2.1;have:=h.size;omega
variable{w6 w9:AB}
def Zs{m:Mu}(hn:n<=w0)(Z:∀b,s2.row=some b->b<w0.heap.size)(h:Nw w6 W)(hw:Wr W w9 s2.row)(hs:s7.a=s2.a\/s7.a=some ⟨W,0,none⟩/\Wr W w9 none)(N:AK w6 (In w0.heap.size w6.heap.size) m c):AK w9 (Du n w9 s7) m c:=
 S4 h hw hs (N.mono λb I=>⟨Nat.le_trans hn I.1,I.2,λe=>by have:=Z b e;have:=I.1;omega⟩)
def ZW(n:Nat):∀(m:Mu) (c:AR) (w:AB),SizeOf.sizeOf m<=n->AK w (Lt w) m c->Calls prog 41 #[Ap m c] w (TH m w):=by
 induction n with
 |zero=>intro m c w h;have:=Mu.CM m;omega
 | succ n ih=>
   intro m c w hn hm;obtain⟨i6,l8,-,-,-⟩:=hm.parts;obtain⟨i0,hi,d8,d9,l3⟩:=eZ Tryz.jA;have q5:=hm.len;obtain⟨j3,l2,HI,HM,HN⟩:=Yf (λW (hW:Ext w W)=>IL _ _ (ao _) W _ _ ((i6.agree (hW.agree λ_ h=>h)).mono (G:=Lt W) λb I=>ab I hW.size)) (λW (hW:Ext w W)=>IL _ _ (ao _) W _ _ ((l8.agree (hW.agree λ_ h=>h)).mono (G:=Lt W) λb I=>ab I hW.size)) ih hm hn;clear ih hm hn i6 l8;go_in;go_upto_region 1 with fail;generalize g3:World.alloc _ _=W0;obtain⟨j0,e7,b0,a3⟩:=CH w _ _ _ _ W0 g3;have b0:AE W0 w.heap.size 59 (BS m c):=b0;obtain⟨-,-,-,-,-,c5,c6,c7,c8,c9,q1,-,-,-,-,-,-,-,-⟩:=(gI b0).c19;obtain⟨d0,j7,k3,k6⟩:=Ye j0 b0 a3 e7;clear g3 j0 b0 a3 e7;go_wp2_with fail;refine(j3.o _ d0.o).mono ?_;rintro e w1 ⟨sl,so,rfl,a9,k8⟩;have a3:=j7.o.ext a9;obtain⟨d5,j6,k1,f6,i8,f9⟩:=Yg (Rb a3 5 6 oN) a3 (k3.o.ext a9) (d0.o.trans a9) k8.rv a9.size;clear a3 a9 k8 c5 c6 c7 c8 c9 q1;go_wp2_with(refine fK rfl 54 (.tmp 9) (.tmp 8) rfl w.heap.size 5 #[.int .i64 m.was.kind,.bool m.was.b,.int .i64 m.was.i,.string m.was.t,.slice sl.a m.was.l.length sl.c,.slice so.a m.was.ok.length so.c] rfl rfl d5.o kM (by simp[Value.oneCell']) ?_;generalize e1:World.setCells _ _ _ _=v2;obtain⟨e6,i2,g6⟩:=Te (m':=m) (c':=⟨sl,so,c.v1,c.v2,c.s⟩) j6.o e1 rfl;have f5:Ext w v2:=(by rw[<-e1];exact Ext.setCells (ao _) _ _ f6.o);obtain⟨-,-,-,-,-,-,-,-,-,-,-,-,q4,o5,o2,p5,p7,q0,-⟩:=(gI e6).c19;have i3:=hY e6;have f4:=hY i2;have j2:=hY g6;have e4:=hY f5;clear e1 e6 i2 g6 f5);refine(l2.o _ e4.o).mono ?_;rintro e w3 ⟨N,Z,rfl,b8,g8⟩;have f1:=i3.o.ext b8;obtain⟨d7,l4,k4,i7,b7⟩:=Yf (Rb f1 12 6 oN) f1 (e4.o.trans b8) g8.rv b8;clear f1 b8 g8 q4 o5 o2 p5 p7 q0;go_wp2_with(refine fK rfl 54 (.tmp 13) (.tmp 12) rfl w.heap.size 12 #[.int .i64 m.v.kind,.bool m.v.b,.int .i64 m.v.i,.string m.v.t,.slice N.a m.v.l.length N.c,.slice Z.a m.v.ok.length Z.c] rfl rfl d7.o kM (by simp[Value.oneCell']) ?_;generalize e2:World.setCells _ _ _ _=v4;obtain⟨a0,f8,j4⟩:=Te (m':=m) (c':=⟨sl,so,N,Z,c.s⟩) l4.o e2 rfl;have i9:Ext w v4:=(by rw[<-e2];exact Ext.setCells (ao _) _ _ k4.o);have j9:v4.cell? ⟨w,0+18,none⟩=some (.slice c.s.a m.l.length c.s.c):=(gI a0) 18 _ rfl;have p0:=hY a0;have d4:=hY f8;have g4:=hY j4;have l5:=hY i9;clear e2 a0 f8 j4 i9);have e7:=k6.o;have z1:=f9.o;have z2:=j2.o;have z3:=b7.o.size;have z4:=g4.o;have q8:=d0.o.size;obtain⟨p1,p6,p4⟩:=Yc (show RV v4 (λb=>w+2<=b/\b<v4) m.was sl so from(((i8.o.agree (f4.o.mono λb I e=>by have:=I.1;omega)).agree (b7.o.agree λb I=>by have:=I.2;omega)).agree (d4.o.mono λb I e=>by have:=I.1;omega)).mono λb I=>⟨by have:=I.1;omega,by have:=I.2;omega⟩) (show RV v4 (λb=>w+2<=b/\b<v4) m.v N Z from(i7.o.agree (d4.o.mono λb I e=>by have:=I.1;omega)).mono λb I=>⟨by have:=I.1;omega,by have:=I.2;omega⟩) (show AE v4 (w.heap.size+1) 59 _ from(d4.o _ oM).trans (((f4.o _ oM).trans k1.o) |>λh=>(b7.o.heap oM).trans h));clear i8 i7 j7 j6 i3 l4 f4 d4 k3 k1 j3 l2 d0 f6 e4 k4 b7 d5 d7 k6 j2 g4 f9;go_loopw[3,17] (λv3 o7 wr=>∃(j:Nat) (s2:Sl) (ys:List (Mu × AR)),o7=.int .i64 (j:Int)/\v3=.slice s2.a ys.length s2.c/\j<=m.l.length/\Yd (ys.length=j)/\Yd (ys.map Prod.fst=m.l.take j)/\Yd (Ext v4 wr)/\Yd (wr.ownsRow v4.heap.size 59 19 (.slice s2.a ys.length s2.c) ys.length (ys.flatMap λp=>A5 p.1 p.2))/\Yd (∀y∈ys,AK wr (Du v4.heap.size wr s2) y.1 y.2)) (λ_ v _=>m.l.length -(intOf v).toNat)
   case atStart=>exact⟨0,Sl.none,[],rfl,rfl,aw _,hY rfl,hY rfl,hY (gz _),hY (e9 _ _ _ _),hY λy h=>by cases h⟩
   obtain⟨j,s2,ys,rfl,rfl,hj,a6,HY,HX,a1,l7⟩:=hrel;by_cases g7:j<m.l.length
   ·have l1:(j:Int)<(m.l.length:Int):=oM
    have r0:decide ((j:Int)<(m.l.length:Int))=true:=eO l1;have l0:(0:Int)<=(j:Int):=oM
    obtain⟨x,hx⟩:∃x,m.l[j]? = some x:=⟨_,ac g7⟩;obtain⟨b,o,y,n9,b9,q9,r1,d3,i4⟩:=HM.o.at hx;have b9:b<w:=b9;have b5:Ext w wr:=l5.o.trans HX.o;have q6:b<wr:=ab b9 b5.size;obtain⟨j1,e3,o3⟩:=Yc (d3.agree (b5.agree λ_ h=>h) b9) (λW (hW:Ext wr W)=>HI.o x y W (by have:=Mu.Gc hx;have:=HN.o;omega) ((i4.agree ((b5.trans hW).agree λ_ h=>h)).mono λb I=>ab I (b5.trans hW).size)) (show m.l.take (j+1)=m.l.take j++[x]by rw[aK,hx];rfl);rw[n9];clear i4 d3 hx b5;go_wp2_with(first |(refine A9 rfl (.tmp 19) rfl b (o+j*19) rfl x y j1.o ?_) |(refine Ml rfl (.tmp 5) (.tmp 20) rfl x y (w0:=wr) (b:=wr) rfl ((gz wr).alloc _ _) (gB wr _ _) rfl rfl rfl ?_;intro w5 a4 i1;have a5:=hY a4;have o0:=hY (gI i1);clear a4 i1) |(refine A9 rfl (.tmp 5) rfl wr.heap.size 0 rfl x y o0.o ?_));refine(e3.o _ a5.o).mono ?_;rintro e w6 ⟨c',rfl,k9,j8⟩;have a7:=a5.o.trans k9;have f0:=(gz w6).alloc (BS x c') 59;have q2:=hY (gB w6 59 (BS x c'));have a2:Ext wr (w6.alloc (.cells (BS x c') 59)):=a7.trans f0;obtain⟨e0,n6,q7,p3,g5,g9,o8⟩:=Yh a2 f0 a7 j8 a5.o.size (AZ (F:=Lt wr) a1.o (a2.agree λb I=>I) λb I=>(AM a1.o I).2) (show ys.length+1<=maxLen by unfold maxLen;have:=a6.out;omega);obtain⟨p9,o6⟩:=Yb (show(ys.length+1)*264<=140737488355328 by have:=a6.out;omega) (show v4.heap.size<=(w6.alloc (.cells (BS x c') 59)).heap.size from(HX.o.trans a2).size);clear k9 j8 a7 f0 a2;go_wp2_with(first |(refine LZ rfl 57 59 1 #[(0,.tmp 23)] rfl [Ap x c'] 19 underlying57 hi d9 d8 oN rfl oN oN (λv hv=>by rw[aV.1 hv];rfl) rfl (BS x c') rfl ?_) |(at_builtin;refine Bq _ rfl (.tmp 21) (.tmp 24) 57 rfl v4.heap.size 59 i0 _ 19 264 underlying57 hi d8 d9 l3 rfl oN s2 ys.length (ys.flatMap λp=>A5 p.1 p.2) rfl g9.o (λb=>b=w6.heap.size) ⟨some w6,1⟩ 1 (A5 x c') rfl (gG q2.o oN rfl) (Lp (x,c')) o8.o p9.o o6.o ?_;intro s7 w9 b3 d6 k2;have q3:=hY b3;have e8:=hY d6;have g0:=hY k2;clear b3 d6 k2));go_roundw
    case measure=>simp[intOf];omega
    have n4:=λb (I:s2.row=some b)=>(AM a1.o I)
    refine⟨j+1,s7,ys++[(x,c')],by go_num,by rw[aj];rfl,g7,hY (by rw[aj,a6.out];rfl),hY (by rw[aB,HY.o,o3.o];rfl),hY ?_,hY ?_,hY λz hz=>?_⟩
    .exact (HX.o.trans e0.o).wr e8.o λi hi=>(AM g9.o hi).1
    ·rw [aj,aT,show [(x,c')].flatMap (fun p=>A5 p.1 p.2)=A5 x c' by simp]
     exact q3.o
    rcases aL.1 hz with hz|hz
    .exact S4 (gA e0.o) e8.o g0.o (l7.o z hz)
    rw[aV.1 hz];have:=g5.o;exact Zs (w0:=w5) (by have:=HX.o.size;omega) (λb I=>by have:=(n4 b I).2;omega) (gA n6.o) e8.o g0.o p3.o
   obtain rfl:j=m.l.length:=oM
   have l1:decide ((m.l.length:Int)<(m.l.length:Int))=false:=eM oM;have a0:=p0.o.ext HX.o;have j9:wr.cell? ⟨w,18,none⟩=some _:=a0.cell 18;have l9:=a0.frozen 18;have lb:=a0.lt;have hy:=HY.o;rw[aR]at hy;obtain⟨o1,n2,n8⟩:=Yc hy a0 (p4.o.ext HX.o);clear a0 hy;rw[a6.out];go_upto_region 10 with fail;generalize b4:World.setCell _ _ _=w5;have k5:AE w5 w.heap.size 59 (BS m ⟨sl,so,N,Z,s2⟩):=by
    have:=n2.o.AX 18 (.slice s2.a m.l.length s2.c);rw[b4]at this;exact this
   have a8:Agree (λb=>b≠w.heap.size) wr w5:=by rw[<-b4];exact gD wr ⟨w,18,none⟩ _ λh=>h rfl
   have a4:Ext w w5:=by rw[<-b4];exact(l5.o.trans HX.o).setCell (p:=⟨w,18,none⟩) (ao _) _
   have k7:w5.heap.size=wr.heap.size:=by rw[<-b4];exact eX _ _ _
   have f2:AE w5 (w.heap.size+1) 59 _:=(a8 _ oM).trans n8.o;obtain⟨l6,o9,p8,i5,a5,o4⟩:=Yg (Ju f2 (show 19<=_ by decide)) (gI k5) f2 a8 a4 k7;clear b4 k5 a8 a4 k7 f2 j9 l9;go_wp2_with(first |(refine A9 rfl (.tmp 1) rfl w.heap.size 0 rfl m ⟨sl,so,N,Z,s2⟩ o9.o ?_) |(refine fK rfl 59 (.tmp 2) (.tmp 29) rfl (w.heap.size+1) 0 (BS m ⟨sl,so,N,Z,s2⟩) rfl rfl l6.o (by exact Tryz.GZ) (fW (Lp (m,⟨sl,so,N,Z,s2⟩))) ?_));generalize hV:World.setCells _ _ _ _=v;have n7:AE v (w.heap.size+1) 59 (BS m ⟨sl,so,N,Z,s2⟩):=P7 p8.o rfl hV;have j5:Agree (λb=>b≠w.heap.size+1) w5 v/\v.heap.size=w5.heap.size:=by rw[<-hV];exact IF _ _ _ _
   have p2:Ext w v:=by rw[<-hV];exact Ext.setCells (cN _) _ _ a5.o
   clear hV;refine eU (v:=Ap m ⟨sl,so,N,Z,s2⟩) (results_cell_row (p:=2) (ty:=59) results41 _ v (w.heap.size+1) 59 _ (0,0) _ rfl n7 underlying59 rfl (by exact Tryz.GZ)) rfl ?_;have zx:=HX.o.size;have zs:=o4.o;have zf:=j5.2;have b6:Agree (λb=>w+2<=b) wr v:=λb I=>(j5.1 b oM).trans (i5.o b oM)
   obtain⟨bl,fl,f3,d3⟩:=ZE a1.o rfl;have k0:∀b,v4.heap.size<=b->b<wr.heap.size->In w.heap.size v.heap.size b:=λb h1 h2=>⟨oM,oM⟩
   have f7:∀k x,m.l[k]? = some x->∃p:Mu × AR,ys[k]? = some p/\p.1=x:=λk x hx=>by
    rw[<-o1.o,ar]at hx;cases hp:ys[k]? with
    |none=>rw[hp]at hx;cases hx
    |some p=>rw[hp]at hx;injection hx with hx;exact⟨p,hp,hx⟩
   refine⟨_,rfl,p2,HM.o.mk' (bl:=bl) (fl:=fl) (cl:=λk=>((ys[k]?).getD default).2) ?_ ?_ ?_ (λk x hx=>?_) λk x hx=>?_⟩
   .exact ((p1.o.agree (HX.o.agree λb I=>I.2)).agree (b6.mono λb I=>I.1)).mono λb I=>⟨by have:=I.1;omega,by have:=I.2;omega⟩
   .exact ((p6.o.agree (HX.o.agree λb I=>I.2)).agree (b6.mono λb I=>I.1)).mono λb I=>⟨by have:=I.1;omega,by have:=I.2;omega⟩
   ·have:=a6.out
    rw[this]at f3;exact f3.mono λb I=>k0 b I.1 I.2
   ·obtain ⟨p,hp,rfl⟩:=f7 k x hx
    simp only[hp];exact(d3 k p hp).agree (F:=λb=>v4<=b) (b6.mono λb I=>oM) (f3.fits (De hp)).1
   obtain⟨p,hp,rfl⟩:=f7 k x hx;simp only[hp];exact((l7.o p (ap hp)).agree (b6.mono λb I=>by have:=I.1;omega)).mono λb I=>k0 b I.1 I.2.1
def Ze{m:Mu}(h:AK w (Lt w) m c):Calls prog 41 #[Ap m c] w (TH m w):=ZW _ m c w (ao _) h
abbrev Dr(ys:List (Nm × AR)):List Value:=ys.flatMap λp=>Ce p.1 p.2
def UI(a b:List (Nm × AR)):Dr (a++b)=Dr a++Dr b:=aT
def YY{last:Int}{x:Nm}{y:AR}(hB:AE w B 24 #[.int .u64 last]):Calls prog 40 #[FE x y,.pointer (some B)] w λe w'=>e=.returned (.bool (decide (last<x.id)))/\Ext w w':=by
 have HB:=hY hB;clear hB;go_in;go_upto_region 1 with fail;generalize N:World.alloc _ _=W0;have I:Ext w W0:=by rw[<-N];exact(gz w).alloc _ _
 have Z:AE W0 w.heap.size 61 (DU x y):=by rw[<-N];exact gB w _ _
 have c0:W0.cell? w=some (.int .u64 x.id):=(Bs.GI Z).id;have c1:W0.cell? B=some (.int .u64 last):=(HB.o.ext I).cell 0;have a0:=hY I;clear N I Z;go_wp2_with fail;go_ret;exact⟨rfl,a0.o⟩
def Tf{last:Int}{l:List Nm}{x:Nm}(h:l[j]? = some x):BH last (l.take (j+1))=if last<x.id then BH last (l.take j)++[x]else BH last (l.take j):=by
 rw[aK,h];exact pr _ _ _
def Y9{l:List Nm}{last:Int}(hr:A7 w F s l)(hF:∀b,F b->b<w.heap.size)(hB:AE w B 24 #[.int .u64 last]) :
  Calls prog 39 #[.slice s.a l.length s.c,.func (.func 40) #[] #[.pointer (some B)]] w λe w'=>∃(s':Sl) (ys:List (Nm × AR)),e=.returned (.slice s'.a ys.length s'.c)/\Ext w w'/\ys.map Prod.fst=BH last l/\w'.ownsRow w.heap.size 61 20 (.slice s'.a ys.length s'.c) ys.length (Dr ys)/\∀y∈ys,AK w F y.1.m y.2:=by
 obtain⟨i0,hi,b8,c8,e0⟩:=eZ Tryz.OV;have e7:=hr.len;obtain⟨HR,HF,HB⟩:=Yc hr hF hB;clear hr hF hB;go_in;go_wp2_with fail;go_loopw[5,10] (λv5 d0 wr=>∃(j:Nat) (s2:Sl) (ys:List (Nm × AR)),d0=.int .i64 (j:Int)/\v5=.slice s2.a ys.length s2.c/\j<=l.length/\ys.length<=j/\Yd (ys.map Prod.fst=BH last (l.take j))/\Yd (Ext w wr)/\Yd (wr.ownsRow w.heap.size 61 20 (.slice s2.a ys.length s2.c) ys.length (Dr ys))/\Yd (∀y∈ys,AK w F y.1.m y.2)) (λ_ v _=>l.length -(intOf v).toNat)
 case atStart=>exact⟨0,Sl.none,[],rfl,rfl,aw _,ao _,hY rfl,hY (gz _),hY (e9 _ _ _ _),hY λy h=>by cases h⟩
 obtain⟨j,s2,ys,rfl,rfl,hj,b4,HY,HX,I,a7⟩:=hrel;by_cases a6:j<l.length
 ·have l1:(j:Int)<(l.length:Int):=oM
  have f2:decide ((j:Int)<(l.length:Int))=true:=eO l1;have l0:(0:Int)<=(j:Int):=oM
  obtain⟨x,hx⟩:∃x,l[j]? = some x:=⟨_,ac a6⟩;obtain⟨b,o,y,d4,a9,f0,e6,b3,c9⟩:=HR.o.at hx;have b5:Agree F w wr:=HX.o.agree HF.o;have a2:=hY (b3.agree b5 a9);have e8:=a2.o.lt;obtain⟨d7,b6⟩:=Yb c9 (Tf (last:=last) hx);rw[d4];clear b3 c9 b5 hx a9;go_wp2_with(first |(refine JK rfl (.tmp 12) rfl b (o+j*20) rfl x y a2.o ?_) |(refine P4 rfl rfl rfl x y (w0:=wr) (b:=wr) rfl ((gz wr).alloc _ _) (gB wr _ _) rfl rfl rfl ?_;intro w5 a8 c7;have b0:=hY a8;have b7:=hY (Bs.GI c7);clear a8 c7) |(refine JK rfl (.tmp 7) rfl wr.heap.size 0 rfl x y b7.o ?_));refine(YY (HB.o.ext (HX.o.trans b0.o))).mono ?_;rintro e w6 ⟨rfl,a5⟩;obtain⟨a1,d9⟩:=Yb (b0.o.trans a5) (b7.o.ext a5);clear a5;by_cases hk:last<x.id
  ·have g:decide (last<x.id)=true:=eO hk
   have N:=b6.o;rw[eN hk]at N;have HA:=hY N;have a4:=(gz w6).alloc (DU x y) 61;obtain⟨e1,d3⟩:=Yb (gB w6 61 (DU x y)) a4;have Z:Ext wr (w6.alloc (.cells (DU x y) 61)):=a1.o.trans a4;obtain⟨c6,e3,d8,e2⟩:=Ye (AZ (F:=Lt wr) I.o (Z.agree λb hb=>hb) λb hb=>(AM I.o hb).2) (show ys.length+1<=maxLen by unfold maxLen;omega) (show(ys.length+1)*272<=140737488355328 by omega) (show w.heap.size<=(w6.alloc (.cells (DU x y) 61)).heap.size from(HX.o.trans Z).size);rw[g];clear hk g N a4 Z;go_wp2_with(first |(refine JK rfl (.tmp 7) rfl wr.heap.size 0 rfl x y d9.o ?_) |(refine LZ rfl 23 61 1 #[(0,.tmp 18)] rfl [FE x y] 20 underlying23 hi c8 b8 oN rfl oN oN (λv hv=>by rw[aV.1 hv];rfl) rfl (DU x y) rfl ?_) |(at_builtin;refine Bq _ rfl (.tmp 17) (.tmp 19) 23 rfl w.heap.size 61 i0 _ 20 272 underlying23 hi b8 c8 e0 rfl oN s2 ys.length (Dr ys) rfl c6.o (λb=>b=w6.heap.size) ⟨some w6,1⟩ 1 (Ce x y) rfl (gG e1.o oN rfl) (Nc (x,y)) e3.o d8.o e2.o ?_;intro s7 w9 a0 a3 b9;have e4:=hY a0;have d6:=hY a3;have f1:=hY b9;clear a0 a3 b9));go_roundw
   case measure=>simp[intOf];omega
   refine⟨j+1,s7,ys++[(x,y)],by go_num,by rw[aj];rfl,a6,by rw[aj];exact ez b4,hY (by rw[aB,HY.o,HA.o];rfl),hY ?_,hY ?_,hY λz hz=>?_⟩
   .exact ((HX.o.trans a1.o).trans d3.o).wr d6.o λi hi=>(AM c6.o hi).1
   ·rw [aj,UI,show Dr [(x,y)]=Ce x y by simp [Dr]]
    exact e4.o
   rcases aL.1 hz with hz|hz
   .exact a7.o z hz
   rw[aV.1 hz];exact d7.o
  have g:decide (last<x.id)=false:=eM hk;have N:=b6.o;rw[eL hk]at N;have HA:=hY N;rw[g];clear hk g N;go_wp2_with fail;go_roundw
  case measure=>simp[intOf];omega
  exact⟨j+1,s2,ys,by go_num,rfl,a6,dM b4,hY (by rw[HA.o];exact HY.o),hY (HX.o.trans a1.o),hY (AZ (F:=Lt wr) I.o (a1.o.agree λb hb=>hb) λb hb=>(AM I.o hb).2),a7⟩
 obtain rfl:j=l.length:=oM
 have l1:decide ((l.length:Int)<(l.length:Int))=false:=eM oM;have hy:=HY.o;rw[aR]at hy;have d5:=hY hy;clear hy;go_wp2_with fail;go_ret;exact⟨s2,ys,rfl,HX.o,d5.o,I.o,a7.o⟩
variable{cs:List Value}
def Z1{base e size n:Nat}(h:w.ownsRow base e size (.slice s.a n s.c) n cs)(hn:0<n):∃g I,s.a=some ⟨g,0,none⟩/\base<=g/\AE w g e I/\n*size<=I.size/\n<=s.c/\s.c<=maxLen:=by
 rcases h.2 with⟨hv,h0⟩ |⟨g,a2,I,hv,a1,hg,N,a0,Z,ht⟩
 .omega
 simp only[Value.slice.injEq]at hv;obtain⟨h1,-,h2⟩:=hv;subst h2;exact⟨g,I,h1,a1,hg,by rw[Z];exact ci _ N,N,a0⟩
structure IV(w:AB)(F:Nat->Prop)(g:Nat)(L:List Nm)(j:Nat)(cc:Nat->AR)(wr:AB):Prop where
 x:Ext w wr
 blk:0<L.length->∃cur,AE wr g 61 cur/\L.length*20<=cur.size
 cells:∀k x,L[k]? = some x->Bs wr g (k*20) x (cc k)
 new:∀k x,k<j->L[k]? = some x->AK wr (λb=>w.heap.size<=b/\b<wr.heap.size/\b≠g) x.m (cc k)
 old:∀k x,j<=k->L[k]? = some x->AK w F x.m (cc k)
def IV.step{w wr W:AB}{L:List Nm}{cc:Nat->AR}(h:IV w F g L j cc wr)(hg:w<=g){x:Nm}(hx:L[j]? = some x)(k:Ext wr W)(hr:AK W (In wr.heap.size W.heap.size) x.m c') :
  IV w F g L (j+1) (λi=>if i=j then c' else cc i) (W.setCells g (j*20+1) (A5 x.m c')):=by
 have a9:j<L.length:=(ai.1 hx).1;obtain⟨b0,I,hc⟩:=h.blk oM;have a8:=I.lt;have a1:=I.ext k;have a7:W.there g (j*20+1) (A5 x.m c').length:=λi hi=>by
  rw[F4]at hi;refine⟨?_,a1.frozen _⟩;rw[a1.cell,cF oM];rfl
 have a6:=ga W g (j*20+1) (A5 x.m c') a7;have a0:∀o',(o'<j*20+1\/j*20+20<=o')->(W.setCells g (j*20+1) (A5 x.m c')).cell? ⟨g,o',none⟩=W.cell? ⟨g,o',none⟩:=λo' ho=>by
  rw[World.cell?_setCells_out g _ _ _ _ (λ_ _=>by rw[F4];show o'<j*20+1\/j*20+1+19<=o';omega)]
 have a4:Agree (λb=>b≠g) W (W.setCells g (j*20+1) (A5 x.m c')):=(IF g (A5 x.m c') (j*20+1) W).1;have a2:(W.setCells g (j*20+1) (A5 x.m c')).heap.size=W.heap.size:=(IF g (A5 x.m c') (j*20+1) W).2;refine⟨Ext.setCells hg _ _ (h.x.trans k),?_,λi y Z=>?_,λi y hi Z=>?_,λi y hi Z=>?_⟩
 ·obtain ⟨a3,h1,h2⟩:=Lw (A5 x.m c') (j*20+1) a1
  exactλ_=>⟨a3,h1,by rw[h2];exact hc⟩
 ·have a5:=(h.cells i y Z).ext k
  by_cases N:i=j
  ·subst N
   obtain rfl:x=y:=by rw[hx]at Z;injection Z
   simp only[if_pos];intro q u hu;cases q with
   |zero=>rw[a0 _ (.inl oM)];exact a5 0 u (by simpa[Ce]using hu)
   | succ q=>
     have:=a6 q u (by simpa[Ce]using hu);rwa[show i*20+(q+1)=i*20+1+q by omega]
  simp only[if_neg N];intro q u hu;have hq:q<20:=by have:=(ai.1 hu).1;rwa[Mj]at this
  rw[a0 _ oM];exact a5 q u hu
 ·by_cases N:i=j
  ·subst N
   obtain rfl:x=y:=by rw[hx]at Z;injection Z
   simp only[if_pos];exact(hr.agree (a4.mono λb I e=>by have:=I.1;omega)).mono λb I=>⟨by have:=I.1;have:=h.x.size;omega,by rw[a2];exact I.2,λe=>by have:=I.1;omega⟩
  simp only[if_neg N];have h1:=h.new i y oM Z;exact((h1.agree (k.agree λb I=>I.2.1)).agree (a4.mono λb I=>I.2.2)).mono λb I=>⟨I.1,by rw[a2];exact ab I.2.1 k.size,I.2.2⟩
 rw[eL oM];exact h.old i y oM Z
def Z9{l:List Nm}{last:Int}(hr:A7 w F s l)(hF:∀b,F b->b<w.heap.size) :
  Calls prog 23 #[.int .u64 last,.slice s.a l.length s.c] w λe w'=>∃s':Sl,e=.returned (.slice s'.a (BH last l).length s'.c)/\Ext w w'/\A7 w' (In w.heap.size w'.heap.size) s' (BH last l):=by
 have e6:=hr.len;have e3:=JC last l;obtain⟨b9,HG,HF⟩:=Yc (show ∀n∈BH last l,(Lit.int .u64 n.id).wf=true fromλn hn=>hr.wf n (bK.1 hn).1) (λW (hW:Ext w W) B hB=>Y9 (B:=B) (last:=last) (hr.ext hW hF) (λb N=>ab (hF b N) hW.size) hB) hF;obtain⟨L,hL⟩:∃L,BH last l=L:=⟨_,rfl⟩;rw[hL]at e3 b9 HG ⊢;clear hr hF hL;go_in;go_upto_region 1 with fail;generalize b6:World.alloc _ _=W0;obtain⟨a9,d3,f1⟩:=D4 b6;obtain⟨a8,HC⟩:=Yb a9 (HG.o W0 a9 _ d3);clear b6 a9 d3;go_wp2_with fail;refine HC.o.mono ?_;rintro e w1 ⟨s1,ys,rfl,b5,b0,a0,c6⟩;have a1:ys.length=L.length:=by rw[<-b0,aq]
 obtain⟨bl,fl,a3,b8⟩:=Ph a0 rfl;have z0:=a8.o.size;have a4:0<L.length->s1.a=some ⟨bl,0,none⟩/\w<=bl/\L.length<=s1.c/\s1.c<=maxLen/\fl=0/\∃Z,AE w1 bl 61 Z/\L.length*20<=Z.size:=λh0=>by
  obtain⟨g,Z,h1,h2,h3,h4,h5,h6⟩:=Z1 a0 (by rw[a1];exact h0);obtain⟨e1,-,-⟩:=a3.eq (by rw[a1];exact h0);have e1:s1.a=some ⟨bl,fl,none⟩:=e1;rw[h1]at e1;injection e1 with e1;injection e1 with e1 e2;subst e1 e2;rw[a1]at h4 h5;exact⟨h1,oM,h5,h6,rfl,Z,h3,h4⟩
 have hM:IV w F bl L 0 (λk=>((ys[k]?).getD default).2) w1:=by
  have b3:∀k x,L[k]? = some x->∃p:Nm × AR,ys[k]? = some p/\p.1=x:=λk x I=>by
   rw[<-b0,ar]at I;cases hp:ys[k]? with
   |none=>rw[hp]at I;cases I
   |some p=>rw[hp]at I;injection I with I;exact⟨p,hp,I⟩
  refine⟨a8.o.trans b5,λh0=>(a4 h0).2.2.2.2.2,λk x I=>?_,λk x h0=>absurd h0 (eD k),λk x _ I=>?_⟩
  ·obtain ⟨p,hp,rfl⟩:=b3 k x I
   have h1:=b8 k p hp;rw[(a4 (De I)).2.2.2.2.1,aF]at h1;simp only[hp];exact h1
  obtain⟨p,hp,rfl⟩:=b3 k x I;simp only[hp];exact(c6 p (ap hp)).agree λb N=>(a8.o.heap (HF.o b N)).symm
 obtain⟨HM,b4⟩:=Yb hM a4;rw[a1]at a3 ⊢;have d4:=hY a3;clear b5 b0 a0 c6 a1 a3 b8 a4 hM;go_wp2_with fail;go_loopw[12] (λv wr=>∃(j:Nat) (cc:Nat->AR),v=.int .i64 (j:Int)/\j<=L.length/\w1.heap.size<=wr.heap.size/\Yd (IV w F bl L j cc wr)) (λv _=>L.length -(intOf v).toNat)
 case atStart=>exact⟨0,_,rfl,aw _,ao _,HM⟩
 obtain⟨j,cc,rfl,hj,e8,HL⟩:=hrel;by_cases b7:j<L.length
 ·have l1:(j:Int)<(L.length:Int):=oM
  have f2:decide ((j:Int)<(L.length:Int))=true:=eO l1;have l0:(0:Int)<=(j:Int):=oM
  obtain⟨x,I⟩:∃x,L[j]? = some x:=⟨_,ac b7⟩;obtain⟨d5,d0,f0,e4,-,-⟩:=b4.o oM;have a5:=hY (HL.o.cells j x I).mu;have c8:=HL.o.old j x (ao _) I;obtain⟨d7,d9,e0⟩:=Yc (Ze ((c8.agree (HL.o.x.agree HF.o)).mono (G:=Lt wr) λb N=>ab (HF.o b N) HL.o.x.size)) I d0;have e7:=a5.o.lt;rw[d5];clear c8 I d0;go_wp2_with(refine A9 rfl (.tmp 20) rfl bl (j*20+1) rfl x.m (cc j) a5.o ?_);refine d7.o.mono ?_;rintro e w5 ⟨c',rfl,a2,c7⟩;have a7:=HL.o.step e0.o d9.o a2 c7;have a6:=hY a7;have c9:w5.there bl (j*20+1) 19:=by
   obtain⟨Z,h1,h2⟩:=HL.o.blk oM;have h3:=h1.ext a2;intro i hi;refine⟨?_,h3.frozen _⟩;rw[h3.cell,cF oM];rfl
  have d6:=hY c9;have f3:=a2.size;clear a2 c7 a7 c9;go_wp2_with(refine od rfl (.tmp 24) (.tmp 22) rfl bl (j*20+1) x.m c' d6.o rfl rfl ?_;generalize hV:World.setCells _ _ _ _=v;rw[hV]at a6;have d8:=hY (show v.heap.size=w5.heap.size from(by rw[<-hV];exact(IF _ _ _ _).2));clear hV);go_roundw
  case measure=>simp[intOf];omega
  exact⟨j+1,_,by go_num,b7,by have:=d8.o;omega,a6⟩
 obtain rfl:j=L.length:=oM
 have l1:decide ((L.length:Int)<(L.length:Int))=false:=eM oM;go_wp2_with fail;go_ret;exact⟨s1,rfl,HL.o.x,⟨bl,fl,cc,d4.o.mono λb N=>⟨by have:=N.1;omega,by have:=N.2;omega⟩,λk x I=>by rw[(b4.o (De I)).2.2.2.2.1,aF];exact HL.o.cells k x I,λk x I=>(HL.o.new k x (ai.1 I).1 I).mono λb N=>⟨N.1,N.2.1⟩⟩,b9.o,oM⟩
end Go.Proofs.YtahhllcdbjbpbaaGreatDoor
