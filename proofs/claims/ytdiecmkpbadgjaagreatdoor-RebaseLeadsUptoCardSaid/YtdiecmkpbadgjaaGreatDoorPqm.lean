/- What the theorem needs of the texts OvLay3, TurnK, Int4, Int5, Int6, Int7, TotM, Int8, Int9, RowB, KnB, HeadP, NmW, Run24, Head24, CpM, Left24: no condition of its own. -/
import Derived.Great.BuildSlice
import Derived.Test.YtdiecmkpbadgjaaGreatDoorPql
import Derived.Test.YtdiecmkpbadgjaaGreatDoorPqb
set_option linter.unusedVariables false
set_option linter.unusedSimpArgs false
set_option linter.unnecessarySimpa false
set_option maxRecDepth 100000
set_option maxHeartbeats 4000000
namespace Go.Proofs.YtdiecmkpbadgjaaGreatDoor
open Go.Proofs.Tryz
open Go.RowKit Go.Maps Go.Sort Go.Shelf
def Tryz.QfP:Go.Shelf.Ren:=⟨λ| 103=>213|210=>234|206=>235|n=>n,λ| 9=>9|4=>4|24=>258|3=>3|n=>n,λ| n=>n⟩
theorem Tryz.QjQ:Go.Proofs.Lays.n103 prog Tryz.QfP:={
 mixed:=by kernel_rfl
 f103:=func213.trans (congrArg some kM)
 f206:=func235.trans (congrArg some kM)
 f210:=func234.trans (congrArg some kM)
 t3:=underlying3
 a3:=isAgg3
 z3:=sizeOf3
 v3:=zeroValue3
 t4:=underlying4
 a4:=isAgg4
 z4:=sizeOf4
 v4:=zeroValue4
 t9:=underlying9
 a9:=isAgg9
 z9:=sizeOf9
 v9:=zeroValue9
 t24:=underlying258
 a24:=isAgg258
 z24:=sizeOf258
 v24:=zeroValue258 }
theorem QtR{k f:ByteArray}(h:Qau f k=true):(⟨(Lib.trimPrefix k.data.toList f.data.toList).toArray⟩:ByteArray)=k.extract f.size k.size:=by
 have I:Lib.hasPrefix k.data.toList f.data.toList=true:=by
  have:=h;unfold Qau at this;rw[eH,eH]at this;exact this
 apply ByteArray.ext;apply dF.1;unfold Lib.trimPrefix;rw[ez I,ByteArray.data_extract,Array.toList_extract];show(k.data.toList.drop f.data.toList.length)=_;rw[List.extract_eq_take_drop];have h1:f.data.toList.length=f.size:=aR;have h2:k.data.toList.length=k.size:=aR;rw[h1,aV];rw[aA,h2];exact ao _
variable{w:World}
theorem QqG{k f t:ByteArray}(hb:Qau f k=true)(a0:k.size+t.size<=4611686018427387904)(hL:Qi4 w) :
  Calls prog 198 #[.string k,.string f,.string t] w λe w'=>(∃s,e=.returned (.tuple #[.string s,.int .i64 (Qci (QbB f t k))])/\(Qci (QbB f t k)=0->s=QbB f t k))/\Nw w w':=by
 have Z:=λW=>Any.strings_CutPrefix Tryz.QjQ k f W
 rw[QtR hb]at Z;rw[show Lib.hasPrefix k.data.toList f.data.toList=true by have:=hb;unfold Qau at this;rw[eH,eH]at this;exact this]at Z;have HC:=hY Z;have I:(QbB f t k).size<=maxLen:=by
  have h1:(k.extract f.size k.size).size<=k.size:=by rw[cg];omega
  unfold QbB maxLen;rw[aO];omega
 obtain⟨q,hq⟩:∃q,QbB f t k=q:=⟨_,rfl⟩;rw[hq]at I ⊢;obtain⟨HQ,HS⟩:=Yb (show t++k.extract f.size k.size=q from hq) I;clear Z I hq;go_in;go_wp2_with fail;refine(HC.o _).mono ?_;rintro e w' ⟨rfl,rfl⟩;go_wp2_with fail;rw[HQ.o];have HK:=hY (Qc8 (w:=w') HS.o hL);clear hL hb;refine HK.o.mono ?_;rintro e w1 ⟨rfl,hn⟩;have HN:=hY hn;clear hn;by_cases N:Qci q=0
 ·have HZ:=hY N
  have g:(Qci q==0)=true:=by simp[N]
  clear N;go_wp2_with fail;go_ret2;exact⟨⟨q,by rw[HZ.o]<;>rfl,λ_=>rfl⟩,HN.o⟩
 have HZ:=hY N;have g:(Qci q==0)=false:=eA.2 N;clear N;go_wp2_with fail;go_ret2;exact⟨⟨_,rfl,λh=>absurd h HZ.o⟩,HN.o⟩
variable{H:Nat->Prop}{O:Nat}{d:OD}{M:List Ent}
theorem QvU(h:OvX H w O d M)(Z:(Qaa d.T).length<=1000000)(I:d.us.length<=1000000){p:ByteArray}(N:p.size<=maxLen) :
  Calls prog 197 #[.pointer (some ⟨O,0,none⟩),.string p] w λe w'=>∃s:Sl,e=.returned (.slice s.a (Qfh (Qau p) M).length s.c)/\Nw w w'/\Rd w' (In w.heap.size w'.heap.size) 1 s (Qfh (Qau p) M).length ((Qfh (Qau p) M).map .string):=
 (Qqd h.ov Z I N).mono λe w' ⟨s,ks,h1,h2,h3,h4,h5⟩=>by
   obtain rfl:ks=Qfh (Qau p) M:=QiP h4 (Qnn h.rel.ok.sorted) λk=>by rw[h5 k,QgL h.rel.ok.sorted,h.now k]
   exact⟨s,h1,h2,h3⟩
abbrev mvE(f t:ByteArray)(e:Ent):Ent:=(QbB f t e.1,e.2)
variable{f:ByteArray}{j:Nat}{e:Ent}
theorem Qiv(h:(QjI M f)[j]? = some e):e∈M/\Qau f e.1=true:=by
 have:=aq h;unfold QjI at this;exact cq.1 this
theorem QeT{k:ByteArray}(h:Qci k=0):k.size<=64:=by
 unfold Qci at h;split at h
 .cases h
 split at h
 .cases h
 omega
variable{n:Nat}{s2 s7 sl so:Sl}
theorem QuQ{wr W w9:World}{v:Val}(h:Nw wr W)(I:Wr W w9 s2.row)(hs:s7.a=s2.a\/s7.a=some ⟨W,0,none⟩/\Wr W w9 none)(hv:RV wr (QlN n wr s2) v sl so):RV w9 (QlN n w9 s7) v sl so:=by
 have h1:RV W (QlN n wr s2) v sl so:=hv.agree (fY h λb N=>N.2.1);have h2:RV w9 (QlN n wr s2) v sl so:=h1.agree (I.agree (λi hi=>ab hi.2.1 h.size) λk Z hF=>hF.2.2 Z);refine h2.mono λi hi=>⟨hi.1,ab hi.2.1 (ak h.size I.grown.size),λe=>?_⟩
 rcases hs with hs |⟨hs,-⟩
 .exact hi.2.2 (by unfold Sl.row at e ⊢;rwa[hs]at e)
 unfold Sl.row at e;rw[hs]at e;have e:some W.heap.size=some i:=e;injection e with e;have:=hi.2.1;have:=h.size;omega
theorem QrV{f t:ByteArray}(h:OvX H w O d M)(hH:∀b,H b->b<w.heap.size)(hn:d.us.length+2*M.length<=1000000)(hl:(Qaa d.T).length<=1000000)(hf:f.size<=maxLen)
  (ht:t.size<=100000000) (hL:Qb4 w) (hG:∀b,b<6->H b) :
  Calls prog 172 #[.pointer (some ⟨O,0,none⟩),.string f,.string t] w λe w'=>e=.returned (.int .i64 (QgM M f t).1)/\∃d',GoX H w O d (QgM M f t).2 (2*M.length) w' d':=by
 have c7:=QvU h hl oM hf;obtain⟨r,hr⟩:∃r,QgM M f t=r:=⟨_,rfl⟩;rw[hr];obtain⟨L,f5⟩:∃L,QjI M f=L:=⟨_,rfl⟩;have a4:Qfh (Qau f) M=L.map Prod.fst:=by rw[QjJ,f5]
 have l3:(Qfh (Qau f) M).length=L.length:=by rw[a4,ar]
 have n4:L.length<=M.length:=by rw[<-f5];exact bZ _ _
 rw[l3,a4]at c7;obtain⟨HH,l8,HN,j0,HT,j9,r8⟩:=Yh h hH hn hl ht hL hG;obtain⟨HR,b3,b4,HP⟩:=Ye hr f5 n4 c7;obtain⟨i0,hi,r6,n9,p2⟩:=eI Tryz.Qa8;clear h hH hn hl ht hL hr f5 n4 c7 a4 l3 hf hG;go_in;go_wp2_with fail;refine HP.o.mono ?_;rintro e w1 ⟨s,rfl,k0,j8⟩;obtain⟨a5,l7⟩:=Yb k0 j8;clear k0 j8;go_wp2_with fail;go_loopw[8,27] (λv8 o6 wr=>∃(j:Nat) (s2:Sl) (ys:List LE),o6=.int .i64 (j:Int)/\v8=.slice s2.a ys.length s2.c/\j<=L.length/\Yd (ys.length=j)/\Yd (ys.map LE.ent=(L.take j).map (mvE f t))/\Yd (Nw w1 wr)/\
  Yd (wr.ownsRow w1.heap.size 78 7 (.slice s2.a ys.length s2.c) ys.length (QaD ys))/\Yd (∀y∈ys,RV wr (QlN w1.heap.size wr s2) y.v y.sl y.so)/\Yd (QcF M f t (L.take j)=0)) (λ_ v _=>L.length -(intOf v).toNat)
 case atStart=>exact⟨0,Sl.none,[],rfl,rfl,aD _,hY rfl,hY rfl,hY (fW _ _),hY (eK _ _ _ _),hY (λy hy=>by cases hy),hY rfl⟩
 obtain⟨j,s2,ys,rfl,rfl,hj,c3,i2,HX,b8,k8,d8⟩:=hrel;by_cases k6:j<L.length
 ·have l1:(j:Int)<(L.length:Int):=oM
  have t1:decide ((j:Int)<(L.length:Int))=true:=ey l1;have l0:(0:Int)<=(j:Int):=oM
  obtain⟨x,hx⟩:∃x,L[j]? = some x:=⟨_,ac k6⟩;obtain⟨b0,o0,a0,-,a7⟩:=l7.o;obtain⟨b6,i4,d5⟩:=a0.eq oM;have b7:=a0.fits oM;have cK:wr.cell? ⟨b0,o0+j,none⟩=some (.string x.1):=by
   rw[HX.o.cell b7.2 (λe=>e)];exact a7 j _ (by rw[au,au,hx];rfl)
  have hg:=Qiv (M:=M) (f:=f) (j:=j) (e:=x) (by rw[b3.o];exact hx);have c6:=HH.o.rel.ok.ok x hg.1;have a4:=QeT c6.1;have d6:=QqG (w:=wr) (t:=t) hg.2 (by have:=HT.o;omega) (j9.o.nw (a5.o.trans HX.o)).lib;obtain⟨p8,p7,o5,r3,r2,q4⟩:=Yg d6 (show Qaq M x.1=some x.2 from Qis HH.o.rel.ok.sorted hg.1) (QrU d8.o hx) (λh1 h2=>QhD d8.o hx h1 h2) hx a4;rw[b6];clear a7 a0 b7 hg c6 a4 d6 hx;go_wp2_with fail;refine p8.o.mono ?_;rintro e w2 ⟨⟨q',rfl,j1⟩,f6⟩;obtain⟨j5,r7⟩:=Yb ((a5.o.trans HX.o).trans f6) f6;have a2:=o5.o;by_cases hm:Qci (QbB f t x.1)=0
  rotate_left
  ·have g:(Qci (QbB f t x.1) == 0)=false:=eA.2 hm
   rw[ez hm]at a2;have N:r=(8,M):=by rw[<-HR.o];unfold QgM;rw[b3.o,a2];exact ez oN
   have Z:=hY N;clear hm a2 N j1 f6 cK;go_wp2_with fail;go_ret;exact⟨by rw[Z.o]<;>rfl,d,by rw[Z.o];exact HH.o.stay j5.o⟩
  obtain rfl:=j1 hm;rw[ev (λh=>h hm)]at a2;have a3:=Quh (HH.o.nw j5.o) j0.o (k:=QbB f t x.1) (ak (QeT hm) oN);obtain⟨f2,HM,j4⟩:=Yc a3 hm a2;rw[hm];clear hm a2 j1 f6 a3 cK;go_wp2_with fail;refine f2.o.mono ?_;rintro e w3 ⟨s3,s4,rfl,k4,-⟩;obtain⟨y3,k3⟩:∃y,(Qaq M (QbB f t x.1)).getD zeroV=y:=⟨_,rfl⟩;obtain⟨g3,c0⟩:∃g,(Qaq M (QbB f t x.1)).isSome=g:=⟨_,rfl⟩;obtain⟨q,hq⟩:∃q,QbB f t x.1=q:=⟨_,rfl⟩;rw[k3,c0,hq];obtain⟨k5,HQ,j7⟩:=Yc c0 hq (r7.o.trans (fT k4));clear k4 k3 c0 hq f2;go_upto_region 10 with fail;have i9:=(fQ w3).alloc #[.int .i64 y3.kind,.bool y3.b,.int .i64 y3.i,.string y3.t,.slice s3.a y3.l.length s3.c,.slice s4.a y3.ok.length s4.c] 34;generalize p0:World.alloc _ _=w4 at i9 ⊢;have k9:=hY (j7.o.trans (fT i9));clear p0 i9;go_cut [52] (λv w'=>v=.bool (g3 && !Qau f q)/\w'=w4)
  case first=>
   cases g3 with
   | false=>
     go_wp2_with fail;go_meet;exact⟨rfl,rfl⟩
   | true=>
     go_wp2_with fail;refine(Qhl _ q f).mono ?_;rintro e w5 ⟨rfl,rfl⟩;go_wp2_with fail;go_meet;exact⟨rfl,rfl⟩
  obtain⟨hv,hw⟩:=hcut;subst hv;have e7:=hY (show Nw wr wc by rw[hw];exact k9.o);clear hw k9 j7;rcases bA (g3 && !Qau f q)with I|I
  ·have a2:=j4.o
   rw[k5.o,HQ.o]at a2;rw[ez I]at a2;have N:r=(13,M):=by rw[<-HR.o];unfold QgM;rw[b3.o,a2];exact ez oN
   have Z:=hY N;rw[I];clear I a2 N;go_wp2_with fail;go_ret;exact⟨by rw[Z.o]<;>rfl,d,by rw[Z.o];exact HH.o.stay (a5.o.trans (HX.o.trans e7.o))⟩
  have b9:=r3.o (by rw[HM.o]) (by rw[k5.o,HQ.o];exact I);have n8:=hY b9;have a3:=Quh (HH.o.nw (a5.o.trans (HX.o.trans e7.o))) j0.o (k:=x.1) (ak q4.o oN);rw[p7.o]at a3;have g9:=hY a3;rw[I];clear I b9 a3;go_wp2_with fail;refine g9.o.mono ?_;rintro e w6 ⟨s5,s6,rfl,l9,l5⟩;obtain⟨q5,q1⟩:=Yb (e7.o.trans (fT l9)) (show RV w6 (In wc.heap.size w6.heap.size) x.2 s5 s6 from l5.rv);clear l9 l5;rw[show(some x.2:Option Val).getD zeroV=x.2 from rfl];go_upto_region 13 with fail;have c2:=(fQ w6).alloc #[.int .i64 x.2.kind,.bool x.2.b,.int .i64 x.2.i,.string x.2.t,.slice s5.a x.2.l.length s5.c,.slice s6.a x.2.ok.length s6.c] 34;have a8:=fU w6 34 #[.int .i64 x.2.kind,.bool x.2.b,.int .i64 x.2.i,.string x.2.t,.slice s5.a x.2.l.length s5.c,.slice s6.a x.2.ok.length s6.c];generalize q6:World.alloc _ _=w7 at c2 a8 ⊢;obtain⟨r4,r1⟩:=Yb (q5.o.trans (fT c2)) (q1.o.agree (c2.agree λb (I:In wc.heap.size w6.heap.size b)=>I.2));have f9:=ak e7.o.size (ao wc.heap.size);obtain⟨d4,f4⟩:=Yb f9 c2.size;have e0:w7.cell? ⟨w6.heap.size,0,none⟩=some (.int .i64 x.2.kind):=a8.cell 0;have e1:w7.cell? ⟨w6.heap.size,1,none⟩=some (.bool x.2.b):=a8.cell 1;have e2:w7.cell? ⟨w6.heap.size,2,none⟩=some (.int .i64 x.2.i):=a8.cell 2;have e3:w7.cell? ⟨w6.heap.size,3,none⟩=some (.string x.2.t):=a8.cell 3;have e4:w7.cell? ⟨w6.heap.size,4,none⟩=some (.slice s5.a x.2.l.length s5.c):=a8.cell 4;have e5:w7.cell? ⟨w6.heap.size,5,none⟩=some (.slice s6.a x.2.ok.length s6.c):=a8.cell 5;have i5:=(fQ w7).alloc (⟨q,x.2,s5,s6⟩:LE).cells.toArray 78;obtain⟨p5,d7,o9⟩:=Yc (fU w7 78 (⟨q,x.2,s5,s6⟩:LE).cells.toArray) (r4.o.trans (fT i5)) i5;have c4:Nw wr (w7.alloc (.cells (⟨q,x.2,s5,s6⟩:LE).cells.toArray 78)):=d7.o;have k1:=hY (Qab (F:=Lt wr.heap.size) b8.o (fY c4 λb I=>I) λb I=>(Qad b8.o I).2);have k7:ys.length+1<=maxLen:=by have:=c3.o;have:=b4.o;have:=HN.o;unfold maxLen;omega
  have l2:(ys.length+1)*104<=140737488355328:=by have:=c3.o;have:=b4.o;have:=HN.o;omega
  have c1:w1.heap.size<=(w7.alloc (.cells (⟨q,x.2,s5,s6⟩:LE).cells.toArray 78)).heap.size:=(HX.o.trans d7.o).size;obtain⟨o7,p4,q3,s8⟩:=Ye k7 l2 c1 c4;clear q6 c2 a8 i5 c4 k7 l2 c1 f9;go_wp2_with(at_builtin;refine Qak _ rfl (.tmp 59) (.tmp 63) 41 rfl w1.heap.size 78 i0 _ 7 104 underlying41 hi r6 n9 p2 rfl oN s2 ys.length (QaD ys) rfl k1.o (λb=>b=w7.heap.size) ⟨some ⟨w7.heap.size,0,none⟩,1⟩ 1 (⟨q,x.2,s5,s6⟩:LE).cells rfl (ge p5.o oN rfl) (LE.one _) o7.o p4.o q3.o ?_;intro s7 w9 d0 g6 n2;have p6:=hY d0;have e8:=hY g6;have j6:=hY n2;clear d0 g6 n2);have r5:L.length<=1000000:=by have:=b4.o;have:=HN.o;omega
  have f0:wrap64 ((j:Int)+1)=((j+1:Nat):Int):=by unfold wrap64;omega
  go_roundw
  case measure=>rw[f0];simp[intOf];omega
  have r0:=λb (I:s2.row=some b)=>Qad k1.o I
  have o2:Sb (λb=>s2.row=some b) (w7.alloc (.cells (⟨q,x.2,s5,s6⟩:LE).cells.toArray 78)) w9:=by
   have hg:=e8.o.grown;exact⟨hg.os,hg.tape,hg.output,hg.size,λi hi hn=>hg.block i hi λe=>hn e.symm⟩
  refine⟨j+1,s7,ys++[⟨q,x.2,s5,s6⟩],by rw[f0],by rw[aj];rfl,k6,hY (by rw[aj,c3.o];rfl),hY ?_,hY ?_,hY ?_,hY ?_,n8⟩
  ·rw [aH,i2.o,aT,r2.o,aH]
   show _++[(q,x.2)]=_++[(QbB f t x.1,x.2)];rw[HQ.o]
  .exact (HX.o.trans d7.o).comp o2 λi hi e=>by have:=(r0 i e).1;omega
  ·rw [aj,Qcp,show QaD [(⟨q,x.2,s5,s6⟩:LE)]=(⟨q,x.2,s5,s6⟩:LE).cells by simp [QaD]]
   exact p6.o
  intro y hy;rcases aS.1 hy with hy|hy
  .exact QuQ d7.o e8.o j6.o (k8.o y hy)
  obtain rfl:y=⟨q,x.2,s5,s6⟩:=by simpa using hy
  have t3:(w7.alloc (.cells (⟨q,x.2,s5,s6⟩:LE).cells.toArray 78)).heap.size=w7.heap.size+1:=eB _ _;have l4:=λb (I:s2.row=some b)=>(Qad b8.o I).2
  have s9:w7.heap.size+1<=w9.heap.size:=by
   have h:=e8.o.grown.size;rw[eB]at h;exact h
  have h1:RV w9 (In wc.heap.size w6.heap.size) x.2 s5 s6:=(r1.o.agree (o9.o.agree λb (I:In wc.heap.size w6.heap.size b)=>ab I.2 f4.o)).agree (e8.o.agree (λb I=>by rw[eB];have:=I.2;have:=f4.o;omega) λk hk hF=>by have:=l4 k hk;have:=hF.1;have:=d4.o;omega);refine h1.mono λb I=>⟨by have:=I.1;have:=d4.o;have:=HX.o.size;omega,by have:=I.2;have:=f4.o;omega,λe=>?_⟩
  rcases j6.o with hs |⟨hs,-⟩
  ·have e:s2.row=some b:=by unfold Sl.row at e ⊢;rwa [hs] at e
   have:=l4 b e;have:=I.1;have:=d4.o;omega
  unfold Sl.row at e;rw[hs]at e;have e:some (w7.alloc (.cells (⟨q,x.2,s5,s6⟩:LE).cells.toArray 78)).heap.size=some b:=e;injection e with e;have:=I.2;have:=f4.o;omega
 obtain rfl:j=L.length:=oM
 have l1:decide ((L.length:Int)<(L.length:Int))=false:=ew oM;have b9:QcF M f t L=0:=by have:=d8.o;rwa[aU]at this
 have n6:ys.map LE.ent=L.map (mvE f t):=by have:=i2.o;rwa[aU]at this
 have N:r=(0,QdC (QeE M (L.map Prod.fst)) (L.map (mvE f t))):=by
  rw[<-HR.o];unfold QgM;rw[b3.o,ev (by rw[b9];exactλh=>h rfl),<-Qm8 HH.o.rel.ok.sorted f,QjJ,b3.o]
 obtain⟨Z,o3,o8,j2,p3,f1⟩:=Yg N n6 b9 (λ(b:Nat) (I:OvB O d b)=>HH.o.ov.Qbe I) (HH.o.nw (a5.o.trans HX.o)) (a5.o.trans HX.o);clear b9 n6 N d8 i2
 rename World=>W0
 have r5:L.length<=500000:=by have:=b4.o;have:=HN.o;omega
 go_wp2_with fail;go_loopw[68] (λq8 w2=>∃(i:Nat) (d':OD),q8=.int .i64 (i:Int)/\i<=L.length/\Yd (GoX H W0 O d (QeE M ((L.take i).map Prod.fst)) i w2 d')) (λv _=>L.length -(intOf v).toNat)
 case atStart=>exact⟨0,d,rfl,aD _,hY (p3.o.stay (fW _ _))⟩
 obtain⟨i,d1,rfl,q9,a6⟩:=hrel;by_cases g5:i<L.length
 ·have m1:(i:Int)<(L.length:Int):=oM
  have q7:decide ((i:Int)<(L.length:Int))=true:=ey m1;have m0:(0:Int)<=(i:Int):=oM
  obtain⟨x,hx⟩:∃x,L[i]? = some x:=⟨_,ac g5⟩;obtain⟨b0,o0,a0,-,a7⟩:=l7.o;obtain⟨b6,i4,d5⟩:=a0.eq oM;have b7:=a0.fits oM;have cK:wr.cell? ⟨b0,o0+i,none⟩=some (.string x.1):=by
   rw[a6.o.go.sb.cell (ab b7.2 HX.o.size) (λe=>by have:=j2.o b0 e;have:=b7.1;omega),HX.o.cell b7.2 (λe=>e)];exact a7 i _ (by rw[au,au,hx];rfl)
  have hg:=Qiv (M:=M) (f:=f) (j:=i) (e:=x) (by rw[b3.o];exact hx);have a4:=QeT (HH.o.rel.ok.ok x hg.1).1;have f8:=Qvk a6.o.at_ (λb I=>ab (l8.o b I) (ak f1.o.size a6.o.go.sb.size)) (by have:=a6.o.few;have:=HN.o;have:=b4.o;omega) (by rw[a6.o.T];exact j0.o) (k:=x.1) (ak a4 oN);have l6:=hY f8;have r9:=hY (show QbM (QeE M ((L.take i).map Prod.fst)) x.1=QeE M ((L.take (i+1)).map Prod.fst)by
   rw[aT,hx,aH];unfold QeE;rw[dW];rfl)
  rw[b6];clear a7 a0 b7 hg a4 f8 hx;go_wp2_with fail;refine l6.o.mono ?_;rintro e w5 ⟨rfl,d2,g8⟩;rw[r9.o]at g8;have g9:=hY (a6.o.trans g8);clear g8;have f0:wrap64 ((i:Int)+1)=((i+1:Nat):Int):=by unfold wrap64;omega
  go_wp2_with fail;go_roundw
  case measure=>simp[intOf];omega
  exact⟨i+1,d2,by go_num,g5,g9⟩
 obtain rfl:i=L.length:=oM
 have i3:=a6.o;rw[aU]at i3;have f2:=hY i3;have m1:decide ((L.length:Int)<(L.length:Int))=false:=ew oM;have c9:=hY (show ys.length=L.length from c3.o);have t0:ys.length<=500000:=by have:=c3.o;omega
 rename World=>W1
 clear i3 a6 l1 m1 q9 hj;have l1:decide ((L.length:Int)<(L.length:Int))=false:=ew oM;go_wp2_with fail;go_loopw[78] (λq0 w3=>∃(i:Nat) (d':OD),q0=.int .i64 (i:Int)/\i<=ys.length/\Yd (GoX H W0 O d (QdC (QeE M (L.map Prod.fst)) ((L.take i).map (mvE f t))) (L.length+i) w3 d')) (λv _=>ys.length -(intOf v).toNat)
 case atStart=>exact⟨0,d1,rfl,aD _,f2⟩
 obtain⟨i,d2,rfl,t2,a1⟩:=hrel;by_cases g0:i<ys.length
 ·have m1:(i:Int)<(ys.length:Int):=oM
  have q7:decide ((i:Int)<(ys.length:Int))=true:=ey m1;have m0:(0:Int)<=(i:Int):=oM
  obtain⟨y,hy⟩:∃y,ys[i]? = some y:=⟨_,ac g0⟩;obtain⟨x,hx⟩:∃x,L[i]? = some x:=⟨_,ac (by have:=c9.o;omega)⟩;have f3:y.ent=mvE f t x:=by
   have:=congrArg (λl=>l[i]?) o3.o;simp only[List.getElem?_map,hy,hx,Option.map_some]at this;injection this
  have hk:y.k=QbB f t x.1:=congrArg Prod.fst f3;have hv:y.v=x.2:=congrArg Prod.snd f3;have hg:=Qiv (M:=M) (f:=f) (j:=i) (e:=x) (by rw[b3.o];exact hx);have c6:=HH.o.rel.ok.ok x hg.1;have j3:Qci y.k=0:=by rw[hk];exact QhC o8.o (aq hx)
  have i8:okV y.v:=by rw[hv];exact c6.2
  have g4:∀M',setMu M' y.k y.v=(0,QbY M' y.k y.v):=λM'=>by
   unfold setMu;rw[ev (λh=>h j3),ev (λh=>h i8.2)]
  obtain⟨b1,o1,a0,-,a7⟩:=fZ b8.o;obtain⟨b6,i4,d5⟩:=a0.eq oM;have i1:=a0.fits oM;have b6:s2.a=some ⟨b1,o1,none⟩:=b6;have a9:∀c u,c<7->y.cells[c]? = some u->wr.cell? ⟨b1,o1+i*7+c,none⟩=some u:=λc u hc hu=>by
   rw[a1.o.go.sb.cell i1.2 (λe=>by have:=j2.o b1 e;have:=i1.1;have:=a5.o.size;omega),bG];exact a7 _ _ (by rw[Qc4 hy c hc];exact hu)
  have e0:wr.cell? ⟨b1,o1+i*7,none⟩=some (.string y.k):=a9 0 _ oN rfl;have e1:wr.cell? ⟨b1,o1+i*7+1,none⟩=some (.int .i64 y.v.kind):=a9 1 _ oN rfl;have e2:wr.cell? ⟨b1,o1+i*7+2,none⟩=some (.bool y.v.b):=a9 2 _ oN rfl;have e3:wr.cell? ⟨b1,o1+i*7+3,none⟩=some (.int .i64 y.v.i):=a9 3 _ oN rfl;have e4:wr.cell? ⟨b1,o1+i*7+4,none⟩=some (.string y.v.t):=a9 4 _ oN rfl;have e5:wr.cell? ⟨b1,o1+i*7+5,none⟩=some (.slice y.sl.a y.v.l.length y.sl.c):=a9 5 _ oN rfl;have e6:wr.cell? ⟨b1,o1+i*7+6,none⟩=some (.slice y.so.a y.v.ok.length y.so.c):=a9 6 _ oN rfl;have b5:=(fQ wr).alloc y.cells.toArray 78;have k2:=k8.o y (aq hy);have g7:RV wr (QlN w1.heap.size W0 s2) y.v y.sl y.so:=k2.agree λb (I:QlN w1.heap.size W0 s2 b)=>a1.o.go.sb.block b I.2.1 λe=>by have:=j2.o b e;have:=I.1;have:=a5.o.size;omega
  have f7:RV (wr.alloc (.cells y.cells.toArray 78)) (Lt (wr.alloc (.cells y.cells.toArray 78)).heap.size) y.v y.sl y.so:=(g7.agree (b5.agree λb (I:QlN w1.heap.size W0 s2 b)=>ab I.2.1 a1.o.go.sb.size)).mono λb I=>ab I.2.1 (ak a1.o.go.sb.size b5.size)
  have c8:=QqS (k:=y.k) (a1.o.at_.nw (fT b5)) (λb I=>ab (l8.o b I) (ak f1.o.size (ak a1.o.go.sb.size b5.size))) (by have:=a1.o.few;have:=HN.o;have:=b4.o;have:=c9.o;omega) (ak (QeT j3) oN) f7 (ak i8.cnt oN) (((j9.o.nw f1.o).sb a1.o.go.sb (λb I e=>HH.o.ov.out b e (r8.o b I))).nw (fT b5));rw[g4]at c8;obtain⟨n7,p9⟩:=Yb c8 (fT b5);have o4:=hY (show QbY (QdC (QeE M (L.map Prod.fst)) ((L.take i).map (mvE f t))) y.k y.v=QdC (QeE M (L.map Prod.fst)) ((L.take (i+1)).map (mvE f t))by
   rw[aT,hx,aH];show _=QdC _ (_++[mvE f t x]);rw[Qls,<-f3];rfl)
  rw[b6];clear hk hv hg c6 j3 i8 g4 a7 a0 i1 a9 b5 k2 g7 f7 c8 hy hx f3 i4 d5;go_wp2_with fail;refine n7.o.mono ?_;rintro e w5 ⟨rfl,d3,c0⟩;have i6:=a1.o.trans (c0.since p9.o);rw[o4.o]at i6;have p1:=hY i6;clear c0 i6;have f0:wrap64 ((i:Int)+1)=((i+1:Nat):Int):=by unfold wrap64;omega
  go_wp2_with fail;go_roundw
  case measure=>simp[intOf];omega
  exact⟨i+1,d3,by go_num,g0,p1⟩
 obtain rfl:i=ys.length:=oM
 have m1:decide ((ys.length:Int)<(ys.length:Int))=false:=ew oM;have i7:=a1.o;rw[c9.o,aU]at i7;have q2:=hY ((i7.since f1.o).more (m:=2*M.length) (by have:=b4.o;omega));clear i7 a1;go_wp2_with fail;go_ret;exact⟨by rw[Z.o]<;>rfl,d2,by rw[Z.o];exact q2.o⟩
def HB(H:Nat->Prop)(a b:Nat):Nat->Prop:=λi=>H i\/(a<=i/\i<b)
variable{w0:World}
theorem OvX.boxes(h:OvX H w O d M)(k:Nw w w0):OvX (HB H w.heap.size w0.heap.size) w0 O d M:=
 OvX.nw ⟨h.ov.more λb N e=>e.elim id λI=>by have:=I.1;omega,h.rel⟩ k
variable{G:Nat->Prop}{w':World}
theorem GoX.less{d d':OD}(h:GoX G w O d M n w' d')(I:∀b,H b->G b):GoX H w O d M n w' d':=
 ⟨⟨h.go.at_.more λb _ e=>I b e,h.go.sb,h.go.new⟩,h.T,h.rel,h.us,h.hs,h.few⟩
variable{B:Nat}{u:Value}
theorem heap_set{v:Value}(h:w'.heap[B]? = w.heap[B]?){t:TypeId}(I:Blk w B t #[u]):(w'.setCell ⟨B,0,none⟩ v).heap[B]? =(w.setCell ⟨B,0,none⟩ v).heap[B]?:=by
 have h1:Blk (w.setCell ⟨B,0,none⟩ v) B t #[v]:=I.QbH 0 v;have h2:Blk (w'.setCell ⟨B,0,none⟩ v) B t #[v]:=(show Blk w' B t #[u]from h.trans I).QbH 0 v;exact Eq.trans h2 (Eq.symm h1)
theorem GoX.code{d d':OD}(h:GoX H w O d M n w' d'){t:TypeId}{u v:Value}(hB:H B)(Z:Blk w B t #[u])(ho:¬OvB O d B) :
  GoX H (w.setCell ⟨B,0,none⟩ v) O d M n (w'.setCell ⟨B,0,none⟩ v) d':=by
 have s1:Sb (λi=>i=B) w (w.setCell ⟨B,0,none⟩ v):=(fW (λi=>i=B) w).set (p:=⟨B,0,none⟩) (.inr rfl) v;have s2:Sb (λi=>i=B) w' (w'.setCell ⟨B,0,none⟩ v):=(fW (λi=>i=B) w').set (p:=⟨B,0,none⟩) (.inr rfl) v;have I:(w.setCell ⟨B,0,none⟩ v).heap.size=w.heap.size:=sM
 have z2:(w'.setCell ⟨B,0,none⟩ v).heap.size=w'.heap.size:=sM
 have hs:=h.go.sb;have hl:=Z.lt;refine⟨⟨h.go.at_.sb s2 λb e=>by rw[e];exact hB,⟨?_,?_,?_,by rw[I,z2];exact hs.size,λi hi hn=>?_⟩,λb N=>(h.go.new b N).imp id λe=>by rw[I];exact e⟩,h.T,h.rel,h.us,h.hs,h.few⟩
 .rw [s2.os,hs.os,s1.os]
 .rw [s2.tape,hs.tape,s1.tape]
 .rw [s2.output,hs.output,s1.output]
 rw[I]at hi;by_cases e:i=B
 ·subst e
  exact heap_set (hs.block i hi hn) Z
 rw[s2.block i (ab hi hs.size) e,hs.block i hi hn,s1.block i hi e]
def noB(c:Int)(n:Nat):Nat:=if c=0 then n else 0
theorem QsF(c:Int)(n:Nat):noB c n<=n:=by unfold noB;split<;>omega
variable{w1:World}
theorem Qs6{d d1:OD}{M M1:List Ent}{n N B2 B5:Nat}{code:Int}(u:FrameMode)(h:OvX H w0 O d M)(g:GoX H w0 O d M1 n w1 d1)(hn:d1.us.length<=1000000)
  (h4:Blk w1 N 71 #[.int .i64 code]) (h2:Blk w1 B2 151 #[.pointer (some ⟨O,0,none⟩)]) (h5:Blk w1 B5 3 #[.int .i64 (d.us.length:Int)]) (o4:¬OvB O d N) (l4:N<w0.heap.size) :
  CallsD prog 165 #[.pointer (some ⟨N,0,none⟩),.pointer (some ⟨B2,0,none⟩),.pointer (some ⟨B5,0,none⟩)] u w1 λe u' w'=>u'=u/\(e=.returned (.tuple #[])/\Blk w' N 71 #[.int .i64 code]/\∃d2,GoX H w0 O d (if code=0 then M1 else M) (noB code n) w' d2):=by
 have c4:w1.cell? ⟨N,0,none⟩=some (.int .i64 code):=h4.cell 0;have c2:w1.cell? ⟨B2,0,none⟩=some (.pointer (some ⟨O,0,none⟩)):=h2.cell 0;have c5:w1.cell? ⟨B5,0,none⟩=some (.int .i64 (d.us.length:Int)):=h5.cell 0;have I:=Qvj h g hn;obtain⟨HB,HG,H4,Z,a0⟩:=Yf I g h4 o4 l4;clear I h g hn h4 h2 h5 o4 l4;by_cases h0:code=0
 ·subst h0
  go_enter_d func165,ntmps165;go_wp2_with fail;go_end0;exact⟨rfl,H4.o,d1,HG.o⟩
 have g0:(code==0)=false:=eA.2 h0;have H0:=hY h0;clear h0;go_enter_d func165,ntmps165;go_wp2_with fail;refine HB.o.mono ?_;rintro e w2 ⟨rfl,d2,hg,-⟩;have a1:=hY hg;clear hg;go_wp2_with fail;go_end0;exact⟨rfl,(a1.o.go.sb.block N a0.o Z.o).trans ((HG.o.go.sb.block N a0.o Z.o).symm.trans H4.o),d2,a1.o.more (aD _)⟩
variable{z:Value}
theorem Qco{w N w3:World}{d d1:OD}{M M1:List Ent}{n B2 I B5:Nat}{code:Int}(hw:Nw w N)(h:OvX (HB H w.heap.size N.heap.size) N O d M)(a0:∀b,OvB O d b->b<w.heap.size)
  (g:GoX (HB H w.heap.size N.heap.size) N O d M1 n w3 d1) (hn:d1.us.length<=1000000) (h4:Blk N I 71 #[z]) (h2:Blk N B2 151 #[.pointer (some ⟨O,0,none⟩)]) (h5:Blk N B5 3 #[.int .i64 (d.us.length:Int)])
  (l4:w.heap.size<=I) (l2:w.heap.size<=B2) (l5:w.heap.size<=B5) (n2:B2≠I) (n5:B5≠I) :
  CallsD prog 165 #[.pointer (some ⟨I,0,none⟩),.pointer (some ⟨B2,0,none⟩),.pointer (some ⟨B5,0,none⟩)] .returning (w3.setCell ⟨I,0,none⟩ (.int .i64 code)) λe u' w'=>
   u'=.returning/\(e=.returned (.tuple #[])/\Blk w' I 71 #[.int .i64 code]/\∃d2,GoX H w O d (if code=0 then M1 else M) (noB code n) w' d2):=by
 have Z:∀{b},w.heap.size<=b->¬OvB O d b:=λhb e=>by have:=a0 _ e;omega
 have s0:Sb (λi=>i=I) N (N.setCell ⟨I,0,none⟩ (.int .i64 code)):=(fW (λi=>i=I) N).set (p:=⟨I,0,none⟩) (.inr rfl) _;have s3:Sb (λi=>i=I) w3 (w3.setCell ⟨I,0,none⟩ (.int .i64 code)):=(fW (λi=>i=I) w3).set (p:=⟨I,0,none⟩) (.inr rfl) _;have hB:HB H w.heap.size N.heap.size I:=.inr ⟨l4,h4.lt⟩;have a3:=g.code (v:=.int .i64 code) hB h4 (Z l4);have hx:OvX (HB H w.heap.size N.heap.size) (N.setCell ⟨I,0,none⟩ (.int .i64 code)) O d M:=⟨h.ov.sb s0 λb e=>by rw[e];exact hB,h.rel⟩;have z0:(N.setCell ⟨I,0,none⟩ (.int .i64 code)).heap.size=N.heap.size:=sM
 have a1:Nw w (N.setCell ⟨I,0,none⟩ (.int .i64 code)):=hw.comp s0 λi hi e=>oM
 refine(Qs6 .returning hx a3 hn ((g.go.sb.blk h4 (Z l4)).QbH 0 (.int .i64 code)) (s3.blk (g.go.sb.blk h2 (Z l2)) n2) (s3.blk (g.go.sb.blk h5 (Z l5)) n5) (Z l4) (by rw[z0];exact h4.lt)).mono ?_;rintro e u' w' ⟨h1,a2,h3,d2,hg⟩;exact⟨h1,a2,h3,d2,(hg.less λb e=>.inl e).since a1⟩
theorem Qf6{k:ByteArray}{v:Val}(h:(setMu M k v).1≠0):(setMu M k v).2=M:=by
 unfold setMu at h ⊢;split at h
 .rw [ez (by assumption)]
 rename_i h1;rw[ev h1];split at h
 .rw [ez (by assumption)]
 exact absurd rfl h
theorem Qoz{k:ByteArray}{n b:Int}(h:(Qoy M k n b).1≠0):(Qoy M k n b).2=M:=by
 unfold Qoy at h ⊢;split at h
 .rw [ez (by assumption)]
 rename_i h1;rw[ev h1];exact Qf6 h
theorem Qqn{k:ByteArray}{l:List Val}{x:Val}(h:(Qoo M k l x).1≠0):(Qoo M k l x).2=M:=by
 unfold Qoo at h ⊢;split at h
 .rw [ez (by assumption)]
 rename_i h1;rw[ev h1];exact Qf6 h
theorem Qcb{m:Mu}:(stepM m M).1≠0->(stepM m M).2=M:=by
 obtain⟨I,k,tk,i,a1,a2,a0,v,l⟩:=m;rw[stepM];by_cases Z:I=1
 .rw [ez Z];exact Qf6
 rw[ev Z];by_cases N:I=2
 ·rw [ez N];split
  .exact λh=>absurd rfl h
  exactλ_=>rfl
 rw[ev N];by_cases k3:I=3
 ·rw [ez k3];unfold Qeb;split
  ·split
   .exact λ_=>rfl
   exact Qoz
  exact Qoz
 rw[ev k3];by_cases k4:I=4
 ·rw [ez k4];split
  ·split
   .exact Qf6
   exactλh=>absurd rfl h
  exactλ_=>rfl
 rw[ev k4];by_cases k5:I=5
 ·rw [ez k5];unfold Qq1;split
  ·split
   .exact λ_=>rfl
   exact Qqn
  exact Qqn
 rw[ev k5];by_cases k6:I=6
 ·rw [ez k6];unfold QgM;split
  .exact λ_=>rfl
  exactλh=>absurd rfl h
 rw[ev k6];by_cases k7:I=7
 ·rw [ez k7];split
  ·split
   .exact λ_=>rfl
   rename_i h1;exactλh=>absurd h h1
  exactλ_=>rfl
 rw[ev k7]
 exactλ_=>rfl
def Qb8(m:Mu)(M:List Ent):Nat:=Qa0 m*(2*(M.length+Qa0 m)+1)
theorem Qdu(m:Mu)(M:List Ent):1+2*M.length<=Qb8 m M:=by
 have h:1<=Qa0 m:=by rw[Qf7];omega
 unfold Qb8
 calc 1+2*M.length<=1*(2*(M.length+Qa0 m)+1):=oM
  _<=Qa0 m*(2*(M.length+Qa0 m)+1):=ce _ h
theorem QtP(m:Mu):m.tk.size<=QcC m:=by
 obtain⟨kd,k,tk,i,Z,I,N,v,l⟩:=m;rw[QcC];show tk.size<=_;omega
theorem Qjv{d d2:OD}{r:Int × List Ent}(h:r.1≠0->r.2=M)(I:GoX H w O d (if r.1=0 then r.2 else M) (noB r.1 n) w' d2):∃d',GoX H w O d r.2 (noB r.1 n) w' d':=by
 refine⟨d2,?_⟩;by_cases N:r.1=0
 .simp only[if_pos N]at I ⊢;exact I
 simp only[if_neg N]at I ⊢;rw[h N];exact I
variable{c:MuS}
theorem Qo0{m:Mu}(h:OvX H w O d M)(hH:∀b,H b->b<w.heap.size)(hG:∀b,b<6->H b)(hm:RMu w (λb=>b<w/\¬OvB O d b) m c)(hL:Qb4 w)
  (hd:d.us.length+Qb8 m M<=1000000) (hl:(Qaa d.T).length<=1000000) (ht:QcC m<=1000000) (hk:m.kd=1) :
  Calls prog 131 #[.pointer (some ⟨O,0,none⟩),Qaz m c] w λe w'=>e=.returned (.int .i64 (stepM m M).1)/\∃d',GoX H w O d (stepM m M).2 (noB (stepM m M).1 (Qb8 m M)) w' d':=by
 have e7:∀(fn:Fn) (first c3:Array Value) (w:World),(Instr.makeFunc fn first c3).run prog w=.ok (.func fn first c3) w:=λ_ _ _ _=>rfl
 have e1:(m.kd==1)=true:=by simp[hk]
 obtain⟨HD,f1,e3,b8,e4⟩:=Yf hd hl ht (Qdu m M) hk;clear hd hl ht hk;obtain⟨r,hr⟩:∃r,stepM m M=r:=⟨_,rfl⟩;rw[hr];obtain⟨e0,HR⟩:=Yb (show r.1≠0->r.2=M fromλh=>by rw[<-hr]at h ⊢;exact Qcb h) hr;clear hr;go_enter_defers func131,ntmps131;go_upto_region 1 with fail;generalize c7:World.alloc _ _=W0;obtain⟨a9,d3,a7,c8,a0⟩:=Qal w _ _ _ _ _ _ W0 c7;have c2:W0.cell? ⟨w,0,none⟩=some (.pointer (some ⟨O,0,none⟩)):=a7.cell 0;have a1:=QdB (h.ov.nw (fT a9));obtain⟨e2,c0,c6,b6,d0,b4,HH⟩:=Yh a1 a9 a7 c8 a0 d3 h;obtain⟨d7,f2,HM,HL⟩:=Ye hH hG hm hL;clear c7 a9 d3 a7 c8 a0 a1 h hH hG hm hL;go_wp2_with fail;refine e2.o.mono ?_;rintro e w1 ⟨rfl,I⟩;go_upto_region 2 with fail;have N:=(fQ w1).alloc #[.int .i64 (d.us.length:Int)] 3;have a6:=fU w1 3 #[.int .i64 (d.us.length:Int)];have b0:(w1.alloc (.cells #[.int .i64 (d.us.length:Int)] 3)).heap.size=w1.heap.size+1:=eB _ _;generalize d6:World.alloc _ _=W2 at N a6 b0 ⊢;obtain⟨Z,a4,b5,a5,d5,HZ⟩:=Yg ((c0.o.trans I).trans N) ((c6.o.ext I).ext N) ((b6.o.ext I).ext N) ((d0.o.ext I).ext N) a6 (show w.heap.size+3<=w1.heap.size/\W2.heap.size=w1.heap.size+1 from⟨by rw[<-b4.o];exact I.size,b0⟩);obtain⟨a2,b9⟩:=Yb (gd b5.o) (HH.o.boxes (fT Z.o));clear d6 I N a6 b0 c2 c0 c6 b6 d0 b4;have k0:=a2.o.kind;go_upto_region 4 with fail;have c9:stepM m M=setMu M m.k m.v:=by
  obtain⟨kd,k,tk,i,f0,f3,e8,v,l⟩:=m;have hk:kd=1:=e4.o;subst hk;rw[stepM];rfl
 obtain⟨v0,v1,v2,v3,v4,v5⟩:=a2.o.v6;have b1:=a2.o.c1;have e6:=a2.o.c2;have b3:W2.cell? ⟨w+1,3,none⟩=some (.int .i64 m.i):=a2.o 3 _ rfl;have b2:W2.cell? ⟨w,0,none⟩=some (.pointer (some ⟨O,0,none⟩)):=a4.o.cell 0;have a8:RMu W2 (Lt W2) m c:=(HM.o.agree (Z.o.agree λb hb=>hb.1)).mono λb hb=>ab hb.1 Z.o.size
 have a3:=QqS (k:=m.k) b9.o (λb hb=>hb.elim (λe=>ab (d7.o b e) Z.o.size) λe=>e.2) (by have:=HD.o;have:=b8.o;omega) a8.parts.2.2.1 a8.parts.2.1 (ak (Qkz m).1 (by have:=e3.o;omega)) (HL.o.nw (fT Z.o));rw[<-c9,HR.o]at a3;clear c9;have d4:=hY a3;clear a3 a8;go_wp2_with fail;refine d4.o.mono ?_;rintro e w3 ⟨rfl,d1,hg⟩;have HG:=hY (hg.more (m:=Qb8 m M) (by have:=b8.o;omega));have a0:=hg.go.sb.blk a5.o (λe=>by have:=HH.o.ov.Qbe e;omega);have c4:w3.cell? ⟨w+1+1,0,none⟩=some (.int .i64 0):=a0.cell 0;have f4:=a0.frozen 0;clear hg a0 k0;go_wp2_with fail;refine e9 (f:=165) (args:=#[.pointer (some ⟨w+1+1,0,none⟩),.pointer (some ⟨w,0,none⟩),.pointer (some ⟨w1,0,none⟩)]) sM (by simp[go_sem]) ?_;refine(Qco (code:=r.1) (fT Z.o) b9.o (λb e=>HH.o.ov.Qbe e) HG.o (by have:=HG.o.few;have:=HD.o;omega) a5.o a4.o d5.o oM oM (by have:=HZ.o;omega) oM (by have:=HZ.o;omega)).mono ?_;rintro e u' d8 ⟨rfl,rfl,hb,d2,hg⟩;have q4:d8.cell? ⟨w+1+1,0,none⟩=some (.int .i64 r.1):=hb.cell 0;have b7:=Qjv (r:=r) e0.o hg;clear hb hg;simp[Leaves,settle,results,results131,go_sem,q4,b7]
theorem Qo1{m:Mu}(h:OvX H w O d M)(hH:∀b,H b->b<w.heap.size)(hG:∀b,b<6->H b)(hm:RMu w (λb=>b<w/\¬OvB O d b) m c)(hL:Qb4 w)
  (hd:d.us.length+Qb8 m M<=1000000) (hl:(Qaa d.T).length<=1000000) (ht:QcC m<=1000000) (hk:m.kd=2) :
  Calls prog 131 #[.pointer (some ⟨O,0,none⟩),Qaz m c] w λe w'=>e=.returned (.int .i64 (stepM m M).1)/\∃d',GoX H w O d (stepM m M).2 (noB (stepM m M).1 (Qb8 m M)) w' d':=by
 have e6:∀(fn:Fn) (first c7:Array Value) (w:World),(Instr.makeFunc fn first c7).run prog w=.ok (.func fn first c7) w:=λ_ _ _ _=>rfl
 have e1:(m.kd==1)=false:=by simp[hk]
 have e2:(m.kd==2)=true:=by simp[hk]
 obtain⟨HD,e3,f1,c3,e4⟩:=Yf hd hl ht (Qdu m M) hk;clear hd hl ht hk;obtain⟨r,hr⟩:∃r,stepM m M=r:=⟨_,rfl⟩;rw[hr];obtain⟨f0,HR⟩:=Yb (show r.1≠0->r.2=M fromλh=>by rw[<-hr]at h ⊢;exact Qcb h) hr;clear hr;go_enter_defers func131,ntmps131;go_upto_region 1 with fail;generalize c9:World.alloc _ _=W0;obtain⟨b3,d5,a9,d3,I⟩:=Qal w _ _ _ _ _ _ W0 c9;have c2:W0.cell? ⟨w,0,none⟩=some (.pointer (some ⟨O,0,none⟩)):=a9.cell 0;have a2:=QdB (h.ov.nw (fT b3));obtain⟨e0,c6,c8,c0,d4,b6,HH⟩:=Yh a2 b3 a9 d3 I d5 h;obtain⟨d8,f2,HM,HL⟩:=Ye hH hG hm hL;clear c9 b3 d5 a9 d3 I a2 h hH hG hm hL;go_wp2_with fail;refine e0.o.mono ?_;rintro e w1 ⟨rfl,Z⟩;go_upto_region 2 with fail;have a0:=(fQ w1).alloc #[.int .i64 (d.us.length:Int)] 3;have a8:=fU w1 3 #[.int .i64 (d.us.length:Int)];have b4:(w1.alloc (.cells #[.int .i64 (d.us.length:Int)] 3)).heap.size=w1.heap.size+1:=eB _ _;generalize d7:World.alloc _ _=W2 at a0 a8 b4 ⊢;obtain⟨a1,a5,b8,N,b7,HZ⟩:=Yg ((c6.o.trans Z).trans a0) ((c8.o.ext Z).ext a0) ((c0.o.ext Z).ext a0) ((d4.o.ext Z).ext a0) a8 (show w.heap.size+3<=w1.heap.size/\W2.heap.size=w1.heap.size+1 from⟨by rw[<-b6.o];exact Z.size,b4⟩);obtain⟨b9,b0⟩:=Yb (gd b8.o) (HH.o.boxes (fT a1.o));clear d7 Z a0 a8 b4 c2 c6 c8 c0 d4 b6;have k0:=b9.o.kind;go_upto_region 4 with fail;have b5:stepM m M=if(Qaq M m.k).isSome then(0,QbM M m.k)else(12,M):=by
  obtain⟨kd,k,tk,i,e8,f3,e7,v,l⟩:=m;have hk:kd=2:=e4.o;subst hk;rw[stepM];rfl
 have b1:=b9.o.c1;have b2:W2.cell? ⟨w,0,none⟩=some (.pointer (some ⟨O,0,none⟩)):=a5.o.cell 0;have d0:RMu W2 (Lt W2) m c:=(HM.o.agree (a1.o.agree λb hb=>hb.1)).mono λb hb=>ab hb.1 a1.o.size
 have a7:=Qvk (k:=m.k) b0.o (λb hb=>hb.elim (λe=>ab (d8.o b e) a1.o.size) λe=>e.2) (by have:=HD.o;have:=c3.o;omega) e3.o d0.parts.2.2.1;rw[HR.o]at b5;obtain⟨a6,d6⟩:=Yb b5 a7;clear a7 d0 b5;go_wp2_with fail;refine d6.o.mono ?_;rintro e w3 ⟨rfl,d1,hg⟩;have HG:=hY (hg.more (m:=Qb8 m M) (by have:=c3.o;omega));clear hg k0;rcases bA (Qaq M m.k).isSome with hi|hi
 ·have hs:=a6.o
  rw[ez hi]at hs;subst hs;rw[hi];clear hi a6;have I:=HG.o.go.sb.blk N.o (λe=>by have:=HH.o.ov.Qbe e;omega);have c4:w3.cell? ⟨w+1+1,0,none⟩=some (.int .i64 0):=I.cell 0;have f4:=I.frozen 0;clear I;go_wp2_with fail;refine e9 (f:=165) (args:=#[.pointer (some ⟨w+1+1,0,none⟩),.pointer (some ⟨w,0,none⟩),.pointer (some ⟨w1,0,none⟩)]) sM (by simp[go_sem]) ?_;refine(Qco (code:=0) (fT a1.o) b0.o (λb e=>HH.o.ov.Qbe e) HG.o (by have:=HG.o.few;have:=HD.o;omega) N.o a5.o b7.o oM oM (by have:=HZ.o;omega) oM (by have:=HZ.o;omega)).mono ?_;rintro e u' a4 ⟨rfl,rfl,hb,d2,hg⟩;have q4:a4.cell? ⟨w+1+1,0,none⟩=some (.int .i64 0):=hb.cell 0;have a3:=(show ∃d',GoX H w O d (QbM M m.k) (noB 0 (Qb8 m M)) a4 d' from⟨d2,hg⟩);clear hb hg;simp[Leaves,settle,results,results131,go_sem,q4,a3]
 have hs:=a6.o;rw[ev (by rw[hi];decide)]at hs;subst hs;rw[hi];clear hi a6;have I:=HG.o.go.sb.blk N.o (λe=>by have:=HH.o.ov.Qbe e;omega);have c4:w3.cell? ⟨w+1+1,0,none⟩=some (.int .i64 0):=I.cell 0;have f4:=I.frozen 0;clear I;go_wp2_with fail;refine e9 (f:=165) (args:=#[.pointer (some ⟨w+1+1,0,none⟩),.pointer (some ⟨w,0,none⟩),.pointer (some ⟨w1,0,none⟩)]) sM (by simp[go_sem]) ?_;refine(Qco (code:=12) (fT a1.o) b0.o (λb e=>HH.o.ov.Qbe e) HG.o (by have:=HG.o.few;have:=HD.o;omega) N.o a5.o b7.o oM oM (by have:=HZ.o;omega) oM (by have:=HZ.o;omega)).mono ?_;rintro e u' a4 ⟨rfl,rfl,hb,d2,hg⟩;have q4:a4.cell? ⟨w+1+1,0,none⟩=some (.int .i64 12):=hb.cell 0;have a3:=(show ∃d',GoX H w O d M (noB 12 (Qb8 m M)) a4 d' from⟨d2,hg⟩);clear hb hg;simp[Leaves,settle,results,results131,go_sem,q4,a3]
theorem Qo2{m:Mu}(h:OvX H w O d M)(hH:∀b,H b->b<w.heap.size)(hG:∀b,b<6->H b)(hm:RMu w (λb=>b<w/\¬OvB O d b) m c)(hL:Qb4 w)
  (hd:d.us.length+Qb8 m M<=1000000) (hl:(Qaa d.T).length<=1000000) (ht:QcC m<=1000000) (hk:m.kd=3) :
  Calls prog 131 #[.pointer (some ⟨O,0,none⟩),Qaz m c] w λe w'=>e=.returned (.int .i64 (stepM m M).1)/\∃d',GoX H w O d (stepM m M).2 (noB (stepM m M).1 (Qb8 m M)) w' d':=by
 have f0:∀(fn:Fn) (first c3:Array Value) (w:World),(Instr.makeFunc fn first c3).run prog w=.ok (.func fn first c3) w:=λ_ _ _ _=>rfl
 have e1:(m.kd==1)=false:=by simp[hk]
 have e2:(m.kd==2)=false:=by simp[hk]
 have e3:(m.kd==3)=true:=by simp[hk]
 obtain⟨HD,e6,f3,b8,e7⟩:=Yf hd hl ht (Qdu m M) hk;clear hd hl ht hk;obtain⟨r,hr⟩:∃r,stepM m M=r:=⟨_,rfl⟩;rw[hr];obtain⟨e0,HR⟩:=Yb (show r.1≠0->r.2=M fromλh=>by rw[<-hr]at h ⊢;exact Qcb h) hr;clear hr;go_enter_defers func131,ntmps131;go_upto_region 1 with fail;generalize c7:World.alloc _ _=W0;obtain⟨a9,d3,a7,c8,a0⟩:=Qal w _ _ _ _ _ _ W0 c7;have c2:W0.cell? ⟨w,0,none⟩=some (.pointer (some ⟨O,0,none⟩)):=a7.cell 0;have a1:=QdB (h.ov.nw (fT a9));obtain⟨e4,c0,c6,b6,d0,b4,HH⟩:=Yh a1 a9 a7 c8 a0 d3 h;obtain⟨d7,f5,HM,HL⟩:=Ye hH hG hm hL;clear c7 a9 d3 a7 c8 a0 a1 h hH hG hm hL;go_wp2_with fail;refine e4.o.mono ?_;rintro e w1 ⟨rfl,I⟩;go_upto_region 2 with fail;have N:=(fQ w1).alloc #[.int .i64 (d.us.length:Int)] 3;have a6:=fU w1 3 #[.int .i64 (d.us.length:Int)];have b0:(w1.alloc (.cells #[.int .i64 (d.us.length:Int)] 3)).heap.size=w1.heap.size+1:=eB _ _;generalize d6:World.alloc _ _=W2 at N a6 b0 ⊢;obtain⟨Z,a4,b5,a5,d5,HZ⟩:=Yg ((c0.o.trans I).trans N) ((c6.o.ext I).ext N) ((b6.o.ext I).ext N) ((d0.o.ext I).ext N) a6 (show w.heap.size+3<=w1.heap.size/\W2.heap.size=w1.heap.size+1 from⟨by rw[<-b4.o];exact I.size,b0⟩);obtain⟨a2,b9⟩:=Yb (gd b5.o) (HH.o.boxes (fT Z.o));clear d6 I N a6 b0 c2 c0 c6 b6 d0 b4;have k0:=a2.o.kind;go_upto_region 4 with fail;have c9:stepM m M=Qeb M m.k m.i:=by
  obtain⟨kd,k,tk,i,f2,f6,f1,v,l⟩:=m;have hk:kd=3:=e7.o;subst hk;rw[stepM];rfl
 obtain⟨v0,v1,v2,v3,v4,v5⟩:=a2.o.v6;have b1:=a2.o.c1;have e8:=a2.o.c2;have b3:W2.cell? ⟨w+1,3,none⟩=some (.int .i64 m.i):=a2.o 3 _ rfl;have b2:W2.cell? ⟨w,0,none⟩=some (.pointer (some ⟨O,0,none⟩)):=a4.o.cell 0;have a8:RMu W2 (Lt W2) m c:=(HM.o.agree (Z.o.agree λb hb=>hb.1)).mono λb hb=>ab hb.1 Z.o.size
 have a3:=Qte (k:=m.k) (by_:=m.i) b9.o (λb hb=>hb.elim (λe=>ab (d7.o b e) Z.o.size) λe=>e.2) (by have:=HD.o;have:=b8.o;omega) e6.o a8.parts.2.2.1 a8.parts.2.2.2.2 (HL.o.nw (fT Z.o));rw[<-c9,HR.o]at a3;clear c9;have d4:=hY a3;clear a3 a8;go_wp2_with fail;refine d4.o.mono ?_;rintro e w3 ⟨rfl,d1,hg⟩;have HG:=hY (hg.more (m:=Qb8 m M) (by have:=b8.o;omega));have a0:=hg.go.sb.blk a5.o (λe=>by have:=HH.o.ov.Qbe e;omega);have c4:w3.cell? ⟨w+1+1,0,none⟩=some (.int .i64 0):=a0.cell 0;have f4:=a0.frozen 0;clear hg a0 k0;go_wp2_with fail;refine e9 (f:=165) (args:=#[.pointer (some ⟨w+1+1,0,none⟩),.pointer (some ⟨w,0,none⟩),.pointer (some ⟨w1,0,none⟩)]) sM (by simp[go_sem]) ?_;refine(Qco (code:=r.1) (fT Z.o) b9.o (λb e=>HH.o.ov.Qbe e) HG.o (by have:=HG.o.few;have:=HD.o;omega) a5.o a4.o d5.o oM oM (by have:=HZ.o;omega) oM (by have:=HZ.o;omega)).mono ?_;rintro e u' d8 ⟨rfl,rfl,hb,d2,hg⟩;have q4:d8.cell? ⟨w+1+1,0,none⟩=some (.int .i64 r.1):=hb.cell 0;have b7:=Qjv (r:=r) e0.o hg;clear hb hg;simp[Leaves,settle,results,results131,go_sem,q4,b7]
theorem Qo3{m:Mu}(h:OvX H w O d M)(hH:∀b,H b->b<w.heap.size)(hG:∀b,b<6->H b)(hm:RMu w (λb=>b<w/\¬OvB O d b) m c)(hL:Qb4 w)
  (hd:d.us.length+Qb8 m M<=1000000) (hl:(Qaa d.T).length<=1000000) (ht:QcC m<=1000000) (hk:m.kd=4) :
  Calls prog 131 #[.pointer (some ⟨O,0,none⟩),Qaz m c] w λe w'=>e=.returned (.int .i64 (stepM m M).1)/\∃d',GoX H w O d (stepM m M).2 (noB (stepM m M).1 (Qb8 m M)) w' d':=by
 have f2:∀(fn:Fn) (first c0:Array Value) (w:World),(Instr.makeFunc fn first c0).run prog w=.ok (.func fn first c0) w:=λ_ _ _ _=>rfl
 have e1:(m.kd==1)=false:=by simp[hk]
 have e2:(m.kd==2)=false:=by simp[hk]
 have e3:(m.kd==3)=false:=by simp[hk]
 have e4:(m.kd==4)=true:=by simp[hk]
 obtain⟨HD,e7,e8,b7,f0⟩:=Yf hd hl ht (Qdu m M) hk;clear hd hl ht hk;obtain⟨r,hr⟩:∃r,stepM m M=r:=⟨_,rfl⟩;rw[hr];obtain⟨e0,HR⟩:=Yb (show r.1≠0->r.2=M fromλh=>by rw[<-hr]at h ⊢;exact Qcb h) hr;clear hr;go_enter_defers func131,ntmps131;go_upto_region 1 with fail;generalize c6:World.alloc _ _=W0;obtain⟨a8,d3,a7,c8,a1⟩:=Qal w _ _ _ _ _ _ W0 c6;have c2:W0.cell? ⟨w,0,none⟩=some (.pointer (some ⟨O,0,none⟩)):=a7.cell 0;have a2:=QdB (h.ov.nw (fT a8));obtain⟨e6,b9,c3,b5,d0,b0,HH⟩:=Yh a2 a8 a7 c8 a1 d3 h;obtain⟨d7,f6,HM,HL⟩:=Ye hH hG hm hL;clear c6 a8 d3 a7 c8 a1 a2 h hH hG hm hL;go_wp2_with fail;refine e6.o.mono ?_;rintro e w1 ⟨rfl,N⟩;go_upto_region 2 with fail;have Z:=(fQ w1).alloc #[.int .i64 (d.us.length:Int)] 3;have a6:=fU w1 3 #[.int .i64 (d.us.length:Int)];have a9:(w1.alloc (.cells #[.int .i64 (d.us.length:Int)] 3)).heap.size=w1.heap.size+1:=eB _ _;generalize d6:World.alloc _ _=W2 at Z a6 a9 ⊢;obtain⟨a0,a4,b4,a5,d5,HZ⟩:=Yg ((b9.o.trans N).trans Z) ((c3.o.ext N).ext Z) ((b5.o.ext N).ext Z) ((d0.o.ext N).ext Z) a6 (show w.heap.size+3<=w1.heap.size/\W2.heap.size=w1.heap.size+1 from⟨by rw[<-b0.o];exact N.size,a9⟩);obtain⟨I,b8⟩:=Yb (gd b4.o) (HH.o.boxes (fT a0.o));clear d6 N Z a6 a9 c2 b9 c3 b5 d0 b0;have k0:=I.o.kind;go_upto_region 4 with fail;have c9:stepM m M=Qt9 M m:=by
  obtain⟨kd,k,tk,i,f5,f7,f3,v,l⟩:=m;have hk:kd=4:=f0.o;subst hk;rw[stepM];rfl
 obtain⟨v0,v1,v2,v3,v4,v5⟩:=I.o.v6;have b1:=I.o.c1;have f1:=I.o.c2;have b3:W2.cell? ⟨w+1,3,none⟩=some (.int .i64 m.i):=I.o 3 _ rfl;have b2:W2.cell? ⟨w,0,none⟩=some (.pointer (some ⟨O,0,none⟩)):=a4.o.cell 0;have c7:RMu W2 (Lt W2) m c:=(HM.o.agree (a0.o.agree λb hb=>hb.1)).mono λb hb=>ab hb.1 a0.o.size
 have a3:=QsY (m:=m) (c:=c) b8.o (λb hb=>hb.elim (λe=>ab (d7.o b e) a0.o.size) λe=>e.2) (by have:=HD.o;have:=b7.o;omega) e7.o c7 (by have:=e8.o;omega) (HL.o.nw (fT a0.o));rw[<-c9,HR.o]at a3;clear c9;have d4:=hY a3;clear a3 c7;go_wp2_with(refine Qah rfl (.tmp 3) rfl (w.heap.size+1) 0 rfl m c I.o ?_);refine d4.o.mono ?_;rintro e w3 ⟨rfl,d1,hg⟩;have HG:=hY (hg.more (m:=Qb8 m M) (by have:=b7.o;omega));have a1:=hg.go.sb.blk a5.o (λe=>by have:=HH.o.ov.Qbe e;omega);have c4:w3.cell? ⟨w+1+1,0,none⟩=some (.int .i64 0):=a1.cell 0;have f4:=a1.frozen 0;clear hg a1 k0;go_wp2_with fail;refine e9 (f:=165) (args:=#[.pointer (some ⟨w+1+1,0,none⟩),.pointer (some ⟨w,0,none⟩),.pointer (some ⟨w1,0,none⟩)]) sM (by simp[go_sem]) ?_;refine(Qco (code:=r.1) (fT a0.o) b8.o (λb e=>HH.o.ov.Qbe e) HG.o (by have:=HG.o.few;have:=HD.o;omega) a5.o a4.o d5.o oM oM (by have:=HZ.o;omega) oM (by have:=HZ.o;omega)).mono ?_;rintro e u' d8 ⟨rfl,rfl,hb,d2,hg⟩;have q4:d8.cell? ⟨w+1+1,0,none⟩=some (.int .i64 r.1):=hb.cell 0;have b6:=Qjv (r:=r) e0.o hg;clear hb hg;simp[Leaves,settle,results,results131,go_sem,q4,b6]
theorem Qo4{m:Mu}(h:OvX H w O d M)(hH:∀b,H b->b<w.heap.size)(hG:∀b,b<6->H b)(hm:RMu w (λb=>b<w/\¬OvB O d b) m c)(hL:Qb4 w)
  (hd:d.us.length+Qb8 m M<=1000000) (hl:(Qaa d.T).length<=1000000) (ht:QcC m<=1000000) (hk:m.kd=5) :
  Calls prog 131 #[.pointer (some ⟨O,0,none⟩),Qaz m c] w λe w'=>e=.returned (.int .i64 (stepM m M).1)/\∃d',GoX H w O d (stepM m M).2 (noB (stepM m M).1 (Qb8 m M)) w' d':=by
 have f2:∀(fn:Fn) (first c3:Array Value) (w:World),(Instr.makeFunc fn first c3).run prog w=.ok (.func fn first c3) w:=λ_ _ _ _=>rfl
 have e1:(m.kd==1)=false:=by simp[hk]
 have e2:(m.kd==2)=false:=by simp[hk]
 have e3:(m.kd==3)=false:=by simp[hk]
 have e4:(m.kd==4)=false:=by simp[hk]
 have e5:(m.kd==5)=true:=by simp[hk]
 obtain⟨HD,e7,e8,b8,f0⟩:=Yf hd hl ht (Qdu m M) hk;clear hd hl ht hk;obtain⟨r,hr⟩:∃r,stepM m M=r:=⟨_,rfl⟩;rw[hr];obtain⟨e0,HR⟩:=Yb (show r.1≠0->r.2=M fromλh=>by rw[<-hr]at h ⊢;exact Qcb h) hr;clear hr;go_enter_defers func131,ntmps131;go_upto_region 1 with fail;generalize c7:World.alloc _ _=W0;obtain⟨a9,d3,a7,c8,a0⟩:=Qal w _ _ _ _ _ _ W0 c7;have c2:W0.cell? ⟨w,0,none⟩=some (.pointer (some ⟨O,0,none⟩)):=a7.cell 0;have a1:=QdB (h.ov.nw (fT a9));obtain⟨e6,c0,c6,b6,d0,b4,HH⟩:=Yh a1 a9 a7 c8 a0 d3 h;obtain⟨d7,f6,HM,HL⟩:=Ye hH hG hm hL;clear c7 a9 d3 a7 c8 a0 a1 h hH hG hm hL;go_wp2_with fail;refine e6.o.mono ?_;rintro e w1 ⟨rfl,I⟩;go_upto_region 2 with fail;have N:=(fQ w1).alloc #[.int .i64 (d.us.length:Int)] 3;have a6:=fU w1 3 #[.int .i64 (d.us.length:Int)];have b0:(w1.alloc (.cells #[.int .i64 (d.us.length:Int)] 3)).heap.size=w1.heap.size+1:=eB _ _;generalize d6:World.alloc _ _=W2 at N a6 b0 ⊢;obtain⟨Z,a4,b5,a5,d5,HZ⟩:=Yg ((c0.o.trans I).trans N) ((c6.o.ext I).ext N) ((b6.o.ext I).ext N) ((d0.o.ext I).ext N) a6 (show w.heap.size+3<=w1.heap.size/\W2.heap.size=w1.heap.size+1 from⟨by rw[<-b4.o];exact I.size,b0⟩);obtain⟨a2,b9⟩:=Yb (gd b5.o) (HH.o.boxes (fT Z.o));clear d6 I N a6 b0 c2 c0 c6 b6 d0 b4;have k0:=a2.o.kind;go_upto_region 4 with fail;have c9:stepM m M=Qq1 M m.k m.v:=by
  obtain⟨kd,k,tk,i,f5,f7,f3,v,l⟩:=m;have hk:kd=5:=f0.o;subst hk;rw[stepM];rfl
 obtain⟨v0,v1,v2,v3,v4,v5⟩:=a2.o.v6;have b1:=a2.o.c1;have f1:=a2.o.c2;have b3:W2.cell? ⟨w+1,3,none⟩=some (.int .i64 m.i):=a2.o 3 _ rfl;have b2:W2.cell? ⟨w,0,none⟩=some (.pointer (some ⟨O,0,none⟩)):=a4.o.cell 0;have a8:RMu W2 (Lt W2) m c:=(HM.o.agree (Z.o.agree λb hb=>hb.1)).mono λb hb=>ab hb.1 Z.o.size
 have a3:=QmV (k:=m.k) b9.o (λb hb=>hb.elim (λe=>ab (d7.o b e) Z.o.size) λe=>e.2) (by have:=HD.o;have:=b8.o;omega) e7.o a8.parts.2.2.1 a8.parts.2.1 (ak (Qkz m).1 (by have:=e8.o;omega)) (HL.o.nw (fT Z.o));rw[<-c9,HR.o]at a3;clear c9;have d4:=hY a3;clear a3 a8;go_wp2_with fail;refine d4.o.mono ?_;rintro e w3 ⟨rfl,d1,hg⟩;have HG:=hY (hg.more (m:=Qb8 m M) (by have:=b8.o;omega));have a0:=hg.go.sb.blk a5.o (λe=>by have:=HH.o.ov.Qbe e;omega);have c4:w3.cell? ⟨w+1+1,0,none⟩=some (.int .i64 0):=a0.cell 0;have f4:=a0.frozen 0;clear hg a0 k0;go_wp2_with fail;refine e9 (f:=165) (args:=#[.pointer (some ⟨w+1+1,0,none⟩),.pointer (some ⟨w,0,none⟩),.pointer (some ⟨w1,0,none⟩)]) sM (by simp[go_sem]) ?_;refine(Qco (code:=r.1) (fT Z.o) b9.o (λb e=>HH.o.ov.Qbe e) HG.o (by have:=HG.o.few;have:=HD.o;omega) a5.o a4.o d5.o oM oM (by have:=HZ.o;omega) oM (by have:=HZ.o;omega)).mono ?_;rintro e u' d8 ⟨rfl,rfl,hb,d2,hg⟩;have q4:d8.cell? ⟨w+1+1,0,none⟩=some (.int .i64 r.1):=hb.cell 0;have b7:=Qjv (r:=r) e0.o hg;clear hb hg;simp[Leaves,settle,results,results131,go_sem,q4,b7]
theorem Qo5{m:Mu}(h:OvX H w O d M)(hH:∀b,H b->b<w.heap.size)(hG:∀b,b<6->H b)(hm:RMu w (λb=>b<w/\¬OvB O d b) m c)(hL:Qb4 w)
  (hd:d.us.length+Qb8 m M<=1000000) (hl:(Qaa d.T).length<=1000000) (ht:QcC m<=1000000) (hk:m.kd=6) :
  Calls prog 131 #[.pointer (some ⟨O,0,none⟩),Qaz m c] w λe w'=>e=.returned (.int .i64 (stepM m M).1)/\∃d',GoX H w O d (stepM m M).2 (noB (stepM m M).1 (Qb8 m M)) w' d':=by
 have f5:∀(fn:Fn) (first c0:Array Value) (w:World),(Instr.makeFunc fn first c0).run prog w=.ok (.func fn first c0) w:=λ_ _ _ _=>rfl
 have e1:(m.kd==1)=false:=by simp[hk]
 have e2:(m.kd==2)=false:=by simp[hk]
 have e3:(m.kd==3)=false:=by simp[hk]
 have e4:(m.kd==4)=false:=by simp[hk]
 have e5:(m.kd==5)=false:=by simp[hk]
 have e6:(m.kd==6)=true:=by simp[hk]
 obtain⟨HD,e8,f0,b7,f1⟩:=Yf hd hl ht (Qdu m M) hk;clear hd hl ht hk;obtain⟨r,hr⟩:∃r,stepM m M=r:=⟨_,rfl⟩;rw[hr];obtain⟨e0,HR⟩:=Yb (show r.1≠0->r.2=M fromλh=>by rw[<-hr]at h ⊢;exact Qcb h) hr;clear hr;go_enter_defers func131,ntmps131;go_upto_region 1 with fail;generalize c6:World.alloc _ _=W0;obtain⟨a8,d3,a7,c8,a0⟩:=Qal w _ _ _ _ _ _ W0 c6;have c2:W0.cell? ⟨w,0,none⟩=some (.pointer (some ⟨O,0,none⟩)):=a7.cell 0;have a1:=QdB (h.ov.nw (fT a8));obtain⟨e7,b9,c3,b5,d0,b0,HH⟩:=Yh a1 a8 a7 c8 a0 d3 h;obtain⟨d7,f2,HM,HL⟩:=Ye hH hG hm hL;clear c6 a8 d3 a7 c8 a0 a1 h hH hG hm hL;go_wp2_with fail;refine e7.o.mono ?_;rintro e w1 ⟨rfl,I⟩;go_upto_region 2 with fail;have N:=(fQ w1).alloc #[.int .i64 (d.us.length:Int)] 3;have a6:=fU w1 3 #[.int .i64 (d.us.length:Int)];have a9:(w1.alloc (.cells #[.int .i64 (d.us.length:Int)] 3)).heap.size=w1.heap.size+1:=eB _ _;generalize d6:World.alloc _ _=W2 at N a6 a9 ⊢;obtain⟨Z,a4,b4,a5,d5,HZ⟩:=Yg ((b9.o.trans I).trans N) ((c3.o.ext I).ext N) ((b5.o.ext I).ext N) ((d0.o.ext I).ext N) a6 (show w.heap.size+3<=w1.heap.size/\W2.heap.size=w1.heap.size+1 from⟨by rw[<-b0.o];exact I.size,a9⟩);obtain⟨a2,b8⟩:=Yb (gd b4.o) (HH.o.boxes (fT Z.o));clear d6 I N a6 a9 c2 b9 c3 b5 d0 b0;have k0:=a2.o.kind;go_upto_region 4 with fail;have c9:stepM m M=QgM M m.k m.tk:=by
  obtain⟨kd,k,tk,i,f7,f8,f6,v,l⟩:=m;have hk:kd=6:=f1.o;subst hk;rw[stepM];rfl
 obtain⟨v0,v1,v2,v3,v4,v5⟩:=a2.o.v6;have b1:=a2.o.c1;have f3:=a2.o.c2;have b3:W2.cell? ⟨w+1,3,none⟩=some (.int .i64 m.i):=a2.o 3 _ rfl;have b2:W2.cell? ⟨w,0,none⟩=some (.pointer (some ⟨O,0,none⟩)):=a4.o.cell 0;have c7:RMu W2 (Lt W2) m c:=(HM.o.agree (Z.o.agree λb hb=>hb.1)).mono λb hb=>ab hb.1 Z.o.size
 have a3:=QrV (f:=m.k) (t:=m.tk) b8.o (λb hb=>hb.elim (λe=>ab (d7.o b e) Z.o.size) λe=>e.2) (by have:=HD.o;have:=b7.o;omega) e8.o c7.parts.2.2.1 (ak (QtP m) (by have:=f0.o;omega)) (HL.o.nw (fT Z.o)) (λb hb=>.inl (f2.o b hb));rw[<-c9,HR.o]at a3;clear c9;have d4:=hY a3;clear a3 c7;go_wp2_with fail;refine d4.o.mono ?_;rintro e w3 ⟨rfl,d1,hg⟩;have HG:=hY (hg.more (m:=Qb8 m M) (by have:=b7.o;omega));have a0:=hg.go.sb.blk a5.o (λe=>by have:=HH.o.ov.Qbe e;omega);have c4:w3.cell? ⟨w+1+1,0,none⟩=some (.int .i64 0):=a0.cell 0;have f4:=a0.frozen 0;clear hg a0 k0;go_wp2_with fail;refine e9 (f:=165) (args:=#[.pointer (some ⟨w+1+1,0,none⟩),.pointer (some ⟨w,0,none⟩),.pointer (some ⟨w1,0,none⟩)]) sM (by simp[go_sem]) ?_;refine(Qco (code:=r.1) (fT Z.o) b8.o (λb e=>HH.o.ov.Qbe e) HG.o (by have:=HG.o.few;have:=HD.o;omega) a5.o a4.o d5.o oM oM (by have:=HZ.o;omega) oM (by have:=HZ.o;omega)).mono ?_;rintro e u' d8 ⟨rfl,rfl,hb,d2,hg⟩;have q4:d8.cell? ⟨w+1+1,0,none⟩=some (.int .i64 r.1):=hb.cell 0;have b6:=Qjv (r:=r) e0.o hg;clear hb hg;simp[Leaves,settle,results,results131,go_sem,q4,b6]
theorem Qo7{m:Mu}(h:OvX H w O d M)(hH:∀b,H b->b<w.heap.size)(hG:∀b,b<6->H b)(hm:RMu w (λb=>b<w/\¬OvB O d b) m c)(hL:Qb4 w)
  (hd:d.us.length+Qb8 m M<=1000000) (hl:(Qaa d.T).length<=1000000) (ht:QcC m<=1000000) (I:m.kd≠1/\m.kd≠2/\m.kd≠3/\m.kd≠4/\m.kd≠5/\m.kd≠6/\m.kd≠7) :
  Calls prog 131 #[.pointer (some ⟨O,0,none⟩),Qaz m c] w λe w'=>e=.returned (.int .i64 (stepM m M).1)/\∃d',GoX H w O d (stepM m M).2 (noB (stepM m M).1 (Qb8 m M)) w' d':=by
 have d5:∀(fn:Fn) (first b5:Array Value) (w:World),(Instr.makeFunc fn first b5).run prog w=.ok (.func fn first b5) w:=λ_ _ _ _=>rfl
 have e1:(m.kd==1)=false:=eA.2 I.1;have e2:(m.kd==2)=false:=eA.2 I.2.1;have e3:(m.kd==3)=false:=eA.2 I.2.2.1;have e4:(m.kd==4)=false:=eA.2 I.2.2.2.1;have e5:(m.kd==5)=false:=eA.2 I.2.2.2.2.1;have e6:(m.kd==6)=false:=eA.2 I.2.2.2.2.2.1;have e7:(m.kd==7)=false:=eA.2 I.2.2.2.2.2.2;obtain⟨HD,f0,f1,e0,d4⟩:=Yf hd hl ht (Qdu m M) I;clear hd hl ht I;obtain⟨r,hr⟩:∃r,stepM m M=r:=⟨_,rfl⟩;rw[hr];obtain⟨e8,HR⟩:=Yb (show r.1≠0->r.2=M fromλh=>by rw[<-hr]at h ⊢;exact Qcb h) hr;clear hr;go_enter_defers func131,ntmps131;go_upto_region 1 with fail;generalize b7:World.alloc _ _=W0;obtain⟨a4,c1,a3,b8,c6⟩:=Qal w _ _ _ _ _ _ W0 b7;have c2:W0.cell? ⟨w,0,none⟩=some (.pointer (some ⟨O,0,none⟩)):=a3.cell 0;have a0:=QdB (h.ov.nw (fT a4));obtain⟨d0,b4,b6,a8,c0,a6,HH⟩:=Yh a0 a4 a3 b8 c6 c1 h;obtain⟨d6,f2,HM,HL⟩:=Ye hH hG hm hL;clear b7 a4 c1 a3 b8 c6 a0 h hH hG hm hL;go_wp2_with fail;refine d0.o.mono ?_;rintro e w1 ⟨rfl,N⟩;go_upto_region 2 with fail;have Z:=(fQ w1).alloc #[.int .i64 (d.us.length:Int)] 3;have a2:=fU w1 3 #[.int .i64 (d.us.length:Int)];have a5:(w1.alloc (.cells #[.int .i64 (d.us.length:Int)] 3)).heap.size=w1.heap.size+1:=eB _ _;generalize c9:World.alloc _ _=W2 at Z a2 a5 ⊢;obtain⟨c3,b9,a7,a1,c7,HZ⟩:=Yg ((b4.o.trans N).trans Z) ((b6.o.ext N).ext Z) ((a8.o.ext N).ext Z) ((c0.o.ext N).ext Z) a2 (show w.heap.size+3<=w1.heap.size/\W2.heap.size=w1.heap.size+1 from⟨by rw[<-a6.o];exact N.size,a5⟩);obtain⟨c8,b0⟩:=Yb (gd a7.o) (HH.o.boxes (fT c3.o));clear c9 N Z a2 a5 c2 b4 b6 a8 c0 a6;have k0:=c8.o.kind;go_upto_region 4 with fail;have d3:r=(9,M):=by
  rw[<-HR.o];obtain⟨kd,k,tk,i,d8,f3,d7,v,l⟩:=m;have I:kd≠1/\kd≠2/\kd≠3/\kd≠4/\kd≠5/\kd≠6/\kd≠7:=d4.o;rw[stepM,ev I.1,ev I.2.1,ev I.2.2.1,ev I.2.2.2.1,ev I.2.2.2.2.1,ev I.2.2.2.2.2.1,ev I.2.2.2.2.2.2]
 subst d3;have HG:=hY (b0.o.stay (n:=Qb8 m M) (fW _ W2));have c4:W2.cell? ⟨w+1+1,0,none⟩=some (.int .i64 0):=a1.o.cell 0;have f4:=a1.o.frozen 0;go_wp2_with fail;refine e9 (f:=165) (args:=#[.pointer (some ⟨w+1+1,0,none⟩),.pointer (some ⟨w,0,none⟩),.pointer (some ⟨w1,0,none⟩)]) sM (by simp[go_sem]) ?_;refine(Qco (code:=9) (fT c3.o) b0.o (λb e=>HH.o.ov.Qbe e) HG.o (by have:=HG.o.few;have:=HD.o;omega) a1.o b9.o c7.o oM oM (by have:=HZ.o;omega) oM (by have:=HZ.o;omega)).mono ?_;rintro e u' b3 ⟨rfl,rfl,hb,d2,hg⟩;have q4:b3.cell? ⟨w+1+1,0,none⟩=some (.int .i64 9):=hb.cell 0;have a9:=(show ∃d',GoX H w O d M (noB 9 (Qb8 m M)) b3 d' from⟨d2,hg⟩);clear hb hg;simp[Leaves,settle,results,results131,go_sem,q4,a9]
theorem QtK{l:List Mu}{x:Mu}(h:l[j]? = some x)(M:List Ent):QkQ (l.drop j) M=if(stepM x M).1≠0 then((stepM x M).1,M)else QkQ (l.drop (j+1)) (stepM x M).2:=by
 obtain⟨h1,h2⟩:=ai.1 h;rw[aG h1,h2,QkQ]
def QvM(m:Mu):Prop:=∀(j:Nat) (x:Mu),m.l[j]? = some x->∀(y:MuS) (H:Nat->Prop) (W:World) (O:Nat) (d:OD) (M:List Ent),OvX H W O d M->(∀b,H b->b<W.heap.size)->(∀b,b<6->H b)->RMu W (λb=>b<W.heap.size/\¬OvB O d b) x y->Qb4 W->
 d.us.length+Qb8 x M<=1000000->(Qaa d.T).length<=1000000->QcC x<=1000000->
 Calls prog 131 #[.pointer (some ⟨O,0,none⟩),Qaz x y] W λe w'=>e=.returned (.int .i64 (stepM x M).1)/\∃d',GoX H W O d (stepM x M).2 (Qb8 x M) w' d'
theorem Qo6{m:Mu}(h:OvX H w O d M)(hH:∀b,H b->b<w.heap.size)(hG:∀b,b<6->H b)(hm:RMu w (λb=>b<w.heap.size/\¬OvB O d b) m c)(hL:Qb4 w)
  (hd:d.us.length+Qb8 m M<=1000000) (hl:(Qaa d.T).length<=1000000) (ht:QcC m<=1000000) (hk:m.kd=7) (c7:m.k.size=0->m.had=false)
  (ih:QvM m) :
  Calls prog 131 #[.pointer (some ⟨O,0,none⟩),Qaz m c] w λe w'=>e=.returned (.int .i64 (stepM m M).1)/\∃d',GoX H w O d (stepM m M).2 (noB (stepM m M).1 (Qb8 m M)) w' d':=by
 have l7:∀(fn:Fn) (first i5:Array Value) (w:World),(Instr.makeFunc fn first i5).run prog w=.ok (.func fn first i5) w:=λ_ _ _ _=>rfl
 have e1:(m.kd==1)=false:=by simp[hk]
 have e2:(m.kd==2)=false:=by simp[hk]
 have e3:(m.kd==3)=false:=by simp[hk]
 have e4:(m.kd==4)=false:=by simp[hk]
 have e5:(m.kd==5)=false:=by simp[hk]
 have e6:(m.kd==6)=false:=by simp[hk]
 have e7:(m.kd==7)=true:=by simp[hk]
 obtain⟨HD,i7,k6,n2,k7,i8,j9⟩:=Yh hd hl ht (Qdu m M) hk c7 ih;clear hd hl ht hk c7 ih;obtain⟨r,hr⟩:∃r,stepM m M=r:=⟨_,rfl⟩;rw[hr];obtain⟨l5,HR⟩:=Yb (show r.1≠0->r.2=M fromλh=>by rw[<-hr]at h ⊢;exact Qcb h) hr;clear hr;go_enter_defers func131,ntmps131;go_upto_region 1 with fail;generalize f5:World.alloc _ _=W0;obtain⟨d3,i9,b7,b5,N⟩:=Qal w _ _ _ _ _ _ W0 f5;have c2:W0.cell? ⟨w.heap.size,0,none⟩=some (.pointer (some ⟨O,0,none⟩)):=b7.cell 0;have b3:=QdB (h.ov.nw (fT d3));obtain⟨j5,f2,i6,f0,g4,g8,HH⟩:=Yh b3 d3 b7 b5 N i9 h;obtain⟨k2,j0,HM,HL⟩:=Ye hH hG hm hL;clear f5 d3 i9 b7 b5 N b3 h hH hG hm hL;go_wp2_with fail;refine j5.o.mono ?_;rintro e w1 ⟨rfl,b0⟩;go_upto_region 2 with fail;have a8:=(fQ w1).alloc #[.int .i64 (d.us.length:Int)] 3;have d6:=fU w1 3 #[.int .i64 (d.us.length:Int)];have d5:(w1.alloc (.cells #[.int .i64 (d.us.length:Int)] 3)).heap.size=w1.heap.size+1:=eB _ _;generalize k1:World.alloc _ _=W2 at a8 d6 d5 ⊢;obtain⟨a2,a6,i0,a1,d7,HZ⟩:=Yg ((f2.o.trans b0).trans a8) ((i6.o.ext b0).ext a8) ((f0.o.ext b0).ext a8) ((g4.o.ext b0).ext a8) d6 (show w.heap.size+3<=w1.heap.size/\W2.heap.size=w1.heap.size+1 from⟨by rw[<-g8.o];exact b0.size,d5⟩);obtain⟨b9,a7⟩:=Yb (gd i0.o) (HH.o.boxes (fT a2.o));clear k1 b0 a8 d6 d5 c2 f2 i6 f0 g4 g8;have k0:=b9.o.kind;go_upto_region 4 with fail;go_upto_region 19 with fail;have b6:stepM m M=if asM M m.k m.had m.was then(if(QkQ m.l M).1≠0 then((QkQ m.l M).1,M)else QkQ m.l M)else(13,M):=by
  obtain⟨kd,k,tk,i,l9,l6,l8,v,l⟩:=m;have hk:kd=7:=k7.o;subst hk;rw[stepM];rfl
 rw[HR.o]at b6;have c3:=hY b6;have b1:=b9.o.c1;have b2:W2.cell? ⟨w.heap.size,0,none⟩=some (.pointer (some ⟨O,0,none⟩)):=a6.o.cell 0;have f8:RMu W2 (Lt W2.heap.size) m c:=(HM.o.agree (a2.o.agree λb Z=>Z.1)).mono λb Z=>ab Z.1 a2.o.size
 have c8:=hY (QmC a7.o i7.o f8);clear b6 f8 k0;go_cut [68]from 60 to 68 (λv w'=>v=.bool (!asM M m.k m.had m.was)/\Nw W2 w')
 case first=>
  by_cases a9:m.k.size=0
  ·have g0:=Qa9 a9
   have ha:asM M m.k m.had m.was=true:=by
    have hn:Qaq M m.k=none:=by
     cases hg:Qaq M m.k with
     |none=>rfl
     | some y=>
       have:=(HH.o.rel.ok.get hg).1;unfold Qci at this;rw[ez a9]at this;cases this
    unfold asM;rw[hn,i8.o a9];rfl
   have HA:=hY ha;clear ha a9;go_wp2_with fail;go_meet;exact⟨by rw[HA.o]<;>rfl,fW _ _⟩
  have g0:=Qbr a9;clear a9
  repeat (first |(refine wp_load_mid 37 (.tmp 3) rfl (w.heap.size+1) 0 rfl (Qan m c) _ b9.o.range underlying37 rfl (by rw[QfD];exact Tryz.Qem) ?_)|go_values|go_skip|go_guarded|go_step)
  refine c8.o.mono ?_;rintro e w3 ⟨rfl,f3⟩;have j3:=hY (fT f3);clear f3;go_wp2_with fail;go_meet;exact⟨rfl,j3.o⟩
 obtain⟨hv,hn⟩:=hcut;subst hv;have g7:=hY hn;have N:=hn.blk a1.o;have c4:wc.cell? ⟨w.heap.size+1+1,0,none⟩=some (.int .i64 0):=N.cell 0;have f4:=N.frozen 0;have HC:=hY (b9.o.nw hn);clear hn N b1 b2;rcases bA (asM M m.k m.had m.was)with ha|ha
 rotate_left
 ·have hs:=c3.o
  rw[ev (by rw[ha];decide)]at hs;subst hs;have HG:=hY (a7.o.stay (n:=Qb8 m M) g7.o);rw[show(!asM M m.k m.had m.was)=true by rw[ha];rfl];clear ha;go_wp2_with fail;refine e9 (f:=165) (args:=#[.pointer (some ⟨w.heap.size+1+1,0,none⟩),.pointer (some ⟨w.heap.size,0,none⟩),.pointer (some ⟨w1.heap.size,0,none⟩)]) sM (by simp[go_sem]) ?_;refine(Qco (code:=13) (fT a2.o) a7.o (λb e=>HH.o.ov.Qbe e) HG.o (by have:=HG.o.few;have:=HD.o;omega) a1.o a6.o d7.o oM oM (by have:=HZ.o;omega) oM (by have:=HZ.o;omega)).mono ?_;rintro e u' a4 ⟨rfl,rfl,Z,d2,hg⟩;have q4:a4.cell? ⟨w.heap.size+1+1,0,none⟩=some (.int .i64 13):=Z.cell 0;have a3:=(show ∃d',GoX H w O d M (noB 13 (Qb8 m M)) a4 d' from⟨d2,hg⟩);clear Z hg;simp[Leaves,settle,results,results131,go_sem,q4,a3]
 have hs:=c3.o;rw[ez ha]at hs;have HS:=hY hs;rw[show(!asM M m.k m.had m.was)=false by rw[ha];rfl];have n7:wc.cell? ⟨w.heap.size+1,8+10,none⟩=some (.slice c.s.a m.l.length c.s.c):=HC.o 18 _ rfl;have l2:=HM.o.len;clear hs ha c4 f4;go_wp2_with fail;go_loopw[72] (λk8 wr=>∃(j:Nat) (d1:OD) (M1:List Ent),k8=.int .i64 (j:Int)/\j<=m.l.length/\Yd (GoX (HB H w.heap.size W2.heap.size) W2 O d M1 (QaF (m.l.take j)*(2*(M.length+Qa0 m)+1)) wr d1)/\Yd (QkQ (m.l.drop j) M1=QkQ m.l M)/\Yd (M1.length<=M.length+QaF (m.l.take j))) (λv _=>m.l.length -(intOf v).toNat)
 case atStart=>exact⟨0,d,M,rfl,aD _,hY (a7.o.stay g7.o),hY rfl,hY (dH _ _)⟩
 obtain⟨j,d1,M1,rfl,hj,a0,g9,k4⟩:=hrel;by_cases g3:j<m.l.length
 ·have l1:(j:Int)<(m.l.length:Int):=oM
  have n6:decide ((j:Int)<(m.l.length:Int))=true:=ey l1;have l0:(0:Int)<=(j:Int):=oM
  obtain⟨x,hx⟩:∃x,m.l[j]? = some x:=⟨_,ac g3⟩;obtain⟨b,o,y,k3,c0,n4,l4,j1,i4⟩:=HM.o.at hx;have f9:=a2.o.size;have a5:Sb (OvB O d) w wr:=((fT a2.o).any _).trans a0.o.go.sb;have e8:=hY (show MuC wr b (o+j*19) x y fromλi u hu=>(a5.cell c0.1 c0.2).trans (j1 i u hu));have l3:b<wr.heap.size:=ab c0.1 a5.size;have i3:=Qde hx;have j2:=QeZ m.l (j+1);have k9:=Qf7 m;have j7:=k4.o;have j6:Qb8 x M1<=Qa0 x*(2*(M.length+Qa0 m)+1):=Nat.mul_le_mul_left _ oM;have b7:QaF (m.l.take (j+1))*(2*(M.length+Qa0 m)+1)=QaF (m.l.take j)*(2*(M.length+Qa0 m)+1)+Qa0 x*(2*(M.length+Qa0 m)+1):=by rw[i3,em]
  have b5:QaF (m.l.take (j+1))*(2*(M.length+Qa0 m)+1)<=Qb8 m M:=ce _ oM;have b4:=λW (hW:Ext wr W)=>j9.o j x hx y (HB H w.heap.size W2.heap.size) W O d1 M1 (a0.o.at_.nw (fT hW)) (λb Z=>ab (Z.elim (λe=>ab (k2.o b e) f9) λe=>e.2) (ak a0.o.go.sb.size hW.size)) (λb Z=>.inl (j0.o b Z))
   ((i4.agree (λb Z=>(a5.trans ((fT hW).any _)).block b Z.1 Z.2)).mono λb Z=>⟨Nat.lt_of_lt_of_le Z.1 (ak a5.size hW.size),λe=>(a0.o.go.new b e).elim Z.2 λe2=>by have:=Z.1;omega⟩)
   (((HL.o.nw (fT a2.o)).sb a0.o.go.sb (λb Z e=>HH.o.ov.out b e (j0.o b Z))).nw (fT hW)) (by have:=a0.o.few;have:=HD.o;omega) (by rw[a0.o.T];exact i7.o) (ak (Qgb hx) (ak (QsJ m) k6.o))
  obtain⟨e0,d0,k5⟩:=Yc b4 (show QaF (m.l.take j)*(2*(M.length+Qa0 m)+1)+Qb8 x M1<=QaF (m.l.take (j+1))*(2*(M.length+Qa0 m)+1)/\QaF (m.l.take (j+1))*(2*(M.length+Qa0 m)+1)<=Qb8 m M from⟨oM,b5⟩) (show(stepM x M1).2.length<=M.length+QaF (m.l.take (j+1))by have:=Qkv x M1;omega);have I:=g9.o;rw[QtK hx]at I;have c6:=hY I;have b8:=a0.o.go.sb.blk a6.o (λe=>by have:=HH.o.ov.Qbe e;omega);have f1:wr.cell? ⟨w.heap.size,0,none⟩=some (.pointer (some ⟨O,0,none⟩)):=b8.cell 0;have g5:=b8.lt;obtain⟨q,hq⟩:∃q,stepM x M1=q:=⟨_,rfl⟩;have HQ:=hY hq;rw[k3];clear f9 a5 i3 j2 k9 j7 j6 b7 b5 b4 I b8 i4 j1 hx hq c0;go_wp2_with(first |(refine Qah rfl (.tmp 74) rfl b (o+j*19) rfl x y e8.o ?_) |(refine QaR rfl rfl rfl x y (w0:=wr) (b:=wr.heap.size) rfl ((fQ wr).alloc _ _) (fU wr _ _) rfl rfl rfl ?_;intro w5 d4 g6;have f7:=hY d4;have j8:=(d4.cell g5).trans f1;have j4:=hY (gd g6);clear d4 g6) |(refine Qah rfl (.tmp 7) rfl wr.heap.size 0 rfl x y j4.o ?_));refine(e0.o _ f7.o).mono ?_;rintro e w6 ⟨rfl,d2,c9⟩;rw[HQ.o]at c9 ⊢;have f6:=hY (a0.o.trans (c9.since (fT f7.o)));clear c9 j8 f1 g5;by_cases h0:q.1=0
  ·have g0:(q.1 == 0)=true:=by simp [h0]
   have I:=c6.o;have d8:=k5.o;rw[HQ.o]at I d8;rw[ev (λh=>h h0)]at I;obtain⟨i2,i1⟩:=Yb I d8;clear I d8 h0;go_wp2_with fail;go_roundw
   case measure=>simp[intOf];omega
   exact⟨j+1,d2,q.2,by go_num,g3,hY (f6.o.more d0.o.1),i2,i1⟩
  have g0:(q.1==0)=false:=eA.2 h0;have I:=c6.o;rw[HQ.o,ez h0]at I;have hs:=HS.o;rw[<-I,ez h0]at hs;subst hs;have HG:=hY (f6.o.more (m:=Qb8 m M) (ak d0.o.1 d0.o.2));have N:=HG.o.go.sb.blk a1.o (λe=>by have:=HH.o.ov.Qbe e;omega);have c4:w6.cell? ⟨w.heap.size+1+1,0,none⟩=some (.int .i64 0):=N.cell 0;have f4:=N.frozen 0;have H0:=hY h0;clear N I h0;go_wp2_with fail;refine e9 (f:=165) (args:=#[.pointer (some ⟨w.heap.size+1+1,0,none⟩),.pointer (some ⟨w.heap.size,0,none⟩),.pointer (some ⟨w1.heap.size,0,none⟩)]) sM (by simp[go_sem]) ?_;refine(Qco (code:=q.1) (fT a2.o) a7.o (λb e=>HH.o.ov.Qbe e) HG.o (by have:=HG.o.few;have:=HD.o;omega) a1.o a6.o d7.o oM oM (by have:=HZ.o;omega) oM (by have:=HZ.o;omega)).mono ?_;rintro e u' a4 ⟨rfl,rfl,Z,d2,hg⟩;have q4:a4.cell? ⟨w.heap.size+1+1,0,none⟩=some (.int .i64 q.1):=Z.cell 0;have a3:=(show ∃d',GoX H w O d M (noB q.1 (Qb8 m M)) a4 d' from⟨d2,by simp only[if_neg H0.o]at hg;exact hg⟩);clear Z hg;simp[Leaves,settle,results,results131,go_sem,q4,a3]
 obtain rfl:j=m.l.length:=oM
 have l1:decide ((m.l.length:Int)<(m.l.length:Int))=false:=ew oM;have I:=g9.o;rw[cQ,QkQ]at I;have hs:=HS.o;rw[<-I,ev (λh=>h rfl)]at hs;subst hs;have HG:=hY (a0.o.more (m:=Qb8 m M) (by rw[aU];exact ce _ (by rw[Qf7];omega)));have N:=HG.o.go.sb.blk a1.o (λe=>by have:=HH.o.ov.Qbe e;omega);have c4:wr.cell? ⟨w.heap.size+1+1,0,none⟩=some (.int .i64 0):=N.cell 0;have f4:=N.frozen 0;clear N I;go_wp2_with fail;refine e9 (f:=165) (args:=#[.pointer (some ⟨w.heap.size+1+1,0,none⟩),.pointer (some ⟨w.heap.size,0,none⟩),.pointer (some ⟨w1.heap.size,0,none⟩)]) sM (by simp[go_sem]) ?_;refine(Qco (code:=0) (fT a2.o) a7.o (λb e=>HH.o.ov.Qbe e) HG.o (by have:=HG.o.few;have:=HD.o;omega) a1.o a6.o d7.o oM oM (by have:=HZ.o;omega) oM (by have:=HZ.o;omega)).mono ?_;rintro e u' a4 ⟨rfl,rfl,Z,d2,hg⟩;have q4:a4.cell? ⟨w.heap.size+1+1,0,none⟩=some (.int .i64 0):=Z.cell 0;have a3:=(show ∃d',GoX H w O d M1 (noB 0 (Qb8 m M)) a4 d' from⟨d2,hg⟩);clear Z hg;simp[Leaves,settle,results,results131,go_sem,q4,a3]
theorem Qmm{v:Val}(Z:wfV v)(h:Qd9 v=true):QcI v<=7168:=by
 obtain⟨k,b,i,t,l,ok,ov⟩:=v;simp only[Qd9,Val.kind,Val.b,Val.i,Val.t,Val.l,Val.ok,Bool.and_eq_true,beq_iff_eq,Bool.not_eq_true']at h;obtain⟨⟨⟨⟨⟨-,-⟩,-⟩,h1⟩,h2⟩,h3⟩:=h;have I:l=[]:=av h2;have N:ok=[]:=av h3;subst I N;unfold wfV at Z;have h4:ov=[]:=av Z.1.symm;subst h4;rw[QcI,QdR,QfL,h1];decide
theorem QrC{k:ByteArray}(h:Qci k=0):k.size<=64:=by
 unfold Qci at h;split at h
 .cases h
 split at h
 .cases h
 omega
theorem QlR{k:ByteArray}(h:Qol k=true):k.size<=64:=by
 unfold Qol at h;simp only[Bool.and_eq_true,decide_eq_true_eq]at h;exact h.1
variable{F:Nat->Prop}
theorem QrJ{m:Mu}(h:RMu w F m c):∀q,QaS m q=0->QcC m<=14472*Qa0 m:=by
 induction h with
 | @mk kd k tk i had was has v l c bl fl cl rw_ rv hl el rl bk bt bkd bi nl ih=>
   intro q I;rw[QaS]at I;split at I
   .cases I
   rename_i c1;split at I
   .cases I
   split at I
   .cases I
   rename_i c3;split at I
   .rename_i c4;simp only[Bool.and_eq_true,bne_iff_ne]at c4;exact absurd I c4.2
   rename_i c4;split at I
   .rename_i c5;simp only[Bool.and_eq_true,bne_iff_ne]at c5;exact absurd I c5.2
   rename_i c5;have hb:QbJ kd k tk i had was has v l.length=true:=by simpa using c1
   have N:QgF kd k tk had=true:=by simpa using c3
   unfold QbJ at hb;simp only[Bool.and_eq_true]at hb;obtain⟨⟨⟨⟨⟨⟨⟨-,b2⟩,-⟩,-⟩,-⟩,b6⟩,b7⟩,-⟩:=hb;have hk:k.size<=64/\tk.size<=64:=by
    unfold QgF at N;by_cases h6:kd=6
    ·rw [ez h6,bv] at N
     exact⟨QlR N.1,QlR N.2⟩
    rw[ev h6]at N;have ht:tk.size=0:=by simpa[h6]using b2
    by_cases h7:kd=7/\k.size=0
    .omega
    rw[ev h7]at N;have:=QrC (k:=k) (by simpa using N);omega
   have hw:QcI was<=7168:=by
    cases Z:had with
    | true=>
      rw[Z]at c4;have hf:QcP was=0:=by simpa using c4
      exact okV.cnt ⟨rw_.wf,hf⟩
    | false=>
      rw[Z]at b6;exact Qmm rw_.wf (by simpa using b6)
   have hv:QcI v<=7168:=by
    cases Z:QhW kd has with
    | true=>
      rw[Z]at c5;have hf:QcP v=0:=by simpa using c5
      exact okV.cnt ⟨rv.wf,hf⟩
    | false=>
      unfold QhW at Z;rw[Z]at b7;exact Qmm rv.wf (by simpa using b7)
   have a0:∀(l:List Mu) (q:Nat),(∀(j:Nat) (x:Mu),l[j]? = some x->∀q,QaS x q=0->QcC x<=14472*Qa0 x)->Qb5 l q=0->Qcc l<=14472*QaF l:=by
    intro l
    induction l with
    |nil=>intro q _ _;rw[Qcc];omega
    | cons a r ihr=>
      intro q Z I;rw[Qb5]at I;by_cases h0:QaS a q=0
      ·rw [ev (fun e=>e h0)] at I
       have h1:=Z 0 a rfl q h0;have h2:=ihr q (λj x hj=>Z (j+1) x (by simpa using hj)) I;rw[Qcc,QaF];omega
      rw[ez h0]at I;exact absurd I h0
   have:=a0 l (q+1) (λj x hj=>ih j x hj) I;rw[QcC,Qa0];omega
theorem QtQ{m:Mu}(h:RMu w F m c)(I:QbP m=0):QcC m<=1000000:=by
 unfold QbP at I;split at I
 .cases I
 have:=QrJ h 1 I;omega
variable{q:Nat}
theorem QpI{m:Mu}(h:QaS m q=0):QgF m.kd m.k m.tk m.had=true/\Qb5 m.l (q+1)=0:=by
 rw[Qc9]at h;split at h
 .cases h
 split at h
 .cases h
 split at h
 .cases h
 rename_i hk;split at h
 ·rename_i h1
  simp[h]at h1
 split at h
 ·rename_i h1
  simp[h]at h1
 exact⟨by simpa using hk,h⟩
theorem looks_at:∀{l:List Mu} {q j:Nat} {x:Mu},Qb5 l q=0->l[j]? = some x->QaS x q=0
 |[],q,j,x,_,hx=>by simp at hx
 | m :: r,q,0,x,h,hx=>by
   obtain rfl:m=x:=by simpa using hx
   rw[Qb5]at h;by_cases I:QaS m q=0
   .exact I
   rw[ez I]at h;exact h
 | m :: r,q,j+1,x,h,hx=>by
   rw[Qb5]at h;by_cases I:QaS m q=0
   ·rw [ev (fun e=>e I)] at h
    exact looks_at (l:=r) (j:=j) h (by simpa using hx)
   rw[ez I]at h;exact absurd h I
theorem Qs8(n:Nat):∀(m:Mu) (q:Nat),SizeOf.sizeOf m<=n->QaS m q=0->∀(c:MuS) (H:Nat->Prop) (w:World) (O:Nat) (d:OD) (M:List Ent),OvX H w O d M->(∀b,H b->b<w.heap.size)->(∀b,b<6->H b)->RMu w (λb=>b<w/\¬OvB O d b) m c->Qb4 w->
  d.us.length+Qb8 m M<=1000000->(Qaa d.T).length<=1000000->QcC m<=1000000->
  Calls prog 131 #[.pointer (some ⟨O,0,none⟩),Qaz m c] w λe w'=>e=.returned (.int .i64 (stepM m M).1)/\∃d',GoX H w O d (stepM m M).2 (noB (stepM m M).1 (Qb8 m M)) w' d':=by
 induction n with
 |zero=>intro m q h;have:=Mu.Qb6 m;omega
 | succ n ih=>
   intro m q hn hq c H w O d M h hH Z hm N hd hl I;by_cases k1:m.kd=1
   .exact Qo0 h hH Z hm N hd hl I k1
   by_cases k2:m.kd=2
   .exact Qo1 h hH Z hm N hd hl I k2
   by_cases k3:m.kd=3
   .exact Qo2 h hH Z hm N hd hl I k3
   by_cases k4:m.kd=4
   .exact Qo3 h hH Z hm N hd hl I k4
   by_cases k5:m.kd=5
   .exact Qo4 h hH Z hm N hd hl I k5
   by_cases k6:m.kd=6
   .exact Qo5 h hH Z hm N hd hl I k6
   by_cases k7:m.kd=7
   ·obtain ⟨hk,hs⟩:=QpI hq
    refine Qo6 h hH Z hm N hd hl I k7 (λh0=>?_) λj x hx y H' W O' d' M' h1 h2 h3 h4 h5 h6 h7 h8=>(ih x (q+1) (by have:=Mu.Qsr hx;omega) (looks_at hs hx) y H' W O' d' M' h1 h2 h3 h4 h5 h6 h7 h8).mono λe w' ⟨p1,p2,p3⟩=>⟨p1,p2,p3.more (QsF _ _)⟩
    unfold QgF at hk;rw[ev oM,ez ⟨k7,h0⟩]at hk;simpa using hk
   exact Qo7 h hH Z hm N hd hl I ⟨k1,k2,k3,k4,k5,k6,k7⟩
theorem Qs7{m:Mu}(Z:QaS m q=0)(h:OvX H w O d M)(hH:∀b,H b->b<w.heap.size)(hG:∀b,b<6->H b)(hm:RMu w (λb=>b<w/\¬OvB O d b) m c)(N:Qb4 w)
  (hd:d.us.length+Qb8 m M<=1000000) (hl:(Qaa d.T).length<=1000000) (I:QcC m<=1000000) :
  Calls prog 131 #[.pointer (some ⟨O,0,none⟩),Qaz m c] w λe w'=>e=.returned (.int .i64 (stepM m M).1)/\∃d',GoX H w O d (stepM m M).2 (noB (stepM m M).1 (Qb8 m M)) w' d':=Qs8 _ m q (ao _) Z c H w O d M h hH hG hm N hd hl I
theorem QrP{m:Mu}(h:QbP m=0):QaS m 1=0:=by
 unfold QbP at h;split at h
 .cases h
 exact h
theorem QtZ{m:Mu}(h:OvX H w O d M)(hH:∀b,H b->b<w.heap.size)(hG:∀b,b<6->H b)(hm:RMu w (λb=>b<w/\¬OvB O d b) m c)(hL:Qb4 w)
  (hd:QbP m=0->d.us.length+Qb8 m M<=1000000) (hl:(Qaa d.T).length<=1000000) (ht:QcC m<=1100000) :
  Calls prog 95 #[.pointer (some ⟨O,0,none⟩),Qaz m c] w λe w'=>e=.returned (.int .i64 (runM M m).1)/\∃d',GoX H w O d (runM M m).2 (noB (runM M m).1 (Qb8 m M)) w' d':=by
 have a1:∀W,Nw w W->RMu W (λb=>b<W/\¬OvB O d b) m c:=λW N=>(hm.agree (fY N λb Z=>Z.1)).mono λb Z=>⟨Nat.lt_of_lt_of_le Z.1 N.size,Z.2⟩
 have a0:=λW (N:Nw w W)=>QrL ((a1 W N).mono (G:=Lt W) λb Z=>Z.1) ht (hL.nw N)
 have a3:=λ(I:QbP m=0) W (N:Nw w W)=>Qs7 (q:=1) (QrP I) (h.nw N) (λb Z=>ab (hH b Z) N.size) hG (a1 W N) (hL.nw N) (hd I) hl (QtQ hm I)
 obtain⟨r,hr⟩:∃r,runM M m=r:=⟨_,rfl⟩;rw[hr];obtain⟨HR,a9,b3,HH⟩:=Ye hr a0 a3 h;clear h hH hG hm hL hd hl ht a1 a0 a3 hr;go_in;go_upto_region 1 with fail;generalize a4:World.alloc _ _=W0;obtain⟨a5,a7,b4⟩:=QaB (m:=m) (c:=c) a4;obtain⟨a8,a6⟩:=Yb (fT a5) a7;clear a4 a5 a7 b4;go_wp2_with(refine Qah rfl (.tmp 3) rfl w.heap.size 0 rfl m c a6.o ?_);refine(a9.o _ a8.o).mono ?_;rintro e w1 ⟨rfl,hn⟩;obtain⟨a2,b0⟩:=Yb (a8.o.trans hn) (a6.o.nw hn);clear hn;by_cases I:QbP m=0
 ·have g0:(QbP m == 0)=true:=by simp [I]
  have hs:stepM m M=r:=by rw[<-HR.o];unfold runM;rw[ev (λe=>e I)]
  have hc:=b3.o I w1 a2.o;rw[hs]at hc;have HC:=hY hc;clear I hs hc;go_wp2_with(refine Qah rfl (.tmp 3) rfl w.heap.size 0 rfl m c b0.o ?_);refine HC.o.mono ?_;rintro e w2 ⟨rfl,d1,hg⟩;have HG:=hY (hg.since a2.o);clear hg;go_wp2_with fail;go_ret;exact⟨rfl,d1,HG.o⟩
 have g0:(QbP m==0)=false:=eA.2 I;have hs:r=(QbP m,M):=by rw[<-HR.o];unfold runM;rw[ez I]
 subst hs;clear I;go_wp2_with fail;go_ret;exact⟨rfl,d,HH.o.stay a2.o⟩
theorem QtJ{m:Mu}(h:(runM M m).1≠0):(runM M m).2=M:=by
 unfold runM at h ⊢;split at h
 .rw [ez (by assumption)]
 rename_i h1;rw[ev h1];exact Qcb h
variable{T:RT}
theorem QsT{m:Mu}(hT:IsT w F T)(hF:∀b,F b->6<=b/\b<w.heap.size)(ok:OkR T)(hM:OkM (Qaa T))(hm:RMu w (Lt w.heap.size) m c)(hL:Qb4 w)(hd:QbP m=0->(Qaa T).length+Qb8 m (Qaa T)<=1000000)(hl:(Qaa T).length<=1000000)(ht:QcC m<=1100000) :
  Calls prog 61 #[Qao T,Qaz m c] w λe w'=>∃T',e=.returned (.tuple #[Qao T',.int .i64 (runM (Qaa T) m).1])/\OkR T'/\IsT w' (Up F w w') T'/\Qaa T'=(runM (Qaa T) m).2/\OkM (runM (Qaa T) m).2/\Nw w w'/\((runM (Qaa T) m).2=Qaa T->T'=T):=by
 obtain⟨r,hr⟩:∃r,runM (Qaa T) m=r:=⟨_,rfl⟩;rw[hr];obtain⟨HR,e6⟩:=Yb hr (show r.1≠0->r.2=Qaa T fromλh=>by rw[<-hr]at h ⊢;exact QtJ h);obtain⟨p,hp⟩:=Qaj T;obtain⟨HP,HT,HF,d4,e8,HM,HL⟩:=Yh hp hT hF ok hM hm hL;obtain⟨HD,f9,f7,e0⟩:=Ye hd ht hl (show r.1=0->QbP m=0 fromλh=>by rw[<-hr]at h;unfold runM at h;split at h<;>simp_all);rw[Qao,hp];clear hr hp hT hF ok hM hm hL hd ht hl;go_in;go_upto_region 1 with fail;generalize c1:World.alloc _ _=W0;obtain⟨a0,d5,b6,c2,c6⟩:=Qal w _ _ _ _ _ _ W0 c1;clear c1;have c0:W0.cell? ⟨w.heap.size,0,none⟩=some (.pointer p):=b6.cell 0;have e4:=fT a0;have a1:=Qq5 (w:=W0) (F:=F) (H:=λb=>b<W0.heap.size/\¬F b) (T:=T) (HT.o.agree (a0.agree λb I=>(HF.o b I).2)) d4.o (λb I=>⟨Nat.lt_of_lt_of_le (HF.o b I).2 a0.size,λe=>e.2 I⟩) (λb I=>I.1);rw[Qao,HP.o]at a1;obtain⟨g3,b9,f8,f5,d6,b0⟩:=Yg a1 a0 b6 c6 (gd c2) d5;clear a0 e4 b6 c2 c6 d5 a1;go_wp2_with fail;refine g3.o.mono ?_;rintro e w1 ⟨O,rfl,hO,c9,a3⟩;have Z:=(fT b9.o).trans (fT a3);have b4:OvX (λb=>b<W0.heap.size/\¬F b) w1 O (od0 T) (Qaa T):=⟨c9,QiZ.start e8.o⟩;have a8:=QtZ (m:=m) (c:=c) b4 (λb I=>ab I.1 a3.size) (λb I=>⟨Nat.lt_of_lt_of_le I (HL.o.nw (fT b9.o)).lib.big,λe=>by have:=(HF.o b e).1;omega⟩) ((HM.o.agree (fY Z λb I=>I)).mono λb I=>⟨Nat.lt_of_lt_of_le I Z.size,λe=>by
  have g9:b<w.heap.size:=I;have hz:=b0.o;rcases e with e|e|e
  .omega
  .cases e
  cases e⟩) (HL.o.nw Z) (λh0=>by show 0+_<=_;have:=HD.o h0;omega) f7.o f9.o
 rw[HR.o]at a8;obtain⟨e1,g6,d8,b5,c3,HO⟩:=Yg a8 b4 Z a3 (d6.o.ext a3) hO;clear a8 b4 Z a3 c9 hO c0;go_wp2_with(refine Qah rfl (.tmp 3) rfl (w.heap.size+1) 0 rfl m c c3.o ?_);refine e1.o.mono ?_;rintro e w2 ⟨rfl,d1,hg⟩;obtain⟨HG,d0⟩:=Yb hg (show OkM r.2 from hg.rel.ok);have N:∀b,b<W0.heap.size->¬OvB O (od0 T) b:=λb I e=>by
  have:=HO.o;rcases e with e|e|e
  .omega
  .cases e
  cases e
 have g8:=hY N;have hz:=b0.o;have a9:=hg.go.sb.blk (f8.o.ext b5.o) (N _ oM);have a2:=hg.go.sb.blk (f5.o.ext b5.o) (N _ oM);have d3:=hY a2;have q0:w2.cell? ⟨w.heap.size,0,none⟩=some (.pointer p):=a9.cell 0;have q2:∃z,w2.cell? ⟨w.heap.size+1+1,0,none⟩=some z:=⟨_,a2.cell 0⟩;have f2:=a2.frozen 0;have b3:=hY (show Nw w w2 from d8.o.comp hg.go.sb λi hi e=>N i oM e);obtain⟨z,q2⟩:=q2;by_cases h0:r.1=0
 ·have g0:(r.1 == 0)=true:=by simp [h0]
  have a6:=QvR hg.at_ (by rw[hg.T];have h1:=ak hg.few (Nat.add_le_add_left (QsF _ _) _);have h2:=hg.go.at_.few;have h3:=HD.o (e0.o h0);have h4:(od0 T).us.length=0:=rfl;have h5:(Qaa (od0 T).T).length=(Qaa T).length:=rfl;omega);obtain⟨c4,H0⟩:=Yb a6 h0;clear hg N hz a9 a2 h0 a6;go_wp2_with fail;refine c4.o.mono ?_;rintro e w3 ⟨T',rfl,f6,c7,c8,a4,a7⟩;obtain⟨p',b7⟩:=Qaj T';have a5:=a4.blk d3.o;have q3:=a5.cell 0;have f3:=a5.frozen 0;obtain⟨f1,g5,e7,f0,g4,f4,d7⟩:=Yh a5 b7 (b3.o.trans a4) a4 c7 c8 (show r.2=Qaa T->T'=T fromλh=>by have h1:=HG.o.T;rw[h1]at a7;exact a7 h);rw[Qao,b7];clear a5 a4 c7 c8 b7 q0 q2 f2 a7;go_wp2_with fail;generalize hW:World.setCell _ _ _=W;have hs:Sb (λi=>i=w.heap.size+1+1) w3 W:=by rw[<-hW];exact(fW (λi=>i=w.heap.size+1+1) w3).set (p:=⟨w.heap.size+1+1,0,none⟩) (.inr rfl) _
  have I:Blk W (w.heap.size+1+1) 48 #[.pointer p']:=by rw[<-hW];exact f1.o.QbH 0 (.pointer p')
  have q4:W.cell? ⟨w.heap.size+1+1,0,none⟩=some (.pointer p'):=I.cell 0;clear hW q3 f3;refine eE (v:=.tuple #[.agg #[.pointer p'],.int .i64 0]) (by simp[results,results61,go_sem,q4]) rfl ?_;refine⟨T',by rw[Qao,g5.o,H0.o],f6,?_,f4.o,d0.o,e7.o.comp hs λi hi e=>oM,d7.o⟩;have g7:=b0.o;refine(g4.o.agree (F:=Up (OvF (λb=>b<W0.heap.size/\¬F b) w2 O d1) w2 w3) λb I=>hs.block b ?_ ?_).mono λb I=>?_
  all_goals
   have s1:=f0.o.size;have s2:=hs.size;have s3:=b3.o.size;have s4:=HL.o.lib.big;have s5:=b5.o.size;have s6:=HG.o.go.sb.size
  ·rcases I with e | e
   .exact ab e.1 s1
   exact e.2
  ·intro e2
   rcases I with e|e
   .exact e.2.2 ⟨oM,λe3=>by have:=(HF.o b e3).2;omega⟩
   omega
  rcases I with e|e
  ·by_cases hf:F b
   .exact .inl hf
   have h1:=e.1;by_cases h2:b<W0.heap.size
   .exact absurd ⟨h2,hf⟩ e.2.2
   exact .inr ⟨oM,oM⟩
  exact .inr ⟨oM,oM⟩
 have g0:(r.1==0)=false:=eA.2 h0;have H0:=hY h0;clear hg N hz a9 a2 h0;go_wp2_with fail;generalize hW:World.setCell _ _ _=W;have hs:Sb (λi=>i=w.heap.size+1+1) w2 W:=by rw[<-hW];exact(fW (λi=>i=w.heap.size+1+1) w2).set (p:=⟨w.heap.size+1+1,0,none⟩) (.inr rfl) _
 have I:Blk W (w.heap.size+1+1) 48 #[.pointer p]:=by rw[<-hW];exact d3.o.QbH 0 (.pointer p)
 have q4:W.cell? ⟨w.heap.size+1+1,0,none⟩=some (.pointer p):=I.cell 0;have b8:Nw w W:=b3.o.comp hs λi hi e=>oM
 clear hW q0 q2 f2;refine eE (v:=.tuple #[.agg #[.pointer p],.int .i64 r.1]) (by simp[results,results61,go_sem,q4]) rfl ?_;exact⟨T,by rw[Qao,HP.o],d4.o,(HT.o.agree (fY b8 λb I=>(HF.o b I).2)).mono λb I=>.inl I,(e6.o H0.o).symm,d0.o,b8,λ_=>rfl⟩
theorem QmB(w:World)(F:Nat->Prop){n:Int}(I:(Lit.int .i64 n).wf=true):RV w F (Qi0 n) Sl.none Sl.none:=RV.flat _ _ _ _ _ _ oN I oN
variable{g:Nat}{xs:List LE}
theorem Qud(I:Blk w g 78 (QaD xs).toArray)(N:∀x∈xs,RV w (Lt w) x.v x.sl x.so/\x.k.size<=maxLen)(Z:xs.length<=1000000):ES w (Lt w) ⟨some ⟨g,0,none⟩,xs.length⟩ xs:=
 ⟨(ge (cs:=QaD xs) (n:=xs.length) (size:=7) I (ak Z oN) (QcR xs)).mono λi hi=>by subst hi;exact I.lt,N,oM⟩
theorem QpP{kd:Int}{k tk:ByteArray}{i:Int}{Z:Bool}{I:Val}{N:Bool}{v:Val}{a1 a2 a3 a4:Sl}(h1:RV w F I a1 a2)(h2:RV w F v a3 a4)(bk:k.size<=maxLen)(bt:tk.size<=maxLen)(a0:(Lit.int .i64 kd).wf=true)(bi:(Lit.int .i64 i).wf=true) :
  RMu w F (.mk kd k tk i Z I N v []) ⟨a1,a2,a3,a4,Sl.none⟩:=
 .mk 0 0 (λ_=>default) h1 h2 (.nil _ _) (λj m h=>by simp at h) (λj m h=>by simp at h) bk bt a0 bi sM
section
variable{P : Program}{c : Code}{Q : Exit -> Act -> World -> Prop}{a : Act}{w : World}
def QnK(tm:Array Value):List (Nat × Value)->Array Value
 |[]=>tm
 |(i,v)::l=>QnK (tm.setIfInBounds i v) l
def QuH(R:Act->World->Prop):Exit->Act->World->Prop
 |.normal,a,w=>R a w
 |_,_,_=>False
theorem QrX{R:Act->World->Prop}(h:R a w):QuH R .normal a w:=h
theorem Qss(N:World->Nat->Value->Prop)(Z:List Nat)(last:Nat->Value->List (Nat × Value))
  (h1:c.wp P (QuH λI w'=>∃b u,N w' b u/\I.defers=a.defers/\I.tmps=QnK a.tmps ((Z.map λd=>(d,I.tmps.getD d undef))++last b u)) a w)
  (h2:∀(w':World) (b:Nat) (u:Value) (vs:Nat->Value),N w' b u->Q .normal { tmps:=QnK a.tmps ((Z.map λd=>(d,vs d))++last b u),defers:=a.defers } w'):c.wp P Q a w:=
 wp_mono h1 λe I w' h=>by
  cases e with
  | normal=>
    obtain⟨b,u,hr,hd,ht⟩:=h;have:=h2 w' b u (λd=>I.tmps.getD d undef) hr;rw[<-ht,<-hd]at this;exact this
  |_=>exact h.elim
end
theorem Qb2{X W:World}{c:Array Value}{t:TypeId}(h:X.alloc (.cells c t)=W):Ext X W/\Blk W X.heap.size t c/\X.heap.size<W.heap.size:=by
 rw[<-h];exact⟨(fQ X).alloc _ _,fU X _ _,by rw[eB];omega⟩
theorem QpW(h:Nw w0 w){b o:Nat}(I:w0<=b)(v:Value):Nw w0 (w.setCell ⟨b,o,none⟩ v):=
 h.comp ((fW (λi=>i=b) w).set (p:=⟨b,o,none⟩) (.inr rfl) v) λi hi e=>oM
theorem Qum(h:IsT w F T){b o:Nat}(I:¬F b)(hF:∀b,F b->b<w.heap.size)(v:Value):IsT (w.setCell ⟨b,o,none⟩ v) F T:=
 h.agree λi hi=>((fW (λi=>i=b) w).set (p:=⟨b,o,none⟩) (.inr rfl) v).block i (hF i hi) λe=>I (e▸hi)
def QtY(E:List Ent)(n:Nat)(w':World)(b:Nat):Prop:=∃T p,QaK T=.pointer p/\OkR T/\Qaa T=E/\IsT w' (λi=>n<=i/\i<w'.heap.size/\i≠b) T/\Blk w' b 48 #[.pointer p]/\n<=b
variable{E:List Ent}
theorem Qq6{p:Option Addr}{b:Nat}(N:QaK T=.pointer p)(ok:OkR T)(he:Qaa T=E)(I:IsT w F T)(Z:Blk w b 48 #[z])(hl:n<=b)(hF:∀i,F i->n<=i/\i<w.heap.size/\i≠b) :
  QtY E n (w.setCell ⟨b,0,none⟩ (.pointer p)) b:=
 ⟨T,p,N,ok,he,(Qum I (λh=>(hF b h).2.2 rfl) (λi hi=>(hF i hi).2.1) _).mono λi hi=>⟨(hF i hi).1,ab (hF i hi).2.1 ((fW (λi=>i=b) w).set (p:=⟨b,0,none⟩) (.inr rfl) (.pointer p)).size,(hF i hi).2.2⟩,Z.QbH 0 (.pointer p),hl⟩
abbrev zS:MuS:=⟨Sl.none,Sl.none,Sl.none,Sl.none,Sl.none⟩
theorem QpQ(w:World)(F:Nat->Prop){k:ByteArray}{n:Int}(N:k.size<=maxLen)(I:(Lit.int .i64 n).wf=true):RMu w F (Qfg k n) zS:=QpP (Qdd _ _) (Qdd _ _) N oN oN I
theorem Quv(w:World)(F:Nat->Prop){k:ByteArray}(I:k.size<=maxLen):RMu w F (Qil k) zS:=QpP (Qdd _ _) (Qdd _ _) I oN oN oN
theorem Qsb{k:ByteArray}{n:Int}(hk:k.size<=maxLen)(wn:(Lit.int .i64 n).wf=true) :
  Calls prog 28 #[.agg #[.pointer none],.string k,Qvu n] w λe w'=>∃T p,e=.returned (.agg #[.pointer p])/\QaK T=.pointer p/\OkR T/\Qaa T=[(k,Qi0 n)]/\IsT w' (In w.heap.size w'.heap.size) T/\Ext w w':=by
 have h:=Qqf (w:=w) (F:=λ_=>False) (T:=none) (λb h=>h.elim) trivial trivial oN hk (QmB w (Lt w) wn);refine h.mono ?_;rintro e w' ⟨T,rfl,I,Z,hx⟩;obtain⟨p,N⟩:=Qaj T;exact⟨T,p,by rw[Qao,N],N,I.ok trivial,by rw[I.ents trivial];rfl,Z.mono λb hb=>hb.elim (λh=>h.elim) id,hx⟩
def QbD(l:List Mu)(M:List Ent):List Int × List Ent:=l.foldl (λp m=>(p.1++[(runM p.2 m).1],(runM p.2 m).2)) ([],M)
theorem Qf4{l:List Mu}{x:Mu}(h:l[j]? = some x)(M:List Ent):QbD (l.take (j+1)) M=((QbD (l.take j) M).1++[(runM (QbD (l.take j) M).2 x).1],(runM (QbD (l.take j) M).2 x).2):=by
 rw[aT,h];unfold QbD;show((l.take j)++[x]).foldl _ _=_;rw[dW];rfl
theorem QgA(l:List Mu)(M:List Ent):∀j,j<=l.length->(QbD (l.take j) M).1.length=j
 |0,_=>rfl
 | j+1,h=>by
   rw[Qf4 (ac (show j<l.length by omega)),aj,QgA l M j oM];rfl
theorem Qqo{x:Mu}:(runM E x).2.length<=E.length+64:=by
 unfold runM;by_cases h:QbP x=0
 ·rw [ev (by simp [h])]
  have hs:Qa0 x<=64:=by unfold QbP at h;split at h<;>omega
  have:=Qkv x E;omega
 rw[ez h];exact dH _ _
theorem QeN(l:List Mu)(M:List Ent):∀j,(QbD (l.take j) M).2.length<=M.length+64*j
 |0=>ao _
 | j+1=>by
   have N:=QeN l M j;cases I:l[j]? with
   |none=>rw[aT,I];show(QbD (l.take j++[]) M).2.length<=_;rw[aY];omega
   | some x=>
     rw[Qf4 I];have:=Qqo (E:=(QbD (l.take j) M).2) (x:=x);dsimp only;omega
def QbK(last:Int)(l:List Nm):List Nm:=l.filter λn=>decide (last<n.id)
theorem Qnq(last:Int)(l:List Nm)(x:Nm):QbK last (l++[x])=if last<x.id then QbK last l++[x]else QbK last l:=by
 unfold QbK;rw[cz];by_cases h:last<x.id
 .rw [ez h];simp[h]
 rw[ev h];simp[h]
theorem QgH(last:Int)(l:List Nm):(QbK last l).length<=l.length:=bZ _ _
abbrev kN:ByteArray:=⟨#[110]⟩
abbrev QkP(n:Int):List Ent:=[(kN,Qi0 n)]
theorem mKN:Qci kN=0:=by decide +kernel
theorem Quq:klt kN kN=false:=by decide +kernel
theorem Qty{n:Int}(I : -9223372036854775808<=n)(h1:n<=9223372036854775807):OkM (QkP n):=
 ⟨by unfold Sorted;simp,λe N=>by rw[bc.1 N];exact⟨mKN,QuE I h1⟩⟩
theorem Qqt{n:Int}(I : -9223372036854775808<=n)(h1:n<=9223372036854775807):setMu M kN (Qlb n)=(0,QbY M kN (Qi0 n)):=by
 unfold setMu;have N:QcP (Qlb n)=0:=Qpd I h1;rw[ev (by simp[mKN]),ev (by simp[N])];rfl
theorem Qtf{n:Int}(I:0<=n)(h1:n<=1000):runM (QkP n) (Qfg kN 1)=(0,QkP (n+1)):=by
 rw[Qqp mKN oN];unfold Qeb;rw[show Qaq (QkP n) kN=some (Qi0 n)by simp[Qaq]];show(if(3:Int)≠3 then _ else Qoy _ _ n 1)=_;rw[ev sM];unfold Qoy;rw[ev oM,Qqt oM oM];simp[QbY,Quq]
theorem Ql8:runM [] (Qfg kN 1)=(0,QkP 1):=by
 rw[Qqp mKN oN];unfold Qeb;rw[show Qaq [] kN=none from rfl];show Qoy _ _ 0 1=_;unfold Qoy;rw[ev oM,Qqt oM oM];rfl
theorem QoX:runM M (Qil kN)=if(Qaq M kN).isSome then(0,QbM M kN)else(12,M):=by
 unfold runM;rw[ev (by simp[QrN mKN oN]),stepM,ev oN,ez rfl]
theorem QoY(n:Int):runM (QkP n) (Qil kN)=(0,[]):=by
 rw[QoX,show Qaq (QkP n) kN=some (Qi0 n)by simp[Qaq]];simp[QbM,Quq]
theorem Qrf:runM [] (Qil kN)=(12,[]):=by rw[QoX];rfl
abbrev lK:List Mu:=[Qfg kN 1,Qil kN,Qfg kN 1]
theorem Qui:QbD lK (QkP 5)=([0,0,0],QkP 1):=by
 unfold QbD;simp only[List.foldl_cons,List.foldl_nil,Qtf (n:=5) oN oN,QoY,Ql8];rfl
theorem QsB:QbD (lK.drop 1) []=([12,0],QkP 1):=by
 unfold QbD;simp only[List.drop_succ_cons,List.drop_zero,List.foldl_cons,List.foldl_nil,Qrf,Ql8];rfl
theorem Tryz.Qpn:(prog.info? 39).map (·.size)=some 20:=kM
theorem Tryz.Qcz:(prog.info? 39).map (λi=>(i.zero,i.size,i.bytes))=some (some (QqR ⟨0,.mk 0 ByteArray.empty ByteArray.empty 0 false zeroV false zeroV []⟩ ⟨Sl.none,Sl.none,Sl.none,Sl.none,Sl.none⟩),20,272):=kM
variable{ops:Array Oper}{a:Act}{Q:Exit->Act->World->Prop}
theorem QjZ{rest:List Oper}{op:Oper}(I:op.guard=none)(x:Operand)(ho:op.op=.load 39 x)
  (b o:Nat) (N:a.eval x=.pointer (some ⟨b,o,none⟩)) (m:Nm) (c:MuS) (Z:NmC w b o m c) (h:wpList prog ops Q rest (a.put op.dst (QqR m c)) w):wpList prog ops Q (op::rest) a w:=
 wpList_load_mid I 39 x ho b o N (Qbw m c) _ Z.range underlying39 rfl (by rw[Qtp];exact Tryz.Qpn) h
variable{vs:List Value}
theorem Qjf{w v:World}{b:Nat}{T:TypeId}{z:Array Value}(hz:Blk w b T z)(hs:z.size=vs.length)(h:w.setCells b 0 vs=v):Blk v b T vs.toArray:=by
 subst h;have N:w.there b 0 vs.length:=Qe3 hz (by rw[hs];exact ao _);have hr:=fI w b 0 vs N;obtain⟨z',h1,h2⟩:=Qcv vs 0 hz;have I:z'.toList=vs:=by
  refine bK λj=>?_
  rw[bS];by_cases hj:j<vs.length
  ·obtain ⟨v,hv⟩:∃ v,vs[j]? = some v:=⟨_,ac hj⟩
   have h3:=hr j v hv;rw[aI,h1.cell]at h3;rw[h3,hv]
  rw[Array.getElem?_eq_none oM,aL oM]
 have Z:z'=vs.toArray:=dF.1 (I.trans (bX).symm);exact Z▸h1
theorem Qnb{rest:List Oper}{op:Oper}(N:op.guard=none)(hd:op.dst=none){T:TypeId}{x y:Operand}(ho:op.op=.store T x y)
  (vs:List Value) (hi:(prog.info? T).map (·.size)=some vs.length) (h1:∀u∈vs,u.oneCell'=true) {b:Nat} (hb:w0.heap.size=b) (hw:Ext w0 w) {z:Array Value} (Z:Blk w b T z) (I:z.size=vs.length) (hx:a.eval x=.pointer (some ⟨b,0,none⟩)) (hy:a.eval y=.agg vs.toArray)
  (h:∀w',Ext w0 w'->Blk w' b T vs.toArray->wpList prog ops Q rest a w'):wpList prog ops Q (op::rest) a w:=by
 refine fq N T x y ho b 0 vs.toArray hx hy (Qe3 Z (by rw[I,bm];exact ao _)) (by rw[hi,bm]) (fF h1) ?_;have e:vs.toArray.toList=vs:=bX;have ep:a.put op.dst undef=a:=by rw[hd];rfl
 rw[ep,e];exact h _ (Ext.setCells oM _ _ hw) (Qjf Z I rfl)
theorem Qsz{rest:List Oper}{op:Oper}(N:op.guard=none)(hd:op.dst=none){x y:Operand}(ho:op.op=.store 39 x y)
  (n:Nm) (c:MuS) {b:Nat} (hb:w0.heap.size=b) (Z:Ext w0 w) {z:Array Value} (hz:Blk w b 39 z) (I:z.size=20) (hx:a.eval x=.pointer (some ⟨b,0,none⟩)) (hy:a.eval y=QqR n c)
  (h:∀w',Ext w0 w'->Blk w' b 39 (Qh5 n c)->wpList prog ops Q rest a w'):wpList prog ops Q (op::rest) a w:=
 Qnb N hd ho (Qbw n c) (by rw[Qtp];exact Tryz.Qpn) (Qtw (n,c)) hb Z hz I hx hy h
theorem QnZ{rest:List Oper}{op:Oper}(N:op.guard=none)(x y:Operand)(ho:op.op=.store 37 x y)(b o:Nat)(m:Mu)(c:MuS)(I:w.there b o 19)
  (hx:a.eval x=.pointer (some ⟨b,o,none⟩)) (Z:a.eval y=Qaz m c) (h:wpList prog ops Q rest (a.put op.dst undef) (w.setCells b o (Qan m c))):wpList prog ops Q (op::rest) a w:=
 fq N 37 x y ho b o (Qa2 m c) hx Z I (by exact Tryz.Qem) (fF (Qml (m,c))) h
theorem QbT{rest:List Oper}{o:Oper}(hg:o.guard=none)(t e:TypeId)(N:Nat)(I:Array (Nat × Operand))(ho:o.op=.buildSlice t N I)
  (vs:List Value) (size:Nat) {ie:TypeInfo} (hu:prog.underlying t=some (.slice e)) (a2:prog.info? e=some ie) (hs:ie.size=size) (hz:ie.zero=some z) (hp:0<size) (hl:vs.length=N) (a1:0<N) (a3:N*size<=1000)
  (h1:∀v∈vs,v.cells.size=size) (a0:(I.toList.map λx=>(x.1,a.eval x.2))=(vs.zipIdx 0).map λx=>(x.2,x.1)) (Z:Array Value) (hc:(vs.flatMap λv=>v.cells.toList).toArray=Z)
  (h:wpList prog ops Q rest (a.put o.dst (.slice (some ⟨w,0,none⟩) N N)) (w.alloc (.cells Z e))):wpList prog ops Q (o::rest) a w:=by
 subst hs hc hl;have h0:0<vs.length*ie.size:=Nat.mul_pos a1 hp;refine wpList_buildSlice hg t e _ I ho _ ie z hu a2 hz oM oM ?_ h;rw[Array.toList_map];rw[a0];exact Great.fill_whole hp vs _ h1 (by rw[Array.size_map,Array.size_range])
theorem Qa4{rest:List Oper}{o:Oper}(Z:o.guard=none)(t:TypeId)(I:Array (Nat × Operand))(ho:o.op=.build t I)(cs:Array Value)
  (N:prog.built t (I.toList.map λx=>(x.1,a.eval x.2))=some cs) (h:wpList prog ops Q rest (a.put o.dst (.agg cs)) w):wpList prog ops Q (o::rest) a w:=by
 have e:(I.map λ(i,x)=>(i,a.eval x)).toList=I.toList.map λx=>(x.1,a.eval x.2):=Array.toList_map ..
 refine wpList_build Z t I ho (by rw[e,N];rfl) ?_;rw[e,N];exact h
theorem Qh6(I:Int)(m:Mu)(c:MuS):prog.built 39 [(0,.int .u64 I),(1,Qaz m c)]=some (Qh5 ⟨I,m⟩ c):=kM
structure Qvf(g:Nat)(cs:Array Value)(codes:List Int)(S:Nat->(Nat->Prop)->World->Prop):Prop where
 eg:∀args w,(callFunc g args).run prog w=.ok (.enter g args) w
 call:∀j code D W,codes[j]? = some code->S j D W->Calls prog g (#[.int .i64 code]++cs) W λe w'=>e=.returned (.tuple #[])/\∃D',S (j+1) D' w'/\Sb D W w'/\∀b,D' b->D b\/W.heap.size<=b
 stay:∀j D X W W',S j D W->Sb X W W'->(∀b,D b->¬X b)->S j D W'
 lt:∀j D W,S j D W->∀b,D b->b<W.heap.size
theorem Qnf{l:List Mu}{x:Mu}(h:l[j]? = some x)(M:List Ent):(QbD l M).1[j]? = some (runM (QbD (l.take j) M).2 x).1:=by
 have I:∀(r:List Mu) (p:List Int × List Ent),∃q,(r.foldl (λp m=>(p.1++[(runM p.2 m).1],(runM p.2 m).2)) p).1=p.1++q:=by
  intro r
  induction r with
  |nil=>intro p;exact⟨[],sM⟩
  | cons a r ih=>
    intro p;obtain⟨q,N⟩:=ih (p.1++[(runM p.2 a).1],(runM p.2 a).2);exact⟨(runM p.2 a).1::q,by rw[dM,N,aQ];rfl⟩
 have h1:=Qf4 h M;obtain⟨q,N⟩:=I (l.drop (j+1)) (QbD (l.take (j+1)) M);have h2:(QbD l M).1=(QbD (l.take (j+1)) M).1++q:=by
  rw[<-N];unfold QbD;rw[<-dW,aX]
 have Z:=QgA l M j (by have:=(ai.1 h).1;omega);rw[h2,h1,aQ,aM oM,Z,cF];rfl
abbrev Qe6(l:List Nm):List Mu:=l.map Nm.m
structure Qey(w:World)(F G:Nat->Prop)(T:RT)(s:Sl)(l:List Nm):Prop where
 tree:IsT w F T
 old:∀b,F b->6<=b/\b<w.heap.size
 ok:OkR T
 okM:OkM (Qaa T)
 row:Qa7 w G s l
 rowOld:∀b,G b->b<w.heap.size
 lib:Qb4 w
 few:(Qaa T).length+64*l.length<=5000
 tot:Qcc (Qe6 l)<=1099000
variable{s:Sl}
theorem Qey.ext{l:List Nm}(h:Qey w F G T s l)(k:Nw w w'):Qey w' F G T s l:=
 ⟨h.tree.agree (fY k λb I=>(h.old b I).2),λb I=>⟨(h.old b I).1,ab (h.old b I).2 k.size⟩,h.ok,h.okM,h.row.agree (fY k h.rowOld),λb I=>ab (h.rowOld b I) k.size,h.lib.nw k,h.few,h.tot⟩
theorem Qey.bud{l:List Nm}(h:Qey w F G T s l){m:Mu}(N:j<=l.length)(I:QbP m=0):(QbD ((Qe6 l).take j) (Qaa T)).2.length+Qb8 m (QbD ((Qe6 l).take j) (Qaa T)).2<=1000000:=by
 have hs:Qa0 m<=64:=by unfold QbP at I;split at I<;>omega
 have h1:=QeN (Qe6 l) (Qaa T) j;have h2:=h.few;have:=Nat.mul_le_mul hs (show 2*((QbD ((Qe6 l).take j) (Qaa T)).2.length+Qa0 m)+1<=10129 by omega);unfold Qb8;omega
theorem Qkp{F G D0:Nat->Prop}{l:List Nm}{cs:Array Value}{S:Nat->(Nat->Prop)->World->Prop}(h:Qey w F G T s l)(hS:Qvf g cs (QbD (Qe6 l) (Qaa T)).1 S)(h0:S 0 D0 w)(hD:∀b,D0 b->6<=b/\¬F b/\¬G b) :
  Calls prog 38 #[Qao T,.slice s.a l.length s.c,.func (.func g) #[] cs] w λe w'=>∃T' D,e=.returned (Qao T')/\OkR T'/\IsT w' (λb=>(F b\/w<=b)/\b<w'/\¬D b) T'/\Qaa T'=(QbD (Qe6 l) (Qaa T)).2/\OkM (Qaa T')/\S l.length D w'/\Sb D0 w w'/\(∀b,D b->D0 b\/w.heap.size<=b)/\((∀n∈l,(runM (Qaa T) n.m).2=Qaa T)->T'=T):=by
 obtain⟨p,hp⟩:=Qaj T;have c0:=hS.lt _ _ _ h0;have o0:=hS.eg;have n4:=h.lib.lib.big;have n2:=h.row.len;obtain⟨HP,H,HS,H0,HD,a1⟩:=Yg hp h hS h0 hD c0;rw[Qao,hp];clear hp h hS h0 hD c0;go_in;go_upto_region 1 with fail;generalize f7:World.alloc _ _=W0;obtain⟨g0,i9,j0,g3⟩:=Qas w _ _ _ _ W0 f7;obtain⟨a3,l6,k9,k2⟩:=Ye g0 j0 g3 i9;clear f7 g0 j0 g3 i9;go_wp2_with fail;go_loopw[13] (λk0 wr=>∃(j:Nat) (T1:RT) (p1:Option Addr) (D:Nat->Prop),k0=.int .i64 (j:Int)/\j<=l.length/\Yd (QaK T1=.pointer p1)/\Yd (Blk wr w.heap.size 48 #[.pointer p1])/\Yd (OkR T1)/\
  Yd (IsT wr (λb=>(F b\/W0<=b)/\b<wr/\¬D b) T1)/\Yd (Qaa T1=(QbD ((Qe6 l).take j) (Qaa T)).2)/\Yd (OkM (Qaa T1))/\Yd (S j D wr)/\Yd (∀b,D b->D0 b\/W0.heap.size<=b)/\Yd (Sb (λb=>b=w.heap.size\/D0 b) W0 wr)/\Yd ((∀n∈l,(runM (Qaa T) n.m).2=Qaa T)->T1=T)) (λv _=>l.length -(intOf v).toNat)
 case atStart=>
  have hz:=a3.o.size;refine⟨0,T,p,D0,rfl,aD _,HP,l6,hY H.o.ok,hY ((H.o.tree.agree (a3.o.agree λb I=>(H.o.old b I).2)).mono λb I=>⟨.inl I,?_,λe=>(HD.o b e).2.1 I⟩),hY rfl,hY H.o.okM,hY (HS.o.stay _ _ (λ_=>False) _ _ H0.o (a3.o.sb _) λ_ _ e=>e),hY λb I=>.inl I,hY (fW _ _),hY λ_=>rfl⟩;have:=(H.o.old b I).2;omega
 obtain⟨j,T1,p1,D,rfl,hj,f6,b4,c4,f1,b9,g5,b6,a8,a9,a6⟩:=hrel;have hz:=k2.o;have z1:=a3.o.size;have z2:=a9.o.size;have b5:=hY (show Sb D0 w wr from(a3.o.sb D0).comp a9.o λi hi e=>e.resolve_left oM);by_cases g4:j<l.length
 ·have l1:(j:Int)<(l.length:Int):=oM
  have n9:decide ((j:Int)<(l.length:Int))=true:=ey l1;have l0:(0:Int)<=(j:Int):=oM
  obtain⟨x,hx⟩:∃x,l[j]? = some x:=⟨_,ac g4⟩;obtain⟨b,o,y,k8,l5,n8,n6,i0,i6⟩:=H.o.row.at hx;have e1:Agree G w wr:=λb I=>b5.o.block b (H.o.rowOld b I) λe=>(HD.o b e).2.2 I
  obtain⟨c1,j6⟩:=Yb (i0.agree e1 l5) (i6.agree e1);have n7:=c1.o.lt;have b0:(Qe6 l)[j]? = some x.m:=by rw[au,hx];rfl
  have j5:=hY (aq hx);have i4:∀b,G b->b<wr.heap.size:=λb I=>ab (H.o.rowOld b I) b5.o.size
  have f9:=hY i4;have a5:∀W,Ext wr W->Calls prog 61 #[.agg #[.pointer p1],Qaz x.m y] W λe w'=>∃T',e=.returned (.tuple #[Qao T',.int .i64 (runM (Qaa T1) x.m).1])/\OkR T'/\IsT w' (Up (λb=>(F b\/W0<=b)/\b<wr/\¬D b) W w') T'/\Qaa T'=(runM (Qaa T1) x.m).2/\OkM (runM (Qaa T1) x.m).2/\Nw W w'/\((runM (Qaa T1) x.m).2=Qaa T1->T'=T1):=λW hW=>by
   have h:=QsT (w:=W) (F:=λb=>(F b\/W0<=b)/\b<wr/\¬D b) (T:=T1) (m:=x.m) (c:=y) (f1.o.agree (hW.agree λb I=>I.2.1)) (λb I=>⟨I.1.elim (λe=>(H.o.old b e).1) λe=>oM,ab I.2.1 hW.size⟩) c4.o g5.o ((j6.o.agree (hW.agree f9.o)).mono λb I=>ab (f9.o b I) hW.size) (H.o.lib.sb (b5.o.ext hW) λb I e=>by have:=(HD.o b e).1;omega) (λh0=>by rw[b9.o];exact H.o.bud hj h0) (by
     rw[b9.o];have h1:=QeN (Qe6 l) (Qaa T) j;have h2:=H.o.few;omega) (ak (Qgb b0) (by have:=H.o.tot;omega))
   rw[Qao,f6.o]at h;exact h
  obtain⟨e6,j2,d3⟩:=Yc a5 (Qf4 b0 (Qaa T)) (Qnf b0 (Qaa T));have q0:wr.cell? ⟨w,0,none⟩=some (.pointer p1):=b4.o.cell 0;have l2:=b4.o.lt;rw[k8];clear i0 i6 e1 a5 hx b0 i4 z1 z2;go_wp2_with(first |(refine QjZ rfl (.tmp 15) rfl b (o+j*20) rfl x y c1.o ?_) |(refine Qsz rfl rfl rfl x y (w0:=wr) (b:=wr) rfl ((fQ wr).alloc _ _) (fU wr _ _) rfl rfl rfl ?_;intro w5 d4 g6;have d0:=hY d4;have q5:=(d4.cell l2).trans q0;have j3:=hY (NmC.Qax g6).mu;clear d4 g6) |(refine Qah rfl (.tmp 19) rfl wr.heap.size (0+1) rfl x.m y j3.o ?_));refine(e6.o _ d0.o).mono ?_;rintro e w6 ⟨T2,rfl,g9,f5,c9,d7,e4,a7⟩;obtain⟨p2,d6⟩:=Qaj T2;rw[Qao,d6];obtain⟨q,hq⟩:∃q,runM (Qaa T1) x.m=q:=⟨_,rfl⟩;rw[hq]at c9 d7 a7 ⊢;have d8:=j2.o;have a0:=d3.o;rw[<-b9.o,hq]at d8 a0;obtain⟨HA,HC,k1,k7,k5,i8,j4⟩:=Yh d8 a0 d6 g9 f5 c9 d7;have e8:=hY ((fT d0.o).trans e4);have l3:=hY (show(∀n∈l,(runM (Qaa T) n.m).2=Qaa T)->T2=T fromλc3=>by
   have h1:=a6.o c3;have h2:=c3 x j5.o;rw[<-h1]at h2;rw[hq]at h2;exact(a7 h2).trans h1)
  obtain⟨c2,i7⟩:=Yb d0.o.size e4.size;clear d8 a0 d6 g9 f5 c9 d7 e4 a7 hq q5 q0 l2;go_upto_region 5 with fail;generalize e0:World.alloc _ _=w7;have c6:Ext w6 w7:=by rw[<-e0];exact(fQ w6).alloc _ _
  have d5:Blk w7 w6.heap.size 48 #[.pointer p2]:=by rw[<-e0];exact fU w6 _ _
  have z7:w6.heap.size<w7.heap.size:=d5.lt;obtain⟨l7,e3⟩:=Yb d5 (show Nw wr w7 from e8.o.trans (fT c6));have k4:=hY (k5.o.agree (c6.agree λb I=>by
   rcases I with I|I
   .have:=I.2.1;have:=c2.o;have:=i7.o;omega
   exact I.2))
  have e2:=HS.o.stay _ _ (λ_=>False) _ _ b6.o e3.o λ_ _ e=>e
  obtain⟨j1,k3⟩:=Yb e2 (HS.o.call _ _ _ _ HC.o e2);clear e0 c6 d5 e2;go_wp2_with fail;refine k3.o.mono ?_;rintro e w8 ⟨rfl,D',g8,a2,f2⟩;have z6:wr.heap.size<=w6.heap.size:=e8.o.size;have b8:=HS.o.lt _ _ _ b6.o;have i1:=HS.o.lt _ _ _ j1.o;have i5:=a2.blk l7.o λe=>by have:=b8 _ e;omega
  have q8:w8.cell? ⟨w6,0,none⟩=some (.pointer p2):=i5.cell 0;have i2:¬D w.heap.size:=λe=>by
   rcases a8.o _ e with h|h
   .have:=a1.o _ h;omega
   omega
  have Z:=a2.blk (Nw.blk e3.o b4.o) i2;have c8:w8.cell? ⟨w,0,none⟩=some (.pointer p1):=Z.cell 0;have f8:=Z.frozen 0;have l8:=Z.lt;obtain⟨f0,j9,a4,g7⟩:=Ye Z g8 a2 f2;clear g8 a2 f2 i5 i2 Z b8 i1;go_wp2_with fail;generalize c7:World.setCell _ _ _=w9;have e7:Sb (λi=>i=w.heap.size) w8 w9:=by rw[<-c7];exact(fW (λi=>i=w.heap.size) w8).set (p:=⟨w,0,none⟩) (.inr rfl) _
  have f3:Blk w9 w.heap.size 48 #[.pointer p2]:=by rw[<-c7];exact f0.o.QbH 0 (.pointer p2)
  obtain⟨b3,l4⟩:=Yb e7 f3;clear c7 e7 f3 q8 c8 f8;go_roundw
  case measure=>simp[intOf];omega
  have z1:=a3.o.size;have z2:=a9.o.size;have z8:=a4.o.size;have z9:=b3.o.size;have b8:=HS.o.lt _ _ _ b6.o;have i3:∀b,D' b->D0 b\/W0.heap.size<=b:=λb I=>(g7.o b I).elim (a8.o b) λe=>.inr oM
  have l9:¬D' w.heap.size:=λe=>by
   rcases i3 _ e with h|h
   .have:=a1.o _ h;omega
   omega
  have z5:=c2.o;have N:∀b,Up (λb=>(F b\/W0<=b)/\b<wr/\¬D b) w5 w6 b->(F b\/W0<=b)/\b<w6/\¬D b/\b≠w.heap.size:=λb I=>by
   rcases I with⟨h1,h2,h3⟩ |⟨h1,h2⟩
   ·refine ⟨h1,oM,h3,?_⟩
    rcases h1 with h1|h1
    .have:=(H.o.old b h1).2;omega
    omega
   exact⟨.inr oM,h2,λe=>by have:=b8 b e;omega,oM⟩
  refine⟨j+1,T2,p2,D',by go_num,g4,k1,l4,k7,hY (((k4.o.agree λb I=>a4.o.block b ?_ ?_).agree λb I=>b3.o.block b ?_ ?_).mono λb I=>?_),hY (by rw[HA.o];exact i8.o),hY (by rw[i8.o];exact j4.o),hY (HS.o.stay _ _ _ _ _ j9.o b3.o λb I e=>l9 (e▸I)),hY i3,hY ((a9.o.trans (Nw.any e3.o _)).comp ((a4.o.mono (G:=λb=>b=w.heap.size\/D b) λi _ hi=>.inr hi).trans (b3.o.mono λi _ hi=>.inl hi)) λi hi e=>?_),l3⟩
  .have:=(N b I).2.1;omega
  .exact (N b I).2.2.1
  .have:=(N b I).2.1;omega
  .exact (N b I).2.2.2
  ·refine ⟨(N b I).1,by have:=(N b I).2.1;omega,fun e=>?_⟩
   rcases g7.o b e with h|h
   .exact (N b I).2.2.1 h
   have:=(N b I).2.1;omega
  rcases e with e|e
  .exact .inl e
  rcases a8.o i e with h|h
  .exact .inr h
  omega
 obtain rfl:j=l.length:=oM
 have l1:decide ((l.length:Int)<(l.length:Int))=false:=ew oM;have q0:wr.cell? ⟨w,0,none⟩=some (.pointer p1):=b4.o.cell 0;have b7:=a9.o.blk k9.o (by
  rintro(e|e)
  .omega
  have:=a1.o _ e;omega)
 have j7:=hY b7;have q4:wr.cell? ⟨w+1,0,none⟩=some _:=b7.cell 0;have f4:=b7.frozen 0;clear b7;have k6:=hY (show(Qe6 l).take l.length=Qe6 l from aV (by rw[ar];exact ao _));go_wp2_with fail;generalize hW:World.setCell _ _ _=W;have hs:Sb (λi=>i=w.heap.size+1) wr W:=by rw[<-hW];exact(fW (λi=>i=w.heap.size+1) wr).set (p:=⟨w+1,0,none⟩) (.inr rfl) _
 have I:Blk W (w.heap.size+1) 48 #[.pointer p1]:=by rw[<-hW];exact j7.o.QbH 0 (.pointer p1)
 have q5:W.cell? ⟨w+1,0,none⟩=some (.pointer p1):=I.cell 0;clear hW q0 q4 f4;refine eE (v:=.agg #[.pointer p1]) (by simp[results,results38,go_sem,q5]) rfl ?_;have z3:=hs.size;have j8:¬D (w.heap.size+1):=λe=>by
  rcases a8.o _ e with h|h
  .have:=a1.o _ h;omega
  omega
 refine⟨T1,D,by rw[Qao,f6.o],c4.o,(f1.o.agree λb I=>hs.block b I.2.1 ?_).mono λb I=>⟨I.1.imp id λe=>oM,by have:=I.2.1;omega,I.2.2⟩,by rw[b9.o,k6.o],g5.o,HS.o.stay _ _ _ _ _ b6.o hs λb I e=>j8 (e▸I),b5.o.comp hs λi hi e=>oM,λb I=>(a8.o b I).imp id λe=>oM,a6.o⟩;rcases I.1 with e|e
 .have:=(H.o.old b e).2;omega
 omega
theorem QqD(codes:List Int):Qvf 39 #[] codes λ_ D _=>∀b,¬D b where
 eg:=λargs w=>rfl
 call:=λj code D W _ h=>by
  refine Calls.mono (R:=λe w'=>e=.returned (.tuple #[])/\Ext W w') ?_ λe w' ⟨h1,h2⟩=>⟨h1,λ_=>False,λ_ e=>e,h2.sb _,λb e=>e.elim⟩
  show Calls prog 39 #[.int .i64 code] W _;go_in;go_wp2_with fail;go_end0;exact⟨rfl,fQ _⟩
 stay:=λ_ _ _ _ _ h _ _=>h
 lt:=λ_ _ _ h b hb=>(h b hb).elim
theorem Qhv{l:List Nm}(h:Qey w F G T s l) :
  Calls prog 18 #[Qao T,.slice s.a l.length s.c] w λe w'=>∃T',e=.returned (Qao T')/\OkR T'/\IsT w' (Up F w w') T'/\Qaa T'=(QbD (Qe6 l) (Qaa T)).2/\OkM (Qaa T')/\Nw w w'/\((∀n∈l,(runM (Qaa T) n.m).2=Qaa T)->T'=T):=by
 obtain⟨p,hp⟩:=Qaj T;obtain⟨Z,HF⟩:=Yb (λW (hW:Ext w W)=>Qkp (h.ext (fT hW)) (QqD _) (D0:=λ_=>False) (λ_ e=>e) λ_ e=>e.elim) h.old;rw[Qao,hp]at Z ⊢;clear hp h;go_in;go_upto_region 1 with fail;generalize a9:World.alloc _ _=W0;obtain⟨a6,a7,a8,I⟩:=Qas w _ _ _ _ W0 a9;obtain⟨a2,a5⟩:=Yb a6 I;have q0:W0.cell? ⟨w,0,none⟩=some (.pointer p):=a8.cell 0;clear a9 a6 a7 a8 I;go_wp2_with fail;refine(Z.o _ a2.o).mono ?_;rintro e w1 ⟨T',D,rfl,ok,hT,he,hM,hS,a3,hD,N⟩;obtain⟨p',a1⟩:=Qaj T';rw[Qao,a1];have I:=a3.blk a5.o λe=>e
 have q1:w1.cell? ⟨w+1,0,none⟩=some _:=I.cell 0;have f1:=I.frozen 0;have l1:=I.lt;obtain⟨HB,HP,b0,HT,HE,HM,a4⟩:=Yh I a1 ok hT he hM a3;have a0:=hY N;clear a1 ok hT he hM a3 N I q0 hS hD;go_wp2_with fail;generalize hW:World.setCell _ _ _=W;have hs:Sb (λi=>i=w.heap.size+1) w1 W:=by rw[<-hW];exact(fW (λi=>i=w.heap.size+1) w1).set (p:=⟨w+1,0,none⟩) (.inr rfl) _
 have hb:Blk W (w.heap.size+1) 48 #[.pointer p']:=by rw[<-hW];exact HB.o.QbH 0 (.pointer p')
 have q5:W.cell? ⟨w+1,0,none⟩=some (.pointer p'):=hb.cell 0;clear hW q1 f1;refine eE (v:=.agg #[.pointer p']) (by simp[results,results18,go_sem,q5]) rfl ?_;have z0:=a2.o.size;have z1:=a4.o.size;have z2:=hs.size;have a7:w.heap.size+1<W0.heap.size:=a5.o.lt;refine⟨T',by rw[Qao,HP.o],b0.o,(HT.o.agree λb hb=>hs.block b hb.2.1 ?_).mono λb hb=>hb.1.imp id λe=>⟨oM,by have:=hb.2.1;omega⟩,HE.o,HM.o,((fT a2.o).trans a4.o).comp hs λi hi e=>oM,a0.o⟩;rcases hb.1 with e|e
 .have:=(HF.o b e).2;omega
 omega
def QlL(n B:Nat)(codes:List Int)(j:Nat)(D:Nat->Prop)(W:World):Prop:=
 ∃sc:Sl,Blk W B 58 #[.slice sc.a j sc.c]/\W.ownsRow n 71 1 (.slice sc.a j sc.c) j ((codes.take j).map (.int .i64))/\sc.row≠some B/\∀b,D b↔b=B\/sc.row=some b
theorem Tryz.QjL:(prog.info? 71).map (λi=>(i.zero,i.size,i.bytes))=some (some (.int .i64 0),1,8):=kM
variable{D:Nat->Prop}{W:World}
theorem Qm3{I:List Int}{code:Int}(hl:I.length<=1000)(hn:n<=B)(hc:I[j]? = some code)(h:QlL n B I j D W) :
  Calls prog 40 #[.int .i64 code,.pointer (some ⟨B,0,none⟩)] W λe w'=>e=.returned (.tuple #[])/\∃D',QlL n B I (j+1) D' w'/\Sb D W w'/\∀b,D' b->D b\/W.heap.size<=b:=by
 obtain⟨sc,N,Z,a7,hD⟩:=h;obtain⟨i0,hi,c3,b0,b6⟩:=eI Tryz.QjL;have c0:W.cell? ⟨B,0,none⟩=some (.slice sc.a j sc.c):=N.cell 0;have lB:=N.lt;have c6:j<I.length:=(ai.1 hc).1;have a2:=(fQ W).alloc #[.int .i64 code] 71;obtain⟨c1,c4,HB,c7,HD,HC,a4⟩:=Yh (fU W 71 #[.int .i64 code]) (Qab (F:=Lt W) Z (a2.agree λb N=>N) λb N=>(Qad Z N).2) (N.ext a2) Z hD hc a2;obtain⟨b8,b9,b7,a9⟩:=Ye (show j+1<=maxLen by unfold maxLen;omega) (show(j+1)*8<=140737488355328 by omega) (show n<=(W.alloc (.cells #[.int .i64 code] 71)).heap.size from ak (cA (Nat.lt_of_le_of_lt hn lB)) a2.size) a7;clear N Z hD a2 hc a7;go_in;go_wp2_with(at_builtin;refine Qak _ rfl (.tmp 3) (.tmp 5) 58 rfl n 71 i0 _ 1 8 underlying58 hi c3 b0 b6 rfl oN sc j ((I.take j).map (.int .i64)) rfl c4.o (λb=>b=W.heap.size) ⟨some ⟨W,0,none⟩,1⟩ 1 [.int .i64 code] rfl (ge c1.o oN rfl) (by simp[Value.oneCell']) b8.o b9.o b7.o ?_;intro s7 w9 a3 a0 a8;have a1:Blk w9 B 58 #[.slice sc.a j sc.c]:=(a0.grown.block B HB.o.lt (λe=>a9.o e.symm)).trans HB.o;have c9:w9.cell? ⟨B,0,none⟩=some (.slice sc.a j sc.c):=a1.cell 0;have f9:=a1.frozen 0;have l9:=a1.lt;have b5:=hY a1;have c2:=hY a3;have b4:=hY a0;have a6:=hY a8;clear a1 a3 a0 a8);go_end0;have a5:s7.row≠some B:=λe=>by
  rcases a6.o with hs |⟨hs,-⟩
  .exact a9.o (by unfold Sl.row at e ⊢;rwa[hs]at e)
  unfold Sl.row at e;rw[hs]at e;have e:some (W.alloc (.cells #[.int .i64 code] 71)).heap.size=some B:=e;injection e with e;have:=a4.o.size;omega
 refine⟨rfl,λb=>b=B\/s7.row=some b,⟨s7,b5.o.QbH 0 _,?_,a5,λb=>Iff.rfl⟩,?_,λb N=>?_⟩
 ·rw [aT,HC.o,aH]
  exact Qab (F:=λb=>s7.row=some b) c2.o (fV _ _ _ a5) λb N=>N
 ·have b3:Sb D (W.alloc (.cells #[.int .i64 code] 71)) w9:=by
   have hg:=b4.o.grown;exact⟨hg.os,hg.tape,hg.output,hg.size,λi hi hn=>hg.block i hi λe=>hn ((HD.o i).2 (.inr e.symm))⟩
  exact((a4.o.sb D).trans b3).set (p:=⟨B,0,none⟩) (.inr ((HD.o B).2 (.inl rfl))) _
 rcases N with rfl|N
 .exact .inl ((HD.o _).2 (.inl rfl))
 rcases a6.o with hs |⟨hs,-⟩
 .exact .inl ((HD.o b).2 (.inr (by unfold Sl.row at N ⊢;rwa[hs]at N)))
 unfold Sl.row at N;rw[hs]at N;have N:some (W.alloc (.cells #[.int .i64 code] 71)).heap.size=some b:=N;injection N with N;have:=a4.o.size;exact .inr oM
theorem Qoe{codes:List Int}(hl:codes.length<=1000)(hn:n<=B):Qvf 40 #[.pointer (some ⟨B,0,none⟩)] codes (QlL n B codes) where
 eg:=λargs w=>rfl
 call:=λj code D W hc h=>Qm3 hl hn hc h
 stay:=λj D X W W' ⟨sc,h1,h2,h3,h4⟩ k hX=>⟨sc,k.blk h1 (hX _ ((h4 _).2 (.inl rfl))),Qab (F:=λb=>sc.row=some b) h2 (λb hb=>k.block b (Qad h2 hb).2 (hX _ ((h4 _).2 (.inr hb)))) λb hb=>hb,h3,h4⟩
 lt:=λj D W ⟨sc,h1,h2,h3,h4⟩ b hb=>by
  rcases(h4 b).1 hb with rfl|e
  .exact h1.lt
  exact(Qad h2 e).2
theorem Qgp{l:List Nm}(h:Qey w F G T s l)(hl:l.length<=1000) :
  Calls prog 20 #[Qao T,.slice s.a l.length s.c] w λe w'=>∃sc:Sl,e=.returned (.slice sc.a l.length sc.c)/\Rd w' (In w.heap.size w'.heap.size) 1 sc l.length ((QbD (Qe6 l) (Qaa T)).1.map (.int .i64))/\Nw w w':=by
 obtain⟨p,hp⟩:=Qaj T;obtain⟨N,I⟩:∃c,(QbD (Qe6 l) (Qaa T)).1=c:=⟨_,rfl⟩;have a2:N.length=l.length:=by
  have:=QgA (Qe6 l) (Qaa T) l.length (by rw[ar];exact ao _);rwa[aV (by rw[ar];exact ao _),I]at this
 obtain⟨i0,hi,b9,c2,b7⟩:=eI Tryz.QjL;have c4:∀W,(Instr.makeSlice 58 (.int .i64 0) (.int .i64 (l.length:Int))).run prog W=.ok (.slice (some ⟨W,0,none⟩) 0 l.length) (W.alloc (.cells (madeCells (Value.int .i64 0).cells (l.length*i0.size)) 71)):=λW=>QbG (P:=prog) 58 71 i0 _ underlying58 hi b9 .i64 .i64 0 l.length (aD _) (by rw[b7];omega) oM W
 obtain⟨a0,HF,HG⟩:=Yc (λW (hW:Ext w W) B D0 (hB:w.heap.size+1<=B) h0 hD=>Qkp (h.ext (fT hW)) (Qoe (n:=w+1) (B:=B) (by rw[I,a2];exact hl) hB) (D0:=D0) h0 hD) h.old h.rowOld;have c1:=h.lib.lib.big;rw[Qao,hp,I]at a0;rw[Qao,hp];obtain⟨b8,c0⟩:=Yb a2 I;clear hp h I a2;go_in;go_upto_region 2 with fail;generalize b0:World.alloc _ _=W3;obtain⟨a3,c3,a8,a6,a7⟩:=Qal w _ _ _ _ _ _ W3 b0;have a5:QlL (w.heap.size+1) (w.heap.size+1+1) N 0 (λb=>b=w.heap.size+1+1\/some (w.heap.size+1)=some b) W3:=
  ⟨⟨some ⟨w+1,0,none⟩,l.length⟩,a7,⟨sM,.inr ⟨w+1,l.length,_,rfl,ao _,a6,aD _,by unfold maxLen;omega,by rw [fK,dv],sM⟩⟩,fun e=>by
    have e:some (w.heap.size+1)=some (w.heap.size+1+1):=e;injection e with e;omega,λb=>Iff.rfl⟩
 have HC:=hY (a0.o W3 a3 (w.heap.size+1+1) _ oM a5 λb Z=>by
  have c6:w<=b:=by
   rcases Z with Z|Z
   .omega
   injection Z with Z;omega
  exact⟨oM,λe=>by have:=(HF.o b e).2;omega,λe=>by have:=HG.o b e;omega⟩)
 have q0:W3.cell? ⟨w,0,none⟩=some (.pointer p):=a8.cell 0;have b6:=hY a3;clear b0 a3 a8 a6 a7 a5;go_wp2_with fail;refine HC.o.mono ?_;rintro e w4 ⟨T',D,rfl,-,-,-,-,hS,b4,-,-⟩;obtain⟨p',a9⟩:=Qaj T';rw[Qao,a9];obtain⟨sc,b3,a1,-,-⟩:=hS;have q4:w4.cell? ⟨w+1+1,0,none⟩=some (.slice sc.a l.length sc.c):=b3.cell 0;obtain⟨a4,b5⟩:=Yb a1 b4;clear b3 a1 b4 q0 a9;go_wp2_with fail;go_ret;refine⟨sc,rfl,?_,(fT b6.o).comp b5.o λi hi e=>?_⟩
 ·have h:=fZ a4.o
  rw[aV (by rw[b8.o];exact ao _)]at h;rw[c0.o];exact h.mono λb Z=>⟨by have:=Z.1;omega,Z.2⟩
 rcases e with e|e
 .omega
 injection e with e;omega
def QtU:MuS:=⟨Sl.none,Sl.none,Sl.none,Sl.none,Sl.none⟩
theorem Tryz.QgB:(prog.info? 37).map (λi=>(i.zero,i.size,i.bytes))=some (some (Qaz (.mk 0 ByteArray.empty ByteArray.empty 0 false zeroV false zeroV []) QtU),19,264):=kM
theorem QhR{b:Nat}{T:TypeId}{m:Mu}(h:Blk w b T (Qa2 m c))(o n:Nat)(N:o+n<=19):w.there b o n:=λj I=>by
 refine⟨?_,h.frozen _⟩;rw[h.cell,ct (by rw[bm,QfD];omega)];rfl
def Qi2(m:Mu)(w:World)(e:Ending)(w':World):Prop:=∃c',e=.returned (Qaz m c')/\Ext w w'/\RMu w' (In w.heap.size w'.heap.size) m c'
theorem QpO{wr W w9:World}{m:Mu}(h:Nw wr W)(I:Wr W w9 s2.row)(hs:s7.a=s2.a\/s7.a=some ⟨W,0,none⟩/\Wr W w9 none)(hv:RMu wr (QlN n wr s2) m c):RMu w9 (QlN n w9 s7) m c:=by
 have h1:RMu W (QlN n wr s2) m c:=hv.agree (fY h λb N=>N.2.1);have h2:RMu w9 (QlN n wr s2) m c:=h1.agree (I.agree (λi hi=>ab hi.2.1 h.size) λk Z hF=>hF.2.2 Z);refine h2.mono λi hi=>⟨hi.1,ab hi.2.1 (ak h.size I.grown.size),λe=>?_⟩
 rcases hs with hs |⟨hs,-⟩
 .exact hi.2.2 (by unfold Sl.row at e ⊢;rwa[hs]at e)
 unfold Sl.row at e;rw[hs]at e;have e:some W.heap.size=some i:=e;injection e with e;have:=hi.2.1;have:=h.size;omega
variable{w6 w9:World}
theorem Qtu{m:Mu}(Z:n<=w0)(hr:∀b,s2.row=some b->b<w0.heap.size)(h:Nw w6 W)(N:Wr W w9 s2.row)(hs:s7.a=s2.a\/s7.a=some ⟨W,0,none⟩/\Wr W w9 none)(hv:RMu w6 (In w0.heap.size w6.heap.size) m c):RMu w9 (QlN n w9 s7) m c:=
 QpO h N hs (hv.mono λb I=>⟨Nat.le_trans Z I.1,I.2,λe=>by have:=hr b e;have:=I.1;omega⟩)
theorem Qm5(n:Nat):∀(m:Mu) (c:MuS) (w:World),SizeOf.sizeOf m<=n->RMu w (Lt w) m c->Calls prog 33 #[Qaz m c] w (Qi2 m w):=by
 induction n with
 |zero=>intro m c w h;have:=Mu.Qb6 m;omega
 | succ n ih=>
   intro m c w hn hm;obtain⟨i2,l4,-,-,-⟩:=hm.parts;obtain⟨i0,hi,c3,d0,j3⟩:=eI Tryz.QgB;have q1:=hm.len;obtain⟨i1,k8,HI,HM,HN⟩:=Yf (λW (hW:Ext w W)=>QdS _ _ (ao _) W _ _ ((i2.agree (hW.agree λ_ h=>h)).mono (G:=Lt W) λb I=>ab I hW.size)) (λW (hW:Ext w W)=>QdS _ _ (ao _) W _ _ ((l4.agree (hW.agree λ_ h=>h)).mono (G:=Lt W) λb I=>ab I hW.size)) ih hm hn;clear ih hm hn i2 l4;go_in;go_upto_region 1 with fail;generalize g0:World.alloc _ _=W0;obtain⟨g4,e7,b5,a3⟩:=Qas w _ _ _ _ W0 g0;have b5:Blk W0 w.heap.size 37 (Qa2 m c):=b5;obtain⟨-,-,-,-,-,c5,c6,c7,c8,c9,o5,-,-,-,-,-,-,-,-⟩:=(gd b5).c19;obtain⟨b8,k5,g3,i9⟩:=Ye g4 b5 a3 e7;clear g0 g4 b5 a3 e7;go_wp2_with fail;refine(i1.o _ b8.o).mono ?_;rintro e w1 ⟨sl,so,rfl,b0,i3⟩;have a3:=k5.o.ext b0;obtain⟨d4,k2,l2,k7,j9,i7⟩:=Yg (QhR a3 5 6 oN) a3 (g3.o.ext b0) (b8.o.trans b0) i3.rv b0.size;clear a3 b0 i3 c5 c6 c7 c8 c9 o5;go_wp2_with(refine fq rfl 34 (.tmp 9) (.tmp 8) rfl w.heap.size 5 #[.int .i64 m.was.kind,.bool m.was.b,.int .i64 m.was.i,.string m.was.t,.slice sl.a m.was.l.length sl.c,.slice so.a m.was.ok.length so.c] rfl rfl d4.o kM (by simp[Value.oneCell']) ?_;generalize e2:World.setCells _ _ _ _=v2;obtain⟨e3,j5,g5⟩:=Qp6 (m':=m) (c':=⟨sl,so,c.v1,c.v2,c.s⟩) k2.o e2 rfl;have g7:Ext w v2:=(by rw[<-e2];exact Ext.setCells (ao _) _ _ k7.o);obtain⟨-,-,-,-,-,-,-,-,-,-,-,-,l6,l7,n8,p2,p9,l9,-⟩:=(gd e3).c19;have k1:=hY e3;have d7:=hY j5;have i4:=hY g5;have e8:=hY g7;clear e2 e3 j5 g5 g7);refine(k8.o _ e8.o).mono ?_;rintro e w3 ⟨Z,N,rfl,b9,j2⟩;have e1:=k1.o.ext b9;obtain⟨d3,f7,f6,k6,b6⟩:=Yf (QhR e1 12 6 oN) e1 (e8.o.trans b9) j2.rv b9;clear e1 b9 j2 l6 l7 n8 p2 p9 l9;go_wp2_with(refine fq rfl 34 (.tmp 13) (.tmp 12) rfl w.heap.size 12 #[.int .i64 m.v.kind,.bool m.v.b,.int .i64 m.v.i,.string m.v.t,.slice Z.a m.v.l.length Z.c,.slice N.a m.v.ok.length N.c] rfl rfl d3.o kM (by simp[Value.oneCell']) ?_;generalize e4:World.setCells _ _ _ _=v4;obtain⟨a0,f8,l3⟩:=Qp6 (m':=m) (c':=⟨sl,so,Z,N,c.s⟩) f7.o e4 rfl;have k3:Ext w v4:=(by rw[<-e4];exact Ext.setCells (ao _) _ _ f6.o);have k9:v4.cell? ⟨w,0+18,none⟩=some (.slice c.s.a m.l.length c.s.c):=(gd a0) 18 _ rfl;have o2:=hY a0;have c1:=hY f8;have j4:=hY l3;have g9:=hY k3;clear e4 a0 f8 l3 k3);have e7:=i9.o;have z1:=i7.o;have z2:=i4.o;have z3:=b6.o.size;have z4:=j4.o;have q4:=b8.o.size;obtain⟨o6,n9,l8⟩:=Yc (show RV v4 (λb=>w+2<=b/\b<v4) m.was sl so from(((j9.o.agree (d7.o.mono λb I e=>by have:=I.1;omega)).agree (b6.o.agree λb I=>by have:=I.2;omega)).agree (c1.o.mono λb I e=>by have:=I.1;omega)).mono λb I=>⟨by have:=I.1;omega,by have:=I.2;omega⟩) (show RV v4 (λb=>w+2<=b/\b<v4) m.v Z N from(k6.o.agree (c1.o.mono λb I e=>by have:=I.1;omega)).mono λb I=>⟨by have:=I.1;omega,by have:=I.2;omega⟩) (show Blk v4 (w.heap.size+1) 37 _ from(c1.o _ oM).trans (((d7.o _ oM).trans l2.o) |>λh=>(b6.o.heap oM).trans h));clear j9 k6 k5 k2 k1 f7 d7 c1 g3 l2 i1 k8 b8 k7 e8 f6 b6 d4 d3 i9 i4 j4 i7;go_loopw[3,17] (λv3 n2 wr=>∃(j:Nat) (s2:Sl) (ys:List (Mu × MuS)),n2=.int .i64 (j:Int)/\v3=.slice s2.a ys.length s2.c/\j<=m.l.length/\Yd (ys.length=j)/\Yd (ys.map Prod.fst=m.l.take j)/\Yd (Ext v4 wr)/\Yd (wr.ownsRow v4.heap.size 37 19 (.slice s2.a ys.length s2.c) ys.length (ys.flatMap λp=>Qan p.1 p.2))/\Yd (∀y∈ys,RMu wr (QlN v4.heap.size wr s2) y.1 y.2)) (λ_ v _=>m.l.length -(intOf v).toNat)
   case atStart=>exact⟨0,Sl.none,[],rfl,rfl,aD _,hY rfl,hY rfl,hY (fQ _),hY (eK _ _ _ _),hY λy h=>by cases h⟩
   obtain⟨j,s2,ys,rfl,rfl,hj,b4,HY,HX,a2,g8⟩:=hrel;by_cases g6:j<m.l.length
   ·have l1:(j:Int)<(m.l.length:Int):=oM
    have q7:decide ((j:Int)<(m.l.length:Int))=true:=ey l1;have l0:(0:Int)<=(j:Int):=oM
    obtain⟨x,hx⟩:∃x,m.l[j]? = some x:=⟨_,ac g6⟩;obtain⟨b,o,y,p4,b7,q6,q5,c2,j8⟩:=HM.o.at hx;have b7:b<w:=b7;have a4:Ext w wr:=g9.o.trans HX.o;have q3:b<wr:=ab b7 a4.size;obtain⟨f4,f0,p6⟩:=Yc (c2.agree (a4.agree λ_ h=>h) b7) (λW (hW:Ext wr W)=>HI.o x y W (by have:=Mu.Qsr hx;have:=HN.o;omega) ((j8.agree ((a4.trans hW).agree λ_ h=>h)).mono λb I=>ab I (a4.trans hW).size)) (show m.l.take (j+1)=m.l.take j++[x]by rw[aT,hx];rfl);rw[p4];clear j8 c2 hx a4;go_wp2_with(first |(refine Qah rfl (.tmp 19) rfl b (o+j*19) rfl x y f4.o ?_) |(refine QiR rfl (.tmp 5) (.tmp 20) rfl x y (w0:=wr) (b:=wr) rfl ((fQ wr).alloc _ _) (fU wr _ _) rfl rfl rfl ?_;intro w5 a6 i5;have a5:=hY a6;have n6:=hY (gd i5);clear a6 i5) |(refine Qah rfl (.tmp 5) rfl wr.heap.size 0 rfl x y n6.o ?_));refine(f0.o _ a5.o).mono ?_;rintro e w6 ⟨c',rfl,j6,j0⟩;have a9:=a5.o.trans j6;have d6:=(fQ w6).alloc (Qa2 x c') 37;have o1:=hY (fU w6 37 (Qa2 x c'));have a1:Ext wr (w6.alloc (.cells (Qa2 x c') 37)):=a9.trans d6;obtain⟨c4,p7,q2,n4,f5,f9,l5⟩:=Yh a1 d6 a9 j0 a5.o.size (Qab (F:=Lt wr) a2.o (a1.agree λb I=>I) λb I=>(Qad a2.o I).2) (show ys.length+1<=maxLen by unfold maxLen;have:=b4.out;omega);obtain⟨o0,p0⟩:=Yb (show(ys.length+1)*264<=140737488355328 by have:=b4.out;omega) (show v4.heap.size<=(w6.alloc (.cells (Qa2 x c') 37)).heap.size from(HX.o.trans a1).size);clear j6 j0 a9 d6 a1;go_wp2_with(first |(refine QbT rfl 35 37 1 #[(0,.tmp 23)] rfl [Qaz x c'] 19 underlying35 hi d0 c3 oN rfl oN oN (λv hv=>by rw[bc.1 hv];rfl) rfl (Qa2 x c') rfl ?_) |(at_builtin;refine Qak _ rfl (.tmp 21) (.tmp 24) 35 rfl v4.heap.size 37 i0 _ 19 264 underlying35 hi c3 d0 j3 rfl oN s2 ys.length (ys.flatMap λp=>Qan p.1 p.2) rfl f9.o (λb=>b=w6.heap.size) ⟨some ⟨w6,0,none⟩,1⟩ 1 (Qan x c') rfl (ge o1.o oN rfl) (Qml (x,c')) l5.o o0.o p0.o ?_;intro s7 w9 b3 d5 j7;have o3:=hY b3;have e0:=hY d5;have f3:=hY j7;clear b3 d5 j7));go_roundw
    case measure=>simp[intOf];omega
    have p5:=λb (I:s2.row=some b)=>(Qad a2.o I)
    refine⟨j+1,s7,ys++[(x,c')],by go_num,by rw[aj];rfl,g6,hY (by rw[aj,b4.out];rfl),hY (by rw[aH,HY.o,p6.o];rfl),hY ?_,hY ?_,hY λz hz=>?_⟩
    .exact (HX.o.trans c4.o).wr e0.o λi hi=>(Qad f9.o hi).1
    ·rw [aj,aN,show [(x,c')].flatMap (fun p=>Qan p.1 p.2)=Qan x c' by simp]
     exact o3.o
    rcases aS.1 hz with hz|hz
    .exact QpO (fT c4.o) e0.o f3.o (g8.o z hz)
    rw[bc.1 hz];have:=f5.o;exact Qtu (w0:=w5) (by have:=HX.o.size;omega) (λb I=>by have:=(p5 b I).2;omega) (fT p7.o) e0.o f3.o n4.o
   obtain rfl:j=m.l.length:=oM
   have l1:decide ((m.l.length:Int)<(m.l.length:Int))=false:=ew oM;have a0:=o2.o.ext HX.o;have k9:wr.cell? ⟨w,18,none⟩=some _:=a0.cell 18;have o9:=a0.frozen 18;have lb:=a0.lt;have hy:=HY.o;rw[aU]at hy;obtain⟨n7,o8,o4⟩:=Yc hy a0 (l8.o.ext HX.o);clear a0 hy;rw[b4.out];go_upto_region 10 with fail;generalize a8:World.setCell _ _ _=w5;have i8:Blk w5 w.heap.size 37 (Qa2 m ⟨sl,so,Z,N,s2⟩):=by
    have:=o8.o.QbH 18 (.slice s2.a m.l.length s2.c);rw[a8]at this;exact this
   have a7:Agree (λb=>b≠w.heap.size) wr w5:=by rw[<-a8];exact fV wr ⟨w,18,none⟩ _ λh=>h rfl
   have a6:Ext w w5:=by rw[<-a8];exact(g9.o.trans HX.o).setCell (p:=⟨w,18,none⟩) (ao _) _
   have f2:w5.heap.size=wr.heap.size:=by rw[<-a8];exact eG _ _ _
   have e6:Blk w5 (w.heap.size+1) 37 _:=(a7 _ oM).trans o4.o;obtain⟨f1,p1,q0,k0,a5,p8⟩:=Yg (Qe3 e6 (show 19<=_ by decide)) (gd i8) e6 a7 a6 f2;clear a8 i8 a7 a6 f2 e6 k9 o9;go_wp2_with(first |(refine Qah rfl (.tmp 1) rfl w.heap.size 0 rfl m ⟨sl,so,Z,N,s2⟩ p1.o ?_) |(refine fq rfl 37 (.tmp 2) (.tmp 29) rfl (w.heap.size+1) 0 (Qa2 m ⟨sl,so,Z,N,s2⟩) rfl rfl f1.o (by exact Tryz.Qem) (fF (Qml (m,⟨sl,so,Z,N,s2⟩))) ?_));generalize hV:World.setCells _ _ _ _=v;have p3:Blk v (w.heap.size+1) 37 (Qa2 m ⟨sl,so,Z,N,s2⟩):=Qjf q0.o rfl hV;have k4:Agree (λb=>b≠w.heap.size+1) w5 v/\v.heap.size=w5.heap.size:=by rw[<-hV];exact Qba _ _ _ _
   have o7:Ext w v:=by rw[<-hV];exact Ext.setCells (bY _) _ _ a5.o
   clear hV;refine eE (v:=Qaz m ⟨sl,so,Z,N,s2⟩) (results_cell_row (p:=2) (ty:=37) results33 _ v (w.heap.size+1) 37 _ (0,0) _ rfl p3 underlying37 rfl (by exact Tryz.Qem)) rfl ?_;have zx:=HX.o.size;have zs:=p8.o;have zf:=k4.2;have c0:Agree (λb=>w+2<=b) wr v:=λb I=>(k4.1 b oM).trans (k0.o b oM)
   obtain⟨bl,fl,d8,c2⟩:=QuJ a2.o rfl;have i6:∀b,v4.heap.size<=b->b<wr.heap.size->In w.heap.size v.heap.size b:=λb h1 h2=>⟨oM,oM⟩
   have j1:∀k x,m.l[k]? = some x->∃p:Mu × MuS,ys[k]? = some p/\p.1=x:=λk x hx=>by
    rw[<-n7.o,au]at hx;cases hp:ys[k]? with
    |none=>rw[hp]at hx;cases hx
    |some p=>rw[hp]at hx;injection hx with hx;exact⟨p,hp,hx⟩
   refine⟨_,rfl,o7,HM.o.mk' (bl:=bl) (fl:=fl) (cl:=λk=>((ys[k]?).getD default).2) ?_ ?_ ?_ (λk x hx=>?_) λk x hx=>?_⟩
   .exact ((o6.o.agree (HX.o.agree λb I=>I.2)).agree (c0.mono λb I=>I.1)).mono λb I=>⟨by have:=I.1;omega,by have:=I.2;omega⟩
   .exact ((n9.o.agree (HX.o.agree λb I=>I.2)).agree (c0.mono λb I=>I.1)).mono λb I=>⟨by have:=I.1;omega,by have:=I.2;omega⟩
   ·have:=b4.out
    rw[this]at d8;exact d8.mono λb I=>i6 b I.1 I.2
   ·obtain ⟨p,hp,rfl⟩:=j1 k x hx
    simp only[hp];exact(c2 k p hp).agree (F:=λb=>v4<=b) (c0.mono λb I=>oM) (d8.fits (QaW hp)).1
   obtain⟨p,hp,rfl⟩:=j1 k x hx;simp only[hp];exact((g8.o p (aq hp)).agree (c0.mono λb I=>by have:=I.1;omega)).mono λb I=>i6 b I.1 I.2.1
theorem QoS{m:Mu}(h:RMu w (Lt w) m c):Calls prog 33 #[Qaz m c] w (Qi2 m w):=Qm5 _ m c w (ao _) h
abbrev Qd6(ys:List (Nm × MuS)):List Value:=ys.flatMap λp=>Qbw p.1 p.2
theorem QjD(a b:List (Nm × MuS)):Qd6 (a++b)=Qd6 a++Qd6 b:=aN
theorem Qun{last:Int}{x:Nm}{y:MuS}(hB:Blk w B 22 #[.int .u64 last]):Calls prog 32 #[QqR x y,.pointer (some ⟨B,0,none⟩)] w λe w'=>e=.returned (.bool (decide (last<x.id)))/\Ext w w':=by
 have HB:=hY hB;clear hB;go_in;go_upto_region 1 with fail;generalize I:World.alloc _ _=W0;have N:Ext w W0:=by rw[<-I];exact(fQ w).alloc _ _
 have Z:Blk W0 w.heap.size 39 (Qh5 x y):=by rw[<-I];exact fU w _ _
 have c0:W0.cell? ⟨w,0,none⟩=some (.int .u64 x.id):=(NmC.Qax Z).id;have c1:W0.cell? ⟨B,0,none⟩=some (.int .u64 last):=(HB.o.ext N).cell 0;have a0:=hY N;clear I N Z;go_wp2_with fail;go_ret;exact⟨rfl,a0.o⟩
theorem Qmf{last:Int}{l:List Nm}{x:Nm}(h:l[j]? = some x):QbK last (l.take (j+1))=if last<x.id then QbK last (l.take j)++[x]else QbK last (l.take j):=by
 rw[aT,h];exact Qnq _ _ _
theorem Qrl{l:List Nm}{last:Int}(hr:Qa7 w F s l)(hF:∀b,F b->b<w.heap.size)(hB:Blk w B 22 #[.int .u64 last]) :
  Calls prog 31 #[.slice s.a l.length s.c,.func (.func 32) #[] #[.pointer (some ⟨B,0,none⟩)]] w λe w'=>∃(s':Sl) (ys:List (Nm × MuS)),e=.returned (.slice s'.a ys.length s'.c)/\Ext w w'/\ys.map Prod.fst=QbK last l/\w'.ownsRow w.heap.size 39 20 (.slice s'.a ys.length s'.c) ys.length (Qd6 ys)/\∀y∈ys,RMu w F y.1.m y.2:=by
 obtain⟨i0,hi,c1,a8,d4⟩:=eI Tryz.Qcz;have e1:=hr.len;obtain⟨HR,HF,HB⟩:=Yc hr hF hB;clear hr hF hB;go_in;go_wp2_with fail;go_loopw[5,10] (λv5 d0 wr=>∃(j:Nat) (s2:Sl) (ys:List (Nm × MuS)),d0=.int .i64 (j:Int)/\v5=.slice s2.a ys.length s2.c/\j<=l.length/\ys.length<=j/\Yd (ys.map Prod.fst=QbK last (l.take j))/\Yd (Ext w wr)/\Yd (wr.ownsRow w.heap.size 39 20 (.slice s2.a ys.length s2.c) ys.length (Qd6 ys))/\Yd (∀y∈ys,RMu w F y.1.m y.2)) (λ_ v _=>l.length -(intOf v).toNat)
 case atStart=>exact⟨0,Sl.none,[],rfl,rfl,aD _,ao _,hY rfl,hY (fQ _),hY (eK _ _ _ _),hY λy h=>by cases h⟩
 obtain⟨j,s2,ys,rfl,rfl,hj,c0,HY,HX,I,a7⟩:=hrel;by_cases a6:j<l.length
 ·have l1:(j:Int)<(l.length:Int):=oM
  have e7:decide ((j:Int)<(l.length:Int))=true:=ey l1;have l0:(0:Int)<=(j:Int):=oM
  obtain⟨x,hx⟩:∃x,l[j]? = some x:=⟨_,ac a6⟩;obtain⟨b,o,y,c8,c2,e3,e2,a9,b4⟩:=HR.o.at hx;have b5:Agree F w wr:=HX.o.agree HF.o;have a2:=hY (a9.agree b5 c2);have e6:=a2.o.lt;obtain⟨d6,b0⟩:=Yb b4 (Qmf (last:=last) hx);rw[c8];clear a9 b4 b5 hx c2;go_wp2_with(first |(refine QjZ rfl (.tmp 12) rfl b (o+j*20) rfl x y a2.o ?_) |(refine Qsz rfl rfl rfl x y (w0:=wr) (b:=wr) rfl ((fQ wr).alloc _ _) (fU wr _ _) rfl rfl rfl ?_;intro w5 b9 c3;have b7:=hY b9;have b8:=hY (NmC.Qax c3);clear b9 c3) |(refine QjZ rfl (.tmp 7) rfl wr.heap.size 0 rfl x y b8.o ?_));refine(Qun (HB.o.ext (HX.o.trans b7.o))).mono ?_;rintro e w6 ⟨rfl,a5⟩;obtain⟨a1,c4⟩:=Yb (b7.o.trans a5) (b8.o.ext a5);clear a5;by_cases hk:last<x.id
  ·have g:decide (last<x.id)=true:=ey hk
   have N:=b0.o;rw[ez hk]at N;have HA:=hY N;have a4:=(fQ w6).alloc (Qh5 x y) 39;obtain⟨d8,d5⟩:=Yb (fU w6 39 (Qh5 x y)) a4;have Z:Ext wr (w6.alloc (.cells (Qh5 x y) 39)):=a1.o.trans a4;obtain⟨b6,c7,d7,c6⟩:=Ye (Qab (F:=Lt wr) I.o (Z.agree λb hb=>hb) λb hb=>(Qad I.o hb).2) (show ys.length+1<=maxLen by unfold maxLen;omega) (show(ys.length+1)*272<=140737488355328 by omega) (show w.heap.size<=(w6.alloc (.cells (Qh5 x y) 39)).heap.size from(HX.o.trans Z).size);rw[g];clear hk g N a4 Z;go_wp2_with(first |(refine QjZ rfl (.tmp 7) rfl wr.heap.size 0 rfl x y c4.o ?_) |(refine QbT rfl 23 39 1 #[(0,.tmp 18)] rfl [QqR x y] 20 underlying23 hi a8 c1 oN rfl oN oN (λv hv=>by rw[bc.1 hv];rfl) rfl (Qh5 x y) rfl ?_) |(at_builtin;refine Qak _ rfl (.tmp 17) (.tmp 19) 23 rfl w.heap.size 39 i0 _ 20 272 underlying23 hi c1 a8 d4 rfl oN s2 ys.length (Qd6 ys) rfl b6.o (λb=>b=w6.heap.size) ⟨some ⟨w6,0,none⟩,1⟩ 1 (Qbw x y) rfl (ge d8.o oN rfl) (Qtw (x,y)) c7.o d7.o c6.o ?_;intro s7 w9 a0 a3 b3;have e0:=hY a0;have c9:=hY a3;have e4:=hY b3;clear a0 a3 b3));go_roundw
   case measure=>simp[intOf];omega
   refine⟨j+1,s7,ys++[(x,y)],by go_num,by rw[aj];rfl,a6,by rw[aj];exact Nat.succ_le_succ c0,hY (by rw[aH,HY.o,HA.o];rfl),hY ?_,hY ?_,hY λz hz=>?_⟩
   .exact ((HX.o.trans a1.o).trans d5.o).wr c9.o λi hi=>(Qad b6.o hi).1
   ·rw [aj,QjD,show Qd6 [(x,y)]=Qbw x y by simp [Qd6]]
    exact e0.o
   rcases aS.1 hz with hz|hz
   .exact a7.o z hz
   rw[bc.1 hz];exact d6.o
  have g:decide (last<x.id)=false:=ew hk;have N:=b0.o;rw[ev hk]at N;have HA:=hY N;rw[g];clear hk g N;go_wp2_with fail;go_roundw
  case measure=>simp[intOf];omega
  exact⟨j+1,s2,ys,by go_num,rfl,a6,dX c0,hY (by rw[HA.o];exact HY.o),hY (HX.o.trans a1.o),hY (Qab (F:=Lt wr) I.o (a1.o.agree λb hb=>hb) λb hb=>(Qad I.o hb).2),a7⟩
 obtain rfl:j=l.length:=oM
 have l1:decide ((l.length:Int)<(l.length:Int))=false:=ew oM;have hy:=HY.o;rw[aU]at hy;have d3:=hY hy;clear hy;go_wp2_with fail;go_ret;exact⟨s2,ys,rfl,HX.o,d3.o,I.o,a7.o⟩
variable{cs:List Value}
theorem Qp4{base e size n:Nat}(h:w.ownsRow base e size (.slice s.a n s.c) n cs)(hn:0<n):∃g I,s.a=some ⟨g,0,none⟩/\base<=g/\Blk w g e I/\n*size<=I.size/\n<=s.c/\s.c<=maxLen:=by
 rcases h.2 with⟨hv,h0⟩ |⟨g,a2,I,hv,a0,hg,N,a1,Z,ht⟩
 .omega
 simp only[Value.slice.injEq]at hv;obtain⟨h1,-,h2⟩:=hv;subst h2;exact⟨g,I,h1,a0,hg,by rw[Z];exact ce _ N,N,a1⟩
structure Qos(w:World)(F:Nat->Prop)(g:Nat)(L:List Nm)(j:Nat)(cc:Nat->MuS)(wr:World):Prop where
 x:Ext w wr
 blk:0<L.length->∃cur,Blk wr g 39 cur/\L.length*20<=cur.size
 cells:∀k x,L[k]? = some x->NmC wr g (k*20) x (cc k)
 new:∀k x,k<j->L[k]? = some x->RMu wr (λb=>w.heap.size<=b/\b<wr.heap.size/\b≠g) x.m (cc k)
 old:∀k x,j<=k->L[k]? = some x->RMu w F x.m (cc k)
variable{c':MuS}
theorem Qos.step{w wr W:World}{L:List Nm}{cc:Nat->MuS}(h:Qos w F g L j cc wr)(hg:w<=g){x:Nm}(hx:L[j]? = some x)(k:Ext wr W)(hr:RMu W (In wr.heap.size W.heap.size) x.m c') :
  Qos w F g L (j+1) (λi=>if i=j then c' else cc i) (W.setCells g (j*20+1) (Qan x.m c')):=by
 have b0:j<L.length:=(ai.1 hx).1;obtain⟨a9,I,hc⟩:=h.blk oM;have a8:=I.lt;have a1:=I.ext k;have a6:W.there g (j*20+1) (Qan x.m c').length:=λi hi=>by
  rw[QfD]at hi;refine⟨?_,a1.frozen _⟩;rw[a1.cell,ct oM];rfl
 have a7:=fI W g (j*20+1) (Qan x.m c') a6;have a0:∀o',(o'<j*20+1\/j*20+20<=o')->(W.setCells g (j*20+1) (Qan x.m c')).cell? ⟨g,o',none⟩=W.cell? ⟨g,o',none⟩:=λo' ho=>by
  rw[World.cell?_setCells_out g _ _ _ _ (λ_ _=>by rw[QfD];show o'<j*20+1\/j*20+1+19<=o';omega)]
 have a4:Agree (λb=>b≠g) W (W.setCells g (j*20+1) (Qan x.m c')):=(Qba g (Qan x.m c') (j*20+1) W).1;have a2:(W.setCells g (j*20+1) (Qan x.m c')).heap.size=W.heap.size:=(Qba g (Qan x.m c') (j*20+1) W).2;refine⟨Ext.setCells hg _ _ (h.x.trans k),?_,λi y Z=>?_,λi y hi Z=>?_,λi y hi Z=>?_⟩
 ·obtain ⟨a5,h1,h2⟩:=Qcv (Qan x.m c') (j*20+1) a1
  exactλ_=>⟨a5,h1,by rw[h2];exact hc⟩
 ·have a3:=(h.cells i y Z).ext k
  by_cases N:i=j
  ·subst N
   obtain rfl:x=y:=by rw[hx]at Z;injection Z
   simp only[if_pos];intro q u hu;cases q with
   |zero=>rw[a0 _ (.inl oM)];exact a3 0 u (by simpa[Qbw]using hu)
   | succ q=>
     have:=a7 q u (by simpa[Qbw]using hu);rwa[show i*20+(q+1)=i*20+1+q by omega]
  simp only[if_neg N];intro q u hu;have hq:q<20:=by have:=(ai.1 hu).1;rwa[Qtp]at this
  rw[a0 _ oM];exact a3 q u hu
 ·by_cases N:i=j
  ·subst N
   obtain rfl:x=y:=by rw[hx]at Z;injection Z
   simp only[if_pos];exact(hr.agree (a4.mono λb I e=>by have:=I.1;omega)).mono λb I=>⟨by have:=I.1;have:=h.x.size;omega,by rw[a2];exact I.2,λe=>by have:=I.1;omega⟩
  simp only[if_neg N];have h1:=h.new i y oM Z;exact((h1.agree (k.agree λb I=>I.2.1)).agree (a4.mono λb I=>I.2.2)).mono λb I=>⟨I.1,by rw[a2];exact ab I.2.1 k.size,I.2.2⟩
 rw[ev oM];exact h.old i y oM Z
theorem Qfk{l:List Nm}{last:Int}(hr:Qa7 w F s l)(hF:∀b,F b->b<w.heap.size) :
  Calls prog 12 #[.int .u64 last,.slice s.a l.length s.c] w λe w'=>∃s':Sl,e=.returned (.slice s'.a (QbK last l).length s'.c)/\Ext w w'/\Qa7 w' (In w.heap.size w'.heap.size) s' (QbK last l):=by
 have d7:=hr.len;have c8:=QgH last l;obtain⟨b5,HG,HF⟩:=Yc (show ∀n∈QbK last l,(Lit.int .u64 n.id).wf=true fromλn hn=>hr.wf n (cq.1 hn).1) (λW (hW:Ext w W) B hB=>Qrl (B:=B) (last:=last) (hr.ext hW hF) (λb Z=>ab (hF b Z) hW.size) hB) hF;obtain⟨L,hL⟩:∃L,QbK last l=L:=⟨_,rfl⟩;rw[hL]at c8 b5 HG ⊢;clear hr hF hL;go_in;go_upto_region 1 with fail;generalize b9:World.alloc _ _=W0;obtain⟨b0,c4,e7⟩:=Qb2 b9;obtain⟨a8,HC⟩:=Yb b0 (HG.o W0 b0 _ c4);clear b9 b0 c4;go_wp2_with fail;refine HC.o.mono ?_;rintro e w1 ⟨s1,ys,rfl,b8,a9,a0,b7⟩;have N:ys.length=L.length:=by rw[<-a9,ar]
 obtain⟨bl,fl,a2,c6⟩:=QuK a0 rfl;have z0:=a8.o.size;have a4:0<L.length->s1.a=some ⟨bl,0,none⟩/\w<=bl/\L.length<=s1.c/\s1.c<=maxLen/\fl=0/\∃a1,Blk w1 bl 39 a1/\L.length*20<=a1.size:=λh0=>by
  obtain⟨g,a1,h1,h2,h3,h4,h5,h6⟩:=Qp4 a0 (by rw[N];exact h0);obtain⟨e1,-,-⟩:=a2.eq (by rw[N];exact h0);have e1:s1.a=some ⟨bl,fl,none⟩:=e1;rw[h1]at e1;injection e1 with e1;injection e1 with e1 e2;subst e1 e2;rw[N]at h4 h5;exact⟨h1,oM,h5,h6,rfl,a1,h3,h4⟩
 have hM:Qos w F bl L 0 (λk=>((ys[k]?).getD default).2) w1:=by
  have b3:∀k x,L[k]? = some x->∃p:Nm × MuS,ys[k]? = some p/\p.1=x:=λk x I=>by
   rw[<-a9,au]at I;cases hp:ys[k]? with
   |none=>rw[hp]at I;cases I
   |some p=>rw[hp]at I;injection I with I;exact⟨p,hp,I⟩
  refine⟨a8.o.trans b8,λh0=>(a4 h0).2.2.2.2.2,λk x I=>?_,λk x h0=>absurd h0 (ee k),λk x _ I=>?_⟩
  ·obtain ⟨p,hp,rfl⟩:=b3 k x I
   have h1:=c6 k p hp;rw[(a4 (QaW I)).2.2.2.2.1,aI]at h1;simp only[hp];exact h1
  obtain⟨p,hp,rfl⟩:=b3 k x I;simp only[hp];exact(b7 p (aq hp)).agree λb Z=>(a8.o.heap (HF.o b Z)).symm
 obtain⟨HM,c0⟩:=Yb hM a4;rw[N]at a2 ⊢;have d6:=hY a2;clear b8 a9 a0 b7 N a2 c6 a4 hM;go_wp2_with fail;go_loopw[12] (λv wr=>∃(j:Nat) (cc:Nat->MuS),v=.int .i64 (j:Int)/\j<=L.length/\w1.heap.size<=wr.heap.size/\Yd (Qos w F bl L j cc wr)) (λv _=>L.length -(intOf v).toNat)
 case atStart=>exact⟨0,_,rfl,aD _,ao _,HM⟩
 obtain⟨j,cc,rfl,hj,e6,HL⟩:=hrel;by_cases c3:j<L.length
 ·have l1:(j:Int)<(L.length:Int):=oM
  have e4:decide ((j:Int)<(L.length:Int))=true:=ey l1;have l0:(0:Int)<=(j:Int):=oM
  obtain⟨x,I⟩:∃x,L[j]? = some x:=⟨_,ac c3⟩;obtain⟨d0,b4,e3,e0,-,-⟩:=c0.o oM;have a5:=hY (HL.o.cells j x I).mu;have b6:=HL.o.old j x (ao _) I;obtain⟨d5,d3,c7⟩:=Yc (QoS ((b6.agree (HL.o.x.agree HF.o)).mono (G:=Lt wr) λb Z=>ab (HF.o b Z) HL.o.x.size)) I b4;have d8:=a5.o.lt;rw[d0];clear b6 I b4;go_wp2_with(refine Qah rfl (.tmp 20) rfl bl (j*20+1) rfl x.m (cc j) a5.o ?_);refine d5.o.mono ?_;rintro e w5 ⟨c',rfl,a3,c1⟩;have a6:=HL.o.step c7.o d3.o a3 c1;have a7:=hY a6;have c2:w5.there bl (j*20+1) 19:=by
   obtain⟨a1,h1,h2⟩:=HL.o.blk oM;have h3:=h1.ext a3;intro i hi;refine⟨?_,h3.frozen _⟩;rw[h3.cell,ct oM];rfl
  have d4:=hY c2;have e8:=a3.size;clear a3 c1 a6 c2;go_wp2_with(refine QnZ rfl (.tmp 24) (.tmp 22) rfl bl (j*20+1) x.m c' d4.o rfl rfl ?_;generalize hV:World.setCells _ _ _ _=v;rw[hV]at a7;have c9:=hY (show v.heap.size=w5.heap.size from(by rw[<-hV];exact(Qba _ _ _ _).2));clear hV);go_roundw
  case measure=>simp[intOf];omega
  exact⟨j+1,_,by go_num,c3,by have:=c9.o;omega,a7⟩
 obtain rfl:j=L.length:=oM
 have l1:decide ((L.length:Int)<(L.length:Int))=false:=ew oM;go_wp2_with fail;go_ret;exact⟨s1,rfl,HL.o.x,⟨bl,fl,cc,d6.o.mono λb Z=>⟨by have:=Z.1;omega,by have:=Z.2;omega⟩,λk x I=>by rw[(c0.o (QaW I)).2.2.2.2.1,aI];exact HL.o.cells k x I,λk x I=>(HL.o.new k x (ai.1 I).1 I).mono λb Z=>⟨Z.1,Z.2.1⟩⟩,b5.o,oM⟩
end Go.Proofs.YtdiecmkpbadgjaaGreatDoor
