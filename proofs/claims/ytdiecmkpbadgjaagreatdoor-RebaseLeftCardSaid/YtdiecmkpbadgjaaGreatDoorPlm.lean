/- What the theorem needs of the texts OvLay3, TurnK, Int4, Int5, Int6, Int7, TotM, Int8, Int9, RowB, KnB, HeadP, NmW, Run24, Head24, CpM, Left24: no condition of its own. -/
import Derived.Great.BuildSlice
import Derived.Test.YtdiecmkpbadgjaaGreatDoorPll
import Derived.Test.YtdiecmkpbadgjaaGreatDoorPlb
set_option linter.unusedVariables false
set_option linter.unusedSimpArgs false
set_option linter.unnecessarySimpa false
set_option maxRecDepth 100000
set_option maxHeartbeats 4000000
namespace Go.Proofs.YtdiecmkpbadgjaaGreatDoor
open Go.Proofs.Tryz
open Go.RowKit Go.Maps Go.Sort Go.Shelf
def Tryz.QfP:Go.Shelf.Ren:=⟨λ| 103=>213|210=>234|206=>235|n=>n,λ| 9=>9|4=>4|24=>258|3=>3|n=>n,λ| n=>n⟩
theorem Tryz.QjQ:Go.Proofs.Lays.n103 prog Tryz.QfP:={
 mixed:=kM
 f103:=func213.trans (congrArg some kM)
 f206:=func235.trans (congrArg some kM)
 f210:=func234.trans (congrArg some kM)
 t3:=underlying3
 a3:=isAgg3
 z3:=sizeOf3
 v3:=zeroValue3
 t4:=underlying4
 a4:=isAgg4
 z4:=sizeOf4
 v4:=zeroValue4
 t9:=underlying9
 a9:=isAgg9
 z9:=sizeOf9
 v9:=zeroValue9
 t24:=underlying258
 a24:=isAgg258
 z24:=sizeOf258
 v24:=zeroValue258 }
theorem QtR{k f:ByteArray}(h:Qau f k=true):(⟨(Lib.trimPrefix k.data.toList f.data.toList).toArray⟩:ByteArray)=k.extract f.size k.size:=by
 have I:Lib.hasPrefix k.data.toList f.data.toList=true:=by
  have:=h;unfold Qau at this;rw[eh,eh]at this;exact this
 apply ByteArray.ext;apply dw.1;unfold Lib.trimPrefix;rw[dY I,ByteArray.data_extract,Array.toList_extract];show(k.data.toList.drop f.data.toList.length)=_;rw[List.extract_eq_take_drop];have h1:f.data.toList.length=f.size:=aR;have h2:k.data.toList.length=k.size:=aR;rw[h1,aV];rw[av,h2];exact an _
variable{w:World}
theorem QqG{k f t:ByteArray}(hb:Qau f k=true)(a0:k.size+t.size<=4611686018427387904)(hL:Qi4 w) :
  Calls prog 198 #[.string k,.string f,.string t] w λe w'=>(∃s,e=.returned (.tuple #[.string s,.int .i64 (Qci (QbB f t k))])/\(Qci (QbB f t k)=0->s=QbB f t k))/\Nw w w':=by
 have Z:=λW=>Any.strings_CutPrefix Tryz.QjQ k f W
 rw[QtR hb]at Z;rw[show Lib.hasPrefix k.data.toList f.data.toList=true by have:=hb;unfold Qau at this;rw[eh,eh]at this;exact this]at Z;have HC:=hY Z;have I:(QbB f t k).size<=maxLen:=by
  have h1:(k.extract f.size k.size).size<=k.size:=by rw[ByteArray.size_extract];omega
  unfold QbB maxLen;rw[ByteArray.size_append];omega
 obtain⟨q,hq⟩:∃q,QbB f t k=q:=⟨_,rfl⟩;rw[hq]at I ⊢;obtain⟨HQ,HS⟩:=Yb (show t++k.extract f.size k.size=q from hq) I;clear Z I hq;go_in;go_wp2_with fail;refine(HC.o _).mono ?_;rintro e w' ⟨rfl,rfl⟩;go_wp2_with fail;rw[HQ.o];have HK:=hY (Qc8 (w:=w') HS.o hL);clear hL hb;refine HK.o.mono ?_;rintro e w1 ⟨rfl,hn⟩;have HN:=hY hn;clear hn;by_cases N:Qci q=0
 ·have HZ:=hY N
  have g:(Qci q==0)=true:=by simp[N]
  clear N;go_wp2_with fail;go_ret2;exact⟨⟨q,by rw[HZ.o]<;>rfl,λ_=>rfl⟩,HN.o⟩
 have HZ:=hY N;have g:(Qci q==0)=false:=dW.2 N;clear N;go_wp2_with fail;go_ret2;exact⟨⟨_,rfl,λh=>absurd h HZ.o⟩,HN.o⟩
variable{H:Nat->Prop}{O:Nat}{d:OD}{M:List Ent}
theorem QvU(h:OvX H w O d M)(Z:(Qaa d.T).length<=1000000)(I:d.us.length<=1000000){p:ByteArray}(N:p.size<=maxLen) :
  Calls prog 197 #[.pointer (some ⟨O,0,none⟩),.string p] w λe w'=>∃s:Sl,e=.returned (.slice s.a (Qfh (Qau p) M).length s.c)/\Nw w w'/\Rd w' (In w.heap.size w'.heap.size) 1 s (Qfh (Qau p) M).length ((Qfh (Qau p) M).map .string):=
 (Qqd h.ov Z I N).mono λe w' ⟨s,ks,h1,h2,h3,h4,h5⟩=>by
   obtain rfl:ks=Qfh (Qau p) M:=QiP h4 (Qnn h.rel.ok.sorted) λk=>by rw[h5 k,QgL h.rel.ok.sorted,h.now k]
   exact⟨s,h1,h2,h3⟩
abbrev mvE(f t:ByteArray)(e:Ent):Ent:=(QbB f t e.1,e.2)
variable{f:ByteArray}{j:Nat}{e:Ent}
theorem Qiv(h:(QjI M f)[j]? = some e):e∈M/\Qau f e.1=true:=by
 have:=ak h;unfold QjI at this;exact bZ.1 this
theorem QeT{k:ByteArray}(h:Qci k=0):k.size<=64:=by
 unfold Qci at h;split at h
 .cases h
 split at h
 .cases h
 omega
variable{n:Nat}{s2 s7 sl so:Sl}
theorem QuQ{wr W w9:World}{v:Val}(h:Nw wr W)(N:Wr W w9 s2.row)(I:s7.a=s2.a\/s7.a=some ⟨W,0,none⟩/\Wr W w9 none)(hv:RV wr (QlN n wr s2) v sl so):RV w9 (QlN n w9 s7) v sl so:=by
 have h1:RV W (QlN n wr s2) v sl so:=hv.agree (fC h λb Z=>Z.2.1);have h2:RV w9 (QlN n wr s2) v sl so:=h1.agree (N.agree (λi hi=>ab hi.2.1 h.size) λk hk hF=>hF.2.2 hk);refine h2.mono λi hi=>⟨hi.1,ab hi.2.1 (am h.size N.grown.size),λe=>?_⟩
 rcases I with I |⟨I,-⟩
 .exact hi.2.2 (by unfold Sl.row at e ⊢;rwa[I]at e)
 unfold Sl.row at e;rw[I]at e;have e:some W.heap.size=some i:=e;injection e with e;have:=hi.2.1;have:=h.size;omega
theorem QrV{f t:ByteArray}(h:OvX H w O d M)(hH:∀b,H b->b<w.heap.size)(hn:d.us.length+2*M.length<=1000000)(hl:(Qaa d.T).length<=1000000)(hf:f.size<=maxLen)
  (ht:t.size<=100000000) (hL:Qb4 w) (hG:∀b,b<6->H b) :
  Calls prog 172 #[.pointer (some ⟨O,0,none⟩),.string f,.string t] w λe w'=>e=.returned (.int .i64 (QgM M f t).1)/\∃d',GoX H w O d (QgM M f t).2 (2*M.length) w' d':=by
 have d6:=QvU h hl oM hf;obtain⟨r,hr⟩:∃r,QgM M f t=r:=⟨_,rfl⟩;rw[hr];obtain⟨L,e8⟩:∃L,QjI M f=L:=⟨_,rfl⟩;have a4:Qfh (Qau f) M=L.map Prod.fst:=by rw[QjJ,e8]
 have l7:(Qfh (Qau f) M).length=L.length:=by rw[a4,ar]
 have l2:L.length<=M.length:=by rw[<-e8];exact cf _ _
 rw[l7,a4]at d6;obtain⟨HH,n6,HN,i3,HT,n8,n9⟩:=Yh h hH hn hl ht hL hG;obtain⟨HR,b6,b7,HP⟩:=Ye hr e8 l2 d6;obtain⟨i0,hi,q0,q8,o8⟩:=em Tryz.Qa8;clear h hH hn hl ht hL hr e8 l2 d6 a4 l7 hf hG;go_in;go_wp2_with fail;refine HP.o.mono ?_;rintro e w1 ⟨s,rfl,k7,j7⟩;obtain⟨a5,k0⟩:=Yb k7 j7;clear k7 j7;go_wp2_with fail;go_loopw[8,27] (λv8 q9 wr=>∃(j:Nat) (s2:Sl) (ys:List LE),q9=.int .i64 (j:Int)/\v8=.slice s2.a ys.length s2.c/\j<=L.length/\Yd (ys.length=j)/\Yd (ys.map LE.ent=(L.take j).map (mvE f t))/\Yd (Nw w1 wr)/\
  Yd (wr.ownsRow w1.heap.size 78 7 (.slice s2.a ys.length s2.c) ys.length (QaD ys))/\Yd (∀y∈ys,RV wr (QlN w1.heap.size wr s2) y.v y.sl y.so)/\Yd (QcF M f t (L.take j)=0)) (λ_ v _=>L.length -(intOf v).toNat)
 case atStart=>exact⟨0,Sl.none,[],rfl,rfl,aH _,hY rfl,hY rfl,hY (fA _ _),hY (ez _ _ _ _),hY (λy hy=>by cases hy),hY rfl⟩
 obtain⟨j,s2,ys,rfl,rfl,hj,c3,i5,HX,b8,n2,f2⟩:=hrel;by_cases l5:j<L.length
 ·have l1:(j:Int)<(L.length:Int):=oM
  have t0:decide ((j:Int)<(L.length:Int))=true:=dZ l1;have l0:(0:Int)<=(j:Int):=oM
  obtain⟨x,hx⟩:∃x,L[j]? = some x:=⟨_,ac l5⟩;obtain⟨b0,o0,a1,-,a9⟩:=k0.o;obtain⟨b3,i4,c9⟩:=a1.eq oM;have b5:=a1.fits oM;have cK:wr.cell? ⟨b0,o0+j,none⟩=some (.string x.1):=by
   rw[HX.o.cell b5.2 (λe=>e)];exact a9 j _ (by rw[aq,aq,hx];rfl)
  have hg:=Qiv (M:=M) (f:=f) (j:=j) (e:=x) (by rw[b6.o];exact hx);have c7:=HH.o.rel.ok.ok x hg.1;have a4:=QeT c7.1;have c1:=QqG (w:=wr) (t:=t) hg.2 (by have:=HT.o;omega) (n8.o.nw (a5.o.trans HX.o)).lib;obtain⟨q6,p7,p2,q2,p4,q3⟩:=Yg c1 (show Qaq M x.1=some x.2 from Qis HH.o.rel.ok.sorted hg.1) (QrU f2.o hx) (λh1 h2=>QhD f2.o hx h1 h2) hx a4;rw[b3];clear a9 a1 b5 hg c7 a4 c1 hx;go_wp2_with fail;refine q6.o.mono ?_;rintro e w2 ⟨⟨q',rfl,j1⟩,d7⟩;obtain⟨j8,r1⟩:=Yb ((a5.o.trans HX.o).trans d7) d7;have a2:=p2.o;by_cases hm:Qci (QbB f t x.1)=0
  rotate_left
  ·have g:(Qci (QbB f t x.1) == 0)=false:=dW.2 hm
   rw[dY hm]at a2;have Z:r=(8,M):=by rw[<-HR.o];unfold QgM;rw[b6.o,a2];exact dY oN
   have N:=hY Z;clear hm a2 Z j1 d7 cK;go_wp2_with fail;go_ret;exact⟨by rw[N.o]<;>rfl,d,by rw[N.o];exact HH.o.stay j8.o⟩
  obtain rfl:=j1 hm;rw[dV (λh=>h hm)]at a2;have a3:=Quh (HH.o.nw j8.o) i3.o (k:=QbB f t x.1) (am (QeT hm) oN);obtain⟨d8,HM,k2⟩:=Yc a3 hm a2;rw[hm];clear hm a2 j1 d7 a3 cK;go_wp2_with fail;refine d8.o.mono ?_;rintro e w3 ⟨s3,s4,rfl,k4,-⟩;obtain⟨y3,n4⟩:∃y,(Qaq M (QbB f t x.1)).getD zeroV=y:=⟨_,rfl⟩;obtain⟨g3,c0⟩:∃g,(Qaq M (QbB f t x.1)).isSome=g:=⟨_,rfl⟩;obtain⟨q,hq⟩:∃q,QbB f t x.1=q:=⟨_,rfl⟩;rw[n4,c0,hq];obtain⟨k6,HQ,j6⟩:=Yc c0 hq (r1.o.trans (ft k4));clear k4 n4 c0 hq d8;go_upto_region 10 with fail;have j0:=(fr w3).alloc #[.int .i64 y3.kind,.bool y3.b,.int .i64 y3.i,.string y3.t,.slice s3.a y3.l.length s3.c,.slice s4.a y3.ok.length s4.c] 34;generalize q5:World.alloc _ _=w4 at j0 ⊢;have j4:=hY (j6.o.trans (ft j0));clear q5 j0;go_cut [52] (λv w'=>v=.bool (g3 && !Qau f q)/\w'=w4)
  case first=>
   cases g3 with
   | false=>
     go_wp2_with fail;go_meet;exact⟨rfl,rfl⟩
   | true=>
     go_wp2_with fail;refine(Qhl _ q f).mono ?_;rintro e w5 ⟨rfl,rfl⟩;go_wp2_with fail;go_meet;exact⟨rfl,rfl⟩
  obtain⟨hv,hw⟩:=hcut;subst hv;have f3:=hY (show Nw wr wc by rw[hw];exact j4.o);clear hw j4 j6;rcases bg (g3 && !Qau f q)with I|I
  ·have a2:=k2.o
   rw[k6.o,HQ.o]at a2;rw[dY I]at a2;have Z:r=(13,M):=by rw[<-HR.o];unfold QgM;rw[b6.o,a2];exact dY oN
   have N:=hY Z;rw[I];clear I a2 Z;go_wp2_with fail;go_ret;exact⟨by rw[N.o]<;>rfl,d,by rw[N.o];exact HH.o.stay (a5.o.trans (HX.o.trans f3.o))⟩
  have b9:=q2.o (by rw[HM.o]) (by rw[k6.o,HQ.o];exact I);have l9:=hY b9;have a3:=Quh (HH.o.nw (a5.o.trans (HX.o.trans f3.o))) i3.o (k:=x.1) (am q3.o oN);rw[p7.o]at a3;have i6:=hY a3;rw[I];clear I b9 a3;go_wp2_with fail;refine i6.o.mono ?_;rintro e w6 ⟨s5,s6,rfl,k8,j9⟩;obtain⟨o3,r0⟩:=Yb (f3.o.trans (ft k8)) (show RV w6 (In wc.heap.size w6.heap.size) x.2 s5 s6 from j9.rv);clear k8 j9;rw[show(some x.2:Option Val).getD zeroV=x.2 from rfl];go_upto_region 13 with fail;have c8:=(fr w6).alloc #[.int .i64 x.2.kind,.bool x.2.b,.int .i64 x.2.i,.string x.2.t,.slice s5.a x.2.l.length s5.c,.slice s6.a x.2.ok.length s6.c] 34;have a6:=fu w6 34 #[.int .i64 x.2.kind,.bool x.2.b,.int .i64 x.2.i,.string x.2.t,.slice s5.a x.2.l.length s5.c,.slice s6.a x.2.ok.length s6.c];generalize o7:World.alloc _ _=w7 at c8 a6 ⊢;obtain⟨q1,r4⟩:=Yb (o3.o.trans (ft c8)) (r0.o.agree (c8.agree λb (I:In wc.heap.size w6.heap.size b)=>I.2));have g0:=am f3.o.size (an wc.heap.size);obtain⟨c2,f1⟩:=Yb g0 c8.size;have e0:w7.cell? ⟨w6.heap.size,0,none⟩=some (.int .i64 x.2.kind):=a6.cell 0;have e1:w7.cell? ⟨w6.heap.size,1,none⟩=some (.bool x.2.b):=a6.cell 1;have e2:w7.cell? ⟨w6.heap.size,2,none⟩=some (.int .i64 x.2.i):=a6.cell 2;have e3:w7.cell? ⟨w6.heap.size,3,none⟩=some (.string x.2.t):=a6.cell 3;have e4:w7.cell? ⟨w6.heap.size,4,none⟩=some (.slice s5.a x.2.l.length s5.c):=a6.cell 4;have e5:w7.cell? ⟨w6.heap.size,5,none⟩=some (.slice s6.a x.2.ok.length s6.c):=a6.cell 5;have g8:=(fr w7).alloc (⟨q,x.2,s5,s6⟩:LE).cells.toArray 78;obtain⟨p8,f4,r2⟩:=Yc (fu w7 78 (⟨q,x.2,s5,s6⟩:LE).cells.toArray) (q1.o.trans (ft g8)) g8;have c6:Nw wr (w7.alloc (.cells (⟨q,x.2,s5,s6⟩:LE).cells.toArray 78)):=f4.o;have l3:=hY (Qab (F:=Lt wr.heap.size) b8.o (fC c6 λb I=>I) λb I=>(Qad b8.o I).2);have l8:ys.length+1<=maxLen:=by have:=c3.o;have:=b7.o;have:=HN.o;unfold maxLen;omega
  have k5:(ys.length+1)*104<=140737488355328:=by have:=c3.o;have:=b7.o;have:=HN.o;omega
  have d5:w1.heap.size<=(w7.alloc (.cells (⟨q,x.2,s5,s6⟩:LE).cells.toArray 78)).heap.size:=(HX.o.trans f4.o).size;obtain⟨p9,q7,r8,s1⟩:=Ye l8 k5 d5 c6;clear o7 c8 a6 g8 c6 l8 k5 d5 g0;go_wp2_with(at_builtin;refine Qak _ rfl (.tmp 59) (.tmp 63) 41 rfl w1.heap.size 78 i0 _ 7 104 underlying41 hi q0 q8 o8 rfl oN s2 ys.length (QaD ys) rfl l3.o (λb=>b=w7.heap.size) ⟨some ⟨w7.heap.size,0,none⟩,1⟩ 1 (⟨q,x.2,s5,s6⟩:LE).cells rfl (fF p8.o oN rfl) (LE.one _) p9.o q7.o r8.o ?_;intro s7 w9 d4 f7 k9;have r3:=hY d4;have f5:=hY f7;have n7:=hY k9;clear d4 f7 k9);have p1:L.length<=1000000:=by have:=b7.o;have:=HN.o;omega
  have f0:wrap64 ((j:Int)+1)=((j+1:Nat):Int):=by unfold wrap64;omega
  go_roundw
  case measure=>rw[f0];simp[intOf];omega
  have o5:=λb (I:s2.row=some b)=>Qad l3.o I
  have r6:Sb (λb=>s2.row=some b) (w7.alloc (.cells (⟨q,x.2,s5,s6⟩:LE).cells.toArray 78)) w9:=by
   have hg:=f5.o.grown;exact⟨hg.os,hg.tape,hg.output,hg.size,λi hi hn=>hg.block i hi λe=>hn e.symm⟩
  refine⟨j+1,s7,ys++[⟨q,x.2,s5,s6⟩],by rw[f0],by rw[aj];rfl,l5,hY (by rw[aj,c3.o];rfl),hY ?_,hY ?_,hY ?_,hY ?_,l9⟩
  ·rw [aI,i5.o,bf,p4.o,aI]
   show _++[(q,x.2)]=_++[(QbB f t x.1,x.2)];rw[HQ.o]
  .exact (HX.o.trans f4.o).comp r6 λi hi e=>by have:=(o5 i e).1;omega
  ·rw [aj,Qcp,show QaD [(⟨q,x.2,s5,s6⟩:LE)]=(⟨q,x.2,s5,s6⟩:LE).cells by simp [QaD]]
   exact r3.o
  intro y hy;rcases aB.1 hy with hy|hy
  .exact QuQ f4.o f5.o n7.o (n2.o y hy)
  obtain rfl:y=⟨q,x.2,s5,s6⟩:=by simpa using hy
  have s9:(w7.alloc (.cells (⟨q,x.2,s5,s6⟩:LE).cells.toArray 78)).heap.size=w7.heap.size+1:=ec _ _;have j5:=λb (I:s2.row=some b)=>(Qad b8.o I).2
  have s0:w7.heap.size+1<=w9.heap.size:=by
   have h:=f5.o.grown.size;rw[ec]at h;exact h
  have h1:RV w9 (In wc.heap.size w6.heap.size) x.2 s5 s6:=(r4.o.agree (r2.o.agree λb (I:In wc.heap.size w6.heap.size b)=>ab I.2 f1.o)).agree (f5.o.agree (λb I=>by rw[ec];have:=I.2;have:=f1.o;omega) λk hk hF=>by have:=j5 k hk;have:=hF.1;have:=c2.o;omega);refine h1.mono λb I=>⟨by have:=I.1;have:=c2.o;have:=HX.o.size;omega,by have:=I.2;have:=f1.o;omega,λe=>?_⟩
  rcases n7.o with hs |⟨hs,-⟩
  ·have e:s2.row=some b:=by unfold Sl.row at e ⊢;rwa [hs] at e
   have:=j5 b e;have:=I.1;have:=c2.o;omega
  unfold Sl.row at e;rw[hs]at e;have e:some (w7.alloc (.cells (⟨q,x.2,s5,s6⟩:LE).cells.toArray 78)).heap.size=some b:=e;injection e with e;have:=I.2;have:=f1.o;omega
 obtain rfl:j=L.length:=oM
 have l1:decide ((L.length:Int)<(L.length:Int))=false:=dX oM;have b9:QcF M f t L=0:=by have:=f2.o;rwa[bc]at this
 have k1:ys.map LE.ent=L.map (mvE f t):=by have:=i5.o;rwa[bc]at this
 have Z:r=(0,QdC (QeE M (L.map Prod.fst)) (L.map (mvE f t))):=by
  rw[<-HR.o];unfold QgM;rw[b6.o,dV (by rw[b9];exactλh=>h rfl),<-Qm8 HH.o.rel.ok.sorted f,QjJ,b6.o]
 obtain⟨N,o9,p3,g9,o6,f6⟩:=Yg Z k1 b9 (λ(b:Nat) (I:OvB O d b)=>HH.o.ov.Qbe I) (HH.o.nw (a5.o.trans HX.o)) (a5.o.trans HX.o);clear b9 k1 Z f2 i5
 rename World=>W0
 have p1:L.length<=500000:=by have:=b7.o;have:=HN.o;omega
 go_wp2_with fail;go_loopw[68] (λr7 w2=>∃(i:Nat) (d':OD),r7=.int .i64 (i:Int)/\i<=L.length/\Yd (GoX H W0 O d (QeE M ((L.take i).map Prod.fst)) i w2 d')) (λv _=>L.length -(intOf v).toNat)
 case atStart=>exact⟨0,d,rfl,aH _,hY (o6.o.stay (fA _ _))⟩
 obtain⟨i,d1,rfl,p5,a8⟩:=hrel;by_cases g7:i<L.length
 ·have m1:(i:Int)<(L.length:Int):=oM
  have r9:decide ((i:Int)<(L.length:Int))=true:=dZ m1;have m0:(0:Int)<=(i:Int):=oM
  obtain⟨x,hx⟩:∃x,L[i]? = some x:=⟨_,ac g7⟩;obtain⟨b0,o0,a1,-,a9⟩:=k0.o;obtain⟨b3,i4,c9⟩:=a1.eq oM;have b5:=a1.fits oM;have cK:wr.cell? ⟨b0,o0+i,none⟩=some (.string x.1):=by
   rw[a8.o.go.sb.cell (ab b5.2 HX.o.size) (λe=>by have:=g9.o b0 e;have:=b5.1;omega),HX.o.cell b5.2 (λe=>e)];exact a9 i _ (by rw[aq,aq,hx];rfl)
  have hg:=Qiv (M:=M) (f:=f) (j:=i) (e:=x) (by rw[b6.o];exact hx);have a4:=QeT (HH.o.rel.ok.ok x hg.1).1;have g6:=Qvk a8.o.at_ (λb I=>ab (n6.o b I) (am f6.o.size a8.o.go.sb.size)) (by have:=a8.o.few;have:=HN.o;have:=b7.o;omega) (by rw[a8.o.T];exact i3.o) (k:=x.1) (am a4 oN);have l4:=hY g6;have q4:=hY (show QbM (QeE M ((L.take i).map Prod.fst)) x.1=QeE M ((L.take (i+1)).map Prod.fst)by
   rw[bf,hx,aI];unfold QeE;rw[dL];rfl)
  rw[b3];clear a9 a1 b5 hg a4 g6 hx;go_wp2_with fail;refine l4.o.mono ?_;rintro e w5 ⟨rfl,d2,i1⟩;rw[q4.o]at i1;have i6:=hY (a8.o.trans i1);clear i1;have f0:wrap64 ((i:Int)+1)=((i+1:Nat):Int):=by unfold wrap64;omega
  go_wp2_with fail;go_roundw
  case measure=>simp[intOf];omega
  exact⟨i+1,d2,by go_num,g7,i6⟩
 obtain rfl:i=L.length:=oM
 have i7:=a8.o;rw[bc]at i7;have d8:=hY i7;have m1:decide ((L.length:Int)<(L.length:Int))=false:=dX oM;have c4:=hY (show ys.length=L.length from c3.o);have s8:ys.length<=500000:=by have:=c3.o;omega
 rename World=>W1
 clear i7 a8 l1 m1 p5 hj;have l1:decide ((L.length:Int)<(L.length:Int))=false:=dX oM;go_wp2_with fail;go_loopw[78] (λo4 w3=>∃(i:Nat) (d':OD),o4=.int .i64 (i:Int)/\i<=ys.length/\Yd (GoX H W0 O d (QdC (QeE M (L.map Prod.fst)) ((L.take i).map (mvE f t))) (L.length+i) w3 d')) (λv _=>ys.length -(intOf v).toNat)
 case atStart=>exact⟨0,d1,rfl,aH _,d8⟩
 obtain⟨i,d2,rfl,t1,a0⟩:=hrel;by_cases g4:i<ys.length
 ·have m1:(i:Int)<(ys.length:Int):=oM
  have r9:decide ((i:Int)<(ys.length:Int))=true:=dZ m1;have m0:(0:Int)<=(i:Int):=oM
  obtain⟨y,hy⟩:∃y,ys[i]? = some y:=⟨_,ac g4⟩;obtain⟨x,hx⟩:∃x,L[i]? = some x:=⟨_,ac (by have:=c4.o;omega)⟩;have e7:y.ent=mvE f t x:=by
   have:=congrArg (λl=>l[i]?) o9.o;simp only[List.getElem?_map,hy,hx,Option.map_some]at this;injection this
  have hk:y.k=QbB f t x.1:=congrArg Prod.fst e7;have hv:y.v=x.2:=congrArg Prod.snd e7;have hg:=Qiv (M:=M) (f:=f) (j:=i) (e:=x) (by rw[b6.o];exact hx);have c7:=HH.o.rel.ok.ok x hg.1;have i9:Qci y.k=0:=by rw[hk];exact QhC p3.o (ak hx)
  have i8:okV y.v:=by rw[hv];exact c7.2
  have g5:∀M',setMu M' y.k y.v=(0,QbY M' y.k y.v):=λM'=>by
   unfold setMu;rw[dV (λh=>h i9),dV (λh=>h i8.2)]
  obtain⟨b1,o1,a1,-,a9⟩:=fD b8.o;obtain⟨b3,i4,c9⟩:=a1.eq oM;have i2:=a1.fits oM;have b3:s2.a=some ⟨b1,o1,none⟩:=b3;have a7:∀c u,c<7->y.cells[c]? = some u->wr.cell? ⟨b1,o1+i*7+c,none⟩=some u:=λc u hc hu=>by
   rw[a0.o.go.sb.cell i2.2 (λe=>by have:=g9.o b1 e;have:=i2.1;have:=a5.o.size;omega),bH];exact a9 _ _ (by rw[Qc4 hy c hc];exact hu)
  have e0:wr.cell? ⟨b1,o1+i*7,none⟩=some (.string y.k):=a7 0 _ oN rfl;have e1:wr.cell? ⟨b1,o1+i*7+1,none⟩=some (.int .i64 y.v.kind):=a7 1 _ oN rfl;have e2:wr.cell? ⟨b1,o1+i*7+2,none⟩=some (.bool y.v.b):=a7 2 _ oN rfl;have e3:wr.cell? ⟨b1,o1+i*7+3,none⟩=some (.int .i64 y.v.i):=a7 3 _ oN rfl;have e4:wr.cell? ⟨b1,o1+i*7+4,none⟩=some (.string y.v.t):=a7 4 _ oN rfl;have e5:wr.cell? ⟨b1,o1+i*7+5,none⟩=some (.slice y.sl.a y.v.l.length y.sl.c):=a7 5 _ oN rfl;have e6:wr.cell? ⟨b1,o1+i*7+6,none⟩=some (.slice y.so.a y.v.ok.length y.so.c):=a7 6 _ oN rfl;have b4:=(fr wr).alloc y.cells.toArray 78;have k3:=n2.o y (ak hy);have f9:RV wr (QlN w1.heap.size W0 s2) y.v y.sl y.so:=k3.agree λb (I:QlN w1.heap.size W0 s2 b)=>a0.o.go.sb.block b I.2.1 λe=>by have:=g9.o b e;have:=I.1;have:=a5.o.size;omega
  have f8:RV (wr.alloc (.cells y.cells.toArray 78)) (Lt (wr.alloc (.cells y.cells.toArray 78)).heap.size) y.v y.sl y.so:=(f9.agree (b4.agree λb (I:QlN w1.heap.size W0 s2 b)=>ab I.2.1 a0.o.go.sb.size)).mono λb I=>ab I.2.1 (am a0.o.go.sb.size b4.size)
  have d0:=QqS (k:=y.k) (a0.o.at_.nw (ft b4)) (λb I=>ab (n6.o b I) (am f6.o.size (am a0.o.go.sb.size b4.size))) (by have:=a0.o.few;have:=HN.o;have:=b7.o;have:=c4.o;omega) (am (QeT i9) oN) f8 (am i8.cnt oN) (((n8.o.nw f6.o).sb a0.o.go.sb (λb I e=>HH.o.ov.out b e (n9.o b I))).nw (ft b4));rw[g5]at d0;obtain⟨l6,r5⟩:=Yb d0 (ft b4);have p6:=hY (show QbY (QdC (QeE M (L.map Prod.fst)) ((L.take i).map (mvE f t))) y.k y.v=QdC (QeE M (L.map Prod.fst)) ((L.take (i+1)).map (mvE f t))by
   rw[bf,hx,aI];show _=QdC _ (_++[mvE f t x]);rw[Qls,<-e7];rfl)
  rw[b3];clear hk hv hg c7 i9 i8 g5 a9 a1 i2 a7 b4 k3 f9 f8 d0 hy hx e7 i4 c9;go_wp2_with fail;refine l6.o.mono ?_;rintro e w5 ⟨rfl,d3,c0⟩;have j2:=a0.o.trans (c0.since r5.o);rw[p6.o]at j2;have p0:=hY j2;clear c0 j2;have f0:wrap64 ((i:Int)+1)=((i+1:Nat):Int):=by unfold wrap64;omega
  go_wp2_with fail;go_roundw
  case measure=>simp[intOf];omega
  exact⟨i+1,d3,by go_num,g4,p0⟩
 obtain rfl:i=ys.length:=oM
 have m1:decide ((ys.length:Int)<(ys.length:Int))=false:=dX oM;have j3:=a0.o;rw[c4.o,bc]at j3;have o2:=hY ((j3.since f6.o).more (m:=2*M.length) (by have:=b7.o;omega));clear j3 a0;go_wp2_with fail;go_ret;exact⟨by rw[N.o]<;>rfl,d2,by rw[N.o];exact o2.o⟩
def HB(H:Nat->Prop)(a b:Nat):Nat->Prop:=λi=>H i\/(a<=i/\i<b)
variable{w0:World}
theorem OvX.boxes(h:OvX H w O d M)(k:Nw w w0):OvX (HB H w.heap.size w0.heap.size) w0 O d M:=
 OvX.nw ⟨h.ov.more λb N e=>e.elim id λI=>by have:=I.1;omega,h.rel⟩ k
variable{G:Nat->Prop}{w':World}
theorem GoX.less{d d':OD}(h:GoX G w O d M n w' d')(I:∀b,H b->G b):GoX H w O d M n w' d':=
 ⟨⟨h.go.at_.more λb _ e=>I b e,h.go.sb,h.go.new⟩,h.T,h.rel,h.us,h.hs,h.few⟩
variable{B:Nat}{u:Value}
theorem heap_set{v:Value}(h:w'.heap[B]? = w.heap[B]?){t:TypeId}(I:Blk w B t #[u]):(w'.setCell ⟨B,0,none⟩ v).heap[B]? =(w.setCell ⟨B,0,none⟩ v).heap[B]?:=by
 have h1:Blk (w.setCell ⟨B,0,none⟩ v) B t #[v]:=I.QbH 0 v;have h2:Blk (w'.setCell ⟨B,0,none⟩ v) B t #[v]:=(show Blk w' B t #[u]from h.trans I).QbH 0 v;exact Eq.trans h2 (Eq.symm h1)
theorem GoX.code{d d':OD}(h:GoX H w O d M n w' d'){t:TypeId}{u v:Value}(hB:H B)(hb:Blk w B t #[u])(ho:¬OvB O d B) :
  GoX H (w.setCell ⟨B,0,none⟩ v) O d M n (w'.setCell ⟨B,0,none⟩ v) d':=by
 have N:Sb (λi=>i=B) w (w.setCell ⟨B,0,none⟩ v):=(fA (λi=>i=B) w).set (p:=⟨B,0,none⟩) (.inr rfl) v;have s2:Sb (λi=>i=B) w' (w'.setCell ⟨B,0,none⟩ v):=(fA (λi=>i=B) w').set (p:=⟨B,0,none⟩) (.inr rfl) v;have Z:(w.setCell ⟨B,0,none⟩ v).heap.size=w.heap.size:=sM
 have z2:(w'.setCell ⟨B,0,none⟩ v).heap.size=w'.heap.size:=sM
 have I:=h.go.sb;have hl:=hb.lt;refine⟨⟨h.go.at_.sb s2 λb e=>by rw[e];exact hB,⟨?_,?_,?_,by rw[Z,z2];exact I.size,λi hi hn=>?_⟩,λb a0=>(h.go.new b a0).imp id λe=>by rw[Z];exact e⟩,h.T,h.rel,h.us,h.hs,h.few⟩
 .rw [s2.os,I.os,N.os]
 .rw [s2.tape,I.tape,N.tape]
 .rw [s2.output,I.output,N.output]
 rw[Z]at hi;by_cases e:i=B
 ·subst e
  exact heap_set (I.block i hi hn) hb
 rw[s2.block i (ab hi I.size) e,I.block i hi hn,N.block i hi e]
def noB(c:Int)(n:Nat):Nat:=if c=0 then n else 0
theorem QsF(c:Int)(n:Nat):noB c n<=n:=by unfold noB;split<;>omega
variable{w1:World}
theorem Qs6{d d1:OD}{M M1:List Ent}{n N B2 B5:Nat}{code:Int}(u:FrameMode)(h:OvX H w0 O d M)(g:GoX H w0 O d M1 n w1 d1)(hn:d1.us.length<=1000000)
  (h4:Blk w1 N 71 #[.int .i64 code]) (h2:Blk w1 B2 151 #[.pointer (some ⟨O,0,none⟩)]) (h5:Blk w1 B5 3 #[.int .i64 (d.us.length:Int)]) (o4:¬OvB O d N) (l4:N<w0.heap.size) :
  CallsD prog 165 #[.pointer (some ⟨N,0,none⟩),.pointer (some ⟨B2,0,none⟩),.pointer (some ⟨B5,0,none⟩)] u w1 λe u' w'=>u'=u/\(e=.returned (.tuple #[])/\Blk w' N 71 #[.int .i64 code]/\∃d2,GoX H w0 O d (if code=0 then M1 else M) (noB code n) w' d2):=by
 have c4:w1.cell? ⟨N,0,none⟩=some (.int .i64 code):=h4.cell 0;have c2:w1.cell? ⟨B2,0,none⟩=some (.pointer (some ⟨O,0,none⟩)):=h2.cell 0;have c5:w1.cell? ⟨B5,0,none⟩=some (.int .i64 (d.us.length:Int)):=h5.cell 0;have I:=Qvj h g hn;obtain⟨HB,HG,H4,a1,a0⟩:=Yf I g h4 o4 l4;clear I h g hn h4 h2 h5 o4 l4;by_cases h0:code=0
 ·subst h0
  go_enter_d func165,ntmps165;go_wp2_with fail;go_end0;exact⟨rfl,H4.o,d1,HG.o⟩
 have g0:(code==0)=false:=dW.2 h0;have H0:=hY h0;clear h0;go_enter_d func165,ntmps165;go_wp2_with fail;refine HB.o.mono ?_;rintro e w2 ⟨rfl,d2,hg,-⟩;have Z:=hY hg;clear hg;go_wp2_with fail;go_end0;exact⟨rfl,(Z.o.go.sb.block N a0.o a1.o).trans ((HG.o.go.sb.block N a0.o a1.o).symm.trans H4.o),d2,Z.o.more (aH _)⟩
variable{z:Value}
theorem Qco{w N w3:World}{d d1:OD}{M M1:List Ent}{n B2 I B5:Nat}{code:Int}(hw:Nw w N)(h:OvX (HB H w.heap.size N.heap.size) N O d M)(a0:∀b,OvB O d b->b<w.heap.size)
  (g:GoX (HB H w.heap.size N.heap.size) N O d M1 n w3 d1) (hn:d1.us.length<=1000000) (h4:Blk N I 71 #[z]) (h2:Blk N B2 151 #[.pointer (some ⟨O,0,none⟩)]) (h5:Blk N B5 3 #[.int .i64 (d.us.length:Int)])
  (l4:w.heap.size<=I) (l2:w.heap.size<=B2) (l5:w.heap.size<=B5) (n2:B2≠I) (n5:B5≠I) :
  CallsD prog 165 #[.pointer (some ⟨I,0,none⟩),.pointer (some ⟨B2,0,none⟩),.pointer (some ⟨B5,0,none⟩)] .returning (w3.setCell ⟨I,0,none⟩ (.int .i64 code)) λe u' w'=>
   u'=.returning/\(e=.returned (.tuple #[])/\Blk w' I 71 #[.int .i64 code]/\∃d2,GoX H w O d (if code=0 then M1 else M) (noB code n) w' d2):=by
 have Z:∀{b},w.heap.size<=b->¬OvB O d b:=λhb e=>by have:=a0 _ e;omega
 have s0:Sb (λi=>i=I) N (N.setCell ⟨I,0,none⟩ (.int .i64 code)):=(fA (λi=>i=I) N).set (p:=⟨I,0,none⟩) (.inr rfl) _;have s3:Sb (λi=>i=I) w3 (w3.setCell ⟨I,0,none⟩ (.int .i64 code)):=(fA (λi=>i=I) w3).set (p:=⟨I,0,none⟩) (.inr rfl) _;have hB:HB H w.heap.size N.heap.size I:=.inr ⟨l4,h4.lt⟩;have a1:=g.code (v:=.int .i64 code) hB h4 (Z l4);have hx:OvX (HB H w.heap.size N.heap.size) (N.setCell ⟨I,0,none⟩ (.int .i64 code)) O d M:=⟨h.ov.sb s0 λb e=>by rw[e];exact hB,h.rel⟩;have z0:(N.setCell ⟨I,0,none⟩ (.int .i64 code)).heap.size=N.heap.size:=sM
 have a2:Nw w (N.setCell ⟨I,0,none⟩ (.int .i64 code)):=hw.comp s0 λi hi e=>oM
 refine(Qs6 .returning hx a1 hn ((g.go.sb.blk h4 (Z l4)).QbH 0 (.int .i64 code)) (s3.blk (g.go.sb.blk h2 (Z l2)) n2) (s3.blk (g.go.sb.blk h5 (Z l5)) n5) (Z l4) (by rw[z0];exact h4.lt)).mono ?_;rintro e u' w' ⟨h1,a3,h3,d2,hg⟩;exact⟨h1,a3,h3,d2,(hg.less λb e=>.inl e).since a2⟩
theorem Qf6{k:ByteArray}{v:Val}(h:(setMu M k v).1≠0):(setMu M k v).2=M:=by
 unfold setMu at h ⊢;split at h
 .rw [dY (by assumption)]
 rename_i h1;rw[dV h1];split at h
 .rw [dY (by assumption)]
 exact absurd rfl h
theorem Qoz{k:ByteArray}{n b:Int}(h:(Qoy M k n b).1≠0):(Qoy M k n b).2=M:=by
 unfold Qoy at h ⊢;split at h
 .rw [dY (by assumption)]
 rename_i h1;rw[dV h1];exact Qf6 h
theorem Qqn{k:ByteArray}{l:List Val}{x:Val}(h:(Qoo M k l x).1≠0):(Qoo M k l x).2=M:=by
 unfold Qoo at h ⊢;split at h
 .rw [dY (by assumption)]
 rename_i h1;rw[dV h1];exact Qf6 h
theorem Qcb{m:Mu}:(stepM m M).1≠0->(stepM m M).2=M:=by
 obtain⟨I,k,tk,i,a1,a0,a2,v,l⟩:=m;rw[stepM];by_cases k1:I=1
 .rw [dY k1];exact Qf6
 rw[dV k1];by_cases k2:I=2
 ·rw [dY k2];split
  .exact λh=>absurd rfl h
  exactλ_=>rfl
 rw[dV k2];by_cases k3:I=3
 ·rw [dY k3];unfold Qeb;split
  ·split
   .exact λ_=>rfl
   exact Qoz
  exact Qoz
 rw[dV k3];by_cases Z:I=4
 ·rw [dY Z];split
  ·split
   .exact Qf6
   exactλh=>absurd rfl h
  exactλ_=>rfl
 rw[dV Z];by_cases k5:I=5
 ·rw [dY k5];unfold Qq1;split
  ·split
   .exact λ_=>rfl
   exact Qqn
  exact Qqn
 rw[dV k5];by_cases N:I=6
 ·rw [dY N];unfold QgM;split
  .exact λ_=>rfl
  exactλh=>absurd rfl h
 rw[dV N];by_cases k7:I=7
 ·rw [dY k7];split
  ·split
   .exact λ_=>rfl
   rename_i h1;exactλh=>absurd h h1
  exactλ_=>rfl
 rw[dV k7]
 exactλ_=>rfl
def Qb8(m:Mu)(M:List Ent):Nat:=Qa0 m*(2*(M.length+Qa0 m)+1)
theorem Qdu(m:Mu)(M:List Ent):1+2*M.length<=Qb8 m M:=by
 have h:1<=Qa0 m:=by rw[Qf7];omega
 unfold Qb8
 calc 1+2*M.length<=1*(2*(M.length+Qa0 m)+1):=oM
  _<=Qa0 m*(2*(M.length+Qa0 m)+1):=bV _ h
theorem QtP(m:Mu):m.tk.size<=QcC m:=by
 obtain⟨kd,k,I,i,Z,N,a0,v,l⟩:=m;rw[QcC];show I.size<=_;omega
theorem Qjv{d d2:OD}{r:Int × List Ent}(h:r.1≠0->r.2=M)(I:GoX H w O d (if r.1=0 then r.2 else M) (noB r.1 n) w' d2):∃d',GoX H w O d r.2 (noB r.1 n) w' d':=by
 refine⟨d2,?_⟩;by_cases N:r.1=0
 .simp only[if_pos N]at I ⊢;exact I
 simp only[if_neg N]at I ⊢;rw[h N];exact I
variable{c:MuS}
theorem Qo0{m:Mu}(h:OvX H w O d M)(hH:∀b,H b->b<w)(hG:∀b,b<6->H b)(hm:RMu w (λb=>b<w/\¬OvB O d b) m c)(hL:Qb4 w)
  (hd:d.us.length+Qb8 m M<=1000000) (hl:(Qaa d.T).length<=1000000) (ht:QcC m<=1000000) (hk:m.kd=1) :
  Calls prog 131 #[.pointer (some ⟨O,0,none⟩),Qaz m c] w λe w'=>e=.returned (.int .i64 (stepM m M).1)/\∃d',GoX H w O d (stepM m M).2 (noB (stepM m M).1 (Qb8 m M)) w' d':=by
 have e8:∀(fn:Fn) (first cap:Array Value) (w:World),(Instr.makeFunc fn first cap).run prog w=.ok (.func fn first cap) w:=λ_ _ _ _=>rfl
 have e1:(m.kd==1)=true:=by simp[hk]
 obtain⟨HD,f0,d5,d0,d7⟩:=Yf hd hl ht (Qdu m M) hk;clear hd hl ht hk;obtain⟨r,hr⟩:∃r,stepM m M=r:=⟨_,rfl⟩;rw[hr];obtain⟨e2,HR⟩:=Yb (show r.1≠0->r.2=M fromλh=>by rw[<-hr]at h ⊢;exact Qcb h) hr;clear hr;go_enter_defers func131,ntmps131;go_upto_region 1 with fail;generalize c8:World.alloc _ _=W0;obtain⟨a8,c9,a9,b4,a0⟩:=Qal w _ _ _ _ _ _ W0 c8;have c2:W0.cell? ⟨w,0,none⟩=some (.pointer (some ⟨O,0,none⟩)):=a9.cell 0;have a1:=QdB (h.ov.nw (ft a8));obtain⟨d8,b5,c6,b7,b8,d3,HH⟩:=Yh a1 a8 a9 b4 a0 c9 h;obtain⟨e0,e4,HM,HL⟩:=Ye hH hG hm hL;clear c8 a8 c9 a9 b4 a0 a1 h hH hG hm hL;go_wp2_with fail;refine d8.o.mono ?_;rintro e w1 ⟨rfl,Z⟩;go_upto_region 2 with fail;have I:=(fr w1).alloc #[.int .i64 (d.us.length:Int)] 3;have a6:=fu w1 3 #[.int .i64 (d.us.length:Int)];have a7:(w1.alloc (.cells #[.int .i64 (d.us.length:Int)] 3)).heap.size=w1.heap.size+1:=ec _ _;generalize e3:World.alloc _ _=W2 at I a6 a7 ⊢;obtain⟨N,a5,b6,a4,d6,HZ⟩:=Yg ((b5.o.trans Z).trans I) ((c6.o.ext Z).ext I) ((b7.o.ext Z).ext I) ((b8.o.ext Z).ext I) a6 (show w.heap.size+3<=w1.heap.size/\W2.heap.size=w1.heap.size+1 from⟨by rw[<-d3.o];exact Z.size,a7⟩);obtain⟨a2,b9⟩:=Yb (fB b6.o) (HH.o.boxes (ft N.o));clear e3 Z I a6 a7 c2 b5 c6 b7 b8 d3;have k0:=a2.o.kind;go_upto_region 4 with fail;have c7:stepM m M=setMu M m.k m.v:=by
  obtain⟨kd,k,tk,i,e6,f2,e7,v,l⟩:=m;have hk:kd=1:=d7.o;subst hk;rw[stepM];rfl
 obtain⟨v0,v1,v2,v3,v4,v5⟩:=a2.o.v6;have b1:=a2.o.c1;have f1:=a2.o.c2;have b3:W2.cell? ⟨w+1,3,none⟩=some (.int .i64 m.i):=a2.o 3 _ rfl;have b2:W2.cell? ⟨w,0,none⟩=some (.pointer (some ⟨O,0,none⟩)):=a5.o.cell 0;have b0:RMu W2 (Lt W2) m c:=(HM.o.agree (N.o.agree λb hb=>hb.1)).mono λb hb=>ab hb.1 N.o.size
 have a3:=QqS (k:=m.k) b9.o (λb hb=>hb.elim (λe=>ab (e0.o b e) N.o.size) λe=>e.2) (by have:=HD.o;have:=d0.o;omega) b0.parts.2.2.1 b0.parts.2.1 (am (Qkz m).1 (by have:=d5.o;omega)) (HL.o.nw (ft N.o));rw[<-c7,HR.o]at a3;clear c7;have c3:=hY a3;clear a3 b0;go_wp2_with fail;refine c3.o.mono ?_;rintro e w3 ⟨rfl,d1,hg⟩;have HG:=hY (hg.more (m:=Qb8 m M) (by have:=d0.o;omega));have a0:=hg.go.sb.blk a4.o (λe=>by have:=HH.o.ov.Qbe e;omega);have c4:w3.cell? ⟨w+1+1,0,none⟩=some (.int .i64 0):=a0.cell 0;have f4:=a0.frozen 0;clear hg a0 k0;go_wp2_with fail;refine eL (f:=165) (args:=#[.pointer (some ⟨w+1+1,0,none⟩),.pointer (some ⟨w,0,none⟩),.pointer (some ⟨w1,0,none⟩)]) sM (by simp[go_sem]) ?_;refine(Qco (code:=r.1) (ft N.o) b9.o (λb e=>HH.o.ov.Qbe e) HG.o (by have:=HG.o.few;have:=HD.o;omega) a4.o a5.o d6.o oM oM (by have:=HZ.o;omega) oM (by have:=HZ.o;omega)).mono ?_;rintro e u' d4 ⟨rfl,rfl,hb,d2,hg⟩;have q4:d4.cell? ⟨w+1+1,0,none⟩=some (.int .i64 r.1):=hb.cell 0;have c0:=Qjv (r:=r) e2.o hg;clear hb hg;simp[Leaves,settle,results,results131,go_sem,q4,c0]
theorem Qo1{m:Mu}(h:OvX H w O d M)(hH:∀b,H b->b<w)(hG:∀b,b<6->H b)(hm:RMu w (λb=>b<w/\¬OvB O d b) m c)(hL:Qb4 w)
  (hd:d.us.length+Qb8 m M<=1000000) (hl:(Qaa d.T).length<=1000000) (ht:QcC m<=1000000) (hk:m.kd=2) :
  Calls prog 131 #[.pointer (some ⟨O,0,none⟩),Qaz m c] w λe w'=>e=.returned (.int .i64 (stepM m M).1)/\∃d',GoX H w O d (stepM m M).2 (noB (stepM m M).1 (Qb8 m M)) w' d':=by
 have f0:∀(fn:Fn) (first cap:Array Value) (w:World),(Instr.makeFunc fn first cap).run prog w=.ok (.func fn first cap) w:=λ_ _ _ _=>rfl
 have e1:(m.kd==1)=false:=by simp[hk]
 have e2:(m.kd==2)=true:=by simp[hk]
 obtain⟨HD,e0,e6,d4,d6⟩:=Yf hd hl ht (Qdu m M) hk;clear hd hl ht hk;obtain⟨r,hr⟩:∃r,stepM m M=r:=⟨_,rfl⟩;rw[hr];obtain⟨f1,HR⟩:=Yb (show r.1≠0->r.2=M fromλh=>by rw[<-hr]at h ⊢;exact Qcb h) hr;clear hr;go_enter_defers func131,ntmps131;go_upto_region 1 with fail;generalize c9:World.alloc _ _=W0;obtain⟨b3,d0,b5,b6,I⟩:=Qal w _ _ _ _ _ _ W0 c9;have c2:W0.cell? ⟨w,0,none⟩=some (.pointer (some ⟨O,0,none⟩)):=b5.cell 0;have a5:=QdB (h.ov.nw (ft b3));obtain⟨d7,b7,c8,b9,c0,d5,HH⟩:=Yh a5 b3 b5 b6 I d0 h;obtain⟨d8,e4,HM,HL⟩:=Ye hH hG hm hL;clear c9 b3 d0 b5 b6 I a5 h hH hG hm hL;go_wp2_with fail;refine d7.o.mono ?_;rintro e w1 ⟨rfl,a1⟩;go_upto_region 2 with fail;have Z:=(fr w1).alloc #[.int .i64 (d.us.length:Int)] 3;have a8:=fu w1 3 #[.int .i64 (d.us.length:Int)];have b0:(w1.alloc (.cells #[.int .i64 (d.us.length:Int)] 3)).heap.size=w1.heap.size+1:=ec _ _;generalize e3:World.alloc _ _=W2 at Z a8 b0 ⊢;obtain⟨a0,a4,b8,N,c3,HZ⟩:=Yg ((b7.o.trans a1).trans Z) ((c8.o.ext a1).ext Z) ((b9.o.ext a1).ext Z) ((c0.o.ext a1).ext Z) a8 (show w.heap.size+3<=w1.heap.size/\W2.heap.size=w1.heap.size+1 from⟨by rw[<-d5.o];exact a1.size,b0⟩);obtain⟨c6,a9⟩:=Yb (fB b8.o) (HH.o.boxes (ft a0.o));clear e3 a1 Z a8 b0 c2 b7 c8 b9 c0 d5;have k0:=c6.o.kind;go_upto_region 4 with fail;have b4:stepM m M=if(Qaq M m.k).isSome then(0,QbM M m.k)else(12,M):=by
  obtain⟨kd,k,tk,i,e7,f2,e8,v,l⟩:=m;have hk:kd=2:=d6.o;subst hk;rw[stepM];rfl
 have b1:=c6.o.c1;have b2:W2.cell? ⟨w,0,none⟩=some (.pointer (some ⟨O,0,none⟩)):=a4.o.cell 0;have d3:RMu W2 (Lt W2) m c:=(HM.o.agree (a0.o.agree λb hb=>hb.1)).mono λb hb=>ab hb.1 a0.o.size
 have a7:=Qvk (k:=m.k) a9.o (λb hb=>hb.elim (λe=>ab (d8.o b e) a0.o.size) λe=>e.2) (by have:=HD.o;have:=d4.o;omega) e0.o d3.parts.2.2.1;rw[HR.o]at b4;obtain⟨a6,c7⟩:=Yb b4 a7;clear a7 d3 b4;go_wp2_with fail;refine c7.o.mono ?_;rintro e w3 ⟨rfl,d1,hg⟩;have HG:=hY (hg.more (m:=Qb8 m M) (by have:=d4.o;omega));clear hg k0;rcases bg (Qaq M m.k).isSome with hi|hi
 ·have hs:=a6.o
  rw[dY hi]at hs;subst hs;rw[hi];clear hi a6;have I:=HG.o.go.sb.blk N.o (λe=>by have:=HH.o.ov.Qbe e;omega);have c4:w3.cell? ⟨w+1+1,0,none⟩=some (.int .i64 0):=I.cell 0;have f4:=I.frozen 0;clear I;go_wp2_with fail;refine eL (f:=165) (args:=#[.pointer (some ⟨w+1+1,0,none⟩),.pointer (some ⟨w,0,none⟩),.pointer (some ⟨w1,0,none⟩)]) sM (by simp[go_sem]) ?_;refine(Qco (code:=0) (ft a0.o) a9.o (λb e=>HH.o.ov.Qbe e) HG.o (by have:=HG.o.few;have:=HD.o;omega) N.o a4.o c3.o oM oM (by have:=HZ.o;omega) oM (by have:=HZ.o;omega)).mono ?_;rintro e u' a2 ⟨rfl,rfl,hb,d2,hg⟩;have q4:a2.cell? ⟨w+1+1,0,none⟩=some (.int .i64 0):=hb.cell 0;have a3:=(show ∃d',GoX H w O d (QbM M m.k) (noB 0 (Qb8 m M)) a2 d' from⟨d2,hg⟩);clear hb hg;simp[Leaves,settle,results,results131,go_sem,q4,a3]
 have hs:=a6.o;rw[dV (by rw[hi];decide)]at hs;subst hs;rw[hi];clear hi a6;have I:=HG.o.go.sb.blk N.o (λe=>by have:=HH.o.ov.Qbe e;omega);have c4:w3.cell? ⟨w+1+1,0,none⟩=some (.int .i64 0):=I.cell 0;have f4:=I.frozen 0;clear I;go_wp2_with fail;refine eL (f:=165) (args:=#[.pointer (some ⟨w+1+1,0,none⟩),.pointer (some ⟨w,0,none⟩),.pointer (some ⟨w1,0,none⟩)]) sM (by simp[go_sem]) ?_;refine(Qco (code:=12) (ft a0.o) a9.o (λb e=>HH.o.ov.Qbe e) HG.o (by have:=HG.o.few;have:=HD.o;omega) N.o a4.o c3.o oM oM (by have:=HZ.o;omega) oM (by have:=HZ.o;omega)).mono ?_;rintro e u' a2 ⟨rfl,rfl,hb,d2,hg⟩;have q4:a2.cell? ⟨w+1+1,0,none⟩=some (.int .i64 12):=hb.cell 0;have a3:=(show ∃d',GoX H w O d M (noB 12 (Qb8 m M)) a2 d' from⟨d2,hg⟩);clear hb hg;simp[Leaves,settle,results,results131,go_sem,q4,a3]
theorem Qo2{m:Mu}(h:OvX H w O d M)(hH:∀b,H b->b<w)(hG:∀b,b<6->H b)(hm:RMu w (λb=>b<w/\¬OvB O d b) m c)(hL:Qb4 w)
  (hd:d.us.length+Qb8 m M<=1000000) (hl:(Qaa d.T).length<=1000000) (ht:QcC m<=1000000) (hk:m.kd=3) :
  Calls prog 131 #[.pointer (some ⟨O,0,none⟩),Qaz m c] w λe w'=>e=.returned (.int .i64 (stepM m M).1)/\∃d',GoX H w O d (stepM m M).2 (noB (stepM m M).1 (Qb8 m M)) w' d':=by
 have f2:∀(fn:Fn) (first cap:Array Value) (w:World),(Instr.makeFunc fn first cap).run prog w=.ok (.func fn first cap) w:=λ_ _ _ _=>rfl
 have e1:(m.kd==1)=false:=by simp[hk]
 have e2:(m.kd==2)=false:=by simp[hk]
 have e3:(m.kd==3)=true:=by simp[hk]
 obtain⟨HD,e0,e8,d0,d6⟩:=Yf hd hl ht (Qdu m M) hk;clear hd hl ht hk;obtain⟨r,hr⟩:∃r,stepM m M=r:=⟨_,rfl⟩;rw[hr];obtain⟨e4,HR⟩:=Yb (show r.1≠0->r.2=M fromλh=>by rw[<-hr]at h ⊢;exact Qcb h) hr;clear hr;go_enter_defers func131,ntmps131;go_upto_region 1 with fail;generalize c8:World.alloc _ _=W0;obtain⟨a8,c9,a9,b4,a0⟩:=Qal w _ _ _ _ _ _ W0 c8;have c2:W0.cell? ⟨w,0,none⟩=some (.pointer (some ⟨O,0,none⟩)):=a9.cell 0;have a1:=QdB (h.ov.nw (ft a8));obtain⟨d7,b5,c6,b7,b8,d3,HH⟩:=Yh a1 a8 a9 b4 a0 c9 h;obtain⟨d8,e7,HM,HL⟩:=Ye hH hG hm hL;clear c8 a8 c9 a9 b4 a0 a1 h hH hG hm hL;go_wp2_with fail;refine d7.o.mono ?_;rintro e w1 ⟨rfl,Z⟩;go_upto_region 2 with fail;have I:=(fr w1).alloc #[.int .i64 (d.us.length:Int)] 3;have a6:=fu w1 3 #[.int .i64 (d.us.length:Int)];have a7:(w1.alloc (.cells #[.int .i64 (d.us.length:Int)] 3)).heap.size=w1.heap.size+1:=ec _ _;generalize e6:World.alloc _ _=W2 at I a6 a7 ⊢;obtain⟨N,a5,b6,a4,d5,HZ⟩:=Yg ((b5.o.trans Z).trans I) ((c6.o.ext Z).ext I) ((b7.o.ext Z).ext I) ((b8.o.ext Z).ext I) a6 (show w.heap.size+3<=w1.heap.size/\W2.heap.size=w1.heap.size+1 from⟨by rw[<-d3.o];exact Z.size,a7⟩);obtain⟨a2,b9⟩:=Yb (fB b6.o) (HH.o.boxes (ft N.o));clear e6 Z I a6 a7 c2 b5 c6 b7 b8 d3;have k0:=a2.o.kind;go_upto_region 4 with fail;have c7:stepM m M=Qeb M m.k m.i:=by
  obtain⟨kd,k,tk,i,f0,f5,f1,v,l⟩:=m;have hk:kd=3:=d6.o;subst hk;rw[stepM];rfl
 obtain⟨v0,v1,v2,v3,v4,v5⟩:=a2.o.v6;have b1:=a2.o.c1;have f3:=a2.o.c2;have b3:W2.cell? ⟨w+1,3,none⟩=some (.int .i64 m.i):=a2.o 3 _ rfl;have b2:W2.cell? ⟨w,0,none⟩=some (.pointer (some ⟨O,0,none⟩)):=a5.o.cell 0;have b0:RMu W2 (Lt W2) m c:=(HM.o.agree (N.o.agree λb hb=>hb.1)).mono λb hb=>ab hb.1 N.o.size
 have a3:=Qte (k:=m.k) (by_:=m.i) b9.o (λb hb=>hb.elim (λe=>ab (d8.o b e) N.o.size) λe=>e.2) (by have:=HD.o;have:=d0.o;omega) e0.o b0.parts.2.2.1 b0.parts.2.2.2.2 (HL.o.nw (ft N.o));rw[<-c7,HR.o]at a3;clear c7;have c3:=hY a3;clear a3 b0;go_wp2_with fail;refine c3.o.mono ?_;rintro e w3 ⟨rfl,d1,hg⟩;have HG:=hY (hg.more (m:=Qb8 m M) (by have:=d0.o;omega));have a0:=hg.go.sb.blk a4.o (λe=>by have:=HH.o.ov.Qbe e;omega);have c4:w3.cell? ⟨w+1+1,0,none⟩=some (.int .i64 0):=a0.cell 0;have f4:=a0.frozen 0;clear hg a0 k0;go_wp2_with fail;refine eL (f:=165) (args:=#[.pointer (some ⟨w+1+1,0,none⟩),.pointer (some ⟨w,0,none⟩),.pointer (some ⟨w1,0,none⟩)]) sM (by simp[go_sem]) ?_;refine(Qco (code:=r.1) (ft N.o) b9.o (λb e=>HH.o.ov.Qbe e) HG.o (by have:=HG.o.few;have:=HD.o;omega) a4.o a5.o d5.o oM oM (by have:=HZ.o;omega) oM (by have:=HZ.o;omega)).mono ?_;rintro e u' d4 ⟨rfl,rfl,hb,d2,hg⟩;have q4:d4.cell? ⟨w+1+1,0,none⟩=some (.int .i64 r.1):=hb.cell 0;have c0:=Qjv (r:=r) e4.o hg;clear hb hg;simp[Leaves,settle,results,results131,go_sem,q4,c0]
theorem Qo3{m:Mu}(h:OvX H w O d M)(hH:∀b,H b->b<w)(hG:∀b,b<6->H b)(hm:RMu w (λb=>b<w/\¬OvB O d b) m c)(hL:Qb4 w)
  (hd:d.us.length+Qb8 m M<=1000000) (hl:(Qaa d.T).length<=1000000) (ht:QcC m<=1000000) (hk:m.kd=4) :
  Calls prog 131 #[.pointer (some ⟨O,0,none⟩),Qaz m c] w λe w'=>e=.returned (.int .i64 (stepM m M).1)/\∃d',GoX H w O d (stepM m M).2 (noB (stepM m M).1 (Qb8 m M)) w' d':=by
 have f3:∀(fn:Fn) (first cap:Array Value) (w:World),(Instr.makeFunc fn first cap).run prog w=.ok (.func fn first cap) w:=λ_ _ _ _=>rfl
 have e1:(m.kd==1)=false:=by simp[hk]
 have e2:(m.kd==2)=false:=by simp[hk]
 have e3:(m.kd==3)=false:=by simp[hk]
 have e4:(m.kd==4)=true:=by simp[hk]
 obtain⟨HD,e6,d5,d0,d7⟩:=Yf hd hl ht (Qdu m M) hk;clear hd hl ht hk;obtain⟨r,hr⟩:∃r,stepM m M=r:=⟨_,rfl⟩;rw[hr];obtain⟨e7,HR⟩:=Yb (show r.1≠0->r.2=M fromλh=>by rw[<-hr]at h ⊢;exact Qcb h) hr;clear hr;go_enter_defers func131,ntmps131;go_upto_region 1 with fail;generalize c7:World.alloc _ _=W0;obtain⟨a8,c8,a9,b0,a1⟩:=Qal w _ _ _ _ _ _ W0 c7;have c2:W0.cell? ⟨w,0,none⟩=some (.pointer (some ⟨O,0,none⟩)):=a9.cell 0;have a2:=QdB (h.ov.nw (ft a8));obtain⟨d8,b4,c3,b6,b7,d3,HH⟩:=Yh a2 a8 a9 b0 a1 c8 h;obtain⟨e0,f0,HM,HL⟩:=Ye hH hG hm hL;clear c7 a8 c8 a9 b0 a1 a2 h hH hG hm hL;go_wp2_with fail;refine d8.o.mono ?_;rintro e w1 ⟨rfl,a0⟩;go_upto_region 2 with fail;have I:=(fr w1).alloc #[.int .i64 (d.us.length:Int)] 3;have a6:=fu w1 3 #[.int .i64 (d.us.length:Int)];have a7:(w1.alloc (.cells #[.int .i64 (d.us.length:Int)] 3)).heap.size=w1.heap.size+1:=ec _ _;generalize e8:World.alloc _ _=W2 at I a6 a7 ⊢;obtain⟨N,a5,b5,a4,d6,HZ⟩:=Yg ((b4.o.trans a0).trans I) ((c3.o.ext a0).ext I) ((b6.o.ext a0).ext I) ((b7.o.ext a0).ext I) a6 (show w.heap.size+3<=w1.heap.size/\W2.heap.size=w1.heap.size+1 from⟨by rw[<-d3.o];exact a0.size,a7⟩);obtain⟨Z,b8⟩:=Yb (fB b5.o) (HH.o.boxes (ft N.o));clear e8 a0 I a6 a7 c2 b4 c3 b6 b7 d3;have k0:=Z.o.kind;go_upto_region 4 with fail;have c6:stepM m M=Qt9 M m:=by
  obtain⟨kd,k,tk,i,f1,f6,f2,v,l⟩:=m;have hk:kd=4:=d7.o;subst hk;rw[stepM];rfl
 obtain⟨v0,v1,v2,v3,v4,v5⟩:=Z.o.v6;have b1:=Z.o.c1;have f5:=Z.o.c2;have b3:W2.cell? ⟨w+1,3,none⟩=some (.int .i64 m.i):=Z.o 3 _ rfl;have b2:W2.cell? ⟨w,0,none⟩=some (.pointer (some ⟨O,0,none⟩)):=a5.o.cell 0;have c9:RMu W2 (Lt W2) m c:=(HM.o.agree (N.o.agree λb hb=>hb.1)).mono λb hb=>ab hb.1 N.o.size
 have a3:=QsY (m:=m) (c:=c) b8.o (λb hb=>hb.elim (λe=>ab (e0.o b e) N.o.size) λe=>e.2) (by have:=HD.o;have:=d0.o;omega) e6.o c9 (by have:=d5.o;omega) (HL.o.nw (ft N.o));rw[<-c6,HR.o]at a3;clear c6;have c0:=hY a3;clear a3 c9;go_wp2_with(refine Qah rfl (.tmp 3) rfl (w.heap.size+1) 0 rfl m c Z.o ?_);refine c0.o.mono ?_;rintro e w3 ⟨rfl,d1,hg⟩;have HG:=hY (hg.more (m:=Qb8 m M) (by have:=d0.o;omega));have a1:=hg.go.sb.blk a4.o (λe=>by have:=HH.o.ov.Qbe e;omega);have c4:w3.cell? ⟨w+1+1,0,none⟩=some (.int .i64 0):=a1.cell 0;have f4:=a1.frozen 0;clear hg a1 k0;go_wp2_with fail;refine eL (f:=165) (args:=#[.pointer (some ⟨w+1+1,0,none⟩),.pointer (some ⟨w,0,none⟩),.pointer (some ⟨w1,0,none⟩)]) sM (by simp[go_sem]) ?_;refine(Qco (code:=r.1) (ft N.o) b8.o (λb e=>HH.o.ov.Qbe e) HG.o (by have:=HG.o.few;have:=HD.o;omega) a4.o a5.o d6.o oM oM (by have:=HZ.o;omega) oM (by have:=HZ.o;omega)).mono ?_;rintro e u' d4 ⟨rfl,rfl,hb,d2,hg⟩;have q4:d4.cell? ⟨w+1+1,0,none⟩=some (.int .i64 r.1):=hb.cell 0;have b9:=Qjv (r:=r) e7.o hg;clear hb hg;simp[Leaves,settle,results,results131,go_sem,q4,b9]
theorem Qo4{m:Mu}(h:OvX H w O d M)(hH:∀b,H b->b<w)(hG:∀b,b<6->H b)(hm:RMu w (λb=>b<w/\¬OvB O d b) m c)(hL:Qb4 w)
  (hd:d.us.length+Qb8 m M<=1000000) (hl:(Qaa d.T).length<=1000000) (ht:QcC m<=1000000) (hk:m.kd=5) :
  Calls prog 131 #[.pointer (some ⟨O,0,none⟩),Qaz m c] w λe w'=>e=.returned (.int .i64 (stepM m M).1)/\∃d',GoX H w O d (stepM m M).2 (noB (stepM m M).1 (Qb8 m M)) w' d':=by
 have f3:∀(fn:Fn) (first cap:Array Value) (w:World),(Instr.makeFunc fn first cap).run prog w=.ok (.func fn first cap) w:=λ_ _ _ _=>rfl
 have e1:(m.kd==1)=false:=by simp[hk]
 have e2:(m.kd==2)=false:=by simp[hk]
 have e3:(m.kd==3)=false:=by simp[hk]
 have e4:(m.kd==4)=false:=by simp[hk]
 have e5:(m.kd==5)=true:=by simp[hk]
 obtain⟨HD,e6,d5,d0,d7⟩:=Yf hd hl ht (Qdu m M) hk;clear hd hl ht hk;obtain⟨r,hr⟩:∃r,stepM m M=r:=⟨_,rfl⟩;rw[hr];obtain⟨e7,HR⟩:=Yb (show r.1≠0->r.2=M fromλh=>by rw[<-hr]at h ⊢;exact Qcb h) hr;clear hr;go_enter_defers func131,ntmps131;go_upto_region 1 with fail;generalize c8:World.alloc _ _=W0;obtain⟨a8,c9,a9,b4,a0⟩:=Qal w _ _ _ _ _ _ W0 c8;have c2:W0.cell? ⟨w,0,none⟩=some (.pointer (some ⟨O,0,none⟩)):=a9.cell 0;have a1:=QdB (h.ov.nw (ft a8));obtain⟨d8,b5,c6,b7,b8,d3,HH⟩:=Yh a1 a8 a9 b4 a0 c9 h;obtain⟨e0,f0,HM,HL⟩:=Ye hH hG hm hL;clear c8 a8 c9 a9 b4 a0 a1 h hH hG hm hL;go_wp2_with fail;refine d8.o.mono ?_;rintro e w1 ⟨rfl,Z⟩;go_upto_region 2 with fail;have I:=(fr w1).alloc #[.int .i64 (d.us.length:Int)] 3;have a6:=fu w1 3 #[.int .i64 (d.us.length:Int)];have a7:(w1.alloc (.cells #[.int .i64 (d.us.length:Int)] 3)).heap.size=w1.heap.size+1:=ec _ _;generalize e8:World.alloc _ _=W2 at I a6 a7 ⊢;obtain⟨N,a5,b6,a4,d6,HZ⟩:=Yg ((b5.o.trans Z).trans I) ((c6.o.ext Z).ext I) ((b7.o.ext Z).ext I) ((b8.o.ext Z).ext I) a6 (show w.heap.size+3<=w1.heap.size/\W2.heap.size=w1.heap.size+1 from⟨by rw[<-d3.o];exact Z.size,a7⟩);obtain⟨a2,b9⟩:=Yb (fB b6.o) (HH.o.boxes (ft N.o));clear e8 Z I a6 a7 c2 b5 c6 b7 b8 d3;have k0:=a2.o.kind;go_upto_region 4 with fail;have c7:stepM m M=Qq1 M m.k m.v:=by
  obtain⟨kd,k,tk,i,f1,f6,f2,v,l⟩:=m;have hk:kd=5:=d7.o;subst hk;rw[stepM];rfl
 obtain⟨v0,v1,v2,v3,v4,v5⟩:=a2.o.v6;have b1:=a2.o.c1;have f5:=a2.o.c2;have b3:W2.cell? ⟨w+1,3,none⟩=some (.int .i64 m.i):=a2.o 3 _ rfl;have b2:W2.cell? ⟨w,0,none⟩=some (.pointer (some ⟨O,0,none⟩)):=a5.o.cell 0;have b0:RMu W2 (Lt W2) m c:=(HM.o.agree (N.o.agree λb hb=>hb.1)).mono λb hb=>ab hb.1 N.o.size
 have a3:=QmV (k:=m.k) b9.o (λb hb=>hb.elim (λe=>ab (e0.o b e) N.o.size) λe=>e.2) (by have:=HD.o;have:=d0.o;omega) e6.o b0.parts.2.2.1 b0.parts.2.1 (am (Qkz m).1 (by have:=d5.o;omega)) (HL.o.nw (ft N.o));rw[<-c7,HR.o]at a3;clear c7;have c3:=hY a3;clear a3 b0;go_wp2_with fail;refine c3.o.mono ?_;rintro e w3 ⟨rfl,d1,hg⟩;have HG:=hY (hg.more (m:=Qb8 m M) (by have:=d0.o;omega));have a0:=hg.go.sb.blk a4.o (λe=>by have:=HH.o.ov.Qbe e;omega);have c4:w3.cell? ⟨w+1+1,0,none⟩=some (.int .i64 0):=a0.cell 0;have f4:=a0.frozen 0;clear hg a0 k0;go_wp2_with fail;refine eL (f:=165) (args:=#[.pointer (some ⟨w+1+1,0,none⟩),.pointer (some ⟨w,0,none⟩),.pointer (some ⟨w1,0,none⟩)]) sM (by simp[go_sem]) ?_;refine(Qco (code:=r.1) (ft N.o) b9.o (λb e=>HH.o.ov.Qbe e) HG.o (by have:=HG.o.few;have:=HD.o;omega) a4.o a5.o d6.o oM oM (by have:=HZ.o;omega) oM (by have:=HZ.o;omega)).mono ?_;rintro e u' d4 ⟨rfl,rfl,hb,d2,hg⟩;have q4:d4.cell? ⟨w+1+1,0,none⟩=some (.int .i64 r.1):=hb.cell 0;have c0:=Qjv (r:=r) e7.o hg;clear hb hg;simp[Leaves,settle,results,results131,go_sem,q4,c0]
theorem Qo5{m:Mu}(h:OvX H w O d M)(hH:∀b,H b->b<w)(hG:∀b,b<6->H b)(hm:RMu w (λb=>b<w/\¬OvB O d b) m c)(hL:Qb4 w)
  (hd:d.us.length+Qb8 m M<=1000000) (hl:(Qaa d.T).length<=1000000) (ht:QcC m<=1000000) (hk:m.kd=6) :
  Calls prog 131 #[.pointer (some ⟨O,0,none⟩),Qaz m c] w λe w'=>e=.returned (.int .i64 (stepM m M).1)/\∃d',GoX H w O d (stepM m M).2 (noB (stepM m M).1 (Qb8 m M)) w' d':=by
 have f5:∀(fn:Fn) (first cap:Array Value) (w:World),(Instr.makeFunc fn first cap).run prog w=.ok (.func fn first cap) w:=λ_ _ _ _=>rfl
 have e1:(m.kd==1)=false:=by simp[hk]
 have e2:(m.kd==2)=false:=by simp[hk]
 have e3:(m.kd==3)=false:=by simp[hk]
 have e4:(m.kd==4)=false:=by simp[hk]
 have e5:(m.kd==5)=false:=by simp[hk]
 have e6:(m.kd==6)=true:=by simp[hk]
 obtain⟨HD,e8,d6,d0,d8⟩:=Yf hd hl ht (Qdu m M) hk;clear hd hl ht hk;obtain⟨r,hr⟩:∃r,stepM m M=r:=⟨_,rfl⟩;rw[hr];obtain⟨f0,HR⟩:=Yb (show r.1≠0->r.2=M fromλh=>by rw[<-hr]at h ⊢;exact Qcb h) hr;clear hr;go_enter_defers func131,ntmps131;go_upto_region 1 with fail;generalize c7:World.alloc _ _=W0;obtain⟨a8,c8,a9,b0,a0⟩:=Qal w _ _ _ _ _ _ W0 c7;have c2:W0.cell? ⟨w,0,none⟩=some (.pointer (some ⟨O,0,none⟩)):=a9.cell 0;have a1:=QdB (h.ov.nw (ft a8));obtain⟨e0,b4,c3,b6,b7,d3,HH⟩:=Yh a1 a8 a9 b0 a0 c8 h;obtain⟨e7,d4,HM,HL⟩:=Ye hH hG hm hL;clear c7 a8 c8 a9 b0 a0 a1 h hH hG hm hL;go_wp2_with fail;refine e0.o.mono ?_;rintro e w1 ⟨rfl,Z⟩;go_upto_region 2 with fail;have I:=(fr w1).alloc #[.int .i64 (d.us.length:Int)] 3;have a6:=fu w1 3 #[.int .i64 (d.us.length:Int)];have a7:(w1.alloc (.cells #[.int .i64 (d.us.length:Int)] 3)).heap.size=w1.heap.size+1:=ec _ _;generalize f1:World.alloc _ _=W2 at I a6 a7 ⊢;obtain⟨N,a5,b5,a4,d7,HZ⟩:=Yg ((b4.o.trans Z).trans I) ((c3.o.ext Z).ext I) ((b6.o.ext Z).ext I) ((b7.o.ext Z).ext I) a6 (show w.heap.size+3<=w1.heap.size/\W2.heap.size=w1.heap.size+1 from⟨by rw[<-d3.o];exact Z.size,a7⟩);obtain⟨a2,b8⟩:=Yb (fB b5.o) (HH.o.boxes (ft N.o));clear f1 Z I a6 a7 c2 b4 c3 b6 b7 d3;have k0:=a2.o.kind;go_upto_region 4 with fail;have c6:stepM m M=QgM M m.k m.tk:=by
  obtain⟨kd,k,tk,i,f2,f7,f3,v,l⟩:=m;have hk:kd=6:=d8.o;subst hk;rw[stepM];rfl
 obtain⟨v0,v1,v2,v3,v4,v5⟩:=a2.o.v6;have b1:=a2.o.c1;have f6:=a2.o.c2;have b3:W2.cell? ⟨w+1,3,none⟩=some (.int .i64 m.i):=a2.o 3 _ rfl;have b2:W2.cell? ⟨w,0,none⟩=some (.pointer (some ⟨O,0,none⟩)):=a5.o.cell 0;have c9:RMu W2 (Lt W2) m c:=(HM.o.agree (N.o.agree λb hb=>hb.1)).mono λb hb=>ab hb.1 N.o.size
 have a3:=QrV (f:=m.k) (t:=m.tk) b8.o (λb hb=>hb.elim (λe=>ab (e7.o b e) N.o.size) λe=>e.2) (by have:=HD.o;have:=d0.o;omega) e8.o c9.parts.2.2.1 (am (QtP m) (by have:=d6.o;omega)) (HL.o.nw (ft N.o)) (λb hb=>.inl (d4.o b hb));rw[<-c6,HR.o]at a3;clear c6;have c0:=hY a3;clear a3 c9;go_wp2_with fail;refine c0.o.mono ?_;rintro e w3 ⟨rfl,d1,hg⟩;have HG:=hY (hg.more (m:=Qb8 m M) (by have:=d0.o;omega));have a0:=hg.go.sb.blk a4.o (λe=>by have:=HH.o.ov.Qbe e;omega);have c4:w3.cell? ⟨w+1+1,0,none⟩=some (.int .i64 0):=a0.cell 0;have f4:=a0.frozen 0;clear hg a0 k0;go_wp2_with fail;refine eL (f:=165) (args:=#[.pointer (some ⟨w+1+1,0,none⟩),.pointer (some ⟨w,0,none⟩),.pointer (some ⟨w1,0,none⟩)]) sM (by simp[go_sem]) ?_;refine(Qco (code:=r.1) (ft N.o) b8.o (λb e=>HH.o.ov.Qbe e) HG.o (by have:=HG.o.few;have:=HD.o;omega) a4.o a5.o d7.o oM oM (by have:=HZ.o;omega) oM (by have:=HZ.o;omega)).mono ?_;rintro e u' d5 ⟨rfl,rfl,hb,d2,hg⟩;have q4:d5.cell? ⟨w+1+1,0,none⟩=some (.int .i64 r.1):=hb.cell 0;have b9:=Qjv (r:=r) f0.o hg;clear hb hg;simp[Leaves,settle,results,results131,go_sem,q4,b9]
theorem Qo7{m:Mu}(h:OvX H w O d M)(hH:∀b,H b->b<w)(hG:∀b,b<6->H b)(hm:RMu w (λb=>b<w/\¬OvB O d b) m c)(hL:Qb4 w)
  (hd:d.us.length+Qb8 m M<=1000000) (hl:(Qaa d.T).length<=1000000) (ht:QcC m<=1000000) (I:m.kd≠1/\m.kd≠2/\m.kd≠3/\m.kd≠4/\m.kd≠5/\m.kd≠6/\m.kd≠7) :
  Calls prog 131 #[.pointer (some ⟨O,0,none⟩),Qaz m c] w λe w'=>e=.returned (.int .i64 (stepM m M).1)/\∃d',GoX H w O d (stepM m M).2 (noB (stepM m M).1 (Qb8 m M)) w' d':=by
 have e0:∀(fn:Fn) (first cap:Array Value) (w:World),(Instr.makeFunc fn first cap).run prog w=.ok (.func fn first cap) w:=λ_ _ _ _=>rfl
 have e1:(m.kd==1)=false:=dW.2 I.1;have e2:(m.kd==2)=false:=dW.2 I.2.1;have e3:(m.kd==3)=false:=dW.2 I.2.2.1;have e4:(m.kd==4)=false:=dW.2 I.2.2.2.1;have e5:(m.kd==5)=false:=dW.2 I.2.2.2.2.1;have e6:(m.kd==6)=false:=dW.2 I.2.2.2.2.2.1;have e7:(m.kd==7)=false:=dW.2 I.2.2.2.2.2.2;obtain⟨HD,e8,d5,f1,c8⟩:=Yf hd hl ht (Qdu m M) I;clear hd hl ht I;obtain⟨r,hr⟩:∃r,stepM m M=r:=⟨_,rfl⟩;rw[hr];obtain⟨f0,HR⟩:=Yb (show r.1≠0->r.2=M fromλh=>by rw[<-hr]at h ⊢;exact Qcb h) hr;clear hr;go_enter_defers func131,ntmps131;go_upto_region 1 with fail;generalize b9:World.alloc _ _=W0;obtain⟨a4,c0,a5,a8,c1⟩:=Qal w _ _ _ _ _ _ W0 b9;have c2:W0.cell? ⟨w,0,none⟩=some (.pointer (some ⟨O,0,none⟩)):=a5.cell 0;have a1:=QdB (h.ov.nw (ft a4));obtain⟨d0,a9,b8,b3,b4,c3,HH⟩:=Yh a1 a4 a5 a8 c1 c0 h;obtain⟨d6,d4,HM,HL⟩:=Ye hH hG hm hL;clear b9 a4 c0 a5 a8 c1 a1 h hH hG hm hL;go_wp2_with fail;refine d0.o.mono ?_;rintro e w1 ⟨rfl,Z⟩;go_upto_region 2 with fail;have N:=(fr w1).alloc #[.int .i64 (d.us.length:Int)] 3;have a2:=fu w1 3 #[.int .i64 (d.us.length:Int)];have a3:(w1.alloc (.cells #[.int .i64 (d.us.length:Int)] 3)).heap.size=w1.heap.size+1:=ec _ _;generalize d3:World.alloc _ _=W2 at N a2 a3 ⊢;obtain⟨a7,b7,b0,a0,c6,HZ⟩:=Yg ((a9.o.trans Z).trans N) ((b8.o.ext Z).ext N) ((b3.o.ext Z).ext N) ((b4.o.ext Z).ext N) a2 (show w.heap.size+3<=w1.heap.size/\W2.heap.size=w1.heap.size+1 from⟨by rw[<-c3.o];exact Z.size,a3⟩);obtain⟨c7,b5⟩:=Yb (fB b0.o) (HH.o.boxes (ft a7.o));clear d3 Z N a2 a3 c2 a9 b8 b3 b4 c3;have k0:=c7.o.kind;go_upto_region 4 with fail;have c9:r=(9,M):=by
  rw[<-HR.o];obtain⟨kd,k,tk,i,d7,f2,d8,v,l⟩:=m;have I:kd≠1/\kd≠2/\kd≠3/\kd≠4/\kd≠5/\kd≠6/\kd≠7:=c8.o;rw[stepM,dV I.1,dV I.2.1,dV I.2.2.1,dV I.2.2.2.1,dV I.2.2.2.2.1,dV I.2.2.2.2.2.1,dV I.2.2.2.2.2.2]
 subst c9;have HG:=hY (b5.o.stay (n:=Qb8 m M) (fA _ W2));have c4:W2.cell? ⟨w+1+1,0,none⟩=some (.int .i64 0):=a0.o.cell 0;have f4:=a0.o.frozen 0;go_wp2_with fail;refine eL (f:=165) (args:=#[.pointer (some ⟨w+1+1,0,none⟩),.pointer (some ⟨w,0,none⟩),.pointer (some ⟨w1,0,none⟩)]) sM (by simp[go_sem]) ?_;refine(Qco (code:=9) (ft a7.o) b5.o (λb e=>HH.o.ov.Qbe e) HG.o (by have:=HG.o.few;have:=HD.o;omega) a0.o b7.o c6.o oM oM (by have:=HZ.o;omega) oM (by have:=HZ.o;omega)).mono ?_;rintro e u' a6 ⟨rfl,rfl,hb,d2,hg⟩;have q4:a6.cell? ⟨w+1+1,0,none⟩=some (.int .i64 9):=hb.cell 0;have b6:=(show ∃d',GoX H w O d M (noB 9 (Qb8 m M)) a6 d' from⟨d2,hg⟩);clear hb hg;simp[Leaves,settle,results,results131,go_sem,q4,b6]
theorem QtK{l:List Mu}{x:Mu}(h:l[j]? = some x)(M:List Ent):QkQ (l.drop j) M=if(stepM x M).1≠0 then((stepM x M).1,M)else QkQ (l.drop (j+1)) (stepM x M).2:=by
 obtain⟨h1,h2⟩:=ae.1 h;rw[aE h1,h2,QkQ]
def QvM(m:Mu):Prop:=∀(j:Nat) (x:Mu),m.l[j]? = some x->∀(y:MuS) (H:Nat->Prop) (W:World) (O:Nat) (d:OD) (M:List Ent),OvX H W O d M->(∀b,H b->b<W.heap.size)->(∀b,b<6->H b)->RMu W (λb=>b<W.heap.size/\¬OvB O d b) x y->Qb4 W->
 d.us.length+Qb8 x M<=1000000->(Qaa d.T).length<=1000000->QcC x<=1000000->
 Calls prog 131 #[.pointer (some ⟨O,0,none⟩),Qaz x y] W λe w'=>e=.returned (.int .i64 (stepM x M).1)/\∃d',GoX H W O d (stepM x M).2 (Qb8 x M) w' d'
theorem Qo6{m:Mu}(h:OvX H w O d M)(hH:∀b,H b->b<w.heap.size)(hG:∀b,b<6->H b)(hm:RMu w (λb=>b<w.heap.size/\¬OvB O d b) m c)(hL:Qb4 w)
  (hd:d.us.length+Qb8 m M<=1000000) (hl:(Qaa d.T).length<=1000000) (ht:QcC m<=1000000) (hk:m.kd=7) (c3:m.k.size=0->m.had=false)
  (ih:QvM m) :
  Calls prog 131 #[.pointer (some ⟨O,0,none⟩),Qaz m c] w λe w'=>e=.returned (.int .i64 (stepM m M).1)/\∃d',GoX H w O d (stepM m M).2 (noB (stepM m M).1 (Qb8 m M)) w' d':=by
 have l6:∀(fn:Fn) (first cap:Array Value) (w:World),(Instr.makeFunc fn first cap).run prog w=.ok (.func fn first cap) w:=λ_ _ _ _=>rfl
 have e1:(m.kd==1)=false:=by simp[hk]
 have e2:(m.kd==2)=false:=by simp[hk]
 have e3:(m.kd==3)=false:=by simp[hk]
 have e4:(m.kd==4)=false:=by simp[hk]
 have e5:(m.kd==5)=false:=by simp[hk]
 have e6:(m.kd==6)=false:=by simp[hk]
 have e7:(m.kd==7)=true:=by simp[hk]
 obtain⟨HD,f8,k2,n6,j5,i3,k4⟩:=Yh hd hl ht (Qdu m M) hk c3 ih;clear hd hl ht hk c3 ih;obtain⟨r,hr⟩:∃r,stepM m M=r:=⟨_,rfl⟩;rw[hr];obtain⟨l7,HR⟩:=Yb (show r.1≠0->r.2=M fromλh=>by rw[<-hr]at h ⊢;exact Qcb h) hr;clear hr;go_enter_defers func131,ntmps131;go_upto_region 1 with fail;generalize i4:World.alloc _ _=W0;obtain⟨d8,f9,b7,b4,N⟩:=Qal w _ _ _ _ _ _ W0 i4;have c2:W0.cell? ⟨w.heap.size,0,none⟩=some (.pointer (some ⟨O,0,none⟩)):=b7.cell 0;have b3:=QdB (h.ov.nw (ft d8));obtain⟨k3,f0,f6,g9,i0,i9,HH⟩:=Yh b3 d8 b7 b4 N f9 h;obtain⟨k6,e8,HM,HL⟩:=Ye hH hG hm hL;clear i4 d8 f9 b7 b4 N b3 h hH hG hm hL;go_wp2_with fail;refine k3.o.mono ?_;rintro e w1 ⟨rfl,b0⟩;go_upto_region 2 with fail;have a7:=(fr w1).alloc #[.int .i64 (d.us.length:Int)] 3;have d6:=fu w1 3 #[.int .i64 (d.us.length:Int)];have c9:(w1.alloc (.cells #[.int .i64 (d.us.length:Int)] 3)).heap.size=w1.heap.size+1:=ec _ _;generalize j9:World.alloc _ _=W2 at a7 d6 c9 ⊢;obtain⟨a2,a5,f1,a1,c8,HZ⟩:=Yg ((f0.o.trans b0).trans a7) ((f6.o.ext b0).ext a7) ((g9.o.ext b0).ext a7) ((i0.o.ext b0).ext a7) d6 (show w.heap.size+3<=w1.heap.size/\W2.heap.size=w1.heap.size+1 from⟨by rw[<-i9.o];exact b0.size,c9⟩);obtain⟨b9,a9⟩:=Yb (fB f1.o) (HH.o.boxes (ft a2.o));clear j9 b0 a7 d6 c9 c2 f0 f6 g9 i0 i9;have k0:=b9.o.kind;go_upto_region 4 with fail;go_upto_region 19 with fail;have b6:stepM m M=if asM M m.k m.had m.was then(if(QkQ m.l M).1≠0 then((QkQ m.l M).1,M)else QkQ m.l M)else(13,M):=by
  obtain⟨kd,k,tk,i,l4,l8,l5,v,l⟩:=m;have hk:kd=7:=j5.o;subst hk;rw[stepM];rfl
 rw[HR.o]at b6;have c6:=hY b6;have b1:=b9.o.c1;have b2:W2.cell? ⟨w.heap.size,0,none⟩=some (.pointer (some ⟨O,0,none⟩)):=a5.o.cell 0;have i6:RMu W2 (Lt W2.heap.size) m c:=(HM.o.agree (a2.o.agree λb Z=>Z.1)).mono λb Z=>ab Z.1 a2.o.size
 have d4:=hY (QmC a9.o f8.o i6);clear b6 i6 k0;go_cut [68]from 60 to 68 (λv w'=>v=.bool (!asM M m.k m.had m.was)/\Nw W2 w')
 case first=>
  by_cases a8:m.k.size=0
  ·have g0:=Qa9 a8
   have ha:asM M m.k m.had m.was=true:=by
    have hn:Qaq M m.k=none:=by
     cases hg:Qaq M m.k with
     |none=>rfl
     | some y=>
       have:=(HH.o.rel.ok.get hg).1;unfold Qci at this;rw[dY a8]at this;cases this
    unfold asM;rw[hn,i3.o a8];rfl
   have HA:=hY ha;clear ha a8;go_wp2_with fail;go_meet;exact⟨by rw[HA.o]<;>rfl,fA _ _⟩
  have g0:=Qbr a8;clear a8
  repeat (first |(refine wp_load_mid 37 (.tmp 3) rfl (w.heap.size+1) 0 rfl (Qan m c) _ b9.o.range underlying37 rfl (by rw[QfD];exact Tryz.Qem) ?_)|go_values|go_skip|go_guarded|go_step)
  refine d4.o.mono ?_;rintro e w3 ⟨rfl,g4⟩;have j4:=hY (ft g4);clear g4;go_wp2_with fail;go_meet;exact⟨rfl,j4.o⟩
 obtain⟨hv,hn⟩:=hcut;subst hv;have j0:=hY hn;have N:=hn.blk a1.o;have c4:wc.cell? ⟨w.heap.size+1+1,0,none⟩=some (.int .i64 0):=N.cell 0;have f4:=N.frozen 0;have HC:=hY (b9.o.nw hn);clear hn N b1 b2;rcases bg (asM M m.k m.had m.was)with ha|ha
 rotate_left
 ·have hs:=c6.o
  rw[dV (by rw[ha];decide)]at hs;subst hs;have HG:=hY (a9.o.stay (n:=Qb8 m M) j0.o);rw[show(!asM M m.k m.had m.was)=true by rw[ha];rfl];clear ha;go_wp2_with fail;refine eL (f:=165) (args:=#[.pointer (some ⟨w.heap.size+1+1,0,none⟩),.pointer (some ⟨w.heap.size,0,none⟩),.pointer (some ⟨w1.heap.size,0,none⟩)]) sM (by simp[go_sem]) ?_;refine(Qco (code:=13) (ft a2.o) a9.o (λb e=>HH.o.ov.Qbe e) HG.o (by have:=HG.o.few;have:=HD.o;omega) a1.o a5.o c8.o oM oM (by have:=HZ.o;omega) oM (by have:=HZ.o;omega)).mono ?_;rintro e u' a3 ⟨rfl,rfl,Z,d2,hg⟩;have q4:a3.cell? ⟨w.heap.size+1+1,0,none⟩=some (.int .i64 13):=Z.cell 0;have a4:=(show ∃d',GoX H w O d M (noB 13 (Qb8 m M)) a3 d' from⟨d2,hg⟩);clear Z hg;simp[Leaves,settle,results,results131,go_sem,q4,a4]
 have hs:=c6.o;rw[dY ha]at hs;have HS:=hY hs;rw[show(!asM M m.k m.had m.was)=false by rw[ha];rfl];have l3:wc.cell? ⟨w.heap.size+1,8+10,none⟩=some (.slice c.s.a m.l.length c.s.c):=HC.o 18 _ rfl;have k9:=HM.o.len;clear hs ha c4 f4;go_wp2_with fail;go_loopw[72] (λj6 wr=>∃(j:Nat) (d1:OD) (M1:List Ent),j6=.int .i64 (j:Int)/\j<=m.l.length/\Yd (GoX (HB H w.heap.size W2.heap.size) W2 O d M1 (QaF (m.l.take j)*(2*(M.length+Qa0 m)+1)) wr d1)/\Yd (QkQ (m.l.drop j) M1=QkQ m.l M)/\Yd (M1.length<=M.length+QaF (m.l.take j))) (λv _=>m.l.length -(intOf v).toNat)
 case atStart=>exact⟨0,d,M,rfl,aH _,hY (a9.o.stay j0.o),hY rfl,hY (dz _ _)⟩
 obtain⟨j,d1,M1,rfl,hj,a0,i8,k1⟩:=hrel;by_cases i1:j<m.l.length
 ·have l1:(j:Int)<(m.l.length:Int):=oM
  have n4:decide ((j:Int)<(m.l.length:Int))=true:=dZ l1;have l0:(0:Int)<=(j:Int):=oM
  obtain⟨x,hx⟩:∃x,m.l[j]? = some x:=⟨_,ac i1⟩;obtain⟨b,o,y,j2,c0,l9,n2,f5,f3⟩:=HM.o.at hx;have f2:=a2.o.size;have a6:Sb (OvB O d) w wr:=((ft a2.o).any _).trans a0.o.go.sb;have f7:=hY (show MuC wr b (o+j*19) x y fromλi u hu=>(a6.cell c0.1 c0.2).trans (f5 i u hu));have l2:b<wr.heap.size:=ab c0.1 a6.size;have i5:=Qde hx;have k8:=QeZ m.l (j+1);have k5:=Qf7 m;have j1:=k1.o;have j7:Qb8 x M1<=Qa0 x*(2*(M.length+Qa0 m)+1):=Nat.mul_le_mul_left _ oM;have b7:QaF (m.l.take (j+1))*(2*(M.length+Qa0 m)+1)=QaF (m.l.take j)*(2*(M.length+Qa0 m)+1)+Qa0 x*(2*(M.length+Qa0 m)+1):=by rw[i5,dS]
  have b4:QaF (m.l.take (j+1))*(2*(M.length+Qa0 m)+1)<=Qb8 m M:=bV _ oM;have b8:=λW (hW:Ext wr W)=>k4.o j x hx y (HB H w.heap.size W2.heap.size) W O d1 M1 (a0.o.at_.nw (ft hW)) (λb Z=>ab (Z.elim (λe=>ab (k6.o b e) f2) λe=>e.2) (am a0.o.go.sb.size hW.size)) (λb Z=>.inl (e8.o b Z))
   ((f3.agree (λb Z=>(a6.trans ((ft hW).any _)).block b Z.1 Z.2)).mono λb Z=>⟨Nat.lt_of_lt_of_le Z.1 (am a6.size hW.size),λe=>(a0.o.go.new b e).elim Z.2 λe2=>by have:=Z.1;omega⟩)
   (((HL.o.nw (ft a2.o)).sb a0.o.go.sb (λb Z e=>HH.o.ov.out b e (e8.o b Z))).nw (ft hW)) (by have:=a0.o.few;have:=HD.o;omega) (by rw[a0.o.T];exact f8.o) (am (Qgb hx) (am (QsJ m) k2.o))
  obtain⟨d3,e0,j3⟩:=Yc b8 (show QaF (m.l.take j)*(2*(M.length+Qa0 m)+1)+Qb8 x M1<=QaF (m.l.take (j+1))*(2*(M.length+Qa0 m)+1)/\QaF (m.l.take (j+1))*(2*(M.length+Qa0 m)+1)<=Qb8 m M from⟨oM,b4⟩) (show(stepM x M1).2.length<=M.length+QaF (m.l.take (j+1))by have:=Qkv x M1;omega);have I:=i8.o;rw[QtK hx]at I;have c7:=hY I;have b5:=a0.o.go.sb.blk a5.o (λe=>by have:=HH.o.ov.Qbe e;omega);have g3:wr.cell? ⟨w.heap.size,0,none⟩=some (.pointer (some ⟨O,0,none⟩)):=b5.cell 0;have g6:=b5.lt;obtain⟨q,hq⟩:∃q,stepM x M1=q:=⟨_,rfl⟩;have HQ:=hY hq;rw[j2];clear f2 a6 i5 k8 k5 j1 j7 b7 b4 b8 I b5 f3 f5 hx hq c0;go_wp2_with(first |(refine Qah rfl (.tmp 74) rfl b (o+j*19) rfl x y f7.o ?_) |(refine QaR rfl rfl rfl x y (w0:=wr) (b:=wr.heap.size) rfl ((fr wr).alloc _ _) (fu wr _ _) rfl rfl rfl ?_;intro w5 d7 g7;have i2:=hY d7;have j8:=(d7.cell g6).trans g3;have k7:=hY (fB g7);clear d7 g7) |(refine Qah rfl (.tmp 7) rfl wr.heap.size 0 rfl x y k7.o ?_));refine(d3.o _ i2.o).mono ?_;rintro e w6 ⟨rfl,d2,d0⟩;rw[HQ.o]at d0 ⊢;have g8:=hY (a0.o.trans (d0.since (ft i2.o)));clear d0 j8 g3 g6;by_cases h0:q.1=0
  ·have g0:(q.1 == 0)=true:=by simp [h0]
   have I:=c7.o;have d5:=j3.o;rw[HQ.o]at I d5;rw[dV (λh=>h h0)]at I;obtain⟨g5,i7⟩:=Yb I d5;clear I d5 h0;go_wp2_with fail;go_roundw
   case measure=>simp[intOf];omega
   exact⟨j+1,d2,q.2,by go_num,i1,hY (g8.o.more e0.o.1),g5,i7⟩
  have g0:(q.1==0)=false:=dW.2 h0;have I:=c7.o;rw[HQ.o,dY h0]at I;have hs:=HS.o;rw[<-I,dY h0]at hs;subst hs;have HG:=hY (g8.o.more (m:=Qb8 m M) (am e0.o.1 e0.o.2));have N:=HG.o.go.sb.blk a1.o (λe=>by have:=HH.o.ov.Qbe e;omega);have c4:w6.cell? ⟨w.heap.size+1+1,0,none⟩=some (.int .i64 0):=N.cell 0;have f4:=N.frozen 0;have H0:=hY h0;clear N I h0;go_wp2_with fail;refine eL (f:=165) (args:=#[.pointer (some ⟨w.heap.size+1+1,0,none⟩),.pointer (some ⟨w.heap.size,0,none⟩),.pointer (some ⟨w1.heap.size,0,none⟩)]) sM (by simp[go_sem]) ?_;refine(Qco (code:=q.1) (ft a2.o) a9.o (λb e=>HH.o.ov.Qbe e) HG.o (by have:=HG.o.few;have:=HD.o;omega) a1.o a5.o c8.o oM oM (by have:=HZ.o;omega) oM (by have:=HZ.o;omega)).mono ?_;rintro e u' a3 ⟨rfl,rfl,Z,d2,hg⟩;have q4:a3.cell? ⟨w.heap.size+1+1,0,none⟩=some (.int .i64 q.1):=Z.cell 0;have a4:=(show ∃d',GoX H w O d M (noB q.1 (Qb8 m M)) a3 d' from⟨d2,by simp only[if_neg H0.o]at hg;exact hg⟩);clear Z hg;simp[Leaves,settle,results,results131,go_sem,q4,a4]
 obtain rfl:j=m.l.length:=oM
 have l1:decide ((m.l.length:Int)<(m.l.length:Int))=false:=dX oM;have I:=i8.o;rw[dx,QkQ]at I;have hs:=HS.o;rw[<-I,dV (λh=>h rfl)]at hs;subst hs;have HG:=hY (a0.o.more (m:=Qb8 m M) (by rw[bc];exact bV _ (by rw[Qf7];omega)));have N:=HG.o.go.sb.blk a1.o (λe=>by have:=HH.o.ov.Qbe e;omega);have c4:wr.cell? ⟨w.heap.size+1+1,0,none⟩=some (.int .i64 0):=N.cell 0;have f4:=N.frozen 0;clear N I;go_wp2_with fail;refine eL (f:=165) (args:=#[.pointer (some ⟨w.heap.size+1+1,0,none⟩),.pointer (some ⟨w.heap.size,0,none⟩),.pointer (some ⟨w1.heap.size,0,none⟩)]) sM (by simp[go_sem]) ?_;refine(Qco (code:=0) (ft a2.o) a9.o (λb e=>HH.o.ov.Qbe e) HG.o (by have:=HG.o.few;have:=HD.o;omega) a1.o a5.o c8.o oM oM (by have:=HZ.o;omega) oM (by have:=HZ.o;omega)).mono ?_;rintro e u' a3 ⟨rfl,rfl,Z,d2,hg⟩;have q4:a3.cell? ⟨w.heap.size+1+1,0,none⟩=some (.int .i64 0):=Z.cell 0;have a4:=(show ∃d',GoX H w O d M1 (noB 0 (Qb8 m M)) a3 d' from⟨d2,hg⟩);clear Z hg;simp[Leaves,settle,results,results131,go_sem,q4,a4]
theorem Qmm{v:Val}(Z:wfV v)(h:Qd9 v=true):QcI v<=7168:=by
 obtain⟨k,b,i,t,l,ok,ov⟩:=v;simp only[Qd9,Val.kind,Val.b,Val.i,Val.t,Val.l,Val.ok,Bool.and_eq_true,beq_iff_eq,Bool.not_eq_true']at h;obtain⟨⟨⟨⟨⟨-,-⟩,-⟩,h1⟩,h2⟩,h3⟩:=h;have I:l=[]:=az h2;have N:ok=[]:=az h3;subst I N;unfold wfV at Z;have h4:ov=[]:=az Z.1.symm;subst h4;rw[QcI,QdR,QfL,h1];decide
theorem QrC{k:ByteArray}(h:Qci k=0):k.size<=64:=by
 unfold Qci at h;split at h
 .cases h
 split at h
 .cases h
 omega
theorem QlR{k:ByteArray}(h:Qol k=true):k.size<=64:=by
 unfold Qol at h;simp only[Bool.and_eq_true,decide_eq_true_eq]at h;exact h.1
variable{F:Nat->Prop}
theorem QrJ{m:Mu}(h:RMu w F m c):∀q,QaS m q=0->QcC m<=14472*Qa0 m:=by
 induction h with
 | @mk kd k tk i had was has v l c bl fl cl rw_ rv hl el rl bk bt bkd bi nl ih=>
   intro q I;rw[QaS]at I;split at I
   .cases I
   rename_i c1;split at I
   .cases I
   split at I
   .cases I
   rename_i c3;split at I
   .rename_i c4;simp only[Bool.and_eq_true,bne_iff_ne]at c4;exact absurd I c4.2
   rename_i c4;split at I
   .rename_i c5;simp only[Bool.and_eq_true,bne_iff_ne]at c5;exact absurd I c5.2
   rename_i c5;have hb:QbJ kd k tk i had was has v l.length=true:=by simpa using c1
   have N:QgF kd k tk had=true:=by simpa using c3
   unfold QbJ at hb;simp only[Bool.and_eq_true]at hb;obtain⟨⟨⟨⟨⟨⟨⟨-,b2⟩,-⟩,-⟩,-⟩,b6⟩,b7⟩,-⟩:=hb;have hk:k.size<=64/\tk.size<=64:=by
    unfold QgF at N;by_cases h6:kd=6
    ·rw [dY h6,br] at N
     exact⟨QlR N.1,QlR N.2⟩
    rw[dV h6]at N;have ht:tk.size=0:=by simpa[h6]using b2
    by_cases h7:kd=7/\k.size=0
    .omega
    rw[dV h7]at N;have:=QrC (k:=k) (by simpa using N);omega
   have hw:QcI was<=7168:=by
    cases Z:had with
    | true=>
      rw[Z]at c4;have hf:QcP was=0:=by simpa using c4
      exact okV.cnt ⟨rw_.wf,hf⟩
    | false=>
      rw[Z]at b6;exact Qmm rw_.wf (by simpa using b6)
   have hv:QcI v<=7168:=by
    cases Z:QhW kd has with
    | true=>
      rw[Z]at c5;have hf:QcP v=0:=by simpa using c5
      exact okV.cnt ⟨rv.wf,hf⟩
    | false=>
      unfold QhW at Z;rw[Z]at b7;exact Qmm rv.wf (by simpa using b7)
   have a0:∀(l:List Mu) (q:Nat),(∀(j:Nat) (x:Mu),l[j]? = some x->∀q,QaS x q=0->QcC x<=14472*Qa0 x)->Qb5 l q=0->Qcc l<=14472*QaF l:=by
    intro l
    induction l with
    |nil=>intro q _ _;rw[Qcc];omega
    | cons a r ihr=>
      intro q Z I;rw[Qb5]at I;by_cases h0:QaS a q=0
      ·rw [dV (fun e=>e h0)] at I
       have h1:=Z 0 a rfl q h0;have h2:=ihr q (λj x hj=>Z (j+1) x (by simpa using hj)) I;rw[Qcc,QaF];omega
      rw[dY h0]at I;exact absurd I h0
   have:=a0 l (q+1) (λj x hj=>ih j x hj) I;rw[QcC,Qa0];omega
theorem QtQ{m:Mu}(h:RMu w F m c)(I:QbP m=0):QcC m<=1000000:=by
 unfold QbP at I;split at I
 .cases I
 have:=QrJ h 1 I;omega
variable{q:Nat}
theorem QpI{m:Mu}(h:QaS m q=0):QgF m.kd m.k m.tk m.had=true/\Qb5 m.l (q+1)=0:=by
 rw[Qc9]at h;split at h
 .cases h
 split at h
 .cases h
 split at h
 .cases h
 rename_i hk;split at h
 ·rename_i h1
  simp[h]at h1
 split at h
 ·rename_i h1
  simp[h]at h1
 exact⟨by simpa using hk,h⟩
theorem looks_at:∀{l:List Mu} {q j:Nat} {x:Mu},Qb5 l q=0->l[j]? = some x->QaS x q=0
 |[],q,j,x,_,hx=>by simp at hx
 | m :: r,q,0,x,h,hx=>by
   obtain rfl:m=x:=by simpa using hx
   rw[Qb5]at h;by_cases I:QaS m q=0
   .exact I
   rw[dY I]at h;exact h
 | m :: r,q,j+1,x,h,hx=>by
   rw[Qb5]at h;by_cases I:QaS m q=0
   ·rw [dV (fun e=>e I)] at h
    exact looks_at (l:=r) (j:=j) h (by simpa using hx)
   rw[dY I]at h;exact absurd h I
theorem Qs8(n:Nat):∀(m:Mu) (q:Nat),SizeOf.sizeOf m<=n->QaS m q=0->∀(c:MuS) (H:Nat->Prop) (w:World) (O:Nat) (d:OD) (M:List Ent),OvX H w O d M->(∀b,H b->b<w)->(∀b,b<6->H b)->RMu w (λb=>b<w/\¬OvB O d b) m c->Qb4 w->
  d.us.length+Qb8 m M<=1000000->(Qaa d.T).length<=1000000->QcC m<=1000000->
  Calls prog 131 #[.pointer (some ⟨O,0,none⟩),Qaz m c] w λe w'=>e=.returned (.int .i64 (stepM m M).1)/\∃d',GoX H w O d (stepM m M).2 (noB (stepM m M).1 (Qb8 m M)) w' d':=by
 induction n with
 |zero=>intro m q h;have:=Mu.Qb6 m;omega
 | succ n ih=>
   intro m q hn hq c H w O d M h hH N hm Z hd hl I;by_cases k1:m.kd=1
   .exact Qo0 h hH N hm Z hd hl I k1
   by_cases k2:m.kd=2
   .exact Qo1 h hH N hm Z hd hl I k2
   by_cases k3:m.kd=3
   .exact Qo2 h hH N hm Z hd hl I k3
   by_cases k4:m.kd=4
   .exact Qo3 h hH N hm Z hd hl I k4
   by_cases k5:m.kd=5
   .exact Qo4 h hH N hm Z hd hl I k5
   by_cases k6:m.kd=6
   .exact Qo5 h hH N hm Z hd hl I k6
   by_cases k7:m.kd=7
   ·obtain ⟨hk,hs⟩:=QpI hq
    refine Qo6 h hH N hm Z hd hl I k7 (λh0=>?_) λj x hx y H' W O' d' M' h1 h2 h3 h4 h5 h6 h7 h8=>(ih x (q+1) (by have:=Mu.Qsr hx;omega) (looks_at hs hx) y H' W O' d' M' h1 h2 h3 h4 h5 h6 h7 h8).mono λe w' ⟨p1,p2,p3⟩=>⟨p1,p2,p3.more (QsF _ _)⟩
    unfold QgF at hk;rw[dV oM,dY ⟨k7,h0⟩]at hk;simpa using hk
   exact Qo7 h hH N hm Z hd hl I ⟨k1,k2,k3,k4,k5,k6,k7⟩
theorem Qs7{m:Mu}(hq:QaS m q=0)(h:OvX H w O d M)(N:∀b,H b->b<w)(hG:∀b,b<6->H b)(hm:RMu w (λb=>b<w/\¬OvB O d b) m c)(I:Qb4 w)
  (hd:d.us.length+Qb8 m M<=1000000) (hl:(Qaa d.T).length<=1000000) (Z:QcC m<=1000000) :
  Calls prog 131 #[.pointer (some ⟨O,0,none⟩),Qaz m c] w λe w'=>e=.returned (.int .i64 (stepM m M).1)/\∃d',GoX H w O d (stepM m M).2 (noB (stepM m M).1 (Qb8 m M)) w' d':=Qs8 _ m q (an _) hq c H w O d M h N hG hm I hd hl Z
theorem QrP{m:Mu}(h:QbP m=0):QaS m 1=0:=by
 unfold QbP at h;split at h
 .cases h
 exact h
theorem QtZ{m:Mu}(h:OvX H w O d M)(hH:∀b,H b->b<w)(hG:∀b,b<6->H b)(hm:RMu w (λb=>b<w/\¬OvB O d b) m c)(hL:Qb4 w)
  (hd:QbP m=0->d.us.length+Qb8 m M<=1000000) (hl:(Qaa d.T).length<=1000000) (ht:QcC m<=1100000) :
  Calls prog 95 #[.pointer (some ⟨O,0,none⟩),Qaz m c] w λe w'=>e=.returned (.int .i64 (runM M m).1)/\∃d',GoX H w O d (runM M m).2 (noB (runM M m).1 (Qb8 m M)) w' d':=by
 have a1:∀W,Nw w W->RMu W (λb=>b<W/\¬OvB O d b) m c:=λW N=>(hm.agree (fC N λb Z=>Z.1)).mono λb Z=>⟨Nat.lt_of_lt_of_le Z.1 N.size,Z.2⟩
 have a0:=λW (N:Nw w W)=>QrL ((a1 W N).mono (G:=Lt W) λb Z=>Z.1) ht (hL.nw N)
 have a5:=λ(I:QbP m=0) W (N:Nw w W)=>Qs7 (q:=1) (QrP I) (h.nw N) (λb Z=>ab (hH b Z) N.size) hG (a1 W N) (hL.nw N) (hd I) hl (QtQ hm I)
 obtain⟨r,hr⟩:∃r,runM M m=r:=⟨_,rfl⟩;rw[hr];obtain⟨HR,a6,b3,HH⟩:=Ye hr a0 a5 h;clear h hH hG hm hL hd hl ht a1 a0 a5 hr;go_in;go_upto_region 1 with fail;generalize a3:World.alloc _ _=W0;obtain⟨a8,a9,b4⟩:=QaB (m:=m) (c:=c) a3;obtain⟨a4,a7⟩:=Yb (ft a8) a9;clear a3 a8 a9 b4;go_wp2_with(refine Qah rfl (.tmp 3) rfl w.heap.size 0 rfl m c a7.o ?_);refine(a6.o _ a4.o).mono ?_;rintro e w1 ⟨rfl,hn⟩;obtain⟨a2,b0⟩:=Yb (a4.o.trans hn) (a7.o.nw hn);clear hn;by_cases I:QbP m=0
 ·have g0:(QbP m == 0)=true:=by simp [I]
  have hs:stepM m M=r:=by rw[<-HR.o];unfold runM;rw[dV (λe=>e I)]
  have hc:=b3.o I w1 a2.o;rw[hs]at hc;have HC:=hY hc;clear I hs hc;go_wp2_with(refine Qah rfl (.tmp 3) rfl w.heap.size 0 rfl m c b0.o ?_);refine HC.o.mono ?_;rintro e w2 ⟨rfl,d1,hg⟩;have HG:=hY (hg.since a2.o);clear hg;go_wp2_with fail;go_ret;exact⟨rfl,d1,HG.o⟩
 have g0:(QbP m==0)=false:=dW.2 I;have hs:r=(QbP m,M):=by rw[<-HR.o];unfold runM;rw[dY I]
 subst hs;clear I;go_wp2_with fail;go_ret;exact⟨rfl,d,HH.o.stay a2.o⟩
theorem QtJ{m:Mu}(h:(runM M m).1≠0):(runM M m).2=M:=by
 unfold runM at h ⊢;split at h
 .rw [dY (by assumption)]
 rename_i h1;rw[dV h1];exact Qcb h
variable{T:RT}
theorem QsT{m:Mu}(hT:IsT w F T)(hF:∀b,F b->6<=b/\b<w.heap.size)(ok:OkR T)(hM:OkM (Qaa T))(hm:RMu w (Lt w.heap.size) m c)(hL:Qb4 w)(hd:QbP m=0->(Qaa T).length+Qb8 m (Qaa T)<=1000000)(hl:(Qaa T).length<=1000000)(ht:QcC m<=1100000) :
  Calls prog 61 #[Qao T,Qaz m c] w λe w'=>∃T',e=.returned (.tuple #[Qao T',.int .i64 (runM (Qaa T) m).1])/\OkR T'/\IsT w' (Up F w w') T'/\Qaa T'=(runM (Qaa T) m).2/\OkM (runM (Qaa T) m).2/\Nw w w'/\((runM (Qaa T) m).2=Qaa T->T'=T):=by
 obtain⟨r,hr⟩:∃r,runM (Qaa T) m=r:=⟨_,rfl⟩;rw[hr];obtain⟨HR,f1⟩:=Yb hr (show r.1≠0->r.2=Qaa T fromλh=>by rw[<-hr]at h ⊢;exact QtJ h);obtain⟨p,hp⟩:=Qaj T;obtain⟨HP,HT,HF,c2,d6,HM,HL⟩:=Yh hp hT hF ok hM hm hL;obtain⟨HD,f6,e1,f0⟩:=Ye hd ht hl (show r.1=0->QbP m=0 fromλh=>by rw[<-hr]at h;unfold runM at h;split at h<;>simp_all);rw[Qao,hp];clear hr hp hT hF ok hM hm hL hd ht hl;go_in;go_upto_region 1 with fail;generalize c8:World.alloc _ _=W0;obtain⟨a1,c1,b3,b9,c9⟩:=Qal w _ _ _ _ _ _ W0 c8;clear c8;have c0:W0.cell? ⟨w.heap.size,0,none⟩=some (.pointer p):=b3.cell 0;have f7:=ft a1;have a0:=Qq5 (w:=W0) (F:=F) (H:=λb=>b<W0.heap.size/\¬F b) (T:=T) (HT.o.agree (a1.agree λb I=>(HF.o b I).2)) c2.o (λb I=>⟨Nat.lt_of_lt_of_le (HF.o b I).2 a1.size,λe=>e.2 I⟩) (λb I=>I.1);rw[Qao,HP.o]at a0;obtain⟨d8,b8,e6,e7,f8,b7⟩:=Yg a0 a1 b3 c9 (fB b9) c1;clear a1 f7 b3 b9 c9 c1 a0;go_wp2_with fail;refine d8.o.mono ?_;rintro e w1 ⟨O,rfl,hO,d0,a2⟩;have Z:=(ft b8.o).trans (ft a2);have a9:OvX (λb=>b<W0.heap.size/\¬F b) w1 O (od0 T) (Qaa T):=⟨d0,QiZ.start d6.o⟩;have a8:=QtZ (m:=m) (c:=c) a9 (λb I=>ab I.1 a2.size) (λb I=>⟨Nat.lt_of_lt_of_le I (HL.o.nw (ft b8.o)).lib.big,λe=>by have:=(HF.o b e).1;omega⟩) ((HM.o.agree (fC Z λb I=>I)).mono λb I=>⟨Nat.lt_of_lt_of_le I Z.size,λe=>by
  have g7:b<w.heap.size:=I;have hz:=b7.o;rcases e with e|e|e
  .omega
  .cases e
  cases e⟩) (HL.o.nw Z) (λh0=>by show 0+_<=_;have:=HD.o h0;omega) e1.o f6.o
 rw[HR.o]at a8;obtain⟨g4,g9,d7,b4,d4,HO⟩:=Yg a8 a9 Z a2 (f8.o.ext a2) hO;clear a8 a9 Z a2 d0 hO c0;go_wp2_with(refine Qah rfl (.tmp 3) rfl (w.heap.size+1) 0 rfl m c d4.o ?_);refine g4.o.mono ?_;rintro e w2 ⟨rfl,d1,hg⟩;obtain⟨HG,c7⟩:=Yb hg (show OkM r.2 from hg.rel.ok);have N:∀b,b<W0.heap.size->¬OvB O (od0 T) b:=λb I e=>by
  have:=HO.o;rcases e with e|e|e
  .omega
  .cases e
  cases e
 have g6:=hY N;have hz:=b7.o;have b0:=hg.go.sb.blk (e6.o.ext b4.o) (N _ oM);have a3:=hg.go.sb.blk (e7.o.ext b4.o) (N _ oM);have c6:=hY a3;have q0:w2.cell? ⟨w.heap.size,0,none⟩=some (.pointer p):=b0.cell 0;have q2:∃z,w2.cell? ⟨w.heap.size+1+1,0,none⟩=some z:=⟨_,a3.cell 0⟩;have f2:=a3.frozen 0;have b6:=hY (show Nw w w2 from d7.o.comp hg.go.sb λi hi e=>N i oM e);obtain⟨z,q2⟩:=q2;by_cases h0:r.1=0
 ·have g0:(r.1 == 0)=true:=by simp [h0]
  have a6:=QvR hg.at_ (by rw[hg.T];have h1:=am hg.few (Nat.add_le_add_left (QsF _ _) _);have h2:=hg.go.at_.few;have h3:=HD.o (f0.o h0);have h4:(od0 T).us.length=0:=rfl;have h5:(Qaa (od0 T).T).length=(Qaa T).length:=rfl;omega);obtain⟨d3,H0⟩:=Yb a6 h0;clear hg N hz b0 a3 h0 a6;go_wp2_with fail;refine d3.o.mono ?_;rintro e w3 ⟨T',rfl,g5,d5,c3,a5,a7⟩;obtain⟨p',b5⟩:=Qaj T';have a4:=a5.blk c6.o;have q3:=a4.cell 0;have f3:=a4.frozen 0;obtain⟨g3,e0,f9,e8,e4,f4,f5⟩:=Yh a4 b5 (b6.o.trans a5) a5 d5 c3 (show r.2=Qaa T->T'=T fromλh=>by have h1:=HG.o.T;rw[h1]at a7;exact a7 h);rw[Qao,b5];clear a4 a5 d5 c3 b5 q0 q2 f2 a7;go_wp2_with fail;generalize hW:World.setCell _ _ _=W;have hs:Sb (λi=>i=w.heap.size+1+1) w3 W:=by rw[<-hW];exact(fA (λi=>i=w.heap.size+1+1) w3).set (p:=⟨w.heap.size+1+1,0,none⟩) (.inr rfl) _
  have I:Blk W (w.heap.size+1+1) 48 #[.pointer p']:=by rw[<-hW];exact g3.o.QbH 0 (.pointer p')
  have q4:W.cell? ⟨w.heap.size+1+1,0,none⟩=some (.pointer p'):=I.cell 0;clear hW q3 f3;refine ee (v:=.tuple #[.agg #[.pointer p'],.int .i64 0]) (by simp[results,results61,go_sem,q4]) rfl ?_;refine⟨T',by rw[Qao,e0.o,H0.o],g5,?_,f4.o,c7.o,f9.o.comp hs λi hi e=>oM,f5.o⟩;have g8:=b7.o;refine(e4.o.agree (F:=Up (OvF (λb=>b<W0.heap.size/\¬F b) w2 O d1) w2 w3) λb I=>hs.block b ?_ ?_).mono λb I=>?_
  all_goals
   have s1:=e8.o.size;have s2:=hs.size;have s3:=b6.o.size;have s4:=HL.o.lib.big;have s5:=b4.o.size;have s6:=HG.o.go.sb.size
  ·rcases I with e | e
   .exact ab e.1 s1
   exact e.2
  ·intro e2
   rcases I with e|e
   .exact e.2.2 ⟨oM,λe3=>by have:=(HF.o b e3).2;omega⟩
   omega
  rcases I with e|e
  ·by_cases hf:F b
   .exact .inl hf
   have h1:=e.1;by_cases h2:b<W0.heap.size
   .exact absurd ⟨h2,hf⟩ e.2.2
   exact .inr ⟨oM,oM⟩
  exact .inr ⟨oM,oM⟩
 have g0:(r.1==0)=false:=dW.2 h0;have H0:=hY h0;clear hg N hz b0 a3 h0;go_wp2_with fail;generalize hW:World.setCell _ _ _=W;have hs:Sb (λi=>i=w.heap.size+1+1) w2 W:=by rw[<-hW];exact(fA (λi=>i=w.heap.size+1+1) w2).set (p:=⟨w.heap.size+1+1,0,none⟩) (.inr rfl) _
 have I:Blk W (w.heap.size+1+1) 48 #[.pointer p]:=by rw[<-hW];exact c6.o.QbH 0 (.pointer p)
 have q4:W.cell? ⟨w.heap.size+1+1,0,none⟩=some (.pointer p):=I.cell 0;have c4:Nw w W:=b6.o.comp hs λi hi e=>oM
 clear hW q0 q2 f2;refine ee (v:=.tuple #[.agg #[.pointer p],.int .i64 r.1]) (by simp[results,results61,go_sem,q4]) rfl ?_;exact⟨T,by rw[Qao,HP.o],c2.o,(HT.o.agree (fC c4 λb I=>(HF.o b I).2)).mono λb I=>.inl I,(f1.o H0.o).symm,c7.o,c4,λ_=>rfl⟩
theorem QmB(w:World)(F:Nat->Prop){n:Int}(I:(Lit.int .i64 n).wf=true):RV w F (Qi0 n) Sl.none Sl.none:=RV.flat _ _ _ _ _ _ oN I oN
variable{g:Nat}{xs:List LE}
theorem Qud(I:Blk w g 78 (QaD xs).toArray)(N:∀x∈xs,RV w (Lt w) x.v x.sl x.so/\x.k.size<=maxLen)(Z:xs.length<=1000000):ES w (Lt w) ⟨some ⟨g,0,none⟩,xs.length⟩ xs:=
 ⟨(fF (cs:=QaD xs) (n:=xs.length) (size:=7) I (am Z oN) (QcR xs)).mono λi hi=>by subst hi;exact I.lt,N,oM⟩
theorem QpP{kd:Int}{k tk:ByteArray}{i:Int}{Z:Bool}{I:Val}{a0:Bool}{v:Val}{a1 a2 a3 a4:Sl}(h1:RV w F I a1 a2)(h2:RV w F v a3 a4)(bk:k.size<=maxLen)(bt:tk.size<=maxLen)(N:(Lit.int .i64 kd).wf=true)(bi:(Lit.int .i64 i).wf=true) :
  RMu w F (.mk kd k tk i Z I a0 v []) ⟨a1,a2,a3,a4,Sl.none⟩:=
 .mk 0 0 (λ_=>default) h1 h2 (.nil _ _) (λj m h=>by simp at h) (λj m h=>by simp at h) bk bt N bi sM
section
variable{P : Program}{c : Code}{Q : Exit -> Act -> World -> Prop}{a : Act}{w : World}
def QnK(tm:Array Value):List (Nat × Value)->Array Value
 |[]=>tm
 |(i,v)::l=>QnK (tm.setIfInBounds i v) l
def QuH(R:Act->World->Prop):Exit->Act->World->Prop
 |.normal,a,w=>R a w
 |_,_,_=>False
theorem QrX{R:Act->World->Prop}(h:R a w):QuH R .normal a w:=h
theorem Qss(Z:World->Nat->Value->Prop)(N:List Nat)(last:Nat->Value->List (Nat × Value))
  (h1:c.wp P (QuH λI w'=>∃b u,Z w' b u/\I.defers=a.defers/\I.tmps=QnK a.tmps ((N.map λd=>(d,I.tmps.getD d undef))++last b u)) a w)
  (h2:∀(w':World) (b:Nat) (u:Value) (vs:Nat->Value),Z w' b u->Q .normal { tmps:=QnK a.tmps ((N.map λd=>(d,vs d))++last b u),defers:=a.defers } w'):c.wp P Q a w:=
 wp_mono h1 λe I w' h=>by
  cases e with
  | normal=>
    obtain⟨b,u,hr,hd,ht⟩:=h;have:=h2 w' b u (λd=>I.tmps.getD d undef) hr;rw[<-ht,<-hd]at this;exact this
  |_=>exact h.elim
end
theorem Qb2{X W:World}{c:Array Value}{t:TypeId}(h:X.alloc (.cells c t)=W):Ext X W/\Blk W X.heap.size t c/\X.heap.size<W.heap.size:=by
 rw[<-h];exact⟨(fr X).alloc _ _,fu X _ _,by rw[ec];omega⟩
theorem QpW(h:Nw w0 w){b o:Nat}(I:w0<=b)(v:Value):Nw w0 (w.setCell ⟨b,o,none⟩ v):=
 h.comp ((fA (λi=>i=b) w).set (p:=⟨b,o,none⟩) (.inr rfl) v) λi hi e=>oM
theorem Qum(h:IsT w F T){b o:Nat}(I:¬F b)(hF:∀b,F b->b<w)(v:Value):IsT (w.setCell ⟨b,o,none⟩ v) F T:=
 h.agree λi hi=>((fA (λi=>i=b) w).set (p:=⟨b,o,none⟩) (.inr rfl) v).block i (hF i hi) λe=>I (e▸hi)
def QtY(E:List Ent)(n:Nat)(w':World)(b:Nat):Prop:=∃T p,QaK T=.pointer p/\OkR T/\Qaa T=E/\IsT w' (λi=>n<=i/\i<w'.heap.size/\i≠b) T/\Blk w' b 48 #[.pointer p]/\n<=b
theorem Qq6{E:List Ent}{p:Option Addr}{b:Nat}(N:QaK T=.pointer p)(ok:OkR T)(I:Qaa T=E)(Z:IsT w F T)(hb:Blk w b 48 #[z])(hl:n<=b)(hF:∀i,F i->n<=i/\i<w/\i≠b) :
  QtY E n (w.setCell ⟨b,0,none⟩ (.pointer p)) b:=
 ⟨T,p,N,ok,I,(Qum Z (λh=>(hF b h).2.2 rfl) (λi hi=>(hF i hi).2.1) _).mono λi hi=>⟨(hF i hi).1,ab (hF i hi).2.1 ((fA (λi=>i=b) w).set (p:=⟨b,0,none⟩) (.inr rfl) (.pointer p)).size,(hF i hi).2.2⟩,hb.QbH 0 (.pointer p),hl⟩
abbrev zS:MuS:=⟨Sl.none,Sl.none,Sl.none,Sl.none,Sl.none⟩
theorem QpQ(w:World)(F:Nat->Prop){k:ByteArray}{n:Int}(N:k.size<=maxLen)(I:(Lit.int .i64 n).wf=true):RMu w F (Qfg k n) zS:=QpP (Qdd _ _) (Qdd _ _) N oN oN I
theorem Quv(w:World)(F:Nat->Prop){k:ByteArray}(I:k.size<=maxLen):RMu w F (Qil k) zS:=QpP (Qdd _ _) (Qdd _ _) I oN oN oN
theorem Qsb{k:ByteArray}{n:Int}(hk:k.size<=maxLen)(Z:(Lit.int .i64 n).wf=true) :
  Calls prog 28 #[.agg #[.pointer none],.string k,Qvu n] w λe w'=>∃T p,e=.returned (.agg #[.pointer p])/\QaK T=.pointer p/\OkR T/\Qaa T=[(k,Qi0 n)]/\IsT w' (In w.heap.size w'.heap.size) T/\Ext w w':=by
 have h:=Qqf (w:=w) (F:=λ_=>False) (T:=none) (λb h=>h.elim) trivial trivial oN hk (QmB w (Lt w) Z);refine h.mono ?_;rintro e w' ⟨T,rfl,I,hT,hx⟩;obtain⟨p,N⟩:=Qaj T;exact⟨T,p,by rw[Qao,N],N,I.ok trivial,by rw[I.ents trivial];rfl,hT.mono λb hb=>hb.elim (λh=>h.elim) id,hx⟩
def QbD(l:List Mu)(M:List Ent):List Int × List Ent:=l.foldl (λp m=>(p.1++[(runM p.2 m).1],(runM p.2 m).2)) ([],M)
theorem Qf4{l:List Mu}{x:Mu}(h:l[j]? = some x)(M:List Ent):QbD (l.take (j+1)) M=((QbD (l.take j) M).1++[(runM (QbD (l.take j) M).2 x).1],(runM (QbD (l.take j) M).2 x).2):=by
 rw[bf,h];unfold QbD;show((l.take j)++[x]).foldl _ _=_;rw[dL];rfl
theorem QgA(l:List Mu)(M:List Ent):∀j,j<=l.length->(QbD (l.take j) M).1.length=j
 |0,_=>rfl
 | j+1,h=>by
   rw[Qf4 (ac (show j<l.length by omega)),aj,QgA l M j oM];rfl
theorem Qqo{E:List Ent}{x:Mu}:(runM E x).2.length<=E.length+64:=by
 unfold runM;by_cases h:QbP x=0
 ·rw [dV (by simp [h])]
  have I:Qa0 x<=64:=by unfold QbP at h;split at h<;>omega
  have:=Qkv x E;omega
 rw[dY h];exact dz _ _
theorem QeN(l:List Mu)(M:List Ent):∀j,(QbD (l.take j) M).2.length<=M.length+64*j
 |0=>an _
 | j+1=>by
   have N:=QeN l M j;cases I:l[j]? with
   |none=>rw[bf,I];show(QbD (l.take j++[]) M).2.length<=_;rw[aW];omega
   | some x=>
     rw[Qf4 I];have:=Qqo (E:=(QbD (l.take j) M).2) (x:=x);dsimp only;omega
def QbK(last:Int)(l:List Nm):List Nm:=l.filter λn=>decide (last<n.id)
theorem Qnq(last:Int)(l:List Nm)(x:Nm):QbK last (l++[x])=if last<x.id then QbK last l++[x]else QbK last l:=by
 unfold QbK;rw[cz];by_cases h:last<x.id
 .rw [dY h];simp[h]
 rw[dV h];simp[h]
theorem QgH(last:Int)(l:List Nm):(QbK last l).length<=l.length:=cf _ _
abbrev kN:ByteArray:=⟨#[110]⟩
abbrev QkP(n:Int):List Ent:=[(kN,Qi0 n)]
theorem mKN:Qci kN=0:=by decide +kernel
theorem Quq:klt kN kN=false:=by decide +kernel
theorem Qty{n:Int}(N : -9223372036854775808<=n)(h1:n<=9223372036854775807):OkM (QkP n):=
 ⟨by unfold Sorted;simp,λe I=>by rw[aT.1 I];exact⟨mKN,QuE N h1⟩⟩
theorem Qqt{n:Int}(N : -9223372036854775808<=n)(h1:n<=9223372036854775807):setMu M kN (Qlb n)=(0,QbY M kN (Qi0 n)):=by
 unfold setMu;have I:QcP (Qlb n)=0:=Qpd N h1;rw[dV (by simp[mKN]),dV (by simp[I])];rfl
theorem Qtf{n:Int}(I:0<=n)(h1:n<=1000):runM (QkP n) (Qfg kN 1)=(0,QkP (n+1)):=by
 rw[Qqp mKN oN];unfold Qeb;rw[show Qaq (QkP n) kN=some (Qi0 n)by simp[Qaq]];show(if(3:Int)≠3 then _ else Qoy _ _ n 1)=_;rw[dV sM];unfold Qoy;rw[dV oM,Qqt oM oM];simp[QbY,Quq]
theorem Ql8:runM [] (Qfg kN 1)=(0,QkP 1):=by
 rw[Qqp mKN oN];unfold Qeb;rw[show Qaq [] kN=none from rfl];show Qoy _ _ 0 1=_;unfold Qoy;rw[dV oM,Qqt oM oM];rfl
theorem QoX:runM M (Qil kN)=if(Qaq M kN).isSome then(0,QbM M kN)else(12,M):=by
 unfold runM;rw[dV (by simp[QrN mKN oN]),stepM,dV oN,dY rfl]
theorem QoY(n:Int):runM (QkP n) (Qil kN)=(0,[]):=by
 rw[QoX,show Qaq (QkP n) kN=some (Qi0 n)by simp[Qaq]];simp[QbM,Quq]
theorem Qrf:runM [] (Qil kN)=(12,[]):=by rw[QoX];rfl
abbrev lK:List Mu:=[Qfg kN 1,Qil kN,Qfg kN 1]
theorem Qui:QbD lK (QkP 5)=([0,0,0],QkP 1):=by
 unfold QbD;simp only[List.foldl_cons,List.foldl_nil,Qtf (n:=5) oN oN,QoY,Ql8];rfl
theorem QsB:QbD (lK.drop 1) []=([12,0],QkP 1):=by
 unfold QbD;simp only[List.drop_succ_cons,List.drop_zero,List.foldl_cons,List.foldl_nil,Qrf,Ql8];rfl
theorem Tryz.Qpn:(prog.info? 39).map (·.size)=some 20:=kM
theorem Tryz.Qcz:(prog.info? 39).map (λi=>(i.zero,i.size,i.bytes))=some (some (QqR ⟨0,.mk 0 ByteArray.empty ByteArray.empty 0 false zeroV false zeroV []⟩ ⟨Sl.none,Sl.none,Sl.none,Sl.none,Sl.none⟩),20,272):=kM
variable{ops:Array Oper}{a:Act}{Q:Exit->Act->World->Prop}
theorem QjZ{rest:List Oper}{op:Oper}(I:op.guard=none)(x:Operand)(ho:op.op=.load 39 x)
  (b o:Nat) (N:a.eval x=.pointer (some ⟨b,o,none⟩)) (m:Nm) (c:MuS) (Z:NmC w b o m c) (h:wpList prog ops Q rest (a.put op.dst (QqR m c)) w):wpList prog ops Q (op::rest) a w:=
 wpList_load_mid I 39 x ho b o N (Qbw m c) _ Z.range underlying39 rfl (by rw[Qtp];exact Tryz.Qpn) h
variable{vs:List Value}
theorem Qjf{w v:World}{b:Nat}{T:TypeId}{z:Array Value}(hz:Blk w b T z)(hs:z.size=vs.length)(h:w.setCells b 0 vs=v):Blk v b T vs.toArray:=by
 subst h;have N:w.there b 0 vs.length:=Qe3 hz (by rw[hs];exact an _);have hr:=fe w b 0 vs N;obtain⟨z',h1,h2⟩:=Qcv vs 0 hz;have Z:z'.toList=vs:=by
  refine bC λj=>?_
  rw[bR];by_cases hj:j<vs.length
  ·obtain ⟨v,hv⟩:∃ v,vs[j]? = some v:=⟨_,ac hj⟩
   have h3:=hr j v hv;rw[aC,h1.cell]at h3;rw[h3,hv]
  rw[Array.getElem?_eq_none oM,aM oM]
 have I:z'=vs.toArray:=dw.1 (Z.trans (bQ).symm);exact I▸h1
theorem Qnb{rest:List Oper}{op:Oper}(N:op.guard=none)(hd:op.dst=none){T:TypeId}{x y:Operand}(ho:op.op=.store T x y)
  (vs:List Value) (hi:(prog.info? T).map (·.size)=some vs.length) (h1:∀u∈vs,u.oneCell'=true) {b:Nat} (hb:w0.heap.size=b) (hw:Ext w0 w) {z:Array Value} (Z:Blk w b T z) (I:z.size=vs.length) (hx:a.eval x=.pointer (some ⟨b,0,none⟩)) (hy:a.eval y=.agg vs.toArray)
  (h:∀w',Ext w0 w'->Blk w' b T vs.toArray->wpList prog ops Q rest a w'):wpList prog ops Q (op::rest) a w:=by
 refine eU N T x y ho b 0 vs.toArray hx hy (Qe3 Z (by rw[I,be];exact an _)) (by rw[hi,be]) (fb h1) ?_;have e:vs.toArray.toList=vs:=bQ;have ep:a.put op.dst undef=a:=by rw[hd];rfl
 rw[ep,e];exact h _ (Ext.setCells oM _ _ hw) (Qjf Z I rfl)
theorem Qsz{rest:List Oper}{op:Oper}(N:op.guard=none)(hd:op.dst=none){x y:Operand}(ho:op.op=.store 39 x y)
  (n:Nm) (c:MuS) {b:Nat} (hb:w0.heap.size=b) (Z:Ext w0 w) {z:Array Value} (hz:Blk w b 39 z) (I:z.size=20) (hx:a.eval x=.pointer (some ⟨b,0,none⟩)) (hy:a.eval y=QqR n c)
  (h:∀w',Ext w0 w'->Blk w' b 39 (Qh5 n c)->wpList prog ops Q rest a w'):wpList prog ops Q (op::rest) a w:=
 Qnb N hd ho (Qbw n c) (by rw[Qtp];exact Tryz.Qpn) (Qtw (n,c)) hb Z hz I hx hy h
theorem QnZ{rest:List Oper}{op:Oper}(N:op.guard=none)(x y:Operand)(ho:op.op=.store 37 x y)(b o:Nat)(m:Mu)(c:MuS)(I:w.there b o 19)
  (hx:a.eval x=.pointer (some ⟨b,o,none⟩)) (Z:a.eval y=Qaz m c) (h:wpList prog ops Q rest (a.put op.dst undef) (w.setCells b o (Qan m c))):wpList prog ops Q (op::rest) a w:=
 eU N 37 x y ho b o (Qa2 m c) hx Z I (by exact Tryz.Qem) (fb (Qml (m,c))) h
theorem QbT{rest:List Oper}{o:Oper}(hg:o.guard=none)(t e:TypeId)(N:Nat)(I:Array (Nat × Operand))(ho:o.op=.buildSlice t N I)
  (vs:List Value) (size:Nat) {ie:TypeInfo} (hu:prog.underlying t=some (.slice e)) (a1:prog.info? e=some ie) (hs:ie.size=size) (hz:ie.zero=some z) (hp:0<size) (hl:vs.length=N) (a2:0<N) (a3:N*size<=1000)
  (h1:∀v∈vs,v.cells.size=size) (a0:(I.toList.map λx=>(x.1,a.eval x.2))=(vs.zipIdx 0).map λx=>(x.2,x.1)) (Z:Array Value) (hc:(vs.flatMap λv=>v.cells.toList).toArray=Z)
  (h:wpList prog ops Q rest (a.put o.dst (.slice (some ⟨w,0,none⟩) N N)) (w.alloc (.cells Z e))):wpList prog ops Q (o::rest) a w:=by
 subst hs hc hl;have h0:0<vs.length*ie.size:=Nat.mul_pos a2 hp;refine wpList_buildSlice hg t e _ I ho _ ie z hu a1 hz oM oM ?_ h;rw[Array.toList_map];rw[a0];exact Great.fill_whole hp vs _ h1 (by rw[Array.size_map,Array.size_range])
theorem Qa4{rest:List Oper}{o:Oper}(Z:o.guard=none)(t:TypeId)(I:Array (Nat × Operand))(ho:o.op=.build t I)(cs:Array Value)
  (N:prog.built t (I.toList.map λx=>(x.1,a.eval x.2))=some cs) (h:wpList prog ops Q rest (a.put o.dst (.agg cs)) w):wpList prog ops Q (o::rest) a w:=by
 have e:(I.map λ(i,x)=>(i,a.eval x)).toList=I.toList.map λx=>(x.1,a.eval x.2):=Array.toList_map ..
 refine wpList_build Z t I ho (by rw[e,N];rfl) ?_;rw[e,N];exact h
theorem Qh6(I:Int)(m:Mu)(c:MuS):prog.built 39 [(0,.int .u64 I),(1,Qaz m c)]=some (Qh5 ⟨I,m⟩ c):=kM
structure Qvf(g:Nat)(cs:Array Value)(codes:List Int)(S:Nat->(Nat->Prop)->World->Prop):Prop where
 eg:∀args w,(callFunc g args).run prog w=.ok (.enter g args) w
 call:∀j code D W,codes[j]? = some code->S j D W->Calls prog g (#[.int .i64 code]++cs) W λe w'=>e=.returned (.tuple #[])/\∃D',S (j+1) D' w'/\Sb D W w'/\∀b,D' b->D b\/W.heap.size<=b
 stay:∀j D X W W',S j D W->Sb X W W'->(∀b,D b->¬X b)->S j D W'
 lt:∀j D W,S j D W->∀b,D b->b<W.heap.size
theorem Qnf{l:List Mu}{x:Mu}(h:l[j]? = some x)(M:List Ent):(QbD l M).1[j]? = some (runM (QbD (l.take j) M).2 x).1:=by
 have N:∀(r:List Mu) (p:List Int × List Ent),∃q,(r.foldl (λp m=>(p.1++[(runM p.2 m).1],(runM p.2 m).2)) p).1=p.1++q:=by
  intro r
  induction r with
  |nil=>intro p;exact⟨[],sM⟩
  | cons a r ih=>
    intro p;obtain⟨q,I⟩:=ih (p.1++[(runM p.2 a).1],(runM p.2 a).2);exact⟨(runM p.2 a).1::q,by rw[dC,I,aN];rfl⟩
 have h1:=Qf4 h M;obtain⟨q,I⟩:=N (l.drop (j+1)) (QbD (l.take (j+1)) M);have h2:(QbD l M).1=(QbD (l.take (j+1)) M).1++q:=by
  rw[<-I];unfold QbD;rw[<-dL,aU]
 have Z:=QgA l M j (by have:=(ae.1 h).1;omega);rw[h2,h1,aN,aQ oM,Z,cH];rfl
abbrev Qe6(l:List Nm):List Mu:=l.map Nm.m
structure Qey(w:World)(F G:Nat->Prop)(T:RT)(s:Sl)(l:List Nm):Prop where
 tree:IsT w F T
 old:∀b,F b->6<=b/\b<w.heap.size
 ok:OkR T
 okM:OkM (Qaa T)
 row:Qa7 w G s l
 rowOld:∀b,G b->b<w.heap.size
 lib:Qb4 w
 few:(Qaa T).length+64*l.length<=5000
 tot:Qcc (Qe6 l)<=1099000
variable{s:Sl}
theorem Qey.ext{l:List Nm}(h:Qey w F G T s l)(k:Nw w w'):Qey w' F G T s l:=
 ⟨h.tree.agree (fC k λb I=>(h.old b I).2),λb I=>⟨(h.old b I).1,ab (h.old b I).2 k.size⟩,h.ok,h.okM,h.row.agree (fC k h.rowOld),λb I=>ab (h.rowOld b I) k.size,h.lib.nw k,h.few,h.tot⟩
theorem Qey.bud{l:List Nm}(h:Qey w F G T s l){m:Mu}(Z:j<=l.length)(I:QbP m=0):(QbD ((Qe6 l).take j) (Qaa T)).2.length+Qb8 m (QbD ((Qe6 l).take j) (Qaa T)).2<=1000000:=by
 have N:Qa0 m<=64:=by unfold QbP at I;split at I<;>omega
 have h1:=QeN (Qe6 l) (Qaa T) j;have h2:=h.few;have:=Nat.mul_le_mul N (show 2*((QbD ((Qe6 l).take j) (Qaa T)).2.length+Qa0 m)+1<=10129 by omega);unfold Qb8;omega
theorem Qkp{F G D0:Nat->Prop}{l:List Nm}{cs:Array Value}{S:Nat->(Nat->Prop)->World->Prop}(h:Qey w F G T s l)(hS:Qvf g cs (QbD (Qe6 l) (Qaa T)).1 S)(h0:S 0 D0 w)(hD:∀b,D0 b->6<=b/\¬F b/\¬G b) :
  Calls prog 38 #[Qao T,.slice s.a l.length s.c,.func (.func g) #[] cs] w λe w'=>∃T' D,e=.returned (Qao T')/\OkR T'/\IsT w' (λb=>(F b\/w<=b)/\b<w'/\¬D b) T'/\Qaa T'=(QbD (Qe6 l) (Qaa T)).2/\OkM (Qaa T')/\S l.length D w'/\Sb D0 w w'/\(∀b,D b->D0 b\/w<=b)/\((∀n∈l,(runM (Qaa T) n.m).2=Qaa T)->T'=T):=by
 obtain⟨p,hp⟩:=Qaj T;have c3:=hS.lt _ _ _ h0;have n7:=hS.eg;have n2:=h.lib.lib.big;have n6:=h.row.len;obtain⟨HP,H,HS,H0,HD,a2⟩:=Yg hp h hS h0 hD c3;rw[Qao,hp];clear hp h hS h0 hD c3;go_in;go_upto_region 1 with fail;generalize i6:World.alloc _ _=W0;obtain⟨i3,f7,i5,f6⟩:=Qas w _ _ _ _ W0 i6;obtain⟨a3,j6,j8,l9⟩:=Ye i3 i5 f6 f7;clear i6 i3 i5 f6 f7;go_wp2_with fail;go_loopw[13] (λk4 wr=>∃(j:Nat) (T1:RT) (p1:Option Addr) (D:Nat->Prop),k4=.int .i64 (j:Int)/\j<=l.length/\Yd (QaK T1=.pointer p1)/\Yd (Blk wr w.heap.size 48 #[.pointer p1])/\Yd (OkR T1)/\
  Yd (IsT wr (λb=>(F b\/W0<=b)/\b<wr/\¬D b) T1)/\Yd (Qaa T1=(QbD ((Qe6 l).take j) (Qaa T)).2)/\Yd (OkM (Qaa T1))/\Yd (S j D wr)/\Yd (∀b,D b->D0 b\/W0<=b)/\Yd (Sb (λb=>b=w.heap.size\/D0 b) W0 wr)/\Yd ((∀n∈l,(runM (Qaa T) n.m).2=Qaa T)->T1=T)) (λv _=>l.length -(intOf v).toNat)
 case atStart=>
  have hz:=a3.o.size;refine⟨0,T,p,D0,rfl,aH _,HP,j6,hY H.o.ok,hY ((H.o.tree.agree (a3.o.agree λb I=>(H.o.old b I).2)).mono λb I=>⟨.inl I,?_,λe=>(HD.o b e).2.1 I⟩),hY rfl,hY H.o.okM,hY (HS.o.stay _ _ (λ_=>False) _ _ H0.o (a3.o.sb _) λ_ _ e=>e),hY λb I=>.inl I,hY (fA _ _),hY λ_=>rfl⟩;have:=(H.o.old b I).2;omega
 obtain⟨j,T1,p1,D,rfl,hj,f2,b0,c2,f9,b5,e7,b4,a5,a6,a8⟩:=hrel;have hz:=l9.o;have z1:=a3.o.size;have z2:=a6.o.size;have b9:=hY (show Sb D0 w wr from(a3.o.sb D0).comp a6.o λi hi e=>e.resolve_left oM);by_cases i0:j<l.length
 ·have l1:(j:Int)<(l.length:Int):=oM
  have n9:decide ((j:Int)<(l.length:Int))=true:=dZ l1;have l0:(0:Int)<=(j:Int):=oM
  obtain⟨x,hx⟩:∃x,l[j]? = some x:=⟨_,ac i0⟩;obtain⟨b,o,y,j2,j4,n8,n4,g3,f1⟩:=H.o.row.at hx;have c9:Agree G w wr:=λb I=>b9.o.block b (H.o.rowOld b I) λe=>(HD.o b e).2.2 I
  obtain⟨c1,l3⟩:=Yb (g3.agree c9 j4) (f1.agree c9);have o0:=c1.o.lt;have b7:(Qe6 l)[j]? = some x.m:=by rw[aq,hx];rfl
  have l5:=hY (ak hx);have g8:∀b,G b->b<wr:=λb I=>ab (H.o.rowOld b I) b9.o.size
  have i7:=hY g8;have a9:∀W,Ext wr W->Calls prog 61 #[.agg #[.pointer p1],Qaz x.m y] W λe w'=>∃T',e=.returned (.tuple #[Qao T',.int .i64 (runM (Qaa T1) x.m).1])/\OkR T'/\IsT w' (Up (λb=>(F b\/W0<=b)/\b<wr/\¬D b) W w') T'/\Qaa T'=(runM (Qaa T1) x.m).2/\OkM (runM (Qaa T1) x.m).2/\Nw W w'/\((runM (Qaa T1) x.m).2=Qaa T1->T'=T1):=λW hW=>by
   have h:=QsT (w:=W) (F:=λb=>(F b\/W0<=b)/\b<wr/\¬D b) (T:=T1) (m:=x.m) (c:=y) (f9.o.agree (hW.agree λb I=>I.2.1)) (λb I=>⟨I.1.elim (λe=>(H.o.old b e).1) λe=>oM,ab I.2.1 hW.size⟩) c2.o e7.o ((l3.o.agree (hW.agree i7.o)).mono λb I=>ab (i7.o b I) hW.size) (H.o.lib.sb (b9.o.ext hW) λb I e=>by have:=(HD.o b e).1;omega) (λh0=>by rw[b5.o];exact H.o.bud hj h0) (by
     rw[b5.o];have h1:=QeN (Qe6 l) (Qaa T) j;have h2:=H.o.few;omega) (am (Qgb b7) (by have:=H.o.tot;omega))
   rw[Qao,f2.o]at h;exact h
  obtain⟨d3,j9,d4⟩:=Yc a9 (Qf4 b7 (Qaa T)) (Qnf b7 (Qaa T));have q0:wr.cell? ⟨w,0,none⟩=some (.pointer p1):=b0.o.cell 0;have l2:=b0.o.lt;rw[j2];clear g3 f1 c9 a9 hx b7 g8 z1 z2;go_wp2_with(first |(refine QjZ rfl (.tmp 15) rfl b (o+j*20) rfl x y c1.o ?_) |(refine Qsz rfl rfl rfl x y (w0:=wr) (b:=wr) rfl ((fr wr).alloc _ _) (fu wr _ _) rfl rfl rfl ?_;intro w5 e3 g6;have e2:=hY e3;have q5:=(e3.cell l2).trans q0;have l4:=hY (NmC.Qax g6).mu;clear e3 g6) |(refine Qah rfl (.tmp 19) rfl wr.heap.size (0+1) rfl x.m y l4.o ?_));refine(d3.o _ e2.o).mono ?_;rintro e w6 ⟨T2,rfl,i2,i1,d8,e4,c6,a4⟩;obtain⟨p2,e1⟩:=Qaj T2;rw[Qao,e1];obtain⟨q,hq⟩:∃q,runM (Qaa T1) x.m=q:=⟨_,rfl⟩;rw[hq]at d8 e4 a4 ⊢;have d7:=j9.o;have a0:=d4.o;rw[<-b5.o,hq]at d7 a0;obtain⟨HA,HC,k0,k1,j5,f3,k5⟩:=Yh d7 a0 e1 i2 i1 d8 e4;have f0:=hY ((ft e2.o).trans c6);have l6:=hY (show(∀n∈l,(runM (Qaa T) n.m).2=Qaa T)->T2=T fromλc0=>by
   have h1:=a8.o c0;have h2:=c0 x l5.o;rw[<-h1]at h2;rw[hq]at h2;exact(a4 h2).trans h1)
  obtain⟨c4,g4⟩:=Yb e2.o.size c6.size;clear d7 a0 e1 i2 i1 d8 e4 c6 a4 hq q5 q0 l2;go_upto_region 5 with fail;generalize c7:World.alloc _ _=w7;have e0:Ext w6 w7:=by rw[<-c7];exact(fr w6).alloc _ _
  have d0:Blk w7 w6.heap.size 48 #[.pointer p2]:=by rw[<-c7];exact fu w6 _ _
  have z7:w6.heap.size<w7.heap.size:=d0.lt;obtain⟨k7,d5⟩:=Yb d0 (show Nw wr w7 from f0.o.trans (ft e0));have l7:=hY (j5.o.agree (e0.agree λb I=>by
   rcases I with I|I
   .have:=I.2.1;have:=c4.o;have:=g4.o;omega
   exact I.2))
  have d6:=HS.o.stay _ _ (λ_=>False) _ _ b4.o d5.o λ_ _ e=>e
  obtain⟨k9,k2⟩:=Yb d6 (HS.o.call _ _ _ _ HC.o d6);clear c7 e0 d0 d6;go_wp2_with fail;refine k2.o.mono ?_;rintro e w8 ⟨rfl,D',g7,a1,g0⟩;have z6:wr.heap.size<=w6.heap.size:=f0.o.size;have b3:=HS.o.lt _ _ _ b4.o;have e8:=HS.o.lt _ _ _ k9.o;have g5:=a1.blk k7.o λe=>by have:=b3 _ e;omega
  have q8:w8.cell? ⟨w6,0,none⟩=some (.pointer p2):=g5.cell 0;have i4:¬D w.heap.size:=λe=>by
   rcases a5.o _ e with h|h
   .have:=a2.o _ h;omega
   omega
  have Z:=a1.blk (Nw.blk d5.o b0.o) i4;have c8:w8.cell? ⟨w,0,none⟩=some (.pointer p1):=Z.cell 0;have f8:=Z.frozen 0;have l8:=Z.lt;obtain⟨f5,j1,a7,i9⟩:=Ye Z g7 a1 g0;clear g7 a1 g0 g5 i4 Z b3 e8;go_wp2_with fail;generalize e6:World.setCell _ _ _=w9;have i8:Sb (λi=>i=w.heap.size) w8 w9:=by rw[<-e6];exact(fA (λi=>i=w.heap.size) w8).set (p:=⟨w,0,none⟩) (.inr rfl) _
  have j0:Blk w9 w.heap.size 48 #[.pointer p2]:=by rw[<-e6];exact f5.o.QbH 0 (.pointer p2)
  obtain⟨b6,j3⟩:=Yb i8 j0;clear e6 i8 j0 q8 c8 f8;go_roundw
  case measure=>simp[intOf];omega
  have z1:=a3.o.size;have z2:=a6.o.size;have z8:=a7.o.size;have z9:=b6.o.size;have b3:=HS.o.lt _ _ _ b4.o;have g9:∀b,D' b->D0 b\/W0<=b:=λb I=>(i9.o b I).elim (a5.o b) λe=>.inr oM
  have k3:¬D' w.heap.size:=λe=>by
   rcases g9 _ e with h|h
   .have:=a2.o _ h;omega
   omega
  have z5:=c4.o;have N:∀b,Up (λb=>(F b\/W0<=b)/\b<wr/\¬D b) w5 w6 b->(F b\/W0<=b)/\b<w6/\¬D b/\b≠w.heap.size:=λb I=>by
   rcases I with⟨h1,h2,h3⟩ |⟨h1,h2⟩
   ·refine ⟨h1,oM,h3,?_⟩
    rcases h1 with h1|h1
    .have:=(H.o.old b h1).2;omega
    omega
   exact⟨.inr oM,h2,λe=>by have:=b3 b e;omega,oM⟩
  refine⟨j+1,T2,p2,D',by go_num,i0,k0,j3,k1,hY (((l7.o.agree λb I=>a7.o.block b ?_ ?_).agree λb I=>b6.o.block b ?_ ?_).mono λb I=>?_),hY (by rw[HA.o];exact f3.o),hY (by rw[f3.o];exact k5.o),hY (HS.o.stay _ _ _ _ _ j1.o b6.o λb I e=>k3 (e▸I)),hY g9,hY ((a6.o.trans (Nw.any d5.o _)).comp ((a7.o.mono (G:=λb=>b=w.heap.size\/D b) λi _ hi=>.inr hi).trans (b6.o.mono λi _ hi=>.inl hi)) λi hi e=>?_),l6⟩
  .have:=(N b I).2.1;omega
  .exact (N b I).2.2.1
  .have:=(N b I).2.1;omega
  .exact (N b I).2.2.2
  ·refine ⟨(N b I).1,by have:=(N b I).2.1;omega,fun e=>?_⟩
   rcases i9.o b e with h|h
   .exact (N b I).2.2.1 h
   have:=(N b I).2.1;omega
  rcases e with e|e
  .exact .inl e
  rcases a5.o i e with h|h
  .exact .inr h
  omega
 obtain rfl:j=l.length:=oM
 have l1:decide ((l.length:Int)<(l.length:Int))=false:=dX oM;have q0:wr.cell? ⟨w,0,none⟩=some (.pointer p1):=b0.o.cell 0;have b8:=a6.o.blk j8.o (by
  rintro(e|e)
  .omega
  have:=a2.o _ e;omega)
 have k6:=hY b8;have q4:wr.cell? ⟨w+1,0,none⟩=some _:=b8.cell 0;have f4:=b8.frozen 0;clear b8;have j7:=hY (show(Qe6 l).take l.length=Qe6 l from aV (by rw[ar];exact an _));go_wp2_with fail;generalize hW:World.setCell _ _ _=W;have hs:Sb (λi=>i=w.heap.size+1) wr W:=by rw[<-hW];exact(fA (λi=>i=w.heap.size+1) wr).set (p:=⟨w+1,0,none⟩) (.inr rfl) _
 have I:Blk W (w.heap.size+1) 48 #[.pointer p1]:=by rw[<-hW];exact k6.o.QbH 0 (.pointer p1)
 have q5:W.cell? ⟨w+1,0,none⟩=some (.pointer p1):=I.cell 0;clear hW q0 q4 f4;refine ee (v:=.agg #[.pointer p1]) (by simp[results,results38,go_sem,q5]) rfl ?_;have z3:=hs.size;have k8:¬D (w.heap.size+1):=λe=>by
  rcases a5.o _ e with h|h
  .have:=a2.o _ h;omega
  omega
 refine⟨T1,D,by rw[Qao,f2.o],c2.o,(f9.o.agree λb I=>hs.block b I.2.1 ?_).mono λb I=>⟨I.1.imp id λe=>oM,by have:=I.2.1;omega,I.2.2⟩,by rw[b5.o,j7.o],e7.o,HS.o.stay _ _ _ _ _ b4.o hs λb I e=>k8 (e▸I),b9.o.comp hs λi hi e=>oM,λb I=>(a5.o b I).imp id λe=>oM,a8.o⟩;rcases I.1 with e|e
 .have:=(H.o.old b e).2;omega
 omega
theorem QqD(codes:List Int):Qvf 39 #[] codes λ_ D _=>∀b,¬D b where
 eg:=λargs w=>rfl
 call:=λj code D W _ h=>by
  refine Calls.mono (R:=λe w'=>e=.returned (.tuple #[])/\Ext W w') ?_ λe w' ⟨h1,h2⟩=>⟨h1,λ_=>False,λ_ e=>e,h2.sb _,λb e=>e.elim⟩
  show Calls prog 39 #[.int .i64 code] W _;go_in;go_wp2_with fail;go_end0;exact⟨rfl,fr _⟩
 stay:=λ_ _ _ _ _ h _ _=>h
 lt:=λ_ _ _ h b hb=>(h b hb).elim
theorem Qhv{l:List Nm}(h:Qey w F G T s l) :
  Calls prog 18 #[Qao T,.slice s.a l.length s.c] w λe w'=>∃T',e=.returned (Qao T')/\OkR T'/\IsT w' (Up F w w') T'/\Qaa T'=(QbD (Qe6 l) (Qaa T)).2/\OkM (Qaa T')/\Nw w w'/\((∀n∈l,(runM (Qaa T) n.m).2=Qaa T)->T'=T):=by
 obtain⟨p,hp⟩:=Qaj T;obtain⟨Z,HF⟩:=Yb (λW (hW:Ext w W)=>Qkp (h.ext (ft hW)) (QqD _) (D0:=λ_=>False) (λ_ e=>e) λ_ e=>e.elim) h.old;rw[Qao,hp]at Z ⊢;clear hp h;go_in;go_upto_region 1 with fail;generalize a5:World.alloc _ _=W0;obtain⟨a8,a6,a9,I⟩:=Qas w _ _ _ _ W0 a5;obtain⟨a1,a4⟩:=Yb a8 I;have q0:W0.cell? ⟨w,0,none⟩=some (.pointer p):=a9.cell 0;clear a5 a8 a6 a9 I;go_wp2_with fail;refine(Z.o _ a1.o).mono ?_;rintro e w1 ⟨T',D,rfl,ok,hT,he,hM,hS,a2,hD,N⟩;obtain⟨p',a0⟩:=Qaj T';rw[Qao,a0];have I:=a2.blk a4.o λe=>e
 have q1:w1.cell? ⟨w+1,0,none⟩=some _:=I.cell 0;have f1:=I.frozen 0;have l1:=I.lt;obtain⟨HB,HP,b0,HT,HE,HM,a7⟩:=Yh I a0 ok hT he hM a2;have a3:=hY N;clear a0 ok hT he hM a2 N I q0 hS hD;go_wp2_with fail;generalize hW:World.setCell _ _ _=W;have hs:Sb (λi=>i=w.heap.size+1) w1 W:=by rw[<-hW];exact(fA (λi=>i=w.heap.size+1) w1).set (p:=⟨w+1,0,none⟩) (.inr rfl) _
 have hb:Blk W (w.heap.size+1) 48 #[.pointer p']:=by rw[<-hW];exact HB.o.QbH 0 (.pointer p')
 have q5:W.cell? ⟨w+1,0,none⟩=some (.pointer p'):=hb.cell 0;clear hW q1 f1;refine ee (v:=.agg #[.pointer p']) (by simp[results,results18,go_sem,q5]) rfl ?_;have z0:=a1.o.size;have z1:=a7.o.size;have z2:=hs.size;have a6:w.heap.size+1<W0.heap.size:=a4.o.lt;refine⟨T',by rw[Qao,HP.o],b0.o,(HT.o.agree λb hb=>hs.block b hb.2.1 ?_).mono λb hb=>hb.1.imp id λe=>⟨oM,by have:=hb.2.1;omega⟩,HE.o,HM.o,((ft a1.o).trans a7.o).comp hs λi hi e=>oM,a3.o⟩;rcases hb.1 with e|e
 .have:=(HF.o b e).2;omega
 omega
def QlL(n B:Nat)(codes:List Int)(j:Nat)(D:Nat->Prop)(W:World):Prop:=
 ∃sc:Sl,Blk W B 58 #[.slice sc.a j sc.c]/\W.ownsRow n 71 1 (.slice sc.a j sc.c) j ((codes.take j).map (.int .i64))/\sc.row≠some B/\∀b,D b↔b=B\/sc.row=some b
theorem Tryz.QjL:(prog.info? 71).map (λi=>(i.zero,i.size,i.bytes))=some (some (.int .i64 0),1,8):=kM
variable{D:Nat->Prop}{W:World}
theorem Qm3{I:List Int}{code:Int}(hl:I.length<=1000)(hn:n<=B)(hc:I[j]? = some code)(h:QlL n B I j D W) :
  Calls prog 40 #[.int .i64 code,.pointer (some ⟨B,0,none⟩)] W λe w'=>e=.returned (.tuple #[])/\∃D',QlL n B I (j+1) D' w'/\Sb D W w'/\∀b,D' b->D b\/W<=b:=by
 obtain⟨sc,N,Z,a7,hD⟩:=h;obtain⟨i0,hi,b8,b4,c3⟩:=em Tryz.QjL;have c0:W.cell? ⟨B,0,none⟩=some (.slice sc.a j sc.c):=N.cell 0;have lB:=N.lt;have c7:j<I.length:=(ae.1 hc).1;have a1:=(fr W).alloc #[.int .i64 code] 71;obtain⟨b6,b9,HB,c6,HD,HC,a4⟩:=Yh (fu W 71 #[.int .i64 code]) (Qab (F:=Lt W) Z (a1.agree λb N=>N) λb N=>(Qad Z N).2) (N.ext a1) Z hD hc a1;obtain⟨b7,b3,c4,a9⟩:=Ye (show j+1<=maxLen by unfold maxLen;omega) (show(j+1)*8<=140737488355328 by omega) (show n<=(W.alloc (.cells #[.int .i64 code] 71)).heap.size from am (cF (Nat.lt_of_le_of_lt hn lB)) a1.size) a7;clear N Z hD a1 hc a7;go_in;go_wp2_with(at_builtin;refine Qak _ rfl (.tmp 3) (.tmp 5) 58 rfl n 71 i0 _ 1 8 underlying58 hi b8 b4 c3 rfl oN sc j ((I.take j).map (.int .i64)) rfl b9.o (λb=>b=W.heap.size) ⟨some ⟨W,0,none⟩,1⟩ 1 [.int .i64 code] rfl (fF b6.o oN rfl) (by simp[Value.oneCell']) b7.o b3.o c4.o ?_;intro s7 w9 a2 a0 a5;have a3:Blk w9 B 58 #[.slice sc.a j sc.c]:=(a0.grown.block B HB.o.lt (λe=>a9.o e.symm)).trans HB.o;have c9:w9.cell? ⟨B,0,none⟩=some (.slice sc.a j sc.c):=a3.cell 0;have f9:=a3.frozen 0;have l9:=a3.lt;have b5:=hY a3;have b0:=hY a2;have c2:=hY a0;have a8:=hY a5;clear a3 a2 a0 a5);go_end0;have a6:s7.row≠some B:=λe=>by
  rcases a8.o with hs |⟨hs,-⟩
  .exact a9.o (by unfold Sl.row at e ⊢;rwa[hs]at e)
  unfold Sl.row at e;rw[hs]at e;have e:some (W.alloc (.cells #[.int .i64 code] 71)).heap.size=some B:=e;injection e with e;have:=a4.o.size;omega
 refine⟨rfl,λb=>b=B\/s7.row=some b,⟨s7,b5.o.QbH 0 _,?_,a6,λb=>Iff.rfl⟩,?_,λb N=>?_⟩
 ·rw [bf,HC.o,aI]
  exact Qab (F:=λb=>s7.row=some b) b0.o (fv _ _ _ a6) λb N=>N
 ·have c1:Sb D (W.alloc (.cells #[.int .i64 code] 71)) w9:=by
   have hg:=c2.o.grown;exact⟨hg.os,hg.tape,hg.output,hg.size,λi hi hn=>hg.block i hi λe=>hn ((HD.o i).2 (.inr e.symm))⟩
  exact((a4.o.sb D).trans c1).set (p:=⟨B,0,none⟩) (.inr ((HD.o B).2 (.inl rfl))) _
 rcases N with rfl|N
 .exact .inl ((HD.o _).2 (.inl rfl))
 rcases a8.o with hs |⟨hs,-⟩
 .exact .inl ((HD.o b).2 (.inr (by unfold Sl.row at N ⊢;rwa[hs]at N)))
 unfold Sl.row at N;rw[hs]at N;have N:some (W.alloc (.cells #[.int .i64 code] 71)).heap.size=some b:=N;injection N with N;have:=a4.o.size;exact .inr oM
theorem Qoe{codes:List Int}(hl:codes.length<=1000)(hn:n<=B):Qvf 40 #[.pointer (some ⟨B,0,none⟩)] codes (QlL n B codes) where
 eg:=λargs w=>rfl
 call:=λj code D W hc h=>Qm3 hl hn hc h
 stay:=λj D X W W' ⟨sc,h1,h2,h3,h4⟩ k hX=>⟨sc,k.blk h1 (hX _ ((h4 _).2 (.inl rfl))),Qab (F:=λb=>sc.row=some b) h2 (λb hb=>k.block b (Qad h2 hb).2 (hX _ ((h4 _).2 (.inr hb)))) λb hb=>hb,h3,h4⟩
 lt:=λj D W ⟨sc,h1,h2,h3,h4⟩ b hb=>by
  rcases(h4 b).1 hb with rfl|e
  .exact h1.lt
  exact(Qad h2 e).2
theorem Qgp{l:List Nm}(h:Qey w F G T s l)(hl:l.length<=1000) :
  Calls prog 20 #[Qao T,.slice s.a l.length s.c] w λe w'=>∃sc:Sl,e=.returned (.slice sc.a l.length sc.c)/\Rd w' (In w.heap.size w'.heap.size) 1 sc l.length ((QbD (Qe6 l) (Qaa T)).1.map (.int .i64))/\Nw w w':=by
 obtain⟨p,hp⟩:=Qaj T;obtain⟨I,N⟩:∃c,(QbD (Qe6 l) (Qaa T)).1=c:=⟨_,rfl⟩;have a3:I.length=l.length:=by
  have:=QgA (Qe6 l) (Qaa T) l.length (by rw[ar];exact an _);rwa[aV (by rw[ar];exact an _),N]at this
 obtain⟨i0,hi,b6,c2,b8⟩:=em Tryz.QjL;have c3:∀W,(Instr.makeSlice 58 (.int .i64 0) (.int .i64 (l.length:Int))).run prog W=.ok (.slice (some ⟨W,0,none⟩) 0 l.length) (W.alloc (.cells (madeCells (Value.int .i64 0).cells (l.length*i0.size)) 71)):=λW=>QbG (P:=prog) 58 71 i0 _ underlying58 hi b6 .i64 .i64 0 l.length (aH _) (by rw[b8];omega) oM W
 obtain⟨a1,HF,HG⟩:=Yc (λW (hW:Ext w W) B D0 (hB:w.heap.size+1<=B) h0 hD=>Qkp (h.ext (ft hW)) (Qoe (n:=w+1) (B:=B) (by rw[N,a3];exact hl) hB) (D0:=D0) h0 hD) h.old h.rowOld;have c1:=h.lib.lib.big;rw[Qao,hp,N]at a1;rw[Qao,hp];obtain⟨b9,b5⟩:=Yb a3 N;clear hp h N a3;go_in;go_upto_region 2 with fail;generalize a8:World.alloc _ _=W3;obtain⟨a2,c6,b4,a9,a6⟩:=Qal w _ _ _ _ _ _ W3 a8;have b0:QlL (w.heap.size+1) (w.heap.size+1+1) I 0 (λb=>b=w.heap.size+1+1\/some (w.heap.size+1)=some b) W3:=
  ⟨⟨some ⟨w+1,0,none⟩,l.length⟩,a6,⟨sM,.inr ⟨w+1,l.length,_,rfl,an _,a9,aH _,by unfold maxLen;omega,by rw [fg,cd],sM⟩⟩,fun e=>by
    have e:some (w.heap.size+1)=some (w.heap.size+1+1):=e;injection e with e;omega,λb=>Iff.rfl⟩
 have HC:=hY (a1.o W3 a2 (w.heap.size+1+1) _ oM b0 λb Z=>by
  have c4:w<=b:=by
   rcases Z with Z|Z
   .omega
   injection Z with Z;omega
  exact⟨oM,λe=>by have:=(HF.o b e).2;omega,λe=>by have:=HG.o b e;omega⟩)
 have q0:W3.cell? ⟨w,0,none⟩=some (.pointer p):=b4.cell 0;have b7:=hY a2;clear a8 a2 b4 a9 a6 b0;go_wp2_with fail;refine HC.o.mono ?_;rintro e w4 ⟨T',D,rfl,-,-,-,-,hS,b3,-,-⟩;obtain⟨p',a5⟩:=Qaj T';rw[Qao,a5];obtain⟨sc,a7,a0,-,-⟩:=hS;have q4:w4.cell? ⟨w+1+1,0,none⟩=some (.slice sc.a l.length sc.c):=a7.cell 0;obtain⟨a4,c0⟩:=Yb a0 b3;clear a7 a0 b3 q0 a5;go_wp2_with fail;go_ret;refine⟨sc,rfl,?_,(ft b7.o).comp c0.o λi hi e=>?_⟩
 ·have h:=fD a4.o
  rw[aV (by rw[b9.o];exact an _)]at h;rw[b5.o];exact h.mono λb Z=>⟨by have:=Z.1;omega,Z.2⟩
 rcases e with e|e
 .omega
 injection e with e;omega
def QtU:MuS:=⟨Sl.none,Sl.none,Sl.none,Sl.none,Sl.none⟩
theorem Tryz.QgB:(prog.info? 37).map (λi=>(i.zero,i.size,i.bytes))=some (some (Qaz (.mk 0 ByteArray.empty ByteArray.empty 0 false zeroV false zeroV []) QtU),19,264):=kM
theorem QhR{b:Nat}{T:TypeId}{m:Mu}(h:Blk w b T (Qa2 m c))(o n:Nat)(I:o+n<=19):w.there b o n:=λj N=>by
 refine⟨?_,h.frozen _⟩;rw[h.cell,ce (by rw[be,QfD];omega)];rfl
def Qi2(m:Mu)(w:World)(e:Ending)(w':World):Prop:=∃c',e=.returned (Qaz m c')/\Ext w w'/\RMu w' (In w.heap.size w'.heap.size) m c'
theorem QpO{wr W w9:World}{m:Mu}(h:Nw wr W)(N:Wr W w9 s2.row)(I:s7.a=s2.a\/s7.a=some ⟨W,0,none⟩/\Wr W w9 none)(hv:RMu wr (QlN n wr s2) m c):RMu w9 (QlN n w9 s7) m c:=by
 have h1:RMu W (QlN n wr s2) m c:=hv.agree (fC h λb Z=>Z.2.1);have h2:RMu w9 (QlN n wr s2) m c:=h1.agree (N.agree (λi hi=>ab hi.2.1 h.size) λk hk hF=>hF.2.2 hk);refine h2.mono λi hi=>⟨hi.1,ab hi.2.1 (am h.size N.grown.size),λe=>?_⟩
 rcases I with I |⟨I,-⟩
 .exact hi.2.2 (by unfold Sl.row at e ⊢;rwa[I]at e)
 unfold Sl.row at e;rw[I]at e;have e:some W.heap.size=some i:=e;injection e with e;have:=hi.2.1;have:=h.size;omega
variable{w6 w9:World}
theorem Qtu{m:Mu}(N:n<=w0)(hr:∀b,s2.row=some b->b<w0)(h:Nw w6 W)(Z:Wr W w9 s2.row)(hs:s7.a=s2.a\/s7.a=some ⟨W,0,none⟩/\Wr W w9 none)(hv:RMu w6 (In w0.heap.size w6.heap.size) m c):RMu w9 (QlN n w9 s7) m c:=
 QpO h Z hs (hv.mono λb I=>⟨Nat.le_trans N I.1,I.2,λe=>by have:=hr b e;have:=I.1;omega⟩)
theorem Qm5(n:Nat):∀(m:Mu) (c:MuS) (w:World),SizeOf.sizeOf m<=n->RMu w (Lt w) m c->Calls prog 33 #[Qaz m c] w (Qi2 m w):=by
 induction n with
 |zero=>intro m c w h;have:=Mu.Qb6 m;omega
 | succ n ih=>
   intro m c w hn hm;obtain⟨f4,i5,-,-,-⟩:=hm.parts;obtain⟨i0,hi,d0,d5,i2⟩:=em Tryz.QgB;have q3:=hm.len;obtain⟨k9,g9,HI,HM,HN⟩:=Yf (λW (hW:Ext w W)=>QdS _ _ (an _) W _ _ ((f4.agree (hW.agree λ_ h=>h)).mono (G:=Lt W) λb I=>ab I hW.size)) (λW (hW:Ext w W)=>QdS _ _ (an _) W _ _ ((i5.agree (hW.agree λ_ h=>h)).mono (G:=Lt W) λb I=>ab I hW.size)) ih hm hn;clear ih hm hn f4 i5;go_in;go_upto_region 1 with fail;generalize k2:World.alloc _ _=W0;obtain⟨j9,e0,b0,a3⟩:=Qas w _ _ _ _ W0 k2;have b0:Blk W0 w.heap.size 37 (Qa2 m c):=b0;obtain⟨-,-,-,-,-,c5,c6,c7,c8,c9,p2,-,-,-,-,-,-,-,-⟩:=(fB b0).c19;obtain⟨b6,f7,k3,l4⟩:=Ye j9 b0 a3 e0;clear k2 j9 b0 a3 e0;go_wp2_with fail;refine(k9.o _ b6.o).mono ?_;rintro e w1 ⟨sl,so,rfl,a9,i9⟩;have a3:=f7.o.ext a9;obtain⟨c4,g4,i1,k1,j1,j7⟩:=Yg (QhR a3 5 6 oN) a3 (k3.o.ext a9) (b6.o.trans a9) i9.rv a9.size;clear a3 a9 i9 c5 c6 c7 c8 c9 p2;go_wp2_with(refine eU rfl 34 (.tmp 9) (.tmp 8) rfl w.heap.size 5 #[.int .i64 m.was.kind,.bool m.was.b,.int .i64 m.was.i,.string m.was.t,.slice sl.a m.was.l.length sl.c,.slice so.a m.was.ok.length so.c] rfl rfl c4.o kM (by simp[Value.oneCell']) ?_;generalize f0:World.setCells _ _ _ _=v2;obtain⟨e7,i3,f5⟩:=Qp6 (m':=m) (c':=⟨sl,so,c.v1,c.v2,c.s⟩) g4.o f0 rfl;have f1:Ext w v2:=(by rw[<-f0];exact Ext.setCells (an _) _ _ k1.o);obtain⟨-,-,-,-,-,-,-,-,-,-,-,-,n4,n6,o1,q0,o7,p0,-⟩:=(fB e7).c19;have g0:=hY e7;have e6:=hY i3;have g8:=hY f5;have e1:=hY f1;clear f0 e7 i3 f5 f1);refine(g9.o _ e1.o).mono ?_;rintro e w3 ⟨Z,N,rfl,c2,l3⟩;have e3:=g0.o.ext c2;obtain⟨d4,j2,f3,f6,c1⟩:=Yf (QhR e3 12 6 oN) e3 (e1.o.trans c2) l3.rv c2;clear e3 c2 l3 n4 n6 o1 q0 o7 p0;go_wp2_with(refine eU rfl 34 (.tmp 13) (.tmp 12) rfl w.heap.size 12 #[.int .i64 m.v.kind,.bool m.v.b,.int .i64 m.v.i,.string m.v.t,.slice Z.a m.v.l.length Z.c,.slice N.a m.v.ok.length N.c] rfl rfl d4.o kM (by simp[Value.oneCell']) ?_;generalize d6:World.setCells _ _ _ _=v4;obtain⟨a0,l2,j4⟩:=Qp6 (m':=m) (c':=⟨sl,so,Z,N,c.s⟩) j2.o d6 rfl;have k6:Ext w v4:=(by rw[<-d6];exact Ext.setCells (an _) _ _ f3.o);have g5:v4.cell? ⟨w,0+18,none⟩=some (.slice c.s.a m.l.length c.s.c):=(fB a0) 18 _ rfl;have o8:=hY a0;have b7:=hY l2;have g7:=hY j4;have f2:=hY k6;clear d6 a0 l2 j4 k6);have e0:=l4.o;have z1:=j7.o;have z2:=g8.o;have z3:=c1.o.size;have z4:=g7.o;have q2:=b6.o.size;obtain⟨n9,p4,o5⟩:=Yc (show RV v4 (λb=>w+2<=b/\b<v4) m.was sl so from(((j1.o.agree (e6.o.mono λb I e=>by have:=I.1;omega)).agree (c1.o.agree λb I=>by have:=I.2;omega)).agree (b7.o.mono λb I e=>by have:=I.1;omega)).mono λb I=>⟨by have:=I.1;omega,by have:=I.2;omega⟩) (show RV v4 (λb=>w+2<=b/\b<v4) m.v Z N from(f6.o.agree (b7.o.mono λb I e=>by have:=I.1;omega)).mono λb I=>⟨by have:=I.1;omega,by have:=I.2;omega⟩) (show Blk v4 (w.heap.size+1) 37 _ from(b7.o _ oM).trans (((e6.o _ oM).trans i1.o) |>λh=>(c1.o.heap oM).trans h));clear j1 f6 f7 g4 g0 j2 e6 b7 k3 i1 k9 g9 b6 k1 e1 f3 c1 c4 d4 l4 g8 g7 j7;go_loopw[3,17] (λv3 p8 wr=>∃(j:Nat) (s2:Sl) (ys:List (Mu × MuS)),p8=.int .i64 (j:Int)/\v3=.slice s2.a ys.length s2.c/\j<=m.l.length/\Yd (ys.length=j)/\Yd (ys.map Prod.fst=m.l.take j)/\Yd (Ext v4 wr)/\Yd (wr.ownsRow v4.heap.size 37 19 (.slice s2.a ys.length s2.c) ys.length (ys.flatMap λp=>Qan p.1 p.2))/\Yd (∀y∈ys,RMu wr (QlN v4.heap.size wr s2) y.1 y.2)) (λ_ v _=>m.l.length -(intOf v).toNat)
   case atStart=>exact⟨0,Sl.none,[],rfl,rfl,aH _,hY rfl,hY rfl,hY (fr _),hY (ez _ _ _ _),hY λy h=>by cases h⟩
   obtain⟨j,s2,ys,rfl,rfl,hj,a4,HY,HX,a1,k4⟩:=hrel;by_cases j8:j<m.l.length
   ·have l1:(j:Int)<(m.l.length:Int):=oM
    have q7:decide ((j:Int)<(m.l.length:Int))=true:=dZ l1;have l0:(0:Int)<=(j:Int):=oM
    obtain⟨x,hx⟩:∃x,m.l[j]? = some x:=⟨_,ac j8⟩;obtain⟨b,o,y,l6,b8,q5,q6,c0,f9⟩:=HM.o.at hx;have b8:b<w:=b8;have b5:Ext w wr:=f2.o.trans HX.o;have q4:b<wr:=ab b8 b5.size;obtain⟨g6,d7,o4⟩:=Yc (c0.agree (b5.agree λ_ h=>h) b8) (λW (hW:Ext wr W)=>HI.o x y W (by have:=Mu.Qsr hx;have:=HN.o;omega) ((f9.agree ((b5.trans hW).agree λ_ h=>h)).mono λb I=>ab I (b5.trans hW).size)) (show m.l.take (j+1)=m.l.take j++[x]by rw[bf,hx];rfl);rw[l6];clear f9 c0 hx b5;go_wp2_with(first |(refine Qah rfl (.tmp 19) rfl b (o+j*19) rfl x y g6.o ?_) |(refine QiR rfl (.tmp 5) (.tmp 20) rfl x y (w0:=wr) (b:=wr) rfl ((fr wr).alloc _ _) (fu wr _ _) rfl rfl rfl ?_;intro w5 a8 i8;have a7:=hY a8;have p6:=hY (fB i8);clear a8 i8) |(refine Qah rfl (.tmp 5) rfl wr.heap.size 0 rfl x y p6.o ?_));refine(d7.o _ a7.o).mono ?_;rintro e w6 ⟨c',rfl,i6,f8⟩;have b4:=a7.o.trans i6;have e2:=(fr w6).alloc (Qa2 x c') 37;have n7:=hY (fu w6 37 (Qa2 x c'));have a2:Ext wr (w6.alloc (.cells (Qa2 x c') 37)):=b4.trans e2;obtain⟨d3,o2,q1,p7,k8,j5,n8⟩:=Yh a2 e2 b4 f8 a7.o.size (Qab (F:=Lt wr) a1.o (a2.agree λb I=>I) λb I=>(Qad a1.o I).2) (show ys.length+1<=maxLen by unfold maxLen;have:=a4.out;omega);obtain⟨o6,p9⟩:=Yb (show(ys.length+1)*264<=140737488355328 by have:=a4.out;omega) (show v4.heap.size<=(w6.alloc (.cells (Qa2 x c') 37)).heap.size from(HX.o.trans a2).size);clear i6 f8 b4 e2 a2;go_wp2_with(first |(refine QbT rfl 35 37 1 #[(0,.tmp 23)] rfl [Qaz x c'] 19 underlying35 hi d5 d0 oN rfl oN oN (λv hv=>by rw[aT.1 hv];rfl) rfl (Qa2 x c') rfl ?_) |(at_builtin;refine Qak _ rfl (.tmp 21) (.tmp 24) 35 rfl v4.heap.size 37 i0 _ 19 264 underlying35 hi d0 d5 i2 rfl oN s2 ys.length (ys.flatMap λp=>Qan p.1 p.2) rfl j5.o (λb=>b=w6.heap.size) ⟨some ⟨w6,0,none⟩,1⟩ 1 (Qan x c') rfl (fF n7.o oN rfl) (Qml (x,c')) n8.o o6.o p9.o ?_;intro s7 w9 b3 c3 j0;have p3:=hY b3;have e8:=hY c3;have k5:=hY j0;clear b3 c3 j0));go_roundw
    case measure=>simp[intOf];omega
    have l7:=λb (I:s2.row=some b)=>(Qad a1.o I)
    refine⟨j+1,s7,ys++[(x,c')],by go_num,by rw[aj];rfl,j8,hY (by rw[aj,a4.out];rfl),hY (by rw[aI,HY.o,o4.o];rfl),hY ?_,hY ?_,hY λz hz=>?_⟩
    .exact (HX.o.trans d3.o).wr e8.o λi hi=>(Qad j5.o hi).1
    ·rw [aj,aG,show [(x,c')].flatMap (fun p=>Qan p.1 p.2)=Qan x c' by simp]
     exact p3.o
    rcases aB.1 hz with hz|hz
    .exact QpO (ft d3.o) e8.o k5.o (k4.o z hz)
    rw[aT.1 hz];have:=k8.o;exact Qtu (w0:=w5) (by have:=HX.o.size;omega) (λb I=>by have:=(l7 b I).2;omega) (ft o2.o) e8.o k5.o p7.o
   obtain rfl:j=m.l.length:=oM
   have l1:decide ((m.l.length:Int)<(m.l.length:Int))=false:=dX oM;have a0:=o8.o.ext HX.o;have g5:wr.cell? ⟨w,18,none⟩=some _:=a0.cell 18;have o3:=a0.frozen 18;have lb:=a0.lt;have hy:=HY.o;rw[bc]at hy;obtain⟨p5,l8,o0⟩:=Yc hy a0 (o5.o.ext HX.o);clear a0 hy;rw[a4.out];go_upto_region 10 with fail;generalize a5:World.setCell _ _ _=w5;have j3:Blk w5 w.heap.size 37 (Qa2 m ⟨sl,so,Z,N,s2⟩):=by
    have:=l8.o.QbH 18 (.slice s2.a m.l.length s2.c);rw[a5]at this;exact this
   have a6:Agree (λb=>b≠w.heap.size) wr w5:=by rw[<-a5];exact fv wr ⟨w,18,none⟩ _ λh=>h rfl
   have a8:Ext w w5:=by rw[<-a5];exact(f2.o.trans HX.o).setCell (p:=⟨w,18,none⟩) (an _) _
   have g3:w5.heap.size=wr.heap.size:=by rw[<-a5];exact ed _ _ _
   have e4:Blk w5 (w.heap.size+1) 37 _:=(a6 _ oM).trans o0.o;obtain⟨k7,o9,p1,k0,a7,n2⟩:=Yg (Qe3 e4 (show 19<=_ by decide)) (fB j3) e4 a6 a8 g3;clear a5 j3 a6 a8 g3 e4 g5 o3;go_wp2_with(first |(refine Qah rfl (.tmp 1) rfl w.heap.size 0 rfl m ⟨sl,so,Z,N,s2⟩ o9.o ?_) |(refine eU rfl 37 (.tmp 2) (.tmp 29) rfl (w.heap.size+1) 0 (Qa2 m ⟨sl,so,Z,N,s2⟩) rfl rfl k7.o (by exact Tryz.Qem) (fb (Qml (m,⟨sl,so,Z,N,s2⟩))) ?_));generalize hV:World.setCells _ _ _ _=v;have l5:Blk v (w.heap.size+1) 37 (Qa2 m ⟨sl,so,Z,N,s2⟩):=Qjf p1.o rfl hV;have j6:Agree (λb=>b≠w.heap.size+1) w5 v/\v.heap.size=w5.heap.size:=by rw[<-hV];exact Qba _ _ _ _
   have l9:Ext w v:=by rw[<-hV];exact Ext.setCells (cu _) _ _ a7.o
   clear hV;refine ee (v:=Qaz m ⟨sl,so,Z,N,s2⟩) (results_cell_row (p:=2) (ty:=37) results33 _ v (w.heap.size+1) 37 _ (0,0) _ rfl l5 underlying37 rfl (by exact Tryz.Qem)) rfl ?_;have zx:=HX.o.size;have zs:=n2.o;have zf:=j6.2;have b9:Agree (λb=>w+2<=b) wr v:=λb I=>(j6.1 b oM).trans (k0.o b oM)
   obtain⟨bl,fl,d8,c0⟩:=QuJ a1.o rfl;have i4:∀b,v4<=b->b<wr->In w.heap.size v.heap.size b:=λb h1 h2=>⟨oM,oM⟩
   have i7:∀k x,m.l[k]? = some x->∃p:Mu × MuS,ys[k]? = some p/\p.1=x:=λk x hx=>by
    rw[<-p5.o,aq]at hx;cases hp:ys[k]? with
    |none=>rw[hp]at hx;cases hx
    |some p=>rw[hp]at hx;injection hx with hx;exact⟨p,hp,hx⟩
   refine⟨_,rfl,l9,HM.o.mk' (bl:=bl) (fl:=fl) (cl:=λk=>((ys[k]?).getD default).2) ?_ ?_ ?_ (λk x hx=>?_) λk x hx=>?_⟩
   .exact ((n9.o.agree (HX.o.agree λb I=>I.2)).agree (b9.mono λb I=>I.1)).mono λb I=>⟨by have:=I.1;omega,by have:=I.2;omega⟩
   .exact ((p4.o.agree (HX.o.agree λb I=>I.2)).agree (b9.mono λb I=>I.1)).mono λb I=>⟨by have:=I.1;omega,by have:=I.2;omega⟩
   ·have:=a4.out
    rw[this]at d8;exact d8.mono λb I=>i4 b I.1 I.2
   ·obtain ⟨p,hp,rfl⟩:=i7 k x hx
    simp only[hp];exact(c0 k p hp).agree (F:=λb=>v4<=b) (b9.mono λb I=>oM) (d8.fits (QaW hp)).1
   obtain⟨p,hp,rfl⟩:=i7 k x hx;simp only[hp];exact((k4.o p (ak hp)).agree (b9.mono λb I=>by have:=I.1;omega)).mono λb I=>i4 b I.1 I.2.1
theorem QoS{m:Mu}(h:RMu w (Lt w) m c):Calls prog 33 #[Qaz m c] w (Qi2 m w):=Qm5 _ m c w (an _) h
abbrev Qd6(ys:List (Nm × MuS)):List Value:=ys.flatMap λp=>Qbw p.1 p.2
theorem QjD(a b:List (Nm × MuS)):Qd6 (a++b)=Qd6 a++Qd6 b:=aG
theorem Qun{last:Int}{x:Nm}{y:MuS}(hB:Blk w B 22 #[.int .u64 last]):Calls prog 32 #[QqR x y,.pointer (some ⟨B,0,none⟩)] w λe w'=>e=.returned (.bool (decide (last<x.id)))/\Ext w w':=by
 have HB:=hY hB;clear hB;go_in;go_upto_region 1 with fail;generalize N:World.alloc _ _=W0;have I:Ext w W0:=by rw[<-N];exact(fr w).alloc _ _
 have Z:Blk W0 w.heap.size 39 (Qh5 x y):=by rw[<-N];exact fu w _ _
 have c0:W0.cell? ⟨w,0,none⟩=some (.int .u64 x.id):=(NmC.Qax Z).id;have c1:W0.cell? ⟨B,0,none⟩=some (.int .u64 last):=(HB.o.ext I).cell 0;have a0:=hY I;clear N I Z;go_wp2_with fail;go_ret;exact⟨rfl,a0.o⟩
theorem Qmf{last:Int}{l:List Nm}{x:Nm}(h:l[j]? = some x):QbK last (l.take (j+1))=if last<x.id then QbK last (l.take j)++[x]else QbK last (l.take j):=by
 rw[bf,h];exact Qnq _ _ _
theorem Qrl{l:List Nm}{last:Int}(hr:Qa7 w F s l)(hF:∀b,F b->b<w)(hB:Blk w B 22 #[.int .u64 last]) :
  Calls prog 31 #[.slice s.a l.length s.c,.func (.func 32) #[] #[.pointer (some ⟨B,0,none⟩)]] w λe w'=>∃(s':Sl) (ys:List (Nm × MuS)),e=.returned (.slice s'.a ys.length s'.c)/\Ext w w'/\ys.map Prod.fst=QbK last l/\w'.ownsRow w.heap.size 39 20 (.slice s'.a ys.length s'.c) ys.length (Qd6 ys)/\∀y∈ys,RMu w F y.1.m y.2:=by
 obtain⟨i0,hi,c2,b0,c7⟩:=em Tryz.Qcz;have e2:=hr.len;obtain⟨HR,HF,HB⟩:=Yc hr hF hB;clear hr hF hB;go_in;go_wp2_with fail;go_loopw[5,10] (λv5 d8 wr=>∃(j:Nat) (s2:Sl) (ys:List (Nm × MuS)),d8=.int .i64 (j:Int)/\v5=.slice s2.a ys.length s2.c/\j<=l.length/\ys.length<=j/\Yd (ys.map Prod.fst=QbK last (l.take j))/\Yd (Ext w wr)/\Yd (wr.ownsRow w.heap.size 39 20 (.slice s2.a ys.length s2.c) ys.length (Qd6 ys))/\Yd (∀y∈ys,RMu w F y.1.m y.2)) (λ_ v _=>l.length -(intOf v).toNat)
 case atStart=>exact⟨0,Sl.none,[],rfl,rfl,aH _,an _,hY rfl,hY (fr _),hY (ez _ _ _ _),hY λy h=>by cases h⟩
 obtain⟨j,s2,ys,rfl,rfl,hj,c0,HY,HX,I,a6⟩:=hrel;by_cases a5:j<l.length
 ·have l1:(j:Int)<(l.length:Int):=oM
  have e3:decide ((j:Int)<(l.length:Int))=true:=dZ l1;have l0:(0:Int)<=(j:Int):=oM
  obtain⟨x,hx⟩:∃x,l[j]? = some x:=⟨_,ac a5⟩;obtain⟨b,o,y,c6,b9,e7,e1,c3,b6⟩:=HR.o.at hx;have b7:Agree F w wr:=HX.o.agree HF.o;have a3:=hY (c3.agree b7 b9);have e6:=a3.o.lt;obtain⟨d0,b8⟩:=Yb b6 (Qmf (last:=last) hx);rw[c6];clear c3 b6 b7 hx b9;go_wp2_with(first |(refine QjZ rfl (.tmp 12) rfl b (o+j*20) rfl x y a3.o ?_) |(refine Qsz rfl rfl rfl x y (w0:=wr) (b:=wr) rfl ((fr wr).alloc _ _) (fu wr _ _) rfl rfl rfl ?_;intro w5 b5 a8;have b4:=hY b5;have c1:=hY (NmC.Qax a8);clear b5 a8) |(refine QjZ rfl (.tmp 7) rfl wr.heap.size 0 rfl x y c1.o ?_));refine(Qun (HB.o.ext (HX.o.trans b4.o))).mono ?_;rintro e w6 ⟨rfl,a7⟩;obtain⟨a1,c8⟩:=Yb (b4.o.trans a7) (c1.o.ext a7);clear a7;by_cases hk:last<x.id
  ·have g:decide (last<x.id)=true:=dZ hk
   have N:=b8.o;rw[dY hk]at N;have HA:=hY N;have a4:=(fr w6).alloc (Qh5 x y) 39;obtain⟨d4,d6⟩:=Yb (fu w6 39 (Qh5 x y)) a4;have a0:Ext wr (w6.alloc (.cells (Qh5 x y) 39)):=a1.o.trans a4;obtain⟨b3,d5,c4,e0⟩:=Ye (Qab (F:=Lt wr) I.o (a0.agree λb hb=>hb) λb hb=>(Qad I.o hb).2) (show ys.length+1<=maxLen by unfold maxLen;omega) (show(ys.length+1)*272<=140737488355328 by omega) (show w.heap.size<=(w6.alloc (.cells (Qh5 x y) 39)).heap.size from(HX.o.trans a0).size);rw[g];clear hk g N a4 a0;go_wp2_with(first |(refine QjZ rfl (.tmp 7) rfl wr.heap.size 0 rfl x y c8.o ?_) |(refine QbT rfl 23 39 1 #[(0,.tmp 18)] rfl [QqR x y] 20 underlying23 hi b0 c2 oN rfl oN oN (λv hv=>by rw[aT.1 hv];rfl) rfl (Qh5 x y) rfl ?_) |(at_builtin;refine Qak _ rfl (.tmp 17) (.tmp 19) 23 rfl w.heap.size 39 i0 _ 20 272 underlying23 hi c2 b0 c7 rfl oN s2 ys.length (Qd6 ys) rfl b3.o (λb=>b=w6.heap.size) ⟨some ⟨w6,0,none⟩,1⟩ 1 (Qbw x y) rfl (fF d4.o oN rfl) (Qtw (x,y)) d5.o c4.o e0.o ?_;intro s7 w9 Z a2 a9;have c9:=hY Z;have d7:=hY a2;have e4:=hY a9;clear Z a2 a9));go_roundw
   case measure=>simp[intOf];omega
   refine⟨j+1,s7,ys++[(x,y)],by go_num,by rw[aj];rfl,a5,by rw[aj];exact Nat.succ_le_succ c0,hY (by rw[aI,HY.o,HA.o];rfl),hY ?_,hY ?_,hY λz hz=>?_⟩
   .exact ((HX.o.trans a1.o).trans d6.o).wr d7.o λi hi=>(Qad b3.o hi).1
   ·rw [aj,QjD,show Qd6 [(x,y)]=Qbw x y by simp [Qd6]]
    exact c9.o
   rcases aB.1 hz with hz|hz
   .exact a6.o z hz
   rw[aT.1 hz];exact d0.o
  have g:decide (last<x.id)=false:=dX hk;have N:=b8.o;rw[dV hk]at N;have HA:=hY N;rw[g];clear hk g N;go_wp2_with fail;go_roundw
  case measure=>simp[intOf];omega
  exact⟨j+1,s2,ys,by go_num,rfl,a5,dM c0,hY (by rw[HA.o];exact HY.o),hY (HX.o.trans a1.o),hY (Qab (F:=Lt wr) I.o (a1.o.agree λb hb=>hb) λb hb=>(Qad I.o hb).2),a6⟩
 obtain rfl:j=l.length:=oM
 have l1:decide ((l.length:Int)<(l.length:Int))=false:=dX oM;have hy:=HY.o;rw[bc]at hy;have d3:=hY hy;clear hy;go_wp2_with fail;go_ret;exact⟨s2,ys,rfl,HX.o,d3.o,I.o,a6.o⟩
variable{cs:List Value}
theorem Qp4{base e size n:Nat}(h:w.ownsRow base e size (.slice s.a n s.c) n cs)(hn:0<n):∃g I,s.a=some ⟨g,0,none⟩/\base<=g/\Blk w g e I/\n*size<=I.size/\n<=s.c/\s.c<=maxLen:=by
 rcases h.2 with⟨Z,h0⟩ |⟨g,cap,I,Z,a0,hg,N,a2,a1,ht⟩
 .omega
 simp only[Value.slice.injEq]at Z;obtain⟨h1,-,h2⟩:=Z;subst h2;exact⟨g,I,h1,a0,hg,by rw[a1];exact bV _ N,N,a2⟩
structure Qos(w:World)(F:Nat->Prop)(g:Nat)(L:List Nm)(j:Nat)(cc:Nat->MuS)(wr:World):Prop where
 x:Ext w wr
 blk:0<L.length->∃cur,Blk wr g 39 cur/\L.length*20<=cur.size
 cells:∀k x,L[k]? = some x->NmC wr g (k*20) x (cc k)
 new:∀k x,k<j->L[k]? = some x->RMu wr (λb=>w.heap.size<=b/\b<wr.heap.size/\b≠g) x.m (cc k)
 old:∀k x,j<=k->L[k]? = some x->RMu w F x.m (cc k)
variable{c':MuS}
theorem Qos.step{w wr W:World}{L:List Nm}{cc:Nat->MuS}(h:Qos w F g L j cc wr)(hg:w<=g){x:Nm}(hx:L[j]? = some x)(k:Ext wr W)(hr:RMu W (In wr.heap.size W.heap.size) x.m c') :
  Qos w F g L (j+1) (λi=>if i=j then c' else cc i) (W.setCells g (j*20+1) (Qan x.m c')):=by
 have b0:j<L.length:=(ae.1 hx).1;obtain⟨a8,I,hc⟩:=h.blk oM;have a9:=I.lt;have a1:=I.ext k;have a6:W.there g (j*20+1) (Qan x.m c').length:=λi hi=>by
  rw[QfD]at hi;refine⟨?_,a1.frozen _⟩;rw[a1.cell,ce oM];rfl
 have a7:=fe W g (j*20+1) (Qan x.m c') a6;have a0:∀o',(o'<j*20+1\/j*20+20<=o')->(W.setCells g (j*20+1) (Qan x.m c')).cell? ⟨g,o',none⟩=W.cell? ⟨g,o',none⟩:=λo' ho=>by
  rw[World.cell?_setCells_out g _ _ _ _ (λ_ _=>by rw[QfD];show o'<j*20+1\/j*20+1+19<=o';omega)]
 have a5:Agree (λb=>b≠g) W (W.setCells g (j*20+1) (Qan x.m c')):=(Qba g (Qan x.m c') (j*20+1) W).1;have a4:(W.setCells g (j*20+1) (Qan x.m c')).heap.size=W.heap.size:=(Qba g (Qan x.m c') (j*20+1) W).2;refine⟨Ext.setCells hg _ _ (h.x.trans k),?_,λi y Z=>?_,λi y hi Z=>?_,λi y hi Z=>?_⟩
 ·obtain ⟨a2,h1,h2⟩:=Qcv (Qan x.m c') (j*20+1) a1
  exactλ_=>⟨a2,h1,by rw[h2];exact hc⟩
 ·have a3:=(h.cells i y Z).ext k
  by_cases N:i=j
  ·subst N
   obtain rfl:x=y:=by rw[hx]at Z;injection Z
   simp only[if_pos];intro q u hu;cases q with
   |zero=>rw[a0 _ (.inl oM)];exact a3 0 u (by simpa[Qbw]using hu)
   | succ q=>
     have:=a7 q u (by simpa[Qbw]using hu);rwa[show i*20+(q+1)=i*20+1+q by omega]
  simp only[if_neg N];intro q u hu;have hq:q<20:=by have:=(ae.1 hu).1;rwa[Qtp]at this
  rw[a0 _ oM];exact a3 q u hu
 ·by_cases N:i=j
  ·subst N
   obtain rfl:x=y:=by rw[hx]at Z;injection Z
   simp only[if_pos];exact(hr.agree (a5.mono λb I e=>by have:=I.1;omega)).mono λb I=>⟨by have:=I.1;have:=h.x.size;omega,by rw[a4];exact I.2,λe=>by have:=I.1;omega⟩
  simp only[if_neg N];have h1:=h.new i y oM Z;exact((h1.agree (k.agree λb I=>I.2.1)).agree (a5.mono λb I=>I.2.2)).mono λb I=>⟨I.1,by rw[a4];exact ab I.2.1 k.size,I.2.2⟩
 rw[dV oM];exact h.old i y oM Z
theorem Qfk{l:List Nm}{last:Int}(hr:Qa7 w F s l)(hF:∀b,F b->b<w) :
  Calls prog 12 #[.int .u64 last,.slice s.a l.length s.c] w λe w'=>∃s':Sl,e=.returned (.slice s'.a (QbK last l).length s'.c)/\Ext w w'/\Qa7 w' (In w.heap.size w'.heap.size) s' (QbK last l):=by
 have d7:=hr.len;have d5:=QgH last l;obtain⟨c2,HG,HF⟩:=Yc (show ∀n∈QbK last l,(Lit.int .u64 n.id).wf=true fromλn hn=>hr.wf n (bZ.1 hn).1) (λW (hW:Ext w W) B hB=>Qrl (B:=B) (last:=last) (hr.ext hW hF) (λb hb=>ab (hF b hb) hW.size) hB) hF;obtain⟨L,hL⟩:∃L,QbK last l=L:=⟨_,rfl⟩;rw[hL]at d5 c2 HG ⊢;clear hr hF hL;go_in;go_upto_region 1 with fail;generalize c1:World.alloc _ _=W0;obtain⟨a9,c0,e3⟩:=Qb2 c1;obtain⟨a7,HC⟩:=Yb a9 (HG.o W0 a9 _ c0);clear c1 a9 c0;go_wp2_with fail;refine HC.o.mono ?_;rintro e w1 ⟨s1,ys,rfl,b8,a8,a0,c3⟩;have N:ys.length=L.length:=by rw[<-a8,ar]
 obtain⟨bl,fl,a3,b9⟩:=QuK a0 rfl;have z0:=a7.o.size;have a2:0<L.length->s1.a=some ⟨bl,0,none⟩/\w<=bl/\L.length<=s1.c/\s1.c<=maxLen/\fl=0/\∃Z,Blk w1 bl 39 Z/\L.length*20<=Z.size:=λh0=>by
  obtain⟨g,Z,h1,h2,h3,h4,h5,h6⟩:=Qp4 a0 (by rw[N];exact h0);obtain⟨e1,-,-⟩:=a3.eq (by rw[N];exact h0);have e1:s1.a=some ⟨bl,fl,none⟩:=e1;rw[h1]at e1;injection e1 with e1;injection e1 with e1 e2;subst e1 e2;rw[N]at h4 h5;exact⟨h1,oM,h5,h6,rfl,Z,h3,h4⟩
 have hM:Qos w F bl L 0 (λk=>((ys[k]?).getD default).2) w1:=by
  have c4:∀k x,L[k]? = some x->∃p:Nm × MuS,ys[k]? = some p/\p.1=x:=λk x I=>by
   rw[<-a8,aq]at I;cases hp:ys[k]? with
   |none=>rw[hp]at I;cases I
   |some p=>rw[hp]at I;injection I with I;exact⟨p,hp,I⟩
  refine⟨a7.o.trans b8,λh0=>(a2 h0).2.2.2.2.2,λk x I=>?_,λk x h0=>absurd h0 (Nat.not_lt_zero k),λk x _ I=>?_⟩
  ·obtain ⟨p,hp,rfl⟩:=c4 k x I
   have h1:=b9 k p hp;rw[(a2 (QaW I)).2.2.2.2.1,aC]at h1;simp only[hp];exact h1
  obtain⟨p,hp,rfl⟩:=c4 k x I;simp only[hp];exact(c3 p (ak hp)).agree λb hb=>(a7.o.heap (HF.o b hb)).symm
 obtain⟨HM,b3⟩:=Yb hM a2;rw[N]at a3 ⊢;have d4:=hY a3;clear b8 a8 a0 c3 N a3 b9 a2 hM;go_wp2_with fail;go_loopw[12] (λv wr=>∃(j:Nat) (cc:Nat->MuS),v=.int .i64 (j:Int)/\j<=L.length/\w1.heap.size<=wr.heap.size/\Yd (Qos w F bl L j cc wr)) (λv _=>L.length -(intOf v).toNat)
 case atStart=>exact⟨0,_,rfl,aH _,an _,HM⟩
 obtain⟨j,cc,rfl,hj,e4,HL⟩:=hrel;by_cases b6:j<L.length
 ·have l1:(j:Int)<(L.length:Int):=oM
  have e0:decide ((j:Int)<(L.length:Int))=true:=dZ l1;have l0:(0:Int)<=(j:Int):=oM
  obtain⟨x,I⟩:∃x,L[j]? = some x:=⟨_,ac b6⟩;obtain⟨c7,b5,e6,d6,-,-⟩:=b3.o oM;have a4:=hY (HL.o.cells j x I).mu;have b7:=HL.o.old j x (an _) I;obtain⟨c6,d3,c9⟩:=Yc (QoS ((b7.agree (HL.o.x.agree HF.o)).mono (G:=Lt wr) λb hb=>ab (HF.o b hb) HL.o.x.size)) I b5;have d8:=a4.o.lt;rw[c7];clear b7 I b5;go_wp2_with(refine Qah rfl (.tmp 20) rfl bl (j*20+1) rfl x.m (cc j) a4.o ?_);refine c6.o.mono ?_;rintro e w5 ⟨c',rfl,a1,b4⟩;have a5:=HL.o.step c9.o d3.o a1 b4;have a6:=hY a5;have b0:w5.there bl (j*20+1) 19:=by
   obtain⟨Z,h1,h2⟩:=HL.o.blk oM;have h3:=h1.ext a1;intro i hi;refine⟨?_,h3.frozen _⟩;rw[h3.cell,ce oM];rfl
  have d0:=hY b0;have e7:=a1.size;clear a1 b4 a5 b0;go_wp2_with(refine QnZ rfl (.tmp 24) (.tmp 22) rfl bl (j*20+1) x.m c' d0.o rfl rfl ?_;generalize hV:World.setCells _ _ _ _=v;rw[hV]at a6;have c8:=hY (show v.heap.size=w5.heap.size from(by rw[<-hV];exact(Qba _ _ _ _).2));clear hV);go_roundw
  case measure=>simp[intOf];omega
  exact⟨j+1,_,by go_num,b6,by have:=c8.o;omega,a6⟩
 obtain rfl:j=L.length:=oM
 have l1:decide ((L.length:Int)<(L.length:Int))=false:=dX oM;go_wp2_with fail;go_ret;exact⟨s1,rfl,HL.o.x,⟨bl,fl,cc,d4.o.mono λb hb=>⟨by have:=hb.1;omega,by have:=hb.2;omega⟩,λk x I=>by rw[(b3.o (QaW I)).2.2.2.2.1,aC];exact HL.o.cells k x I,λk x I=>(HL.o.new k x (ae.1 I).1 I).mono λb hb=>⟨hb.1,hb.2.1⟩⟩,c2.o,oM⟩
end Go.Proofs.YtdiecmkpbadgjaaGreatDoor
