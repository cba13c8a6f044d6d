/- Steps to the theorem. -/
import Derived.Test.YtahhllcdbjbpbaaGreatDoorPqa
set_option linter.all false
set_option maxRecDepth 100000
set_option maxHeartbeats 2000000
namespace Go.Proofs.YtahhllcdbjbpbaaGreatDoor
open Go.Proofs.Tryz
open Go.RowKit
variable{w:AB}{F:Nat->Prop}{h:Nat}{s:Sl}
def Rd.EB{ks:List (PT h)}(hr:Rd w F 1 s ks.length (ptrs h ks)){i:Nat}{k:PT h}(I:ks[i]? = some k) :
  ∃b o,s.a=some ⟨b,o,none⟩/\F b/\ks.length<=s.c/\s.c<=maxLen/\w.cell? ⟨b,o+i,none⟩=some (ptr h k):=by
 obtain⟨b,o,h1,h2,h3⟩:=hr;have hi:i<ks.length:=(ai.1 I).1;obtain⟨N,e2,Z⟩:=h1.eq oM;exact⟨b,o,N,h1.fits oM,e2,Z,h3 i _ (by rw[ptrs,ar,I];rfl)⟩
def nS(w:AB)(a b c:Nat):(w.drewN (a+b)).drewN c=w.drewN (a+(b+c)):=by rw[World.drewN_drewN,bH]
variable{G:Nat->Prop}
def WB{t u:PT h}(N:AJ w F h t)(hu:AJ w G h u):Calls prog 90 #[ptr h t,ptr h u] w λe w'=>e=.returned (.bool (klt (BZ (ents h t)) (Az (ents h u))))/\∃q,w'=w.drewN q:=by
 obtain⟨-,se,sk,ne,nk,-,Z⟩:=N.cells;obtain⟨-,-,-,-,-,h5,-⟩:=Z.c7;obtain⟨-,a0,a2,a1,a3,-,I⟩:=hu.cells;obtain⟨-,-,-,-,h4,-,-⟩:=I.c7;clear Z I N hu;go_in;go_wp2_with fail;go_quiet (fail);go_wp2;go_ret;exact⟨rfl,_,rfl⟩
def Ew(h:Nat)(ks:List (PT h)):Prop:=∀i x y,ks[i]? = some x->ks[i+1]? = some y->klt (BZ (ents h x)) (Az (ents h y))=true
def Ew.take{xs:List (PT h)}(Z:Ew h xs)(m:Nat):Ew h (xs.take m):=λi x y N I=>by
 rw[bv]at N I;split at N<;>split at I
 .exact Z i x y N I
 all_goals first|cases N|cases I
def Ew.drop{xs:List (PT h)}(Z:Ew h xs)(m:Nat):Ew h (xs.drop m):=λi x y N I=>by
 rw[bm]at N I;exact Z _ x y N I
def Yq{ks:List (PT h)}(hs:Rd w F 1 s ks.length (ptrs h ks))(hk:∀k∈ks,AJ w F h k)(hr:Ew h ks)(hn:ks.length<=1000) :
  Calls prog 89 #[.slice s.a ks.length s.c,.func (.func 90) #[] #[]] w λe w'=>e=.returned true/\∃q,w'=w.drewN q:=by
 obtain⟨HS,HR,HK⟩:=Yc hs hr hk;clear hs hr hk;go_in;go_wp2_with fail;go_loopw[5] (λq wr=>∃m:Nat,(m+1<=ks.length\/m=0)/\q=.int .i64 ((m:Int)+1)/\∃q,wr=w.drewN q) (λq _=>ks.length -(intOf q).toNat)
 case atStart=>exact⟨0,.inr rfl,rfl,0,rfl⟩
 obtain⟨m,hj,rfl,qq,rfl⟩:=hrel;by_cases a4:m+1<ks.length
 ·obtain ⟨x,I⟩:∃ x,ks[m]? = some x:=⟨_,ac oM⟩
  obtain⟨y,N⟩:∃y,ks[m+1]? = some y:=⟨_,ac a4⟩;obtain⟨b,o,ha,a9,a5,a7,a1⟩:=HS.o.EB I;obtain⟨b',o',Z,-,-,-,a2⟩:=HS.o.EB N;rw[ha]at Z;simp only[Option.some.injEq,Addr.mk.injEq,and_true]at Z;obtain⟨rfl,rfl⟩:=Z;have c0:w.cell? ⟨b,o+m,none⟩=some (ptr h x):=a1;have c1:w.cell? ⟨b,o+(m+1),none⟩=some (ptr h y):=a2;have hc:=λW (e:∃q,W=w.drewN q)=>WB (w:=W) (((HK.o x (ap I)).agree (F:=F) (by obtain⟨q,rfl⟩:=e;exact Agree.drewN w q))) (((HK.o y (ap N)).agree (F:=F) (by obtain⟨q,rfl⟩:=e;exact Agree.drewN w q)))
  have a0:=HR.o m x y I N;obtain⟨a3,HC⟩:=Yb a0 hc;rw[ha];have b3:(m:Int)+1<(ks.length:Int):=oM
  have b0:(m:Int)<(ks.length:Int):=oM
  have b4:IntKind.i64.wrap (m:Int)=(m:Int):=by rw[eS];omega
  have a6:(0:Int)<=(m:Int)+1:=oM
  have a8:((m:Int)+1).toNat=m+1:=oM
  clear I N a1 a2 ha a0 hc;go_wp2_with fail;go_quiet ((go_at_call 90;refine(HC.o _ ⟨_,rfl⟩).mono ?_;rw[a3.o];rintro e w2 ⟨rfl,q2,rfl⟩;exact⟨rfl,_,nS ..⟩));go_wp2_with fail;go_roundw
  case rel=>exact⟨m+1,.inl oM,by go_num,_,rfl⟩
  simp[intOf];omega
 go_wp2_with fail;go_ret;exact⟨rfl,_,rfl⟩
def Rd.one(w:AB)(t:TypeId)(u:Value):Rd (w.alloc (.cells #[u] t)) (λ_=>True) 1 ⟨some w,1⟩ 1 [u]:=
 ⟨w,0,.some _ _ _ _ (ao _) oN trivial,rfl,λj v I=>by rw[(gB w t #[u]).cell];simpa using I⟩
def cnt(h:Nat)(ks:List (PT h)):Nat:=(ks.flatMap (ents h)).length
def EQ(h:Nat)(ks:List (PT h)):Bool:=ks.any λk=>thin h k||decide (size h k<4)
variable{j:Nat}
def X3{ks:List (PT h)}{k:PT h}(I:ks[j]? = some k):cnt h (ks.take (j+1))=cnt h (ks.take j)+(ents h k).length:=by
 rw[cnt,aK,I];simp[cnt]
def Ya{ks:List (PT h)}{k:PT h}(I:ks[j]? = some k):EQ h (ks.take (j+1))=(EQ h (ks.take j) ||(thin h k||decide (size h k<4))):=by
 rw[EQ,aK,I];simp[EQ]
def Ur(h:Nat)(ks:List (PT h))(j:Nat):cnt h (ks.take j)<=cnt h ks:=by
 have:cnt h ks=cnt h (ks.take j)+cnt h (ks.drop j):=by
  simp only[cnt];rw[<-aj,<-aT,aX]
 omega
def XO(h:Nat)(t:PT h):(!Fi h t)=(thin h t||decide (size h t<4)):=by
 unfold Fi;cases thin h t
 ·simp
  by_cases h:4<=size h t
  .simp [h]
  simp[h];omega
 simp
def Lf(h:Nat)(ks:List (PT h))(j:Nat):ptrs h (ks.take j)=(ptrs h ks).take j:=by simp[ptrs,List.map_take]
def jL{a b:List AD}(h:0<a.length):Az (a++b)=Az a:=by
 cases a with
 |nil=>simp at h
 |cons x xs=>rfl
def pF{a b:List AD}(h:0<b.length):BZ (a++b)=BZ b:=by
 unfold BZ;rw[List.getLast?_append];cases I:b.getLast? with
 |none=>rw[cZ.1 I]at h;simp at h
 |some x=>rfl
def kV{h a:Nat}{ks:List (PT h)}{k:PT h}(I:ks[0]? = some k)(N:0<(ents h k).length):Az (ents (h+1) (a,ks))=Az (ents h k):=by
 cases ks with
 |nil=>simp at I
 | cons x xs=>
   simp at I;subst I;show Az ((x::xs).flatMap (ents h))=_;rw[bc,jL N]
def gR{h a:Nat}{ks:List (PT h)}{k:PT h}(N:ks[ks.length-1]? = some k)(I:0<(ents h k).length):BZ (ents (h+1) (a,ks))=BZ (ents h k):=by
 have e:ks=ks.dropLast++[k]:=by
  have:ks.getLast? = some k:=by rw[List.getLast?_eq_getElem?];exact N
  obtain⟨ys,rfl⟩:=List.getLast?_eq_some_iff.1 this;simp
 show BZ (ks.flatMap (ents h))=_;rw[e,aT,pF (by simpa using I)];simp
abbrev Up(F:Nat->Prop)(w w':AB):Nat->Prop:=λb=>F b\/(w.heap.size<=b/\b<w'.heap.size)
def iK(F:Nat->Prop)(h:Nat)(ks:List (PT h))(w:AB)(e:AC)(w':AB):Prop:=
 ∃a:Nat,e=.returned (.tuple #[.pointer (some ⟨a,0,none⟩),.int .i64 0])/\w.heap.size<=a/\AJ w' (Up F w w') (h+1) (a,ks)/\Ext w w'
def YW{ks:List (PT h)}(hF:∀b,F b->b<w.heap.size)(hs:Rd w (Lt w) 1 s ks.length (ptrs h ks))(hk:∀k∈ks,AJ w F h k)(hr:Ew h ks)
  (h2:2<=ks.length) (h8:ks.length<=8) (b7:∀k∈ks,0<(ents h k).length) (f5:∀k∈ks,size h k<=1000) (q3:cnt h ks<=1000000000) (hh:h<=1000000000) :
  Calls prog 58 #[.slice s.a ks.length s.c] w (iK F h ks w):=by
 obtain⟨i0,hi,i7,k4,j0⟩:=eZ Tryz.Ec;obtain⟨HS,HK,HR,HF,HP,HZ⟩:=Yg hs hk hr hF b7 f5;have g1:¬(ks.length:Int)<2:=oM
 have o0:decide ((ks.length:Int)<2)=false:=by simp;omega
 have g2:¬(8:Int)<(ks.length:Int):=oM
 have o2:decide ((8:Int)<(ks.length:Int))=false:=by simp;omega
 obtain⟨k0,b0⟩:∃x,ks[0]? = some x:=⟨_,ac oM⟩;obtain⟨b,o,ha,d3,l5,o8,c9⟩:=HS.o.EB b0;have g6:=Dw (HK.o k0 (ap b0));obtain⟨HA,d7⟩:=Yb ha b0;rw[cA]at c9;have k1:=hY c9;have n9:(0:Int)<(ks.length:Int):=oM
 rw[ha];clear hs hk hr hF b7 f5 ha b0;go_in;go_wp2_with fail;refine g6.mono ?_;rintro e w1 ⟨rfl,rfl⟩;go_wp2_with fail;have f9:Ext w (w.alloc (.cells #[.slice none 0 0,.slice none 0 0,.int .i64 ((h:Int)+1),.int .i64 0,ByteArray.empty,ByteArray.empty,false] 138)):=(gz w).alloc _ _;go_loopw[24] (λq wr=>∃(j:Nat) (Z:Sl),j<=ks.length/\q=.int .i64 j/\Ext w wr/\AE wr w.heap.size 138 #[.slice none 0 0,.slice Z.a j Z.c,.int .i64 ((h:Int)+1),.int .i64 (cnt h (ks.take j)),.string ByteArray.empty,.string ByteArray.empty,.bool (EQ h (ks.take j))]/\
   wr.ownsRow (w.heap.size+1) 34 1 (.slice Z.a j Z.c) j (ptrs h (ks.take j))) (λq _=>ks.length -(intOf q).toNat)
 case atStart=>exact⟨0,Sl.none,aw _,rfl,f9,gB _ _ _,e9 _ _ _ _⟩
 clear f9 g6 c9;obtain⟨j,Z,hj,rfl,hx,hb,I⟩:=hrel;by_cases j1:j<ks.length
 ·obtain ⟨k,a2⟩:∃ x,ks[j]? = some x:=⟨_,ac j1⟩
  obtain⟨b',o',a1,-,-,-,i2⟩:=HS.o.EB a2;rw[HA.o]at a1;simp only[Option.some.injEq,Addr.mk.injEq,and_true]at a1;obtain⟨rfl,rfl⟩:=a1;have c6:=ap a2;have N:Agree F w wr:=hx.agree λi h=>HF.o i h
  have vk:=(hx.cell d3).trans i2;have a6:=(HK.o k c6).agree N;obtain⟨d4,se,p9,ne,nk,p8,d0⟩:=a6.cells;obtain⟨e0,e1,e2,e3,e4,e5,e6⟩:=d0.c7;obtain⟨n0,n1,n2,n3,n4,n5,n6⟩:=hb.c7;have l8:=HP.o k c6;have l7:((((ents h k).length:Nat):Int)==0)=false:=eP.2 oM;have l0:(j:Int)<(ks.length:Int):=oM
  have f0:=λW (e:∃q,W=wr.drewN q)=>TD (w:=W) (F:=F) (h:=h) (t:=k) (by obtain⟨q,rfl⟩:=e;exact a6.agree (Agree.drewN wr q))
  obtain⟨HX,HB,HO,o6,j6,i3⟩:=Yg hx hb I a6 f0 a2;have o4:IntKind.i64.wrap ((h:Int)+1)=(h:Int)+1:=by rw[eS];omega
  have l6:addr h k<wr:=d0.lt;have e8:w.heap.size<wr.heap.size:=hb.lt;have i5:j+1<=maxLen:=by unfold maxLen;omega
  have g8:∀W,Ext wr W->W.ownsRow (w.heap.size+1) 34 1 (.slice Z.a j Z.c) j (ptrs h (ks.take j)):=λW hW=>
   AZ I (hW.agree (F:=Lt wr) λ_ h=>h) λb hb=>(I.lt b (by obtain⟨a,c⟩:=Z;cases a<;>simp_all [Value.ownBlock,Sl.row])).2
  have i4:=hY g8;have b6:∀i,Z.row=some i->w.heap.size+1<=i:=λb hb=>(I.lt b (by obtain⟨a,c⟩:=Z;cases a<;>simp_all [Value.ownBlock,Sl.row])).1
  have b8:=hY b6;have n7:¬addr h k=w.heap.size:=by have:=HF.o _ d4;omega
  have j3:addr h k<w.heap.size+1:=by have:=HF.o _ d4;omega
  have d8:=λW (e:Agree (Lt w) wr W)=>WL (w:=W) (F:=F) (h:=h) (t:=k) (a6.agree (e.mono λi hi=>HF.o i hi)) (HZ.o k c6)
  have i8:=hY d8;have o3:IntKind.i64.wrap ((cnt h (ks.take j):Int)+((ents h k).length:Int))=((cnt h (ks.take (j+1)):Nat):Int):=by
   have:=X3 a2;have:=Ur h ks (j+1);rw[eS]<;>omega
  have f8:=Ya a2;have g9:=XO h k;obtain⟨g0,j5⟩:=Yb f8 g9;clear a2 i2 N a6 d0 hb I f0 hx g8 b6 d8 f8 g9;go_wp2_with fail;go_quiet ((go_at_call 76;refine(j6.o _ ⟨_,rfl⟩).mono ?_;rintro e w2 ⟨rfl,rfl⟩;exact⟨rfl,_,rfl⟩));go_wp2_with(at_builtin;refine Bq _ rfl _ _ 87 rfl (w.heap.size+1) 34 i0 (.pointer none) 1 8 underlying87 hi i7 k4 j0 rfl oN Z j (ptrs h (ks.take j)) rfl (i4.o _ (((gz wr).drewN _).alloc _ _)) (λ_=>True) ⟨some wr,1⟩ 1 [ptr h k] rfl (Rd.one _ _ _) (by simp[Value.oneCell']) i5 oM (by simp;omega) ?_;intro s' w1 a4 a5 k6;have b3:Agree (Lt (w.heap.size+1)) wr w1:=(((Agree.drewN wr _).trans (Agree.alloc _ _ (λi hi=>ab hi e8))).trans (a5.agree (F:=Lt (w.heap.size+1)) (λi hi=>by simp;omega) (λi hi h=>by have:=b8.o i hi;omega)));have b1:=HB.o.agree b3 (dB _);obtain⟨p0,p1,p2,p3,p4,p5,p6⟩:=b1.c7;have fz:=λi=>b1.frozen i;have x3:=(b3.cell (F:=Lt (w.heap.size+1)) (b:=addr h k) (o:=3) j3).trans e3;have g5:=hY a4;have i6:=hY a5;have j8:=hY b1;have j2:=hY b3;clear a4 a5 k6 b1 b3);go_region;have d5:Ext w ((w1.setCell ⟨w,1,none⟩ (.slice s'.a (j+1) s'.c)).setCell ⟨w,3,none⟩ (.int .i64 (cnt h (ks.take (j+1))))).drew:=
   (((((HX.o.drewN _).alloc _ _).wr i6.o (λi hi=>by have:=b8.o i hi;omega)).setCell (p:=⟨w,1,none⟩) (ao _) _).setCell (p:=⟨w,3,none⟩) (ao _) _).drew
  have a3:AE ((w1.setCell ⟨w,1,none⟩ (.slice s'.a (j+1) s'.c)).setCell ⟨w,3,none⟩ (.int .i64 (cnt h (ks.take (j+1))))).drew w.heap.size 138 #[.slice none 0 0,.slice s'.a (j+1:Nat) s'.c,.int .i64 ((h:Int)+1),.int .i64 (cnt h (ks.take (j+1))),.string ByteArray.empty,.string ByteArray.empty,.bool (EQ h (ks.take j))]:=(j8.o.AX 1 _).AX 3 _;have b5:Agree (Lt w) wr ((w1.setCell ⟨w,1,none⟩ (.slice s'.a (j+1) s'.c)).setCell ⟨w,3,none⟩ (.int .i64 (cnt h (ks.take (j+1))))).drew:=
   ((j2.out.mono λi hi=>Nat.lt_succ_of_lt hi).trans (gD _ _ _ (λh=>dd _ h))).trans (gD _ _ _ (λh=>dd _ h))
  have f4:((w1.setCell ⟨w,1,none⟩ (.slice s'.a (j+1) s'.c)).setCell ⟨w,3,none⟩ (.int .i64 (cnt h (ks.take (j+1))))).drew.ownsRow (w.heap.size+1) 34 1 (.slice s'.a (j+1) s'.c) (j+1) (ptrs h (ks.take (j+1))):=by
   have e:ptrs h (ks.take (j+1))=ptrs h (ks.take j)++[ptr h k]:=by rw[aK,i3.o];simp[ptrs]
   rw[e];refine AZ g5.o (F:=λi=>w+1<=i) ((gD w1 ⟨w,1,none⟩ _ (λh=>da _ h)).trans (gD _ ⟨w,3,none⟩ _ (λh=>da _ h))) λb hb=>(g5.o.lt b (by obtain⟨a,c⟩:=s';cases a<;>simp_all [Value.ownBlock,Sl.row])).1
  generalize World.drew _=W3 at *;obtain⟨j9,k2,i9,f6⟩:=Ye d5 a3 b5 f4;have l4:=a3.lt;have k9:addr h k<W3:=ab (HF.o _ d4) d5.size;obtain⟨y0,y1,y2,y3,y4,y5,y6⟩:=a3.c7;have fy:=λi=>a3.frozen i
  clear d5 a3 b5 f4 fz x3 p0 p1 p2 p3 p4 p5 p6;have g3:∀(q:Nat) (x:Bool),x=EQ h (ks.take (j+1))->Ext w ((W3.drewN q).setCell ⟨w,6,none⟩ (.bool x))/\
    AE ((W3.drewN q).setCell ⟨w,6,none⟩ (.bool x)) w.heap.size 138 #[.slice none 0 0,.slice s'.a (j+1:Nat) s'.c,.int .i64 ((h:Int)+1),.int .i64 (cnt h (ks.take (j+1))),.string ByteArray.empty,.string ByteArray.empty,.bool (EQ h (ks.take (j+1)))]/\
    ((W3.drewN q).setCell ⟨w,6,none⟩ (.bool x)).ownsRow (w.heap.size+1) 34 1 (.slice s'.a (j+1) s'.c) (j+1) (ptrs h (ks.take (j+1))):=λq x hx=>by
   subst hx;refine⟨(j9.o.drewN q).setCell (p:=⟨w,6,none⟩) (ao _) _,(show AE (W3.drewN q) w.heap.size 138 _ from k2.o).AX 6 _,?_⟩;exact AZ (w:=W3.drewN q) (show(W3.drewN q).ownsRow _ _ _ _ _ _ from f6.o) (F:=λi=>w+1<=i) (gD _ ⟨w,6,none⟩ _ (λh=>da _ h)) λb hb=>(f6.o.lt b (by obtain⟨a,c⟩:=s';cases a<;>simp_all [Value.ownBlock,Sl.row])).1
  have g4:=hY g3;clear g3;cases b4:EQ h (ks.take j)
  ·rw [b4] at y6
   have a0:EQ h (ks.take (j+1))=!Fi h k:=by rw[g0.o,b4,j5.o,eK]
   have c8:=hY a0;clear a0;go_wp2_with(go_at_call 88;refine(i8.o _ i9.o).mono ?_;rintro e w4 ⟨rfl,q4,rfl⟩);go_roundw
   case rel=>
    obtain⟨f1,f2,f3⟩:=g4.out q4 _ c8.o.symm;exact⟨j+1,s',oM,by go_num,f1,f2,f3⟩
   simp[intOf];omega
  rw[b4]at y6;have a0:EQ h (ks.take (j+1))=true:=by rw[g0.o,b4,Bool.true_or]
  have c8:=hY a0;clear a0;go_wp2_with fail;go_roundw
  case rel=>
   obtain⟨f1,f2,f3⟩:=g4.out 0 _ c8.o.symm;exact⟨j+1,s',oM,by go_num,f1,f2,f3⟩
  simp[intOf];omega
 obtain rfl:j=ks.length:=oM
 have N:Agree (Lt w) w wr:=hx.agree λi h=>h
 have b9:=Yq (w:=wr) (HS.o.agree N) (λk hk=>((HK.o k hk).mono HF.o).agree N) HR.o oM;rw[HA.o]at b9;have k3:=hY b9;obtain⟨kl,a9⟩:∃x,ks[ks.length-1]? = some x:=⟨_,ac oM⟩;obtain⟨b',o',a1,-,-,-,g7⟩:=HS.o.EB a9;rw[HA.o]at a1;simp only[Option.some.injEq,Addr.mk.injEq,and_true]at a1;obtain⟨rfl,rfl⟩:=a1;have vl:=(hx.cell d3).trans g7;have v0:=(hx.cell d3).trans k1.o;obtain⟨k5,se,l9,ne,nk,-,a7⟩:=((HK.o k0 (ap d7.o)).agree (N.mono HF.o)).cells;obtain⟨j4,n8,q0,o9,q1,-,a8⟩:=((HK.o kl (ap a9)).agree (N.mono HF.o)).cells;obtain⟨-,-,-,-,e4,-,-⟩:=a7.c7;obtain⟨-,-,-,-,-,e5,-⟩:=a8.c7;obtain⟨n0,n1,n2,n3,n4,n5,n6⟩:=hb.c7;have fz:=λi=>hb.frozen i
 have l2:¬addr h k0=w.heap.size:=by have:=HF.o _ k5;omega
 have k8:¬addr h kl=w.heap.size:=by have:=HF.o _ j4;omega
 have k7:¬b=w.heap.size:=oM
 have l1:addr h k0<wr:=a7.lt;have l3:addr h kl<wr:=a8.lt;have e8:w.heap.size<wr.heap.size:=hb.lt;have o5:IntKind.i64.wrap ((ks.length:Int)-1)=(ks.length:Int)-1:=by rw[eS];omega
 have o1:(0:Int)<=(ks.length:Int)-1:=oM
 have o7:(ks.length:Int)-1<(ks.length:Int):=oM
 have p7:((ks.length:Int)-1).toNat=ks.length-1:=oM
 obtain⟨HX,HB,HO,d9⟩:=Ye hx hb I a9;clear N b9 a9 g7 a7 a8 hb hx I;go_wp2_with(go_at_call 89;refine k3.o.mono ?_;rintro e w2 ⟨rfl,q2,rfl⟩);go_region
 all_goals go_wp2_with fail
 all_goals go_ret2
 have d6:=HO.o;have i1:=HB.o;rw[aR]at d6 i1;have f7:AE (((wr.drewN (q2+1)).setCell ⟨w,4,none⟩ (.string (Az (ents h k0)))).setCell ⟨w,5,none⟩ (.string (BZ (ents h kl)))) w.heap.size 138 #[.slice none 0 0,.slice Z.a ks.length Z.c,.int .i64 ((h:Int)+1),.int .i64 (cnt h ks),.string (Az (ents h k0)),.string (BZ (ents h kl)),.bool (EQ h ks)]:=
  ((show AE (wr.drewN (q2+1)) w.heap.size 138 _ from i1).AX 4 _).AX 5 _
 have e7:Ext w (((wr.drewN (q2+1)).setCell ⟨w,4,none⟩ (.string (Az (ents h k0)))).setCell ⟨w,5,none⟩ (.string (BZ (ents h kl)))):=
  ((HX.o.drewN _).setCell (p:=⟨w,4,none⟩) (ao _) _).setCell (p:=⟨w,5,none⟩) (ao _) _
 have j7:(((wr.drewN (q2+1)).setCell ⟨w,4,none⟩ (.string (Az (ents h k0)))).setCell ⟨w,5,none⟩ (.string (BZ (ents h kl)))).ownsRow (w.heap.size+1) 34 1 (.slice Z.a ks.length Z.c) ks.length (ptrs h ks):=
  AZ (w:=wr.drewN (q2+1)) (show(wr.drewN (q2+1)).ownsRow _ _ _ _ _ _ from d6) (F:=λi=>w+1<=i) ((gD _ ⟨w,4,none⟩ _ (λh=>da _ h)).trans (gD _ ⟨w,5,none⟩ _ (λh=>da _ h)))
   λb hb=>(d6.lt b (by obtain⟨a,c⟩:=Z;cases a<;>simp_all [Value.ownBlock,Sl.row])).1
 generalize World.setCell _ _ _=W at *;refine⟨w,rfl,ao _,?_,e7⟩;refine⟨.inr ⟨Nat.le_refl _,f7.lt⟩,Z,?_,((gF j7).mono λi hi=>.inr ⟨Nat.le_of_succ_le hi.1,hi.2⟩),λk hk=>((HK.o k hk).agree (e7.agree λi hi=>HF.o i hi)).mono λi hi=>.inl hi⟩;rw[show Az (ents (h+1) (w.heap.size,ks))=Az (ents h k0)from kV d7.o (HP.o _ (ap d7.o)),show BZ (ents (h+1) (w.heap.size,ks))=BZ (ents h kl)from gR d9.o (HP.o _ (ap d9.o))];exact f7
structure Kids(w:AB)(F:Nat->Prop)(h:Nat)(ks:List (PT h)):Prop where
 lt:∀b,F b->b<w.heap.size
 isn:∀k∈ks,AJ w F h k
 rise:Ew h ks
 pos:∀k∈ks,0<(ents h k).length
 sz:∀k∈ks,size h k<=1000
 cn:cnt h ks<=1000000000
 hh:h<=1000000000
def kj(h:Nat)(ks:List (PT h))(j:Nat):cnt h (ks.drop j)<=cnt h ks:=by
 have:cnt h ks=cnt h (ks.take j)+cnt h (ks.drop j):=by
  simp only[cnt];rw[<-aj,<-aT,aX]
 omega
section
variable{w : AB}{F : Nat -> Prop}{h : Nat}{ks : List (PT h)}
def Kids.take(k:Kids w F h ks)(m:Nat):Kids w F h (ks.take m):=⟨k.lt,λx I=>k.isn x (bj I),k.rise.take m,λx I=>k.pos x (bj I),λx I=>k.sz x (bj I),an (Ur h ks m) k.cn,k.hh⟩
def Kids.drop(k:Kids w F h ks)(m:Nat):Kids w F h (ks.drop m):=⟨k.lt,λx I=>k.isn x (aS I),k.rise.drop m,λx I=>k.pos x (aS I),λx I=>k.sz x (aS I),an (kj h ks m) k.cn,k.hh⟩
def Kids.ext(k:Kids w F h ks){w':AB}(I:Ext w w'):Kids w' F h ks:=⟨λb N=>ab (k.lt b N) I.size,λx Z=>(k.isn x Z).agree (I.agree k.lt),k.rise,k.pos,k.sz,k.cn,k.hh⟩
end
variable{w':AB}{cs:List Value}
def Rd.ext{size n:Nat}(h:Rd w (Lt w) size s n cs)(I:Ext w w'):Rd w' (Lt w') size s n cs:=(h.agree (I.agree λ_ h=>h)).mono λi hi=>ab hi I.size
def Gn(F:Nat->Prop)(h:Nat)(ks:List (PT h))(w:AB)(e:AC)(w':AB):Prop:=
 ∃t:PT (h+1),e=.returned (ptr (h+1) t)/\t.2=ks/\w.heap.size<=addr (h+1) t/\AJ w' (Up F w w') (h+1) t/\Ext w w'
variable{n:Nat}
def IG{ks:List (PT h)}(hs:Rd w (Lt w) 1 s ks.length (ptrs h ks))(hn:n=ks.length)(I:Kids w F h ks)(h2:2<=ks.length)(h8:ks.length<=8) :
  Calls prog 32 #[.slice s.a n s.c] w (Gn F h ks w):=by
 subst hn;have N:=YW I.lt hs I.isn I.rise h2 h8 I.pos I.sz I.cn I.hh;have Z:(((ks.length:Nat):Int)==1)=false:=eP.2 oM;clear hs I;go_in;go_wp2_with fail;refine N.mono ?_;rintro e w' ⟨a,rfl,h1,h2,h3⟩;have H2:=hY h2;clear h2;go_wp2_with fail;go_ret;exact⟨(a,ks),rfl,rfl,h1,H2.o,h3⟩
def XI{k:PT h}(hs:Rd w F 1 s 1 (ptrs h [k])) :
  Calls prog 32 #[.slice s.a 1 s.c] w λe w'=>e=.returned (ptr h k)/\w=w':=by
 obtain⟨b,o,N,a0,Z,a1,I⟩:=Rd.EB (ks:=[k]) hs (i:=0) rfl;rw[cA]at I;rw[N];clear hs N;go_in;go_wp2;go_ret;exact⟨rfl,rfl⟩
def qN(F:Nat->Prop)(h:Nat)(ks:List (PT h))(w:AB)(e:AC)(w':AB):Prop:=
 ∃ts:List (PT (h+1)),e=two (h+1) ts/\ts.map Prod.snd=chunk ks/\(∀t∈ts,w.heap.size<=addr (h+1) t/\AJ w' (Up F w w') (h+1) t)/\Ext w w'
variable{w1 w2 w3:AB}
def Gn.grow{t:PT (h+1)}(hF:∀b,F b->b<w.heap.size)(h1:Ext w w1)(I:Ext w1 w2)(h2:Ext w2 w3)(Z:w1.heap.size<=addr (h+1) t)(N:AJ w2 (Up F w1 w2) (h+1) t):w.heap.size<=addr (h+1) t/\AJ w3 (Up F w w3) (h+1) t:=
 ⟨Nat.le_trans h1.size Z,(N.agree (h2.agree λi hi=>hi.elim (λh=>ab (hF i h) (an h1.size I.size)) λh=>h.2)).mono λi hi=>hi.elim .inl λh=>.inr ⟨Nat.le_trans h1.size h.1,ab h.2 h2.size⟩⟩
def S5{ks:List (PT h)}(hs:Rd w (Lt w) 1 s ks.length (ptrs h ks))(N:Kids w F h ks)(h2:2<=ks.length)(h9:ks.length<=9) :
  Calls prog 57 #[.slice s.a ks.length s.c,.func (.func 32) #[] #[]] w (qN F h ks w):=by
 by_cases h':ks.length<=8
 ·have hc:=IG hs rfl N h2 h'
  have hl:(ks.length:Int)<=8:=oM
  clear hs N;go_in;go_wp2_with fail;refine hc.mono ?_;rintro e w' ⟨t,rfl,h1,h2,h3,h4⟩;have H3:=hY h3;clear h3;go_wp2_with fail;go_ret2;exact⟨[t],rfl,by show[t.2]=_;rw[h1,chunk,eN (by simpa using h')],by simpa using⟨h2,H3.o⟩,h4⟩
 have h9:ks.length=9:=oM
 obtain⟨k0,a4⟩:∃x,ks[0]? = some x:=⟨_,ac oM⟩;obtain⟨b,o,ha,a6,a2,a3,-⟩:=hs.EB a4;have I:s=⟨some ⟨b,o,none⟩,s.c⟩:=by cases s;simp_all
 have a1:∀W,Ext w W->Calls prog 32 #[.slice (some ⟨b,o,none⟩) 4 s.c] W (Gn F h (ks.take 4) W):=λW hW=>by
  have:=IG (w:=W) (F:=F) (n:=4) (s:=s) (ks:=ks.take 4) (by rw[Lf,au,bL oM];exact(hs.take (m:=4) oM).ext hW) (by rw[au];omega) ((N.take 4).ext hW) (by rw[au];omega) (by rw[au];omega);rw[I]at this;exact this
 have Z:∀W,Ext w W->Calls prog 32 #[.slice (some ⟨b,o+4,none⟩) 5 (s.c-4)] W (Gn F h (ks.drop 4) W):=λW hW=>by
  have a0:=hs;rw[I]at a0;exact IG (w:=W) (F:=F) (n:=5) (s:=⟨some ⟨b,o+4,none⟩,s.c-4⟩) (ks:=ks.drop 4) (by rw[show ptrs h (ks.drop 4)=(ptrs h ks).drop (4*1)from by simp[ptrs,List.map_drop],az];exact(a0.drop (m:=4) oM).ext hW) (by rw[az];omega) ((N.drop 4).ext hW) (by rw[az];omega) (by rw[az];omega)
 obtain⟨HL,HR,HF⟩:=Yc a1 Z N.lt;clear a1 Z hs N I;rw[ha,h9];rw[h9]at a2;have a5:4<=s.c:=oM
 unfold maxLen at a3;go_in;go_wp2_with fail;go_region_with (first
  |(go_at_call_of 32 (Value.slice (some ⟨b,o,none⟩) 4 s.c);refine(HL.o _ ?_).mono ?_;exact(gz w).drew;rintro e w1 ⟨t,rfl,h1,h2,h3,h4⟩;have H3:=hY h3;clear h3)
  |(go_at_call 32;refine(HR.o _ ?_).mono ?_;exact(gz w).drew.trans h4;rintro e w2 ⟨u,rfl,k1,k2,k3,k4⟩;have K3:=hY k3;clear k3))
 all_goals go_wp2_with fail
 all_goals go_ret2
 have hX:=(gz w).drew.trans h4;refine⟨[t,u],rfl,?_,?_,hX.trans k4⟩
 ·show [t.2,u.2]=_
  rw[h1,k1,chunk,eL oM]
 intro x hx;rcases aH.1 hx with rfl|hx
 .exact Gn.grow HF.o (gz w).drew h4 k4 h2 H3.o
 rcases aH.1 hx with rfl|hx
 .exact Gn.grow HF.o hX k4 (gz w2) k2 K3.out
 simp at hx
def DG(h:Nat)(ks:List (PT h))(k:AA):Nat:=(ks.takeWhile λt=>!(klt k (Az (ents h t)))).length
def A6(h:Nat)(ks:List (PT h))(k:AA):Nat:=DG h ks k-1
def Xs{ks:List (PT h)}{k:AA}{p:Nat}(hp:p<=ks.length)(N:∀i t,i<p->ks[i]? = some t->klt k (Az (ents h t))=false)(I:∀t,ks[p]? = some t->klt k (Az (ents h t))=true):DG h ks k=p:=by
 induction ks generalizing p with
 |nil=>simp at hp;subst hp;rfl
 | cons a ks ih=>
   cases p with
   |zero=>simp[DG,I a rfl]
   | succ p=>
     have h0:=N 0 a oM rfl;have:=ih (p:=p) (by simpa using hp) (λi e hi Z=>N (i+1) e oM (by simpa using Z)) (λe Z=>I e (by simpa using Z));simp only[DG,List.takeWhile_cons,h0,Bool.not_false,if_true,List.length_cons];rw[<-this];rfl
def pu(h:Nat)(ks:List (PT h))(k:AA):DG h ks k<=ks.length:=(List.takeWhile_sublist _).length_le
def LJ{es:List AD}(h:0<es.length):∃e∈es,Az es=e.1:=by
 cases es with
 |nil=>simp at h
 |cons x xs=>exact⟨x,aD ..,rfl⟩
def jX{es:List AD}(h:0<es.length):∃e∈es,BZ es=e.1:=by
 cases I:es.getLast? with
 |none=>rw[cZ.1 I]at h;simp at h
 |some x=>exact⟨x,bR I,by simp[BZ,I]⟩
def Jl{h:Nat}:∀{ks:List (PT h)},Sorted (ks.flatMap (ents h))->∀{i j:Nat} {x y:PT h},i<j->ks[i]? = some x->ks[j]? = some y->∀a∈ents h x,∀b∈ents h y,klt a.1 b.1=true
 |[],_,i,j,x,y,_,hx,_=>by simp at hx
 |t::ts,hs,0,0,x,y,hij,hx,hy=>oM
 | t :: ts,hs,0,j+1,x,y,hij,hx,hy=>by
   simp at hx hy;subst hx;intro a N b I;have hs:(ents h t++ts.flatMap (ents h)).Pairwise λa b=>klt a.1 b.1=true:=hs
   exact(cJ.1 hs).2.2 a N b (cU.2 ⟨y,ap hy,I⟩)
 |t::ts,hs,i+1,0,x,y,hij,hx,hy=>oM
 | t :: ts,hs,i+1,j+1,x,y,hij,hx,hy=>by
   simp at hx hy;have hs:(ents h t++ts.flatMap (ents h)).Pairwise λa b=>klt a.1 b.1=true:=hs
   exact Jl (cJ.1 hs).2.1 (Nat.lt_of_succ_lt_succ hij) hx hy
def Dh{h:Nat}:∀{ks:List (PT h)},Sorted (ks.flatMap (ents h))->∀x∈ks,Sorted (ents h x)
 | t :: ts,hs,x,I=>by
   have hs:(ents h t++ts.flatMap (ents h)).Pairwise λa b=>klt a.1 b.1=true:=hs
   rcases aH.1 I with rfl|I
   .exact (cJ.1 hs).1
   exact Dh (cJ.1 hs).2.1 x I
def PD{ks:List (PT h)}(hs:Sorted (ks.flatMap (ents h)))(N:∀k∈ks,0<(ents h k).length){i j:Nat}{x y:PT h}(I:i<j)(hx:ks[i]? = some x)(Z:ks[j]? = some y):klt (Az (ents h x)) (Az (ents h y))=true:=by
 obtain⟨a,ha,ea⟩:=LJ (N x (ap hx));obtain⟨b,hb,eb⟩:=LJ (N y (ap Z));rw[ea,eb];exact Jl hs I hx Z a ha b hb
def Jg{ks:List (PT h)}(hs:Sorted (ks.flatMap (ents h)))(I:∀k∈ks,0<(ents h k).length):Ew h ks:=λi x y Z N=>by
 obtain⟨a,ha,ea⟩:=jX (I x (ap Z));obtain⟨b,hb,eb⟩:=LJ (I y (ap N));rw[ea,eb];exact Jl hs (dB i) Z N a ha b hb
variable{W:AB}{b1 b2:Nat}
def XM{ks:List (PT h)}(hs:Rd w (Lt w) 1 s ks.length (ptrs h ks))(Z:∀k∈ks,AJ w F h k)(hF:∀b,F b->b<w.heap.size){k:AA}(h1:W.cell? b1=some (.slice s.a ks.length s.c))(h2:W.cell? b2=some (.string k))(hx:Ext w W)(hn:ks.length<=1000)
  {i:Nat} {x:PT h} (hi:ks[i]? = some x):Calls prog 84 #[i,.pointer (some b1),.pointer (some b2)] W λe w'=>e=.returned (.bool (klt k (Az (ents h x))))/\Ext W w':=by
 obtain⟨b,o,ha,a0,a2,a3,N⟩:=hs.EB hi;have Z:=(Z x (ap hi)).agree (hx.agree hF);have hc:W.cell? ⟨b,o+i,none⟩=some (ptr h x):=(hx.cell a0).trans N;have a4:i<ks.length:=(ai.1 hi).1;have a1:(i:Int)<(ks.length:Int):=oM
 have I:=λq=>M8 (w:=W.drewN q) (Z.agree (Agree.drewN W q))
 have HC:=hY I;rw[ha]at h1;clear hs hi hx ha N I Z;go_in;go_wp2_with fail;go_quiet ((go_at_call 85;refine(HC.o _).mono ?_;rintro e w2 ⟨rfl,rfl⟩;exact⟨rfl,_,rfl⟩));go_wp2;go_ret;exact⟨by rw[<-nF,Bool.not_or];rfl,(gz W).drewN _⟩
def M7{ks:List (PT h)}(hs:Rd w (Lt w) 1 s ks.length (ptrs h ks))(hk:∀k∈ks,AJ w F h k)(hF:∀b,F b->b<w.heap.size)(hp:∀k∈ks,0<(ents h k).length)(k:AA)(I:Sorted (ks.flatMap (ents h)))(hn:ks.length<=1000) :
  Calls prog 55 #[.slice s.a ks.length s.c,.string k] w λe w'=>e=.returned (.int .i64 (A6 h ks k))/\Ext w w':=by
 obtain⟨HS,HO,HK,HF,HP⟩:=Yf hs I hk hF hp;have a5:∀W,Ext w W->W.cell? w=some (.slice s.a ks.length s.c)->W.cell? ⟨w+1,0,none⟩=some (.string k)->
   Calls prog 78 #[.int .i64 ks.length,.func (.func 84) #[] #[.pointer (some w),.pointer (some ⟨w+1,0,none⟩)]] W (It ks.length (λi=>klt k ((ks[i]?.map λt=>Az (ents h t)).getD ByteArray.empty)) W):=by
  intro W hW h1 h2;refine Jy 84 _ _ ks.length _ W (fq func84 kM rfl) oM ?_ ?_
  ·intro i W' hi Z
   obtain⟨x,hx⟩:∃x,ks[i]? = some x:=⟨_,ac hi⟩;rw[hx];have a7:=fc W _ h1;have a8:=fc W _ h2;exact XM HS.o HK.o HF.o ((Z.cell a7).trans h1) ((Z.cell a8).trans h2) (hW.trans Z) hn hx
  intro i j b0 hj a0;by_cases a3:i=j
  .subst a3;exact a0
  obtain⟨x,hx⟩:∃x,ks[i]? = some x:=⟨_,ac oM⟩;obtain⟨y,hy⟩:∃y,ks[j]? = some y:=⟨_,ac hj⟩;have a9:=PD HO.o HP.o (i:=i) (j:=j) oM hx hy;rw[hx]at a0;rw[hy];exact Ck a0 a9
 clear hs I hk hF hp;go_in;go_wp2_with fail;refine(a5 _ (((gz w).alloc _ _).alloc _ _) oO oO).mono ?_;rintro e w1 ⟨p,rfl,hp,a2,a4,a1⟩;have N:DG h ks k=p:=Xs hp (λi t hi ht=>by
   have:klt k ((ks[i]?.map λt=>Az (ents h t)).getD ByteArray.empty)=false:=a2 i hi;rwa[ht]at this) (λt ht=>by
   have:klt k ((ks[p]?.map λt=>Az (ents h t)).getD ByteArray.empty)=true:=a4 p (ao _) (ai.1 ht).1;rwa[ht]at this)
 have hX:Ext w w1:=(((gz w).alloc _ _).alloc _ _).trans a1;obtain⟨HX,a6⟩:=Yb hX N;have b3:IntKind.i64.wrap ((p:Int)-1)=(p:Int)-1:=by rw[eS];omega
 clear a2 a4 a5 hX N a1;go_wp2_with fail
 ·go_ret
  refine⟨?_,HX.o⟩;rw[A6,a6.o,show p-1=0 from oM];rfl
 go_ret;refine⟨?_,HX.o⟩;rw[A6,a6.o,show((p-1:Nat):Int)=(p:Int)-1 from oM];rfl
def G9{A B:List AD}(h:Sorted (A++B)):Sorted A/\Sorted B/\∀a∈A,∀b∈B,klt a.1 b.1=true:=cJ.1 h
def Ef{α:Type}{l:List α}{i:Nat}{x:α}(h:l[i]? = some x):l=l.take i++x::l.drop (i+1):=by
 obtain⟨hi,rfl⟩:=ai.1 h;rw[<-aE hi,aX]
variable{e:AD}
def Vs{es:List AD}(hs:Sorted es)(I:e∈es):klt e.1 (Az es)=false:=by
 cases es with
 |nil=>cases I
 | cons x xs=>
   rcases aH.1 I with rfl|I
   .exact BI _
   exact Ej ((aZ.1 hs).1 e I)
def Ty{h:Nat}{k:AA}:∀{ks:List (PT h)} {i:Nat} {t:PT h},i<DG h ks k->ks[i]? = some t->klt k (Az (ents h t))=false
 |[],i,t,_,ht=>by simp at ht
 | a :: ks,i,t,hi,ht=>by
   unfold DG at hi;rw[dD]at hi;split at hi
   ·rename_i ha
    cases i with
    |zero=>simp at ht;subst ht;simpa using ha
    |succ i=>exact Ty (ks:=ks) (by unfold DG;simpa using hi) (by simpa using ht)
   simp at hi
def SD{h:Nat}{k:AA}:∀{ks:List (PT h)} {t:PT h},ks[DG h ks k]? = some t->klt k (Az (ents h t))=true
 |[],t,ht=>by simp at ht
 | a :: ks,t,ht=>by
   unfold DG at ht;rw[dD]at ht;split at ht
   .exact SD (ks:=ks) (by unfold DG;simpa using ht)
   rename_i ha;simp at ht;subst ht;simpa using ha
def FM{ks:List (PT h)}(hs:Sorted (ks.flatMap (ents h)))(hp:∀k∈ks,0<(ents h k).length)(a6:0<ks.length)(k:AA) :
  ∃a3,ks[A6 h ks k]? = some a3/\(∀e∈(ks.take (A6 h ks k)).flatMap (ents h),klt e.1 k=true)/\(∀e∈(ks.drop (A6 h ks k+1)).flatMap (ents h),klt k e.1=true):=by
 have a5:=pu h ks k;have hi:A6 h ks k<ks.length:=by unfold A6;omega
 refine⟨_,ac hi,λe he=>?_,λe he=>?_⟩
 ·obtain ⟨t,ht,N⟩:=cU.1 he
  obtain⟨j,I⟩:=bA ht;rw[bv]at I;split at I
  ·rename_i hji
   have Z:A6 h ks k<DG h ks k:=by unfold A6 at hji ⊢;omega
   have h1:=Ty Z (ac hi);obtain⟨b,a4,eb⟩:=LJ (hp _ (ap (ac hi)));have h2:=Jl hs hji I (ac hi) e N b a4;rw[<-eb]at h2;exact SO h2 h1
  cases I
 obtain⟨t,ht,N⟩:=cU.1 he;obtain⟨j,I⟩:=bA ht;rw[bm]at I;have a2:=Dh hs t (ap I);have Z:DG h ks k<ks.length:=by
  have:=(ai.1 I).1;unfold A6 at this;omega
 obtain⟨u,hu⟩:∃u,ks[DG h ks k]? = some u:=⟨_,ac Z⟩;have hb:=SD hu;have hf:=Vs a2 N;have a1:klt (Az (ents h t)) (Az (ents h u))=false:=by
  by_cases a0:DG h ks k=A6 h ks k+1+j
  ·rw [a0,I] at hu
   simp only[Option.some.injEq]at hu;rw[hu];exact BI _
  exact Ej (PD hs hp (i:=DG h ks k) (j:=A6 h ks k+1+j) (by unfold A6 at *;omega) hu I)
 exact SO hb (by
  cases hc:klt e.1 (Az (ents h u))
  .rfl
  exact absurd (My hf hc) (by rw[a1];simp))
def Cf(B:Nat)(k:AA)(v:Val):(h:Nat)->PT h->List (PT h)->Prop
 |0,t,ts=>ts.map Prod.snd=chunk (AU t.2 k v)/\∀u∈ts,B<=u.1
 |h+1,t,ts=>∃kid rs,t.2[A6 h t.2 k]? = some kid/\Cf B k v h kid rs/\ts.map Prod.snd=chunk (t.2.take (A6 h t.2 k)++rs++t.2.drop (A6 h t.2 k+1))/\∀u∈ts,B<=u.1
variable{A B:Nat}
def Cf.mono(I:A<=B){k:AA}{v:Val}:∀{h:Nat} {t:PT h} {ts:List (PT h)},Cf B k v h t ts->Cf A k v h t ts
 |0,_,_,⟨h1,h2⟩=>⟨h1,λu hu=>an I (h2 u hu)⟩
 |_+1,_,_,⟨kid,rs,h1,h2,h3,h4⟩=>⟨kid,rs,h1,h2.mono I,h3,λu hu=>an I (h4 u hu)⟩
def Tz{α β:Type}{ts:List (β × List α)}{l:List α}(h:ts.map Prod.snd=[l]):∃x,ts=[x]/\x.2=l:=by
 match ts,h with
 |[x],h=>exact⟨x,rfl,by simpa using h⟩
def F8{α β:Type}{ts:List (β × List α)}{l m:List α}(h:ts.map Prod.snd=[l,m]):∃x y,ts=[x,y]/\x.2=l/\y.2=m:=by
 match ts,h with
 |[x,y],h=>exact⟨x,y,rfl,by simpa using h⟩
def OK{ts:List (PT 0)}{l:List AD}(h:ts.map Prod.snd=[l]):∃x:PT 0,ts=[x]/\x.2=l:=Tz (α:=AD) (β:=Nat) h
def SC{ts:List (PT 0)}{l m:List AD}(h:ts.map Prod.snd=[l,m]):∃x y:PT 0,ts=[x,y]/\x.2=l/\y.2=m:=F8 (α:=AD) (β:=Nat) h
def Ry{ts:List (PT (n+1))}{l:List (PT n)}(h:ts.map Prod.snd=[l]):∃x:PT (n+1),ts=[x]/\x.2=l:=Tz (α:=PT n) (β:=Nat) h
def Tb{ts:List (PT (n+1))}{l m:List (PT n)}(h:ts.map Prod.snd=[l,m]):∃x y:PT (n+1),ts=[x,y]/\x.2=l/\y.2=m:=F8 (α:=PT n) (β:=Nat) h
def Ng{α:Type}(l:List α):(∃a,chunk l=[a])\/∃a b,chunk l=[a,b]:=by
 unfold chunk;split
 .exact .inl ⟨_,rfl⟩
 exact .inr ⟨_,_,rfl⟩
def Cf.two{k:AA}{v:Val}{t:PT h}{ts:List (PT h)}(N:Cf B k v h t ts):(∃a,ts=[a])\/∃a b,ts=[a,b]:=by
 have:∀{α β:Type} (l:List α) {ts:List (β × List α)},ts.map Prod.snd=chunk l->(∃a,ts=[a])\/∃a b,ts=[a,b]:=by
  intro α β l ts h;rcases Ng l with⟨a,I⟩ |⟨a,b,I⟩<;>rw[I]at h
  ·match ts,h with
   |[x],_=>exact .inl ⟨x,rfl⟩
  match ts,h with
  |[x,y],_=>exact .inr ⟨x,y,rfl⟩
 cases h with
 |zero=>exact this _ N.1
 |succ h=>obtain⟨Z,rs,-,-,h3,-⟩:=N;exact this _ h3
def TJ{α:Type}(l:List α):(chunk l).flatten=l:=by
 unfold chunk;split<;>simp
def Fq:∀(es:List AD) (k:AA) (v:Val),(AU es k v).length=es.length\/(AU es k v).length=es.length+1
 |[],_,_=>.inr rfl
 | e :: es,k,v=>by
   simp only[AU];split
   .rcases Fq es k v with h|h<;>simp[h]
   split<;>simp
def jU(es:List AD)(k:AA)(v:Val):0<(AU es k v).length:=by
 cases es with
 |nil=>simp[AU]
 |cons e es=>simp only[AU];split <;>(try split)<;>simp
def UT(ts:List (PT 0)):ts.flatMap (ents 0)=(ts.map Prod.snd).flatten:=by
 induction ts with
 |nil=>rfl
 | cons t ts ih=>
   rw[bc,ih];rfl
def Rj(h:Nat)(ts:List (PT (h+1))):ts.flatMap (ents (h+1))=((ts.map Prod.snd).flatten:List (PT h)).flatMap (ents h):=by
 induction ts with
 |nil=>rfl
 | cons t ts ih=>
   rw[bc,ih];show t.2.flatMap (ents h)++_=(t.2++_).flatMap (ents h);rw[aT]
def Er{t:PT (h+1)}(ok:Aj (h+1) t):∀k∈t.2,0<(ents h k).length:=λk I=>ER h k (ok.2.2 k I).1 (by have:=(ok.2.2 k I).2;omega)
def Cf.ents{B:Nat}{k:AA}{v:Val}:∀{h:Nat} {t:PT h} {ts:List (PT h)},Cf B k v h t ts->Aj h t->Sorted (ents h t)->ts.flatMap (Proofs.YtahhllcdbjbpbaaGreatDoor.ents h)=AU (ents h t) k v
 |0,t,ts,⟨h1,_⟩,_,_=>by rw[UT,h1,TJ];rfl
 | h+1,t,ts,⟨kid,rs,hk,hr,h1,_⟩,ok,hs=>by
   have hp:=Er ok;obtain⟨Z,I,hA,hC⟩:=FM (h:=h) (ks:=t.2) hs hp (by have:=ok.1;omega) k;rw[hk]at I;simp only[Option.some.injEq]at I;subst I;have N:=ap hk;have ih:=Cf.ents hr (ok.2.2 kid N).1 (Dh hs kid N);rw[Rj,h1,TJ,aT,aT,ih];show _=AU (t.2.flatMap (Proofs.YtahhllcdbjbpbaaGreatDoor.ents h)) k v
   conv=>rhs;rw[Ef hk]
   rw[aT,bc,J6 hA,N' hC,aU]
def Cf.ok{B:Nat}{k:AA}{v:Val}:∀{h:Nat} {t:PT h} {ts:List (PT h)},Cf B k v h t ts->Aj h t->
  (∀u∈ts,Aj h u/\1<=size h u/\(4<=size h t->4<=size h u))/\(2<=ts.length->∀u∈ts,4<=size h u)
 | 0,t,ts,⟨h1,_⟩,ok=>by
   have hl:=Fq t.2 k v;have hp:=jU t.2 k v;have a2:t.2.length<=8:=ok;unfold chunk at h1;split at h1
   ·rename_i h8
    obtain⟨x,rfl,I⟩:=OK h1;refine⟨λu hu=>?_,λh=>by simp at h⟩;simp at hu;subst hu;refine⟨show u.2.length<=8 by rw[I];exact h8,show 1<=u.2.length by rw[I];omega,λZ=>show 4<=u.2.length by rw[I];have Z:4<=t.2.length:=Z;omega⟩
   rename_i h8;obtain⟨x,y,rfl,I⟩:=SC h1;have lx:x.2.length=4:=by rw[I.1,au];omega
   have ly:4<=y.2.length/\y.2.length<=8:=by rw[I.2,az];omega
   refine⟨λu hu=>?_,λ_ u hu=>?_⟩
   ·simp at hu
    rcases hu with rfl|rfl
    .exact ⟨show u.2.length<=8 by omega,show 1<=u.2.length by omega,λ_=>show 4<=u.2.length by omega⟩
    exact⟨show u.2.length<=8 by omega,show 1<=u.2.length by omega,λ_=>show 4<=u.2.length by omega⟩
   simp at hu;rcases hu with rfl|rfl
   .show 4<=u.2.length;omega
   show 4<=u.2.length;omega
 | h+1,t,ts,⟨kid,rs,hk,hr,h1,_⟩,ok=>by
   have hm:=ap hk;have a3:=(ai.1 hk).1;obtain⟨i1,i2⟩:=Cf.ok hr (ok.2.2 kid hm).1;have a0:=(ok.2.2 kid hm).2;have N:∀u∈t.2.take (A6 h t.2 k)++rs++t.2.drop (A6 h t.2 k+1),Aj h u/\4<=size h u:=λu hu=>by
    rcases aL.1 hu with hu|hu
    ·rcases aL.1 hu with hu | hu
     .exact ok.2.2 u (bj hu)
     exact⟨(i1 u hu).1,(i1 u hu).2.2 a0⟩
    exact ok.2.2 u (aS hu)
   have a1:(t.2.take (A6 h t.2 k)++rs++t.2.drop (A6 h t.2 k+1)).length=t.2.length\/(t.2.take (A6 h t.2 k)++rs++t.2.drop (A6 h t.2 k+1)).length=t.2.length+1:=by
    simp only[List.length_append,List.length_take,List.length_drop];rcases hr.two with⟨a,rfl⟩ |⟨a,b,rfl⟩<;>simp<;>omega
   obtain⟨o1,o2,-⟩:=ok;generalize t.2.take (A6 h t.2 k)++rs++t.2.drop (A6 h t.2 k+1)=L at *;unfold chunk at h1;split at h1
   ·rename_i h8
    obtain⟨x,rfl,I⟩:=Ry h1;refine⟨λu hu=>?_,λh=>by simp at h⟩;simp at hu;subst hu;refine⟨⟨by rw[I];omega,by rw[I];exact h8,by rw[I];exact N⟩,show 1<=u.2.length by rw[I];omega,λZ=>show 4<=u.2.length by rw[I];have Z:4<=t.2.length:=Z;omega⟩
   rename_i h8;obtain⟨x,y,rfl,I⟩:=Tb h1;have lx:x.2.length=4:=by rw[I.1,au];omega
   have ly:4<=y.2.length/\y.2.length<=8:=by rw[I.2,az];omega
   have ax:∀u∈x.2,Aj h u/\4<=size h u:=λu hu=>N u (bj (I.1▸hu))
   have ay:∀u∈y.2,Aj h u/\4<=size h u:=λu hu=>N u (aS (I.2▸hu))
   refine⟨λu hu=>?_,λ_ u hu=>?_⟩
   ·simp at hu
    rcases hu with rfl|rfl
    .exact ⟨⟨oM,oM,ax⟩,show 1<=u.2.length by omega,λ_=>show 4<=u.2.length by omega⟩
    exact⟨⟨oM,oM,ay⟩,show 1<=u.2.length by omega,λ_=>show 4<=u.2.length by omega⟩
   simp at hu;rcases hu with rfl|rfl
   .show 4<=u.2.length;omega
   show 4<=u.2.length;omega
def PE{es:List AD}(hs:Sorted es)(k:AA)(v:Val) :
  AU es k v=es.take (Aq es k)++(k,v) ::(if(es[Aq es k]?).map Prod.fst=some k then es.drop (Aq es k+1)else es.drop (Aq es k)):=by
 have e1:es.take (Aq es k)=es.takeWhile λe=>klt e.1 k:=(cO.1 (List.takeWhile_prefix (l:=es) (λe:AD=>klt e.1 k))).symm
 have hA:∀e∈es.take (Aq es k),klt e.1 k=true:=λe N=>by
  rw[e1]at N;exact dy.1 (List.all_takeWhile (l:=es) (p:=λe:AD=>klt e.1 k)) e N
 have Z:∀e,es[Aq es k]? = some e->klt e.1 k=false:=by
  intro e N;have e2:es.drop (Aq es k)=es.dropWhile λe=>klt e.1 k:=by
   have h1:=aX (Aq es k) es;rw[e1]at h1;have h2:=List.takeWhile_append_dropWhile (p:=λe:AD=>klt e.1 k) (l:=es);exact List.append_cancel_left (h1.trans h2.symm)
  have I:(es.drop (Aq es k))[0]? = some e:=by rw[bm];exact N
  rw[e2]at I;cases hd:es.dropWhile λe=>klt e.1 k with
  |nil=>rw[hd]at I;simp at I
  | cons x xs=>
    rw[hd]at I;simp at I;subst I;have:=List.head?_dropWhile_not (λe:AD=>klt e.1 k) es;rw[hd]at this;simpa using this
 have hB:∀e∈es.drop (Aq es k),klt e.1 k=false:=λe N=>by
  obtain⟨j,hj⟩:=bA N;rw[bm]at hj;by_cases I:j=0
  .subst I;exact Z e hj
  obtain⟨y,hy⟩:∃y,es[Aq es k]? = some y:=⟨_,ac (by have:=(ai.1 hj).1;omega)⟩;have h1:=Z y hy;have h2:=Iv hs (i:=Aq es k) (j:=Aq es k+j) oM hy hj;cases hc:klt e.1 k
  .rfl
  rw[Ck h2 hc]at h1;cases h1
 conv=>lhs;rw[<-aX (Aq es k) es]
 rw[J6 hA,nQ hB];congr 2;rw[List.head?_drop,List.tail_drop]
abbrev fO:=@or_false
def CY{α:Type}(l r:List α):List (List α):=
 if 4<l.length then[l.take (l.length-1),l.drop (l.length-1)++r]else if 4<r.length then[l++r.take 1,r.drop 1]else[l++r]
def NE{α:Type}(l r:List α):(CY l r).flatten=l++r:=by
 unfold CY;split
 .simp [<-List.append_assoc]
 split
 .simp only[List.flatten_cons,List.flatten_nil,List.append_nil,List.append_assoc,List.take_append_drop]
 simp
def S1{α:Type}(l r:List α):(CY l r).length=1\/(CY l r).length=2:=by
 unfold CY;split
 .simp
 split<;>simp
def Oi{α:Type}{l r:List α}(h:(l.length=3/\4<=r.length/\r.length<=8)\/(4<=l.length/\l.length<=8/\r.length=3)):∀x∈CY l r,4<=x.length/\x.length<=8:=by
 unfold CY;intro x I;split at I
 ·simp only [List.mem_cons,List.not_mem_nil,or_false] at I
  rcases I with rfl|rfl
  .rw [au];omega
  rw[aj,az];omega
 split at I
 ·simp only [List.mem_cons,List.not_mem_nil,or_false] at I
  rcases I with rfl|rfl
  .rw [aj,au];omega
  rw[az];omega
 simp only[List.mem_cons,List.not_mem_nil,or_false]at I;subst I;rw[aj];omega
def iC{α:Type}{l r:List α}{x:List α}(N:x∈CY l r){a:α}(I:a∈x):a∈l\/a∈r:=by
 have:a∈(CY l r).flatten:=List.mem_flatten.2 ⟨x,N,I⟩;rw[NE]at this;exact aL.1 this
def Dy(B:Nat):(h:Nat)->PT h->PT h->List (PT h)->Prop
 |0,l,r,ts=>ts.map Prod.snd=CY l.2 r.2/\∀u∈ts,B<=u.1
 |_+1,l,r,ts=>ts.map Prod.snd=CY l.2 r.2/\∀u∈ts,B<=u.1
def Dy.mono(I:A<=B):∀{h:Nat} {l r:PT h} {ts:List (PT h)},Dy B h l r ts->Dy A h l r ts
 |0,_,_,_,⟨h1,h2⟩=>⟨h1,λu hu=>an I (h2 u hu)⟩
 |_+1,_,_,_,⟨h1,h2⟩=>⟨h1,λu hu=>an I (h2 u hu)⟩
def Dy.ents:∀{h:Nat} {l r:PT h} {ts:List (PT h)},Dy B h l r ts->ts.flatMap (Proofs.YtahhllcdbjbpbaaGreatDoor.ents h)=ents h l++ents h r
 |0,l,r,ts,⟨h1,_⟩=>by rw[UT,h1,NE];rfl
 | h+1,l,r,ts,⟨h1,_⟩=>by
   rw[Rj,h1,NE];show(l.2++r.2).flatMap _=_;rw[aT];rfl
def Px{α β:Type}{ts:List (β × α)}{L:List α}(h:ts.map Prod.snd=L)(I:L.length=1\/L.length=2):ts.length=1\/ts.length=2:=by
 subst h;rwa[aq]at I
def Dy.len:∀{h:Nat} {l r:PT h} {ts:List (PT h)},Dy B h l r ts->ts.length=1\/ts.length=2
 |0,l,r,ts,⟨h1,_⟩=>Px h1 (S1 (α:=AD) _ _)
 |n+1,l,r,ts,⟨h1,_⟩=>Px h1 (S1 (α:=PT n) _ _)
def Dy.ok:∀{h:Nat} {l r:PT h} {ts:List (PT h)},Dy B h l r ts->Aj h l->Aj h r->(size h l=3/\4<=size h r)\/(4<=size h l/\size h r=3)->∀u∈ts,Aj h u/\4<=size h u
 | 0,l,r,ts,⟨h1,_⟩,I,Z,hs,u,hu=>by
   have hm:u.2∈CY l.2 r.2:=by rw[<-h1];exact dg hu
   have I:l.2.length<=8:=I;have Z:r.2.length<=8:=Z;have hs:(l.2.length=3/\4<=r.2.length)\/(4<=l.2.length/\r.2.length=3):=hs;have:=Oi oM _ hm;exact⟨this.2,this.1⟩
 | h+1,l,r,ts,⟨h1,_⟩,I,Z,hs,u,hu=>by
   have hm:u.2∈CY l.2 r.2:=by rw[<-h1];exact dg hu
   have l8:l.2.length<=8:=I.2.1;have r8:r.2.length<=8:=Z.2.1;have hs:(l.2.length=3/\4<=r.2.length)\/(4<=l.2.length/\r.2.length=3):=hs;have:=Oi oM _ hm;refine⟨⟨oM,this.2,λx N=>?_⟩,this.1⟩;rcases iC hm N with N|N
   .exact I.2.2 x N
   exact Z.2.2 x N
def F2(B h:Nat)(ks:List (PT h))(i:Nat)(ks':List (PT h)):Prop:=
 ∃l r ts,ks[i-1]? = some l/\ks[i-1+1]? = some r/\Dy B h l r ts/\ks'=ks.take (i-1)++ts++ks.drop (i-1+2)
def D3(B:Nat)(k:AA)(h:Nat)(R:PT h->PT h->Prop)(ks ks':List (PT h)):Prop:=
 ∃kid kid',ks[A6 h ks k]? = some kid/\R kid kid'/\
  ((4<=size h kid'/\ks'=ks.set (A6 h ks k) kid')\/(size h kid'<4/\F2 B h (ks.set (A6 h ks k) kid') (A6 h ks k) ks'))
def C9(B:Nat)(k:AA):(h:Nat)->PT h->PT h->Prop
 |0,t,u=>u.2=Ac t.2 k/\B<=u.1
 |h+1,t,u=>D3 B k h (C9 B k h) t.2 u.2/\B<=u.1
def F2.mono(N:A<=B){ks I:List (PT h)}{i:Nat}(hm:F2 B h ks i I):F2 A h ks i I:=by
 obtain⟨l,r,ts,h1,h2,h3,Z⟩:=hm;exact⟨l,r,ts,h1,h2,h3.mono N,Z⟩
def D3.mono(a0:A<=B){k:AA}{R S:PT h->PT h->Prop}(Z:∀x y,R x y->S x y){ks I:List (PT h)}(hd:D3 B k h R ks I):D3 A k h S ks I:=by
 obtain⟨a1,N,h1,h2,h3⟩:=hd;exact⟨a1,N,h1,Z _ _ h2,h3.imp_right λ⟨a,b⟩=>⟨a,b.mono a0⟩⟩
def C9.mono(I:A<=B){k:AA}:∀{h:Nat} {t u:PT h},C9 B k h t u->C9 A k h t u
 |0,_,_,⟨h1,h2⟩=>⟨h1,an I h2⟩
 |_+1,_,_,⟨h1,h2⟩=>⟨h1.mono I λ_ _ N=>N.mono I,an I h2⟩
def set_mid{α:Type}{l:List α}{i:Nat}{x y:α}(h:l[i]? = some x):l.set i y=l.take i++y::l.drop (i+1):=by
 rw[cp,eN (ai.1 h).1]
def LS{α:Type}{l:List α}{i:Nat}{x y:α}(h:l[i]? = some x)(N:l[i+1]? = some y):l=l.take i++x::y::l.drop (i+2):=by
 have I:=Ef h;obtain⟨hi,rfl⟩:=ai.1 N;rw[aE hi]at I;exact I
def F2.ents{ks I:List (PT h)}{i:Nat}(Z:F2 B h ks i I):I.flatMap (Proofs.YtahhllcdbjbpbaaGreatDoor.ents h)=ks.flatMap (Proofs.YtahhllcdbjbpbaaGreatDoor.ents h):=by
 obtain⟨l,r,ts,h1,h2,N,rfl⟩:=Z
 conv=>rhs;rw[LS h1 h2]
 simp only[List.flatMap_append,List.flatMap_cons,N.ents,List.append_assoc]
def Lb{ks:List (PT h)}{k:AA}{I:PT h}(Z:ks[A6 h ks k]? = some I)(hA:∀e∈(ks.take (A6 h ks k)).flatMap (ents h),klt e.1 k=true)(N:∀e∈(ks.drop (A6 h ks k+1)).flatMap (ents h),klt k e.1=true) :
  AH (ks.flatMap (ents h)) k=AH (ents h I) k:=by
 conv=>lhs;rw[Ef Z]
 rw[aT,bc,VG hA,Tj N]
def D3.ents{k:AA}{R:PT h->PT h->Prop}{ks Z:List (PT h)}(hd:D3 B k h R ks Z)(hs:Sorted (ks.flatMap (Proofs.YtahhllcdbjbpbaaGreatDoor.ents h)))(hp:∀x∈ks,0<(Proofs.YtahhllcdbjbpbaaGreatDoor.ents h x).length)(a1:0<ks.length)
  (hR:∀x y,x∈ks->R x y->Proofs.YtahhllcdbjbpbaaGreatDoor.ents h y=Ac (Proofs.YtahhllcdbjbpbaaGreatDoor.ents h x) k):Z.flatMap (Proofs.YtahhllcdbjbpbaaGreatDoor.ents h)=Ac (ks.flatMap (Proofs.YtahhllcdbjbpbaaGreatDoor.ents h)) k:=by
 obtain⟨a2,I,hk,hr,h3⟩:=hd;obtain⟨a3,N,hA,hC⟩:=FM (h:=h) (ks:=ks) hs hp a1 k;rw[hk]at N;simp only[Option.some.injEq]at N;subst N;have a0:(ks.set (A6 h ks k) I).flatMap (Proofs.YtahhllcdbjbpbaaGreatDoor.ents h)=Ac (ks.flatMap (Proofs.YtahhllcdbjbpbaaGreatDoor.ents h)) k:=by
  rw[set_mid hk]
  conv=>rhs;rw[Ef hk]
  simp only[List.flatMap_append,List.flatMap_cons];rw[hR a2 I (ap hk) hr,OF hA,MV hC]
 rcases h3 with⟨-,rfl⟩ |⟨-,hm⟩
 .exact a0
 rw[hm.ents,a0]
def C9.ents{k:AA}:∀{h:Nat} {t u:PT h},C9 B k h t u->Aj h t->Sorted (Proofs.YtahhllcdbjbpbaaGreatDoor.ents h t)->Proofs.YtahhllcdbjbpbaaGreatDoor.ents h u=Ac (Proofs.YtahhllcdbjbpbaaGreatDoor.ents h t) k
 |0,t,u,⟨h1,_⟩,_,_=>h1
 | h+1,t,u,⟨h1,_⟩,ok,hs=>
   h1.ents hs (Er ok) (by have:=ok.1;omega) λx y I N=>N.ents (ok.2.2 x I).1 (Dh hs x I)
def Sn:∀{es:List AD} {k:AA},Sorted es->(AH es k).isSome=true->(Ac es k).length+1=es.length
 |[],_,_,h=>by cases h
 | e :: es,k,hs,h=>by
   have I:=aZ.1 hs;simp only[Ac];by_cases Z:e.1=k
   ·subst Z
    simp[BI]
   simp only[AH,Z,if_false]at h;have a0:klt e.1 k=true:=by
    cases N:AH es k with
    |none=>rw[N]at h;cases h
    | some v=>
      have:∃x∈es,x.1=k:=by
       clear hs I h Z
       induction es with
       |nil=>cases N
       | cons a es ih=>
         simp only[AH]at N;by_cases ha:a.1=k
         .exact ⟨a,aD ..,ha⟩
         simp only[ha,if_false]at N;obtain⟨x,hx,e⟩:=ih N;exact⟨x,aI _ hx,e⟩
      obtain⟨x,hx,rfl⟩:=this;exact I.1 x hx
   simp only[a0,if_true,List.length_cons];rw[Sn I.2 h]
def D3.ok{k:AA}{R:PT h->PT h->Prop}{ks a1:List (PT h)}(hd:D3 B k h R ks a1)(a2:∀x∈ks,Aj h x/\4<=size h x)(h2:2<=ks.length)
  (hR:∀x y,x∈ks->ks[A6 h ks k]? = some x->R x y->Aj h y/\size h x<=size h y+1):(∀u∈a1,Aj h u/\4<=size h u)/\a1.length<=ks.length/\ks.length<=a1.length+1:=by
 obtain⟨a7,I,hk,hr,h3⟩:=hd;have a6:=ap hk;have hi:=(ai.1 hk).1;obtain⟨o1,o2⟩:=hR a7 I a6 hk hr;have o4:=(a2 a7 a6).2;have a4:∀u∈ks.set (A6 h ks k) I,u=I\/(Aj h u/\4<=size h u):=λu hu=>by
  rcases cG hu with hu|hu
  .exact .inr (a2 u hu)
  exact .inl hu
 rcases h3 with⟨h4,rfl⟩ |⟨h4,l,r,ts,hl,a0,hp,rfl⟩
 ·refine ⟨fun u hu=>?_,oO,oO⟩
  rcases a4 u hu with rfl|h
  .exact ⟨o1,h4⟩
  exact h
 generalize hI:A6 h ks k=i at *;have a3:size h I=3:=oM
 have Z:∀j,j≠i->∀x,(ks.set i I)[j]? = some x->Aj h x/\4<=size h x:=λj hj x hx=>by
  rw[dw oM]at hx;exact a2 x (ap hx)
 have a5:(ks.set i I)[i]? = some I:=by rw[dh hi]
 have N:Aj h l/\Aj h r/\((size h l=3/\4<=size h r)\/(4<=size h l/\size h r=3)):=by
  by_cases h0:i=0
  ·subst h0
   rw[a5]at hl;simp only[Option.some.injEq]at hl;subst hl;have:=Z 1 oM r a0;exact⟨o1,this.1,.inl ⟨a3,this.2⟩⟩
  rw[show i-1+1=i from oM,a5]at a0;simp only[Option.some.injEq]at a0;subst a0;have:=Z (i-1) oM l hl;exact⟨this.1,o1,.inr ⟨this.2,a3⟩⟩
 have a8:=hp.ok N.1 N.2.1 N.2.2;have a9:=hp.len;refine⟨λu hu=>?_,?_,?_⟩
 ·rcases aL.1 hu with hu | hu
  ·rcases aL.1 hu with hu | hu
   ·obtain ⟨j,hj⟩:=bA hu
    rw[bv]at hj;split at hj
    .exact Z j oM u hj
    cases hj
   exact a8 u hu
  obtain⟨j,hj⟩:=bA hu;rw[bm]at hj;exact Z _ oM u hj
 .simp only[List.length_append,List.length_take,List.length_drop,List.length_set];omega
 simp only[List.length_append,List.length_take,List.length_drop,List.length_set];have:=(ai.1 a0).1;rw[cf]at this;omega
def C9.ok{k:AA}:∀{h:Nat} {t u:PT h},C9 B k h t u->Aj h t->4<=size h t->Sorted (Proofs.YtahhllcdbjbpbaaGreatDoor.ents h t)->(AH (Proofs.YtahhllcdbjbpbaaGreatDoor.ents h t) k).isSome=true->Aj h u/\size h t<=size h u+1/\size h u<=size h t
 | 0,t,u,⟨h1,_⟩,ok,_,hs,hg=>by
   have:=Sn hs hg;have e:size 0 u=(Ac (Proofs.YtahhllcdbjbpbaaGreatDoor.ents 0 t) k).length:=by show u.2.length=_;rw[h1];rfl
   have e2:(Proofs.YtahhllcdbjbpbaaGreatDoor.ents 0 t).length=size 0 t:=rfl;have ok:size 0 t<=8:=ok;exact⟨show size 0 u<=8 by omega,oM,oM⟩
 | h+1,t,u,⟨h1,_⟩,ok,h4,hs,hg=>by
   have h4:4<=t.2.length:=h4;obtain⟨a,b,c⟩:=h1.ok ok.2.2 ok.1 λx y Z N hr=>by
    obtain⟨a0,I,hA,hC⟩:=FM (h:=h) (ks:=t.2) hs (Er ok) oM k;rw[N]at I;simp only[Option.some.injEq]at I;subst I;have:=hr.ok (ok.2.2 x Z).1 (ok.2.2 x Z).2 (Dh hs x Z) (by rw[<-Lb N hA hC];exact hg);exact⟨this.1,this.2.1⟩
   have o8:=ok.2.1;exact⟨⟨oM,oM,a⟩,c,b⟩
def Ta{es:List AD}{k:AA}(h:AH es k=none):Ac es k=es:=by
 induction es with
 |nil=>rfl
 | cons e es ih=>
   simp only[AH]at h;by_cases I:e.1=k
   .simp [I]at h
   simp only[I,if_false]at h;simp only[Ac,I,if_false];split
   .rw [ih h]
   rfl
def As(a b:Int):Int:=if a<b then -1 else if b<a then 1 else 0
def FC(a b:Bool):Int:=if a=b then 0 else if b then -1 else 1
def BU(a b:AA):Int:=if klt a b then -1 else if klt b a then 1 else 0
mutual
def AW:Val->Val->Int
 | .mk k b i t l ok ov,y=>
   if k≠y.kind then As k y.kind else if k=2 then FC b y.b else if k=3 then As i y.i else if k=4 then BU t y.t else if k=5 then cmpL l y.l else if k=6 then Bn ov ok y.ok y.ov else 0
def cmpL:List Val->List Val->Int
 |[],m=>if m.length=0 then 0 else -1
 |_::_,[]=>1
 |a::l,b::m=>if AW a b≠0 then AW a b else cmpL l m
def Bn:List Val->List AA->List AA->List Val->Int
 |[],_,_,m=>if m.length=0 then 0 else -1
 |_::_,_,_,[]=>1
 |a::l,ka,kb,b::m=>if BU (ka.headD ByteArray.empty) (kb.headD ByteArray.empty)≠0 then BU (ka.headD ByteArray.empty) (kb.headD ByteArray.empty)else if AW a b≠0 then AW a b else Bn l ka.tail kb.tail m
end
def R8(a:Int):As a a=0:=by simp[As]
def Tl{a b:Int}:As a b=0↔a=b:=by unfold As;split <;>(try split)<;>omega
def YI{a b:Bool}:FC a b=0↔a=b:=by cases a<;>cases b<;>simp[FC]
def Lh(a:AA):BU a a=0:=by simp[BU,BI]
def Su{a b:AA}:BU a b=0↔a=b:=by
 constructor
 ·intro h
  unfold BU at h;split at h
  .cases h
  split at h
  .cases h
  rename_i h1 h2;exact E6 (by simpa using h1) (by simpa using h2)
 rintro rfl;exact Lh _
def X8(m:Nat):∀d:Val,SizeOf.sizeOf d<=m->AW d d=0:=by
 induction m with
 |zero=>intro d hd;have:=Val.CM d;omega
 | succ m ih=>
   intro d hd;obtain⟨k,b,i,t,l,ok,ov⟩:=d;have hl:∀I:List Val,SizeOf.sizeOf I<=m->cmpL I I=0:=by
    intro I
    induction I with
    |nil=>intro _;simp[cmpL]
    | cons a I ihl=>
      intro hs;simp only[List.cons.sizeOf_spec]at hs;simp only[cmpL];rw[ih a oM];simpa using ihl oM
   have Z:∀(I:List Val) (N:List AA),SizeOf.sizeOf I<=m->Bn I N N I=0:=by
    intro I
    induction I with
    |nil=>intro N _;simp[Bn]
    | cons a I ihl=>
      intro N hs;simp only[List.cons.sizeOf_spec]at hs;simp only[Bn];rw[ih a oM,Lh];simpa using ihl N.tail oM
   simp only[Val.mk.sizeOf_spec]at hd;simp only[AW,Val.kind,Val.b,Val.i,Val.t,Val.l,Val.ok,Val.ov];simp only[ne_eq,not_true_eq_false,if_false,R8,Lh,hl l oM,Z ov ok oM,FC,if_true];simp
def FA(d:Val):AW d d=0:=X8 _ d (ao _)
def Df:List AD->List AD->Bool
 |[],[]=>true
 |a::l,b::m=>decide (a.1=b.1)&&decide (AW a.2 b.2=0)&&Df l m
 |_,_=>false
def Md:∀l:List AD,Df l l=true
 |[]=>rfl
 |a::l=>by simp[Df,FA,Md l]
def O7:∀{l m:List AD},Df l m=true->l.length=m.length
 |[],[],_=>rfl
 | a :: l,b :: m,h=>by
   simp only[Df,Bool.and_eq_true]at h;simp[O7 h.2]
 |[],_::_,h=>by cases h
 |_::_,[],h=>by cases h
section
variable{P : Program}(w : AB)
def Zx{ops:Array Oper}{o:Oper}{a:Act}{K:Act->AB->Prop}{Q:Exit->Act->AB->Prop}{E:Prop}(I:o.guard=none)(d s:Operand)(t Z:TypeId)
  (ho:o.op=.call { callee:=.builtin .append,args:=#[d,s],argTypes:=#[t,Z] }) (v u:Value) (hd:a.eval d=v) (hs:a.eval s=u) {N:Value} {w':AB}
  (hr:(Builtin.append_ #[t,Z] o.type #[v,u]).run P w=.ok N w') (h:K (a.put o.dst N) w') :
  if Region.wanted o (yielded ops a.tmps)=true then Oper.wp P o a w K Q else E:=by
 have hw:Region.wanted o (yielded ops a.tmps)=true:=by simp[Region.wanted,I]
 rw[eN hw];unfold Oper.wp execOp;simp only[ho,resolve,invoke,builtin,Sem.run_bind,Sem.run_pure,Result.andThen_ok,List.map_toArray,List.map_cons,List.map_nil,hd,hs,hr];exact h
end
def V2(base:Nat)(s:Sl)(n i:Nat)(xs:List Value)(w:AB)(e:AC)(w':AB):Prop:=
 e=.returned (.slice s.a (n-1) s.c)/\w'.ownsRow base 65 7 (.slice s.a (n-1) s.c) (n-1) (xs.take (i*7)++xs.drop ((i+1)*7))/\Wr w w' s.row
def zeroE(w:AB):(zeroValue 65).run prog w=.ok (.agg #[ByteArray.empty,.int .i64 0,false,.int .i64 0,ByteArray.empty,.slice none 0 0,.slice none 0 0]) w:=kM
def Y3{base n i:Nat}{xs:List Value}(a3:w.ownsRow base 65 7 (.slice s.a n s.c) n xs)(hn:n<=1000)(e8:i<n)(h1:∀u∈xs,u.oneCell'=true) :
  Calls prog 179 #[.slice s.a n s.c,i,.int .i64 ((i:Int)+1)] w (V2 base s n i xs w):=by
 obtain⟨i0,hi,f2,c6,f4⟩:=eZ Tryz.DK;rcases a3.2 with⟨hs,h0⟩ |⟨g,N,a1,hs,d7,hg,f0,d0,b7,a2⟩
 .omega
 simp only[Value.slice.injEq]at hs;obtain⟨ha,-,hc⟩:=hs;have d8:s=⟨some g,N⟩:=by cases s;simp_all
 have b9:=a3.1;subst d8;clear a3 ha hc;have f5:i<=N:=oM
 have e1:(i:Int)<(n:Int):=oM
 have e2:(i:Int)+1<=(n:Int):=oM
 have g0:(0:Int)<=(i:Int):=oM
 have f8:(0:Int)<=(i:Int)+1:=oM
 have e7:(i:Int)<=(i:Int)+1:=oM
 have f7:((i:Int) ==(i:Int)+1)=false:=eP.2 oM;have d9:(N:Int)<=9223372036854775807:=by unfold maxLen at d0;omega
 have e0:(n:Int)<=(N:Int):=oM
 have f3:((i:Int)+1).toNat=i+1:=oM
 obtain⟨I,a0⟩:∃I,I=xs.drop ((i+1)*7):=⟨_,rfl⟩;have a4:I.length=(n -(i+1))*7:=by rw[a0,az,b9,<-dx]
 have c8:∀u∈I,u.oneCell'=true:=λu hu=>h1 u (aS (a0▸hu))
 obtain⟨A,hA,b6⟩:∃A:Addr,(if N=i+1 then some (g:Addr)else some ⟨g,(i+1)*7,none⟩)=some A/\(∀j u,I[j]? = some u->w.drew.cell? (A.add j)=some u):=by
  by_cases h:N=i+1
  ·refine ⟨g,by simp [h],fun t u hu=>?_⟩
   have h0:I.length=0:=by rw[a4,show n -(i+1)=0 from oM,cH]
   rw[cg.1 h0]at hu;simp at hu
  refine⟨⟨g,(i+1)*7,none⟩,by simp[h],λj u hu=>?_⟩;rw[Cb,fF,fH w g _ a1 65 (0,0) hg];rw[a0,bm,<-a2,bv]at hu;split at hu
  .simpa [Nat.add_comm,Nat.add_left_comm,Nat.add_assoc,Nat.mul_comm]using hu
  cases hu
 obtain⟨A1,a6⟩:∃A1,A1=(a1.toList.take (i*7)++I++a1.toList.drop (i*7+I.length)).toArray:=⟨_,rfl⟩;have b3:i*7+I.length<=a1.size:=by rw[a4,b7];omega
 have d5:A1.size=a1.size:=by rw[a6];simp;omega
 obtain⟨W1,a9⟩:∃W1,W1=w.drew.setRow g A1:=⟨_,rfl⟩;have d6:∀ty,(Builtin.append_ #[22,22] ty #[.slice (some g) i N,.slice (some A) (n -(i+1)) (N -(i+1))]).run prog w.drew=.ok (.slice (some g) (n-1) N) W1:=λty=>by
  have h:=run_append_room (P:=prog) w.drew 22 ty 65 i0 underlying22 hi g i N a1 hg A (n -(i+1)) (N -(i+1)) I (by rw[c6];exact a4) b6 c8 oM (by rw[c6];exact b3);rw[c6]at h;rw[a9,a6,h,show i+(n -(i+1))=n-1 from oM]
 have b8:W1.heap[g]? = some (.cells A1 65 (0,0)):=by rw[a9];exact fv w.drew g a1 A1 65 (0,0) hg
 obtain⟨Z,hZ⟩:∃Z,Z=((.agg #[ByteArray.empty,.int .i64 0,false,.int .i64 0,ByteArray.empty,.slice none 0 0,.slice none 0 0]):Value):=⟨_,rfl⟩;have c9:∀w,(zeroValue 65).run prog w=.ok Z w:=λw=>by rw[hZ];exact zeroE w
 obtain⟨zs,a7⟩:∃zs,zs=(Builtin.zeroCells Z.cells 1).toList:=⟨_,rfl⟩;have d3:zs.length=7:=by rw[a7,aQ,ge,hZ];rfl
 have b4:∀u∈zs,u.oneCell'=true:=by
  have:zs.all (·.oneCell')=true:=by rw[a7,hZ];kernel_rfl
  exactλu hu=>dy.1 this u hu
 obtain⟨A2,a8⟩:∃A2,A2=(A1.toList.take ((n-1)*7)++zs++A1.toList.drop ((n-1)*7+zs.length)).toArray:=⟨_,rfl⟩;obtain⟨W2,b0⟩:∃W2,W2=W1.setRow g A2:=⟨_,rfl⟩;have a5:=run_storeCells_at prog g ((n-1)*7) 65 zs 0 A1 W1 b8 (by rw[d3,d5,b7];omega) b4;have f9:∀ty c,(Builtin.clear_ #[22] ty #[.slice (some ⟨g,(n-1)*7,none⟩) 1 c]).run prog W1=.ok (.tuple #[]) W2:=λty c=>by
  simp only[Nat.add_zero]at a5;rw[<-a8,<-b0]at a5;rw[a7]at a5;simp[Builtin.clear_,run_underlying underlying22,c9,a5]
 have d4:W2.heap[g]? = some (.cells A2 65 (0,0)):=by rw[b0];exact fv W1 g A1 A2 65 (0,0) b8
 have c7:Wr w W2 (some g):=by
  rw[b0,a9];exact((Wr.refl w (some g)).drew.trans (gJ w.drew A1) (λi hi=>.inl hi)).trans (gJ (w.drew.setRow g A1) A2) (λi hi=>.inl hi)
 have b5:W2.ownsRow base 65 7 (.slice (some g) (n-1) N) (n-1) (xs.take (i*7)++xs.drop ((i+1)*7)):=by
  have ht:xs.take (i*7)=a1.toList.take (i*7):=by rw[<-a2,cW,bL oM]
  refine⟨by simp[b9];omega,.inr ⟨g,N,A2,rfl,d7,d4,oM,d0,by rw[a8];simp;omega,?_⟩⟩;have f1:(a1.toList.take (i*7)++I).length=(n-1)*7:=by rw[aj,au,aQ,a4];omega
  rw[<-a0,ht,a8];simp only[List.toList_toArray,List.append_assoc];rw[bn (by rw[au,aQ];omega),cW,bL oM,a6];simp only[List.toList_toArray];rw[bn oM,aM oM]
 obtain⟨HF,HW,HA⟩:=Yc b5 c7 hA;have f6:((n-1:Nat):Int)<(n:Int):=oM
 have e4:¬N=n-1:=oM
 have e3:n -(n-1)=1:=oM
 have e6:((n-1:Nat):Int)<=(n:Int):=oM
 clear b5 c7 c9 hZ d4 b8 a5 d5 b0 a9 a8 a6 b6 a4 c8 a0 b3 hg b7 a2 h1 b9 d3 b4 a7;go_in;go_wp2_with fail;go_region_law (refine Zx _ rfl _ _ 22 22 rfl _ _ (by simp[Act.eval,Act.put]) (by simp[Act.eval,Act.put]) (d6 _) ?_);go_wp2_with fail;go_ret;exact⟨rfl,HF.o,HW.o⟩
section
variable{P : Program}(w : AB)
def jd{ops:Array Oper}{o:Oper}{a:Act}{K:Act->AB->Prop}{Q:Exit->Act->AB->Prop}{E:Prop}(I:o.guard=none)(d s:Operand)(t Z:TypeId)
  (ho:o.op=.call { callee:=.builtin .append,args:=#[d,s],argTypes:=#[t,Z] }) (v u:Value) (hd:a.eval d=v) (hs:a.eval s=u) {N:Value} {w':AB}
  (hr:(Builtin.append_ #[t,Z] o.type #[v,u]).run P w=.ok N w') (h:K (a.put o.dst N) w') :
  if Region.wanted o (yielded ops a.tmps)=true then Oper.wp P o a w K Q else E:=by
 have hw:Region.wanted o (yielded ops a.tmps)=true:=by simp[Region.wanted,I]
 rw[eN hw];unfold Oper.wp execOp;simp only[ho,resolve,invoke,builtin,Sem.run_bind,Sem.run_pure,Result.andThen_ok,List.map_toArray,List.map_cons,List.map_nil,hd,hs,hr];exact h
end
def XA(base:Nat)(s:Sl)(n i:Nat)(xs:List Value)(w:AB)(e:AC)(w':AB):Prop:=
 e=.returned (.slice s.a (n-1) s.c)/\w'.ownsRow base 34 1 (.slice s.a (n-1) s.c) (n-1) (xs.take (i*1)++xs.drop ((i+1)*1))/\Wr w w' s.row
def gr(w:AB):(zeroValue 34).run prog w=.ok (.pointer none) w:=kM
def oG{base n i:Nat}{xs:List Value}(a3:w.ownsRow base 34 1 (.slice s.a n s.c) n xs)(hn:n<=1000)(e8:i<n)(h1:∀u∈xs,u.oneCell'=true) :
  Calls prog 210 #[.slice s.a n s.c,i,.int .i64 ((i:Int)+1)] w (XA base s n i xs w):=by
 obtain⟨i0,hi,f2,c6,f4⟩:=eZ Tryz.Ec;rcases a3.2 with⟨hs,h0⟩ |⟨g,N,a1,hs,d7,hg,f0,d0,b7,a2⟩
 .omega
 simp only[Value.slice.injEq]at hs;obtain⟨ha,-,hc⟩:=hs;have d8:s=⟨some g,N⟩:=by cases s;simp_all
 have b9:=a3.1;subst d8;clear a3 ha hc;have f5:i<=N:=oM
 have e1:(i:Int)<(n:Int):=oM
 have e2:(i:Int)+1<=(n:Int):=oM
 have g0:(0:Int)<=(i:Int):=oM
 have f8:(0:Int)<=(i:Int)+1:=oM
 have e7:(i:Int)<=(i:Int)+1:=oM
 have f7:((i:Int) ==(i:Int)+1)=false:=eP.2 oM;have d9:(N:Int)<=9223372036854775807:=by unfold maxLen at d0;omega
 have e0:(n:Int)<=(N:Int):=oM
 have f3:((i:Int)+1).toNat=i+1:=oM
 obtain⟨I,a0⟩:∃I,I=xs.drop ((i+1)*1):=⟨_,rfl⟩;have a4:I.length=(n -(i+1))*1:=by rw[a0,az,b9,<-dx]
 have c8:∀u∈I,u.oneCell'=true:=λu hu=>h1 u (aS (a0▸hu))
 obtain⟨A,hA,b6⟩:∃A:Addr,(if N=i+1 then some (g:Addr)else some ⟨g,i+1,none⟩)=some A/\(∀j u,I[j]? = some u->w.drew.cell? (A.add j)=some u):=by
  by_cases h:N=i+1
  ·refine ⟨g,by simp [h],fun t u hu=>?_⟩
   have h0:I.length=0:=by rw[a4,show n -(i+1)=0 from oM,cH]
   rw[cg.1 h0]at hu;simp at hu
  refine⟨⟨g,i+1,none⟩,by simp[h],λj u hu=>?_⟩;rw[Cb,fF,fH w g _ a1 34 (0,0) hg];rw[a0,bm,<-a2,bv]at hu;split at hu
  .simpa [Nat.add_comm,Nat.add_left_comm,Nat.add_assoc,Nat.mul_comm]using hu
  cases hu
 obtain⟨A1,a6⟩:∃A1,A1=(a1.toList.take (i*1)++I++a1.toList.drop (i*1+I.length)).toArray:=⟨_,rfl⟩;have b3:i*1+I.length<=a1.size:=by rw[a4,b7];omega
 have d5:A1.size=a1.size:=by rw[a6];simp;omega
 obtain⟨W1,a9⟩:∃W1,W1=w.drew.setRow g A1:=⟨_,rfl⟩;have d6:∀ty,(Builtin.append_ #[87,87] ty #[.slice (some g) i N,.slice (some A) (n -(i+1)) (N -(i+1))]).run prog w.drew=.ok (.slice (some g) (n-1) N) W1:=λty=>by
  have h:=run_append_room (P:=prog) w.drew 87 ty 34 i0 underlying87 hi g i N a1 hg A (n -(i+1)) (N -(i+1)) I (by rw[c6];exact a4) b6 c8 oM (by rw[c6];exact b3);rw[c6]at h;rw[a9,a6,h,show i+(n -(i+1))=n-1 from oM]
 have b8:W1.heap[g]? = some (.cells A1 34 (0,0)):=by rw[a9];exact fv w.drew g a1 A1 34 (0,0) hg
 obtain⟨Z,hZ⟩:∃Z,Z=((.pointer none):Value):=⟨_,rfl⟩;have c9:∀w,(zeroValue 34).run prog w=.ok Z w:=λw=>by rw[hZ];exact gr w
 obtain⟨zs,a7⟩:∃zs,zs=(Builtin.zeroCells Z.cells 1).toList:=⟨_,rfl⟩;have d3:zs.length=1:=by rw[a7,aQ,ge,hZ];rfl
 have b4:∀u∈zs,u.oneCell'=true:=by
  have:zs.all (·.oneCell')=true:=by rw[a7,hZ];kernel_rfl
  exactλu hu=>dy.1 this u hu
 obtain⟨A2,a8⟩:∃A2,A2=(A1.toList.take (n-1)++zs++A1.toList.drop (n-1+zs.length)).toArray:=⟨_,rfl⟩;obtain⟨W2,b0⟩:∃W2,W2=W1.setRow g A2:=⟨_,rfl⟩;have a5:=run_storeCells_at prog g (n-1) 34 zs 0 A1 W1 b8 (by rw[d3,d5,b7];omega) b4;have f9:∀ty c,(Builtin.clear_ #[87] ty #[.slice (some ⟨g,n-1,none⟩) 1 c]).run prog W1=.ok (.tuple #[]) W2:=λty c=>by
  simp only[Nat.add_zero]at a5;rw[<-a8,<-b0]at a5;rw[a7]at a5;simp[Builtin.clear_,run_underlying underlying87,c9,a5]
 have d4:W2.heap[g]? = some (.cells A2 34 (0,0)):=by rw[b0];exact fv W1 g A1 A2 34 (0,0) b8
 have c7:Wr w W2 (some g):=by
  rw[b0,a9];exact((Wr.refl w (some g)).drew.trans (gJ w.drew A1) (λi hi=>.inl hi)).trans (gJ (w.drew.setRow g A1) A2) (λi hi=>.inl hi)
 have b5:W2.ownsRow base 34 1 (.slice (some g) (n-1) N) (n-1) (xs.take (i*1)++xs.drop ((i+1)*1)):=by
  have ht:xs.take (i*1)=a1.toList.take (i*1):=by rw[<-a2,cW,bL oM]
  refine⟨by simp[b9];omega,.inr ⟨g,N,A2,rfl,d7,d4,oM,d0,by rw[a8];simp;omega,?_⟩⟩;have f1:(a1.toList.take (i*1)++I).length=(n-1)*1:=by rw[aj,au,aQ,a4];omega
  rw[<-a0,ht,a8];simp only[List.toList_toArray,List.append_assoc];rw[bn (by rw[au,aQ];omega),cW,bL oM,a6];simp only[List.toList_toArray];rw[bn oM,aM oM]
 obtain⟨HF,HW,HA⟩:=Yc b5 c7 hA;have f6:((n-1:Nat):Int)<(n:Int):=oM
 have e4:¬N=n-1:=oM
 have e3:n -(n-1)=1:=oM
 have e6:((n-1:Nat):Int)<=(n:Int):=oM
 clear b5 c7 c9 hZ d4 b8 a5 d5 b0 a9 a8 a6 b6 a4 c8 a0 b3 hg b7 a2 h1 b9 d3 b4 a7;go_in;go_wp2_with fail;go_region_law (refine jd _ rfl _ _ 87 87 rfl _ _ (by simp[Act.eval,Act.put]) (by simp[Act.eval,Act.put]) (d6 _) ?_);go_wp2_with fail;go_ret;exact⟨rfl,HF.o,HW.o⟩
structure St(H:Nat->Prop)(w w':AB):Prop where
 os:w'.os=w.os
 tape:w'.tape=w.tape
 output:w'.output=w.output
 size:w.heap.size<=w'.heap.size
 block:∀b,b<w.heap.size->¬H b->w'.heap[b]? = w.heap[b]?
 fz:∀b o,w'.frozen? ⟨b,o,none⟩=w.frozen? ⟨b,o,none⟩
def Ext.fz(h:Ext w w')(b o:Nat):w'.frozen? ⟨b,o,none⟩=w.frozen? ⟨b,o,none⟩:=by
 by_cases I:b<w.heap.size
 .exact h.frozen I
 rw[h.free _ _ oM,frozen_none oM]
def Ext.st(h:Ext w w')(H:Nat->Prop):St H w w':=⟨h.below.os,h.below.tape,h.below.output,h.size,λ_ I _=>h.heap I,h.fz⟩
def St.refl(H:Nat->Prop)(w:AB):St H w w:=(gz w).st H
variable{H:Nat->Prop}
def Wr.st{row:Option Nat}(h:Wr w w' row)(N:∀i,row=some i->H i):St H w w':=
 ⟨h.grown.os,h.grown.tape,h.grown.output,h.grown.size,λb I Z=>h.grown.block b I λe=>Z (N b e.symm),h.fz⟩
def St.trans{a b c:AB}(h:St H a b)(k:St H b c):St H a c:=
 ⟨k.os.trans h.os,k.tape.trans h.tape,k.output.trans h.output,an h.size k.size,λi hi I=>(k.block i (ab hi h.size) I).trans (h.block i hi I),λb o=>(k.fz b o).trans (h.fz b o)⟩
def St.mono{a b:AB}(h:St H a b)(I:∀i,i<a.heap.size->H i->G i):St G a b:=
 ⟨h.os,h.tape,h.output,h.size,λi hi N=>h.block i hi λZ=>N (I i hi Z),h.fz⟩
def St.Jp(h:St H w w')(N:∀b,b<w.heap.size->¬H b):Ext w w':=
 ⟨⟨h.os,h.tape,h.output,h.size,λb I=>h.block b I (N b I)⟩,λb o I=>(h.fz b o).trans (frozen_none I)⟩
def Ext.step{a w w':AB}(h:Ext a w)(k:St H w w')(I:∀b,H b->a.heap.size<=b):Ext a w':=
 (St.trans (h.st H) k).Jp λb Z N=>by have:=I b N;omega
def St.ext{a b c:AB}(h:St H a b)(k:Ext b c):St H a c:=h.trans (k.st H)
def St.set{a w:AB}(h:St H a w){p:Addr}(I:a.heap.size<=p.block\/H p.block)(u:Value):St H a (w.setCell p u):=
 ⟨h.os,h.tape,h.output,by simpa[World.setCell]using h.size,λi hi N=>(ft w p u i (by
   rintro rfl;rcases I with I|I
   .omega
   exact N I)).trans (h.block i hi N),λb o=>by rw[World.frozen?_setCell];exact h.fz b o⟩
def St.cell(h:St H w w'){b o:Nat}(I:b<w)(N:¬H b):w'.cell? ⟨b,o,none⟩=w.cell? ⟨b,o,none⟩:=
 fi (w:=w) (a:=⟨b,o,none⟩) (h.block b I N)
def St.drew{a w:AB}(h:St H a w):St H a w.drew:=h.ext ((gz w).drew)
def St.alloc{a w:AB}(h:St H a w)(c:Array Value)(t:TypeId):St H a (w.alloc (.cells c t)):=h.ext ((gz w).alloc c t)
variable{g:Nat}
def St.blk{t:TypeId}{cs:Array Value}(h:St H w w')(I:AE w g t cs)(N:¬H g):AE w' g t cs:=(h.block g I.lt N).trans I
abbrev NH(H:Nat->Prop)(w:AB):Nat->Prop:=λb=>b<w.heap.size/\¬H b
def St.agree(h:St H w w'):Agree (NH H w) w w':=λb I=>h.block b I.1 I.2
abbrev gH:=@St.refl
abbrev gp:=@of_decide_eq_true
variable{xs:List LE}
def OE.block{base:Nat}(h:OE w base s xs)(hn:0<xs.length):∃g cap,s=⟨some ⟨g,0,none⟩,cap⟩/\base<=g/\xs.length<=cap/\cap<=maxLen/\BF w g 65 7 cap:=by
 rcases h.own.2 with⟨hv,h0⟩ |⟨g,cap,a0,hv,N,hg,a1,Z,I,-⟩
 .omega
 simp only[Value.slice.injEq]at hv;exact⟨g,cap,by obtain⟨a,c⟩:=s;simp_all,N,a1,Z,a0,hg,I⟩
variable{u:Value}
def Zb(xs:List LE)(i:Nat)(x:LE){p:Nat}(hi:i<xs.length)(hu:(AP (xs.set i x))[p]? = some u) :
  (∃c,c<7/\p=i*7+c/\x.cells[c]? = some u)\/((p<i*7\/i*7+7<=p)/\(AP xs)[p]? = some u):=by
 have hp:p<xs.length*7:=by have:=(ai.1 hu).1;rw[GA,cf]at this;exact this
 obtain⟨j,c,rfl,I⟩:∃j c,p=j*7+c/\c<7:=⟨p/7,p%7,oM,oM⟩;by_cases Z:j=i
 ·subst Z
  rw[Fc (x:=x) (by rw[dh hi]) c I]at hu;exact .inl ⟨c,I,rfl,hu⟩
 obtain⟨y,N⟩:∃y,xs[j]? = some y:=⟨_,ac oM⟩;rw[Fc (x:=y) (by rw[dw oM];exact N) c I]at hu;exact .inr ⟨oM,by rw[Fc N c I];exact hu⟩
variable{sl so:Sl}
def OE.set{base g cap:Nat}(ho:OE w base ⟨some g,cap⟩ xs)(a3:base<=g)(hb:base<=w.heap.size)(Z:xs.length<=cap)(a2:cap<=maxLen)(hf:BF w g 65 7 cap){i:Nat}(hi:i<xs.length){k:AA}{v:Val}(hv:RV w (Lt base) v sl so)(hk:k.size<=maxLen) :
  ES (Br w g (i*7) k v sl so) (Lt w) ⟨some g,cap⟩ (xs.set i ⟨k,v,sl,so⟩):=by
 have N:=MQ hf (o:=i*7) k v sl so oM;refine⟨⟨g,0,?_,by rw[GA],λp u hu=>?_⟩,λx hx=>?_,by rw[cf];exact ho.few⟩
 .rw [cf];exact .some _ _ _ _ Z a2 hf.lt
 ·rw [aF]
  rcases Zb xs i _ hi hu with⟨c,hc,rfl,I⟩ |⟨hd,a1⟩
  ·have a0:c=0∨c=1∨c=2∨c=3∨c=4∨c=5∨c=6:=oM
   rcases a0 with rfl|rfl|rfl|rfl|rfl|rfl|rfl
   .exact N.1.trans I
   .exact N.2.c0.trans I
   .exact N.2.c1.trans I
   .exact N.2.c2.trans I
   .exact N.2.c3.trans I
   .exact N.2.c4.trans I
   exact N.2.c5.trans I
  rw[Fv _ _ _ _ _ _ _ _ oM];have:=ho.own.cells (g:=g) rfl p u a1;rwa[Cb,aF]at this
 rcases cG hx with hx|rfl
 .exact ⟨((ho.vals x hx).1.agree (Im w g _ k v sl so (λh=>h.2 rfl))).mono λi hi=>hi.1.2,(ho.vals x hx).2⟩
 exact⟨(hv.agree (Im w g _ k v sl so (λh=>by have h:g<base:=h;omega))).mono λi hi=>ab hi hb,hk⟩
def LE.one(x:LE):∀u∈x.cells,u.oneCell'=true:=by
 intro u hu;simp only[LE.cells,List.mem_cons,List.not_mem_nil,or_false]at hu;rcases hu with rfl|rfl|rfl|rfl|rfl|rfl|rfl<;>rfl
def Ds(xs:List LE):∀u∈AP xs,u.oneCell'=true:=λu hu=>by
 obtain⟨x,-,I⟩:=cU.1 hu;exact x.one u I
variable{s':Sl}{x:LE}
def OE.inserted{base p:Nat}(ho:OE w base s xs)(hp:p<=xs.length)(hb:base<=w.heap.size)(hv:RV w (Lt base) x.v x.sl x.so)(N:x.k.size<=maxLen)(hf:(xs.length+1)*104<=140737488355328)
  (a0:w'.ownsRow base 65 7 (.slice s'.a (xs.length+1) s'.c) (xs.length+1) ((AP xs).take (p*7)++x.cells++(AP xs).drop (p*7))) (Z:Wr w w' s.row) :
  ES w' (Lt w') s' (xs.take p++x::xs.drop p):=by
 have hl:(xs.take p++x::xs.drop p).length=xs.length+1:=by simp;omega
 have a1:∀b,s.row=some b->base<=b:=λb hb=>(ho.own.lt b (by obtain⟨a,c⟩:=s;cases a<;>simp_all [Value.ownBlock,Sl.row])).1
 refine⟨?_,λy I=>?_,by rw[hl];exact hf⟩
 ·have h1:=gF a0
  rw[hl,D5,GN,<-IP,<-IC,<-aU];exact h1.mono λi hi=>hi.2
 rcases aL.1 I with I|I
 ·have h1:=ho.vals y (bj I)
  exact⟨(h1.1.agree (Z.agree (λi hi=>hi.1.2) λk N h=>h.2 N)).mono λi hi=>ab hi.1.2 Z.grown.size,h1.2⟩
 rcases aH.1 I with rfl|I
 .exact ⟨(hv.agree (Z.agree (λi hi=>ab hi hb) λk N h=>dd _ (ab h (a1 k N)))).mono λi hi=>ab hi (an hb Z.grown.size),N⟩
 have h1:=ho.vals y (aS I);exact⟨(h1.1.agree (Z.agree (λi hi=>hi.1.2) λk N h=>h.2 N)).mono λi hi=>ab hi.1.2 Z.grown.size,h1.2⟩
def TU(es:List AD)(k:AA)(v:Val)(w:AB)(e:AC)(w':AB):Prop:=
 ∃ts:List (PT 0),e=two 0 ts/\ts.map Prod.snd=chunk (AU es k v)/\(∀u∈ts,w.heap.size<=u.1/\AJ w' (In w.heap.size w'.heap.size) 0 u)/\Ext w w'
def TP{es:List AD}{k:AA}{v:Val}(I:Ext w w3){ts:List (PT 0)}(h1:ts.map Prod.snd=chunk (AU es k v))(h2:∀t∈ts,w3.heap.size<=addr 0 t/\AJ w' (In w3.heap.size w'.heap.size) 0 t)(N:Ext w3 w'):TU es k v w (two 0 ts) w':=
 ⟨ts,rfl,h1,λu hu=>⟨Nat.le_trans I.size (h2 u hu).1,(h2 u hu).2.mono λi hi=>⟨Nat.le_trans I.size hi.1,hi.2⟩⟩,I.trans N⟩
def Ri{es:List AD}{ts:List (PT 0)}(h:ts.map Prod.snd=chunk es):(∃a,ts=[a])\/∃a b,ts=[a,b]:=by
 rcases Ng es with⟨a,N⟩ |⟨a,b,N⟩<;>rw[N]at h
 .obtain ⟨x,I,-⟩:=OK h;exact .inl ⟨x,I⟩
 obtain⟨x,y,I,-⟩:=SC h;exact .inr ⟨x,y,I⟩
variable{nv:Value}
def VA{es:List AD}(hh:∀W,Ext w W->Calls prog 48 #[nv] W λe w'=>e=.returned (.int .i64 0)/\W=w')(he:∀W,Ext w W->Calls prog 49 #[nv] W (Et es W))
  (hs:Sorted es) (h8:es.length<=8) {k:AA} {v:Val} (hv:RV w (Lt w) v sl so) (e1:k.size<=maxLen) :
  Calls prog 31 #[nv,B3 k v sl so] w (TU es k v w):=by
 obtain⟨HH,HE,HV,HS⟩:=Ye hh he hv hs;clear hh he hv hs;go_in;go_wp2_with fail;have a9:Ext w (w.alloc (.cells #[k,.int .i64 v.kind,.bool v.b,.int .i64 v.i,.string v.t,.slice sl.a v.l.length sl.c,.slice so.a v.ok.length so.c] 65)):=(gz w).alloc _ _;have f4:=gB w 65 #[.string k,.int .i64 v.kind,.bool v.b,.int .i64 v.i,.string v.t,.slice sl.a v.l.length sl.c,.slice so.a v.ok.length so.c];generalize e3:World.alloc _ _=W0 at *;have e6:W0.heap.size=w.heap.size+1:=by rw[<-e3];simp
 clear e3;refine(HH.o _ a9).mono ?_;rintro e w1 ⟨rfl,rfl⟩;go_wp2_with fail;refine(HE.o _ a9).mono ?_;rintro e w1 ⟨s',N,rfl,a8,ho,a5⟩;have c9:=f4.ext a5;obtain⟨c0,c1,c2,c3,c4,c5,c6⟩:=c9.c7;have a0:=T4 (w:=w1) (ho.es.mono λi hi=>hi.2) k (by rw[a8];exact HS.o);rw[a8]at a0;obtain⟨p,hp⟩:∃p,Aq es k=p:=⟨_,rfl⟩;have f2:=Mc es k;unfold M6 at a0;have Z:=PE HS.o k v;rw[hp]at a0 f2 Z;have b9:N.length=es.length:=by rw[<-a8,aq]
 obtain⟨HO,g3,HI,e4,g7,a3⟩:=Yg ho a0 Z a8 a5 b9;have i1:N.length<=8:=oM
 clear ho a0 hp Z a8 b9;go_wp2_with fail;refine g3.o.mono ?_;rintro e w2 ⟨rfl,a4⟩;have d8:=c9.ext a4;obtain⟨d0,d1,d2,d3,d4,d5,d6⟩:=d8.c7;clear c0 c1 c2 c3 c4 c5 c6;have f1:Ext w w2:=(a9.trans a5).trans a4;have b8:=HO.o.ext a4;obtain⟨b7,d7⟩:=Yb f1 b8;have g4:=d8.lt;have a2:W0.heap.size<=w2.heap.size:=(a5.trans a4).size;clear c9 d8 f4 a9 a5 a4 f1;cases ht:decide ((es[p]?).map Prod.fst=some k)
 ·have a7:¬(es[p]?).map Prod.fst=some k:=of_decide_eq_false ht
  have f3:AU es k v=es.take p++(k,v)::es.drop p:=by rw[HI.o,eL a7]
  have a6:Ext w2 (w2.alloc (.cells #[k,.int .i64 v.kind,.bool v.b,.int .i64 v.i,.string v.t,.slice sl.a v.l.length sl.c,.slice so.a v.ok.length so.c] 65)):=(gz w2).alloc _ _;have e7:=gB w2 65 (LE.cells ⟨k,v,sl,so⟩).toArray;have f5:=hY f3;clear b8 f3 a7;go_wp2_with fail;change Calls _ _ _ (w2.alloc (.cells (LE.cells ⟨k,v,sl,so⟩).toArray 65)) _;change Ext w2 (w2.alloc (.cells (LE.cells ⟨k,v,sl,so⟩).toArray 65))at a6;generalize g0:w2.alloc (.cells (LE.cells ⟨k,v,sl,so⟩).toArray 65)=W3 at *;have e0:=d7.o.ext a6;have b5:RV W3 (Lt W0) v sl so:=(HV.o.agree ((b7.o.trans a6).agree λ_ h=>h)).mono λi hi=>ab hi (by rw[e6];exact cN _)
  have e8:s'.row≠some w2.heap.size:=λh=>by
   have:=(d7.o.own.lt w2.heap.size (by obtain⟨a,c⟩:=s';cases a<;>simp_all [Value.ownBlock,Sl.row])).2;omega
  have Z:=RH (i:=p) (base:=W0) e0.own (an a2 a6.size) oM (by have:=a3.o;omega) (LE.len ⟨k,v,sl,so⟩) e7 e8 (LE.one _) (Ds _);obtain⟨f0,e2,f7⟩:=Yc a6 e0 b5;clear a6 e0 b5 e7 e8 g0;refine Z.mono ?_;rintro e w4 ⟨s4,rfl,b3,b6,-⟩;have b4:=e2.o.inserted (by have:=a3.o;omega) (an a2 f0.o.size) (x:=⟨k,v,sl,so⟩) f7.o e1 oM b3 b6;have hl:(N.take p++⟨k,v,sl,so⟩::N.drop p).length=N.length+1:=by have:=a3.o;simp;omega
  have hm:(N.take p++⟨k,v,sl,so⟩::N.drop p).map LE.ent=AU es k v:=by
   rw[f5.o,<-e4.o,aB,aW,db,cR];rfl
  have a1:=Um b4 (Lv (by rw[hm];exact EU HS.o k v)) oM;rw[hl,hm]at a1;have b0:Ext w w4:=(b7.o.trans f0.o).wr b6 λi hi=>by
   have:=(e2.o.own.lt i (by obtain⟨a,c⟩:=s';cases a<;>simp_all [Value.ownBlock,Sl.row])).1;omega
  obtain⟨d9,c8⟩:=Yb a1 b0;clear b4 a1 b0 b3 b6 hl hm Z;go_wp2_with fail;refine d9.o.mono ?_;rintro e w5 ⟨ts,rfl,h1,h2,h3⟩;obtain⟨H2,H1⟩:=Yb h2 h1;clear h2;rcases Ri h1 with⟨a,rfl⟩ |⟨a,b,rfl⟩
  all_goals
   clear h1;simp only[two];go_wp2_with fail;go_ret2;exact TP c8.o H1.o H2.o h3
 have a7:(es[p]?).map Prod.fst=some k:=gp ht;have a0:p<N.length:=by
  cases hq:es[p]? with
  |none=>rw[hq]at a7;cases a7
  |some x=>rw[a3.o];exact(ai.1 hq).1
 obtain⟨g,i2,rfl,f9,f6,f8,I⟩:=b8.block oM;have b5:RV w2 (Lt W0) v sl so:=(HV.o.agree (b7.o.agree λ_ h=>h)).mono λi hi=>ab hi (by rw[e6];exact cN _)
 have b4:=d7.o.set f9 a2 f6 f8 I a0 b5 e1;have hm:(N.set p ⟨k,v,sl,so⟩).map LE.ent=AU es k v:=by
  rw[HI.o,eN a7,<-e4.o,dK,cp,eN (by simpa using a0)];rfl
 have a1:=Um (w:=Br w2 g (p*7) k v sl so) (b4.mono λi hi=>by rw[MX];exact hi) (Lv (by rw[hm];exact EU HS.o k v)) (by rw[cf];omega);rw[hm,cf]at a1;have b0:Ext w (Br w2 g (p*7) k v sl so):=b7.o.Br oM _ _ _ _ _;have c8:=hY b0;obtain⟨x0,a9⟩:∃v,w2.cell? ⟨g,p*7,none⟩=some v:=I.cell oM;obtain⟨x1,a5⟩:∃v,w2.cell? ⟨g,p*7+1,none⟩=some v:=I.cell oM;obtain⟨x2,a4⟩:∃v,w2.cell? ⟨g,p*7+2,none⟩=some v:=I.cell oM;obtain⟨x3,i4⟩:∃v,w2.cell? ⟨g,p*7+3,none⟩=some v:=I.cell oM;obtain⟨x4,g9⟩:∃v,w2.cell? ⟨g,p*7+4,none⟩=some v:=I.cell oM;obtain⟨x5,g6⟩:∃v,w2.cell? ⟨g,p*7+5,none⟩=some v:=I.cell oM;obtain⟨x6,i3⟩:∃v,w2.cell? ⟨g,p*7+6,none⟩=some v:=I.cell oM;have i0:=I.frozen;have g5:(p:Int)<(N.length:Int):=oM
 have d9:=hY a1;have g8:=I.lt;clear b4 a1 I b8 b5 hm b0;go_wp2_with fail;change Calls _ _ _ (Br w2 g (p*7) k v sl so) _;refine d9.o.mono ?_;rintro e w5 ⟨ts,rfl,h1,h2,h3⟩;obtain⟨H2,H1⟩:=Yb h2 h1;clear h2;rcases Ri h1 with⟨a,rfl⟩ |⟨a,b,rfl⟩
 all_goals
  clear h1;simp only[two];go_wp2_with fail;go_ret2;exact TP c8.o H1.o H2.o h3
def JM(base:Nat)(s:Sl)(n i:Nat)(xs ys:List Value)(w:AB)(e:AC)(w':AB):Prop:=
 ∃s':Sl,e=.returned (.slice s'.a (n+1) s'.c)/\w'.ownsRow base 34 1 (.slice s'.a (n+1) s'.c) (n+1) (xs.take (i*1)++ys++xs.drop (i*1))/\Wr w w' s.row/\(s'.row=s.row\/∃b,s'.row=some b/\w.heap.size<=b)
section
variable{w : AB}{base n i : Nat}{s : Sl}{xs ys : List Value}{vb : Nat}
def nE(I:w.ownsRow base 34 1 (.slice s.a n s.c) n xs)(Z:base<=w.heap.size)(hn:n<=1000)(hy:ys.length=1)(hv:AE w vb 34 ys.toArray)(h1:∀u∈ys,u.oneCell'=true) :
  Calls prog 56 #[.slice s.a n s.c,n,.slice (some vb) 1 1] w (JM base s n n xs ys w):=by
 obtain⟨i0,hi,a7,a5,a2⟩:=eZ Tryz.Ec;have N:Rd w (λ_=>True) 1 ⟨some vb,1⟩ 1 ys:=⟨vb,0,.some _ _ _ _ (ao _) oN trivial,by simpa using hy,λj u hj=>by rw[hv.cell];simpa using hj⟩;have a1:xs.take (n*1)++ys++xs.drop (n*1)=xs++ys:=by
  rw[aM (by rw[I.1];exact ao _),bS (by rw[I.1];exact ao _),aY]
 obtain⟨HO,HS,H1,HX⟩:=Ye I N h1 a1;have a3:n+1<=maxLen:=by unfold maxLen;omega
 have a8:n<=s.c:=by
  rcases I.2 with⟨hv,h0⟩ |⟨g,b4,b3,hv,_,_,a9,_⟩
  .omega
  simp only[Value.slice.injEq]at hv;omega
 have b0:((n:Int) ==(n:Int))=true:=oO
 clear I N hv h1 hy a1;obtain⟨sa,sc⟩:=s;dsimp only at *;go_in;go_wp2_with(at_builtin;refine Bq _ rfl _ _ 87 rfl base 34 i0 (.pointer none) 1 8 underlying87 hi a7 a5 a2 rfl oN ⟨sa,sc⟩ n xs rfl HO.o (λ_=>True) ⟨some vb,1⟩ 1 ys rfl HS.o H1.o a3 oM Z ?_;intro s' w1 a0 a4 a6)
 all_goals
  go_ret;refine⟨s',oO,by rw[HX.o];exact a0,a4,?_⟩;rcases a6 with h |⟨h,-⟩
  .exact .inl (by simp[Sl.row,h])
  exact .inr ⟨w,by simp[Sl.row,h],ao _⟩
def iV{g cap:Nat}{I:Array Value}(a8:xs.length=n*1)(c8:base<=g)(hg:w.heap[g]? = some (.cells I 34 (0,0)))(a5:n+1<=cap)(b0:cap<=maxLen)(c7:I.size=cap*1)(N:I.toList.take (n*1)=xs)
  (hn:n<=1000) (e0:i<n) (hy:ys.length=1) (hv:AE w vb 34 ys.toArray) (b9:vb≠g) (h1:∀u∈ys,u.oneCell'=true) (b3:∀u∈xs,u.oneCell'=true) :
  Calls prog 56 #[.slice (some g) n cap,i,.slice (some vb) 1 1] w (JM base ⟨some g,cap⟩ n i xs ys w):=by
 obtain⟨i0,hi,e6,a9,d9⟩:=eZ Tryz.Ec;have e2:((i:Int) ==(n:Int))=false:=eP.2 oM;have d5:(i:Int)<(n:Int):=oM
 have e3:¬(cap:Int)<(n:Int)+1:=oM
 have d4:(cap:Int)<=9223372036854775807:=by unfold maxLen at b0;omega
 have d7:¬cap=i:=oM
 have e7:¬cap=i+1:=oM
 have e4:IntKind.i64.wrap ((i:Int)+1)=(i:Int)+1:=by rw[eS];omega
 have d8:(0:Int)<=(i:Int)+1:=oM
 have d6:((i:Int)+1).toNat=i+1:=oM
 have d3:i<=n:=oM
 have e1:(i:Int)<=(n:Int)+1:=oM
 have c9:∀lb cb,(callFunc 86 #[.slice (some vb) 1 1,.slice (some ⟨g,i+1,none⟩) lb cb]).run prog w=.ok (.value (.bool false)) w:=λlb cb=>by
  rw[run_callFunc_extern func86 kM kM kM (e:=Extern.SlicesOverlaps.overlaps #[87,87] #[4]) kM,
   Lib.run_overlaps_apart w 87 4 34 underlying87 1 (λw=>by simp[sizeOf,typeInfo,hi,a9]) vb ⟨g,i+1,none⟩ 1 1 lb cb b9 34 34 ys.toArray.size I.size (by simp[World.shape?,show w.heap[vb]? = some (.cells ys.toArray 34 (0,0))from hv]) (by simp[World.shape?,hg]) oM (hv.frozen _) (hv.frozen _)]
  rfl
 have a6:(xs.drop (i*1)).length=(n-i)*1:=by rw[az,a8,<-dx]
 have b7:∀j v,(xs.drop (i*1))[j]? = some v->w.drew.cell? ⟨g,i+j,none⟩=some v:=λj v hj=>by
  rw[fF,fH w g _ I 34 (0,0) hg];rw[bm,<-N,bv]at hj;split at hj
  .simpa using hj
  cases hj
 obtain⟨Z,a1⟩:∃Z,Z=(I.toList.take (i+1)++xs.drop (i*1)++I.toList.drop (i+1+(xs.drop (i*1)).length)).toArray:=⟨_,rfl⟩;obtain⟨W1,a0⟩:∃W1,W1=w.drew.setRow g Z:=⟨_,rfl⟩;have b4:∀ty dc sc,(Builtin.copy_ #[87,87] ty #[.slice (some ⟨g,i+1,none⟩) (n-i) dc,.slice (some ⟨g,i,none⟩) (n+1-i) sc]).run prog w.drew=.ok (goInt (Nat.min (n+1-i) (n-i))) W1:=λty dc sc=>by
  rw[a0,a1];exact Fa w.drew 87 87 ty 34 1 g (i+1) (n-i) dc ⟨some ⟨g,i,none⟩,sc⟩ (n+1-i) I 34 (xs.drop (i*1)) underlying87 (by rw[hi];simp[a9]) hg
   (by rw[a6,show Nat.min (n+1-i) (n-i)=n-i from by simp only[Nat.min_def];split<;>omega]) oO (by rintro b o' ⟨⟩;exact b7) (by rintro a ⟨⟩;rfl) (by rw[a6];omega) (λu hu=>b3 u (aS hu))
 have d0:Z.size=I.size:=by rw[a1];simp;omega
 have a7:W1.heap[g]? = some (.cells Z 34 (0,0)):=by rw[a0];exact fv w.drew g I Z 34 (0,0) hg
 have c6:AE W1 vb 34 ys.toArray:=by rw[a0];exact(fZ w.drew g vb Z b9).trans hv
 obtain⟨A2,a2⟩:∃A2,A2=(Z.toList.take (i)++ys++Z.toList.drop (i+ys.length)).toArray:=⟨_,rfl⟩;obtain⟨W2,a3⟩:∃W2,W2=W1.setRow g A2:=⟨_,rfl⟩;have b5:∀ty dc,(Builtin.copy_ #[87,87] ty #[.slice (some ⟨g,i,none⟩) (n+1-i) dc,.slice (some vb) 1 1]).run prog W1=.ok (goInt (Nat.min 1 (n+1-i))) W2:=λty dc=>by
  rw[a3,a2];exact Fa W1 87 87 ty 34 1 g (i) (n+1-i) dc ⟨some vb,1⟩ 1 Z 34 ys underlying87 (by rw[hi];simp[a9]) a7
   (by rw[hy,show Nat.min 1 (n+1-i)=1 from by simp only[Nat.min_def];split<;>omega]) oO (by rintro b o' ⟨⟩;exactλj v hj=>by rw[c6.cell];simpa using hj) (by rintro a ⟨⟩;rfl) oM h1
 have b8:W2.heap[g]? = some (.cells A2 34 (0,0)):=by rw[a3];exact fv W1 g Z A2 34 (0,0) a7
 have b6:Wr w W2 (some g):=by
  rw[a3,a0];exact((Wr.refl w (some g)).drew.trans (gJ w.drew Z) (λi hi=>.inl hi)).trans (gJ (w.drew.setRow g Z) A2) (λi hi=>.inl hi)
 have a4:W2.ownsRow base 34 1 (.slice (some g) (n+1) cap) (n+1) (xs.take (i*1)++ys++xs.drop (i*1)):=by
  refine⟨by simp[a8,hy];omega,.inr ⟨g,cap,A2,rfl,c8,b8,a5,b0,by rw[a2];simp;omega,?_⟩⟩;rw[a2,a1];exact VX I.toList xs ys (i*1) (n*1) 1 _ _ _ _ _ N.symm hy oM (by rw[aQ];omega) oM rfl oM oM oM
 obtain⟨HF,HW⟩:=Yb a4 b6;clear a4 b6 b8 a7 c6 d0 a3 a0 a2 a1 b7 a6 hg hv h1 b3 a8 N c7;go_in;go_wp2_with(simp only[c9]);go_region_law (refine J7 _ rfl _ _ 87 87 rfl _ _ (by simp[Act.eval,Act.put]) (by simp[Act.eval,Act.put]) (b4 _ _ _) ?_);go_wp2_with(at_builtin;refine JU _ rfl _ _ 87 87 rfl _ _ rfl rfl (b5 _ _) ?_);go_ret;exact⟨⟨some g,cap⟩,rfl,HF.o,HW.o,.inl rfl⟩
def Wi{g cap:Nat}{a5:Array Value}(a1:xs.length=n*1)(b6:base<=w.heap.size)(hg:w.heap[g]? = some (.cells a5 34 (0,0)))(f4:n<=cap)(b5:cap<n+1)(d8:a5.size=cap*1)(N:a5.toList.take (n*1)=xs)
  (hn:n<=1000) (f3:i<n) (hy:ys.length=1) (hv:AE w vb 34 ys.toArray) (g5:vb≠g) (h1:∀u∈ys,u.oneCell'=true) (c7:∀u∈xs,u.oneCell'=true) :
  Calls prog 56 #[.slice (some g) n cap,i,.slice (some vb) 1 1] w (JM base ⟨some g,cap⟩ n i xs ys w):=by
 obtain⟨i0,hi,e0,b8,d5⟩:=eZ Tryz.Ec;have g3:((i:Int) ==(n:Int))=false:=eP.2 oM;have e7:(i:Int)<(n:Int):=oM
 have f5:(cap:Int)<(n:Int)+1:=oM
 have f8:¬cap=i:=oM
 have f6:IntKind.i64.wrap ((i:Int)+1)=(i:Int)+1:=by rw[eS];omega
 have f2:(0:Int)<=(i:Int)+1:=oM
 have f7:((i:Int)+1).toNat=i+1:=oM
 have e8:i<=n:=oM
 have f9:(i:Int)<=(n:Int):=oM
 have g4:(i:Int)+1<=(n:Int)+1:=oM
 have d9:g<w.heap.size:=fU hg;have e1:vb<w.heap.size:=hv.lt;obtain⟨G,hG⟩:∃G,G=grownCap w (n+1) cap 34:=⟨_,rfl⟩;have e6:n+1<=G:=by rw[hG];exact grownCap_ge w _ _ _
 have f1:G<=9223372036854775807:=by
  have:=grownCap_le_maxLen w (n+1) cap 34 (by unfold maxLen;omega);rw[<-hG]at this;unfold maxLen at this;omega
 have b4:i+(n+1-i)=n+1:=oM
 obtain⟨I,a0⟩:∃I:Array Value,I=(xs.take (i*1)).toArray++Builtin.zeroCells ((.pointer none):Value).cells (n+1-i)++Builtin.zeroCells ((.pointer none):Value).cells (G -(n+1)):=⟨_,rfl⟩;have e3:I.size=G*1:=by
  rw[a0];simp only[Array.size_append,List.size_toArray,size_zeroCells,List.length_take,a1];rw[show((.pointer none):Value).cells.size=1 from rfl];omega
 have c6:I.toList.take (i*1)=xs.take (i*1):=by
  rw[a0];simp only[Array.toList_append,List.append_assoc];rw[bn (by simp[a1];omega),aM (by simp;omega)]
 obtain⟨W1,a2⟩:∃W1,W1=w.drew.alloc (.cells I 34):=⟨_,rfl⟩;have e2:∀ty,(Builtin.append_ #[87,3] ty #[.slice (some g) i cap,.int .i64 ((n:Int)+1 -(i:Int))]).run prog w=.ok (.slice (some w) (n+1) G) W1:=λty=>by
  have d6:(Builtin.firstCells i0.size i (.slice (some g) i cap)).run prog w.drew=.ok (xs.take (i*1)).toArray w.drew:=by
   rw[b8];exact run_firstCells_some w.drew 1 i g i cap (xs.take (i*1)) (by rw[au];omega) (λj v Z=>by
    rw[Cb,aF,fF,fH w g _ a5 34 (0,0) hg];rw[bv]at Z;split at Z
    ·rw [←N,bv] at Z
     split at Z
     .simpa using Z
     cases Z
    cases Z)
  have h:=Lib.run_append_grow_zeros w 87 3 ty 34 i0 _ .i64 .i64 underlying87 underlying3 hi e0 (some g) i cap (xs.take (i*1)) d6 (n+1-i) oM oM oM oM (by rw[d5];omega) (by rw[d5,b4];exact growslice_fits b5 oM);rw[b4,<-hG,<-a0,<-a2]at h;rw[show(n:Int)+1 -(i:Int)=((n+1-i:Nat):Int)from oM];exact h
 have b3:W1.heap[w.heap.size]? = some (.cells I 34 (0,0)):=by rw[a2];exact fP w.drew _
 have a3:∀k,k<w.heap.size->W1.heap[k]? = w.heap[k]?:=λk hk=>by rw[a2];exact fe w.drew _ k hk
 have d4:AE W1 vb 34 ys.toArray:=(a3 vb e1).trans hv;obtain⟨A1,a6⟩:∃A1,A1=(I.toList.take (i)++ys++I.toList.drop (i+ys.length)).toArray:=⟨_,rfl⟩;have e4:A1.size=G*1:=by rw[a6];simp;omega
 obtain⟨W2,a4⟩:∃W2,W2=W1.setRow w.heap.size A1:=⟨_,rfl⟩;have d0:∀ty dc,(Builtin.copy_ #[87,87] ty #[.slice (some ⟨w.heap.size,i,none⟩) (n+1-i) dc,.slice (some vb) 1 1]).run prog W1=.ok (goInt (Nat.min 1 (n+1-i))) W2:=λty dc=>by
  rw[a4,a6];exact Fa W1 87 87 ty 34 1 w.heap.size (i) (n+1-i) dc ⟨some vb,1⟩ 1 I 34 ys underlying87 (by rw[hi];simp[b8]) b3
   (by rw[hy,show Nat.min 1 (n+1-i)=1 from by simp only[Nat.min_def];split<;>omega]) oO (by rintro b o' ⟨⟩;exactλj v Z=>by rw[d4.cell];simpa using Z) (by rintro a ⟨⟩;rfl) oM h1
 have b9:W2.heap[w.heap.size]? = some (.cells A1 34 (0,0)):=by rw[a4];exact fv W1 _ I A1 34 (0,0) b3
 have a9:∀k,k<w.heap.size->W2.heap[k]? = w.heap[k]?:=λk hk=>by rw[a4];exact(fZ W1 _ k A1 oM).trans (a3 k hk)
 have b7:(xs.drop (i*1)).length=(n-i)*1:=by rw[az,a1,<-dx]
 have d7:∀j v,(xs.drop (i*1))[j]? = some v->W2.drew.cell? ⟨g,i+j,none⟩=some v:=λj v Z=>by
  rw[fF,fH W2 g _ a5 34 (0,0) ((a9 g d9).trans hg)];rw[bm,<-N,bv]at Z;split at Z
  .simpa using Z
  cases Z
 obtain⟨A2,a7⟩:∃A2,A2=(A1.toList.take (i+1)++xs.drop (i*1)++A1.toList.drop (i+1+(xs.drop (i*1)).length)).toArray:=⟨_,rfl⟩;obtain⟨W3,a8⟩:∃W3,W3=W2.drew.setRow w.heap.size A2:=⟨_,rfl⟩;have d3:∀ty dc sc,(Builtin.copy_ #[87,87] ty #[.slice (some ⟨w.heap.size,i+1,none⟩) (n-i) dc,.slice (some ⟨g,i,none⟩) (n-i) sc]).run prog W2.drew=.ok (goInt (Nat.min (n-i) (n-i))) W3:=λty dc sc=>by
  rw[a8,a7];exact Fa W2.drew 87 87 ty 34 1 w.heap.size (i+1) (n-i) dc ⟨some ⟨g,i,none⟩,sc⟩ (n-i) A1 34 (xs.drop (i*1)) underlying87 (by rw[hi];simp[b8]) b9
   (by rw[b7,show Nat.min (n-i) (n-i)=n-i from oO]) oO (by rintro b o' ⟨⟩;exact d7) (by rintro a ⟨⟩;rfl) (by rw[b7];omega) (λu hu=>c7 u (aS hu))
 have c9:W3.heap[w.heap.size]? = some (.cells A2 34 (0,0)):=by rw[a8];exact fv W2.drew _ A1 A2 34 (0,0) b9
 have c8:Wr w W3 (some g):=by
  rw[a8,a4,a2];exact(((((Wr.refl w (some g)).drew).alloc I 34).trans (gJ _ A1) (λi hi=>.inr (by injection hi with hi;omega))).drew).trans (gJ _ A2) (λi hi=>.inr (by injection hi with hi;omega))
 have b0:W3.ownsRow base 34 1 (.slice (some w) (n+1) G) (n+1) (xs.take (i*1)++ys++xs.drop (i*1)):=by
  refine⟨by simp[a1,hy];omega,.inr ⟨w.heap.size,G,A2,rfl,b6,c9,e6,by unfold maxLen;omega,by rw[a7];simp;omega,?_⟩⟩;rw[a7,a6];exact UR I.toList xs ys (i*1) (n*1) 1 _ _ _ _ _ c6 a1 hy oM (by rw[aQ];omega) oM rfl oM oM oM
 obtain⟨HF,HW⟩:=Yb b0 c8;clear b0 c8 c9 b9 b3 d4 e4 a8 a4 a2 a7 a6 d7 b7 hg hv h1 c7 a1 N d8 a3 a9 c6 e3 a0 hG b4;have g0:¬(G=i):=oM
 have f0:¬(G=i+1):=oM
 go_in;go_wp2_with(first
  |(at_builtin;refine wpList_append_run _ rfl _ _ 87 3 rfl _ _ rfl rfl (e2 _) ?_)
  |(at_builtin;refine JU _ rfl _ _ 87 87 rfl _ _ rfl rfl (d0 _ _) ?_))
 go_region_law (refine J7 _ rfl _ _ 87 87 rfl _ _ (by simp[Act.eval,Act.put]) (by simp[Act.eval,Act.put]) (d3 _ _ _) ?_);go_wp2;go_ret;exact⟨⟨some w,G⟩,rfl,HF.o,HW.o,.inr ⟨_,rfl,ao _⟩⟩
def O4(I:w.ownsRow base 34 1 (.slice s.a n s.c) n xs)(N:base<=w.heap.size)(hn:n<=1000)(b0:i<=n)(hy:ys.length=1)(hv:AE w vb 34 ys.toArray)(a7:s.row≠some vb)(h1:∀u∈ys,u.oneCell'=true)(a2:∀u∈xs,u.oneCell'=true) :
  Calls prog 56 #[.slice s.a n s.c,i,.slice (some vb) 1 1] w (JM base s n i xs ys w):=by
 by_cases he:i=n
 .subst he;exact nE I N hn hy hv h1
 rcases I.2 with⟨hs,h0⟩ |⟨g,a3,a9,hs,a6,hg,a8,a4,a0,Z⟩
 .omega
 simp only[Value.slice.injEq]at hs;obtain⟨ha,-,hc⟩:=hs;have a1:vb≠g:=λe=>a7 (by simp[Sl.row,ha,e])
 have a5:s=⟨some g,a3⟩:=by cases s;simp_all
 have hl:=I.1;clear I;subst a5;by_cases hr:n+1<=a3
 .exact iV hl a6 hg hr a4 a0 Z hn oM hy hv a1 h1 a2
 exact Wi hl N hg a8 oM a0 Z hn oM hy hv a1 h1 a2
end
def AM{base e size n:Nat}{xs:List Value}(h:w.ownsRow base e size (.slice s.a n s.c) n xs){b:Nat}(I:s.row=some b):base<=b/\b<w:=
 h.lt b (by obtain⟨a,c⟩:=s;cases a<;>simp_all [Value.ownBlock,Sl.row])
def Dg{base e size n:Nat}{xs:List Value}(h:w.ownsRow base e size (.slice s.a n s.c) n xs)(hn:0<n):∃g cap,s=⟨some ⟨g,0,none⟩,cap⟩/\base<=g/\n<=cap/\cap<=maxLen/\BF w g e size cap:=by
 rcases h.2 with⟨hv,h0⟩ |⟨g,cap,Z,hv,a1,hg,a0,N,I,-⟩
 .omega
 simp only[Value.slice.injEq]at hv;exact⟨g,cap,by obtain⟨a,c⟩:=s;simp_all,a1,a0,N,Z,hg,I⟩
def G1{base e n g cap:Nat}{xs:List Value}(h:w.ownsRow base e 1 (.slice (some g) n cap) n xs){i:Nat}(hi:i<n)(u:Value):(w.setCell ⟨g,i,none⟩ u).ownsRow base e 1 (.slice (some g) n cap) n (xs.set i u):=by
 rcases h.2 with⟨hv,h0⟩ |⟨g',a2,I,hv,a1,hg,a0,Z,N,ht⟩
 .omega
 simp only[Value.slice.injEq,Option.some.injEq,Addr.mk.injEq,and_true,true_and]at hv;obtain⟨rfl,rfl⟩:=hv;refine⟨by rw[cf];exact h.1,.inr ⟨g,cap,I.setIfInBounds i u,rfl,a1,AE.AX (show AE w g e I from hg) i u,a0,Z,by rw[Array.size_setIfInBounds];exact N,?_⟩⟩;rw[Array.toList_setIfInBounds,List.take_set,ht]
def G8:∀{h:Nat} {t:PT h},Aj h t->size h t<=8
 |0,_,ok=>ok
 |_+1,_,ok=>ok.2.1
def jJ{k:AA}{v:Val}{t:PT (h+1)}{I:PT h}{rs:List (PT h)}(Z:t.2[A6 h t.2 k]? = some I)(hr:Cf B k v h I rs)(ok:Aj (h+1) t)(hs:Sorted (ents (h+1) t)) :
  (t.2.take (A6 h t.2 k)++rs++t.2.drop (A6 h t.2 k+1)).flatMap (ents h)=AU (ents (h+1) t) k v:=by
 have hp:=Er ok;obtain⟨a0,N,hA,hC⟩:=FM (h:=h) (ks:=t.2) hs hp (by have:=ok.1;omega) k;rw[Z]at N;simp only[Option.some.injEq]at N;subst N;have hm:=ap Z;have ih:=Cf.ents hr (ok.2.2 I hm).1 (Dh hs I hm);rw[aT,aT,ih];show _=AU (t.2.flatMap (Proofs.YtahhllcdbjbpbaaGreatDoor.ents h)) k v
 conv=>rhs;rw[Ef Z]
 rw[aT,bc,J6 hA,N' hC,aU]
def ji{k:AA}{v:Val}{t:PT (h+1)}{I:PT h}{rs:List (PT h)}(hk:t.2[A6 h t.2 k]? = some I)(hr:Cf B k v h I rs)(ok:Aj (h+1) t) :
  ∀u∈t.2.take (A6 h t.2 k)++rs++t.2.drop (A6 h t.2 k+1),Aj h u/\4<=size h u:=by
 have Z:=ap hk;obtain⟨i1,i2⟩:=Cf.ok hr (ok.2.2 I Z).1;have N:=(ok.2.2 I Z).2;intro u hu;rcases aL.1 hu with hu|hu
 ·rcases aL.1 hu with hu | hu
  .exact ok.2.2 u (bj hu)
  exact⟨(i1 u hu).1,(i1 u hu).2.2 N⟩
 exact ok.2.2 u (aS hu)
def GR(F:Nat->Prop)(h:Nat)(t:PT h)(k:AA)(v:Val)(w:AB)(e:AC)(w':AB):Prop:=
 ∃ts:List (PT h),e=two h ts/\Cf w.heap.size k v h t ts/\(∀u∈ts,AJ w' (Up F w w') h u)/\Ext w w'
def PQ(F:Nat->Prop)(h:Nat)(t:PT h)(k:AA)(v:Val)(w:AB)(e:AC)(w':AB):Prop:=
 ∃(a:PT h) (r:Value) (rs:List (PT h)),e=.returned (.tuple #[ptr h a,r])/\((r=.pointer none/\rs=[a])\/∃b,r=ptr h b/\rs=[a,b])/\Cf w.heap.size k v h t rs/\(∀u∈rs,AJ w' (Up F w w') h u)/\Ext w w'
def GR.apart{t:PT h}{k:AA}{v:Val}{e:AC}(p:GR F h t k v w e w'):PQ F h t k v w e w':=by
 obtain⟨N,rfl,h1,h2,I⟩:=p;rcases h1.two with⟨a,rfl⟩ |⟨a,b,rfl⟩
 .exact ⟨a,_,_,rfl,.inl ⟨rfl,rfl⟩,h1,h2,I⟩
 exact⟨a,_,_,rfl,.inr ⟨b,rfl,rfl⟩,h1,h2,I⟩
def Wc(hF:∀b,F b->b<w.heap.size){t:PT 0}(hn:AJ w F 0 t)(ok:Aj 0 t)(hs:Sorted (ents 0 t)){k:AA}{v:Val}(hv:RV w (Lt w) v sl so)(N:k.size<=maxLen) :
  Calls prog 31 #[ptr 0 t,B3 k v sl so] w (GR F 0 t k v w):=by
 have I:AJ w (Lt w) 0 t:=hn.mono hF;refine(VA (λW Z=>Dw (I.ext Z)) (λW Z=>Gl (I.ext Z)) hs ok hv N).mono ?_;rintro e w' ⟨ts,rfl,h1,h2,h3⟩;exact⟨ts,rfl,⟨h1,λu hu=>(h2 u hu).1⟩,λu hu=>(h2 u hu).2.mono λi hi=>.inr hi,h3⟩
def Pv{L:List (PT n)}{ts:List (PT (n+1))}(h:ts.map Prod.snd=chunk L):(∃a,ts=[a])\/∃a b,ts=[a,b]:=by
 rcases Ng L with⟨a,N⟩ |⟨a,b,N⟩<;>rw[N]at h
 .obtain ⟨x,I,-⟩:=Ry h;exact .inl ⟨x,I⟩
 obtain⟨x,y,I,-⟩:=Tb h;exact .inr ⟨x,y,I⟩
def U2{t:PT (h+1)}{k:AA}{v:Val}{i:Nat}{I:PT h}{rs:List (PT h)}(Z:Ext w w3)(hi:A6 h t.2 k=i)(N:t.2[A6 h t.2 k]? = some I)(hB:w.heap.size<=B)(a0:Cf B k v h I rs)
  {ts:List (PT (h+1))} (h1:ts.map Prod.snd=chunk (t.2.take i++rs++t.2.drop (i+1))) (h2:∀u∈ts,w3.heap.size<=addr (h+1) u/\AJ w' (Up (Up F w w3) w3 w') (h+1) u) (h3:Ext w3 w'):GR F (h+1) t k v w (two (h+1) ts) w':=by
 subst hi;refine⟨ts,rfl,⟨I,rs,N,a0.mono hB,h1,λu hu=>an Z.size (h2 u hu).1⟩,λu hu=>(h2 u hu).2.mono λi hi=>?_,Z.trans h3⟩;rcases hi with(hi|hi)|hi
 .exact .inl hi
 .exact .inr ⟨hi.1,ab hi.2 h3.size⟩
 exact .inr ⟨Nat.le_trans Z.size hi.1,hi.2⟩
def Xw{ks:List (PT h)}{i:Nat}(hi:i<ks.length)(a:PT h):(ptrs h ks).set i (ptr h a)=ptrs h (ks.take i++[a]++ks.drop (i+1)):=by
 rw[ptrs,<-dK,cp,eN hi,aU];rfl
def iA{ks:List (PT h)}{i:Nat}(hi:i<ks.length)(a b:PT h):(ptrs h (ks.take i++[a]++ks.drop (i+1))).take ((i+1)*1)++[ptr h b]++(ptrs h (ks.take i++[a]++ks.drop (i+1))).drop ((i+1)*1)=ptrs h (ks.take i++[a,b]++ks.drop (i+1)):=by
 have I:(ptrs h (ks.take i++[a])).length=i+1:=by simp[ptrs];omega
 have e:ptrs h (ks.take i++[a]++ks.drop (i+1))=ptrs h (ks.take i++[a])++ptrs h (ks.drop (i+1)):=by simp[ptrs]
 rw[e,dH,<-I,dL,List.drop_left,I];simp[ptrs]
def Xx{k:AA}{v:Val}(l2:k.size<=maxLen)
  (ih:∀(w:AB) (F:Nat->Prop) (t:PT h),(∀b,F b->b<w.heap.size)->AJ w F h t->Aj h t->Sorted (ents h t)->(ents h t).length<=1000000->RV w (Lt w.heap.size) v sl so->Calls prog 31 #[ptr h t,B3 k v sl so] w (GR F h t k v w))
 {t:PT (h+1)} (hF:∀ b,F b→b<w.heap.size) (hn:AJ w F (h+1) t) (ok:Aj (h+1) t) (hs:Sorted (ents (h+1) t)) (hc:(ents (h+1) t).length≤1000000) (hv:RV w (Lt w.heap.size) v sl so) :
  Calls prog 31 #[ptr (h+1) t,B3 k v sl so] w (GR F (h+1) t k v w):=by
 have b4:=Er ok;have hh:h+1<1000000:=ab (G6 (h+1) t ok (by have:=ok.1;show 1<=t.2.length;omega)) hc;obtain⟨I,a3,hA,hC⟩:=FM (h:=h) (ks:=t.2) hs b4 (by have:=ok.1;omega) k;have b6:=ap a3;have e1:=(ai.1 a3).1;have k5:=ok.1;have j4:=ok.2.1;have f5:∀x∈t.2,AJ w F h x:=hn.2.choose_spec.2.2;have b7:(ents h I).length<=1000000:=an (by
  show _<=(t.2.flatMap (ents h)).length;rw[Ef a3];simp only[List.flatMap_append,List.flatMap_cons,List.length_append];omega) hc
 have i7:∀W,Ext w W->Calls prog 31 #[ptr h I,B3 k v sl so] W (PQ F h I k v W):=λW hW=>
  (ih W F I (λb hb=>ab (hF b hb) hW.size) ((f5 I b6).agree (hW.agree hF)) (ok.2.2 I b6).1 (Dh hs I b6) b7 ((hv.agree (hW.agree λ_ h=>h)).mono λi hi=>ab hi hW.size)).mono λ_ _ p=>p.apart
 obtain⟨HF,HN,i1,HS,HC,HP,j7⟩:=Yh hF hn ok hs hc b4 i7;obtain⟨f1,a1⟩:=Yb f5 a3;have l3:(((h:Int)+1)==0)=false:=eP.2 oM;clear hF hn ok hs hc b4 i7 f5 a3 hA hC hv ih b7;go_in;go_wp2_with fail;have f3:Ext w (w.alloc (.cells #[k,v.kind,.bool v.b,.int .i64 v.i,.string v.t,.slice sl.a v.l.length sl.c,.slice so.a v.ok.length so.c] 65)):=(gz w).alloc _ _;have i5:=gB w 65 #[.string k,.int .i64 v.kind,.bool v.b,.int .i64 v.i,.string v.t,.slice sl.a v.l.length sl.c,.slice so.a v.ok.length so.c];generalize i0:World.alloc _ _=W0 at *;have l5:W0.heap.size=w.heap.size+1:=by rw[<-i0];simp
 clear i0;have f0:AJ W0 F (h+1) t:=HN.o.agree (f3.agree HF.o);refine(Dw f0).mono ?_;rintro e w1 ⟨rfl,rfl⟩;have b7:=FZ f0 oM;clear f0;go_wp2_with fail;refine b7.mono ?_;rintro e w1 ⟨s',rfl,b0,b9⟩;have d9:=f3.trans b9;have e7:=i5.ext b9;obtain⟨c0,c1,c2,c3,c4,c5,c6⟩:=e7.c7;have j2:Rd w1 (Lt w1.heap.size) 1 s' t.2.length (ptrs h t.2):=(gF b0).mono λi hi=>hi.2
 have f2:=M7 j2 (λx hx=>(f1.o x hx).agree (d9.agree HF.o)) (λb hb=>ab (HF.o b hb) d9.size) HP.o k HS.o oM;obtain⟨i,hi⟩:∃i,A6 h t.2 k=i:=⟨_,rfl⟩;rw[hi]at f2 e1;obtain⟨HI,k1,g0,f7,j6,k6⟩:=Yg hi f2 b0 e7 d9 b9;clear hi f2 b0 e7 d9 j2 b7 i5 f3 b9;go_wp2_with fail;refine k1.o.mono ?_;rintro e w2 ⟨rfl,a8⟩;clear c0 c1 c2 c3 c4 c5 c6;obtain⟨d0,d1,d2,d3,d4,d5,d6⟩:=(f7.o.ext a8).c7;have l8:=f7.o.lt;have k9:=(f7.o.ext a8).lt;have j1:=j6.o.trans a8;obtain⟨g,N,rfl,l6,l4,n4,b3⟩:=Dg g0.o oM;have c8:w2.ownsRow W0.heap.size 34 1 (.slice (some g) t.2.length N) t.2.length (ptrs h t.2):=AZ g0.o (a8.agree (F:=Lt w1.heap.size) λ_ h=>h) λb hb=>(AM g0.o hb).2
 have g5:w2.cell? ⟨g,i,none⟩=some (ptr h I):=by
  have:=c8.cells (g:=g) rfl i (ptr h I) (by rw[ptrs,ar,<-HI.o,a1.o];rfl);rwa[Cb,aF]at this
 have l0:(i:Int)<(t.2.length:Int):=oM
 obtain⟨g9,a9⟩:=Yb c8 j1;have g3:g<w2.heap.size:=(AM (s:=⟨some g,N⟩) c8 rfl).2;have i3:∀o,w2.frozen? ⟨g,o,none⟩=false:=λo=>by rw[a8.frozen b3.lt];exact b3.frozen o
 clear a8 c8 j1 b3;go_wp2_with fail;go_region_held3 (λw'=>w'.cell? ⟨g,i,none⟩=some (ptr h I)/\w'.cell? w=some (.string k)/\w'.cell? ⟨w.heap.size,1,none⟩=some (.int .i64 v.kind)/\w'.cell? ⟨w.heap.size,2,none⟩=some (.bool v.b)/\w'.cell? ⟨w.heap.size,3,none⟩=some (.int .i64 v.i)/\w'.cell? ⟨w.heap.size,4,none⟩=some (.string v.t)/\w'.cell? ⟨w.heap.size,5,none⟩=some (.slice sl.a v.l.length sl.c)/\w'.cell? ⟨w.heap.size,6,none⟩=some (.slice so.a v.ok.length so.c)) (go_keep)
  ((go_at_call 31;refine(j7.o _ a9.o.drew).mono ?_;rintro e w3 ⟨a,r,rs,rfl,hr,g8,i6,d7⟩;have HR:=hY hr;have c9:=hY g8;have k2:=hY i6;clear hr g8 i6;have d8:(∀b o,b<w2.heap.size->w3.cell? ⟨b,o,none⟩=w2.cell? ⟨b,o,none⟩):=λb o hb=>d7.cell (show b<w2.drew.heap.size from hb)))
 have a0:Ext w2 w3:=((gz w2).drew).trans d7;have l9:g<w3.heap.size:=ab g3 a0.size;have l1:=(a0.cell (o:=i) g3).trans g5;have k7:w3.frozen? ⟨g,i,none⟩=false:=(a0.frozen g3).trans (i3 i);obtain⟨a7,k8⟩:=Yb a0 d7;clear a0 d7 g5 i3 d8 d0 d1 d2 d3 d4 d5 d6;have d8:w3.ownsRow W0.heap.size 34 1 (.slice (some g) t.2.length N) t.2.length (ptrs h t.2):=AZ (s:=⟨some g,N⟩) g9.o (a7.o.agree (F:=Lt w2.heap.size) λ_ h=>h) λb hb=>(AM (s:=⟨some g,N⟩) g9.o hb).2
 have f8:=G1 d8 e1 (ptr h a);rw[Xw e1]at f8;have i9:Ext w (w3.setCell ⟨g,i,none⟩ (ptr h a)):=(a9.o.trans a7.o).setCell (p:=⟨g,i,none⟩) (by show w.heap.size<=g;omega) _;have e4:Agree (Up F w2.drew w3) w3 (w3.setCell ⟨g,i,none⟩ (ptr h a)):=gD w3 ⟨g,i,none⟩ _ (by
  rintro(hf|hf)
  ·have:g<w.heap.size:=HF.o g hf
   omega
  have:w2.heap.size<=g:=hf.1;omega)
 have b5:∀W,Ext w W->Agree (Up F w2.drew w3) w3 W->w3.heap.size<=W.heap.size->Kids W (Up F w W) h (t.2.take i++rs++t.2.drop (i+1)):=λW hW j8 k4=>by
  have f6:=jJ a1.o c9.o i1.o HS.o;have e0:=ji a1.o c9.o i1.o;rw[HI.o]at f6 e0;have j5:Sorted ((t.2.take i++rs++t.2.drop (i+1)).flatMap (ents h)):=by rw[f6];exact EU HS.o k v
  have i2:∀x∈t.2.take i++rs++t.2.drop (i+1),0<(ents h x).length:=λx hx=>ER h x (e0 x hx).1 (by have:=(e0 x hx).2;omega)
  refine⟨λb hb=>hb.elim (λh=>ab (HF.o b h) hW.size) λh=>h.2,λx hx=>?_,Jg j5 i2,i2,λx hx=>by have:=G8 (e0 x hx).1;omega,by
   have:=Fq (ents (h+1) t) k v;have l7:=HC.o;unfold cnt;rw[f6];omega,oM⟩
  rcases aL.1 hx with hx|hx
  ·rcases aL.1 hx with hx | hx
   .exact ((f1.o x (bj hx)).agree (hW.agree HF.o)).mono λ_ h=>.inl h
   exact((k2.o x hx).agree j8).mono λb hb=>hb.elim .inl λh=>.inr ⟨Nat.le_trans a9.o.size h.1,ab h.2 k4⟩
  exact((f1.o x (aS hx)).agree (hW.agree HF.o)).mono λ_ h=>.inl h
 obtain⟨HK,f4,g4,j3⟩:=Ye b5 f8 i9 e4;have j0:w.heap.size<=w2.drew.heap.size:=a9.o.size;have n6:W0.heap.size<=w3.heap.size:=oM
 have i4:=hY j0;clear d8 f8 i9 e4 b5 j0;rcases HR.o with⟨rfl,rfl⟩ |⟨b,rfl,rfl⟩
 ·have a2:(t.2.take i++[a]++t.2.drop (i+1)).length=t.2.length:=by simp;omega
  have a4:=S5 (w:=w3.setCell ⟨g,i,none⟩ (ptr h a)) (s:=⟨some g,N⟩) (by rw[a2];exact(gF f4.o).mono λi hi=>hi.2) (HK.o _ g4.o j3.o oO) oM oM;rw[a2]at a4;have f9:=hY a4;clear a4 a2;go_wp2_with fail;refine f9.o.mono ?_;rintro e w5 ⟨ts,rfl,h1,h2,h3⟩;obtain⟨H2,H1⟩:=Yb h2 h1;clear h2;rcases Pv h1 with⟨a',rfl⟩ |⟨a',b',rfl⟩
  all_goals
   clear h1;simp only[two];go_wp2_with fail;go_ret2;exact U2 g4.o HI.o a1.o i4.o c9.o H1.o H2.o h3
 have n2:IntKind.i64.wrap ((i:Int)+1)=(i:Int)+1:=by rw[eS];omega
 have a2:(t.2.take i++[a]++t.2.drop (i+1)).length=t.2.length:=by simp;omega
 have Z:(t.2.take i++[a,b]++t.2.drop (i+1)).length=t.2.length+1:=by simp;omega
 have b8:Ext (w3.setCell ⟨g,i,none⟩ (ptr h a)) ((w3.setCell ⟨g,i,none⟩ (ptr h a)).alloc (.cells #[ptr h b] 34)):=(gz _).alloc _ _;have i8:AE ((w3.setCell ⟨g,i,none⟩ (ptr h a)).alloc (.cells #[ptr h b] 34)) w3.heap.size 34 [ptr h b].toArray:=by
  have:=gB (w3.setCell ⟨g,i,none⟩ (ptr h a)) 34 #[ptr h b];rwa[eX]at this
 go_wp2_with fail;change Calls _ _ _ ((w3.setCell ⟨g,i,none⟩ (ptr h a)).alloc (.cells #[ptr h b] 34)) _;have g6:((w3.setCell ⟨g,i,none⟩ (ptr h a)).alloc (.cells #[ptr h b] 34)).ownsRow W0.heap.size 34 1 (.slice (some g) t.2.length N) t.2.length (ptrs h (t.2.take i++[a]++t.2.drop (i+1))):=AZ (s:=⟨some g,N⟩) f4.o (b8.agree (F:=Lt w3.heap.size) λi hi=>by rw[eX];exact hi) λb hb=>by
  have:=(AM (s:=⟨some g,N⟩) f4.o hb).2;rwa[eX]at this
 have e2:Agree (Up F w2.drew w3) w3 ((w3.setCell ⟨g,i,none⟩ (ptr h a)).alloc (.cells #[ptr h b] 34)):=j3.o.trans (b8.agree λj hj=>by rw[eX];exact hj.elim (λhh=>ab (HF.o j hh) (by have:=a9.o.size;have:=a7.o.size;omega)) λhh=>hh.2);have g7:=g4.o.trans b8;have j9:((w3.setCell ⟨g,i,none⟩ (ptr h a)).alloc (.cells #[ptr h b] 34)).heap.size=w3.heap.size+1:=oO
 generalize (w3.setCell ⟨g,i,none⟩ (ptr h a)).alloc (.cells #[ptr h b] 34)=W5 at *;have e3:=O4 (w:=W5) (base:=W0.heap.size) (n:=t.2.length) (i:=i+1) (s:=⟨some g,N⟩) (xs:=ptrs h (t.2.take i++[a]++t.2.drop (i+1))) (ys:=[ptr h b]) (vb:=w3.heap.size) g6 oM oM oM rfl i8 (by simp[Sl.row];omega) (by simp[Value.oneCell']) (Fe _ _);obtain⟨H5,k3⟩:=Yb g7 e2;clear g7 e2 i8 g6 b8;refine e3.mono ?_;rintro e w6 ⟨s6,rfl,a5,a6,-⟩;rw[iA e1]at a5;have e8:Ext w w6:=H5.o.wr a6 λj hj=>by simp[Sl.row]at hj;omega
 have e6:Agree (Up F w2.drew w3) w3 w6:=k3.o.trans (a6.agree (λj hj=>by rw[j9];exact hj.elim (λhh=>ab (HF.o j hh) (by have:=a9.o.size;have:=a7.o.size;omega)) λhh=>Nat.lt_succ_of_lt hh.2) (λj hj=>by
  simp[Sl.row]at hj;subst hj;rintro(hf|hf)
  ·have:g<w.heap.size:=HF.o g hf
   omega
  have:w2.heap.size<=g:=hf.1;omega))
 have a4:=S5 (w:=w6) (s:=s6) (by rw[Z];exact(gF a5).mono λi hi=>hi.2) (HK.o _ e8 e6 (by have:=a6.grown.size;omega)) oM oM;rw[Z]at a4;obtain⟨f9,k0⟩:=Yb a4 e8;clear a4 a2 Z e8 e6 a5 a6 e3;go_wp2_with fail;refine f9.o.mono ?_;rintro e w7 ⟨ts,rfl,h1,h2,h3⟩;obtain⟨H2,H1⟩:=Yb h2 h1;clear h2;rcases Pv h1 with⟨a',rfl⟩ |⟨a',b',rfl⟩
 all_goals
  clear h1;simp only[two];go_wp2_with fail;go_ret2;exact U2 k0.o HI.o a1.o i4.o c9.o H1.o H2.o h3
def U0{k:AA}{v:Val}{sl so:Sl}(I:k.size<=maxLen):∀(h:Nat) (w:AB) (F:Nat->Prop) (t:PT h),(∀b,F b->b<w.heap.size)->AJ w F h t->Aj h t->Sorted (ents h t)->(ents h t).length<=1000000->RV w (Lt w) v sl so->
  Calls prog 31 #[ptr h t,B3 k v sl so] w (GR F h t k v w)
 |0,w,F,t,hF,hn,ok,hs,hc,hv=>Wc hF hn ok hs hv I
 |h+1,w,F,t,hF,hn,ok,hs,hc,hv=>Xx I (U0 I h) hF hn ok hs hc hv
abbrev RT:=Option (Σ h,PT h)
def Aa:RT->Value
 |none=>.pointer none
 |some ⟨h,t⟩=>ptr h t
abbrev AO(T:RT):Value:=.agg #[Aa T]
def AG:RT->List AD
 |none=>[]
 |some ⟨h,t⟩=>ents h t
def Am:RT->Prop
 |none=>True
 |some ⟨h,t⟩=>Aj h t/\1<=size h t/\Sorted (ents h t)
def AV(w:AB)(F:Nat->Prop):RT->Prop
 |none=>True
 |some ⟨h,t⟩=>AJ w F h t
variable{T:RT}
def AV.agree(h:AV w F T)(I:Agree F w w'):AV w' F T:=by
 match T,h with
 |none,_=>trivial
 |some ⟨n,t⟩,h=>exact AJ.agree I h
def AV.mono(h:AV w F T)(I:∀i,F i->G i):AV w G T:=by
 match T,h with
 |none,_=>trivial
 |some ⟨n,t⟩,h=>exact AJ.mono I h
def Am.sorted(h:Am T):Sorted (AG T):=by
 match T,h with
 |none,_=>exact List.Pairwise.nil
 |some ⟨n,t⟩,h=>exact h.2.2
inductive Dt (B:Nat) (k:AA) (v:Val):RT->(h:Nat)->List (PT h)->Prop
 |none (u:PT 0) (h:u.2=[(k,v)]) (hb:B<=u.1):Dt B k v none 0 [u]
 |some {h:Nat} {t:PT h} {ts:List (PT h)} (hw:Cf B k v h t ts):Dt B k v (some ⟨h,t⟩) h ts
def Dt.mono(I:A<=B){k:AA}{v:Val}{ts:List (PT h)}(N:Dt B k v T h ts):Dt A k v T h ts:=by
 cases N with
 |none u hu hb=>exact .none u hu (an I hb)
 |some N=>exact .some (N.mono I)
def Dt.height{k:AA}{v:Val}{ts:List (PT h)}(I:Dt B k v T h ts)(ok:Am T):h<=(AG T).length:=by
 cases I with
 |none u hu hb=>exact aw _
 |some I=>exact bY (G6 _ _ ok.1 ok.2.1)
inductive F1 (B:Nat) (k:AA) (v:Val):RT->RT->Prop
 |one {T:RT} {h:Nat} {a:PT h} (hw:Dt B k v T h [a]):F1 B k v T (some ⟨h,a⟩)
 |two {T:RT} {h:Nat} {a b:PT h} {c:PT (h+1)} (hw:Dt B k v T h [a,b]) (hc:c.2=[a,b]) (hb:B<=addr (h+1) c):F1 B k v T (some ⟨h+1,c⟩)
def Dt.ents{k:AA}{v:Val}{ts:List (PT h)}(I:Dt B k v T h ts)(ok:Am T):ts.flatMap (Proofs.YtahhllcdbjbpbaaGreatDoor.ents h)=AU (AG T) k v:=by
 cases I with
 | none u hu hb=>
   show u.2++[]=_;rw[hu];rfl
 |some I=>exact I.ents ok.1 ok.2.2
def Dt.ok{k:AA}{v:Val}{ts:List (PT h)}(I:Dt B k v T h ts)(ok:Am T):(∀u∈ts,Aj h u/\1<=size h u)/\(2<=ts.length->∀u∈ts,4<=size h u):=by
 cases I with
 | none u hu hb=>
   refine⟨λx N=>?_,λh=>by simp at h⟩;obtain rfl:x=u:=by simpa using N
   exact⟨show x.2.length<=8 by rw[hu];simp,show 1<=x.2.length by rw[hu];simp⟩
 |some I=>exact⟨λu hu=>⟨(I.ok ok.1).1 u hu |>.1,((I.ok ok.1).1 u hu).2.1⟩,(I.ok ok.1).2⟩
variable{T':RT}
def F1.ents{k:AA}{v:Val}(I:F1 B k v T T')(ok:Am T):AG T'=AU (AG T) k v:=by
 cases I with
 |one hw=>have:=hw.ents ok;simpa[AG]using this
 | two hw hc hb=>
   rename_i h a b c;have:=hw.ents ok;rw[<-this,<-hc];rfl
def F1.ok{k:AA}{v:Val}(N:F1 B k v T T')(ok:Am T):Am T':=by
 have hs:Sorted (AG T'):=by rw[N.ents ok];exact EU ok.sorted k v
 cases N with
 |one hw=>rename_i h a;exact⟨((hw.ok ok).1 a oO).1,((hw.ok ok).1 a oO).2,hs⟩
 | two hw hc hb=>
   rename_i h a b c;have h1:=hw.ok ok;refine⟨⟨by rw[hc];simp,by rw[hc];simp,λx I=>?_⟩,show 1<=c.2.length by rw[hc];simp,hs⟩;rw[hc]at I;exact⟨(h1.1 x I).1,h1.2 oO x I⟩
def Rd.GI{t:TypeId}(Z:AE w g t cs.toArray)(I:cs.length<=maxLen):Rd w (λb=>b=g) 1 ⟨some g,cs.length⟩ cs.length cs:=
 ⟨g,0,.some _ _ _ _ (ao _) I rfl,(dH _).symm,λj u N=>by rw[aF,Z.cell];simpa using N⟩
def UA(F:Nat->Prop)(T:RT)(k:AA)(v:Val)(w:AB)(e:AC)(w':AB):Prop:=
 ∃(h:Nat) (a:PT h) (r:Value) (rs:List (PT h)),e=.returned (.tuple #[ptr h a,r])/\((r=.pointer none/\rs=[a])\/∃b,r=ptr h b/\rs=[a,b])/\Dt w.heap.size k v T h rs/\(∀u∈rs,AJ w' (Up F w w') h u)/\Ext w w'
def Zw(hF:∀b,F b->b<w.heap.size)(Z:AV w F T)(ok:Am T)(N:(AG T).length<=1000000){k:AA}{v:Val}(I:k.size<=maxLen)(hv:RV w (Lt w) v sl so) :
  Calls prog 31 #[Aa T,B3 k v sl so] w (UA F T k v w):=by
 match T,Z,ok,N with
 | none,_,_,_=>
   refine(VA (nv:=.pointer none) (es:=[]) (λW hW=>(J5 W)) (λW hW=>(N0 W).mono ?_) List.Pairwise.nil oO hv I).mono ?_
   ·rintro e w' ⟨rfl,rfl⟩
    exact⟨Sl.none,[],rfl,rfl,OE.nil _ _,gz _⟩
   rintro e w' ⟨ts,rfl,h1,h2,h3⟩;obtain⟨u,rfl,hu⟩:=OK (h1.trans (show chunk (AU [] k v)=[[(k,v)]]from rfl));exact⟨0,u,_,_,rfl,.inl ⟨rfl,rfl⟩,.none u hu (h2 u oO).1,λx hx=>(h2 x hx).2.mono λi hi=>.inr hi,h3⟩
 | some ⟨h,t⟩,Z,ok,N=>
   refine(U0 I h w F t hF Z ok.1 ok.2.2 N hv).mono ?_;intro e w' p;obtain⟨a,r,rs,rfl,h1,h2,h3,h4⟩:=p.apart;exact⟨h,a,r,rs,rfl,h1,.some h2,h3,h4⟩
def RP(F:Nat->Prop)(T:RT)(k:AA)(v:Val)(w:AB)(e:AC)(w':AB):Prop:=
 ∃T',e=.returned (AO T')/\F1 w.heap.size k v T T'/\AV w' (Up F w w') T'/\Ext w w'
def OM(hF:∀b,F b->b<w.heap.size)(hT:AV w F T)(ok:Am T)(hc:(AG T).length<=1000000){k:AA}{v:Val}(d6:k.size<=maxLen)(hv:RV w (Lt w) v sl so) :
  Calls prog 15 #[AO T,k,AS v sl so] w (RP F T k v w):=by
 have b5:∀W,Ext w W->Calls prog 31 #[Aa T,B3 k v sl so] W (UA F T k v W):=λW hW=>
  Zw (λb hb=>ab (hF b hb) hW.size) (hT.agree (hW.agree hF)) ok hc d6 ((hv.agree (hW.agree λ_ h=>h)).mono λi hi=>ab hi hW.size)
 obtain⟨HW,HF,a3⟩:=Yc b5 hF ok;clear hF hT ok hv b5;go_in;go_wp2_with fail;have a9:Ext w (((w.alloc (.cells #[Aa T] 36)).alloc (.cells #[v.kind,.bool v.b,v.i,v.t,.slice sl.a v.l.length sl.c,.slice so.a v.ok.length so.c] 54)).alloc (.cells #[.pointer none] 36)):=(((gz w).alloc _ _).alloc _ _).alloc _ _;have d0:AE (((w.alloc (.cells #[Aa T] 36)).alloc (.cells #[v.kind,.bool v.b,v.i,v.t,.slice sl.a v.l.length sl.c,.slice so.a v.ok.length so.c] 54)).alloc (.cells #[.pointer none] 36)) (w.heap.size+1+1) 36 #[.pointer none]:=by
  have:=gB ((w.alloc (.cells #[Aa T] 36)).alloc (.cells #[v.kind,.bool v.b,v.i,v.t,.slice sl.a v.l.length sl.c,.slice so.a v.ok.length so.c] 54)) 36 #[.pointer none];simpa using this
 generalize d5:World.alloc _ _=W3 at *;have e3:W3.heap.size=w.heap.size+1+1+1:=by rw[<-d5];simp
 clear d5;refine(HW.o _ a9).mono ?_;rintro e I ⟨h,a,r,rs,rfl,hr,b8,b0,a2⟩;have a0:=d0.ext a2;have c8:=a9.trans a2;have q4:I.cell? ⟨w+1+1,0,none⟩=some (.pointer none):=a0.cell 0;have f4:=a0.frozen 0;have b4:=a0.lt;obtain⟨Z,c7,HX,e1,e0⟩:=Yf b8 b0 c8 a2 a0;have b7:∀W',¬Up F W3 W' (w.heap.size+1+1):=λW' hf=>by
  rcases hf with hf|hf
  .have:=HF.o _ hf;omega
  have:=hf.1;omega
 have d3:=hY b7;have a1:w.heap.size<=W3.heap.size:=oM
 clear d0 a0 b8 b0 c8 a9 a2 b7;rcases hr with⟨rfl,rfl⟩ |⟨b,rfl,rfl⟩
 ·go_wp2_with fail
  have q0:(I.setCell ⟨w+1+1,0,none⟩ (ptr h a)).cell? ⟨w+1+1,0,none⟩=some (ptr h a):=fm I _ _ q4;refine eU (v:=AO (some ⟨h,a⟩)) (by simp[results,results15,go_sem,q0];rfl) rfl ?_;refine⟨some ⟨h,a⟩,rfl,.one ?_,?_,HX.o.setCell (p:=⟨w+1+1,0,none⟩) (by show w.heap.size<=w.heap.size+1+1;omega) _⟩
  .exact Z.o.mono a1
  show AJ _ _ h a;refine((c7.o a oO).agree (gD I ⟨w+1+1,0,none⟩ _ (d3.o I))).mono λi hi=>hi.elim .inl λhi=>.inr ⟨Nat.le_trans a1 hi.1,by rw[eX];exact hi.2⟩
 have a6:Ext I (I.alloc (.cells #[ptr h a,ptr h b] 34)):=(gz _).alloc _ _;have c6:AE (I.alloc (.cells #[ptr h a,ptr h b] 34)) I.heap.size 34 (ptrs h [a,b]).toArray:=gB I 34 #[ptr h a,ptr h b];have e2:(I.alloc (.cells #[ptr h a,ptr h b] 34)).heap.size=I.heap.size+1:=oO
 go_wp2_with fail;change Calls _ _ _ (I.alloc (.cells #[ptr h a,ptr h b] 34)) _;generalize I.alloc (.cells #[ptr h a,ptr h b] 34)=W5 at *;have he:=Z.o.ents a3.o;have a5:=Z.o.ok a3.o;have a8:∀x∈[a,b],0<(ents h x).length:=λx hx=>ER h x (a5.1 x hx).1 (a5.1 x hx).2
 have b3:Sorted ([a,b].flatMap (ents h)):=by rw[he];exact EU a3.o.sorted k v
 have N:Kids W5 (Up F W3 W5) h [a,b]:=by
  refine⟨λb hb=>hb.elim (λh=>ab (HF.o b h) (by have:=HX.o.size;omega)) λh=>h.2,λx hx=>?_,Jg b3 a8,a8,λx hx=>by have:=G8 (a5.1 x hx).1;omega,by
   have:=Fq (AG T) k v;unfold cnt;rw[he];omega,by have:=Z.o.height a3.o;omega⟩
  exact((c7.o x hx).agree (a6.agree λi hi=>hi.elim (λh=>ab (HF.o i h) HX.o.size) λh=>h.2)).mono λi hi=>hi.elim .inl λhi=>.inr ⟨hi.1,oM⟩
 have b6:=IG (w:=W5) (n:=2) (s:=⟨some I,2⟩) ((Rd.GI c6 (by simp[ptrs];decide)).mono λi hi=>by subst hi;omega) rfl N oO oO;have a7:=hY a6;clear a6 c6 he a5 a8 b3 N;refine b6.mono ?_;rintro e w6 ⟨c,rfl,d9,d7,d4,a4⟩;have d8:=hY d4;have q6:w6.cell? ⟨w+1+1,0,none⟩=some (.pointer none):=((a7.o.trans a4).cell b4).trans q4;have f6:w6.frozen? ⟨w+1+1,0,none⟩=false:=((a7.o.trans a4).frozen b4).trans f4;have b9:=hY a4;clear b6 d4 q4 f4 a4;go_wp2_with fail;have q0:(w6.setCell ⟨w+1+1,0,none⟩ (ptr (h+1) c)).cell? ⟨w+1+1,0,none⟩=some (ptr (h+1) c):=fm w6 _ _ q6;refine eU (v:=AO (some ⟨h+1,c⟩)) (by simp[results,results15,go_sem,q0];rfl) rfl ?_;have c9:w.heap.size<=W5.heap.size:=by have:=HX.o.size;omega
 refine⟨some ⟨h+1,c⟩,rfl,.two (Z.o.mono a1) d9 (an c9 d7),?_,((HX.o.trans a7.o).trans b9.o).setCell (p:=⟨w+1+1,0,none⟩) (by show w.heap.size<=w.heap.size+1+1;omega) _⟩;show AJ _ _ (h+1) c;refine(d8.o.agree (gD w6 ⟨w+1+1,0,none⟩ _ ?_)).mono λi hi=>?_
 ·rintro (hf | hf)
  .exact d3.o W5 hf
  have:W5.heap.size<=w.heap.size+1+1:=hf.1;omega
 rcases hi with(hi|hi)|hi
 .exact .inl hi
 .exact .inr ⟨Nat.le_trans a1 hi.1,by rw[eX];exact ab hi.2 b9.o.size⟩
 exact .inr ⟨Nat.le_trans c9 hi.1,by rw[eX];exact hi.2⟩
def RV.flat(w:AB)(F:Nat->Prop)(I:Int)(b:Bool)(i:Int)(t:AA)(Z:(Lit.int .i64 I).wf=true)(hi:(Lit.int .i64 i).wf=true)(N:t.size<=maxLen):RV w F (.mk I b i t [] [] []) Sl.none Sl.none:=
 .mk 0 0 0 0 (λ_=>(Sl.none,Sl.none)) (λ_=>(Sl.none,Sl.none)) (.nil _ _) (.nil _ _) rfl (λ_ _ h=>by simp at h) (λ_ _ h=>by simp at h) (λ_ _ h=>by simp at h) (λ_ _ h=>by simp at h) (λ_ _ h=>by simp at h) Z hi N oO oO
def N6(es:List AD)(k:AA)(hs:Sorted es):(∀e∈es.take (Aq es k),klt e.1 k=true)/\(∀e∈es.drop (Aq es k),klt e.1 k=false):=by
 have e1:es.take (Aq es k)=es.takeWhile λe=>klt e.1 k:=(cO.1 (List.takeWhile_prefix (l:=es) (λe:AD=>klt e.1 k))).symm
 have e2:es.drop (Aq es k)=es.dropWhile λe=>klt e.1 k:=by
  have h1:=aX (Aq es k) es;rw[e1]at h1;have h2:=List.takeWhile_append_dropWhile (p:=λe:AD=>klt e.1 k) (l:=es);exact List.append_cancel_left (h1.trans h2.symm)
 refine⟨λe I=>?_,λe I=>?_⟩
 ·rw [e1] at I
  exact dy.1 (List.all_takeWhile (l:=es) (p:=λe:AD=>klt e.1 k)) e I
 have N:Sorted (es.drop (Aq es k)):=dm (eu _ _) hs;rw[e2]at I N;cases hd:es.dropWhile λe=>klt e.1 k with
 |nil=>rw[hd]at I;cases I
 | cons x xs=>
   rw[hd]at I N;have Z:klt x.1 k=false:=by
    have:=List.head?_dropWhile_not (λe:AD=>klt e.1 k) es;rw[hd]at this;simpa using this
   rcases aH.1 I with rfl|I
   .exact Z
   have:=(aZ.1 N).1 e I;cases hc:klt e.1 k
   .rfl
   rw[Ck this hc]at Z;cases Z
def I9{es:List AD}(hs:Sorted es)(k:AA):AH es k=(es[Aq es k]?).bind λe=>if e.1=k then some e.2 else none:=by
 obtain⟨hA,Z⟩:=N6 es k hs;have I:Sorted (es.drop (Aq es k)):=dm (eu _ _) hs
 conv=>lhs;rw[<-aX (Aq es k) es]
 rw[VG hA,<-cA (Aq es k),<-bm,cA];cases hd:es.drop (Aq es k)with
 |nil=>rfl
 | cons x xs=>
   rw[hd]at I Z;simp only[List.getElem?_cons_zero,Option.bind_some,AH];by_cases N:x.1=k
   .simp [N]
   simp only[N,if_false];refine JA λe he=>?_
   have h1:=Ie (Z x (aD ..)) N;have h2:=Ck h1 ((aZ.1 I).1 e he);rintro rfl;rw[BI]at h2;cases h2
def Uj{es:List AD}(hs:Sorted es)(k:AA):Ac es k=if(es[Aq es k]?).map Prod.fst=some k then es.take (Aq es k)++es.drop (Aq es k+1)else es:=by
 obtain⟨N,I⟩:=N6 es k hs
 conv=>lhs;rw[<-aX (Aq es k) es]
 rw[OF N,nR I,List.head?_drop,List.tail_drop];split
 .rfl
 rw[aX]
def Dn(o:Option Val)(w:AB)(e:AC)(w':AB):Prop:=
 ∃sl so,e=.returned (.tuple #[AS (o.getD zeroV) sl so,.bool o.isSome])/\Ext w w'/\Es w' (In w.heap.size w'.heap.size) (o.getD zeroV) sl so
def kL{k k':AA}{v:Val}{i:Nat}(h1:W.cell? b1=some nv)(h2:W.cell? b2=some (.string k))
  (hp:∃p,nv=.pointer p) (Z:Calls prog 171 #[nv,i] W (JL k' v W)) :
  Calls prog 170 #[i,.pointer (some b1),.pointer (some b2)] W λe w'=>e=.returned (.bool !(klt k' k))/\Ext W w':=by
 obtain⟨p,rfl⟩:=hp;have I:=fc W _ h2;go_in;go_wp2_with fail;refine Z.mono ?_;rintro e w1 ⟨sl,so,rfl,N,-⟩;have q2:=(N.cell I).trans h2;have l2:b2<w1:=ab I N.size;have HX:=hY N;clear Z N h2;go_wp2;go_ret;exact⟨rfl,HX.o.alloc _ _⟩
structure IR(w:AB)(nv:Value)(k:AA)(W:AB):Prop where
 ext:Ext w W
 b0:AE W w.heap.size 34 #[nv]
 b1:AE W (w.heap.size+1) 9 #[.string k]
 b2:AE W (w.heap.size+1+1) 54 #[.int .i64 0,.bool false,.int .i64 0,.string ByteArray.empty,.slice none 0 0,.slice none 0 0]
variable{W':AB}
def IR.step{k:AA}(h:IR w nv k W)(I:Ext W W'):IR w nv k W':=⟨h.ext.trans I,h.b0.ext I,h.b1.ext I,h.b2.ext I⟩
def R1(w:AB)(i:Int):Calls prog 171 #[.pointer none,i] w λe w'=>e=.returned (.tuple #[B3 ByteArray.empty zeroV Sl.none Sl.none,false])/\Ext w w':=by
 go_in;go_wp2_with fail;refine eU (v:=.tuple #[B3 ByteArray.empty zeroV Sl.none Sl.none,false]) (by simp[results,results171,go_sem];exact⟨rfl,rfl,rfl,rfl,rfl,rfl,rfl⟩) rfl ⟨rfl,(gz w).alloc _ _⟩
def Rp{es:List AD}(hp:∃p,nv=.pointer p)(hh:∀W,Ext w W->Calls prog 48 #[nv] W λe w'=>e=.returned (.int .i64 0)/\W=w')
  (hz:∀W,Ext w W->Calls prog 118 #[nv] W λe w'=>e=.returned es.length/\∃q,w'=W.drewN q)
  (he:∀W,Ext w W->∀(i:Nat) (e:AD),es[i]? = some e->Calls prog 171 #[nv,i] W (JL e.1 e.2 W))
  (c9:∀W,Ext w W->∀i:Nat,es.length<=i->Calls prog 171 #[nv,i] W λe w'=>e=.returned (.tuple #[B3 ByteArray.empty zeroV Sl.none Sl.none,false])/\Ext W w')
  (hs:Sorted es) (hl:es.length<=1000) (k:AA):Calls prog 143 #[nv,k] w (Dn (AH es k) w):=by
 obtain⟨HH,HZ,HE,d4,HS⟩:=Yf hh hz he c9 hs;obtain⟨pp,rfl⟩:=hp;clear hh hz he c9 hs;have d0:∀W,IR w (.pointer pp) k W->Calls prog 78 #[.int .i64 es.length,.func (.func 170) #[] #[.pointer (some w),.pointer (some ⟨w+1,0,none⟩)]] W (It es.length (λi=>!(klt ((es[i]?.map Prod.fst).getD ByteArray.empty) k)) W):=by
  intro W hW;refine Jy 170 _ _ es.length _ W (fq func170 kM rfl) oM ?_ ?_
  ·intro i W' hi e2
   obtain⟨x,hx⟩:∃x,es[i]? = some x:=⟨_,ac hi⟩;rw[hx];have hS:=hW.step e2;exact kL (hS.b0.cell 0) (hS.b1.cell 0) ⟨_,rfl⟩ (HE.o W' hS.ext i x hx)
  intro i j e3 hj a3;by_cases b5:i=j
  .subst b5;exact a3
  obtain⟨x,hx⟩:∃x,es[i]? = some x:=⟨_,ac oM⟩;obtain⟨y,hy⟩:∃y,es[j]? = some y:=⟨_,ac hj⟩;have d7:=Iv HS.o (i:=i) (j:=j) oM hx hy;rw[hx]at a3;rw[hy];simp only[Option.map_some,Option.getD_some,Bool.not_eq_true']at a3 ⊢;cases e0:klt y.1 k
  .rfl
  have:=Ck d7 e0;rw[a3]at this;cases this
 go_in;go_wp2_with fail;generalize c7:World.alloc _ _=W0;obtain⟨a1,d6,a8,b3,b9⟩:=Ch w _ _ _ _ _ _ W0 c7;have a9:IR w (.pointer pp) k W0:=⟨a1,a8,b3,b9⟩;have b6:=hY a9;have q0:W0.cell? w=some (.pointer pp):=a8.cell 0;clear c7 a8 b3 b9 a9;refine(HH.o W0 a1).mono ?_;rintro e w1 ⟨rfl,rfl⟩;go_wp2_with fail;refine(HZ.o W0 a1).mono ?_;rintro e w1 ⟨rfl,q,rfl⟩;go_wp2_with fail;refine(d0 _ (b6.o.step ((gz _).drewN q))).mono ?_;rintro e w1 ⟨p,rfl,hp,c8,b8,b4⟩;have a7:=b6.o.step (((gz _).drewN q).trans b4);have Z:=hY a7;have r0:w1.cell? w=some (.pointer pp):=a7.b0.cell 0;have a4:Aq es k=p:=Ib hp (λi e hi he=>by
   have:(!(klt ((es[i]?.map Prod.fst).getD ByteArray.empty) k))=false:=c8 i hi;rw[he]at this;simpa using this) (λe he=>by
   have:(!(klt ((es[p]?.map Prod.fst).getD ByteArray.empty) k))=true:=b8 p (ao _) (ai.1 he).1;rw[he]at this;simpa using this)
 have a5:AH es k=(es[p]?).bind λe=>if e.1=k then some e.2 else none:=by rw[I9 HS.o,a4]
 have HG:=hY a5;clear c8 b8 a4 d0 b4 a7 q0 a5 a1 d6;go_wp2_with fail;by_cases d9:p<es.length
 ·obtain ⟨x,hx⟩:∃ x,es[p]? = some x:=⟨_,ac d9⟩
  have hc:=HE.o w1 Z.o.ext p x hx;have HX:=hY hx;clear hx;refine hc.mono ?_;rintro e w2 ⟨sl,so,rfl,a0,d3⟩;have I:=Z.o.step a0;have a2:=hY I;have q1:w2.cell? ⟨w+1,0,none⟩=some (.string k):=I.b1.cell 0;obtain⟨c0,c1,c2,c3,c4,c5⟩:=I.b2.c6;have f2:=I.b2.frozen;have l2:=I.b2.lt;have l1:w.heap.size+1<w2.heap.size:=oM
  have a6:=hY d3;clear I a0 d3 hc;by_cases hk:x.1=k
  ·have d8:(x.1.toList == k.toList)=true:=by rw [beq_toList];simpa using hk
   have hg:AH es k=some x.2:=by rw[HG.o,HX.o];simp[hk]
   have N:=hY hg;clear hk hg;go_wp2_with fail;refine eU (v:=.tuple #[AS x.2 sl so,true]) (by simp[results,results143,go_sem,c0,c1,c2,c3,c4,c5,l2]) rfl ?_;have hE:=a2.o.ext.BN (b:=w+1+1) oM 0 x.2 sl so;have hr:=(a6.o.mono (G:=In w.heap.size w2.heap.size) λi hi=>⟨Nat.le_trans Z.o.ext.size hi.1,hi.2⟩);have d5:RV w2 (λb=>In w.heap.size w2.heap.size b/\b≠w.heap.size+1+1) x.2 sl so:=a6.o.mono λi hi=>⟨⟨Nat.le_trans Z.o.ext.size hi.1,hi.2⟩,by have:=Z.o.b2.lt;have:=hi.1;omega⟩
   have e1:=d5.agree (Eo w2 (w.heap.size+1+1) 0 x.2 sl so (F:=λb=>In w.heap.size w2.heap.size b/\b≠w.heap.size+1+1) (λh=>h.2 rfl));refine⟨sl,so,by rw[N.o];rfl,hE.alloc _ _,?_,by rw[N.o];exact a6.o.cap⟩;rw[N.o];refine(e1.agree (Agree.alloc _ _ (λb hb=>by rw[Ip];exact hb.1.2))).mono λi hi=>⟨hi.1.1,?_⟩
   have:=hi.1.2;simp;omega
  have d8:(x.1.toList==k.toList)=false:=by rw[beq_toList];simpa using hk
  have hg:AH es k=none:=by rw[HG.o,HX.o];simp[hk]
  have N:=hY hg;clear hk hg;go_wp2_with fail;refine eU (v:=.tuple #[AS zeroV Sl.none Sl.none,false]) (by simp[results,results143,go_sem,c0,c1,c2,c3,c4,c5,l2];exact⟨rfl,rfl,rfl,rfl,rfl,rfl⟩) rfl ?_;have hE:=a2.o.ext.BN (b:=w+1+1) oM 0 zeroV Sl.none Sl.none;exact⟨Sl.none,Sl.none,by rw[N.o];rfl,hE.alloc _ _,by rw[N.o];exact⟨RV.flat _ _ _ _ _ _ rfl rfl oN,rfl⟩⟩
 have b7:es[p]? = none:=aN oM;have hg:AH es k=none:=by rw[HG.o,b7];rfl
 have hc:=d4.o w1 Z.o.ext p oM;have N:=hY hg;clear hg b7;refine hc.mono ?_;rintro e w2 ⟨rfl,a0⟩;have I:=Z.o.step a0;have a2:=hY I;obtain⟨c0,c1,c2,c3,c4,c5⟩:=I.b2.c6;have f2:=I.b2.frozen;have l2:=I.b2.lt;clear I a0 hc;go_wp2_with fail;refine eU (v:=.tuple #[AS zeroV Sl.none Sl.none,false]) (by simp[results,results143,go_sem,c0,c1,c2,c3,c4,c5,l2];exact⟨rfl,rfl,rfl,rfl,rfl,rfl⟩) rfl ?_;have hE:=a2.o.ext.BN (b:=w+1+1) oM 0 zeroV Sl.none Sl.none;exact⟨Sl.none,Sl.none,by rw[N.o];rfl,hE.alloc _ _,by rw[N.o];exact⟨RV.flat _ _ _ _ _ _ rfl rfl oN,rfl⟩⟩
def get_nil(w:AB)(k:AA):Calls prog 143 #[.pointer none,k] w (Dn none w):=
 Rp (es:=[]) ⟨_,rfl⟩ (λW _=>J5 W) (λW _=>(SK W).mono λe w' ⟨h1,h2⟩=>⟨h1,0,h2.symm⟩) (λW _ i e h=>by simp at h) (λW _ i _=>R1 W i) List.Pairwise.nil oO k
def je{t:PT 0}(Z:AJ w (Lt w) 0 t)(ok:Aj 0 t)(hs:Sorted (ents 0 t))(k:AA):Calls prog 143 #[ptr 0 t,k] w (Dn (AH (ents 0 t) k) w):=by
 have N:(ents 0 t).length<=8:=ok;exact Rp ⟨_,rfl⟩ (λW I=>Dw (Z.ext I)) (λW I=>LX (Z.ext I) (an N oN)) (λW I i e h=>TS (Z.ext I) h) (λW I i h=>VW (Z.ext I) (.inr (Int.ofNat_le.2 h))) hs (an N oN) k
def ZA{k:AA}
  (ih:∀(w:AB) (F:Nat->Prop) (t:PT h),(∀b,F b->b<w.heap.size)->AJ w F h t->Aj h t->Sorted (ents h t)->(ents h t).length<=1000000->Calls prog 143 #[ptr h t,k] w (Dn (AH (ents h t) k) w))
 {t:PT (h+1)} (hF:∀ b,F b→b<w.heap.size) (hn:AJ w F (h+1) t) (ok:Aj (h+1) t) (hs:Sorted (ents (h+1) t)) (hc:(ents (h+1) t).length≤1000000) :
  Calls prog 143 #[ptr (h+1) t,k] w (Dn (AH (ents (h+1) t) k) w):=by
 have a1:=Er ok;have hh:h+1<1000000:=ab (G6 (h+1) t ok (by have:=ok.1;show 1<=t.2.length;omega)) hc;obtain⟨N,I,hA,hC⟩:=FM (h:=h) (ks:=t.2) hs a1 (by have:=ok.1;omega) k;have a3:=ap I;have f5:=(ai.1 I).1;have e0:=ok.2.1;have b0:∀x∈t.2,AJ w F h x:=hn.2.choose_spec.2.2;have a5:(ents h N).length<=1000000:=an (by
  show _<=(t.2.flatMap (ents h)).length;rw[Ef I];simp only[List.flatMap_append,List.flatMap_cons,List.length_append];omega) hc
 have b9:AH (ents (h+1) t) k=AH (ents h N) k:=Lb I hA hC;rw[b9];have c7:∀W,Ext w W->Calls prog 143 #[ptr h N,k] W (Dn (AH (ents h N) k) W):=λW hW=>
  ih W F N (λb hb=>ab (hF b hb) hW.size) ((b0 N a3).agree (hW.agree hF)) (ok.2.2 N a3).1 (Dh hs N a3) a5
 generalize AH (ents h N) k=og at *;clear b9;obtain⟨HF,HN,HS,HP,e3,e2,d0⟩:=Yh hF hn hs a1 c7 b0 I;have g5:(0:Int)<(h:Int)+1:=oM
 clear hF hn ok hs hc a1 c7 b0 I hA hC ih a5;go_in;go_wp2_with fail;generalize d6:World.alloc _ _=W0;obtain⟨a9,e8,b5,b7,b3⟩:=Ch w _ _ _ _ _ _ W0 d6;have b6:IR w (ptr (h+1) t) k W0:=⟨a9,b5,b7,b3⟩;have e1:=hY b6;have q0:W0.cell? w=some (ptr (h+1) t):=b5.cell 0;clear d6 b5 b7 b3 b6;have a8:AJ W0 F (h+1) t:=HN.o.agree (a9.agree HF.o);refine(Dw a8).mono ?_;rintro e w1 ⟨rfl,rfl⟩;have a5:=FZ a8 oM;clear a8;go_wp2_with fail;refine a5.mono ?_;rintro e w1 ⟨s',rfl,a2,d4⟩;have a0:=e1.o.step d4;have a6:=hY a0;have b4:Rd w1 (Lt w1) 1 s' t.2.length (ptrs h t.2):=(gF a2).mono λi hi=>hi.2
 obtain⟨g,d5,rfl,g9,g0,g7,b8⟩:=Dg a2 oM;obtain⟨i,hi⟩:∃i,A6 h t.2 k=i:=⟨_,rfl⟩;have c9:∀W,Ext w1 W->Calls prog 55 #[.slice (some g) t.2.length d5,k] W λe w'=>e=.returned (.int .i64 i)/\Ext W w':=λW hW=>by
  rw[<-hi];exact M7 (s:=⟨some g,d5⟩) ((b4.agree (hW.agree λ_ h=>h)).mono λi hi=>ab hi hW.size) (λx hx=>(e2.o x hx).agree ((a0.ext.trans hW).agree HF.o)) (λb hb=>ab (HF.o b hb) (a0.ext.trans hW).size) HP.o k HS.o oM
 have I:=d0.o;rw[hi]at I f5;obtain⟨b,o,d8,f7,-,-,d3⟩:=b4.EB I;obtain⟨rfl,rfl⟩:g=b/\0=o:=by simpa using d8
 have kc:w1.cell? ⟨g,i,none⟩=some (ptr h N):=by simpa using d3
 have k1:w1.cell? ⟨w+1,0,none⟩=some (.string k):=a0.b1.cell 0;have c8:g<w1:=f7;have g8:¬g=w.heap.size+1+1:=oM
 have f8:¬w.heap.size+1+1=g:=oM
 clear e8;have l1:w.heap.size+1<w1.heap.size:=a0.b1.lt;have f9:(i:Int)<(t.2.length:Int):=oM
 have i0:(0:Int)<=(i:Int):=oM
 obtain⟨f1,i1⟩:=Yb c9 hi;clear c9 hi I d3 d8 b8 a2 b4 d4 a9 a0 a5 q0;go_wp2_with fail;go_region_held3 (λw'=>w'.cell? ⟨g,i,none⟩=some (ptr h N)/\w'.cell? ⟨w+1,0,none⟩=some (.string k)) (first |(with_reducible exact⟨g3,k3⟩) |(with_reducible exact⟨g2,k2⟩)|go_keep)
  (first
    |(go_at_call 55;refine(f1.o _ ?_).mono ?_;(exact((gz _).drew));rintro e w2 ⟨rfl,Z⟩;have g2:=(Z.cell (o:=i) c8).trans kc;have k2:=(Z.cell (o:=0) l1).trans k1;have f6:=ab c8 Z.size;have l2:=ab l1 Z.size)
    |(go_at_call 143;refine(e3.o _ ?_).mono ?_;(exact a6.o.ext.trans (((gz _).drew).trans Z));rintro e w3 ⟨sl,so,rfl,a4,d9⟩;have g3:=(a4.cell (o:=i) f6).trans g2;have k3:=(a4.cell (o:=0) l2).trans k2;have a7:=a6.o.step ((((gz _).drew).trans Z).trans a4);obtain⟨c0,c1,c2,c3,c4,c5⟩:=a7.b2.c6;have f3:=a7.b2.frozen;have e6:=hY a7;have f0:=hY a4;have d7:=hY d9;have e4:=hY Z;clear a7 a4 d9 Z))
 go_wp2_with fail;refine eU (v:=.tuple #[AS (og.getD zeroV) sl so,og.isSome]) (by simp[results,results143,go_sem,c0,c1,c2,c3,c4,c5]) rfl ?_;have hE:=e6.o.ext.BN (b:=w+1+1) oM 0 (og.getD zeroV) sl so;have b3:=a6.o.b2.lt;have f4:=e4.o.size;have g4:=f0.o.size;have g6:=a6.o.ext.size;rw[fI]at f4;have e7:RV w3 (λb=>In w.heap.size w3.heap.size b/\b≠w.heap.size+1+1) (og.getD zeroV) sl so:=d7.o.mono λi hi=>⟨⟨by have:=hi.1;omega,hi.2⟩,by have:=hi.1;omega⟩
 have f2:=e7.agree (Eo w3 (w.heap.size+1+1) 0 (og.getD zeroV) sl so (F:=λb=>In w.heap.size w3.heap.size b/\b≠w.heap.size+1+1) (λh=>h.2 rfl));exact⟨sl,so,rfl,hE,f2.mono (λi hi=>⟨hi.1.1,by have:=hi.1.2;simpa using this⟩),d7.o.cap⟩
def P0{k:AA}:∀(h:Nat) (w:AB) (F:Nat->Prop) (t:PT h),(∀b,F b->b<w.heap.size)->AJ w F h t->Aj h t->Sorted (ents h t)->(ents h t).length<=1000000->Calls prog 143 #[ptr h t,k] w (Dn (AH (ents h t) k) w)
 |0,w,F,t,hF,hn,ok,hs,_=>je (hn.mono hF) ok hs k
 |h+1,w,F,t,hF,hn,ok,hs,hc=>ZA (λw F t a b c d e=>P0 h w F t a b c d e) hF hn ok hs hc
def L5{b lo:Nat}{I:Option Val}(Z:Ext w w3)(hb:w<=b)(a0:b<lo)(N:Es w3 (In lo w3.heap.size) (I.getD zeroV) sl so) :
  Dn I w (.returned (.tuple #[AS (I.getD zeroV) sl so,I.isSome])) (BN w3 b 0 (I.getD zeroV) sl so):=by
 refine⟨sl,so,rfl,Z.BN hb _ _ _ _,?_,N.cap⟩;rw[Ip];exact(N.agree (Eo w3 b 0 (I.getD zeroV) sl so oM)).mono λi hi=>⟨oM,hi.2⟩
def CH(w:AB)(I N:TypeId)(c0 c1:Array Value):∀W,(w.alloc (.cells c0 I)).alloc (.cells c1 N)=W->
  Ext w W/\W.heap.size=w.heap.size+2/\AE W w.heap.size I c0/\AE W (w.heap.size+1) N c1:=by
 rintro W rfl;refine⟨((gz w).alloc _ _).alloc _ _,oO,(gB w I c0).alloc _,?_⟩;have h:=gB (w.alloc (.cells c0 I)) N c1;rw[eQ]at h;exact h
def X2(hF:∀b,F b->b<w.heap.size)(N:AV w F T)(ok:Am T)(I:(AG T).length<=1000000)(k:AA) :
  Calls prog 143 #[Aa T,k] w (Dn (AH (AG T) k) w):=by
 match T,N,ok,I with
 |none,_,_,_=>exact get_nil w k
 |some ⟨h,t⟩,N,ok,I=>exact P0 h w F t hF N ok.1 ok.2.2 I
def Rs(hF:∀b,F b->b<w.heap.size)(hT:AV w F T)(ok:Am T)(hc:(AG T).length<=1000000)(k:AA) :
  Calls prog 103 #[AO T,k] w (Dn (AH (AG T) k) w):=by
 have a0:∀W,Ext w W->Calls prog 143 #[Aa T,k] W (Dn (AH (AG T) k) W):=λW hW=>
  X2 (λb hb=>ab (hF b hb) hW.size) (hT.agree (hW.agree hF)) ok hc k
 generalize AH (AG T) k=og at *;have HW:=hY a0;clear hF hT ok a0;go_in;go_wp2_with fail;generalize a1:World.alloc _ _=W0;obtain⟨I,a2,-,Z⟩:=CH w _ _ _ _ W0 a1;obtain⟨HZ,a4⟩:=Yb a2 I;clear a1 a2;refine(HW.o W0 I).mono ?_;rintro e w1 ⟨sl,so,rfl,N,a3⟩;have hb:=Z.ext N;obtain⟨c0,c1,c2,c3,c4,c5⟩:=hb.c6;have f2:=hb.frozen;obtain⟨a5,a6⟩:=Yb N a3;clear hb Z N a3 I;go_wp2_with fail;refine eU (v:=.tuple #[AS (og.getD zeroV) sl so,og.isSome]) (by simp[results,results103,go_sem,c0,c1,c2,c3,c4,c5]) rfl ?_;exact L5 (a4.o.trans a5.o) (b:=w+1) (lo:=W0) oM (by rw[HZ.o];omega) a6.o
inductive Fs:List AD->RT->Prop
 |nil:Fs [] none
 |snoc {es:List AD} {T T':RT} {B:Nat} {k:AA} {v:Val} (h:Fs es T) (hp:F1 B k v T T'):Fs (es++[(k,v)]) T'
def A0(es:List AD)(l:List AD):List AD:=l.foldl (λm e=>AU m e.1 e.2) es
def I4(es l:List AD)(e:AD):A0 es (l++[e])=AU (A0 es l) e.1 e.2:=by simp[A0]
def FI(l:List AD):∀es:List AD,(A0 es l).length<=es.length+l.length:=by
 induction l with
 |nil=>intro es;exact ao _
 | cons a l ih=>
   intro es;have:=ih (AU es a.1 a.2);have h2:=Fq es a.1 a.2;simp only[A0,List.foldl_cons,List.length_cons]at *;omega
def Fs.both{l:List AD}(h:Fs l T):(Am T)/\AG T=A0 [] l:=by
 induction h with
 |nil=>exact⟨trivial,rfl⟩
 |snoc h hp ih=>exact⟨hp.ok ih.1,by rw[hp.ents ih.1,ih.2,I4]⟩
inductive DW (B:Nat) (k:AA):RT->RT->Prop
 |no {T:RT} (h:AH (AG T) k=none):DW B k T T
 |same {h:Nat} {t u:PT h} (hg:(AH (ents h t) k).isSome=true) (hd:C9 B k h t u) (hp:0<(ents h u).length) (h2:h=0\/2<=size h u):DW B k (some ⟨h,t⟩) (some ⟨h,u⟩)
 |gone {t u:PT 0} (hg:(AH (ents 0 t) k).isSome=true) (hd:C9 B k 0 t u) (h0:ents 0 u=[]):DW B k (some ⟨0,t⟩) none
 |down {h:Nat} {t:PT (h+1)} {u:PT h} (hg:(AH (ents (h+1) t) k).isSome=true) (hd:D3 B k h (C9 B k h) t.2 [u]):DW B k (some ⟨h+1,t⟩) (some ⟨h,u⟩)
def DW.mono(I:A<=B){k:AA}(hd:DW B k T T'):DW A k T T':=by
 cases hd with
 |no h=>exact .no h
 |same hg hd hp h2=>exact .same hg (hd.mono I) hp h2
 |gone hg hd h0=>exact .gone hg (hd.mono I) h0
 |down hg hd=>exact .down hg (hd.mono I λ_ _ N=>N.mono I)
def DW.ents{k:AA}(hd:DW B k T T')(ok:Am T):AG T'=Ac (AG T) k:=by
 cases hd with
 |no h=>exact(Ta h).symm
 |same hg hd hp h2=>exact hd.ents ok.1 ok.2.2
 |gone hg hd h0=>exact h0.symm.trans (hd.ents ok.1 ok.2.2)
 | down hg hd=>
   rename_i h t u;have I:=ok.1;have:=hd.ents ok.2.2 (Er I) (by have:=I.1;omega) λx y N Z=>Z.ents (I.2.2 x N).1 (Dh ok.2.2 x N)
   rw[bc,List.flatMap_nil,aY]at this;exact this
def JS{k:AA}{t:PT (h+1)}{I:List (PT h)}(hd:D3 B k h (C9 B k h) t.2 I)(ok:Aj (h+1) t)(hs:Sorted (ents (h+1) t))(hg:(AH (ents (h+1) t) k).isSome=true) :
  (∀u∈I,Aj h u/\4<=size h u)/\I.length<=t.2.length/\t.2.length<=I.length+1:=by
 refine hd.ok ok.2.2 ok.1 λx y hx Z hr=>?_
 obtain⟨a0,N,hA,hC⟩:=FM (h:=h) (ks:=t.2) hs (Er ok) (by have:=ok.1;omega) k;rw[Z]at N;simp only[Option.some.injEq]at N;subst N;have:=hr.ok (ok.2.2 x hx).1 (ok.2.2 x hx).2 (Dh hs x hx) (by rw[<-Lb Z hA hC];exact hg);exact⟨this.1,this.2.1⟩
def DW.ok{k:AA}(hd:DW B k T T')(ok:Am T):Am T':=by
 have hs:Sorted (AG T'):=by rw[hd.ents ok];exact EI ok.sorted k
 cases hd with
 |no h=>exact ok
 | same hg hd hp h2=>
   rename_i h t u;cases h with
   | zero=>
     have h1:=hd.1;have:(Ac t.2 k).length<=t.2.length:=(Fz t.2 k).length_le;have o:t.2.length<=8:=ok.1;exact⟨show u.2.length<=8 by rw[h1];omega,hp,hs⟩
   | succ h=>
     obtain⟨h1,-⟩:=hd;obtain⟨a,b,c⟩:=JS h1 ok.1 ok.2.2 hg;have h2:2<=u.2.length:=h2.resolve_left oM;have I:=ok.1.2.1;exact⟨⟨h2,oM,a⟩,show 1<=u.2.length by omega,hs⟩
 |gone hg hd h0=>trivial
 | down hg hd=>
   obtain⟨a,b,c⟩:=JS hd ok.1 ok.2.2 hg;rename_i h t u;have:=a u (aV.2 rfl);exact⟨this.1,oM,hs⟩
end Go.Proofs.YtahhllcdbjbpbaaGreatDoor
