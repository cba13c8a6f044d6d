/- What the theorem needs of the texts Inner, Which, WithP, DelP, CmpP, DeleteE, DeleteN, St, With, InsertN, With2, Put, Trees, Get, BuiltP, DelT: no condition of its own. -/
import Derived.Test.YtkjkafgnnoidpaaGreatDoorPga
set_option linter.unusedVariables false
set_option linter.unusedSimpArgs false
set_option linter.unnecessarySimpa false
set_option maxRecDepth 100000
set_option maxHeartbeats 2000000
namespace Go.Proofs.YtkjkafgnnoidpaaGreatDoor
open Go.Proofs.Tryz
open Go.RowKit
variable{w:World}{F:Nat->Prop}{h:Nat}{s:Sl}
theorem Rd.Qc4{ks:List (PT h)}(D:Rd w F 1 s ks.length (ptrs h ks)){i:Nat}{k:PT h}(z:ks[i]? = some k) :
  ∃b o,s.a=some ⟨b,o,none⟩/\F b/\ks.length<=s.c/\s.c<=maxLen/\w.cell? ⟨b,o+i,none⟩=some (ptr h k):=by
 obtain⟨b,o,h1,h2,I⟩:=D;have hi:i<ks.length:=(ah.1 z).1;obtain⟨N,L,J⟩:=h1.eq (by omega);exact⟨b,o,N,h1.fits (by omega),L,J,I i _ (by rw[ptrs,ao,z];rfl)⟩
theorem Quf(w:World)(a b c:Nat):(w.drewN (a+b)).drewN c=w.drewN (a+(b+c)):=by rw[World.drewN_drewN,bF]
variable{G:Nat->Prop}
theorem QmR{t u:PT h}(D:IsN w F h t)(hu:IsN w G h u):Calls prog 154 #[ptr h t,ptr h u] w λe w'=>e=.returned (.bool (klt (QbM (ents h t)) (Qaw (ents h u))))/\∃q,w'=w.drewN q:=by
 obtain⟨-,U,X,Z,nk,-,I⟩:=D.cells;obtain⟨-,-,-,-,-,Y,-⟩:=I.c7;obtain⟨-,J,R,N,L,-,z⟩:=hu.cells;obtain⟨-,-,-,-,h4,-,-⟩:=z.c7;clear I z D hu;go_in;go_wp2_with fail;go_quiet (fail);go_wp2;go_ret;exact⟨rfl,_,rfl⟩
def QcS(h:Nat)(ks:List (PT h)):Prop:=∀i x y,ks[i]? = some x->ks[i+1]? = some y->klt (QbM (ents h x)) (Qaw (ents h y))=true
theorem QcS.take{xs:List (PT h)}(I:QcS h xs)(m:Nat):QcS h (xs.take m):=λi x y D z=>by
 rw[bg]at D z;split at D<;>split at z
 .exact I i x y D z
 all_goals first|cases D|cases z
theorem QcS.drop{xs:List (PT h)}(I:QcS h xs)(m:Nat):QcS h (xs.drop m):=λi x y D z=>by
 rw[be]at D z;exact I _ x y D z
theorem Qk7{ks:List (PT h)}(hs:Rd w F 1 s ks.length (ptrs h ks))(hk:∀k∈ks,IsN w F h k)(Y:QcS h ks)(hn:ks.length<=1000) :
  Calls prog 153 #[.slice s.a ks.length s.c,.func (.func 154) #[] #[]] w λe w'=>e=.returned (.bool true)/\∃q,w'=w.drewN q:=by
 have Z:=hY hs;have HR:=hY Y;have HK:=hY hk;clear hs Y hk;go_in;go_wp2_with fail;go_loopw[5] (λq wr=>∃m:Nat,(m+1<=ks.length\/m=0)/\q=.int .i64 ((m:Int)+1)/\∃q,wr=w.drewN q) (λq _=>ks.length -(intOf q).toNat)
 case atStart=>exact⟨0,.inr rfl,rfl,0,rfl⟩
 obtain⟨m,hj,rfl,qq,rfl⟩:=hrel;by_cases R:m+1<ks.length
 ·obtain ⟨x,D⟩:∃ x,ks[m]? = some x:=⟨_,ac (by omega)⟩
  obtain⟨y,z⟩:∃y,ks[m+1]? = some y:=⟨_,ac R⟩;obtain⟨b,o,X,a1,a0,a4,J⟩:=Z.o.Qc4 D;obtain⟨b',o',I,-,-,-,N⟩:=Z.o.Qc4 z;rw[X]at I;simp only[Option.some.injEq,Addr.mk.injEq,and_true]at I;obtain⟨rfl,rfl⟩:=I;have c0:w.cell? ⟨b,o+m,none⟩=some (ptr h x):=J;have c1:w.cell? ⟨b,o+(m+1),none⟩=some (ptr h y):=N;have hc:=λW (e:∃q,W=w.drewN q)=>QmR (w:=W) (((HK.o x (al D)).agree (F:=F) (by obtain⟨q,rfl⟩:=e;exact fH w q))) (((HK.o y (al z)).agree (F:=F) (by obtain⟨q,rfl⟩:=e;exact fH w q)))
  have L:=HR.o m x y D z;have U:=hY L;have HC:=hY hc;rw[X];have a7:(m:Int)+1<(ks.length:Int):=by omega
  have a6:(m:Int)<(ks.length:Int):=by omega
  have a2:IntKind.i64.wrap (m:Int)=(m:Int):=by rw[ey];omega
  have a5:(0:Int)<=(m:Int)+1:=by omega
  have a3:((m:Int)+1).toNat=m+1:=by omega
  clear D z J N X L hc;go_wp2_with fail;go_quiet ((go_at_call 154;refine(HC.o _ ⟨_,rfl⟩).mono ?_;rw[U.o];rintro e w2 ⟨rfl,q2,rfl⟩;exact⟨rfl,_,Quf ..⟩));go_wp2_with fail;go_roundw
  case rel=>exact⟨m+1,.inl (by omega),by go_num,_,rfl⟩
  simp[intOf];omega
 go_wp2_with fail;go_ret;exact⟨rfl,_,rfl⟩
theorem Rd.one(w:World)(t:TypeId)(u:Value):Rd (w.alloc (.cells #[u] t)) (λ_=>True) 1 ⟨some ⟨w,0,none⟩,1⟩ 1 [u]:=
 ⟨w,0,.some _ _ _ _ (an _) (by decide) trivial,rfl,λj v z=>by rw[(fx w t #[u]).cell];simpa using z⟩
def cnt(h:Nat)(ks:List (PT h)):Nat:=(ks.flatMap (ents h)).length
def Qf6(h:Nat)(ks:List (PT h)):Bool:=ks.any λk=>thin h k||decide (size h k<4)
variable{j:Nat}
theorem QqB{ks:List (PT h)}{k:PT h}(z:ks[j]? = some k):cnt h (ks.take (j+1))=cnt h (ks.take j)+(ents h k).length:=by
 rw[cnt,aZ,z];simp[cnt]
theorem QnI{ks:List (PT h)}{k:PT h}(z:ks[j]? = some k):Qf6 h (ks.take (j+1))=(Qf6 h (ks.take j) ||(thin h k||decide (size h k<4))):=by
 rw[Qf6,aZ,z];simp[Qf6]
theorem QgB(h:Nat)(ks:List (PT h))(j:Nat):cnt h (ks.take j)<=cnt h ks:=by
 have:cnt h ks=cnt h (ks.take j)+cnt h (ks.drop j):=by
  simp only[cnt];rw[<-ai,<-aK,aX]
 omega
theorem Qno(h:Nat)(t:PT h):(!QfN h t)=(thin h t||decide (size h t<4)):=by
 unfold QfN;cases thin h t
 ·simp
  by_cases h:4<=size h t
  .simp [h]
  simp[h];omega
 simp
theorem QcC(h:Nat)(ks:List (PT h))(j:Nat):ptrs h (ks.take j)=(ptrs h ks).take j:=by simp[ptrs,List.map_take]
theorem QmL{a b:List Ent}(h:0<a.length):Qaw (a++b)=Qaw a:=by
 cases a with
 |nil=>simp at h
 |cons x xs=>rfl
theorem Qo2{a b:List Ent}(h:0<b.length):QbM (a++b)=QbM b:=by
 unfold QbM;rw[List.getLast?_append];cases z:b.getLast? with
 |none=>rw[List.getLast?_eq_none_iff.1 z]at h;simp at h
 |some x=>rfl
theorem QkK{h a:Nat}{ks:List (PT h)}{k:PT h}(z:ks[0]? = some k)(D:0<(ents h k).length):Qaw (ents (h+1) (a,ks))=Qaw (ents h k):=by
 cases ks with
 |nil=>simp at z
 | cons x xs=>
   simp at z;subst z;show Qaw ((x::xs).flatMap (ents h))=_;rw[ba,QmL D]
theorem QmV{h a:Nat}{ks:List (PT h)}{k:PT h}(D:ks[ks.length-1]? = some k)(z:0<(ents h k).length):QbM (ents (h+1) (a,ks))=QbM (ents h k):=by
 have e:ks=ks.dropLast++[k]:=by
  have:ks.getLast? = some k:=by rw[List.getLast?_eq_getElem?];exact D
  obtain⟨ys,rfl⟩:=List.getLast?_eq_some_iff.1 this;simp
 show QbM (ks.flatMap (ents h))=_;rw[e,aK,Qo2 (by simpa using z)];simp
abbrev Up(F:Nat->Prop)(w w':World):Nat->Prop:=λb=>F b\/(w.heap.size<=b/\b<w'.heap.size)
def QnU(F:Nat->Prop)(h:Nat)(ks:List (PT h))(w:World)(e:Ending)(w':World):Prop:=
 ∃a:Nat,e=.returned (.tuple #[.pointer (some ⟨a,0,none⟩),.int .i64 0])/\w.heap.size<=a/\IsN w' (Up F w w') (h+1) (a,ks)/\Ext w w'
theorem Qm6{ks:List (PT h)}(hF:∀b,F b->b<w)(hs:Rd w (Lt w) 1 s ks.length (ptrs h ks))(hk:∀k∈ks,IsN w F h k)(hr:QcS h ks)
  (h2:2<=ks.length) (h8:ks.length<=8) (a7:∀k∈ks,0<(ents h k).length) (d7:∀k∈ks,size h k<=1000) (o0:cnt h ks<=1000000000) (hh:h<=1000000000) :
  Calls prog 109 #[.slice s.a ks.length s.c] w (QnU F h ks w):=by
 obtain⟨i0,hi,i8,g5,g4⟩:=eG Tryz.QbQ;have HS:=hY hs;have HK:=hY hk;have HR:=hY hr;have Z:=hY hF;have HP:=hY a7;have HZ:=hY d7;have g1:¬(ks.length:Int)<2:=by omega
 have o5:decide ((ks.length:Int)<2)=false:=by simp;omega
 have g2:¬(8:Int)<(ks.length:Int):=by omega
 have l8:decide ((8:Int)<(ks.length:Int))=false:=by simp;omega
 obtain⟨k0,a3⟩:∃x,ks[0]? = some x:=⟨_,ac (by omega)⟩;obtain⟨b,o,ha,b8,l4,n7,c1⟩:=HS.o.Qc4 a3;have c8:=QaO (HK.o k0 (al a3));have HA:=hY ha;have b5:=hY a3;rw[cp]at c1;have i9:=hY c1;have k6:(0:Int)<(ks.length:Int):=by omega
 rw[ha];clear hs hk hr hF a7 d7 ha a3;go_in;go_wp2_with fail;refine c8.mono ?_;rintro e w1 ⟨rfl,rfl⟩;go_wp2_with fail;have d0:Ext w (w.alloc (.cells #[.slice none 0 0,.slice none 0 0,.int .i64 ((h:Int)+1),.int .i64 0,.string ByteArray.empty,.string ByteArray.empty,.bool false] 144)):=(fu w).alloc _ _;go_loopw[24] (λq wr=>∃(j:Nat) (D:Sl),j<=ks.length/\q=.int .i64 j/\Ext w wr/\Blk wr w.heap.size 144 #[.slice none 0 0,.slice D.a j D.c,.int .i64 ((h:Int)+1),.int .i64 (cnt h (ks.take j)),.string ByteArray.empty,.string ByteArray.empty,.bool (Qf6 h (ks.take j))]/\
   wr.ownsRow (w.heap.size+1) 39 1 (.slice D.a j D.c) j (ptrs h (ks.take j))) (λq _=>ks.length -(intOf q).toNat)
 case atStart=>exact⟨0,Sl.none,av _,rfl,d0,fx _ _ _,eJ _ _ _ _⟩
 clear d0 c8 c1;obtain⟨j,D,hj,rfl,hx,N,z⟩:=hrel;by_cases j4:j<ks.length
 ·obtain ⟨k,R⟩:∃ x,ks[j]? = some x:=⟨_,ac j4⟩
  obtain⟨b',o',L,-,-,-,f0⟩:=HS.o.Qc4 R;rw[HA.o]at L;simp only[Option.some.injEq,Addr.mk.injEq,and_true]at L;obtain⟨rfl,rfl⟩:=L;have c0:=al R;have I:Agree F w wr:=hx.agree λi h=>Z.o i h
  have vk:=(hx.cell b8).trans f0;have U:=(HK.o k c0).agree I;obtain⟨b3,se,o6,ne,nk,l3,b6⟩:=U.cells;obtain⟨e0,e1,e2,e3,e4,e5,e6⟩:=b6.c7;obtain⟨n0,n1,n2,n3,n4,n5,n6⟩:=N.c7;have o3:=HP.o k c0;have o1:((((ents h k).length:Nat):Int)==0)=false:=eu.2 (by omega);have j8:(j:Int)<(ks.length:Int):=by omega
  have d4:=λW (e:∃q,W=wr.drewN q)=>Qjg (w:=W) (F:=F) (h:=h) (t:=k) (by obtain⟨q,rfl⟩:=e;exact U.agree (fH wr q))
  have HX:=hY hx;have HB:=hY N;have HO:=hY z;have o4:=hY U;have i2:=hY d4;have i6:=hY R;have n9:IntKind.i64.wrap ((h:Int)+1)=(h:Int)+1:=by rw[ey];omega
  have l2:addr h k<wr:=b6.lt;have c4:w.heap.size<wr.heap.size:=N.lt;have j5:j+1<=maxLen:=by unfold maxLen;omega
  have g0:∀W,Ext wr W->W.ownsRow (w.heap.size+1) 39 1 (.slice D.a j D.c) j (ptrs h (ks.take j)):=λW hW=>
   Qae z (hW.agree (F:=Lt wr) λ_ h=>h) λb N=>(z.lt b (by obtain⟨a,c⟩:=D;cases a<;>simp_all [Value.ownBlock,Sl.row])).2
  have j1:=hY g0;have a8:∀i,D.row=some i->w+1<=i:=λb N=>(z.lt b (by obtain⟨a,c⟩:=D;cases a<;>simp_all [Value.ownBlock,Sl.row])).1
  have b0:=hY a8;have l6:¬addr h k=w.heap.size:=by have:=Z.o _ b3;omega
  have j2:addr h k<w.heap.size+1:=by have:=Z.o _ b3;omega
  have e8:=λW (e:Agree (Lt w) wr W)=>Qp0 (w:=W) (F:=F) (h:=h) (t:=k) (U.agree (e.mono λi hi=>Z.o i hi)) (HZ.o k c0)
  have i1:=hY e8;have k8:IntKind.i64.wrap ((cnt h (ks.take j):Int)+((ents h k).length:Int))=((cnt h (ks.take (j+1)):Nat):Int):=by
   have:=QqB R;have:=QgB h ks (j+1);rw[ey]<;>omega
  have f5:=QnI R;have c6:=Qno h k;have e7:=hY f5;have i3:=hY c6;clear R f0 I U b6 N z d4 hx g0 a8 e8 f5 c6;go_wp2_with fail;go_quiet ((go_at_call 58;refine(i2.o _ ⟨_,rfl⟩).mono ?_;rintro e w2 ⟨rfl,rfl⟩;exact⟨rfl,_,rfl⟩));go_wp2_with(at_builtin;refine Qac _ rfl _ _ 114 rfl (w.heap.size+1) 39 i0 (.pointer none) 1 8 underlying114 hi i8 g5 g4 rfl (by decide) D j (ptrs h (ks.take j)) rfl (j1.o _ (((fu wr).drewN _).alloc _ _)) (λ_=>True) ⟨some ⟨wr,0,none⟩,1⟩ 1 [ptr h k] rfl (Rd.one _ _ _) (by simp[Value.oneCell']) j5 (by omega) (by simp;omega) ?_;intro s' w1 Y X g8;have a5:Agree (Lt (w.heap.size+1)) wr w1:=(((fH wr _).trans (Agree.alloc _ _ (λi hi=>ab hi c4))).trans (X.agree (F:=Lt (w.heap.size+1)) (λi hi=>by simp;omega) (λi hi h=>by have:=b0.o i hi;omega)));have b1:=HB.o.agree a5 (df _);obtain⟨p0,p1,p2,p3,p4,p5,p6⟩:=b1.c7;have fz:=λi=>b1.frozen i;have x3:=(a5.cell (F:=Lt (w.heap.size+1)) (b:=addr h k) (o:=3) j2).trans e3;have c9:=hY Y;have g6:=hY X;have g7:=hY b1;have g3:=hY a5;clear Y X g8 b1 a5);go_region;have b4:Ext w ((w1.setCell ⟨w,1,none⟩ (.slice s'.a (j+1) s'.c)).setCell ⟨w,3,none⟩ (.int .i64 (cnt h (ks.take (j+1))))).drew:=
   (((((HX.o.drewN _).alloc _ _).wr g6.o (λi hi=>by have:=b0.o i hi;omega)).setCell (p:=⟨w,1,none⟩) (an _) _).setCell (p:=⟨w,3,none⟩) (an _) _).drew
  have a0:Blk ((w1.setCell ⟨w,1,none⟩ (.slice s'.a (j+1) s'.c)).setCell ⟨w,3,none⟩ (.int .i64 (cnt h (ks.take (j+1))))).drew w.heap.size 144 #[.slice none 0 0,.slice s'.a (j+1:Nat) s'.c,.int .i64 ((h:Int)+1),.int .i64 (cnt h (ks.take (j+1))),.string ByteArray.empty,.string ByteArray.empty,.bool (Qf6 h (ks.take j))]:=(g7.o.Qdz 1 _).Qdz 3 _;have a9:Agree (Lt w) wr ((w1.setCell ⟨w,1,none⟩ (.slice s'.a (j+1) s'.c)).setCell ⟨w,3,none⟩ (.int .i64 (cnt h (ks.take (j+1))))).drew:=
   ((g3.out.mono λi hi=>Nat.lt_succ_of_lt hi).trans (fA _ _ _ (λh=>dm _ h))).trans (fA _ _ _ (λh=>dm _ h))
  have f7:((w1.setCell ⟨w,1,none⟩ (.slice s'.a (j+1) s'.c)).setCell ⟨w,3,none⟩ (.int .i64 (cnt h (ks.take (j+1))))).drew.ownsRow (w.heap.size+1) 39 1 (.slice s'.a (j+1) s'.c) (j+1) (ptrs h (ks.take (j+1))):=by
   have e:ptrs h (ks.take (j+1))=ptrs h (ks.take j)++[ptr h k]:=by rw[aZ,i6.o];simp[ptrs]
   rw[e];refine Qae c9.o (F:=λi=>w+1<=i) ((fA w1 ⟨w,1,none⟩ _ (λh=>cF _ h)).trans (fA _ ⟨w,3,none⟩ _ (λh=>cF _ h))) λb N=>(c9.o.lt b (by obtain⟨a,c⟩:=s';cases a<;>simp_all [Value.ownBlock,Sl.row])).1
  generalize World.drew _=W3 at *;have j0:=hY b4;have j3:=hY a0;have i5:=hY a9;have f8:=hY f7;have k4:=a0.lt;have k2:addr h k<W3:=ab (Z.o _ b3) b4.size;obtain⟨y0,y1,y2,y3,y4,y5,y6⟩:=a0.c7;have fy:=λi=>a0.frozen i
  clear b4 a0 a9 f7 fz x3 p0 p1 p2 p3 p4 p5 p6;have d5:∀(q:Nat) (x:Bool),x=Qf6 h (ks.take (j+1))->Ext w ((W3.drewN q).setCell ⟨w,6,none⟩ (.bool x))/\
    Blk ((W3.drewN q).setCell ⟨w,6,none⟩ (.bool x)) w.heap.size 144 #[.slice none 0 0,.slice s'.a (j+1:Nat) s'.c,.int .i64 ((h:Int)+1),.int .i64 (cnt h (ks.take (j+1))),.string ByteArray.empty,.string ByteArray.empty,.bool (Qf6 h (ks.take (j+1)))]/\
    ((W3.drewN q).setCell ⟨w,6,none⟩ (.bool x)).ownsRow (w.heap.size+1) 39 1 (.slice s'.a (j+1) s'.c) (j+1) (ptrs h (ks.take (j+1))):=λq x hx=>by
   subst hx;refine⟨(j0.o.drewN q).setCell (p:=⟨w,6,none⟩) (an _) _,(show Blk (W3.drewN q) w.heap.size 144 _ from j3.o).Qdz 6 _,?_⟩;exact Qae (w:=W3.drewN q) (show(W3.drewN q).ownsRow _ _ _ _ _ _ from f8.o) (F:=λi=>w+1<=i) (fA _ ⟨w,6,none⟩ _ (λh=>cF _ h)) λb N=>(f8.o.lt b (by obtain⟨a,c⟩:=s';cases a<;>simp_all [Value.ownBlock,Sl.row])).1
  have f9:=hY d5;clear d5;cases a4:Qf6 h (ks.take j)
  ·rw [a4] at y6
   have J:Qf6 h (ks.take (j+1))=!QfN h k:=by rw[e7.o,a4,i3.o,ed]
   have b7:=hY J;clear J;go_wp2_with(go_at_call 152;refine(i1.o _ i5.o).mono ?_;rintro e w4 ⟨rfl,q4,rfl⟩);go_roundw
   case rel=>
    obtain⟨f1,f2,f3⟩:=f9.out q4 _ b7.o.symm;exact⟨j+1,s',by omega,by go_num,f1,f2,f3⟩
   simp[intOf];omega
  rw[a4]at y6;have J:Qf6 h (ks.take (j+1))=true:=by rw[e7.o,a4,Bool.true_or]
  have b7:=hY J;clear J;go_wp2_with fail;go_roundw
  case rel=>
   obtain⟨f1,f2,f3⟩:=f9.out 0 _ b7.o.symm;exact⟨j+1,s',by omega,by go_num,f1,f2,f3⟩
  simp[intOf];omega
 obtain rfl:j=ks.length:=by omega
 have I:Agree (Lt w) w wr:=hx.agree λi h=>h
 have c3:=Qk7 (w:=wr) (HS.o.agree I) (λk hk=>((HK.o k hk).mono Z.o).agree I) HR.o (by omega);rw[HA.o]at c3;have j6:=hY c3;obtain⟨kl,a6⟩:∃x,ks[ks.length-1]? = some x:=⟨_,ac (by omega)⟩;obtain⟨b',o',L,-,-,-,f4⟩:=HS.o.Qc4 a6;rw[HA.o]at L;simp only[Option.some.injEq,Addr.mk.injEq,and_true]at L;obtain⟨rfl,rfl⟩:=L;have vl:=(hx.cell b8).trans f4;have v0:=(hx.cell b8).trans i9.o;obtain⟨i7,se,k9,ne,nk,-,a2⟩:=((HK.o k0 (al b5.o)).agree (I.mono Z.o)).cells;obtain⟨i4,l0,l5,l7,n8,-,a1⟩:=((HK.o kl (al a6)).agree (I.mono Z.o)).cells;obtain⟨-,-,-,-,e4,-,-⟩:=a2.c7;obtain⟨-,-,-,-,-,e5,-⟩:=a1.c7;obtain⟨n0,n1,n2,n3,n4,n5,n6⟩:=N.c7;have fz:=λi=>N.frozen i
 have k3:¬addr h k0=w.heap.size:=by have:=Z.o _ i7;omega
 have j9:¬addr h kl=w.heap.size:=by have:=Z.o _ i4;omega
 have j7:¬b=w.heap.size:=by omega
 have k1:addr h k0<wr:=a2.lt;have k5:addr h kl<wr:=a1.lt;have c4:w.heap.size<wr.heap.size:=N.lt;have k7:IntKind.i64.wrap ((ks.length:Int)-1)=(ks.length:Int)-1:=by rw[ey];omega
 have l1:(0:Int)<=(ks.length:Int)-1:=by omega
 have o2:(ks.length:Int)-1<(ks.length:Int):=by omega
 have l9:((ks.length:Int)-1).toNat=ks.length-1:=by omega
 have HX:=hY hx;have HB:=hY N;have HO:=hY z;have d6:=hY a6;clear I c3 a6 f4 a2 a1 N hx z;go_wp2_with(go_at_call 153;refine j6.o.mono ?_;rintro e w2 ⟨rfl,q2,rfl⟩);go_region
 all_goals go_wp2_with fail
 all_goals go_ret2
 have c2:=HO.o;have d3:=HB.o;rw[aP]at c2 d3;have d8:Blk (((wr.drewN (q2+1)).setCell ⟨w,4,none⟩ (.string (Qaw (ents h k0)))).setCell ⟨w,5,none⟩ (.string (QbM (ents h kl)))) w.heap.size 144 #[.slice none 0 0,.slice D.a ks.length D.c,.int .i64 ((h:Int)+1),.int .i64 (cnt h ks),.string (Qaw (ents h k0)),.string (QbM (ents h kl)),.bool (Qf6 h ks)]:=
  ((show Blk (wr.drewN (q2+1)) w.heap.size 144 _ from d3).Qdz 4 _).Qdz 5 _
 have f6:Ext w (((wr.drewN (q2+1)).setCell ⟨w,4,none⟩ (.string (Qaw (ents h k0)))).setCell ⟨w,5,none⟩ (.string (QbM (ents h kl)))):=
  ((HX.o.drewN _).setCell (p:=⟨w,4,none⟩) (an _) _).setCell (p:=⟨w,5,none⟩) (an _) _
 have g9:(((wr.drewN (q2+1)).setCell ⟨w,4,none⟩ (.string (Qaw (ents h k0)))).setCell ⟨w,5,none⟩ (.string (QbM (ents h kl)))).ownsRow (w.heap.size+1) 39 1 (.slice D.a ks.length D.c) ks.length (ptrs h ks):=
  Qae (w:=wr.drewN (q2+1)) (show(wr.drewN (q2+1)).ownsRow _ _ _ _ _ _ from c2) (F:=λi=>w+1<=i) ((fA _ ⟨w,4,none⟩ _ (λh=>cF _ h)).trans (fA _ ⟨w,5,none⟩ _ (λh=>cF _ h)))
   λb N=>(c2.lt b (by obtain⟨a,c⟩:=D;cases a<;>simp_all [Value.ownBlock,Sl.row])).1
 generalize World.setCell _ _ _=W at *;refine⟨w,rfl,an _,?_,f6⟩;refine⟨.inr ⟨Nat.le_refl _,d8.lt⟩,D,?_,((fE g9).mono λi hi=>.inr ⟨Nat.le_of_succ_le hi.1,hi.2⟩),λk hk=>((HK.o k hk).agree (f6.agree λi hi=>Z.o i hi)).mono λi hi=>.inl hi⟩;rw[show Qaw (ents (h+1) (w.heap.size,ks))=Qaw (ents h k0)from QkK b5.o (HP.o _ (al b5.o)),show QbM (ents (h+1) (w.heap.size,ks))=QbM (ents h kl)from QmV d6.o (HP.o _ (al d6.o))];exact d8
structure Kids(w:World)(F:Nat->Prop)(h:Nat)(ks:List (PT h)):Prop where
 lt:∀b,F b->b<w.heap.size
 isn:∀k∈ks,IsN w F h k
 rise:QcS h ks
 pos:∀k∈ks,0<(ents h k).length
 sz:∀k∈ks,size h k<=1000
 cn:cnt h ks<=1000000000
 hh:h<=1000000000
theorem QkC(h:Nat)(ks:List (PT h))(j:Nat):cnt h (ks.drop j)<=cnt h ks:=by
 have:cnt h ks=cnt h (ks.take j)+cnt h (ks.drop j):=by
  simp only[cnt];rw[<-ai,<-aK,aX]
 omega
section
variable{w : World}{F : Nat -> Prop}{h : Nat}{ks : List (PT h)}
theorem Kids.take(k:Kids w F h ks)(m:Nat):Kids w F h (ks.take m):=⟨k.lt,λx z=>k.isn x (aM z),k.rise.take m,λx z=>k.pos x (aM z),λx z=>k.sz x (aM z),aj (QgB h ks m) k.cn,k.hh⟩
theorem Kids.drop(k:Kids w F h ks)(m:Nat):Kids w F h (ks.drop m):=⟨k.lt,λx z=>k.isn x (aC z),k.rise.drop m,λx z=>k.pos x (aC z),λx z=>k.sz x (aC z),aj (QkC h ks m) k.cn,k.hh⟩
theorem Kids.ext(k:Kids w F h ks){w':World}(z:Ext w w'):Kids w' F h ks:=⟨λb I=>ab (k.lt b I) z.size,λx D=>(k.isn x D).agree (z.agree k.lt),k.rise,k.pos,k.sz,k.cn,k.hh⟩
end
variable{w':World}{cs:List Value}
theorem Rd.ext{size n:Nat}(h:Rd w (Lt w) size s n cs)(z:Ext w w'):Rd w' (Lt w') size s n cs:=(h.agree (z.agree λ_ h=>h)).mono λi hi=>ab hi z.size
def Qcn(F:Nat->Prop)(h:Nat)(ks:List (PT h))(w:World)(e:Ending)(w':World):Prop:=
 ∃t:PT (h+1),e=.returned (ptr (h+1) t)/\t.2=ks/\w.heap.size<=addr (h+1) t/\IsN w' (Up F w w') (h+1) t/\Ext w w'
variable{n:Nat}
theorem Qct{ks:List (PT h)}(hs:Rd w (Lt w) 1 s ks.length (ptrs h ks))(D:n=ks.length)(z:Kids w F h ks)(h2:2<=ks.length)(J:ks.length<=8) :
  Calls prog 64 #[.slice s.a n s.c] w (Qcn F h ks w):=by
 subst D;have R:=Qm6 z.lt hs z.isn z.rise h2 J z.pos z.sz z.cn z.hh;have L:(((ks.length:Nat):Int)==1)=false:=eu.2 (by omega);clear hs z;go_in;go_wp2_with fail;refine R.mono ?_;rintro e w' ⟨a,rfl,h1,h2,I⟩;have N:=hY h2;clear h2;go_wp2_with fail;go_ret;exact⟨(a,ks),rfl,rfl,h1,N.o,I⟩
theorem QnJ{k:PT h}(hs:Rd w F 1 s 1 (ptrs h [k])) :
  Calls prog 64 #[.slice s.a 1 s.c] w λe w'=>e=.returned (ptr h k)/\w=w':=by
 obtain⟨b,o,D,J,I,L,z⟩:=Rd.Qc4 (ks:=[k]) hs (i:=0) rfl;rw[cp]at z;rw[D];clear hs D;go_in;go_wp2;go_ret;exact⟨rfl,rfl⟩
def Qmv(F:Nat->Prop)(h:Nat)(ks:List (PT h))(w:World)(e:Ending)(w':World):Prop:=
 ∃ts:List (PT (h+1)),e=two (h+1) ts/\ts.map Prod.snd=chunk ks/\(∀t∈ts,w.heap.size<=addr (h+1) t/\IsN w' (Up F w w') (h+1) t)/\Ext w w'
variable{w1 w2 w3:World}
theorem Qcn.grow{t:PT (h+1)}(hF:∀b,F b->b<w)(h1:Ext w w1)(D:Ext w1 w2)(h2:Ext w2 w3)(I:w1.heap.size<=addr (h+1) t)(z:IsN w2 (Up F w1 w2) (h+1) t):w.heap.size<=addr (h+1) t/\IsN w3 (Up F w w3) (h+1) t:=
 ⟨Nat.le_trans h1.size I,(z.agree (h2.agree λi hi=>hi.elim (λh=>ab (hF i h) (aj h1.size D.size)) λh=>h.2)).mono λi hi=>hi.elim .inl λh=>.inr ⟨Nat.le_trans h1.size h.1,ab h.2 h2.size⟩⟩
theorem QhY{ks:List (PT h)}(hs:Rd w (Lt w) 1 s ks.length (ptrs h ks))(D:Kids w F h ks)(h2:2<=ks.length)(Y:ks.length<=9) :
  Calls prog 108 #[.slice s.a ks.length s.c,.func (.func 64) #[] #[]] w (Qmv F h ks w):=by
 by_cases h':ks.length<=8
 ·have hc:=Qct hs rfl D h2 h'
  have hl:(ks.length:Int)<=8:=by omega
  clear hs D;go_in;go_wp2_with fail;refine hc.mono ?_;rintro e w' ⟨t,rfl,h1,h2,L,U⟩;have H3:=hY L;clear L;go_wp2_with fail;go_ret2;exact⟨[t],rfl,by show[t.2]=_;rw[h1,chunk,em (by simpa using h')],by simpa using⟨h2,H3.o⟩,U⟩
 have Y:ks.length=9:=by omega
 obtain⟨k0,Z⟩:∃x,ks[0]? = some x:=⟨_,ac (by omega)⟩;obtain⟨b,o,ha,a2,a0,a1,-⟩:=hs.Qc4 Z;have z:s=⟨some ⟨b,o,none⟩,s.c⟩:=by cases s;simp_all
 have N:∀W,Ext w W->Calls prog 64 #[.slice (some ⟨b,o,none⟩) 4 s.c] W (Qcn F h (ks.take 4) W):=λW R=>by
  have:=Qct (w:=W) (F:=F) (n:=4) (s:=s) (ks:=ks.take 4) (by rw[QcC,ap,bz (by omega)];exact(hs.take (m:=4) (by omega)).ext R) (by rw[ap];omega) ((D.take 4).ext R) (by rw[ap];omega) (by rw[ap];omega);rw[z]at this;exact this
 have J:∀W,Ext w W->Calls prog 64 #[.slice (some ⟨b,o+4,none⟩) 5 (s.c-4)] W (Qcn F h (ks.drop 4) W):=λW R=>by
  have I:=hs;rw[z]at I;exact Qct (w:=W) (F:=F) (n:=5) (s:=⟨some ⟨b,o+4,none⟩,s.c-4⟩) (ks:=ks.drop 4) (by rw[show ptrs h (ks.drop 4)=(ptrs h ks).drop (4*1)from by simp[ptrs,List.map_drop],au];exact(I.drop (m:=4) (by omega)).ext R) (by rw[au];omega) ((D.drop 4).ext R) (by rw[au];omega) (by rw[au];omega)
 have HL:=hY N;have HR:=hY J;have HF:=hY D.lt;clear N J hs D z;rw[ha,Y];rw[Y]at a0;have a3:4<=s.c:=by omega
 unfold maxLen at a1;go_in;go_wp2_with fail;go_region_with (first
  |(go_at_call_of 64 (Value.slice (some ⟨b,o,none⟩) 4 s.c);refine(HL.o _ ?_).mono ?_;exact(fu w).drew;rintro e w1 ⟨t,rfl,h1,h2,L,U⟩;have H3:=hY L;clear L)
  |(go_at_call 64;refine(HR.o _ ?_).mono ?_;exact(fu w).drew.trans U;rintro e w2 ⟨u,rfl,k1,k2,k3,k4⟩;have K3:=hY k3;clear k3))
 all_goals go_wp2_with fail
 all_goals go_ret2
 have hX:=(fu w).drew.trans U;refine⟨[t,u],rfl,?_,?_,hX.trans k4⟩
 ·show [t.2,u.2]=_
  rw[h1,k1,chunk,ef (by omega)]
 intro x X;rcases aF.1 X with rfl|X
 .exact Qcn.grow HF.o (fu w).drew U k4 h2 H3.o
 rcases aF.1 X with rfl|X
 .exact Qcn.grow HF.o hX k4 (fu w2) k2 K3.out
 simp at X
def QjV(h:Nat)(ks:List (PT h))(k:ByteArray):Nat:=(ks.takeWhile λt=>!(klt k (Qaw (ents h t)))).length
def Qat(h:Nat)(ks:List (PT h))(k:ByteArray):Nat:=QjV h ks k-1
variable{p:Nat}
theorem QsS{ks:List (PT h)}{k:ByteArray}(J:p<=ks.length)(D:∀i t,i<p->ks[i]? = some t->klt k (Qaw (ents h t))=false)(z:∀t,ks[p]? = some t->klt k (Qaw (ents h t))=true):QjV h ks k=p:=by
 induction ks generalizing p with
 |nil=>simp at J;subst J;rfl
 | cons a ks ih=>
   cases p with
   |zero=>simp[QjV,z a rfl]
   | succ p=>
     have L:=D 0 a (by omega) rfl;have:=ih (p:=p) (by simpa using J) (λi e hi I=>D (i+1) e (by omega) (by simpa using I)) (λe I=>z e (by simpa using I));simp only[QjV,List.takeWhile_cons,L,Bool.not_false,if_true,List.length_cons];rw[<-this];rfl
theorem QsR(h:Nat)(ks:List (PT h))(k:ByteArray):QjV h ks k<=ks.length:=(List.takeWhile_sublist _).length_le
theorem Qd6{es:List Ent}(h:0<es.length):∃e∈es,Qaw es=e.1:=by
 cases es with
 |nil=>simp at h
 |cons x xs=>exact⟨x,aw ..,rfl⟩
theorem Qo3{es:List Ent}(h:0<es.length):∃e∈es,QbM es=e.1:=by
 cases z:es.getLast? with
 |none=>rw[List.getLast?_eq_none_iff.1 z]at h;simp at h
 |some x=>exact⟨x,List.mem_of_getLast? z,by simp[QbM,z]⟩
theorem Qiv{h:Nat}:∀{ks:List (PT h)},Sorted (ks.flatMap (ents h))->∀{i j:Nat} {x y:PT h},i<j->ks[i]? = some x->ks[j]? = some y->∀a∈ents h x,∀b∈ents h y,klt a.1 b.1=true
 |[],_,i,j,x,y,_,hx,_=>by simp at hx
 |t::ts,hs,0,0,x,y,hij,hx,hy=>by omega
 | t :: ts,hs,0,j+1,x,y,hij,hx,hy=>by
   simp at hx hy;subst hx;intro a z b D;have hs:(ents h t++ts.flatMap (ents h)).Pairwise λa b=>klt a.1 b.1=true:=hs
   exact(cB.1 hs).2.2 a z b (ct.2 ⟨y,al hy,D⟩)
 |t::ts,hs,i+1,0,x,y,hij,hx,hy=>by omega
 | t :: ts,hs,i+1,j+1,x,y,hij,hx,hy=>by
   simp at hx hy;have hs:(ents h t++ts.flatMap (ents h)).Pairwise λa b=>klt a.1 b.1=true:=hs
   exact Qiv (cB.1 hs).2.1 (Nat.lt_of_succ_lt_succ hij) hx hy
theorem QaK{h:Nat}:∀{ks:List (PT h)},Sorted (ks.flatMap (ents h))->∀x∈ks,Sorted (ents h x)
 | t :: ts,hs,x,z=>by
   have hs:(ents h t++ts.flatMap (ents h)).Pairwise λa b=>klt a.1 b.1=true:=hs
   rcases aF.1 z with rfl|z
   .exact (cB.1 hs).1
   exact QaK (cB.1 hs).2.1 x z
theorem QgH{ks:List (PT h)}(hs:Sorted (ks.flatMap (ents h)))(I:∀k∈ks,0<(ents h k).length){i j:Nat}{x y:PT h}(z:i<j)(D:ks[i]? = some x)(J:ks[j]? = some y):klt (Qaw (ents h x)) (Qaw (ents h y))=true:=by
 obtain⟨a,L,N⟩:=Qd6 (I x (al D));obtain⟨b,U,R⟩:=Qd6 (I y (al J));rw[N,R];exact Qiv hs z D J a L b U
theorem QdT{ks:List (PT h)}(hs:Sorted (ks.flatMap (ents h)))(z:∀k∈ks,0<(ents h k).length):QcS h ks:=λi x y I D=>by
 obtain⟨a,J,L⟩:=Qo3 (z x (al I));obtain⟨b,R,N⟩:=Qd6 (z y (al D));rw[L,N];exact Qiv hs (df i) I D a J b R
variable{W:World}{b1 b2:Nat}
theorem QnN{ks:List (PT h)}(hs:Rd w (Lt w) 1 s ks.length (ptrs h ks))(I:∀k∈ks,IsN w F h k)(hF:∀b,F b->b<w){k:ByteArray}(h1:W.cell? ⟨b1,0,none⟩=some (.slice s.a ks.length s.c))(h2:W.cell? ⟨b2,0,none⟩=some (.string k))(L:Ext w W)(hn:ks.length<=1000)
  {i:Nat} {x:PT h} (hi:ks[i]? = some x):Calls prog 142 #[.int .i64 i,.pointer (some ⟨b1,0,none⟩),.pointer (some ⟨b2,0,none⟩)] W λe w'=>e=.returned (.bool (klt k (Qaw (ents h x))))/\Ext W w':=by
 obtain⟨b,o,N,J,U,Z,z⟩:=hs.Qc4 hi;have I:=(I x (al hi)).agree (L.agree hF);have hc:W.cell? ⟨b,o+i,none⟩=some (ptr h x):=(L.cell J).trans z;have Y:i<ks.length:=(ah.1 hi).1;have R:(i:Int)<(ks.length:Int):=by omega
 have D:=λq=>Qjr (w:=W.drewN q) (I.agree (fH W q))
 have X:=hY D;rw[N]at h1;clear hs hi L N z D I;go_in;go_wp2_with fail;go_quiet ((go_at_call 143;refine(X.o _).mono ?_;rintro e w2 ⟨rfl,rfl⟩;exact⟨rfl,_,rfl⟩));go_wp2;go_ret;exact⟨by rw[<-Qtt,Bool.not_or];rfl,(fu W).drewN _⟩
theorem Qhk{ks:List (PT h)}(hs:Rd w (Lt w) 1 s ks.length (ptrs h ks))(hk:∀k∈ks,IsN w F h k)(hF:∀b,F b->b<w)(hp:∀k∈ks,0<(ents h k).length)(k:ByteArray)(z:Sorted (ks.flatMap (ents h)))(hn:ks.length<=1000) :
  Calls prog 96 #[.slice s.a ks.length s.c,.string k] w λe w'=>e=.returned (.int .i64 (Qat h ks k))/\Ext w w':=by
 have HS:=hY hs;have HO:=hY z;have HK:=hY hk;have HF:=hY hF;have HP:=hY hp;have Y:∀W,Ext w W->W.cell? ⟨w,0,none⟩=some (.slice s.a ks.length s.c)->W.cell? ⟨w+1,0,none⟩=some (.string k)->
   Calls prog 97 #[.int .i64 ks.length,.func (.func 142) #[] #[.pointer (some ⟨w,0,none⟩),.pointer (some ⟨w+1,0,none⟩)]] W (QcX ks.length (λi=>klt k ((ks[i]?.map λt=>Qaw (ents h t)).getD ByteArray.empty)) W):=by
  intro W hW h1 h2;refine Qed 142 _ _ ks.length _ W (eO func142 (by kernel_rfl) rfl) (by omega) ?_ ?_
  ·intro i W' hi I
   obtain⟨x,Z⟩:∃x,ks[i]? = some x:=⟨_,ac hi⟩;rw[Z];have a0:=eH W _ h1;have a1:=eH W _ h2;exact QnN HS.o HK.o HF.o ((I.cell a0).trans h1) ((I.cell a1).trans h2) (hW.trans I) hn Z
  intro i j a4 hj J;by_cases R:i=j
  .subst R;exact J
  obtain⟨x,Z⟩:∃x,ks[i]? = some x:=⟨_,ac (by omega)⟩;obtain⟨y,hy⟩:∃y,ks[j]? = some y:=⟨_,ac hj⟩;have a2:=QgH HO.o HP.o (i:=i) (j:=j) (by omega) Z hy;rw[Z]at J;rw[hy];exact QaI J a2
 clear hs z hk hF hp;go_in;go_wp2_with fail;refine(Y _ (((fu w).alloc _ _).alloc _ _) (by simp) (by simp)).mono ?_;rintro e w1 ⟨p,rfl,hp,N,U,L⟩;have D:QjV h ks k=p:=QsS hp (λi t hi ht=>by
   have:klt k ((ks[i]?.map λt=>Qaw (ents h t)).getD ByteArray.empty)=false:=N i hi;rwa[ht]at this) (λt ht=>by
   have:klt k ((ks[p]?.map λt=>Qaw (ents h t)).getD ByteArray.empty)=true:=U p (an _) (ah.1 ht).1;rwa[ht]at this)
 have hX:Ext w w1:=(((fu w).alloc _ _).alloc _ _).trans L;have HX:=hY hX;have X:=hY D;have a3:IntKind.i64.wrap ((p:Int)-1)=(p:Int)-1:=by rw[ey];omega
 clear N U Y hX D L;go_wp2_with fail
 ·go_ret
  refine⟨?_,HX.o⟩;rw[Qat,X.o,show p-1=0 from by omega];rfl
 go_ret;refine⟨?_,HX.o⟩;rw[Qat,X.o,show((p-1:Nat):Int)=(p:Int)-1 from by omega];rfl
theorem Qcs{A B:List Ent}(h:Sorted (A++B)):Sorted A/\Sorted B/\∀a∈A,∀b∈B,klt a.1 b.1=true:=cB.1 h
theorem QbU{α:Type}{l:List α}{i:Nat}{x:α}(h:l[i]? = some x):l=l.take i++x::l.drop (i+1):=by
 obtain⟨hi,rfl⟩:=ah.1 h;rw[<-aD hi,aX]
theorem QoC{es:List Ent}(hs:Sorted es){e:Ent}(z:e∈es):klt e.1 (Qaw es)=false:=by
 cases es with
 |nil=>cases z
 | cons x xs=>
   rcases aF.1 z with rfl|z
   .exact Qah _
   exact Qby ((aV.1 hs).1 e z)
theorem QhQ{h:Nat}{k:ByteArray}:∀{ks:List (PT h)} {i:Nat} {t:PT h},i<QjV h ks k->ks[i]? = some t->klt k (Qaw (ents h t))=false
 |[],i,t,_,ht=>by simp at ht
 | a :: ks,i,t,hi,ht=>by
   unfold QjV at hi;rw[dj]at hi;split at hi
   ·rename_i ha
    cases i with
    |zero=>simp at ht;subst ht;simpa using ha
    |succ i=>exact QhQ (ks:=ks) (by unfold QjV;simpa using hi) (by simpa using ht)
   simp at hi
theorem Qpv{h:Nat}{k:ByteArray}:∀{ks:List (PT h)} {t:PT h},ks[QjV h ks k]? = some t->klt k (Qaw (ents h t))=true
 |[],t,ht=>by simp at ht
 | a :: ks,t,ht=>by
   unfold QjV at ht;rw[dj]at ht;split at ht
   .exact Qpv (ks:=ks) (by unfold QjV;simpa using ht)
   rename_i ha;simp at ht;subst ht;simpa using ha
theorem Qbb{ks:List (PT h)}(hs:Sorted (ks.flatMap (ents h)))(Z:∀k∈ks,0<(ents h k).length)(a0:0<ks.length)(k:ByteArray) :
  ∃N,ks[Qat h ks k]? = some N/\(∀e∈(ks.take (Qat h ks k)).flatMap (ents h),klt e.1 k=true)/\(∀e∈(ks.drop (Qat h ks k+1)).flatMap (ents h),klt k e.1=true):=by
 have a1:=QsR h ks k;have hi:Qat h ks k<ks.length:=by unfold Qat;omega
 refine⟨_,ac hi,λe R=>?_,λe R=>?_⟩
 ·obtain ⟨t,X,D⟩:=ct.1 R
  obtain⟨j,z⟩:=bx X;rw[bg]at z;split at z
  ·rename_i hji
   have I:Qat h ks k<QjV h ks k:=by unfold Qat at hji ⊢;omega
   have h1:=QhQ I (ac hi);obtain⟨b,L,eb⟩:=Qd6 (Z _ (al (ac hi)));have h2:=Qiv hs hji z (ac hi) e D b L;rw[<-eb]at h2;exact QfG h2 h1
  cases z
 obtain⟨t,X,D⟩:=ct.1 R;obtain⟨j,z⟩:=bx X;rw[be]at z;have J:=QaK hs t (al z);have I:QjV h ks k<ks.length:=by
  have:=(ah.1 z).1;unfold Qat at this;omega
 obtain⟨u,hu⟩:∃u,ks[QjV h ks k]? = some u:=⟨_,ac I⟩;have hb:=Qpv hu;have hf:=QoC J D;have U:klt (Qaw (ents h t)) (Qaw (ents h u))=false:=by
  by_cases Y:QjV h ks k=Qat h ks k+1+j
  ·rw [Y,z] at hu
   simp only[Option.some.injEq]at hu;rw[hu];exact Qah _
  exact Qby (QgH hs Z (i:=QjV h ks k) (j:=Qat h ks k+1+j) (by unfold Qat at *;omega) hu z)
 exact QfG hb (by
  cases hc:klt e.1 (Qaw (ents h u))
  .rfl
  exact absurd (QdJ hf hc) (by rw[U];simp))
def QcY(B:Nat)(k:ByteArray)(v:Val):(h:Nat)->PT h->List (PT h)->Prop
 |0,t,ts=>ts.map Prod.snd=chunk (Qbq t.2 k v)/\∀u∈ts,B<=u.1
 |h+1,t,ts=>∃kid rs,t.2[Qat h t.2 k]? = some kid/\QcY B k v h kid rs/\ts.map Prod.snd=chunk (t.2.take (Qat h t.2 k)++rs++t.2.drop (Qat h t.2 k+1))/\∀u∈ts,B<=u.1
variable{A B:Nat}
theorem QcY.mono(z:A<=B){k:ByteArray}{v:Val}:∀{h:Nat} {t:PT h} {ts:List (PT h)},QcY B k v h t ts->QcY A k v h t ts
 |0,_,_,⟨h1,h2⟩=>⟨h1,λu hu=>aj z (h2 u hu)⟩
 |_+1,_,_,⟨kid,rs,h1,h2,h3,h4⟩=>⟨kid,rs,h1,h2.mono z,h3,λu hu=>aj z (h4 u hu)⟩
theorem Qr4{α β:Type}{ts:List (β × List α)}{l:List α}(h:ts.map Prod.snd=[l]):∃x,ts=[x]/\x.2=l:=by
 match ts,h with
 |[x],h=>exact⟨x,rfl,by simpa using h⟩
theorem QfO{α β:Type}{ts:List (β × List α)}{l m:List α}(h:ts.map Prod.snd=[l,m]):∃x y,ts=[x,y]/\x.2=l/\y.2=m:=by
 match ts,h with
 |[x,y],h=>exact⟨x,y,rfl,by simpa using h⟩
theorem Qus{ts:List (PT 0)}{l:List Ent}(h:ts.map Prod.snd=[l]):∃x:PT 0,ts=[x]/\x.2=l:=Qr4 (α:=Ent) (β:=Nat) h
theorem QuJ{ts:List (PT 0)}{l m:List Ent}(h:ts.map Prod.snd=[l,m]):∃x y:PT 0,ts=[x,y]/\x.2=l/\y.2=m:=QfO (α:=Ent) (β:=Nat) h
theorem QuI{ts:List (PT (n+1))}{l:List (PT n)}(h:ts.map Prod.snd=[l]):∃x:PT (n+1),ts=[x]/\x.2=l:=Qr4 (α:=PT n) (β:=Nat) h
theorem QuK{ts:List (PT (n+1))}{l m:List (PT n)}(h:ts.map Prod.snd=[l,m]):∃x y:PT (n+1),ts=[x,y]/\x.2=l/\y.2=m:=QfO (α:=PT n) (β:=Nat) h
theorem Qgz{α:Type}(l:List α):(∃a,chunk l=[a])\/∃a b,chunk l=[a,b]:=by
 unfold chunk;split
 .exact .inl ⟨_,rfl⟩
 exact .inr ⟨_,_,rfl⟩
theorem QcY.two{k:ByteArray}{v:Val}{t:PT h}{ts:List (PT h)}(z:QcY B k v h t ts):(∃a,ts=[a])\/∃a b,ts=[a,b]:=by
 have:∀{α β:Type} (l:List α) {ts:List (β × List α)},ts.map Prod.snd=chunk l->(∃a,ts=[a])\/∃a b,ts=[a,b]:=by
  intro α β l ts h;rcases Qgz l with⟨a,D⟩ |⟨a,b,D⟩<;>rw[D]at h
  ·match ts,h with
   |[x],_=>exact .inl ⟨x,rfl⟩
  match ts,h with
  |[x,y],_=>exact .inr ⟨x,y,rfl⟩
 cases h with
 |zero=>exact this _ z.1
 |succ h=>obtain⟨J,rs,-,-,I,-⟩:=z;exact this _ I
theorem QhE{α:Type}(l:List α):(chunk l).flatten=l:=by
 unfold chunk;split<;>simp
theorem QcN:∀(es:List Ent) (k:ByteArray) (v:Val),(Qbq es k v).length=es.length\/(Qbq es k v).length=es.length+1
 |[],_,_=>.inr rfl
 | e :: es,k,v=>by
   simp only[Qbq];split
   .rcases QcN es k v with h|h<;>simp[h]
   split<;>simp
theorem Qjy(es:List Ent)(k:ByteArray)(v:Val):0<(Qbq es k v).length:=by
 cases es with
 |nil=>simp[Qbq]
 |cons e es=>simp only[Qbq];split <;>(try split)<;>simp
theorem Qjt(ts:List (PT 0)):ts.flatMap (ents 0)=(ts.map Prod.snd).flatten:=by
 induction ts with
 |nil=>rfl
 | cons t ts ih=>
   rw[ba,ih];rfl
theorem QlA(h:Nat)(ts:List (PT (h+1))):ts.flatMap (ents (h+1))=((ts.map Prod.snd).flatten:List (PT h)).flatMap (ents h):=by
 induction ts with
 |nil=>rfl
 | cons t ts ih=>
   rw[ba,ih];show t.2.flatMap (ents h)++_=(t.2++_).flatMap (ents h);rw[aK]
theorem Qb3{t:PT (h+1)}(ok:OkT (h+1) t):∀k∈t.2,0<(ents h k).length:=λk z=>QbB h k (ok.2.2 k z).1 (by have:=(ok.2.2 k z).2;omega)
theorem QcY.ents{B:Nat}{k:ByteArray}{v:Val}:∀{h:Nat} {t:PT h} {ts:List (PT h)},QcY B k v h t ts->OkT h t->Sorted (ents h t)->ts.flatMap (Proofs.YtkjkafgnnoidpaaGreatDoor.ents h)=Qbq (ents h t) k v
 |0,t,ts,⟨h1,_⟩,_,_=>by rw[Qjt,h1,QhE];rfl
 | h+1,t,ts,⟨kid,rs,hk,hr,h1,_⟩,ok,hs=>by
   have L:=Qb3 ok;obtain⟨D,z,N,J⟩:=Qbb (h:=h) (ks:=t.2) hs L (by have:=ok.1;omega) k;rw[hk]at z;simp only[Option.some.injEq]at z;subst z;have I:=al hk;have R:=QcY.ents hr (ok.2.2 kid I).1 (QaK hs kid I);rw[QlA,h1,QhE,aK,aK,R];show _=Qbq (t.2.flatMap (Proofs.YtkjkafgnnoidpaaGreatDoor.ents h)) k v
   conv=>rhs;rw[QbU hk]
   rw[aK,ba,Qit N,QgN J,aO]
theorem QcY.ok{B:Nat}{k:ByteArray}{v:Val}:∀{h:Nat} {t:PT h} {ts:List (PT h)},QcY B k v h t ts->OkT h t->
  (∀u∈ts,OkT h u/\1<=size h u/\(4<=size h t->4<=size h u))/\(2<=ts.length->∀u∈ts,4<=size h u)
 | 0,t,ts,⟨h1,_⟩,ok=>by
   have hl:=QcN t.2 k v;have hp:=Qjy t.2 k v;have X:t.2.length<=8:=ok;unfold chunk at h1;split at h1
   ·rename_i h8
    obtain⟨x,rfl,z⟩:=Qus h1;refine⟨λu hu=>?_,λh=>by simp at h⟩;simp at hu;subst hu;refine⟨show u.2.length<=8 by rw[z];exact h8,show 1<=u.2.length by rw[z];omega,λI=>show 4<=u.2.length by rw[z];have I:4<=t.2.length:=I;omega⟩
   rename_i h8;obtain⟨x,y,rfl,z⟩:=QuJ h1;have Y:x.2.length=4:=by rw[z.1,ap];omega
   have Z:4<=y.2.length/\y.2.length<=8:=by rw[z.2,au];omega
   refine⟨λu hu=>?_,λ_ u hu=>?_⟩
   ·simp at hu
    rcases hu with rfl|rfl
    .exact ⟨show u.2.length<=8 by omega,show 1<=u.2.length by omega,λ_=>show 4<=u.2.length by omega⟩
    exact⟨show u.2.length<=8 by omega,show 1<=u.2.length by omega,λ_=>show 4<=u.2.length by omega⟩
   simp at hu;rcases hu with rfl|rfl
   .show 4<=u.2.length;omega
   show 4<=u.2.length;omega
 | h+1,t,ts,⟨kid,rs,hk,hr,h1,_⟩,ok=>by
   have N:=al hk;have a0:=(ah.1 hk).1;obtain⟨R,i2⟩:=QcY.ok hr (ok.2.2 kid N).1;have J:=(ok.2.2 kid N).2;have D:∀u∈t.2.take (Qat h t.2 k)++rs++t.2.drop (Qat h t.2 k+1),OkT h u/\4<=size h u:=λu hu=>by
    rcases aE.1 hu with hu|hu
    ·rcases aE.1 hu with hu | hu
     .exact ok.2.2 u (aM hu)
     exact⟨(R u hu).1,(R u hu).2.2 J⟩
    exact ok.2.2 u (aC hu)
   have U:(t.2.take (Qat h t.2 k)++rs++t.2.drop (Qat h t.2 k+1)).length=t.2.length\/(t.2.take (Qat h t.2 k)++rs++t.2.drop (Qat h t.2 k+1)).length=t.2.length+1:=by
    simp only[List.length_append,List.length_take,List.length_drop];rcases hr.two with⟨a,rfl⟩ |⟨a,b,rfl⟩<;>simp<;>omega
   obtain⟨o1,o2,-⟩:=ok;generalize t.2.take (Qat h t.2 k)++rs++t.2.drop (Qat h t.2 k+1)=L at *;unfold chunk at h1;split at h1
   ·rename_i h8
    obtain⟨x,rfl,z⟩:=QuI h1;refine⟨λu hu=>?_,λh=>by simp at h⟩;simp at hu;subst hu;refine⟨⟨by rw[z];omega,by rw[z];exact h8,by rw[z];exact D⟩,show 1<=u.2.length by rw[z];omega,λI=>show 4<=u.2.length by rw[z];have I:4<=t.2.length:=I;omega⟩
   rename_i h8;obtain⟨x,y,rfl,z⟩:=QuK h1;have Y:x.2.length=4:=by rw[z.1,ap];omega
   have Z:4<=y.2.length/\y.2.length<=8:=by rw[z.2,au];omega
   have ax:∀u∈x.2,OkT h u/\4<=size h u:=λu hu=>D u (aM (z.1▸hu))
   have ay:∀u∈y.2,OkT h u/\4<=size h u:=λu hu=>D u (aC (z.2▸hu))
   refine⟨λu hu=>?_,λ_ u hu=>?_⟩
   ·simp at hu
    rcases hu with rfl|rfl
    .exact ⟨⟨by omega,by omega,ax⟩,show 1<=u.2.length by omega,λ_=>show 4<=u.2.length by omega⟩
    exact⟨⟨by omega,by omega,ay⟩,show 1<=u.2.length by omega,λ_=>show 4<=u.2.length by omega⟩
   simp at hu;rcases hu with rfl|rfl
   .show 4<=u.2.length;omega
   show 4<=u.2.length;omega
theorem QlM{es:List Ent}(hs:Sorted es)(k:ByteArray)(v:Val) :
  Qbq es k v=es.take (Qcc es k)++(k,v) ::(if(es[Qcc es k]?).map Prod.fst=some k then es.drop (Qcc es k+1)else es.drop (Qcc es k)):=by
 have N:es.take (Qcc es k)=es.takeWhile λe=>klt e.1 k:=(ce.1 (List.takeWhile_prefix (l:=es) (λe:Ent=>klt e.1 k))).symm
 have R:∀e∈es.take (Qcc es k),klt e.1 k=true:=λe D=>by
  rw[N]at D;exact dd.1 (List.all_takeWhile (l:=es) (p:=λe:Ent=>klt e.1 k)) e D
 have I:∀e,es[Qcc es k]? = some e->klt e.1 k=false:=by
  intro e D;have Y:es.drop (Qcc es k)=es.dropWhile λe=>klt e.1 k:=by
   have h1:=aX (Qcc es k) es;rw[N]at h1;have h2:=List.takeWhile_append_dropWhile (p:=λe:Ent=>klt e.1 k) (l:=es);exact List.append_cancel_left (h1.trans h2.symm)
  have z:(es.drop (Qcc es k))[0]? = some e:=by rw[be];exact D
  rw[Y]at z;cases hd:es.dropWhile λe=>klt e.1 k with
  |nil=>rw[hd]at z;simp at z
  | cons x xs=>
    rw[hd]at z;simp at z;subst z;have:=List.head?_dropWhile_not (λe:Ent=>klt e.1 k) es;rw[hd]at this;simpa using this
 have X:∀e∈es.drop (Qcc es k),klt e.1 k=false:=λe D=>by
  obtain⟨j,J⟩:=bx D;rw[be]at J;by_cases z:j=0
  .subst z;exact I e J
  obtain⟨y,L⟩:∃y,es[Qcc es k]? = some y:=⟨_,ac (by have:=(ah.1 J).1;omega)⟩;have h1:=I y L;have h2:=QdX hs (i:=Qcc es k) (j:=Qcc es k+j) (by omega) L J;cases U:klt e.1 k
  .rfl
  rw[QaI h2 U]at h1;cases h1
 conv=>lhs;rw[<-aX (Qcc es k) es]
 rw[Qit R,Qsy X];congr 2;rw[List.head?_drop,List.tail_drop]
abbrev fe:=@or_false
def QcR{α:Type}(l r:List α):List (List α):=
 if 4<l.length then[l.take (l.length-1),l.drop (l.length-1)++r]else if 4<r.length then[l++r.take 1,r.drop 1]else[l++r]
theorem Qfr{α:Type}(l r:List α):(QcR l r).flatten=l++r:=by
 unfold QcR;split
 .simp [<-List.append_assoc]
 split
 .simp only[List.flatten_cons,List.flatten_nil,List.append_nil,List.append_assoc,List.take_append_drop]
 simp
theorem QjR{α:Type}(l r:List α):(QcR l r).length=1\/(QcR l r).length=2:=by
 unfold QcR;split
 .simp
 split<;>simp
theorem Ql2{α:Type}{l r:List α}(h:(l.length=3/\4<=r.length/\r.length<=8)\/(4<=l.length/\l.length<=8/\r.length=3)):∀x∈QcR l r,4<=x.length/\x.length<=8:=by
 unfold QcR;intro x z;split at z
 ·simp only [List.mem_cons,List.not_mem_nil,or_false] at z
  rcases z with rfl|rfl
  .rw [ap];omega
  rw[ai,au];omega
 split at z
 ·simp only [List.mem_cons,List.not_mem_nil,or_false] at z
  rcases z with rfl|rfl
  .rw [ai,ap];omega
  rw[au];omega
 simp only[List.mem_cons,List.not_mem_nil,or_false]at z;subst z;rw[ai];omega
theorem Qpt{α:Type}{l r:List α}{x:List α}(z:x∈QcR l r){a:α}(D:a∈x):a∈l\/a∈r:=by
 have:a∈(QcR l r).flatten:=List.mem_flatten.2 ⟨x,z,D⟩;rw[Qfr]at this;exact aE.1 this
def Qew(B:Nat):(h:Nat)->PT h->PT h->List (PT h)->Prop
 |0,l,r,ts=>ts.map Prod.snd=QcR l.2 r.2/\∀u∈ts,B<=u.1
 |_+1,l,r,ts=>ts.map Prod.snd=QcR l.2 r.2/\∀u∈ts,B<=u.1
theorem Qew.mono(z:A<=B):∀{h:Nat} {l r:PT h} {ts:List (PT h)},Qew B h l r ts->Qew A h l r ts
 |0,_,_,_,⟨h1,h2⟩=>⟨h1,λu hu=>aj z (h2 u hu)⟩
 |_+1,_,_,_,⟨h1,h2⟩=>⟨h1,λu hu=>aj z (h2 u hu)⟩
theorem Qew.ents:∀{h:Nat} {l r:PT h} {ts:List (PT h)},Qew B h l r ts->ts.flatMap (Proofs.YtkjkafgnnoidpaaGreatDoor.ents h)=ents h l++ents h r
 |0,l,r,ts,⟨h1,_⟩=>by rw[Qjt,h1,Qfr];rfl
 | h+1,l,r,ts,⟨h1,_⟩=>by
   rw[QlA,h1,Qfr];show(l.2++r.2).flatMap _=_;rw[aK];rfl
theorem Qpb{α β:Type}{ts:List (β × α)}{L:List α}(h:ts.map Prod.snd=L)(z:L.length=1\/L.length=2):ts.length=1\/ts.length=2:=by
 subst h;rwa[aq]at z
theorem Qew.len:∀{h:Nat} {l r:PT h} {ts:List (PT h)},Qew B h l r ts->ts.length=1\/ts.length=2
 |0,l,r,ts,⟨h1,_⟩=>Qpb h1 (QjR (α:=Ent) _ _)
 |n+1,l,r,ts,⟨h1,_⟩=>Qpb h1 (QjR (α:=PT n) _ _)
theorem Qew.ok:∀{h:Nat} {l r:PT h} {ts:List (PT h)},Qew B h l r ts->OkT h l->OkT h r->(size h l=3/\4<=size h r)\/(4<=size h l/\size h r=3)->∀u∈ts,OkT h u/\4<=size h u
 | 0,l,r,ts,⟨h1,_⟩,D,z,hs,u,hu=>by
   have J:u.2∈QcR l.2 r.2:=by rw[<-h1];exact di hu
   have D:l.2.length<=8:=D;have z:r.2.length<=8:=z;have hs:(l.2.length=3/\4<=r.2.length)\/(4<=l.2.length/\r.2.length=3):=hs;have:=Ql2 (by omega) _ J;exact⟨this.2,this.1⟩
 | h+1,l,r,ts,⟨h1,_⟩,D,z,hs,u,hu=>by
   have J:u.2∈QcR l.2 r.2:=by rw[<-h1];exact di hu
   have L:l.2.length<=8:=D.2.1;have N:r.2.length<=8:=z.2.1;have hs:(l.2.length=3/\4<=r.2.length)\/(4<=l.2.length/\r.2.length=3):=hs;have:=Ql2 (by omega) _ J;refine⟨⟨by omega,this.2,λx I=>?_⟩,this.1⟩;rcases Qpt J I with I|I
   .exact D.2.2 x I
   exact z.2.2 x I
def QrN(B h:Nat)(ks:List (PT h))(i:Nat)(ks':List (PT h)):Prop:=
 ∃l r ts,ks[i-1]? = some l/\ks[i-1+1]? = some r/\Qew B h l r ts/\ks'=ks.take (i-1)++ts++ks.drop (i-1+2)
def Qmp(B:Nat)(k:ByteArray)(h:Nat)(R:PT h->PT h->Prop)(ks ks':List (PT h)):Prop:=
 ∃kid kid',ks[Qat h ks k]? = some kid/\R kid kid'/\
  ((4<=size h kid'/\ks'=ks.set (Qat h ks k) kid')\/(size h kid'<4/\QrN B h (ks.set (Qat h ks k) kid') (Qat h ks k) ks'))
def QiV(B:Nat)(k:ByteArray):(h:Nat)->PT h->PT h->Prop
 |0,t,u=>u.2=Qb2 t.2 k/\B<=u.1
 |h+1,t,u=>Qmp B k h (QiV B k h) t.2 u.2/\B<=u.1
theorem QrN.mono(D:A<=B){ks z:List (PT h)}{i:Nat}(N:QrN B h ks i z):QrN A h ks i z:=by
 obtain⟨l,r,L,h1,h2,I,J⟩:=N;exact⟨l,r,L,h1,h2,I.mono D,J⟩
theorem Qmp.mono(I:A<=B){k:ByteArray}{R S:PT h->PT h->Prop}(L:∀x y,R x y->S x y){ks D:List (PT h)}(hd:Qmp B k h R ks D):Qmp A k h S ks D:=by
 obtain⟨J,z,h1,h2,N⟩:=hd;exact⟨J,z,h1,L _ _ h2,N.imp_right λ⟨a,b⟩=>⟨a,b.mono I⟩⟩
theorem QiV.mono(z:A<=B){k:ByteArray}:∀{h:Nat} {t u:PT h},QiV B k h t u->QiV A k h t u
 |0,_,_,⟨h1,h2⟩=>⟨h1,aj z h2⟩
 |_+1,_,_,⟨h1,h2⟩=>⟨h1.mono z λ_ _ D=>D.mono z,aj z h2⟩
theorem set_mid{α:Type}{l:List α}{i:Nat}{x y:α}(h:l[i]? = some x):l.set i y=l.take i++y::l.drop (i+1):=by
 rw[bS,em (ah.1 h).1]
theorem QiO{α:Type}{l:List α}{i:Nat}{x y:α}(h:l[i]? = some x)(D:l[i+1]? = some y):l=l.take i++x::y::l.drop (i+2):=by
 have z:=QbU h;obtain⟨hi,rfl⟩:=ah.1 D;rw[aD hi]at z;exact z
theorem QrN.ents{ks z:List (PT h)}{i:Nat}(I:QrN B h ks i z):z.flatMap (Proofs.YtkjkafgnnoidpaaGreatDoor.ents h)=ks.flatMap (Proofs.YtkjkafgnnoidpaaGreatDoor.ents h):=by
 obtain⟨l,r,J,h1,h2,D,rfl⟩:=I
 conv=>rhs;rw[QiO h1 h2]
 simp only[List.flatMap_append,List.flatMap_cons,D.ents,List.append_assoc]
theorem Qge{ks:List (PT h)}{k:ByteArray}{z:PT h}(I:ks[Qat h ks k]? = some z)(J:∀e∈(ks.take (Qat h ks k)).flatMap (ents h),klt e.1 k=true)(D:∀e∈(ks.drop (Qat h ks k+1)).flatMap (ents h),klt k e.1=true) :
  Qam (ks.flatMap (ents h)) k=Qam (ents h z) k:=by
 conv=>lhs;rw[QbU I]
 rw[aK,ba,QlF J,Qjv D]
theorem Qmp.ents{k:ByteArray}{R:PT h->PT h->Prop}{ks J:List (PT h)}(hd:Qmp B k h R ks J)(hs:Sorted (ks.flatMap (Proofs.YtkjkafgnnoidpaaGreatDoor.ents h)))(hp:∀x∈ks,0<(Proofs.YtkjkafgnnoidpaaGreatDoor.ents h x).length)(N:0<ks.length)
  (hR:∀x y,x∈ks->R x y->Proofs.YtkjkafgnnoidpaaGreatDoor.ents h y=Qb2 (Proofs.YtkjkafgnnoidpaaGreatDoor.ents h x) k):J.flatMap (Proofs.YtkjkafgnnoidpaaGreatDoor.ents h)=Qb2 (ks.flatMap (Proofs.YtkjkafgnnoidpaaGreatDoor.ents h)) k:=by
 obtain⟨U,z,L,Y,Z⟩:=hd;obtain⟨X,D,hA,hC⟩:=Qbb (h:=h) (ks:=ks) hs hp N k;rw[L]at D;simp only[Option.some.injEq]at D;subst D;have I:(ks.set (Qat h ks k) z).flatMap (Proofs.YtkjkafgnnoidpaaGreatDoor.ents h)=Qb2 (ks.flatMap (Proofs.YtkjkafgnnoidpaaGreatDoor.ents h)) k:=by
  rw[set_mid L]
  conv=>rhs;rw[QbU L]
  simp only[List.flatMap_append,List.flatMap_cons];rw[hR U z (al L) Y,Qig hA,QgG hC]
 rcases Z with⟨-,rfl⟩ |⟨-,hm⟩
 .exact I
 rw[hm.ents,I]
theorem QiV.ents{k:ByteArray}:∀{h:Nat} {t u:PT h},QiV B k h t u->OkT h t->Sorted (Proofs.YtkjkafgnnoidpaaGreatDoor.ents h t)->Proofs.YtkjkafgnnoidpaaGreatDoor.ents h u=Qb2 (Proofs.YtkjkafgnnoidpaaGreatDoor.ents h t) k
 |0,t,u,⟨h1,_⟩,_,_=>h1
 | h+1,t,u,⟨h1,_⟩,ok,hs=>
   h1.ents hs (Qb3 ok) (by have:=ok.1;omega) λx y z D=>D.ents (ok.2.2 x z).1 (QaK hs x z)
theorem Qly:∀{es:List Ent} {k:ByteArray},Sorted es->(Qam es k).isSome=true->(Qb2 es k).length+1=es.length
 |[],_,_,h=>by cases h
 | e :: es,k,hs,h=>by
   have z:=aV.1 hs;simp only[Qb2];by_cases J:e.1=k
   ·subst J
    simp[Qah]
   simp only[Qam,J,if_false]at h;have I:klt e.1 k=true:=by
    cases D:Qam es k with
    |none=>rw[D]at h;cases h
    | some v=>
      have:∃x∈es,x.1=k:=by
       clear hs z h J
       induction es with
       |nil=>cases D
       | cons a es ih=>
         simp only[Qam]at D;by_cases N:a.1=k
         .exact ⟨a,aw ..,N⟩
         simp only[N,if_false]at D;obtain⟨x,L,e⟩:=ih D;exact⟨x,aI _ L,e⟩
      obtain⟨x,L,rfl⟩:=this;exact z.1 x L
   simp only[I,if_true,List.length_cons];rw[Qly z.2 h]
theorem Qmp.ok{k:ByteArray}{R:PT h->PT h->Prop}{ks L:List (PT h)}(hd:Qmp B k h R ks L)(U:∀x∈ks,OkT h x/\4<=size h x)(h2:2<=ks.length)
  (hR:∀x y,x∈ks->ks[Qat h ks k]? = some x->R x y->OkT h y/\size h x<=size h y+1):(∀u∈L,OkT h u/\4<=size h u)/\L.length<=ks.length/\ks.length<=L.length+1:=by
 obtain⟨a0,z,hk,hr,h3⟩:=hd;have a1:=al hk;have hi:=(ah.1 hk).1;obtain⟨o1,o2⟩:=hR a0 z a1 hk hr;have o4:=(U a0 a1).2;have Z:∀u∈ks.set (Qat h ks k) z,u=z\/(OkT h u/\4<=size h u):=λu hu=>by
  rcases bB hu with hu|hu
  .exact .inr (U u hu)
  exact .inl hu
 rcases h3 with⟨h4,rfl⟩ |⟨h4,l,r,ts,hl,J,hp,rfl⟩
 ·refine ⟨fun u hu=>?_,by simp,by simp⟩
  rcases Z u hu with rfl|h
  .exact ⟨o1,h4⟩
  exact h
 generalize hI:Qat h ks k=i at *;have Y:size h z=3:=by omega
 have I:∀j,j≠i->∀x,(ks.set i z)[j]? = some x->OkT h x/\4<=size h x:=λj N x hx=>by
  rw[cY (by omega)]at hx;exact U x (al hx)
 have X:(ks.set i z)[i]? = some z:=by rw[cO hi]
 have D:OkT h l/\OkT h r/\((size h l=3/\4<=size h r)\/(4<=size h l/\size h r=3)):=by
  by_cases h0:i=0
  ·subst h0
   rw[X]at hl;simp only[Option.some.injEq]at hl;subst hl;have:=I 1 (by omega) r J;exact⟨o1,this.1,.inl ⟨Y,this.2⟩⟩
  rw[show i-1+1=i from by omega,X]at J;simp only[Option.some.injEq]at J;subst J;have:=I (i-1) (by omega) l hl;exact⟨this.1,o1,.inr ⟨this.2,Y⟩⟩
 have a2:=hp.ok D.1 D.2.1 D.2.2;have a3:=hp.len;refine⟨λu hu=>?_,?_,?_⟩
 ·rcases aE.1 hu with hu | hu
  ·rcases aE.1 hu with hu | hu
   ·obtain ⟨j,N⟩:=bx hu
    rw[bg]at N;split at N
    .exact I j (by omega) u N
    cases N
   exact a2 u hu
  obtain⟨j,N⟩:=bx hu;rw[be]at N;exact I _ (by omega) u N
 .simp only[List.length_append,List.length_take,List.length_drop,List.length_set];omega
 simp only[List.length_append,List.length_take,List.length_drop,List.length_set];have:=(ah.1 J).1;rw[bO]at this;omega
theorem QiV.ok{k:ByteArray}:∀{h:Nat} {t u:PT h},QiV B k h t u->OkT h t->4<=size h t->Sorted (Proofs.YtkjkafgnnoidpaaGreatDoor.ents h t)->(Qam (Proofs.YtkjkafgnnoidpaaGreatDoor.ents h t) k).isSome=true->OkT h u/\size h t<=size h u+1/\size h u<=size h t
 | 0,t,u,⟨h1,_⟩,ok,_,hs,hg=>by
   have:=Qly hs hg;have e:size 0 u=(Qb2 (Proofs.YtkjkafgnnoidpaaGreatDoor.ents 0 t) k).length:=by show u.2.length=_;rw[h1];rfl
   have X:(Proofs.YtkjkafgnnoidpaaGreatDoor.ents 0 t).length=size 0 t:=rfl;have ok:size 0 t<=8:=ok;exact⟨show size 0 u<=8 by omega,by omega,by omega⟩
 | h+1,t,u,⟨h1,_⟩,ok,J,hs,hg=>by
   have J:4<=t.2.length:=J;obtain⟨a,b,c⟩:=h1.ok ok.2.2 ok.1 λx y I D N=>by
    obtain⟨L,z,R,U⟩:=Qbb (h:=h) (ks:=t.2) hs (Qb3 ok) (by omega) k;rw[D]at z;simp only[Option.some.injEq]at z;subst z;have:=N.ok (ok.2.2 x I).1 (ok.2.2 x I).2 (QaK hs x I) (by rw[<-Qge D R U];exact hg);exact⟨this.1,this.2.1⟩
   have Y:=ok.2.1;exact⟨⟨by omega,by omega,a⟩,c,b⟩
theorem Qom{es:List Ent}{k:ByteArray}(h:Qam es k=none):Qb2 es k=es:=by
 induction es with
 |nil=>rfl
 | cons e es ih=>
   simp only[Qam]at h;by_cases z:e.1=k
   .simp [z]at h
   simp only[z,if_false]at h;simp only[Qb2,z,if_false];split
   .rw [ih h]
   rfl
def Qcp(a b:Int):Int:=if a<b then -1 else if b<a then 1 else 0
def Qi7(a b:Bool):Int:=if a=b then 0 else if b then -1 else 1
def Qbn(a b:ByteArray):Int:=if klt a b then -1 else if klt b a then 1 else 0
mutual
def Qbo:Val->Val->Int
 | .mk k b i t l ok ov,y=>
   if k≠y.kind then Qcp k y.kind else if k=2 then Qi7 b y.b else if k=3 then Qcp i y.i else if k=4 then Qbn t y.t else if k=5 then cmpL l y.l else if k=6 then Qfe ov ok y.ok y.ov else 0
def cmpL:List Val->List Val->Int
 |[],m=>if m.length=0 then 0 else -1
 |_::_,[]=>1
 |a::l,b::m=>if Qbo a b≠0 then Qbo a b else cmpL l m
def Qfe:List Val->List ByteArray->List ByteArray->List Val->Int
 |[],_,_,m=>if m.length=0 then 0 else -1
 |_::_,_,_,[]=>1
 |a::l,ka,kb,b::m=>if Qbn (ka.headD ByteArray.empty) (kb.headD ByteArray.empty)≠0 then Qbn (ka.headD ByteArray.empty) (kb.headD ByteArray.empty)else if Qbo a b≠0 then Qbo a b else Qfe l ka.tail kb.tail m
end
theorem QjM(a:Int):Qcp a a=0:=by simp[Qcp]
theorem QjN{a b:Int}:Qcp a b=0↔a=b:=by unfold Qcp;split <;>(try split)<;>omega
theorem QmA{a b:Bool}:Qi7 a b=0↔a=b:=by cases a<;>cases b<;>simp[Qi7]
theorem Qee(a:ByteArray):Qbn a a=0:=by simp[Qbn,Qah]
theorem QhZ{a b:ByteArray}:Qbn a b=0↔a=b:=by
 constructor
 ·intro h
  unfold Qbn at h;split at h
  .cases h
  split at h
  .cases h
  rename_i h1 h2;exact QbR (by simpa using h1) (by simpa using h2)
 rintro rfl;exact Qee _
theorem Qog(m:Nat):∀d:Val,SizeOf.sizeOf d<=m->Qbo d d=0:=by
 induction m with
 |zero=>intro d hd;have:=Val.Qb7 d;omega
 | succ m ih=>
   intro d hd;obtain⟨k,b,i,t,l,J,N⟩:=d;have L:∀z:List Val,SizeOf.sizeOf z<=m->cmpL z z=0:=by
    intro z
    induction z with
    |nil=>intro _;simp[cmpL]
    | cons a z ihl=>
      intro hs;simp only[List.cons.sizeOf_spec]at hs;simp only[cmpL];rw[ih a (by omega)];simpa using ihl (by omega)
   have I:∀(z:List Val) (D:List ByteArray),SizeOf.sizeOf z<=m->Qfe z D D z=0:=by
    intro z
    induction z with
    |nil=>intro D _;simp[Qfe]
    | cons a z ihl=>
      intro D hs;simp only[List.cons.sizeOf_spec]at hs;simp only[Qfe];rw[ih a (by omega),Qee];simpa using ihl D.tail (by omega)
   simp only[Val.mk.sizeOf_spec]at hd;simp only[Qbo,Val.kind,Val.b,Val.i,Val.t,Val.l,Val.ok,Val.ov];simp only[ne_eq,not_true_eq_false,if_false,QjM,Qee,L l (by omega),I N J (by omega),Qi7,if_true];simp
theorem QgA(d:Val):Qbo d d=0:=Qog _ d (an _)
def QcT:List Ent->List Ent->Bool
 |[],[]=>true
 |a::l,b::m=>decide (a.1=b.1)&&decide (Qbo a.2 b.2=0)&&QcT l m
 |_,_=>false
theorem Qec:∀l:List Ent,QcT l l=true
 |[]=>rfl
 |a::l=>by simp[QcT,QgA,Qec l]
theorem Qj5:∀{l m:List Ent},QcT l m=true->l.length=m.length
 |[],[],_=>rfl
 | a :: l,b :: m,h=>by
   simp only[QcT,Bool.and_eq_true]at h;simp[Qj5 h.2]
 |[],_::_,h=>by cases h
 |_::_,[],h=>by cases h
section
variable{P : Program}(w : World)
theorem Qf3{ops:Array Oper}{o:Oper}{a:Act}{K:Act->World->Prop}{Q:Exit->Act->World->Prop}{E:Prop}(z:o.guard=none)(d s:Operand)(t I:TypeId)
  (N:o.op=.call { callee:=.builtin .append,args:=#[d,s],argTypes:=#[t,I] }) (v u:Value) (hd:a.eval d=v) (hs:a.eval s=u) {D:Value} {w':World}
  (J:(Builtin.append_ #[t,I] o.type #[v,u]).run P w=.ok D w') (h:K (a.put o.dst D) w') :
  if Region.wanted o (yielded ops a.tmps)=true then Oper.wp P o a w K Q else E:=by
 have L:Region.wanted o (yielded ops a.tmps)=true:=by simp[Region.wanted,z]
 rw[em L];unfold Oper.wp execOp;simp only[N,resolve,invoke,builtin,Sem.run_bind,Sem.run_pure,Result.andThen_ok,List.map_toArray,List.map_cons,List.map_nil,hd,hs,J];exact h
end
def Qqq(base:Nat)(s:Sl)(n i:Nat)(xs:List Value)(w:World)(e:Ending)(w':World):Prop:=
 e=.returned (.slice s.a (n-1) s.c)/\w'.ownsRow base 70 7 (.slice s.a (n-1) s.c) (n-1) (xs.take (i*7)++xs.drop ((i+1)*7))/\Wr w w' s.row
theorem zeroE(w:World):(zeroValue 70).run prog w=.ok (.agg #[.string ByteArray.empty,.int .i64 0,.bool false,.int .i64 0,.string ByteArray.empty,.slice none 0 0,.slice none 0 0]) w:=by kernel_rfl
theorem QqE{base n i:Nat}{xs:List Value}(X:w.ownsRow base 70 7 (.slice s.a n s.c) n xs)(hn:n<=1000)(d8:i<n)(h1:∀u∈xs,u.oneCell'=true) :
  Calls prog 134 #[.slice s.a n s.c,.int .i64 i,.int .i64 ((i:Int)+1)] w (Qqq base s n i xs w):=by
 obtain⟨i0,hi,e1,a8,e2⟩:=eG Tryz.Qa1;rcases X.2 with⟨hs,h0⟩ |⟨g,D,J,hs,c3,hg,e8,c0,a9,L⟩
 .omega
 simp only[Value.slice.injEq]at hs;obtain⟨ha,-,hc⟩:=hs;have c4:s=⟨some ⟨g,0,none⟩,D⟩:=by cases s;simp_all
 have b0:=X.1;subst c4;clear X ha hc;have d6:i<=D:=by omega
 have c7:(i:Int)<(n:Int):=by omega
 have d3:(i:Int)+1<=(n:Int):=by omega
 have d5:(0:Int)<=(i:Int):=by omega
 have e3:(0:Int)<=(i:Int)+1:=by omega
 have f0:(i:Int)<=(i:Int)+1:=by omega
 have e4:((i:Int) ==(i:Int)+1)=false:=eu.2 (by omega);have d4:(D:Int)<=9223372036854775807:=by unfold maxLen at c0;omega
 have c6:(n:Int)<=(D:Int):=by omega
 have e6:((i:Int)+1).toNat=i+1:=by omega
 obtain⟨z,I⟩:∃z,z=xs.drop ((i+1)*7):=⟨_,rfl⟩;have R:z.length=(n -(i+1))*7:=by rw[I,au,b0,<-dq]
 have c1:∀u∈z,u.oneCell'=true:=λu hu=>h1 u (aC (I▸hu))
 obtain⟨A,hA,a7⟩:∃A:Addr,(if D=i+1 then some (⟨g,0,none⟩:Addr)else some ⟨g,(i+1)*7,none⟩)=some A/\(∀j u,z[j]? = some u->w.drew.cell? (A.add j)=some u):=by
  by_cases h:D=i+1
  ·refine ⟨⟨g,0,none⟩,by simp [h],fun t u hu=>?_⟩
   have h0:z.length=0:=by rw[R,show n -(i+1)=0 from by omega,cG]
   rw[bR.1 h0]at hu;simp at hu
  refine⟨⟨g,(i+1)*7,none⟩,by simp[h],λj u hu=>?_⟩;rw[Qbu,eU,eX w g _ J 70 (0,0) hg];rw[I,be,<-L,bg]at hu;split at hu
  .simpa [Nat.add_comm,Nat.add_left_comm,Nat.add_assoc,Nat.mul_comm]using hu
  cases hu
 obtain⟨N,a3⟩:∃N,N=(J.toList.take (i*7)++z++J.toList.drop (i*7+z.length)).toArray:=⟨_,rfl⟩;have a6:i*7+z.length<=J.size:=by rw[R,a9];omega
 have b4:N.size=J.size:=by rw[a3];simp;omega
 obtain⟨W1,a2⟩:∃W1,W1=w.drew.setRow g N:=⟨_,rfl⟩;have c2:∀ty,(Builtin.append_ #[22,22] ty #[.slice (some ⟨g,0,none⟩) i D,.slice (some A) (n -(i+1)) (D -(i+1))]).run prog w.drew=.ok (.slice (some ⟨g,0,none⟩) (n-1) D) W1:=λty=>by
  have h:=run_append_room (P:=prog) w.drew 22 ty 70 i0 underlying22 hi g i D J hg A (n -(i+1)) (D -(i+1)) z (by rw[a8];exact R) a7 c1 (by omega) (by rw[a8];exact a6);rw[a8]at h;rw[a2,a3,h,show i+(n -(i+1))=n-1 from by omega]
 have b3:W1.heap[g]? = some (.cells N 70 (0,0)):=by rw[a2];exact eQ w.drew g J N 70 (0,0) hg
 obtain⟨Z,hZ⟩:∃Z,Z=((.agg #[.string ByteArray.empty,.int .i64 0,.bool false,.int .i64 0,.string ByteArray.empty,.slice none 0 0,.slice none 0 0]):Value):=⟨_,rfl⟩;have b6:∀w,(zeroValue 70).run prog w=.ok Z w:=λw=>by rw[hZ];exact zeroE w
 obtain⟨zs,a1⟩:∃zs,zs=(Builtin.zeroCells Z.cells 1).toList:=⟨_,rfl⟩;have b5:zs.length=7:=by rw[a1,aH,fq,hZ];rfl
 have a5:∀u∈zs,u.oneCell'=true:=by
  have:zs.all (·.oneCell')=true:=by rw[a1,hZ];kernel_rfl
  exactλu hu=>dd.1 this u hu
 obtain⟨A2,a0⟩:∃A2,A2=(N.toList.take ((n-1)*7)++zs++N.toList.drop ((n-1)*7+zs.length)).toArray:=⟨_,rfl⟩;obtain⟨W2,Y⟩:∃W2,W2=W1.setRow g A2:=⟨_,rfl⟩;have U:=run_storeCells_at prog g ((n-1)*7) 70 zs 0 N W1 b3 (by rw[b5,b4,a9];omega) a5;have e7:∀ty c,(Builtin.clear_ #[22] ty #[.slice (some ⟨g,(n-1)*7,none⟩) 1 c]).run prog W1=.ok (.tuple #[]) W2:=λty c=>by
  simp only[Nat.add_zero]at U;rw[<-a0,<-Y]at U;rw[a1]at U;simp[Builtin.clear_,run_underlying underlying22,b6,U]
 have b7:W2.heap[g]? = some (.cells A2 70 (0,0)):=by rw[Y];exact eQ W1 g N A2 70 (0,0) b3
 have b8:Wr w W2 (some g):=by
  rw[Y,a2];exact((Wr.refl w (some g)).drew.trans (fI w.drew N) (λi hi=>.inl hi)).trans (fI (w.drew.setRow g N) A2) (λi hi=>.inl hi)
 have a4:W2.ownsRow base 70 7 (.slice (some ⟨g,0,none⟩) (n-1) D) (n-1) (xs.take (i*7)++xs.drop ((i+1)*7)):=by
  have ht:xs.take (i*7)=J.toList.take (i*7):=by rw[<-L,cN,bz (by omega)]
  refine⟨by simp[b0];omega,.inr ⟨g,D,A2,rfl,c3,b7,by omega,c0,by rw[a0];simp;omega,?_⟩⟩;have d7:(J.toList.take (i*7)++z).length=(n-1)*7:=by rw[ai,ap,aH,R];omega
  rw[<-I,ht,a0];simp only[List.toList_toArray,List.append_assoc];rw[aW (by rw[ap,aH];omega),cN,bz (by omega),a3];simp only[List.toList_toArray];rw[aW (by omega),bj (by omega)]
 have HF:=hY a4;have HW:=hY b8;have HA:=hY hA;have e0:((n-1:Nat):Int)<(n:Int):=by omega
 have d0:¬D=n-1:=by omega
 have c8:n -(n-1)=1:=by omega
 have c9:((n-1:Nat):Int)<=(n:Int):=by omega
 clear a4 b8 b6 hZ b7 b3 U b4 Y a2 a0 a3 a7 R c1 I a6 hg a9 L h1 b0 b5 a5 a1;go_in;go_wp2_with fail;go_region_law (refine Qf3 _ rfl _ _ 22 22 rfl _ _ (by simp[Act.eval,Act.put]) (by simp[Act.eval,Act.put]) (c2 _) ?_);go_wp2_with fail;go_ret;exact⟨rfl,HF.o,HW.o⟩
section
variable{P : Program}(w : World)
theorem Qf4{ops:Array Oper}{o:Oper}{a:Act}{K:Act->World->Prop}{Q:Exit->Act->World->Prop}{E:Prop}(z:o.guard=none)(d s:Operand)(t I:TypeId)
  (N:o.op=.call { callee:=.builtin .append,args:=#[d,s],argTypes:=#[t,I] }) (v u:Value) (hd:a.eval d=v) (hs:a.eval s=u) {D:Value} {w':World}
  (J:(Builtin.append_ #[t,I] o.type #[v,u]).run P w=.ok D w') (h:K (a.put o.dst D) w') :
  if Region.wanted o (yielded ops a.tmps)=true then Oper.wp P o a w K Q else E:=by
 have L:Region.wanted o (yielded ops a.tmps)=true:=by simp[Region.wanted,z]
 rw[em L];unfold Oper.wp execOp;simp only[N,resolve,invoke,builtin,Sem.run_bind,Sem.run_pure,Result.andThen_ok,List.map_toArray,List.map_cons,List.map_nil,hd,hs,J];exact h
end
def Qqr(base:Nat)(s:Sl)(n i:Nat)(xs:List Value)(w:World)(e:Ending)(w':World):Prop:=
 e=.returned (.slice s.a (n-1) s.c)/\w'.ownsRow base 39 1 (.slice s.a (n-1) s.c) (n-1) (xs.take (i*1)++xs.drop ((i+1)*1))/\Wr w w' s.row
theorem Quu(w:World):(zeroValue 39).run prog w=.ok (.pointer none) w:=by kernel_rfl
theorem Qgd{base n i:Nat}{xs:List Value}(X:w.ownsRow base 39 1 (.slice s.a n s.c) n xs)(hn:n<=1000)(d8:i<n)(h1:∀u∈xs,u.oneCell'=true) :
  Calls prog 192 #[.slice s.a n s.c,.int .i64 i,.int .i64 ((i:Int)+1)] w (Qqr base s n i xs w):=by
 obtain⟨i0,hi,e1,a8,e2⟩:=eG Tryz.QbQ;rcases X.2 with⟨hs,h0⟩ |⟨g,D,J,hs,c3,hg,e8,c0,a9,L⟩
 .omega
 simp only[Value.slice.injEq]at hs;obtain⟨ha,-,hc⟩:=hs;have c4:s=⟨some ⟨g,0,none⟩,D⟩:=by cases s;simp_all
 have b0:=X.1;subst c4;clear X ha hc;have d6:i<=D:=by omega
 have c7:(i:Int)<(n:Int):=by omega
 have d3:(i:Int)+1<=(n:Int):=by omega
 have d5:(0:Int)<=(i:Int):=by omega
 have e3:(0:Int)<=(i:Int)+1:=by omega
 have f0:(i:Int)<=(i:Int)+1:=by omega
 have e4:((i:Int) ==(i:Int)+1)=false:=eu.2 (by omega);have d4:(D:Int)<=9223372036854775807:=by unfold maxLen at c0;omega
 have c6:(n:Int)<=(D:Int):=by omega
 have e6:((i:Int)+1).toNat=i+1:=by omega
 obtain⟨z,I⟩:∃z,z=xs.drop ((i+1)*1):=⟨_,rfl⟩;have R:z.length=(n -(i+1))*1:=by rw[I,au,b0,<-dq]
 have c1:∀u∈z,u.oneCell'=true:=λu hu=>h1 u (aC (I▸hu))
 obtain⟨A,hA,a7⟩:∃A:Addr,(if D=i+1 then some (⟨g,0,none⟩:Addr)else some ⟨g,i+1,none⟩)=some A/\(∀j u,z[j]? = some u->w.drew.cell? (A.add j)=some u):=by
  by_cases h:D=i+1
  ·refine ⟨⟨g,0,none⟩,by simp [h],fun t u hu=>?_⟩
   have h0:z.length=0:=by rw[R,show n -(i+1)=0 from by omega,cG]
   rw[bR.1 h0]at hu;simp at hu
  refine⟨⟨g,i+1,none⟩,by simp[h],λj u hu=>?_⟩;rw[Qbu,eU,eX w g _ J 39 (0,0) hg];rw[I,be,<-L,bg]at hu;split at hu
  .simpa [Nat.add_comm,Nat.add_left_comm,Nat.add_assoc,Nat.mul_comm]using hu
  cases hu
 obtain⟨N,a3⟩:∃N,N=(J.toList.take (i*1)++z++J.toList.drop (i*1+z.length)).toArray:=⟨_,rfl⟩;have a6:i*1+z.length<=J.size:=by rw[R,a9];omega
 have b4:N.size=J.size:=by rw[a3];simp;omega
 obtain⟨W1,a2⟩:∃W1,W1=w.drew.setRow g N:=⟨_,rfl⟩;have c2:∀ty,(Builtin.append_ #[114,114] ty #[.slice (some ⟨g,0,none⟩) i D,.slice (some A) (n -(i+1)) (D -(i+1))]).run prog w.drew=.ok (.slice (some ⟨g,0,none⟩) (n-1) D) W1:=λty=>by
  have h:=run_append_room (P:=prog) w.drew 114 ty 39 i0 underlying114 hi g i D J hg A (n -(i+1)) (D -(i+1)) z (by rw[a8];exact R) a7 c1 (by omega) (by rw[a8];exact a6);rw[a8]at h;rw[a2,a3,h,show i+(n -(i+1))=n-1 from by omega]
 have b3:W1.heap[g]? = some (.cells N 39 (0,0)):=by rw[a2];exact eQ w.drew g J N 39 (0,0) hg
 obtain⟨Z,hZ⟩:∃Z,Z=((.pointer none):Value):=⟨_,rfl⟩;have b6:∀w,(zeroValue 39).run prog w=.ok Z w:=λw=>by rw[hZ];exact Quu w
 obtain⟨zs,a1⟩:∃zs,zs=(Builtin.zeroCells Z.cells 1).toList:=⟨_,rfl⟩;have b5:zs.length=1:=by rw[a1,aH,fq,hZ];rfl
 have a5:∀u∈zs,u.oneCell'=true:=by
  have:zs.all (·.oneCell')=true:=by rw[a1,hZ];kernel_rfl
  exactλu hu=>dd.1 this u hu
 obtain⟨A2,a0⟩:∃A2,A2=(N.toList.take (n-1)++zs++N.toList.drop (n-1+zs.length)).toArray:=⟨_,rfl⟩;obtain⟨W2,Y⟩:∃W2,W2=W1.setRow g A2:=⟨_,rfl⟩;have U:=run_storeCells_at prog g (n-1) 39 zs 0 N W1 b3 (by rw[b5,b4,a9];omega) a5;have e7:∀ty c,(Builtin.clear_ #[114] ty #[.slice (some ⟨g,n-1,none⟩) 1 c]).run prog W1=.ok (.tuple #[]) W2:=λty c=>by
  simp only[Nat.add_zero]at U;rw[<-a0,<-Y]at U;rw[a1]at U;simp[Builtin.clear_,run_underlying underlying114,b6,U]
 have b7:W2.heap[g]? = some (.cells A2 39 (0,0)):=by rw[Y];exact eQ W1 g N A2 39 (0,0) b3
 have b8:Wr w W2 (some g):=by
  rw[Y,a2];exact((Wr.refl w (some g)).drew.trans (fI w.drew N) (λi hi=>.inl hi)).trans (fI (w.drew.setRow g N) A2) (λi hi=>.inl hi)
 have a4:W2.ownsRow base 39 1 (.slice (some ⟨g,0,none⟩) (n-1) D) (n-1) (xs.take (i*1)++xs.drop ((i+1)*1)):=by
  have ht:xs.take (i*1)=J.toList.take (i*1):=by rw[<-L,cN,bz (by omega)]
  refine⟨by simp[b0];omega,.inr ⟨g,D,A2,rfl,c3,b7,by omega,c0,by rw[a0];simp;omega,?_⟩⟩;have d7:(J.toList.take (i*1)++z).length=(n-1)*1:=by rw[ai,ap,aH,R];omega
  rw[<-I,ht,a0];simp only[List.toList_toArray,List.append_assoc];rw[aW (by rw[ap,aH];omega),cN,bz (by omega),a3];simp only[List.toList_toArray];rw[aW (by omega),bj (by omega)]
 have HF:=hY a4;have HW:=hY b8;have HA:=hY hA;have e0:((n-1:Nat):Int)<(n:Int):=by omega
 have d0:¬D=n-1:=by omega
 have c8:n -(n-1)=1:=by omega
 have c9:((n-1:Nat):Int)<=(n:Int):=by omega
 clear a4 b8 b6 hZ b7 b3 U b4 Y a2 a0 a3 a7 R c1 I a6 hg a9 L h1 b0 b5 a5 a1;go_in;go_wp2_with fail;go_region_law (refine Qf4 _ rfl _ _ 114 114 rfl _ _ (by simp[Act.eval,Act.put]) (by simp[Act.eval,Act.put]) (c2 _) ?_);go_wp2_with fail;go_ret;exact⟨rfl,HF.o,HW.o⟩
structure St(H:Nat->Prop)(w w':World):Prop where
 os:w'.os=w.os
 tape:w'.tape=w.tape
 output:w'.output=w.output
 size:w.heap.size<=w'.heap.size
 block:∀b,b<w.heap.size->¬H b->w'.heap[b]? = w.heap[b]?
 fz:∀b o,w'.frozen? ⟨b,o,none⟩=w.frozen? ⟨b,o,none⟩
theorem Ext.fz(h:Ext w w')(b o:Nat):w'.frozen? ⟨b,o,none⟩=w.frozen? ⟨b,o,none⟩:=by
 by_cases z:b<w.heap.size
 .exact h.frozen z
 rw[h.free _ _ (by omega),frozen_none (by omega)]
theorem Ext.st(h:Ext w w')(H:Nat->Prop):St H w w':=⟨h.below.os,h.below.tape,h.below.output,h.size,λ_ z _=>h.heap z,h.fz⟩
theorem St.refl(H:Nat->Prop)(w:World):St H w w:=(fu w).st H
variable{H:Nat->Prop}
theorem Wr.st{z:Option Nat}(h:Wr w w' z)(D:∀i,z=some i->H i):St H w w':=
 ⟨h.grown.os,h.grown.tape,h.grown.output,h.grown.size,λb J I=>h.grown.block b J λe=>I (D b e.symm),h.fz⟩
theorem St.trans{a b c:World}(h:St H a b)(k:St H b c):St H a c:=
 ⟨k.os.trans h.os,k.tape.trans h.tape,k.output.trans h.output,aj h.size k.size,λi hi z=>(k.block i (ab hi h.size) z).trans (h.block i hi z),λb o=>(k.fz b o).trans (h.fz b o)⟩
theorem St.mono{a b:World}(h:St H a b)(D:∀i,i<a.heap.size->H i->G i):St G a b:=
 ⟨h.os,h.tape,h.output,h.size,λi hi z=>h.block i hi λI=>z (D i hi I),h.fz⟩
theorem St.Qlz(h:St H w w')(D:∀b,b<w.heap.size->¬H b):Ext w w':=
 ⟨⟨h.os,h.tape,h.output,h.size,λb z=>h.block b z (D b z)⟩,λb o z=>(h.fz b o).trans (frozen_none z)⟩
theorem Ext.step{a w w':World}(h:Ext a w)(k:St H w w')(z:∀b,H b->a.heap.size<=b):Ext a w':=
 (St.trans (h.st H) k).Qlz λb I D=>by have:=z b D;omega
theorem St.ext{a b c:World}(h:St H a b)(k:Ext b c):St H a c:=h.trans (k.st H)
theorem St.set{a w:World}(h:St H a w){p:Addr}(z:a.heap.size<=p.block\/H p.block)(u:Value):St H a (w.setCell p u):=
 ⟨h.os,h.tape,h.output,by simpa[World.setCell]using h.size,λi hi D=>(eP w p u i (by
   rintro rfl;rcases z with z|z
   .omega
   exact D z)).trans (h.block i hi D),λb o=>by rw[World.frozen?_setCell];exact h.fz b o⟩
theorem St.cell(h:St H w w'){b o:Nat}(D:b<w)(z:¬H b):w'.cell? ⟨b,o,none⟩=w.cell? ⟨b,o,none⟩:=
 eS (w:=w) (a:=⟨b,o,none⟩) (h.block b D z)
theorem St.drew{a w:World}(h:St H a w):St H a w.drew:=h.ext ((fu w).drew)
theorem St.alloc{a w:World}(h:St H a w)(c:Array Value)(t:TypeId):St H a (w.alloc (.cells c t)):=h.ext ((fu w).alloc c t)
variable{g:Nat}
theorem St.blk{t:TypeId}{cs:Array Value}(h:St H w w')(z:Blk w g t cs)(D:¬H g):Blk w' g t cs:=(h.block g z.lt D).trans z
abbrev NH(H:Nat->Prop)(w:World):Nat->Prop:=λb=>b<w.heap.size/\¬H b
theorem St.agree(h:St H w w'):Agree (NH H w) w w':=λb z=>h.block b z.1 z.2
variable{xs:List LE}
theorem OE.block{base:Nat}(h:OE w base s xs)(U:0<xs.length):∃g cap,s=⟨some ⟨g,0,none⟩,cap⟩/\base<=g/\xs.length<=cap/\cap<=maxLen/\Qao w g 70 7 cap:=by
 rcases h.own.2 with⟨N,X⟩ |⟨g,cap,z,N,D,R,I,L,J,-⟩
 .omega
 simp only[Value.slice.injEq]at N;exact⟨g,cap,by obtain⟨a,c⟩:=s;simp_all,D,I,L,z,R,J⟩
variable{u:Value}
theorem QoE(xs:List LE)(i:Nat)(x:LE)(hi:i<xs.length)(hu:(Qai (xs.set i x))[p]? = some u) :
  (∃c,c<7/\p=i*7+c/\x.cells[c]? = some u)\/((p<i*7\/i*7+7<=p)/\(Qai xs)[p]? = some u):=by
 have J:p<xs.length*7:=by have:=(ah.1 hu).1;rw[Qcy,bO]at this;exact this
 obtain⟨j,c,rfl,z⟩:∃j c,p=j*7+c/\c<7:=⟨p/7,p%7,by omega,by omega⟩;by_cases I:j=i
 ·subst I
  rw[QcK (x:=x) (by rw[cO hi]) c z]at hu;exact .inl ⟨c,z,rfl,hu⟩
 obtain⟨y,D⟩:∃y,xs[j]? = some y:=⟨_,ac (by omega)⟩;rw[QcK (x:=y) (by rw[cY (by omega)];exact D) c z]at hu;exact .inr ⟨by omega,by rw[QcK D c z];exact hu⟩
variable{sl so:Sl}
theorem OE.set{base g cap:Nat}(N:OE w base ⟨some ⟨g,0,none⟩,cap⟩ xs)(a0:base<=g)(hb:base<=w.heap.size)(J:xs.length<=cap)(U:cap<=maxLen)(X:Qao w g 70 7 cap){i:Nat}(hi:i<xs.length){k:ByteArray}{v:Val}(Y:RV w (Lt base) v sl so)(Z:k.size<=maxLen) :
  ES (Qe8 w g (i*7) k v sl so) (Lt w) ⟨some ⟨g,0,none⟩,cap⟩ (xs.set i ⟨k,v,sl,so⟩):=by
 have D:=Qg3 X (o:=i*7) k v sl so (by omega);refine⟨⟨g,0,?_,by rw[Qcy],λp u hu=>?_⟩,λx L=>?_,by rw[bO];exact N.few⟩
 .rw [bO];exact .some _ _ _ _ J U X.lt
 ·rw [aB]
  rcases QoE xs i _ hi hu with⟨c,hc,rfl,z⟩ |⟨hd,R⟩
  ·have I:c=0∨c=1∨c=2∨c=3∨c=4∨c=5∨c=6:=by omega
   rcases I with rfl|rfl|rfl|rfl|rfl|rfl|rfl
   .exact D.1.trans z
   .exact D.2.c0.trans z
   .exact D.2.c1.trans z
   .exact D.2.c2.trans z
   .exact D.2.c3.trans z
   .exact D.2.c4.trans z
   exact D.2.c5.trans z
  rw[QbJ _ _ _ _ _ _ _ _ (by omega)];have:=N.own.cells (g:=g) rfl p u R;rwa[Qbu,aB]at this
 rcases bB L with L|rfl
 .exact ⟨((N.vals x L).1.agree (Qc7 w g _ k v sl so (λh=>h.2 rfl))).mono λi hi=>hi.1.2,(N.vals x L).2⟩
 exact⟨(Y.agree (Qc7 w g _ k v sl so (λh=>by have h:g<base:=h;omega))).mono λi hi=>ab hi hb,Z⟩
theorem LE.one(x:LE):∀u∈x.cells,u.oneCell'=true:=by
 intro u hu;simp only[LE.cells,List.mem_cons,List.not_mem_nil,or_false]at hu;rcases hu with rfl|rfl|rfl|rfl|rfl|rfl|rfl<;>rfl
theorem QaM(xs:List LE):∀u∈Qai xs,u.oneCell'=true:=λu hu=>by
 obtain⟨x,-,z⟩:=ct.1 hu;exact x.one u z
variable{s':Sl}{x:LE}
theorem OE.inserted{base p:Nat}(N:OE w base s xs)(Z:p<=xs.length)(R:base<=w.heap.size)(X:RV w (Lt base) x.v x.sl x.so)(z:x.k.size<=maxLen)(Y:(xs.length+1)*104<=140737488355328)
  (L:w'.ownsRow base 70 7 (.slice s'.a (xs.length+1) s'.c) (xs.length+1) ((Qai xs).take (p*7)++x.cells++(Qai xs).drop (p*7))) (I:Wr w w' s.row) :
  ES w' (Lt w') s' (xs.take p++x::xs.drop p):=by
 have U:(xs.take p++x::xs.drop p).length=xs.length+1:=by simp;omega
 have J:∀b,s.row=some b->base<=b:=λb R=>(N.own.lt b (by obtain⟨a,c⟩:=s;cases a<;>simp_all [Value.ownBlock,Sl.row])).1
 refine⟨?_,λy D=>?_,by rw[U];exact Y⟩
 ·have h1:=fE L
  rw[U,QaA,QbZ,<-Qc1,<-Qc0,<-aO];exact h1.mono λi hi=>hi.2
 rcases aE.1 D with D|D
 ·have h1:=N.vals y (aM D)
  exact⟨(h1.1.agree (I.agree (λi hi=>hi.1.2) λk z h=>h.2 z)).mono λi hi=>ab hi.1.2 I.grown.size,h1.2⟩
 rcases aF.1 D with rfl|D
 .exact ⟨(X.agree (I.agree (λi hi=>ab hi R) λk z h=>dm _ (ab h (J k z)))).mono λi hi=>ab hi (aj R I.grown.size),z⟩
 have h1:=N.vals y (aC D);exact⟨(h1.1.agree (I.agree (λi hi=>hi.1.2) λk z h=>h.2 z)).mono λi hi=>ab hi.1.2 I.grown.size,h1.2⟩
def QiZ(es:List Ent)(k:ByteArray)(v:Val)(w:World)(e:Ending)(w':World):Prop:=
 ∃ts:List (PT 0),e=two 0 ts/\ts.map Prod.snd=chunk (Qbq es k v)/\(∀u∈ts,w.heap.size<=u.1/\IsN w' (In w.heap.size w'.heap.size) 0 u)/\Ext w w'
theorem Qkl{es:List Ent}{k:ByteArray}{v:Val}(z:Ext w w3){ts:List (PT 0)}(h1:ts.map Prod.snd=chunk (Qbq es k v))(h2:∀t∈ts,w3.heap.size<=addr 0 t/\IsN w' (In w3.heap.size w'.heap.size) 0 t)(D:Ext w3 w'):QiZ es k v w (two 0 ts) w':=
 ⟨ts,rfl,h1,λu hu=>⟨Nat.le_trans z.size (h2 u hu).1,(h2 u hu).2.mono λi hi=>⟨Nat.le_trans z.size hi.1,hi.2⟩⟩,z.trans D⟩
theorem Qkd{es:List Ent}{ts:List (PT 0)}(h:ts.map Prod.snd=chunk es):(∃a,ts=[a])\/∃a b,ts=[a,b]:=by
 rcases Qgz es with⟨a,D⟩ |⟨a,b,D⟩<;>rw[D]at h
 .obtain ⟨x,z,-⟩:=Qus h;exact .inl ⟨x,z⟩
 obtain⟨x,y,z,-⟩:=QuJ h;exact .inr ⟨x,y,z⟩
variable{nv:Value}
theorem Qkm{es:List Ent}(hh:∀W,Ext w W->Calls prog 94 #[nv] W λe w'=>e=.returned (.int .i64 0)/\W=w')(he:∀W,Ext w W->Calls prog 101 #[nv] W (QaQ es W))
  (hs:Sorted es) (h8:es.length<=8) {k:ByteArray} {v:Val} (hv:RV w (Lt w) v sl so) (d8:k.size<=maxLen) :
  Calls prog 63 #[nv,Qgu k v sl so] w (QiZ es k v w):=by
 have HH:=hY hh;have HE:=hY he;have HV:=hY hv;have HS:=hY hs;clear hh he hv hs;go_in;go_wp2_with fail;have a3:Ext w (w.alloc (.cells #[.string k,.int .i64 v.kind,.bool v.b,.int .i64 v.i,.string v.t,.slice sl.a v.l.length sl.c,.slice so.a v.ok.length so.c] 70)):=(fu w).alloc _ _;have c8:=fx w 70 #[.string k,.int .i64 v.kind,.bool v.b,.int .i64 v.i,.string v.t,.slice sl.a v.l.length sl.c,.slice so.a v.ok.length so.c];generalize d7:World.alloc _ _=W0 at *;have c9:W0.heap.size=w.heap.size+1:=by rw[<-d7];simp
 clear d7;refine(HH.o _ a3).mono ?_;rintro e w1 ⟨rfl,rfl⟩;go_wp2_with fail;refine(HE.o _ a3).mono ?_;rintro e w1 ⟨s',D,rfl,a2,ho,Z⟩;have b3:=c8.ext Z;obtain⟨c0,c1,c2,c3,c4,c5,c6⟩:=b3.c7;have J:=QjT (w:=w1) (ho.es.mono λi hi=>hi.2) k (by rw[a2];exact HS.o);rw[a2]at J;obtain⟨p,hp⟩:∃p,Qcc es k=p:=⟨_,rfl⟩;have e2:=Qk3 es k;unfold Qgs at J;have I:=QlM HS.o k v;rw[hp]at J e2 I;have a9:D.length=es.length:=by rw[<-a2,aq]
 have HO:=hY ho;have f0:=hY J;have HI:=hY I;have e3:=hY a2;have g8:=hY Z;have R:=hY a9;have g4:D.length<=8:=by omega
 clear ho J hp I a2 a9;go_wp2_with fail;refine f0.o.mono ?_;rintro e w2 ⟨rfl,X⟩;have b5:=b3.ext X;obtain⟨d0,d1,d2,d3,d4,d5,d6⟩:=b5.c7;clear c0 c1 c2 c3 c4 c5 c6;have e0:Ext w w2:=(a3.trans Z).trans X;have a7:=HO.o.ext X;have a8:=hY e0;have b7:=hY a7;have f7:=b5.lt;have L:W0.heap.size<=w2.heap.size:=(Z.trans X).size;clear b3 b5 c8 a3 Z X e0;cases ht:decide ((es[p]?).map Prod.fst=some k)
 ·have Y:¬(es[p]?).map Prod.fst=some k:=of_decide_eq_false ht
  have b8:Qbq es k v=es.take p++(k,v)::es.drop p:=by rw[HI.o,ef Y]
  have U:Ext w2 (w2.alloc (.cells #[.string k,.int .i64 v.kind,.bool v.b,.int .i64 v.i,.string v.t,.slice sl.a v.l.length sl.c,.slice so.a v.ok.length so.c] 70)):=(fu w2).alloc _ _;have e7:=fx w2 70 (LE.cells ⟨k,v,sl,so⟩).toArray;have f1:=hY b8;clear a7 b8 Y;go_wp2_with fail;change Calls _ _ _ (w2.alloc (.cells (LE.cells ⟨k,v,sl,so⟩).toArray 70)) _;change Ext w2 (w2.alloc (.cells (LE.cells ⟨k,v,sl,so⟩).toArray 70))at U;generalize e8:w2.alloc (.cells (LE.cells ⟨k,v,sl,so⟩).toArray 70)=W3 at *;have b0:=b7.o.ext U;have a6:RV W3 (Lt W0) v sl so:=(HV.o.agree ((a8.o.trans U).agree λ_ h=>h)).mono λi hi=>ab hi (by rw[c9];exact cE _)
  have e1:s'.row≠some w2.heap.size:=λh=>by
   have:=(b7.o.own.lt w2.heap.size (by obtain⟨a,c⟩:=s';cases a<;>simp_all [Value.ownBlock,Sl.row])).2;omega
  have I:=QlL (i:=p) (base:=W0) b0.own (aj L U.size) (by omega) (by have:=R.o;omega) (LE.len ⟨k,v,sl,so⟩) e7 e1 (LE.one _) (QaM _);have e6:=hY U;have e4:=hY b0;have f5:=hY a6;clear U b0 a6 e7 e1 e8;refine I.mono ?_;rintro e w4 ⟨s4,rfl,a4,a1,-⟩;have a0:=e4.o.inserted (by have:=R.o;omega) (aj L e6.o.size) (x:=⟨k,v,sl,so⟩) f5.o d8 (by omega) a4 a1;have hl:(D.take p++⟨k,v,sl,so⟩::D.drop p).length=D.length+1:=by have:=R.o;simp;omega
  have hm:(D.take p++⟨k,v,sl,so⟩::D.drop p).map LE.ent=Qbq es k v:=by
   rw[f1.o,<-e3.o,aR,aS,cT,cH];rfl
  have N:=QhX a0 (Qc8 (by rw[hm];exact QaS HS.o k v)) (by omega);rw[hl,hm]at N;have a5:Ext w w4:=(a8.o.trans e6.o).wr a1 λi hi=>by
   have:=(e4.o.own.lt i (by obtain⟨a,c⟩:=s';cases a<;>simp_all [Value.ownBlock,Sl.row])).1;omega
  have b6:=hY N;have b4:=hY a5;clear a0 N a5 a4 a1 hl hm I;go_wp2_with fail;refine b6.o.mono ?_;rintro e w5 ⟨ts,rfl,h1,h2,h3⟩;have H2:=hY h2;have H1:=hY h1;clear h2;rcases Qkd h1 with⟨a,rfl⟩ |⟨a,b,rfl⟩
  all_goals
   clear h1;simp only[two];go_wp2_with fail;go_ret2;exact Qkl b4.o H1.o H2.o h3
 have Y:(es[p]?).map Prod.fst=some k:=of_decide_eq_true ht;have J:p<D.length:=by
  cases hq:es[p]? with
  |none=>rw[hq]at Y;cases Y
  |some x=>rw[R.o];exact(ah.1 hq).1
 obtain⟨g,f8,rfl,f2,f3,f4,z⟩:=a7.block (by omega);have a6:RV w2 (Lt W0) v sl so:=(HV.o.agree (a8.o.agree λ_ h=>h)).mono λi hi=>ab hi (by rw[c9];exact cE _)
 have a0:=b7.o.set f2 L f3 f4 z J a6 d8;have hm:(D.set p ⟨k,v,sl,so⟩).map LE.ent=Qbq es k v:=by
  rw[HI.o,em Y,<-e3.o,bI,bS,em (by simpa using J)];rfl
 have N:=QhX (w:=Qe8 w2 g (p*7) k v sl so) (a0.mono λi hi=>by rw[Qg4];exact hi) (Qc8 (by rw[hm];exact QaS HS.o k v)) (by rw[bO];omega);rw[hm,bO]at N;have a5:Ext w (Qe8 w2 g (p*7) k v sl so):=a8.o.Qe8 (by omega) _ _ _ _ _;have b4:=hY a5;obtain⟨x0,a3⟩:∃v,w2.cell? ⟨g,p*7,none⟩=some v:=z.cell (by omega);obtain⟨x1,Z⟩:∃v,w2.cell? ⟨g,p*7+1,none⟩=some v:=z.cell (by omega);obtain⟨x2,X⟩:∃v,w2.cell? ⟨g,p*7+2,none⟩=some v:=z.cell (by omega);obtain⟨x3,g3⟩:∃v,w2.cell? ⟨g,p*7+3,none⟩=some v:=z.cell (by omega);obtain⟨x4,g6⟩:∃v,w2.cell? ⟨g,p*7+4,none⟩=some v:=z.cell (by omega);obtain⟨x5,g7⟩:∃v,w2.cell? ⟨g,p*7+5,none⟩=some v:=z.cell (by omega);obtain⟨x6,f9⟩:∃v,w2.cell? ⟨g,p*7+6,none⟩=some v:=z.cell (by omega);have g0:=z.frozen;have f6:(p:Int)<(D.length:Int):=by omega
 have b6:=hY N;have g5:=z.lt;clear a0 N z a7 a6 hm a5;go_wp2_with fail;change Calls _ _ _ (Qe8 w2 g (p*7) k v sl so) _;refine b6.o.mono ?_;rintro e w5 ⟨ts,rfl,h1,h2,h3⟩;have H2:=hY h2;have H1:=hY h1;clear h2;rcases Qkd h1 with⟨a,rfl⟩ |⟨a,b,rfl⟩
 all_goals
  clear h1;simp only[two];go_wp2_with fail;go_ret2;exact Qkl b4.o H1.o H2.o h3
def QeL(base:Nat)(s:Sl)(n i:Nat)(xs ys:List Value)(w:World)(e:Ending)(w':World):Prop:=
 ∃s':Sl,e=.returned (.slice s'.a (n+1) s'.c)/\w'.ownsRow base 39 1 (.slice s'.a (n+1) s'.c) (n+1) (xs.take (i*1)++ys++xs.drop (i*1))/\Wr w w' s.row/\(s'.row=s.row\/∃b,s'.row=some b/\w.heap.size<=b)
section
variable{w : World}{base n i : Nat}{s : Sl}{xs ys : List Value}{vb : Nat}
theorem QqS(z:w.ownsRow base 39 1 (.slice s.a n s.c) n xs)(J:base<=w.heap.size)(hn:n<=1000)(hy:ys.length=1)(L:Blk w vb 39 ys.toArray)(h1:∀u∈ys,u.oneCell'=true) :
  Calls prog 107 #[.slice s.a n s.c,.int .i64 n,.slice (some ⟨vb,0,none⟩) 1 1] w (QeL base s n n xs ys w):=by
 obtain⟨i0,hi,U,a0,Z⟩:=eG Tryz.QbQ;have D:Rd w (λ_=>True) 1 ⟨some ⟨vb,0,none⟩,1⟩ 1 ys:=⟨vb,0,.some _ _ _ _ (an _) (by decide) trivial,by simpa using hy,λj u hj=>by rw[L.cell];simpa using hj⟩;have N:xs.take (n*1)++ys++xs.drop (n*1)=xs++ys:=by
  rw[bj (by rw[z.1];exact an _),bC (by rw[z.1];exact an _),bc]
 have HO:=hY z;have HS:=hY D;have H1:=hY h1;have HX:=hY N;have Y:n+1<=maxLen:=by unfold maxLen;omega
 have a1:n<=s.c:=by
  rcases z.2 with⟨L,h0⟩ |⟨g,a3,a2,L,_,_,a4,_⟩
  .omega
  simp only[Value.slice.injEq]at L;omega
 have a5:((n:Int) ==(n:Int))=true:=by simp
 clear z D L h1 hy N;obtain⟨sa,sc⟩:=s;dsimp only at *;go_in;go_wp2_with(at_builtin;refine Qac _ rfl _ _ 114 rfl base 39 i0 (.pointer none) 1 8 underlying114 hi U a0 Z rfl (by decide) ⟨sa,sc⟩ n xs rfl HO.o (λ_=>True) ⟨some ⟨vb,0,none⟩,1⟩ 1 ys rfl HS.o H1.o Y (by omega) J ?_;intro s' w1 I R X)
 all_goals
  go_ret;refine⟨s',by simp,by rw[HX.o];exact I,R,?_⟩;rcases X with h |⟨h,-⟩
  .exact .inl (by simp[Sl.row,h])
  exact .inr ⟨w,by simp[Sl.row,h],an _⟩
theorem QmT{g cap:Nat}{z:Array Value}(Y:xs.length=n*1)(b5:base<=g)(hg:w.heap[g]? = some (.cells z 39 (0,0)))(Z:n+1<=cap)(a6:cap<=maxLen)(b7:z.size=cap*1)(D:z.toList.take (n*1)=xs)
  (hn:n<=1000) (c8:i<n) (hy:ys.length=1) (hv:Blk w vb 39 ys.toArray) (b3:vb≠g) (h1:∀u∈ys,u.oneCell'=true) (a7:∀u∈xs,u.oneCell'=true) :
  Calls prog 107 #[.slice (some ⟨g,0,none⟩) n cap,.int .i64 i,.slice (some ⟨vb,0,none⟩) 1 1] w (QeL base ⟨some ⟨g,0,none⟩,cap⟩ n i xs ys w):=by
 obtain⟨i0,hi,c9,a2,d3⟩:=eG Tryz.QbQ;have c3:((i:Int) ==(n:Int))=false:=eu.2 (by omega);have b8:(i:Int)<(n:Int):=by omega
 have d4:¬(cap:Int)<(n:Int)+1:=by omega
 have c1:(cap:Int)<=9223372036854775807:=by unfold maxLen at a6;omega
 have c2:¬cap=i:=by omega
 have d0:¬cap=i+1:=by omega
 have c6:IntKind.i64.wrap ((i:Int)+1)=(i:Int)+1:=by rw[ey];omega
 have c4:(0:Int)<=(i:Int)+1:=by omega
 have c7:((i:Int)+1).toNat=i+1:=by omega
 have c0:i<=n:=by omega
 have d5:(i:Int)<=(n:Int)+1:=by omega
 have b4:∀lb cb,(callFunc 150 #[.slice (some ⟨vb,0,none⟩) 1 1,.slice (some ⟨g,i+1,none⟩) lb cb]).run prog w=.ok (.value (.bool false)) w:=λlb cb=>by
  rw[run_callFunc_extern func150 (by kernel_rfl) (by kernel_rfl) (by kernel_rfl) (e:=Extern.SlicesOverlaps.overlaps #[114,114] #[4]) (by kernel_rfl),
   Lib.run_overlaps_apart w 114 4 39 underlying114 1 (λw=>by simp[sizeOf,typeInfo,hi,a2]) ⟨vb,0,none⟩ ⟨g,i+1,none⟩ 1 1 lb cb b3 39 39 ys.toArray.size z.size (by simp[World.shape?,show w.heap[vb]? = some (.cells ys.toArray 39 (0,0))from hv]) (by simp[World.shape?,hg]) (by omega) (hv.frozen _) (hv.frozen _)]
  rfl
 have a1:(xs.drop (i*1)).length=(n-i)*1:=by rw[au,Y,<-dq]
 have a9:∀j v,(xs.drop (i*1))[j]? = some v->w.drew.cell? ⟨g,i+j,none⟩=some v:=λj v hj=>by
  rw[eU,eX w g _ z 39 (0,0) hg];rw[be,<-D,bg]at hj;split at hj
  .simpa using hj
  cases hj
 obtain⟨I,N⟩:∃I,I=(z.toList.take (i+1)++xs.drop (i*1)++z.toList.drop (i+1+(xs.drop (i*1)).length)).toArray:=⟨_,rfl⟩;obtain⟨R,J⟩:∃R,R=w.drew.setRow g I:=⟨_,rfl⟩;have a8:∀ty dc sc,(Builtin.copy_ #[114,114] ty #[.slice (some ⟨g,i+1,none⟩) (n-i) dc,.slice (some ⟨g,i,none⟩) (n+1-i) sc]).run prog w.drew=.ok (goInt (Nat.min (n+1-i) (n-i))) R:=λty dc sc=>by
  rw[J,N];exact QbL w.drew 114 114 ty 39 1 g (i+1) (n-i) dc ⟨some ⟨g,i,none⟩,sc⟩ (n+1-i) z 39 (xs.drop (i*1)) underlying114 (by rw[hi];simp[a2]) hg
   (by rw[a1,show Nat.min (n+1-i) (n-i)=n-i from by simp only[Nat.min_def];split<;>omega]) (by simp) (by rintro b o' ⟨⟩;exact a9) (by rintro a ⟨⟩;rfl) (by rw[a1];omega) (λu hu=>a7 u (aC hu))
 have b6:I.size=z.size:=by rw[N];simp;omega
 have a0:R.heap[g]? = some (.cells I 39 (0,0)):=by rw[J];exact eQ w.drew g z I 39 (0,0) hg
 have b0:Blk R vb 39 ys.toArray:=by rw[J];exact(fp w.drew g vb I b3).trans hv
 obtain⟨A2,U⟩:∃A2,A2=(I.toList.take (i)++ys++I.toList.drop (i+ys.length)).toArray:=⟨_,rfl⟩;obtain⟨W2,L⟩:∃W2,W2=R.setRow g A2:=⟨_,rfl⟩;have a4:∀ty dc,(Builtin.copy_ #[114,114] ty #[.slice (some ⟨g,i,none⟩) (n+1-i) dc,.slice (some ⟨vb,0,none⟩) 1 1]).run prog R=.ok (goInt (Nat.min 1 (n+1-i))) W2:=λty dc=>by
  rw[L,U];exact QbL R 114 114 ty 39 1 g (i) (n+1-i) dc ⟨some ⟨vb,0,none⟩,1⟩ 1 I 39 ys underlying114 (by rw[hi];simp[a2]) a0
   (by rw[hy,show Nat.min 1 (n+1-i)=1 from by simp only[Nat.min_def];split<;>omega]) (by simp) (by rintro b o' ⟨⟩;exactλj v hj=>by rw[b0.cell];simpa using hj) (by rintro a ⟨⟩;rfl) (by omega) h1
 have a3:W2.heap[g]? = some (.cells A2 39 (0,0)):=by rw[L];exact eQ R g I A2 39 (0,0) a0
 have a5:Wr w W2 (some g):=by
  rw[L,J];exact((Wr.refl w (some g)).drew.trans (fI w.drew I) (λi hi=>.inl hi)).trans (fI (w.drew.setRow g I) A2) (λi hi=>.inl hi)
 have X:W2.ownsRow base 39 1 (.slice (some ⟨g,0,none⟩) (n+1) cap) (n+1) (xs.take (i*1)++ys++xs.drop (i*1)):=by
  refine⟨by simp[Y,hy];omega,.inr ⟨g,cap,A2,rfl,b5,a3,Z,a6,by rw[U];simp;omega,?_⟩⟩;rw[U,N];exact QhV z.toList xs ys (i*1) (n*1) 1 _ _ _ _ _ D.symm hy (by omega) (by rw[aH];omega) (by omega) rfl (by omega) (by omega) (by omega)
 have HF:=hY X;have HW:=hY a5;clear X a5 a3 a0 b0 b6 L J U N a9 a1 hg hv h1 a7 Y D b7;go_in;go_wp2_with(simp only[b4]);go_region_law (refine Qdq _ rfl _ _ 114 114 rfl _ _ (by simp[Act.eval,Act.put]) (by simp[Act.eval,Act.put]) (a8 _ _ _) ?_);go_wp2_with(at_builtin;refine Qcl _ rfl _ _ 114 114 rfl _ _ rfl rfl (a4 _ _) ?_);go_ret;exact⟨⟨some ⟨g,0,none⟩,cap⟩,rfl,HF.o,HW.o,.inl rfl⟩
theorem QoR{g cap:Nat}{R:Array Value}(L:xs.length=n*1)(b0:base<=w.heap.size)(hg:w.heap[g]? = some (.cells R 39 (0,0)))(f1:n<=cap)(a7:cap<n+1)(c9:R.size=cap*1)(D:R.toList.take (n*1)=xs)
  (hn:n<=1000) (e4:i<n) (hy:ys.length=1) (hv:Blk w vb 39 ys.toArray) (f4:vb≠g) (h1:∀u∈ys,u.oneCell'=true) (b6:∀u∈xs,u.oneCell'=true) :
  Calls prog 107 #[.slice (some ⟨g,0,none⟩) n cap,.int .i64 i,.slice (some ⟨vb,0,none⟩) 1 1] w (QeL base ⟨some ⟨g,0,none⟩,cap⟩ n i xs ys w):=by
 obtain⟨i0,hi,c7,a5,b7⟩:=eG Tryz.QbQ;have e8:((i:Int) ==(n:Int))=false:=eu.2 (by omega);have d6:(i:Int)<(n:Int):=by omega
 have f2:(cap:Int)<(n:Int)+1:=by omega
 have e1:¬cap=i:=by omega
 have e3:IntKind.i64.wrap ((i:Int)+1)=(i:Int)+1:=by rw[ey];omega
 have e2:(0:Int)<=(i:Int)+1:=by omega
 have f0:((i:Int)+1).toNat=i+1:=by omega
 have e0:i<=n:=by omega
 have f3:(i:Int)<=(n:Int):=by omega
 have e6:(i:Int)+1<=(n:Int)+1:=by omega
 have d0:g<w.heap.size:=fi hg;have c6:vb<w.heap.size:=hv.lt;obtain⟨G,hG⟩:∃G,G=grownCap w (n+1) cap 39:=⟨_,rfl⟩;have d3:n+1<=G:=by rw[hG];exact grownCap_ge w _ _ _
 have d7:G<=9223372036854775807:=by
  have:=grownCap_le_maxLen w (n+1) cap 39 (by unfold maxLen;omega);rw[<-hG]at this;unfold maxLen at this;omega
 have a6:i+(n+1-i)=n+1:=by omega
 obtain⟨z,I⟩:∃z:Array Value,z=(xs.take (i*1)).toArray++Builtin.zeroCells ((.pointer none):Value).cells (n+1-i)++Builtin.zeroCells ((.pointer none):Value).cells (G -(n+1)):=⟨_,rfl⟩;have d5:z.size=G*1:=by
  rw[I];simp only[Array.size_append,List.size_toArray,size_zeroCells,List.length_take,L];rw[show((.pointer none):Value).cells.size=1 from rfl];omega
 have c1:z.toList.take (i*1)=xs.take (i*1):=by
  rw[I];simp only[Array.toList_append,List.append_assoc];rw[aW (by simp[L];omega),bj (by simp;omega)]
 obtain⟨W1,X⟩:∃W1,W1=w.drew.alloc (.cells z 39):=⟨_,rfl⟩;have d4:∀Z,(Builtin.append_ #[114,3] Z #[.slice (some ⟨g,0,none⟩) i cap,.int .i64 ((n:Int)+1 -(i:Int))]).run prog w=.ok (.slice (some ⟨w.heap.size,0,none⟩) (n+1) G) W1:=λZ=>by
  have b8:(Builtin.firstCells i0.size i (.slice (some ⟨g,0,none⟩) i cap)).run prog w.drew=.ok (xs.take (i*1)).toArray w.drew:=by
   rw[a5];exact run_firstCells_some w.drew 1 i ⟨g,0,none⟩ i cap (xs.take (i*1)) (by rw[ap];omega) (λj v J=>by
    rw[Qbu,aB,eU,eX w g _ R 39 (0,0) hg];rw[bg]at J;split at J
    ·rw [←D,bg] at J
     split at J
     .simpa using J
     cases J
    cases J)
  have h:=Lib.run_append_grow_zeros w 114 3 Z 39 i0 _ .i64 .i64 underlying114 underlying3 hi c7 (some ⟨g,0,none⟩) i cap (xs.take (i*1)) b8 (n+1-i) (by omega) (by omega) (by omega) (by omega) (by rw[b7];omega) (by rw[b7,a6];exact growslice_fits a7 (by omega));rw[a6,<-hG,<-I,<-X]at h;rw[show(n:Int)+1 -(i:Int)=((n+1-i:Nat):Int)from by omega];exact h
 have a9:W1.heap[w.heap.size]? = some (.cells z 39 (0,0)):=by rw[X];exact fg w.drew _
 have Y:∀k,k<w.heap.size->W1.heap[k]? = w.heap[k]?:=λk hk=>by rw[X];exact eI w.drew _ k hk
 have c0:Blk W1 vb 39 ys.toArray:=(Y vb c6).trans hv;obtain⟨N,a2⟩:∃N,N=(z.toList.take (i)++ys++z.toList.drop (i+ys.length)).toArray:=⟨_,rfl⟩;have c8:N.size=G*1:=by rw[a2];simp;omega
 obtain⟨W2,U⟩:∃W2,W2=W1.setRow w.heap.size N:=⟨_,rfl⟩;have c2:∀Z dc,(Builtin.copy_ #[114,114] Z #[.slice (some ⟨w.heap.size,i,none⟩) (n+1-i) dc,.slice (some ⟨vb,0,none⟩) 1 1]).run prog W1=.ok (goInt (Nat.min 1 (n+1-i))) W2:=λZ dc=>by
  rw[U,a2];exact QbL W1 114 114 Z 39 1 w.heap.size (i) (n+1-i) dc ⟨some ⟨vb,0,none⟩,1⟩ 1 z 39 ys underlying114 (by rw[hi];simp[a5]) a9
   (by rw[hy,show Nat.min 1 (n+1-i)=1 from by simp only[Nat.min_def];split<;>omega]) (by simp) (by rintro b o' ⟨⟩;exactλj v J=>by rw[c0.cell];simpa using J) (by rintro a ⟨⟩;rfl) (by omega) h1
 have a8:W2.heap[w.heap.size]? = some (.cells N 39 (0,0)):=by rw[U];exact eQ W1 _ z N 39 (0,0) a9
 have a4:∀k,k<w.heap.size->W2.heap[k]? = w.heap[k]?:=λk hk=>by rw[U];exact(fp W1 _ k N (by omega)).trans (Y k hk)
 have b3:(xs.drop (i*1)).length=(n-i)*1:=by rw[au,L,<-dq]
 have c4:∀j v,(xs.drop (i*1))[j]? = some v->W2.drew.cell? ⟨g,i+j,none⟩=some v:=λj v J=>by
  rw[eU,eX W2 g _ R 39 (0,0) ((a4 g d0).trans hg)];rw[be,<-D,bg]at J;split at J
  .simpa using J
  cases J
 obtain⟨A2,a0⟩:∃A2,A2=(N.toList.take (i+1)++xs.drop (i*1)++N.toList.drop (i+1+(xs.drop (i*1)).length)).toArray:=⟨_,rfl⟩;obtain⟨W3,a1⟩:∃W3,W3=W2.drew.setRow w.heap.size A2:=⟨_,rfl⟩;have b5:∀Z dc sc,(Builtin.copy_ #[114,114] Z #[.slice (some ⟨w.heap.size,i+1,none⟩) (n-i) dc,.slice (some ⟨g,i,none⟩) (n-i) sc]).run prog W2.drew=.ok (goInt (Nat.min (n-i) (n-i))) W3:=λZ dc sc=>by
  rw[a1,a0];exact QbL W2.drew 114 114 Z 39 1 w.heap.size (i+1) (n-i) dc ⟨some ⟨g,i,none⟩,sc⟩ (n-i) N 39 (xs.drop (i*1)) underlying114 (by rw[hi];simp[a5]) a8
   (by rw[b3,show Nat.min (n-i) (n-i)=n-i from by simp]) (by simp) (by rintro b o' ⟨⟩;exact c4) (by rintro a ⟨⟩;rfl) (by rw[b3];omega) (λu hu=>b6 u (aC hu))
 have b4:W3.heap[w.heap.size]? = some (.cells A2 39 (0,0)):=by rw[a1];exact eQ W2.drew _ N A2 39 (0,0) a8
 have c3:Wr w W3 (some g):=by
  rw[a1,U,X];exact(((((Wr.refl w (some g)).drew).alloc z 39).trans (fI _ N) (λi hi=>.inr (by injection hi with hi;omega))).drew).trans (fI _ A2) (λi hi=>.inr (by injection hi with hi;omega))
 have a3:W3.ownsRow base 39 1 (.slice (some ⟨w.heap.size,0,none⟩) (n+1) G) (n+1) (xs.take (i*1)++ys++xs.drop (i*1)):=by
  refine⟨by simp[L,hy];omega,.inr ⟨w.heap.size,G,A2,rfl,b0,b4,d3,by unfold maxLen;omega,by rw[a0];simp;omega,?_⟩⟩;rw[a0,a2];exact Qjx z.toList xs ys (i*1) (n*1) 1 _ _ _ _ _ c1 L hy (by omega) (by rw[aH];omega) (by omega) rfl (by omega) (by omega) (by omega)
 have HF:=hY a3;have HW:=hY c3;clear a3 c3 b4 a8 a9 c0 c8 a1 U X a0 a2 c4 b3 hg hv h1 b6 L D c9 Y a4 c1 d5 I hG a6;have e7:¬(G=i):=by omega
 have d8:¬(G=i+1):=by omega
 go_in;go_wp2_with(first
  |(at_builtin;refine wpList_append_run _ rfl _ _ 114 3 rfl _ _ rfl rfl (d4 _) ?_)
  |(at_builtin;refine Qcl _ rfl _ _ 114 114 rfl _ _ rfl rfl (c2 _ _) ?_))
 go_region_law (refine Qdq _ rfl _ _ 114 114 rfl _ _ (by simp[Act.eval,Act.put]) (by simp[Act.eval,Act.put]) (b5 _ _ _) ?_);go_wp2;go_ret;exact⟨⟨some ⟨w.heap.size,0,none⟩,G⟩,rfl,HF.o,HW.o,.inr ⟨_,rfl,an _⟩⟩
theorem QlN(z:w.ownsRow base 39 1 (.slice s.a n s.c) n xs)(I:base<=w.heap.size)(hn:n<=1000)(a4:i<=n)(Y:ys.length=1)(U:Blk w vb 39 ys.toArray)(a2:s.row≠some vb)(h1:∀u∈ys,u.oneCell'=true)(L:∀u∈xs,u.oneCell'=true) :
  Calls prog 107 #[.slice s.a n s.c,.int .i64 i,.slice (some ⟨vb,0,none⟩) 1 1] w (QeL base s n i xs ys w):=by
 by_cases he:i=n
 .subst he;exact QqS z I hn Y U h1
 rcases z.2 with⟨hs,h0⟩ |⟨g,N,a3,hs,Z,hg,a0,a1,R,D⟩
 .omega
 simp only[Value.slice.injEq]at hs;obtain⟨ha,-,hc⟩:=hs;have J:vb≠g:=λe=>a2 (by simp[Sl.row,ha,e])
 have X:s=⟨some ⟨g,0,none⟩,N⟩:=by cases s;simp_all
 have hl:=z.1;clear z;subst X;by_cases hr:n+1<=N
 .exact QmT hl Z hg hr a1 R D hn (by omega) Y U J h1 L
 exact QoR hl I hg a0 (by omega) R D hn (by omega) Y U J h1 L
end
theorem Qaa{base e size n:Nat}{xs:List Value}(h:w.ownsRow base e size (.slice s.a n s.c) n xs){b:Nat}(z:s.row=some b):base<=b/\b<w:=
 h.lt b (by obtain⟨a,c⟩:=s;cases a<;>simp_all [Value.ownBlock,Sl.row])
theorem Qa2{base e size n:Nat}{xs:List Value}(h:w.ownsRow base e size (.slice s.a n s.c) n xs)(U:0<n):∃g cap,s=⟨some ⟨g,0,none⟩,cap⟩/\base<=g/\n<=cap/\cap<=maxLen/\Qao w g e size cap:=by
 rcases h.2 with⟨N,X⟩ |⟨g,cap,z,N,D,R,I,L,J,-⟩
 .omega
 simp only[Value.slice.injEq]at N;exact⟨g,cap,by obtain⟨a,c⟩:=s;simp_all,D,I,L,z,R,J⟩
theorem QbF{base e n g cap:Nat}{xs:List Value}(h:w.ownsRow base e 1 (.slice (some ⟨g,0,none⟩) n cap) n xs){i:Nat}(hi:i<n)(u:Value):(w.setCell ⟨g,i,none⟩ u).ownsRow base e 1 (.slice (some ⟨g,0,none⟩) n cap) n (xs.set i u):=by
 rcases h.2 with⟨D,Z⟩ |⟨Y,R,z,D,I,U,J,N,L,X⟩
 .omega
 simp only[Value.slice.injEq,Option.some.injEq,Addr.mk.injEq,and_true,true_and]at D;obtain⟨rfl,rfl⟩:=D;refine⟨by rw[bO];exact h.1,.inr ⟨g,cap,z.setIfInBounds i u,rfl,I,Blk.Qdz (show Blk w g e z from U) i u,J,N,by rw[Array.size_setIfInBounds];exact L,?_⟩⟩;rw[Array.toList_setIfInBounds,List.take_set,X]
theorem Qdn:∀{h:Nat} {t:PT h},OkT h t->size h t<=8
 |0,_,ok=>ok
 |_+1,_,ok=>ok.2.1
theorem Qo0{k:ByteArray}{v:Val}{t:PT (h+1)}{z:PT h}{rs:List (PT h)}(I:t.2[Qat h t.2 k]? = some z)(N:QcY B k v h z rs)(ok:OkT (h+1) t)(hs:Sorted (ents (h+1) t)) :
  (t.2.take (Qat h t.2 k)++rs++t.2.drop (Qat h t.2 k+1)).flatMap (ents h)=Qbq (ents (h+1) t) k v:=by
 have U:=Qb3 ok;obtain⟨J,D,X,R⟩:=Qbb (h:=h) (ks:=t.2) hs U (by have:=ok.1;omega) k;rw[I]at D;simp only[Option.some.injEq]at D;subst D;have L:=al I;have Y:=QcY.ents N (ok.2.2 z L).1 (QaK hs z L);rw[aK,aK,Y];show _=Qbq (t.2.flatMap (Proofs.YtkjkafgnnoidpaaGreatDoor.ents h)) k v
 conv=>rhs;rw[QbU I]
 rw[aK,ba,Qit X,QgN R,aO]
theorem QsB{k:ByteArray}{v:Val}{t:PT (h+1)}{z:PT h}{rs:List (PT h)}(N:t.2[Qat h t.2 k]? = some z)(L:QcY B k v h z rs)(ok:OkT (h+1) t) :
  ∀u∈t.2.take (Qat h t.2 k)++rs++t.2.drop (Qat h t.2 k+1),OkT h u/\4<=size h u:=by
 have I:=al N;obtain⟨J,R⟩:=QcY.ok L (ok.2.2 z I).1;have D:=(ok.2.2 z I).2;intro u hu;rcases aE.1 hu with hu|hu
 ·rcases aE.1 hu with hu | hu
  .exact ok.2.2 u (aM hu)
  exact⟨(J u hu).1,(J u hu).2.2 D⟩
 exact ok.2.2 u (aC hu)
def Qdc(F:Nat->Prop)(h:Nat)(t:PT h)(k:ByteArray)(v:Val)(w:World)(e:Ending)(w':World):Prop:=
 ∃ts:List (PT h),e=two h ts/\QcY w.heap.size k v h t ts/\(∀u∈ts,IsN w' (Up F w w') h u)/\Ext w w'
def QiY(F:Nat->Prop)(h:Nat)(t:PT h)(k:ByteArray)(v:Val)(w:World)(e:Ending)(w':World):Prop:=
 ∃(a:PT h) (r:Value) (rs:List (PT h)),e=.returned (.tuple #[ptr h a,r])/\((r=.pointer none/\rs=[a])\/∃b,r=ptr h b/\rs=[a,b])/\QcY w.heap.size k v h t rs/\(∀u∈rs,IsN w' (Up F w w') h u)/\Ext w w'
theorem Qdc.apart{t:PT h}{k:ByteArray}{v:Val}{e:Ending}(p:Qdc F h t k v w e w'):QiY F h t k v w e w':=by
 obtain⟨D,rfl,h1,h2,z⟩:=p;rcases h1.two with⟨a,rfl⟩ |⟨a,b,rfl⟩
 .exact ⟨a,_,_,rfl,.inl ⟨rfl,rfl⟩,h1,h2,z⟩
 exact⟨a,_,_,rfl,.inr ⟨b,rfl,rfl⟩,h1,h2,z⟩
theorem Qqh(hF:∀b,F b->b<w){t:PT 0}(R:IsN w F 0 t)(ok:OkT 0 t)(hs:Sorted (ents 0 t)){k:ByteArray}{v:Val}(L:RV w (Lt w) v sl so)(I:k.size<=maxLen) :
  Calls prog 63 #[ptr 0 t,Qgu k v sl so] w (Qdc F 0 t k v w):=by
 have z:IsN w (Lt w) 0 t:=R.mono hF;refine(Qkm (λW D=>QaO (z.ext D)) (λW D=>Qbh (z.ext D)) hs ok L I).mono ?_;rintro e w' ⟨N,rfl,h1,h2,J⟩;exact⟨N,rfl,⟨h1,λu hu=>(h2 u hu).1⟩,λu hu=>(h2 u hu).2.mono λi hi=>.inr hi,J⟩
theorem Qh2{L:List (PT n)}{ts:List (PT (n+1))}(h:ts.map Prod.snd=chunk L):(∃a,ts=[a])\/∃a b,ts=[a,b]:=by
 rcases Qgz L with⟨a,D⟩ |⟨a,b,D⟩<;>rw[D]at h
 .obtain ⟨x,z,-⟩:=QuI h;exact .inl ⟨x,z⟩
 obtain⟨x,y,z,-⟩:=QuK h;exact .inr ⟨x,y,z⟩
theorem Qml{t:PT (h+1)}{k:ByteArray}{v:Val}{i:Nat}{z:PT h}{rs:List (PT h)}(I:Ext w w3)(hi:Qat h t.2 k=i)(D:t.2[Qat h t.2 k]? = some z)(N:w.heap.size<=B)(J:QcY B k v h z rs)
  {ts:List (PT (h+1))} (h1:ts.map Prod.snd=chunk (t.2.take i++rs++t.2.drop (i+1))) (h2:∀u∈ts,w3.heap.size<=addr (h+1) u/\IsN w' (Up (Up F w w3) w3 w') (h+1) u) (L:Ext w3 w'):Qdc F (h+1) t k v w (two (h+1) ts) w':=by
 subst hi;refine⟨ts,rfl,⟨z,rs,D,J.mono N,h1,λu hu=>aj I.size (h2 u hu).1⟩,λu hu=>(h2 u hu).2.mono λi hi=>?_,I.trans L⟩;rcases hi with(hi|hi)|hi
 .exact .inl hi
 .exact .inr ⟨hi.1,ab hi.2 L.size⟩
 exact .inr ⟨Nat.le_trans I.size hi.1,hi.2⟩
theorem Qrt{ks:List (PT h)}{i:Nat}(hi:i<ks.length)(a:PT h):(ptrs h ks).set i (ptr h a)=ptrs h (ks.take i++[a]++ks.drop (i+1)):=by
 rw[ptrs,<-bI,bS,em hi,aO];rfl
theorem Qrs{ks:List (PT h)}{i:Nat}(hi:i<ks.length)(a b:PT h):(ptrs h (ks.take i++[a]++ks.drop (i+1))).take ((i+1)*1)++[ptr h b]++(ptrs h (ks.take i++[a]++ks.drop (i+1))).drop ((i+1)*1)=ptrs h (ks.take i++[a,b]++ks.drop (i+1)):=by
 have z:(ptrs h (ks.take i++[a])).length=i+1:=by simp[ptrs];omega
 have e:ptrs h (ks.take i++[a]++ks.drop (i+1))=ptrs h (ks.take i++[a])++ptrs h (ks.drop (i+1)):=by simp[ptrs]
 rw[e,b9,<-z,dK,dZ,z];simp[ptrs]
theorem Qqg{k:ByteArray}{v:Val}(l7:k.size<=maxLen)
  (ih:∀(w:World) (F:Nat->Prop) (t:PT h),(∀b,F b->b<w.heap.size)->IsN w F h t->OkT h t->Sorted (ents h t)->(ents h t).length<=1000000->RV w (Lt w.heap.size) v sl so->Calls prog 63 #[ptr h t,Qgu k v sl so] w (Qdc F h t k v w))
 {t:PT (h+1)} (hF:∀ b,F b→b<w.heap.size) (hn:IsN w F (h+1) t) (ok:OkT (h+1) t) (hs:Sorted (ents (h+1) t)) (hc:(ents (h+1) t).length≤1000000) (hv:RV w (Lt w.heap.size) v sl so) :
  Calls prog 63 #[ptr (h+1) t,Qgu k v sl so] w (Qdc F (h+1) t k v w):=by
 have a4:=Qb3 ok;have hh:h+1<1000000:=ab (Qc2 (h+1) t ok (by have:=ok.1;show 1<=t.2.length;omega)) hc;obtain⟨D,N,hA,hC⟩:=Qbb (h:=h) (ks:=t.2) hs a4 (by have:=ok.1;omega) k;have a8:=al N;have b7:=(ah.1 N).1;have j7:=ok.1;have k0:=ok.2.1;have f4:∀x∈t.2,IsN w F h x:=hn.2.choose_spec.2.2;have a5:(ents h D).length<=1000000:=aj (by
  show _<=(t.2.flatMap (ents h)).length;rw[QbU N];simp only[List.flatMap_append,List.flatMap_cons,List.length_append];omega) hc
 have f9:∀W,Ext w W->Calls prog 63 #[ptr h D,Qgu k v sl so] W (QiY F h D k v W):=λW hW=>
  (ih W F D (λb X=>ab (hF b X) hW.size) ((f4 D a8).agree (hW.agree hF)) (ok.2.2 D a8).1 (QaK hs D a8) a5 ((hv.agree (hW.agree λ_ h=>h)).mono λi hi=>ab hi hW.size)).mono λ_ _ p=>p.apart
 have HF:=hY hF;have HN:=hY hn;have g5:=hY ok;have HS:=hY hs;have HC:=hY hc;have HP:=hY a4;have j0:=hY f9;have f8:=hY f4;have L:=hY N;have l4:(((h:Int)+1)==0)=false:=eu.2 (by omega);clear hF hn ok hs hc a4 f9 f4 N hA hC hv ih a5;go_in;go_wp2_with fail;have e6:Ext w (w.alloc (.cells #[.string k,.int .i64 v.kind,.bool v.b,.int .i64 v.i,.string v.t,.slice sl.a v.l.length sl.c,.slice so.a v.ok.length so.c] 70)):=(fu w).alloc _ _;have g8:=fx w 70 #[.string k,.int .i64 v.kind,.bool v.b,.int .i64 v.i,.string v.t,.slice sl.a v.l.length sl.c,.slice so.a v.ok.length so.c];generalize g3:World.alloc _ _=W0 at *;have l6:W0.heap.size=w.heap.size+1:=by rw[<-g3];simp
 clear g3;have f0:IsN W0 F (h+1) t:=HN.o.agree (e6.agree HF.o);refine(QaO f0).mono ?_;rintro e w1 ⟨rfl,rfl⟩;have a5:=QcO f0 (by omega);clear f0;go_wp2_with fail;refine a5.mono ?_;rintro e w1 ⟨s',rfl,a6,c8⟩;have c9:=e6.trans c8;have f1:=g8.ext c8;obtain⟨c0,c1,c2,c3,c4,c5,c6⟩:=f1.c7;have g6:Rd w1 (Lt w1.heap.size) 1 s' t.2.length (ptrs h t.2):=(fE a6).mono λi hi=>hi.2
 have e8:=Qhk g6 (λx U=>(f8.o x U).agree (c9.agree HF.o)) (λb X=>ab (HF.o b X) c9.size) HP.o k HS.o (by omega);obtain⟨i,hi⟩:∃i,Qat h t.2 k=i:=⟨_,rfl⟩;rw[hi]at e8 b7;have HI:=hY hi;have j4:=hY e8;have e3:=hY a6;have e4:=hY f1;have j6:=hY c9;have k4:=hY c8;clear hi e8 a6 f1 c9 g6 a5 g8 e6 c8;go_wp2_with fail;refine j4.o.mono ?_;rintro e w2 ⟨rfl,a2⟩;clear c0 c1 c2 c3 c4 c5 c6;obtain⟨d0,d1,d2,d3,d4,d5,d6⟩:=(e4.o.ext a2).c7;have l5:=e4.o.lt;have k7:=(e4.o.ext a2).lt;have i2:=j6.o.trans a2;obtain⟨g,z,rfl,l0,l2,l3,a7⟩:=Qa2 e3.o (by omega);have b0:w2.ownsRow W0.heap.size 39 1 (.slice (some ⟨g,0,none⟩) t.2.length z) t.2.length (ptrs h t.2):=Qae e3.o (a2.agree (F:=Lt w1.heap.size) λ_ h=>h) λb X=>(Qaa e3.o X).2
 have g0:w2.cell? ⟨g,i,none⟩=some (ptr h D):=by
  have:=b0.cells (g:=g) rfl i (ptr h D) (by rw[ptrs,ao,<-HI.o,L.o];rfl);rwa[Qbu,aB]at this
 have k6:(i:Int)<(t.2.length:Int):=by omega
 have i8:=hY b0;have a3:=hY i2;have f6:g<w2.heap.size:=(Qaa (s:=⟨some ⟨g,0,none⟩,z⟩) b0 rfl).2;have i5:∀o,w2.frozen? ⟨g,o,none⟩=false:=λo=>by rw[a2.frozen a7.lt];exact a7.frozen o
 clear a2 b0 i2 a7;go_wp2_with fail;go_region_held3 (λw'=>w'.cell? ⟨g,i,none⟩=some (ptr h D)/\w'.cell? ⟨w.heap.size,0,none⟩=some (.string k)/\w'.cell? ⟨w.heap.size,1,none⟩=some (.int .i64 v.kind)/\w'.cell? ⟨w.heap.size,2,none⟩=some (.bool v.b)/\w'.cell? ⟨w.heap.size,3,none⟩=some (.int .i64 v.i)/\w'.cell? ⟨w.heap.size,4,none⟩=some (.string v.t)/\w'.cell? ⟨w.heap.size,5,none⟩=some (.slice sl.a v.l.length sl.c)/\w'.cell? ⟨w.heap.size,6,none⟩=some (.slice so.a v.ok.length so.c)) (go_keep)
  ((go_at_call 63;refine(j0.o _ a3.o.drew).mono ?_;rintro e w3 ⟨a,r,rs,rfl,hr,g4,i0,b4⟩;have HR:=hY hr;have b3:=hY g4;have j1:=hY i0;clear hr g4 i0;have b6:(∀b o,b<w2.heap.size->w3.cell? ⟨b,o,none⟩=w2.cell? ⟨b,o,none⟩):=λb o X=>b4.cell (show b<w2.drew.heap.size from X)))
 have J:Ext w2 w3:=((fu w2).drew).trans b4;have k8:g<w3.heap.size:=ab f6 J.size;have k2:=(J.cell (o:=i) f6).trans g0;have k5:w3.frozen? ⟨g,i,none⟩=false:=(J.frozen f6).trans (i5 i);have a0:=hY J;have k3:=hY b4;clear J b4 g0 i5 b6 d0 d1 d2 d3 d4 d5 d6;have b6:w3.ownsRow W0.heap.size 39 1 (.slice (some ⟨g,0,none⟩) t.2.length z) t.2.length (ptrs h t.2):=Qae (s:=⟨some ⟨g,0,none⟩,z⟩) i8.o (a0.o.agree (F:=Lt w2.heap.size) λ_ h=>h) λb X=>(Qaa (s:=⟨some ⟨g,0,none⟩,z⟩) i8.o X).2
 have f5:=QbF b6 b7 (ptr h a);rw[Qrt b7]at f5;have i7:Ext w (w3.setCell ⟨g,i,none⟩ (ptr h a)):=(a3.o.trans a0.o).setCell (p:=⟨g,i,none⟩) (by show w.heap.size<=g;omega) _;have d8:Agree (Up F w2.drew w3) w3 (w3.setCell ⟨g,i,none⟩ (ptr h a)):=fA w3 ⟨g,i,none⟩ _ (by
  rintro(hf|hf)
  ·have:g<w.heap.size:=HF.o g hf
   omega
  have:w2.heap.size<=g:=hf.1;omega)
 have a9:∀W,Ext w W->Agree (Up F w2.drew w3) w3 W->w3.heap.size<=W.heap.size->Kids W (Up F w W) h (t.2.take i++rs++t.2.drop (i+1)):=λW hW j3 j8=>by
  have f2:=Qo0 L.o b3.o g5.o HS.o;have b5:=QsB L.o b3.o g5.o;rw[HI.o]at f2 b5;have j5:Sorted ((t.2.take i++rs++t.2.drop (i+1)).flatMap (ents h)):=by rw[f2];exact QaS HS.o k v
  have i4:∀x∈t.2.take i++rs++t.2.drop (i+1),0<(ents h x).length:=λx U=>QbB h x (b5 x U).1 (by have:=(b5 x U).2;omega)
  refine⟨λb X=>X.elim (λh=>ab (HF.o b h) hW.size) λh=>h.2,λx U=>?_,QdT j5 i4,i4,λx U=>by have:=Qdn (b5 x U).1;omega,by
   have:=QcN (ents (h+1) t) k v;have l1:=HC.o;unfold cnt;rw[f2];omega,by omega⟩
  rcases aE.1 U with U|U
  ·rcases aE.1 U with U | U
   .exact ((f8.o x (aM U)).agree (hW.agree HF.o)).mono λ_ h=>.inl h
   exact((j1.o x U).agree j3).mono λb X=>X.elim .inl λh=>.inr ⟨Nat.le_trans a3.o.size h.1,ab h.2 j8⟩
  exact((f8.o x (aC U)).agree (hW.agree HF.o)).mono λ_ h=>.inl h
 have HK:=hY a9;have f7:=hY f5;have e2:=hY i7;have i3:=hY d8;have g7:w.heap.size<=w2.drew.heap.size:=a3.o.size;have l8:W0.heap.size<=w3.heap.size:=by omega
 have i1:=hY g7;clear b6 f5 i7 d8 a9 g7;rcases HR.o with⟨rfl,rfl⟩ |⟨b,rfl,rfl⟩
 ·have R:(t.2.take i++[a]++t.2.drop (i+1)).length=t.2.length:=by simp;omega
  have Y:=QhY (w:=w3.setCell ⟨g,i,none⟩ (ptr h a)) (s:=⟨some ⟨g,0,none⟩,z⟩) (by rw[R];exact(fE f7.o).mono λi hi=>hi.2) (HK.o _ e2.o i3.o (by simp)) (by omega) (by omega);rw[R]at Y;have e7:=hY Y;clear Y R;go_wp2_with fail;refine e7.o.mono ?_;rintro e w5 ⟨ts,rfl,h1,h2,h3⟩;have H2:=hY h2;have H1:=hY h1;clear h2;rcases Qh2 h1 with⟨a',rfl⟩ |⟨a',b',rfl⟩
  all_goals
   clear h1;simp only[two];go_wp2_with fail;go_ret2;exact Qml e2.o HI.o L.o i1.o b3.o H1.o H2.o h3
 have k9:IntKind.i64.wrap ((i:Int)+1)=(i:Int)+1:=by rw[ey];omega
 have R:(t.2.take i++[a]++t.2.drop (i+1)).length=t.2.length:=by simp;omega
 have I:(t.2.take i++[a,b]++t.2.drop (i+1)).length=t.2.length+1:=by simp;omega
 have b8:Ext (w3.setCell ⟨g,i,none⟩ (ptr h a)) ((w3.setCell ⟨g,i,none⟩ (ptr h a)).alloc (.cells #[ptr h b] 39)):=(fu _).alloc _ _;have i9:Blk ((w3.setCell ⟨g,i,none⟩ (ptr h a)).alloc (.cells #[ptr h b] 39)) w3.heap.size 39 [ptr h b].toArray:=by
  have:=fx (w3.setCell ⟨g,i,none⟩ (ptr h a)) 39 #[ptr h b];rwa[eA]at this
 go_wp2_with fail;change Calls _ _ _ ((w3.setCell ⟨g,i,none⟩ (ptr h a)).alloc (.cells #[ptr h b] 39)) _;have i6:((w3.setCell ⟨g,i,none⟩ (ptr h a)).alloc (.cells #[ptr h b] 39)).ownsRow W0.heap.size 39 1 (.slice (some ⟨g,0,none⟩) t.2.length z) t.2.length (ptrs h (t.2.take i++[a]++t.2.drop (i+1))):=Qae (s:=⟨some ⟨g,0,none⟩,z⟩) f7.o (b8.agree (F:=Lt w3.heap.size) λi hi=>by rw[eA];exact hi) λb X=>by
  have:=(Qaa (s:=⟨some ⟨g,0,none⟩,z⟩) f7.o X).2;rwa[eA]at this
 have d7:Agree (Up F w2.drew w3) w3 ((w3.setCell ⟨g,i,none⟩ (ptr h a)).alloc (.cells #[ptr h b] 39)):=i3.o.trans (b8.agree λj hj=>by rw[eA];exact hj.elim (λhh=>ab (HF.o j hh) (by have:=a3.o.size;have:=a0.o.size;omega)) λhh=>hh.2);have g9:=e2.o.trans b8;have j2:((w3.setCell ⟨g,i,none⟩ (ptr h a)).alloc (.cells #[ptr h b] 39)).heap.size=w3.heap.size+1:=by simp
 generalize (w3.setCell ⟨g,i,none⟩ (ptr h a)).alloc (.cells #[ptr h b] 39)=W5 at *;have e0:=QlN (w:=W5) (base:=W0.heap.size) (n:=t.2.length) (i:=i+1) (s:=⟨some ⟨g,0,none⟩,z⟩) (xs:=ptrs h (t.2.take i++[a]++t.2.drop (i+1))) (ys:=[ptr h b]) (vb:=w3.heap.size) i6 (by omega) (by omega) (by omega) rfl i9 (by simp[Sl.row];omega) (by simp[Value.oneCell']) (QbT _ _);have H5:=hY g9;have j9:=hY d7;clear g9 d7 i9 i6 b8;refine e0.mono ?_;rintro e w6 ⟨s6,rfl,Z,a1,-⟩;rw[Qrs b7]at Z;have f3:Ext w w6:=H5.o.wr a1 λj hj=>by simp[Sl.row]at hj;omega
 have e1:Agree (Up F w2.drew w3) w3 w6:=j9.o.trans (a1.agree (λj hj=>by rw[j2];exact hj.elim (λhh=>ab (HF.o j hh) (by have:=a3.o.size;have:=a0.o.size;omega)) λhh=>Nat.lt_succ_of_lt hh.2) (λj hj=>by
  simp[Sl.row]at hj;subst hj;rintro(hf|hf)
  ·have:g<w.heap.size:=HF.o g hf
   omega
  have:w2.heap.size<=g:=hf.1;omega))
 have Y:=QhY (w:=w6) (s:=s6) (by rw[I];exact(fE Z).mono λi hi=>hi.2) (HK.o _ f3 e1 (by have:=a1.grown.size;omega)) (by omega) (by omega);rw[I]at Y;have e7:=hY Y;have k1:=hY f3;clear Y R I f3 e1 Z a1 e0;go_wp2_with fail;refine e7.o.mono ?_;rintro e w7 ⟨ts,rfl,h1,h2,h3⟩;have H2:=hY h2;have H1:=hY h1;clear h2;rcases Qh2 h1 with⟨a',rfl⟩ |⟨a',b',rfl⟩
 all_goals
  clear h1;simp only[two];go_wp2_with fail;go_ret2;exact Qml k1.o HI.o L.o i1.o b3.o H1.o H2.o h3
theorem Qmk{k:ByteArray}{v:Val}{sl so:Sl}(z:k.size<=maxLen):∀(h:Nat) (w:World) (F:Nat->Prop) (t:PT h),(∀b,F b->b<w)->IsN w F h t->OkT h t->Sorted (ents h t)->(ents h t).length<=1000000->RV w (Lt w) v sl so->
  Calls prog 63 #[ptr h t,Qgu k v sl so] w (Qdc F h t k v w)
 |0,w,F,t,hF,hn,ok,hs,hc,hv=>Qqh hF hn ok hs hv z
 |h+1,w,F,t,hF,hn,ok,hs,hc,hv=>Qqg z (Qmk z h) hF hn ok hs hc hv
abbrev RT:=Option (Σ h,PT h)
def Qay:RT->Value
 |none=>.pointer none
 |some ⟨h,t⟩=>ptr h t
abbrev Qau(T:RT):Value:=.agg #[Qay T]
def Qab:RT->List Ent
 |none=>[]
 |some ⟨h,t⟩=>ents h t
def OkR:RT->Prop
 |none=>True
 |some ⟨h,t⟩=>OkT h t/\1<=size h t/\Sorted (ents h t)
def IsT(w:World)(F:Nat->Prop):RT->Prop
 |none=>True
 |some ⟨h,t⟩=>IsN w F h t
variable{T:RT}
theorem IsT.agree(h:IsT w F T)(z:Agree F w w'):IsT w' F T:=by
 match T,h with
 |none,_=>trivial
 |some ⟨n,t⟩,h=>exact IsN.agree z h
theorem IsT.mono(h:IsT w F T)(z:∀i,F i->G i):IsT w G T:=by
 match T,h with
 |none,_=>trivial
 |some ⟨n,t⟩,h=>exact IsN.mono z h
theorem OkR.sorted(h:OkR T):Sorted (Qab T):=by
 match T,h with
 |none,_=>exact List.Pairwise.nil
 |some ⟨n,t⟩,h=>exact h.2.2
inductive QcI (B:Nat) (k:ByteArray) (v:Val):RT->(h:Nat)->List (PT h)->Prop
 |none (u:PT 0) (h:u.2=[(k,v)]) (hb:B<=u.1):QcI B k v none 0 [u]
 |some {h:Nat} {t:PT h} {ts:List (PT h)} (hw:QcY B k v h t ts):QcI B k v (some ⟨h,t⟩) h ts
theorem QcI.mono(z:A<=B){k:ByteArray}{v:Val}{ts:List (PT h)}(D:QcI B k v T h ts):QcI A k v T h ts:=by
 cases D with
 |none u hu hb=>exact .none u hu (aj z hb)
 |some D=>exact .some (D.mono z)
theorem QcI.height{k:ByteArray}{v:Val}{ts:List (PT h)}(z:QcI B k v T h ts)(ok:OkR T):h<=(Qab T).length:=by
 cases z with
 |none u hu hb=>exact av _
 |some z=>exact cQ (Qc2 _ _ ok.1 ok.2.1)
inductive QrP (B:Nat) (k:ByteArray) (v:Val):RT->RT->Prop
 |one {T:RT} {h:Nat} {a:PT h} (hw:QcI B k v T h [a]):QrP B k v T (some ⟨h,a⟩)
 |two {T:RT} {h:Nat} {a b:PT h} {c:PT (h+1)} (hw:QcI B k v T h [a,b]) (hc:c.2=[a,b]) (hb:B<=addr (h+1) c):QrP B k v T (some ⟨h+1,c⟩)
theorem QcI.ents{k:ByteArray}{v:Val}{ts:List (PT h)}(z:QcI B k v T h ts)(ok:OkR T):ts.flatMap (Proofs.YtkjkafgnnoidpaaGreatDoor.ents h)=Qbq (Qab T) k v:=by
 cases z with
 | none u hu hb=>
   show u.2++[]=_;rw[hu];rfl
 |some z=>exact z.ents ok.1 ok.2.2
theorem QcI.ok{k:ByteArray}{v:Val}{ts:List (PT h)}(z:QcI B k v T h ts)(ok:OkR T):(∀u∈ts,OkT h u/\1<=size h u)/\(2<=ts.length->∀u∈ts,4<=size h u):=by
 cases z with
 | none u hu hb=>
   refine⟨λx D=>?_,λh=>by simp at h⟩;obtain rfl:x=u:=by simpa using D
   exact⟨show x.2.length<=8 by rw[hu];simp,show 1<=x.2.length by rw[hu];simp⟩
 |some z=>exact⟨λu hu=>⟨(z.ok ok.1).1 u hu |>.1,((z.ok ok.1).1 u hu).2.1⟩,(z.ok ok.1).2⟩
variable{T':RT}
theorem QrP.ents{k:ByteArray}{v:Val}(z:QrP B k v T T')(ok:OkR T):Qab T'=Qbq (Qab T) k v:=by
 cases z with
 |one hw=>have:=hw.ents ok;simpa[Qab]using this
 | two hw hc hb=>
   rename_i h a b c;have:=hw.ents ok;rw[<-this,<-hc];rfl
theorem QrP.ok{k:ByteArray}{v:Val}(D:QrP B k v T T')(ok:OkR T):OkR T':=by
 have hs:Sorted (Qab T'):=by rw[D.ents ok];exact QaS ok.sorted k v
 cases D with
 |one hw=>rename_i h a;exact⟨((hw.ok ok).1 a (by simp)).1,((hw.ok ok).1 a (by simp)).2,hs⟩
 | two hw hc hb=>
   rename_i h a b c;have h1:=hw.ok ok;refine⟨⟨by rw[hc];simp,by rw[hc];simp,λx z=>?_⟩,show 1<=c.2.length by rw[hc];simp,hs⟩;rw[hc]at z;exact⟨(h1.1 x z).1,h1.2 (by simp) x z⟩
theorem Rd.QaX{t:TypeId}(z:Blk w g t cs.toArray)(I:cs.length<=maxLen):Rd w (λb=>b=g) 1 ⟨some ⟨g,0,none⟩,cs.length⟩ cs.length cs:=
 ⟨g,0,.some _ _ _ _ (an _) I rfl,(b9 _).symm,λj u D=>by rw[aB,z.cell];simpa using D⟩
def Qi0(F:Nat->Prop)(T:RT)(k:ByteArray)(v:Val)(w:World)(e:Ending)(w':World):Prop:=
 ∃(h:Nat) (a:PT h) (r:Value) (rs:List (PT h)),e=.returned (.tuple #[ptr h a,r])/\((r=.pointer none/\rs=[a])\/∃b,r=ptr h b/\rs=[a,b])/\QcI w.heap.size k v T h rs/\(∀u∈rs,IsN w' (Up F w w') h u)/\Ext w w'
theorem Qqf(hF:∀b,F b->b<w)(I:IsT w F T)(ok:OkR T)(J:(Qab T).length<=1000000){k:ByteArray}{v:Val}(z:k.size<=maxLen)(L:RV w (Lt w) v sl so) :
  Calls prog 63 #[Qay T,Qgu k v sl so] w (Qi0 F T k v w):=by
 match T,I,ok,J with
 | none,_,_,_=>
   refine(Qkm (nv:=.pointer none) (es:=[]) (λW N=>(Qd8 W)) (λW N=>(Qey W).mono ?_) List.Pairwise.nil (by simp) L z).mono ?_
   ·rintro e w' ⟨rfl,rfl⟩
    exact⟨Sl.none,[],rfl,rfl,OE.nil _ _,fu _⟩
   rintro e w' ⟨X,rfl,h1,h2,D⟩;obtain⟨u,rfl,hu⟩:=Qus (h1.trans (show chunk (Qbq [] k v)=[[(k,v)]]from rfl));exact⟨0,u,_,_,rfl,.inl ⟨rfl,rfl⟩,.none u hu (h2 u (by simp)).1,λx R=>(h2 x R).2.mono λi hi=>.inr hi,D⟩
 | some ⟨h,t⟩,I,ok,J=>
   refine(Qmk z h w F t hF I ok.1 ok.2.2 J L).mono ?_;intro e w' p;obtain⟨a,r,rs,rfl,h1,h2,D,U⟩:=p.apart;exact⟨h,a,r,rs,rfl,h1,.some h2,D,U⟩
def QnX(F:Nat->Prop)(T:RT)(k:ByteArray)(v:Val)(w:World)(e:Ending)(w':World):Prop:=
 ∃T',e=.returned (Qau T')/\QrP w.heap.size k v T T'/\IsT w' (Up F w w') T'/\Ext w w'
theorem QpD(hF:∀b,F b->b<w)(hT:IsT w F T)(ok:OkR T)(hc:(Qab T).length<=1000000){k:ByteArray}{v:Val}(c3:k.size<=maxLen)(hv:RV w (Lt w) v sl so) :
  Calls prog 38 #[Qau T,.string k,aggV v sl so] w (QnX F T k v w):=by
 have a5:∀W,Ext w W->Calls prog 63 #[Qay T,Qgu k v sl so] W (Qi0 F T k v W):=λW hW=>
  Qqf (λb hb=>ab (hF b hb) hW.size) (hT.agree (hW.agree hF)) ok hc c3 ((hv.agree (hW.agree λ_ h=>h)).mono λi hi=>ab hi hW.size)
 have HW:=hY a5;have HF:=hY hF;have Y:=hY ok;clear hF hT ok hv a5;go_in;go_wp2_with fail;have a1:Ext w (((w.alloc (.cells #[Qay T] 41)).alloc (.cells #[.int .i64 v.kind,.bool v.b,.int .i64 v.i,.string v.t,.slice sl.a v.l.length sl.c,.slice so.a v.ok.length so.c] 28)).alloc (.cells #[.pointer none] 41)):=(((fu w).alloc _ _).alloc _ _).alloc _ _;have b8:Blk (((w.alloc (.cells #[Qay T] 41)).alloc (.cells #[.int .i64 v.kind,.bool v.b,.int .i64 v.i,.string v.t,.slice sl.a v.l.length sl.c,.slice so.a v.ok.length so.c] 28)).alloc (.cells #[.pointer none] 41)) (w.heap.size+1+1) 41 #[.pointer none]:=by
  have:=fx ((w.alloc (.cells #[Qay T] 41)).alloc (.cells #[.int .i64 v.kind,.bool v.b,.int .i64 v.i,.string v.t,.slice sl.a v.l.length sl.c,.slice so.a v.ok.length so.c] 28)) 41 #[.pointer none];simpa using this
 generalize a4:World.alloc _ _=W3 at *;have c8:W3.heap.size=w.heap.size+1+1+1:=by rw[<-a4];simp
 clear a4;refine(HW.o _ a1).mono ?_;rintro e z ⟨h,a,r,rs,rfl,hr,b5,a9,U⟩;have D:=b8.ext U;have b6:=a1.trans U;have q4:z.cell? ⟨w+1+1,0,none⟩=some (.pointer none):=D.cell 0;have f4:=D.frozen 0;have b4:=D.lt;have I:=hY b5;have b0:=hY a9;have HX:=hY b6;have d0:=hY U;have c7:=hY D;have a7:∀W',¬Up F W3 W' (w.heap.size+1+1):=λW' L=>by
  rcases L with L|L
  .have:=HF.o _ L;omega
  have:=L.1;omega
 have a8:=hY a7;have R:w.heap.size<=W3.heap.size:=by omega
 clear b8 D b5 a9 b6 a1 U a7;rcases hr with⟨rfl,rfl⟩ |⟨b,rfl,rfl⟩
 ·go_wp2_with fail
  have q0:(z.setCell ⟨w+1+1,0,none⟩ (ptr h a)).cell? ⟨w+1+1,0,none⟩=some (ptr h a):=eM z _ _ q4;refine eD (v:=Qau (some ⟨h,a⟩)) (by simp[results,results38,go_sem,q0];rfl) rfl ?_;refine⟨some ⟨h,a⟩,rfl,.one ?_,?_,HX.o.setCell (p:=⟨w+1+1,0,none⟩) (by show w.heap.size<=w.heap.size+1+1;omega) _⟩
  .exact I.o.mono R
  show IsN _ _ h a;refine((b0.o a (by simp)).agree (fA z ⟨w+1+1,0,none⟩ _ (a8.o z))).mono λi hi=>hi.elim .inl λhi=>.inr ⟨Nat.le_trans R hi.1,by rw[eA];exact hi.2⟩
 have a0:Ext z (z.alloc (.cells #[ptr h a,ptr h b] 39)):=(fu _).alloc _ _;have c0:Blk (z.alloc (.cells #[ptr h a,ptr h b] 39)) z.heap.size 39 (ptrs h [a,b]).toArray:=fx z 39 #[ptr h a,ptr h b];have c9:(z.alloc (.cells #[ptr h a,ptr h b] 39)).heap.size=z.heap.size+1:=by simp
 go_wp2_with fail;change Calls _ _ _ (z.alloc (.cells #[ptr h a,ptr h b] 39)) _;generalize z.alloc (.cells #[ptr h a,ptr h b] 39)=W5 at *;have he:=I.o.ents Y.o;have X:=I.o.ok Y.o;have a2:∀x∈[a,b],0<(ents h x).length:=λx hx=>QbB h x (X.1 x hx).1 (X.1 x hx).2
 have b7:Sorted ([a,b].flatMap (ents h)):=by rw[he];exact QaS Y.o.sorted k v
 have J:Kids W5 (Up F W3 W5) h [a,b]:=by
  refine⟨λb hb=>hb.elim (λh=>ab (HF.o b h) (by have:=HX.o.size;omega)) λh=>h.2,λx hx=>?_,QdT b7 a2,a2,λx hx=>by have:=Qdn (X.1 x hx).1;omega,by
   have:=QcN (Qab T) k v;unfold cnt;rw[he];omega,by have:=I.o.height Y.o;omega⟩
  exact((b0.o x hx).agree (a0.agree λi hi=>hi.elim (λh=>ab (HF.o i h) HX.o.size) λh=>h.2)).mono λi hi=>hi.elim .inl λhi=>.inr ⟨hi.1,by omega⟩
 have a6:=Qct (w:=W5) (n:=2) (s:=⟨some ⟨z,0,none⟩,2⟩) ((Rd.QaX c0 (by simp[ptrs];decide)).mono λi hi=>by subst hi;omega) rfl J (by simp) (by simp);have Z:=hY a0;clear a0 c0 he X a2 b7 J;refine a6.mono ?_;rintro e w6 ⟨c,rfl,c2,c4,c1,N⟩;have c6:=hY c1;have q6:w6.cell? ⟨w+1+1,0,none⟩=some (.pointer none):=((Z.o.trans N).cell b4).trans q4;have f6:w6.frozen? ⟨w+1+1,0,none⟩=false:=((Z.o.trans N).frozen b4).trans f4;have b3:=hY N;clear a6 c1 q4 f4 N;go_wp2_with fail;have q0:(w6.setCell ⟨w+1+1,0,none⟩ (ptr (h+1) c)).cell? ⟨w+1+1,0,none⟩=some (ptr (h+1) c):=eM w6 _ _ q6;refine eD (v:=Qau (some ⟨h+1,c⟩)) (by simp[results,results38,go_sem,q0];rfl) rfl ?_;have a3:w.heap.size<=W5.heap.size:=by have:=HX.o.size;omega
 refine⟨some ⟨h+1,c⟩,rfl,.two (I.o.mono R) c2 (aj a3 c4),?_,((HX.o.trans Z.o).trans b3.o).setCell (p:=⟨w+1+1,0,none⟩) (by show w.heap.size<=w.heap.size+1+1;omega) _⟩;show IsN _ _ (h+1) c;refine(c6.o.agree (fA w6 ⟨w+1+1,0,none⟩ _ ?_)).mono λi hi=>?_
 ·rintro (L | L)
  .exact a8.o W5 L
  have:W5.heap.size<=w.heap.size+1+1:=L.1;omega
 rcases hi with(hi|hi)|hi
 .exact .inl hi
 .exact .inr ⟨Nat.le_trans R hi.1,by rw[eA];exact ab hi.2 b3.o.size⟩
 exact .inr ⟨Nat.le_trans a3 hi.1,by rw[eA];exact hi.2⟩
theorem RV.flat(w:World)(F:Nat->Prop)(z:Int)(b:Bool)(i:Int)(t:ByteArray)(D:(Lit.int .i64 z).wf=true)(hi:(Lit.int .i64 i).wf=true)(I:t.size<=maxLen):RV w F (.mk z b i t [] [] []) Sl.none Sl.none:=
 .mk 0 0 0 0 (λ_=>(Sl.none,Sl.none)) (λ_=>(Sl.none,Sl.none)) (.nil _ _) (.nil _ _) rfl (λ_ _ h=>by simp at h) (λ_ _ h=>by simp at h) (λ_ _ h=>by simp at h) (λ_ _ h=>by simp at h) (λ_ _ h=>by simp at h) D hi I (by simp) (by simp)
theorem Qg0(es:List Ent)(k:ByteArray)(hs:Sorted es):(∀e∈es.take (Qcc es k),klt e.1 k=true)/\(∀e∈es.drop (Qcc es k),klt e.1 k=false):=by
 have J:es.take (Qcc es k)=es.takeWhile λe=>klt e.1 k:=(ce.1 (List.takeWhile_prefix (l:=es) (λe:Ent=>klt e.1 k))).symm
 have N:es.drop (Qcc es k)=es.dropWhile λe=>klt e.1 k:=by
  have h1:=aX (Qcc es k) es;rw[J]at h1;have h2:=List.takeWhile_append_dropWhile (p:=λe:Ent=>klt e.1 k) (l:=es);exact List.append_cancel_left (h1.trans h2.symm)
 refine⟨λe z=>?_,λe z=>?_⟩
 ·rw [J] at z
  exact dd.1 (List.all_takeWhile (l:=es) (p:=λe:Ent=>klt e.1 k)) e z
 have D:Sorted (es.drop (Qcc es k)):=cV (dM _ _) hs;rw[N]at z D;cases hd:es.dropWhile λe=>klt e.1 k with
 |nil=>rw[hd]at z;cases z
 | cons x xs=>
   rw[hd]at z D;have I:klt x.1 k=false:=by
    have:=List.head?_dropWhile_not (λe:Ent=>klt e.1 k) es;rw[hd]at this;simpa using this
   rcases aF.1 z with rfl|z
   .exact I
   have:=(aV.1 D).1 e z;cases L:klt e.1 k
   .rfl
   rw[QaI this L]at I;cases I
theorem Qip{es:List Ent}(hs:Sorted es)(k:ByteArray):Qam es k=(es[Qcc es k]?).bind λe=>if e.1=k then some e.2 else none:=by
 obtain⟨L,I⟩:=Qg0 es k hs;have z:Sorted (es.drop (Qcc es k)):=cV (dM _ _) hs
 conv=>lhs;rw[<-aX (Qcc es k) es]
 rw[QlF L,<-cp (Qcc es k),<-be,cp];cases hd:es.drop (Qcc es k)with
 |nil=>rfl
 | cons x xs=>
   rw[hd]at z I;simp only[List.getElem?_cons_zero,Option.bind_some,Qam];by_cases D:x.1=k
   .simp [D]
   simp only[D,if_false];refine QeY λe J=>?_
   have h1:=Qc3 (I x (aw ..)) D;have h2:=QaI h1 ((aV.1 z).1 e J);rintro rfl;rw[Qah]at h2;cases h2
theorem QqF{es:List Ent}(hs:Sorted es)(k:ByteArray):Qb2 es k=if(es[Qcc es k]?).map Prod.fst=some k then es.take (Qcc es k)++es.drop (Qcc es k+1)else es:=by
 obtain⟨D,z⟩:=Qg0 es k hs
 conv=>lhs;rw[<-aX (Qcc es k) es]
 rw[Qig D,Qsp z,List.head?_drop,List.tail_drop];split
 .rfl
 rw[aX]
def QbO(o:Option Val)(w:World)(e:Ending)(w':World):Prop:=
 ∃sl so,e=.returned (.tuple #[aggV (o.getD zeroV) sl so,.bool o.isSome])/\Ext w w'/\RVC w' (In w.heap.size w'.heap.size) (o.getD zeroV) sl so
theorem QqJ{k k':ByteArray}{v:Val}{i:Nat}(h1:W.cell? ⟨b1,0,none⟩=some nv)(h2:W.cell? ⟨b2,0,none⟩=some (.string k))
  (J:∃p,nv=.pointer p) (I:Calls prog 100 #[nv,.int .i64 i] W (QdA k' v W)) :
  Calls prog 99 #[.int .i64 i,.pointer (some ⟨b1,0,none⟩),.pointer (some ⟨b2,0,none⟩)] W λe w'=>e=.returned (.bool !(klt k' k))/\Ext W w':=by
 obtain⟨p,rfl⟩:=J;have z:=eH W _ h2;go_in;go_wp2_with fail;refine I.mono ?_;rintro e w1 ⟨sl,so,rfl,D,-⟩;have N:=(D.cell z).trans h2;have R:b2<w1:=ab z D.size;have L:=hY D;clear I D h2;go_wp2;go_ret;exact⟨rfl,L.o.alloc _ _⟩
structure Qs6(w:World)(nv:Value)(k:ByteArray)(W:World):Prop where
 ext:Ext w W
 b0:Blk W w.heap.size 39 #[nv]
 b1:Blk W (w.heap.size+1) 9 #[.string k]
 b2:Blk W (w.heap.size+1+1) 28 #[.int .i64 0,.bool false,.int .i64 0,.string ByteArray.empty,.slice none 0 0,.slice none 0 0]
variable{W':World}
theorem Qs6.step{k:ByteArray}(h:Qs6 w nv k W)(z:Ext W W'):Qs6 w nv k W':=⟨h.ext.trans z,h.b0.ext z,h.b1.ext z,h.b2.ext z⟩
theorem Qjp(w:World)(i:Int):Calls prog 100 #[.pointer none,.int .i64 i] w λe w'=>e=.returned (.tuple #[Qgu ByteArray.empty zeroV Sl.none Sl.none,.bool false])/\Ext w w':=by
 go_in;go_wp2_with fail;refine eD (v:=.tuple #[Qgu ByteArray.empty zeroV Sl.none Sl.none,.bool false]) (by simp[results,results100,go_sem];exact⟨rfl,rfl,rfl,rfl,rfl,rfl,rfl⟩) rfl ⟨rfl,(fu w).alloc _ _⟩
theorem QlG{es:List Ent}(hp:∃p,nv=.pointer p)(hh:∀W,Ext w W->Calls prog 94 #[nv] W λe w'=>e=.returned (.int .i64 0)/\W=w')
  (hz:∀W,Ext w W->Calls prog 98 #[nv] W λe w'=>e=.returned (.int .i64 es.length)/\∃q,w'=W.drewN q)
  (he:∀W,Ext w W->∀(i:Nat) (e:Ent),es[i]? = some e->Calls prog 100 #[nv,.int .i64 i] W (QdA e.1 e.2 W))
  (b6:∀W,Ext w W->∀i:Nat,es.length<=i->Calls prog 100 #[nv,.int .i64 i] W λe w'=>e=.returned (.tuple #[Qgu ByteArray.empty zeroV Sl.none Sl.none,.bool false])/\Ext W w')
  (hs:Sorted es) (hl:es.length<=1000) (k:ByteArray):Calls prog 56 #[nv,.string k] w (QbO (Qam es k) w):=by
 have HH:=hY hh;have HZ:=hY hz;have HE:=hY he;have c7:=hY b6;have HS:=hY hs;obtain⟨pp,rfl⟩:=hp;clear hh hz he b6 hs;have b7:∀W,Qs6 w (.pointer pp) k W->Calls prog 97 #[.int .i64 es.length,.func (.func 99) #[] #[.pointer (some ⟨w,0,none⟩),.pointer (some ⟨w+1,0,none⟩)]] W (QcX es.length (λi=>!(klt ((es[i]?.map Prod.fst).getD ByteArray.empty) k)) W):=by
  intro W hW;refine Qed 99 _ _ es.length _ W (eO func99 (by kernel_rfl) rfl) (by omega) ?_ ?_
  ·intro i W' hi c8
   obtain⟨x,U⟩:∃x,es[i]? = some x:=⟨_,ac hi⟩;rw[U];have hS:=hW.step c8;exact QqJ (hS.b0.cell 0) (hS.b1.cell 0) ⟨_,rfl⟩ (HE.o W' hS.ext i x U)
  intro i j d8 hj R;by_cases a5:i=j
  .subst a5;exact R
  obtain⟨x,U⟩:∃x,es[i]? = some x:=⟨_,ac (by omega)⟩;obtain⟨y,hy⟩:∃y,es[j]? = some y:=⟨_,ac hj⟩;have d4:=QdX HS.o (i:=i) (j:=j) (by omega) U hy;rw[U]at R;rw[hy];simp only[Option.map_some,Option.getD_some,Bool.not_eq_true']at R ⊢;cases d6:klt y.1 k
  .rfl
  have:=QaI d4 d6;rw[R]at this;cases this
 go_in;go_wp2_with fail;generalize a7:World.alloc _ _=W0;obtain⟨N,d0,a0,a4,a6⟩:=Qas w _ _ _ _ _ _ W0 a7;have a3:Qs6 w (.pointer pp) k W0:=⟨N,a0,a4,a6⟩;have b5:=hY a3;have q0:W0.cell? ⟨w,0,none⟩=some (.pointer pp):=a0.cell 0;clear a7 a0 a4 a6 a3;refine(HH.o W0 N).mono ?_;rintro e w1 ⟨rfl,rfl⟩;go_wp2_with fail;refine(HZ.o W0 N).mono ?_;rintro e w1 ⟨rfl,q,rfl⟩;go_wp2_with fail;refine(b7 _ (b5.o.step ((fu _).drewN q))).mono ?_;rintro e w1 ⟨p,rfl,hp,b3,b4,a9⟩;have a2:=b5.o.step (((fu _).drewN q).trans a9);have I:=hY a2;have r0:w1.cell? ⟨w,0,none⟩=some (.pointer pp):=a2.b0.cell 0;have X:Qcc es k=p:=QgZ hp (λi e hi he=>by
   have:(!(klt ((es[i]?.map Prod.fst).getD ByteArray.empty) k))=false:=b3 i hi;rw[he]at this;simpa using this) (λe he=>by
   have:(!(klt ((es[p]?.map Prod.fst).getD ByteArray.empty) k))=true:=b4 p (an _) (ah.1 he).1;rw[he]at this;simpa using this)
 have Z:Qam es k=(es[p]?).bind λe=>if e.1=k then some e.2 else none:=by rw[Qip HS.o,X]
 have HG:=hY Z;clear b3 b4 X b7 a9 a2 q0 Z N d0;go_wp2_with fail;by_cases d7:p<es.length
 ·obtain ⟨x,U⟩:∃ x,es[p]? = some x:=⟨_,ac d7⟩
  have hc:=HE.o w1 I.o.ext p x U;have HX:=hY U;clear U;refine hc.mono ?_;rintro e w2 ⟨sl,so,rfl,J,b8⟩;have z:=I.o.step J;have L:=hY z;have q1:w2.cell? ⟨w+1,0,none⟩=some (.string k):=z.b1.cell 0;obtain⟨c0,c1,c2,c3,c4,c5⟩:=z.b2.c6;have f2:=z.b2.frozen;have l2:=z.b2.lt;have l1:w.heap.size+1<w2.heap.size:=by omega
  have a1:=hY b8;clear z J b8 hc;by_cases hk:x.1=k
  ·have d3:(x.1.toList == k.toList)=true:=by rw [beq_toList];simpa using hk
   have Y:Qam es k=some x.2:=by rw[HG.o,HX.o];simp[hk]
   have D:=hY Y;clear hk Y;go_wp2_with fail;refine eD (v:=.tuple #[aggV x.2 sl so,.bool true]) (by simp[results,results56,go_sem,c0,c1,c2,c3,c4,c5,l2]) rfl ?_;have hE:=L.o.ext.QdP (b:=w+1+1) (by omega) 0 x.2 sl so;have hr:=(a1.o.mono (G:=In w.heap.size w2.heap.size) λi hi=>⟨Nat.le_trans I.o.ext.size hi.1,hi.2⟩);have c9:RV w2 (λb=>In w.heap.size w2.heap.size b/\b≠w.heap.size+1+1) x.2 sl so:=a1.o.mono λi hi=>⟨⟨Nat.le_trans I.o.ext.size hi.1,hi.2⟩,by have:=I.o.b2.lt;have:=hi.1;omega⟩
   have d5:=c9.agree (Qbm w2 (w.heap.size+1+1) 0 x.2 sl so (F:=λb=>In w.heap.size w2.heap.size b/\b≠w.heap.size+1+1) (λh=>h.2 rfl));refine⟨sl,so,by rw[D.o];rfl,hE.alloc _ _,?_,by rw[D.o];exact a1.o.cap⟩;rw[D.o];refine(d5.agree (Agree.alloc _ _ (λb hb=>by rw[QdQ];exact hb.1.2))).mono λi hi=>⟨hi.1.1,?_⟩
   have:=hi.1.2;simp;omega
  have d3:(x.1.toList==k.toList)=false:=by rw[beq_toList];simpa using hk
  have Y:Qam es k=none:=by rw[HG.o,HX.o];simp[hk]
  have D:=hY Y;clear hk Y;go_wp2_with fail;refine eD (v:=.tuple #[aggV zeroV Sl.none Sl.none,.bool false]) (by simp[results,results56,go_sem,c0,c1,c2,c3,c4,c5,l2];exact⟨rfl,rfl,rfl,rfl,rfl,rfl⟩) rfl ?_;have hE:=L.o.ext.QdP (b:=w+1+1) (by omega) 0 zeroV Sl.none Sl.none;exact⟨Sl.none,Sl.none,by rw[D.o];rfl,hE.alloc _ _,by rw[D.o];exact⟨RV.flat _ _ _ _ _ _ rfl rfl (by decide),rfl⟩⟩
 have a8:es[p]? = none:=aN (by omega);have Y:Qam es k=none:=by rw[HG.o,a8];rfl
 have hc:=c7.o w1 I.o.ext p (by omega);have D:=hY Y;clear Y a8;refine hc.mono ?_;rintro e w2 ⟨rfl,J⟩;have z:=I.o.step J;have L:=hY z;obtain⟨c0,c1,c2,c3,c4,c5⟩:=z.b2.c6;have f2:=z.b2.frozen;have l2:=z.b2.lt;clear z J hc;go_wp2_with fail;refine eD (v:=.tuple #[aggV zeroV Sl.none Sl.none,.bool false]) (by simp[results,results56,go_sem,c0,c1,c2,c3,c4,c5,l2];exact⟨rfl,rfl,rfl,rfl,rfl,rfl⟩) rfl ?_;have hE:=L.o.ext.QdP (b:=w+1+1) (by omega) 0 zeroV Sl.none Sl.none;exact⟨Sl.none,Sl.none,by rw[D.o];rfl,hE.alloc _ _,by rw[D.o];exact⟨RV.flat _ _ _ _ _ _ rfl rfl (by decide),rfl⟩⟩
theorem get_nil(w:World)(k:ByteArray):Calls prog 56 #[.pointer none,.string k] w (QbO none w):=
 QlG (es:=[]) ⟨_,rfl⟩ (λW _=>Qd8 W) (λW _=>(Qme W).mono λe w' ⟨h1,h2⟩=>⟨h1,0,h2.symm⟩) (λW _ i e h=>by simp at h) (λW _ i _=>Qjp W i) List.Pairwise.nil (by simp) k
theorem QqM{t:PT 0}(I:IsN w (Lt w) 0 t)(ok:OkT 0 t)(hs:Sorted (ents 0 t))(k:ByteArray):Calls prog 56 #[ptr 0 t,.string k] w (QbO (Qam (ents 0 t) k) w):=by
 have D:(ents 0 t).length<=8:=ok;exact QlG ⟨_,rfl⟩ (λW z=>QaO (I.ext z)) (λW z=>Qgo (I.ext z) (aj D (by decide))) (λW z i e h=>Qjo (I.ext z) h) (λW z i h=>QhH (I.ext z) (.inr (Int.ofNat_le.2 h))) hs (aj D (by decide)) k
theorem QqL{k:ByteArray}
  (ih:∀(w:World) (F:Nat->Prop) (t:PT h),(∀b,F b->b<w)->IsN w F h t->OkT h t->Sorted (ents h t)->(ents h t).length<=1000000->Calls prog 56 #[ptr h t,.string k] w (QbO (Qam (ents h t) k) w))
 {t:PT (h+1)} (hF:∀ b,F b→b<w) (hn:IsN w F (h+1) t) (ok:OkT (h+1) t) (hs:Sorted (ents (h+1) t)) (hc:(ents (h+1) t).length≤1000000) :
  Calls prog 56 #[ptr (h+1) t,.string k] w (QbO (Qam (ents (h+1) t) k) w):=by
 have L:=Qb3 ok;have hh:h+1<1000000:=ab (Qc2 (h+1) t ok (by have:=ok.1;show 1<=t.2.length;omega)) hc;obtain⟨D,z,hA,hC⟩:=Qbb (h:=h) (ks:=t.2) hs L (by have:=ok.1;omega) k;have X:=al z;have d4:=(ah.1 z).1;have e0:=ok.2.1;have a3:∀x∈t.2,IsN w F h x:=hn.2.choose_spec.2.2;have R:(ents h D).length<=1000000:=aj (by
  show _<=(t.2.flatMap (ents h)).length;rw[QbU z];simp only[List.flatMap_append,List.flatMap_cons,List.length_append];omega) hc
 have b5:Qam (ents (h+1) t) k=Qam (ents h D) k:=Qge z hA hC;rw[b5];have b3:∀W,Ext w W->Calls prog 56 #[ptr h D,.string k] W (QbO (Qam (ents h D) k) W):=λW hW=>
  ih W F D (λb hb=>ab (hF b hb) hW.size) ((a3 D X).agree (hW.agree hF)) (ok.2.2 D X).1 (QaK hs D X) R
 generalize Qam (ents h D) k=og at *;clear b5;have HF:=hY hF;have HN:=hY hn;have HS:=hY hs;have HP:=hY L;have d8:=hY b3;have f0:=hY a3;have b4:=hY z;have g5:(0:Int)<(h:Int)+1:=by omega
 clear hF hn ok hs hc L b3 a3 z hA hC ih R;go_in;go_wp2_with fail;generalize b6:World.alloc _ _=W0;obtain⟨a4,d7,a1,a7,a2⟩:=Qas w _ _ _ _ _ _ W0 b6;have a6:Qs6 w (ptr (h+1) t) k W0:=⟨a4,a1,a7,a2⟩;have e8:=hY a6;have q0:W0.cell? ⟨w,0,none⟩=some (ptr (h+1) t):=a1.cell 0;clear b6 a1 a7 a2 a6;have a5:IsN W0 F (h+1) t:=HN.o.agree (a4.agree HF.o);refine(QaO a5).mono ?_;rintro e w1 ⟨rfl,rfl⟩;have R:=QcO a5 (by omega);clear a5;go_wp2_with fail;refine R.mono ?_;rintro e w1 ⟨s',rfl,U,b8⟩;have J:=e8.o.step b8;have Y:=hY J;have a0:Rd w1 (Lt w1) 1 s' t.2.length (ptrs h t.2):=(fE U).mono λi hi=>hi.2
 obtain⟨g,a9,rfl,f7,f8,f9,a8⟩:=Qa2 U (by omega);obtain⟨i,hi⟩:∃i,Qat h t.2 k=i:=⟨_,rfl⟩;have c9:∀W,Ext w1 W->Calls prog 96 #[.slice (some ⟨g,0,none⟩) t.2.length a9,.string k] W λe w'=>e=.returned (.int .i64 i)/\Ext W w':=λW hW=>by
  rw[<-hi];exact Qhk (s:=⟨some ⟨g,0,none⟩,a9⟩) ((a0.agree (hW.agree λ_ h=>h)).mono λi hi=>ab hi hW.size) (λx hx=>(f0.o x hx).agree ((J.ext.trans hW).agree HF.o)) (λb hb=>ab (HF.o b hb) (J.ext.trans hW).size) HP.o k HS.o (by omega)
 have z:=b4.o;rw[hi]at z d4;obtain⟨b,o,b7,d3,-,-,b0⟩:=a0.Qc4 z;obtain⟨rfl,rfl⟩:g=b/\0=o:=by simpa using b7
 have kc:w1.cell? ⟨g,i,none⟩=some (ptr h D):=by simpa using b0
 have k1:w1.cell? ⟨w+1,0,none⟩=some (.string k):=J.b1.cell 0;have c7:g<w1:=d3;have g0:¬g=w.heap.size+1+1:=by omega
 have f1:¬w.heap.size+1+1=g:=by omega
 clear d7;have l1:w.heap.size+1<w1.heap.size:=J.b1.lt;have g4:(i:Int)<(t.2.length:Int):=by omega
 have f2:(0:Int)<=(i:Int):=by omega
 have e6:=hY c9;have f6:=hY hi;clear c9 hi z b0 b7 a8 U a0 b8 a4 J R q0;go_wp2_with fail;go_region_held3 (λw'=>w'.cell? ⟨g,i,none⟩=some (ptr h D)/\w'.cell? ⟨w+1,0,none⟩=some (.string k)) (first |(with_reducible exact⟨g3,k3⟩) |(with_reducible exact⟨g2,k2⟩)|go_keep)
  (first
    |(go_at_call 96;refine(e6.o _ ?_).mono ?_;(exact((fu _).drew));rintro e w2 ⟨rfl,I⟩;have g2:=(I.cell (o:=i) c7).trans kc;have k2:=(I.cell (o:=0) l1).trans k1;have e3:=ab c7 I.size;have l2:=ab l1 I.size)
    |(go_at_call 56;refine(d8.o _ ?_).mono ?_;(exact Y.o.ext.trans (((fu _).drew).trans I));rintro e w3 ⟨sl,so,rfl,N,d0⟩;have g3:=(N.cell (o:=i) e3).trans g2;have k3:=(N.cell (o:=0) l2).trans k2;have Z:=Y.o.step ((((fu _).drew).trans I).trans N);obtain⟨c0,c1,c2,c3,c4,c5⟩:=Z.b2.c6;have f3:=Z.b2.frozen;have d5:=hY Z;have e1:=hY N;have c8:=hY d0;have e7:=hY I;clear Z N d0 I))
 go_wp2_with fail;refine eD (v:=.tuple #[aggV (og.getD zeroV) sl so,.bool og.isSome]) (by simp[results,results56,go_sem,c0,c1,c2,c3,c4,c5]) rfl ?_;have hE:=d5.o.ext.QdP (b:=w+1+1) (by omega) 0 (og.getD zeroV) sl so;have a2:=Y.o.b2.lt;have e2:=e7.o.size;have f4:=e1.o.size;have f5:=Y.o.ext.size;rw[ff]at e2;have d6:RV w3 (λb=>In w.heap.size w3.heap.size b/\b≠w.heap.size+1+1) (og.getD zeroV) sl so:=c8.o.mono λi hi=>⟨⟨by have:=hi.1;omega,hi.2⟩,by have:=hi.1;omega⟩
 have e4:=d6.agree (Qbm w3 (w.heap.size+1+1) 0 (og.getD zeroV) sl so (F:=λb=>In w.heap.size w3.heap.size b/\b≠w.heap.size+1+1) (λh=>h.2 rfl));exact⟨sl,so,rfl,hE,e4.mono (λi hi=>⟨hi.1.1,by have:=hi.1.2;simpa using this⟩),c8.o.cap⟩
theorem QoI{k:ByteArray}:∀(h:Nat) (w:World) (F:Nat->Prop) (t:PT h),(∀b,F b->b<w)->IsN w F h t->OkT h t->Sorted (ents h t)->(ents h t).length<=1000000->Calls prog 56 #[ptr h t,.string k] w (QbO (Qam (ents h t) k) w)
 |0,w,F,t,hF,hn,ok,hs,_=>QqM (hn.mono hF) ok hs k
 |h+1,w,F,t,hF,hn,ok,hs,hc=>QqL (λw F t a b c d e=>QoI h w F t a b c d e) hF hn ok hs hc
theorem QeA{b lo:Nat}{z:Option Val}(J:Ext w w3)(L:w<=b)(I:b<lo)(D:RVC w3 (In lo w3.heap.size) (z.getD zeroV) sl so) :
  QbO z w (.returned (.tuple #[aggV (z.getD zeroV) sl so,.bool z.isSome])) (QdP w3 b 0 (z.getD zeroV) sl so):=by
 refine⟨sl,so,rfl,J.QdP L _ _ _ _,?_,D.cap⟩;rw[QdQ];exact(D.agree (Qbm w3 b 0 (z.getD zeroV) sl so (by omega))).mono λi hi=>⟨by omega,hi.2⟩
theorem Qap(w:World)(z J:TypeId)(D I:Array Value):∀W,(w.alloc (.cells D z)).alloc (.cells I J)=W->
  Ext w W/\W.heap.size=w.heap.size+2/\Blk W w.heap.size z D/\Blk W (w.heap.size+1) J I:=by
 rintro W rfl;refine⟨((fu w).alloc _ _).alloc _ _,by simp,(fx w z D).alloc _,?_⟩;have h:=fx (w.alloc (.cells D z)) J I;rw[ew]at h;exact h
theorem QqK(hF:∀b,F b->b<w)(z:IsT w F T)(ok:OkR T)(D:(Qab T).length<=1000000)(k:ByteArray) :
  Calls prog 56 #[Qay T,.string k] w (QbO (Qam (Qab T) k) w):=by
 match T,z,ok,D with
 |none,_,_,_=>exact get_nil w k
 |some ⟨h,t⟩,z,ok,D=>exact QoI h w F t hF z ok.1 ok.2.2 D
theorem Qhj(hF:∀b,F b->b<w)(hT:IsT w F T)(ok:OkR T)(hc:(Qab T).length<=1000000)(k:ByteArray) :
  Calls prog 28 #[Qau T,.string k] w (QbO (Qam (Qab T) k) w):=by
 have J:∀W,Ext w W->Calls prog 56 #[Qay T,.string k] W (QbO (Qam (Qab T) k) W):=λW hW=>
  QqK (λb L=>ab (hF b L) hW.size) (hT.agree (hW.agree hF)) ok hc k
 generalize Qam (Qab T) k=og at *;have HW:=hY J;clear hF hT ok J;go_in;go_wp2_with fail;generalize R:World.alloc _ _=W0;obtain⟨D,N,-,I⟩:=Qap w _ _ _ _ W0 R;have HZ:=hY N;have Y:=hY D;clear R N;refine(HW.o W0 D).mono ?_;rintro e w1 ⟨sl,so,rfl,z,U⟩;have L:=I.ext z;obtain⟨c0,c1,c2,c3,c4,c5⟩:=L.c6;have f2:=L.frozen;have Z:=hY z;have X:=hY U;clear L I z U D;go_wp2_with fail;refine eD (v:=.tuple #[aggV (og.getD zeroV) sl so,.bool og.isSome]) (by simp[results,results28,go_sem,c0,c1,c2,c3,c4,c5]) rfl ?_;exact QeA (Y.o.trans Z.o) (b:=w+1) (lo:=W0) (by omega) (by rw[HZ.o];omega) X.o
inductive Qfy:List Ent->RT->Prop
 |nil:Qfy [] none
 |snoc {es:List Ent} {T T':RT} {B:Nat} {k:ByteArray} {v:Val} (h:Qfy es T) (hp:QrP B k v T T'):Qfy (es++[(k,v)]) T'
def QaJ(es:List Ent)(l:List Ent):List Ent:=l.foldl (λm e=>Qbq m e.1 e.2) es
theorem QeC(es l:List Ent)(e:Ent):QaJ es (l++[e])=Qbq (QaJ es l) e.1 e.2:=by simp[QaJ]
theorem Qea(l:List Ent):∀es:List Ent,(QaJ es l).length<=es.length+l.length:=by
 induction l with
 |nil=>intro es;exact an _
 | cons a l ih=>
   intro es;have:=ih (Qbq es a.1 a.2);have h2:=QcN es a.1 a.2;simp only[QaJ,List.foldl_cons,List.length_cons]at *;omega
theorem Qfy.both{l:List Ent}(h:Qfy l T):(OkR T)/\Qab T=QaJ [] l:=by
 induction h with
 |nil=>exact⟨trivial,rfl⟩
 |snoc h hp ih=>exact⟨hp.ok ih.1,by rw[hp.ents ih.1,ih.2,QeC]⟩
inductive Qkp (B:Nat) (k:ByteArray):RT->RT->Prop
 |no {T:RT} (h:Qam (Qab T) k=none):Qkp B k T T
 |same {h:Nat} {t u:PT h} (hg:(Qam (ents h t) k).isSome=true) (hd:QiV B k h t u) (hp:0<(ents h u).length) (h2:h=0\/2<=size h u):Qkp B k (some ⟨h,t⟩) (some ⟨h,u⟩)
 |gone {t u:PT 0} (hg:(Qam (ents 0 t) k).isSome=true) (hd:QiV B k 0 t u) (h0:ents 0 u=[]):Qkp B k (some ⟨0,t⟩) none
 |down {h:Nat} {t:PT (h+1)} {u:PT h} (hg:(Qam (ents (h+1) t) k).isSome=true) (hd:Qmp B k h (QiV B k h) t.2 [u]):Qkp B k (some ⟨h+1,t⟩) (some ⟨h,u⟩)
theorem Qkp.mono(z:A<=B){k:ByteArray}(hd:Qkp B k T T'):Qkp A k T T':=by
 cases hd with
 |no h=>exact .no h
 |same hg hd hp h2=>exact .same hg (hd.mono z) hp h2
 |gone hg hd h0=>exact .gone hg (hd.mono z) h0
 |down hg hd=>exact .down hg (hd.mono z λ_ _ D=>D.mono z)
theorem Qkp.ents{k:ByteArray}(hd:Qkp B k T T')(ok:OkR T):Qab T'=Qb2 (Qab T) k:=by
 cases hd with
 |no h=>exact(Qom h).symm
 |same hg hd hp h2=>exact hd.ents ok.1 ok.2.2
 |gone hg hd h0=>exact h0.symm.trans (hd.ents ok.1 ok.2.2)
 | down hg hd=>
   rename_i h t u;have z:=ok.1;have:=hd.ents ok.2.2 (Qb3 z) (by have:=z.1;omega) λx y D I=>I.ents (z.2.2 x D).1 (QaK ok.2.2 x D)
   rw[ba,List.flatMap_nil,bc]at this;exact this
theorem QdH{k:ByteArray}{t:PT (h+1)}{z:List (PT h)}(hd:Qmp B k h (QiV B k h) t.2 z)(ok:OkT (h+1) t)(hs:Sorted (ents (h+1) t))(R:(Qam (ents (h+1) t) k).isSome=true) :
  (∀u∈z,OkT h u/\4<=size h u)/\z.length<=t.2.length/\t.2.length<=z.length+1:=by
 refine hd.ok ok.2.2 ok.1 λx y J I N=>?_
 obtain⟨L,D,X,U⟩:=Qbb (h:=h) (ks:=t.2) hs (Qb3 ok) (by have:=ok.1;omega) k;rw[I]at D;simp only[Option.some.injEq]at D;subst D;have:=N.ok (ok.2.2 x J).1 (ok.2.2 x J).2 (QaK hs x J) (by rw[<-Qge I X U];exact R);exact⟨this.1,this.2.1⟩
theorem Qkp.ok{k:ByteArray}(hd:Qkp B k T T')(ok:OkR T):OkR T':=by
 have hs:Sorted (Qab T'):=by rw[hd.ents ok];exact QaR ok.sorted k
 cases hd with
 |no h=>exact ok
 | same hg hd hp h2=>
   rename_i h t u;cases h with
   | zero=>
     have h1:=hd.1;have:(Qb2 t.2 k).length<=t.2.length:=(Qba t.2 k).length_le;have o:t.2.length<=8:=ok.1;exact⟨show u.2.length<=8 by rw[h1];omega,hp,hs⟩
   | succ h=>
     obtain⟨h1,-⟩:=hd;obtain⟨a,b,c⟩:=QdH h1 ok.1 ok.2.2 hg;have h2:2<=u.2.length:=h2.resolve_left (by omega);have z:=ok.1.2.1;exact⟨⟨h2,by omega,a⟩,show 1<=u.2.length by omega,hs⟩
 |gone hg hd h0=>trivial
 | down hg hd=>
   obtain⟨a,b,c⟩:=QdH hd ok.1 ok.2.2 hg;rename_i h t u;have:=a u (br.2 rfl);exact⟨this.1,by omega,hs⟩
end Go.Proofs.YtkjkafgnnoidpaaGreatDoor
