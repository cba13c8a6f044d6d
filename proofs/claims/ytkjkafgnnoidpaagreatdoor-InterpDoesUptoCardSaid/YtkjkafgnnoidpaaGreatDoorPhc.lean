/- What the theorem needs of the texts Inner, Which, WithP, DelP, CmpP, DeleteE, DeleteN, St, With, InsertN, With2, Put, Trees, Get, BuiltP, DelT: no condition of its own. -/
import Derived.Test.YtkjkafgnnoidpaaGreatDoorPha
set_option linter.unusedVariables false
set_option linter.unusedSimpArgs false
set_option linter.unnecessarySimpa false
set_option maxRecDepth 100000
set_option maxHeartbeats 2000000
namespace Go.Proofs.YtkjkafgnnoidpaaGreatDoor
open Go.Proofs.Tryz
open Go.RowKit
variable{w:World}{F:Nat->Prop}{h:Nat}{s:Sl}
theorem Rd.Qc4{ks:List (PT h)}(R:Rd w F 1 s ks.length (ptrs h ks)){i:Nat}{k:PT h}(z:ks[i]? = some k) :
  ∃b o,s.a=some ⟨b,o,none⟩/\F b/\ks.length<=s.c/\s.c<=maxLen/\w.cell? ⟨b,o+i,none⟩=some (ptr h k):=by
 obtain⟨b,o,h1,h2,I⟩:=R;have hi:i<ks.length:=(ah.1 z).1;obtain⟨J,N,D⟩:=h1.eq (by omega);exact⟨b,o,J,h1.fits (by omega),N,D,I i _ (by rw[ptrs,aq,z];rfl)⟩
theorem Quf(w:World)(a b c:Nat):(w.drewN (a+b)).drewN c=w.drewN (a+(b+c)):=by rw[World.drewN_drewN,bH]
variable{G:Nat->Prop}
theorem QmR{t u:PT h}(D:IsN w F h t)(hu:IsN w G h u):Calls prog 154 #[ptr h t,ptr h u] w λe w'=>e=.returned (.bool (klt (QbM (ents h t)) (Qaw (ents h u))))/\∃q,w'=w.drewN q:=by
 obtain⟨-,X,sk,ne,Z,-,I⟩:=D.cells;obtain⟨-,-,-,-,-,Y,-⟩:=I.c7;obtain⟨-,U,R,J,N,-,z⟩:=hu.cells;obtain⟨-,-,-,-,h4,-,-⟩:=z.c7;clear I z D hu;go_in;go_wp2_with fail;go_quiet (fail);go_wp2;go_ret;exact⟨rfl,_,rfl⟩
def QcS(h:Nat)(ks:List (PT h)):Prop:=∀i x y,ks[i]? = some x->ks[i+1]? = some y->klt (QbM (ents h x)) (Qaw (ents h y))=true
theorem QcS.take{xs:List (PT h)}(I:QcS h xs)(m:Nat):QcS h (xs.take m):=λi x y z D=>by
 rw[bm]at z D;split at z<;>split at D
 .exact I i x y z D
 all_goals first|cases z|cases D
theorem QcS.drop{xs:List (PT h)}(I:QcS h xs)(m:Nat):QcS h (xs.drop m):=λi x y z D=>by
 rw[bj]at z D;exact I _ x y z D
theorem Qk7{ks:List (PT h)}(hs:Rd w F 1 s ks.length (ptrs h ks))(hk:∀k∈ks,IsN w F h k)(hr:QcS h ks)(hn:ks.length<=1000) :
  Calls prog 153 #[.slice s.a ks.length s.c,.func (.func 154) #[] #[]] w λe w'=>e=.returned (.bool true)/\∃q,w'=w.drewN q:=by
 have HS:=hY hs;have HR:=hY hr;have HK:=hY hk;clear hs hr hk;go_in;go_wp2_with fail;go_loopw[5] (λq wr=>∃m:Nat,(m+1<=ks.length\/m=0)/\q=.int .i64 ((m:Int)+1)/\∃q,wr=w.drewN q) (λq _=>ks.length -(intOf q).toNat)
 case atStart=>exact⟨0,.inr rfl,rfl,0,rfl⟩
 obtain⟨m,hj,rfl,qq,rfl⟩:=hrel;by_cases U:m+1<ks.length
 ·obtain ⟨x,D⟩:∃ x,ks[m]? = some x:=⟨_,ac (by omega)⟩
  obtain⟨y,z⟩:∃y,ks[m+1]? = some y:=⟨_,ac U⟩;obtain⟨b,o,X,a6,a9,a0,R⟩:=HS.o.Qc4 D;obtain⟨b',o',I,-,-,-,N⟩:=HS.o.Qc4 z;rw[X]at I;simp only[Option.some.injEq,Addr.mk.injEq,and_true]at I;obtain⟨rfl,rfl⟩:=I;have c0:w.cell? ⟨b,o+m,none⟩=some (ptr h x):=R;have c1:w.cell? ⟨b,o+(m+1),none⟩=some (ptr h y):=N;have Z:=λW (e:∃q,W=w.drewN q)=>QmR (w:=W) (((HK.o x (am D)).agree (F:=F) (by obtain⟨q,rfl⟩:=e;exact fJ w q))) (((HK.o y (am z)).agree (F:=F) (by obtain⟨q,rfl⟩:=e;exact fJ w q)))
  have J:=HR.o m x y D z;have Y:=hY J;have HC:=hY Z;rw[X];have a2:(m:Int)+1<(ks.length:Int):=by omega
  have a5:(m:Int)<(ks.length:Int):=by omega
  have a3:IntKind.i64.wrap (m:Int)=(m:Int):=by rw[ew];omega
  have a1:(0:Int)<=(m:Int)+1:=by omega
  have a4:((m:Int)+1).toNat=m+1:=by omega
  clear D z R N X J Z;go_wp2_with fail;go_quiet ((go_at_call 154;refine(HC.o _ ⟨_,rfl⟩).mono ?_;rw[Y.o];rintro e w2 ⟨rfl,q2,rfl⟩;exact⟨rfl,_,Quf ..⟩));go_wp2_with fail;go_roundw
  case rel=>exact⟨m+1,.inl (by omega),by go_num,_,rfl⟩
  simp[intOf];omega
 go_wp2_with fail;go_ret;exact⟨rfl,_,rfl⟩
theorem Rd.one(w:World)(t:TypeId)(u:Value):Rd (w.alloc (.cells #[u] t)) (λ_=>True) 1 ⟨some ⟨w,0,none⟩,1⟩ 1 [u]:=
 ⟨w,0,.some _ _ _ _ (an _) (by decide) trivial,rfl,λj v z=>by rw[(fA w t #[u]).cell];simpa using z⟩
def cnt(h:Nat)(ks:List (PT h)):Nat:=(ks.flatMap (ents h)).length
def Qf6(h:Nat)(ks:List (PT h)):Bool:=ks.any λk=>thin h k||decide (size h k<4)
variable{j:Nat}
theorem QqB{ks:List (PT h)}{k:PT h}(z:ks[j]? = some k):cnt h (ks.take (j+1))=cnt h (ks.take j)+(ents h k).length:=by
 rw[cnt,aT,z];simp[cnt]
theorem QnI{ks:List (PT h)}{k:PT h}(z:ks[j]? = some k):Qf6 h (ks.take (j+1))=(Qf6 h (ks.take j) ||(thin h k||decide (size h k<4))):=by
 rw[Qf6,aT,z];simp[Qf6]
theorem QgB(h:Nat)(ks:List (PT h))(j:Nat):cnt h (ks.take j)<=cnt h ks:=by
 have:cnt h ks=cnt h (ks.take j)+cnt h (ks.drop j):=by
  simp only[cnt];rw[<-ak,<-aP,aX]
 omega
theorem Qno(h:Nat)(t:PT h):(!QfN h t)=(thin h t||decide (size h t<4)):=by
 unfold QfN;cases thin h t
 ·simp
  by_cases h:4<=size h t
  .simp [h]
  simp[h];omega
 simp
theorem QcC(h:Nat)(ks:List (PT h))(j:Nat):ptrs h (ks.take j)=(ptrs h ks).take j:=by simp[ptrs,List.map_take]
theorem QmL{a b:List Ent}(h:0<a.length):Qaw (a++b)=Qaw a:=by
 cases a with
 |nil=>simp at h
 |cons x xs=>rfl
theorem Qo2{a b:List Ent}(h:0<b.length):QbM (a++b)=QbM b:=by
 unfold QbM;rw[List.getLast?_append];cases z:b.getLast? with
 |none=>rw[List.getLast?_eq_none_iff.1 z]at h;simp at h
 |some x=>rfl
theorem QkK{h a:Nat}{ks:List (PT h)}{k:PT h}(z:ks[0]? = some k)(D:0<(ents h k).length):Qaw (ents (h+1) (a,ks))=Qaw (ents h k):=by
 cases ks with
 |nil=>simp at z
 | cons x xs=>
   simp at z;subst z;show Qaw ((x::xs).flatMap (ents h))=_;rw[bc,QmL D]
theorem QmV{h a:Nat}{ks:List (PT h)}{k:PT h}(z:ks[ks.length-1]? = some k)(D:0<(ents h k).length):QbM (ents (h+1) (a,ks))=QbM (ents h k):=by
 have e:ks=ks.dropLast++[k]:=by
  have:ks.getLast? = some k:=by rw[List.getLast?_eq_getElem?];exact z
  obtain⟨ys,rfl⟩:=List.getLast?_eq_some_iff.1 this;simp
 show QbM (ks.flatMap (ents h))=_;rw[e,aP,Qo2 (by simpa using D)];simp
abbrev Up(F:Nat->Prop)(w w':World):Nat->Prop:=λb=>F b\/(w.heap.size<=b/\b<w'.heap.size)
def QnU(F:Nat->Prop)(h:Nat)(ks:List (PT h))(w:World)(e:Ending)(w':World):Prop:=
 ∃a:Nat,e=.returned (.tuple #[.pointer (some ⟨a,0,none⟩),.int .i64 0])/\w.heap.size<=a/\IsN w' (Up F w w') (h+1) (a,ks)/\Ext w w'
theorem Qm6{ks:List (PT h)}(hF:∀b,F b->b<w)(hs:Rd w (Lt w) 1 s ks.length (ptrs h ks))(hk:∀k∈ks,IsN w F h k)(hr:QcS h ks)
  (h2:2<=ks.length) (h8:ks.length<=8) (b0:∀k∈ks,0<(ents h k).length) (f9:∀k∈ks,size h k<=1000) (o1:cnt h ks<=1000000000) (hh:h<=1000000000) :
  Calls prog 109 #[.slice s.a ks.length s.c] w (QnU F h ks w):=by
 obtain⟨i0,hi,g7,i9,j9⟩:=eG Tryz.QbQ;have HS:=hY hs;have HK:=hY hk;have HR:=hY hr;have HF:=hY hF;have HP:=hY b0;have HZ:=hY f9;have g1:¬(ks.length:Int)<2:=by omega
 have l0:decide ((ks.length:Int)<2)=false:=by simp;omega
 have g2:¬(8:Int)<(ks.length:Int):=by omega
 have l5:decide ((8:Int)<(ks.length:Int))=false:=by simp;omega
 obtain⟨k0,a6⟩:∃x,ks[0]? = some x:=⟨_,ac (by omega)⟩;obtain⟨b,o,ha,b8,l8,k9,b6⟩:=HS.o.Qc4 a6;have d5:=QaO (HK.o k0 (am a6));have HA:=hY ha;have c8:=hY a6;rw[cx]at b6;have i6:=hY b6;have o8:(0:Int)<(ks.length:Int):=by omega
 rw[ha];clear hs hk hr hF b0 f9 ha a6;go_in;go_wp2_with fail;refine d5.mono ?_;rintro e w1 ⟨rfl,rfl⟩;go_wp2_with fail;have g0:Ext w (w.alloc (.cells #[.slice none 0 0,.slice none 0 0,.int .i64 ((h:Int)+1),.int .i64 0,.string ByteArray.empty,.string ByteArray.empty,.bool false] 144)):=(fv w).alloc _ _;go_loopw[24] (λq wr=>∃(j:Nat) (D:Sl),j<=ks.length/\q=.int .i64 j/\Ext w wr/\Blk wr w.heap.size 144 #[.slice none 0 0,.slice D.a j D.c,.int .i64 ((h:Int)+1),.int .i64 (cnt h (ks.take j)),.string ByteArray.empty,.string ByteArray.empty,.bool (Qf6 h (ks.take j))]/\
   wr.ownsRow (w.heap.size+1) 39 1 (.slice D.a j D.c) j (ptrs h (ks.take j))) (λq _=>ks.length -(intOf q).toNat)
 case atStart=>exact⟨0,Sl.none,aw _,rfl,g0,fA _ _ _,eI _ _ _ _⟩
 clear g0 d5 b6;obtain⟨j,D,hj,rfl,Y,R,z⟩:=hrel;by_cases j7:j<ks.length
 ·obtain ⟨k,U⟩:∃ x,ks[j]? = some x:=⟨_,ac j7⟩
  obtain⟨b',o',N,-,-,-,g3⟩:=HS.o.Qc4 U;rw[HA.o]at N;simp only[Option.some.injEq,Addr.mk.injEq,and_true]at N;obtain⟨rfl,rfl⟩:=N;have c3:=am U;have I:Agree F w wr:=Y.agree λi h=>HF.o i h
  have vk:=(Y.cell b8).trans g3;have a3:=(HK.o k c3).agree I;obtain⟨c0,se,l7,ne,nk,n7,c2⟩:=a3.cells;obtain⟨e0,e1,e2,e3,e4,e5,e6⟩:=c2.c7;obtain⟨n0,n1,n2,n3,n4,n5,n6⟩:=R.c7;have o4:=HP.o k c3;have l6:((((ents h k).length:Nat):Int)==0)=false:=eu.2 (by omega);have k3:(j:Int)<(ks.length:Int):=by omega
  have c9:=λW (e:∃q,W=wr.drewN q)=>Qjg (w:=W) (F:=F) (h:=h) (t:=k) (by obtain⟨q,rfl⟩:=e;exact a3.agree (fJ wr q))
  have HX:=hY Y;have HB:=hY R;have HO:=hY z;have o2:=hY a3;have j6:=hY c9;have g6:=hY U;have o0:IntKind.i64.wrap ((h:Int)+1)=(h:Int)+1:=by rw[ew];omega
  have l3:addr h k<wr:=c2.lt;have f0:w.heap.size<wr.heap.size:=R.lt;have g9:j+1<=maxLen:=by unfold maxLen;omega
  have f7:∀W,Ext wr W->W.ownsRow (w.heap.size+1) 39 1 (.slice D.a j D.c) j (ptrs h (ks.take j)):=λW hW=>
   Qae z (hW.agree (F:=Lt wr) λ_ h=>h) λb R=>(z.lt b (by obtain⟨a,c⟩:=D;cases a<;>simp_all [Value.ownBlock,Sl.row])).2
  have i2:=hY f7;have b5:∀i,D.row=some i->w+1<=i:=λb R=>(z.lt b (by obtain⟨a,c⟩:=D;cases a<;>simp_all [Value.ownBlock,Sl.row])).1
  have b4:=hY b5;have o5:¬addr h k=w.heap.size:=by have:=HF.o _ c0;omega
  have j2:addr h k<w.heap.size+1:=by have:=HF.o _ c0;omega
  have g4:=λW (e:Agree (Lt w) wr W)=>Qp0 (w:=W) (F:=F) (h:=h) (t:=k) (a3.agree (e.mono λi hi=>HF.o i hi)) (HZ.o k c3)
  have i4:=hY g4;have o9:IntKind.i64.wrap ((cnt h (ks.take j):Int)+((ents h k).length:Int))=((cnt h (ks.take (j+1)):Nat):Int):=by
   have:=QqB U;have:=QgB h ks (j+1);rw[ew]<;>omega
  have f5:=QnI U;have d4:=Qno h k;have g5:=hY f5;have i8:=hY d4;clear U g3 I a3 c2 R z c9 Y f7 b5 g4 f5 d4;go_wp2_with fail;go_quiet ((go_at_call 58;refine(j6.o _ ⟨_,rfl⟩).mono ?_;rintro e w2 ⟨rfl,rfl⟩;exact⟨rfl,_,rfl⟩));go_wp2_with(at_builtin;refine Qac _ rfl _ _ 114 rfl (w.heap.size+1) 39 i0 (.pointer none) 1 8 underlying114 hi g7 i9 j9 rfl (by decide) D j (ptrs h (ks.take j)) rfl (i2.o _ (((fv wr).drewN _).alloc _ _)) (λ_=>True) ⟨some ⟨wr,0,none⟩,1⟩ 1 [ptr h k] rfl (Rd.one _ _ _) (by simp[Value.oneCell']) g9 (by omega) (by simp;omega) ?_;intro s' w1 X a0 i1;have a5:Agree (Lt (w.heap.size+1)) wr w1:=(((fJ wr _).trans (Agree.alloc _ _ (λi hi=>ab hi f0))).trans (a0.agree (F:=Lt (w.heap.size+1)) (λi hi=>by simp;omega) (λi hi h=>by have:=b4.o i hi;omega)));have b1:=HB.o.agree a5 (dj _);obtain⟨p0,p1,p2,p3,p4,p5,p6⟩:=b1.c7;have fz:=λi=>b1.frozen i;have x3:=(a5.cell (F:=Lt (w.heap.size+1)) (b:=addr h k) (o:=3) j2).trans e3;have d6:=hY X;have i3:=hY a0;have j1:=hY b1;have g8:=hY a5;clear X a0 i1 b1 a5);go_region;have b7:Ext w ((w1.setCell ⟨w,1,none⟩ (.slice s'.a (j+1) s'.c)).setCell ⟨w,3,none⟩ (.int .i64 (cnt h (ks.take (j+1))))).drew:=
   (((((HX.o.drewN _).alloc _ _).wr i3.o (λi hi=>by have:=b4.o i hi;omega)).setCell (p:=⟨w,1,none⟩) (an _) _).setCell (p:=⟨w,3,none⟩) (an _) _).drew
  have a2:Blk ((w1.setCell ⟨w,1,none⟩ (.slice s'.a (j+1) s'.c)).setCell ⟨w,3,none⟩ (.int .i64 (cnt h (ks.take (j+1))))).drew w.heap.size 144 #[.slice none 0 0,.slice s'.a (j+1:Nat) s'.c,.int .i64 ((h:Int)+1),.int .i64 (cnt h (ks.take (j+1))),.string ByteArray.empty,.string ByteArray.empty,.bool (Qf6 h (ks.take j))]:=(j1.o.Qdz 1 _).Qdz 3 _;have b3:Agree (Lt w) wr ((w1.setCell ⟨w,1,none⟩ (.slice s'.a (j+1) s'.c)).setCell ⟨w,3,none⟩ (.int .i64 (cnt h (ks.take (j+1))))).drew:=
   ((g8.out.mono λi hi=>Nat.lt_succ_of_lt hi).trans (fC _ _ _ (λh=>cQ _ h))).trans (fC _ _ _ (λh=>cQ _ h))
  have d3:((w1.setCell ⟨w,1,none⟩ (.slice s'.a (j+1) s'.c)).setCell ⟨w,3,none⟩ (.int .i64 (cnt h (ks.take (j+1))))).drew.ownsRow (w.heap.size+1) 39 1 (.slice s'.a (j+1) s'.c) (j+1) (ptrs h (ks.take (j+1))):=by
   have e:ptrs h (ks.take (j+1))=ptrs h (ks.take j)++[ptr h k]:=by rw[aT,g6.o];simp[ptrs]
   rw[e];refine Qae d6.o (F:=λi=>w+1<=i) ((fC w1 ⟨w,1,none⟩ _ (λh=>cJ _ h)).trans (fC _ ⟨w,3,none⟩ _ (λh=>cJ _ h))) λb R=>(d6.o.lt b (by obtain⟨a,c⟩:=s';cases a<;>simp_all [Value.ownBlock,Sl.row])).1
  generalize World.drew _=W3 at *;have j5:=hY b7;have j0:=hY a2;have j3:=hY b3;have f8:=hY d3;have k7:=a2.lt;have k6:addr h k<W3:=ab (HF.o _ c0) b7.size;obtain⟨y0,y1,y2,y3,y4,y5,y6⟩:=a2.c7;have fy:=λi=>a2.frozen i
  clear b7 a2 b3 d3 fz x3 p0 p1 p2 p3 p4 p5 p6;have e8:∀(q:Nat) (x:Bool),x=Qf6 h (ks.take (j+1))->Ext w ((W3.drewN q).setCell ⟨w,6,none⟩ (.bool x))/\
    Blk ((W3.drewN q).setCell ⟨w,6,none⟩ (.bool x)) w.heap.size 144 #[.slice none 0 0,.slice s'.a (j+1:Nat) s'.c,.int .i64 ((h:Int)+1),.int .i64 (cnt h (ks.take (j+1))),.string ByteArray.empty,.string ByteArray.empty,.bool (Qf6 h (ks.take (j+1)))]/\
    ((W3.drewN q).setCell ⟨w,6,none⟩ (.bool x)).ownsRow (w.heap.size+1) 39 1 (.slice s'.a (j+1) s'.c) (j+1) (ptrs h (ks.take (j+1))):=λq x Y=>by
   subst Y;refine⟨(j5.o.drewN q).setCell (p:=⟨w,6,none⟩) (an _) _,(show Blk (W3.drewN q) w.heap.size 144 _ from j0.o).Qdz 6 _,?_⟩;exact Qae (w:=W3.drewN q) (show(W3.drewN q).ownsRow _ _ _ _ _ _ from f8.o) (F:=λi=>w+1<=i) (fC _ ⟨w,6,none⟩ _ (λh=>cJ _ h)) λb R=>(f8.o.lt b (by obtain⟨a,c⟩:=s';cases a<;>simp_all [Value.ownBlock,Sl.row])).1
  have d7:=hY e8;clear e8;cases a4:Qf6 h (ks.take j)
  ·rw [a4] at y6
   have J:Qf6 h (ks.take (j+1))=!QfN h k:=by rw[g5.o,a4,i8.o,ee]
   have c4:=hY J;clear J;go_wp2_with(go_at_call 152;refine(i4.o _ j3.o).mono ?_;rintro e w4 ⟨rfl,q4,rfl⟩);go_roundw
   case rel=>
    obtain⟨f1,f2,f3⟩:=d7.out q4 _ c4.o.symm;exact⟨j+1,s',by omega,by go_num,f1,f2,f3⟩
   simp[intOf];omega
  rw[a4]at y6;have J:Qf6 h (ks.take (j+1))=true:=by rw[g5.o,a4,Bool.true_or]
  have c4:=hY J;clear J;go_wp2_with fail;go_roundw
  case rel=>
   obtain⟨f1,f2,f3⟩:=d7.out 0 _ c4.o.symm;exact⟨j+1,s',by omega,by go_num,f1,f2,f3⟩
  simp[intOf];omega
 obtain rfl:j=ks.length:=by omega
 have I:Agree (Lt w) w wr:=Y.agree λi h=>h
 have c6:=Qk7 (w:=wr) (HS.o.agree I) (λk hk=>((HK.o k hk).mono HF.o).agree I) HR.o (by omega);rw[HA.o]at c6;have j8:=hY c6;obtain⟨kl,a9⟩:∃x,ks[ks.length-1]? = some x:=⟨_,ac (by omega)⟩;obtain⟨b',o',N,-,-,-,f4⟩:=HS.o.Qc4 a9;rw[HA.o]at N;simp only[Option.some.injEq,Addr.mk.injEq,and_true]at N;obtain⟨rfl,rfl⟩:=N;have vl:=(Y.cell b8).trans f4;have v0:=(Y.cell b8).trans i6.o;obtain⟨i7,se,o3,ne,nk,-,a1⟩:=((HK.o k0 (am c8.o)).agree (I.mono HF.o)).cells;obtain⟨j4,l9,l1,n8,l2,-,Z⟩:=((HK.o kl (am a9)).agree (I.mono HF.o)).cells;obtain⟨-,-,-,-,e4,-,-⟩:=a1.c7;obtain⟨-,-,-,-,-,e5,-⟩:=Z.c7;obtain⟨n0,n1,n2,n3,n4,n5,n6⟩:=R.c7;have fz:=λi=>R.frozen i
 have k5:¬addr h k0=w.heap.size:=by have:=HF.o _ i7;omega
 have k8:¬addr h kl=w.heap.size:=by have:=HF.o _ j4;omega
 have k1:¬b=w.heap.size:=by omega
 have k2:addr h k0<wr:=a1.lt;have k4:addr h kl<wr:=Z.lt;have f0:w.heap.size<wr.heap.size:=R.lt;have l4:IntKind.i64.wrap ((ks.length:Int)-1)=(ks.length:Int)-1:=by rw[ew];omega
 have n9:(0:Int)<=(ks.length:Int)-1:=by omega
 have o7:(ks.length:Int)-1<(ks.length:Int):=by omega
 have o6:((ks.length:Int)-1).toNat=ks.length-1:=by omega
 have HX:=hY Y;have HB:=hY R;have HO:=hY z;have f6:=hY a9;clear I c6 a9 f4 a1 Z R Y z;go_wp2_with(go_at_call 153;refine j8.o.mono ?_;rintro e w2 ⟨rfl,q2,rfl⟩);go_region
 all_goals go_wp2_with fail
 all_goals go_ret2
 have c1:=HO.o;have e7:=HB.o;rw[aM]at c1 e7;have d0:Blk (((wr.drewN (q2+1)).setCell ⟨w,4,none⟩ (.string (Qaw (ents h k0)))).setCell ⟨w,5,none⟩ (.string (QbM (ents h kl)))) w.heap.size 144 #[.slice none 0 0,.slice D.a ks.length D.c,.int .i64 ((h:Int)+1),.int .i64 (cnt h ks),.string (Qaw (ents h k0)),.string (QbM (ents h kl)),.bool (Qf6 h ks)]:=
  ((show Blk (wr.drewN (q2+1)) w.heap.size 144 _ from e7).Qdz 4 _).Qdz 5 _
 have d8:Ext w (((wr.drewN (q2+1)).setCell ⟨w,4,none⟩ (.string (Qaw (ents h k0)))).setCell ⟨w,5,none⟩ (.string (QbM (ents h kl)))):=
  ((HX.o.drewN _).setCell (p:=⟨w,4,none⟩) (an _) _).setCell (p:=⟨w,5,none⟩) (an _) _
 have i5:(((wr.drewN (q2+1)).setCell ⟨w,4,none⟩ (.string (Qaw (ents h k0)))).setCell ⟨w,5,none⟩ (.string (QbM (ents h kl)))).ownsRow (w.heap.size+1) 39 1 (.slice D.a ks.length D.c) ks.length (ptrs h ks):=
  Qae (w:=wr.drewN (q2+1)) (show(wr.drewN (q2+1)).ownsRow _ _ _ _ _ _ from c1) (F:=λi=>w+1<=i) ((fC _ ⟨w,4,none⟩ _ (λh=>cJ _ h)).trans (fC _ ⟨w,5,none⟩ _ (λh=>cJ _ h)))
   λb R=>(c1.lt b (by obtain⟨a,c⟩:=D;cases a<;>simp_all [Value.ownBlock,Sl.row])).1
 generalize World.setCell _ _ _=W at *;refine⟨w,rfl,an _,?_,d8⟩;refine⟨.inr ⟨Nat.le_refl _,d0.lt⟩,D,?_,((fE i5).mono λi hi=>.inr ⟨Nat.le_of_succ_le hi.1,hi.2⟩),λk hk=>((HK.o k hk).agree (d8.agree λi hi=>HF.o i hi)).mono λi hi=>.inl hi⟩;rw[show Qaw (ents (h+1) (w.heap.size,ks))=Qaw (ents h k0)from QkK c8.o (HP.o _ (am c8.o)),show QbM (ents (h+1) (w.heap.size,ks))=QbM (ents h kl)from QmV f6.o (HP.o _ (am f6.o))];exact d0
structure Kids(w:World)(F:Nat->Prop)(h:Nat)(ks:List (PT h)):Prop where
 lt:∀b,F b->b<w.heap.size
 isn:∀k∈ks,IsN w F h k
 rise:QcS h ks
 pos:∀k∈ks,0<(ents h k).length
 sz:∀k∈ks,size h k<=1000
 cn:cnt h ks<=1000000000
 hh:h<=1000000000
theorem QkC(h:Nat)(ks:List (PT h))(j:Nat):cnt h (ks.drop j)<=cnt h ks:=by
 have:cnt h ks=cnt h (ks.take j)+cnt h (ks.drop j):=by
  simp only[cnt];rw[<-ak,<-aP,aX]
 omega
section
variable{w : World}{F : Nat -> Prop}{h : Nat}{ks : List (PT h)}
theorem Kids.take(k:Kids w F h ks)(m:Nat):Kids w F h (ks.take m):=⟨k.lt,λx z=>k.isn x (aN z),k.rise.take m,λx z=>k.pos x (aN z),λx z=>k.sz x (aN z),al (QgB h ks m) k.cn,k.hh⟩
theorem Kids.drop(k:Kids w F h ks)(m:Nat):Kids w F h (ks.drop m):=⟨k.lt,λx z=>k.isn x (aD z),k.rise.drop m,λx z=>k.pos x (aD z),λx z=>k.sz x (aD z),al (QkC h ks m) k.cn,k.hh⟩
theorem Kids.ext(k:Kids w F h ks){w':World}(z:Ext w w'):Kids w' F h ks:=⟨λb I=>ab (k.lt b I) z.size,λx D=>(k.isn x D).agree (z.agree k.lt),k.rise,k.pos,k.sz,k.cn,k.hh⟩
end
variable{w':World}{cs:List Value}
theorem Rd.ext{size n:Nat}(h:Rd w (Lt w) size s n cs)(z:Ext w w'):Rd w' (Lt w') size s n cs:=(h.agree (z.agree λ_ h=>h)).mono λi hi=>ab hi z.size
def Qcn(F:Nat->Prop)(h:Nat)(ks:List (PT h))(w:World)(e:Ending)(w':World):Prop:=
 ∃t:PT (h+1),e=.returned (ptr (h+1) t)/\t.2=ks/\w.heap.size<=addr (h+1) t/\IsN w' (Up F w w') (h+1) t/\Ext w w'
variable{n:Nat}
theorem Qct{ks:List (PT h)}(hs:Rd w (Lt w) 1 s ks.length (ptrs h ks))(I:n=ks.length)(z:Kids w F h ks)(h2:2<=ks.length)(N:ks.length<=8) :
  Calls prog 64 #[.slice s.a n s.c] w (Qcn F h ks w):=by
 subst I;have J:=Qm6 z.lt hs z.isn z.rise h2 N z.pos z.sz z.cn z.hh;have R:(((ks.length:Nat):Int)==1)=false:=eu.2 (by omega);clear hs z;go_in;go_wp2_with fail;refine J.mono ?_;rintro e w' ⟨a,rfl,h1,h2,D⟩;have U:=hY h2;clear h2;go_wp2_with fail;go_ret;exact⟨(a,ks),rfl,rfl,h1,U.o,D⟩
theorem QnJ{k:PT h}(hs:Rd w F 1 s 1 (ptrs h [k])) :
  Calls prog 64 #[.slice s.a 1 s.c] w λe w'=>e=.returned (ptr h k)/\w=w':=by
 obtain⟨b,o,D,J,N,I,z⟩:=Rd.Qc4 (ks:=[k]) hs (i:=0) rfl;rw[cx]at z;rw[D];clear hs D;go_in;go_wp2;go_ret;exact⟨rfl,rfl⟩
def Qmv(F:Nat->Prop)(h:Nat)(ks:List (PT h))(w:World)(e:Ending)(w':World):Prop:=
 ∃ts:List (PT (h+1)),e=two (h+1) ts/\ts.map Prod.snd=chunk ks/\(∀t∈ts,w.heap.size<=addr (h+1) t/\IsN w' (Up F w w') (h+1) t)/\Ext w w'
variable{w1 w2 w3:World}
theorem Qcn.grow{t:PT (h+1)}(hF:∀b,F b->b<w)(h1:Ext w w1)(z:Ext w1 w2)(h2:Ext w2 w3)(I:w1.heap.size<=addr (h+1) t)(D:IsN w2 (Up F w1 w2) (h+1) t):w.heap.size<=addr (h+1) t/\IsN w3 (Up F w w3) (h+1) t:=
 ⟨Nat.le_trans h1.size I,(D.agree (h2.agree λi hi=>hi.elim (λh=>ab (hF i h) (al h1.size z.size)) λh=>h.2)).mono λi hi=>hi.elim .inl λh=>.inr ⟨Nat.le_trans h1.size h.1,ab h.2 h2.size⟩⟩
theorem QhY{ks:List (PT h)}(hs:Rd w (Lt w) 1 s ks.length (ptrs h ks))(D:Kids w F h ks)(h2:2<=ks.length)(h9:ks.length<=9) :
  Calls prog 108 #[.slice s.a ks.length s.c,.func (.func 64) #[] #[]] w (Qmv F h ks w):=by
 by_cases h':ks.length<=8
 ·have hc:=Qct hs rfl D h2 h'
  have hl:(ks.length:Int)<=8:=by omega
  clear hs D;go_in;go_wp2_with fail;refine hc.mono ?_;rintro e w' ⟨t,rfl,h1,h2,U,R⟩;have H3:=hY U;clear U;go_wp2_with fail;go_ret2;exact⟨[t],rfl,by show[t.2]=_;rw[h1,chunk,em (by simpa using h')],by simpa using⟨h2,H3.o⟩,R⟩
 have h9:ks.length=9:=by omega
 obtain⟨k0,a1⟩:∃x,ks[0]? = some x:=⟨_,ac (by omega)⟩;obtain⟨b,o,ha,a3,a0,Z,-⟩:=hs.Qc4 a1;have z:s=⟨some ⟨b,o,none⟩,s.c⟩:=by cases s;simp_all
 have I:∀W,Ext w W->Calls prog 64 #[.slice (some ⟨b,o,none⟩) 4 s.c] W (Qcn F h (ks.take 4) W):=λW Y=>by
  have:=Qct (w:=W) (F:=F) (n:=4) (s:=s) (ks:=ks.take 4) (by rw[QcC,ap,bx (by omega)];exact(hs.take (m:=4) (by omega)).ext Y) (by rw[ap];omega) ((D.take 4).ext Y) (by rw[ap];omega) (by rw[ap];omega);rw[z]at this;exact this
 have X:∀W,Ext w W->Calls prog 64 #[.slice (some ⟨b,o+4,none⟩) 5 (s.c-4)] W (Qcn F h (ks.drop 4) W):=λW Y=>by
  have N:=hs;rw[z]at N;exact Qct (w:=W) (F:=F) (n:=5) (s:=⟨some ⟨b,o+4,none⟩,s.c-4⟩) (ks:=ks.drop 4) (by rw[show ptrs h (ks.drop 4)=(ptrs h ks).drop (4*1)from by simp[ptrs,List.map_drop],au];exact(N.drop (m:=4) (by omega)).ext Y) (by rw[au];omega) ((D.drop 4).ext Y) (by rw[au];omega) (by rw[au];omega)
 have HL:=hY I;have HR:=hY X;have HF:=hY D.lt;clear I X hs D z;rw[ha,h9];rw[h9]at a0;have a2:4<=s.c:=by omega
 unfold maxLen at Z;go_in;go_wp2_with fail;go_region_with (first
  |(go_at_call_of 64 (Value.slice (some ⟨b,o,none⟩) 4 s.c);refine(HL.o _ ?_).mono ?_;exact(fv w).drew;rintro e w1 ⟨t,rfl,h1,h2,U,R⟩;have H3:=hY U;clear U)
  |(go_at_call 64;refine(HR.o _ ?_).mono ?_;exact(fv w).drew.trans R;rintro e w2 ⟨u,rfl,k1,k2,k3,k4⟩;have K3:=hY k3;clear k3))
 all_goals go_wp2_with fail
 all_goals go_ret2
 have hX:=(fv w).drew.trans R;refine⟨[t,u],rfl,?_,?_,hX.trans k4⟩
 ·show [t.2,u.2]=_
  rw[h1,k1,chunk,ef (by omega)]
 intro x J;rcases aG.1 J with rfl|J
 .exact Qcn.grow HF.o (fv w).drew R k4 h2 H3.o
 rcases aG.1 J with rfl|J
 .exact Qcn.grow HF.o hX k4 (fv w2) k2 K3.out
 simp at J
def QjV(h:Nat)(ks:List (PT h))(k:ByteArray):Nat:=(ks.takeWhile λt=>!(klt k (Qaw (ents h t)))).length
def Qat(h:Nat)(ks:List (PT h))(k:ByteArray):Nat:=QjV h ks k-1
variable{p:Nat}
theorem QsS{ks:List (PT h)}{k:ByteArray}(J:p<=ks.length)(z:∀i t,i<p->ks[i]? = some t->klt k (Qaw (ents h t))=false)(D:∀t,ks[p]? = some t->klt k (Qaw (ents h t))=true):QjV h ks k=p:=by
 induction ks generalizing p with
 |nil=>simp at J;subst J;rfl
 | cons a ks ih=>
   cases p with
   |zero=>simp[QjV,D a rfl]
   | succ p=>
     have N:=z 0 a (by omega) rfl;have:=ih (p:=p) (by simpa using J) (λi e hi I=>z (i+1) e (by omega) (by simpa using I)) (λe I=>D e (by simpa using I));simp only[QjV,List.takeWhile_cons,N,Bool.not_false,if_true,List.length_cons];rw[<-this];rfl
theorem QsR(h:Nat)(ks:List (PT h))(k:ByteArray):QjV h ks k<=ks.length:=(List.takeWhile_sublist _).length_le
theorem Qd6{es:List Ent}(h:0<es.length):∃e∈es,Qaw es=e.1:=by
 cases es with
 |nil=>simp at h
 |cons x xs=>exact⟨x,az ..,rfl⟩
theorem Qo3{es:List Ent}(h:0<es.length):∃e∈es,QbM es=e.1:=by
 cases z:es.getLast? with
 |none=>rw[List.getLast?_eq_none_iff.1 z]at h;simp at h
 |some x=>exact⟨x,List.mem_of_getLast? z,by simp[QbM,z]⟩
theorem Qiv{h:Nat}:∀{ks:List (PT h)},Sorted (ks.flatMap (ents h))->∀{i j:Nat} {x y:PT h},i<j->ks[i]? = some x->ks[j]? = some y->∀a∈ents h x,∀b∈ents h y,klt a.1 b.1=true
 |[],_,i,j,x,y,_,hx,_=>by simp at hx
 |t::ts,hs,0,0,x,y,hij,hx,hy=>by omega
 | t :: ts,hs,0,j+1,x,y,hij,hx,hy=>by
   simp at hx hy;subst hx;intro a D b z;have hs:(ents h t++ts.flatMap (ents h)).Pairwise λa b=>klt a.1 b.1=true:=hs
   exact(cf.1 hs).2.2 a D b (cA.2 ⟨y,am hy,z⟩)
 |t::ts,hs,i+1,0,x,y,hij,hx,hy=>by omega
 | t :: ts,hs,i+1,j+1,x,y,hij,hx,hy=>by
   simp at hx hy;have hs:(ents h t++ts.flatMap (ents h)).Pairwise λa b=>klt a.1 b.1=true:=hs
   exact Qiv (cf.1 hs).2.1 (Nat.lt_of_succ_lt_succ hij) hx hy
theorem QaK{h:Nat}:∀{ks:List (PT h)},Sorted (ks.flatMap (ents h))->∀x∈ks,Sorted (ents h x)
 | t :: ts,hs,x,z=>by
   have hs:(ents h t++ts.flatMap (ents h)).Pairwise λa b=>klt a.1 b.1=true:=hs
   rcases aG.1 z with rfl|z
   .exact (cf.1 hs).1
   exact QaK (cf.1 hs).2.1 x z
theorem QgH{ks:List (PT h)}(hs:Sorted (ks.flatMap (ents h)))(J:∀k∈ks,0<(ents h k).length){i j:Nat}{x y:PT h}(z:i<j)(D:ks[i]? = some x)(I:ks[j]? = some y):klt (Qaw (ents h x)) (Qaw (ents h y))=true:=by
 obtain⟨a,U,X⟩:=Qd6 (J x (am D));obtain⟨b,R,N⟩:=Qd6 (J y (am I));rw[X,N];exact Qiv hs z D I a U b R
theorem QdT{ks:List (PT h)}(hs:Sorted (ks.flatMap (ents h)))(I:∀k∈ks,0<(ents h k).length):QcS h ks:=λi x y z D=>by
 obtain⟨a,R,U⟩:=Qo3 (I x (am z));obtain⟨b,N,J⟩:=Qd6 (I y (am D));rw[U,J];exact Qiv hs (dj i) z D a R b N
variable{W:World}{b1 b2:Nat}
theorem QnN{ks:List (PT h)}(hs:Rd w (Lt w) 1 s ks.length (ptrs h ks))(I:∀k∈ks,IsN w F h k)(hF:∀b,F b->b<w){k:ByteArray}(h1:W.cell? ⟨b1,0,none⟩=some (.slice s.a ks.length s.c))(h2:W.cell? ⟨b2,0,none⟩=some (.string k))(J:Ext w W)(hn:ks.length<=1000)
  {i:Nat} {x:PT h} (hi:ks[i]? = some x):Calls prog 142 #[.int .i64 i,.pointer (some ⟨b1,0,none⟩),.pointer (some ⟨b2,0,none⟩)] W λe w'=>e=.returned (.bool (klt k (Qaw (ents h x))))/\Ext W w':=by
 obtain⟨b,o,U,N,a0,Y,D⟩:=hs.Qc4 hi;have I:=(I x (am hi)).agree (J.agree hF);have hc:W.cell? ⟨b,o+i,none⟩=some (ptr h x):=(J.cell N).trans D;have X:i<ks.length:=(ah.1 hi).1;have R:(i:Int)<(ks.length:Int):=by omega
 have z:=λq=>Qjr (w:=W.drewN q) (I.agree (fJ W q))
 have Z:=hY z;rw[U]at h1;clear hs hi J U D z I;go_in;go_wp2_with fail;go_quiet ((go_at_call 143;refine(Z.o _).mono ?_;rintro e w2 ⟨rfl,rfl⟩;exact⟨rfl,_,rfl⟩));go_wp2;go_ret;exact⟨by rw[<-Qtt,Bool.not_or];rfl,(fv W).drewN _⟩
theorem Qhk{ks:List (PT h)}(hs:Rd w (Lt w) 1 s ks.length (ptrs h ks))(hk:∀k∈ks,IsN w F h k)(hF:∀b,F b->b<w)(hp:∀k∈ks,0<(ents h k).length)(k:ByteArray)(z:Sorted (ks.flatMap (ents h)))(hn:ks.length<=1000) :
  Calls prog 96 #[.slice s.a ks.length s.c,.string k] w λe w'=>e=.returned (.int .i64 (Qat h ks k))/\Ext w w':=by
 have HS:=hY hs;have HO:=hY z;have HK:=hY hk;have HF:=hY hF;have HP:=hY hp;have a0:∀W,Ext w W->W.cell? ⟨w,0,none⟩=some (.slice s.a ks.length s.c)->W.cell? ⟨w+1,0,none⟩=some (.string k)->
   Calls prog 97 #[.int .i64 ks.length,.func (.func 142) #[] #[.pointer (some ⟨w,0,none⟩),.pointer (some ⟨w+1,0,none⟩)]] W (QcX ks.length (λi=>klt k ((ks[i]?.map λt=>Qaw (ents h t)).getD ByteArray.empty)) W):=by
  intro W hW h1 h2;refine Qed 142 _ _ ks.length _ W (eO func142 (by kernel_rfl) rfl) (by omega) ?_ ?_
  ·intro i W' hi I
   obtain⟨x,R⟩:∃x,ks[i]? = some x:=⟨_,ac hi⟩;rw[R];have a1:=eH W _ h1;have a3:=eH W _ h2;exact QnN HS.o HK.o HF.o ((I.cell a1).trans h1) ((I.cell a3).trans h2) (hW.trans I) hn R
  intro i j a4 hj J;by_cases U:i=j
  .subst U;exact J
  obtain⟨x,R⟩:∃x,ks[i]? = some x:=⟨_,ac (by omega)⟩;obtain⟨y,hy⟩:∃y,ks[j]? = some y:=⟨_,ac hj⟩;have a2:=QgH HO.o HP.o (i:=i) (j:=j) (by omega) R hy;rw[R]at J;rw[hy];exact QaI J a2
 clear hs z hk hF hp;go_in;go_wp2_with fail;refine(a0 _ (((fv w).alloc _ _).alloc _ _) (by simp) (by simp)).mono ?_;rintro e w1 ⟨p,rfl,hp,Y,Z,N⟩;have D:QjV h ks k=p:=QsS hp (λi t hi ht=>by
   have:klt k ((ks[i]?.map λt=>Qaw (ents h t)).getD ByteArray.empty)=false:=Y i hi;rwa[ht]at this) (λt ht=>by
   have:klt k ((ks[p]?.map λt=>Qaw (ents h t)).getD ByteArray.empty)=true:=Z p (an _) (ah.1 ht).1;rwa[ht]at this)
 have hX:Ext w w1:=(((fv w).alloc _ _).alloc _ _).trans N;have HX:=hY hX;have X:=hY D;have a5:IntKind.i64.wrap ((p:Int)-1)=(p:Int)-1:=by rw[ew];omega
 clear Y Z a0 hX D N;go_wp2_with fail
 ·go_ret
  refine⟨?_,HX.o⟩;rw[Qat,X.o,show p-1=0 from by omega];rfl
 go_ret;refine⟨?_,HX.o⟩;rw[Qat,X.o,show((p-1:Nat):Int)=(p:Int)-1 from by omega];rfl
theorem Qcs{A B:List Ent}(h:Sorted (A++B)):Sorted A/\Sorted B/\∀a∈A,∀b∈B,klt a.1 b.1=true:=cf.1 h
theorem QbU{α:Type}{l:List α}{i:Nat}{x:α}(h:l[i]? = some x):l=l.take i++x::l.drop (i+1):=by
 obtain⟨hi,rfl⟩:=ah.1 h;rw[<-aE hi,aX]
theorem QoC{es:List Ent}(hs:Sorted es){e:Ent}(z:e∈es):klt e.1 (Qaw es)=false:=by
 cases es with
 |nil=>cases z
 | cons x xs=>
   rcases aG.1 z with rfl|z
   .exact Qah _
   exact Qby ((aW.1 hs).1 e z)
theorem QhQ{h:Nat}{k:ByteArray}:∀{ks:List (PT h)} {i:Nat} {t:PT h},i<QjV h ks k->ks[i]? = some t->klt k (Qaw (ents h t))=false
 |[],i,t,_,ht=>by simp at ht
 | a :: ks,i,t,hi,ht=>by
   unfold QjV at hi;rw[dq]at hi;split at hi
   ·rename_i ha
    cases i with
    |zero=>simp at ht;subst ht;simpa using ha
    |succ i=>exact QhQ (ks:=ks) (by unfold QjV;simpa using hi) (by simpa using ht)
   simp at hi
theorem Qpv{h:Nat}{k:ByteArray}:∀{ks:List (PT h)} {t:PT h},ks[QjV h ks k]? = some t->klt k (Qaw (ents h t))=true
 |[],t,ht=>by simp at ht
 | a :: ks,t,ht=>by
   unfold QjV at ht;rw[dq]at ht;split at ht
   .exact Qpv (ks:=ks) (by unfold QjV;simpa using ht)
   rename_i ha;simp at ht;subst ht;simpa using ha
theorem Qbb{ks:List (PT h)}(hs:Sorted (ks.flatMap (ents h)))(hp:∀k∈ks,0<(ents h k).length)(a1:0<ks.length)(k:ByteArray) :
  ∃J,ks[Qat h ks k]? = some J/\(∀e∈(ks.take (Qat h ks k)).flatMap (ents h),klt e.1 k=true)/\(∀e∈(ks.drop (Qat h ks k+1)).flatMap (ents h),klt k e.1=true):=by
 have a0:=QsR h ks k;have hi:Qat h ks k<ks.length:=by unfold Qat;omega
 refine⟨_,ac hi,λe R=>?_,λe R=>?_⟩
 ·obtain ⟨t,N,D⟩:=cA.1 R
  obtain⟨j,z⟩:=bv N;rw[bm]at z;split at z
  ·rename_i hji
   have I:Qat h ks k<QjV h ks k:=by unfold Qat at hji ⊢;omega
   have h1:=QhQ I (ac hi);obtain⟨b,Z,eb⟩:=Qd6 (hp _ (am (ac hi)));have h2:=Qiv hs hji z (ac hi) e D b Z;rw[<-eb]at h2;exact QfG h2 h1
  cases z
 obtain⟨t,N,D⟩:=cA.1 R;obtain⟨j,z⟩:=bv N;rw[bj]at z;have Y:=QaK hs t (am z);have I:QjV h ks k<ks.length:=by
  have:=(ah.1 z).1;unfold Qat at this;omega
 obtain⟨u,hu⟩:∃u,ks[QjV h ks k]? = some u:=⟨_,ac I⟩;have hb:=Qpv hu;have hf:=QoC Y D;have X:klt (Qaw (ents h t)) (Qaw (ents h u))=false:=by
  by_cases U:QjV h ks k=Qat h ks k+1+j
  ·rw [U,z] at hu
   simp only[Option.some.injEq]at hu;rw[hu];exact Qah _
  exact Qby (QgH hs hp (i:=QjV h ks k) (j:=Qat h ks k+1+j) (by unfold Qat at *;omega) hu z)
 exact QfG hb (by
  cases hc:klt e.1 (Qaw (ents h u))
  .rfl
  exact absurd (QdJ hf hc) (by rw[X];simp))
def QcY(B:Nat)(k:ByteArray)(v:Val):(h:Nat)->PT h->List (PT h)->Prop
 |0,t,ts=>ts.map Prod.snd=chunk (Qbq t.2 k v)/\∀u∈ts,B<=u.1
 |h+1,t,ts=>∃kid rs,t.2[Qat h t.2 k]? = some kid/\QcY B k v h kid rs/\ts.map Prod.snd=chunk (t.2.take (Qat h t.2 k)++rs++t.2.drop (Qat h t.2 k+1))/\∀u∈ts,B<=u.1
variable{A B:Nat}
theorem QcY.mono(z:A<=B){k:ByteArray}{v:Val}:∀{h:Nat} {t:PT h} {ts:List (PT h)},QcY B k v h t ts->QcY A k v h t ts
 |0,_,_,⟨h1,h2⟩=>⟨h1,λu hu=>al z (h2 u hu)⟩
 |_+1,_,_,⟨kid,rs,h1,h2,h3,h4⟩=>⟨kid,rs,h1,h2.mono z,h3,λu hu=>al z (h4 u hu)⟩
theorem Qr4{α β:Type}{ts:List (β × List α)}{l:List α}(h:ts.map Prod.snd=[l]):∃x,ts=[x]/\x.2=l:=by
 match ts,h with
 |[x],h=>exact⟨x,rfl,by simpa using h⟩
theorem QfO{α β:Type}{ts:List (β × List α)}{l m:List α}(h:ts.map Prod.snd=[l,m]):∃x y,ts=[x,y]/\x.2=l/\y.2=m:=by
 match ts,h with
 |[x,y],h=>exact⟨x,y,rfl,by simpa using h⟩
theorem Qus{ts:List (PT 0)}{l:List Ent}(h:ts.map Prod.snd=[l]):∃x:PT 0,ts=[x]/\x.2=l:=Qr4 (α:=Ent) (β:=Nat) h
theorem QuJ{ts:List (PT 0)}{l m:List Ent}(h:ts.map Prod.snd=[l,m]):∃x y:PT 0,ts=[x,y]/\x.2=l/\y.2=m:=QfO (α:=Ent) (β:=Nat) h
theorem QuI{ts:List (PT (n+1))}{l:List (PT n)}(h:ts.map Prod.snd=[l]):∃x:PT (n+1),ts=[x]/\x.2=l:=Qr4 (α:=PT n) (β:=Nat) h
theorem QuK{ts:List (PT (n+1))}{l m:List (PT n)}(h:ts.map Prod.snd=[l,m]):∃x y:PT (n+1),ts=[x,y]/\x.2=l/\y.2=m:=QfO (α:=PT n) (β:=Nat) h
theorem Qgz{α:Type}(l:List α):(∃a,chunk l=[a])\/∃a b,chunk l=[a,b]:=by
 unfold chunk;split
 .exact .inl ⟨_,rfl⟩
 exact .inr ⟨_,_,rfl⟩
theorem QcY.two{k:ByteArray}{v:Val}{t:PT h}{ts:List (PT h)}(z:QcY B k v h t ts):(∃a,ts=[a])\/∃a b,ts=[a,b]:=by
 have:∀{α β:Type} (l:List α) {ts:List (β × List α)},ts.map Prod.snd=chunk l->(∃a,ts=[a])\/∃a b,ts=[a,b]:=by
  intro α β l ts h;rcases Qgz l with⟨a,D⟩ |⟨a,b,D⟩<;>rw[D]at h
  ·match ts,h with
   |[x],_=>exact .inl ⟨x,rfl⟩
  match ts,h with
  |[x,y],_=>exact .inr ⟨x,y,rfl⟩
 cases h with
 |zero=>exact this _ z.1
 |succ h=>obtain⟨J,rs,-,-,I,-⟩:=z;exact this _ I
theorem QhE{α:Type}(l:List α):(chunk l).flatten=l:=by
 unfold chunk;split<;>simp
theorem QcN:∀(es:List Ent) (k:ByteArray) (v:Val),(Qbq es k v).length=es.length\/(Qbq es k v).length=es.length+1
 |[],_,_=>.inr rfl
 | e :: es,k,v=>by
   simp only[Qbq];split
   .rcases QcN es k v with h|h<;>simp[h]
   split<;>simp
theorem Qjy(es:List Ent)(k:ByteArray)(v:Val):0<(Qbq es k v).length:=by
 cases es with
 |nil=>simp[Qbq]
 |cons e es=>simp only[Qbq];split <;>(try split)<;>simp
theorem Qjt(ts:List (PT 0)):ts.flatMap (ents 0)=(ts.map Prod.snd).flatten:=by
 induction ts with
 |nil=>rfl
 | cons t ts ih=>
   rw[bc,ih];rfl
theorem QlA(h:Nat)(ts:List (PT (h+1))):ts.flatMap (ents (h+1))=((ts.map Prod.snd).flatten:List (PT h)).flatMap (ents h):=by
 induction ts with
 |nil=>rfl
 | cons t ts ih=>
   rw[bc,ih];show t.2.flatMap (ents h)++_=(t.2++_).flatMap (ents h);rw[aP]
theorem Qb3{t:PT (h+1)}(ok:OkT (h+1) t):∀k∈t.2,0<(ents h k).length:=λk z=>QbB h k (ok.2.2 k z).1 (by have:=(ok.2.2 k z).2;omega)
theorem QcY.ents{B:Nat}{k:ByteArray}{v:Val}:∀{h:Nat} {t:PT h} {ts:List (PT h)},QcY B k v h t ts->OkT h t->Sorted (ents h t)->ts.flatMap (Proofs.YtkjkafgnnoidpaaGreatDoor.ents h)=Qbq (ents h t) k v
 |0,t,ts,⟨h1,_⟩,_,_=>by rw[Qjt,h1,QhE];rfl
 | h+1,t,ts,⟨kid,rs,hk,hr,h1,_⟩,ok,hs=>by
   have U:=Qb3 ok;obtain⟨I,z,R,N⟩:=Qbb (h:=h) (ks:=t.2) hs U (by have:=ok.1;omega) k;rw[hk]at z;simp only[Option.some.injEq]at z;subst z;have D:=am hk;have J:=QcY.ents hr (ok.2.2 kid D).1 (QaK hs kid D);rw[QlA,h1,QhE,aP,aP,J];show _=Qbq (t.2.flatMap (Proofs.YtkjkafgnnoidpaaGreatDoor.ents h)) k v
   conv=>rhs;rw[QbU hk]
   rw[aP,bc,Qit R,QgN N,aS]
theorem QcY.ok{B:Nat}{k:ByteArray}{v:Val}:∀{h:Nat} {t:PT h} {ts:List (PT h)},QcY B k v h t ts->OkT h t->
  (∀u∈ts,OkT h u/\1<=size h u/\(4<=size h t->4<=size h u))/\(2<=ts.length->∀u∈ts,4<=size h u)
 | 0,t,ts,⟨h1,_⟩,ok=>by
   have hl:=QcN t.2 k v;have hp:=Qjy t.2 k v;have Y:t.2.length<=8:=ok;unfold chunk at h1;split at h1
   ·rename_i h8
    obtain⟨x,rfl,z⟩:=Qus h1;refine⟨λu hu=>?_,λh=>by simp at h⟩;simp at hu;subst hu;refine⟨show u.2.length<=8 by rw[z];exact h8,show 1<=u.2.length by rw[z];omega,λI=>show 4<=u.2.length by rw[z];have I:4<=t.2.length:=I;omega⟩
   rename_i h8;obtain⟨x,y,rfl,z⟩:=QuJ h1;have lx:x.2.length=4:=by rw[z.1,ap];omega
   have ly:4<=y.2.length/\y.2.length<=8:=by rw[z.2,au];omega
   refine⟨λu hu=>?_,λ_ u hu=>?_⟩
   ·simp at hu
    rcases hu with rfl|rfl
    .exact ⟨show u.2.length<=8 by omega,show 1<=u.2.length by omega,λ_=>show 4<=u.2.length by omega⟩
    exact⟨show u.2.length<=8 by omega,show 1<=u.2.length by omega,λ_=>show 4<=u.2.length by omega⟩
   simp at hu;rcases hu with rfl|rfl
   .show 4<=u.2.length;omega
   show 4<=u.2.length;omega
 | h+1,t,ts,⟨kid,rs,hk,hr,h1,_⟩,ok=>by
   have R:=am hk;have X:=(ah.1 hk).1;obtain⟨U,i2⟩:=QcY.ok hr (ok.2.2 kid R).1;have J:=(ok.2.2 kid R).2;have D:∀u∈t.2.take (Qat h t.2 k)++rs++t.2.drop (Qat h t.2 k+1),OkT h u/\4<=size h u:=λu hu=>by
    rcases aB.1 hu with hu|hu
    ·rcases aB.1 hu with hu | hu
     .exact ok.2.2 u (aN hu)
     exact⟨(U u hu).1,(U u hu).2.2 J⟩
    exact ok.2.2 u (aD hu)
   have N:(t.2.take (Qat h t.2 k)++rs++t.2.drop (Qat h t.2 k+1)).length=t.2.length\/(t.2.take (Qat h t.2 k)++rs++t.2.drop (Qat h t.2 k+1)).length=t.2.length+1:=by
    simp only[List.length_append,List.length_take,List.length_drop];rcases hr.two with⟨a,rfl⟩ |⟨a,b,rfl⟩<;>simp<;>omega
   obtain⟨o1,o2,-⟩:=ok;generalize t.2.take (Qat h t.2 k)++rs++t.2.drop (Qat h t.2 k+1)=L at *;unfold chunk at h1;split at h1
   ·rename_i h8
    obtain⟨x,rfl,z⟩:=QuI h1;refine⟨λu hu=>?_,λh=>by simp at h⟩;simp at hu;subst hu;refine⟨⟨by rw[z];omega,by rw[z];exact h8,by rw[z];exact D⟩,show 1<=u.2.length by rw[z];omega,λI=>show 4<=u.2.length by rw[z];have I:4<=t.2.length:=I;omega⟩
   rename_i h8;obtain⟨x,y,rfl,z⟩:=QuK h1;have lx:x.2.length=4:=by rw[z.1,ap];omega
   have ly:4<=y.2.length/\y.2.length<=8:=by rw[z.2,au];omega
   have ax:∀u∈x.2,OkT h u/\4<=size h u:=λu hu=>D u (aN (z.1▸hu))
   have Z:∀u∈y.2,OkT h u/\4<=size h u:=λu hu=>D u (aD (z.2▸hu))
   refine⟨λu hu=>?_,λ_ u hu=>?_⟩
   ·simp at hu
    rcases hu with rfl|rfl
    .exact ⟨⟨by omega,by omega,ax⟩,show 1<=u.2.length by omega,λ_=>show 4<=u.2.length by omega⟩
    exact⟨⟨by omega,by omega,Z⟩,show 1<=u.2.length by omega,λ_=>show 4<=u.2.length by omega⟩
   simp at hu;rcases hu with rfl|rfl
   .show 4<=u.2.length;omega
   show 4<=u.2.length;omega
theorem QlM{es:List Ent}(hs:Sorted es)(k:ByteArray)(v:Val) :
  Qbq es k v=es.take (Qcc es k)++(k,v) ::(if(es[Qcc es k]?).map Prod.fst=some k then es.drop (Qcc es k+1)else es.drop (Qcc es k)):=by
 have N:es.take (Qcc es k)=es.takeWhile λe=>klt e.1 k:=(cm.1 (List.takeWhile_prefix (l:=es) (λe:Ent=>klt e.1 k))).symm
 have Z:∀e∈es.take (Qcc es k),klt e.1 k=true:=λe D=>by
  rw[N]at D;exact dg.1 (List.all_takeWhile (l:=es) (p:=λe:Ent=>klt e.1 k)) e D
 have I:∀e,es[Qcc es k]? = some e->klt e.1 k=false:=by
  intro e D;have Y:es.drop (Qcc es k)=es.dropWhile λe=>klt e.1 k:=by
   have h1:=aX (Qcc es k) es;rw[N]at h1;have h2:=List.takeWhile_append_dropWhile (p:=λe:Ent=>klt e.1 k) (l:=es);exact List.append_cancel_left (h1.trans h2.symm)
  have z:(es.drop (Qcc es k))[0]? = some e:=by rw[bj];exact D
  rw[Y]at z;cases hd:es.dropWhile λe=>klt e.1 k with
  |nil=>rw[hd]at z;simp at z
  | cons x xs=>
    rw[hd]at z;simp at z;subst z;have:=List.head?_dropWhile_not (λe:Ent=>klt e.1 k) es;rw[hd]at this;simpa using this
 have U:∀e∈es.drop (Qcc es k),klt e.1 k=false:=λe D=>by
  obtain⟨j,J⟩:=bv D;rw[bj]at J;by_cases z:j=0
  .subst z;exact I e J
  obtain⟨y,R⟩:∃y,es[Qcc es k]? = some y:=⟨_,ac (by have:=(ah.1 J).1;omega)⟩;have h1:=I y R;have h2:=QdX hs (i:=Qcc es k) (j:=Qcc es k+j) (by omega) R J;cases X:klt e.1 k
  .rfl
  rw[QaI h2 X]at h1;cases h1
 conv=>lhs;rw[<-aX (Qcc es k) es]
 rw[Qit Z,Qsy U];congr 2;rw[List.head?_drop,List.tail_drop]
abbrev ff:=@or_false
def QcR{α:Type}(l r:List α):List (List α):=
 if 4<l.length then[l.take (l.length-1),l.drop (l.length-1)++r]else if 4<r.length then[l++r.take 1,r.drop 1]else[l++r]
theorem Qfr{α:Type}(l r:List α):(QcR l r).flatten=l++r:=by
 unfold QcR;split
 .simp [<-List.append_assoc]
 split
 .simp only[List.flatten_cons,List.flatten_nil,List.append_nil,List.append_assoc,List.take_append_drop]
 simp
theorem QjR{α:Type}(l r:List α):(QcR l r).length=1\/(QcR l r).length=2:=by
 unfold QcR;split
 .simp
 split<;>simp
theorem Ql2{α:Type}{l r:List α}(h:(l.length=3/\4<=r.length/\r.length<=8)\/(4<=l.length/\l.length<=8/\r.length=3)):∀x∈QcR l r,4<=x.length/\x.length<=8:=by
 unfold QcR;intro x z;split at z
 ·simp only [List.mem_cons,List.not_mem_nil,or_false] at z
  rcases z with rfl|rfl
  .rw [ap];omega
  rw[ak,au];omega
 split at z
 ·simp only [List.mem_cons,List.not_mem_nil,or_false] at z
  rcases z with rfl|rfl
  .rw [ak,ap];omega
  rw[au];omega
 simp only[List.mem_cons,List.not_mem_nil,or_false]at z;subst z;rw[ak];omega
theorem Qpt{α:Type}{l r:List α}{x:List α}(z:x∈QcR l r){a:α}(D:a∈x):a∈l\/a∈r:=by
 have:a∈(QcR l r).flatten:=List.mem_flatten.2 ⟨x,z,D⟩;rw[Qfr]at this;exact aB.1 this
def Qew(B:Nat):(h:Nat)->PT h->PT h->List (PT h)->Prop
 |0,l,r,ts=>ts.map Prod.snd=QcR l.2 r.2/\∀u∈ts,B<=u.1
 |_+1,l,r,ts=>ts.map Prod.snd=QcR l.2 r.2/\∀u∈ts,B<=u.1
theorem Qew.mono(z:A<=B):∀{h:Nat} {l r:PT h} {ts:List (PT h)},Qew B h l r ts->Qew A h l r ts
 |0,_,_,_,⟨h1,h2⟩=>⟨h1,λu hu=>al z (h2 u hu)⟩
 |_+1,_,_,_,⟨h1,h2⟩=>⟨h1,λu hu=>al z (h2 u hu)⟩
theorem Qew.ents:∀{h:Nat} {l r:PT h} {ts:List (PT h)},Qew B h l r ts->ts.flatMap (Proofs.YtkjkafgnnoidpaaGreatDoor.ents h)=ents h l++ents h r
 |0,l,r,ts,⟨h1,_⟩=>by rw[Qjt,h1,Qfr];rfl
 | h+1,l,r,ts,⟨h1,_⟩=>by
   rw[QlA,h1,Qfr];show(l.2++r.2).flatMap _=_;rw[aP];rfl
theorem Qpb{α β:Type}{ts:List (β × α)}{L:List α}(h:ts.map Prod.snd=L)(z:L.length=1\/L.length=2):ts.length=1\/ts.length=2:=by
 subst h;rwa[ao]at z
theorem Qew.len:∀{h:Nat} {l r:PT h} {ts:List (PT h)},Qew B h l r ts->ts.length=1\/ts.length=2
 |0,l,r,ts,⟨h1,_⟩=>Qpb h1 (QjR (α:=Ent) _ _)
 |n+1,l,r,ts,⟨h1,_⟩=>Qpb h1 (QjR (α:=PT n) _ _)
theorem Qew.ok:∀{h:Nat} {l r:PT h} {ts:List (PT h)},Qew B h l r ts->OkT h l->OkT h r->(size h l=3/\4<=size h r)\/(4<=size h l/\size h r=3)->∀u∈ts,OkT h u/\4<=size h u
 | 0,l,r,ts,⟨h1,_⟩,D,I,hs,u,hu=>by
   have J:u.2∈QcR l.2 r.2:=by rw[<-h1];exact cT hu
   have D:l.2.length<=8:=D;have I:r.2.length<=8:=I;have hs:(l.2.length=3/\4<=r.2.length)\/(4<=l.2.length/\r.2.length=3):=hs;have:=Ql2 (by omega) _ J;exact⟨this.2,this.1⟩
 | h+1,l,r,ts,⟨h1,_⟩,D,I,hs,u,hu=>by
   have J:u.2∈QcR l.2 r.2:=by rw[<-h1];exact cT hu
   have N:l.2.length<=8:=D.2.1;have R:r.2.length<=8:=I.2.1;have hs:(l.2.length=3/\4<=r.2.length)\/(4<=l.2.length/\r.2.length=3):=hs;have:=Ql2 (by omega) _ J;refine⟨⟨by omega,this.2,λx z=>?_⟩,this.1⟩;rcases Qpt J z with z|z
   .exact D.2.2 x z
   exact I.2.2 x z
def QrN(B h:Nat)(ks:List (PT h))(i:Nat)(ks':List (PT h)):Prop:=
 ∃l r ts,ks[i-1]? = some l/\ks[i-1+1]? = some r/\Qew B h l r ts/\ks'=ks.take (i-1)++ts++ks.drop (i-1+2)
def Qmp(B:Nat)(k:ByteArray)(h:Nat)(R:PT h->PT h->Prop)(ks ks':List (PT h)):Prop:=
 ∃kid kid',ks[Qat h ks k]? = some kid/\R kid kid'/\
  ((4<=size h kid'/\ks'=ks.set (Qat h ks k) kid')\/(size h kid'<4/\QrN B h (ks.set (Qat h ks k) kid') (Qat h ks k) ks'))
def QiV(B:Nat)(k:ByteArray):(h:Nat)->PT h->PT h->Prop
 |0,t,u=>u.2=Qb2 t.2 k/\B<=u.1
 |h+1,t,u=>Qmp B k h (QiV B k h) t.2 u.2/\B<=u.1
theorem QrN.mono(D:A<=B){ks z:List (PT h)}{i:Nat}(N:QrN B h ks i z):QrN A h ks i z:=by
 obtain⟨l,r,I,h1,h2,J,R⟩:=N;exact⟨l,r,I,h1,h2,J.mono D,R⟩
theorem Qmp.mono(J:A<=B){k:ByteArray}{R S:PT h->PT h->Prop}(I:∀x y,R x y->S x y){ks D:List (PT h)}(hd:Qmp B k h R ks D):Qmp A k h S ks D:=by
 obtain⟨N,z,h1,h2,U⟩:=hd;exact⟨N,z,h1,I _ _ h2,U.imp_right λ⟨a,b⟩=>⟨a,b.mono J⟩⟩
theorem QiV.mono(z:A<=B){k:ByteArray}:∀{h:Nat} {t u:PT h},QiV B k h t u->QiV A k h t u
 |0,_,_,⟨h1,h2⟩=>⟨h1,al z h2⟩
 |_+1,_,_,⟨h1,h2⟩=>⟨h1.mono z λ_ _ D=>D.mono z,al z h2⟩
theorem set_mid{α:Type}{l:List α}{i:Nat}{x y:α}(h:l[i]? = some x):l.set i y=l.take i++y::l.drop (i+1):=by
 rw[bW,em (ah.1 h).1]
theorem QiO{α:Type}{l:List α}{i:Nat}{x y:α}(h:l[i]? = some x)(D:l[i+1]? = some y):l=l.take i++x::y::l.drop (i+2):=by
 have z:=QbU h;obtain⟨hi,rfl⟩:=ah.1 D;rw[aE hi]at z;exact z
theorem QrN.ents{ks z:List (PT h)}{i:Nat}(I:QrN B h ks i z):z.flatMap (Proofs.YtkjkafgnnoidpaaGreatDoor.ents h)=ks.flatMap (Proofs.YtkjkafgnnoidpaaGreatDoor.ents h):=by
 obtain⟨l,r,J,h1,h2,D,rfl⟩:=I
 conv=>rhs;rw[QiO h1 h2]
 simp only[List.flatMap_append,List.flatMap_cons,D.ents,List.append_assoc]
theorem Qge{ks:List (PT h)}{k:ByteArray}{z:PT h}(D:ks[Qat h ks k]? = some z)(I:∀e∈(ks.take (Qat h ks k)).flatMap (ents h),klt e.1 k=true)(J:∀e∈(ks.drop (Qat h ks k+1)).flatMap (ents h),klt k e.1=true) :
  Qam (ks.flatMap (ents h)) k=Qam (ents h z) k:=by
 conv=>lhs;rw[QbU D]
 rw[aP,bc,QlF I,Qjv J]
theorem Qmp.ents{k:ByteArray}{R:PT h->PT h->Prop}{ks J:List (PT h)}(hd:Qmp B k h R ks J)(hs:Sorted (ks.flatMap (Proofs.YtkjkafgnnoidpaaGreatDoor.ents h)))(hp:∀x∈ks,0<(Proofs.YtkjkafgnnoidpaaGreatDoor.ents h x).length)(X:0<ks.length)
  (Z:∀x y,x∈ks->R x y->Proofs.YtkjkafgnnoidpaaGreatDoor.ents h y=Qb2 (Proofs.YtkjkafgnnoidpaaGreatDoor.ents h x) k):J.flatMap (Proofs.YtkjkafgnnoidpaaGreatDoor.ents h)=Qb2 (ks.flatMap (Proofs.YtkjkafgnnoidpaaGreatDoor.ents h)) k:=by
 obtain⟨U,z,N,hr,h3⟩:=hd;obtain⟨Y,D,hA,hC⟩:=Qbb (h:=h) (ks:=ks) hs hp X k;rw[N]at D;simp only[Option.some.injEq]at D;subst D;have I:(ks.set (Qat h ks k) z).flatMap (Proofs.YtkjkafgnnoidpaaGreatDoor.ents h)=Qb2 (ks.flatMap (Proofs.YtkjkafgnnoidpaaGreatDoor.ents h)) k:=by
  rw[set_mid N]
  conv=>rhs;rw[QbU N]
  simp only[List.flatMap_append,List.flatMap_cons];rw[Z U z (am N) hr,Qig hA,QgG hC]
 rcases h3 with⟨-,rfl⟩ |⟨-,hm⟩
 .exact I
 rw[hm.ents,I]
theorem QiV.ents{k:ByteArray}:∀{h:Nat} {t u:PT h},QiV B k h t u->OkT h t->Sorted (Proofs.YtkjkafgnnoidpaaGreatDoor.ents h t)->Proofs.YtkjkafgnnoidpaaGreatDoor.ents h u=Qb2 (Proofs.YtkjkafgnnoidpaaGreatDoor.ents h t) k
 |0,t,u,⟨h1,_⟩,_,_=>h1
 | h+1,t,u,⟨h1,_⟩,ok,hs=>
   h1.ents hs (Qb3 ok) (by have:=ok.1;omega) λx y z D=>D.ents (ok.2.2 x z).1 (QaK hs x z)
theorem Qly:∀{es:List Ent} {k:ByteArray},Sorted es->(Qam es k).isSome=true->(Qb2 es k).length+1=es.length
 |[],_,_,h=>by cases h
 | e :: es,k,hs,h=>by
   have z:=aW.1 hs;simp only[Qb2];by_cases J:e.1=k
   ·subst J
    simp[Qah]
   simp only[Qam,J,if_false]at h;have N:klt e.1 k=true:=by
    cases D:Qam es k with
    |none=>rw[D]at h;cases h
    | some v=>
      have:∃x∈es,x.1=k:=by
       clear hs z h J
       induction es with
       |nil=>cases D
       | cons a es ih=>
         simp only[Qam]at D;by_cases R:a.1=k
         .exact ⟨a,az ..,R⟩
         simp only[R,if_false]at D;obtain⟨x,I,e⟩:=ih D;exact⟨x,aI _ I,e⟩
      obtain⟨x,I,rfl⟩:=this;exact z.1 x I
   simp only[N,if_true,List.length_cons];rw[Qly z.2 h]
theorem Qmp.ok{k:ByteArray}{R:PT h->PT h->Prop}{ks N:List (PT h)}(hd:Qmp B k h R ks N)(X:∀x∈ks,OkT h x/\4<=size h x)(h2:2<=ks.length)
  (hR:∀x y,x∈ks->ks[Qat h ks k]? = some x->R x y->OkT h y/\size h x<=size h y+1):(∀u∈N,OkT h u/\4<=size h u)/\N.length<=ks.length/\ks.length<=N.length+1:=by
 obtain⟨Y,z,hk,hr,h3⟩:=hd;have a2:=am hk;have hi:=(ah.1 hk).1;obtain⟨o1,o2⟩:=hR Y z a2 hk hr;have o4:=(X Y a2).2;have Z:∀u∈ks.set (Qat h ks k) z,u=z\/(OkT h u/\4<=size h u):=λu hu=>by
  rcases bB hu with hu|hu
  .exact .inr (X u hu)
  exact .inl hu
 rcases h3 with⟨h4,rfl⟩ |⟨h4,l,r,ts,hl,J,hp,rfl⟩
 ·refine ⟨fun u hu=>?_,by simp,by simp⟩
  rcases Z u hu with rfl|h
  .exact ⟨o1,h4⟩
  exact h
 generalize hI:Qat h ks k=i at *;have a0:size h z=3:=by omega
 have I:∀j,j≠i->∀x,(ks.set i z)[j]? = some x->OkT h x/\4<=size h x:=λj U x hx=>by
  rw[de (by omega)]at hx;exact X x (am hx)
 have a1:(ks.set i z)[i]? = some z:=by rw[cV hi]
 have D:OkT h l/\OkT h r/\((size h l=3/\4<=size h r)\/(4<=size h l/\size h r=3)):=by
  by_cases h0:i=0
  ·subst h0
   rw[a1]at hl;simp only[Option.some.injEq]at hl;subst hl;have:=I 1 (by omega) r J;exact⟨o1,this.1,.inl ⟨a0,this.2⟩⟩
  rw[show i-1+1=i from by omega,a1]at J;simp only[Option.some.injEq]at J;subst J;have:=I (i-1) (by omega) l hl;exact⟨this.1,o1,.inr ⟨this.2,a0⟩⟩
 have a3:=hp.ok D.1 D.2.1 D.2.2;have a4:=hp.len;refine⟨λu hu=>?_,?_,?_⟩
 ·rcases aB.1 hu with hu | hu
  ·rcases aB.1 hu with hu | hu
   ·obtain ⟨j,U⟩:=bv hu
    rw[bm]at U;split at U
    .exact I j (by omega) u U
    cases U
   exact a3 u hu
  obtain⟨j,U⟩:=bv hu;rw[bj]at U;exact I _ (by omega) u U
 .simp only[List.length_append,List.length_take,List.length_drop,List.length_set];omega
 simp only[List.length_append,List.length_take,List.length_drop,List.length_set];have:=(ah.1 J).1;rw[bS]at this;omega
theorem QiV.ok{k:ByteArray}:∀{h:Nat} {t u:PT h},QiV B k h t u->OkT h t->4<=size h t->Sorted (Proofs.YtkjkafgnnoidpaaGreatDoor.ents h t)->(Qam (Proofs.YtkjkafgnnoidpaaGreatDoor.ents h t) k).isSome=true->OkT h u/\size h t<=size h u+1/\size h u<=size h t
 | 0,t,u,⟨h1,_⟩,ok,_,hs,hg=>by
   have:=Qly hs hg;have e:size 0 u=(Qb2 (Proofs.YtkjkafgnnoidpaaGreatDoor.ents 0 t) k).length:=by show u.2.length=_;rw[h1];rfl
   have Y:(Proofs.YtkjkafgnnoidpaaGreatDoor.ents 0 t).length=size 0 t:=rfl;have ok:size 0 t<=8:=ok;exact⟨show size 0 u<=8 by omega,by omega,by omega⟩
 | h+1,t,u,⟨h1,_⟩,ok,N,hs,hg=>by
   have N:4<=t.2.length:=N;obtain⟨a,b,c⟩:=h1.ok ok.2.2 ok.1 λx y I D X=>by
    obtain⟨J,z,U,R⟩:=Qbb (h:=h) (ks:=t.2) hs (Qb3 ok) (by omega) k;rw[D]at z;simp only[Option.some.injEq]at z;subst z;have:=X.ok (ok.2.2 x I).1 (ok.2.2 x I).2 (QaK hs x I) (by rw[<-Qge D U R];exact hg);exact⟨this.1,this.2.1⟩
   have Z:=ok.2.1;exact⟨⟨by omega,by omega,a⟩,c,b⟩
theorem Qom{es:List Ent}{k:ByteArray}(h:Qam es k=none):Qb2 es k=es:=by
 induction es with
 |nil=>rfl
 | cons e es ih=>
   simp only[Qam]at h;by_cases z:e.1=k
   .simp [z]at h
   simp only[z,if_false]at h;simp only[Qb2,z,if_false];split
   .rw [ih h]
   rfl
def Qcp(a b:Int):Int:=if a<b then -1 else if b<a then 1 else 0
def Qi7(a b:Bool):Int:=if a=b then 0 else if b then -1 else 1
def Qbn(a b:ByteArray):Int:=if klt a b then -1 else if klt b a then 1 else 0
mutual
def Qbo:Val->Val->Int
 | .mk k b i t l ok ov,y=>
   if k≠y.kind then Qcp k y.kind else if k=2 then Qi7 b y.b else if k=3 then Qcp i y.i else if k=4 then Qbn t y.t else if k=5 then cmpL l y.l else if k=6 then Qfe ov ok y.ok y.ov else 0
def cmpL:List Val->List Val->Int
 |[],m=>if m.length=0 then 0 else -1
 |_::_,[]=>1
 |a::l,b::m=>if Qbo a b≠0 then Qbo a b else cmpL l m
def Qfe:List Val->List ByteArray->List ByteArray->List Val->Int
 |[],_,_,m=>if m.length=0 then 0 else -1
 |_::_,_,_,[]=>1
 |a::l,ka,kb,b::m=>if Qbn (ka.headD ByteArray.empty) (kb.headD ByteArray.empty)≠0 then Qbn (ka.headD ByteArray.empty) (kb.headD ByteArray.empty)else if Qbo a b≠0 then Qbo a b else Qfe l ka.tail kb.tail m
end
theorem QjM(a:Int):Qcp a a=0:=by simp[Qcp]
theorem QjN{a b:Int}:Qcp a b=0↔a=b:=by unfold Qcp;split <;>(try split)<;>omega
theorem QmA{a b:Bool}:Qi7 a b=0↔a=b:=by cases a<;>cases b<;>simp[Qi7]
theorem Qee(a:ByteArray):Qbn a a=0:=by simp[Qbn,Qah]
theorem QhZ{a b:ByteArray}:Qbn a b=0↔a=b:=by
 constructor
 ·intro h
  unfold Qbn at h;split at h
  .cases h
  split at h
  .cases h
  rename_i h1 h2;exact QbR (by simpa using h1) (by simpa using h2)
 rintro rfl;exact Qee _
theorem Qog(m:Nat):∀d:Val,SizeOf.sizeOf d<=m->Qbo d d=0:=by
 induction m with
 |zero=>intro d hd;have:=Val.Qb7 d;omega
 | succ m ih=>
   intro d hd;obtain⟨k,b,i,t,l,N,R⟩:=d;have J:∀z:List Val,SizeOf.sizeOf z<=m->cmpL z z=0:=by
    intro z
    induction z with
    |nil=>intro _;simp[cmpL]
    | cons a z ihl=>
      intro hs;simp only[List.cons.sizeOf_spec]at hs;simp only[cmpL];rw[ih a (by omega)];simpa using ihl (by omega)
   have I:∀(z:List Val) (D:List ByteArray),SizeOf.sizeOf z<=m->Qfe z D D z=0:=by
    intro z
    induction z with
    |nil=>intro D _;simp[Qfe]
    | cons a z ihl=>
      intro D hs;simp only[List.cons.sizeOf_spec]at hs;simp only[Qfe];rw[ih a (by omega),Qee];simpa using ihl D.tail (by omega)
   simp only[Val.mk.sizeOf_spec]at hd;simp only[Qbo,Val.kind,Val.b,Val.i,Val.t,Val.l,Val.ok,Val.ov];simp only[ne_eq,not_true_eq_false,if_false,QjM,Qee,J l (by omega),I R N (by omega),Qi7,if_true];simp
theorem QgA(d:Val):Qbo d d=0:=Qog _ d (an _)
def QcT:List Ent->List Ent->Bool
 |[],[]=>true
 |a::l,b::m=>decide (a.1=b.1)&&decide (Qbo a.2 b.2=0)&&QcT l m
 |_,_=>false
theorem Qec:∀l:List Ent,QcT l l=true
 |[]=>rfl
 |a::l=>by simp[QcT,QgA,Qec l]
theorem Qj5:∀{l m:List Ent},QcT l m=true->l.length=m.length
 |[],[],_=>rfl
 | a :: l,b :: m,h=>by
   simp only[QcT,Bool.and_eq_true]at h;simp[Qj5 h.2]
 |[],_::_,h=>by cases h
 |_::_,[],h=>by cases h
section
variable{P : Program}(w : World)
theorem Qf3{ops:Array Oper}{o:Oper}{a:Act}{K:Act->World->Prop}{Q:Exit->Act->World->Prop}{E:Prop}(z:o.guard=none)(d s:Operand)(t I:TypeId)
  (J:o.op=.call { callee:=.builtin .append,args:=#[d,s],argTypes:=#[t,I] }) (v u:Value) (hd:a.eval d=v) (hs:a.eval s=u) {D:Value} {w':World}
  (R:(Builtin.append_ #[t,I] o.type #[v,u]).run P w=.ok D w') (h:K (a.put o.dst D) w') :
  if Region.wanted o (yielded ops a.tmps)=true then Oper.wp P o a w K Q else E:=by
 have N:Region.wanted o (yielded ops a.tmps)=true:=by simp[Region.wanted,z]
 rw[em N];unfold Oper.wp execOp;simp only[J,resolve,invoke,builtin,Sem.run_bind,Sem.run_pure,Result.andThen_ok,List.map_toArray,List.map_cons,List.map_nil,hd,hs,R];exact h
end
def Qqq(base:Nat)(s:Sl)(n i:Nat)(xs:List Value)(w:World)(e:Ending)(w':World):Prop:=
 e=.returned (.slice s.a (n-1) s.c)/\w'.ownsRow base 70 7 (.slice s.a (n-1) s.c) (n-1) (xs.take (i*7)++xs.drop ((i+1)*7))/\Wr w w' s.row
theorem zeroE(w:World):(zeroValue 70).run prog w=.ok (.agg #[.string ByteArray.empty,.int .i64 0,.bool false,.int .i64 0,.string ByteArray.empty,.slice none 0 0,.slice none 0 0]) w:=by kernel_rfl
theorem QqE{base n i:Nat}{xs:List Value}(Y:w.ownsRow base 70 7 (.slice s.a n s.c) n xs)(hn:n<=1000)(f1:i<n)(h1:∀u∈xs,u.oneCell'=true) :
  Calls prog 134 #[.slice s.a n s.c,.int .i64 i,.int .i64 ((i:Int)+1)] w (Qqq base s n i xs w):=by
 obtain⟨i0,hi,d8,b4,f3⟩:=eG Tryz.Qa1;rcases Y.2 with⟨hs,h0⟩ |⟨g,D,J,hs,c7,hg,f0,b7,b5,N⟩
 .omega
 simp only[Value.slice.injEq]at hs;obtain⟨ha,-,hc⟩:=hs;have c6:s=⟨some ⟨g,0,none⟩,D⟩:=by cases s;simp_all
 have b3:=Y.1;subst c6;clear Y ha hc;have e3:i<=D:=by omega
 have d7:(i:Int)<(n:Int):=by omega
 have c9:(i:Int)+1<=(n:Int):=by omega
 have f2:(0:Int)<=(i:Int):=by omega
 have e2:(0:Int)<=(i:Int)+1:=by omega
 have e7:(i:Int)<=(i:Int)+1:=by omega
 have e8:((i:Int) ==(i:Int)+1)=false:=eu.2 (by omega);have d5:(D:Int)<=9223372036854775807:=by unfold maxLen at b7;omega
 have d4:(n:Int)<=(D:Int):=by omega
 have e6:((i:Int)+1).toNat=i+1:=by omega
 obtain⟨z,I⟩:∃z,z=xs.drop ((i+1)*7):=⟨_,rfl⟩;have X:z.length=(n -(i+1))*7:=by rw[I,au,b3,<-dv]
 have c3:∀u∈z,u.oneCell'=true:=λu hu=>h1 u (aD (I▸hu))
 obtain⟨A,hA,a6⟩:∃A:Addr,(if D=i+1 then some (⟨g,0,none⟩:Addr)else some ⟨g,(i+1)*7,none⟩)=some A/\(∀j u,z[j]? = some u->w.drew.cell? (A.add j)=some u):=by
  by_cases h:D=i+1
  ·refine ⟨⟨g,0,none⟩,by simp [h],fun t u hu=>?_⟩
   have h0:z.length=0:=by rw[X,show n -(i+1)=0 from by omega,cN]
   rw[bV.1 h0]at hu;simp at hu
  refine⟨⟨g,(i+1)*7,none⟩,by simp[h],λj u hu=>?_⟩;rw[Qbu,eV,eY w g _ J 70 (0,0) hg];rw[I,bj,<-N,bm]at hu;split at hu
  .simpa [Nat.add_comm,Nat.add_left_comm,Nat.add_assoc,Nat.mul_comm]using hu
  cases hu
 obtain⟨R,a2⟩:∃R,R=(J.toList.take (i*7)++z++J.toList.drop (i*7+z.length)).toArray:=⟨_,rfl⟩;have b0:i*7+z.length<=J.size:=by rw[X,b5];omega
 have c0:R.size=J.size:=by rw[a2];simp;omega
 obtain⟨W1,a3⟩:∃W1,W1=w.drew.setRow g R:=⟨_,rfl⟩;have c8:∀ty,(Builtin.append_ #[22,22] ty #[.slice (some ⟨g,0,none⟩) i D,.slice (some A) (n -(i+1)) (D -(i+1))]).run prog w.drew=.ok (.slice (some ⟨g,0,none⟩) (n-1) D) W1:=λty=>by
  have h:=run_append_room (P:=prog) w.drew 22 ty 70 i0 underlying22 hi g i D J hg A (n -(i+1)) (D -(i+1)) z (by rw[b4];exact X) a6 c3 (by omega) (by rw[b4];exact b0);rw[b4]at h;rw[a3,a2,h,show i+(n -(i+1))=n-1 from by omega]
 have b6:W1.heap[g]? = some (.cells R 70 (0,0)):=by rw[a3];exact eQ w.drew g J R 70 (0,0) hg
 obtain⟨Z,hZ⟩:∃Z,Z=((.agg #[.string ByteArray.empty,.int .i64 0,.bool false,.int .i64 0,.string ByteArray.empty,.slice none 0 0,.slice none 0 0]):Value):=⟨_,rfl⟩;have c1:∀w,(zeroValue 70).run prog w=.ok Z w:=λw=>by rw[hZ];exact zeroE w
 obtain⟨zs,a0⟩:∃zs,zs=(Builtin.zeroCells Z.cells 1).toList:=⟨_,rfl⟩;have b8:zs.length=7:=by rw[a0,aH,fr,hZ];rfl
 have a5:∀u∈zs,u.oneCell'=true:=by
  have:zs.all (·.oneCell')=true:=by rw[a0,hZ];kernel_rfl
  exactλu hu=>dg.1 this u hu
 obtain⟨A2,a1⟩:∃A2,A2=(R.toList.take ((n-1)*7)++zs++R.toList.drop ((n-1)*7+zs.length)).toArray:=⟨_,rfl⟩;obtain⟨W2,a4⟩:∃W2,W2=W1.setRow g A2:=⟨_,rfl⟩;have U:=run_storeCells_at prog g ((n-1)*7) 70 zs 0 R W1 b6 (by rw[b8,c0,b5];omega) a5;have e4:∀ty c,(Builtin.clear_ #[22] ty #[.slice (some ⟨g,(n-1)*7,none⟩) 1 c]).run prog W1=.ok (.tuple #[]) W2:=λty c=>by
  simp only[Nat.add_zero]at U;rw[<-a1,<-a4]at U;rw[a0]at U;simp[Builtin.clear_,run_underlying underlying22,c1,U]
 have c4:W2.heap[g]? = some (.cells A2 70 (0,0)):=by rw[a4];exact eQ W1 g R A2 70 (0,0) b6
 have c2:Wr w W2 (some g):=by
  rw[a4,a3];exact((Wr.refl w (some g)).drew.trans (fK w.drew R) (λi hi=>.inl hi)).trans (fK (w.drew.setRow g R) A2) (λi hi=>.inl hi)
 have a9:W2.ownsRow base 70 7 (.slice (some ⟨g,0,none⟩) (n-1) D) (n-1) (xs.take (i*7)++xs.drop ((i+1)*7)):=by
  have ht:xs.take (i*7)=J.toList.take (i*7):=by rw[<-N,cU,bx (by omega)]
  refine⟨by simp[b3];omega,.inr ⟨g,D,A2,rfl,c7,c4,by omega,b7,by rw[a1];simp;omega,?_⟩⟩;have e1:(J.toList.take (i*7)++z).length=(n-1)*7:=by rw[ak,ap,aH,X];omega
  rw[<-I,ht,a1];simp only[List.toList_toArray,List.append_assoc];rw[aZ (by rw[ap,aH];omega),cU,bx (by omega),a2];simp only[List.toList_toArray];rw[aZ (by omega),a7 (by omega)]
 have HF:=hY a9;have HW:=hY c2;have HA:=hY hA;have e0:((n-1:Nat):Int)<(n:Int):=by omega
 have d0:¬D=n-1:=by omega
 have d6:n -(n-1)=1:=by omega
 have d3:((n-1:Nat):Int)<=(n:Int):=by omega
 clear a9 c2 c1 hZ c4 b6 U c0 a4 a3 a1 a2 a6 X c3 I b0 hg b5 N h1 b3 b8 a5 a0;go_in;go_wp2_with fail;go_region_law (refine Qf3 _ rfl _ _ 22 22 rfl _ _ (by simp[Act.eval,Act.put]) (by simp[Act.eval,Act.put]) (c8 _) ?_);go_wp2_with fail;go_ret;exact⟨rfl,HF.o,HW.o⟩
section
variable{P : Program}(w : World)
theorem Qf4{ops:Array Oper}{o:Oper}{a:Act}{K:Act->World->Prop}{Q:Exit->Act->World->Prop}{E:Prop}(z:o.guard=none)(d s:Operand)(t I:TypeId)
  (J:o.op=.call { callee:=.builtin .append,args:=#[d,s],argTypes:=#[t,I] }) (v u:Value) (hd:a.eval d=v) (hs:a.eval s=u) {D:Value} {w':World}
  (R:(Builtin.append_ #[t,I] o.type #[v,u]).run P w=.ok D w') (h:K (a.put o.dst D) w') :
  if Region.wanted o (yielded ops a.tmps)=true then Oper.wp P o a w K Q else E:=by
 have N:Region.wanted o (yielded ops a.tmps)=true:=by simp[Region.wanted,z]
 rw[em N];unfold Oper.wp execOp;simp only[J,resolve,invoke,builtin,Sem.run_bind,Sem.run_pure,Result.andThen_ok,List.map_toArray,List.map_cons,List.map_nil,hd,hs,R];exact h
end
def Qqr(base:Nat)(s:Sl)(n i:Nat)(xs:List Value)(w:World)(e:Ending)(w':World):Prop:=
 e=.returned (.slice s.a (n-1) s.c)/\w'.ownsRow base 39 1 (.slice s.a (n-1) s.c) (n-1) (xs.take (i*1)++xs.drop ((i+1)*1))/\Wr w w' s.row
theorem Quu(w:World):(zeroValue 39).run prog w=.ok (.pointer none) w:=by kernel_rfl
theorem Qgd{base n i:Nat}{xs:List Value}(Y:w.ownsRow base 39 1 (.slice s.a n s.c) n xs)(hn:n<=1000)(f1:i<n)(h1:∀u∈xs,u.oneCell'=true) :
  Calls prog 192 #[.slice s.a n s.c,.int .i64 i,.int .i64 ((i:Int)+1)] w (Qqr base s n i xs w):=by
 obtain⟨i0,hi,d8,b4,f3⟩:=eG Tryz.QbQ;rcases Y.2 with⟨hs,h0⟩ |⟨g,D,J,hs,c7,hg,f0,b7,b5,N⟩
 .omega
 simp only[Value.slice.injEq]at hs;obtain⟨ha,-,hc⟩:=hs;have c6:s=⟨some ⟨g,0,none⟩,D⟩:=by cases s;simp_all
 have b3:=Y.1;subst c6;clear Y ha hc;have e3:i<=D:=by omega
 have d7:(i:Int)<(n:Int):=by omega
 have c9:(i:Int)+1<=(n:Int):=by omega
 have f2:(0:Int)<=(i:Int):=by omega
 have e2:(0:Int)<=(i:Int)+1:=by omega
 have e7:(i:Int)<=(i:Int)+1:=by omega
 have e8:((i:Int) ==(i:Int)+1)=false:=eu.2 (by omega);have d5:(D:Int)<=9223372036854775807:=by unfold maxLen at b7;omega
 have d4:(n:Int)<=(D:Int):=by omega
 have e6:((i:Int)+1).toNat=i+1:=by omega
 obtain⟨z,I⟩:∃z,z=xs.drop ((i+1)*1):=⟨_,rfl⟩;have X:z.length=(n -(i+1))*1:=by rw[I,au,b3,<-dv]
 have c3:∀u∈z,u.oneCell'=true:=λu hu=>h1 u (aD (I▸hu))
 obtain⟨A,hA,a6⟩:∃A:Addr,(if D=i+1 then some (⟨g,0,none⟩:Addr)else some ⟨g,i+1,none⟩)=some A/\(∀j u,z[j]? = some u->w.drew.cell? (A.add j)=some u):=by
  by_cases h:D=i+1
  ·refine ⟨⟨g,0,none⟩,by simp [h],fun t u hu=>?_⟩
   have h0:z.length=0:=by rw[X,show n -(i+1)=0 from by omega,cN]
   rw[bV.1 h0]at hu;simp at hu
  refine⟨⟨g,i+1,none⟩,by simp[h],λj u hu=>?_⟩;rw[Qbu,eV,eY w g _ J 39 (0,0) hg];rw[I,bj,<-N,bm]at hu;split at hu
  .simpa [Nat.add_comm,Nat.add_left_comm,Nat.add_assoc,Nat.mul_comm]using hu
  cases hu
 obtain⟨R,a2⟩:∃R,R=(J.toList.take (i*1)++z++J.toList.drop (i*1+z.length)).toArray:=⟨_,rfl⟩;have b0:i*1+z.length<=J.size:=by rw[X,b5];omega
 have c0:R.size=J.size:=by rw[a2];simp;omega
 obtain⟨W1,a3⟩:∃W1,W1=w.drew.setRow g R:=⟨_,rfl⟩;have c8:∀ty,(Builtin.append_ #[114,114] ty #[.slice (some ⟨g,0,none⟩) i D,.slice (some A) (n -(i+1)) (D -(i+1))]).run prog w.drew=.ok (.slice (some ⟨g,0,none⟩) (n-1) D) W1:=λty=>by
  have h:=run_append_room (P:=prog) w.drew 114 ty 39 i0 underlying114 hi g i D J hg A (n -(i+1)) (D -(i+1)) z (by rw[b4];exact X) a6 c3 (by omega) (by rw[b4];exact b0);rw[b4]at h;rw[a3,a2,h,show i+(n -(i+1))=n-1 from by omega]
 have b6:W1.heap[g]? = some (.cells R 39 (0,0)):=by rw[a3];exact eQ w.drew g J R 39 (0,0) hg
 obtain⟨Z,hZ⟩:∃Z,Z=((.pointer none):Value):=⟨_,rfl⟩;have c1:∀w,(zeroValue 39).run prog w=.ok Z w:=λw=>by rw[hZ];exact Quu w
 obtain⟨zs,a0⟩:∃zs,zs=(Builtin.zeroCells Z.cells 1).toList:=⟨_,rfl⟩;have b8:zs.length=1:=by rw[a0,aH,fr,hZ];rfl
 have a5:∀u∈zs,u.oneCell'=true:=by
  have:zs.all (·.oneCell')=true:=by rw[a0,hZ];kernel_rfl
  exactλu hu=>dg.1 this u hu
 obtain⟨A2,a1⟩:∃A2,A2=(R.toList.take (n-1)++zs++R.toList.drop (n-1+zs.length)).toArray:=⟨_,rfl⟩;obtain⟨W2,a4⟩:∃W2,W2=W1.setRow g A2:=⟨_,rfl⟩;have U:=run_storeCells_at prog g (n-1) 39 zs 0 R W1 b6 (by rw[b8,c0,b5];omega) a5;have e4:∀ty c,(Builtin.clear_ #[114] ty #[.slice (some ⟨g,n-1,none⟩) 1 c]).run prog W1=.ok (.tuple #[]) W2:=λty c=>by
  simp only[Nat.add_zero]at U;rw[<-a1,<-a4]at U;rw[a0]at U;simp[Builtin.clear_,run_underlying underlying114,c1,U]
 have c4:W2.heap[g]? = some (.cells A2 39 (0,0)):=by rw[a4];exact eQ W1 g R A2 39 (0,0) b6
 have c2:Wr w W2 (some g):=by
  rw[a4,a3];exact((Wr.refl w (some g)).drew.trans (fK w.drew R) (λi hi=>.inl hi)).trans (fK (w.drew.setRow g R) A2) (λi hi=>.inl hi)
 have a9:W2.ownsRow base 39 1 (.slice (some ⟨g,0,none⟩) (n-1) D) (n-1) (xs.take (i*1)++xs.drop ((i+1)*1)):=by
  have ht:xs.take (i*1)=J.toList.take (i*1):=by rw[<-N,cU,bx (by omega)]
  refine⟨by simp[b3];omega,.inr ⟨g,D,A2,rfl,c7,c4,by omega,b7,by rw[a1];simp;omega,?_⟩⟩;have e1:(J.toList.take (i*1)++z).length=(n-1)*1:=by rw[ak,ap,aH,X];omega
  rw[<-I,ht,a1];simp only[List.toList_toArray,List.append_assoc];rw[aZ (by rw[ap,aH];omega),cU,bx (by omega),a2];simp only[List.toList_toArray];rw[aZ (by omega),a7 (by omega)]
 have HF:=hY a9;have HW:=hY c2;have HA:=hY hA;have e0:((n-1:Nat):Int)<(n:Int):=by omega
 have d0:¬D=n-1:=by omega
 have d6:n -(n-1)=1:=by omega
 have d3:((n-1:Nat):Int)<=(n:Int):=by omega
 clear a9 c2 c1 hZ c4 b6 U c0 a4 a3 a1 a2 a6 X c3 I b0 hg b5 N h1 b3 b8 a5 a0;go_in;go_wp2_with fail;go_region_law (refine Qf4 _ rfl _ _ 114 114 rfl _ _ (by simp[Act.eval,Act.put]) (by simp[Act.eval,Act.put]) (c8 _) ?_);go_wp2_with fail;go_ret;exact⟨rfl,HF.o,HW.o⟩
structure St(H:Nat->Prop)(w w':World):Prop where
 os:w'.os=w.os
 tape:w'.tape=w.tape
 output:w'.output=w.output
 size:w.heap.size<=w'.heap.size
 block:∀b,b<w.heap.size->¬H b->w'.heap[b]? = w.heap[b]?
 fz:∀b o,w'.frozen? ⟨b,o,none⟩=w.frozen? ⟨b,o,none⟩
theorem Ext.fz(h:Ext w w')(b o:Nat):w'.frozen? ⟨b,o,none⟩=w.frozen? ⟨b,o,none⟩:=by
 by_cases z:b<w.heap.size
 .exact h.frozen z
 rw[h.free _ _ (by omega),frozen_none (by omega)]
theorem Ext.st(h:Ext w w')(H:Nat->Prop):St H w w':=⟨h.below.os,h.below.tape,h.below.output,h.size,λ_ z _=>h.heap z,h.fz⟩
theorem St.refl(H:Nat->Prop)(w:World):St H w w:=(fv w).st H
variable{H:Nat->Prop}
theorem Wr.st{z:Option Nat}(h:Wr w w' z)(D:∀i,z=some i->H i):St H w w':=
 ⟨h.grown.os,h.grown.tape,h.grown.output,h.grown.size,λb J I=>h.grown.block b J λe=>I (D b e.symm),h.fz⟩
theorem St.trans{a b c:World}(h:St H a b)(k:St H b c):St H a c:=
 ⟨k.os.trans h.os,k.tape.trans h.tape,k.output.trans h.output,al h.size k.size,λi hi z=>(k.block i (ab hi h.size) z).trans (h.block i hi z),λb o=>(k.fz b o).trans (h.fz b o)⟩
theorem St.mono{a b:World}(h:St H a b)(z:∀i,i<a.heap.size->H i->G i):St G a b:=
 ⟨h.os,h.tape,h.output,h.size,λi hi I=>h.block i hi λD=>I (z i hi D),h.fz⟩
theorem St.Qlz(h:St H w w')(D:∀b,b<w.heap.size->¬H b):Ext w w':=
 ⟨⟨h.os,h.tape,h.output,h.size,λb z=>h.block b z (D b z)⟩,λb o z=>(h.fz b o).trans (frozen_none z)⟩
theorem Ext.step{a w w':World}(h:Ext a w)(k:St H w w')(z:∀b,H b->a.heap.size<=b):Ext a w':=
 (St.trans (h.st H) k).Qlz λb I D=>by have:=z b D;omega
theorem St.ext{a b c:World}(h:St H a b)(k:Ext b c):St H a c:=h.trans (k.st H)
theorem St.set{a w:World}(h:St H a w){p:Addr}(z:a.heap.size<=p.block\/H p.block)(u:Value):St H a (w.setCell p u):=
 ⟨h.os,h.tape,h.output,by simpa[World.setCell]using h.size,λi hi D=>(eP w p u i (by
   rintro rfl;rcases z with z|z
   .omega
   exact D z)).trans (h.block i hi D),λb o=>by rw[World.frozen?_setCell];exact h.fz b o⟩
theorem St.cell(h:St H w w'){b o:Nat}(D:b<w)(z:¬H b):w'.cell? ⟨b,o,none⟩=w.cell? ⟨b,o,none⟩:=
 eS (w:=w) (a:=⟨b,o,none⟩) (h.block b D z)
theorem St.drew{a w:World}(h:St H a w):St H a w.drew:=h.ext ((fv w).drew)
theorem St.alloc{a w:World}(h:St H a w)(c:Array Value)(t:TypeId):St H a (w.alloc (.cells c t)):=h.ext ((fv w).alloc c t)
variable{g:Nat}
theorem St.blk{t:TypeId}{cs:Array Value}(h:St H w w')(z:Blk w g t cs)(D:¬H g):Blk w' g t cs:=(h.block g z.lt D).trans z
abbrev NH(H:Nat->Prop)(w:World):Nat->Prop:=λb=>b<w.heap.size/\¬H b
theorem St.agree(h:St H w w'):Agree (NH H w) w w':=λb z=>h.block b z.1 z.2
abbrev ft:=@of_decide_eq_true
variable{xs:List LE}
theorem OE.block{base:Nat}(h:OE w base s xs)(X:0<xs.length):∃g cap,s=⟨some ⟨g,0,none⟩,cap⟩/\base<=g/\xs.length<=cap/\cap<=maxLen/\Qao w g 70 7 cap:=by
 rcases h.own.2 with⟨R,Y⟩ |⟨g,cap,D,R,J,U,z,I,N,-⟩
 .omega
 simp only[Value.slice.injEq]at R;exact⟨g,cap,by obtain⟨a,c⟩:=s;simp_all,J,z,I,D,U,N⟩
variable{u:Value}
theorem QoE(xs:List LE)(i:Nat)(x:LE)(hi:i<xs.length)(hu:(Qai (xs.set i x))[p]? = some u) :
  (∃c,c<7/\p=i*7+c/\x.cells[c]? = some u)\/((p<i*7\/i*7+7<=p)/\(Qai xs)[p]? = some u):=by
 have J:p<xs.length*7:=by have:=(ah.1 hu).1;rw[Qcy,bS]at this;exact this
 obtain⟨j,c,rfl,z⟩:∃j c,p=j*7+c/\c<7:=⟨p/7,p%7,by omega,by omega⟩;by_cases I:j=i
 ·subst I
  rw[QcK (x:=x) (by rw[cV hi]) c z]at hu;exact .inl ⟨c,z,rfl,hu⟩
 obtain⟨y,D⟩:∃y,xs[j]? = some y:=⟨_,ac (by omega)⟩;rw[QcK (x:=y) (by rw[de (by omega)];exact D) c z]at hu;exact .inr ⟨by omega,by rw[QcK D c z];exact hu⟩
variable{sl so:Sl}
theorem OE.set{base g cap:Nat}(N:OE w base ⟨some ⟨g,0,none⟩,cap⟩ xs)(Z:base<=g)(hb:base<=w.heap.size)(J:xs.length<=cap)(U:cap<=maxLen)(Y:Qao w g 70 7 cap){i:Nat}(hi:i<xs.length){k:ByteArray}{v:Val}(hv:RV w (Lt base) v sl so)(hk:k.size<=maxLen) :
  ES (Qe8 w g (i*7) k v sl so) (Lt w) ⟨some ⟨g,0,none⟩,cap⟩ (xs.set i ⟨k,v,sl,so⟩):=by
 have D:=Qg3 Y (o:=i*7) k v sl so (by omega);refine⟨⟨g,0,?_,by rw[Qcy],λp u hu=>?_⟩,λx R=>?_,by rw[bS];exact N.few⟩
 .rw [bS];exact .some _ _ _ _ J U Y.lt
 ·rw [aA]
  rcases QoE xs i _ hi hu with⟨c,hc,rfl,z⟩ |⟨hd,X⟩
  ·have I:c=0∨c=1∨c=2∨c=3∨c=4∨c=5∨c=6:=by omega
   rcases I with rfl|rfl|rfl|rfl|rfl|rfl|rfl
   .exact D.1.trans z
   .exact D.2.c0.trans z
   .exact D.2.c1.trans z
   .exact D.2.c2.trans z
   .exact D.2.c3.trans z
   .exact D.2.c4.trans z
   exact D.2.c5.trans z
  rw[QbJ _ _ _ _ _ _ _ _ (by omega)];have:=N.own.cells (g:=g) rfl p u X;rwa[Qbu,aA]at this
 rcases bB R with R|rfl
 .exact ⟨((N.vals x R).1.agree (Qc7 w g _ k v sl so (λh=>h.2 rfl))).mono λi hi=>hi.1.2,(N.vals x R).2⟩
 exact⟨(hv.agree (Qc7 w g _ k v sl so (λh=>by have h:g<base:=h;omega))).mono λi hi=>ab hi hb,hk⟩
theorem LE.one(x:LE):∀u∈x.cells,u.oneCell'=true:=by
 intro u hu;simp only[LE.cells,List.mem_cons,List.not_mem_nil,or_false]at hu;rcases hu with rfl|rfl|rfl|rfl|rfl|rfl|rfl<;>rfl
theorem QaM(xs:List LE):∀u∈Qai xs,u.oneCell'=true:=λu hu=>by
 obtain⟨x,-,z⟩:=cA.1 hu;exact x.one u z
variable{s':Sl}{x:LE}
theorem OE.inserted{base p:Nat}(R:OE w base s xs)(hp:p<=xs.length)(U:base<=w.heap.size)(Z:RV w (Lt base) x.v x.sl x.so)(D:x.k.size<=maxLen)(Y:(xs.length+1)*104<=140737488355328)
  (N:w'.ownsRow base 70 7 (.slice s'.a (xs.length+1) s'.c) (xs.length+1) ((Qai xs).take (p*7)++x.cells++(Qai xs).drop (p*7))) (I:Wr w w' s.row) :
  ES w' (Lt w') s' (xs.take p++x::xs.drop p):=by
 have X:(xs.take p++x::xs.drop p).length=xs.length+1:=by simp;omega
 have J:∀b,s.row=some b->base<=b:=λb U=>(R.own.lt b (by obtain⟨a,c⟩:=s;cases a<;>simp_all [Value.ownBlock,Sl.row])).1
 refine⟨?_,λy z=>?_,by rw[X];exact Y⟩
 ·have h1:=fE N
  rw[X,QaA,QbZ,<-Qc1,<-Qc0,<-aS];exact h1.mono λi hi=>hi.2
 rcases aB.1 z with z|z
 ·have h1:=R.vals y (aN z)
  exact⟨(h1.1.agree (I.agree (λi hi=>hi.1.2) λk D h=>h.2 D)).mono λi hi=>ab hi.1.2 I.grown.size,h1.2⟩
 rcases aG.1 z with rfl|z
 .exact ⟨(Z.agree (I.agree (λi hi=>ab hi U) λk D h=>cQ _ (ab h (J k D)))).mono λi hi=>ab hi (al U I.grown.size),D⟩
 have h1:=R.vals y (aD z);exact⟨(h1.1.agree (I.agree (λi hi=>hi.1.2) λk D h=>h.2 D)).mono λi hi=>ab hi.1.2 I.grown.size,h1.2⟩
def QiZ(es:List Ent)(k:ByteArray)(v:Val)(w:World)(e:Ending)(w':World):Prop:=
 ∃ts:List (PT 0),e=two 0 ts/\ts.map Prod.snd=chunk (Qbq es k v)/\(∀u∈ts,w.heap.size<=u.1/\IsN w' (In w.heap.size w'.heap.size) 0 u)/\Ext w w'
theorem Qkl{es:List Ent}{k:ByteArray}{v:Val}(z:Ext w w3){ts:List (PT 0)}(h1:ts.map Prod.snd=chunk (Qbq es k v))(h2:∀t∈ts,w3.heap.size<=addr 0 t/\IsN w' (In w3.heap.size w'.heap.size) 0 t)(D:Ext w3 w'):QiZ es k v w (two 0 ts) w':=
 ⟨ts,rfl,h1,λu hu=>⟨Nat.le_trans z.size (h2 u hu).1,(h2 u hu).2.mono λi hi=>⟨Nat.le_trans z.size hi.1,hi.2⟩⟩,z.trans D⟩
theorem Qkd{es:List Ent}{ts:List (PT 0)}(h:ts.map Prod.snd=chunk es):(∃a,ts=[a])\/∃a b,ts=[a,b]:=by
 rcases Qgz es with⟨a,D⟩ |⟨a,b,D⟩<;>rw[D]at h
 .obtain ⟨x,z,-⟩:=Qus h;exact .inl ⟨x,z⟩
 obtain⟨x,y,z,-⟩:=QuJ h;exact .inr ⟨x,y,z⟩
variable{nv:Value}
theorem Qkm{es:List Ent}(hh:∀W,Ext w W->Calls prog 94 #[nv] W λe w'=>e=.returned (.int .i64 0)/\W=w')(he:∀W,Ext w W->Calls prog 101 #[nv] W (QaQ es W))
  (hs:Sorted es) (h8:es.length<=8) {k:ByteArray} {v:Val} (hv:RV w (Lt w) v sl so) (e3:k.size<=maxLen) :
  Calls prog 63 #[nv,Qgu k v sl so] w (QiZ es k v w):=by
 have HH:=hY hh;have HE:=hY he;have HV:=hY hv;have HS:=hY hs;clear hh he hv hs;go_in;go_wp2_with fail;have a4:Ext w (w.alloc (.cells #[.string k,.int .i64 v.kind,.bool v.b,.int .i64 v.i,.string v.t,.slice sl.a v.l.length sl.c,.slice so.a v.ok.length so.c] 70)):=(fv w).alloc _ _;have e4:=fA w 70 #[.string k,.int .i64 v.kind,.bool v.b,.int .i64 v.i,.string v.t,.slice sl.a v.l.length sl.c,.slice so.a v.ok.length so.c];generalize e2:World.alloc _ _=W0 at *;have d8:W0.heap.size=w.heap.size+1:=by rw[<-e2];simp
 clear e2;refine(HH.o _ a4).mono ?_;rintro e w1 ⟨rfl,rfl⟩;go_wp2_with fail;refine(HE.o _ a4).mono ?_;rintro e w1 ⟨s',D,rfl,a2,ho,a0⟩;have b6:=e4.ext a0;obtain⟨c0,c1,c2,c3,c4,c5,c6⟩:=b6.c7;have J:=QjT (w:=w1) (ho.es.mono λi hi=>hi.2) k (by rw[a2];exact HS.o);rw[a2]at J;obtain⟨p,hp⟩:∃p,Qcc es k=p:=⟨_,rfl⟩;have e8:=Qk3 es k;unfold Qgs at J;have I:=QlM HS.o k v;rw[hp]at J e8 I;have b4:D.length=es.length:=by rw[<-a2,ao]
 have HO:=hY ho;have f5:=hY J;have HI:=hY I;have e1:=hY a2;have i0:=hY a0;have U:=hY b4;have g6:D.length<=8:=by omega
 clear ho J hp I a2 b4;go_wp2_with fail;refine f5.o.mono ?_;rintro e w2 ⟨rfl,Y⟩;have c9:=b6.ext Y;obtain⟨d0,d1,d2,d3,d4,d5,d6⟩:=c9.c7;clear c0 c1 c2 c3 c4 c5 c6;have d7:Ext w w2:=(a4.trans a0).trans Y;have b0:=HO.o.ext Y;have b3:=hY d7;have b5:=hY b0;have g0:=c9.lt;have R:W0.heap.size<=w2.heap.size:=(a0.trans Y).size;clear b6 c9 e4 a4 a0 Y d7;cases ht:decide ((es[p]?).map Prod.fst=some k)
 ·have Z:¬(es[p]?).map Prod.fst=some k:=of_decide_eq_false ht
  have e0:Qbq es k v=es.take p++(k,v)::es.drop p:=by rw[HI.o,ef Z]
  have X:Ext w2 (w2.alloc (.cells #[.string k,.int .i64 v.kind,.bool v.b,.int .i64 v.i,.string v.t,.slice sl.a v.l.length sl.c,.slice so.a v.ok.length so.c] 70)):=(fv w2).alloc _ _;have e6:=fA w2 70 (LE.cells ⟨k,v,sl,so⟩).toArray;have f7:=hY e0;clear b0 e0 Z;go_wp2_with fail;change Calls _ _ _ (w2.alloc (.cells (LE.cells ⟨k,v,sl,so⟩).toArray 70)) _;change Ext w2 (w2.alloc (.cells (LE.cells ⟨k,v,sl,so⟩).toArray 70))at X;generalize f6:w2.alloc (.cells (LE.cells ⟨k,v,sl,so⟩).toArray 70)=W3 at *;have c8:=b5.o.ext X;have a1:RV W3 (Lt W0) v sl so:=(HV.o.agree ((b3.o.trans X).agree λ_ h=>h)).mono λi hi=>ab hi (by rw[d8];exact cH _)
  have f0:s'.row≠some w2.heap.size:=λh=>by
   have:=(b5.o.own.lt w2.heap.size (by obtain⟨a,c⟩:=s';cases a<;>simp_all [Value.ownBlock,Sl.row])).2;omega
  have I:=QlL (i:=p) (base:=W0) c8.own (al R X.size) (by omega) (by have:=U.o;omega) (LE.len ⟨k,v,sl,so⟩) e6 f0 (LE.one _) (QaM _);have e7:=hY X;have f1:=hY c8;have f3:=hY a1;clear X c8 a1 e6 f0 f6;refine I.mono ?_;rintro e w4 ⟨s4,rfl,a3,a5,-⟩;have a9:=f1.o.inserted (by have:=U.o;omega) (al R e7.o.size) (x:=⟨k,v,sl,so⟩) f3.o e3 (by omega) a3 a5;have hl:(D.take p++⟨k,v,sl,so⟩::D.drop p).length=D.length+1:=by have:=U.o;simp;omega
  have hm:(D.take p++⟨k,v,sl,so⟩::D.drop p).map LE.ent=Qbq es k v:=by
   rw[f7.o,<-e1.o,aL,aR,cO,cy];rfl
  have N:=QhX a9 (Qc8 (by rw[hm];exact QaS HS.o k v)) (by omega);rw[hl,hm]at N;have a6:Ext w w4:=(b3.o.trans e7.o).wr a5 λi hi=>by
   have:=(f1.o.own.lt i (by obtain⟨a,c⟩:=s';cases a<;>simp_all [Value.ownBlock,Sl.row])).1;omega
  have b7:=hY N;have b8:=hY a6;clear a9 N a6 a3 a5 hl hm I;go_wp2_with fail;refine b7.o.mono ?_;rintro e w5 ⟨ts,rfl,h1,h2,h3⟩;have H2:=hY h2;have H1:=hY h1;clear h2;rcases Qkd h1 with⟨a,rfl⟩ |⟨a,b,rfl⟩
  all_goals
   clear h1;simp only[two];go_wp2_with fail;go_ret2;exact Qkl b8.o H1.o H2.o h3
 have Z:(es[p]?).map Prod.fst=some k:=ft ht;have J:p<D.length:=by
  cases hq:es[p]? with
  |none=>rw[hq]at Z;cases Z
  |some x=>rw[U.o];exact(ah.1 hq).1
 obtain⟨g,g8,rfl,f4,f8,f2,z⟩:=b0.block (by omega);have a1:RV w2 (Lt W0) v sl so:=(HV.o.agree (b3.o.agree λ_ h=>h)).mono λi hi=>ab hi (by rw[d8];exact cH _)
 have a9:=b5.o.set f4 R f8 f2 z J a1 e3;have hm:(D.set p ⟨k,v,sl,so⟩).map LE.ent=Qbq es k v:=by
  rw[HI.o,em Z,<-e1.o,bL,bW,em (by simpa using J)];rfl
 have N:=QhX (w:=Qe8 w2 g (p*7) k v sl so) (a9.mono λi hi=>by rw[Qg4];exact hi) (Qc8 (by rw[hm];exact QaS HS.o k v)) (by rw[bS];omega);rw[hm,bS]at N;have a6:Ext w (Qe8 w2 g (p*7) k v sl so):=b3.o.Qe8 (by omega) _ _ _ _ _;have b8:=hY a6;obtain⟨x0,a4⟩:∃v,w2.cell? ⟨g,p*7,none⟩=some v:=z.cell (by omega);obtain⟨x1,a0⟩:∃v,w2.cell? ⟨g,p*7+1,none⟩=some v:=z.cell (by omega);obtain⟨x2,Y⟩:∃v,w2.cell? ⟨g,p*7+2,none⟩=some v:=z.cell (by omega);obtain⟨x3,g9⟩:∃v,w2.cell? ⟨g,p*7+3,none⟩=some v:=z.cell (by omega);obtain⟨x4,g7⟩:∃v,w2.cell? ⟨g,p*7+4,none⟩=some v:=z.cell (by omega);obtain⟨x5,i1⟩:∃v,w2.cell? ⟨g,p*7+5,none⟩=some v:=z.cell (by omega);obtain⟨x6,g3⟩:∃v,w2.cell? ⟨g,p*7+6,none⟩=some v:=z.cell (by omega);have g5:=z.frozen;have f9:(p:Int)<(D.length:Int):=by omega
 have b7:=hY N;have g4:=z.lt;clear a9 N z b0 a1 hm a6;go_wp2_with fail;change Calls _ _ _ (Qe8 w2 g (p*7) k v sl so) _;refine b7.o.mono ?_;rintro e w5 ⟨ts,rfl,h1,h2,h3⟩;have H2:=hY h2;have H1:=hY h1;clear h2;rcases Qkd h1 with⟨a,rfl⟩ |⟨a,b,rfl⟩
 all_goals
  clear h1;simp only[two];go_wp2_with fail;go_ret2;exact Qkl b8.o H1.o H2.o h3
def QeL(base:Nat)(s:Sl)(n i:Nat)(xs ys:List Value)(w:World)(e:Ending)(w':World):Prop:=
 ∃s':Sl,e=.returned (.slice s'.a (n+1) s'.c)/\w'.ownsRow base 39 1 (.slice s'.a (n+1) s'.c) (n+1) (xs.take (i*1)++ys++xs.drop (i*1))/\Wr w w' s.row/\(s'.row=s.row\/∃b,s'.row=some b/\w.heap.size<=b)
section
variable{w : World}{base n i : Nat}{s : Sl}{xs ys : List Value}{vb : Nat}
theorem QqS(z:w.ownsRow base 39 1 (.slice s.a n s.c) n xs)(I:base<=w.heap.size)(hn:n<=1000)(hy:ys.length=1)(R:Blk w vb 39 ys.toArray)(h1:∀u∈ys,u.oneCell'=true) :
  Calls prog 107 #[.slice s.a n s.c,.int .i64 n,.slice (some ⟨vb,0,none⟩) 1 1] w (QeL base s n n xs ys w):=by
 obtain⟨i0,hi,X,a0,a1⟩:=eG Tryz.QbQ;have D:Rd w (λ_=>True) 1 ⟨some ⟨vb,0,none⟩,1⟩ 1 ys:=⟨vb,0,.some _ _ _ _ (an _) (by decide) trivial,by simpa using hy,λj u hj=>by rw[R.cell];simpa using hj⟩;have N:xs.take (n*1)++ys++xs.drop (n*1)=xs++ys:=by
  rw[a7 (by rw[z.1];exact an _),bC (by rw[z.1];exact an _),aY]
 have HO:=hY z;have HS:=hY D;have H1:=hY h1;have HX:=hY N;have Z:n+1<=maxLen:=by unfold maxLen;omega
 have a2:n<=s.c:=by
  rcases z.2 with⟨R,h0⟩ |⟨g,a3,a4,R,_,_,a5,_⟩
  .omega
  simp only[Value.slice.injEq]at R;omega
 have a6:((n:Int) ==(n:Int))=true:=by simp
 clear z D R h1 hy N;obtain⟨sa,sc⟩:=s;dsimp only at *;go_in;go_wp2_with(at_builtin;refine Qac _ rfl _ _ 114 rfl base 39 i0 (.pointer none) 1 8 underlying114 hi X a0 a1 rfl (by decide) ⟨sa,sc⟩ n xs rfl HO.o (λ_=>True) ⟨some ⟨vb,0,none⟩,1⟩ 1 ys rfl HS.o H1.o Z (by omega) I ?_;intro s' w1 J Y U)
 all_goals
  go_ret;refine⟨s',by simp,by rw[HX.o];exact J,Y,?_⟩;rcases U with h |⟨h,-⟩
  .exact .inl (by simp[Sl.row,h])
  exact .inr ⟨w,by simp[Sl.row,h],an _⟩
theorem QmT{g cap:Nat}{z:Array Value}(a1:xs.length=n*1)(b8:base<=g)(hg:w.heap[g]? = some (.cells z 39 (0,0)))(a4:n+1<=cap)(a6:cap<=maxLen)(c2:z.size=cap*1)(D:z.toList.take (n*1)=xs)
  (hn:n<=1000) (d6:i<n) (hy:ys.length=1) (hv:Blk w vb 39 ys.toArray) (a9:vb≠g) (h1:∀u∈ys,u.oneCell'=true) (b4:∀u∈xs,u.oneCell'=true) :
  Calls prog 107 #[.slice (some ⟨g,0,none⟩) n cap,.int .i64 i,.slice (some ⟨vb,0,none⟩) 1 1] w (QeL base ⟨some ⟨g,0,none⟩,cap⟩ n i xs ys w):=by
 obtain⟨i0,hi,c9,a2,e0⟩:=eG Tryz.QbQ;have d3:((i:Int) ==(n:Int))=false:=eu.2 (by omega);have c4:(i:Int)<(n:Int):=by omega
 have d4:¬(cap:Int)<(n:Int)+1:=by omega
 have c6:(cap:Int)<=9223372036854775807:=by unfold maxLen at a6;omega
 have d5:¬cap=i:=by omega
 have d7:¬cap=i+1:=by omega
 have d0:IntKind.i64.wrap ((i:Int)+1)=(i:Int)+1:=by rw[ew];omega
 have c8:(0:Int)<=(i:Int)+1:=by omega
 have d8:((i:Int)+1).toNat=i+1:=by omega
 have c3:i<=n:=by omega
 have c7:(i:Int)<=(n:Int)+1:=by omega
 have c0:∀lb cb,(callFunc 150 #[.slice (some ⟨vb,0,none⟩) 1 1,.slice (some ⟨g,i+1,none⟩) lb cb]).run prog w=.ok (.value (.bool false)) w:=λlb cb=>by
  rw[run_callFunc_extern func150 (by kernel_rfl) (by kernel_rfl) (by kernel_rfl) (e:=Extern.SlicesOverlaps.overlaps #[114,114] #[4]) (by kernel_rfl),
   Lib.run_overlaps_apart w 114 4 39 underlying114 1 (λw=>by simp[sizeOf,typeInfo,hi,a2]) ⟨vb,0,none⟩ ⟨g,i+1,none⟩ 1 1 lb cb a9 39 39 ys.toArray.size z.size (by simp[World.shape?,show w.heap[vb]? = some (.cells ys.toArray 39 (0,0))from hv]) (by simp[World.shape?,hg]) (by omega) (hv.frozen _) (hv.frozen _)]
  rfl
 have a0:(xs.drop (i*1)).length=(n-i)*1:=by rw[au,a1,<-dv]
 have b0:∀j v,(xs.drop (i*1))[j]? = some v->w.drew.cell? ⟨g,i+j,none⟩=some v:=λj v hj=>by
  rw[eV,eY w g _ z 39 (0,0) hg];rw[bj,<-D,bm]at hj;split at hj
  .simpa using hj
  cases hj
 obtain⟨I,U⟩:∃I,I=(z.toList.take (i+1)++xs.drop (i*1)++z.toList.drop (i+1+(xs.drop (i*1)).length)).toArray:=⟨_,rfl⟩;obtain⟨N,J⟩:∃N,N=w.drew.setRow g I:=⟨_,rfl⟩;have a5:∀ty Z sc,(Builtin.copy_ #[114,114] ty #[.slice (some ⟨g,i+1,none⟩) (n-i) Z,.slice (some ⟨g,i,none⟩) (n+1-i) sc]).run prog w.drew=.ok (goInt (Nat.min (n+1-i) (n-i))) N:=λty Z sc=>by
  rw[J,U];exact QbL w.drew 114 114 ty 39 1 g (i+1) (n-i) Z ⟨some ⟨g,i,none⟩,sc⟩ (n+1-i) z 39 (xs.drop (i*1)) underlying114 (by rw[hi];simp[a2]) hg
   (by rw[a0,show Nat.min (n+1-i) (n-i)=n-i from by simp only[Nat.min_def];split<;>omega]) (by simp) (by rintro b o' ⟨⟩;exact b0) (by rintro a ⟨⟩;rfl) (by rw[a0];omega) (λu hu=>b4 u (aD hu))
 have c1:I.size=z.size:=by rw[U];simp;omega
 have a3:N.heap[g]? = some (.cells I 39 (0,0)):=by rw[J];exact eQ w.drew g z I 39 (0,0) hg
 have b5:Blk N vb 39 ys.toArray:=by rw[J];exact(fq w.drew g vb I a9).trans hv
 obtain⟨A2,R⟩:∃A2,A2=(I.toList.take (i)++ys++I.toList.drop (i+ys.length)).toArray:=⟨_,rfl⟩;obtain⟨W2,X⟩:∃W2,W2=N.setRow g A2:=⟨_,rfl⟩;have b6:∀ty Z,(Builtin.copy_ #[114,114] ty #[.slice (some ⟨g,i,none⟩) (n+1-i) Z,.slice (some ⟨vb,0,none⟩) 1 1]).run prog N=.ok (goInt (Nat.min 1 (n+1-i))) W2:=λty Z=>by
  rw[X,R];exact QbL N 114 114 ty 39 1 g (i) (n+1-i) Z ⟨some ⟨vb,0,none⟩,1⟩ 1 I 39 ys underlying114 (by rw[hi];simp[a2]) a3
   (by rw[hy,show Nat.min 1 (n+1-i)=1 from by simp only[Nat.min_def];split<;>omega]) (by simp) (by rintro b o' ⟨⟩;exactλj v hj=>by rw[b5.cell];simpa using hj) (by rintro a ⟨⟩;rfl) (by omega) h1
 have b7:W2.heap[g]? = some (.cells A2 39 (0,0)):=by rw[X];exact eQ N g I A2 39 (0,0) a3
 have b3:Wr w W2 (some g):=by
  rw[X,J];exact((Wr.refl w (some g)).drew.trans (fK w.drew I) (λi hi=>.inl hi)).trans (fK (w.drew.setRow g I) A2) (λi hi=>.inl hi)
 have Y:W2.ownsRow base 39 1 (.slice (some ⟨g,0,none⟩) (n+1) cap) (n+1) (xs.take (i*1)++ys++xs.drop (i*1)):=by
  refine⟨by simp[a1,hy];omega,.inr ⟨g,cap,A2,rfl,b8,b7,a4,a6,by rw[R];simp;omega,?_⟩⟩;rw[R,U];exact QhV z.toList xs ys (i*1) (n*1) 1 _ _ _ _ _ D.symm hy (by omega) (by rw[aH];omega) (by omega) rfl (by omega) (by omega) (by omega)
 have HF:=hY Y;have HW:=hY b3;clear Y b3 b7 a3 b5 c1 X J R U b0 a0 hg hv h1 b4 a1 D c2;go_in;go_wp2_with(simp only[c0]);go_region_law (refine Qdq _ rfl _ _ 114 114 rfl _ _ (by simp[Act.eval,Act.put]) (by simp[Act.eval,Act.put]) (a5 _ _ _) ?_);go_wp2_with(at_builtin;refine Qcl _ rfl _ _ 114 114 rfl _ _ rfl rfl (b6 _ _) ?_);go_ret;exact⟨⟨some ⟨g,0,none⟩,cap⟩,rfl,HF.o,HW.o,.inl rfl⟩
theorem QoR{g cap:Nat}{Z:Array Value}(N:xs.length=n*1)(b4:base<=w.heap.size)(hg:w.heap[g]? = some (.cells Z 39 (0,0)))(f7:n<=cap)(b3:cap<n+1)(e0:Z.size=cap*1)(D:Z.toList.take (n*1)=xs)
  (hn:n<=1000) (f8:i<n) (hy:ys.length=1) (hv:Blk w vb 39 ys.toArray) (e7:vb≠g) (h1:∀u∈ys,u.oneCell'=true) (c7:∀u∈xs,u.oneCell'=true) :
  Calls prog 107 #[.slice (some ⟨g,0,none⟩) n cap,.int .i64 i,.slice (some ⟨vb,0,none⟩) 1 1] w (QeL base ⟨some ⟨g,0,none⟩,cap⟩ n i xs ys w):=by
 obtain⟨i0,hi,d4,b6,c9⟩:=eG Tryz.QbQ;have f5:((i:Int) ==(n:Int))=false:=eu.2 (by omega);have e4:(i:Int)<(n:Int):=by omega
 have f1:(cap:Int)<(n:Int)+1:=by omega
 have f6:¬cap=i:=by omega
 have f4:IntKind.i64.wrap ((i:Int)+1)=(i:Int)+1:=by rw[ew];omega
 have f0:(0:Int)<=(i:Int)+1:=by omega
 have f2:((i:Int)+1).toNat=i+1:=by omega
 have e2:i<=n:=by omega
 have f3:(i:Int)<=(n:Int):=by omega
 have e8:(i:Int)+1<=(n:Int)+1:=by omega
 have d3:g<w.heap.size:=fm hg;have d7:vb<w.heap.size:=hv.lt;obtain⟨G,hG⟩:∃G,G=grownCap w (n+1) cap 39:=⟨_,rfl⟩;have d8:n+1<=G:=by rw[hG];exact grownCap_ge w _ _ _
 have e3:G<=9223372036854775807:=by
  have:=grownCap_le_maxLen w (n+1) cap 39 (by unfold maxLen;omega);rw[<-hG]at this;unfold maxLen at this;omega
 have b5:i+(n+1-i)=n+1:=by omega
 obtain⟨z,J⟩:∃z:Array Value,z=(xs.take (i*1)).toArray++Builtin.zeroCells ((.pointer none):Value).cells (n+1-i)++Builtin.zeroCells ((.pointer none):Value).cells (G -(n+1)):=⟨_,rfl⟩;have e1:z.size=G*1:=by
  rw[J];simp only[Array.size_append,List.size_toArray,size_zeroCells,List.length_take,N];rw[show((.pointer none):Value).cells.size=1 from rfl];omega
 have c4:z.toList.take (i*1)=xs.take (i*1):=by
  rw[J];simp only[Array.toList_append,List.append_assoc];rw[aZ (by simp[N];omega),a7 (by simp;omega)]
 obtain⟨U,a1⟩:∃U,U=w.drew.alloc (.cells z 39):=⟨_,rfl⟩;have d5:∀Y,(Builtin.append_ #[114,3] Y #[.slice (some ⟨g,0,none⟩) i cap,.int .i64 ((n:Int)+1 -(i:Int))]).run prog w=.ok (.slice (some ⟨w.heap.size,0,none⟩) (n+1) G) U:=λY=>by
  have c3:(Builtin.firstCells i0.size i (.slice (some ⟨g,0,none⟩) i cap)).run prog w.drew=.ok (xs.take (i*1)).toArray w.drew:=by
   rw[b6];exact run_firstCells_some w.drew 1 i ⟨g,0,none⟩ i cap (xs.take (i*1)) (by rw[ap];omega) (λj v I=>by
    rw[Qbu,aA,eV,eY w g _ Z 39 (0,0) hg];rw[bm]at I;split at I
    ·rw [←D,bm] at I
     split at I
     .simpa using I
     cases I
    cases I)
  have h:=Lib.run_append_grow_zeros w 114 3 Y 39 i0 _ .i64 .i64 underlying114 underlying3 hi d4 (some ⟨g,0,none⟩) i cap (xs.take (i*1)) c3 (n+1-i) (by omega) (by omega) (by omega) (by omega) (by rw[c9];omega) (by rw[c9,b5];exact growslice_fits b3 (by omega));rw[b5,<-hG,<-J,<-a1]at h;rw[show(n:Int)+1 -(i:Int)=((n+1-i:Nat):Int)from by omega];exact h
 have b8:U.heap[w.heap.size]? = some (.cells z 39 (0,0)):=by rw[a1];exact fh w.drew _
 have a0:∀k,k<w.heap.size->U.heap[k]? = w.heap[k]?:=λk hk=>by rw[a1];exact eJ w.drew _ k hk
 have c8:Blk U vb 39 ys.toArray:=(a0 vb d7).trans hv;obtain⟨R,a5⟩:∃R,R=(z.toList.take (i)++ys++z.toList.drop (i+ys.length)).toArray:=⟨_,rfl⟩;have d6:R.size=G*1:=by rw[a5];simp;omega
 obtain⟨X,a2⟩:∃X,X=U.setRow w.heap.size R:=⟨_,rfl⟩;have c1:∀Y dc,(Builtin.copy_ #[114,114] Y #[.slice (some ⟨w.heap.size,i,none⟩) (n+1-i) dc,.slice (some ⟨vb,0,none⟩) 1 1]).run prog U=.ok (goInt (Nat.min 1 (n+1-i))) X:=λY dc=>by
  rw[a2,a5];exact QbL U 114 114 Y 39 1 w.heap.size (i) (n+1-i) dc ⟨some ⟨vb,0,none⟩,1⟩ 1 z 39 ys underlying114 (by rw[hi];simp[b6]) b8
   (by rw[hy,show Nat.min 1 (n+1-i)=1 from by simp only[Nat.min_def];split<;>omega]) (by simp) (by rintro b o' ⟨⟩;exactλj v I=>by rw[c8.cell];simpa using I) (by rintro a ⟨⟩;rfl) (by omega) h1
 have b7:X.heap[w.heap.size]? = some (.cells R 39 (0,0)):=by rw[a2];exact eQ U _ z R 39 (0,0) b8
 have a6:∀k,k<w.heap.size->X.heap[k]? = w.heap[k]?:=λk hk=>by rw[a2];exact(fq U _ k R (by omega)).trans (a0 k hk)
 have b0:(xs.drop (i*1)).length=(n-i)*1:=by rw[au,N,<-dv]
 have c0:∀j v,(xs.drop (i*1))[j]? = some v->X.drew.cell? ⟨g,i+j,none⟩=some v:=λj v I=>by
  rw[eV,eY X g _ Z 39 (0,0) ((a6 g d3).trans hg)];rw[bj,<-D,bm]at I;split at I
  .simpa using I
  cases I
 obtain⟨A2,a3⟩:∃A2,A2=(R.toList.take (i+1)++xs.drop (i*1)++R.toList.drop (i+1+(xs.drop (i*1)).length)).toArray:=⟨_,rfl⟩;obtain⟨W3,a4⟩:∃W3,W3=X.drew.setRow w.heap.size A2:=⟨_,rfl⟩;have d0:∀Y dc sc,(Builtin.copy_ #[114,114] Y #[.slice (some ⟨w.heap.size,i+1,none⟩) (n-i) dc,.slice (some ⟨g,i,none⟩) (n-i) sc]).run prog X.drew=.ok (goInt (Nat.min (n-i) (n-i))) W3:=λY dc sc=>by
  rw[a4,a3];exact QbL X.drew 114 114 Y 39 1 w.heap.size (i+1) (n-i) dc ⟨some ⟨g,i,none⟩,sc⟩ (n-i) R 39 (xs.drop (i*1)) underlying114 (by rw[hi];simp[b6]) b7
   (by rw[b0,show Nat.min (n-i) (n-i)=n-i from by simp]) (by simp) (by rintro b o' ⟨⟩;exact c0) (by rintro a ⟨⟩;rfl) (by rw[b0];omega) (λu hu=>c7 u (aD hu))
 have c2:W3.heap[w.heap.size]? = some (.cells A2 39 (0,0)):=by rw[a4];exact eQ X.drew _ R A2 39 (0,0) b7
 have c6:Wr w W3 (some g):=by
  rw[a4,a2,a1];exact(((((Wr.refl w (some g)).drew).alloc z 39).trans (fK _ R) (λi hi=>.inr (by injection hi with hi;omega))).drew).trans (fK _ A2) (λi hi=>.inr (by injection hi with hi;omega))
 have a9:W3.ownsRow base 39 1 (.slice (some ⟨w.heap.size,0,none⟩) (n+1) G) (n+1) (xs.take (i*1)++ys++xs.drop (i*1)):=by
  refine⟨by simp[N,hy];omega,.inr ⟨w.heap.size,G,A2,rfl,b4,c2,d8,by unfold maxLen;omega,by rw[a3];simp;omega,?_⟩⟩;rw[a3,a5];exact Qjx z.toList xs ys (i*1) (n*1) 1 _ _ _ _ _ c4 N hy (by omega) (by rw[aH];omega) (by omega) rfl (by omega) (by omega) (by omega)
 have HF:=hY a9;have HW:=hY c6;clear a9 c6 c2 b7 b8 c8 d6 a4 a2 a1 a3 a5 c0 b0 hg hv h1 c7 N D e0 a0 a6 c4 e1 J hG b5;have f9:¬(G=i):=by omega
 have e6:¬(G=i+1):=by omega
 go_in;go_wp2_with(first
  |(at_builtin;refine wpList_append_run _ rfl _ _ 114 3 rfl _ _ rfl rfl (d5 _) ?_)
  |(at_builtin;refine Qcl _ rfl _ _ 114 114 rfl _ _ rfl rfl (c1 _ _) ?_))
 go_region_law (refine Qdq _ rfl _ _ 114 114 rfl _ _ (by simp[Act.eval,Act.put]) (by simp[Act.eval,Act.put]) (d0 _ _ _) ?_);go_wp2;go_ret;exact⟨⟨some ⟨w.heap.size,0,none⟩,G⟩,rfl,HF.o,HW.o,.inr ⟨_,rfl,an _⟩⟩
theorem QlN(z:w.ownsRow base 39 1 (.slice s.a n s.c) n xs)(D:base<=w.heap.size)(hn:n<=1000)(a2:i<=n)(hy:ys.length=1)(hv:Blk w vb 39 ys.toArray)(X:s.row≠some vb)(h1:∀u∈ys,u.oneCell'=true)(N:∀u∈xs,u.oneCell'=true) :
  Calls prog 107 #[.slice s.a n s.c,.int .i64 i,.slice (some ⟨vb,0,none⟩) 1 1] w (QeL base s n i xs ys w):=by
 by_cases he:i=n
 .subst he;exact QqS z D hn hy hv h1
 rcases z.2 with⟨hs,h0⟩ |⟨g,J,a3,hs,a0,hg,a1,Y,R,I⟩
 .omega
 simp only[Value.slice.injEq]at hs;obtain⟨ha,-,hc⟩:=hs;have U:vb≠g:=λe=>X (by simp[Sl.row,ha,e])
 have Z:s=⟨some ⟨g,0,none⟩,J⟩:=by cases s;simp_all
 have hl:=z.1;clear z;subst Z;by_cases hr:n+1<=J
 .exact QmT hl a0 hg hr Y R I hn (by omega) hy hv U h1 N
 exact QoR hl D hg a1 (by omega) R I hn (by omega) hy hv U h1 N
end
theorem Qaa{base e size n:Nat}{xs:List Value}(h:w.ownsRow base e size (.slice s.a n s.c) n xs){b:Nat}(z:s.row=some b):base<=b/\b<w:=
 h.lt b (by obtain⟨a,c⟩:=s;cases a<;>simp_all [Value.ownBlock,Sl.row])
theorem Qa2{base e size n:Nat}{xs:List Value}(h:w.ownsRow base e size (.slice s.a n s.c) n xs)(Y:0<n):∃g cap,s=⟨some ⟨g,0,none⟩,cap⟩/\base<=g/\n<=cap/\cap<=maxLen/\Qao w g e size cap:=by
 rcases h.2 with⟨R,X⟩ |⟨g,cap,J,R,D,U,I,z,N,-⟩
 .omega
 simp only[Value.slice.injEq]at R;exact⟨g,cap,by obtain⟨a,c⟩:=s;simp_all,D,I,z,J,U,N⟩
theorem QbF{base e n g cap:Nat}{xs:List Value}(h:w.ownsRow base e 1 (.slice (some ⟨g,0,none⟩) n cap) n xs){i:Nat}(hi:i<n)(u:Value):(w.setCell ⟨g,i,none⟩ u).ownsRow base e 1 (.slice (some ⟨g,0,none⟩) n cap) n (xs.set i u):=by
 rcases h.2 with⟨N,Z⟩ |⟨g',U,z,N,I,X,J,D,R,Y⟩
 .omega
 simp only[Value.slice.injEq,Option.some.injEq,Addr.mk.injEq,and_true,true_and]at N;obtain⟨rfl,rfl⟩:=N;refine⟨by rw[bS];exact h.1,.inr ⟨g,cap,z.setIfInBounds i u,rfl,I,Blk.Qdz (show Blk w g e z from X) i u,J,D,by rw[Array.size_setIfInBounds];exact R,?_⟩⟩;rw[Array.toList_setIfInBounds,List.take_set,Y]
theorem Qdn:∀{h:Nat} {t:PT h},OkT h t->size h t<=8
 |0,_,ok=>ok
 |_+1,_,ok=>ok.2.1
theorem Qo0{k:ByteArray}{v:Val}{t:PT (h+1)}{z:PT h}{rs:List (PT h)}(I:t.2[Qat h t.2 k]? = some z)(X:QcY B k v h z rs)(ok:OkT (h+1) t)(hs:Sorted (ents (h+1) t)) :
  (t.2.take (Qat h t.2 k)++rs++t.2.drop (Qat h t.2 k+1)).flatMap (ents h)=Qbq (ents (h+1) t) k v:=by
 have Z:=Qb3 ok;obtain⟨N,D,U,Y⟩:=Qbb (h:=h) (ks:=t.2) hs Z (by have:=ok.1;omega) k;rw[I]at D;simp only[Option.some.injEq]at D;subst D;have J:=am I;have R:=QcY.ents X (ok.2.2 z J).1 (QaK hs z J);rw[aP,aP,R];show _=Qbq (t.2.flatMap (Proofs.YtkjkafgnnoidpaaGreatDoor.ents h)) k v
 conv=>rhs;rw[QbU I]
 rw[aP,bc,Qit U,QgN Y,aS]
theorem QsB{k:ByteArray}{v:Val}{t:PT (h+1)}{z:PT h}{rs:List (PT h)}(N:t.2[Qat h t.2 k]? = some z)(R:QcY B k v h z rs)(ok:OkT (h+1) t) :
  ∀u∈t.2.take (Qat h t.2 k)++rs++t.2.drop (Qat h t.2 k+1),OkT h u/\4<=size h u:=by
 have I:=am N;obtain⟨J,U⟩:=QcY.ok R (ok.2.2 z I).1;have D:=(ok.2.2 z I).2;intro u hu;rcases aB.1 hu with hu|hu
 ·rcases aB.1 hu with hu | hu
  .exact ok.2.2 u (aN hu)
  exact⟨(J u hu).1,(J u hu).2.2 D⟩
 exact ok.2.2 u (aD hu)
def Qdc(F:Nat->Prop)(h:Nat)(t:PT h)(k:ByteArray)(v:Val)(w:World)(e:Ending)(w':World):Prop:=
 ∃ts:List (PT h),e=two h ts/\QcY w.heap.size k v h t ts/\(∀u∈ts,IsN w' (Up F w w') h u)/\Ext w w'
def QiY(F:Nat->Prop)(h:Nat)(t:PT h)(k:ByteArray)(v:Val)(w:World)(e:Ending)(w':World):Prop:=
 ∃(a:PT h) (r:Value) (rs:List (PT h)),e=.returned (.tuple #[ptr h a,r])/\((r=.pointer none/\rs=[a])\/∃b,r=ptr h b/\rs=[a,b])/\QcY w.heap.size k v h t rs/\(∀u∈rs,IsN w' (Up F w w') h u)/\Ext w w'
theorem Qdc.apart{t:PT h}{k:ByteArray}{v:Val}{e:Ending}(p:Qdc F h t k v w e w'):QiY F h t k v w e w':=by
 obtain⟨D,rfl,h1,h2,z⟩:=p;rcases h1.two with⟨a,rfl⟩ |⟨a,b,rfl⟩
 .exact ⟨a,_,_,rfl,.inl ⟨rfl,rfl⟩,h1,h2,z⟩
 exact⟨a,_,_,rfl,.inr ⟨b,rfl,rfl⟩,h1,h2,z⟩
theorem Qqh(hF:∀b,F b->b<w){t:PT 0}(R:IsN w F 0 t)(ok:OkT 0 t)(hs:Sorted (ents 0 t)){k:ByteArray}{v:Val}(U:RV w (Lt w) v sl so)(I:k.size<=maxLen) :
  Calls prog 63 #[ptr 0 t,Qgu k v sl so] w (Qdc F 0 t k v w):=by
 have z:IsN w (Lt w) 0 t:=R.mono hF;refine(Qkm (λW D=>QaO (z.ext D)) (λW D=>Qbh (z.ext D)) hs ok U I).mono ?_;rintro e w' ⟨J,rfl,h1,h2,N⟩;exact⟨J,rfl,⟨h1,λu hu=>(h2 u hu).1⟩,λu hu=>(h2 u hu).2.mono λi hi=>.inr hi,N⟩
theorem Qh2{L:List (PT n)}{ts:List (PT (n+1))}(h:ts.map Prod.snd=chunk L):(∃a,ts=[a])\/∃a b,ts=[a,b]:=by
 rcases Qgz L with⟨a,D⟩ |⟨a,b,D⟩<;>rw[D]at h
 .obtain ⟨x,z,-⟩:=QuI h;exact .inl ⟨x,z⟩
 obtain⟨x,y,z,-⟩:=QuK h;exact .inr ⟨x,y,z⟩
theorem Qml{t:PT (h+1)}{k:ByteArray}{v:Val}{i:Nat}{z:PT h}{rs:List (PT h)}(J:Ext w w3)(hi:Qat h t.2 k=i)(D:t.2[Qat h t.2 k]? = some z)(R:w.heap.size<=B)(I:QcY B k v h z rs)
  {ts:List (PT (h+1))} (h1:ts.map Prod.snd=chunk (t.2.take i++rs++t.2.drop (i+1))) (h2:∀u∈ts,w3.heap.size<=addr (h+1) u/\IsN w' (Up (Up F w w3) w3 w') (h+1) u) (N:Ext w3 w'):Qdc F (h+1) t k v w (two (h+1) ts) w':=by
 subst hi;refine⟨ts,rfl,⟨z,rs,D,I.mono R,h1,λu hu=>al J.size (h2 u hu).1⟩,λu hu=>(h2 u hu).2.mono λi hi=>?_,J.trans N⟩;rcases hi with(hi|hi)|hi
 .exact .inl hi
 .exact .inr ⟨hi.1,ab hi.2 N.size⟩
 exact .inr ⟨Nat.le_trans J.size hi.1,hi.2⟩
theorem Qrt{ks:List (PT h)}{i:Nat}(hi:i<ks.length)(a:PT h):(ptrs h ks).set i (ptr h a)=ptrs h (ks.take i++[a]++ks.drop (i+1)):=by
 rw[ptrs,<-bL,bW,em hi,aS];rfl
theorem Qrs{ks:List (PT h)}{i:Nat}(hi:i<ks.length)(a b:PT h):(ptrs h (ks.take i++[a]++ks.drop (i+1))).take ((i+1)*1)++[ptr h b]++(ptrs h (ks.take i++[a]++ks.drop (i+1))).drop ((i+1)*1)=ptrs h (ks.take i++[a,b]++ks.drop (i+1)):=by
 have z:(ptrs h (ks.take i++[a])).length=i+1:=by simp[ptrs];omega
 have e:ptrs h (ks.take i++[a]++ks.drop (i+1))=ptrs h (ks.take i++[a])++ptrs h (ks.drop (i+1)):=by simp[ptrs]
 rw[e,ci,<-z,dA,dZ,z];simp[ptrs]
theorem Qqg{k:ByteArray}{v:Val}(l9:k.size<=maxLen)
  (ih:∀(w:World) (F:Nat->Prop) (t:PT h),(∀b,F b->b<w.heap.size)->IsN w F h t->OkT h t->Sorted (ents h t)->(ents h t).length<=1000000->RV w (Lt w.heap.size) v sl so->Calls prog 63 #[ptr h t,Qgu k v sl so] w (Qdc F h t k v w))
 {t:PT (h+1)} (hF:∀ b,F b→b<w.heap.size) (hn:IsN w F (h+1) t) (ok:OkT (h+1) t) (hs:Sorted (ents (h+1) t)) (hc:(ents (h+1) t).length≤1000000) (hv:RV w (Lt w.heap.size) v sl so) :
  Calls prog 63 #[ptr (h+1) t,Qgu k v sl so] w (Qdc F (h+1) t k v w):=by
 have a5:=Qb3 ok;have hh:h+1<1000000:=ab (Qc2 (h+1) t ok (by have:=ok.1;show 1<=t.2.length;omega)) hc;obtain⟨D,R,hA,hC⟩:=Qbb (h:=h) (ks:=t.2) hs a5 (by have:=ok.1;omega) k;have a4:=am R;have b6:=(ah.1 R).1;have j5:=ok.1;have k0:=ok.2.1;have f1:∀x∈t.2,IsN w F h x:=hn.2.choose_spec.2.2;have a6:(ents h D).length<=1000000:=al (by
  show _<=(t.2.flatMap (ents h)).length;rw[QbU R];simp only[List.flatMap_append,List.flatMap_cons,List.length_append];omega) hc
 have i7:∀W,Ext w W->Calls prog 63 #[ptr h D,Qgu k v sl so] W (QiY F h D k v W):=λW hW=>
  (ih W F D (λb hb=>ab (hF b hb) hW.size) ((f1 D a4).agree (hW.agree hF)) (ok.2.2 D a4).1 (QaK hs D a4) a6 ((hv.agree (hW.agree λ_ h=>h)).mono λi hi=>ab hi hW.size)).mono λ_ _ p=>p.apart
 have HF:=hY hF;have HN:=hY hn;have g4:=hY ok;have HS:=hY hs;have HC:=hY hc;have HP:=hY a5;have k3:=hY i7;have f9:=hY f1;have N:=hY R;have l5:(((h:Int)+1)==0)=false:=eu.2 (by omega);clear hF hn ok hs hc a5 i7 f1 R hA hC hv ih a6;go_in;go_wp2_with fail;have g0:Ext w (w.alloc (.cells #[.string k,.int .i64 v.kind,.bool v.b,.int .i64 v.i,.string v.t,.slice sl.a v.l.length sl.c,.slice so.a v.ok.length so.c] 70)):=(fv w).alloc _ _;have g8:=fA w 70 #[.string k,.int .i64 v.kind,.bool v.b,.int .i64 v.i,.string v.t,.slice sl.a v.l.length sl.c,.slice so.a v.ok.length so.c];generalize g7:World.alloc _ _=W0 at *;have l2:W0.heap.size=w.heap.size+1:=by rw[<-g7];simp
 clear g7;have f8:IsN W0 F (h+1) t:=HN.o.agree (g0.agree HF.o);refine(QaO f8).mono ?_;rintro e w1 ⟨rfl,rfl⟩;have a6:=QcO f8 (by omega);clear f8;go_wp2_with fail;refine a6.mono ?_;rintro e w1 ⟨s',rfl,a9,c9⟩;have b8:=g0.trans c9;have e4:=g8.ext c9;obtain⟨c0,c1,c2,c3,c4,c5,c6⟩:=e4.c7;have i0:Rd w1 (Lt w1.heap.size) 1 s' t.2.length (ptrs h t.2):=(fE a9).mono λi hi=>hi.2
 have f5:=Qhk i0 (λx X=>(f9.o x X).agree (b8.agree HF.o)) (λb hb=>ab (HF.o b hb) b8.size) HP.o k HS.o (by omega);obtain⟨i,hi⟩:∃i,Qat h t.2 k=i:=⟨_,rfl⟩;rw[hi]at f5 b6;have HI:=hY hi;have j7:=hY f5;have e6:=hY a9;have f6:=hY e4;have j6:=hY b8;have k5:=hY c9;clear hi f5 a9 e4 b8 i0 a6 g8 g0 c9;go_wp2_with fail;refine j7.o.mono ?_;rintro e w2 ⟨rfl,a2⟩;clear c0 c1 c2 c3 c4 c5 c6;obtain⟨d0,d1,d2,d3,d4,d5,d6⟩:=(f6.o.ext a2).c7;have l7:=f6.o.lt;have k4:=(f6.o.ext a2).lt;have i5:=j6.o.trans a2;obtain⟨g,z,rfl,l6,n2,l0,b3⟩:=Qa2 e6.o (by omega);have b7:w2.ownsRow W0.heap.size 39 1 (.slice (some ⟨g,0,none⟩) t.2.length z) t.2.length (ptrs h t.2):=Qae e6.o (a2.agree (F:=Lt w1.heap.size) λ_ h=>h) λb hb=>(Qaa e6.o hb).2
 have i8:w2.cell? ⟨g,i,none⟩=some (ptr h D):=by
  have:=b7.cells (g:=g) rfl i (ptr h D) (by rw[ptrs,aq,<-HI.o,N.o];rfl);rwa[Qbu,aA]at this
 have k9:(i:Int)<(t.2.length:Int):=by omega
 have g3:=hY b7;have a3:=hY i5;have f3:g<w2.heap.size:=(Qaa (s:=⟨some ⟨g,0,none⟩,z⟩) b7 rfl).2;have g9:∀o,w2.frozen? ⟨g,o,none⟩=false:=λo=>by rw[a2.frozen b3.lt];exact b3.frozen o
 clear a2 b7 i5 b3;go_wp2_with fail;go_region_held3 (λw'=>w'.cell? ⟨g,i,none⟩=some (ptr h D)/\w'.cell? ⟨w.heap.size,0,none⟩=some (.string k)/\w'.cell? ⟨w.heap.size,1,none⟩=some (.int .i64 v.kind)/\w'.cell? ⟨w.heap.size,2,none⟩=some (.bool v.b)/\w'.cell? ⟨w.heap.size,3,none⟩=some (.int .i64 v.i)/\w'.cell? ⟨w.heap.size,4,none⟩=some (.string v.t)/\w'.cell? ⟨w.heap.size,5,none⟩=some (.slice sl.a v.l.length sl.c)/\w'.cell? ⟨w.heap.size,6,none⟩=some (.slice so.a v.ok.length so.c)) (go_keep)
  ((go_at_call 63;refine(k3.o _ a3.o.drew).mono ?_;rintro e w3 ⟨a,r,rs,rfl,hr,j0,i4,d8⟩;have HR:=hY hr;have b4:=hY j0;have j2:=hY i4;clear hr j0 i4;have d7:(∀b o,b<w2.heap.size->w3.cell? ⟨b,o,none⟩=w2.cell? ⟨b,o,none⟩):=λb o hb=>d8.cell (show b<w2.drew.heap.size from hb)))
 have U:Ext w2 w3:=((fv w2).drew).trans d8;have l8:g<w3.heap.size:=ab f3 U.size;have k6:=(U.cell (o:=i) f3).trans i8;have k8:w3.frozen? ⟨g,i,none⟩=false:=(U.frozen f3).trans (g9 i);have a1:=hY U;have k7:=hY d8;clear U d8 i8 g9 d7 d0 d1 d2 d3 d4 d5 d6;have d7:w3.ownsRow W0.heap.size 39 1 (.slice (some ⟨g,0,none⟩) t.2.length z) t.2.length (ptrs h t.2):=Qae (s:=⟨some ⟨g,0,none⟩,z⟩) g3.o (a1.o.agree (F:=Lt w2.heap.size) λ_ h=>h) λb hb=>(Qaa (s:=⟨some ⟨g,0,none⟩,z⟩) g3.o hb).2
 have f4:=QbF d7 b6 (ptr h a);rw[Qrt b6]at f4;have g5:Ext w (w3.setCell ⟨g,i,none⟩ (ptr h a)):=(a3.o.trans a1.o).setCell (p:=⟨g,i,none⟩) (by show w.heap.size<=g;omega) _;have e0:Agree (Up F w2.drew w3) w3 (w3.setCell ⟨g,i,none⟩ (ptr h a)):=fC w3 ⟨g,i,none⟩ _ (by
  rintro(hf|hf)
  ·have:g<w.heap.size:=HF.o g hf
   omega
  have:w2.heap.size<=g:=hf.1;omega)
 have b0:∀W,Ext w W->Agree (Up F w2.drew w3) w3 W->w3.heap.size<=W.heap.size->Kids W (Up F w W) h (t.2.take i++rs++t.2.drop (i+1)):=λW hW k2 k1=>by
  have e7:=Qo0 N.o b4.o g4.o HS.o;have c8:=QsB N.o b4.o g4.o;rw[HI.o]at e7 c8;have j3:Sorted ((t.2.take i++rs++t.2.drop (i+1)).flatMap (ents h)):=by rw[e7];exact QaS HS.o k v
  have i9:∀x∈t.2.take i++rs++t.2.drop (i+1),0<(ents h x).length:=λx X=>QbB h x (c8 x X).1 (by have:=(c8 x X).2;omega)
  refine⟨λb hb=>hb.elim (λh=>ab (HF.o b h) hW.size) λh=>h.2,λx X=>?_,QdT j3 i9,i9,λx X=>by have:=Qdn (c8 x X).1;omega,by
   have:=QcN (ents (h+1) t) k v;have l1:=HC.o;unfold cnt;rw[e7];omega,by omega⟩
  rcases aB.1 X with X|X
  ·rcases aB.1 X with X | X
   .exact ((f9.o x (aN X)).agree (hW.agree HF.o)).mono λ_ h=>.inl h
   exact((j2.o x X).agree k2).mono λb hb=>hb.elim .inl λh=>.inr ⟨Nat.le_trans a3.o.size h.1,ab h.2 k1⟩
  exact((f9.o x (aD X)).agree (hW.agree HF.o)).mono λ_ h=>.inl h
 have HK:=hY b0;have f0:=hY f4;have e8:=hY g5;have i1:=hY e0;have i2:w.heap.size<=w2.drew.heap.size:=a3.o.size;have l3:W0.heap.size<=w3.heap.size:=by omega
 have i3:=hY i2;clear d7 f4 g5 e0 b0 i2;rcases HR.o with⟨rfl,rfl⟩ |⟨b,rfl,rfl⟩
 ·have J:(t.2.take i++[a]++t.2.drop (i+1)).length=t.2.length:=by simp;omega
  have Y:=QhY (w:=w3.setCell ⟨g,i,none⟩ (ptr h a)) (s:=⟨some ⟨g,0,none⟩,z⟩) (by rw[J];exact(fE f0.o).mono λi hi=>hi.2) (HK.o _ e8.o i1.o (by simp)) (by omega) (by omega);rw[J]at Y;have f7:=hY Y;clear Y J;go_wp2_with fail;refine f7.o.mono ?_;rintro e w5 ⟨ts,rfl,h1,h2,h3⟩;have H2:=hY h2;have H1:=hY h1;clear h2;rcases Qh2 h1 with⟨a',rfl⟩ |⟨a',b',rfl⟩
  all_goals
   clear h1;simp only[two];go_wp2_with fail;go_ret2;exact Qml e8.o HI.o N.o i3.o b4.o H1.o H2.o h3
 have l4:IntKind.i64.wrap ((i:Int)+1)=(i:Int)+1:=by rw[ew];omega
 have J:(t.2.take i++[a]++t.2.drop (i+1)).length=t.2.length:=by simp;omega
 have I:(t.2.take i++[a,b]++t.2.drop (i+1)).length=t.2.length+1:=by simp;omega
 have b5:Ext (w3.setCell ⟨g,i,none⟩ (ptr h a)) ((w3.setCell ⟨g,i,none⟩ (ptr h a)).alloc (.cells #[ptr h b] 39)):=(fv _).alloc _ _;have g6:Blk ((w3.setCell ⟨g,i,none⟩ (ptr h a)).alloc (.cells #[ptr h b] 39)) w3.heap.size 39 [ptr h b].toArray:=by
  have:=fA (w3.setCell ⟨g,i,none⟩ (ptr h a)) 39 #[ptr h b];rwa[eA]at this
 go_wp2_with fail;change Calls _ _ _ ((w3.setCell ⟨g,i,none⟩ (ptr h a)).alloc (.cells #[ptr h b] 39)) _;have i6:((w3.setCell ⟨g,i,none⟩ (ptr h a)).alloc (.cells #[ptr h b] 39)).ownsRow W0.heap.size 39 1 (.slice (some ⟨g,0,none⟩) t.2.length z) t.2.length (ptrs h (t.2.take i++[a]++t.2.drop (i+1))):=Qae (s:=⟨some ⟨g,0,none⟩,z⟩) f0.o (b5.agree (F:=Lt w3.heap.size) λi hi=>by rw[eA];exact hi) λb hb=>by
  have:=(Qaa (s:=⟨some ⟨g,0,none⟩,z⟩) f0.o hb).2;rwa[eA]at this
 have e1:Agree (Up F w2.drew w3) w3 ((w3.setCell ⟨g,i,none⟩ (ptr h a)).alloc (.cells #[ptr h b] 39)):=i1.o.trans (b5.agree λj hj=>by rw[eA];exact hj.elim (λhh=>ab (HF.o j hh) (by have:=a3.o.size;have:=a1.o.size;omega)) λhh=>hh.2);have j1:=e8.o.trans b5;have j8:((w3.setCell ⟨g,i,none⟩ (ptr h a)).alloc (.cells #[ptr h b] 39)).heap.size=w3.heap.size+1:=by simp
 generalize (w3.setCell ⟨g,i,none⟩ (ptr h a)).alloc (.cells #[ptr h b] 39)=W5 at *;have e3:=QlN (w:=W5) (base:=W0.heap.size) (n:=t.2.length) (i:=i+1) (s:=⟨some ⟨g,0,none⟩,z⟩) (xs:=ptrs h (t.2.take i++[a]++t.2.drop (i+1))) (ys:=[ptr h b]) (vb:=w3.heap.size) i6 (by omega) (by omega) (by omega) rfl g6 (by simp[Sl.row];omega) (by simp[Value.oneCell']) (QbT _ _);have H5:=hY j1;have j4:=hY e1;clear j1 e1 g6 i6 b5;refine e3.mono ?_;rintro e w6 ⟨s6,rfl,Z,a0,-⟩;rw[Qrs b6]at Z;have f2:Ext w w6:=H5.o.wr a0 λj hj=>by simp[Sl.row]at hj;omega
 have e2:Agree (Up F w2.drew w3) w3 w6:=j4.o.trans (a0.agree (λj hj=>by rw[j8];exact hj.elim (λhh=>ab (HF.o j hh) (by have:=a3.o.size;have:=a1.o.size;omega)) λhh=>Nat.lt_succ_of_lt hh.2) (λj hj=>by
  simp[Sl.row]at hj;subst hj;rintro(hf|hf)
  ·have:g<w.heap.size:=HF.o g hf
   omega
  have:w2.heap.size<=g:=hf.1;omega))
 have Y:=QhY (w:=w6) (s:=s6) (by rw[I];exact(fE Z).mono λi hi=>hi.2) (HK.o _ f2 e2 (by have:=a0.grown.size;omega)) (by omega) (by omega);rw[I]at Y;have f7:=hY Y;have j9:=hY f2;clear Y J I f2 e2 Z a0 e3;go_wp2_with fail;refine f7.o.mono ?_;rintro e w7 ⟨ts,rfl,h1,h2,h3⟩;have H2:=hY h2;have H1:=hY h1;clear h2;rcases Qh2 h1 with⟨a',rfl⟩ |⟨a',b',rfl⟩
 all_goals
  clear h1;simp only[two];go_wp2_with fail;go_ret2;exact Qml j9.o HI.o N.o i3.o b4.o H1.o H2.o h3
theorem Qmk{k:ByteArray}{v:Val}{sl so:Sl}(z:k.size<=maxLen):∀(h:Nat) (w:World) (F:Nat->Prop) (t:PT h),(∀b,F b->b<w)->IsN w F h t->OkT h t->Sorted (ents h t)->(ents h t).length<=1000000->RV w (Lt w) v sl so->
  Calls prog 63 #[ptr h t,Qgu k v sl so] w (Qdc F h t k v w)
 |0,w,F,t,hF,hn,ok,hs,hc,hv=>Qqh hF hn ok hs hv z
 |h+1,w,F,t,hF,hn,ok,hs,hc,hv=>Qqg z (Qmk z h) hF hn ok hs hc hv
abbrev RT:=Option (Σ h,PT h)
def Qay:RT->Value
 |none=>.pointer none
 |some ⟨h,t⟩=>ptr h t
abbrev Qau(T:RT):Value:=.agg #[Qay T]
def Qab:RT->List Ent
 |none=>[]
 |some ⟨h,t⟩=>ents h t
def OkR:RT->Prop
 |none=>True
 |some ⟨h,t⟩=>OkT h t/\1<=size h t/\Sorted (ents h t)
def IsT(w:World)(F:Nat->Prop):RT->Prop
 |none=>True
 |some ⟨h,t⟩=>IsN w F h t
variable{T:RT}
theorem IsT.agree(h:IsT w F T)(z:Agree F w w'):IsT w' F T:=by
 match T,h with
 |none,_=>trivial
 |some ⟨n,t⟩,h=>exact IsN.agree z h
theorem IsT.mono(h:IsT w F T)(z:∀i,F i->G i):IsT w G T:=by
 match T,h with
 |none,_=>trivial
 |some ⟨n,t⟩,h=>exact IsN.mono z h
theorem OkR.sorted(h:OkR T):Sorted (Qab T):=by
 match T,h with
 |none,_=>exact List.Pairwise.nil
 |some ⟨n,t⟩,h=>exact h.2.2
inductive QcI (B:Nat) (k:ByteArray) (v:Val):RT->(h:Nat)->List (PT h)->Prop
 |none (u:PT 0) (h:u.2=[(k,v)]) (hb:B<=u.1):QcI B k v none 0 [u]
 |some {h:Nat} {t:PT h} {ts:List (PT h)} (hw:QcY B k v h t ts):QcI B k v (some ⟨h,t⟩) h ts
theorem QcI.mono(z:A<=B){k:ByteArray}{v:Val}{ts:List (PT h)}(D:QcI B k v T h ts):QcI A k v T h ts:=by
 cases D with
 |none u hu hb=>exact .none u hu (al z hb)
 |some D=>exact .some (D.mono z)
theorem QcI.height{k:ByteArray}{v:Val}{ts:List (PT h)}(z:QcI B k v T h ts)(ok:OkR T):h<=(Qab T).length:=by
 cases z with
 |none u hu hb=>exact aw _
 |some z=>exact b9 (Qc2 _ _ ok.1 ok.2.1)
inductive QrP (B:Nat) (k:ByteArray) (v:Val):RT->RT->Prop
 |one {T:RT} {h:Nat} {a:PT h} (hw:QcI B k v T h [a]):QrP B k v T (some ⟨h,a⟩)
 |two {T:RT} {h:Nat} {a b:PT h} {c:PT (h+1)} (hw:QcI B k v T h [a,b]) (hc:c.2=[a,b]) (hb:B<=addr (h+1) c):QrP B k v T (some ⟨h+1,c⟩)
theorem QcI.ents{k:ByteArray}{v:Val}{ts:List (PT h)}(z:QcI B k v T h ts)(ok:OkR T):ts.flatMap (Proofs.YtkjkafgnnoidpaaGreatDoor.ents h)=Qbq (Qab T) k v:=by
 cases z with
 | none u hu hb=>
   show u.2++[]=_;rw[hu];rfl
 |some z=>exact z.ents ok.1 ok.2.2
theorem QcI.ok{k:ByteArray}{v:Val}{ts:List (PT h)}(z:QcI B k v T h ts)(ok:OkR T):(∀u∈ts,OkT h u/\1<=size h u)/\(2<=ts.length->∀u∈ts,4<=size h u):=by
 cases z with
 | none u hu hb=>
   refine⟨λx D=>?_,λh=>by simp at h⟩;obtain rfl:x=u:=by simpa using D
   exact⟨show x.2.length<=8 by rw[hu];simp,show 1<=x.2.length by rw[hu];simp⟩
 |some z=>exact⟨λu hu=>⟨(z.ok ok.1).1 u hu |>.1,((z.ok ok.1).1 u hu).2.1⟩,(z.ok ok.1).2⟩
variable{T':RT}
theorem QrP.ents{k:ByteArray}{v:Val}(z:QrP B k v T T')(ok:OkR T):Qab T'=Qbq (Qab T) k v:=by
 cases z with
 |one hw=>have:=hw.ents ok;simpa[Qab]using this
 | two hw hc hb=>
   rename_i h a b c;have:=hw.ents ok;rw[<-this,<-hc];rfl
theorem QrP.ok{k:ByteArray}{v:Val}(D:QrP B k v T T')(ok:OkR T):OkR T':=by
 have hs:Sorted (Qab T'):=by rw[D.ents ok];exact QaS ok.sorted k v
 cases D with
 |one hw=>rename_i h a;exact⟨((hw.ok ok).1 a (by simp)).1,((hw.ok ok).1 a (by simp)).2,hs⟩
 | two hw hc hb=>
   rename_i h a b c;have h1:=hw.ok ok;refine⟨⟨by rw[hc];simp,by rw[hc];simp,λx z=>?_⟩,show 1<=c.2.length by rw[hc];simp,hs⟩;rw[hc]at z;exact⟨(h1.1 x z).1,h1.2 (by simp) x z⟩
theorem Rd.QaX{t:TypeId}(I:Blk w g t cs.toArray)(z:cs.length<=maxLen):Rd w (λb=>b=g) 1 ⟨some ⟨g,0,none⟩,cs.length⟩ cs.length cs:=
 ⟨g,0,.some _ _ _ _ (an _) z rfl,(ci _).symm,λj u D=>by rw[aA,I.cell];simpa using D⟩
def Qi0(F:Nat->Prop)(T:RT)(k:ByteArray)(v:Val)(w:World)(e:Ending)(w':World):Prop:=
 ∃(h:Nat) (a:PT h) (r:Value) (rs:List (PT h)),e=.returned (.tuple #[ptr h a,r])/\((r=.pointer none/\rs=[a])\/∃b,r=ptr h b/\rs=[a,b])/\QcI w.heap.size k v T h rs/\(∀u∈rs,IsN w' (Up F w w') h u)/\Ext w w'
theorem Qqf(hF:∀b,F b->b<w)(J:IsT w F T)(ok:OkR T)(D:(Qab T).length<=1000000){k:ByteArray}{v:Val}(z:k.size<=maxLen)(N:RV w (Lt w) v sl so) :
  Calls prog 63 #[Qay T,Qgu k v sl so] w (Qi0 F T k v w):=by
 match T,J,ok,D with
 | none,_,_,_=>
   refine(Qkm (nv:=.pointer none) (es:=[]) (λW U=>(Qd8 W)) (λW U=>(Qey W).mono ?_) List.Pairwise.nil (by simp) N z).mono ?_
   ·rintro e w' ⟨rfl,rfl⟩
    exact⟨Sl.none,[],rfl,rfl,OE.nil _ _,fv _⟩
   rintro e w' ⟨Y,rfl,h1,h2,I⟩;obtain⟨u,rfl,hu⟩:=Qus (h1.trans (show chunk (Qbq [] k v)=[[(k,v)]]from rfl));exact⟨0,u,_,_,rfl,.inl ⟨rfl,rfl⟩,.none u hu (h2 u (by simp)).1,λx R=>(h2 x R).2.mono λi hi=>.inr hi,I⟩
 | some ⟨h,t⟩,J,ok,D=>
   refine(Qmk z h w F t hF J ok.1 ok.2.2 D N).mono ?_;intro e w' p;obtain⟨a,r,rs,rfl,h1,h2,I,X⟩:=p.apart;exact⟨h,a,r,rs,rfl,h1,.some h2,I,X⟩
def QnX(F:Nat->Prop)(T:RT)(k:ByteArray)(v:Val)(w:World)(e:Ending)(w':World):Prop:=
 ∃T',e=.returned (Qau T')/\QrP w.heap.size k v T T'/\IsT w' (Up F w w') T'/\Ext w w'
theorem QpD(hF:∀b,F b->b<w)(hT:IsT w F T)(ok:OkR T)(hc:(Qab T).length<=1000000){k:ByteArray}{v:Val}(c8:k.size<=maxLen)(hv:RV w (Lt w) v sl so) :
  Calls prog 38 #[Qau T,.string k,Qbg v sl so] w (QnX F T k v w):=by
 have c4:∀W,Ext w W->Calls prog 63 #[Qay T,Qgu k v sl so] W (Qi0 F T k v W):=λW hW=>
  Qqf (λb hb=>ab (hF b hb) hW.size) (hT.agree (hW.agree hF)) ok hc c8 ((hv.agree (hW.agree λ_ h=>h)).mono λi hi=>ab hi hW.size)
 have HW:=hY c4;have HF:=hY hF;have N:=hY ok;clear hF hT ok hv c4;go_in;go_wp2_with fail;have a3:Ext w (((w.alloc (.cells #[Qay T] 41)).alloc (.cells #[.int .i64 v.kind,.bool v.b,.int .i64 v.i,.string v.t,.slice sl.a v.l.length sl.c,.slice so.a v.ok.length so.c] 28)).alloc (.cells #[.pointer none] 41)):=(((fv w).alloc _ _).alloc _ _).alloc _ _;have b6:Blk (((w.alloc (.cells #[Qay T] 41)).alloc (.cells #[.int .i64 v.kind,.bool v.b,.int .i64 v.i,.string v.t,.slice sl.a v.l.length sl.c,.slice so.a v.ok.length so.c] 28)).alloc (.cells #[.pointer none] 41)) (w.heap.size+1+1) 41 #[.pointer none]:=by
  have:=fA ((w.alloc (.cells #[Qay T] 41)).alloc (.cells #[.int .i64 v.kind,.bool v.b,.int .i64 v.i,.string v.t,.slice sl.a v.l.length sl.c,.slice so.a v.ok.length so.c] 28)) 41 #[.pointer none];simpa using this
 generalize b3:World.alloc _ _=W3 at *;have d5:W3.heap.size=w.heap.size+1+1+1:=by rw[<-b3];simp
 clear b3;refine(HW.o _ a3).mono ?_;rintro e z ⟨h,a,r,rs,rfl,hr,c0,a5,X⟩;have D:=b6.ext X;have a4:=a3.trans X;have q4:z.cell? ⟨w+1+1,0,none⟩=some (.pointer none):=D.cell 0;have f4:=D.frozen 0;have b8:=D.lt;have I:=hY c0;have a9:=hY a5;have HX:=hY a4;have d3:=hY X;have d4:=hY D;have b7:∀W',¬Up F W3 W' (w.heap.size+1+1):=λW' Y=>by
  rcases Y with Y|Y
  .have:=HF.o _ Y;omega
  have:=Y.1;omega
 have c2:=hY b7;have U:w.heap.size<=W3.heap.size:=by omega
 clear b6 D c0 a5 a4 a3 X b7;rcases hr with⟨rfl,rfl⟩ |⟨b,rfl,rfl⟩
 ·go_wp2_with fail
  have q0:(z.setCell ⟨w+1+1,0,none⟩ (ptr h a)).cell? ⟨w+1+1,0,none⟩=some (ptr h a):=eM z _ _ q4;refine eD (v:=Qau (some ⟨h,a⟩)) (by simp[results,results38,go_sem,q0];rfl) rfl ?_;refine⟨some ⟨h,a⟩,rfl,.one ?_,?_,HX.o.setCell (p:=⟨w+1+1,0,none⟩) (by show w.heap.size<=w.heap.size+1+1;omega) _⟩
  .exact I.o.mono U
  show IsN _ _ h a;refine((a9.o a (by simp)).agree (fC z ⟨w+1+1,0,none⟩ _ (c2.o z))).mono λi hi=>hi.elim .inl λhi=>.inr ⟨Nat.le_trans U hi.1,by rw[eA];exact hi.2⟩
 have a0:Ext z (z.alloc (.cells #[ptr h a,ptr h b] 39)):=(fv _).alloc _ _;have a6:Blk (z.alloc (.cells #[ptr h a,ptr h b] 39)) z.heap.size 39 (ptrs h [a,b]).toArray:=fA z 39 #[ptr h a,ptr h b];have d0:(z.alloc (.cells #[ptr h a,ptr h b] 39)).heap.size=z.heap.size+1:=by simp
 go_wp2_with fail;change Calls _ _ _ (z.alloc (.cells #[ptr h a,ptr h b] 39)) _;generalize z.alloc (.cells #[ptr h a,ptr h b] 39)=W5 at *;have he:=I.o.ents N.o;have Z:=I.o.ok N.o;have a1:∀x∈[a,b],0<(ents h x).length:=λx hx=>QbB h x (Z.1 x hx).1 (Z.1 x hx).2
 have c1:Sorted ([a,b].flatMap (ents h)):=by rw[he];exact QaS N.o.sorted k v
 have J:Kids W5 (Up F W3 W5) h [a,b]:=by
  refine⟨λb hb=>hb.elim (λh=>ab (HF.o b h) (by have:=HX.o.size;omega)) λh=>h.2,λx hx=>?_,QdT c1 a1,a1,λx hx=>by have:=Qdn (Z.1 x hx).1;omega,by
   have:=QcN (Qab T) k v;unfold cnt;rw[he];omega,by have:=I.o.height N.o;omega⟩
  exact((a9.o x hx).agree (a0.agree λi hi=>hi.elim (λh=>ab (HF.o i h) HX.o.size) λh=>h.2)).mono λi hi=>hi.elim .inl λhi=>.inr ⟨hi.1,by omega⟩
 have c3:=Qct (w:=W5) (n:=2) (s:=⟨some ⟨z,0,none⟩,2⟩) ((Rd.QaX a6 (by simp[ptrs];decide)).mono λi hi=>by subst hi;omega) rfl J (by simp) (by simp);have a2:=hY a0;clear a0 a6 he Z a1 c1 J;refine c3.mono ?_;rintro e w6 ⟨c,rfl,c7,c6,b0,R⟩;have c9:=hY b0;have q6:w6.cell? ⟨w+1+1,0,none⟩=some (.pointer none):=((a2.o.trans R).cell b8).trans q4;have f6:w6.frozen? ⟨w+1+1,0,none⟩=false:=((a2.o.trans R).frozen b8).trans f4;have b5:=hY R;clear c3 b0 q4 f4 R;go_wp2_with fail;have q0:(w6.setCell ⟨w+1+1,0,none⟩ (ptr (h+1) c)).cell? ⟨w+1+1,0,none⟩=some (ptr (h+1) c):=eM w6 _ _ q6;refine eD (v:=Qau (some ⟨h+1,c⟩)) (by simp[results,results38,go_sem,q0];rfl) rfl ?_;have b4:w.heap.size<=W5.heap.size:=by have:=HX.o.size;omega
 refine⟨some ⟨h+1,c⟩,rfl,.two (I.o.mono U) c7 (al b4 c6),?_,((HX.o.trans a2.o).trans b5.o).setCell (p:=⟨w+1+1,0,none⟩) (by show w.heap.size<=w.heap.size+1+1;omega) _⟩;show IsN _ _ (h+1) c;refine(c9.o.agree (fC w6 ⟨w+1+1,0,none⟩ _ ?_)).mono λi hi=>?_
 ·rintro (Y | Y)
  .exact c2.o W5 Y
  have:W5.heap.size<=w.heap.size+1+1:=Y.1;omega
 rcases hi with(hi|hi)|hi
 .exact .inl hi
 .exact .inr ⟨Nat.le_trans U hi.1,by rw[eA];exact ab hi.2 b5.o.size⟩
 exact .inr ⟨Nat.le_trans b4 hi.1,by rw[eA];exact hi.2⟩
theorem RV.flat(w:World)(F:Nat->Prop)(z:Int)(b:Bool)(i:Int)(t:ByteArray)(I:(Lit.int .i64 z).wf=true)(hi:(Lit.int .i64 i).wf=true)(D:t.size<=maxLen):RV w F (.mk z b i t [] [] []) Sl.none Sl.none:=
 .mk 0 0 0 0 (λ_=>(Sl.none,Sl.none)) (λ_=>(Sl.none,Sl.none)) (.nil _ _) (.nil _ _) rfl (λ_ _ h=>by simp at h) (λ_ _ h=>by simp at h) (λ_ _ h=>by simp at h) (λ_ _ h=>by simp at h) (λ_ _ h=>by simp at h) I hi D (by simp) (by simp)
theorem Qg0(es:List Ent)(k:ByteArray)(hs:Sorted es):(∀e∈es.take (Qcc es k),klt e.1 k=true)/\(∀e∈es.drop (Qcc es k),klt e.1 k=false):=by
 have J:es.take (Qcc es k)=es.takeWhile λe=>klt e.1 k:=(cm.1 (List.takeWhile_prefix (l:=es) (λe:Ent=>klt e.1 k))).symm
 have R:es.drop (Qcc es k)=es.dropWhile λe=>klt e.1 k:=by
  have h1:=aX (Qcc es k) es;rw[J]at h1;have h2:=List.takeWhile_append_dropWhile (p:=λe:Ent=>klt e.1 k) (l:=es);exact List.append_cancel_left (h1.trans h2.symm)
 refine⟨λe z=>?_,λe z=>?_⟩
 ·rw [J] at z
  exact dg.1 (List.all_takeWhile (l:=es) (p:=λe:Ent=>klt e.1 k)) e z
 have D:Sorted (es.drop (Qcc es k)):=cE (dP _ _) hs;rw[R]at z D;cases hd:es.dropWhile λe=>klt e.1 k with
 |nil=>rw[hd]at z;cases z
 | cons x xs=>
   rw[hd]at z D;have I:klt x.1 k=false:=by
    have:=List.head?_dropWhile_not (λe:Ent=>klt e.1 k) es;rw[hd]at this;simpa using this
   rcases aG.1 z with rfl|z
   .exact I
   have:=(aW.1 D).1 e z;cases N:klt e.1 k
   .rfl
   rw[QaI this N]at I;cases I
theorem Qip{es:List Ent}(hs:Sorted es)(k:ByteArray):Qam es k=(es[Qcc es k]?).bind λe=>if e.1=k then some e.2 else none:=by
 obtain⟨N,I⟩:=Qg0 es k hs;have z:Sorted (es.drop (Qcc es k)):=cE (dP _ _) hs
 conv=>lhs;rw[<-aX (Qcc es k) es]
 rw[QlF N,<-cx (Qcc es k),<-bj,cx];cases hd:es.drop (Qcc es k)with
 |nil=>rfl
 | cons x xs=>
   rw[hd]at z I;simp only[List.getElem?_cons_zero,Option.bind_some,Qam];by_cases D:x.1=k
   .simp [D]
   simp only[D,if_false];refine QeY λe J=>?_
   have h1:=Qc3 (I x (az ..)) D;have h2:=QaI h1 ((aW.1 z).1 e J);rintro rfl;rw[Qah]at h2;cases h2
theorem QqF{es:List Ent}(hs:Sorted es)(k:ByteArray):Qb2 es k=if(es[Qcc es k]?).map Prod.fst=some k then es.take (Qcc es k)++es.drop (Qcc es k+1)else es:=by
 obtain⟨z,D⟩:=Qg0 es k hs
 conv=>lhs;rw[<-aX (Qcc es k) es]
 rw[Qig z,Qsp D,List.head?_drop,List.tail_drop];split
 .rfl
 rw[aX]
def QbO(o:Option Val)(w:World)(e:Ending)(w':World):Prop:=
 ∃sl so,e=.returned (.tuple #[Qbg (o.getD zeroV) sl so,.bool o.isSome])/\Ext w w'/\RVC w' (In w.heap.size w'.heap.size) (o.getD zeroV) sl so
theorem QqJ{k k':ByteArray}{v:Val}{i:Nat}(h1:W.cell? ⟨b1,0,none⟩=some nv)(h2:W.cell? ⟨b2,0,none⟩=some (.string k))
  (J:∃p,nv=.pointer p) (I:Calls prog 100 #[nv,.int .i64 i] W (QdA k' v W)) :
  Calls prog 99 #[.int .i64 i,.pointer (some ⟨b1,0,none⟩),.pointer (some ⟨b2,0,none⟩)] W λe w'=>e=.returned (.bool !(klt k' k))/\Ext W w':=by
 obtain⟨p,rfl⟩:=J;have z:=eH W _ h2;go_in;go_wp2_with fail;refine I.mono ?_;rintro e w1 ⟨sl,so,rfl,D,-⟩;have R:=(D.cell z).trans h2;have U:b2<w1:=ab z D.size;have N:=hY D;clear I D h2;go_wp2;go_ret;exact⟨rfl,N.o.alloc _ _⟩
structure Qs6(w:World)(nv:Value)(k:ByteArray)(W:World):Prop where
 ext:Ext w W
 b0:Blk W w.heap.size 39 #[nv]
 b1:Blk W (w.heap.size+1) 9 #[.string k]
 b2:Blk W (w.heap.size+1+1) 28 #[.int .i64 0,.bool false,.int .i64 0,.string ByteArray.empty,.slice none 0 0,.slice none 0 0]
variable{W':World}
theorem Qs6.step{k:ByteArray}(h:Qs6 w nv k W)(z:Ext W W'):Qs6 w nv k W':=⟨h.ext.trans z,h.b0.ext z,h.b1.ext z,h.b2.ext z⟩
theorem Qjp(w:World)(i:Int):Calls prog 100 #[.pointer none,.int .i64 i] w λe w'=>e=.returned (.tuple #[Qgu ByteArray.empty zeroV Sl.none Sl.none,.bool false])/\Ext w w':=by
 go_in;go_wp2_with fail;refine eD (v:=.tuple #[Qgu ByteArray.empty zeroV Sl.none Sl.none,.bool false]) (by simp[results,results100,go_sem];exact⟨rfl,rfl,rfl,rfl,rfl,rfl,rfl⟩) rfl ⟨rfl,(fv w).alloc _ _⟩
theorem QlG{es:List Ent}(hp:∃p,nv=.pointer p)(hh:∀W,Ext w W->Calls prog 94 #[nv] W λe w'=>e=.returned (.int .i64 0)/\W=w')
  (hz:∀W,Ext w W->Calls prog 98 #[nv] W λe w'=>e=.returned (.int .i64 es.length)/\∃q,w'=W.drewN q)
  (he:∀W,Ext w W->∀(i:Nat) (e:Ent),es[i]? = some e->Calls prog 100 #[nv,.int .i64 i] W (QdA e.1 e.2 W))
  (b8:∀W,Ext w W->∀i:Nat,es.length<=i->Calls prog 100 #[nv,.int .i64 i] W λe w'=>e=.returned (.tuple #[Qgu ByteArray.empty zeroV Sl.none Sl.none,.bool false])/\Ext W w')
  (hs:Sorted es) (hl:es.length<=1000) (k:ByteArray):Calls prog 56 #[nv,.string k] w (QbO (Qam es k) w):=by
 have HH:=hY hh;have HZ:=hY hz;have HE:=hY he;have d8:=hY b8;have HS:=hY hs;obtain⟨pp,rfl⟩:=hp;clear hh hz he b8 hs;have a9:∀W,Qs6 w (.pointer pp) k W->Calls prog 97 #[.int .i64 es.length,.func (.func 99) #[] #[.pointer (some ⟨w,0,none⟩),.pointer (some ⟨w+1,0,none⟩)]] W (QcX es.length (λi=>!(klt ((es[i]?.map Prod.fst).getD ByteArray.empty) k)) W):=by
  intro W hW;refine Qed 99 _ _ es.length _ W (eO func99 (by kernel_rfl) rfl) (by omega) ?_ ?_
  ·intro i W' hi d5
   obtain⟨x,U⟩:∃x,es[i]? = some x:=⟨_,ac hi⟩;rw[U];have hS:=hW.step d5;exact QqJ (hS.b0.cell 0) (hS.b1.cell 0) ⟨_,rfl⟩ (HE.o W' hS.ext i x U)
  intro i j e2 hj N;by_cases a5:i=j
  .subst a5;exact N
  obtain⟨x,U⟩:∃x,es[i]? = some x:=⟨_,ac (by omega)⟩;obtain⟨y,hy⟩:∃y,es[j]? = some y:=⟨_,ac hj⟩;have d7:=QdX HS.o (i:=i) (j:=j) (by omega) U hy;rw[U]at N;rw[hy];simp only[Option.map_some,Option.getD_some,Bool.not_eq_true']at N ⊢;cases e0:klt y.1 k
  .rfl
  have:=QaI d7 e0;rw[N]at this;cases this
 go_in;go_wp2_with fail;generalize a6:World.alloc _ _=W0;obtain⟨X,d0,a2,a4,c9⟩:=Qas w _ _ _ _ _ _ W0 a6;have b6:Qs6 w (.pointer pp) k W0:=⟨X,a2,a4,c9⟩;have b7:=hY b6;have q0:W0.cell? ⟨w,0,none⟩=some (.pointer pp):=a2.cell 0;clear a6 a2 a4 c9 b6;refine(HH.o W0 X).mono ?_;rintro e w1 ⟨rfl,rfl⟩;go_wp2_with fail;refine(HZ.o W0 X).mono ?_;rintro e w1 ⟨rfl,q,rfl⟩;go_wp2_with fail;refine(a9 _ (b7.o.step ((fv _).drewN q))).mono ?_;rintro e w1 ⟨p,rfl,hp,c7,c8,b5⟩;have a3:=b7.o.step (((fv _).drewN q).trans b5);have I:=hY a3;have r0:w1.cell? ⟨w,0,none⟩=some (.pointer pp):=a3.b0.cell 0;have Y:Qcc es k=p:=QgZ hp (λi e hi he=>by
   have:(!(klt ((es[i]?.map Prod.fst).getD ByteArray.empty) k))=false:=c7 i hi;rw[he]at this;simpa using this) (λe he=>by
   have:(!(klt ((es[p]?.map Prod.fst).getD ByteArray.empty) k))=true:=c8 p (an _) (ah.1 he).1;rw[he]at this;simpa using this)
 have a0:Qam es k=(es[p]?).bind λe=>if e.1=k then some e.2 else none:=by rw[Qip HS.o,Y]
 have HG:=hY a0;clear c7 c8 Y a9 b5 a3 q0 a0 X d0;go_wp2_with fail;by_cases d6:p<es.length
 ·obtain ⟨x,U⟩:∃ x,es[p]? = some x:=⟨_,ac d6⟩
  have hc:=HE.o w1 I.o.ext p x U;have HX:=hY U;clear U;refine hc.mono ?_;rintro e w2 ⟨sl,so,rfl,J,b3⟩;have z:=I.o.step J;have R:=hY z;have q1:w2.cell? ⟨w+1,0,none⟩=some (.string k):=z.b1.cell 0;obtain⟨c0,c1,c2,c3,c4,c5⟩:=z.b2.c6;have f2:=z.b2.frozen;have l2:=z.b2.lt;have l1:w.heap.size+1<w2.heap.size:=by omega
  have a1:=hY b3;clear z J b3 hc;by_cases hk:x.1=k
  ·have d4:(x.1.toList == k.toList)=true:=by rw [beq_toList];simpa using hk
   have Z:Qam es k=some x.2:=by rw[HG.o,HX.o];simp[hk]
   have D:=hY Z;clear hk Z;go_wp2_with fail;refine eD (v:=.tuple #[Qbg x.2 sl so,.bool true]) (by simp[results,results56,go_sem,c0,c1,c2,c3,c4,c5,l2]) rfl ?_;have hE:=R.o.ext.QdP (b:=w+1+1) (by omega) 0 x.2 sl so;have hr:=(a1.o.mono (G:=In w.heap.size w2.heap.size) λi hi=>⟨Nat.le_trans I.o.ext.size hi.1,hi.2⟩);have e1:RV w2 (λb=>In w.heap.size w2.heap.size b/\b≠w.heap.size+1+1) x.2 sl so:=a1.o.mono λi hi=>⟨⟨Nat.le_trans I.o.ext.size hi.1,hi.2⟩,by have:=I.o.b2.lt;have:=hi.1;omega⟩
   have d3:=e1.agree (Qbm w2 (w.heap.size+1+1) 0 x.2 sl so (F:=λb=>In w.heap.size w2.heap.size b/\b≠w.heap.size+1+1) (λh=>h.2 rfl));refine⟨sl,so,by rw[D.o];rfl,hE.alloc _ _,?_,by rw[D.o];exact a1.o.cap⟩;rw[D.o];refine(d3.agree (Agree.alloc _ _ (λb hb=>by rw[QdQ];exact hb.1.2))).mono λi hi=>⟨hi.1.1,?_⟩
   have:=hi.1.2;simp;omega
  have d4:(x.1.toList==k.toList)=false:=by rw[beq_toList];simpa using hk
  have Z:Qam es k=none:=by rw[HG.o,HX.o];simp[hk]
  have D:=hY Z;clear hk Z;go_wp2_with fail;refine eD (v:=.tuple #[Qbg zeroV Sl.none Sl.none,.bool false]) (by simp[results,results56,go_sem,c0,c1,c2,c3,c4,c5,l2];exact⟨rfl,rfl,rfl,rfl,rfl,rfl⟩) rfl ?_;have hE:=R.o.ext.QdP (b:=w+1+1) (by omega) 0 zeroV Sl.none Sl.none;exact⟨Sl.none,Sl.none,by rw[D.o];rfl,hE.alloc _ _,by rw[D.o];exact⟨RV.flat _ _ _ _ _ _ rfl rfl (by decide),rfl⟩⟩
 have b4:es[p]? = none:=aQ (by omega);have Z:Qam es k=none:=by rw[HG.o,b4];rfl
 have hc:=d8.o w1 I.o.ext p (by omega);have D:=hY Z;clear Z b4;refine hc.mono ?_;rintro e w2 ⟨rfl,J⟩;have z:=I.o.step J;have R:=hY z;obtain⟨c0,c1,c2,c3,c4,c5⟩:=z.b2.c6;have f2:=z.b2.frozen;have l2:=z.b2.lt;clear z J hc;go_wp2_with fail;refine eD (v:=.tuple #[Qbg zeroV Sl.none Sl.none,.bool false]) (by simp[results,results56,go_sem,c0,c1,c2,c3,c4,c5,l2];exact⟨rfl,rfl,rfl,rfl,rfl,rfl⟩) rfl ?_;have hE:=R.o.ext.QdP (b:=w+1+1) (by omega) 0 zeroV Sl.none Sl.none;exact⟨Sl.none,Sl.none,by rw[D.o];rfl,hE.alloc _ _,by rw[D.o];exact⟨RV.flat _ _ _ _ _ _ rfl rfl (by decide),rfl⟩⟩
theorem get_nil(w:World)(k:ByteArray):Calls prog 56 #[.pointer none,.string k] w (QbO none w):=
 QlG (es:=[]) ⟨_,rfl⟩ (λW _=>Qd8 W) (λW _=>(Qme W).mono λe w' ⟨h1,h2⟩=>⟨h1,0,h2.symm⟩) (λW _ i e h=>by simp at h) (λW _ i _=>Qjp W i) List.Pairwise.nil (by simp) k
theorem QqM{t:PT 0}(I:IsN w (Lt w) 0 t)(ok:OkT 0 t)(hs:Sorted (ents 0 t))(k:ByteArray):Calls prog 56 #[ptr 0 t,.string k] w (QbO (Qam (ents 0 t) k) w):=by
 have D:(ents 0 t).length<=8:=ok;exact QlG ⟨_,rfl⟩ (λW z=>QaO (I.ext z)) (λW z=>Qgo (I.ext z) (al D (by decide))) (λW z i e h=>Qjo (I.ext z) h) (λW z i h=>QhH (I.ext z) (.inr (Int.ofNat_le.2 h))) hs (al D (by decide)) k
theorem QqL{k:ByteArray}
  (ih:∀(w:World) (F:Nat->Prop) (t:PT h),(∀b,F b->b<w)->IsN w F h t->OkT h t->Sorted (ents h t)->(ents h t).length<=1000000->Calls prog 56 #[ptr h t,.string k] w (QbO (Qam (ents h t) k) w))
 {t:PT (h+1)} (hF:∀ b,F b→b<w) (hn:IsN w F (h+1) t) (ok:OkT (h+1) t) (hs:Sorted (ents (h+1) t)) (hc:(ents (h+1) t).length≤1000000) :
  Calls prog 56 #[ptr (h+1) t,.string k] w (QbO (Qam (ents (h+1) t) k) w):=by
 have R:=Qb3 ok;have hh:h+1<1000000:=ab (Qc2 (h+1) t ok (by have:=ok.1;show 1<=t.2.length;omega)) hc;obtain⟨D,z,hA,hC⟩:=Qbb (h:=h) (ks:=t.2) hs R (by have:=ok.1;omega) k;have N:=am z;have e1:=(ah.1 z).1;have e7:=ok.2.1;have a5:∀x∈t.2,IsN w F h x:=hn.2.choose_spec.2.2;have U:(ents h D).length<=1000000:=al (by
  show _<=(t.2.flatMap (ents h)).length;rw[QbU z];simp only[List.flatMap_append,List.flatMap_cons,List.length_append];omega) hc
 have b5:Qam (ents (h+1) t) k=Qam (ents h D) k:=Qge z hA hC;rw[b5];have b4:∀W,Ext w W->Calls prog 56 #[ptr h D,.string k] W (QbO (Qam (ents h D) k) W):=λW hW=>
  ih W F D (λb hb=>ab (hF b hb) hW.size) ((a5 D N).agree (hW.agree hF)) (ok.2.2 D N).1 (QaK hs D N) U
 generalize Qam (ents h D) k=og at *;clear b5;have HF:=hY hF;have HN:=hY hn;have HS:=hY hs;have HP:=hY R;have f4:=hY b4;have e6:=hY a5;have b0:=hY z;have g4:(0:Int)<(h:Int)+1:=by omega
 clear hF hn ok hs hc R b4 a5 z hA hC ih U;go_in;go_wp2_with fail;generalize b6:World.alloc _ _=W0;obtain⟨a4,d8,a2,a9,a6⟩:=Qas w _ _ _ _ _ _ W0 b6;have d0:Qs6 w (ptr (h+1) t) k W0:=⟨a4,a2,a9,a6⟩;have e8:=hY d0;have q0:W0.cell? ⟨w,0,none⟩=some (ptr (h+1) t):=a2.cell 0;clear b6 a2 a9 a6 d0;have a1:IsN W0 F (h+1) t:=HN.o.agree (a4.agree HF.o);refine(QaO a1).mono ?_;rintro e w1 ⟨rfl,rfl⟩;have U:=QcO a1 (by omega);clear a1;go_wp2_with fail;refine U.mono ?_;rintro e w1 ⟨s',rfl,X,c9⟩;have J:=e8.o.step c9;have Z:=hY J;have a3:Rd w1 (Lt w1) 1 s' t.2.length (ptrs h t.2):=(fE X).mono λi hi=>hi.2
 obtain⟨g,c8,rfl,f7,g7,f6,d3⟩:=Qa2 X (by omega);obtain⟨i,hi⟩:∃i,Qat h t.2 k=i:=⟨_,rfl⟩;have b3:∀W,Ext w1 W->Calls prog 96 #[.slice (some ⟨g,0,none⟩) t.2.length c8,.string k] W λe w'=>e=.returned (.int .i64 i)/\Ext W w':=λW hW=>by
  rw[<-hi];exact Qhk (s:=⟨some ⟨g,0,none⟩,c8⟩) ((a3.agree (hW.agree λ_ h=>h)).mono λi hi=>ab hi hW.size) (λx hx=>(e6.o x hx).agree ((J.ext.trans hW).agree HF.o)) (λb hb=>ab (HF.o b hb) (J.ext.trans hW).size) HP.o k HS.o (by omega)
 have z:=b0.o;rw[hi]at z e1;obtain⟨b,o,b8,d7,-,-,d4⟩:=a3.Qc4 z;obtain⟨rfl,rfl⟩:g=b/\0=o:=by simpa using b8
 have kc:w1.cell? ⟨g,i,none⟩=some (ptr h D):=by simpa using d4
 have k1:w1.cell? ⟨w+1,0,none⟩=some (.string k):=J.b1.cell 0;have d5:g<w1:=d7;have g6:¬g=w.heap.size+1+1:=by omega
 have f5:¬w.heap.size+1+1=g:=by omega
 clear d8;have l1:w.heap.size+1<w1.heap.size:=J.b1.lt;have g5:(i:Int)<(t.2.length:Int):=by omega
 have g8:(0:Int)<=(i:Int):=by omega
 have e2:=hY b3;have f9:=hY hi;clear b3 hi z d4 b8 d3 X a3 c9 a4 J U q0;go_wp2_with fail;go_region_held3 (λw'=>w'.cell? ⟨g,i,none⟩=some (ptr h D)/\w'.cell? ⟨w+1,0,none⟩=some (.string k)) (first |(with_reducible exact⟨g3,k3⟩) |(with_reducible exact⟨g2,k2⟩)|go_keep)
  (first
    |(go_at_call 96;refine(e2.o _ ?_).mono ?_;(exact((fv _).drew));rintro e w2 ⟨rfl,I⟩;have g2:=(I.cell (o:=i) d5).trans kc;have k2:=(I.cell (o:=0) l1).trans k1;have f2:=ab d5 I.size;have l2:=ab l1 I.size)
    |(go_at_call 56;refine(f4.o _ ?_).mono ?_;(exact Z.o.ext.trans (((fv _).drew).trans I));rintro e w3 ⟨sl,so,rfl,Y,c7⟩;have g3:=(Y.cell (o:=i) f2).trans g2;have k3:=(Y.cell (o:=0) l2).trans k2;have a0:=Z.o.step ((((fv _).drew).trans I).trans Y);obtain⟨c0,c1,c2,c3,c4,c5⟩:=a0.b2.c6;have f3:=a0.b2.frozen;have f0:=hY a0;have e4:=hY Y;have b7:=hY c7;have e3:=hY I;clear a0 Y c7 I))
 go_wp2_with fail;refine eD (v:=.tuple #[Qbg (og.getD zeroV) sl so,.bool og.isSome]) (by simp[results,results56,go_sem,c0,c1,c2,c3,c4,c5]) rfl ?_;have hE:=f0.o.ext.QdP (b:=w+1+1) (by omega) 0 (og.getD zeroV) sl so;have a6:=Z.o.b2.lt;have d6:=e3.o.size;have f8:=e4.o.size;have g0:=Z.o.ext.size;rw[fg]at d6;have f1:RV w3 (λb=>In w.heap.size w3.heap.size b/\b≠w.heap.size+1+1) (og.getD zeroV) sl so:=b7.o.mono λi hi=>⟨⟨by have:=hi.1;omega,hi.2⟩,by have:=hi.1;omega⟩
 have e0:=f1.agree (Qbm w3 (w.heap.size+1+1) 0 (og.getD zeroV) sl so (F:=λb=>In w.heap.size w3.heap.size b/\b≠w.heap.size+1+1) (λh=>h.2 rfl));exact⟨sl,so,rfl,hE,e0.mono (λi hi=>⟨hi.1.1,by have:=hi.1.2;simpa using this⟩),b7.o.cap⟩
theorem QoI{k:ByteArray}:∀(h:Nat) (w:World) (F:Nat->Prop) (t:PT h),(∀b,F b->b<w)->IsN w F h t->OkT h t->Sorted (ents h t)->(ents h t).length<=1000000->Calls prog 56 #[ptr h t,.string k] w (QbO (Qam (ents h t) k) w)
 |0,w,F,t,hF,hn,ok,hs,_=>QqM (hn.mono hF) ok hs k
 |h+1,w,F,t,hF,hn,ok,hs,hc=>QqL (λw F t a b c d e=>QoI h w F t a b c d e) hF hn ok hs hc
theorem QeA{b lo:Nat}{z:Option Val}(N:Ext w w3)(J:w<=b)(I:b<lo)(D:RVC w3 (In lo w3.heap.size) (z.getD zeroV) sl so) :
  QbO z w (.returned (.tuple #[Qbg (z.getD zeroV) sl so,.bool z.isSome])) (QdP w3 b 0 (z.getD zeroV) sl so):=by
 refine⟨sl,so,rfl,N.QdP J _ _ _ _,?_,D.cap⟩;rw[QdQ];exact(D.agree (Qbm w3 b 0 (z.getD zeroV) sl so (by omega))).mono λi hi=>⟨by omega,hi.2⟩
theorem Qap(w:World)(z I:TypeId)(D J:Array Value):∀W,(w.alloc (.cells D z)).alloc (.cells J I)=W->
  Ext w W/\W.heap.size=w.heap.size+2/\Blk W w.heap.size z D/\Blk W (w.heap.size+1) I J:=by
 rintro W rfl;refine⟨((fv w).alloc _ _).alloc _ _,by simp,(fA w z D).alloc _,?_⟩;have h:=fA (w.alloc (.cells D z)) I J;rw[ey]at h;exact h
theorem QqK(hF:∀b,F b->b<w)(z:IsT w F T)(ok:OkR T)(D:(Qab T).length<=1000000)(k:ByteArray) :
  Calls prog 56 #[Qay T,.string k] w (QbO (Qam (Qab T) k) w):=by
 match T,z,ok,D with
 |none,_,_,_=>exact get_nil w k
 |some ⟨h,t⟩,z,ok,D=>exact QoI h w F t hF z ok.1 ok.2.2 D
theorem Qhj(hF:∀b,F b->b<w)(hT:IsT w F T)(ok:OkR T)(hc:(Qab T).length<=1000000)(k:ByteArray) :
  Calls prog 28 #[Qau T,.string k] w (QbO (Qam (Qab T) k) w):=by
 have X:∀W,Ext w W->Calls prog 56 #[Qay T,.string k] W (QbO (Qam (Qab T) k) W):=λW hW=>
  QqK (λb R=>ab (hF b R) hW.size) (hT.agree (hW.agree hF)) ok hc k
 generalize Qam (Qab T) k=og at *;have HW:=hY X;clear hF hT ok X;go_in;go_wp2_with fail;generalize N:World.alloc _ _=W0;obtain⟨D,J,-,I⟩:=Qap w _ _ _ _ W0 N;have HZ:=hY J;have Y:=hY D;clear N J;refine(HW.o W0 D).mono ?_;rintro e w1 ⟨sl,so,rfl,z,U⟩;have R:=I.ext z;obtain⟨c0,c1,c2,c3,c4,c5⟩:=R.c6;have f2:=R.frozen;have a0:=hY z;have Z:=hY U;clear R I z U D;go_wp2_with fail;refine eD (v:=.tuple #[Qbg (og.getD zeroV) sl so,.bool og.isSome]) (by simp[results,results28,go_sem,c0,c1,c2,c3,c4,c5]) rfl ?_;exact QeA (Y.o.trans a0.o) (b:=w+1) (lo:=W0) (by omega) (by rw[HZ.o];omega) Z.o
inductive Qfy:List Ent->RT->Prop
 |nil:Qfy [] none
 |snoc {es:List Ent} {T T':RT} {B:Nat} {k:ByteArray} {v:Val} (h:Qfy es T) (hp:QrP B k v T T'):Qfy (es++[(k,v)]) T'
def QaJ(es:List Ent)(l:List Ent):List Ent:=l.foldl (λm e=>Qbq m e.1 e.2) es
theorem QeC(es l:List Ent)(e:Ent):QaJ es (l++[e])=Qbq (QaJ es l) e.1 e.2:=by simp[QaJ]
theorem Qea(l:List Ent):∀es:List Ent,(QaJ es l).length<=es.length+l.length:=by
 induction l with
 |nil=>intro es;exact an _
 | cons a l ih=>
   intro es;have:=ih (Qbq es a.1 a.2);have h2:=QcN es a.1 a.2;simp only[QaJ,List.foldl_cons,List.length_cons]at *;omega
theorem Qfy.both{l:List Ent}(h:Qfy l T):(OkR T)/\Qab T=QaJ [] l:=by
 induction h with
 |nil=>exact⟨trivial,rfl⟩
 |snoc h hp ih=>exact⟨hp.ok ih.1,by rw[hp.ents ih.1,ih.2,QeC]⟩
theorem QvZ{es:List Ent}{k:ByteArray}{v:Val}(h:∀e∈es,klt e.1 k=true):Qbq es k v=es++[(k,v)]:=by
 have:=Qit h [] v;rwa[aY]at this
inductive Qkp (B:Nat) (k:ByteArray):RT->RT->Prop
 |no {T:RT} (h:Qam (Qab T) k=none):Qkp B k T T
 |same {h:Nat} {t u:PT h} (hg:(Qam (ents h t) k).isSome=true) (hd:QiV B k h t u) (hp:0<(ents h u).length) (h2:h=0\/2<=size h u):Qkp B k (some ⟨h,t⟩) (some ⟨h,u⟩)
 |gone {t u:PT 0} (hg:(Qam (ents 0 t) k).isSome=true) (hd:QiV B k 0 t u) (h0:ents 0 u=[]):Qkp B k (some ⟨0,t⟩) none
 |down {h:Nat} {t:PT (h+1)} {u:PT h} (hg:(Qam (ents (h+1) t) k).isSome=true) (hd:Qmp B k h (QiV B k h) t.2 [u]):Qkp B k (some ⟨h+1,t⟩) (some ⟨h,u⟩)
theorem Qkp.mono(z:A<=B){k:ByteArray}(hd:Qkp B k T T'):Qkp A k T T':=by
 cases hd with
 |no h=>exact .no h
 |same hg hd hp h2=>exact .same hg (hd.mono z) hp h2
 |gone hg hd h0=>exact .gone hg (hd.mono z) h0
 |down hg hd=>exact .down hg (hd.mono z λ_ _ D=>D.mono z)
theorem Qkp.ents{k:ByteArray}(hd:Qkp B k T T')(ok:OkR T):Qab T'=Qb2 (Qab T) k:=by
 cases hd with
 |no h=>exact(Qom h).symm
 |same hg hd hp h2=>exact hd.ents ok.1 ok.2.2
 |gone hg hd h0=>exact h0.symm.trans (hd.ents ok.1 ok.2.2)
 | down hg hd=>
   rename_i h t u;have z:=ok.1;have:=hd.ents ok.2.2 (Qb3 z) (by have:=z.1;omega) λx y D I=>I.ents (z.2.2 x D).1 (QaK ok.2.2 x D)
   rw[bc,List.flatMap_nil,aY]at this;exact this
theorem QdH{k:ByteArray}{t:PT (h+1)}{z:List (PT h)}(hd:Qmp B k h (QiV B k h) t.2 z)(ok:OkT (h+1) t)(hs:Sorted (ents (h+1) t))(R:(Qam (ents (h+1) t) k).isSome=true) :
  (∀u∈z,OkT h u/\4<=size h u)/\z.length<=t.2.length/\t.2.length<=z.length+1:=by
 refine hd.ok ok.2.2 ok.1 λx y J I Y=>?_
 obtain⟨N,D,U,X⟩:=Qbb (h:=h) (ks:=t.2) hs (Qb3 ok) (by have:=ok.1;omega) k;rw[I]at D;simp only[Option.some.injEq]at D;subst D;have:=Y.ok (ok.2.2 x J).1 (ok.2.2 x J).2 (QaK hs x J) (by rw[<-Qge I U X];exact R);exact⟨this.1,this.2.1⟩
theorem Qkp.ok{k:ByteArray}(hd:Qkp B k T T')(ok:OkR T):OkR T':=by
 have hs:Sorted (Qab T'):=by rw[hd.ents ok];exact QaR ok.sorted k
 cases hd with
 |no h=>exact ok
 | same hg hd hp h2=>
   rename_i h t u;cases h with
   | zero=>
     have h1:=hd.1;have:(Qb2 t.2 k).length<=t.2.length:=(Qba t.2 k).length_le;have o:t.2.length<=8:=ok.1;exact⟨show u.2.length<=8 by rw[h1];omega,hp,hs⟩
   | succ h=>
     obtain⟨h1,-⟩:=hd;obtain⟨a,b,c⟩:=QdH h1 ok.1 ok.2.2 hg;have h2:2<=u.2.length:=h2.resolve_left (by omega);have z:=ok.1.2.1;exact⟨⟨h2,by omega,a⟩,show 1<=u.2.length by omega,hs⟩
 |gone hg hd h0=>trivial
 | down hg hd=>
   obtain⟨a,b,c⟩:=QdH hd ok.1 ok.2.2 hg;rename_i h t u;have:=a u (bn.2 rfl);exact⟨this.1,by omega,hs⟩
end Go.Proofs.YtkjkafgnnoidpaaGreatDoor
