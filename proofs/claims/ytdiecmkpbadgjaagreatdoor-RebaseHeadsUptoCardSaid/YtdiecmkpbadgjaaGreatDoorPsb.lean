/- What the theorem needs: no condition of its own. -/
import Derived.Test.YtdiecmkpbadgjaaGreatDoorPsa
set_option linter.all false
set_option maxRecDepth 100000
set_option maxHeartbeats 2000000
namespace Go.Proofs.YtdiecmkpbadgjaaGreatDoor
open Go.Proofs.Tryz
open Go.RowKit
variable{w:World}{F:Nat->Prop}{h:Nat}{s:Sl}
theorem Rd.QcV{ks:List (PT h)}(N:Rd w F 1 s ks.length (ptrs h ks)){i:Nat}{k:PT h}(I:ks[i]? = some k) :
  ∃b o,s.a=some ⟨b,o,none⟩/\F b/\ks.length<=s.c/\s.c<=maxLen/\w.cell? ⟨b,o+i,none⟩=some (ptr h k):=by
 obtain⟨b,o,h1,h2,h3⟩:=N;have hi:i<ks.length:=(ae.1 I).1;obtain⟨e1,e2,Z⟩:=h1.eq oM;exact⟨b,o,e1,h1.fits oM,e2,Z,h3 i _ (by rw[ptrs,ar,I];rfl)⟩
theorem Qvl(w:World)(a b c:Nat):(w.drewN (a+b)).drewN c=w.drewN (a+(b+c)):=by rw[World.drewN_drewN,bH]
variable{G:Nat->Prop}
theorem Qnk{t u:PT h}(N:IsN w F h t)(hu:IsN w G h u):Calls prog 121 #[ptr h t,ptr h u] w λe w'=>e=.returned (.bool (klt (Qbl (ents h t)) (Qav (ents h u))))/\∃q,w'=w.drewN q:=by
 obtain⟨-,se,sk,ne,nk,-,Z⟩:=N.cells;obtain⟨-,-,-,-,-,h5,-⟩:=Z.c7;obtain⟨-,a1,a2,a0,a3,-,I⟩:=hu.cells;obtain⟨-,-,-,-,h4,-,-⟩:=I.c7;clear Z I N hu;go_in;go_wp2_with fail;go_quiet (fail);go_wp2;go_ret;exact⟨rfl,_,rfl⟩
def QcH(h:Nat)(ks:List (PT h)):Prop:=∀i x y,ks[i]? = some x->ks[i+1]? = some y->klt (Qbl (ents h x)) (Qav (ents h y))=true
theorem QcH.take{xs:List (PT h)}(Z:QcH h xs)(m:Nat):QcH h (xs.take m):=λi x y N I=>by
 rw[br]at N I;split at N<;>split at I
 .exact Z i x y N I
 all_goals first|cases N|cases I
theorem QcH.drop{xs:List (PT h)}(Z:QcH h xs)(m:Nat):QcH h (xs.drop m):=λi x y N I=>by
 rw[bc]at N I;exact Z _ x y N I
theorem Qlw{ks:List (PT h)}(hs:Rd w F 1 s ks.length (ptrs h ks))(hk:∀k∈ks,IsN w F h k)(hr:QcH h ks)(hn:ks.length<=1000) :
  Calls prog 120 #[.slice s.a ks.length s.c,.func (.func 121) #[] #[]] w λe w'=>e=.returned true/\∃q,w'=w.drewN q:=by
 obtain⟨HS,HR,HK⟩:=Yc hs hr hk;clear hs hr hk;go_in;go_wp2_with fail;go_loopw[5] (λq wr=>∃m:Nat,(m+1<=ks.length\/m=0)/\q=.int .i64 ((m:Int)+1)/\∃q,wr=w.drewN q) (λq _=>ks.length -(intOf q).toNat)
 case atStart=>exact⟨0,.inr rfl,rfl,0,rfl⟩
 obtain⟨m,hj,rfl,qq,rfl⟩:=hrel;by_cases a3:m+1<ks.length
 ·obtain ⟨x,I⟩:∃ x,ks[m]? = some x:=⟨_,ac oM⟩
  obtain⟨y,N⟩:∃y,ks[m+1]? = some y:=⟨_,ac a3⟩;obtain⟨b,o,ha,a6,b3,a5,a1⟩:=HS.o.QcV I;obtain⟨b',o',Z,-,-,-,a0⟩:=HS.o.QcV N;rw[ha]at Z;simp only[Option.some.injEq,Addr.mk.injEq,and_true]at Z;obtain⟨rfl,rfl⟩:=Z;have c0:w.cell? ⟨b,o+m,none⟩=some (ptr h x):=a1;have c1:w.cell? ⟨b,o+(m+1),none⟩=some (ptr h y):=a0;have hc:=λW (e:∃q,W=w.drewN q)=>Qnk (w:=W) (((HK.o x (am I)).agree (F:=F) (by obtain⟨q,rfl⟩:=e;exact Agree.drewN w q))) (((HK.o y (am N)).agree (F:=F) (by obtain⟨q,rfl⟩:=e;exact Agree.drewN w q)))
  have a2:=HR.o m x y I N;obtain⟨a4,HC⟩:=Yb a2 hc;rw[ha];have b0:(m:Int)+1<(ks.length:Int):=oM
  have a9:(m:Int)<(ks.length:Int):=oM
  have a7:IntKind.i64.wrap (m:Int)=(m:Int):=by rw[eM];omega
  have b4:(0:Int)<=(m:Int)+1:=oM
  have a8:((m:Int)+1).toNat=m+1:=oM
  clear I N a1 a0 ha a2 hc;go_wp2_with fail;go_quiet ((go_at_call 121;refine(HC.o _ ⟨_,rfl⟩).mono ?_;rw[a4.o];rintro e w2 ⟨rfl,q2,rfl⟩;exact⟨rfl,_,Qvl ..⟩));go_wp2_with fail;go_roundw
  case rel=>exact⟨m+1,.inl oM,by go_num,_,rfl⟩
  simp[intOf];omega
 go_wp2_with fail;go_ret;exact⟨rfl,_,rfl⟩
theorem Rd.one(w:World)(t:TypeId)(u:Value):Rd (w.alloc (.cells #[u] t)) (λ_=>True) 1 ⟨some w,1⟩ 1 [u]:=
 ⟨w,0,.some _ _ _ _ (ao _) oN trivial,rfl,λj v I=>by rw[(gm w t #[u]).cell];simpa using I⟩
def cnt(h:Nat)(ks:List (PT h)):Nat:=(ks.flatMap (ents h)).length
def QfX(h:Nat)(ks:List (PT h)):Bool:=ks.any λk=>thin h k||decide (size h k<4)
variable{j:Nat}
theorem Qra{ks:List (PT h)}{k:PT h}(I:ks[j]? = some k):cnt h (ks.take (j+1))=cnt h (ks.take j)+(ents h k).length:=by
 rw[cnt,aJ,I];simp[cnt]
theorem Qog{ks:List (PT h)}{k:PT h}(I:ks[j]? = some k):QfX h (ks.take (j+1))=(QfX h (ks.take j) ||(thin h k||decide (size h k<4))):=by
 rw[QfX,aJ,I];simp[QfX]
theorem Qgo(h:Nat)(ks:List (PT h))(j:Nat):cnt h (ks.take j)<=cnt h ks:=by
 have:cnt h ks=cnt h (ks.take j)+cnt h (ks.drop j):=by
  simp only[cnt];rw[<-aj,<-aQ,aX]
 omega
theorem QnV(h:Nat)(t:PT h):(!QfI h t)=(thin h t||decide (size h t<4)):=by
 unfold QfI;cases thin h t
 ·simp
  by_cases h:4<=size h t
  .simp [h]
  simp[h];omega
 simp
theorem Qcr(h:Nat)(ks:List (PT h))(j:Nat):ptrs h (ks.take j)=(ptrs h ks).take j:=by simp[ptrs,List.map_take]
theorem Qnc{a b:List Ent}(h:0<a.length):Qav (a++b)=Qav a:=by
 cases a with
 |nil=>simp at h
 |cons x xs=>rfl
theorem QpA{a b:List Ent}(h:0<b.length):Qbl (a++b)=Qbl b:=by
 unfold Qbl;rw[List.getLast?_append];cases I:b.getLast? with
 |none=>rw[cW.1 I]at h;simp at h
 |some x=>rfl
theorem Qk5{h a:Nat}{ks:List (PT h)}{k:PT h}(I:ks[0]? = some k)(N:0<(ents h k).length):Qav (ents (h+1) (a,ks))=Qav (ents h k):=by
 cases ks with
 |nil=>simp at I
 | cons x xs=>
   simp at I;subst I;show Qav ((x::xs).flatMap (ents h))=_;rw[aZ,Qnc N]
theorem Qno{h a:Nat}{ks:List (PT h)}{k:PT h}(N:ks[ks.length-1]? = some k)(I:0<(ents h k).length):Qbl (ents (h+1) (a,ks))=Qbl (ents h k):=by
 have e:ks=ks.dropLast++[k]:=by
  have:ks.getLast? = some k:=by rw[List.getLast?_eq_getElem?];exact N
  obtain⟨ys,rfl⟩:=List.getLast?_eq_some_iff.1 this;simp
 show Qbl (ks.flatMap (ents h))=_;rw[e,aQ,QpA (by simpa using I)];simp
abbrev Up(F:Nat->Prop)(w w':World):Nat->Prop:=λb=>F b\/(w.heap.size<=b/\b<w'.heap.size)
def Qoq(F:Nat->Prop)(h:Nat)(ks:List (PT h))(w:World)(e:Ending)(w':World):Prop:=
 ∃a:Nat,e=.returned (.tuple #[.pointer (some ⟨a,0,none⟩),.int .i64 0])/\w.heap.size<=a/\IsN w' (Up F w w') (h+1) (a,ks)/\Ext w w'
theorem Qny{ks:List (PT h)}(hF:∀b,F b->b<w.heap.size)(hs:Rd w (Lt w) 1 s ks.length (ptrs h ks))(hk:∀k∈ks,IsN w F h k)(hr:QcH h ks)
  (h2:2<=ks.length) (h8:ks.length<=8) (b5:∀k∈ks,0<(ents h k).length) (g6:∀k∈ks,size h k<=1000) (n7:cnt h ks<=1000000000) (hh:h<=1000000000) :
  Calls prog 83 #[.slice s.a ks.length s.c] w (Qoq F h ks w):=by
 obtain⟨i0,hi,i4,i2,i1⟩:=eR Tryz.Qbg;obtain⟨HS,HK,HR,HF,HP,HZ⟩:=Yg hs hk hr hF b5 g6;have g1:¬(ks.length:Int)<2:=oM
 have o3:decide ((ks.length:Int)<2)=false:=by simp;omega
 have g2:¬(8:Int)<(ks.length:Int):=oM
 have l4:decide ((8:Int)<(ks.length:Int))=false:=by simp;omega
 obtain⟨k0,a8⟩:∃x,ks[0]? = some x:=⟨_,ac oM⟩;obtain⟨b,o,ha,c2,o5,l0,c0⟩:=HS.o.QcV a8;have f5:=QaC (HK.o k0 (am a8));obtain⟨HA,c3⟩:=Yb ha a8;rw[ct]at c0;have j6:=hY c0;have n8:(0:Int)<(ks.length:Int):=oM
 rw[ha];clear hs hk hr hF b5 g6 ha a8;go_in;go_wp2_with fail;refine f5.mono ?_;rintro e w1 ⟨rfl,rfl⟩;go_wp2_with fail;have d8:Ext w (w.alloc (.cells #[.slice none 0 0,.slice none 0 0,.int .i64 ((h:Int)+1),.int .i64 0,ByteArray.empty,ByteArray.empty,false] 159)):=(gh w).alloc _ _;go_loopw[24] (λq wr=>∃(j:Nat) (sk:Sl),j<=ks.length/\q=.int .i64 j/\Ext w wr/\Blk wr w.heap.size 159 #[.slice none 0 0,.slice sk.a j sk.c,.int .i64 ((h:Int)+1),.int .i64 (cnt h (ks.take j)),.string ByteArray.empty,.string ByteArray.empty,.bool (QfX h (ks.take j))]/\
   wr.ownsRow (w.heap.size+1) 46 1 (.slice sk.a j sk.c) j (ptrs h (ks.take j))) (λq _=>ks.length -(intOf q).toNat)
 case atStart=>exact⟨0,Sl.none,aA _,rfl,d8,gm _ _ _,eS _ _ _ _⟩
 clear d8 f5 c0;obtain⟨j,sk,hj,rfl,hx,hb,I⟩:=hrel;by_cases j7:j<ks.length
 ·obtain ⟨k,a1⟩:∃ x,ks[j]? = some x:=⟨_,ac j7⟩
  obtain⟨b',o',a0,-,-,-,d5⟩:=HS.o.QcV a1;rw[HA.o]at a0;simp only[Option.some.injEq,Addr.mk.injEq,and_true]at a0;obtain⟨rfl,rfl⟩:=a0;have c9:=am a1;have N:Agree F w wr:=hx.agree λi h=>HF.o i h
  have vk:=(hx.cell c2).trans d5;have a3:=(HK.o k c9).agree N;obtain⟨c6,se,o7,ne,nk,l1,c8⟩:=a3.cells;obtain⟨e0,e1,e2,e3,e4,e5,e6⟩:=c8.c7;obtain⟨n0,n1,n2,n3,n4,n5,n6⟩:=hb.c7;have l2:=HP.o k c9;have l8:((((ents h k).length:Nat):Int)==0)=false:=eJ.2 oM;have k2:(j:Int)<(ks.length:Int):=oM
  have f8:=λW (e:∃q,W=wr.drewN q)=>Qjp (w:=W) (F:=F) (h:=h) (t:=k) (by obtain⟨q,rfl⟩:=e;exact a3.agree (Agree.drewN wr q))
  obtain⟨HX,HB,HO,o4,j1,i3⟩:=Yg hx hb I a3 f8 a1;have l3:IntKind.i64.wrap ((h:Int)+1)=(h:Int)+1:=by rw[eM];omega
  have l5:addr h k<wr:=c8.lt;have d0:w.heap.size<wr.heap.size:=hb.lt;have i7:j+1<=maxLen:=by unfold maxLen;omega
  have f7:∀W,Ext wr W->W.ownsRow (w.heap.size+1) 46 1 (.slice sk.a j sk.c) j (ptrs h (ks.take j)):=λW hW=>
   Qab I (hW.agree (F:=Lt wr) λ_ h=>h) λb hb=>(I.lt b (by obtain⟨a,c⟩:=sk;cases a<;>simp_all [Value.ownBlock,Sl.row])).2
  have i8:=hY f7;have b6:∀i,sk.row=some i->w.heap.size+1<=i:=λb hb=>(I.lt b (by obtain⟨a,c⟩:=sk;cases a<;>simp_all [Value.ownBlock,Sl.row])).1
  have b7:=hY b6;have o8:¬addr h k=w.heap.size:=by have:=HF.o _ c6;omega
  have g8:addr h k<w.heap.size+1:=by have:=HF.o _ c6;omega
  have d6:=λW (e:Agree (Lt w) wr W)=>QqA (w:=W) (F:=F) (h:=h) (t:=k) (a3.agree (e.mono λi hi=>HF.o i hi)) (HZ.o k c9)
  have k1:=hY d6;have l9:IntKind.i64.wrap ((cnt h (ks.take j):Int)+((ents h k).length:Int))=((cnt h (ks.take (j+1)):Nat):Int):=by
   have:=Qra a1;have:=Qgo h ks (j+1);rw[eM]<;>omega
  have d4:=Qog a1;have f4:=QnV h k;obtain⟨f9,j2⟩:=Yb d4 f4;clear a1 d5 N a3 c8 hb I f8 hx f7 b6 d6 d4 f4;go_wp2_with fail;go_quiet ((go_at_call 73;refine(j1.o _ ⟨_,rfl⟩).mono ?_;rintro e w2 ⟨rfl,rfl⟩;exact⟨rfl,_,rfl⟩));go_wp2_with(at_builtin;refine Qak _ rfl _ _ 108 rfl (w.heap.size+1) 46 i0 (.pointer none) 1 8 underlying108 hi i4 i2 i1 rfl oN sk j (ptrs h (ks.take j)) rfl (i8.o _ (((gh wr).drewN _).alloc _ _)) (λ_=>True) ⟨some wr,1⟩ 1 [ptr h k] rfl (Rd.one _ _ _) (by simp[Value.oneCell']) i7 oM (by simp;omega) ?_;intro s' w1 a6 a2 i9;have b0:Agree (Lt (w.heap.size+1)) wr w1:=(((Agree.drewN wr _).trans (Agree.alloc _ _ (λi hi=>ab hi d0))).trans (a2.agree (F:=Lt (w.heap.size+1)) (λi hi=>by simp;omega) (λi hi h=>by have:=b7.o i hi;omega)));have b1:=HB.o.agree b0 (dz _);obtain⟨p0,p1,p2,p3,p4,p5,p6⟩:=b1.c7;have fz:=λi=>b1.frozen i;have x3:=(b0.cell (F:=Lt (w.heap.size+1)) (b:=addr h k) (o:=3) g8).trans e3;have g5:=hY a6;have j5:=hY a2;have g7:=hY b1;have j8:=hY b0;clear a6 a2 i9 b1 b0);go_region;have b9:Ext w ((w1.setCell ⟨w,1,none⟩ (.slice s'.a (j+1) s'.c)).setCell ⟨w,3,none⟩ (.int .i64 (cnt h (ks.take (j+1))))).drew:=
   (((((HX.o.drewN _).alloc _ _).wr j5.o (λi hi=>by have:=b7.o i hi;omega)).setCell (p:=⟨w,1,none⟩) (ao _) _).setCell (p:=⟨w,3,none⟩) (ao _) _).drew
  have a7:Blk ((w1.setCell ⟨w,1,none⟩ (.slice s'.a (j+1) s'.c)).setCell ⟨w,3,none⟩ (.int .i64 (cnt h (ks.take (j+1))))).drew w.heap.size 159 #[.slice none 0 0,.slice s'.a (j+1:Nat) s'.c,.int .i64 ((h:Int)+1),.int .i64 (cnt h (ks.take (j+1))),.string ByteArray.empty,.string ByteArray.empty,.bool (QfX h (ks.take j))]:=(g7.o.QbH 1 _).QbH 3 _;have b4:Agree (Lt w) wr ((w1.setCell ⟨w,1,none⟩ (.slice s'.a (j+1) s'.c)).setCell ⟨w,3,none⟩ (.int .i64 (cnt h (ks.take (j+1))))).drew:=
   ((j8.out.mono λi hi=>Nat.lt_succ_of_lt hi).trans (gw _ _ _ (λh=>da _ h))).trans (gw _ _ _ (λh=>da _ h))
  have f0:((w1.setCell ⟨w,1,none⟩ (.slice s'.a (j+1) s'.c)).setCell ⟨w,3,none⟩ (.int .i64 (cnt h (ks.take (j+1))))).drew.ownsRow (w.heap.size+1) 46 1 (.slice s'.a (j+1) s'.c) (j+1) (ptrs h (ks.take (j+1))):=by
   have e:ptrs h (ks.take (j+1))=ptrs h (ks.take j)++[ptr h k]:=by rw[aJ,i3.o];simp[ptrs]
   rw[e];refine Qab g5.o (F:=λi=>w+1<=i) ((gw w1 ⟨w,1,none⟩ _ (λh=>cY _ h)).trans (gw _ ⟨w,3,none⟩ _ (λh=>cY _ h))) λb hb=>(g5.o.lt b (by obtain⟨a,c⟩:=s';cases a<;>simp_all [Value.ownBlock,Sl.row])).1
  generalize World.drew _=W3 at *;obtain⟨j3,j0,j9,d3⟩:=Ye b9 a7 b4 f0;have k5:=a7.lt;have k3:addr h k<W3:=ab (HF.o _ c6) b9.size;obtain⟨y0,y1,y2,y3,y4,y5,y6⟩:=a7.c7;have fy:=λi=>a7.frozen i
  clear b9 a7 b4 f0 fz x3 p0 p1 p2 p3 p4 p5 p6;have g3:∀(q:Nat) (x:Bool),x=QfX h (ks.take (j+1))->Ext w ((W3.drewN q).setCell ⟨w,6,none⟩ (.bool x))/\
    Blk ((W3.drewN q).setCell ⟨w,6,none⟩ (.bool x)) w.heap.size 159 #[.slice none 0 0,.slice s'.a (j+1:Nat) s'.c,.int .i64 ((h:Int)+1),.int .i64 (cnt h (ks.take (j+1))),.string ByteArray.empty,.string ByteArray.empty,.bool (QfX h (ks.take (j+1)))]/\
    ((W3.drewN q).setCell ⟨w,6,none⟩ (.bool x)).ownsRow (w.heap.size+1) 46 1 (.slice s'.a (j+1) s'.c) (j+1) (ptrs h (ks.take (j+1))):=λq x hx=>by
   subst hx;refine⟨(j3.o.drewN q).setCell (p:=⟨w,6,none⟩) (ao _) _,(show Blk (W3.drewN q) w.heap.size 159 _ from j0.o).QbH 6 _,?_⟩;exact Qab (w:=W3.drewN q) (show(W3.drewN q).ownsRow _ _ _ _ _ _ from d3.o) (F:=λi=>w+1<=i) (gw _ ⟨w,6,none⟩ _ (λh=>cY _ h)) λb hb=>(d3.o.lt b (by obtain⟨a,c⟩:=s';cases a<;>simp_all [Value.ownBlock,Sl.row])).1
  have e8:=hY g3;clear g3;cases b3:QfX h (ks.take j)
  ·rw [b3] at y6
   have Z:QfX h (ks.take (j+1))=!QfI h k:=by rw[f9.o,b3,j2.o,eD]
   have b8:=hY Z;clear Z;go_wp2_with(go_at_call 119;refine(k1.o _ j9.o).mono ?_;rintro e w4 ⟨rfl,q4,rfl⟩);go_roundw
   case rel=>
    obtain⟨f1,f2,f3⟩:=e8.out q4 _ b8.o.symm;exact⟨j+1,s',oM,by go_num,f1,f2,f3⟩
   simp[intOf];omega
  rw[b3]at y6;have Z:QfX h (ks.take (j+1))=true:=by rw[f9.o,b3,Bool.true_or]
  have b8:=hY Z;clear Z;go_wp2_with fail;go_roundw
  case rel=>
   obtain⟨f1,f2,f3⟩:=e8.out 0 _ b8.o.symm;exact⟨j+1,s',oM,by go_num,f1,f2,f3⟩
  simp[intOf];omega
 obtain rfl:j=ks.length:=oM
 have N:Agree (Lt w) w wr:=hx.agree λi h=>h
 have c4:=Qlw (w:=wr) (HS.o.agree N) (λk hk=>((HK.o k hk).mono HF.o).agree N) HR.o oM;rw[HA.o]at c4;have i6:=hY c4;obtain⟨kl,a9⟩:∃x,ks[ks.length-1]? = some x:=⟨_,ac oM⟩;obtain⟨b',o',a0,-,-,-,g0⟩:=HS.o.QcV a9;rw[HA.o]at a0;simp only[Option.some.injEq,Addr.mk.injEq,and_true]at a0;obtain⟨rfl,rfl⟩:=a0;have vl:=(hx.cell c2).trans g0;have v0:=(hx.cell c2).trans j6.o;obtain⟨i5,se,o9,ne,nk,-,a4⟩:=((HK.o k0 (am c3.o)).agree (N.mono HF.o)).cells;obtain⟨j4,o0,o6,l6,o2,-,a5⟩:=((HK.o kl (am a9)).agree (N.mono HF.o)).cells;obtain⟨-,-,-,-,e4,-,-⟩:=a4.c7;obtain⟨-,-,-,-,-,e5,-⟩:=a5.c7;obtain⟨n0,n1,n2,n3,n4,n5,n6⟩:=hb.c7;have fz:=λi=>hb.frozen i
 have k4:¬addr h k0=w.heap.size:=by have:=HF.o _ i5;omega
 have k7:¬addr h kl=w.heap.size:=by have:=HF.o _ j4;omega
 have k8:¬b=w.heap.size:=oM
 have k9:addr h k0<wr:=a4.lt;have k6:addr h kl<wr:=a5.lt;have d0:w.heap.size<wr.heap.size:=hb.lt;have l7:IntKind.i64.wrap ((ks.length:Int)-1)=(ks.length:Int)-1:=by rw[eM];omega
 have p7:(0:Int)<=(ks.length:Int)-1:=oM
 have n9:(ks.length:Int)-1<(ks.length:Int):=oM
 have o1:((ks.length:Int)-1).toNat=ks.length-1:=oM
 obtain⟨HX,HB,HO,g4⟩:=Ye hx hb I a9;clear N c4 a9 g0 a4 a5 hb hx I;go_wp2_with(go_at_call 120;refine i6.o.mono ?_;rintro e w2 ⟨rfl,q2,rfl⟩);go_region
 all_goals go_wp2_with fail
 all_goals go_ret2
 have c1:=HO.o;have e7:=HB.o;rw[aR]at c1 e7;have d7:Blk (((wr.drewN (q2+1)).setCell ⟨w,4,none⟩ (.string (Qav (ents h k0)))).setCell ⟨w,5,none⟩ (.string (Qbl (ents h kl)))) w.heap.size 159 #[.slice none 0 0,.slice sk.a ks.length sk.c,.int .i64 ((h:Int)+1),.int .i64 (cnt h ks),.string (Qav (ents h k0)),.string (Qbl (ents h kl)),.bool (QfX h ks)]:=
  ((show Blk (wr.drewN (q2+1)) w.heap.size 159 _ from e7).QbH 4 _).QbH 5 _
 have f6:Ext w (((wr.drewN (q2+1)).setCell ⟨w,4,none⟩ (.string (Qav (ents h k0)))).setCell ⟨w,5,none⟩ (.string (Qbl (ents h kl)))):=
  ((HX.o.drewN _).setCell (p:=⟨w,4,none⟩) (ao _) _).setCell (p:=⟨w,5,none⟩) (ao _) _
 have g9:(((wr.drewN (q2+1)).setCell ⟨w,4,none⟩ (.string (Qav (ents h k0)))).setCell ⟨w,5,none⟩ (.string (Qbl (ents h kl)))).ownsRow (w.heap.size+1) 46 1 (.slice sk.a ks.length sk.c) ks.length (ptrs h ks):=
  Qab (w:=wr.drewN (q2+1)) (show(wr.drewN (q2+1)).ownsRow _ _ _ _ _ _ from c1) (F:=λi=>w+1<=i) ((gw _ ⟨w,4,none⟩ _ (λh=>cY _ h)).trans (gw _ ⟨w,5,none⟩ _ (λh=>cY _ h)))
   λb hb=>(c1.lt b (by obtain⟨a,c⟩:=sk;cases a<;>simp_all [Value.ownBlock,Sl.row])).1
 generalize World.setCell _ _ _=W at *;refine⟨w,rfl,ao _,?_,f6⟩;refine⟨.inr ⟨Nat.le_refl _,d7.lt⟩,sk,?_,((gz g9).mono λi hi=>.inr ⟨Nat.le_of_succ_le hi.1,hi.2⟩),λk hk=>((HK.o k hk).agree (f6.agree λi hi=>HF.o i hi)).mono λi hi=>.inl hi⟩;rw[show Qav (ents (h+1) (w.heap.size,ks))=Qav (ents h k0)from Qk5 c3.o (HP.o _ (am c3.o)),show Qbl (ents (h+1) (w.heap.size,ks))=Qbl (ents h kl)from Qno g4.o (HP.o _ (am g4.o))];exact d7
structure Kids(w:World)(F:Nat->Prop)(h:Nat)(ks:List (PT h)):Prop where
 lt:∀b,F b->b<w.heap.size
 isn:∀k∈ks,IsN w F h k
 rise:QcH h ks
 pos:∀k∈ks,0<(ents h k).length
 sz:∀k∈ks,size h k<=1000
 cn:cnt h ks<=1000000000
 hh:h<=1000000000
theorem QkZ(h:Nat)(ks:List (PT h))(j:Nat):cnt h (ks.drop j)<=cnt h ks:=by
 have:cnt h ks=cnt h (ks.take j)+cnt h (ks.drop j):=by
  simp only[cnt];rw[<-aj,<-aQ,aX]
 omega
section
variable{w : World}{F : Nat -> Prop}{h : Nat}{ks : List (PT h)}
theorem Kids.take(k:Kids w F h ks)(m:Nat):Kids w F h (ks.take m):=⟨k.lt,λx I=>k.isn x (ba I),k.rise.take m,λx I=>k.pos x (ba I),λx I=>k.sz x (ba I),ak (Qgo h ks m) k.cn,k.hh⟩
theorem Kids.drop(k:Kids w F h ks)(m:Nat):Kids w F h (ks.drop m):=⟨k.lt,λx I=>k.isn x (aN I),k.rise.drop m,λx I=>k.pos x (aN I),λx I=>k.sz x (aN I),ak (QkZ h ks m) k.cn,k.hh⟩
theorem Kids.ext(k:Kids w F h ks){w':World}(I:Ext w w'):Kids w' F h ks:=⟨λb N=>ab (k.lt b N) I.size,λx Z=>(k.isn x Z).agree (I.agree k.lt),k.rise,k.pos,k.sz,k.cn,k.hh⟩
end
variable{w':World}{cs:List Value}
theorem Rd.ext{size n:Nat}(h:Rd w (Lt w) size s n cs)(I:Ext w w'):Rd w' (Lt w') size s n cs:=(h.agree (I.agree λ_ h=>h)).mono λi hi=>ab hi I.size
def Qcf(F:Nat->Prop)(h:Nat)(ks:List (PT h))(w:World)(e:Ending)(w':World):Prop:=
 ∃t:PT (h+1),e=.returned (ptr (h+1) t)/\t.2=ks/\w.heap.size<=addr (h+1) t/\IsN w' (Up F w w') (h+1) t/\Ext w w'
variable{n:Nat}
theorem Qcl{ks:List (PT h)}(hs:Rd w (Lt w) 1 s ks.length (ptrs h ks))(hn:n=ks.length)(I:Kids w F h ks)(h2:2<=ks.length)(N:ks.length<=8) :
  Calls prog 54 #[.slice s.a n s.c] w (Qcf F h ks w):=by
 subst hn;have Z:=Qny I.lt hs I.isn I.rise h2 N I.pos I.sz I.cn I.hh;have a0:(((ks.length:Nat):Int)==1)=false:=eJ.2 oM;clear hs I;go_in;go_wp2_with fail;refine Z.mono ?_;rintro e w' ⟨a,rfl,h1,h2,h3⟩;have H2:=hY h2;clear h2;go_wp2_with fail;go_ret;exact⟨(a,ks),rfl,rfl,h1,H2.o,h3⟩
theorem Qoh{k:PT h}(hs:Rd w F 1 s 1 (ptrs h [k])) :
  Calls prog 54 #[.slice s.a 1 s.c] w λe w'=>e=.returned (ptr h k)/\w=w':=by
 obtain⟨b,o,N,a1,Z,a0,I⟩:=Rd.QcV (ks:=[k]) hs (i:=0) rfl;rw[ct]at I;rw[N];clear hs N;go_in;go_wp2;go_ret;exact⟨rfl,rfl⟩
def QmS(F:Nat->Prop)(h:Nat)(ks:List (PT h))(w:World)(e:Ending)(w':World):Prop:=
 ∃ts:List (PT (h+1)),e=two (h+1) ts/\ts.map Prod.snd=chunk ks/\(∀t∈ts,w.heap.size<=addr (h+1) t/\IsN w' (Up F w w') (h+1) t)/\Ext w w'
variable{w1 w2 w3:World}
theorem Qcf.grow{t:PT (h+1)}(hF:∀b,F b->b<w.heap.size)(h1:Ext w w1)(I:Ext w1 w2)(h2:Ext w2 w3)(Z:w1.heap.size<=addr (h+1) t)(N:IsN w2 (Up F w1 w2) (h+1) t):w.heap.size<=addr (h+1) t/\IsN w3 (Up F w w3) (h+1) t:=
 ⟨Nat.le_trans h1.size Z,(N.agree (h2.agree λi hi=>hi.elim (λh=>ab (hF i h) (ak h1.size I.size)) λh=>h.2)).mono λi hi=>hi.elim .inl λh=>.inr ⟨Nat.le_trans h1.size h.1,ab h.2 h2.size⟩⟩
theorem QhO{ks:List (PT h)}(hs:Rd w (Lt w) 1 s ks.length (ptrs h ks))(N:Kids w F h ks)(h2:2<=ks.length)(h9:ks.length<=9) :
  Calls prog 82 #[.slice s.a ks.length s.c,.func (.func 54) #[] #[]] w (QmS F h ks w):=by
 by_cases h':ks.length<=8
 ·have hc:=Qcl hs rfl N h2 h'
  have hl:(ks.length:Int)<=8:=oM
  clear hs N;go_in;go_wp2_with fail;refine hc.mono ?_;rintro e w' ⟨t,rfl,h1,h2,h3,Z⟩;have H3:=hY h3;clear h3;go_wp2_with fail;go_ret2;exact⟨[t],rfl,by show[t.2]=_;rw[h1,chunk,eH (by simpa using h')],by simpa using⟨h2,H3.o⟩,Z⟩
 have h9:ks.length=9:=oM
 obtain⟨k0,a5⟩:∃x,ks[0]? = some x:=⟨_,ac oM⟩;obtain⟨b,o,ha,a6,a4,a3,-⟩:=hs.QcV a5;have I:s=⟨some ⟨b,o,none⟩,s.c⟩:=by cases s;simp_all
 have a2:∀W,Ext w W->Calls prog 54 #[.slice (some ⟨b,o,none⟩) 4 s.c] W (Qcf F h (ks.take 4) W):=λW hW=>by
  have:=Qcl (w:=W) (F:=F) (n:=4) (s:=s) (ks:=ks.take 4) (by rw[Qcr,av,bR oM];exact(hs.take (m:=4) oM).ext hW) (by rw[av];omega) ((N.take 4).ext hW) (by rw[av];omega) (by rw[av];omega);rw[I]at this;exact this
 have a0:∀W,Ext w W->Calls prog 54 #[.slice (some ⟨b,o+4,none⟩) 5 (s.c-4)] W (Qcf F h (ks.drop 4) W):=λW hW=>by
  have a1:=hs;rw[I]at a1;exact Qcl (w:=W) (F:=F) (n:=5) (s:=⟨some ⟨b,o+4,none⟩,s.c-4⟩) (ks:=ks.drop 4) (by rw[show ptrs h (ks.drop 4)=(ptrs h ks).drop (4*1)from by simp[ptrs,List.map_drop],aw];exact(a1.drop (m:=4) oM).ext hW) (by rw[aw];omega) ((N.drop 4).ext hW) (by rw[aw];omega) (by rw[aw];omega)
 obtain⟨HL,HR,HF⟩:=Yc a2 a0 N.lt;clear a2 a0 hs N I;rw[ha,h9];rw[h9]at a4;have a7:4<=s.c:=oM
 unfold maxLen at a3;go_in;go_wp2_with fail;go_region_with (first
  |(go_at_call_of 54 (Value.slice (some ⟨b,o,none⟩) 4 s.c);refine(HL.o _ ?_).mono ?_;exact(gh w).drew;rintro e w1 ⟨t,rfl,h1,h2,h3,Z⟩;have H3:=hY h3;clear h3)
  |(go_at_call 54;refine(HR.o _ ?_).mono ?_;exact(gh w).drew.trans Z;rintro e w2 ⟨u,rfl,k1,k2,k3,k4⟩;have K3:=hY k3;clear k3))
 all_goals go_wp2_with fail
 all_goals go_ret2
 have hX:=(gh w).drew.trans Z;refine⟨[t,u],rfl,?_,?_,hX.trans k4⟩
 ·show [t.2,u.2]=_
  rw[h1,k1,chunk,eE oM]
 intro x hx;rcases aH.1 hx with rfl|hx
 .exact Qcf.grow HF.o (gh w).drew Z k4 h2 H3.o
 rcases aH.1 hx with rfl|hx
 .exact Qcf.grow HF.o hX k4 (gh w2) k2 K3.out
 simp at hx
def Qkf(h:Nat)(ks:List (PT h))(k:ByteArray):Nat:=(ks.takeWhile λt=>!(klt k (Qav (ents h t)))).length
def Qaw(h:Nat)(ks:List (PT h))(k:ByteArray):Nat:=Qkf h ks k-1
theorem QtE{ks:List (PT h)}{k:ByteArray}{p:Nat}(hp:p<=ks.length)(N:∀i t,i<p->ks[i]? = some t->klt k (Qav (ents h t))=false)(I:∀t,ks[p]? = some t->klt k (Qav (ents h t))=true):Qkf h ks k=p:=by
 induction ks generalizing p with
 |nil=>simp at hp;subst hp;rfl
 | cons a ks ih=>
   cases p with
   |zero=>simp[Qkf,I a rfl]
   | succ p=>
     have h0:=N 0 a oM rfl;have:=ih (p:=p) (by simpa using hp) (λi e hi Z=>N (i+1) e oM (by simpa using Z)) (λe Z=>I e (by simpa using Z));simp only[Qkf,List.takeWhile_cons,h0,Bool.not_false,if_true,List.length_cons];rw[<-this];rfl
theorem QtD(h:Nat)(ks:List (PT h))(k:ByteArray):Qkf h ks k<=ks.length:=(List.takeWhile_sublist _).length_le
theorem QdT{es:List Ent}(h:0<es.length):∃e∈es,Qav es=e.1:=by
 cases es with
 |nil=>simp at h
 |cons x xs=>exact⟨x,aF ..,rfl⟩
theorem QpB{es:List Ent}(h:0<es.length):∃e∈es,Qbl es=e.1:=by
 cases I:es.getLast? with
 |none=>rw[cW.1 I]at h;simp at h
 |some x=>exact⟨x,bO I,by simp[Qbl,I]⟩
theorem QiB{h:Nat}:∀{ks:List (PT h)},Sorted (ks.flatMap (ents h))->∀{i j:Nat} {x y:PT h},i<j->ks[i]? = some x->ks[j]? = some y->∀a∈ents h x,∀b∈ents h y,klt a.1 b.1=true
 |[],_,i,j,x,y,_,hx,_=>by simp at hx
 |t::ts,hs,0,0,x,y,hij,hx,hy=>oM
 | t :: ts,hs,0,j+1,x,y,hij,hx,hy=>by
   simp at hx hy;subst hx;intro a N b I;have hs:(ents h t++ts.flatMap (ents h)).Pairwise λa b=>klt a.1 b.1=true:=hs
   exact(cF.1 hs).2.2 a N b (cR.2 ⟨y,am hy,I⟩)
 |t::ts,hs,i+1,0,x,y,hij,hx,hy=>oM
 | t :: ts,hs,i+1,j+1,x,y,hij,hx,hy=>by
   simp at hx hy;have hs:(ents h t++ts.flatMap (ents h)).Pairwise λa b=>klt a.1 b.1=true:=hs
   exact QiB (cF.1 hs).2.1 (Nat.lt_of_succ_lt_succ hij) hx hy
theorem QaL{h:Nat}:∀{ks:List (PT h)},Sorted (ks.flatMap (ents h))->∀x∈ks,Sorted (ents h x)
 | t :: ts,hs,x,I=>by
   have hs:(ents h t++ts.flatMap (ents h)).Pairwise λa b=>klt a.1 b.1=true:=hs
   rcases aH.1 I with rfl|I
   .exact (cF.1 hs).1
   exact QaL (cF.1 hs).2.1 x I
theorem Qgw{ks:List (PT h)}(hs:Sorted (ks.flatMap (ents h)))(Z:∀k∈ks,0<(ents h k).length){i j:Nat}{x y:PT h}(I:i<j)(hx:ks[i]? = some x)(N:ks[j]? = some y):klt (Qav (ents h x)) (Qav (ents h y))=true:=by
 obtain⟨a,ha,ea⟩:=QdT (Z x (am hx));obtain⟨b,hb,eb⟩:=QdT (Z y (am N));rw[ea,eb];exact QiB hs I hx N a ha b hb
theorem QdI{ks:List (PT h)}(hs:Sorted (ks.flatMap (ents h)))(N:∀k∈ks,0<(ents h k).length):QcH h ks:=λi x y Z I=>by
 obtain⟨a,ha,ea⟩:=QpB (N x (am Z));obtain⟨b,hb,eb⟩:=QdT (N y (am I));rw[ea,eb];exact QiB hs (dz i) Z I a ha b hb
variable{W:World}{b1 b2:Nat}
theorem Qoi{ks:List (PT h)}(hs:Rd w (Lt w) 1 s ks.length (ptrs h ks))(Z:∀k∈ks,IsN w F h k)(hF:∀b,F b->b<w.heap.size){k:ByteArray}(h1:W.cell? b1=some (.slice s.a ks.length s.c))(h2:W.cell? b2=some (.string k))(hx:Ext w W)(hn:ks.length<=1000)
  {i:Nat} {x:PT h} (hi:ks[i]? = some x):Calls prog 101 #[i,.pointer (some b1),.pointer (some b2)] W λe w'=>e=.returned (.bool (klt k (Qav (ents h x))))/\Ext W w':=by
 obtain⟨b,o,ha,a0,a4,a3,N⟩:=hs.QcV hi;have Z:=(Z x (am hi)).agree (hx.agree hF);have hc:W.cell? ⟨b,o+i,none⟩=some (ptr h x):=(hx.cell a0).trans N;have a2:i<ks.length:=(ae.1 hi).1;have a1:(i:Int)<(ks.length:Int):=oM
 have I:=λq=>Qgv (w:=W.drewN q) (Z.agree (Agree.drewN W q))
 have HC:=hY I;rw[ha]at h1;clear hs hi hx ha N I Z;go_in;go_wp2_with fail;go_quiet ((go_at_call 102;refine(HC.o _).mono ?_;rintro e w2 ⟨rfl,rfl⟩;exact⟨rfl,_,rfl⟩));go_wp2;go_ret;exact⟨by rw[<-Quo,Bool.not_or];rfl,(gh W).drewN _⟩
theorem Qg3{ks:List (PT h)}(hs:Rd w (Lt w) 1 s ks.length (ptrs h ks))(hk:∀k∈ks,IsN w F h k)(hF:∀b,F b->b<w.heap.size)(hp:∀k∈ks,0<(ents h k).length)(k:ByteArray)(I:Sorted (ks.flatMap (ents h)))(hn:ks.length<=1000) :
  Calls prog 68 #[.slice s.a ks.length s.c,k] w λe w'=>e=.returned (Qaw h ks k)/\Ext w w':=by
 obtain⟨HS,HO,HK,HF,HP⟩:=Yf hs I hk hF hp;have a6:∀W,Ext w W->W.cell? w=some (.slice s.a ks.length s.c)->W.cell? ⟨w+1,0,none⟩=some (.string k)->
   Calls prog 69 #[.int .i64 ks.length,.func (.func 101) #[] #[.pointer (some w),.pointer (some ⟨w+1,0,none⟩)]] W (QcL ks.length (λi=>klt k ((ks[i]?.map λt=>Qav (ents h t)).getD ByteArray.empty)) W):=by
  intro W hW h1 h2;refine Qd0 101 _ _ ks.length _ W (ff func101 kM rfl) oM ?_ ?_
  ·intro i W' hi a0
   obtain⟨x,hx⟩:∃x,ks[i]? = some x:=⟨_,ac hi⟩;rw[hx];have a8:=eX W _ h1;have a9:=eX W _ h2;exact Qoi HS.o HK.o HF.o ((a0.cell a8).trans h1) ((a0.cell a9).trans h2) (hW.trans a0) hn hx
  intro i j b3 hj Z;by_cases a1:i=j
  .subst a1;exact Z
  obtain⟨x,hx⟩:∃x,ks[i]? = some x:=⟨_,ac oM⟩;obtain⟨y,hy⟩:∃y,ks[j]? = some y:=⟨_,ac hj⟩;have a7:=Qgw HO.o HP.o (i:=i) (j:=j) oM hx hy;rw[hx]at Z;rw[hy];exact QaH Z a7
 clear hs I hk hF hp;go_in;go_wp2_with fail;refine(a6 _ (((gh w).alloc _ _).alloc _ _) oO oO).mono ?_;rintro e w1 ⟨p,rfl,hp,a4,a5,a3⟩;have N:Qkf h ks k=p:=QtE hp (λi t hi ht=>by
   have:klt k ((ks[i]?.map λt=>Qav (ents h t)).getD ByteArray.empty)=false:=a4 i hi;rwa[ht]at this) (λt ht=>by
   have:klt k ((ks[p]?.map λt=>Qav (ents h t)).getD ByteArray.empty)=true:=a5 p (ao _) (ae.1 ht).1;rwa[ht]at this)
 have hX:Ext w w1:=(((gh w).alloc _ _).alloc _ _).trans a3;obtain⟨HX,a2⟩:=Yb hX N;have b0:IntKind.i64.wrap ((p:Int)-1)=(p:Int)-1:=by rw[eM];omega
 clear a4 a5 a6 hX N a3;go_wp2_with fail
 ·go_ret
  refine⟨?_,HX.o⟩;rw[Qaw,a2.o,show p-1=0 from oM];rfl
 go_ret;refine⟨?_,HX.o⟩;rw[Qaw,a2.o,show((p-1:Nat):Int)=(p:Int)-1 from oM];rfl
theorem Qck{A B:List Ent}(h:Sorted (A++B)):Sorted A/\Sorted B/\∀a∈A,∀b∈B,klt a.1 b.1=true:=cF.1 h
theorem QbI{α:Type}{l:List α}{i:Nat}{x:α}(h:l[i]? = some x):l=l.take i++x::l.drop (i+1):=by
 obtain⟨hi,rfl⟩:=ae.1 h;rw[<-aE hi,aX]
variable{e:Ent}
theorem Qpc{es:List Ent}(hs:Sorted es)(I:e∈es):klt e.1 (Qav es)=false:=by
 cases es with
 |nil=>cases I
 | cons x xs=>
   rcases aH.1 I with rfl|I
   .exact Qag _
   exact Qbh ((be.1 hs).1 e I)
theorem QhF{h:Nat}{k:ByteArray}:∀{ks:List (PT h)} {i:Nat} {t:PT h},i<Qkf h ks k->ks[i]? = some t->klt k (Qav (ents h t))=false
 |[],i,t,_,ht=>by simp at ht
 | a :: ks,i,t,hi,ht=>by
   unfold Qkf at hi;rw[dA]at hi;split at hi
   ·rename_i ha
    cases i with
    |zero=>simp at ht;subst ht;simpa using ha
    |succ i=>exact QhF (ks:=ks) (by unfold Qkf;simpa using hi) (by simpa using ht)
   simp at hi
theorem Qp9{h:Nat}{k:ByteArray}:∀{ks:List (PT h)} {t:PT h},ks[Qkf h ks k]? = some t->klt k (Qav (ents h t))=true
 |[],t,ht=>by simp at ht
 | a :: ks,t,ht=>by
   unfold Qkf at ht;rw[dA]at ht;split at ht
   .exact Qp9 (ks:=ks) (by unfold Qkf;simpa using ht)
   rename_i ha;simp at ht;subst ht;simpa using ha
theorem Qa6{ks:List (PT h)}(hs:Sorted (ks.flatMap (ents h)))(hp:∀k∈ks,0<(ents h k).length)(a5:0<ks.length)(k:ByteArray) :
  ∃a3,ks[Qaw h ks k]? = some a3/\(∀e∈(ks.take (Qaw h ks k)).flatMap (ents h),klt e.1 k=true)/\(∀e∈(ks.drop (Qaw h ks k+1)).flatMap (ents h),klt k e.1=true):=by
 have a6:=QtD h ks k;have hi:Qaw h ks k<ks.length:=by unfold Qaw;omega
 refine⟨_,ac hi,λe he=>?_,λe he=>?_⟩
 ·obtain ⟨t,ht,Z⟩:=cR.1 he
  obtain⟨j,I⟩:=bz ht;rw[br]at I;split at I
  ·rename_i hji
   have N:Qaw h ks k<Qkf h ks k:=by unfold Qaw at hji ⊢;omega
   have h1:=QhF N (ac hi);obtain⟨b,a2,eb⟩:=QdT (hp _ (am (ac hi)));have h2:=QiB hs hji I (ac hi) e Z b a2;rw[<-eb]at h2;exact QfA h2 h1
  cases I
 obtain⟨t,ht,Z⟩:=cR.1 he;obtain⟨j,I⟩:=bz ht;rw[bc]at I;have a4:=QaL hs t (am I);have N:Qkf h ks k<ks.length:=by
  have:=(ae.1 I).1;unfold Qaw at this;omega
 obtain⟨u,hu⟩:∃u,ks[Qkf h ks k]? = some u:=⟨_,ac N⟩;have hb:=Qp9 hu;have hf:=Qpc a4 Z;have a0:klt (Qav (ents h t)) (Qav (ents h u))=false:=by
  by_cases a1:Qkf h ks k=Qaw h ks k+1+j
  ·rw [a1,I] at hu
   simp only[Option.some.injEq]at hu;rw[hu];exact Qag _
  exact Qbh (Qgw hs hp (i:=Qkf h ks k) (j:=Qaw h ks k+1+j) (by unfold Qaw at *;omega) hu I)
 exact QfA hb (by
  cases hc:klt e.1 (Qav (ents h u))
  .rfl
  exact absurd (Qdx hf hc) (by rw[a0];simp))
def QcM(B:Nat)(k:ByteArray)(v:Val):(h:Nat)->PT h->List (PT h)->Prop
 |0,t,ts=>ts.map Prod.snd=chunk (QbY t.2 k v)/\∀u∈ts,B<=u.1
 |h+1,t,ts=>∃kid rs,t.2[Qaw h t.2 k]? = some kid/\QcM B k v h kid rs/\ts.map Prod.snd=chunk (t.2.take (Qaw h t.2 k)++rs++t.2.drop (Qaw h t.2 k+1))/\∀u∈ts,B<=u.1
variable{A B:Nat}
theorem QcM.mono(I:A<=B){k:ByteArray}{v:Val}:∀{h:Nat} {t:PT h} {ts:List (PT h)},QcM B k v h t ts->QcM A k v h t ts
 |0,_,_,⟨h1,h2⟩=>⟨h1,λu hu=>ak I (h2 u hu)⟩
 |_+1,_,_,⟨kid,rs,h1,h2,h3,h4⟩=>⟨kid,rs,h1,h2.mono I,h3,λu hu=>ak I (h4 u hu)⟩
theorem QsG{α β:Type}{ts:List (β × List α)}{l:List α}(h:ts.map Prod.snd=[l]):∃x,ts=[x]/\x.2=l:=by
 match ts,h with
 |[x],h=>exact⟨x,rfl,by simpa using h⟩
theorem QfJ{α β:Type}{ts:List (β × List α)}{l m:List α}(h:ts.map Prod.snd=[l,m]):∃x y,ts=[x,y]/\x.2=l/\y.2=m:=by
 match ts,h with
 |[x,y],h=>exact⟨x,y,rfl,by simpa using h⟩
theorem Qvv{ts:List (PT 0)}{l:List Ent}(h:ts.map Prod.snd=[l]):∃x:PT 0,ts=[x]/\x.2=l:=QsG (α:=Ent) (β:=Nat) h
theorem QvK{ts:List (PT 0)}{l m:List Ent}(h:ts.map Prod.snd=[l,m]):∃x y:PT 0,ts=[x,y]/\x.2=l/\y.2=m:=QfJ (α:=Ent) (β:=Nat) h
theorem QvI{ts:List (PT (n+1))}{l:List (PT n)}(h:ts.map Prod.snd=[l]):∃x:PT (n+1),ts=[x]/\x.2=l:=QsG (α:=PT n) (β:=Nat) h
theorem QvL{ts:List (PT (n+1))}{l m:List (PT n)}(h:ts.map Prod.snd=[l,m]):∃x y:PT (n+1),ts=[x,y]/\x.2=l/\y.2=m:=QfJ (α:=PT n) (β:=Nat) h
theorem Qgm{α:Type}(l:List α):(∃a,chunk l=[a])\/∃a b,chunk l=[a,b]:=by
 unfold chunk;split
 .exact .inl ⟨_,rfl⟩
 exact .inr ⟨_,_,rfl⟩
theorem QcM.two{k:ByteArray}{v:Val}{t:PT h}{ts:List (PT h)}(I:QcM B k v h t ts):(∃a,ts=[a])\/∃a b,ts=[a,b]:=by
 have:∀{α β:Type} (l:List α) {ts:List (β × List α)},ts.map Prod.snd=chunk l->(∃a,ts=[a])\/∃a b,ts=[a,b]:=by
  intro α β l ts h;rcases Qgm l with⟨a,N⟩ |⟨a,b,N⟩<;>rw[N]at h
  ·match ts,h with
   |[x],_=>exact .inl ⟨x,rfl⟩
  match ts,h with
  |[x,y],_=>exact .inr ⟨x,y,rfl⟩
 cases h with
 |zero=>exact this _ I.1
 |succ h=>obtain⟨a0,rs,-,-,Z,-⟩:=I;exact this _ Z
theorem Qhp{α:Type}(l:List α):(chunk l).flatten=l:=by
 unfold chunk;split<;>simp
theorem QcA:∀(es:List Ent) (k:ByteArray) (v:Val),(QbY es k v).length=es.length\/(QbY es k v).length=es.length+1
 |[],_,_=>.inr rfl
 | e :: es,k,v=>by
   simp only[QbY];split
   .rcases QcA es k v with h|h<;>simp[h]
   split<;>simp
theorem QjN(es:List Ent)(k:ByteArray)(v:Val):0<(QbY es k v).length:=by
 cases es with
 |nil=>simp[QbY]
 |cons e es=>simp only[QbY];split <;>(try split)<;>simp
theorem QjE(ts:List (PT 0)):ts.flatMap (ents 0)=(ts.map Prod.snd).flatten:=by
 induction ts with
 |nil=>rfl
 | cons t ts ih=>
   rw[aZ,ih];rfl
theorem Ql0(h:Nat)(ts:List (PT (h+1))):ts.flatMap (ents (h+1))=((ts.map Prod.snd).flatten:List (PT h)).flatMap (ents h):=by
 induction ts with
 |nil=>rfl
 | cons t ts ih=>
   rw[aZ,ih];show t.2.flatMap (ents h)++_=(t.2++_).flatMap (ents h);rw[aQ]
theorem QbU{t:PT (h+1)}(ok:OkT (h+1) t):∀k∈t.2,0<(ents h k).length:=λk I=>Qbk h k (ok.2.2 k I).1 (by have:=(ok.2.2 k I).2;omega)
theorem QcM.ents{B:Nat}{k:ByteArray}{v:Val}:∀{h:Nat} {t:PT h} {ts:List (PT h)},QcM B k v h t ts->OkT h t->Sorted (ents h t)->ts.flatMap (Proofs.YtdiecmkpbadgjaaGreatDoor.ents h)=QbY (ents h t) k v
 |0,t,ts,⟨h1,_⟩,_,_=>by rw[QjE,h1,Qhp];rfl
 | h+1,t,ts,⟨kid,rs,hk,hr,h1,_⟩,ok,hs=>by
   have hp:=QbU ok;obtain⟨N,I,hA,hC⟩:=Qa6 (h:=h) (ks:=t.2) hs hp (by have:=ok.1;omega) k;rw[hk]at I;simp only[Option.some.injEq]at I;subst I;have Z:=am hk;have ih:=QcM.ents hr (ok.2.2 kid Z).1 (QaL hs kid Z);rw[Ql0,h1,Qhp,aQ,aQ,ih];show _=QbY (t.2.flatMap (Proofs.YtdiecmkpbadgjaaGreatDoor.ents h)) k v
   conv=>rhs;rw[QbI hk]
   rw[aQ,aZ,Qiz hA,QgD hC,aT]
theorem QcM.ok{B:Nat}{k:ByteArray}{v:Val}:∀{h:Nat} {t:PT h} {ts:List (PT h)},QcM B k v h t ts->OkT h t->
  (∀u∈ts,OkT h u/\1<=size h u/\(4<=size h t->4<=size h u))/\(2<=ts.length->∀u∈ts,4<=size h u)
 | 0,t,ts,⟨h1,_⟩,ok=>by
   have hl:=QcA t.2 k v;have hp:=QjN t.2 k v;have a2:t.2.length<=8:=ok;unfold chunk at h1;split at h1
   ·rename_i h8
    obtain⟨x,rfl,I⟩:=Qvv h1;refine⟨λu hu=>?_,λh=>by simp at h⟩;simp at hu;subst hu;refine⟨show u.2.length<=8 by rw[I];exact h8,show 1<=u.2.length by rw[I];omega,λZ=>show 4<=u.2.length by rw[I];have Z:4<=t.2.length:=Z;omega⟩
   rename_i h8;obtain⟨x,y,rfl,I⟩:=QvK h1;have lx:x.2.length=4:=by rw[I.1,av];omega
   have ly:4<=y.2.length/\y.2.length<=8:=by rw[I.2,aw];omega
   refine⟨λu hu=>?_,λ_ u hu=>?_⟩
   ·simp at hu
    rcases hu with rfl|rfl
    .exact ⟨show u.2.length<=8 by omega,show 1<=u.2.length by omega,λ_=>show 4<=u.2.length by omega⟩
    exact⟨show u.2.length<=8 by omega,show 1<=u.2.length by omega,λ_=>show 4<=u.2.length by omega⟩
   simp at hu;rcases hu with rfl|rfl
   .show 4<=u.2.length;omega
   show 4<=u.2.length;omega
 | h+1,t,ts,⟨kid,rs,hk,hr,h1,_⟩,ok=>by
   have hm:=am hk;have a3:=(ae.1 hk).1;obtain⟨i1,i2⟩:=QcM.ok hr (ok.2.2 kid hm).1;have a0:=(ok.2.2 kid hm).2;have N:∀u∈t.2.take (Qaw h t.2 k)++rs++t.2.drop (Qaw h t.2 k+1),OkT h u/\4<=size h u:=λu hu=>by
    rcases aO.1 hu with hu|hu
    ·rcases aO.1 hu with hu | hu
     .exact ok.2.2 u (ba hu)
     exact⟨(i1 u hu).1,(i1 u hu).2.2 a0⟩
    exact ok.2.2 u (aN hu)
   have a1:(t.2.take (Qaw h t.2 k)++rs++t.2.drop (Qaw h t.2 k+1)).length=t.2.length\/(t.2.take (Qaw h t.2 k)++rs++t.2.drop (Qaw h t.2 k+1)).length=t.2.length+1:=by
    simp only[List.length_append,List.length_take,List.length_drop];rcases hr.two with⟨a,rfl⟩ |⟨a,b,rfl⟩<;>simp<;>omega
   obtain⟨o1,o2,-⟩:=ok;generalize t.2.take (Qaw h t.2 k)++rs++t.2.drop (Qaw h t.2 k+1)=L at *;unfold chunk at h1;split at h1
   ·rename_i h8
    obtain⟨x,rfl,I⟩:=QvI h1;refine⟨λu hu=>?_,λh=>by simp at h⟩;simp at hu;subst hu;refine⟨⟨by rw[I];omega,by rw[I];exact h8,by rw[I];exact N⟩,show 1<=u.2.length by rw[I];omega,λZ=>show 4<=u.2.length by rw[I];have Z:4<=t.2.length:=Z;omega⟩
   rename_i h8;obtain⟨x,y,rfl,I⟩:=QvL h1;have lx:x.2.length=4:=by rw[I.1,av];omega
   have ly:4<=y.2.length/\y.2.length<=8:=by rw[I.2,aw];omega
   have ax:∀u∈x.2,OkT h u/\4<=size h u:=λu hu=>N u (ba (I.1▸hu))
   have ay:∀u∈y.2,OkT h u/\4<=size h u:=λu hu=>N u (aN (I.2▸hu))
   refine⟨λu hu=>?_,λ_ u hu=>?_⟩
   ·simp at hu
    rcases hu with rfl|rfl
    .exact ⟨⟨oM,oM,ax⟩,show 1<=u.2.length by omega,λ_=>show 4<=u.2.length by omega⟩
    exact⟨⟨oM,oM,ay⟩,show 1<=u.2.length by omega,λ_=>show 4<=u.2.length by omega⟩
   simp at hu;rcases hu with rfl|rfl
   .show 4<=u.2.length;omega
   show 4<=u.2.length;omega
theorem Qry{es:List Ent}(hs:Sorted es)(k:ByteArray)(v:Val) :
  QbY es k v=es.take (Qct es k)++(k,v) ::(if(es[Qct es k]?).map Prod.fst=some k then es.drop (Qct es k+1)else es.drop (Qct es k)):=by
 have e1:es.take (Qct es k)=es.takeWhile λe=>klt e.1 k:=(cH.1 (List.takeWhile_prefix (l:=es) (λe:Ent=>klt e.1 k))).symm
 have hA:∀e∈es.take (Qct es k),klt e.1 k=true:=λe N=>by
  rw[e1]at N;exact dw.1 (List.all_takeWhile (l:=es) (p:=λe:Ent=>klt e.1 k)) e N
 have Z:∀e,es[Qct es k]? = some e->klt e.1 k=false:=by
  intro e N;have e2:es.drop (Qct es k)=es.dropWhile λe=>klt e.1 k:=by
   have h1:=aX (Qct es k) es;rw[e1]at h1;have h2:=List.takeWhile_append_dropWhile (p:=λe:Ent=>klt e.1 k) (l:=es);exact List.append_cancel_left (h1.trans h2.symm)
  have I:(es.drop (Qct es k))[0]? = some e:=by rw[bc];exact N
  rw[e2]at I;cases hd:es.dropWhile λe=>klt e.1 k with
  |nil=>rw[hd]at I;simp at I
  | cons x xs=>
    rw[hd]at I;simp at I;subst I;have:=List.head?_dropWhile_not (λe:Ent=>klt e.1 k) es;rw[hd]at this;simpa using this
 have hB:∀e∈es.drop (Qct es k),klt e.1 k=false:=λe N=>by
  obtain⟨j,hj⟩:=bz N;rw[bc]at hj;by_cases I:j=0
  .subst I;exact Z e hj
  obtain⟨y,hy⟩:∃y,es[Qct es k]? = some y:=⟨_,ac (by have:=(ae.1 hj).1;omega)⟩;have h1:=Z y hy;have h2:=QdK hs (i:=Qct es k) (j:=Qct es k+j) oM hy hj;cases hc:klt e.1 k
  .rfl
  rw[QaH h2 hc]at h1;cases h1
 conv=>lhs;rw[<-aX (Qct es k) es]
 rw[Qiz hA,Qtg hB];congr 2;rw[List.head?_drop,List.tail_drop]
abbrev fH:=@or_false
def QcG{α:Type}(l r:List α):List (List α):=
 if 4<l.length then[l.take (l.length-1),l.drop (l.length-1)++r]else if 4<r.length then[l++r.take 1,r.drop 1]else[l++r]
theorem Qfn{α:Type}(l r:List α):(QcG l r).flatten=l++r:=by
 unfold QcG;split
 .simp [<-List.append_assoc]
 split
 .simp only[List.flatten_cons,List.flatten_nil,List.append_nil,List.append_assoc,List.take_append_drop]
 simp
theorem Qkb{α:Type}(l r:List α):(QcG l r).length=1\/(QcG l r).length=2:=by
 unfold QcG;split
 .simp
 split<;>simp
theorem Qmu{α:Type}{l r:List α}(h:(l.length=3/\4<=r.length/\r.length<=8)\/(4<=l.length/\l.length<=8/\r.length=3)):∀x∈QcG l r,4<=x.length/\x.length<=8:=by
 unfold QcG;intro x I;split at I
 ·simp only [List.mem_cons,List.not_mem_nil,or_false] at I
  rcases I with rfl|rfl
  .rw [av];omega
  rw[aj,aw];omega
 split at I
 ·simp only [List.mem_cons,List.not_mem_nil,or_false] at I
  rcases I with rfl|rfl
  .rw [aj,av];omega
  rw[aw];omega
 simp only[List.mem_cons,List.not_mem_nil,or_false]at I;subst I;rw[aj];omega
theorem Qp5{α:Type}{l r:List α}{x:List α}(N:x∈QcG l r){a:α}(I:a∈x):a∈l\/a∈r:=by
 have:a∈(QcG l r).flatten:=List.mem_flatten.2 ⟨x,N,I⟩;rw[Qfn]at this;exact aO.1 this
def Qeh(B:Nat):(h:Nat)->PT h->PT h->List (PT h)->Prop
 |0,l,r,ts=>ts.map Prod.snd=QcG l.2 r.2/\∀u∈ts,B<=u.1
 |_+1,l,r,ts=>ts.map Prod.snd=QcG l.2 r.2/\∀u∈ts,B<=u.1
theorem Qeh.mono(I:A<=B):∀{h:Nat} {l r:PT h} {ts:List (PT h)},Qeh B h l r ts->Qeh A h l r ts
 |0,_,_,_,⟨h1,h2⟩=>⟨h1,λu hu=>ak I (h2 u hu)⟩
 |_+1,_,_,_,⟨h1,h2⟩=>⟨h1,λu hu=>ak I (h2 u hu)⟩
theorem Qeh.ents:∀{h:Nat} {l r:PT h} {ts:List (PT h)},Qeh B h l r ts->ts.flatMap (Proofs.YtdiecmkpbadgjaaGreatDoor.ents h)=ents h l++ents h r
 |0,l,r,ts,⟨h1,_⟩=>by rw[QjE,h1,Qfn];rfl
 | h+1,l,r,ts,⟨h1,_⟩=>by
   rw[Ql0,h1,Qfn];show(l.2++r.2).flatMap _=_;rw[aQ];rfl
theorem QpJ{α β:Type}{ts:List (β × α)}{L:List α}(h:ts.map Prod.snd=L)(I:L.length=1\/L.length=2):ts.length=1\/ts.length=2:=by
 subst h;rwa[aq]at I
theorem Qeh.len:∀{h:Nat} {l r:PT h} {ts:List (PT h)},Qeh B h l r ts->ts.length=1\/ts.length=2
 |0,l,r,ts,⟨h1,_⟩=>QpJ h1 (Qkb (α:=Ent) _ _)
 |n+1,l,r,ts,⟨h1,_⟩=>QpJ h1 (Qkb (α:=PT n) _ _)
theorem Qeh.ok:∀{h:Nat} {l r:PT h} {ts:List (PT h)},Qeh B h l r ts->OkT h l->OkT h r->(size h l=3/\4<=size h r)\/(4<=size h l/\size h r=3)->∀u∈ts,OkT h u/\4<=size h u
 | 0,l,r,ts,⟨h1,_⟩,N,I,hs,u,hu=>by
   have hm:u.2∈QcG l.2 r.2:=by rw[<-h1];exact de hu
   have N:l.2.length<=8:=N;have I:r.2.length<=8:=I;have hs:(l.2.length=3/\4<=r.2.length)\/(4<=l.2.length/\r.2.length=3):=hs;have:=Qmu oM _ hm;exact⟨this.2,this.1⟩
 | h+1,l,r,ts,⟨h1,_⟩,N,I,hs,u,hu=>by
   have hm:u.2∈QcG l.2 r.2:=by rw[<-h1];exact de hu
   have l8:l.2.length<=8:=N.2.1;have r8:r.2.length<=8:=I.2.1;have hs:(l.2.length=3/\4<=r.2.length)\/(4<=l.2.length/\r.2.length=3):=hs;have:=Qmu oM _ hm;refine⟨⟨oM,this.2,λx Z=>?_⟩,this.1⟩;rcases Qp5 hm Z with Z|Z
   .exact N.2.2 x Z
   exact I.2.2 x Z
def Qsu(B h:Nat)(ks:List (PT h))(i:Nat)(ks':List (PT h)):Prop:=
 ∃l r ts,ks[i-1]? = some l/\ks[i-1+1]? = some r/\Qeh B h l r ts/\ks'=ks.take (i-1)++ts++ks.drop (i-1+2)
def QmO(B:Nat)(k:ByteArray)(h:Nat)(R:PT h->PT h->Prop)(ks ks':List (PT h)):Prop:=
 ∃kid kid',ks[Qaw h ks k]? = some kid/\R kid kid'/\
  ((4<=size h kid'/\ks'=ks.set (Qaw h ks k) kid')\/(size h kid'<4/\Qsu B h (ks.set (Qaw h ks k) kid') (Qaw h ks k) ks'))
def Qi3(B:Nat)(k:ByteArray):(h:Nat)->PT h->PT h->Prop
 |0,t,u=>u.2=QbM t.2 k/\B<=u.1
 |h+1,t,u=>QmO B k h (Qi3 B k h) t.2 u.2/\B<=u.1
theorem Qsu.mono(N:A<=B){ks I:List (PT h)}{i:Nat}(hm:Qsu B h ks i I):Qsu A h ks i I:=by
 obtain⟨l,r,ts,h1,h2,h3,Z⟩:=hm;exact⟨l,r,ts,h1,h2,h3.mono N,Z⟩
theorem QmO.mono(a1:A<=B){k:ByteArray}{R S:PT h->PT h->Prop}(Z:∀x y,R x y->S x y){ks N:List (PT h)}(hd:QmO B k h R ks N):QmO A k h S ks N:=by
 obtain⟨a0,I,h1,h2,h3⟩:=hd;exact⟨a0,I,h1,Z _ _ h2,h3.imp_right λ⟨a,b⟩=>⟨a,b.mono a1⟩⟩
theorem Qi3.mono(I:A<=B){k:ByteArray}:∀{h:Nat} {t u:PT h},Qi3 B k h t u->Qi3 A k h t u
 |0,_,_,⟨h1,h2⟩=>⟨h1,ak I h2⟩
 |_+1,_,_,⟨h1,h2⟩=>⟨h1.mono I λ_ _ N=>N.mono I,ak I h2⟩
theorem set_mid{α:Type}{l:List α}{i:Nat}{x y:α}(h:l[i]? = some x):l.set i y=l.take i++y::l.drop (i+1):=by
 rw[ci,eH (ae.1 h).1]
theorem QiU{α:Type}{l:List α}{i:Nat}{x y:α}(h:l[i]? = some x)(N:l[i+1]? = some y):l=l.take i++x::y::l.drop (i+2):=by
 have I:=QbI h;obtain⟨hi,rfl⟩:=ae.1 N;rw[aE hi]at I;exact I
theorem Qsu.ents{ks I:List (PT h)}{i:Nat}(N:Qsu B h ks i I):I.flatMap (Proofs.YtdiecmkpbadgjaaGreatDoor.ents h)=ks.flatMap (Proofs.YtdiecmkpbadgjaaGreatDoor.ents h):=by
 obtain⟨l,r,ts,h1,h2,Z,rfl⟩:=N
 conv=>rhs;rw[QiU h1 h2]
 simp only[List.flatMap_append,List.flatMap_cons,Z.ents,List.append_assoc]
theorem Qf3{ks:List (PT h)}{k:ByteArray}{I:PT h}(Z:ks[Qaw h ks k]? = some I)(N:∀e∈(ks.take (Qaw h ks k)).flatMap (ents h),klt e.1 k=true)(hC:∀e∈(ks.drop (Qaw h ks k+1)).flatMap (ents h),klt k e.1=true) :
  Qaq (ks.flatMap (ents h)) k=Qaq (ents h I) k:=by
 conv=>lhs;rw[QbI Z]
 rw[aQ,aZ,Ql3 N,QjG hC]
theorem QmO.ents{k:ByteArray}{R:PT h->PT h->Prop}{ks a0:List (PT h)}(hd:QmO B k h R ks a0)(hs:Sorted (ks.flatMap (Proofs.YtdiecmkpbadgjaaGreatDoor.ents h)))(hp:∀x∈ks,0<(Proofs.YtdiecmkpbadgjaaGreatDoor.ents h x).length)(a2:0<ks.length)
  (hR:∀x y,x∈ks->R x y->Proofs.YtdiecmkpbadgjaaGreatDoor.ents h y=QbM (Proofs.YtdiecmkpbadgjaaGreatDoor.ents h x) k):a0.flatMap (Proofs.YtdiecmkpbadgjaaGreatDoor.ents h)=QbM (ks.flatMap (Proofs.YtdiecmkpbadgjaaGreatDoor.ents h)) k:=by
 obtain⟨a1,I,hk,hr,h3⟩:=hd;obtain⟨a3,N,hA,hC⟩:=Qa6 (h:=h) (ks:=ks) hs hp a2 k;rw[hk]at N;simp only[Option.some.injEq]at N;subst N;have Z:(ks.set (Qaw h ks k) I).flatMap (Proofs.YtdiecmkpbadgjaaGreatDoor.ents h)=QbM (ks.flatMap (Proofs.YtdiecmkpbadgjaaGreatDoor.ents h)) k:=by
  rw[set_mid hk]
  conv=>rhs;rw[QbI hk]
  simp only[List.flatMap_append,List.flatMap_cons];rw[hR a1 I (am hk) hr,Qik hA,Qgu hC]
 rcases h3 with⟨-,rfl⟩ |⟨-,hm⟩
 .exact Z
 rw[hm.ents,Z]
theorem Qi3.ents{k:ByteArray}:∀{h:Nat} {t u:PT h},Qi3 B k h t u->OkT h t->Sorted (Proofs.YtdiecmkpbadgjaaGreatDoor.ents h t)->Proofs.YtdiecmkpbadgjaaGreatDoor.ents h u=QbM (Proofs.YtdiecmkpbadgjaaGreatDoor.ents h t) k
 |0,t,u,⟨h1,_⟩,_,_=>h1
 | h+1,t,u,⟨h1,_⟩,ok,hs=>
   h1.ents hs (QbU ok) (by have:=ok.1;omega) λx y I N=>N.ents (ok.2.2 x I).1 (QaL hs x I)
theorem QlY:∀{es:List Ent} {k:ByteArray},Sorted es->(Qaq es k).isSome=true->(QbM es k).length+1=es.length
 |[],_,_,h=>by cases h
 | e :: es,k,hs,h=>by
   have I:=be.1 hs;simp only[QbM];by_cases Z:e.1=k
   ·subst Z
    simp[Qag]
   simp only[Qaq,Z,if_false]at h;have a0:klt e.1 k=true:=by
    cases N:Qaq es k with
    |none=>rw[N]at h;cases h
    | some v=>
      have:∃x∈es,x.1=k:=by
       clear hs I h Z
       induction es with
       |nil=>cases N
       | cons a es ih=>
         simp only[Qaq]at N;by_cases ha:a.1=k
         .exact ⟨a,aF ..,ha⟩
         simp only[ha,if_false]at N;obtain⟨x,hx,e⟩:=ih N;exact⟨x,aS _ hx,e⟩
      obtain⟨x,hx,rfl⟩:=this;exact I.1 x hx
   simp only[a0,if_true,List.length_cons];rw[QlY I.2 h]
theorem QmO.ok{k:ByteArray}{R:PT h->PT h->Prop}{ks a1:List (PT h)}(hd:QmO B k h R ks a1)(a2:∀x∈ks,OkT h x/\4<=size h x)(h2:2<=ks.length)
  (hR:∀x y,x∈ks->ks[Qaw h ks k]? = some x->R x y->OkT h y/\size h x<=size h y+1):(∀u∈a1,OkT h u/\4<=size h u)/\a1.length<=ks.length/\ks.length<=a1.length+1:=by
 obtain⟨a4,I,hk,hr,h3⟩:=hd;have a5:=am hk;have hi:=(ae.1 hk).1;obtain⟨o1,o2⟩:=hR a4 I a5 hk hr;have o4:=(a2 a4 a5).2;have a3:∀u∈ks.set (Qaw h ks k) I,u=I\/(OkT h u/\4<=size h u):=λu hu=>by
  rcases cA hu with hu|hu
  .exact .inr (a2 u hu)
  exact .inl hu
 rcases h3 with⟨h4,rfl⟩ |⟨h4,l,r,ts,hl,a0,hp,rfl⟩
 ·refine ⟨fun u hu=>?_,oO,oO⟩
  rcases a3 u hu with rfl|h
  .exact ⟨o1,h4⟩
  exact h
 generalize hI:Qaw h ks k=i at *;have a7:size h I=3:=oM
 have Z:∀j,j≠i->∀x,(ks.set i I)[j]? = some x->OkT h x/\4<=size h x:=λj hj x hx=>by
  rw[du oM]at hx;exact a2 x (am hx)
 have a6:(ks.set i I)[i]? = some I:=by rw[df hi]
 have N:OkT h l/\OkT h r/\((size h l=3/\4<=size h r)\/(4<=size h l/\size h r=3)):=by
  by_cases h0:i=0
  ·subst h0
   rw[a6]at hl;simp only[Option.some.injEq]at hl;subst hl;have:=Z 1 oM r a0;exact⟨o1,this.1,.inl ⟨a7,this.2⟩⟩
  rw[show i-1+1=i from oM,a6]at a0;simp only[Option.some.injEq]at a0;subst a0;have:=Z (i-1) oM l hl;exact⟨this.1,o1,.inr ⟨this.2,a7⟩⟩
 have a8:=hp.ok N.1 N.2.1 N.2.2;have a9:=hp.len;refine⟨λu hu=>?_,?_,?_⟩
 ·rcases aO.1 hu with hu | hu
  ·rcases aO.1 hu with hu | hu
   ·obtain ⟨j,hj⟩:=bz hu
    rw[br]at hj;split at hj
    .exact Z j oM u hj
    cases hj
   exact a8 u hu
  obtain⟨j,hj⟩:=bz hu;rw[bc]at hj;exact Z _ oM u hj
 .simp only[List.length_append,List.length_take,List.length_drop,List.length_set];omega
 simp only[List.length_append,List.length_take,List.length_drop,List.length_set];have:=(ae.1 a0).1;rw[ce]at this;omega
theorem Qi3.ok{k:ByteArray}:∀{h:Nat} {t u:PT h},Qi3 B k h t u->OkT h t->4<=size h t->Sorted (Proofs.YtdiecmkpbadgjaaGreatDoor.ents h t)->(Qaq (Proofs.YtdiecmkpbadgjaaGreatDoor.ents h t) k).isSome=true->OkT h u/\size h t<=size h u+1/\size h u<=size h t
 | 0,t,u,⟨h1,_⟩,ok,_,hs,hg=>by
   have:=QlY hs hg;have e:size 0 u=(QbM (Proofs.YtdiecmkpbadgjaaGreatDoor.ents 0 t) k).length:=by show u.2.length=_;rw[h1];rfl
   have e2:(Proofs.YtdiecmkpbadgjaaGreatDoor.ents 0 t).length=size 0 t:=rfl;have ok:size 0 t<=8:=ok;exact⟨show size 0 u<=8 by omega,oM,oM⟩
 | h+1,t,u,⟨h1,_⟩,ok,h4,hs,hg=>by
   have h4:4<=t.2.length:=h4;obtain⟨a,b,c⟩:=h1.ok ok.2.2 ok.1 λx y Z N hr=>by
    obtain⟨a0,I,hA,hC⟩:=Qa6 (h:=h) (ks:=t.2) hs (QbU ok) oM k;rw[N]at I;simp only[Option.some.injEq]at I;subst I;have:=hr.ok (ok.2.2 x Z).1 (ok.2.2 x Z).2 (QaL hs x Z) (by rw[<-Qf3 N hA hC];exact hg);exact⟨this.1,this.2.1⟩
   have o8:=ok.2.1;exact⟨⟨oM,oM,a⟩,c,b⟩
theorem QoV{es:List Ent}{k:ByteArray}(h:Qaq es k=none):QbM es k=es:=by
 induction es with
 |nil=>rfl
 | cons e es ih=>
   simp only[Qaq]at h;by_cases I:e.1=k
   .simp [I]at h
   simp only[I,if_false]at h;simp only[QbM,I,if_false];split
   .rw [ih h]
   rfl
def Qcj(a b:Int):Int:=if a<b then -1 else if b<a then 1 else 0
def Qjg(a b:Bool):Int:=if a=b then 0 else if b then -1 else 1
def Qbn(a b:ByteArray):Int:=if klt a b then -1 else if klt b a then 1 else 0
mutual
def Qbq:Val->Val->Int
 | .mk k b i t l ok ov,y=>
   if k≠y.kind then Qcj k y.kind else if k=2 then Qjg b y.b else if k=3 then Qcj i y.i else if k=4 then Qbn t y.t else if k=5 then cmpL l y.l else if k=6 then Qe5 ov ok y.ok y.ov else 0
def cmpL:List Val->List Val->Int
 |[],m=>if m.length=0 then 0 else -1
 |_::_,[]=>1
 |a::l,b::m=>if Qbq a b≠0 then Qbq a b else cmpL l m
def Qe5:List Val->List ByteArray->List ByteArray->List Val->Int
 |[],_,_,m=>if m.length=0 then 0 else -1
 |_::_,_,_,[]=>1
 |a::l,ka,kb,b::m=>if Qbn (ka.headD ByteArray.empty) (kb.headD ByteArray.empty)≠0 then Qbn (ka.headD ByteArray.empty) (kb.headD ByteArray.empty)else if Qbq a b≠0 then Qbq a b else Qe5 l ka.tail kb.tail m
end
theorem Qj7(a:Int):Qcj a a=0:=by simp[Qcj]
theorem Qj8{a b:Int}:Qcj a b=0↔a=b:=by unfold Qcj;split <;>(try split)<;>omega
theorem QmX{a b:Bool}:Qjg a b=0↔a=b:=by cases a<;>cases b<;>simp[Qjg]
theorem Qd1(a:ByteArray):Qbn a a=0:=by simp[Qbn,Qag]
theorem QhQ{a b:ByteArray}:Qbn a b=0↔a=b:=by
 constructor
 ·intro h
  unfold Qbn at h;split at h
  .cases h
  split at h
  .cases h
  rename_i h1 h2;exact QbE (by simpa using h1) (by simpa using h2)
 rintro rfl;exact Qd1 _
theorem QoN(m:Nat):∀d:Val,SizeOf.sizeOf d<=m->Qbq d d=0:=by
 induction m with
 |zero=>intro d hd;have:=Val.Qb6 d;omega
 | succ m ih=>
   intro d hd;obtain⟨k,b,i,t,l,Z,ov⟩:=d;have hl:∀I:List Val,SizeOf.sizeOf I<=m->cmpL I I=0:=by
    intro I
    induction I with
    |nil=>intro _;simp[cmpL]
    | cons a I ihl=>
      intro hs;simp only[List.cons.sizeOf_spec]at hs;simp only[cmpL];rw[ih a oM];simpa using ihl oM
   have ho:∀(I:List Val) (N:List ByteArray),SizeOf.sizeOf I<=m->Qe5 I N N I=0:=by
    intro I
    induction I with
    |nil=>intro N _;simp[Qe5]
    | cons a I ihl=>
      intro N hs;simp only[List.cons.sizeOf_spec]at hs;simp only[Qe5];rw[ih a oM,Qd1];simpa using ihl N.tail oM
   simp only[Val.mk.sizeOf_spec]at hd;simp only[Qbq,Val.kind,Val.b,Val.i,Val.t,Val.l,Val.ok,Val.ov];simp only[ne_eq,not_true_eq_false,if_false,Qj7,Qd1,hl l oM,ho ov Z oM,Qjg,if_true];simp
theorem QcN(d:Val):Qbq d d=0:=QoN _ d (ao _)
def Qeq:List Ent->List Ent->Bool
 |[],[]=>true
 |a::l,b::m=>decide (a.1=b.1)&&decide (Qbq a.2 b.2=0)&&Qeq l m
 |_,_=>false
theorem QhK:∀l:List Ent,Qeq l l=true
 |[]=>rfl
 |a::l=>by simp[Qeq,QcN,QhK l]
theorem Qkr:∀{l m:List Ent},Qeq l m=true->l.length=m.length
 |[],[],_=>rfl
 | a :: l,b :: m,h=>by
   simp only[Qeq,Bool.and_eq_true]at h;simp[Qkr h.2]
 |[],_::_,h=>by cases h
 |_::_,[],h=>by cases h
section
variable{P : Program}(w : World)
theorem QfU{ops:Array Oper}{o:Oper}{a:Act}{K:Act->World->Prop}{Q:Exit->Act->World->Prop}{E:Prop}(I:o.guard=none)(d s:Operand)(t Z:TypeId)
  (ho:o.op=.call { callee:=.builtin .append,args:=#[d,s],argTypes:=#[t,Z] }) (v u:Value) (hd:a.eval d=v) (hs:a.eval s=u) {N:Value} {w':World}
  (hr:(Builtin.append_ #[t,Z] o.type #[v,u]).run P w=.ok N w') (h:K (a.put o.dst N) w') :
  if Region.wanted o (yielded ops a.tmps)=true then Oper.wp P o a w K Q else E:=by
 have hw:Region.wanted o (yielded ops a.tmps)=true:=by simp[Region.wanted,I]
 rw[eH hw];unfold Oper.wp execOp;simp only[ho,resolve,invoke,builtin,Sem.run_bind,Sem.run_pure,Result.andThen_ok,List.map_toArray,List.map_cons,List.map_nil,hd,hs,hr];exact h
end
def QqV(base:Nat)(s:Sl)(n i:Nat)(xs:List Value)(w:World)(e:Ending)(w':World):Prop:=
 e=.returned (.slice s.a (n-1) s.c)/\w'.ownsRow base 78 7 (.slice s.a (n-1) s.c) (n-1) (xs.take (i*7)++xs.drop ((i+1)*7))/\Wr w w' s.row
theorem zeroE(w:World):(zeroValue 78).run prog w=.ok (.agg #[ByteArray.empty,.int .i64 0,false,.int .i64 0,ByteArray.empty,.slice none 0 0,.slice none 0 0]) w:=kM
theorem Qrd{base n i:Nat}{xs:List Value}(a5:w.ownsRow base 78 7 (.slice s.a n s.c) n xs)(hn:n<=1000)(f6:i<n)(h1:∀u∈xs,u.oneCell'=true) :
  Calls prog 110 #[.slice s.a n s.c,i,.int .i64 ((i:Int)+1)] w (QqV base s n i xs w):=by
 obtain⟨i0,hi,f2,b7,e6⟩:=eR Tryz.Qa8;rcases a5.2 with⟨hs,h0⟩ |⟨g,N,a1,hs,d0,hg,f0,c1,b8,a2⟩
 .omega
 simp only[Value.slice.injEq]at hs;obtain⟨ha,-,hc⟩:=hs;have c9:s=⟨some g,N⟩:=by cases s;simp_all
 have b9:=a5.1;subst c9;clear a5 ha hc;have e7:i<=N:=oM
 have d8:(i:Int)<(n:Int):=oM
 have d5:(i:Int)+1<=(n:Int):=oM
 have e3:(0:Int)<=(i:Int):=oM
 have f3:(0:Int)<=(i:Int)+1:=oM
 have f4:(i:Int)<=(i:Int)+1:=oM
 have f5:((i:Int) ==(i:Int)+1)=false:=eJ.2 oM;have e1:(N:Int)<=9223372036854775807:=by unfold maxLen at c1;omega
 have d7:(n:Int)<=(N:Int):=oM
 have e8:((i:Int)+1).toNat=i+1:=oM
 obtain⟨I,a0⟩:∃I,I=xs.drop ((i+1)*7):=⟨_,rfl⟩;have a3:I.length=(n -(i+1))*7:=by rw[a0,aw,b9,<-dv]
 have c7:∀u∈I,u.oneCell'=true:=λu hu=>h1 u (aN (a0▸hu))
 obtain⟨A,hA,b4⟩:∃A:Addr,(if N=i+1 then some (g:Addr)else some ⟨g,(i+1)*7,none⟩)=some A/\(∀j u,I[j]? = some u->w.drew.cell? (A.add j)=some u):=by
  by_cases h:N=i+1
  ·refine ⟨g,by simp [h],fun t u hu=>?_⟩
   have h0:I.length=0:=by rw[a3,show n -(i+1)=0 from oM,cE]
   rw[cf.1 h0]at hu;simp at hu
  refine⟨⟨g,(i+1)*7,none⟩,by simp[h],λj u hu=>?_⟩;rw[Qbc,fv,fB w g _ a1 78 (0,0) hg];rw[a0,bc,<-a2,br]at hu;split at hu
  .simpa [Nat.add_comm,Nat.add_left_comm,Nat.add_assoc,Nat.mul_comm]using hu
  cases hu
 obtain⟨A1,a8⟩:∃A1,A1=(a1.toList.take (i*7)++I++a1.toList.drop (i*7+I.length)).toArray:=⟨_,rfl⟩;have b3:i*7+I.length<=a1.size:=by rw[a3,b8];omega
 have c6:A1.size=a1.size:=by rw[a8];simp;omega
 obtain⟨W1,b0⟩:∃W1,W1=w.drew.setRow g A1:=⟨_,rfl⟩;have d3:∀ty,(Builtin.append_ #[41,41] ty #[.slice (some g) i N,.slice (some A) (n -(i+1)) (N -(i+1))]).run prog w.drew=.ok (.slice (some g) (n-1) N) W1:=λty=>by
  have h:=run_append_room (P:=prog) w.drew 41 ty 78 i0 underlying41 hi g i N a1 hg A (n -(i+1)) (N -(i+1)) I (by rw[b7];exact a3) b4 c7 oM (by rw[b7];exact b3);rw[b7]at h;rw[b0,a8,h,show i+(n -(i+1))=n-1 from oM]
 have c0:W1.heap[g]? = some (.cells A1 78 (0,0)):=by rw[b0];exact fm w.drew g a1 A1 78 (0,0) hg
 obtain⟨Z,hZ⟩:∃Z,Z=((.agg #[ByteArray.empty,.int .i64 0,false,.int .i64 0,ByteArray.empty,.slice none 0 0,.slice none 0 0]):Value):=⟨_,rfl⟩;have c2:∀w,(zeroValue 78).run prog w=.ok Z w:=λw=>by rw[hZ];exact zeroE w
 obtain⟨zs,a7⟩:∃zs,zs=(Builtin.zeroCells Z.cells 1).toList:=⟨_,rfl⟩;have c3:zs.length=7:=by rw[a7,aL,fU,hZ];rfl
 have b5:∀u∈zs,u.oneCell'=true:=by
  have:zs.all (·.oneCell')=true:=by rw[a7,hZ];kernel_rfl
  exactλu hu=>dw.1 this u hu
 obtain⟨A2,a9⟩:∃A2,A2=(A1.toList.take ((n-1)*7)++zs++A1.toList.drop ((n-1)*7+zs.length)).toArray:=⟨_,rfl⟩;obtain⟨W2,a6⟩:∃W2,W2=W1.setRow g A2:=⟨_,rfl⟩;have a4:=run_storeCells_at prog g ((n-1)*7) 78 zs 0 A1 W1 c0 (by rw[c3,c6,b8];omega) b5;have f1:∀ty c,(Builtin.clear_ #[41] ty #[.slice (some ⟨g,(n-1)*7,none⟩) 1 c]).run prog W1=.ok (.tuple #[]) W2:=λty c=>by
  simp only[Nat.add_zero]at a4;rw[<-a9,<-a6]at a4;rw[a7]at a4;simp[Builtin.clear_,run_underlying underlying41,c2,a4]
 have c8:W2.heap[g]? = some (.cells A2 78 (0,0)):=by rw[a6];exact fm W1 g A1 A2 78 (0,0) c0
 have c4:Wr w W2 (some g):=by
  rw[a6,b0];exact((Wr.refl w (some g)).drew.trans (gD w.drew A1) (λi hi=>.inl hi)).trans (gD (w.drew.setRow g A1) A2) (λi hi=>.inl hi)
 have b6:W2.ownsRow base 78 7 (.slice (some g) (n-1) N) (n-1) (xs.take (i*7)++xs.drop ((i+1)*7)):=by
  have ht:xs.take (i*7)=a1.toList.take (i*7):=by rw[<-a2,cU,bR oM]
  refine⟨by simp[b9];omega,.inr ⟨g,N,A2,rfl,d0,c8,oM,c1,by rw[a9];simp;omega,?_⟩⟩;have e2:(a1.toList.take (i*7)++I).length=(n-1)*7:=by rw[aj,av,aL,a3];omega
  rw[<-a0,ht,a9];simp only[List.toList_toArray,List.append_assoc];rw[bj (by rw[av,aL];omega),cU,bR oM,a8];simp only[List.toList_toArray];rw[bj oM,aW oM]
 obtain⟨HF,HW,HA⟩:=Yc b6 c4 hA;have e4:((n-1:Nat):Int)<(n:Int):=oM
 have d6:¬N=n-1:=oM
 have e0:n -(n-1)=1:=oM
 have d4:((n-1:Nat):Int)<=(n:Int):=oM
 clear b6 c4 c2 hZ c8 c0 a4 c6 a6 b0 a9 a8 b4 a3 c7 a0 b3 hg b8 a2 h1 b9 c3 b5 a7;go_in;go_wp2_with fail;go_region_law (refine QfU _ rfl _ _ 41 41 rfl _ _ (by simp[Act.eval,Act.put]) (by simp[Act.eval,Act.put]) (d3 _) ?_);go_wp2_with fail;go_ret;exact⟨rfl,HF.o,HW.o⟩
section
variable{P : Program}(w : World)
theorem QfV{ops:Array Oper}{o:Oper}{a:Act}{K:Act->World->Prop}{Q:Exit->Act->World->Prop}{E:Prop}(I:o.guard=none)(d s:Operand)(t Z:TypeId)
  (ho:o.op=.call { callee:=.builtin .append,args:=#[d,s],argTypes:=#[t,Z] }) (v u:Value) (hd:a.eval d=v) (hs:a.eval s=u) {N:Value} {w':World}
  (hr:(Builtin.append_ #[t,Z] o.type #[v,u]).run P w=.ok N w') (h:K (a.put o.dst N) w') :
  if Region.wanted o (yielded ops a.tmps)=true then Oper.wp P o a w K Q else E:=by
 have hw:Region.wanted o (yielded ops a.tmps)=true:=by simp[Region.wanted,I]
 rw[eH hw];unfold Oper.wp execOp;simp only[ho,resolve,invoke,builtin,Sem.run_bind,Sem.run_pure,Result.andThen_ok,List.map_toArray,List.map_cons,List.map_nil,hd,hs,hr];exact h
end
def QqW(base:Nat)(s:Sl)(n i:Nat)(xs:List Value)(w:World)(e:Ending)(w':World):Prop:=
 e=.returned (.slice s.a (n-1) s.c)/\w'.ownsRow base 46 1 (.slice s.a (n-1) s.c) (n-1) (xs.take (i*1)++xs.drop ((i+1)*1))/\Wr w w' s.row
theorem QvA(w:World):(zeroValue 46).run prog w=.ok (.pointer none) w:=kM
theorem Qf2{base n i:Nat}{xs:List Value}(a5:w.ownsRow base 46 1 (.slice s.a n s.c) n xs)(hn:n<=1000)(f6:i<n)(h1:∀u∈xs,u.oneCell'=true) :
  Calls prog 148 #[.slice s.a n s.c,i,.int .i64 ((i:Int)+1)] w (QqW base s n i xs w):=by
 obtain⟨i0,hi,f2,b7,e6⟩:=eR Tryz.Qbg;rcases a5.2 with⟨hs,h0⟩ |⟨g,N,a1,hs,d0,hg,f0,c1,b8,a2⟩
 .omega
 simp only[Value.slice.injEq]at hs;obtain⟨ha,-,hc⟩:=hs;have c9:s=⟨some g,N⟩:=by cases s;simp_all
 have b9:=a5.1;subst c9;clear a5 ha hc;have e7:i<=N:=oM
 have d8:(i:Int)<(n:Int):=oM
 have d5:(i:Int)+1<=(n:Int):=oM
 have e3:(0:Int)<=(i:Int):=oM
 have f3:(0:Int)<=(i:Int)+1:=oM
 have f4:(i:Int)<=(i:Int)+1:=oM
 have f5:((i:Int) ==(i:Int)+1)=false:=eJ.2 oM;have e1:(N:Int)<=9223372036854775807:=by unfold maxLen at c1;omega
 have d7:(n:Int)<=(N:Int):=oM
 have e8:((i:Int)+1).toNat=i+1:=oM
 obtain⟨I,a0⟩:∃I,I=xs.drop ((i+1)*1):=⟨_,rfl⟩;have a3:I.length=(n -(i+1))*1:=by rw[a0,aw,b9,<-dv]
 have c7:∀u∈I,u.oneCell'=true:=λu hu=>h1 u (aN (a0▸hu))
 obtain⟨A,hA,b4⟩:∃A:Addr,(if N=i+1 then some (g:Addr)else some ⟨g,i+1,none⟩)=some A/\(∀j u,I[j]? = some u->w.drew.cell? (A.add j)=some u):=by
  by_cases h:N=i+1
  ·refine ⟨g,by simp [h],fun t u hu=>?_⟩
   have h0:I.length=0:=by rw[a3,show n -(i+1)=0 from oM,cE]
   rw[cf.1 h0]at hu;simp at hu
  refine⟨⟨g,i+1,none⟩,by simp[h],λj u hu=>?_⟩;rw[Qbc,fv,fB w g _ a1 46 (0,0) hg];rw[a0,bc,<-a2,br]at hu;split at hu
  .simpa [Nat.add_comm,Nat.add_left_comm,Nat.add_assoc,Nat.mul_comm]using hu
  cases hu
 obtain⟨A1,a8⟩:∃A1,A1=(a1.toList.take (i*1)++I++a1.toList.drop (i*1+I.length)).toArray:=⟨_,rfl⟩;have b3:i*1+I.length<=a1.size:=by rw[a3,b8];omega
 have c6:A1.size=a1.size:=by rw[a8];simp;omega
 obtain⟨W1,b0⟩:∃W1,W1=w.drew.setRow g A1:=⟨_,rfl⟩;have d3:∀ty,(Builtin.append_ #[108,108] ty #[.slice (some g) i N,.slice (some A) (n -(i+1)) (N -(i+1))]).run prog w.drew=.ok (.slice (some g) (n-1) N) W1:=λty=>by
  have h:=run_append_room (P:=prog) w.drew 108 ty 46 i0 underlying108 hi g i N a1 hg A (n -(i+1)) (N -(i+1)) I (by rw[b7];exact a3) b4 c7 oM (by rw[b7];exact b3);rw[b7]at h;rw[b0,a8,h,show i+(n -(i+1))=n-1 from oM]
 have c0:W1.heap[g]? = some (.cells A1 46 (0,0)):=by rw[b0];exact fm w.drew g a1 A1 46 (0,0) hg
 obtain⟨Z,hZ⟩:∃Z,Z=((.pointer none):Value):=⟨_,rfl⟩;have c2:∀w,(zeroValue 46).run prog w=.ok Z w:=λw=>by rw[hZ];exact QvA w
 obtain⟨zs,a7⟩:∃zs,zs=(Builtin.zeroCells Z.cells 1).toList:=⟨_,rfl⟩;have c3:zs.length=1:=by rw[a7,aL,fU,hZ];rfl
 have b5:∀u∈zs,u.oneCell'=true:=by
  have:zs.all (·.oneCell')=true:=by rw[a7,hZ];kernel_rfl
  exactλu hu=>dw.1 this u hu
 obtain⟨A2,a9⟩:∃A2,A2=(A1.toList.take (n-1)++zs++A1.toList.drop (n-1+zs.length)).toArray:=⟨_,rfl⟩;obtain⟨W2,a6⟩:∃W2,W2=W1.setRow g A2:=⟨_,rfl⟩;have a4:=run_storeCells_at prog g (n-1) 46 zs 0 A1 W1 c0 (by rw[c3,c6,b8];omega) b5;have f1:∀ty c,(Builtin.clear_ #[108] ty #[.slice (some ⟨g,n-1,none⟩) 1 c]).run prog W1=.ok (.tuple #[]) W2:=λty c=>by
  simp only[Nat.add_zero]at a4;rw[<-a9,<-a6]at a4;rw[a7]at a4;simp[Builtin.clear_,run_underlying underlying108,c2,a4]
 have c8:W2.heap[g]? = some (.cells A2 46 (0,0)):=by rw[a6];exact fm W1 g A1 A2 46 (0,0) c0
 have c4:Wr w W2 (some g):=by
  rw[a6,b0];exact((Wr.refl w (some g)).drew.trans (gD w.drew A1) (λi hi=>.inl hi)).trans (gD (w.drew.setRow g A1) A2) (λi hi=>.inl hi)
 have b6:W2.ownsRow base 46 1 (.slice (some g) (n-1) N) (n-1) (xs.take (i*1)++xs.drop ((i+1)*1)):=by
  have ht:xs.take (i*1)=a1.toList.take (i*1):=by rw[<-a2,cU,bR oM]
  refine⟨by simp[b9];omega,.inr ⟨g,N,A2,rfl,d0,c8,oM,c1,by rw[a9];simp;omega,?_⟩⟩;have e2:(a1.toList.take (i*1)++I).length=(n-1)*1:=by rw[aj,av,aL,a3];omega
  rw[<-a0,ht,a9];simp only[List.toList_toArray,List.append_assoc];rw[bj (by rw[av,aL];omega),cU,bR oM,a8];simp only[List.toList_toArray];rw[bj oM,aW oM]
 obtain⟨HF,HW,HA⟩:=Yc b6 c4 hA;have e4:((n-1:Nat):Int)<(n:Int):=oM
 have d6:¬N=n-1:=oM
 have e0:n -(n-1)=1:=oM
 have d4:((n-1:Nat):Int)<=(n:Int):=oM
 clear b6 c4 c2 hZ c8 c0 a4 c6 a6 b0 a9 a8 b4 a3 c7 a0 b3 hg b8 a2 h1 b9 c3 b5 a7;go_in;go_wp2_with fail;go_region_law (refine QfV _ rfl _ _ 108 108 rfl _ _ (by simp[Act.eval,Act.put]) (by simp[Act.eval,Act.put]) (d3 _) ?_);go_wp2_with fail;go_ret;exact⟨rfl,HF.o,HW.o⟩
structure St(H:Nat->Prop)(w w':World):Prop where
 os:w'.os=w.os
 tape:w'.tape=w.tape
 output:w'.output=w.output
 size:w.heap.size<=w'.heap.size
 block:∀b,b<w.heap.size->¬H b->w'.heap[b]? = w.heap[b]?
 fz:∀b o,w'.frozen? ⟨b,o,none⟩=w.frozen? ⟨b,o,none⟩
theorem Ext.fz(h:Ext w w')(b o:Nat):w'.frozen? ⟨b,o,none⟩=w.frozen? ⟨b,o,none⟩:=by
 by_cases I:b<w.heap.size
 .exact h.frozen I
 rw[h.free _ _ oM,frozen_none oM]
theorem Ext.st(h:Ext w w')(H:Nat->Prop):St H w w':=⟨h.below.os,h.below.tape,h.below.output,h.size,λ_ I _=>h.heap I,h.fz⟩
theorem St.refl(H:Nat->Prop)(w:World):St H w w:=(gh w).st H
variable{H:Nat->Prop}
theorem Wr.st{row:Option Nat}(h:Wr w w' row)(I:∀i,row=some i->H i):St H w w':=
 ⟨h.grown.os,h.grown.tape,h.grown.output,h.grown.size,λb N Z=>h.grown.block b N λe=>Z (I b e.symm),h.fz⟩
theorem St.trans{a b c:World}(h:St H a b)(k:St H b c):St H a c:=
 ⟨k.os.trans h.os,k.tape.trans h.tape,k.output.trans h.output,ak h.size k.size,λi hi I=>(k.block i (ab hi h.size) I).trans (h.block i hi I),λb o=>(k.fz b o).trans (h.fz b o)⟩
theorem St.mono{a b:World}(h:St H a b)(Z:∀i,i<a.heap.size->H i->G i):St G a b:=
 ⟨h.os,h.tape,h.output,h.size,λi hi N=>h.block i hi λI=>N (Z i hi I),h.fz⟩
theorem St.QlZ(h:St H w w')(N:∀b,b<w.heap.size->¬H b):Ext w w':=
 ⟨⟨h.os,h.tape,h.output,h.size,λb I=>h.block b I (N b I)⟩,λb o I=>(h.fz b o).trans (frozen_none I)⟩
theorem Ext.step{a w w':World}(h:Ext a w)(k:St H w w')(I:∀b,H b->a.heap.size<=b):Ext a w':=
 (St.trans (h.st H) k).QlZ λb Z N=>by have:=I b N;omega
theorem St.ext{a b c:World}(h:St H a b)(k:Ext b c):St H a c:=h.trans (k.st H)
theorem St.set{a w:World}(h:St H a w){p:Addr}(I:a.heap.size<=p.block\/H p.block)(u:Value):St H a (w.setCell p u):=
 ⟨h.os,h.tape,h.output,by simpa[World.setCell]using h.size,λi hi N=>(fh w p u i (by
   rintro rfl;rcases I with I|I
   .omega
   exact N I)).trans (h.block i hi N),λb o=>by rw[World.frozen?_setCell];exact h.fz b o⟩
theorem St.cell(h:St H w w'){b o:Nat}(I:b<w)(N:¬H b):w'.cell? ⟨b,o,none⟩=w.cell? ⟨b,o,none⟩:=
 fb (w:=w) (a:=⟨b,o,none⟩) (h.block b I N)
theorem St.drew{a w:World}(h:St H a w):St H a w.drew:=h.ext ((gh w).drew)
theorem St.alloc{a w:World}(h:St H a w)(c:Array Value)(t:TypeId):St H a (w.alloc (.cells c t)):=h.ext ((gh w).alloc c t)
variable{g:Nat}
theorem St.blk{t:TypeId}{cs:Array Value}(h:St H w w')(I:Blk w g t cs)(N:¬H g):Blk w' g t cs:=(h.block g I.lt N).trans I
abbrev NH(H:Nat->Prop)(w:World):Nat->Prop:=λb=>b<w.heap.size/\¬H b
theorem St.agree(h:St H w w'):Agree (NH H w) w w':=λb I=>h.block b I.1 I.2
abbrev gB:=@St.refl
abbrev fZ:=@of_decide_eq_true
variable{xs:List LE}
theorem OE.block{base:Nat}(h:OE w base s xs)(hn:0<xs.length):∃g cap,s=⟨some ⟨g,0,none⟩,cap⟩/\base<=g/\xs.length<=cap/\cap<=maxLen/\Qap w g 78 7 cap:=by
 rcases h.own.2 with⟨hv,h0⟩ |⟨g,cap,I,hv,Z,hg,N,a1,a0,-⟩
 .omega
 simp only[Value.slice.injEq]at hv;exact⟨g,cap,by obtain⟨a,c⟩:=s;simp_all,Z,N,a1,I,hg,a0⟩
variable{u:Value}
theorem Qpf(xs:List LE)(i:Nat)(x:LE){p:Nat}(hi:i<xs.length)(hu:(QaD (xs.set i x))[p]? = some u) :
  (∃c,c<7/\p=i*7+c/\x.cells[c]? = some u)\/((p<i*7\/i*7+7<=p)/\(QaD xs)[p]? = some u):=by
 have hp:p<xs.length*7:=by have:=(ae.1 hu).1;rw[QcR,ce]at this;exact this
 obtain⟨j,c,rfl,I⟩:∃j c,p=j*7+c/\c<7:=⟨p/7,p%7,oM,oM⟩;by_cases Z:j=i
 ·subst Z
  rw[Qc4 (x:=x) (by rw[df hi]) c I]at hu;exact .inl ⟨c,I,rfl,hu⟩
 obtain⟨y,N⟩:∃y,xs[j]? = some y:=⟨_,ac oM⟩;rw[Qc4 (x:=y) (by rw[du oM];exact N) c I]at hu;exact .inr ⟨oM,by rw[Qc4 N c I];exact hu⟩
variable{sl so:Sl}
theorem OE.set{base g cap:Nat}(ho:OE w base ⟨some g,cap⟩ xs)(a3:base<=g)(hb:base<=w.heap.size)(a0:xs.length<=cap)(a1:cap<=maxLen)(hf:Qap w g 78 7 cap){i:Nat}(hi:i<xs.length){k:ByteArray}{v:Val}(hv:RV w (Lt base) v sl so)(hk:k.size<=maxLen) :
  ES (QeW w g (i*7) k v sl so) (Lt w) ⟨some g,cap⟩ (xs.set i ⟨k,v,sl,so⟩):=by
 have N:=QgR hf (o:=i*7) k v sl so oM;refine⟨⟨g,0,?_,by rw[QcR],λp u hu=>?_⟩,λx hx=>?_,by rw[ce];exact ho.few⟩
 .rw [ce];exact .some _ _ _ _ a0 a1 hf.lt
 ·rw [aD]
  rcases Qpf xs i _ hi hu with⟨c,hc,rfl,I⟩ |⟨hd,a2⟩
  ·have Z:c=0∨c=1∨c=2∨c=3∨c=4∨c=5∨c=6:=oM
   rcases Z with rfl|rfl|rfl|rfl|rfl|rfl|rfl
   .exact N.1.trans I
   .exact N.2.c0.trans I
   .exact N.2.c1.trans I
   .exact N.2.c2.trans I
   .exact N.2.c3.trans I
   .exact N.2.c4.trans I
   exact N.2.c5.trans I
  rw[Qby _ _ _ _ _ _ _ _ oM];have:=ho.own.cells (g:=g) rfl p u a2;rwa[Qbc,aD]at this
 rcases cA hx with hx|rfl
 .exact ⟨((ho.vals x hx).1.agree (QcY w g _ k v sl so (λh=>h.2 rfl))).mono λi hi=>hi.1.2,(ho.vals x hx).2⟩
 exact⟨(hv.agree (QcY w g _ k v sl so (λh=>by have h:g<base:=h;omega))).mono λi hi=>ab hi hb,hk⟩
theorem LE.one(x:LE):∀u∈x.cells,u.oneCell'=true:=by
 intro u hu;simp only[LE.cells,List.mem_cons,List.not_mem_nil,or_false]at hu;rcases hu with rfl|rfl|rfl|rfl|rfl|rfl|rfl<;>rfl
theorem QbX(xs:List LE):∀u∈QaD xs,u.oneCell'=true:=λu hu=>by
 obtain⟨x,-,I⟩:=cR.1 hu;exact x.one u I
variable{s':Sl}{x:LE}
theorem OE.inserted{base p:Nat}(ho:OE w base s xs)(hp:p<=xs.length)(hb:base<=w.heap.size)(hv:RV w (Lt base) x.v x.sl x.so)(I:x.k.size<=maxLen)(hf:(xs.length+1)*104<=140737488355328)
  (a1:w'.ownsRow base 78 7 (.slice s'.a (xs.length+1) s'.c) (xs.length+1) ((QaD xs).take (p*7)++x.cells++(QaD xs).drop (p*7))) (Z:Wr w w' s.row) :
  ES w' (Lt w') s' (xs.take p++x::xs.drop p):=by
 have hl:(xs.take p++x::xs.drop p).length=xs.length+1:=by simp;omega
 have a0:∀b,s.row=some b->base<=b:=λb hb=>(ho.own.lt b (by obtain⟨a,c⟩:=s;cases a<;>simp_all [Value.ownBlock,Sl.row])).1
 refine⟨?_,λy N=>?_,by rw[hl];exact hf⟩
 ·have h1:=gz a1
  rw[hl,Qcp,QbO,<-QcS,<-QcQ,<-aT];exact h1.mono λi hi=>hi.2
 rcases aO.1 N with N|N
 ·have h1:=ho.vals y (ba N)
  exact⟨(h1.1.agree (Z.agree (λi hi=>hi.1.2) λk I h=>h.2 I)).mono λi hi=>ab hi.1.2 Z.grown.size,h1.2⟩
 rcases aH.1 N with rfl|N
 .exact ⟨(hv.agree (Z.agree (λi hi=>ab hi hb) λk I h=>da _ (ab h (a0 k I)))).mono λi hi=>ab hi (ak hb Z.grown.size),I⟩
 have h1:=ho.vals y (aN N);exact⟨(h1.1.agree (Z.agree (λi hi=>hi.1.2) λk I h=>h.2 I)).mono λi hi=>ab hi.1.2 Z.grown.size,h1.2⟩
def Qi8(es:List Ent)(k:ByteArray)(v:Val)(w:World)(e:Ending)(w':World):Prop:=
 ∃ts:List (PT 0),e=two 0 ts/\ts.map Prod.snd=chunk (QbY es k v)/\(∀u∈ts,w.heap.size<=u.1/\IsN w' (In w.heap.size w'.heap.size) 0 u)/\Ext w w'
theorem QkI{es:List Ent}{k:ByteArray}{v:Val}(I:Ext w w3){ts:List (PT 0)}(h1:ts.map Prod.snd=chunk (QbY es k v))(h2:∀t∈ts,w3.heap.size<=addr 0 t/\IsN w' (In w3.heap.size w'.heap.size) 0 t)(N:Ext w3 w'):Qi8 es k v w (two 0 ts) w':=
 ⟨ts,rfl,h1,λu hu=>⟨Nat.le_trans I.size (h2 u hu).1,(h2 u hu).2.mono λi hi=>⟨Nat.le_trans I.size hi.1,hi.2⟩⟩,I.trans N⟩
theorem QkB{es:List Ent}{ts:List (PT 0)}(h:ts.map Prod.snd=chunk es):(∃a,ts=[a])\/∃a b,ts=[a,b]:=by
 rcases Qgm es with⟨a,N⟩ |⟨a,b,N⟩<;>rw[N]at h
 .obtain ⟨x,I,-⟩:=Qvv h;exact .inl ⟨x,I⟩
 obtain⟨x,y,I,-⟩:=QvK h;exact .inr ⟨x,y,I⟩
variable{nv:Value}
theorem QkJ{es:List Ent}(hh:∀W,Ext w W->Calls prog 66 #[nv] W λe w'=>e=.returned (.int .i64 0)/\W=w')(he:∀W,Ext w W->Calls prog 76 #[nv] W (QaU es W))
  (hs:Sorted es) (h8:es.length<=8) {k:ByteArray} {v:Val} (hv:RV w (Lt w) v sl so) (f4:k.size<=maxLen) :
  Calls prog 53 #[nv,Qfu k v sl so] w (Qi8 es k v w):=by
 obtain⟨HH,HE,HV,HS⟩:=Ye hh he hv hs;clear hh he hv hs;go_in;go_wp2_with fail;have b5:Ext w (w.alloc (.cells #[k,.int .i64 v.kind,.bool v.b,.int .i64 v.i,.string v.t,.slice sl.a v.l.length sl.c,.slice so.a v.ok.length so.c] 78)):=(gh w).alloc _ _;have e6:=gm w 78 #[.string k,.int .i64 v.kind,.bool v.b,.int .i64 v.i,.string v.t,.slice sl.a v.l.length sl.c,.slice so.a v.ok.length so.c];generalize f3:World.alloc _ _=W0 at *;have e8:W0.heap.size=w.heap.size+1:=by rw[<-f3];simp
 clear f3;refine(HH.o _ b5).mono ?_;rintro e w1 ⟨rfl,rfl⟩;go_wp2_with fail;refine(HE.o _ b5).mono ?_;rintro e w1 ⟨s',N,rfl,b6,ho,a5⟩;have c8:=e6.ext a5;obtain⟨c0,c1,c2,c3,c4,c5,c6⟩:=c8.c7;have a0:=Qkd (w:=w1) (ho.es.mono λi hi=>hi.2) k (by rw[b6];exact HS.o);rw[b6]at a0;obtain⟨p,hp⟩:∃p,Qct es k=p:=⟨_,rfl⟩;have f5:=Qp8 es k;unfold Qgf at a0;have Z:=Qry HS.o k v;rw[hp]at a0 f5 Z;have b9:N.length=es.length:=by rw[<-b6,aq]
 obtain⟨HO,f8,HI,e2,i2,a3⟩:=Yg ho a0 Z b6 a5 b9;have g9:N.length<=8:=oM
 clear ho a0 hp Z b6 b9;go_wp2_with fail;refine f8.o.mono ?_;rintro e w2 ⟨rfl,a7⟩;have e1:=c8.ext a7;obtain⟨d0,d1,d2,d3,d4,d5,d6⟩:=e1.c7;clear c0 c1 c2 c3 c4 c5 c6;have f0:Ext w w2:=(b5.trans a5).trans a7;have b7:=HO.o.ext a7;obtain⟨b8,d8⟩:=Yb f0 b7;have g6:=e1.lt;have a2:W0.heap.size<=w2.heap.size:=(a5.trans a7).size;clear c8 e1 e6 b5 a5 a7 f0;cases ht:decide ((es[p]?).map Prod.fst=some k)
 ·have a6:¬(es[p]?).map Prod.fst=some k:=of_decide_eq_false ht
  have e3:QbY es k v=es.take p++(k,v)::es.drop p:=by rw[HI.o,eE a6]
  have a4:Ext w2 (w2.alloc (.cells #[k,.int .i64 v.kind,.bool v.b,.int .i64 v.i,.string v.t,.slice sl.a v.l.length sl.c,.slice so.a v.ok.length so.c] 78)):=(gh w2).alloc _ _;have f2:=gm w2 78 (LE.cells ⟨k,v,sl,so⟩).toArray;have g4:=hY e3;clear b7 e3 a6;go_wp2_with fail;change Calls _ _ _ (w2.alloc (.cells (LE.cells ⟨k,v,sl,so⟩).toArray 78)) _;change Ext w2 (w2.alloc (.cells (LE.cells ⟨k,v,sl,so⟩).toArray 78))at a4;generalize g0:w2.alloc (.cells (LE.cells ⟨k,v,sl,so⟩).toArray 78)=W3 at *;have c9:=d8.o.ext a4;have a8:RV W3 (Lt W0) v sl so:=(HV.o.agree ((b8.o.trans a4).agree λ_ h=>h)).mono λi hi=>ab hi (by rw[e8];exact cG _)
  have f1:s'.row≠some w2.heap.size:=λh=>by
   have:=(d8.o.own.lt w2.heap.size (by obtain⟨a,c⟩:=s';cases a<;>simp_all [Value.ownBlock,Sl.row])).2;omega
  have Z:=Qma (i:=p) (base:=W0) c9.own (ak a2 a4.size) oM (by have:=a3.o;omega) (LE.len ⟨k,v,sl,so⟩) f2 f1 (LE.one _) (QbX _);obtain⟨e7,e4,g3⟩:=Yc a4 c9 a8;clear a4 c9 a8 f2 f1 g0;refine Z.mono ?_;rintro e w4 ⟨s4,rfl,b3,a9,-⟩;have b0:=e4.o.inserted (by have:=a3.o;omega) (ak a2 e7.o.size) (x:=⟨k,v,sl,so⟩) g3.o f4 oM b3 a9;have hl:(N.take p++⟨k,v,sl,so⟩::N.drop p).length=N.length+1:=by have:=a3.o;simp;omega
  have hm:(N.take p++⟨k,v,sl,so⟩::N.drop p).map LE.ent=QbY es k v:=by
   rw[g4.o,<-e2.o,aB,bn,cZ,cO];rfl
  have a1:=QhN b0 (Qc0 (by rw[hm];exact Qa1 HS.o k v)) oM;rw[hl,hm]at a1;have b4:Ext w w4:=(b8.o.trans e7.o).wr a9 λi hi=>by
   have:=(e4.o.own.lt i (by obtain⟨a,c⟩:=s';cases a<;>simp_all [Value.ownBlock,Sl.row])).1;omega
  obtain⟨e0,d7⟩:=Yb a1 b4;clear b0 a1 b4 b3 a9 hl hm Z;go_wp2_with fail;refine e0.o.mono ?_;rintro e w5 ⟨ts,rfl,h1,h2,h3⟩;obtain⟨H2,H1⟩:=Yb h2 h1;clear h2;rcases QkB h1 with⟨a,rfl⟩ |⟨a,b,rfl⟩
  all_goals
   clear h1;simp only[two];go_wp2_with fail;go_ret2;exact QkI d7.o H1.o H2.o h3
 have a6:(es[p]?).map Prod.fst=some k:=fZ ht;have a0:p<N.length:=by
  cases hq:es[p]? with
  |none=>rw[hq]at a6;cases a6
  |some x=>rw[a3.o];exact(ae.1 hq).1
 obtain⟨g,i4,rfl,f9,f7,f6,I⟩:=b7.block oM;have a8:RV w2 (Lt W0) v sl so:=(HV.o.agree (b8.o.agree λ_ h=>h)).mono λi hi=>ab hi (by rw[e8];exact cG _)
 have b0:=d8.o.set f9 a2 f7 f6 I a0 a8 f4;have hm:(N.set p ⟨k,v,sl,so⟩).map LE.ent=QbY es k v:=by
  rw[HI.o,eH a6,<-e2.o,dH,ci,eH (by simpa using a0)];rfl
 have a1:=QhN (w:=QeW w2 g (p*7) k v sl so) (b0.mono λi hi=>by rw[QgS];exact hi) (Qc0 (by rw[hm];exact Qa1 HS.o k v)) (by rw[ce];omega);rw[hm,ce]at a1;have b4:Ext w (QeW w2 g (p*7) k v sl so):=b8.o.QeW oM _ _ _ _ _;have d7:=hY b4;obtain⟨x0,b5⟩:∃v,w2.cell? ⟨g,p*7,none⟩=some v:=I.cell oM;obtain⟨x1,a5⟩:∃v,w2.cell? ⟨g,p*7+1,none⟩=some v:=I.cell oM;obtain⟨x2,a7⟩:∃v,w2.cell? ⟨g,p*7+2,none⟩=some v:=I.cell oM;obtain⟨x3,i3⟩:∃v,w2.cell? ⟨g,p*7+3,none⟩=some v:=I.cell oM;obtain⟨x4,i5⟩:∃v,w2.cell? ⟨g,p*7+4,none⟩=some v:=I.cell oM;obtain⟨x5,i1⟩:∃v,w2.cell? ⟨g,p*7+5,none⟩=some v:=I.cell oM;obtain⟨x6,g8⟩:∃v,w2.cell? ⟨g,p*7+6,none⟩=some v:=I.cell oM;have i0:=I.frozen;have g5:(p:Int)<(N.length:Int):=oM
 have e0:=hY a1;have g7:=I.lt;clear b0 a1 I b7 a8 hm b4;go_wp2_with fail;change Calls _ _ _ (QeW w2 g (p*7) k v sl so) _;refine e0.o.mono ?_;rintro e w5 ⟨ts,rfl,h1,h2,h3⟩;obtain⟨H2,H1⟩:=Yb h2 h1;clear h2;rcases QkB h1 with⟨a,rfl⟩ |⟨a,b,rfl⟩
 all_goals
  clear h1;simp only[two];go_wp2_with fail;go_ret2;exact QkI d7.o H1.o H2.o h3
def Qew(base:Nat)(s:Sl)(n i:Nat)(xs ys:List Value)(w:World)(e:Ending)(w':World):Prop:=
 ∃s':Sl,e=.returned (.slice s'.a (n+1) s'.c)/\w'.ownsRow base 46 1 (.slice s'.a (n+1) s'.c) (n+1) (xs.take (i*1)++ys++xs.drop (i*1))/\Wr w w' s.row/\(s'.row=s.row\/∃b,s'.row=some b/\w.heap.size<=b)
section
variable{w : World}{base n i : Nat}{s : Sl}{xs ys : List Value}{vb : Nat}
theorem Qrz(I:w.ownsRow base 46 1 (.slice s.a n s.c) n xs)(Z:base<=w.heap.size)(hn:n<=1000)(hy:ys.length=1)(hv:Blk w vb 46 ys.toArray)(h1:∀u∈ys,u.oneCell'=true) :
  Calls prog 81 #[.slice s.a n s.c,n,.slice (some vb) 1 1] w (Qew base s n n xs ys w):=by
 obtain⟨i0,hi,a2,a4,a3⟩:=eR Tryz.Qbg;have N:Rd w (λ_=>True) 1 ⟨some vb,1⟩ 1 ys:=⟨vb,0,.some _ _ _ _ (ao _) oN trivial,by simpa using hy,λj u hj=>by rw[hv.cell];simpa using hj⟩;have a1:xs.take (n*1)++ys++xs.drop (n*1)=xs++ys:=by
  rw[aW (by rw[I.1];exact ao _),bX (by rw[I.1];exact ao _),aU]
 obtain⟨HO,HS,H1,HX⟩:=Ye I N h1 a1;have a5:n+1<=maxLen:=by unfold maxLen;omega
 have a8:n<=s.c:=by
  rcases I.2 with⟨hv,h0⟩ |⟨g,b3,a9,hv,_,_,b4,_⟩
  .omega
  simp only[Value.slice.injEq]at hv;omega
 have b0:((n:Int) ==(n:Int))=true:=oO
 clear I N hv h1 hy a1;obtain⟨sa,sc⟩:=s;dsimp only at *;go_in;go_wp2_with(at_builtin;refine Qak _ rfl _ _ 108 rfl base 46 i0 (.pointer none) 1 8 underlying108 hi a2 a4 a3 rfl oN ⟨sa,sc⟩ n xs rfl HO.o (λ_=>True) ⟨some vb,1⟩ 1 ys rfl HS.o H1.o a5 oM Z ?_;intro s' w1 a0 a6 a7)
 all_goals
  go_ret;refine⟨s',oO,by rw[HX.o];exact a0,a6,?_⟩;rcases a7 with h |⟨h,-⟩
  .exact .inl (by simp[Sl.row,h])
  exact .inr ⟨w,by simp[Sl.row,h],ao _⟩
theorem Qnm{g cap:Nat}{I:Array Value}(a7:xs.length=n*1)(c4:base<=g)(hg:w.heap[g]? = some (.cells I 46 (0,0)))(a5:n+1<=cap)(b3:cap<=maxLen)(c3:I.size=cap*1)(N:I.toList.take (n*1)=xs)
  (hn:n<=1000) (e2:i<n) (hy:ys.length=1) (hv:Blk w vb 46 ys.toArray) (b6:vb≠g) (h1:∀u∈ys,u.oneCell'=true) (b4:∀u∈xs,u.oneCell'=true) :
  Calls prog 81 #[.slice (some g) n cap,i,.slice (some vb) 1 1] w (Qew base ⟨some g,cap⟩ n i xs ys w):=by
 obtain⟨i0,hi,c9,a8,d4⟩:=eR Tryz.Qbg;have d6:((i:Int) ==(n:Int))=false:=eJ.2 oM;have c6:(i:Int)<(n:Int):=oM
 have e0:¬(cap:Int)<(n:Int)+1:=oM
 have c8:(cap:Int)<=9223372036854775807:=by unfold maxLen at b3;omega
 have e1:¬cap=i:=oM
 have d5:¬cap=i+1:=oM
 have d3:IntKind.i64.wrap ((i:Int)+1)=(i:Int)+1:=by rw[eM];omega
 have d0:(0:Int)<=(i:Int)+1:=oM
 have d7:((i:Int)+1).toNat=i+1:=oM
 have c7:i<=n:=oM
 have d8:(i:Int)<=(n:Int)+1:=oM
 have c2:∀lb cb,(callFunc 117 #[.slice (some vb) 1 1,.slice (some ⟨g,i+1,none⟩) lb cb]).run prog w=.ok (.value (.bool false)) w:=λlb cb=>by
  rw[run_callFunc_extern func117 kM kM kM (e:=Extern.SlicesOverlaps.overlaps #[108,108] #[4]) kM,
   Lib.run_overlaps_apart w 108 4 46 underlying108 1 (λw=>by simp[sizeOf,typeInfo,hi,a8]) vb ⟨g,i+1,none⟩ 1 1 lb cb b6 46 46 ys.toArray.size I.size (by simp[World.shape?,show w.heap[vb]? = some (.cells ys.toArray 46 (0,0))from hv]) (by simp[World.shape?,hg]) oM (hv.frozen _) (hv.frozen _)]
  rfl
 have a6:(xs.drop (i*1)).length=(n-i)*1:=by rw[aw,a7,<-dv]
 have b5:∀j v,(xs.drop (i*1))[j]? = some v->w.drew.cell? ⟨g,i+j,none⟩=some v:=λj v hj=>by
  rw[fv,fB w g _ I 46 (0,0) hg];rw[bc,<-N,br]at hj;split at hj
  .simpa using hj
  cases hj
 obtain⟨Z,a3⟩:∃Z,Z=(I.toList.take (i+1)++xs.drop (i*1)++I.toList.drop (i+1+(xs.drop (i*1)).length)).toArray:=⟨_,rfl⟩;obtain⟨W1,a0⟩:∃W1,W1=w.drew.setRow g Z:=⟨_,rfl⟩;have b0:∀ty dc sc,(Builtin.copy_ #[108,108] ty #[.slice (some ⟨g,i+1,none⟩) (n-i) dc,.slice (some ⟨g,i,none⟩) (n+1-i) sc]).run prog w.drew=.ok (goInt (Nat.min (n+1-i) (n-i))) W1:=λty dc sc=>by
  rw[a0,a3];exact QbA w.drew 108 108 ty 46 1 g (i+1) (n-i) dc ⟨some ⟨g,i,none⟩,sc⟩ (n+1-i) I 46 (xs.drop (i*1)) underlying108 (by rw[hi];simp[a8]) hg
   (by rw[a6,show Nat.min (n+1-i) (n-i)=n-i from by simp only[Nat.min_def];split<;>omega]) oO (by rintro b o' ⟨⟩;exact b5) (by rintro a ⟨⟩;rfl) (by rw[a6];omega) (λu hu=>b4 u (aN hu))
 have c1:Z.size=I.size:=by rw[a3];simp;omega
 have a9:W1.heap[g]? = some (.cells Z 46 (0,0)):=by rw[a0];exact fm w.drew g I Z 46 (0,0) hg
 have b7:Blk W1 vb 46 ys.toArray:=by rw[a0];exact(fQ w.drew g vb Z b6).trans hv
 obtain⟨A2,a2⟩:∃A2,A2=(Z.toList.take (i)++ys++Z.toList.drop (i+ys.length)).toArray:=⟨_,rfl⟩;obtain⟨W2,a1⟩:∃W2,W2=W1.setRow g A2:=⟨_,rfl⟩;have b8:∀ty dc,(Builtin.copy_ #[108,108] ty #[.slice (some ⟨g,i,none⟩) (n+1-i) dc,.slice (some vb) 1 1]).run prog W1=.ok (goInt (Nat.min 1 (n+1-i))) W2:=λty dc=>by
  rw[a1,a2];exact QbA W1 108 108 ty 46 1 g (i) (n+1-i) dc ⟨some vb,1⟩ 1 Z 46 ys underlying108 (by rw[hi];simp[a8]) a9
   (by rw[hy,show Nat.min 1 (n+1-i)=1 from by simp only[Nat.min_def];split<;>omega]) oO (by rintro b o' ⟨⟩;exactλj v hj=>by rw[b7.cell];simpa using hj) (by rintro a ⟨⟩;rfl) oM h1
 have b9:W2.heap[g]? = some (.cells A2 46 (0,0)):=by rw[a1];exact fm W1 g Z A2 46 (0,0) a9
 have c0:Wr w W2 (some g):=by
  rw[a1,a0];exact((Wr.refl w (some g)).drew.trans (gD w.drew Z) (λi hi=>.inl hi)).trans (gD (w.drew.setRow g Z) A2) (λi hi=>.inl hi)
 have a4:W2.ownsRow base 46 1 (.slice (some g) (n+1) cap) (n+1) (xs.take (i*1)++ys++xs.drop (i*1)):=by
  refine⟨by simp[a7,hy];omega,.inr ⟨g,cap,A2,rfl,c4,b9,a5,b3,by rw[a2];simp;omega,?_⟩⟩;rw[a2,a3];exact QhL I.toList xs ys (i*1) (n*1) 1 _ _ _ _ _ N.symm hy oM (by rw[aL];omega) oM rfl oM oM oM
 obtain⟨HF,HW⟩:=Yb a4 c0;clear a4 c0 b9 a9 b7 c1 a1 a0 a2 a3 b5 a6 hg hv h1 b4 a7 N c3;go_in;go_wp2_with(simp only[c2]);go_region_law (refine Qdj _ rfl _ _ 108 108 rfl _ _ (by simp[Act.eval,Act.put]) (by simp[Act.eval,Act.put]) (b0 _ _ _) ?_);go_wp2_with(at_builtin;refine Qcd _ rfl _ _ 108 108 rfl _ _ rfl rfl (b8 _ _) ?_);go_ret;exact⟨⟨some g,cap⟩,rfl,HF.o,HW.o,.inl rfl⟩
theorem Qpp{g cap:Nat}{a3:Array Value}(a0:xs.length=n*1)(b5:base<=w.heap.size)(hg:w.heap[g]? = some (.cells a3 46 (0,0)))(f2:n<=cap)(b0:cap<n+1)(d8:a3.size=cap*1)(N:a3.toList.take (n*1)=xs)
  (hn:n<=1000) (f8:i<n) (hy:ys.length=1) (hv:Blk w vb 46 ys.toArray) (e7:vb≠g) (h1:∀u∈ys,u.oneCell'=true) (c2:∀u∈xs,u.oneCell'=true) :
  Calls prog 81 #[.slice (some g) n cap,i,.slice (some vb) 1 1] w (Qew base ⟨some g,cap⟩ n i xs ys w):=by
 obtain⟨i0,hi,d7,b3,c3⟩:=eR Tryz.Qbg;have f4:((i:Int) ==(n:Int))=false:=eJ.2 oM;have e3:(i:Int)<(n:Int):=oM
 have f0:(cap:Int)<(n:Int)+1:=oM
 have f7:¬cap=i:=oM
 have f3:IntKind.i64.wrap ((i:Int)+1)=(i:Int)+1:=by rw[eM];omega
 have e6:(0:Int)<=(i:Int)+1:=oM
 have e8:((i:Int)+1).toNat=i+1:=oM
 have e1:i<=n:=oM
 have f6:(i:Int)<=(n:Int):=oM
 have f1:(i:Int)+1<=(n:Int)+1:=oM
 have d0:g<w.heap.size:=fM hg;have d5:vb<w.heap.size:=hv.lt;obtain⟨G,hG⟩:∃G,G=grownCap w (n+1) cap 46:=⟨_,rfl⟩;have d4:n+1<=G:=by rw[hG];exact grownCap_ge w _ _ _
 have e2:G<=9223372036854775807:=by
  have:=grownCap_le_maxLen w (n+1) cap 46 (by unfold maxLen;omega);rw[<-hG]at this;unfold maxLen at this;omega
 have b8:i+(n+1-i)=n+1:=oM
 obtain⟨I,Z⟩:∃I:Array Value,I=(xs.take (i*1)).toArray++Builtin.zeroCells ((.pointer none):Value).cells (n+1-i)++Builtin.zeroCells ((.pointer none):Value).cells (G -(n+1)):=⟨_,rfl⟩;have d3:I.size=G*1:=by
  rw[Z];simp only[Array.size_append,List.size_toArray,size_zeroCells,List.length_take,a0];rw[show((.pointer none):Value).cells.size=1 from rfl];omega
 have b9:I.toList.take (i*1)=xs.take (i*1):=by
  rw[Z];simp only[Array.toList_append,List.append_assoc];rw[bj (by simp[a0];omega),aW (by simp;omega)]
 obtain⟨W1,a4⟩:∃W1,W1=w.drew.alloc (.cells I 46):=⟨_,rfl⟩;have e0:∀ty,(Builtin.append_ #[108,3] ty #[.slice (some g) i cap,.int .i64 ((n:Int)+1 -(i:Int))]).run prog w=.ok (.slice (some w) (n+1) G) W1:=λty=>by
  have c0:(Builtin.firstCells i0.size i (.slice (some g) i cap)).run prog w.drew=.ok (xs.take (i*1)).toArray w.drew:=by
   rw[b3];exact run_firstCells_some w.drew 1 i g i cap (xs.take (i*1)) (by rw[av];omega) (λj v hj=>by
    rw[Qbc,aD,fv,fB w g _ a3 46 (0,0) hg];rw[br]at hj;split at hj
    ·rw [←N,br] at hj
     split at hj
     .simpa using hj
     cases hj
    cases hj)
  have h:=Lib.run_append_grow_zeros w 108 3 ty 46 i0 _ .i64 .i64 underlying108 underlying3 hi d7 (some g) i cap (xs.take (i*1)) c0 (n+1-i) oM oM oM oM (by rw[c3];omega) (by rw[c3,b8];exact growslice_fits b0 oM);rw[b8,<-hG,<-Z,<-a4]at h;rw[show(n:Int)+1 -(i:Int)=((n+1-i:Nat):Int)from oM];exact h
 have b7:W1.heap[w.heap.size]? = some (.cells I 46 (0,0)):=by rw[a4];exact fI w.drew _
 have a2:∀k,k<w.heap.size->W1.heap[k]? = w.heap[k]?:=λk hk=>by rw[a4];exact eY w.drew _ k hk
 have c4:Blk W1 vb 46 ys.toArray:=(a2 vb d5).trans hv;obtain⟨A1,a5⟩:∃A1,A1=(I.toList.take (i)++ys++I.toList.drop (i+ys.length)).toArray:=⟨_,rfl⟩;have d6:A1.size=G*1:=by rw[a5];simp;omega
 obtain⟨W2,a1⟩:∃W2,W2=W1.setRow w.heap.size A1:=⟨_,rfl⟩;have c8:∀ty dc,(Builtin.copy_ #[108,108] ty #[.slice (some ⟨w.heap.size,i,none⟩) (n+1-i) dc,.slice (some vb) 1 1]).run prog W1=.ok (goInt (Nat.min 1 (n+1-i))) W2:=λty dc=>by
  rw[a1,a5];exact QbA W1 108 108 ty 46 1 w.heap.size (i) (n+1-i) dc ⟨some vb,1⟩ 1 I 46 ys underlying108 (by rw[hi];simp[b3]) b7
   (by rw[hy,show Nat.min 1 (n+1-i)=1 from by simp only[Nat.min_def];split<;>omega]) oO (by rintro b o' ⟨⟩;exactλj v hj=>by rw[c4.cell];simpa using hj) (by rintro a ⟨⟩;rfl) oM h1
 have b6:W2.heap[w.heap.size]? = some (.cells A1 46 (0,0)):=by rw[a1];exact fm W1 _ I A1 46 (0,0) b7
 have a8:∀k,k<w.heap.size->W2.heap[k]? = w.heap[k]?:=λk hk=>by rw[a1];exact(fQ W1 _ k A1 oM).trans (a2 k hk)
 have b4:(xs.drop (i*1)).length=(n-i)*1:=by rw[aw,a0,<-dv]
 have c7:∀j v,(xs.drop (i*1))[j]? = some v->W2.drew.cell? ⟨g,i+j,none⟩=some v:=λj v hj=>by
  rw[fv,fB W2 g _ a3 46 (0,0) ((a8 g d0).trans hg)];rw[bc,<-N,br]at hj;split at hj
  .simpa using hj
  cases hj
 obtain⟨A2,a7⟩:∃A2,A2=(A1.toList.take (i+1)++xs.drop (i*1)++A1.toList.drop (i+1+(xs.drop (i*1)).length)).toArray:=⟨_,rfl⟩;obtain⟨W3,a6⟩:∃W3,W3=W2.drew.setRow w.heap.size A2:=⟨_,rfl⟩;have c1:∀ty dc sc,(Builtin.copy_ #[108,108] ty #[.slice (some ⟨w.heap.size,i+1,none⟩) (n-i) dc,.slice (some ⟨g,i,none⟩) (n-i) sc]).run prog W2.drew=.ok (goInt (Nat.min (n-i) (n-i))) W3:=λty dc sc=>by
  rw[a6,a7];exact QbA W2.drew 108 108 ty 46 1 w.heap.size (i+1) (n-i) dc ⟨some ⟨g,i,none⟩,sc⟩ (n-i) A1 46 (xs.drop (i*1)) underlying108 (by rw[hi];simp[b3]) b6
   (by rw[b4,show Nat.min (n-i) (n-i)=n-i from oO]) oO (by rintro b o' ⟨⟩;exact c7) (by rintro a ⟨⟩;rfl) (by rw[b4];omega) (λu hu=>c2 u (aN hu))
 have c9:W3.heap[w.heap.size]? = some (.cells A2 46 (0,0)):=by rw[a6];exact fm W2.drew _ A1 A2 46 (0,0) b6
 have c6:Wr w W3 (some g):=by
  rw[a6,a1,a4];exact(((((Wr.refl w (some g)).drew).alloc I 46).trans (gD _ A1) (λi hi=>.inr (by injection hi with hi;omega))).drew).trans (gD _ A2) (λi hi=>.inr (by injection hi with hi;omega))
 have a9:W3.ownsRow base 46 1 (.slice (some w) (n+1) G) (n+1) (xs.take (i*1)++ys++xs.drop (i*1)):=by
  refine⟨by simp[a0,hy];omega,.inr ⟨w.heap.size,G,A2,rfl,b5,c9,d4,by unfold maxLen;omega,by rw[a7];simp;omega,?_⟩⟩;rw[a7,a5];exact QjK I.toList xs ys (i*1) (n*1) 1 _ _ _ _ _ b9 a0 hy oM (by rw[aL];omega) oM rfl oM oM oM
 obtain⟨HF,HW⟩:=Yb a9 c6;clear a9 c6 c9 b6 b7 c4 d6 a6 a1 a4 a7 a5 c7 b4 hg hv h1 c2 a0 N d8 a2 a8 b9 d3 Z hG b8;have f5:¬(G=i):=oM
 have e4:¬(G=i+1):=oM
 go_in;go_wp2_with(first
  |(at_builtin;refine wpList_append_run _ rfl _ _ 108 3 rfl _ _ rfl rfl (e0 _) ?_)
  |(at_builtin;refine Qcd _ rfl _ _ 108 108 rfl _ _ rfl rfl (c8 _ _) ?_))
 go_region_law (refine Qdj _ rfl _ _ 108 108 rfl _ _ (by simp[Act.eval,Act.put]) (by simp[Act.eval,Act.put]) (c1 _ _ _) ?_);go_wp2;go_ret;exact⟨⟨some w,G⟩,rfl,HF.o,HW.o,.inr ⟨_,rfl,ao _⟩⟩
theorem Qmb(I:w.ownsRow base 46 1 (.slice s.a n s.c) n xs)(Z:base<=w.heap.size)(hn:n<=1000)(b0:i<=n)(hy:ys.length=1)(hv:Blk w vb 46 ys.toArray)(a7:s.row≠some vb)(h1:∀u∈ys,u.oneCell'=true)(a2:∀u∈xs,u.oneCell'=true) :
  Calls prog 81 #[.slice s.a n s.c,i,.slice (some vb) 1 1] w (Qew base s n i xs ys w):=by
 by_cases he:i=n
 .subst he;exact Qrz I Z hn hy hv h1
 rcases I.2 with⟨hs,h0⟩ |⟨g,a0,a9,hs,a6,hg,a8,a4,a1,N⟩
 .omega
 simp only[Value.slice.injEq]at hs;obtain⟨ha,-,hc⟩:=hs;have a3:vb≠g:=λe=>a7 (by simp[Sl.row,ha,e])
 have a5:s=⟨some g,a0⟩:=by cases s;simp_all
 have hl:=I.1;clear I;subst a5;by_cases hr:n+1<=a0
 .exact Qnm hl a6 hg hr a4 a1 N hn oM hy hv a3 h1 a2
 exact Qpp hl Z hg a8 oM a1 N hn oM hy hv a3 h1 a2
end
theorem Qad{base e size n:Nat}{xs:List Value}(h:w.ownsRow base e size (.slice s.a n s.c) n xs){b:Nat}(I:s.row=some b):base<=b/\b<w:=
 h.lt b (by obtain⟨a,c⟩:=s;cases a<;>simp_all [Value.ownBlock,Sl.row])
theorem QaJ{base e size n:Nat}{xs:List Value}(h:w.ownsRow base e size (.slice s.a n s.c) n xs)(hn:0<n):∃g cap,s=⟨some ⟨g,0,none⟩,cap⟩/\base<=g/\n<=cap/\cap<=maxLen/\Qap w g e size cap:=by
 rcases h.2 with⟨hv,h0⟩ |⟨g,cap,I,hv,a0,hg,a1,Z,N,-⟩
 .omega
 simp only[Value.slice.injEq]at hv;exact⟨g,cap,by obtain⟨a,c⟩:=s;simp_all,a0,a1,Z,I,hg,N⟩
theorem Qbt{base e n g cap:Nat}{xs:List Value}(h:w.ownsRow base e 1 (.slice (some g) n cap) n xs){i:Nat}(hi:i<n)(u:Value):(w.setCell ⟨g,i,none⟩ u).ownsRow base e 1 (.slice (some g) n cap) n (xs.set i u):=by
 rcases h.2 with⟨hv,h0⟩ |⟨g',a2,I,hv,a1,hg,a0,Z,N,ht⟩
 .omega
 simp only[Value.slice.injEq,Option.some.injEq,Addr.mk.injEq,and_true,true_and]at hv;obtain⟨rfl,rfl⟩:=hv;refine⟨by rw[ce];exact h.1,.inr ⟨g,cap,I.setIfInBounds i u,rfl,a1,Blk.QbH (show Blk w g e I from hg) i u,a0,Z,by rw[Array.size_setIfInBounds];exact N,?_⟩⟩;rw[Array.toList_setIfInBounds,List.take_set,ht]
theorem Qdf:∀{h:Nat} {t:PT h},OkT h t->size h t<=8
 |0,_,ok=>ok
 |_+1,_,ok=>ok.2.1
theorem Qpx{k:ByteArray}{v:Val}{t:PT (h+1)}{I:PT h}{rs:List (PT h)}(Z:t.2[Qaw h t.2 k]? = some I)(hr:QcM B k v h I rs)(ok:OkT (h+1) t)(hs:Sorted (ents (h+1) t)) :
  (t.2.take (Qaw h t.2 k)++rs++t.2.drop (Qaw h t.2 k+1)).flatMap (ents h)=QbY (ents (h+1) t) k v:=by
 have hp:=QbU ok;obtain⟨a0,N,hA,hC⟩:=Qa6 (h:=h) (ks:=t.2) hs hp (by have:=ok.1;omega) k;rw[Z]at N;simp only[Option.some.injEq]at N;subst N;have hm:=am Z;have ih:=QcM.ents hr (ok.2.2 I hm).1 (QaL hs I hm);rw[aQ,aQ,ih];show _=QbY (t.2.flatMap (Proofs.YtdiecmkpbadgjaaGreatDoor.ents h)) k v
 conv=>rhs;rw[QbI Z]
 rw[aQ,aZ,Qiz hA,QgD hC,aT]
theorem Qtk{k:ByteArray}{v:Val}{t:PT (h+1)}{I:PT h}{rs:List (PT h)}(hk:t.2[Qaw h t.2 k]? = some I)(hr:QcM B k v h I rs)(ok:OkT (h+1) t) :
  ∀u∈t.2.take (Qaw h t.2 k)++rs++t.2.drop (Qaw h t.2 k+1),OkT h u/\4<=size h u:=by
 have hm:=am hk;obtain⟨Z,i2⟩:=QcM.ok hr (ok.2.2 I hm).1;have N:=(ok.2.2 I hm).2;intro u hu;rcases aO.1 hu with hu|hu
 ·rcases aO.1 hu with hu | hu
  .exact ok.2.2 u (ba hu)
  exact⟨(Z u hu).1,(Z u hu).2.2 N⟩
 exact ok.2.2 u (aN hu)
def Qc2(F:Nat->Prop)(h:Nat)(t:PT h)(k:ByteArray)(v:Val)(w:World)(e:Ending)(w':World):Prop:=
 ∃ts:List (PT h),e=two h ts/\QcM w.heap.size k v h t ts/\(∀u∈ts,IsN w' (Up F w w') h u)/\Ext w w'
def Qi7(F:Nat->Prop)(h:Nat)(t:PT h)(k:ByteArray)(v:Val)(w:World)(e:Ending)(w':World):Prop:=
 ∃(a:PT h) (r:Value) (rs:List (PT h)),e=.returned (.tuple #[ptr h a,r])/\((r=.pointer none/\rs=[a])\/∃b,r=ptr h b/\rs=[a,b])/\QcM w.heap.size k v h t rs/\(∀u∈rs,IsN w' (Up F w w') h u)/\Ext w w'
theorem Qc2.apart{t:PT h}{k:ByteArray}{v:Val}{e:Ending}(p:Qc2 F h t k v w e w'):Qi7 F h t k v w e w':=by
 obtain⟨N,rfl,h1,h2,I⟩:=p;rcases h1.two with⟨a,rfl⟩ |⟨a,b,rfl⟩
 .exact ⟨a,_,_,rfl,.inl ⟨rfl,rfl⟩,h1,h2,I⟩
 exact⟨a,_,_,rfl,.inr ⟨b,rfl,rfl⟩,h1,h2,I⟩
theorem QqP(hF:∀b,F b->b<w.heap.size){t:PT 0}(hn:IsN w F 0 t)(ok:OkT 0 t)(hs:Sorted (ents 0 t)){k:ByteArray}{v:Val}(hv:RV w (Lt w) v sl so)(N:k.size<=maxLen) :
  Calls prog 53 #[ptr 0 t,Qfu k v sl so] w (Qc2 F 0 t k v w):=by
 have I:IsN w (Lt w) 0 t:=hn.mono hF;refine(QkJ (λW Z=>QaC (I.ext Z)) (λW Z=>Qa5 (I.ext Z)) hs ok hv N).mono ?_;rintro e w' ⟨ts,rfl,h1,h2,h3⟩;exact⟨ts,rfl,⟨h1,λu hu=>(h2 u hu).1⟩,λu hu=>(h2 u hu).2.mono λi hi=>.inr hi,h3⟩
theorem QhU{L:List (PT n)}{ts:List (PT (n+1))}(h:ts.map Prod.snd=chunk L):(∃a,ts=[a])\/∃a b,ts=[a,b]:=by
 rcases Qgm L with⟨a,N⟩ |⟨a,b,N⟩<;>rw[N]at h
 .obtain ⟨x,I,-⟩:=QvI h;exact .inl ⟨x,I⟩
 obtain⟨x,y,I,-⟩:=QvL h;exact .inr ⟨x,y,I⟩
theorem QmK{t:PT (h+1)}{k:ByteArray}{v:Val}{i:Nat}{I:PT h}{rs:List (PT h)}(Z:Ext w w3)(hi:Qaw h t.2 k=i)(N:t.2[Qaw h t.2 k]? = some I)(hB:w.heap.size<=B)(a0:QcM B k v h I rs)
  {ts:List (PT (h+1))} (h1:ts.map Prod.snd=chunk (t.2.take i++rs++t.2.drop (i+1))) (h2:∀u∈ts,w3.heap.size<=addr (h+1) u/\IsN w' (Up (Up F w w3) w3 w') (h+1) u) (h3:Ext w3 w'):Qc2 F (h+1) t k v w (two (h+1) ts) w':=by
 subst hi;refine⟨ts,rfl,⟨I,rs,N,a0.mono hB,h1,λu hu=>ak Z.size (h2 u hu).1⟩,λu hu=>(h2 u hu).2.mono λi hi=>?_,Z.trans h3⟩;rcases hi with(hi|hi)|hi
 .exact .inl hi
 .exact .inr ⟨hi.1,ab hi.2 h3.size⟩
 exact .inr ⟨Nat.le_trans Z.size hi.1,hi.2⟩
theorem Qsa{ks:List (PT h)}{i:Nat}(hi:i<ks.length)(a:PT h):(ptrs h ks).set i (ptr h a)=ptrs h (ks.take i++[a]++ks.drop (i+1)):=by
 rw[ptrs,<-dH,ci,eH hi,aT];rfl
theorem Qr9{ks:List (PT h)}{i:Nat}(hi:i<ks.length)(a b:PT h):(ptrs h (ks.take i++[a]++ks.drop (i+1))).take ((i+1)*1)++[ptr h b]++(ptrs h (ks.take i++[a]++ks.drop (i+1))).drop ((i+1)*1)=ptrs h (ks.take i++[a,b]++ks.drop (i+1)):=by
 have I:(ptrs h (ks.take i++[a])).length=i+1:=by simp[ptrs];omega
 have e:ptrs h (ks.take i++[a]++ks.drop (i+1))=ptrs h (ks.take i++[a])++ptrs h (ks.drop (i+1)):=by simp[ptrs]
 rw[e,dD,<-I,dI,List.drop_left,I];simp[ptrs]
theorem QqO{k:ByteArray}{v:Val}(n6:k.size<=maxLen)
  (ih:∀(w:World) (F:Nat->Prop) (t:PT h),(∀b,F b->b<w.heap.size)->IsN w F h t->OkT h t->Sorted (ents h t)->(ents h t).length<=1000000->RV w (Lt w.heap.size) v sl so->Calls prog 53 #[ptr h t,Qfu k v sl so] w (Qc2 F h t k v w))
 {t:PT (h+1)} (hF:∀ b,F b→b<w.heap.size) (hn:IsN w F (h+1) t) (ok:OkT (h+1) t) (hs:Sorted (ents (h+1) t)) (hc:(ents (h+1) t).length≤1000000) (hv:RV w (Lt w.heap.size) v sl so) :
  Calls prog 53 #[ptr (h+1) t,Qfu k v sl so] w (Qc2 F (h+1) t k v w):=by
 have b0:=QbU ok;have hh:h+1<1000000:=ab (QcT (h+1) t ok (by have:=ok.1;show 1<=t.2.length;omega)) hc;obtain⟨I,a0,hA,hC⟩:=Qa6 (h:=h) (ks:=t.2) hs b0 (by have:=ok.1;omega) k;have b5:=am a0;have b8:=(ae.1 a0).1;have j8:=ok.1;have j6:=ok.2.1;have f8:∀x∈t.2,IsN w F h x:=hn.2.choose_spec.2.2;have b3:(ents h I).length<=1000000:=ak (by
  show _<=(t.2.flatMap (ents h)).length;rw[QbI a0];simp only[List.flatMap_append,List.flatMap_cons,List.length_append];omega) hc
 have j0:∀W,Ext w W->Calls prog 53 #[ptr h I,Qfu k v sl so] W (Qi7 F h I k v W):=λW hW=>
  (ih W F I (λb hb=>ab (hF b hb) hW.size) ((f8 I b5).agree (hW.agree hF)) (ok.2.2 I b5).1 (QaL hs I b5) b3 ((hv.agree (hW.agree λ_ h=>h)).mono λi hi=>ab hi hW.size)).mono λ_ _ p=>p.apart
 obtain⟨HF,HN,i4,HS,HC,HP,j7⟩:=Yh hF hn ok hs hc b0 j0;obtain⟨f9,a3⟩:=Yb f8 a0;have l8:(((h:Int)+1)==0)=false:=eJ.2 oM;clear hF hn ok hs hc b0 j0 f8 a0 hA hC hv ih b3;go_in;go_wp2_with fail;have f5:Ext w (w.alloc (.cells #[k,v.kind,v.b,.int .i64 v.i,v.t,.slice sl.a v.l.length sl.c,.slice so.a v.ok.length so.c] 78)):=(gh w).alloc _ _;have i9:=gm w 78 #[.string k,.int .i64 v.kind,.bool v.b,.int .i64 v.i,.string v.t,.slice sl.a v.l.length sl.c,.slice so.a v.ok.length so.c];generalize i3:World.alloc _ _=W0 at *;have l5:W0.heap.size=w.heap.size+1:=by rw[<-i3];simp
 clear i3;have f6:IsN W0 F (h+1) t:=HN.o.agree (f5.agree HF.o);refine(QaC f6).mono ?_;rintro e w1 ⟨rfl,rfl⟩;have b3:=Qb9 f6 oM;clear f6;go_wp2_with fail;refine b3.mono ?_;rintro e w1 ⟨s',rfl,b6,c8⟩;have c9:=f5.trans c8;have f0:=i9.ext c8;obtain⟨c0,c1,c2,c3,c4,c5,c6⟩:=f0.c7;have i5:Rd w1 (Lt w1.heap.size) 1 s' t.2.length (ptrs h t.2):=(gz b6).mono λi hi=>hi.2
 have f2:=Qg3 i5 (λx hx=>(f9.o x hx).agree (c9.agree HF.o)) (λb hb=>ab (HF.o b hb) c9.size) HP.o k HS.o oM;obtain⟨i,hi⟩:∃i,Qaw h t.2 k=i:=⟨_,rfl⟩;rw[hi]at f2 b8;obtain⟨HI,k4,g5,e8,j9,l1⟩:=Yg hi f2 b6 f0 c9 c8;clear hi f2 b6 f0 c9 i5 b3 i9 f5 c8;go_wp2_with fail;refine k4.o.mono ?_;rintro e w2 ⟨rfl,a9⟩;clear c0 c1 c2 c3 c4 c5 c6;obtain⟨d0,d1,d2,d3,d4,d5,d6⟩:=(e8.o.ext a9).c7;have n7:=e8.o.lt;have k7:=(e8.o.ext a9).lt;have j2:=j9.o.trans a9;obtain⟨g,N,rfl,n4,l4,l3,b4⟩:=QaJ g5.o oM;have d8:w2.ownsRow W0.heap.size 46 1 (.slice (some g) t.2.length N) t.2.length (ptrs h t.2):=Qab g5.o (a9.agree (F:=Lt w1.heap.size) λ_ h=>h) λb hb=>(Qad g5.o hb).2
 have g7:w2.cell? ⟨g,i,none⟩=some (ptr h I):=by
  have:=d8.cells (g:=g) rfl i (ptr h I) (by rw[ptrs,ar,<-HI.o,a3.o];rfl);rwa[Qbc,aD]at this
 have l2:(i:Int)<(t.2.length:Int):=oM
 obtain⟨i1,a8⟩:=Yb d8 j2;have g4:g<w2.heap.size:=(Qad (s:=⟨some g,N⟩) d8 rfl).2;have j3:∀o,w2.frozen? ⟨g,o,none⟩=false:=λo=>by rw[a9.frozen b4.lt];exact b4.frozen o
 clear a9 d8 j2 b4;go_wp2_with fail;go_region_held3 (λw'=>w'.cell? ⟨g,i,none⟩=some (ptr h I)/\w'.cell? w=some (.string k)/\w'.cell? ⟨w.heap.size,1,none⟩=some (.int .i64 v.kind)/\w'.cell? ⟨w.heap.size,2,none⟩=some (.bool v.b)/\w'.cell? ⟨w.heap.size,3,none⟩=some (.int .i64 v.i)/\w'.cell? ⟨w.heap.size,4,none⟩=some (.string v.t)/\w'.cell? ⟨w.heap.size,5,none⟩=some (.slice sl.a v.l.length sl.c)/\w'.cell? ⟨w.heap.size,6,none⟩=some (.slice so.a v.ok.length so.c)) (go_keep)
  ((go_at_call 53;refine(j7.o _ a8.o.drew).mono ?_;rintro e w3 ⟨a,r,rs,rfl,hr,g9,g6,e1⟩;have HR:=hY hr;have e2:=hY g9;have k1:=hY g6;clear hr g9 g6;have b9:(∀b o,b<w2.heap.size->w3.cell? ⟨b,o,none⟩=w2.cell? ⟨b,o,none⟩):=λb o hb=>e1.cell (show b<w2.drew.heap.size from hb)))
 have a2:Ext w2 w3:=((gh w2).drew).trans e1;have l7:g<w3.heap.size:=ab g4 a2.size;have k8:=(a2.cell (o:=i) g4).trans g7;have l0:w3.frozen? ⟨g,i,none⟩=false:=(a2.frozen g4).trans (j3 i);obtain⟨a7,k9⟩:=Yb a2 e1;clear a2 e1 g7 j3 b9 d0 d1 d2 d3 d4 d5 d6;have b9:w3.ownsRow W0.heap.size 46 1 (.slice (some g) t.2.length N) t.2.length (ptrs h t.2):=Qab (s:=⟨some g,N⟩) i1.o (a7.o.agree (F:=Lt w2.heap.size) λ_ h=>h) λb hb=>(Qad (s:=⟨some g,N⟩) i1.o hb).2
 have f1:=Qbt b9 b8 (ptr h a);rw[Qsa b8]at f1;have i2:Ext w (w3.setCell ⟨g,i,none⟩ (ptr h a)):=(a8.o.trans a7.o).setCell (p:=⟨g,i,none⟩) (by show w.heap.size<=g;omega) _;have e3:Agree (Up F w2.drew w3) w3 (w3.setCell ⟨g,i,none⟩ (ptr h a)):=gw w3 ⟨g,i,none⟩ _ (by
  rintro(hf|hf)
  ·have:g<w.heap.size:=HF.o g hf
   omega
  have:w2.heap.size<=g:=hf.1;omega)
 have b7:∀W,Ext w W->Agree (Up F w2.drew w3) w3 W->w3.heap.size<=W.heap.size->Kids W (Up F w W) h (t.2.take i++rs++t.2.drop (i+1)):=λW hW j5 k6=>by
  have f7:=Qpx a3.o e2.o i4.o HS.o;have d7:=Qtk a3.o e2.o i4.o;rw[HI.o]at f7 d7;have k5:Sorted ((t.2.take i++rs++t.2.drop (i+1)).flatMap (ents h)):=by rw[f7];exact Qa1 HS.o k v
  have j4:∀x∈t.2.take i++rs++t.2.drop (i+1),0<(ents h x).length:=λx hx=>Qbk h x (d7 x hx).1 (by have:=(d7 x hx).2;omega)
  refine⟨λb hb=>hb.elim (λh=>ab (HF.o b h) hW.size) λh=>h.2,λx hx=>?_,QdI k5 j4,j4,λx hx=>by have:=Qdf (d7 x hx).1;omega,by
   have:=QcA (ents (h+1) t) k v;have l9:=HC.o;unfold cnt;rw[f7];omega,oM⟩
  rcases aO.1 hx with hx|hx
  ·rcases aO.1 hx with hx | hx
   .exact ((f9.o x (ba hx)).agree (hW.agree HF.o)).mono λ_ h=>.inl h
   exact((k1.o x hx).agree j5).mono λb hb=>hb.elim .inl λh=>.inr ⟨Nat.le_trans a8.o.size h.1,ab h.2 k6⟩
  exact((f9.o x (aN hx)).agree (hW.agree HF.o)).mono λ_ h=>.inl h
 obtain⟨HK,g3,g0,i0⟩:=Ye b7 f1 i2 e3;have i6:w.heap.size<=w2.drew.heap.size:=a8.o.size;have n2:W0.heap.size<=w3.heap.size:=oM
 have j1:=hY i6;clear b9 f1 i2 e3 b7 i6;rcases HR.o with⟨rfl,rfl⟩ |⟨b,rfl,rfl⟩
 ·have a1:(t.2.take i++[a]++t.2.drop (i+1)).length=t.2.length:=by simp;omega
  have a4:=QhO (w:=w3.setCell ⟨g,i,none⟩ (ptr h a)) (s:=⟨some g,N⟩) (by rw[a1];exact(gz g3.o).mono λi hi=>hi.2) (HK.o _ g0.o i0.o oO) oM oM;rw[a1]at a4;have f4:=hY a4;clear a4 a1;go_wp2_with fail;refine f4.o.mono ?_;rintro e w5 ⟨ts,rfl,h1,h2,h3⟩;obtain⟨H2,H1⟩:=Yb h2 h1;clear h2;rcases QhU h1 with⟨a',rfl⟩ |⟨a',b',rfl⟩
  all_goals
   clear h1;simp only[two];go_wp2_with fail;go_ret2;exact QmK g0.o HI.o a3.o j1.o e2.o H1.o H2.o h3
 have l6:IntKind.i64.wrap ((i:Int)+1)=(i:Int)+1:=by rw[eM];omega
 have a1:(t.2.take i++[a]++t.2.drop (i+1)).length=t.2.length:=by simp;omega
 have Z:(t.2.take i++[a,b]++t.2.drop (i+1)).length=t.2.length+1:=by simp;omega
 have e0:Ext (w3.setCell ⟨g,i,none⟩ (ptr h a)) ((w3.setCell ⟨g,i,none⟩ (ptr h a)).alloc (.cells #[ptr h b] 46)):=(gh _).alloc _ _;have g8:Blk ((w3.setCell ⟨g,i,none⟩ (ptr h a)).alloc (.cells #[ptr h b] 46)) w3.heap.size 46 [ptr h b].toArray:=by
  have:=gm (w3.setCell ⟨g,i,none⟩ (ptr h a)) 46 #[ptr h b];rwa[eP]at this
 go_wp2_with fail;change Calls _ _ _ ((w3.setCell ⟨g,i,none⟩ (ptr h a)).alloc (.cells #[ptr h b] 46)) _;have i8:((w3.setCell ⟨g,i,none⟩ (ptr h a)).alloc (.cells #[ptr h b] 46)).ownsRow W0.heap.size 46 1 (.slice (some g) t.2.length N) t.2.length (ptrs h (t.2.take i++[a]++t.2.drop (i+1))):=Qab (s:=⟨some g,N⟩) g3.o (e0.agree (F:=Lt w3.heap.size) λi hi=>by rw[eP];exact hi) λb hb=>by
  have:=(Qad (s:=⟨some g,N⟩) g3.o hb).2;rwa[eP]at this
 have e4:Agree (Up F w2.drew w3) w3 ((w3.setCell ⟨g,i,none⟩ (ptr h a)).alloc (.cells #[ptr h b] 46)):=i0.o.trans (e0.agree λj hj=>by rw[eP];exact hj.elim (λhh=>ab (HF.o j hh) (by have:=a8.o.size;have:=a7.o.size;omega)) λhh=>hh.2);have i7:=g0.o.trans e0;have k3:((w3.setCell ⟨g,i,none⟩ (ptr h a)).alloc (.cells #[ptr h b] 46)).heap.size=w3.heap.size+1:=oO
 generalize (w3.setCell ⟨g,i,none⟩ (ptr h a)).alloc (.cells #[ptr h b] 46)=W5 at *;have e7:=Qmb (w:=W5) (base:=W0.heap.size) (n:=t.2.length) (i:=i+1) (s:=⟨some g,N⟩) (xs:=ptrs h (t.2.take i++[a]++t.2.drop (i+1))) (ys:=[ptr h b]) (vb:=w3.heap.size) i8 oM oM oM rfl g8 (by simp[Sl.row];omega) (by simp[Value.oneCell']) (QbF _ _);obtain⟨H5,k0⟩:=Yb i7 e4;clear i7 e4 g8 i8 e0;refine e7.mono ?_;rintro e w6 ⟨s6,rfl,a5,a6,-⟩;rw[Qr9 b8]at a5;have f3:Ext w w6:=H5.o.wr a6 λj hj=>by simp[Sl.row]at hj;omega
 have e6:Agree (Up F w2.drew w3) w3 w6:=k0.o.trans (a6.agree (λj hj=>by rw[k3];exact hj.elim (λhh=>ab (HF.o j hh) (by have:=a8.o.size;have:=a7.o.size;omega)) λhh=>Nat.lt_succ_of_lt hh.2) (λj hj=>by
  simp[Sl.row]at hj;subst hj;rintro(hf|hf)
  ·have:g<w.heap.size:=HF.o g hf
   omega
  have:w2.heap.size<=g:=hf.1;omega))
 have a4:=QhO (w:=w6) (s:=s6) (by rw[Z];exact(gz a5).mono λi hi=>hi.2) (HK.o _ f3 e6 (by have:=a6.grown.size;omega)) oM oM;rw[Z]at a4;obtain⟨f4,k2⟩:=Yb a4 f3;clear a4 a1 Z f3 e6 a5 a6 e7;go_wp2_with fail;refine f4.o.mono ?_;rintro e w7 ⟨ts,rfl,h1,h2,h3⟩;obtain⟨H2,H1⟩:=Yb h2 h1;clear h2;rcases QhU h1 with⟨a',rfl⟩ |⟨a',b',rfl⟩
 all_goals
  clear h1;simp only[two];go_wp2_with fail;go_ret2;exact QmK k2.o HI.o a3.o j1.o e2.o H1.o H2.o h3
theorem QmJ{k:ByteArray}{v:Val}{sl so:Sl}(I:k.size<=maxLen):∀(h:Nat) (w:World) (F:Nat->Prop) (t:PT h),(∀b,F b->b<w.heap.size)->IsN w F h t->OkT h t->Sorted (ents h t)->(ents h t).length<=1000000->RV w (Lt w) v sl so->
  Calls prog 53 #[ptr h t,Qfu k v sl so] w (Qc2 F h t k v w)
 |0,w,F,t,hF,hn,ok,hs,hc,hv=>QqP hF hn ok hs hv I
 |h+1,w,F,t,hF,hn,ok,hs,hc,hv=>QqO I (QmJ I h) hF hn ok hs hc hv
abbrev RT:=Option (Σ h,PT h)
def QaK:RT->Value
 |none=>.pointer none
 |some ⟨h,t⟩=>ptr h t
abbrev Qao(T:RT):Value:=.agg #[QaK T]
def Qaa:RT->List Ent
 |none=>[]
 |some ⟨h,t⟩=>ents h t
def OkR:RT->Prop
 |none=>True
 |some ⟨h,t⟩=>OkT h t/\1<=size h t/\Sorted (ents h t)
def IsT(w:World)(F:Nat->Prop):RT->Prop
 |none=>True
 |some ⟨h,t⟩=>IsN w F h t
variable{T:RT}
theorem IsT.agree(h:IsT w F T)(I:Agree F w w'):IsT w' F T:=by
 match T,h with
 |none,_=>trivial
 |some ⟨n,t⟩,h=>exact IsN.agree I h
theorem IsT.mono(h:IsT w F T)(I:∀i,F i->G i):IsT w G T:=by
 match T,h with
 |none,_=>trivial
 |some ⟨n,t⟩,h=>exact IsN.mono I h
theorem OkR.sorted(h:OkR T):Sorted (Qaa T):=by
 match T,h with
 |none,_=>exact List.Pairwise.nil
 |some ⟨n,t⟩,h=>exact h.2.2
inductive Qcu (B:Nat) (k:ByteArray) (v:Val):RT->(h:Nat)->List (PT h)->Prop
 |none (u:PT 0) (h:u.2=[(k,v)]) (hb:B<=u.1):Qcu B k v none 0 [u]
 |some {h:Nat} {t:PT h} {ts:List (PT h)} (hw:QcM B k v h t ts):Qcu B k v (some ⟨h,t⟩) h ts
theorem Qcu.mono(I:A<=B){k:ByteArray}{v:Val}{ts:List (PT h)}(N:Qcu B k v T h ts):Qcu A k v T h ts:=by
 cases N with
 |none u hu hb=>exact .none u hu (ak I hb)
 |some N=>exact .some (N.mono I)
theorem Qcu.height{k:ByteArray}{v:Val}{ts:List (PT h)}(I:Qcu B k v T h ts)(ok:OkR T):h<=(Qaa T).length:=by
 cases I with
 |none u hu hb=>exact aA _
 |some I=>exact bZ (QcT _ _ ok.1 ok.2.1)
inductive QsS (B:Nat) (k:ByteArray) (v:Val):RT->RT->Prop
 |one {T:RT} {h:Nat} {a:PT h} (hw:Qcu B k v T h [a]):QsS B k v T (some ⟨h,a⟩)
 |two {T:RT} {h:Nat} {a b:PT h} {c:PT (h+1)} (hw:Qcu B k v T h [a,b]) (hc:c.2=[a,b]) (hb:B<=addr (h+1) c):QsS B k v T (some ⟨h+1,c⟩)
theorem Qcu.ents{k:ByteArray}{v:Val}{ts:List (PT h)}(I:Qcu B k v T h ts)(ok:OkR T):ts.flatMap (Proofs.YtdiecmkpbadgjaaGreatDoor.ents h)=QbY (Qaa T) k v:=by
 cases I with
 | none u hu hb=>
   show u.2++[]=_;rw[hu];rfl
 |some I=>exact I.ents ok.1 ok.2.2
theorem Qcu.ok{k:ByteArray}{v:Val}{ts:List (PT h)}(I:Qcu B k v T h ts)(ok:OkR T):(∀u∈ts,OkT h u/\1<=size h u)/\(2<=ts.length->∀u∈ts,4<=size h u):=by
 cases I with
 | none u hu hb=>
   refine⟨λx N=>?_,λh=>by simp at h⟩;obtain rfl:x=u:=by simpa using N
   exact⟨show x.2.length<=8 by rw[hu];simp,show 1<=x.2.length by rw[hu];simp⟩
 |some I=>exact⟨λu hu=>⟨(I.ok ok.1).1 u hu |>.1,((I.ok ok.1).1 u hu).2.1⟩,(I.ok ok.1).2⟩
variable{T':RT}
theorem QsS.ents{k:ByteArray}{v:Val}(I:QsS B k v T T')(ok:OkR T):Qaa T'=QbY (Qaa T) k v:=by
 cases I with
 |one hw=>have:=hw.ents ok;simpa[Qaa]using this
 | two hw hc hb=>
   rename_i h a b c;have:=hw.ents ok;rw[<-this,<-hc];rfl
theorem QsS.ok{k:ByteArray}{v:Val}(N:QsS B k v T T')(ok:OkR T):OkR T':=by
 have hs:Sorted (Qaa T'):=by rw[N.ents ok];exact Qa1 ok.sorted k v
 cases N with
 |one hw=>rename_i h a;exact⟨((hw.ok ok).1 a oO).1,((hw.ok ok).1 a oO).2,hs⟩
 | two hw hc hb=>
   rename_i h a b c;have h1:=hw.ok ok;refine⟨⟨by rw[hc];simp,by rw[hc];simp,λx I=>?_⟩,show 1<=c.2.length by rw[hc];simp,hs⟩;rw[hc]at I;exact⟨(h1.1 x I).1,h1.2 oO x I⟩
theorem Rd.Qax{t:TypeId}(I:Blk w g t cs.toArray)(Z:cs.length<=maxLen):Rd w (λb=>b=g) 1 ⟨some g,cs.length⟩ cs.length cs:=
 ⟨g,0,.some _ _ _ _ (ao _) Z rfl,(dD _).symm,λj u N=>by rw[aD,I.cell];simpa using N⟩
def Qi9(F:Nat->Prop)(T:RT)(k:ByteArray)(v:Val)(w:World)(e:Ending)(w':World):Prop:=
 ∃(h:Nat) (a:PT h) (r:Value) (rs:List (PT h)),e=.returned (.tuple #[ptr h a,r])/\((r=.pointer none/\rs=[a])\/∃b,r=ptr h b/\rs=[a,b])/\Qcu w.heap.size k v T h rs/\(∀u∈rs,IsN w' (Up F w w') h u)/\Ext w w'
theorem QqN(hF:∀b,F b->b<w.heap.size)(Z:IsT w F T)(ok:OkR T)(N:(Qaa T).length<=1000000){k:ByteArray}{v:Val}(I:k.size<=maxLen)(hv:RV w (Lt w) v sl so) :
  Calls prog 53 #[QaK T,Qfu k v sl so] w (Qi9 F T k v w):=by
 match T,Z,ok,N with
 | none,_,_,_=>
   refine(QkJ (nv:=.pointer none) (es:=[]) (λW hW=>(QdV W)) (λW hW=>(Qej W).mono ?_) List.Pairwise.nil oO hv I).mono ?_
   ·rintro e w' ⟨rfl,rfl⟩
    exact⟨Sl.none,[],rfl,rfl,OE.nil _ _,gh _⟩
   rintro e w' ⟨ts,rfl,h1,h2,h3⟩;obtain⟨u,rfl,hu⟩:=Qvv (h1.trans (show chunk (QbY [] k v)=[[(k,v)]]from rfl));exact⟨0,u,_,_,rfl,.inl ⟨rfl,rfl⟩,.none u hu (h2 u oO).1,λx hx=>(h2 x hx).2.mono λi hi=>.inr hi,h3⟩
 | some ⟨h,t⟩,Z,ok,N=>
   refine(QmJ I h w F t hF Z ok.1 ok.2.2 N hv).mono ?_;intro e w' p;obtain⟨a,r,rs,rfl,h1,h2,h3,h4⟩:=p.apart;exact⟨h,a,r,rs,rfl,h1,.some h2,h3,h4⟩
def QsR(F:Nat->Prop)(T:RT)(k:ByteArray)(v:Val)(w:World)(e:Ending)(w':World):Prop:=
 ∃T',e=.returned (Qao T')/\QsS w.heap.size k v T T'/\IsT w' (Up F w w') T'/\Ext w w'
theorem Qqf(hF:∀b,F b->b<w.heap.size)(hT:IsT w F T)(ok:OkR T)(hc:(Qaa T).length<=1000000){k:ByteArray}{v:Val}(d4:k.size<=maxLen)(hv:RV w (Lt w) v sl so) :
  Calls prog 28 #[Qao T,k,QbV v sl so] w (QsR F T k v w):=by
 have c3:∀W,Ext w W->Calls prog 53 #[QaK T,Qfu k v sl so] W (Qi9 F T k v W):=λW hW=>
  QqN (λb hb=>ab (hF b hb) hW.size) (hT.agree (hW.agree hF)) ok hc d4 ((hv.agree (hW.agree λ_ h=>h)).mono λi hi=>ab hi hW.size)
 obtain⟨HW,HF,a4⟩:=Yc c3 hF ok;clear hF hT ok hv c3;go_in;go_wp2_with fail;have a8:Ext w (((w.alloc (.cells #[QaK T] 48)).alloc (.cells #[v.kind,v.b,v.i,v.t,.slice sl.a v.l.length sl.c,.slice so.a v.ok.length so.c] 34)).alloc (.cells #[.pointer none] 48)):=(((gh w).alloc _ _).alloc _ _).alloc _ _;have c2:Blk (((w.alloc (.cells #[QaK T] 48)).alloc (.cells #[v.kind,v.b,v.i,v.t,.slice sl.a v.l.length sl.c,.slice so.a v.ok.length so.c] 34)).alloc (.cells #[.pointer none] 48)) (w.heap.size+1+1) 48 #[.pointer none]:=by
  have:=gm ((w.alloc (.cells #[QaK T] 48)).alloc (.cells #[v.kind,v.b,v.i,v.t,.slice sl.a v.l.length sl.c,.slice so.a v.ok.length so.c] 34)) 48 #[.pointer none];simpa using this
 generalize b8:World.alloc _ _=W3 at *;have d7:W3.heap.size=w.heap.size+1+1+1:=by rw[<-b8];simp
 clear b8;refine(HW.o _ a8).mono ?_;rintro e I ⟨h,a,r,rs,rfl,hr,b7,b4,a3⟩;have Z:=c2.ext a3;have c0:=a8.trans a3;have q4:I.cell? ⟨w+1+1,0,none⟩=some (.pointer none):=Z.cell 0;have f4:=Z.frozen 0;have c6:=Z.lt;obtain⟨a0,c7,HX,d6,d8⟩:=Yf b7 b4 c0 a3 Z;have c8:∀W',¬Up F W3 W' (w.heap.size+1+1):=λW' hf=>by
  rcases hf with hf|hf
  .have:=HF.o _ hf;omega
  have:=hf.1;omega
 have b9:=hY c8;have a2:w.heap.size<=W3.heap.size:=oM
 clear c2 Z b7 b4 c0 a8 a3 c8;rcases hr with⟨rfl,rfl⟩ |⟨b,rfl,rfl⟩
 ·go_wp2_with fail
  have q0:(I.setCell ⟨w+1+1,0,none⟩ (ptr h a)).cell? ⟨w+1+1,0,none⟩=some (ptr h a):=fc I _ _ q4;refine eN (v:=Qao (some ⟨h,a⟩)) (by simp[results,results28,go_sem,q0];rfl) rfl ?_;refine⟨some ⟨h,a⟩,rfl,.one ?_,?_,HX.o.setCell (p:=⟨w+1+1,0,none⟩) (by show w.heap.size<=w.heap.size+1+1;omega) _⟩
  .exact a0.o.mono a2
  show IsN _ _ h a;refine((c7.o a oO).agree (gw I ⟨w+1+1,0,none⟩ _ (b9.o I))).mono λi hi=>hi.elim .inl λhi=>.inr ⟨Nat.le_trans a2 hi.1,by rw[eP];exact hi.2⟩
 have a7:Ext I (I.alloc (.cells #[ptr h a,ptr h b] 46)):=(gh _).alloc _ _;have b5:Blk (I.alloc (.cells #[ptr h a,ptr h b] 46)) I.heap.size 46 (ptrs h [a,b]).toArray:=gm I 46 #[ptr h a,ptr h b];have d5:(I.alloc (.cells #[ptr h a,ptr h b] 46)).heap.size=I.heap.size+1:=oO
 go_wp2_with fail;change Calls _ _ _ (I.alloc (.cells #[ptr h a,ptr h b] 46)) _;generalize I.alloc (.cells #[ptr h a,ptr h b] 46)=W5 at *;have he:=a0.o.ents a4.o;have a5:=a0.o.ok a4.o;have a9:∀x∈[a,b],0<(ents h x).length:=λx hx=>Qbk h x (a5.1 x hx).1 (a5.1 x hx).2
 have b6:Sorted ([a,b].flatMap (ents h)):=by rw[he];exact Qa1 a4.o.sorted k v
 have N:Kids W5 (Up F W3 W5) h [a,b]:=by
  refine⟨λb hb=>hb.elim (λh=>ab (HF.o b h) (by have:=HX.o.size;omega)) λh=>h.2,λx hx=>?_,QdI b6 a9,a9,λx hx=>by have:=Qdf (a5.1 x hx).1;omega,by
   have:=QcA (Qaa T) k v;unfold cnt;rw[he];omega,by have:=a0.o.height a4.o;omega⟩
  exact((c7.o x hx).agree (a7.agree λi hi=>hi.elim (λh=>ab (HF.o i h) HX.o.size) λh=>h.2)).mono λi hi=>hi.elim .inl λhi=>.inr ⟨hi.1,oM⟩
 have c4:=Qcl (w:=W5) (n:=2) (s:=⟨some I,2⟩) ((Rd.Qax b5 (by simp[ptrs];decide)).mono λi hi=>by subst hi;omega) rfl N oO oO;have a6:=hY a7;clear a7 b5 he a5 a9 b6 N;refine c4.mono ?_;rintro e w6 ⟨c,rfl,d3,d0,b0,a1⟩;have c9:=hY b0;have q6:w6.cell? ⟨w+1+1,0,none⟩=some (.pointer none):=((a6.o.trans a1).cell c6).trans q4;have f6:w6.frozen? ⟨w+1+1,0,none⟩=false:=((a6.o.trans a1).frozen c6).trans f4;have b3:=hY a1;clear c4 b0 q4 f4 a1;go_wp2_with fail;have q0:(w6.setCell ⟨w+1+1,0,none⟩ (ptr (h+1) c)).cell? ⟨w+1+1,0,none⟩=some (ptr (h+1) c):=fc w6 _ _ q6;refine eN (v:=Qao (some ⟨h+1,c⟩)) (by simp[results,results28,go_sem,q0];rfl) rfl ?_;have c1:w.heap.size<=W5.heap.size:=by have:=HX.o.size;omega
 refine⟨some ⟨h+1,c⟩,rfl,.two (a0.o.mono a2) d3 (ak c1 d0),?_,((HX.o.trans a6.o).trans b3.o).setCell (p:=⟨w+1+1,0,none⟩) (by show w.heap.size<=w.heap.size+1+1;omega) _⟩;show IsN _ _ (h+1) c;refine(c9.o.agree (gw w6 ⟨w+1+1,0,none⟩ _ ?_)).mono λi hi=>?_
 ·rintro (hf | hf)
  .exact b9.o W5 hf
  have:W5.heap.size<=w.heap.size+1+1:=hf.1;omega
 rcases hi with(hi|hi)|hi
 .exact .inl hi
 .exact .inr ⟨Nat.le_trans a2 hi.1,by rw[eP];exact ab hi.2 b3.o.size⟩
 exact .inr ⟨Nat.le_trans c1 hi.1,by rw[eP];exact hi.2⟩
theorem RV.flat(w:World)(F:Nat->Prop)(I:Int)(b:Bool)(i:Int)(t:ByteArray)(N:(Lit.int .i64 I).wf=true)(hi:(Lit.int .i64 i).wf=true)(Z:t.size<=maxLen):RV w F (.mk I b i t [] [] []) Sl.none Sl.none:=
 .mk 0 0 0 0 (λ_=>(Sl.none,Sl.none)) (λ_=>(Sl.none,Sl.none)) (.nil _ _) (.nil _ _) rfl (λ_ _ h=>by simp at h) (λ_ _ h=>by simp at h) (λ_ _ h=>by simp at h) (λ_ _ h=>by simp at h) (λ_ _ h=>by simp at h) N hi Z oO oO
theorem QgQ(es:List Ent)(k:ByteArray)(hs:Sorted es):(∀e∈es.take (Qct es k),klt e.1 k=true)/\(∀e∈es.drop (Qct es k),klt e.1 k=false):=by
 have e1:es.take (Qct es k)=es.takeWhile λe=>klt e.1 k:=(cH.1 (List.takeWhile_prefix (l:=es) (λe:Ent=>klt e.1 k))).symm
 have e2:es.drop (Qct es k)=es.dropWhile λe=>klt e.1 k:=by
  have h1:=aX (Qct es k) es;rw[e1]at h1;have h2:=List.takeWhile_append_dropWhile (p:=λe:Ent=>klt e.1 k) (l:=es);exact List.append_cancel_left (h1.trans h2.symm)
 refine⟨λe I=>?_,λe I=>?_⟩
 ·rw [e1] at I
  exact dw.1 (List.all_takeWhile (l:=es) (p:=λe:Ent=>klt e.1 k)) e I
 have N:Sorted (es.drop (Qct es k)):=di (ed _ _) hs;rw[e2]at I N;cases hd:es.dropWhile λe=>klt e.1 k with
 |nil=>rw[hd]at I;cases I
 | cons x xs=>
   rw[hd]at I N;have Z:klt x.1 k=false:=by
    have:=List.head?_dropWhile_not (λe:Ent=>klt e.1 k) es;rw[hd]at this;simpa using this
   rcases aH.1 I with rfl|I
   .exact Z
   have:=(be.1 N).1 e I;cases hc:klt e.1 k
   .rfl
   rw[QaH this hc]at Z;cases Z
theorem Qit{es:List Ent}(hs:Sorted es)(k:ByteArray):Qaq es k=(es[Qct es k]?).bind λe=>if e.1=k then some e.2 else none:=by
 obtain⟨hA,Z⟩:=QgQ es k hs;have I:Sorted (es.drop (Qct es k)):=di (ed _ _) hs
 conv=>lhs;rw[<-aX (Qct es k) es]
 rw[Ql3 hA,<-ct (Qct es k),<-bc,ct];cases hd:es.drop (Qct es k)with
 |nil=>rfl
 | cons x xs=>
   rw[hd]at I Z;simp only[List.getElem?_cons_zero,Option.bind_some,Qaq];by_cases N:x.1=k
   .simp [N]
   simp only[N,if_false];refine QeL λe he=>?_
   have h1:=QcU (Z x (aF ..)) N;have h2:=QaH h1 ((be.1 I).1 e he);rintro rfl;rw[Qag]at h2;cases h2
theorem Qre{es:List Ent}(hs:Sorted es)(k:ByteArray):QbM es k=if(es[Qct es k]?).map Prod.fst=some k then es.take (Qct es k)++es.drop (Qct es k+1)else es:=by
 obtain⟨I,N⟩:=QgQ es k hs
 conv=>lhs;rw[<-aX (Qct es k) es]
 rw[Qik I,Qs5 N,List.head?_drop,List.tail_drop];split
 .rfl
 rw[aX]
def QbC(o:Option Val)(w:World)(e:Ending)(w':World):Prop:=
 ∃sl so,e=.returned (.tuple #[QbV (o.getD zeroV) sl so,.bool o.isSome])/\Ext w w'/\RVC w' (In w.heap.size w'.heap.size) (o.getD zeroV) sl so
theorem Qrm{k k':ByteArray}{v:Val}{i:Nat}(h1:W.cell? b1=some nv)(h2:W.cell? b2=some (.string k))
  (hp:∃p,nv=.pointer p) (Z:Calls prog 72 #[nv,i] W (Qdq k' v W)) :
  Calls prog 71 #[i,.pointer (some b1),.pointer (some b2)] W λe w'=>e=.returned (.bool !(klt k' k))/\Ext W w':=by
 obtain⟨p,rfl⟩:=hp;have I:=eX W _ h2;go_in;go_wp2_with fail;refine Z.mono ?_;rintro e w1 ⟨sl,so,rfl,N,-⟩;have q2:=(N.cell I).trans h2;have l2:b2<w1:=ab I N.size;have HX:=hY N;clear Z N h2;go_wp2;go_ret;exact⟨rfl,HX.o.alloc _ _⟩
structure QtV(w:World)(nv:Value)(k:ByteArray)(W:World):Prop where
 ext:Ext w W
 b0:Blk W w.heap.size 46 #[nv]
 b1:Blk W (w.heap.size+1) 9 #[.string k]
 b2:Blk W (w.heap.size+1+1) 34 #[.int .i64 0,.bool false,.int .i64 0,.string ByteArray.empty,.slice none 0 0,.slice none 0 0]
variable{W':World}
theorem QtV.step{k:ByteArray}(h:QtV w nv k W)(I:Ext W W'):QtV w nv k W':=⟨h.ext.trans I,h.b0.ext I,h.b1.ext I,h.b2.ext I⟩
theorem Qjy(w:World)(i:Int):Calls prog 72 #[.pointer none,i] w λe w'=>e=.returned (.tuple #[Qfu ByteArray.empty zeroV Sl.none Sl.none,false])/\Ext w w':=by
 go_in;go_wp2_with fail;refine eN (v:=.tuple #[Qfu ByteArray.empty zeroV Sl.none Sl.none,false]) (by simp[results,results72,go_sem];exact⟨rfl,rfl,rfl,rfl,rfl,rfl,rfl⟩) rfl ⟨rfl,(gh w).alloc _ _⟩
theorem Ql4{es:List Ent}(hp:∃p,nv=.pointer p)(hh:∀W,Ext w W->Calls prog 66 #[nv] W λe w'=>e=.returned (.int .i64 0)/\W=w')
  (hz:∀W,Ext w W->Calls prog 70 #[nv] W λe w'=>e=.returned es.length/\∃q,w'=W.drewN q)
  (he:∀W,Ext w W->∀(i:Nat) (e:Ent),es[i]? = some e->Calls prog 72 #[nv,i] W (Qdq e.1 e.2 W))
  (d3:∀W,Ext w W->∀i:Nat,es.length<=i->Calls prog 72 #[nv,i] W λe w'=>e=.returned (.tuple #[Qfu ByteArray.empty zeroV Sl.none Sl.none,false])/\Ext W w')
  (hs:Sorted es) (hl:es.length<=1000) (k:ByteArray):Calls prog 45 #[nv,k] w (QbC (Qaq es k) w):=by
 obtain⟨HH,HZ,HE,e1,HS⟩:=Yf hh hz he d3 hs;obtain⟨pp,rfl⟩:=hp;clear hh hz he d3 hs;have b5:∀W,QtV w (.pointer pp) k W->Calls prog 69 #[.int .i64 es.length,.func (.func 71) #[] #[.pointer (some w),.pointer (some ⟨w+1,0,none⟩)]] W (QcL es.length (λi=>!(klt ((es[i]?.map Prod.fst).getD ByteArray.empty) k)) W):=by
  intro W hW;refine Qd0 71 _ _ es.length _ W (ff func71 kM rfl) oM ?_ ?_
  ·intro i W' hi e3
   obtain⟨x,hx⟩:∃x,es[i]? = some x:=⟨_,ac hi⟩;rw[hx];have hS:=hW.step e3;exact Qrm (hS.b0.cell 0) (hS.b1.cell 0) ⟨_,rfl⟩ (HE.o W' hS.ext i x hx)
  intro i j e4 hj a1;by_cases a9:i=j
  .subst a9;exact a1
  obtain⟨x,hx⟩:∃x,es[i]? = some x:=⟨_,ac oM⟩;obtain⟨y,hy⟩:∃y,es[j]? = some y:=⟨_,ac hj⟩;have d4:=QdK HS.o (i:=i) (j:=j) oM hx hy;rw[hx]at a1;rw[hy];simp only[Option.map_some,Option.getD_some,Bool.not_eq_true']at a1 ⊢;cases d7:klt y.1 k
  .rfl
  have:=QaH d4 d7;rw[a1]at this;cases this
 go_in;go_wp2_with fail;generalize c8:World.alloc _ _=W0;obtain⟨a3,d8,a6,b3,b9⟩:=Qal w _ _ _ _ _ _ W0 c8;have d0:QtV w (.pointer pp) k W0:=⟨a3,a6,b3,b9⟩;have b4:=hY d0;have q0:W0.cell? w=some (.pointer pp):=a6.cell 0;clear c8 a6 b3 b9 d0;refine(HH.o W0 a3).mono ?_;rintro e w1 ⟨rfl,rfl⟩;go_wp2_with fail;refine(HZ.o W0 a3).mono ?_;rintro e w1 ⟨rfl,q,rfl⟩;go_wp2_with fail;refine(b5 _ (b4.o.step ((gh _).drewN q))).mono ?_;rintro e w1 ⟨p,rfl,hp,c7,c9,b8⟩;have a7:=b4.o.step (((gh _).drewN q).trans b8);have Z:=hY a7;have r0:w1.cell? w=some (.pointer pp):=a7.b0.cell 0;have a4:Qct es k=p:=Qlr hp (λi e hi he=>by
   have:(!(klt ((es[i]?.map Prod.fst).getD ByteArray.empty) k))=false:=c7 i hi;rw[he]at this;simpa using this) (λe he=>by
   have:(!(klt ((es[p]?.map Prod.fst).getD ByteArray.empty) k))=true:=c9 p (ao _) (ae.1 he).1;rw[he]at this;simpa using this)
 have a5:Qaq es k=(es[p]?).bind λe=>if e.1=k then some e.2 else none:=by rw[Qit HS.o,a4]
 have HG:=hY a5;clear c7 c9 a4 b5 b8 a7 q0 a5 a3 d8;go_wp2_with fail;by_cases e0:p<es.length
 ·obtain ⟨x,hx⟩:∃ x,es[p]? = some x:=⟨_,ac e0⟩
  have hc:=HE.o w1 Z.o.ext p x hx;have HX:=hY hx;clear hx;refine hc.mono ?_;rintro e w2 ⟨sl,so,rfl,a0,b6⟩;have I:=Z.o.step a0;have a2:=hY I;have q1:w2.cell? ⟨w+1,0,none⟩=some (.string k):=I.b1.cell 0;obtain⟨c0,c1,c2,c3,c4,c5⟩:=I.b2.c6;have f2:=I.b2.frozen;have l2:=I.b2.lt;have l1:w.heap.size+1<w2.heap.size:=oM
  have a8:=hY b6;clear I a0 b6 hc;by_cases hk:x.1=k
  ·have e2:(x.1.toList == k.toList)=true:=by rw [beq_toList];simpa using hk
   have hg:Qaq es k=some x.2:=by rw[HG.o,HX.o];simp[hk]
   have N:=hY hg;clear hk hg;go_wp2_with fail;refine eN (v:=.tuple #[QbV x.2 sl so,true]) (by simp[results,results45,go_sem,c0,c1,c2,c3,c4,c5,l2]) rfl ?_;have hE:=a2.o.ext.QdE (b:=w+1+1) oM 0 x.2 sl so;have hr:=(a8.o.mono (G:=In w.heap.size w2.heap.size) λi hi=>⟨Nat.le_trans Z.o.ext.size hi.1,hi.2⟩);have d6:RV w2 (λb=>In w.heap.size w2.heap.size b/\b≠w.heap.size+1+1) x.2 sl so:=a8.o.mono λi hi=>⟨⟨Nat.le_trans Z.o.ext.size hi.1,hi.2⟩,by have:=Z.o.b2.lt;have:=hi.1;omega⟩
   have d5:=d6.agree (Qbm w2 (w.heap.size+1+1) 0 x.2 sl so (F:=λb=>In w.heap.size w2.heap.size b/\b≠w.heap.size+1+1) (λh=>h.2 rfl));refine⟨sl,so,by rw[N.o];rfl,hE.alloc _ _,?_,by rw[N.o];exact a8.o.cap⟩;rw[N.o];refine(d5.agree (Agree.alloc _ _ (λb hb=>by rw[QdF];exact hb.1.2))).mono λi hi=>⟨hi.1.1,?_⟩
   have:=hi.1.2;simp;omega
  have e2:(x.1.toList==k.toList)=false:=by rw[beq_toList];simpa using hk
  have hg:Qaq es k=none:=by rw[HG.o,HX.o];simp[hk]
  have N:=hY hg;clear hk hg;go_wp2_with fail;refine eN (v:=.tuple #[QbV zeroV Sl.none Sl.none,false]) (by simp[results,results45,go_sem,c0,c1,c2,c3,c4,c5,l2];exact⟨rfl,rfl,rfl,rfl,rfl,rfl⟩) rfl ?_;have hE:=a2.o.ext.QdE (b:=w+1+1) oM 0 zeroV Sl.none Sl.none;exact⟨Sl.none,Sl.none,by rw[N.o];rfl,hE.alloc _ _,by rw[N.o];exact⟨RV.flat _ _ _ _ _ _ rfl rfl oN,rfl⟩⟩
 have b7:es[p]? = none:=aI oM;have hg:Qaq es k=none:=by rw[HG.o,b7];rfl
 have hc:=e1.o w1 Z.o.ext p oM;have N:=hY hg;clear hg b7;refine hc.mono ?_;rintro e w2 ⟨rfl,a0⟩;have I:=Z.o.step a0;have a2:=hY I;obtain⟨c0,c1,c2,c3,c4,c5⟩:=I.b2.c6;have f2:=I.b2.frozen;have l2:=I.b2.lt;clear I a0 hc;go_wp2_with fail;refine eN (v:=.tuple #[QbV zeroV Sl.none Sl.none,false]) (by simp[results,results45,go_sem,c0,c1,c2,c3,c4,c5,l2];exact⟨rfl,rfl,rfl,rfl,rfl,rfl⟩) rfl ?_;have hE:=a2.o.ext.QdE (b:=w+1+1) oM 0 zeroV Sl.none Sl.none;exact⟨Sl.none,Sl.none,by rw[N.o];rfl,hE.alloc _ _,by rw[N.o];exact⟨RV.flat _ _ _ _ _ _ rfl rfl oN,rfl⟩⟩
theorem get_nil(w:World)(k:ByteArray):Calls prog 45 #[.pointer none,k] w (QbC none w):=
 Ql4 (es:=[]) ⟨_,rfl⟩ (λW _=>QdV W) (λW _=>(QmD W).mono λe w' ⟨h1,h2⟩=>⟨h1,0,h2.symm⟩) (λW _ i e h=>by simp at h) (λW _ i _=>Qjy W i) List.Pairwise.nil oO k
theorem Qrp{t:PT 0}(Z:IsN w (Lt w) 0 t)(ok:OkT 0 t)(hs:Sorted (ents 0 t))(k:ByteArray):Calls prog 45 #[ptr 0 t,k] w (QbC (Qaq (ents 0 t) k) w):=by
 have N:(ents 0 t).length<=8:=ok;exact Ql4 ⟨_,rfl⟩ (λW I=>QaC (Z.ext I)) (λW I=>Qf8 (Z.ext I) (ak N oN)) (λW I i e h=>Qjx (Z.ext I) h) (λW I i h=>Qhs (Z.ext I) (.inr (Int.ofNat_le.2 h))) hs (ak N oN) k
theorem Qro{k:ByteArray}
  (ih:∀(w:World) (F:Nat->Prop) (t:PT h),(∀b,F b->b<w.heap.size)->IsN w F h t->OkT h t->Sorted (ents h t)->(ents h t).length<=1000000->Calls prog 45 #[ptr h t,k] w (QbC (Qaq (ents h t) k) w))
 {t:PT (h+1)} (hF:∀ b,F b→b<w.heap.size) (hn:IsN w F (h+1) t) (ok:OkT (h+1) t) (hs:Sorted (ents (h+1) t)) (hc:(ents (h+1) t).length≤1000000) :
  Calls prog 45 #[ptr (h+1) t,k] w (QbC (Qaq (ents (h+1) t) k) w):=by
 have a1:=QbU ok;have hh:h+1<1000000:=ab (QcT (h+1) t ok (by have:=ok.1;show 1<=t.2.length;omega)) hc;obtain⟨N,I,hA,hC⟩:=Qa6 (h:=h) (ks:=t.2) hs a1 (by have:=ok.1;omega) k;have a4:=am I;have e6:=(ae.1 I).1;have e4:=ok.2.1;have b4:∀x∈t.2,IsN w F h x:=hn.2.choose_spec.2.2;have a3:(ents h N).length<=1000000:=ak (by
  show _<=(t.2.flatMap (ents h)).length;rw[QbI I];simp only[List.flatMap_append,List.flatMap_cons,List.length_append];omega) hc
 have c9:Qaq (ents (h+1) t) k=Qaq (ents h N) k:=Qf3 I hA hC;rw[c9];have b7:∀W,Ext w W->Calls prog 45 #[ptr h N,k] W (QbC (Qaq (ents h N) k) W):=λW hW=>
  ih W F N (λb hb=>ab (hF b hb) hW.size) ((b4 N a4).agree (hW.agree hF)) (ok.2.2 N a4).1 (QaL hs N a4) a3
 generalize Qaq (ents h N) k=og at *;clear c9;obtain⟨HF,HN,HS,HP,f1,f7,d5⟩:=Yh hF hn hs a1 b7 b4 I;have g9:(0:Int)<(h:Int)+1:=oM
 clear hF hn ok hs hc a1 b7 b4 I hA hC ih a3;go_in;go_wp2_with fail;generalize d7:World.alloc _ _=W0;obtain⟨b0,f4,a8,b6,a9⟩:=Qal w _ _ _ _ _ _ W0 d7;have e0:QtV w (ptr (h+1) t) k W0:=⟨b0,a8,b6,a9⟩;have e2:=hY e0;have q0:W0.cell? w=some (ptr (h+1) t):=a8.cell 0;clear d7 a8 b6 a9 e0;have b3:IsN W0 F (h+1) t:=HN.o.agree (b0.agree HF.o);refine(QaC b3).mono ?_;rintro e w1 ⟨rfl,rfl⟩;have a3:=Qb9 b3 oM;clear b3;go_wp2_with fail;refine a3.mono ?_;rintro e w1 ⟨s',rfl,a5,c7⟩;have a0:=e2.o.step c7;have a6:=hY a0;have b5:Rd w1 (Lt w1) 1 s' t.2.length (ptrs h t.2):=(gz a5).mono λi hi=>hi.2
 obtain⟨g,d6,rfl,i0,g6,g0,d4⟩:=QaJ a5 oM;obtain⟨i,hi⟩:∃i,Qaw h t.2 k=i:=⟨_,rfl⟩;have b9:∀W,Ext w1 W->Calls prog 68 #[.slice (some g) t.2.length d6,k] W λe w'=>e=.returned (.int .i64 i)/\Ext W w':=λW hW=>by
  rw[<-hi];exact Qg3 (s:=⟨some g,d6⟩) ((b5.agree (hW.agree λ_ h=>h)).mono λi hi=>ab hi hW.size) (λx hx=>(f7.o x hx).agree ((a0.ext.trans hW).agree HF.o)) (λb hb=>ab (HF.o b hb) (a0.ext.trans hW).size) HP.o k HS.o oM
 have I:=d5.o;rw[hi]at I e6;obtain⟨b,o,c8,f8,-,-,b8⟩:=b5.QcV I;obtain⟨rfl,rfl⟩:g=b/\0=o:=by simpa using c8
 have kc:w1.cell? ⟨g,i,none⟩=some (ptr h N):=by simpa using b8
 have k1:w1.cell? ⟨w+1,0,none⟩=some (.string k):=a0.b1.cell 0;have d8:g<w1:=f8;have g4:¬g=w.heap.size+1+1:=oM
 have f9:¬w.heap.size+1+1=g:=oM
 clear f4;have l1:w.heap.size+1<w1.heap.size:=a0.b1.lt;have i2:(i:Int)<(t.2.length:Int):=oM
 have g5:(0:Int)<=(i:Int):=oM
 obtain⟨f2,g7⟩:=Yb b9 hi;clear b9 hi I b8 c8 d4 a5 b5 c7 b0 a0 a3 q0;go_wp2_with fail;go_region_held3 (λw'=>w'.cell? ⟨g,i,none⟩=some (ptr h N)/\w'.cell? ⟨w+1,0,none⟩=some (.string k)) (first |(with_reducible exact⟨g3,k3⟩) |(with_reducible exact⟨g2,k2⟩)|go_keep)
  (first
    |(go_at_call 68;refine(f2.o _ ?_).mono ?_;(exact((gh _).drew));rintro e w2 ⟨rfl,Z⟩;have g2:=(Z.cell (o:=i) d8).trans kc;have k2:=(Z.cell (o:=0) l1).trans k1;have f6:=ab d8 Z.size;have l2:=ab l1 Z.size)
    |(go_at_call 45;refine(f1.o _ ?_).mono ?_;(exact a6.o.ext.trans (((gh _).drew).trans Z));rintro e w3 ⟨sl,so,rfl,a2,d3⟩;have g3:=(a2.cell (o:=i) f6).trans g2;have k3:=(a2.cell (o:=0) l2).trans k2;have a7:=a6.o.step ((((gh _).drew).trans Z).trans a2);obtain⟨c0,c1,c2,c3,c4,c5⟩:=a7.b2.c6;have f3:=a7.b2.frozen;have e7:=hY a7;have e8:=hY a2;have d0:=hY d3;have e3:=hY Z;clear a7 a2 d3 Z))
 go_wp2_with fail;refine eN (v:=.tuple #[QbV (og.getD zeroV) sl so,og.isSome]) (by simp[results,results45,go_sem,c0,c1,c2,c3,c4,c5]) rfl ?_;have hE:=e7.o.ext.QdE (b:=w+1+1) oM 0 (og.getD zeroV) sl so;have a9:=a6.o.b2.lt;have f5:=e3.o.size;have g8:=e8.o.size;have i1:=a6.o.ext.size;rw[fC]at f5;have f0:RV w3 (λb=>In w.heap.size w3.heap.size b/\b≠w.heap.size+1+1) (og.getD zeroV) sl so:=d0.o.mono λi hi=>⟨⟨by have:=hi.1;omega,hi.2⟩,by have:=hi.1;omega⟩
 have e1:=f0.agree (Qbm w3 (w.heap.size+1+1) 0 (og.getD zeroV) sl so (F:=λb=>In w.heap.size w3.heap.size b/\b≠w.heap.size+1+1) (λh=>h.2 rfl));exact⟨sl,so,rfl,hE,e1.mono (λi hi=>⟨hi.1.1,by have:=hi.1.2;simpa using this⟩),d0.o.cap⟩
theorem Qpg{k:ByteArray}:∀(h:Nat) (w:World) (F:Nat->Prop) (t:PT h),(∀b,F b->b<w.heap.size)->IsN w F h t->OkT h t->Sorted (ents h t)->(ents h t).length<=1000000->Calls prog 45 #[ptr h t,k] w (QbC (Qaq (ents h t) k) w)
 |0,w,F,t,hF,hn,ok,hs,_=>Qrp (hn.mono hF) ok hs k
 |h+1,w,F,t,hF,hn,ok,hs,hc=>Qro (λw F t a b c d e=>Qpg h w F t a b c d e) hF hn ok hs hc
theorem Qel{b lo:Nat}{I:Option Val}(Z:Ext w w3)(hb:w<=b)(a0:b<lo)(N:RVC w3 (In lo w3.heap.size) (I.getD zeroV) sl so) :
  QbC I w (.returned (.tuple #[QbV (I.getD zeroV) sl so,I.isSome])) (QdE w3 b 0 (I.getD zeroV) sl so):=by
 refine⟨sl,so,rfl,Z.QdE hb _ _ _ _,?_,N.cap⟩;rw[QdF];exact(N.agree (Qbm w3 b 0 (I.getD zeroV) sl so oM)).mono λi hi=>⟨oM,hi.2⟩
theorem Qas(w:World)(N t1:TypeId)(I Z:Array Value):∀W,(w.alloc (.cells I N)).alloc (.cells Z t1)=W->
  Ext w W/\W.heap.size=w.heap.size+2/\Blk W w.heap.size N I/\Blk W (w.heap.size+1) t1 Z:=by
 rintro W rfl;refine⟨((gh w).alloc _ _).alloc _ _,oO,(gm w N I).alloc _,?_⟩;have h:=gm (w.alloc (.cells I N)) t1 Z;rw[eK]at h;exact h
theorem Qrn(hF:∀b,F b->b<w.heap.size)(N:IsT w F T)(ok:OkR T)(I:(Qaa T).length<=1000000)(k:ByteArray) :
  Calls prog 45 #[QaK T,k] w (QbC (Qaq (Qaa T) k) w):=by
 match T,N,ok,I with
 |none,_,_,_=>exact get_nil w k
 |some ⟨h,t⟩,N,ok,I=>exact Qpg h w F t hF N ok.1 ok.2.2 I
theorem Qg2(hF:∀b,F b->b<w.heap.size)(hT:IsT w F T)(ok:OkR T)(hc:(Qaa T).length<=1000000)(k:ByteArray) :
  Calls prog 24 #[Qao T,k] w (QbC (Qaq (Qaa T) k) w):=by
 have a3:∀W,Ext w W->Calls prog 45 #[QaK T,k] W (QbC (Qaq (Qaa T) k) W):=λW hW=>
  Qrn (λb hb=>ab (hF b hb) hW.size) (hT.agree (hW.agree hF)) ok hc k
 generalize Qaq (Qaa T) k=og at *;have HW:=hY a3;clear hF hT ok a3;go_in;go_wp2_with fail;generalize a2:World.alloc _ _=W0;obtain⟨I,Z,-,a1⟩:=Qas w _ _ _ _ W0 a2;obtain⟨HZ,a5⟩:=Yb Z I;clear a2 Z;refine(HW.o W0 I).mono ?_;rintro e w1 ⟨sl,so,rfl,N,a0⟩;have hb:=a1.ext N;obtain⟨c0,c1,c2,c3,c4,c5⟩:=hb.c6;have f2:=hb.frozen;obtain⟨a6,a4⟩:=Yb N a0;clear hb a1 N a0 I;go_wp2_with fail;refine eN (v:=.tuple #[QbV (og.getD zeroV) sl so,og.isSome]) (by simp[results,results24,go_sem,c0,c1,c2,c3,c4,c5]) rfl ?_;exact Qel (a5.o.trans a6.o) (b:=w+1) (lo:=W0) oM (by rw[HZ.o];omega) a4.o
inductive Qwz:List Ent->RT->Prop
 |nil:Qwz [] none
 |snoc {es:List Ent} {T T':RT} {B:Nat} {k:ByteArray} {v:Val} (h:Qwz es T) (hp:QsS B k v T T'):Qwz (es++[(k,v)]) T'
def QdC(es:List Ent)(l:List Ent):List Ent:=l.foldl (λm e=>QbY m e.1 e.2) es
theorem Qls(es l:List Ent)(e:Ent):QdC es (l++[e])=QbY (QdC es l) e.1 e.2:=by simp[QdC]
theorem QnJ(l:List Ent):∀es:List Ent,(QdC es l).length<=es.length+l.length:=by
 induction l with
 |nil=>intro es;exact ao _
 | cons a l ih=>
   intro es;have:=ih (QbY es a.1 a.2);have h2:=QcA es a.1 a.2;simp only[QdC,List.foldl_cons,List.length_cons]at *;omega
theorem Qwz.both{l:List Ent}(h:Qwz l T):(OkR T)/\Qaa T=QdC [] l:=by
 induction h with
 |nil=>exact⟨trivial,rfl⟩
 |snoc h hp ih=>exact⟨hp.ok ih.1,by rw[hp.ents ih.1,ih.2,Qls]⟩
inductive QkN (B:Nat) (k:ByteArray):RT->RT->Prop
 |no {T:RT} (h:Qaq (Qaa T) k=none):QkN B k T T
 |same {h:Nat} {t u:PT h} (hg:(Qaq (ents h t) k).isSome=true) (hd:Qi3 B k h t u) (hp:0<(ents h u).length) (h2:h=0\/2<=size h u):QkN B k (some ⟨h,t⟩) (some ⟨h,u⟩)
 |gone {t u:PT 0} (hg:(Qaq (ents 0 t) k).isSome=true) (hd:Qi3 B k 0 t u) (h0:ents 0 u=[]):QkN B k (some ⟨0,t⟩) none
 |down {h:Nat} {t:PT (h+1)} {u:PT h} (hg:(Qaq (ents (h+1) t) k).isSome=true) (hd:QmO B k h (Qi3 B k h) t.2 [u]):QkN B k (some ⟨h+1,t⟩) (some ⟨h,u⟩)
theorem QkN.mono(I:A<=B){k:ByteArray}(hd:QkN B k T T'):QkN A k T T':=by
 cases hd with
 |no h=>exact .no h
 |same hg hd hp h2=>exact .same hg (hd.mono I) hp h2
 |gone hg hd h0=>exact .gone hg (hd.mono I) h0
 |down hg hd=>exact .down hg (hd.mono I λ_ _ N=>N.mono I)
theorem QkN.ents{k:ByteArray}(hd:QkN B k T T')(ok:OkR T):Qaa T'=QbM (Qaa T) k:=by
 cases hd with
 |no h=>exact(QoV h).symm
 |same hg hd hp h2=>exact hd.ents ok.1 ok.2.2
 |gone hg hd h0=>exact h0.symm.trans (hd.ents ok.1 ok.2.2)
 | down hg hd=>
   rename_i h t u;have I:=ok.1;have:=hd.ents ok.2.2 (QbU I) (by have:=I.1;omega) λx y N Z=>Z.ents (I.2.2 x N).1 (QaL ok.2.2 x N)
   rw[aZ,List.flatMap_nil,aU]at this;exact this
theorem Qdw{k:ByteArray}{t:PT (h+1)}{I:List (PT h)}(hd:QmO B k h (Qi3 B k h) t.2 I)(ok:OkT (h+1) t)(hs:Sorted (ents (h+1) t))(hg:(Qaq (ents (h+1) t) k).isSome=true) :
  (∀u∈I,OkT h u/\4<=size h u)/\I.length<=t.2.length/\t.2.length<=I.length+1:=by
 refine hd.ok ok.2.2 ok.1 λx y hx Z hr=>?_
 obtain⟨a0,N,hA,hC⟩:=Qa6 (h:=h) (ks:=t.2) hs (QbU ok) (by have:=ok.1;omega) k;rw[Z]at N;simp only[Option.some.injEq]at N;subst N;have:=hr.ok (ok.2.2 x hx).1 (ok.2.2 x hx).2 (QaL hs x hx) (by rw[<-Qf3 Z hA hC];exact hg);exact⟨this.1,this.2.1⟩
theorem QkN.ok{k:ByteArray}(hd:QkN B k T T')(ok:OkR T):OkR T':=by
 have hs:Sorted (Qaa T'):=by rw[hd.ents ok];exact QaN ok.sorted k
 cases hd with
 |no h=>exact ok
 | same hg hd hp h2=>
   rename_i h t u;cases h with
   | zero=>
     have h1:=hd.1;have:(QbM t.2 k).length<=t.2.length:=(Qa3 t.2 k).length_le;have o:t.2.length<=8:=ok.1;exact⟨show u.2.length<=8 by rw[h1];omega,hp,hs⟩
   | succ h=>
     obtain⟨h1,-⟩:=hd;obtain⟨a,b,c⟩:=Qdw h1 ok.1 ok.2.2 hg;have h2:2<=u.2.length:=h2.resolve_left oM;have I:=ok.1.2.1;exact⟨⟨h2,oM,a⟩,show 1<=u.2.length by omega,hs⟩
 |gone hg hd h0=>trivial
 | down hg hd=>
   obtain⟨a,b,c⟩:=Qdw hd ok.1 ok.2.2 hg;rename_i h t u;have:=a u (aV.2 rfl);exact⟨this.1,oM,hs⟩
end Go.Proofs.YtdiecmkpbadgjaaGreatDoor
