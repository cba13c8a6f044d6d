/- What the theorem needs of the texts Mend2, Without, Del, Is, Sbs, OvMem, OvStep, OvGet, MeetO, OvStepW, OvPut: no condition of its own. -/
import Derived.Deep.CutBlock
import Derived.Test.YtdiecmkpbadgjaaGreatDoorPld
set_option linter.unusedVariables false
set_option linter.unusedSimpArgs false
set_option linter.unnecessarySimpa false
set_option maxRecDepth 100000
set_option maxHeartbeats 4000000
namespace Go.Proofs.YtdiecmkpbadgjaaGreatDoor
open Go.Proofs.Tryz
open Go.RowKit
def Qbi(F:Nat->Prop)(base h:Nat)(s:Sl)(ks:List (PT h))(i:Nat)(w:World)(e:Ending)(w':World):Prop:=
 ∃(s':Sl) (ks':List (PT h)),e=.returned (.slice s'.a ks'.length s'.c)/\w'.ownsRow base 46 1 (.slice s'.a ks'.length s'.c) ks'.length (ptrs h ks')/\Qsu w.heap.size h ks i ks'/\(∀u∈ks',IsN w' (Up F w w') h u)/\St (λb=>s.row=some b) w w'
structure Qi5(w:World)(F:Nat->Prop)(base h:Nat)(s:Sl)(ks:List (PT h))(i:Nat)(l r:PT h):Prop where
 own:w.ownsRow base 46 1 (.slice s.a ks.length s.c) ks.length (ptrs h ks)
 base:base<=w.heap.size
 lt:∀b,F b->b<w.heap.size/\s.row≠some b
 isn:∀k∈ks,IsN w F h k
 ok:∀k∈ks,OkT h k/\3<=size h k
 hl:ks[i-1]? = some l
 hr:ks[i-1+1]? = some r
 sum:size h l+size h r<=11
 sorted:Sorted (ks.flatMap (ents h))
 few:(ks.flatMap (ents h)).length<=1000000
 n8:ks.length<=8
 hh:h<=1000000
variable{h j:Nat}
theorem Qd3{ks:List (PT h)}{l r:PT h}(I:Sorted (ks.flatMap (ents h)))(Z:ks[j]? = some l)(N:ks[j+1]? = some r):Sorted (ents h l++ents h r):=by
 rw[QiU Z N]at I;simp only[List.flatMap_append,List.flatMap_cons]at I;have h2:=(Qck I).2.1;rw[<-aN]at h2;exact(Qck h2).1
theorem QqH{ks:List (PT h)}{l r:PT h}(N:ks[j]? = some l)(I:ks[j+1]? = some r):(ents h l).length+(ents h r).length<=(ks.flatMap (ents h)).length:=by
 conv=>rhs;rw[QiU N I]
 simp only[List.flatMap_append,List.flatMap_cons,List.length_append];omega
theorem QeU{α:Type}{ks:List α}{l r:α}(I:ks[j]? = some l)(N:ks[j+1]? = some r)(a b:α):(ks.set j a).set (j+1) b=ks.take j++[a,b]++ks.drop (j+2):=by
 have h1:=(ae.1 I).1;have h2:=(ae.1 N).1
 conv=>lhs;rw[QiU I N]
 rw[du _ _ (by rw[au];omega),au,bT oM,cH,ao,du _ _ (by rw[au];omega),au,bT oM,show j+1-j=1 from oM];simp
theorem QdX{α:Type}{ks:List α}{l r:α}(N:ks[j]? = some l)(hr:ks[j+1]? = some r)(a:α):(ks.set j a).take (j+1)++(ks.set j a).drop (j+2)=ks.take j++[a]++ks.drop (j+2):=by
 have h1:=(ae.1 N).1;rw[bW,dY h1];have I:(ks.take j++[a]).length=j+1:=by simp;omega
 have Z:ks.take j++a::ks.drop (j+1)=(ks.take j++[a])++ks.drop (j+1):=sM
 rw[Z,aZ oM,aV oM,show j+2=(ks.take j++[a]).length+1 from oM,cS,List.drop_drop,I]
variable{w:World}
theorem QiO{A B e size n:Nat}{v:Value}{xs:List Value}(h:w.ownsRow B e size v n xs)(N:A<=B):w.ownsRow A e size v n xs:=by
 refine⟨h.1,?_⟩;rcases h.2 with hl |⟨g,cap,I,hv,Z,r⟩
 .exact .inl hl
 exact .inr ⟨g,cap,I,hv,am N Z,r⟩
variable{A B:Nat}{s:Sl}{xs:List LE}
theorem OE.base(h:OE w B s xs)(I:A<=B):OE w A s xs:=⟨QiO h.own I,h.vals.mono λi hi=>⟨⟨Nat.le_trans I hi.1.1,hi.1.2⟩,hi.2⟩,h.few⟩
variable{F:Nat->Prop}
theorem Qnw{base:Nat}{ks:List (PT (0))}{l r:PT (0)}(hm:Qi5 w F base (0) s ks (0) l r) :
  Calls prog 111 #[.slice s.a ks.length s.c,.int .i64 0] w (Qbi F base (0) s ks (0) w):=by
 have hj:1<ks.length:=(ae.1 hm.hr).1;obtain⟨g,cap,rfl,j1,j0,j3,a6⟩:=QaJ hm.own oM;have N:=hm.own;have HM:=hY hm;have b6:ks[0]? = some l:=hm.hl;have c4:ks[1]? = some r:=hm.hr;have cc:∀q u,(ptrs (0) ks)[q]? = some u->w.cell? ⟨g,q,none⟩=some u:=λq u hq=>by
  have:=N.cells (g:=g) rfl q u hq;rwa[Qbc,aC]at this
 have cl:w.cell? ⟨g,0,none⟩=some (ptr (0) l):=cc 0 _ (by rw[ptrs,aq,b6];rfl);have cr:w.cell? ⟨g,1,none⟩=some (ptr (0) r):=cc (1) _ (by rw[ptrs,aq,c4];rfl);have e7:=ak b6;have g6:=ak c4;have i1:=a6.lt;have i9:=hm.n8;have i7:(0:Int)<(ks.length:Int):=oM
 have i8:(1:Int)<(ks.length:Int):=oM
 have hz:True:=trivial;obtain⟨g7,a1,a2,g8⟩:=Ye (λW (hW:Agree F w W)=>QaC ((hm.isn l e7).agree hW)) b6 c4 a6.frozen;clear N cc a6 hm b6 c4 e7 g6;go_in;go_wp2_with fail;go_quiet (fail);go_wp2_with fail;have a4:Ext w (w.drewN nq):=(fr w).drewN nq;refine(g7.o _ (fH w nq)).mono ?_;rintro e w0 ⟨rfl,rfl⟩;generalize w.drewN nq=W at *;clear cl cr;have d0:=Qa5 (w:=W) ((((HM.o.isn l (ak a1.o)).agree (a4.agree λb I=>(HM.o.lt b I).1))).mono λb I=>ab (HM.o.lt b I).1 a4.size);have c6:∀W',Ext W W'->Calls prog 76 #[ptr 0 r] W' (QaU (ents 0 r) W'):=λW' f9=>Qa5 ((((HM.o.isn r (ak a2.o)).agree ((a4.trans f9).agree λb I=>(HM.o.lt b I).1))).mono λb I=>ab (HM.o.lt b I).1 (a4.trans f9).size)
 obtain⟨g9,f0⟩:=Yb c6 a4;clear c6 a4;go_wp2_with fail;refine d0.mono ?_;intro e w1 hp;obtain⟨sx,xs,rfl,e6,f4,d7⟩:=hp;obtain⟨b9,b8,f5⟩:=Yc e6 f4 d7;have e4:=g9.o w1 d7;clear d0 e6 f4 d7;go_wp2_with fail;refine e4.mono ?_;intro e w2 hp;obtain⟨sy,ys,rfl,a8,b4,a5⟩:=hp;have c0:∀b,sx.row=some b->W.heap.size<=b/\b<w1.heap.size:=λb I=>Qad b8.o.own I
 have c1:∀b,sy.row=some b->w1.heap.size<=b/\b<w2.heap.size:=λb I=>Qad b4.own I
 have f8:=f5.o.size;have g3:=a5.size;have c8:=b8.o.ext a5;have c7:OE w2 W.heap.size sy ys:=b4.base f8
 have e8:xs.length≤8:=by have:=(HM.o.ok l (ak a1.o)).1;have e1:xs.length=l.2.length:=by rw [show l.2=ents 0 l from rfl,←b9.o,ar]
                         rw[e1];exact this
 have f7:ys.length≤8:=by have:=(HM.o.ok r (ak a2.o)).1;have e1:ys.length=r.2.length:=by rw [show r.2=ents 0 r from rfl,←a8,ar]
                         rw[e1];exact this
 have c9:xs.length+ys.length<=11:=by
  have e1:xs.length=size 0 l:=by rw[show size 0 l=(ents 0 l).length from rfl,<-b9.o,ar]
  have e2:ys.length=size 0 r:=by rw[show size 0 r=(ents 0 r).length from rfl,<-a8,ar]
  rw[e1,e2];exact HM.o.sum
 have b0:Qbv (xs++ys):=Qc0 (by rw[aI,b9.o,a8];exact Qd3 HM.o.sorted a1.o a2.o);have f2:=Qka c8 c7 (am f8 g3) (λb I i5=>by have:=c0 b I;have:=c1 b i5;omega)
  (λx hx=>⟨((b8.o.vals x hx).1.agree (a5.agree λb I=>I.1.2)).mono λb I=>⟨Nat.lt_of_lt_of_le I.1.2 g3,λh=>h.elim (λh=>I.2 h) (λh=>by have:=c1 b h;have:=I.1.2;omega)⟩,(b8.o.vals x hx).2⟩)
  (λx hx=>⟨(b4.vals x hx).1.mono λb I=>⟨I.1.2,λh=>h.elim (λh=>by have:=c0 b h;have:=I.1.1;omega) (λh=>I.2 h)⟩,(b4.vals x hx).2⟩)
  b0 e8 f7 c9 (l:=l) (r:=r) b9.o a8
 have g4:=f0.o.trans (f5.o.trans a5);obtain⟨d4,i0,i2⟩:=Yc g4 c0 c1;have j2:=f0.o.size;clear e4 a8 b4 a5 c0 c1 c8 c7 b0 e8 f7 c9 g4;go_wp2_with fail;refine f2.mono ?_;rintro e w3 ⟨⟨ts,rfl,hP,hI⟩,f6⟩;have f3:Yd (Ext w w3/\Qeh w.heap.size 0 l r ts/\∀u∈ts,IsN w3 (Up F w w3) 0 u):=hY ⟨d4.o.step f6 (λb I=>I.elim (λh=>by have:=i0.o b h;omega) (λh=>by have:=i2.o b h;omega)),hP.mono (d4.o.size),λu hu=>(hI u hu).mono λi hi=>hi.elim (λh=>h.elim) λh=>.inr ⟨Nat.le_trans d4.o.size h.1,h.2⟩⟩;clear f2 hP hI f6;obtain⟨b5,hP,hI⟩:=f3.o;have a3:w3.ownsRow base 46 1 (.slice (some ⟨g,0,none⟩) ks.length cap) ks.length (ptrs (0) ks):=Qab (s:=⟨some ⟨g,0,none⟩,cap⟩) HM.o.own (b5.agree (F:=Lt w.heap.size) λ_ h=>h) λb I=>(Qad HM.o.own I).2
 have i6:∀o,w3.frozen? ⟨g,o,none⟩=false:=λo=>(b5.frozen i1).trans (g8.o o)
 have d8:∀q u,(ptrs (0) ks)[q]? = some u->w3.cell? ⟨g,q,none⟩=some u:=λq u hq=>by
  have:=a3.cells (g:=g) rfl q u hq;rwa[Qbc,aC]at this
 have dl:w3.cell? ⟨g,0,none⟩=some (ptr (0) l):=d8 0 _ (by rw[ptrs,aq,a1.o];rfl);have dr:w3.cell? ⟨g,1,none⟩=some (ptr (0) r):=d8 (1) _ (by rw[ptrs,aq,a2.o];rfl);have f1:0<ks.length:=oM
 obtain⟨a7,d5,HP,HI⟩:=Ye a3 b5 hP hI;have a0:=hP.len;have g0:∀W' x,F x\/(w.heap.size<=x/\x<W')->x≠g:=λW' x hx e=>by
  subst e;rcases hx with h|h
  .exact (HM.o.lt x h).2 rfl
  omega
 have c3:∀x,F x->x<w.heap.size:=λx hx=>(HM.o.lt x hx).1
 have g5:∀k∈ks,IsN w3 (Up F w w3) (0) k:=λk hk=>((HM.o.isn k hk).agree (b5.agree c3)).mono λi hi=>.inl hi
 obtain⟨b7,c2⟩:=Yb g5 g0;clear a3 d8 b5 hP hI g5 g0;rcases a0 with a0|a0
 ·obtain ⟨a,rfl⟩:=ct.1 a0
  rw[show two (0) [a]=Ending.returned (.tuple #[ptr (0) a,.pointer none])from rfl];have Z:∀w5,Wr (w3.setCell ⟨g,0,none⟩ (ptr (0) a)) w5 (some g)->w5.ownsRow base 46 1 (.slice (some ⟨g,0,none⟩) (ks.length-1) cap) (ks.length-1) (((ptrs (0) ks).set 0 (ptr (0) a)).take ((1)*1)++((ptrs (0) ks).set 0 (ptr (0) a)).drop ((1+1)*1))->
    Qbi F base (0) ⟨some ⟨g,0,none⟩,cap⟩ ks (0) w (.returned (.slice (some ⟨g,0,none⟩) (ks.length-1) cap)) w5:=λw5 e3 N=>by
   have hz:w3.heap.size<=w5.heap.size:=by have:=e3.grown.size;rwa[ed]at this
   have d6:Agree (Up F w w3) w3 w5:=(fv w3 ⟨g,0,none⟩ _ (λh=>c2.o _ g h rfl)).trans (e3.agree (λi hi=>by rw[ed];exact hi.elim (λh=>ab (c3 i h) d5.o.size) λh=>h.2) (λk hk h=>by cases hk;exact c2.o _ g h rfl));have i4:∀i,Up F w w3 i->Up F w w5 i:=λi hi=>hi.imp_right λh=>⟨h.1,ab h.2 hz⟩
   have e0:(ptrs (0) ks).set 0 (ptr (0) a)=ptrs (0) (ks.set 0 a):=by rw[ptrs,ptrs,bK]
   have e1:((ptrs (0) ks).set 0 (ptr (0) a)).take ((1)*1)++((ptrs (0) ks).set 0 (ptr (0) a)).drop ((1+1)*1)=ptrs (0) (ks.take 0++[a]++ks.drop (0+2)):=by
    rw[e0,cd,cd,<-Qcr,<-QcW,<-Qdb,QdX a1.o a2.o]
   have e2:(ks.take 0++[a]++ks.drop (0+2)).length=ks.length-1:=by simp only[List.length_append,List.length_take,List.length_drop,List.length_cons,List.length_nil];omega
   rw[e1]at N;refine⟨⟨some ⟨g,0,none⟩,cap⟩,ks.take 0++[a]++ks.drop (0+2),by rw[e2],by rw[e2];exact N,⟨l,r,[a],a1.o,a2.o,HP.o,rfl⟩,λu hu=>?_,(((d5.o.st (λb=>(⟨some ⟨g,0,none⟩,cap⟩:Sl).row=some b)).set (p:=⟨g,0,none⟩) (.inr rfl) _).trans (e3.st λi hi=>hi))⟩;refine IsN.mono i4 (IsN.agree d6 ?_);rcases aB.1 hu with hu|hu
   ·rcases aB.1 hu with hu | hu
    .exact b7.o u (aP hu)
    exact HI.o u hu
   exact b7.o u (aD hu)
  have hd:=Qf2 (s:=⟨some ⟨g,0,none⟩,cap⟩) (n:=ks.length) (xs:=(ptrs (0) ks).set 0 (ptr (0) a)) (i:=1) (Qbt a7.o f1 (ptr (0) a)) oM oM (λu hu=>by
   rcases bB hu with hu|rfl
   .exact QbF (0) ks u hu
   rfl)
  have q1:((1:Nat):Int)=(1:Int):=oM
  have q2:(1:Int)+1=(2:Int):=oM
  rw[q1,q2]at hd;obtain⟨HD,a9⟩:=Yb hd Z;clear hd Z q1 q2 c3;go_wp2_with fail;refine HD.o.mono ?_;rintro e w5 ⟨rfl,b3,d3⟩;have i3:=hY (a9.o w5 d3 b3);clear b3 d3;go_wp2_with fail;go_ret;exact i3.o
 obtain⟨a,b,rfl⟩:∃a b,ts=[a,b]:=by
  match ts,a0 with
  |[a,b],_=>exact⟨a,b,rfl⟩
 rw[show two (0) [a,b]=Ending.returned (.tuple #[ptr (0) a,ptr (0) b])from rfl];have Z:Qbi F base (0) ⟨some ⟨g,0,none⟩,cap⟩ ks (0) w (.returned (.slice (some ⟨g,0,none⟩) ks.length cap)) ((w3.setCell ⟨g,0,none⟩ (ptr (0) a)).setCell ⟨g,1,none⟩ (ptr (0) b)):=by
  have d6:Agree (Up F w w3) w3 ((w3.setCell ⟨g,0,none⟩ (ptr (0) a)).setCell ⟨g,1,none⟩ (ptr (0) b)):=(fv w3 ⟨g,0,none⟩ _ (λh=>c2.o _ g h rfl)).trans (fv _ ⟨g,1,none⟩ _ (λh=>c2.o _ g h rfl));have e0:((ptrs (0) ks).set 0 (ptr (0) a)).set (1) (ptr (0) b)=ptrs (0) ((ks.set 0 a).set (1) b):=by rw[ptrs,ptrs,bK,bK]
  have e2:(ks.take 0++[a,b]++ks.drop (0+2)).length=ks.length:=by simp only[List.length_append,List.length_take,List.length_drop,List.length_cons,List.length_nil];omega
  have N:=Qbt (Qbt a7.o f1 (ptr (0) a)) (i:=1) oM (ptr (0) b);rw[e0,QeU a1.o a2.o]at N;refine⟨⟨some ⟨g,0,none⟩,cap⟩,ks.take 0++[a,b]++ks.drop (0+2),by rw[e2],by rw[e2];exact N,⟨l,r,[a,b],a1.o,a2.o,HP.o,rfl⟩,λu hu=>?_,(((d5.o.st (λb=>(⟨some ⟨g,0,none⟩,cap⟩:Sl).row=some b)).set (p:=⟨g,0,none⟩) (.inr rfl) _).set (p:=⟨g,1,none⟩) (.inr rfl) _)⟩;refine IsN.mono (λi hi=>hi.imp_right λh=>⟨h.1,by simpa using h.2⟩) (IsN.agree d6 ?_);rcases aB.1 hu with hu|hu
  ·rcases aB.1 hu with hu | hu
   .exact b7.o u (aP hu)
   exact HI.o u hu
  exact b7.o u (aD hu)
 have a9:=hY Z;clear Z c3;go_wp2_with fail;go_ret;exact a9.o
theorem Qnx{base j:Nat}{ks:List (PT (0))}{l r:PT (0)}(hm:Qi5 w F base (0) s ks (j+1) l r) :
  Calls prog 111 #[.slice s.a ks.length s.c,.int .i64 ((j:Int)+1)] w (Qbi F base (0) s ks (j+1) w):=by
 have hj:j+1<ks.length:=(ae.1 hm.hr).1;obtain⟨g,cap,rfl,j7,j1,j3,a6⟩:=QaJ hm.own oM;have N:=hm.own;have HM:=hY hm;have b6:ks[j]? = some l:=hm.hl;have c1:ks[j+1]? = some r:=hm.hr;have cc:∀q u,(ptrs (0) ks)[q]? = some u->w.cell? ⟨g,q,none⟩=some u:=λq u hq=>by
  have:=N.cells (g:=g) rfl q u hq;rwa[Qbc,aC]at this
 have cl:w.cell? ⟨g,j,none⟩=some (ptr (0) l):=cc j _ (by rw[ptrs,aq,b6];rfl);have cr:w.cell? ⟨g,j+1,none⟩=some (ptr (0) r):=cc (j+1) _ (by rw[ptrs,aq,c1];rfl);have f8:=ak b6;have i2:=ak c1;have i5:=a6.lt;have j0:=hm.n8;have j5:(j:Int)<(ks.length:Int):=oM
 have j6:(j:Int)+1<(ks.length:Int):=oM
 have i8:(0:Int)<=(j:Int):=oM
 have i9:(0:Int)<=(j:Int)+1:=oM
 have j4:IntKind.i64.wrap ((j:Int)+1)=(j:Int)+1:=by rw[ej];omega
 have i7:((j:Int)+1).toNat=j+1:=oM
 have hz:True:=trivial;obtain⟨g6,Z,a0,i3⟩:=Ye (λW (hW:Agree F w W)=>QaC ((hm.isn l f8).agree hW)) b6 c1 a6.frozen;clear N cc a6 hm b6 c1 f8 i2;go_in;go_wp2_with fail;go_quiet (fail);go_wp2_with fail;have a4:Ext w (w.drewN nq):=(fr w).drewN nq;refine(g6.o _ (fH w nq)).mono ?_;rintro e w0 ⟨rfl,rfl⟩;generalize w.drewN nq=W at *;clear cl cr;have d0:=Qa5 (w:=W) ((((HM.o.isn l (ak Z.o)).agree (a4.agree λb I=>(HM.o.lt b I).1))).mono λb I=>ab (HM.o.lt b I).1 a4.size);have c6:∀W',Ext W W'->Calls prog 76 #[ptr 0 r] W' (QaU (ents 0 r) W'):=λW' g4=>Qa5 ((((HM.o.isn r (ak a0.o)).agree ((a4.trans g4).agree λb I=>(HM.o.lt b I).1))).mono λb I=>ab (HM.o.lt b I).1 (a4.trans g4).size)
 obtain⟨g7,e6⟩:=Yb c6 a4;clear c6 a4;go_wp2_with fail;refine d0.mono ?_;intro e w1 hp;obtain⟨sx,xs,rfl,f7,f0,d7⟩:=hp;obtain⟨b8,c2,g0⟩:=Yc f7 f0 d7;have f6:=g7.o w1 d7;clear d0 f7 f0 d7;go_wp2_with fail;refine f6.mono ?_;intro e w2 hp;obtain⟨sy,ys,rfl,a8,b3,a5⟩:=hp;have b9:∀b,sx.row=some b->W.heap.size<=b/\b<w1.heap.size:=λb I=>Qad c2.o.own I
 have c3:∀b,sy.row=some b->w1.heap.size<=b/\b<w2.heap.size:=λb I=>Qad b3.own I
 have f2:=g0.o.size;have f4:=a5.size;have c8:=c2.o.ext a5;have c7:OE w2 W.heap.size sy ys:=b3.base f2
 have e4:xs.length≤8:=by have:=(HM.o.ok l (ak Z.o)).1;have e1:xs.length=l.2.length:=by rw [show l.2=ents 0 l from rfl,←b8.o,ar]
                         rw[e1];exact this
 have f1:ys.length≤8:=by have:=(HM.o.ok r (ak a0.o)).1;have e1:ys.length=r.2.length:=by rw [show r.2=ents 0 r from rfl,←a8,ar]
                         rw[e1];exact this
 have c9:xs.length+ys.length<=11:=by
  have e1:xs.length=size 0 l:=by rw[show size 0 l=(ents 0 l).length from rfl,<-b8.o,ar]
  have e2:ys.length=size 0 r:=by rw[show size 0 r=(ents 0 r).length from rfl,<-a8,ar]
  rw[e1,e2];exact HM.o.sum
 have b5:Qbv (xs++ys):=Qc0 (by rw[aI,b8.o,a8];exact Qd3 HM.o.sorted Z.o a0.o);have f9:=Qka c8 c7 (am f2 f4) (λb I i1=>by have:=b9 b I;have:=c3 b i1;omega)
  (λx hx=>⟨((c2.o.vals x hx).1.agree (a5.agree λb I=>I.1.2)).mono λb I=>⟨Nat.lt_of_lt_of_le I.1.2 f4,λh=>h.elim (λh=>I.2 h) (λh=>by have:=c3 b h;have:=I.1.2;omega)⟩,(c2.o.vals x hx).2⟩)
  (λx hx=>⟨(b3.vals x hx).1.mono λb I=>⟨I.1.2,λh=>h.elim (λh=>by have:=b9 b h;have:=I.1.1;omega) (λh=>I.2 h)⟩,(b3.vals x hx).2⟩)
  b5 e4 f1 c9 (l:=l) (r:=r) b8.o a8
 have g5:=e6.o.trans (g0.o.trans a5);obtain⟨d6,i4,g8⟩:=Yc g5 b9 c3;have j2:=e6.o.size;clear f6 a8 b3 a5 b9 c3 c8 c7 b5 e4 f1 c9 g5;go_wp2_with fail;refine f9.mono ?_;rintro e w3 ⟨⟨ts,rfl,hP,hI⟩,g3⟩;have e8:Yd (Ext w w3/\Qeh w.heap.size 0 l r ts/\∀u∈ts,IsN w3 (Up F w w3) 0 u):=hY ⟨d6.o.step g3 (λb I=>I.elim (λh=>by have:=i4.o b h;omega) (λh=>by have:=g8.o b h;omega)),hP.mono (d6.o.size),λu hu=>(hI u hu).mono λi hi=>hi.elim (λh=>h.elim) λh=>.inr ⟨Nat.le_trans d6.o.size h.1,h.2⟩⟩;clear f9 hP hI g3;obtain⟨b4,hP,hI⟩:=e8.o;have a3:w3.ownsRow base 46 1 (.slice (some ⟨g,0,none⟩) ks.length cap) ks.length (ptrs (0) ks):=Qab (s:=⟨some ⟨g,0,none⟩,cap⟩) HM.o.own (b4.agree (F:=Lt w.heap.size) λ_ h=>h) λb I=>(Qad HM.o.own I).2
 have i6:∀o,w3.frozen? ⟨g,o,none⟩=false:=λo=>(b4.frozen i5).trans (i3.o o)
 have d8:∀q u,(ptrs (0) ks)[q]? = some u->w3.cell? ⟨g,q,none⟩=some u:=λq u hq=>by
  have:=a3.cells (g:=g) rfl q u hq;rwa[Qbc,aC]at this
 have dl:w3.cell? ⟨g,j,none⟩=some (ptr (0) l):=d8 j _ (by rw[ptrs,aq,Z.o];rfl);have dr:w3.cell? ⟨g,j+1,none⟩=some (ptr (0) r):=d8 (j+1) _ (by rw[ptrs,aq,a0.o];rfl);have e7:j<ks.length:=oM
 obtain⟨a7,d4,HP,HI⟩:=Ye a3 b4 hP hI;have a2:=hP.len;have f3:∀W' x,F x\/(w.heap.size<=x/\x<W')->x≠g:=λW' x hx e=>by
  subst e;rcases hx with h|h
  .exact (HM.o.lt x h).2 rfl
  omega
 have c4:∀x,F x->x<w.heap.size:=λx hx=>(HM.o.lt x hx).1
 have f5:∀k∈ks,IsN w3 (Up F w w3) (0) k:=λk hk=>((HM.o.isn k hk).agree (b4.agree c4)).mono λi hi=>.inl hi
 obtain⟨b7,c0⟩:=Yb f5 f3;clear a3 d8 b4 hP hI f5 f3;rcases a2 with a2|a2
 ·obtain ⟨a,rfl⟩:=ct.1 a2
  rw[show two (0) [a]=Ending.returned (.tuple #[ptr (0) a,.pointer none])from rfl];have a1:∀w5,Wr (w3.setCell ⟨g,j,none⟩ (ptr (0) a)) w5 (some g)->w5.ownsRow base 46 1 (.slice (some ⟨g,0,none⟩) (ks.length-1) cap) (ks.length-1) (((ptrs (0) ks).set j (ptr (0) a)).take ((j+1)*1)++((ptrs (0) ks).set j (ptr (0) a)).drop ((j+1+1)*1))->
    Qbi F base (0) ⟨some ⟨g,0,none⟩,cap⟩ ks (j+1) w (.returned (.slice (some ⟨g,0,none⟩) (ks.length-1) cap)) w5:=λw5 e3 N=>by
   have hz:w3.heap.size<=w5.heap.size:=by have:=e3.grown.size;rwa[ed]at this
   have d5:Agree (Up F w w3) w3 w5:=(fv w3 ⟨g,j,none⟩ _ (λh=>c0.o _ g h rfl)).trans (e3.agree (λi hi=>by rw[ed];exact hi.elim (λh=>ab (c4 i h) d4.o.size) λh=>h.2) (λk hk h=>by cases hk;exact c0.o _ g h rfl));have i0:∀i,Up F w w3 i->Up F w w5 i:=λi hi=>hi.imp_right λh=>⟨h.1,ab h.2 hz⟩
   have e0:(ptrs (0) ks).set j (ptr (0) a)=ptrs (0) (ks.set j a):=by rw[ptrs,ptrs,bK]
   have e1:((ptrs (0) ks).set j (ptr (0) a)).take ((j+1)*1)++((ptrs (0) ks).set j (ptr (0) a)).drop ((j+1+1)*1)=ptrs (0) (ks.take j++[a]++ks.drop (j+2)):=by
    rw[e0,cd,cd,<-Qcr,<-QcW,<-Qdb,QdX Z.o a0.o]
   have e2:(ks.take j++[a]++ks.drop (j+2)).length=ks.length-1:=by simp only[List.length_append,List.length_take,List.length_drop,List.length_cons,List.length_nil];omega
   rw[e1]at N;refine⟨⟨some ⟨g,0,none⟩,cap⟩,ks.take j++[a]++ks.drop (j+2),by rw[e2],by rw[e2];exact N,⟨l,r,[a],Z.o,a0.o,HP.o,rfl⟩,λu hu=>?_,(((d4.o.st (λb=>(⟨some ⟨g,0,none⟩,cap⟩:Sl).row=some b)).set (p:=⟨g,j,none⟩) (.inr rfl) _).trans (e3.st λi hi=>hi))⟩;refine IsN.mono i0 (IsN.agree d5 ?_);rcases aB.1 hu with hu|hu
   ·rcases aB.1 hu with hu | hu
    .exact b7.o u (aP hu)
    exact HI.o u hu
   exact b7.o u (aD hu)
  have hd:=Qf2 (s:=⟨some ⟨g,0,none⟩,cap⟩) (n:=ks.length) (xs:=(ptrs (0) ks).set j (ptr (0) a)) (i:=j+1) (Qbt a7.o e7 (ptr (0) a)) oM oM (λu hu=>by
   rcases bB hu with hu|rfl
   .exact QbF (0) ks u hu
   rfl)
  have q1:((j+1:Nat):Int)=((j:Int)+1):=oM
  have q2:((j:Int)+1)+1=((j:Int)+2):=oM
  rw[q1,q2]at hd;obtain⟨HD,a9⟩:=Yb hd a1;clear hd a1 q1 q2 c4;go_wp2_with fail;refine HD.o.mono ?_;rintro e w5 ⟨rfl,b0,d3⟩;have g9:=hY (a9.o w5 d3 b0);clear b0 d3;go_wp2_with fail;go_ret;exact g9.o
 obtain⟨a,b,rfl⟩:∃a b,ts=[a,b]:=by
  match ts,a2 with
  |[a,b],_=>exact⟨a,b,rfl⟩
 rw[show two (0) [a,b]=Ending.returned (.tuple #[ptr (0) a,ptr (0) b])from rfl];have a1:Qbi F base (0) ⟨some ⟨g,0,none⟩,cap⟩ ks (j+1) w (.returned (.slice (some ⟨g,0,none⟩) ks.length cap)) ((w3.setCell ⟨g,j,none⟩ (ptr (0) a)).setCell ⟨g,j+1,none⟩ (ptr (0) b)):=by
  have d5:Agree (Up F w w3) w3 ((w3.setCell ⟨g,j,none⟩ (ptr (0) a)).setCell ⟨g,j+1,none⟩ (ptr (0) b)):=(fv w3 ⟨g,j,none⟩ _ (λh=>c0.o _ g h rfl)).trans (fv _ ⟨g,j+1,none⟩ _ (λh=>c0.o _ g h rfl));have e0:((ptrs (0) ks).set j (ptr (0) a)).set (j+1) (ptr (0) b)=ptrs (0) ((ks.set j a).set (j+1) b):=by rw[ptrs,ptrs,bK,bK]
  have e2:(ks.take j++[a,b]++ks.drop (j+2)).length=ks.length:=by simp only[List.length_append,List.length_take,List.length_drop,List.length_cons,List.length_nil];omega
  have N:=Qbt (Qbt a7.o e7 (ptr (0) a)) (i:=j+1) oM (ptr (0) b);rw[e0,QeU Z.o a0.o]at N;refine⟨⟨some ⟨g,0,none⟩,cap⟩,ks.take j++[a,b]++ks.drop (j+2),by rw[e2],by rw[e2];exact N,⟨l,r,[a,b],Z.o,a0.o,HP.o,rfl⟩,λu hu=>?_,(((d4.o.st (λb=>(⟨some ⟨g,0,none⟩,cap⟩:Sl).row=some b)).set (p:=⟨g,j,none⟩) (.inr rfl) _).set (p:=⟨g,j+1,none⟩) (.inr rfl) _)⟩;refine IsN.mono (λi hi=>hi.imp_right λh=>⟨h.1,by simpa using h.2⟩) (IsN.agree d5 ?_);rcases aB.1 hu with hu|hu
  ·rcases aB.1 hu with hu | hu
   .exact b7.o u (aP hu)
   exact HI.o u hu
  exact b7.o u (aD hu)
 have a9:=hY a1;clear a1 c4;go_wp2_with fail;go_ret;exact a9.o
theorem Qnu{base h:Nat}{ks:List (PT (h+1))}{l r:PT (h+1)}(hm:Qi5 w F base (h+1) s ks (0) l r) :
  Calls prog 111 #[.slice s.a ks.length s.c,.int .i64 0] w (Qbi F base (h+1) s ks (0) w):=by
 have hj:1<ks.length:=(ae.1 hm.hr).1;obtain⟨g,cap,rfl,j4,i9,j1,a5⟩:=QaJ hm.own oM;have I:=hm.own;have HM:=hY hm;have b8:ks[0]? = some l:=hm.hl;have c1:ks[1]? = some r:=hm.hr;have cc:∀q u,(ptrs (h+1) ks)[q]? = some u->w.cell? ⟨g,q,none⟩=some u:=λq u hq=>by
  have:=I.cells (g:=g) rfl q u hq;rwa[Qbc,aC]at this
 have cl:w.cell? ⟨g,0,none⟩=some (ptr (h+1) l):=cc 0 _ (by rw[ptrs,aq,b8];rfl);have cr:w.cell? ⟨g,1,none⟩=some (ptr (h+1) r):=cc (1) _ (by rw[ptrs,aq,c1];rfl);have f9:=ak b8;have i1:=ak c1;have i6:=a5.lt;have i8:=hm.n8;have j2:(0:Int)<(ks.length:Int):=oM
 have j3:(1:Int)<(ks.length:Int):=oM
 have hz:(((h:Int)+1)==0)=false:=dW.2 oM;obtain⟨g6,Z,a0,i3⟩:=Ye (λW (hW:Agree F w W)=>QaC ((hm.isn l f9).agree hW)) b8 c1 a5.frozen;clear I cc a5 hm b8 c1 f9 i1;go_in;go_wp2_with fail;go_quiet (fail);go_wp2_with fail;have e3:Ext w (w.drewN nq):=(fr w).drewN nq;refine(g6.o _ (fH w nq)).mono ?_;rintro e w0 ⟨rfl,rfl⟩;generalize w.drewN nq=W at *;clear cl cr;have d6:∀W',Ext W W'->∀x,x∈ks->Calls prog 67 #[ptr (h+1) x] W' (Qet 46 x.2.length (ptrs h x.2) W'):=λW' i5 x N=>Qb9 ((HM.o.isn x N).agree ((e3.trans i5).agree λb hb=>(HM.o.lt b hb).1)) (by have:=(HM.o.ok x N).1.2.1;omega)
 have c8:=d6 W (fr W) l (ak Z.o);obtain⟨i2,f0⟩:=Yb d6 e3;clear d6 e3;go_wp2_with fail;refine c8.mono ?_;rintro e w1 ⟨sx,rfl,f3,e4⟩;obtain⟨g0,g4⟩:=Yb f3 e4;have f8:=i2.o w1 e4 r (ak a0.o);clear c8 f3 e4;go_wp2_with fail;refine f8.mono ?_;rintro e w2 ⟨sy,rfl,d5,b7⟩;have a7:∀b,sx.row=some b->W<=b/\b<w1:=λb hb=>Qad g0.o hb
 have c2:∀b,sy.row=some b->w1<=b/\b<w2:=λb hb=>Qad d5 hb
 have f4:=g4.o.size;have g7:=b7.size;have j0:=f0.o.size;have c7:w2.ownsRow W.heap.size 46 1 (.slice sx.a l.2.length sx.c) l.2.length (ptrs h l.2):=Qab g0.o (b7.agree (F:=Lt w1) λ_ h=>h) λb hb=>(a7 b hb).2
 have c6:w2.ownsRow W.heap.size 46 1 (.slice sy.a r.2.length sy.c) r.2.length (ptrs h r.2):=QiO d5 f4;have b6:=HM.o.ok l (ak Z.o);have b0:=HM.o.ok r (ak a0.o);have c4:=f0.o.trans (g4.o.trans b7);have f6:=Qd3 HM.o.sorted Z.o a0.o;have e8:=QqH (ks:=ks) Z.o a0.o;have b5:∀x∈l.2++r.2,OkT h x/\4<=size h x/\IsN w F h x:=λx N=>by
  rcases aB.1 N with N|N
  .exact ⟨(b6.1.2.2 x N).1,(b6.1.2.2 x N).2,(HM.o.isn l (ak Z.o)).2.choose_spec.2.2 x N⟩
  exact⟨(b0.1.2.2 x N).1,(b0.1.2.2 x N).2,(HM.o.isn r (ak a0.o)).2.choose_spec.2.2 x N⟩
 have a8:∀x∈l.2++r.2,0<(ents h x).length:=λx N=>Qbk h x (b5 x N).1 (by have:=(b5 x N).2.1;omega)
 have d0:Sorted ((l.2++r.2).flatMap (ents h)):=by rw[aG];exact f6
 have a4:Kids w2 F h (l.2++r.2):=⟨λb hb=>ab (HM.o.lt b hb).1 c4.size,λx N=>(b5 x N).2.2.agree (c4.agree λb hb=>(HM.o.lt b hb).1),QdI d0 a8,a8,λx N=>by have:=Qdf (b5 x N).1;omega,by
  unfold cnt;rw[aG,aj];have h1:(ents (h+1) l).length+(ents (h+1) r).length<=1000000:=am e8 HM.o.few;have h2:(l.2.flatMap (ents h)).length=(ents (h+1) l).length:=rfl;have h3:(r.2.flatMap (ents h)).length=(ents (h+1) r).length:=rfl;omega,by have:=HM.o.hh;omega⟩
 have g3:=Qkc (F:=F) (l:=l) (r:=r) c7 c6 (am f4 g7) (λb hb d7=>by have:=a7 b hb;have:=c2 b d7;omega)
  (λb hb d7=>by
    have:=(HM.o.lt b hb).1;rcases d7 with h|h
    .have:=a7 b h;omega
    have:=c2 b h;omega) a4 b6.2 b0.2 b6.1.2.1 b0.1.2.1 HM.o.sum
 obtain⟨d8,i4,g8⟩:=Yc c4 a7 c2;clear f8 d5 b7 a7 c2 c7 c6 c4 f6 e8 b5 a8 d0 a4 b6 b0;go_wp2_with fail;refine g3.mono ?_;rintro e w3 ⟨⟨ts,rfl,hP,hI⟩,g5⟩;have f2:Yd (Ext w w3/\Qeh w.heap.size (h+1) l r ts/\∀u∈ts,IsN w3 (Up F w w3) (h+1) u):=hY ⟨d8.o.step g5 (λb hb=>hb.elim (λh=>by have:=i4.o b h;omega) (λh=>by have:=g8.o b h;omega)),hP.mono (d8.o.size),λu hu=>(hI u hu).mono λi hi=>hi.imp_right λh=>⟨Nat.le_trans d8.o.size h.1,h.2⟩⟩;clear g3 hP hI g5;obtain⟨b4,hP,hI⟩:=f2.o;have a3:w3.ownsRow base 46 1 (.slice (some ⟨g,0,none⟩) ks.length cap) ks.length (ptrs (h+1) ks):=Qab (s:=⟨some ⟨g,0,none⟩,cap⟩) HM.o.own (b4.agree (F:=Lt w) λ_ h=>h) λb hb=>(Qad HM.o.own hb).2
 have i7:∀o,w3.frozen? ⟨g,o,none⟩=false:=λo=>(b4.frozen i6).trans (i3.o o)
 have e6:∀q u,(ptrs (h+1) ks)[q]? = some u->w3.cell? ⟨g,q,none⟩=some u:=λq u hq=>by
  have:=a3.cells (g:=g) rfl q u hq;rwa[Qbc,aC]at this
 have dl:w3.cell? ⟨g,0,none⟩=some (ptr (h+1) l):=e6 0 _ (by rw[ptrs,aq,Z.o];rfl);have dr:w3.cell? ⟨g,1,none⟩=some (ptr (h+1) r):=e6 (1) _ (by rw[ptrs,aq,a0.o];rfl);have f1:0<ks.length:=oM
 obtain⟨a6,d3,HP,HI⟩:=Ye a3 b4 hP hI;have a2:=hP.len;have f5:∀W' x,F x\/(w<=x/\x<W')->x≠g:=λW' x N e=>by
  subst e;rcases N with h|h
  .exact (HM.o.lt x h).2 rfl
  omega
 have c3:∀x,F x->x<w:=λx N=>(HM.o.lt x N).1
 have f7:∀k∈ks,IsN w3 (Up F w w3) (h+1) k:=λk hk=>((HM.o.isn k hk).agree (b4.agree c3)).mono λi hi=>.inl hi
 obtain⟨b9,c0⟩:=Yb f7 f5;clear a3 e6 b4 hP hI f7 f5;rcases a2 with a2|a2
 ·obtain ⟨a,rfl⟩:=ct.1 a2
  rw[show two (h+1) [a]=Ending.returned (.tuple #[ptr (h+1) a,.pointer none])from rfl];have a1:∀w5,Wr (w3.setCell ⟨g,0,none⟩ (ptr (h+1) a)) w5 (some g)->w5.ownsRow base 46 1 (.slice (some ⟨g,0,none⟩) (ks.length-1) cap) (ks.length-1) (((ptrs (h+1) ks).set 0 (ptr (h+1) a)).take ((1)*1)++((ptrs (h+1) ks).set 0 (ptr (h+1) a)).drop ((1+1)*1))->
    Qbi F base (h+1) ⟨some ⟨g,0,none⟩,cap⟩ ks (0) w (.returned (.slice (some ⟨g,0,none⟩) (ks.length-1) cap)) w5:=λw5 e7 I=>by
   have hz:w3.heap.size<=w5.heap.size:=by have:=e7.grown.size;rwa[ed]at this
   have d4:Agree (Up F w w3) w3 w5:=(fv w3 ⟨g,0,none⟩ _ (λh=>c0.o _ g h rfl)).trans (e7.agree (λi hi=>by rw[ed];exact hi.elim (λh=>ab (c3 i h) d3.o.size) λh=>h.2) (λk hk h=>by cases hk;exact c0.o _ g h rfl));have i0:∀i,Up F w w3 i->Up F w w5 i:=λi hi=>hi.imp_right λh=>⟨h.1,ab h.2 hz⟩
   have e0:(ptrs (h+1) ks).set 0 (ptr (h+1) a)=ptrs (h+1) (ks.set 0 a):=by rw[ptrs,ptrs,bK]
   have e1:((ptrs (h+1) ks).set 0 (ptr (h+1) a)).take ((1)*1)++((ptrs (h+1) ks).set 0 (ptr (h+1) a)).drop ((1+1)*1)=ptrs (h+1) (ks.take 0++[a]++ks.drop (0+2)):=by
    rw[e0,cd,cd,<-Qcr,<-QcW,<-Qdb,QdX Z.o a0.o]
   have e2:(ks.take 0++[a]++ks.drop (0+2)).length=ks.length-1:=by simp only[List.length_append,List.length_take,List.length_drop,List.length_cons,List.length_nil];omega
   rw[e1]at I;refine⟨⟨some ⟨g,0,none⟩,cap⟩,ks.take 0++[a]++ks.drop (0+2),by rw[e2],by rw[e2];exact I,⟨l,r,[a],Z.o,a0.o,HP.o,rfl⟩,λu hu=>?_,(((d3.o.st (λb=>(⟨some ⟨g,0,none⟩,cap⟩:Sl).row=some b)).set (p:=⟨g,0,none⟩) (.inr rfl) _).trans (e7.st λi hi=>hi))⟩;refine IsN.mono i0 (IsN.agree d4 ?_);rcases aB.1 hu with hu|hu
   ·rcases aB.1 hu with hu | hu
    .exact b9.o u (aP hu)
    exact HI.o u hu
   exact b9.o u (aD hu)
  have hd:=Qf2 (s:=⟨some ⟨g,0,none⟩,cap⟩) (n:=ks.length) (xs:=(ptrs (h+1) ks).set 0 (ptr (h+1) a)) (i:=1) (Qbt a6.o f1 (ptr (h+1) a)) oM oM (λu hu=>by
   rcases bB hu with hu|rfl
   .exact QbF (h+1) ks u hu
   rfl)
  have q1:((1:Nat):Int)=(1:Int):=oM
  have q2:(1:Int)+1=(2:Int):=oM
  rw[q1,q2]at hd;obtain⟨HD,a9⟩:=Yb hd a1;clear hd a1 q1 q2 c3;go_wp2_with fail;refine HD.o.mono ?_;rintro e w5 ⟨rfl,b3,c9⟩;have g9:=hY (a9.o w5 c9 b3);clear b3 c9;go_wp2_with fail;go_ret;exact g9.o
 obtain⟨a,b,rfl⟩:∃a b,ts=[a,b]:=by
  match ts,a2 with
  |[a,b],_=>exact⟨a,b,rfl⟩
 rw[show two (h+1) [a,b]=Ending.returned (.tuple #[ptr (h+1) a,ptr (h+1) b])from rfl];have a1:Qbi F base (h+1) ⟨some ⟨g,0,none⟩,cap⟩ ks (0) w (.returned (.slice (some ⟨g,0,none⟩) ks.length cap)) ((w3.setCell ⟨g,0,none⟩ (ptr (h+1) a)).setCell ⟨g,1,none⟩ (ptr (h+1) b)):=by
  have d4:Agree (Up F w w3) w3 ((w3.setCell ⟨g,0,none⟩ (ptr (h+1) a)).setCell ⟨g,1,none⟩ (ptr (h+1) b)):=(fv w3 ⟨g,0,none⟩ _ (λh=>c0.o _ g h rfl)).trans (fv _ ⟨g,1,none⟩ _ (λh=>c0.o _ g h rfl));have e0:((ptrs (h+1) ks).set 0 (ptr (h+1) a)).set (1) (ptr (h+1) b)=ptrs (h+1) ((ks.set 0 a).set (1) b):=by rw[ptrs,ptrs,bK,bK]
  have e2:(ks.take 0++[a,b]++ks.drop (0+2)).length=ks.length:=by simp only[List.length_append,List.length_take,List.length_drop,List.length_cons,List.length_nil];omega
  have I:=Qbt (Qbt a6.o f1 (ptr (h+1) a)) (i:=1) oM (ptr (h+1) b);rw[e0,QeU Z.o a0.o]at I;refine⟨⟨some ⟨g,0,none⟩,cap⟩,ks.take 0++[a,b]++ks.drop (0+2),by rw[e2],by rw[e2];exact I,⟨l,r,[a,b],Z.o,a0.o,HP.o,rfl⟩,λu hu=>?_,(((d3.o.st (λb=>(⟨some ⟨g,0,none⟩,cap⟩:Sl).row=some b)).set (p:=⟨g,0,none⟩) (.inr rfl) _).set (p:=⟨g,1,none⟩) (.inr rfl) _)⟩;refine IsN.mono (λi hi=>hi.imp_right λh=>⟨h.1,by simpa using h.2⟩) (IsN.agree d4 ?_);rcases aB.1 hu with hu|hu
  ·rcases aB.1 hu with hu | hu
   .exact b9.o u (aP hu)
   exact HI.o u hu
  exact b9.o u (aD hu)
 have a9:=hY a1;clear a1 c3;go_wp2_with fail;go_ret;exact a9.o
theorem Qnv{base h j:Nat}{ks:List (PT (h+1))}{l r:PT (h+1)}(hm:Qi5 w F base (h+1) s ks (j+1) l r) :
  Calls prog 111 #[.slice s.a ks.length s.c,.int .i64 ((j:Int)+1)] w (Qbi F base (h+1) s ks (j+1) w):=by
 have hj:j+1<ks.length:=(ae.1 hm.hr).1;obtain⟨g,cap,rfl,j8,j2,j4,a5⟩:=QaJ hm.own oM;have I:=hm.own;have HM:=hY hm;have b8:ks[j]? = some l:=hm.hl;have c1:ks[j+1]? = some r:=hm.hr;have cc:∀q u,(ptrs (h+1) ks)[q]? = some u->w.cell? ⟨g,q,none⟩=some u:=λq u hq=>by
  have:=I.cells (g:=g) rfl q u hq;rwa[Qbc,aC]at this
 have cl:w.cell? ⟨g,j,none⟩=some (ptr (h+1) l):=cc j _ (by rw[ptrs,aq,b8];rfl);have cr:w.cell? ⟨g,j+1,none⟩=some (ptr (h+1) r):=cc (j+1) _ (by rw[ptrs,aq,c1];rfl);have f9:=ak b8;have i1:=ak c1;have i6:=a5.lt;have j1:=hm.n8;have j6:(j:Int)<(ks.length:Int):=oM
 have j7:(j:Int)+1<(ks.length:Int):=oM
 have i9:(0:Int)<=(j:Int):=oM
 have j0:(0:Int)<=(j:Int)+1:=oM
 have j5:IntKind.i64.wrap ((j:Int)+1)=(j:Int)+1:=by rw[ej];omega
 have i8:((j:Int)+1).toNat=j+1:=oM
 have hz:(((h:Int)+1)==0)=false:=dW.2 oM;obtain⟨g6,Z,a0,i3⟩:=Ye (λW (hW:Agree F w W)=>QaC ((hm.isn l f9).agree hW)) b8 c1 a5.frozen;clear I cc a5 hm b8 c1 f9 i1;go_in;go_wp2_with fail;go_quiet (fail);go_wp2_with fail;have e3:Ext w (w.drewN nq):=(fr w).drewN nq;refine(g6.o _ (fH w nq)).mono ?_;rintro e w0 ⟨rfl,rfl⟩;generalize w.drewN nq=W at *;clear cl cr;have d6:∀W',Ext W W'->∀x,x∈ks->Calls prog 67 #[ptr (h+1) x] W' (Qet 46 x.2.length (ptrs h x.2) W'):=λW' i5 x N=>Qb9 ((HM.o.isn x N).agree ((e3.trans i5).agree λb hb=>(HM.o.lt b hb).1)) (by have:=(HM.o.ok x N).1.2.1;omega)
 have c8:=d6 W (fr W) l (ak Z.o);obtain⟨i2,f0⟩:=Yb d6 e3;clear d6 e3;go_wp2_with fail;refine c8.mono ?_;rintro e w1 ⟨sx,rfl,f3,e4⟩;obtain⟨g0,g4⟩:=Yb f3 e4;have f8:=i2.o w1 e4 r (ak a0.o);clear c8 f3 e4;go_wp2_with fail;refine f8.mono ?_;rintro e w2 ⟨sy,rfl,d5,b7⟩;have a7:∀b,sx.row=some b->W<=b/\b<w1:=λb hb=>Qad g0.o hb
 have c2:∀b,sy.row=some b->w1<=b/\b<w2:=λb hb=>Qad d5 hb
 have f4:=g4.o.size;have g7:=b7.size;have j3:=f0.o.size;have c7:w2.ownsRow W.heap.size 46 1 (.slice sx.a l.2.length sx.c) l.2.length (ptrs h l.2):=Qab g0.o (b7.agree (F:=Lt w1) λ_ h=>h) λb hb=>(a7 b hb).2
 have c6:w2.ownsRow W.heap.size 46 1 (.slice sy.a r.2.length sy.c) r.2.length (ptrs h r.2):=QiO d5 f4;have b6:=HM.o.ok l (ak Z.o);have b0:=HM.o.ok r (ak a0.o);have c4:=f0.o.trans (g4.o.trans b7);have f6:=Qd3 HM.o.sorted Z.o a0.o;have e8:=QqH (ks:=ks) Z.o a0.o;have b5:∀x∈l.2++r.2,OkT h x/\4<=size h x/\IsN w F h x:=λx N=>by
  rcases aB.1 N with N|N
  .exact ⟨(b6.1.2.2 x N).1,(b6.1.2.2 x N).2,(HM.o.isn l (ak Z.o)).2.choose_spec.2.2 x N⟩
  exact⟨(b0.1.2.2 x N).1,(b0.1.2.2 x N).2,(HM.o.isn r (ak a0.o)).2.choose_spec.2.2 x N⟩
 have a8:∀x∈l.2++r.2,0<(ents h x).length:=λx N=>Qbk h x (b5 x N).1 (by have:=(b5 x N).2.1;omega)
 have d0:Sorted ((l.2++r.2).flatMap (ents h)):=by rw[aG];exact f6
 have a4:Kids w2 F h (l.2++r.2):=⟨λb hb=>ab (HM.o.lt b hb).1 c4.size,λx N=>(b5 x N).2.2.agree (c4.agree λb hb=>(HM.o.lt b hb).1),QdI d0 a8,a8,λx N=>by have:=Qdf (b5 x N).1;omega,by
  unfold cnt;rw[aG,aj];have h1:(ents (h+1) l).length+(ents (h+1) r).length<=1000000:=am e8 HM.o.few;have h2:(l.2.flatMap (ents h)).length=(ents (h+1) l).length:=rfl;have h3:(r.2.flatMap (ents h)).length=(ents (h+1) r).length:=rfl;omega,by have:=HM.o.hh;omega⟩
 have g3:=Qkc (F:=F) (l:=l) (r:=r) c7 c6 (am f4 g7) (λb hb d7=>by have:=a7 b hb;have:=c2 b d7;omega)
  (λb hb d7=>by
    have:=(HM.o.lt b hb).1;rcases d7 with h|h
    .have:=a7 b h;omega
    have:=c2 b h;omega) a4 b6.2 b0.2 b6.1.2.1 b0.1.2.1 HM.o.sum
 obtain⟨d8,i4,g8⟩:=Yc c4 a7 c2;clear f8 d5 b7 a7 c2 c7 c6 c4 f6 e8 b5 a8 d0 a4 b6 b0;go_wp2_with fail;refine g3.mono ?_;rintro e w3 ⟨⟨ts,rfl,hP,hI⟩,g5⟩;have f2:Yd (Ext w w3/\Qeh w.heap.size (h+1) l r ts/\∀u∈ts,IsN w3 (Up F w w3) (h+1) u):=hY ⟨d8.o.step g5 (λb hb=>hb.elim (λh=>by have:=i4.o b h;omega) (λh=>by have:=g8.o b h;omega)),hP.mono (d8.o.size),λu hu=>(hI u hu).mono λi hi=>hi.imp_right λh=>⟨Nat.le_trans d8.o.size h.1,h.2⟩⟩;clear g3 hP hI g5;obtain⟨b4,hP,hI⟩:=f2.o;have a3:w3.ownsRow base 46 1 (.slice (some ⟨g,0,none⟩) ks.length cap) ks.length (ptrs (h+1) ks):=Qab (s:=⟨some ⟨g,0,none⟩,cap⟩) HM.o.own (b4.agree (F:=Lt w) λ_ h=>h) λb hb=>(Qad HM.o.own hb).2
 have i7:∀o,w3.frozen? ⟨g,o,none⟩=false:=λo=>(b4.frozen i6).trans (i3.o o)
 have e6:∀q u,(ptrs (h+1) ks)[q]? = some u->w3.cell? ⟨g,q,none⟩=some u:=λq u hq=>by
  have:=a3.cells (g:=g) rfl q u hq;rwa[Qbc,aC]at this
 have dl:w3.cell? ⟨g,j,none⟩=some (ptr (h+1) l):=e6 j _ (by rw[ptrs,aq,Z.o];rfl);have dr:w3.cell? ⟨g,j+1,none⟩=some (ptr (h+1) r):=e6 (j+1) _ (by rw[ptrs,aq,a0.o];rfl);have f1:j<ks.length:=oM
 obtain⟨a6,d3,HP,HI⟩:=Ye a3 b4 hP hI;have a2:=hP.len;have f5:∀W' x,F x\/(w<=x/\x<W')->x≠g:=λW' x N e=>by
  subst e;rcases N with h|h
  .exact (HM.o.lt x h).2 rfl
  omega
 have c3:∀x,F x->x<w:=λx N=>(HM.o.lt x N).1
 have f7:∀k∈ks,IsN w3 (Up F w w3) (h+1) k:=λk hk=>((HM.o.isn k hk).agree (b4.agree c3)).mono λi hi=>.inl hi
 obtain⟨b9,c0⟩:=Yb f7 f5;clear a3 e6 b4 hP hI f7 f5;rcases a2 with a2|a2
 ·obtain ⟨a,rfl⟩:=ct.1 a2
  rw[show two (h+1) [a]=Ending.returned (.tuple #[ptr (h+1) a,.pointer none])from rfl];have a1:∀w5,Wr (w3.setCell ⟨g,j,none⟩ (ptr (h+1) a)) w5 (some g)->w5.ownsRow base 46 1 (.slice (some ⟨g,0,none⟩) (ks.length-1) cap) (ks.length-1) (((ptrs (h+1) ks).set j (ptr (h+1) a)).take ((j+1)*1)++((ptrs (h+1) ks).set j (ptr (h+1) a)).drop ((j+1+1)*1))->
    Qbi F base (h+1) ⟨some ⟨g,0,none⟩,cap⟩ ks (j+1) w (.returned (.slice (some ⟨g,0,none⟩) (ks.length-1) cap)) w5:=λw5 e7 I=>by
   have hz:w3.heap.size<=w5.heap.size:=by have:=e7.grown.size;rwa[ed]at this
   have d4:Agree (Up F w w3) w3 w5:=(fv w3 ⟨g,j,none⟩ _ (λh=>c0.o _ g h rfl)).trans (e7.agree (λi hi=>by rw[ed];exact hi.elim (λh=>ab (c3 i h) d3.o.size) λh=>h.2) (λk hk h=>by cases hk;exact c0.o _ g h rfl));have i0:∀i,Up F w w3 i->Up F w w5 i:=λi hi=>hi.imp_right λh=>⟨h.1,ab h.2 hz⟩
   have e0:(ptrs (h+1) ks).set j (ptr (h+1) a)=ptrs (h+1) (ks.set j a):=by rw[ptrs,ptrs,bK]
   have e1:((ptrs (h+1) ks).set j (ptr (h+1) a)).take ((j+1)*1)++((ptrs (h+1) ks).set j (ptr (h+1) a)).drop ((j+1+1)*1)=ptrs (h+1) (ks.take j++[a]++ks.drop (j+2)):=by
    rw[e0,cd,cd,<-Qcr,<-QcW,<-Qdb,QdX Z.o a0.o]
   have e2:(ks.take j++[a]++ks.drop (j+2)).length=ks.length-1:=by simp only[List.length_append,List.length_take,List.length_drop,List.length_cons,List.length_nil];omega
   rw[e1]at I;refine⟨⟨some ⟨g,0,none⟩,cap⟩,ks.take j++[a]++ks.drop (j+2),by rw[e2],by rw[e2];exact I,⟨l,r,[a],Z.o,a0.o,HP.o,rfl⟩,λu hu=>?_,(((d3.o.st (λb=>(⟨some ⟨g,0,none⟩,cap⟩:Sl).row=some b)).set (p:=⟨g,j,none⟩) (.inr rfl) _).trans (e7.st λi hi=>hi))⟩;refine IsN.mono i0 (IsN.agree d4 ?_);rcases aB.1 hu with hu|hu
   ·rcases aB.1 hu with hu | hu
    .exact b9.o u (aP hu)
    exact HI.o u hu
   exact b9.o u (aD hu)
  have hd:=Qf2 (s:=⟨some ⟨g,0,none⟩,cap⟩) (n:=ks.length) (xs:=(ptrs (h+1) ks).set j (ptr (h+1) a)) (i:=j+1) (Qbt a6.o f1 (ptr (h+1) a)) oM oM (λu hu=>by
   rcases bB hu with hu|rfl
   .exact QbF (h+1) ks u hu
   rfl)
  have q1:((j+1:Nat):Int)=((j:Int)+1):=oM
  have q2:((j:Int)+1)+1=((j:Int)+2):=oM
  rw[q1,q2]at hd;obtain⟨HD,a9⟩:=Yb hd a1;clear hd a1 q1 q2 c3;go_wp2_with fail;refine HD.o.mono ?_;rintro e w5 ⟨rfl,b3,c9⟩;have g9:=hY (a9.o w5 c9 b3);clear b3 c9;go_wp2_with fail;go_ret;exact g9.o
 obtain⟨a,b,rfl⟩:∃a b,ts=[a,b]:=by
  match ts,a2 with
  |[a,b],_=>exact⟨a,b,rfl⟩
 rw[show two (h+1) [a,b]=Ending.returned (.tuple #[ptr (h+1) a,ptr (h+1) b])from rfl];have a1:Qbi F base (h+1) ⟨some ⟨g,0,none⟩,cap⟩ ks (j+1) w (.returned (.slice (some ⟨g,0,none⟩) ks.length cap)) ((w3.setCell ⟨g,j,none⟩ (ptr (h+1) a)).setCell ⟨g,j+1,none⟩ (ptr (h+1) b)):=by
  have d4:Agree (Up F w w3) w3 ((w3.setCell ⟨g,j,none⟩ (ptr (h+1) a)).setCell ⟨g,j+1,none⟩ (ptr (h+1) b)):=(fv w3 ⟨g,j,none⟩ _ (λh=>c0.o _ g h rfl)).trans (fv _ ⟨g,j+1,none⟩ _ (λh=>c0.o _ g h rfl));have e0:((ptrs (h+1) ks).set j (ptr (h+1) a)).set (j+1) (ptr (h+1) b)=ptrs (h+1) ((ks.set j a).set (j+1) b):=by rw[ptrs,ptrs,bK,bK]
  have e2:(ks.take j++[a,b]++ks.drop (j+2)).length=ks.length:=by simp only[List.length_append,List.length_take,List.length_drop,List.length_cons,List.length_nil];omega
  have I:=Qbt (Qbt a6.o f1 (ptr (h+1) a)) (i:=j+1) oM (ptr (h+1) b);rw[e0,QeU Z.o a0.o]at I;refine⟨⟨some ⟨g,0,none⟩,cap⟩,ks.take j++[a,b]++ks.drop (j+2),by rw[e2],by rw[e2];exact I,⟨l,r,[a,b],Z.o,a0.o,HP.o,rfl⟩,λu hu=>?_,(((d3.o.st (λb=>(⟨some ⟨g,0,none⟩,cap⟩:Sl).row=some b)).set (p:=⟨g,j,none⟩) (.inr rfl) _).set (p:=⟨g,j+1,none⟩) (.inr rfl) _)⟩;refine IsN.mono (λi hi=>hi.imp_right λh=>⟨h.1,by simpa using h.2⟩) (IsN.agree d4 ?_);rcases aB.1 hu with hu|hu
  ·rcases aB.1 hu with hu | hu
   .exact b9.o u (aP hu)
   exact HI.o u hu
  exact b9.o u (aD hu)
 have a9:=hY a1;clear a1 c3;go_wp2_with fail;go_ret;exact a9.o
theorem QrT{base h i:Nat}{ks:List (PT h)}{l r:PT h}(I:Qi5 w F base h s ks i l r) :
  Calls prog 111 #[.slice s.a ks.length s.c,.int .i64 i] w (Qbi F base h s ks i w):=by
 match h,i,ks,l,r,I with
 |0,0,_,_,_,I=>exact Qnw I
 |0,j+1,_,_,_,I=>exact Qnx I
 |h+1,0,_,_,_,I=>exact Qnu I
 |h+1,j+1,_,_,_,I=>exact Qnv I
def QsU(nv:Value)(es:List Ent)(k:ByteArray)(w:World)(e:Ending)(w':World):Prop:=
 Ext w w'/\((Qaq es k=none/\e=.returned (.tuple #[nv,.bool false]))\/
  ((Qaq es k).isSome=true/\∃u:PT 0,e=.returned (.tuple #[ptr 0 u,.bool true])/\u.2=QbM es k/\w.heap.size<=u.1/\IsN w' (In w.heap.size w'.heap.size) 0 u))
theorem Qke{es:List Ent}(I:Sorted es)(k:ByteArray):decide ((es[Qct es k]?).map Prod.fst=some k)=(Qaq es k).isSome:=by
 rw[Qit I];cases Z:es[Qct es k]? with
 |none=>simp
 |some e=>by_cases N:e.1=k<;>simp[N]
variable{nv:Value}
theorem QdP{es:List Ent}(hp:∃p,nv=.pointer p)(hh:Calls prog 66 #[nv] w λe w'=>e=.returned (.int .i64 0)/\w=w')(he:Calls prog 76 #[nv] w (QaU es w))
  (hs:Sorted es) (h8:es.length<=8) (k:ByteArray):Calls prog 75 #[nv,.string k] w (QsU nv es k w):=by
 obtain⟨pp,rfl⟩:=hp;have HS:=hY hs;clear hs;go_in;go_wp2_with fail;refine hh.mono ?_;rintro e w1 ⟨rfl,rfl⟩;go_wp2_with fail;refine he.mono ?_;intro e w1 hp;obtain⟨s,xs,rfl,Z,ho,b6⟩:=hp;have I:=Qkd (w:=w1) (s:=s) (xs:=xs) (ho.es.mono λi hi=>hi.2) k (by rw[Z];exact HS.o);rw[Z]at I;have b0:xs.length=es.length:=by rw[<-Z,ar]
 obtain⟨c1,HO,b7⟩:=Yc Z ho b6;have c6:xs.length<=8:=oM
 have c4:=hY b0;obtain⟨p,hp⟩:∃p,Qct es k=p:=⟨_,rfl⟩;unfold Qgf at I;rw[Qke HS.o,hp]at I;have HP:=hY hp;clear Z ho b6 he hh b0 hp;cases hg:Qaq es k with
 | none=>
   rw[hg]at I;have HG:=hY hg;clear hg;go_wp2_with fail;refine I.mono ?_;rintro e w2 ⟨rfl,N⟩;have a3:=hY (b7.o.trans N);clear I N;go_wp2_with fail;go_ret2;exact⟨a3.o,.inl ⟨HG.o,rfl⟩⟩
 | some v=>
   rw[hg]at I;have c0:p<xs.length:=by
    have h1:=Qit HS.o k;rw[hg,HP.o]at h1;rcases Nat.lt_or_ge p xs.length with h|h
    .exact h
    rw[aM (by rw[<-c4.o];exact h)]at h1;cases h1
   have b5:QbM es k=es.take p++es.drop (p+1):=by
    have h1:=Qre HS.o k;have h2:=Qke HS.o k;rw[hg]at h2;rw[dY (of_decide_eq_true h2),HP.o]at h1;exact h1
   obtain⟨HG,c3⟩:=Yb hg b5;have c7:IntKind.i64.wrap ((p:Int)+1)=(p:Int)+1:=by rw[ej];omega
   clear hg b5;go_wp2_with fail;refine I.mono ?_;rintro e w2 ⟨rfl,N⟩;have a4:=HO.o.ext N;have hd:=Qrd (i:=p) a4.own oM c0 (QbX xs);obtain⟨a7,a3⟩:=Yb a4 (b7.o.trans N);clear I N a4;go_wp2_with fail;refine hd.mono ?_;rintro e w3 ⟨rfl,a0,a1⟩;have a2:∀i,s.row=some i->w<=i/\i<w2:=λi hi=>Qad a7.o.own hi
   have e1:(QaD xs).take (p*7)++(QaD xs).drop ((p+1)*7)=QaD (xs.take p++xs.drop (p+1)):=by rw[QcS,QcQ,Qcp]
   rw[e1]at a0;have b3:Ext w w3:=a3.o.wr a1 (λi hi=>(a2 i hi).1);have b8:ES w3 (Lt w3) s (xs.take p++xs.drop (p+1)):=QuN (by rw[aj,au,av];omega) ((fD a0).mono λi hi=>hi.2)
    (λx hx=>by
      have b4:x∈xs:=by
       rcases aB.1 hx with hx|hx
       .exact aP hx
       exact aD hx
      exact⟨((a7.o.vals x b4).1.agree (a1.agree (λi hi=>hi.1.2) (λk hk h=>h.2 hk))).mono λi hi=>ab hi.1.2 a1.grown.size,(a7.o.vals x b4).2⟩) (by rw[aj,au,av];omega)
   have a8:(xs.take p++xs.drop (p+1)).map LE.ent=QbM es k:=by rw[aI,de,cO,c1.o,c3.o]
   have a5:=QdM (n:=xs.length-1) b8 (by rw[aj,au,av];omega) (Qc0 (by rw[a8];exact QaN HS.o k)) (by rw[aj,au,av];omega);rw[a8]at a5;have a6:=hY b3;clear hd a0 a1 a2 e1 b3 b8 a8;go_wp2_with fail;refine a5.mono ?_;rintro e w4 ⟨u,rfl,hu,c2,a9,b9⟩;have HU:=hY a9;clear a5 a9;go_wp2_with fail;go_ret2;exact⟨a6.o.trans b9,.inr ⟨by rw[HG.o];rfl,u,rfl,hu,am a6.o.size c2,HU.o.mono λi hi=>⟨Nat.le_trans a6.o.size hi.1,hi.2⟩⟩⟩
def Qow(F:Nat->Prop)(h:Nat)(t:PT h)(k:ByteArray)(w:World)(e:Ending)(w':World):Prop:=
 Ext w w'/\((Qaq (ents h t) k=none/\e=.returned (.tuple #[ptr h t,.bool false]))\/
  ((Qaq (ents h t) k).isSome=true/\∃u:PT h,e=.returned (.tuple #[ptr h u,.bool true])/\Qi3 w.heap.size k h t u/\IsN w' (Up F w w') h u))
def QsV(F:Nat->Prop)(h:Nat)(t:PT (h+1))(k:ByteArray)(w:World)(e:Ending)(w':World):Prop:=
 Ext w w'/\((Qaq (ents (h+1) t) k=none/\e=.returned (.tuple #[ptr (h+1) t,.bool false]))\/
  ((Qaq (ents (h+1) t) k).isSome=true∧∃ ks':List (PT h),QmO w.heap.size k h (Qi3 w.heap.size k h) t.2 ks'∧
    ((∃ u,ks'=[u]∧e=.returned (.tuple #[ptr h u,.bool true])∧IsN w' (Up F w w') h u)∨
     (2<=ks'.length/\∃c:PT (h+1),c.2=ks'/\w.heap.size<=addr (h+1) c/\e=.returned (.tuple #[ptr (h+1) c,.bool true])/\IsN w' (Up F w w') (h+1) c))))
def QsO(F:Nat->Prop)(h:Nat)(ks':List (PT h))(w:World)(e:Ending)(w':World):Prop:=
 Ext w w'/\((∃u,ks'=[u]/\e=.returned (ptr h u)/\IsN w' (Up F w w') h u)\/(2<=ks'.length/\∃c:PT (h+1),c.2=ks'/\w.heap.size<=addr (h+1) c/\e=.returned (ptr (h+1) c)/\IsN w' (Up F w w') (h+1) c))
variable{w6:World}
theorem Qg5{k:ByteArray}{t:PT (h+1)}{s6:Sl}{I:List (PT h)}(hF:∀b,F b->b<w)(ok:OkT (h+1) t)(hs:Sorted (ents (h+1) t))(hc:(ents (h+1) t).length<=1000000)(hh:h+1<1000000)(hg:(Qaq (ents (h+1) t) k).isSome=true)
  (hX:Ext w w6) (Z:w6.ownsRow w.heap.size 46 1 (.slice s6.a I.length s6.c) I.length (ptrs h I)) (hD:QmO w.heap.size k h (Qi3 w.heap.size k h) t.2 I) (hI:∀u∈I,IsN w6 (Up F w w6) h u) :
  Calls prog 54 #[.slice s6.a I.length s6.c] w6 λe w'=>QsO F h I w e w':=by
 obtain⟨h1,h2,h3⟩:=Qdw hD ok hs hg;have a8:=ok.1;have a7:=ok.2.1;by_cases a2:I.length=1
 ·obtain ⟨u,rfl⟩:=ct.1 a2
  refine(Qoh (s:=s6) (k:=u) (fD Z)).mono ?_;rintro e w' ⟨rfl,rfl⟩;exact⟨hX,.inl ⟨u,rfl,rfl,hI u (aT.2 rfl)⟩⟩
 have a1:=hD.ents hs (QbU ok) oM (λx y N hr=>hr.ents (ok.2.2 x N).1 (QaL hs x N));have a3:Sorted (I.flatMap (ents h)):=by rw[a1];exact QaN hs k
 have a0:∀x∈I,0<(ents h x).length:=λx N=>Qbk h x (h1 x N).1 (by have:=(h1 x N).2;omega)
 have hk:Kids w6 (Up F w w6) h I:=⟨λb hb=>hb.elim (λh=>ab (hF b h) hX.size) λh=>h.2,hI,QdI a3 a0,a0,λx N=>by have:=Qdf (h1 x N).1;omega,by
  unfold cnt;rw[a1];have h5:(QbM (t.2.flatMap (ents h)) k).length<=(t.2.flatMap (ents h)).length:=(Qa3 _ k).length_le;have h6:(t.2.flatMap (ents h)).length<=1000000:=hc;omega,oM⟩
 refine(Qcl ((fD Z).mono λi hi=>hi.2) rfl hk oM oM).mono ?_;rintro e w' ⟨c,rfl,a4,a5,a6,N⟩;refine⟨hX.trans N,.inr ⟨oM,c,a4,am hX.size a5,rfl,a6.mono λi hi=>?_⟩⟩;rcases hi with(hi|hi)|hi
 .exact .inl hi
 .exact .inr ⟨hi.1,ab hi.2 N.size⟩
 exact .inr ⟨Nat.le_trans hX.size hi.1,hi.2⟩
theorem QfK{k:ByteArray}
  (ih:∀(w:World) (F:Nat->Prop) (t:PT h),(∀b,F b->b<w)->IsN w F h t->OkT h t->4<=size h t->Sorted (ents h t)->(ents h t).length<=1000000->Calls prog 75 #[ptr h t,.string k] w (Qow F h t k w))
 {t:PT (h+1)} (hF:∀ b,F b→b<w) (hn:IsN w F (h+1) t) (ok:OkT (h+1) t) (hs:Sorted (ents (h+1) t)) (hc:(ents (h+1) t).length≤1000000) :
  Calls prog 75 #[ptr (h+1) t,.string k] w (QsV F h t k w):=by
 have b5:=QbU ok;have hh:h+1<1000000:=ab (QcT (h+1) t ok (by have:=ok.1;show 1<=t.2.length;omega)) hc;obtain⟨I,N,hA,hC⟩:=Qa6 (h:=h) (ks:=t.2) hs b5 (by have:=ok.1;omega) k;have a0:=ak N;have k7:=(ae.1 N).1;have l6:=ok.2.1;have k4:=ok.1;have b9:∀x∈t.2,IsN w F h x:=hn.2.choose_spec.2.2;have c6:(ents h I).length<=1000000:=am (by
  show _<=(t.2.flatMap (ents h)).length;rw[QbI N];simp only[List.flatMap_append,List.flatMap_cons,List.length_append];omega) hc
 have f0:Qaq (ents (h+1) t) k=Qaq (ents h I) k:=Qf3 N hA hC;have a8:∀W,Ext w W->Calls prog 75 #[ptr h I,.string k] W (Qow F h I k W):=λW hW=>
  ih W F I (λb Z=>ab (hF b Z) hW.size) ((b9 I a0).agree (hW.agree hF)) (ok.2.2 I a0).1 (ok.2.2 I a0).2 (QaL hs I a0) c6
 have g7:∀B u,(Qaq (ents (h+1) t) k).isSome=true->Qi3 B k h I u->OkT h u/\size h I<=size h u+1/\size h u<=size h I:=λB u hg hr=>hr.ok (ok.2.2 I a0).1 (ok.2.2 I a0).2 (QaL hs I a0) (by rw[<-f0];exact hg)
 obtain⟨HF,HN,HS,HP,k8,i5,a3⟩:=Yh hF hn hs b5 a8 b9 N;obtain⟨g9,a9,HC,j7⟩:=Ye f0 ok hc g7;have n9:(((h:Int)+1)==0)=false:=dW.2 oM;clear hF hn ok hs hc b5 a8 b9 N hA hC ih c6 f0 g7;go_in;go_wp2_with fail;refine(QaC HN.o).mono ?_;rintro e w1 ⟨rfl,rfl⟩;have c6:=Qb9 HN.o oM;go_wp2_with fail;refine c6.mono ?_;rintro e w1 ⟨s',rfl,b6,d3⟩;have g0:Rd w1 (Lt w1) 1 s' t.2.length (ptrs h t.2):=(fD b6).mono λi hi=>hi.2
 have f2:=Qg3 g0 (λx hx=>(i5.o x hx).agree (d3.agree HF.o)) (λb Z=>ab (HF.o b Z) d3.size) HP.o k HS.o oM;obtain⟨i,hi⟩:∃i,Qaw h t.2 k=i:=⟨_,rfl⟩;rw[hi]at f2 k7;obtain⟨HI,k1,e6,k6⟩:=Ye hi f2 b6 d3;clear hi f2 b6 g0 c6 d3;go_wp2_with fail;refine k1.o.mono ?_;rintro e w2 ⟨rfl,e2⟩;have f5:=k6.o.trans e2;obtain⟨g,cap,rfl,c4,o1,o2,f8⟩:=QaJ e6.o oM;have c9:w2.ownsRow w.heap.size 46 1 (.slice (some ⟨g,0,none⟩) t.2.length cap) t.2.length (ptrs h t.2):=Qab (s:=⟨some ⟨g,0,none⟩,cap⟩) e6.o (e2.agree (F:=Lt w1) λ_ h=>h) λb Z=>(Qad e6.o Z).2
 have k2:w2.cell? ⟨g,i,none⟩=some (ptr h I):=by
  have:=c9.cells (g:=g) rfl i (ptr h I) (by rw[ptrs,aq,<-HI.o,a3.o];rfl);rwa[Qbc,aC]at this
 have l8:(i:Int)<(t.2.length:Int):=oM
 have j9:g<w2:=(Qad (s:=⟨some ⟨g,0,none⟩,cap⟩) c9 rfl).2;have a8:=k8.o w2 f5;obtain⟨i3,b8⟩:=Yb c9 f5;clear e2 c9 f5 f8;go_wp2_with fail;refine a8.mono ?_;rintro e w3 ⟨a2,(⟨hg,rfl⟩ |⟨hg,u,rfl,c8,j5⟩)⟩
 ·have j8:=hY (b8.o.trans a2)
  have HG:=hY hg;clear a2 hg a8;go_wp2_with fail;go_ret2;exact⟨j8.o,.inl ⟨by rw[g9.o];exact HG.o,rfl⟩⟩
 have e8:(Qaq (ents (h+1) t) k).isSome=true:=by rw[g9.o];exact hg
 obtain⟨ou,n7,n4⟩:=j7.o _ u e8 c8;have g3:3<=size h u:=by have:=(a9.o.2.2 I (ak a3.o)).2;omega
 have l9:size h u<=8:=Qdf ou;have l7:=a2.size;have i7:=b8.o.size;have e4:∀b,Up F w2 w3 b->b≠g:=λb Z e=>by
  subst e;rcases Z with Z|Z
  .have:=HF.o _ Z;have c4:w<=b:=c4;omega
  omega
 have a5:w3.ownsRow w.heap.size 46 1 (.slice (some ⟨g,0,none⟩) t.2.length cap) t.2.length (ptrs h t.2):=Qab (s:=⟨some ⟨g,0,none⟩,cap⟩) i3.o (a2.agree (F:=Lt w2) λ_ h=>h) λb Z=>(Qad (s:=⟨some ⟨g,0,none⟩,cap⟩) i3.o Z).2
 have a4:=Qbt a5 (i:=i) oM (ptr h u);have e0:(ptrs h t.2).set i (ptr h u)=ptrs h (t.2.set i u):=by rw[ptrs,ptrs,bK]
 rw[e0]at a4;have k0:w3.cell? ⟨g,i,none⟩=some (ptr h I):=(a2.cell j9).trans k2;have l1:∀o,w3.frozen? ⟨g,o,none⟩=false:=by
  obtain⟨g',g8,e1,-,-,-,d4⟩:=QaJ (s:=⟨some ⟨g,0,none⟩,cap⟩) a5 oM;obtain⟨rfl,rfl⟩:g=g'/\cap=g8:=by simpa using e1
  exact d4.frozen
 have j4:=(b8.o.trans a2).setCell (p:=⟨g,i,none⟩) c4 (ptr h u);have b3:Agree (Up F w2 w3) w3 (w3.setCell ⟨g,i,none⟩ (ptr h u)):=fv w3 ⟨g,i,none⟩ _ (λh=>e4 g h rfl);have f6:∀x∈t.2.set i u,IsN (w3.setCell ⟨g,i,none⟩ (ptr h u)) (Up F w2 w3) h x:=λx hx=>by
  rcases bB hx with hx|rfl
  .exact (((i5.o x hx).agree ((b8.o.trans a2).agree HF.o)).mono λb Z=>.inl Z).agree b3
  exact j5.agree b3
 have g6:=f6 u (List.mem_set oM u);have i4:=Qf8 g6 oM;have i9:(w3.setCell ⟨g,i,none⟩ (ptr h u)).heap.size=w3.heap.size:=sM
 have d6:=c8.mono i7;have N:=a3.o;rw[HI.o]at N;have f9:∀c7,((4<=size h u/\c7=t.2.set i u)\/(size h u<4/\Qsu w.heap.size h (t.2.set i u) i c7))->QmO w.heap.size k h (Qi3 w.heap.size k h) t.2 c7:=λc7 b9=>by
  refine⟨I,u,a3.o,d6,?_⟩;rw[HI.o];exact b9
 have f4:(t.2.set i u).flatMap (ents h)=QbM (t.2.flatMap (ents h)) k:=by
  obtain⟨n2,e3,hA,hC⟩:=Qa6 (h:=h) (ks:=t.2) HS.o HP.o oM k;rw[a3.o]at e3;simp only[Option.some.injEq]at e3;subst e3;rw[HI.o]at hA hC;rw[set_mid N];simp only[List.flatMap_append,List.flatMap_cons];have e1:=c8.ents (a9.o.2.2 I (ak N)).1 (QaL HS.o I (ak N))
  conv=>rhs;rw[QbI N]
  rw[aG,aX,Qik hA,Qgu hC,e1]
 have i2:Sorted ((t.2.set i u).flatMap (ents h)):=by
  rw[f4];exact QaN HS.o k
 have d4:((t.2.set i u).flatMap (ents h)).length<=1000000:=by
  rw[f4];exact am (Qa3 _ k).length_le HC.o
 obtain⟨l0,HU,j1,j6,l3,l2,k5⟩:=Yh d4 i4 f9 j4 a4 f6 i2;obtain⟨b0,l5,l4⟩:=Yc e8 ou e4;have n6:g<w3:=oM
 clear a8 hg c8 j5 e8 ou a5 a4 e0 j4 b3 f6 g6 i4 d6 N f9 f4 i2 d4 a2 e4;go_wp2_with fail;generalize k3:World.setCell _ _ _=W4 at *;refine HU.o.mono ?_;rintro e w5 ⟨rfl,q,rfl⟩;have f7:=j6.o.drewN q;have d8:Agree (Up F w2 w3) W4 (W4.drewN q):=fH W4 q;have i0:(W4.drewN q).ownsRow w.heap.size 46 1 (.slice (some ⟨g,0,none⟩) t.2.length cap) t.2.length (ptrs h (t.2.set i u)):=l3.o;have j0:(W4.drewN q).heap.size=w3.heap.size:=i9;have j3:∀x∈t.2.set i u,IsN (W4.drewN q) (Up F w2 w3) h x:=λx hx=>(l2.o x hx).agree d8
 generalize W4.drewN q=W5 at *;obtain⟨d0,i1,i8,f1⟩:=Ye f7 i0 j3 j0;have a7:(t.2.set i u).length=t.2.length:=by rw[bS]
 clear f7 d8 i0 j3 j0 k0 l1 i9 k3;by_cases h4:size h u<4
 ·have k9:(size h u:Int)<4:=oM
  obtain⟨l,hl⟩:∃l,(t.2.set i u)[i-1]? = some l:=⟨_,ac oM⟩;obtain⟨r,hr⟩:∃r,(t.2.set i u)[i-1+1]? = some r:=⟨_,ac oM⟩;have c1:∀x∈t.2.set i u,OkT h x/\3<=size h x:=λx hx=>by
   rcases bB hx with hx|rfl
   .exact ⟨(a9.o.2.2 x hx).1,by have:=(a9.o.2.2 x hx).2;omega⟩
   exact⟨l5.o,g3⟩
  have d7:size h l+size h r<=11:=by
   have h8:∀x∈t.2.set i u,size h x<=8:=λx hx=>Qdf (c1 x hx).1
   have n8:=h8 l (ak hl);have o0:=h8 r (ak hr);have g4:(t.2.set i u)[i]? = some u:=by rw[cN oM]
   by_cases h0:i=0
   ·subst h0
    rw[g4]at hl;simp only[Option.some.injEq]at hl;subst hl;omega
   rw[show i-1+1=i from oM,g4]at hr;simp only[Option.some.injEq]at hr;subst hr;omega
  have a6:=QrT (w:=W5) (F:=Up F w2 w3) (base:=w) (s:=⟨some ⟨g,0,none⟩,cap⟩) (i:=i) (ks:=t.2.set i u) (l:=l) (r:=r)
   ⟨by rw[a7];exact i1.o,d0.o.size,λb Z=>⟨by rw[f1.o];exact Z.elim (λh=>by have:=HF.o b h;have:=b8.o.size;omega) λh=>h.2,λe=>by simp[Sl.row]at e;exact l4.o b Z e.symm⟩,i8.o,c1,hl,hr,d7,k5.o,by
     have:=l0.o;omega,oM,oM⟩
  rw[a7]at a6;have HM:=hY a6;clear hl hr c1 d7 a6;go_wp2_with fail;refine HM.o.mono ?_;rintro e w6 ⟨s6,d5,rfl,c3,j2,i6,c0⟩;have g5:Ext w w6:=d0.o.step c0 (λb Z=>by simp only[Sl.row,Option.map_some,Option.some.injEq]at Z;have c4:w<=g:=c4;omega);have D:=j1.o d5 (.inr ⟨h4,j2.mono d0.o.size⟩);have b4:∀x∈d5,IsN w6 (Up F w w6) h x:=λx hx=>(i6 x hx).mono λb Z=>by
   have hz:=f1.o;have o3:=c0.size;rcases Z with(Z|Z)|Z
   .exact .inl Z
   .exact .inr ⟨oM,oM⟩
   exact .inr ⟨oM,Z.2⟩
  have a1:=Qg5 HF.o a9.o HS.o HC.o hh b0.o g5 c3 D b4;obtain⟨HD,HE⟩:=Yb D a1;clear c3 j2 i6 c0 g5 D b4 a1;go_wp2_with fail;refine HE.o.mono ?_;rintro e w7 ⟨hx,(⟨v,hv,rfl,c2⟩ |⟨hv,c,f3,e7,rfl,b7⟩)⟩
  ·have H1:=hY hx
   have H2:=hY c2;clear hx c2;go_wp2_with fail;go_ret2;exact⟨H1.o,.inr ⟨b0.o,d5,HD.o,.inl ⟨v,hv,rfl,H2.o⟩⟩⟩
  obtain⟨H1,H2⟩:=Yb hx b7;clear hx b7;go_wp2_with fail;go_ret2;exact⟨H1.o,.inr ⟨b0.o,d5,HD.o,.inr ⟨hv,c,f3,e7,rfl,H2.o⟩⟩⟩
 have k9:¬(size h u:Int)<4:=oM
 have D:=j1.o _ (.inl ⟨oM,rfl⟩);have b4:∀x∈t.2.set i u,IsN W5 (Up F w W5) h x:=λx hx=>(i8.o x hx).mono λb Z=>by
  have hz:=f1.o;rcases Z with Z|Z
  .exact .inl Z
  exact .inr ⟨oM,oM⟩
 have a1:=Qg5 (s6:=⟨some ⟨g,0,none⟩,cap⟩) HF.o a9.o HS.o HC.o hh b0.o d0.o (by rw[a7];exact i1.o) D b4;rw[a7]at a1;obtain⟨HD,HE⟩:=Yb D a1;clear D b4 a1;go_wp2_with fail;refine HE.o.mono ?_;rintro e w7 ⟨hx,(⟨v,hv,rfl,c2⟩ |⟨hv,c,f3,e7,rfl,b7⟩)⟩
 ·have H1:=hY hx
  have H2:=hY c2;clear hx c2;go_wp2_with fail;go_ret2;exact⟨H1.o,.inr ⟨b0.o,_,HD.o,.inl ⟨v,hv,rfl,H2.o⟩⟩⟩
 obtain⟨H1,H2⟩:=Yb hx b7;clear hx b7;go_wp2_with fail;go_ret2;exact⟨H1.o,.inr ⟨b0.o,_,HD.o,.inr ⟨hv,c,f3,e7,rfl,H2.o⟩⟩⟩
theorem Qg4{k:ByteArray}:∀(h:Nat) (w:World) (F:Nat->Prop) (t:PT h),(∀b,F b->b<w)->IsN w F h t->OkT h t->4<=size h t->Sorted (ents h t)->(ents h t).length<=1000000->Calls prog 75 #[ptr h t,.string k] w (Qow F h t k w)
 | 0,w,F,t,hF,hn,ok,h4,hs,hc=>by
   refine(QdP ⟨_,rfl⟩ (QaC hn) (Qa5 (hn.mono hF)) hs (show t.2.length<=8 from ok) k).mono ?_;rintro e w' ⟨Z,(⟨I,rfl⟩ |⟨I,u,rfl,hu,hb,N⟩)⟩
   .exact ⟨Z,.inl ⟨I,rfl⟩⟩
   exact⟨Z,.inr ⟨I,u,rfl,⟨hu,hb⟩,N.mono λi hi=>.inr hi⟩⟩
 | h+1,w,F,t,hF,hn,ok,h4,hs,hc=>by
   refine(QfK (Qg4 (k:=k) h) hF hn ok hs hc).mono ?_;rintro e w' ⟨Z,(⟨I,rfl⟩ |⟨I,a0,hd,h2⟩)⟩
   .exact ⟨Z,.inl ⟨I,rfl⟩⟩
   have h4:4<=t.2.length:=h4;have:=(Qdw hd ok hs I).2.2;rcases h2 with⟨u,rfl,-,-⟩ |⟨-,c,rfl,hb,rfl,N⟩
   .simp only[List.length_cons,List.length_nil]at this;omega
   exact⟨Z,.inr ⟨I,c,rfl,⟨hd,hb⟩,N⟩⟩
def Qox(F:Nat->Prop)(T:RT)(k:ByteArray)(w:World)(e:Ending)(w':World):Prop:=
 Ext w w'/\((Qaq (Qaa T) k=none/\e=.returned (.tuple #[QaK T,.bool false]))\/
  ((Qaq (Qaa T) k).isSome=true∧∃ (h:Nat) (u:PT h),e=.returned (.tuple #[ptr h u,.bool true])∧IsN w' (Up F w w') h u∧
    ((ents h u=[]/\QkN w.heap.size k T none)\/(0<(ents h u).length/\QkN w.heap.size k T (some ⟨h,u⟩)))))
variable{T:RT}
theorem QkK(hF:∀b,F b->b<w)(hT:IsT w F T)(ok:OkR T)(hc:(Qaa T).length<=1000000)(k:ByteArray) :
  Calls prog 75 #[QaK T,.string k] w (Qox F T k w):=by
 match T,hT,ok,hc with
 | none,_,_,_=>
   refine(QdP (nv:=.pointer none) (es:=[]) ⟨none,rfl⟩ (QdV w) ((Qej w).mono ?_) List.Pairwise.nil sM k).mono ?_
   ·rintro e w' ⟨rfl,rfl⟩
    exact⟨Sl.none,[],rfl,rfl,OE.nil _ _,fr _⟩
   rintro e w' ⟨Z,(⟨I,rfl⟩ |⟨I,u,rfl,hu,hb,N⟩)⟩
   .exact ⟨Z,.inl ⟨I,rfl⟩⟩
   simp[Qaq]at I
 | some ⟨0,t⟩,hn,ok,hc=>
   have hn:IsN w F 0 t:=hn;refine(QdP ⟨_,rfl⟩ (QaC hn) (Qa5 (hn.mono hF)) ok.2.2 (show t.2.length<=8 from ok.1) k).mono ?_;rintro e w' ⟨Z,(⟨I,rfl⟩ |⟨I,u,rfl,hu,hb,N⟩)⟩
   .exact ⟨Z,.inl ⟨I,rfl⟩⟩
   refine⟨Z,.inr ⟨I,0,u,rfl,N.mono λi hi=>.inr hi,?_⟩⟩;by_cases h0:ents 0 u=[]
   .exact .inl ⟨h0,.gone I ⟨hu,hb⟩ h0⟩
   have:=List.length_pos_iff.2 h0;exact .inr ⟨this,.same I ⟨hu,hb⟩ this (.inl rfl)⟩
 | some ⟨h+1,t⟩,hn,ok,hc=>
   refine(QfK (Qg4 (k:=k) h) hF hn ok.1 ok.2.2 hc).mono ?_;rintro e w' ⟨Z,(⟨I,rfl⟩ |⟨I,a2,hd,h2⟩)⟩
   .exact ⟨Z,.inl ⟨I,rfl⟩⟩
   have a0:=(Qdw hd ok.1 ok.2.2 I).1;rcases h2 with⟨u,rfl,rfl,N⟩ |⟨hl,c,rfl,hb,rfl,N⟩
   ·have:=a0 u (aT.2 rfl)
    exact⟨Z,.inr ⟨I,h,u,rfl,N,.inr ⟨Qbk h u this.1 oM,.down I hd⟩⟩⟩
   have hp:0<(ents (h+1) c).length:=by
    obtain⟨x,a1⟩:=List.exists_mem_of_length_pos (show 0<c.2.length by omega);have h1:=a0 x a1;have h2:=Qbk h x h1.1 oM;show 0<(c.2.flatMap (ents h)).length;obtain⟨e,he⟩:=List.exists_mem_of_length_pos h2;exact List.length_pos_of_mem (cJ.2 ⟨x,a1,he⟩)
   exact⟨Z,.inr ⟨I,h+1,c,rfl,N,.inr ⟨hp,.same I ⟨hd,hb⟩ hp (.inr hl)⟩⟩⟩
def QsM(F:Nat->Prop)(T:RT)(k:ByteArray)(w:World)(e:Ending)(w':World):Prop:=
 ∃T',e=.returned (.tuple #[Qao T',.bool (Qaq (Qaa T) k).isSome])/\QkN w.heap.size k T T'/\IsT w' (Up F w w') T'/\Ext w w'
theorem Qm9(hF:∀b,F b->b<w)(hT:IsT w F T)(ok:OkR T)(hc:(Qaa T).length<=1000000)(k:ByteArray) :
  Calls prog 52 #[Qao T,.string k] w (QsM F T k w):=by
 have a7:∀W,Ext w W->Calls prog 75 #[QaK T,.string k] W (Qox F T k W):=λW hW=>
  QkK (λb hb=>ab (hF b hb) hW.size) (hT.agree (hW.agree hF)) ok hc k
 have a6:∀W,Ext w W->Calls prog 73 #[QaK T] W λe w'=>e=.returned (.int .i64 (Qaa T).length)/\W=w':=λW hW=>Qfb (hT.agree (hW.agree hF))
 have a4:Qaa T=[]->T=none:=λI=>by
  match T,ok,I with
  |none,_,_=>rfl
  |some ⟨h,t⟩,ok,I=>have:=Qbk h t ok.1 ok.2.1;have I:ents h t=[]:=I;rw[I]at this;cases this
 have d4:∃p,QaK T=.pointer p:=Qaj T;obtain⟨rp,a0⟩:=d4;rw[a0]at a7 a6;obtain⟨HW,e0,HF,d8,HT,c1,c4⟩:=Yh a7 a6 hF ok hT a4 a0;clear hF hT ok a7 a6 a4;rw[Qao,a0];clear a0;go_in;go_wp2_with fail;have a9:Ext w ((w.alloc (.cells #[.pointer rp] 48)).alloc (.cells #[.pointer none] 48)):=((fr w).alloc _ _).alloc _ _;have b6:Blk ((w.alloc (.cells #[.pointer rp] 48)).alloc (.cells #[.pointer none] 48)) (w.heap.size+1) 48 #[.pointer none]:=by
  have:=fu (w.alloc (.cells #[.pointer rp] 48)) 48 #[.pointer none];simpa using this
 generalize c2:World.alloc _ _=W3 at *;have d6:W3.heap.size=w.heap.size+1+1:=by rw[<-c2];simp
 clear c2;refine(HW.o _ a9).mono ?_;rintro e Z ⟨a8,b5⟩;have a2:=b6.ext a8;have c3:=a9.trans a8;have q4:Z.cell? ⟨w+1,0,none⟩=some (.pointer none):=a2.cell 0;have f4:=a2.frozen 0;have d7:=a2.lt;have HX:=hY c3;have b4:∀W',¬Up F W3 W' (w.heap.size+1):=λW' hf=>by
  rcases hf with hf|hf
  .have:=HF.o _ hf;omega
  have:=hf.1;omega
 have d3:=hY b4;have a5:w.heap.size<=W3.heap.size:=oM
 clear b6 a2 c3 a9 a8 b4;have b9:∃N b,e=.returned (.tuple #[QaK N,.bool b])/\b=(Qaq (Qaa T) k).isSome/\IsT Z (Up F W3 Z) N/\((Qaa N).length=0->QkN w.heap.size k T none)/\((Qaa N).length≠0->QkN w.heap.size k T N):=by
  rcases b5 with⟨hg,rfl⟩ |⟨hg,h,u,rfl,d0,hd⟩
  ·refine ⟨T,false,by rw [c4.o],by rw [hg];rfl,(HT.o.agree (HX.o.agree HF.o)).mono fun i hi=>.inl hi,fun I=>?_,fun _=>.no hg⟩
   have:=c1.o (az I);subst this;exact .no hg
  refine⟨some ⟨h,u⟩,true,rfl,hg.symm,d0,λI=>?_,λI=>?_⟩
  .exact (hd.resolve_right λhc=>by have I:(ents h u).length=0:=I;omega).2.mono a5
  exact(hd.resolve_left λh=>I (by show(ents _ u).length=0;rw[h.1];rfl)).2.mono a5
 obtain⟨N,b,rfl,hb,b0,b8,b7⟩:=b9;have b3:=Qfb b0;obtain⟨p1,a1⟩:=Qaj N;have a3:∀W',Agree (Up F W3 Z) Z W'->Z.heap.size<=W'.heap.size->IsT W' (Up F w W') N:=λW' ha hs=>(b0.agree ha).mono λi hi=>hi.elim .inl λhi=>.inr ⟨Nat.le_trans a5 hi.1,ab hi.2 hs⟩
 rw[a1]at b3;obtain⟨c8,c6,HB,c0,c7,c9⟩:=Yg a1 b3 hb a3 b8 b7;rw[a1];clear b5 a1 b3 hb a3 b8 b7 b0;go_wp2_with fail;refine c6.o.mono ?_;rintro e w5 ⟨rfl,rfl⟩;by_cases I:(Qaa N).length=0
 ·have d5:(((Qaa N).length:Int) == 0)=true:=by simp [I]
  go_wp2_with fail;have q0:(Z.setCell ⟨w+1,0,none⟩ (.pointer none)).cell? ⟨w+1,0,none⟩=some (.pointer none):=eJ Z _ _ q4;refine ee (v:=.tuple #[Qao none,.bool b]) (by simp[results,results52,go_sem,q0];rfl) rfl ?_;rw[HB.o];exact⟨none,rfl,c7.o I,trivial,HX.o.setCell (p:=⟨w+1,0,none⟩) (by show w.heap.size<=w.heap.size+1;omega) _⟩
 have d5:(((Qaa N).length:Int)==0)=false:=dW.2 oM;go_wp2_with fail;have q0:(Z.setCell ⟨w+1,0,none⟩ (.pointer p1)).cell? ⟨w+1,0,none⟩=some (.pointer p1):=eJ Z _ _ q4;refine ee (v:=.tuple #[Qao N,.bool b]) (by rw[Qao,c8.o];simp[results,results52,go_sem,q0]) rfl ?_;rw[HB.o];exact⟨N,rfl,c9.o I,c0.o _ (fv Z ⟨w+1,0,none⟩ _ (d3.o Z)) sM,HX.o.setCell (p:=⟨w+1,0,none⟩) (by show w.heap.size<=w.heap.size+1;omega) _⟩
variable{P:Program}
theorem Qjz(w:World){I N:TypeId}(a:Addr)(Z:P.underlying I=some (.pointer N)) :
  (binOp .eql I (.pointer none) (.pointer (some a))).run P w=.ok (.bool false) w:=by
 have h:∀d:Nat,(Op.equalIn (d+1) I (.pointer none) (.pointer (some a))).run P w=.ok false w:=λd=>by
  simp[Op.equalIn,run_underlying Z]
 simp only[binOp];simp[Op.equal,Op.maxDepth,h 9999]
theorem Qth:∃j,prog.info? 159=some j/\j.size≠0:=by
 have h:((prog.info? 159).map λi=>decide (i.size≠0))=some true:=kM
 cases I:prog.info? 159 with
 |none=>rw[I]at h;cases h
 |some j=>rw[I]at h;exact⟨j,rfl,by simpa using h⟩
def QsP(w:World)(p:Option Addr):Prop:=∀a,p=some a->∃c t,w.heap[a.block]? = some (.cells c t (0,0))
open Go.Maps
structure Sb(H:Nat->Prop)(w w':World):Prop where
 os:w'.os=w.os
 tape:w'.tape=w.tape
 output:w'.output=w.output
 size:w.heap.size<=w'.heap.size
 block:∀b,b<w.heap.size->¬H b->w'.heap[b]? = w.heap[b]?
variable{H:Nat->Prop}{w':World}
theorem St.sb(h:St H w w'):Sb H w w':=⟨h.os,h.tape,h.output,h.size,h.block⟩
theorem Ext.sb(h:Ext w w')(H:Nat->Prop):Sb H w w':=(h.st H).sb
theorem Sb.refl(H:Nat->Prop)(w:World):Sb H w w:=(fr w).sb H
theorem Sb.trans{a b c:World}(h:Sb H a b)(k:Sb H b c):Sb H a c:=
 ⟨k.os.trans h.os,k.tape.trans h.tape,k.output.trans h.output,am h.size k.size,λi hi I=>(k.block i (ab hi h.size) I).trans (h.block i hi I)⟩
variable{G:Nat->Prop}
theorem Sb.comp{a b c:World}(h:Sb H a b)(k:Sb G b c)(Z:∀i,i<a.heap.size->G i->H i):Sb H a c:=
 ⟨k.os.trans h.os,k.tape.trans h.tape,k.output.trans h.output,am h.size k.size,λi hi I=>(k.block i (ab hi h.size) λN=>I (Z i hi N)).trans (h.block i hi I)⟩
theorem Sb.mono{a b:World}(h:Sb H a b)(Z:∀i,i<a.heap.size->H i->G i):Sb G a b:=
 ⟨h.os,h.tape,h.output,h.size,λi hi I=>h.block i hi λN=>I (Z i hi N)⟩
variable{n:Nat}
theorem Sb.of_below(h:Below n w w'):Sb (λb=>n<=b) w w':=⟨h.os,h.tape,h.output,h.size,λb _ I=>h.block b oM⟩
theorem Sb.new(h:Below w.heap.size w w'):Sb H w w':=(Sb.of_below h).mono λi hi I=>oM
theorem Sb.cell(h:Sb H w w'){b o:Nat}(N:b<w)(I:¬H b):w'.cell? ⟨b,o,none⟩=w.cell? ⟨b,o,none⟩:=
 eB (w:=w) (a:=⟨b,o,none⟩) (h.block b N I)
variable{g:Nat}
theorem Sb.blk{t:TypeId}{cs:Array Value}(h:Sb H w w')(I:Blk w g t cs)(N:¬H g):Blk w' g t cs:=(h.block g I.lt N).trans I
theorem Sb.agree(h:Sb H w w'):Agree (NH H w) w w':=λb I=>h.block b I.1 I.2
theorem Sb.ext{a b c:World}(h:Sb H a b)(k:Ext b c):Sb H a c:=h.trans (k.sb H)
theorem Sb.drew{a w:World}(h:Sb H a w):Sb H a w.drew:=h.ext ((fr w).drew)
theorem Sb.set{a w:World}(h:Sb H a w){p:Addr}(I:a.heap.size<=p.block\/H p.block)(u:Value):Sb H a (w.setCell p u):=
 ⟨h.os,h.tape,h.output,by simpa[World.setCell]using h.size,λi hi N=>(eH w p u i (by
   rintro rfl;rcases I with I|I
   .omega
   exact N I)).trans (h.block i hi N)⟩
theorem Sb.grown{b:Nat}(h:w.grownBy w' (some b)):Sb (λi=>i=b) w w':=
 ⟨h.os,h.tape,h.output,h.size,λi hi I=>h.block i hi (by intro e;injection e with e;exact I e)⟩
theorem Sb.made(h:w.grownBy w' none):Sb H w w':=⟨h.os,h.tape,h.output,h.size,λi hi I=>h.block i hi sM⟩
theorem Qbx{H:Type}{k:TypeId}{R:Value->Option (DataW H × List MemPlace)}{b n:Nat}{D:DataW H}(h:w.ownsMap P k R b n D)(hb:w'.heap[b]? = w.heap[b]?):w'.ownsMap P k R b n D:=by
 obtain⟨N,I,h1,F,h2,Z⟩:=h;exact⟨N,I,hb.trans h1,F,h2,Z⟩
abbrev fA:=@Sb.refl
structure OD where
 T:RT
 mb:Option Nat
 s:Sl
 us:List UD
 Hs:List (AL SV)
 C:AL SV
def OvB(O:Nat)(d:OD):Nat->Prop:=λb=>b=O\/d.mb=some b\/d.s.row=some b
def OvF(H:Nat->Prop)(w:World)(O:Nat)(d:OD):Nat->Prop:=λb=>b<w.heap.size/\¬OvB O d b/\¬H b
theorem Qdd(w:World)(F:Nat->Prop):RV w F zeroV Sl.none Sl.none:=RV.flat _ _ _ _ _ _ oN oN oN
def QkU(w:World)(F:Nat->Prop)(s:SV):Prop:=RV w F s.v s.sl s.so/\(s.has=false->s.v=zeroV)
theorem QkU.agree{s:SV}(h:QkU w F s)(I:Agree F w w'):QkU w' F s:=⟨h.1.agree I,h.2⟩
theorem QkU.mono{s:SV}(h:QkU w F s)(I:∀i,F i->G i):QkU w G s:=⟨h.1.mono I,h.2⟩
def Qh2(w:World)(F:Nat->Prop)(O:Nat)(u:UD)(v:Value):Prop:=
 ∃(bw bd bo bk:Nat) (o:SV),v=.func (.func 211) #[] #[.pointer (some ⟨bw,0,none⟩),.pointer (some ⟨bd,0,none⟩),.pointer (some ⟨bo,0,none⟩),.pointer (some ⟨bk,0,none⟩)]/\
  (F bw/\F bd/\F bo/\F bk)/\Blk w bw 4 #[.bool u.old.isSome]/\Blk w bd 192 o.cells/\(∀x,u.old=some x->x=o)/\Blk w bo 151 #[.pointer (some ⟨O,0,none⟩)]/\Blk w bk 9 #[.string u.k]
variable{O:Nat}
theorem Qh2.agree{u:UD}{v:Value}(h:Qh2 w F O u v)(I:Agree F w w'):Qh2 w' F O u v:=by
 obtain⟨bw,bd,bo,bk,o,h1,⟨f1,N,Z,f4⟩,h2,h3,h4,h5,h6⟩:=h;exact⟨bw,bd,bo,bk,o,h1,⟨f1,N,Z,f4⟩,h2.agree I f1,h3.agree I N,h4,h5.agree I Z,h6.agree I f4⟩
theorem Qh2.mono{u:UD}{v:Value}(h:Qh2 w F O u v)(I:∀i,F i->G i):Qh2 w G O u v:=by
 obtain⟨bw,bd,bo,Z,o,h1,⟨f1,f2,f3,N⟩,r⟩:=h;exact⟨bw,bd,bo,Z,o,h1,⟨I _ f1,I _ f2,I _ f3,I _ N⟩,r⟩
def Qbp(w:World)(mb:Option Nat)(C:AL SV):Prop:=match mb with
 |none=>C=[]
 |some b=>w.ownsMap prog 9 QeO b C.length (mapA SV.val C)
variable{C:AL SV}
theorem Qbp.heap{mb:Option Nat}(h:Qbp w mb C)(I:∀b,mb=some b->w'.heap[b]? = w.heap[b]?):Qbp w' mb C:=by
 cases mb with
 |none=>exact h
 |some b=>exact Qbx h (I b rfl)
theorem Qbp.lt{mb:Option Nat}(h:Qbp w mb C){b:Nat}(I:mb=some b):b<w:=by
 subst I;exact World.ownsMap.lt h
theorem QeV{b n:Nat}(h:w.ownsMap prog 9 QeO b n (mapA SV.val C)):w.ownsMap prog 9 QeO b C.length (mapA SV.val C):=by
 obtain⟨Z,I,h1,F,h2,N⟩:=h;refine⟨Z,I,h1,F,?_,N⟩;have:=congrArg Maps.size N;rw[Qkt]at this;simp[Maps.size,length_sorted]at this;omega
def Qu9(w:World)(F:Nat->Prop)(O:Nat)(s:Sl)(us:List UD):Prop:=
 ∃xs:List Value,xs.length=us.length/\w.ownsRow 0 1 1 (.slice s.a us.length s.c) us.length xs/\∀(i:Nat) (u:UD) (v:Value),us[i]? = some u->xs[i]? = some v->Qh2 w F O u v
structure QcK(H:Nat->Prop)(w:World)(O:Nat)(d:OD):Prop where
 blk:Blk w O 184 #[QaK d.T,.map d.mb,.slice d.s.a d.us.length d.s.c]
 map:Qbp w d.mb d.C
 row:Qu9 w (OvF H w O d) O d.s d.us
 vals:∀p∈d.C,p.1.size<=maxLen/\QkU w (OvF H w O d) p.2
 olds:∀u∈d.us,u.k.size<=maxLen/\∀o,u.old=some o->QkU w (OvF H w O d) o
 hist:Chain d.us d.Hs
 h0:d.Hs[0]? = some []
 last:d.Hs[d.us.length]? = some d.C
 sorted:Qay d.C
 tree:IsT w (OvF H w O d) d.T
 ok:OkR d.T
 ne:d.mb≠some O/\d.s.row≠some O/\∀b,d.mb=some b->d.s.row≠some b
 out:∀b,OvB O d b->¬H b
 some_:d.us≠[]->∃b,d.mb=some b
theorem Chain.short{I:List UD}{N:List (AL SV)}(h:Chain I N)(Z:N[0]? = some []):∀(i:Nat) (C:AL SV),N[i]? = some C->C.length<=i
 |0,C,hC=>by rw[Z]at hC;injection hC with hC;subst hC;exact an _
 | i+1,C,hC=>by
   have hi:i<I.length:=by have:=(ae.1 hC).1;have:=h.len;omega
   obtain⟨C',s,h1,h2,h3,h4⟩:=h.step i _ (ac hi);rw[h4]at hC;injection hC with hC;subst hC;have:=h.short Z i C' h1;have:=Qsc (C:=C') (k:=(I[i]'hi).k) (v:=s);omega
section
variable{H : Nat -> Prop}{w w' : World}{O : Nat}{d : OD}
theorem QcK.few(h:QcK H w O d):d.C.length<=d.us.length:=h.hist.short h.h0 _ _ h.last
theorem QcK.Qko(h:QcK H w O d){b:Nat}(I:d.s.row=some b):b<w:=by
 obtain⟨xs,-,h2,-⟩:=h.row;exact(Qad h2 I).2
theorem QcK.Qbe(h:QcK H w O d){b:Nat}(I:OvB O d b):b<w:=by
 rcases I with rfl|I|I
 .exact h.blk.lt
 .exact h.map.lt I
 exact h.Qko I
theorem QcK.sb{G:Nat->Prop}(h:QcK H w O d)(k:Sb G w w')(hG:∀b,G b->H b):QcK H w' O d:=by
 have N:Agree (OvF H w O d) w w':=λb I=>k.block b I.1 λhh=>I.2.2 (hG b hh)
 have Z:∀i,OvF H w O d i->OvF H w' O d i:=λi hi=>⟨Nat.lt_of_lt_of_le hi.1 k.size,hi.2⟩
 have hn:∀b,OvB O d b->¬G b:=λb I hg=>h.out b I (hG b hg)
 obtain⟨xs,r1,r2,r3⟩:=h.row;exact⟨k.blk h.blk (hn O (.inl rfl)),h.map.heap λb I=>k.block b (h.map.lt I) (hn b (.inr (.inl I))),
  ⟨xs,r1,Qab r2 k.agree λb I=>⟨h.Qko I,hn b (.inr (.inr I))⟩,λi u v hu hv=>((r3 i u v hu hv).agree N).mono Z⟩,
  λp hp=>⟨(h.vals p hp).1,((h.vals p hp).2.agree N).mono Z⟩,λu hu=>⟨(h.olds u hu).1,λo ho=>(((h.olds u hu).2 o ho).agree N).mono Z⟩,
  h.hist,h.h0,h.last,h.sorted,(h.tree.agree N).mono Z,h.ok,h.ne,h.out,h.some_⟩
theorem QcK.ext(h:QcK H w O d)(k:Ext w w'):QcK H w' O d:=h.sb (k.sb λ_=>False) λ_ I=>I.elim
theorem QcK.more{G:Nat->Prop}(h:QcK H w O d)(hG:∀b,b<w.heap.size->G b->H b):QcK G w O d:=by
 have I:∀i,OvF H w O d i->OvF G w O d i:=λi hi=>⟨hi.1,hi.2.1,λN=>hi.2.2 (hG i hi.1 N)⟩
 obtain⟨xs,r1,r2,r3⟩:=h.row;exact⟨h.blk,h.map,⟨xs,r1,r2,λi u v hu hv=>(r3 i u v hu hv).mono I⟩,λp Z=>⟨(h.vals p Z).1,(h.vals p Z).2.mono I⟩,
  λu hu=>⟨(h.olds u hu).1,λo ho=>((h.olds u hu).2 o ho).mono I⟩,h.hist,h.h0,h.last,h.sorted,h.tree.mono I,h.ok,h.ne,λb hb N=>h.out b hb (hG b (h.Qbe hb) N),h.some_⟩
end
theorem Qe2:Keyed prog 9:=string_keyed underlying9
theorem QtW(k:ByteArray)(I:k.size<=maxLen):keyOf prog 9 (.string k)=some (Qfz k):=Go.WideMaps.keyOf_string_mk underlying9 I
structure Qok(H:Nat->Prop)(w:World)(O:Nat)(d d':OD)(w':World):Prop where
 at_:QcK H w' O d'
 sb:Sb (OvB O d) w w'
 new:∀b,OvB O d' b->OvB O d b\/w.heap.size<=b
abbrev QhY:SV:=⟨false,zeroV,Sl.none,Sl.none⟩
theorem Qgd(w:World):(zeroValue 192).run prog w=.ok QhY.val w:=kM
theorem Tryz.Qul:(prog.info? 1).map (λi=>(i.zero,i.size,i.bytes))=some (some Value.nilFunc,1,8):=kM
def Qiw(C:AL SV)(k:ByteArray):SV:=(QaZ C k).getD QhY
variable{W:World}
theorem Qlg{mb:Option Nat}(hm:Qbp W mb C){k:ByteArray}(hk:k.size<=maxLen) :
  (Instr.lookup 181 (.map mb) (.string k) true).run prog W=.ok (.tuple #[(Qiw C k).val,.bool (QaZ C k).isSome]) W:=by
 cases mb with
 | none=>
   have hC:C=[]:=hm;subst hC;rw[Maps.look_nil true Qe2 underlying181 (Qgd W) (QtW k hk)];rfl
 | some b=>
   obtain⟨v,ps,I,N⟩:=World.ownsMap.look_ok hm Qe2 underlying181 (Qgd W) (zd:=.held QhY.val) (zp:=[]) rfl (QtW k hk);rw[Qgh]at N;rw[I,Ql5];unfold Qiw;cases Z:QaZ C k with
   |none=>rw[Z]at N;rw[QeP N];rfl
   |some s=>rw[Z]at N;rw[QeP N];rfl
variable{a:Act}{Q:Exit->Act->World->Prop}{K:Act->World->Prop}
theorem Qj9{o:Oper}{m x v:Operand}(Z:o.op=Op.mapUpdate 181 m x v)
  {b:Nat} {k:ByteArray} {s:SV} (hm:a.eval m=.map (some b)) (hx:a.eval x=.string k) (hv:a.eval v=s.val) (I:Qbp w (some b) C) (hk:k.size<=maxLen) (hC:C.length<maxLen) (hs:Qay C)
  (hK:∀w',Qbp w' (some b) (QcX C k s)->Sb (λc=>c=b) w w'->K (a.put o.dst undef) w'):Oper.wp prog o a w K Q:=by
 obtain⟨w',N,r1,r2⟩:=World.ownsMap.store I Qe2 underlying181 hC (QtW k hk) (val:=s.val) (d:=.held s.val) (ps:=[]) rfl;unfold Oper.wp;simp[execOp,Z,hm,hx,hv,N,Result.andThen];rw[Qse SV.val hs]at r1;exact hK _ (QeV r1) (Sb.grown r2.grown)
theorem Qp1{o:Oper}{m x:Operand}(Z:o.op=Op.call { callee:=Callee.builtin Builtin.delete,args:=#[m,x],argTypes:=#[181,9] })
  {b:Nat} {k:ByteArray} (hm:a.eval m=.map (some b)) (hx:a.eval x=.string k) (N:Qbp w (some b) C) (hk:k.size<=maxLen)
  (hK:∀w',Qbp w' (some b) (Qjs C k)->Sb (λc=>c=b) w w'->K (a.put o.dst (.tuple #[])) w'):Oper.wp prog o a w K Q:=by
 obtain⟨w',I,r1,r2⟩:=World.ownsMap.drop N Qe2 underlying181 (QtW k hk) o.type;unfold Oper.wp;simp[execOp,Z,resolve,invoke,builtin,hm,hx,I,Result.andThen];rw[Qrg SV.val]at r1;exact hK _ (QeV r1) (Sb.grown r2.grown)
theorem Qbp.ne{b g:Nat}{t:TypeId}{cs:Array Value}(h:Qbp w (some b) C)(N:Blk w g t cs):g≠b:=by
 rintro rfl;obtain⟨Z,I,h1,-⟩:=h;have h2:w.heap[g]? = some (.cells cs t (0,0)):=N;rw[h1]at h2;cases h2
theorem Qru{us:List UD}{N:List (AL SV)}(h:Chain us N)(Z:N[us.length]? = some C):∃I,N=I++[C]:=by
 have hn:=h.len;rcases List.eq_nil_or_concat N with rfl |⟨I,c,rfl⟩
 .simp at hn
 refine⟨I,?_⟩;rw[List.concat_eq_append]at *;rw[aj,bq]at hn;rw[aQ oM,show us.length-I.length=0 by omega]at Z;injection Z with Z;rw[Z]
section
variable{H : Nat -> Prop}{w wc : World}{O : Nat}{d : OD}
theorem QcK.made(h:QcK H w O d)(hm:d.mb=none){b:Nat}(hb:w.heap.size<=b)(hH:∀b,H b->b<w.heap.size)(k:Sb (λc=>c=O) w wc)
  (Z:Blk wc O 184 #[QaK d.T,.map (some b),.slice d.s.a d.us.length d.s.c]) (N:wc.ownsMap prog 9 QeO b 0 (mapA SV.val [])):QcK H wc O { d with mb:=some b }:=by
 have hC:d.C=[]:=by have:=h.map;rw[hm]at this;exact this
 have ha:Agree (OvF H w O d) w wc:=λi hi=>k.block i hi.1 λe=>hi.2.1 (.inl e)
 have I:∀i,OvF H w O d i->OvF H wc O { d with mb:=some b } i:=λi hi=>⟨Nat.lt_of_lt_of_le hi.1 k.size,λe=>by
  rcases e with e|e|e
  .exact hi.2.1 (.inl e)
  ·have e:some b=some i:=e
   injection e with e;have:=hi.1;omega
  exact hi.2.1 (.inr (.inr e)),hi.2.2⟩
 obtain⟨xs,r1,r2,r3⟩:=h.row;refine⟨Z,?_,⟨xs,r1,Qab r2 k.agree λi hi=>⟨h.Qko hi,λe=>h.ne.2.1 (by rw[<-e];exact hi)⟩,λi u v hu hv=>((r3 i u v hu hv).agree ha).mono I⟩,
  λp hp=>⟨(h.vals p hp).1,((h.vals p hp).2.agree ha).mono I⟩,λu hu=>⟨(h.olds u hu).1,λo ho=>(((h.olds u hu).2 o ho).agree ha).mono I⟩,
  h.hist,h.h0,h.last,h.sorted,(h.tree.agree ha).mono I,h.ok,⟨?_,h.ne.2.1,?_⟩,?_,λ_=>⟨b,rfl⟩⟩
 ·show wc.ownsMap _ _ _ _ _ _
  rw[hC];exact N
 ·intro e
  have e:some b=some O:=e;injection e with e;have:=h.blk.lt;omega
 ·intro i hi hr
  have hi:some b=some i:=hi;injection hi with hi;have:=h.Qko hr;omega
 rintro i (hi|hi|hi) hh
 .exact h.out i (.inl hi) hh
 ·have hi:some b=some i:=hi
  injection hi with hi;have:=hH i hh;omega
 exact h.out i (.inr (.inr hi)) hh
structure Qou(H:Nat->Prop)(w:World)(O:Nat)(d:OD)(k:ByteArray)(sv:SV)(b:Nat)(wc:World):Prop where
 at_:QcK H wc O { d with mb:=some b }
 sb:Sb (OvB O d) w wc
 mb:d.mb=some b\/w.heap.size<=b
 big:w.heap.size+3<=wc.heap.size
 bo:Blk wc w.heap.size 151 #[.pointer (some ⟨O,0,none⟩)]
 bk:Blk wc (w.heap.size+1) 9 #[.string k]
 bs:Blk wc (w.heap.size+1+1) 192 sv.cells
 ok:QkU wc (OvF H wc O { d with mb:=some b }) sv
def Qq0(H:Nat->Prop)(O:Nat)(d:OD)(k:ByteArray)(sv:SV)(w:World)(e:Ending)(w':World):Prop:=
 (∃r,e=.returned r)/\∃mb s,Qok H w O d ⟨d.T,mb,s,d.us++[⟨k,QaZ d.C k⟩],d.Hs++[QcX d.C k sv],QcX d.C k sv⟩ w'
abbrev QkE(bw bd bo bk:Nat):Value:=.func (.func 211) #[] #[.pointer (some ⟨bw,0,none⟩),.pointer (some ⟨bd,0,none⟩),.pointer (some ⟨bo,0,none⟩),.pointer (some ⟨bk,0,none⟩)]
theorem step_end{k:ByteArray}{sv:SV}{b:Nat}{wm W w5 w7:World}(I:Qou H w O d k sv b wc)(d7:O<w.heap.size)(a4:∀i,d.s.row=some i->i<w.heap.size)(hH:∀b,H b->b<w.heap.size)(hk:k.size<=maxLen)(a7:Ext wc wm)
  {bw bd:Nat} (c2:wc.heap.size<=bw/\bw<wm.heap.size) (b3:wc.heap.size<=bd/\bd<wm.heap.size) (c3:Blk wm bd 192 (Qiw d.C k).cells) (c4:Blk wm bw 4 #[.bool (QaZ d.C k).isSome]) (hx:Ext wm W)
  {xs:List Value} (hl:xs.length=d.us.length) (c6:∀(i:Nat) (u:UD) (v:Value),d.us[i]? = some u->xs[i]? = some v->Qh2 wc (OvF H wc O { d with mb:=some b }) O u v) {N:Sl}
  (a6:w5.ownsRow 0 1 1 (.slice N.a (d.us.length+1) N.c) (d.us.length+1) (xs++[QkE bw bd w.heap.size (w.heap.size+1)])) (a3:Wr W w5 d.s.row) (hs:N.a=d.s.a\/N.a=some ⟨W.heap.size,0,none⟩/\Wr W w5 none)
  (h7:Qbp w7 (some b) (QcX d.C k sv)) (a1:Sb (λc=>c=b) (w5.setCell ⟨O,2,none⟩ (.slice N.a (d.us.length+1) N.c)) w7) :
  Qok H w O d ⟨d.T,some b,N,d.us++[⟨k,QaZ d.C k⟩],d.Hs++[QcX d.C k sv],QcX d.C k sv⟩ w7:=by
 have d4:=I.big;have e1:=a7.size;have d8:=hx.size;have e0:=a3.grown.size;have c8:=a1.size;rw[ed]at c8;have d5:b<wc.heap.size:=I.at_.map.lt rfl;have b5:b≠O:=λe=>I.at_.ne.1 (by rw[e])
 have c7:d.s.row≠some b:=λe=>I.at_.ne.2.2 b rfl e
 have b8:d.s.row≠some O:=I.at_.ne.2.1;have Z:∀i,N.row=some i->d.s.row=some i\/i=W.heap.size:=λi hi=>by
  rcases hs with h |⟨h,-⟩
  .left;rw[Sl.row,<-h];exact hi
  right;rw[Sl.row,h]at hi;simpa using hi.symm
 have b7:N.row≠some O:=λe=>by
  rcases Z O e with h|h
  .exact b8 h
  omega
 have b4:N.row≠some b:=λe=>by
  rcases Z b e with h|h
  .exact c7 h
  omega
 -- what turns between wc and the end
 have hW:Sb (λ_=>False) wc W:=(a7.trans hx).sb _;have h5:Sb (λc=>d.s.row=some c) W w5:=⟨a3.grown.os,a3.grown.tape,a3.grown.output,a3.grown.size,λi hi hn=>a3.grown.block i hi λe=>hn e.symm⟩;have h6:Sb (λc=>c=O) w5 (w5.setCell ⟨O,2,none⟩ (.slice N.a (d.us.length+1) N.c)):=(fA (λc=>c=O) w5).set (p:=⟨O,2,none⟩) (.inr rfl) _;have a5:Sb (OvB O { d with mb:=some b }) wc w7:=
  (((hW.mono λi _ h=>h.elim).trans (h5.mono λi _ h=>.inr (.inr h))).trans (h6.mono λi _ h=>.inl h)).trans (a1.mono λi _ h=>.inr (.inl (by rw[h])))
 have a0:∀{g t cs},Blk wm g t cs->g≠O->g≠b->d.s.row≠some g->Blk w7 g t cs:=λhb h1 h2 h3=>
  a1.blk (h6.blk (h5.blk (hb.ext hx) h3) h1) h2
 have a2:∀i,wc.heap.size<=i\/(i=w.heap.size\/i=w.heap.size+1)->i<wm.heap.size->i≠b->OvF H w7 O ⟨d.T,some b,N,d.us++[⟨k,QaZ d.C k⟩],d.Hs++[QcX d.C k sv],QcX d.C k sv⟩ i:=λi hi d6 c9=>
  ⟨oM,λe=>by
    rcases e with e|e|e
    .omega
    ·have e:some b=some i:=e
     injection e with e;exact c9 e.symm
    rcases Z i e with h|h
    .have:=a4 i h;omega
    omega,λhh=>by have:=hH i hh;omega⟩
 have b6:=I.bo;have b9:=I.bk;have c1:=Qbp.ne I.at_.map b6;have c0:=Qbp.ne I.at_.map b9;have ha:Agree (OvF H wc O { d with mb:=some b }) wc w7:=λi hi=>a5.block i hi.1 hi.2.1
 have hm:∀i,OvF H wc O { d with mb:=some b } i->OvF H w7 O ⟨d.T,some b,N,d.us++[⟨k,QaZ d.C k⟩],d.Hs++[QcX d.C k sv],QcX d.C k sv⟩ i:=λi hi=>
  ⟨Nat.lt_of_lt_of_le hi.1 a5.size,λe=>by
    rcases e with e|e|e
    .exact hi.2.1 (.inl e)
    .exact hi.2.1 (.inr (.inl e))
    rcases Z i e with h|h
    .exact hi.2.1 (.inr (.inr h))
    have:=hi.1;omega,hi.2.2⟩
 obtain⟨Ps,a9⟩:=Qru I.at_.hist I.at_.last;have a9:d.Hs=Ps++[d.C]:=a9;have b0:Chain d.us d.Hs:=I.at_.hist;have d0:d.Hs[d.us.length]? = some d.C:=I.at_.last;have d3:=b0.len;have a8:Qay d.C:=I.at_.sorted;refine⟨⟨?_,h7,⟨xs++[QkE bw bd w.heap.size (w.heap.size+1)],by simp[hl],?_,?_⟩,?_,?_,?_,?_,?_,Qbu a8 _ _,(I.at_.tree.agree ha).mono hm,I.at_.ok,⟨?_,b7,?_⟩,?_,λ_=>⟨b,rfl⟩⟩,?_,?_⟩
 ·have h8:Blk (w5.setCell ⟨O,2,none⟩ (.slice N.a (d.us.length+1) N.c)) O 184 #[QaK d.T,.map (some b),.slice N.a (d.us.length+1) N.c]:=(h5.blk ((I.at_.blk.ext a7).ext hx) b8).QbH 2 _
  have h9:=a1.blk h8 (λe=>b5 e.symm);show Blk w7 O _ #[_,_,.slice N.a (d.us++[(⟨k,QaZ d.C k⟩:UD)]).length N.c];rw[aj,bq];exact h9
 ·show w7.ownsRow 0 _ 1 (.slice N.a (d.us++[(⟨k,QaZ d.C k⟩:UD)]).length N.c) (d.us++[(⟨k,QaZ d.C k⟩:UD)]).length _
  rw[aj,bq];exact Qab (Qab a6 h6.agree λi hi=>⟨(Qad a6 hi).2,λe=>b7 (by rw[<-e];exact hi)⟩) a1.agree λi hi=>⟨by rw[ed];exact(Qad a6 hi).2,λe=>b4 (by rw[<-e];exact hi)⟩
 ·intro i u v hu hv
  rcases Nat.lt_or_ge i d.us.length with hi|hi
  ·have hu:(d.us++[(⟨k,QaZ d.C k⟩:UD)])[i]? = some u:=hu
   rw[bp hi]at hu;rw[bp oM]at hv;exact((c6 i u v hu hv).agree ha).mono hm
  have hu:(d.us++[(⟨k,QaZ d.C k⟩:UD)])[i]? = some u:=hu;rw[aQ hi]at hu;rw[aQ oM]at hv;have h0:i-d.us.length=0:=by have:=(ae.1 hu).1;simpa using this
  rw[h0]at hu;rw[show i-xs.length=0 by omega]at hv;have hu:(⟨k,QaZ d.C k⟩:UD)=u:=by simpa using hu
  have hv:QkE bw bd w.heap.size (w.heap.size+1)=v:=by simpa using hv
  subst hu hv;refine⟨bw,bd,w.heap.size,w.heap.size+1,Qiw d.C k,rfl,⟨a2 _ (.inl c2.1) c2.2 oM,a2 _ (.inl b3.1) b3.2 oM,a2 _ (.inr (.inl rfl)) oM c1,a2 _ (.inr (.inr rfl)) oM c0⟩,?_,?_,?_,?_,?_⟩
  .exact a0 c4 oM oM λe=>by have:=a4 _ e;omega
  .exact a0 c3 oM oM λe=>by have:=a4 _ e;omega
  ·intro x hx
   have hx:QaZ d.C k=some x:=hx;unfold Qiw;rw[hx];rfl
  .exact a0 (b6.ext a7) oM c1 λe=>by have:=a4 _ e;omega
  exact a0 (b9.ext a7) oM c0 λe=>by have:=a4 _ e;omega
 ·intro p hp
  rcases QiH hp with rfl|hp
  .exact ⟨hk,(I.ok.agree ha).mono hm⟩
  exact⟨(I.at_.vals p hp).1,((I.at_.vals p hp).2.agree ha).mono hm⟩
 ·intro u hu
  rcases aB.1 hu with hu|hu
  .exact ⟨(I.at_.olds u hu).1,λo ho=>(((I.at_.olds u hu).2 o ho).agree ha).mono hm⟩
  rw[aT.1 hu];exact⟨hk,λo ho=>((((I.at_.vals (k,o) (QeJ ho)).2).agree ha).mono hm)⟩
 ·show Chain (d.us++[(⟨k,QaZ d.C k⟩:UD)]) (d.Hs++[QcX d.C k sv])
  rw[a9]at b0 ⊢;exact b0.snoc a8 k sv
 ·have h0:d.Hs[0]? = some []:=I.at_.h0
  show(d.Hs++[QcX d.C k sv])[0]? = _;rw[bp oM];exact h0
 ·show (d.Hs++[QcX d.C k sv])[(d.us++[(⟨k,QaZ d.C k⟩:UD)]).length]? = some (QcX d.C k sv)
  rw[aj,bq,aQ oM,show d.us.length+1-d.Hs.length=0 by omega];rfl
 ·intro e
  have e:some b=some O:=e;injection e with e;exact b5 e
 ·intro i hi
  have hi:some b=some i:=hi;injection hi with hi;subst hi;exact b4
 ·rintro i (hi | hi | hi) hh
  .exact I.at_.out i (.inl hi) hh
  .exact I.at_.out i (.inr (.inl hi)) hh
  rcases Z i hi with h|h
  .exact I.at_.out i (.inr (.inr h)) hh
  have:=hH i hh;omega
 ·refine I.sb.comp a5 fun i hi h=>?_
  rcases h with h|h|h
  .exact .inl h
  ·have h:some b=some i:=h
   injection h with h;subst h;rcases I.mb with h|h
   .exact .inr (.inl h)
   omega
  exact .inr (.inr h)
 rintro i (hi|hi|hi)
 .exact .inl (.inl hi)
 ·have hi:some b=some i:=hi
  injection hi with hi;subst hi;rcases I.mb with h|h
  .exact .inl (.inr (.inl h))
  exact .inr h
 rcases Z i hi with h|h
 .exact .inl (.inr (.inr h))
 right;omega
end
abbrev od0(T:RT):OD:=⟨T,none,Sl.none,[],[[]],[]⟩
theorem QcK.fresh(I:Blk w O 184 #[QaK T,.map none,.slice none 0 0])(Z:IsT w F T)(ok:OkR T)(hF:∀b,F b->b<w/\¬H b/\b≠O)(hO:¬H O):QcK H w O (od0 T):=
 ⟨I,rfl,⟨[],rfl,ez _ _ _ _,λi u v hu=>by simp at hu⟩,λp N=>(by cases N),λu hu=>(by cases hu),Chain.nil [],rfl,rfl,List.Pairwise.nil,
   Z.mono λb I=>⟨(hF b I).1,⟨λh=>by
    rcases h with h|h|h
    .exact (hF b I).2.2 h
    .cases h
    (cases h),(hF b I).2.1⟩⟩,ok,⟨sM,by simp[Sl.row],λb I=>(by cases I)⟩,λb I=>by
   rcases I with rfl|h|h
   .exact hO
   .cases h
   (cases h),λh=>absurd rfl h⟩
theorem Qq5(hT:IsT w F T)(ok:OkR T)(hF:∀b,F b->b<w/\¬H b)(hH:∀b,H b->b<w) :
  Calls prog 94 #[Qao T] w λe w'=>∃O,e=.returned (.pointer (some ⟨O,0,none⟩))/\w.heap.size<=O/\QcK H w' O (od0 T)/\Ext w w':=by
 obtain⟨p,hp⟩:=Qaj T;rw[Qao,hp];obtain⟨HT,Z,HH,HP⟩:=Ye hT hF hH hp;clear hT hF hH hp;go_in;go_wp2_with fail;generalize a0:World.alloc _ _=W0;obtain⟨N,a2,-,a1⟩:=Qas w _ _ _ _ W0 a0;refine ee (v:=.pointer (some ⟨w+1,0,none⟩)) (by simp[results,results94,go_sem]) rfl ?_;refine⟨w+1,rfl,cu _,QcK.fresh (by rw[HP.o];exact a1) (HT.o.agree (N.agree λb I=>(Z.o b I).1)) ok (λb I=>⟨by have:=(Z.o b I).1;omega,(Z.o b I).2,by have:=(Z.o b I).1;omega⟩) (λh=>by have:=HH.o _ h;omega),N⟩
variable{d:OD}
theorem QdB(h:QcK H w O d):Calls prog 164 #[.pointer (some ⟨O,0,none⟩)] w λe w'=>e=.returned (.int .i64 (d.us.length:Int))/\Ext w w':=by
 have I:w.cell? ⟨O,2,none⟩=some (.slice d.s.a d.us.length d.s.c):=h.blk.cell 2;clear h;go_in;go_wp2_with fail;go_ret;exact⟨rfl,fr w⟩
abbrev OD.now(d:OD)(k:ByteArray):Option Val:=QkO (Qaa d.T) (Qhe d.C) k
theorem Qmo{k:ByteArray}(h:QaZ d.C k=none):d.now k=Qaq (Qaa d.T) k:=by
 unfold OD.now QkO;rw[QdU,h];rfl
theorem Qmp{k:ByteArray}{s:SV}(h:QaZ d.C k=some s):d.now k=s.opt:=by
 unfold OD.now QkO;rw[QdU,h];rfl
theorem Qtz{s:SV}(h:QkU w F s):s.opt.getD zeroV=s.v/\s.opt.isSome=s.has:=by
 unfold SV.opt;cases I:s.has with
 |true=>simp
 |false=>simp[h.2 I]
theorem QsA(h:QcK H w O d)(hl:(Qaa d.T).length<=1000000){k:ByteArray}(hk:k.size<=maxLen) :
  Calls prog 196 #[.pointer (some ⟨O,0,none⟩),.string k] w (QbC (d.now k) w):=by
 have lO:=h.blk.lt;have c1:w.cell? ⟨O,1,none⟩=some (.map d.mb):=h.blk.cell 1;have c0:w.cell? ⟨O,0,none⟩=some (QaK d.T):=h.blk.cell 0;have a4:∀cs t,(Instr.lookup 181 (.map d.mb) (.string k) true).run prog (w.alloc (.cells cs t))=.ok (.tuple #[(Qiw d.C k).val,.bool (QaZ d.C k).isSome]) (w.alloc (.cells cs t)):=λcs t=>
  Qlg (h.map.heap λb I=>ew _ _ _ (h.map.lt I)) hk
 cases hg:QaZ d.C k with
 | none=>
   rw[Qmo hg];simp only[hg,Qiw,Option.getD_none,Option.isSome_none]at a4;have hF:∀b,OvF H w O d b->b<w.heap.size:=λb I=>I.1
   have a9:=λW (hW:Ext w W)=>Qg2 (w:=W) (λb I=>ab (hF b I) hW.size) (h.tree.agree (hW.agree hF)) h.ok hl k
   generalize Qaq (Qaa d.T) k=N at *;obtain⟨p,hp⟩:=Qaj d.T;rw[hp]at c0;simp only[Qao,hp]at a9;have b7:=hY a9;clear a9 h hF hg hp;go_in;go_wp2_with fail;generalize a1:World.alloc _ _=W0;obtain⟨Z,a3,a0,a6⟩:=Qas w _ _ _ _ W0 a1;obtain⟨a5,b3,HZ⟩:=Yc Z a0 a3;clear a1 a0 a6 a3 a4;refine(b7.o W0 Z).mono ?_;rintro e w1 ⟨sl,so,rfl,b4,a7⟩;have I:=b3.o.ext b4;obtain⟨q0,q1,q2,q3,q4,q5⟩:=I.c6;have f2:=I.frozen;have lb:=I.lt;obtain⟨c4,c3⟩:=Yb b4 a7;clear I b4 a7 Z b7;go_wp2_with fail;refine ee (v:=.tuple #[QbV (N.getD zeroV) sl so,.bool N.isSome]) (by simp[results,results196,go_sem,q0,q1,q2,q3,q4,q5]) rfl ?_;exact Qel (a5.o.trans c4.o) (b:=w.heap.size) (lo:=W0.heap.size) oM (by rw[HZ.o];omega) c3.o
 | some s=>
   rw[Qmp hg];have hs:=(h.vals (k,s) (QeJ hg)).2;have hv:s.opt.getD zeroV=s.v/\s.opt.isSome=s.has:=Qtz hs;simp only[hg,Qiw,Option.getD_some,Option.isSome_some]at a4;have b5:=λW (hW:Ext w W)=>QdS _ s.v (an _) W s.sl s.so ((hs.1.agree (hW.agree λb I=>I.1)).mono λb I=>ab I.1 hW.size)
   obtain⟨N,b6⟩:∃N,s.opt=N:=⟨_,rfl⟩;rw[b6]at hv ⊢;obtain⟨c7,v,sl,so⟩:=s;obtain⟨rfl,rfl⟩:=hv;have b8:=hY b5;clear b5 h hg hs b6;go_in;go_wp2_with fail;generalize a1:World.alloc _ _=W0;obtain⟨Z,a3,a0,a6⟩:=Qas w _ _ _ _ W0 a1;have a2:=hY (show ∀W,St (λb=>b=w.heap.size) W0 W->W.cell? ⟨w.heap.size+1,0,none⟩=some (.bool N.isSome)/\W.cell? ⟨w.heap.size+1,1,none⟩=some (.int .i64 (N.getD zeroV).kind)/\W.cell? ⟨w.heap.size+1,2,none⟩=some (.bool (N.getD zeroV).b)/\W.cell? ⟨w.heap.size+1,3,none⟩=some (.int .i64 (N.getD zeroV).i)/\W.cell? ⟨w.heap.size+1,4,none⟩=some (.string (N.getD zeroV).t)/\W.cell? ⟨w.heap.size+1,5,none⟩=some (.slice sl.a (N.getD zeroV).l.length sl.c)/\W.cell? ⟨w.heap.size+1,6,none⟩=some (.slice so.a (N.getD zeroV).ok.length so.c)from
    λW hW=>by
     have I:=hW.blk a6 oM;exact⟨I.cell 0,I.cell 1,I.cell 2,I.cell 3,I.cell 4,I.cell 5,I.cell 6⟩)
   obtain⟨a5,b3,HZ⟩:=Yc Z a0 a3;have l0:=a0.lt;clear a1 Z a0 a6 a3 a4;refine ef (S:=(λw'=>St (λb=>b=w.heap.size) W0 w')) kM (((fE _ W0).drew)) (λhHeld=>?_);refine Qaf 0 (some 21) a2 hHeld ?_;refine Qaf 1 (some 22) a2 hHeld ?_;refine Qaf 3 (some 24) a2 hHeld ?_;refine Qaf 4 (some 25) a2 hHeld ?_;refine Qac (i:=2) kM rfl (by rfl) (λK hK=>?_);go_simp
   (refine(b8.o _ (a5.o.drew)).mono ?_;rintro e w2 ⟨c2,b9,rfl,a8,a7⟩;have b0:=(b3.o.ext ((fr W0).drew)).ext a8;obtain⟨q0,q1,q2,q3,q4,q5⟩:=b0.c6;have f2:=b0.frozen;have lb:=b0.lt)
   refine hK.out _ _ (hHeld.ext a8) (λhHeld=>?_);clear hK K
   try go_frame
   refine Qac (i:=5) kM rfl (by rfl) (λK hK=>?_);go_simp
   skip
   refine hK.out _ _ (hHeld.QdE (.inr rfl) 0 _ _ _) (λhHeld=>?_);clear hK K
   try go_frame
   refine Qaf 6 (some 5) a2 hHeld ?_;refine ev kM ?_ _;go_wp2_with fail;refine ee (v:=.tuple #[QbV (N.getD zeroV) c2 b9,.bool N.isSome]) (by simp[results,results196,go_sem,q0,q1,q2,q3,q4,q5]) rfl ?_;exact Qel ((a5.o.drew).trans a8) (b:=w.heap.size) (lo:=W0.heap.size) oM (by rw[HZ.o];omega) a7
def QuG(R:Act->World->Prop):Exit->Act->World->Prop
 |.normal,a,w=>R a w
 |_,_,_=>False
variable{R:Act->World->Prop}
theorem QiN(h:R a w):QuG R .normal a w:=h
def QsH(tm:Array Value):List (Nat × Value)->Array Value
 |[]=>tm
 |(i,v)::l=>QsH (tm.setIfInBounds i v) l
theorem QmL{c:Code}{α:Type}(Rw:World->α->Prop)(Z:List Nat)(I:α->List (Nat × Value))
  (h1:c.wp P (QuG λN w'=>∃x,Rw w' x/\N.defers=a.defers/\N.tmps=QsH a.tmps ((Z.map λd=>(d,N.tmps.getD d undef))++I x)) a w)
  (h2:∀(w':World) (x:α) (vs:Nat->Value),Rw w' x->Q .normal { tmps:=QsH a.tmps ((Z.map λd=>(d,vs d))++I x),defers:=a.defers } w'):c.wp P Q a w:=
 wp_mono h1 λe N w' h=>by
  cases e with
  | normal=>
    obtain⟨x,hr,hd,ht⟩:=h;have:=h2 w' x (λd=>N.tmps.getD d undef) hr;rw[<-ht,<-hd]at this;exact this
  |_=>exact h.elim
theorem QmH(w:World)(N t1:TypeId)(Z I:Array Value):∀W,((w.alloc (.cells Z N)).alloc (.cells I t1)).drew=W->
  Ext w W/\W.heap.size=w.heap.size+2/\Blk W w.heap.size N Z/\Blk W (w.heap.size+1) t1 I:=by
 rintro W rfl;obtain⟨hx,hz,h0,h1⟩:=Qas w N t1 Z I _ rfl;exact⟨hx.drew,hz,h0,h1⟩
theorem QqB{t t0 I N:TypeId}{cs c0 Z c2:Array Value}(hb:Blk w O t cs):∀W,((((w.setCell ⟨O,1,none⟩ (.map (some (w.heap.size+1+1+1)))).alloc (.cells c0 t0)).alloc (.cells Z I)).alloc (.cells c2 N)).alloc (.map #[] 0)=W->
  Sb (λc=>c=O) w W/\w.heap.size+3<=W.heap.size/\Blk W O t (cs.setIfInBounds 1 (.map (some (w.heap.size+1+1+1))))/\Blk W w.heap.size t0 c0/\Blk W (w.heap.size+1) I Z/\Blk W (w.heap.size+1+1) N c2/\W.ownsMap prog 9 QeO (w.heap.size+1+1+1) 0 (mapA SV.val []):=by
 rintro W rfl;have hz:(w.setCell ⟨O,1,none⟩ (.map (some (w.heap.size+1+1+1)))).heap.size=w.heap.size:=ed _ _ _;have a0:Sb (λc=>c=O) w (w.setCell ⟨O,1,none⟩ (.map (some (w.heap.size+1+1+1)))):=(fA (λc=>c=O) w).set (p:=⟨O,1,none⟩) (.inr rfl) _;have a1:=hb.QbH 1 (.map (some (w.heap.size+1+1+1)));generalize w.setCell ⟨O,1,none⟩ (.map (some (w.heap.size+1+1+1)))=W0 at *;obtain⟨hx,a2,h0,h1,h2⟩:=Qal W0 t0 I N c0 Z c2 _ rfl;rw[hz]at h0 h1 h2 a2;generalize ((W0.alloc (.cells c0 t0)).alloc (.cells Z I)).alloc (.cells c2 N)=W3 at *;have hm:=World.ownsMap_made W3 prog 9 QeO;rw[show W3.heap.size=w.heap.size+1+1+1 by omega]at hm;exact⟨(a0.trans (hx.sb _)).trans (Sb.made (World.grownBy_alloc _ _ _)),by simp;omega,(a1.ext hx).alloc _,h0.alloc _,h1.alloc _,h2.alloc _,hm⟩
variable{sv:SV}
theorem QmF(h:QcK H w O d)(hH:∀b,H b->b<w.heap.size)(hn:d.us.length<=1000000){k:ByteArray}(hk:k.size<=maxLen)(g6:QkU w (OvF H w O d) sv) :
  Calls prog 195 #[.pointer (some ⟨O,0,none⟩),.string k,sv.val] w (Qq0 H O d k sv w):=by
 obtain⟨i0,hi,d6,j5,j1⟩:=em Tryz.Qul;have k9:=@run_makeMap prog;have k5:∀(w:World) (r:Option Nat),(binOp .eql 181 (.map r) (.map none)).run prog w=.ok (.bool r.isNone) w:=λw r=>run_eql_map_nil w _ _ _ r underlying181
 have c1:w.cell? ⟨O,1,none⟩=some (.map d.mb):=h.blk.cell 1;have f1:=h.blk.frozen 1;have lO:=h.blk.lt;have f9:∀i,d.s.row=some i->i<w.heap.size:=λi hi=>h.Qko hi
 obtain⟨a9,i3,g3,b3⟩:=Ye h hH g6 f9;clear h hH g6 f9;obtain⟨b6,v,sl,so⟩:=sv;show Calls _ _ #[_,_,.agg #[.bool b6,.int .i64 v.kind,.bool v.b,.int .i64 v.i,.string v.t,.slice sl.a v.l.length sl.c,.slice so.a v.ok.length so.c]] _ _;have l1:O<w.heap.size+1:=oM
 have l2:O<w.heap.size+1+1:=oM
 go_in;go_upto_if 12 with fail;go_cut [] (λwc=>∃b,Qou H w O d k ⟨b6,v,sl,so⟩ b wc)
 case first=>
  obtain⟨mb,d0⟩:∃mb,d.mb=mb:=⟨_,rfl⟩;rw[d0]at c1 ⊢;have e8:=hY d0;clear d0;rcases mb with _|b
  ·go_wp2_with fail
   generalize b4:World.alloc _ _=W0;obtain⟨b8,d6,j2,f6,a5,a7,a3⟩:=QqB a9.o.blk W0 b4;clear b4;go_meet;have e2:=a9.o.made e8.o (b:=w.heap.size+1+1+1) oM i3.o b8 j2 a3;refine⟨_,e2,b8.mono λi _ h=>.inl h,.inr oM,d6,f6,a5,a7,?_⟩;refine(g3.o.agree (λi hi=>b8.block i hi.1 λe=>hi.2.1 (.inl e))).mono λi hi=>⟨Nat.lt_of_lt_of_le hi.1 b8.size,λe=>?_,hi.2.2⟩
   rcases e with e|e|e
   .exact hi.2.1 (.inl e)
   ·have e:some (w.heap.size+1+1+1)=some i:=e
    injection e with e;have:=hi.1;omega
   exact hi.2.1 (.inr (.inr e))
  go_wp2_with fail;generalize b4:World.alloc _ _=W0;obtain⟨c4,k4,f6,a5,a7⟩:=Qal w _ _ _ _ _ _ W0 b4;clear b4;go_meet;have e2:=a9.o.ext c4;have hd:d={ d with mb:=some b }:=by rw[<-e8.o]
  refine⟨b,by rw[<-hd];exact e2,c4.sb _,.inl e8.o,oM,f6,a5,a7,?_⟩;rw[<-hd];exact(g3.o.agree (c4.agree λb hb=>hb.1)).mono λi hi=>⟨Nat.lt_of_lt_of_le hi.1 c4.size,hi.2⟩
 obtain⟨b,hM⟩:=hcut;have e3:∀W,Ext wc W->(Instr.lookup 181 (.map (some b)) (.string k) true).run prog W=.ok (.tuple #[(Qiw d.C k).val,.bool (QaZ d.C k).isSome]) W:=λW hW=>
  Qlg (hM.at_.ext hW).map hk
 obtain⟨o,ho⟩:∃o,Qiw d.C k=o:=⟨_,rfl⟩;obtain⟨g,hg⟩:∃g,(QaZ d.C k).isSome=g:=⟨_,rfl⟩;rw[ho,hg]at e3;obtain⟨oh,ov,b9,c6⟩:=o;obtain⟨HO,HG⟩:=Yb ho hg;have i6:O<wc.heap.size:=hM.at_.blk.lt;have k3:=hM.big;have HM:=hY hM;have I:=hY (show ∀W,Ext wc W->W.cell? ⟨w.heap.size,0,none⟩=some (.pointer (some ⟨O,0,none⟩))/\W.cell? ⟨O,1,none⟩=some (.map (some b))/\W.cell? ⟨w.heap.size+1,0,none⟩=some (.string k)/\
   (Instr.lookup 181 (.map (some b)) (.string k) true).run prog W=.ok (.tuple #[.agg #[.bool oh,.int .i64 ov.kind,.bool ov.b,.int .i64 ov.i,.string ov.t,.slice b9.a ov.l.length b9.c,.slice c6.a ov.ok.length c6.c],.bool g]) W from
  λW hW=>⟨(hM.bo.ext hW).cell 0,((hM.at_.ext hW).blk).cell 1,(hM.bk.ext hW).cell 0,e3 W hW⟩)
 clear hM e3 ho hg c1 f1 l1 l2;go_wp2_with fail;refine QmL (α:=Nat × Nat) (λw' x=>Ext wc w'/\(wc.heap.size<=x.1/\x.1<w'.heap.size)/\(wc.heap.size<=x.2/\x.2<w'.heap.size)/\Blk w' x.1 192 #[.bool oh,.int .i64 ov.kind,.bool ov.b,.int .i64 ov.i,.string ov.t,.slice b9.a ov.l.length b9.c,.slice c6.a ov.ok.length c6.c]/\Blk w' x.2 4 #[.bool g]) [17,18,19,20,21,22,23,24,25] (λx=>[(6,.pointer (some ⟨x.1,0,none⟩)),(7,.pointer (some ⟨x.2,0,none⟩))]) ?h1 ?h2
 case h1=>
  refine ef (S:=(λw'=>Ext wc w')) kM (((fr wc).drew)) (λhHeld=>?_);refine Qaf 0 (some 18) I hHeld ?_;refine Qaf 1 (some 19) I hHeld ?_;refine Qaf 2 (some 20) I hHeld ?_;refine Qaf 3 (some 21) I hHeld ?_;refine Qaf 4 (some 22) I hHeld ?_;refine Qaf 5 (some 23) I hHeld ?_;refine Qaf 6 (some 17) I hHeld ?_;refine Qaf 7 (some 24) I hHeld ?_;refine Qaf 8 (some 25) I hHeld ?_;refine Qix (i:=9) (j:=10) kM rfl rfl (by rfl) (by rfl) (λK N=>?_) (λK N=>?_)
  ·go_simp
   skip
   refine N.out _ _ ((by first|exact(((fr _).drew).alloc _ _).alloc _ _|exact((fr _).drew).alloc _ _)) (λhHeld=>?_);clear N K
   try go_frame
   refine Qac (i:=10) kM rfl (by rfl) (λK N=>?_);go_simp
   skip
   refine N.out _ _ ((by first|exact(((fr _).drew).alloc _ _).alloc _ _|exact((fr _).drew).alloc _ _)) (λhHeld=>?_);clear N K
   try go_frame
   refine Qac (i:=11) kM rfl (by rfl) (λK N=>?_);go_simp
   skip
   refine N.out _ _ ((by first|exact(((fr _).drew).alloc _ _).alloc _ _|exact(((fr _).alloc _ _).alloc _ _).drew)) (λhHeld=>?_);clear N K
   try go_frame
   refine Qac (i:=12) kM rfl (by rfl) (λK N=>?_);go_simp
   skip
   refine N.out _ _ ((by first|exact(((fr _).drew).alloc _ _).alloc _ _|exact(((fr _).alloc _ _).alloc _ _).drew)) (λhHeld=>?_);clear N K
   try go_frame
   refine ev kM ?_ _;generalize d7:World.drew _=Z;obtain⟨a0,i5,a5,a7⟩:=QmH wc _ _ _ _ Z d7;refine QiN ⟨(wc.heap.size,wc.heap.size+1),⟨a0,⟨Nat.le_refl _,by show wc.heap.size<_;omega⟩,⟨Nat.le_succ _,by show wc.heap.size+1<_;omega⟩,a5,a7⟩,kM,?_⟩;simp only[QsH,List.map_cons,List.map_nil,List.cons_append,List.nil_append,List.setIfInBounds_toArray,List.set_cons_zero,List.set_cons_succ]
   kernel_rfl
  go_simp
  skip
  refine N.out _ _ ((by first|exact(((fr _).drew).alloc _ _).alloc _ _|exact((fr _).drew).alloc _ _)) (λhHeld=>?_);clear N K
  try go_frame
  refine Qac (i:=9) kM rfl (by rfl) (λK N=>?_);go_simp
  skip
  refine N.out _ _ ((by first|exact(((fr _).drew).alloc _ _).alloc _ _|exact((fr _).drew).alloc _ _)) (λhHeld=>?_);clear N K
  try go_frame
  refine Qac (i:=11) kM rfl (by rfl) (λK N=>?_);go_simp
  skip
  refine N.out _ _ ((by first|exact(((fr _).drew).alloc _ _).alloc _ _|exact(((fr _).alloc _ _).alloc _ _).drew)) (λhHeld=>?_);clear N K
  try go_frame
  refine Qac (i:=12) kM rfl (by rfl) (λK N=>?_);go_simp
  skip
  refine N.out _ _ ((by first|exact(((fr _).drew).alloc _ _).alloc _ _|exact(((fr _).alloc _ _).alloc _ _).drew)) (λhHeld=>?_);clear N K
  try go_frame
  refine ev kM ?_ _;generalize d7:World.drew _=Z;obtain⟨a0,i5,a5,a7⟩:=QmH wc _ _ _ _ Z d7;refine QiN ⟨(wc.heap.size+1,wc.heap.size),⟨a0,⟨Nat.le_succ _,by show wc.heap.size+1<_;omega⟩,⟨Nat.le_refl _,by show wc.heap.size<_;omega⟩,a7,a5⟩,kM,?_⟩;simp only[QsH,List.map_cons,List.map_nil,List.cons_append,List.nil_append,List.setIfInBounds_toArray,List.set_cons_zero,List.set_cons_succ]
  kernel_rfl
 rintro Z ⟨bd,bw⟩ uu ⟨a0,f0,e1,d3,f4⟩;simp only[QsH,List.map_cons,List.map_nil,List.cons_append,List.nil_append,List.setIfInBounds_toArray,List.set_cons_zero,List.set_cons_succ];dsimp only at f0 e1 d3 f4;have b5:=HM.o.at_.blk.ext a0;have c2:Z.cell? ⟨O,2,none⟩=some (.slice d.s.a d.us.length d.s.c):=b5.cell 2;have f2:=b5.frozen 2;have f3:=b5.lt;have e6:=HM.o.bo.ext a0;have c3:Z.cell? ⟨w.heap.size,0,none⟩=some (.pointer (some ⟨O,0,none⟩)):=e6.cell 0;have l3:=e6.lt;obtain⟨xs,hl,a3,i2⟩:=HM.o.at_.row;obtain⟨HL,i7,j6⟩:=Yc (show xs.length=d.us.length from hl) i2 (show ∀W,Ext Z W->W.ownsRow 0 1 1 (.slice d.s.a d.us.length d.s.c) d.us.length xs fromλW hW=>Qab a3 ((a0.trans hW).agree λb (hb:b<wc.heap.size)=>hb) λb hb=>(Qad a3 hb).2);have i4:d.s.row≠some O:=HM.o.at_.ne.2.1;have j9:d.s.row≠some w.heap.size:=λe=>by have:=b3.o _ e;omega
 have c7:∀u∈[QkE bw bd w.heap.size (w.heap.size+1)],u.oneCell'=true:=by simp[Value.oneCell']
 have i1:d.us.length+1<=maxLen:=by unfold maxLen;omega
 have g5:(d.us.length+1)*8<=140737488355328:=oM
 obtain⟨g7,j0,j4,i8,j8⟩:=Yf a0 d3 f4 e1 f0;clear d3 f4 e1 f0 b5 e6 hl i2 a3 a0 I;go_wp2_with fail;refine QmL (α:=Sl × World × World) (λw' x=>Ext Z x.2.1/\x.2.2.ownsRow 0 1 1 (.slice x.1.a (d.us.length+1) x.1.c) (d.us.length+1) (xs++[QkE bw bd w.heap.size (w.heap.size+1)])/\Wr x.2.1 x.2.2 d.s.row/\(x.1.a=d.s.a\/x.1.a=some ⟨x.2.1.heap.size,0,none⟩/\Wr x.2.1 x.2.2 none)/\w'=x.2.2.setCell ⟨O,2,none⟩ (.slice x.1.a (d.us.length+1) x.1.c)) [26,27,28,29,30,31,32,33,34,35] (λ_=>[]) ?g1 ?g2
 case g1=>
  go_region_law (refine Qdi _ rfl (.tmp 30) (.tmp 32) 182 rfl 0 1 i0 _ 1 8 underlying182 hi d6 j5 j1 rfl oN d.s d.us.length xs (by rfl) (j6.o _ (by first|exact((fr Z).drew).alloc _ _|exact((fr Z).alloc _ _).drew)) (λb=>b=Z.heap.size) ⟨some ⟨Z.heap.size,0,none⟩,1⟩ 1 [QkE bw bd w.heap.size (w.heap.size+1)] (by rfl) (fF (fu _ _ _) oN rfl) c7 i1 g5 (aH _) ?_;intro s5 w5 b0 a4 a8;have e4:=a4.cell0 (w:=Z) (o:=2) (by first|exact((fr Z).drew).alloc _ _|exact((fr Z).alloc _ _).drew) i4 f3;have k6:=e4.1.trans c2;have k8:=e4.2;have g8:=a4.cell0 (w:=Z) (o:=0) (by first|exact((fr Z).drew).alloc _ _|exact((fr Z).alloc _ _).drew) j9 l3;have k7:=g8.1.trans c3;have f5:w5.frozen? ⟨O,2,none⟩=false:=(a4.fz _ _).trans (((by first|exact((fr Z).drew).alloc _ _|exact((fr Z).alloc _ _).drew:Ext Z _).frozen (o:=2) f3).trans f2);have e0:=hY b0;have f7:=hY a4;have d4:=hY a8;clear b0 a4 a8 e4 g8)
  all_goals
   refine QiN ⟨(s5,_,w5),⟨by first|exact((fr Z).drew).alloc _ _|exact((fr Z).alloc _ _).drew,e0.o,f7.o,d4.o,rfl⟩,kM,?_⟩;simp only[QsH,List.map_cons,List.map_nil,List.append_nil,List.cons_append,List.nil_append,List.setIfInBounds_toArray,List.set_cons_zero,List.set_cons_succ]
   kernel_rfl
 rintro w6 ⟨s5,W5,w5⟩ vv ⟨c0,d8,a1,a8,rfl⟩;simp only[QsH,List.map_cons,List.map_nil,List.append_nil,List.cons_append,List.nil_append,List.setIfInBounds_toArray,List.set_cons_zero,List.set_cons_succ];dsimp only at c0 d8 a1 a8;have b7:Ext wc W5:=g7.o.trans c0;have a2:Sb (λc=>c=O\/d.s.row=some c) wc (w5.setCell ⟨O,2,none⟩ (.slice s5.a (d.us.length+1) s5.c)):=
  ((b7.sb _).trans ⟨a1.grown.os,a1.grown.tape,a1.grown.output,a1.grown.size,λi hi hn=>a1.grown.block i hi λe=>hn (.inr e.symm)⟩).trans ((fA _ w5).set (p:=⟨O,2,none⟩) (.inr (.inl rfl)) _)
 have c8:Blk w5 O 184 #[QaK d.T,.map (some b),.slice d.s.a d.us.length d.s.c]:=(a1.agree (F:=λc=>c=O) (λi hi=>by rw[hi];exact ab i6 b7.size) (λi hi e=>i4 (by rw[hi,e])) O rfl).trans (HM.o.at_.blk.ext b7);have e7:=c8.QbH 2 (.slice s5.a (d.us.length+1) s5.c);have g4:¬O=b:=λe=>HM.o.at_.ne.1 (by rw[e])
 have n0:=Qbp.ne HM.o.at_.map HM.o.bo;have n1:=Qbp.ne HM.o.at_.map HM.o.bk;have n2:=Qbp.ne HM.o.at_.map HM.o.bs;have k0:=a2.blk HM.o.bo (λe=>by
  rcases e with e|e
  .omega
  have:=b3.o _ e;omega)
 have k1:=a2.blk HM.o.bk (λe=>by
  rcases e with e|e
  .omega
  have:=b3.o _ e;omega)
 have k2:=a2.blk HM.o.bs (λe=>by
  rcases e with e|e
  .omega
  have:=b3.o _ e;omega)
 have a6:Qbp (w5.setCell ⟨O,2,none⟩ (.slice s5.a (d.us.length+1) s5.c)) (some b) d.C:=HM.o.at_.map.heap λi hi=>by
  injection hi with hi;subst hi;exact a2.block b (HM.o.at_.map.lt rfl) λe=>by
   rcases e with e|e
   .exact g4 e.symm
   exact HM.o.at_.ne.2.2 b rfl e
 obtain⟨j7,e0,f7,d4⟩:=Ye c0 d8 a1 a8;obtain⟨W6,c9⟩:∃W6,w5.setCell ⟨O,2,none⟩ (.slice s5.a (d.us.length+1) s5.c)=W6:=⟨_,rfl⟩;rw[c9]at e7 k0 k1 k2 a6 ⊢;obtain⟨j3,f8⟩:=Yb c9 a6;have I:=hY (show ∀W,Sb (λc=>c=b) W6 W->W.cell? ⟨w.heap.size,0,none⟩=some (.pointer (some ⟨O,0,none⟩))/\W.cell? ⟨O,1,none⟩=some (.map (some b))/\W.cell? ⟨w.heap.size+1,0,none⟩=some (.string k)/\W.cell? ⟨w.heap.size+1+1,0,none⟩=some (.bool b6)/\W.cell? ⟨w.heap.size+1+1,1,none⟩=some (.int .i64 v.kind)/\W.cell? ⟨w.heap.size+1+1,2,none⟩=some (.bool v.b)/\W.cell? ⟨w.heap.size+1+1,3,none⟩=some (.int .i64 v.i)/\W.cell? ⟨w.heap.size+1+1,4,none⟩=some (.string v.t)/\W.cell? ⟨w.heap.size+1+1,5,none⟩=some (.slice sl.a v.l.length sl.c)/\W.cell? ⟨w.heap.size+1+1,6,none⟩=some (.slice so.a v.ok.length so.c)from
  λW hW=>⟨(hW.blk k0 n0).cell 0,(hW.blk e7 g4).cell 1,(hW.blk k1 n1).cell 0,(hW.blk k2 n2).cell 0,(hW.blk k2 n2).cell 1,(hW.blk k2 n2).cell 2,(hW.blk k2 n2).cell 3,(hW.blk k2 n2).cell 4,(hW.blk k2 n2).cell 5,(hW.blk k2 n2).cell 6⟩)
 have i9:d.C.length<maxLen:=by have:=a9.o.few;unfold maxLen;omega
 clear b7 a2 c8 e7 n0 n1 n2 k0 k1 k2 a6 c0 d8 a1 a8 c9 c2 f2 f3 c3 l3 c7 i1 g5;go_wp2_with fail;refine ef (S:=(λw'=>Sb (λc=>c=b) W6 w')) kM (((fA _ W6).drew)) (λhHeld=>?_);refine Qaf 0 (some 36) I hHeld ?_;refine Qaf 1 (some 37) I hHeld ?_;refine Qaf 2 (some 38) I hHeld ?_;refine Qaf 3 (some 39) I hHeld ?_;refine Qaf 4 (some 40) I hHeld ?_;refine Qaf 5 (some 41) I hHeld ?_;refine Qac (i:=6) kM rfl (by rfl) (λK N=>?_)
 skip
 (refine Qj9 (b:=b) (C:=d.C) (k:=k) (s:=⟨b6,v,sl,so⟩) rfl rfl rfl rfl (f8.o.heap λ_ _=>rfl) hk i9 a9.o.sorted ?_;intro w7 d5 g9)
 refine N.out _ _ (hHeld.trans g9) (λhHeld=>?_);clear N K
 try go_frame
 refine ev kM ?_ _;have h7:Sb (λc=>c=b) (w5.setCell ⟨O,2,none⟩ (.slice s5.a (d.us.length+1) s5.c)) w7:=by rw[j3.o];exact hHeld
 have g0:=step_end HM.o lO b3.o i3.o hk g7.o i8.o j8.o (by rw[HO.o];exact j0.o) (by rw[HG.o];exact j4.o) j7.o HL.o i7.o e0.o f7.o d4.o d5 h7;go_end0;exact⟨⟨_,rfl⟩,_,_,g0⟩
abbrev Nw(w w':World):Prop:=Sb (λ_=>False) w w'
theorem Nw.any(h:Nw w w')(H:Nat->Prop):Sb H w w':=h.mono λ_ _ e=>e.elim
theorem Nw.blk(h:Nw w w'){t:TypeId}{cs:Array Value}(I:Blk w g t cs):Blk w' g t cs:=Sb.blk h I λe=>e
theorem Nw.agree{w w':World}(h:Nw w w'){F:Nat->Prop}(hF:∀b,F b->b<w):Agree F w w':=λb I=>h.block b (hF b I) λe=>e
theorem Nw.of{w w':World}(h:Ext w w'):Nw w w':=h.sb _
section
variable{H : Nat -> Prop}{w w' : World}{O : Nat}{d d' : OD}
theorem QcK.nw(h:QcK H w O d)(k:Nw w w'):QcK H w' O d:=h.sb k λ_ I=>I.elim
theorem Qok.after{w0:World}(h:Qok H w O d d' w')(k:Nw w0 w):Qok H w0 O d d' w':=
 ⟨h.at_,(k.any _).trans h.sb,λb I=>(h.new b I).imp id λN=>am k.size N⟩
def OD.step(d:OD)(k:ByteArray)(sv:SV)(mb:Option Nat)(s:Sl):OD:=⟨d.T,mb,s,d.us++[⟨k,QaZ d.C k⟩],d.Hs++[QcX d.C k sv],QcX d.C k sv⟩
end
def QlM(H:Nat->Prop)(O:Nat)(d:OD)(k:ByteArray)(w:World)(e:Ending)(w':World):Prop:=
 e=.returned (.bool (d.now k).isSome)/\(((d.now k).isSome=false/\Nw w w')\/((d.now k).isSome=true/\∃mb s,Qok H w O d (d.step k QhY mb s) w'))
theorem QoZ(h:QcK H w O d)(hH:∀b,H b->b<w)(hn:d.us.length<=1000000)(hl:(Qaa d.T).length<=1000000){k:ByteArray}(hk:k.size<=maxLen) :
  Calls prog 168 #[.pointer (some ⟨O,0,none⟩),.string k] w (QlM H O d k w):=by
 have hg:=QsA h hl hk;have N:=λW (hW:Ext w W)=>QmF (h.ext hW) (λb hb=>ab (hH b hb) hW.size) hn hk (sv:=QhY) ⟨Qdd _ _,λ_=>rfl⟩
 unfold QlM;generalize d.now k=og at *;obtain⟨a3,HG⟩:=Yb N hg;clear h hH N hg;go_in;go_wp2_with fail;refine HG.o.mono ?_;rintro e w1 ⟨sl,so,rfl,a0,-⟩;have a1:=hY a0;clear a0;cases og with
 | none=>
   go_wp2_with fail;go_ret;exact⟨rfl,.inl ⟨rfl,Nw.of (a1.o.alloc _ _)⟩⟩
 | some v=>
   go_wp2_with fail;have I:=a1.o.alloc (w:=w1) #[.int .i64 v.kind,.bool v.b,.int .i64 v.i,.string v.t,.slice sl.a v.l.length sl.c,.slice so.a v.ok.length so.c] 34;refine(a3.o _ I).mono ?_;rintro e w3 ⟨⟨r,rfl⟩,mb,s,Z⟩;have a2:=hY (Z.after (Nw.of I));clear Z I;go_wp2_with fail;go_ret;exact⟨rfl,.inr ⟨rfl,mb,s,a2.o⟩⟩
variable{sl so:Sl}
theorem QnL{k:ByteArray}{v:Val}{c:Int}(I:∀W,Nw w W->Calls prog 194 #[.string k] W λe w'=>e=.returned (.int .i64 c)/\Nw W w')(hc:c≠0) :
  Calls prog 167 #[.pointer (some ⟨O,0,none⟩),.string k,QbV v sl so] w λe w'=>e=.returned (.int .i64 8)/\Nw w w':=by
 have HM:=hY I;have g0:(c != 0)=true:=eF.2 hc;clear I hc;go_in;go_wp2_with fail;have N:Ext w (w.alloc (.cells #[.int .i64 v.kind,.bool v.b,.int .i64 v.i,.string v.t,.slice sl.a v.l.length sl.c,.slice so.a v.ok.length so.c] 34)):=(fr w).alloc _ _;refine(HM.o _ (Nw.of N)).mono ?_;rintro e w1 ⟨rfl,Z⟩;have a0:=hY ((Nw.of N).trans Z);clear N Z;go_wp2_with fail;go_ret;exact⟨rfl,a0.o⟩
theorem Qqg{k:ByteArray}{v:Val}{c:Int}(I:∀W,Nw w W->Calls prog 194 #[.string k] W λe w'=>e=.returned (.int .i64 0)/\Nw W w')
  (Z:∀W,Nw w W->Calls prog 193 #[QbV v sl so] W λe w'=>e=.returned (.int .i64 c)/\Nw W w') (hc:c≠0) :
  Calls prog 167 #[.pointer (some ⟨O,0,none⟩),.string k,QbV v sl so] w λe w'=>e=.returned (.int .i64 c)/\Nw w w':=by
 obtain⟨HM,HF⟩:=Yb I Z;have g0:(c != 0)=true:=eF.2 hc;clear I hc Z;go_in;go_wp2_with fail;have a0:Ext w (w.alloc (.cells #[.int .i64 v.kind,.bool v.b,.int .i64 v.i,.string v.t,.slice sl.a v.l.length sl.c,.slice so.a v.ok.length so.c] 34)):=(fr w).alloc _ _;have a3:=fu w 34 #[.int .i64 v.kind,.bool v.b,.int .i64 v.i,.string v.t,.slice sl.a v.l.length sl.c,.slice so.a v.ok.length so.c];refine(HM.o _ (Nw.of a0)).mono ?_;rintro e w1 ⟨rfl,a1⟩;obtain⟨q0,q1,q2,q3,q4,q5⟩:=(a1.blk a3).c6;have N:=(Nw.of a0).trans a1;have a4:=hY N;clear a0 a1 N a3;go_wp2_with fail;refine(HF.o _ a4.o).mono ?_;rintro e w2 ⟨rfl,a2⟩;have a5:=hY (a4.o.trans a2);clear a2 q0 q1 q2 q3 q4 q5;go_wp2_with fail;go_ret;exact⟨rfl,a5.o⟩
def QqZ(H:Nat->Prop)(O:Nat)(d:OD)(k:ByteArray)(v:Val)(w:World)(e:Ending)(w':World):Prop:=
 e=.returned (.int .i64 0)/\∃sl so mb s,Qok H w O d (d.step k ⟨true,v,sl,so⟩ mb s) w'
theorem QuM(h:QcK H w O d)(hH:∀b,H b->b<w)(hn:d.us.length<=1000000){k:ByteArray}(hk:k.size<=maxLen){v:Val}(hv:RV w (Lt w) v sl so)
  (a2:∀W,Nw w W->Calls prog 194 #[.string k] W λe w'=>e=.returned (.int .i64 0)/\Nw W w')
  (a1:∀W,Nw w W->Calls prog 193 #[QbV v sl so] W λe w'=>e=.returned (.int .i64 0)/\Nw W w') :
  Calls prog 167 #[.pointer (some ⟨O,0,none⟩),.string k,QbV v sl so] w (QqZ H O d k v w):=by
 have b3:=λW (hW:Nw w W) sv hsv=>QmF (h.nw hW) (λb hb=>ab (hH b hb) hW.size) hn hk (sv:=sv) hsv
 have b9:=λW (hW:Nw w W)=>QdS _ v (an _) W sl so ((hv.agree (hW.agree λb hb=>hb)).mono λb hb=>ab hb hW.size)
 have a0:∀b,OvB O d b->b<w:=λb hb=>h.Qbe hb
 obtain⟨HM,HF,b8,b4,b5,c8⟩:=Yg a2 a1 b3 b9 a0 hH;clear a2 a1 h hv b3 b9 a0 hH;go_in;go_wp2_with fail;have a7:Ext w (w.alloc (.cells #[.int .i64 v.kind,.bool v.b,.int .i64 v.i,.string v.t,.slice sl.a v.l.length sl.c,.slice so.a v.ok.length so.c] 34)):=(fr w).alloc _ _;have c3:=fu w 34 #[.int .i64 v.kind,.bool v.b,.int .i64 v.i,.string v.t,.slice sl.a v.l.length sl.c,.slice so.a v.ok.length so.c];refine(HM.o _ (Nw.of a7)).mono ?_;rintro e w1 ⟨rfl,a8⟩;have a6:=a8.blk c3;obtain⟨q0,q1,q2,q3,q4,q5⟩:=a6.c6;have a4:=(Nw.of a7).trans a8;obtain⟨c4,b0⟩:=Yb a4 a6;clear a7 a8 a4 c3 a6 HM;go_wp2_with fail;refine(HF.o _ c4.o).mono ?_;rintro e w2 ⟨rfl,a5⟩;have b7:=a5.blk b0.o;have a3:=c4.o.trans a5;have Z:=hY a3;clear a5 q0 q1 q2 q3 q4 q5 b0 HF;obtain⟨q0,q1,q2,q3,q4,q5⟩:=b7.c6;clear b7 a3;go_wp2_with fail;refine(b4.o _ Z.o).mono ?_;rintro e w3 ⟨sl',so',rfl,c0,c1⟩;have I:=Z.o.trans (Nw.of c0);have b6:QkU w3 (OvF H w3 O d) ⟨true,v,sl',so'⟩:=⟨c1.mono λi hi=>⟨hi.2,λe=>by have:=b5.o i e;have:=Z.o.size;have:=hi.1;omega,λe=>by have:=c8.o i e;have:=Z.o.size;have:=hi.1;omega⟩,λe=>by cases e⟩;have N:=b8.o w3 I _ b6;obtain⟨c9,a9⟩:=Yb I N;clear c0 c1 I b6 N q0 q1 q2 q3 q4 q5 b4 b8;go_wp2_with fail;refine a9.o.mono ?_;rintro e w4 ⟨⟨r,rfl⟩,mb,s,c2⟩;have c7:=hY (c2.after c9.o);clear c2;go_wp2_with fail;go_ret;exact⟨rfl,sl',so',mb,s,c7.o⟩
abbrev ft:=@Nw.of
abbrev fC:=@Nw.agree
end Go.Proofs.YtdiecmkpbadgjaaGreatDoor
