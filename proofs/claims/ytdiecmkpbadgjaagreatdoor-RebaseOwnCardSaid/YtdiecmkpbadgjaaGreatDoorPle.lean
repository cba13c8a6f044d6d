/- What the theorem needs of the texts Mend2, Without, Del, Is, Sbs, OvMem, OvStep, OvGet, MeetO, OvStepW, OvPut: no condition of its own. -/
import Derived.Deep.CutBlock
import Derived.Test.YtdiecmkpbadgjaaGreatDoorPld
set_option linter.unusedVariables false
set_option linter.unusedSimpArgs false
set_option linter.unnecessarySimpa false
set_option maxRecDepth 100000
set_option maxHeartbeats 4000000
namespace Go.Proofs.YtdiecmkpbadgjaaGreatDoor
open Go.Proofs.Tryz
open Go.RowKit
def Qbi(F:Nat->Prop)(base h:Nat)(s:Sl)(ks:List (PT h))(i:Nat)(w:World)(e:Ending)(w':World):Prop:=
 ∃(s':Sl) (ks':List (PT h)),e=.returned (.slice s'.a ks'.length s'.c)/\w'.ownsRow base 46 1 (.slice s'.a ks'.length s'.c) ks'.length (ptrs h ks')/\Qsu w.heap.size h ks i ks'/\(∀u∈ks',IsN w' (Up F w w') h u)/\St (λb=>s.row=some b) w w'
structure Qi5(w:World)(F:Nat->Prop)(base h:Nat)(s:Sl)(ks:List (PT h))(i:Nat)(l r:PT h):Prop where
 own:w.ownsRow base 46 1 (.slice s.a ks.length s.c) ks.length (ptrs h ks)
 base:base<=w.heap.size
 lt:∀b,F b->b<w.heap.size/\s.row≠some b
 isn:∀k∈ks,IsN w F h k
 ok:∀k∈ks,OkT h k/\3<=size h k
 hl:ks[i-1]? = some l
 hr:ks[i-1+1]? = some r
 sum:size h l+size h r<=11
 sorted:Sorted (ks.flatMap (ents h))
 few:(ks.flatMap (ents h)).length<=1000000
 n8:ks.length<=8
 hh:h<=1000000
variable{h j:Nat}
theorem Qd3{ks:List (PT h)}{l r:PT h}(I:Sorted (ks.flatMap (ents h)))(N:ks[j]? = some l)(Z:ks[j+1]? = some r):Sorted (ents h l++ents h r):=by
 rw[QiU N Z]at I;simp only[List.flatMap_append,List.flatMap_cons]at I;have h2:=(Qck I).2.1;rw[<-aM]at h2;exact(Qck h2).1
theorem QqH{ks:List (PT h)}{l r:PT h}(I:ks[j]? = some l)(N:ks[j+1]? = some r):(ents h l).length+(ents h r).length<=(ks.flatMap (ents h)).length:=by
 conv=>rhs;rw[QiU I N]
 simp only[List.flatMap_append,List.flatMap_cons,List.length_append];omega
theorem QeU{α:Type}{ks:List α}{l r:α}(I:ks[j]? = some l)(N:ks[j+1]? = some r)(a b:α):(ks.set j a).set (j+1) b=ks.take j++[a,b]++ks.drop (j+2):=by
 have h1:=(ae.1 I).1;have h2:=(ae.1 N).1
 conv=>lhs;rw[QiU I N]
 rw[dt _ _ (by rw[ar];omega),ar,bR oM,cp,ao,dt _ _ (by rw[ar];omega),ar,bR oM,show j+1-j=1 from oM];simp
theorem QdX{α:Type}{ks:List α}{l r:α}(N:ks[j]? = some l)(hr:ks[j+1]? = some r)(a:α):(ks.set j a).take (j+1)++(ks.set j a).drop (j+2)=ks.take j++[a]++ks.drop (j+2):=by
 have h1:=(ae.1 N).1;rw[bU,dW h1];have I:(ks.take j++[a]).length=j+1:=by simp;omega
 have Z:ks.take j++a::ks.drop (j+1)=(ks.take j++[a])++ks.drop (j+1):=sM
 rw[Z,aY oM,aT oM,show j+2=(ks.take j++[a]).length+1 from oM,cP,List.drop_drop,I]
variable{w:World}
theorem QiO{A B e size n:Nat}{v:Value}{xs:List Value}(h:w.ownsRow B e size v n xs)(I:A<=B):w.ownsRow A e size v n xs:=by
 refine⟨h.1,?_⟩;rcases h.2 with hl |⟨g,Z,N,hv,hg,r⟩
 .exact .inl hl
 exact .inr ⟨g,Z,N,hv,ak I hg,r⟩
variable{A B:Nat}{s:Sl}{xs:List LE}
theorem OE.base(h:OE w B s xs)(I:A<=B):OE w A s xs:=⟨QiO h.own I,h.vals.mono λi hi=>⟨⟨Nat.le_trans I hi.1.1,hi.1.2⟩,hi.2⟩,h.few⟩
theorem QvW{ts:List (PT h)}(I:ts.length=1\/ts.length=2):∃u v,two h ts=.returned (.tuple #[u,v]):=by
 match ts,I with
 |[a],_=>exact⟨_,_,rfl⟩
 |[a,b],_=>exact⟨_,_,rfl⟩
variable{F:Nat->Prop}
theorem QrT{base h i:Nat}{ks:List (PT h)}{l r:PT h}(hm:Qi5 w F base h s ks i l r) :
  Calls prog 111 #[.slice s.a ks.length s.c,.int .i64 (i:Int)] w (Qbi F base h s ks i w):=by
 obtain⟨j,g0⟩:∃j,i-1=j:=⟨_,rfl⟩;have hj:j+1<ks.length:=by have:=(ae.1 hm.hr).1;omega
 obtain⟨g,a3,rfl,k9,l4,k5,f0⟩:=QaJ hm.own oM;have a2:=hm.own;have N:=hY hm;have f5:ks[j]? = some l:=by rw[<-g0];exact hm.hl
 have f3:ks[j+1]? = some r:=by rw[<-g0];exact hm.hr
 have cc:∀q u,(ptrs h ks)[q]? = some u->w.cell? ⟨g,q,none⟩=some u:=λq u hq=>by
  have:=a2.cells (g:=g) rfl q u hq;rwa[Qbc,aE]at this
 have cl:w.cell? ⟨g,j,none⟩=some (ptr h l):=cc j _ (by rw[ptrs,au,f5];rfl);have cr:w.cell? ⟨g,j+1,none⟩=some (ptr h r):=cc (j+1) _ (by rw[ptrs,au,f3];rfl);have j1:=am f5;have j8:=am f3;have j9:=f0.lt;have l0:=hm.n8;have l1:(j:Int)<(ks.length:Int):=oM
 have k6:(j:Int)+1<(ks.length:Int):=oM
 have k8:(0:Int)<=(j:Int):=oM
 have l3:(0:Int)<=(j:Int)+1:=oM
 have l2:((j:Int)+1).toNat=j+1:=oM
 obtain⟨b7,j6,a0,a1,k3⟩:=Yf g0 (λW (hW:Agree F w W)=>QaC ((hm.isn l j1).agree hW)) f5 f3 f0.frozen;clear a2 cc f0 hm f5 f3 j1 j8 g0;go_in;go_upto_region 1 with fail;go_cut [1] (λv wc=>v=.int .i64 (j:Int)/\w=wc)
 case first=>
  have h0:=b7.o;rcases i with _|i
  ·obtain rfl:0=j:=h0
   go_wp2_with fail;go_meet;exact⟨rfl,rfl⟩
  obtain rfl:i=j:=h0;go_wp2_with fail;go_meet;exact⟨by go_num,rfl⟩
 case rest=>
 obtain⟨rfl,rfl⟩:=hcut;have k7:IntKind.i64.wrap ((j:Int)+1)=(j:Int)+1:=by rw[eh];omega
 go_wp2_with fail;go_quiet (fail);go_wp2_with fail;have a7:Ext w (w.drewN nq):=(fq w).drewN nq;refine(j6.o _ (Agree.drewN w nq)).mono ?_;rintro e w0 ⟨rfl,rfl⟩;generalize w.drewN nq=W at *;clear cl cr;go_upto_if 21 with fail;go_cut [5,6] (λv5 v6 wc=>∃ts:List (PT h),two h ts=.returned (.tuple #[v5,v6])/\Yd (Ext w wc/\Qeh w.heap.size h l r ts/\∀u∈ts,IsN wc (Up F w wc) h u))
 case first=>
  cases h with
  | zero=>
    have b5:=Qa5 (w:=W) ((((N.o.isn l (am a0.o)).agree (a7.agree λb I=>(N.o.lt b I).1))).mono λb I=>ab (N.o.lt b I).1 a7.size);have g7:∀W',Ext W W'->Calls prog 76 #[ptr 0 r] W' (QaU (ents 0 r) W'):=λW' f6=>Qa5 ((((N.o.isn r (am a1.o)).agree ((a7.trans f6).agree λb I=>(N.o.lt b I).1))).mono λb I=>ab (N.o.lt b I).1 (a7.trans f6).size)
    obtain⟨j7,d5⟩:=Yb g7 a7;clear g7 a7;go_wp2_with fail;refine b5.mono ?_;intro e w1 hp;obtain⟨sx,xs,rfl,i7,c6,c1⟩:=hp;obtain⟨f7,c2,d6⟩:=Yc i7 c6 c1;have d4:=j7.o w1 c1;clear b5 i7 c6 c1;go_wp2_with fail;refine d4.mono ?_;intro e w2 hp;obtain⟨sy,ys,rfl,f2,a9,a5⟩:=hp;have a6:∀b,sx.row=some b->W.heap.size<=b/\b<w1.heap.size:=λb I=>Qad c2.o.own I
    have a8:∀b,sy.row=some b->w1.heap.size<=b/\b<w2.heap.size:=λb I=>Qad a9.own I
    have c3:=d6.o.size;have f4:=a5.size;have b4:=c2.o.ext a5;have b6:OE w2 W.heap.size sy ys:=a9.base c3
    have j3:xs.length≤8:=by have:=(N.o.ok l (am a0.o)).1;have e1:xs.length=l.2.length:=by rw [show l.2=ents 0 l from rfl,←f7.o,aq]
                            rw[e1];exact this
    have j4:ys.length≤8:=by have:=(N.o.ok r (am a1.o)).1;have e1:ys.length=r.2.length:=by rw [show r.2=ents 0 r from rfl,←f2,aq]
                            rw[e1];exact this
    have g5:xs.length+ys.length<=11:=by
     have e1:xs.length=size 0 l:=by rw[show size 0 l=(ents 0 l).length from rfl,<-f7.o,aq]
     have e2:ys.length=size 0 r:=by rw[show size 0 r=(ents 0 r).length from rfl,<-f2,aq]
     rw[e1,e2];exact N.o.sum
    have e6:Qbv (xs++ys):=Qc0 (by rw[aF,f7.o,f2];exact Qd3 N.o.sorted a0.o a1.o);have d0:=Qka b4 b6 (ak c3 f4) (λb I d8=>by have:=a6 b I;have:=a8 b d8;omega)
     (λx Z=>⟨((c2.o.vals x Z).1.agree (a5.agree λb I=>I.1.2)).mono λb I=>⟨Nat.lt_of_lt_of_le I.1.2 f4,λh=>h.elim (λh=>I.2 h) (λh=>by have:=a8 b h;have:=I.1.2;omega)⟩,(c2.o.vals x Z).2⟩)
     (λx Z=>⟨(a9.vals x Z).1.mono λb I=>⟨I.1.2,λh=>h.elim (λh=>by have:=a6 b h;have:=I.1.1;omega) (λh=>I.2 h)⟩,(a9.vals x Z).2⟩)
     e6 j3 j4 g5 (l:=l) (r:=r) f7.o f2
    have b8:=d5.o.trans (d6.o.trans a5);obtain⟨c0,g9,i0⟩:=Yc b8 a6 a8;have k1:=d5.o.size;clear d4 f2 a9 a5 a6 a8 b4 b6 e6 j3 j4 g5 b8;go_wp2_with fail;refine d0.mono ?_;rintro e w3 ⟨⟨ts,rfl,hP,hI⟩,e4⟩;have a4:Yd (Ext w w3/\Qeh w.heap.size 0 l r ts/\∀u∈ts,IsN w3 (Up F w w3) 0 u):=hY ⟨c0.o.step e4 (λb I=>I.elim (λh=>by have:=g9.o b h;omega) (λh=>by have:=i0.o b h;omega)),hP.mono (c0.o.size),λu hu=>(hI u hu).mono λi hi=>hi.elim (λh=>h.elim) λh=>.inr ⟨Nat.le_trans c0.o.size h.1,h.2⟩⟩;clear d0 hP hI e4;obtain⟨u,v,c4⟩:=QvW (a4.o.2.1.len);rw[c4];go_wp2_with fail;go_meet;exact⟨ts,c4,a4⟩
  | succ h=>
    have hz:(((h:Int)+1)==0)=false:=dX.2 oM;have g8:∀W',Ext W W'->∀x,x∈ks->Calls prog 67 #[ptr (h+1) x] W' (Qet 46 x.2.length (ptrs h x.2) W'):=λW' f6 x Z=>Qb9 ((N.o.isn x Z).agree ((a7.trans f6).agree λb I=>(N.o.lt b I).1)) (by have:=(N.o.ok x Z).1.2.1;omega)
    have b5:=g8 W (fq W) l (am a0.o);obtain⟨k2,d5⟩:=Yb g8 a7;clear g8 a7;go_wp2_with fail;refine b5.mono ?_;rintro e w1 ⟨sx,rfl,c6,c1⟩;obtain⟨c2,d6⟩:=Yb c6 c1;have d4:=k2.o w1 c1 r (am a1.o);clear b5 c6 c1;go_wp2_with fail;refine d4.mono ?_;rintro e w2 ⟨sy,rfl,a9,a5⟩;have a6:∀b,sx.row=some b->W.heap.size<=b/\b<w1.heap.size:=λb I=>Qad c2.o I
    have a8:∀b,sy.row=some b->w1.heap.size<=b/\b<w2.heap.size:=λb I=>Qad a9 I
    have c3:=d6.o.size;have f4:=a5.size;have k1:=d5.o.size;have b4:w2.ownsRow W.heap.size 46 1 (.slice sx.a l.2.length sx.c) l.2.length (ptrs h l.2):=Qab c2.o (a5.agree (F:=Lt w1) λ_ h=>h) λb I=>(a6 b I).2
    have b6:w2.ownsRow W.heap.size 46 1 (.slice sy.a r.2.length sy.c) r.2.length (ptrs h r.2):=QiO a9 c3;have f1:=N.o.ok l (am a0.o);have c9:=N.o.ok r (am a1.o);have b8:=d5.o.trans (d6.o.trans a5);have i8:=Qd3 N.o.sorted a0.o a1.o;have i9:=QqH (ks:=ks) a0.o a1.o;have e8:∀x∈l.2++r.2,OkT h x/\4<=size h x/\IsN w F h x:=λx Z=>by
     rcases aP.1 Z with Z|Z
     .exact ⟨(f1.1.2.2 x Z).1,(f1.1.2.2 x Z).2,(N.o.isn l (am a0.o)).2.choose_spec.2.2 x Z⟩
     exact⟨(c9.1.2.2 x Z).1,(c9.1.2.2 x Z).2,(N.o.isn r (am a1.o)).2.choose_spec.2.2 x Z⟩
    have c7:∀x∈l.2++r.2,0<(ents h x).length:=λx Z=>Qbk h x (e8 x Z).1 (by have:=(e8 x Z).2.1;omega)
    have g4:Sorted ((l.2++r.2).flatMap (ents h)):=by rw[aH];exact i8
    have d7:Kids w2 F h (l.2++r.2):=⟨λb I=>ab (N.o.lt b I).1 b8.size,λx Z=>(e8 x Z).2.2.agree (b8.agree λb I=>(N.o.lt b I).1),QdI g4 c7,c7,λx Z=>by have:=Qdf (e8 x Z).1;omega,by
     unfold cnt;rw[aH,aj];have h1:(ents (h+1) l).length+(ents (h+1) r).length<=1000000:=ak i9 N.o.few;have h2:(l.2.flatMap (ents h)).length=(ents (h+1) l).length:=rfl;have h3:(r.2.flatMap (ents h)).length=(ents (h+1) r).length:=rfl;omega,by have:=N.o.hh;omega⟩
    have d0:=Qkc (F:=F) (l:=l) (r:=r) b4 b6 (ak c3 f4) (λb I d8=>by have:=a6 b I;have:=a8 b d8;omega)
     (λb I d8=>by
       have:=(N.o.lt b I).1;rcases d8 with h|h
       .have:=a6 b h;omega
       have:=a8 b h;omega) d7 f1.2 c9.2 f1.1.2.1 c9.1.2.1 N.o.sum
    obtain⟨c0,g9,i0⟩:=Yc b8 a6 a8;clear d4 a9 a5 a6 a8 b4 b6 b8 i8 i9 e8 c7 g4 d7 f1 c9;go_wp2_with fail;refine d0.mono ?_;rintro e w3 ⟨⟨ts,rfl,hP,hI⟩,e4⟩;have a4:Yd (Ext w w3/\Qeh w.heap.size (h+1) l r ts/\∀u∈ts,IsN w3 (Up F w w3) (h+1) u):=hY ⟨c0.o.step e4 (λb I=>I.elim (λh=>by have:=g9.o b h;omega) (λh=>by have:=i0.o b h;omega)),hP.mono (c0.o.size),λu hu=>(hI u hu).mono λi hi=>hi.imp_right λh=>⟨Nat.le_trans c0.o.size h.1,h.2⟩⟩;clear d0 hP hI e4;obtain⟨u,v,c4⟩:=QvW (a4.o.2.1.len);rw[c4];go_wp2_with fail;go_meet;exact⟨ts,c4,a4⟩
 case rest=>
 obtain⟨ts,j0,a4⟩:=hcut;obtain⟨e7,hP,hI⟩:=a4.o;have b9:wc.ownsRow base 46 1 (.slice (some ⟨g,0,none⟩) ks.length a3) ks.length (ptrs h ks):=Qab (s:=⟨some ⟨g,0,none⟩,a3⟩) N.o.own (e7.agree (F:=Lt w) λ_ h=>h) λb I=>(Qad N.o.own I).2
 have k4:∀o,wc.frozen? ⟨g,o,none⟩=false:=λo=>(e7.frozen j9).trans (k3.o o)
 have i1:∀q u,(ptrs h ks)[q]? = some u->wc.cell? ⟨g,q,none⟩=some u:=λq u hq=>by
  have:=b9.cells (g:=g) rfl q u hq;rwa[Qbc,aE]at this
 have dl:wc.cell? ⟨g,j,none⟩=some (ptr h l):=i1 j _ (by rw[ptrs,au,a0.o];rfl);have dr:wc.cell? ⟨g,j+1,none⟩=some (ptr h r):=i1 (j+1) _ (by rw[ptrs,au,a1.o];rfl);have j2:j<ks.length:=oM
 obtain⟨e3,i2,HP,HI⟩:=Ye b9 e7 hP hI;have b3:=hP.len;have i5:∀W' x,F x\/(w.heap.size<=x/\x<W')->x≠g:=λW' x Z e=>by
  subst e;rcases Z with h|h
  .exact (N.o.lt x h).2 rfl
  omega
 have g3:∀x,F x->x<w.heap.size:=λx Z=>(N.o.lt x Z).1
 have i6:∀k∈ks,IsN wc (Up F w wc) h k:=λk hk=>((N.o.isn k hk).agree (e7.agree g3)).mono λi hi=>.inl hi
 obtain⟨f9,f8⟩:=Yb i6 i5;clear b9 i1 e7 hP hI i6 i5;rcases b3 with b3|b3
 ·obtain ⟨a,rfl⟩:=List.length_eq_one_iff.1 b3
  cases(show Ending.returned (.tuple #[ptr h a,.pointer none])=_ from j0);have b0:∀w5,Wr (wc.setCell ⟨g,j,none⟩ (ptr h a)) w5 (some g)->w5.ownsRow base 46 1 (.slice (some ⟨g,0,none⟩) (ks.length-1) a3) (ks.length-1) (((ptrs h ks).set j (ptr h a)).take ((j+1)*1)++((ptrs h ks).set j (ptr h a)).drop ((j+1+1)*1))->
    Qbi F base h ⟨some ⟨g,0,none⟩,a3⟩ ks i w (.returned (.slice (some ⟨g,0,none⟩) (ks.length-1) a3)) w5:=λw5 i4 a2=>by
   have hz:wc.heap.size<=w5.heap.size:=by have:=i4.grown.size;rwa[ee]at this
   have i3:Agree (Up F w wc) wc w5:=(fv wc ⟨g,j,none⟩ _ (λh=>f8.o _ g h rfl)).trans (i4.agree (λi hi=>by rw[ee];exact hi.elim (λh=>ab (g3 i h) i2.o.size) λh=>h.2) (λk hk h=>by cases hk;exact f8.o _ g h rfl));have k0:∀i,Up F w wc i->Up F w w5 i:=λi hi=>hi.imp_right λh=>⟨h.1,ab h.2 hz⟩
   have e0:(ptrs h ks).set j (ptr h a)=ptrs h (ks.set j a):=by rw[ptrs,ptrs,dm]
   have e1:((ptrs h ks).set j (ptr h a)).take ((j+1)*1)++((ptrs h ks).set j (ptr h a)).drop ((j+1+1)*1)=ptrs h (ks.take j++[a]++ks.drop (j+2)):=by
    rw[e0,dg,dg,<-Qcr,<-QcW,<-Qdb,QdX a0.o a1.o]
   have e2:(ks.take j++[a]++ks.drop (j+2)).length=ks.length-1:=by simp only[List.length_append,List.length_take,List.length_drop,List.length_cons,List.length_nil];omega
   rw[e1]at a2;refine⟨⟨some ⟨g,0,none⟩,a3⟩,ks.take j++[a]++ks.drop (j+2),by rw[e2],by rw[e2];exact a2,⟨l,r,[a],by rw[b7.o];exact a0.o,by rw[b7.o];exact a1.o,HP.o,by rw[b7.o]⟩,λu hu=>?_,(((i2.o.st (λb=>(⟨some ⟨g,0,none⟩,a3⟩:Sl).row=some b)).set (p:=⟨g,j,none⟩) (.inr rfl) _).trans (i4.st λi hi=>hi))⟩;refine IsN.mono k0 (IsN.agree i3 ?_);rcases aP.1 hu with hu|hu
   ·rcases aP.1 hu with hu | hu
    .exact f9.o u (be hu)
    exact HI.o u hu
   exact f9.o u (aL hu)
  have hd:=Qf2 (s:=⟨some ⟨g,0,none⟩,a3⟩) (n:=ks.length) (xs:=(ptrs h ks).set j (ptr h a)) (i:=j+1) (Qbt e3.o j2 (ptr h a)) oM oM (λu hu=>by
   rcases bZ hu with hu|rfl
   .exact QbF h ks u hu
   rfl)
  have q1:((j+1:Nat):Int)=((j:Int)+1):=oM
  have q2:((j:Int)+1)+1=((j:Int)+2):=oM
  rw[q1,q2]at hd;obtain⟨HD,c8⟩:=Yb hd b0;clear hd b0 q1 q2 g3;go_wp2_with fail;refine HD.o.mono ?_;rintro e w5 ⟨rfl,d3,g6⟩;have j5:=hY (c8.o w5 g6 d3);clear d3 g6;go_wp2_with fail;go_ret;exact j5.o
 obtain⟨a,b,rfl⟩:∃a b,ts=[a,b]:=by
  match ts,b3 with
  |[a,b],_=>exact⟨a,b,rfl⟩
 cases(show Ending.returned (.tuple #[ptr h a,ptr h b])=_ from j0);have b0:Qbi F base h ⟨some ⟨g,0,none⟩,a3⟩ ks i w (.returned (.slice (some ⟨g,0,none⟩) ks.length a3)) ((wc.setCell ⟨g,j,none⟩ (ptr h a)).setCell ⟨g,j+1,none⟩ (ptr h b)):=by
  have i3:Agree (Up F w wc) wc ((wc.setCell ⟨g,j,none⟩ (ptr h a)).setCell ⟨g,j+1,none⟩ (ptr h b)):=(fv wc ⟨g,j,none⟩ _ (λh=>f8.o _ g h rfl)).trans (fv _ ⟨g,j+1,none⟩ _ (λh=>f8.o _ g h rfl));have e0:((ptrs h ks).set j (ptr h a)).set (j+1) (ptr h b)=ptrs h ((ks.set j a).set (j+1) b):=by rw[ptrs,ptrs,dm,dm]
  have e2:(ks.take j++[a,b]++ks.drop (j+2)).length=ks.length:=by simp only[List.length_append,List.length_take,List.length_drop,List.length_cons,List.length_nil];omega
  have a2:=Qbt (Qbt e3.o j2 (ptr h a)) (i:=j+1) oM (ptr h b);rw[e0,QeU a0.o a1.o]at a2;refine⟨⟨some ⟨g,0,none⟩,a3⟩,ks.take j++[a,b]++ks.drop (j+2),by rw[e2],by rw[e2];exact a2,⟨l,r,[a,b],by rw[b7.o];exact a0.o,by rw[b7.o];exact a1.o,HP.o,by rw[b7.o]⟩,λu hu=>?_,(((i2.o.st (λb=>(⟨some ⟨g,0,none⟩,a3⟩:Sl).row=some b)).set (p:=⟨g,j,none⟩) (.inr rfl) _).set (p:=⟨g,j+1,none⟩) (.inr rfl) _)⟩;refine IsN.mono (λi hi=>hi.imp_right λh=>⟨h.1,by simpa using h.2⟩) (IsN.agree i3 ?_);rcases aP.1 hu with hu|hu
  ·rcases aP.1 hu with hu | hu
   .exact f9.o u (be hu)
   exact HI.o u hu
  exact f9.o u (aL hu)
 have c8:=hY b0;clear b0 g3;go_wp2_with fail;go_ret;exact c8.o
def QsU(nv:Value)(es:List Ent)(k:ByteArray)(w:World)(e:Ending)(w':World):Prop:=
 Ext w w'/\((Qaq es k=none/\e=.returned (.tuple #[nv,.bool false]))\/
  ((Qaq es k).isSome=true/\∃u:PT 0,e=.returned (.tuple #[ptr 0 u,.bool true])/\u.2=QbM es k/\w.heap.size<=u.1/\IsN w' (In w.heap.size w'.heap.size) 0 u))
theorem Qke{es:List Ent}(I:Sorted es)(k:ByteArray):decide ((es[Qct es k]?).map Prod.fst=some k)=(Qaq es k).isSome:=by
 rw[Qit I];cases Z:es[Qct es k]? with
 |none=>simp
 |some e=>by_cases N:e.1=k<;>simp[N]
variable{nv:Value}
theorem QdP{es:List Ent}(hp:∃p,nv=.pointer p)(hh:Calls prog 66 #[nv] w λe w'=>e=.returned (.int .i64 0)/\w=w')(he:Calls prog 76 #[nv] w (QaU es w))
  (hs:Sorted es) (h8:es.length<=8) (k:ByteArray):Calls prog 75 #[nv,.string k] w (QsU nv es k w):=by
 obtain⟨pp,rfl⟩:=hp;have HS:=hY hs;clear hs;go_in;go_wp2_with fail;refine hh.mono ?_;rintro e w1 ⟨rfl,rfl⟩;go_wp2_with fail;refine he.mono ?_;intro e w1 hp;obtain⟨s,xs,rfl,Z,ho,b6⟩:=hp;have I:=Qkd (w:=w1) (s:=s) (xs:=xs) (ho.es.mono λi hi=>hi.2) k (by rw[Z];exact HS.o);rw[Z]at I;have a9:xs.length=es.length:=by rw[<-Z,aq]
 obtain⟨c0,HO,b0⟩:=Yc Z ho b6;have c6:xs.length<=8:=oM
 have c2:=hY a9;obtain⟨p,hp⟩:∃p,Qct es k=p:=⟨_,rfl⟩;unfold Qgf at I;rw[Qke HS.o,hp]at I;have HP:=hY hp;clear Z ho b6 he hh a9 hp;cases hg:Qaq es k with
 | none=>
   rw[hg]at I;have HG:=hY hg;clear hg;go_wp2_with fail;refine I.mono ?_;rintro e w2 ⟨rfl,N⟩;have a3:=hY (b0.o.trans N);clear I N;go_wp2_with fail;go_ret2;exact⟨a3.o,.inl ⟨HG.o,rfl⟩⟩
 | some v=>
   rw[hg]at I;have c4:p<xs.length:=by
    have h1:=Qit HS.o k;rw[hg,HP.o]at h1;rcases Nat.lt_or_ge p xs.length with h|h
    .exact h
    rw[aK (by rw[<-c2.o];exact h)]at h1;cases h1
   have b8:QbM es k=es.take p++es.drop (p+1):=by
    have h1:=Qre HS.o k;have h2:=Qke HS.o k;rw[hg]at h2;rw[dW (of_decide_eq_true h2),HP.o]at h1;exact h1
   obtain⟨HG,c3⟩:=Yb hg b8;have c7:IntKind.i64.wrap ((p:Int)+1)=(p:Int)+1:=by rw[eh];omega
   clear hg b8;go_wp2_with fail;refine I.mono ?_;rintro e w2 ⟨rfl,N⟩;have a4:=HO.o.ext N;have hd:=Qrd (i:=p) a4.own oM c4 (QbX xs);obtain⟨a8,a3⟩:=Yb a4 (b0.o.trans N);clear I N a4;go_wp2_with fail;refine hd.mono ?_;rintro e w3 ⟨rfl,a0,a1⟩;have a2:∀i,s.row=some i->w.heap.size<=i/\i<w2.heap.size:=λi hi=>Qad a8.o.own hi
   have e1:(QaD xs).take (p*7)++(QaD xs).drop ((p+1)*7)=QaD (xs.take p++xs.drop (p+1)):=by rw[QcS,QcQ,Qcp]
   rw[e1]at a0;have b3:Ext w w3:=a3.o.wr a1 (λi hi=>(a2 i hi).1);have b4:ES w3 (Lt w3) s (xs.take p++xs.drop (p+1)):=QuN (by rw[aj,ar,az];omega) ((fC a0).mono λi hi=>hi.2)
    (λx hx=>by
      have b7:x∈xs:=by
       rcases aP.1 hx with hx|hx
       .exact be hx
       exact aL hx
      exact⟨((a8.o.vals x b7).1.agree (a1.agree (λi hi=>hi.1.2) (λk hk h=>h.2 hk))).mono λi hi=>ab hi.1.2 a1.grown.size,(a8.o.vals x b7).2⟩) (by rw[aj,ar,az];omega)
   have a6:(xs.take p++xs.drop (p+1)).map LE.ent=QbM es k:=by rw[aF,db,cJ,c0.o,c3.o]
   have a7:=QdM (n:=xs.length-1) b4 (by rw[aj,ar,az];omega) (Qc0 (by rw[a6];exact QaN HS.o k)) (by rw[aj,ar,az];omega);rw[a6]at a7;have a5:=hY b3;clear hd a0 a1 a2 e1 b3 b4 a6;go_wp2_with fail;refine a7.mono ?_;rintro e w4 ⟨u,rfl,hu,c1,b5,b9⟩;have HU:=hY b5;clear a7 b5;go_wp2_with fail;go_ret2;exact⟨a5.o.trans b9,.inr ⟨by rw[HG.o];rfl,u,rfl,hu,ak a5.o.size c1,HU.o.mono λi hi=>⟨Nat.le_trans a5.o.size hi.1,hi.2⟩⟩⟩
def Qow(F:Nat->Prop)(h:Nat)(t:PT h)(k:ByteArray)(w:World)(e:Ending)(w':World):Prop:=
 Ext w w'/\((Qaq (ents h t) k=none/\e=.returned (.tuple #[ptr h t,.bool false]))\/
  ((Qaq (ents h t) k).isSome=true/\∃u:PT h,e=.returned (.tuple #[ptr h u,.bool true])/\Qi3 w.heap.size k h t u/\IsN w' (Up F w w') h u))
def QsV(F:Nat->Prop)(h:Nat)(t:PT (h+1))(k:ByteArray)(w:World)(e:Ending)(w':World):Prop:=
 Ext w w'/\((Qaq (ents (h+1) t) k=none/\e=.returned (.tuple #[ptr (h+1) t,.bool false]))\/
  ((Qaq (ents (h+1) t) k).isSome=true∧∃ ks':List (PT h),QmO w.heap.size k h (Qi3 w.heap.size k h) t.2 ks'∧
    ((∃ u,ks'=[u]∧e=.returned (.tuple #[ptr h u,.bool true])∧IsN w' (Up F w w') h u)∨
     (2<=ks'.length/\∃c:PT (h+1),c.2=ks'/\w.heap.size<=addr (h+1) c/\e=.returned (.tuple #[ptr (h+1) c,.bool true])/\IsN w' (Up F w w') (h+1) c))))
def QsO(F:Nat->Prop)(h:Nat)(ks':List (PT h))(w:World)(e:Ending)(w':World):Prop:=
 Ext w w'/\((∃u,ks'=[u]/\e=.returned (ptr h u)/\IsN w' (Up F w w') h u)\/(2<=ks'.length/\∃c:PT (h+1),c.2=ks'/\w.heap.size<=addr (h+1) c/\e=.returned (ptr (h+1) c)/\IsN w' (Up F w w') (h+1) c))
variable{w6:World}
theorem Qg5{k:ByteArray}{t:PT (h+1)}{s6:Sl}{I:List (PT h)}(hF:∀b,F b->b<w.heap.size)(ok:OkT (h+1) t)(hs:Sorted (ents (h+1) t))(hc:(ents (h+1) t).length<=1000000)(hh:h+1<1000000)(hg:(Qaq (ents (h+1) t) k).isSome=true)
  (hX:Ext w w6) (Z:w6.ownsRow w.heap.size 46 1 (.slice s6.a I.length s6.c) I.length (ptrs h I)) (hD:QmO w.heap.size k h (Qi3 w.heap.size k h) t.2 I) (hI:∀u∈I,IsN w6 (Up F w w6) h u) :
  Calls prog 54 #[.slice s6.a I.length s6.c] w6 λe w'=>QsO F h I w e w':=by
 obtain⟨h1,h2,h3⟩:=Qdw hD ok hs hg;have a7:=ok.1;have a8:=ok.2.1;by_cases a1:I.length=1
 ·obtain ⟨u,rfl⟩:=List.length_eq_one_iff.1 a1
  refine(Qoh (s:=s6) (k:=u) (fC Z)).mono ?_;rintro e w' ⟨rfl,rfl⟩;exact⟨hX,.inl ⟨u,rfl,rfl,hI u (aR.2 rfl)⟩⟩
 have a2:=hD.ents hs (QbU ok) oM (λx y N hr=>hr.ents (ok.2.2 x N).1 (QaL hs x N));have a6:Sorted (I.flatMap (ents h)):=by rw[a2];exact QaN hs k
 have a0:∀x∈I,0<(ents h x).length:=λx N=>Qbk h x (h1 x N).1 (by have:=(h1 x N).2;omega)
 have hk:Kids w6 (Up F w w6) h I:=⟨λb hb=>hb.elim (λh=>ab (hF b h) hX.size) λh=>h.2,hI,QdI a6 a0,a0,λx N=>by have:=Qdf (h1 x N).1;omega,by
  unfold cnt;rw[a2];have h5:(QbM (t.2.flatMap (ents h)) k).length<=(t.2.flatMap (ents h)).length:=(Qa3 _ k).length_le;have h6:(t.2.flatMap (ents h)).length<=1000000:=hc;omega,oM⟩
 refine(Qcl ((fC Z).mono λi hi=>hi.2) rfl hk oM oM).mono ?_;rintro e w' ⟨c,rfl,a4,a3,a5,N⟩;refine⟨hX.trans N,.inr ⟨oM,c,a4,ak hX.size a3,rfl,a5.mono λi hi=>?_⟩⟩;rcases hi with(hi|hi)|hi
 .exact .inl hi
 .exact .inr ⟨hi.1,ab hi.2 N.size⟩
 exact .inr ⟨Nat.le_trans hX.size hi.1,hi.2⟩
theorem QfK{k:ByteArray}
  (ih:∀(w:World) (F:Nat->Prop) (t:PT h),(∀b,F b->b<w.heap.size)->IsN w F h t->OkT h t->4<=size h t->Sorted (ents h t)->(ents h t).length<=1000000->Calls prog 75 #[ptr h t,.string k] w (Qow F h t k w))
 {t:PT (h+1)} (hF:∀ b,F b→b<w.heap.size) (hn:IsN w F (h+1) t) (ok:OkT (h+1) t) (hs:Sorted (ents (h+1) t)) (hc:(ents (h+1) t).length≤1000000) :
  Calls prog 75 #[ptr (h+1) t,.string k] w (QsV F h t k w):=by
 have b5:=QbU ok;have hh:h+1<1000000:=ab (QcT (h+1) t ok (by have:=ok.1;show 1<=t.2.length;omega)) hc;obtain⟨I,N,hA,hC⟩:=Qa6 (h:=h) (ks:=t.2) hs b5 (by have:=ok.1;omega) k;have a1:=am N;have k0:=(ae.1 N).1;have j9:=ok.2.1;have k9:=ok.1;have b8:∀x∈t.2,IsN w F h x:=hn.2.choose_spec.2.2;have c6:(ents h I).length<=1000000:=ak (by
  show _<=(t.2.flatMap (ents h)).length;rw[QbI N];simp only[List.flatMap_append,List.flatMap_cons,List.length_append];omega) hc
 have e3:Qaq (ents (h+1) t) k=Qaq (ents h I) k:=Qf3 N hA hC;have b3:∀W,Ext w W->Calls prog 75 #[ptr h I,.string k] W (Qow F h I k W):=λW hW=>
  ih W F I (λb Z=>ab (hF b Z) hW.size) ((b8 I a1).agree (hW.agree hF)) (ok.2.2 I a1).1 (ok.2.2 I a1).2 (QaL hs I a1) c6
 have j2:∀B u,(Qaq (ents (h+1) t) k).isSome=true->Qi3 B k h I u->OkT h u/\size h I<=size h u+1/\size h u<=size h I:=λB u hg hr=>hr.ok (ok.2.2 I a1).1 (ok.2.2 I a1).2 (QaL hs I a1) (by rw[<-e3];exact hg)
 obtain⟨HF,HN,HS,HP,k3,g6,a3⟩:=Yh hF hn hs b5 b3 b8 N;obtain⟨i3,a9,HC,l0⟩:=Ye e3 ok hc j2;have n6:(((h:Int)+1)==0)=false:=dX.2 oM;clear hF hn ok hs hc b5 b3 b8 N hA hC ih c6 e3 j2;go_in;go_wp2_with fail;refine(QaC HN.o).mono ?_;rintro e w1 ⟨rfl,rfl⟩;have c6:=Qb9 HN.o oM;go_wp2_with fail;refine c6.mono ?_;rintro e w1 ⟨s',rfl,c2,d6⟩;have g4:Rd w1 (Lt w1) 1 s' t.2.length (ptrs h t.2):=(fC c2).mono λi hi=>hi.2
 have f1:=Qg3 g4 (λx hx=>(g6.o x hx).agree (d6.agree HF.o)) (λb Z=>ab (HF.o b Z) d6.size) HP.o k HS.o oM;obtain⟨i,hi⟩:∃i,Qaw h t.2 k=i:=⟨_,rfl⟩;rw[hi]at f1 k0;obtain⟨HI,l7,e6,k7⟩:=Ye hi f1 c2 d6;clear hi f1 c2 g4 c6 d6;go_wp2_with fail;refine l7.o.mono ?_;rintro e w2 ⟨rfl,e4⟩;have f2:=k7.o.trans e4;obtain⟨g,a0,rfl,c1,o2,n7,j3⟩:=QaJ e6.o oM;have c9:w2.ownsRow w.heap.size 46 1 (.slice (some ⟨g,0,none⟩) t.2.length a0) t.2.length (ptrs h t.2):=Qab (s:=⟨some ⟨g,0,none⟩,a0⟩) e6.o (e4.agree (F:=Lt w1) λ_ h=>h) λb Z=>(Qad e6.o Z).2
 have l3:w2.cell? ⟨g,i,none⟩=some (ptr h I):=by
  have:=c9.cells (g:=g) rfl i (ptr h I) (by rw[ptrs,au,<-HI.o,a3.o];rfl);rwa[Qbc,aE]at this
 have l8:(i:Int)<(t.2.length:Int):=oM
 have k6:g<w2:=(Qad (s:=⟨some ⟨g,0,none⟩,a0⟩) c9 rfl).2;have b3:=k3.o w2 f2;obtain⟨g0,c7⟩:=Yb c9 f2;clear e4 c9 f2 j3;go_wp2_with fail;refine b3.mono ?_;rintro e w3 ⟨a4,(⟨hg,rfl⟩ |⟨hg,u,rfl,d0,g3⟩)⟩
 ·have k8:=hY (c7.o.trans a4)
  have HG:=hY hg;clear a4 hg b3;go_wp2_with fail;go_ret2;exact⟨k8.o,.inl ⟨by rw[i3.o];exact HG.o,rfl⟩⟩
 have e8:(Qaq (ents (h+1) t) k).isSome=true:=by rw[i3.o];exact hg
 obtain⟨ou,o4,n8⟩:=l0.o _ u e8 d0;have j0:3<=size h u:=by have:=(a9.o.2.2 I (am a3.o)).2;omega
 have n2:size h u<=8:=Qdf ou;have l9:=a4.size;have i8:=c7.o.size;have f6:∀b,Up F w2 w3 b->b≠g:=λb Z e=>by
  subst e;rcases Z with Z|Z
  .have:=HF.o _ Z;have c1:w<=b:=c1;omega
  omega
 have a7:w3.ownsRow w.heap.size 46 1 (.slice (some ⟨g,0,none⟩) t.2.length a0) t.2.length (ptrs h t.2):=Qab (s:=⟨some ⟨g,0,none⟩,a0⟩) g0.o (a4.agree (F:=Lt w2) λ_ h=>h) λb Z=>(Qad (s:=⟨some ⟨g,0,none⟩,a0⟩) g0.o Z).2
 have a5:=Qbt a7 (i:=i) oM (ptr h u);have e0:(ptrs h t.2).set i (ptr h u)=ptrs h (t.2.set i u):=by rw[ptrs,ptrs,dm]
 rw[e0]at a5;have j7:w3.cell? ⟨g,i,none⟩=some (ptr h I):=(a4.cell k6).trans l3;have k5:∀o,w3.frozen? ⟨g,o,none⟩=false:=by
  obtain⟨g',g7,e1,-,-,-,d3⟩:=QaJ (s:=⟨some ⟨g,0,none⟩,a0⟩) a7 oM;obtain⟨rfl,rfl⟩:g=g'/\a0=g7:=by simpa using e1
  exact d3.frozen
 have j1:=(c7.o.trans a4).setCell (p:=⟨g,i,none⟩) c1 (ptr h u);have b4:Agree (Up F w2 w3) w3 (w3.setCell ⟨g,i,none⟩ (ptr h u)):=fv w3 ⟨g,i,none⟩ _ (λh=>f6 g h rfl);have f4:∀x∈t.2.set i u,IsN (w3.setCell ⟨g,i,none⟩ (ptr h u)) (Up F w2 w3) h x:=λx hx=>by
  rcases bZ hx with hx|rfl
  .exact (((g6.o x hx).agree ((c7.o.trans a4).agree HF.o)).mono λb Z=>.inl Z).agree b4
  exact g3.agree b4
 have i4:=f4 u (List.mem_set oM u);have i7:=Qf8 i4 oM;have g8:(w3.setCell ⟨g,i,none⟩ (ptr h u)).heap.size=w3.heap.size:=sM
 have d7:=d0.mono i8;have N:=a3.o;rw[HI.o]at N;have j4:∀c8,((4<=size h u/\c8=t.2.set i u)\/(size h u<4/\Qsu w.heap.size h (t.2.set i u) i c8))->QmO w.heap.size k h (Qi3 w.heap.size k h) t.2 c8:=λc8 b8=>by
  refine⟨I,u,a3.o,d7,?_⟩;rw[HI.o];exact b8
 have f7:(t.2.set i u).flatMap (ents h)=QbM (t.2.flatMap (ents h)) k:=by
  obtain⟨n4,f5,hA,hC⟩:=Qa6 (h:=h) (ks:=t.2) HS.o HP.o oM k;rw[a3.o]at f5;simp only[Option.some.injEq]at f5;subst f5;rw[HI.o]at hA hC;rw[set_mid N];simp only[List.flatMap_append,List.flatMap_cons];have e1:=d0.ents (a9.o.2.2 I (am N)).1 (QaL HS.o I (am N))
  conv=>rhs;rw[QbI N]
  rw[aH,aV,Qik hA,Qgu hC,e1]
 have i0:Sorted ((t.2.set i u).flatMap (ents h)):=by
  rw[f7];exact QaN HS.o k
 have d3:((t.2.set i u).flatMap (ents h)).length<=1000000:=by
  rw[f7];exact ak (Qa3 _ k).length_le HC.o
 obtain⟨k4,HU,f8,k1,k2,j8,l6⟩:=Yh d3 i7 j4 j1 a5 f4 i0;obtain⟨b0,l4,l1⟩:=Yc e8 ou f6;have n9:g<w3:=oM
 clear b3 hg d0 g3 e8 ou a7 a5 e0 j1 b4 f4 i4 i7 d7 N j4 f7 i0 d3 a4 f6;go_wp2_with fail;generalize l2:World.setCell _ _ _=W4 at *;refine HU.o.mono ?_;rintro e w5 ⟨rfl,q,rfl⟩;have i2:=k1.o.drewN q;have e2:Agree (Up F w2 w3) W4 (W4.drewN q):=Agree.drewN W4 q;have i9:(W4.drewN q).ownsRow w.heap.size 46 1 (.slice (some ⟨g,0,none⟩) t.2.length a0) t.2.length (ptrs h (t.2.set i u)):=k2.o;have j6:(W4.drewN q).heap.size=w3.heap.size:=g8;have i5:∀x∈t.2.set i u,IsN (W4.drewN q) (Up F w2 w3) h x:=λx hx=>(j8.o x hx).agree e2
 generalize W4.drewN q=W5 at *;obtain⟨d5,f9,g9,f3⟩:=Ye i2 i9 i5 j6;have a8:(t.2.set i u).length=t.2.length:=by rw[bQ]
 clear i2 e2 i9 i5 j6 j7 k5 g8 l2;by_cases h4:size h u<4
 ·have l5:(size h u:Int)<4:=oM
  obtain⟨l,hl⟩:∃l,(t.2.set i u)[i-1]? = some l:=⟨_,ac oM⟩;obtain⟨r,hr⟩:∃r,(t.2.set i u)[i-1+1]? = some r:=⟨_,ac oM⟩;have b9:∀x∈t.2.set i u,OkT h x/\3<=size h x:=λx hx=>by
   rcases bZ hx with hx|rfl
   .exact ⟨(a9.o.2.2 x hx).1,by have:=(a9.o.2.2 x hx).2;omega⟩
   exact⟨l4.o,j0⟩
  have d8:size h l+size h r<=11:=by
   have h8:∀x∈t.2.set i u,size h x<=8:=λx hx=>Qdf (b9 x hx).1
   have o1:=h8 l (am hl);have o3:=h8 r (am hr);have i1:(t.2.set i u)[i]? = some u:=by rw[cI oM]
   by_cases h0:i=0
   ·subst h0
    rw[i1]at hl;simp only[Option.some.injEq]at hl;subst hl;omega
   rw[show i-1+1=i from oM,i1]at hr;simp only[Option.some.injEq]at hr;subst hr;omega
  have a6:=QrT (w:=W5) (F:=Up F w2 w3) (base:=w) (s:=⟨some ⟨g,0,none⟩,a0⟩) (i:=i) (ks:=t.2.set i u) (l:=l) (r:=r)
   ⟨by rw[a8];exact f9.o,d5.o.size,λb Z=>⟨by rw[f3.o];exact Z.elim (λh=>by have:=HF.o b h;have:=c7.o.size;omega) λh=>h.2,λe=>by simp[Sl.row]at e;exact l1.o b Z e.symm⟩,g9.o,b9,hl,hr,d8,l6.o,by
     have:=k4.o;omega,oM,oM⟩
  rw[a8]at a6;have HM:=hY a6;clear hl hr b9 d8 a6;go_wp2_with fail;refine HM.o.mono ?_;rintro e w6 ⟨s6,d4,rfl,b7,j5,i6,c0⟩;have g5:Ext w w6:=d5.o.step c0 (λb Z=>by simp only[Sl.row,Option.map_some,Option.some.injEq]at Z;have c1:w<=g:=c1;omega);have D:=f8.o d4 (.inr ⟨h4,j5.mono d5.o.size⟩);have c4:∀x∈d4,IsN w6 (Up F w w6) h x:=λx hx=>(i6 x hx).mono λb Z=>by
   have hz:=f3.o;have o0:=c0.size;rcases Z with(Z|Z)|Z
   .exact .inl Z
   .exact .inr ⟨oM,oM⟩
   exact .inr ⟨oM,Z.2⟩
  have a2:=Qg5 HF.o a9.o HS.o HC.o hh b0.o g5 b7 D c4;obtain⟨HD,HE⟩:=Yb D a2;clear b7 j5 i6 c0 g5 D c4 a2;go_wp2_with fail;refine HE.o.mono ?_;rintro e w7 ⟨hx,(⟨v,hv,rfl,c3⟩ |⟨hv,c,f0,e7,rfl,b6⟩)⟩
  ·have H1:=hY hx
   have H2:=hY c3;clear hx c3;go_wp2_with fail;go_ret2;exact⟨H1.o,.inr ⟨b0.o,d4,HD.o,.inl ⟨v,hv,rfl,H2.o⟩⟩⟩
  obtain⟨H1,H2⟩:=Yb hx b6;clear hx b6;go_wp2_with fail;go_ret2;exact⟨H1.o,.inr ⟨b0.o,d4,HD.o,.inr ⟨hv,c,f0,e7,rfl,H2.o⟩⟩⟩
 have l5:¬(size h u:Int)<4:=oM
 have D:=f8.o _ (.inl ⟨oM,rfl⟩);have c4:∀x∈t.2.set i u,IsN W5 (Up F w W5) h x:=λx hx=>(g9.o x hx).mono λb Z=>by
  have hz:=f3.o;rcases Z with Z|Z
  .exact .inl Z
  exact .inr ⟨oM,oM⟩
 have a2:=Qg5 (s6:=⟨some ⟨g,0,none⟩,a0⟩) HF.o a9.o HS.o HC.o hh b0.o d5.o (by rw[a8];exact f9.o) D c4;rw[a8]at a2;obtain⟨HD,HE⟩:=Yb D a2;clear D c4 a2;go_wp2_with fail;refine HE.o.mono ?_;rintro e w7 ⟨hx,(⟨v,hv,rfl,c3⟩ |⟨hv,c,f0,e7,rfl,b6⟩)⟩
 ·have H1:=hY hx
  have H2:=hY c3;clear hx c3;go_wp2_with fail;go_ret2;exact⟨H1.o,.inr ⟨b0.o,_,HD.o,.inl ⟨v,hv,rfl,H2.o⟩⟩⟩
 obtain⟨H1,H2⟩:=Yb hx b6;clear hx b6;go_wp2_with fail;go_ret2;exact⟨H1.o,.inr ⟨b0.o,_,HD.o,.inr ⟨hv,c,f0,e7,rfl,H2.o⟩⟩⟩
theorem Qg4{k:ByteArray}:∀(h:Nat) (w:World) (F:Nat->Prop) (t:PT h),(∀b,F b->b<w.heap.size)->IsN w F h t->OkT h t->4<=size h t->Sorted (ents h t)->(ents h t).length<=1000000->Calls prog 75 #[ptr h t,.string k] w (Qow F h t k w)
 | 0,w,F,t,hF,hn,ok,h4,hs,hc=>by
   refine(QdP ⟨_,rfl⟩ (QaC hn) (Qa5 (hn.mono hF)) hs (show t.2.length<=8 from ok) k).mono ?_;rintro e w' ⟨Z,(⟨I,rfl⟩ |⟨I,u,rfl,hu,hb,N⟩)⟩
   .exact ⟨Z,.inl ⟨I,rfl⟩⟩
   exact⟨Z,.inr ⟨I,u,rfl,⟨hu,hb⟩,N.mono λi hi=>.inr hi⟩⟩
 | h+1,w,F,t,hF,hn,ok,h4,hs,hc=>by
   refine(QfK (Qg4 (k:=k) h) hF hn ok hs hc).mono ?_;rintro e w' ⟨Z,(⟨I,rfl⟩ |⟨I,a0,hd,h2⟩)⟩
   .exact ⟨Z,.inl ⟨I,rfl⟩⟩
   have h4:4<=t.2.length:=h4;have:=(Qdw hd ok hs I).2.2;rcases h2 with⟨u,rfl,-,-⟩ |⟨-,c,rfl,hb,rfl,N⟩
   .simp only[List.length_cons,List.length_nil]at this;omega
   exact⟨Z,.inr ⟨I,c,rfl,⟨hd,hb⟩,N⟩⟩
def Qox(F:Nat->Prop)(T:RT)(k:ByteArray)(w:World)(e:Ending)(w':World):Prop:=
 Ext w w'/\((Qaq (Qaa T) k=none/\e=.returned (.tuple #[QaK T,.bool false]))\/
  ((Qaq (Qaa T) k).isSome=true∧∃ (h:Nat) (u:PT h),e=.returned (.tuple #[ptr h u,.bool true])∧IsN w' (Up F w w') h u∧
    ((ents h u=[]/\QkN w.heap.size k T none)\/(0<(ents h u).length/\QkN w.heap.size k T (some ⟨h,u⟩)))))
variable{T:RT}
theorem QkK(hF:∀b,F b->b<w.heap.size)(hT:IsT w F T)(ok:OkR T)(hc:(Qaa T).length<=1000000)(k:ByteArray) :
  Calls prog 75 #[QaK T,.string k] w (Qox F T k w):=by
 match T,hT,ok,hc with
 | none,_,_,_=>
   refine(QdP (nv:=.pointer none) (es:=[]) ⟨none,rfl⟩ (QdV w) ((Qej w).mono ?_) List.Pairwise.nil sM k).mono ?_
   ·rintro e w' ⟨rfl,rfl⟩
    exact⟨Sl.none,[],rfl,rfl,OE.nil _ _,fq _⟩
   rintro e w' ⟨Z,(⟨I,rfl⟩ |⟨I,u,rfl,hu,hb,N⟩)⟩
   .exact ⟨Z,.inl ⟨I,rfl⟩⟩
   simp[Qaq]at I
 | some ⟨0,t⟩,hn,ok,hc=>
   have hn:IsN w F 0 t:=hn;refine(QdP ⟨_,rfl⟩ (QaC hn) (Qa5 (hn.mono hF)) ok.2.2 (show t.2.length<=8 from ok.1) k).mono ?_;rintro e w' ⟨Z,(⟨I,rfl⟩ |⟨I,u,rfl,hu,hb,N⟩)⟩
   .exact ⟨Z,.inl ⟨I,rfl⟩⟩
   refine⟨Z,.inr ⟨I,0,u,rfl,N.mono λi hi=>.inr hi,?_⟩⟩;by_cases h0:ents 0 u=[]
   .exact .inl ⟨h0,.gone I ⟨hu,hb⟩ h0⟩
   have:=List.length_pos_iff.2 h0;exact .inr ⟨this,.same I ⟨hu,hb⟩ this (.inl rfl)⟩
 | some ⟨h+1,t⟩,hn,ok,hc=>
   refine(QfK (Qg4 (k:=k) h) hF hn ok.1 ok.2.2 hc).mono ?_;rintro e w' ⟨Z,(⟨I,rfl⟩ |⟨I,a2,hd,h2⟩)⟩
   .exact ⟨Z,.inl ⟨I,rfl⟩⟩
   have a0:=(Qdw hd ok.1 ok.2.2 I).1;rcases h2 with⟨u,rfl,rfl,N⟩ |⟨hl,c,rfl,hb,rfl,N⟩
   ·have:=a0 u (aR.2 rfl)
    exact⟨Z,.inr ⟨I,h,u,rfl,N,.inr ⟨Qbk h u this.1 oM,.down I hd⟩⟩⟩
   have hp:0<(ents (h+1) c).length:=by
    obtain⟨x,a1⟩:=List.exists_mem_of_length_pos (show 0<c.2.length by omega);have h1:=a0 x a1;have h2:=Qbk h x h1.1 oM;show 0<(c.2.flatMap (ents h)).length;obtain⟨e,he⟩:=List.exists_mem_of_length_pos h2;exact List.length_pos_of_mem (cG.2 ⟨x,a1,he⟩)
   exact⟨Z,.inr ⟨I,h+1,c,rfl,N,.inr ⟨hp,.same I ⟨hd,hb⟩ hp (.inr hl)⟩⟩⟩
def QsM(F:Nat->Prop)(T:RT)(k:ByteArray)(w:World)(e:Ending)(w':World):Prop:=
 ∃T',e=.returned (.tuple #[Qao T',.bool (Qaq (Qaa T) k).isSome])/\QkN w.heap.size k T T'/\IsT w' (Up F w w') T'/\Ext w w'
theorem Qm9(hF:∀b,F b->b<w.heap.size)(hT:IsT w F T)(ok:OkR T)(hc:(Qaa T).length<=1000000)(k:ByteArray) :
  Calls prog 52 #[Qao T,.string k] w (QsM F T k w):=by
 have a9:∀W,Ext w W->Calls prog 75 #[QaK T,.string k] W (Qox F T k W):=λW hW=>
  QkK (λb hb=>ab (hF b hb) hW.size) (hT.agree (hW.agree hF)) ok hc k
 have a8:∀W,Ext w W->Calls prog 73 #[QaK T] W λe w'=>e=.returned (.int .i64 (Qaa T).length)/\W=w':=λW hW=>Qfb (hT.agree (hW.agree hF))
 have a4:Qaa T=[]->T=none:=λI=>by
  match T,ok,I with
  |none,_,_=>rfl
  |some ⟨h,t⟩,ok,I=>have:=Qbk h t ok.1 ok.2.1;have I:ents h t=[]:=I;rw[I]at this;cases this
 have d4:∃p,QaK T=.pointer p:=Qaj T;obtain⟨rp,a0⟩:=d4;rw[a0]at a9 a8;obtain⟨HW,e0,HF,d7,HT,b9,c4⟩:=Yh a9 a8 hF ok hT a4 a0;clear hF hT ok a9 a8 a4;rw[Qao,a0];clear a0;go_in;go_wp2_with fail;have b0:Ext w ((w.alloc (.cells #[.pointer rp] 48)).alloc (.cells #[.pointer none] 48)):=((fq w).alloc _ _).alloc _ _;have c3:Blk ((w.alloc (.cells #[.pointer rp] 48)).alloc (.cells #[.pointer none] 48)) (w.heap.size+1) 48 #[.pointer none]:=by
  have:=ft (w.alloc (.cells #[.pointer rp] 48)) 48 #[.pointer none];simpa using this
 generalize b5:World.alloc _ _=W3 at *;have d6:W3.heap.size=w.heap.size+1+1:=by rw[<-b5];simp
 clear b5;refine(HW.o _ b0).mono ?_;rintro e Z ⟨a6,b6⟩;have a1:=c3.ext a6;have b8:=b0.trans a6;have q4:Z.cell? ⟨w+1,0,none⟩=some (.pointer none):=a1.cell 0;have f4:=a1.frozen 0;have d8:=a1.lt;have HX:=hY b8;have c2:∀W',¬Up F W3 W' (w.heap.size+1):=λW' hf=>by
  rcases hf with hf|hf
  .have:=HF.o _ hf;omega
  have:=hf.1;omega
 have c6:=hY c2;have a7:w.heap.size<=W3.heap.size:=oM
 clear c3 a1 b8 b0 a6 c2;have b7:∃N b,e=.returned (.tuple #[QaK N,.bool b])/\b=(Qaq (Qaa T) k).isSome/\IsT Z (Up F W3 Z) N/\((Qaa N).length=0->QkN w.heap.size k T none)/\((Qaa N).length≠0->QkN w.heap.size k T N):=by
  rcases b6 with⟨hg,rfl⟩ |⟨hg,h,u,rfl,d3,hd⟩
  ·refine ⟨T,false,by rw [c4.o],by rw [hg];rfl,(HT.o.agree (HX.o.agree HF.o)).mono fun i hi=>.inl hi,fun I=>?_,fun _=>.no hg⟩
   have:=b9.o (aw I);subst this;exact .no hg
  refine⟨some ⟨h,u⟩,true,rfl,hg.symm,d3,λI=>?_,λI=>?_⟩
  .exact (hd.resolve_right λhc=>by have I:(ents h u).length=0:=I;omega).2.mono a7
  exact(hd.resolve_left λh=>I (by show(ents _ u).length=0;rw[h.1];rfl)).2.mono a7
 obtain⟨N,b,rfl,hb,b3,c1,b4⟩:=b7;have a5:=Qfb b3;obtain⟨p1,a2⟩:=Qaj N;have a3:∀W',Agree (Up F W3 Z) Z W'->Z.heap.size<=W'.heap.size->IsT W' (Up F w W') N:=λW' ha hs=>(b3.agree ha).mono λi hi=>hi.elim .inl λhi=>.inr ⟨Nat.le_trans a7 hi.1,ab hi.2 hs⟩
 rw[a2]at a5;obtain⟨d0,c7,HB,c0,c9,c8⟩:=Yg a2 a5 hb a3 c1 b4;rw[a2];clear b6 a2 a5 hb a3 c1 b4 b3;go_wp2_with fail;refine c7.o.mono ?_;rintro e w5 ⟨rfl,rfl⟩;by_cases I:(Qaa N).length=0
 ·have d5:(((Qaa N).length:Int) == 0)=true:=by simp [I]
  go_wp2_with fail;have q0:(Z.setCell ⟨w+1,0,none⟩ (.pointer none)).cell? ⟨w+1,0,none⟩=some (.pointer none):=eI Z _ _ q4;refine ec (v:=.tuple #[Qao none,.bool b]) (by simp[results,results52,go_sem,q0];rfl) rfl ?_;rw[HB.o];exact⟨none,rfl,c9.o I,trivial,HX.o.setCell (p:=⟨w+1,0,none⟩) (by show w.heap.size<=w.heap.size+1;omega) _⟩
 have d5:(((Qaa N).length:Int)==0)=false:=dX.2 oM;go_wp2_with fail;have q0:(Z.setCell ⟨w+1,0,none⟩ (.pointer p1)).cell? ⟨w+1,0,none⟩=some (.pointer p1):=eI Z _ _ q4;refine ec (v:=.tuple #[Qao N,.bool b]) (by rw[Qao,d0.o];simp[results,results52,go_sem,q0]) rfl ?_;rw[HB.o];exact⟨N,rfl,c8.o I,c0.o _ (fv Z ⟨w+1,0,none⟩ _ (c6.o Z)) sM,HX.o.setCell (p:=⟨w+1,0,none⟩) (by show w.heap.size<=w.heap.size+1;omega) _⟩
variable{P:Program}
theorem Qjz(w:World){I Z:TypeId}(a:Addr)(N:P.underlying I=some (.pointer Z)) :
  (binOp .eql I (.pointer none) (.pointer (some a))).run P w=.ok (.bool false) w:=by
 have h:∀d:Nat,(Op.equalIn (d+1) I (.pointer none) (.pointer (some a))).run P w=.ok false w:=λd=>by
  simp[Op.equalIn,run_underlying N]
 simp only[binOp];simp[Op.equal,Op.maxDepth,h 9999]
theorem Qth:∃j,prog.info? 159=some j/\j.size≠0:=by
 have h:((prog.info? 159).map λi=>decide (i.size≠0))=some true:=kM
 cases I:prog.info? 159 with
 |none=>rw[I]at h;cases h
 |some j=>rw[I]at h;exact⟨j,rfl,by simpa using h⟩
def QsP(w:World)(p:Option Addr):Prop:=∀a,p=some a->∃c t,w.heap[a.block]? = some (.cells c t (0,0))
open Go.Maps
structure Sb(H:Nat->Prop)(w w':World):Prop where
 os:w'.os=w.os
 tape:w'.tape=w.tape
 output:w'.output=w.output
 size:w.heap.size<=w'.heap.size
 block:∀b,b<w.heap.size->¬H b->w'.heap[b]? = w.heap[b]?
variable{H:Nat->Prop}{w':World}
theorem St.sb(h:St H w w'):Sb H w w':=⟨h.os,h.tape,h.output,h.size,h.block⟩
theorem Ext.sb(h:Ext w w')(H:Nat->Prop):Sb H w w':=(h.st H).sb
theorem Sb.refl(H:Nat->Prop)(w:World):Sb H w w:=(fq w).sb H
theorem Sb.trans{a b c:World}(h:Sb H a b)(k:Sb H b c):Sb H a c:=
 ⟨k.os.trans h.os,k.tape.trans h.tape,k.output.trans h.output,ak h.size k.size,λi hi I=>(k.block i (ab hi h.size) I).trans (h.block i hi I)⟩
variable{G:Nat->Prop}
theorem Sb.comp{a b c:World}(h:Sb H a b)(k:Sb G b c)(Z:∀i,i<a.heap.size->G i->H i):Sb H a c:=
 ⟨k.os.trans h.os,k.tape.trans h.tape,k.output.trans h.output,ak h.size k.size,λi hi I=>(k.block i (ab hi h.size) λN=>I (Z i hi N)).trans (h.block i hi I)⟩
theorem Sb.mono{a b:World}(h:Sb H a b)(Z:∀i,i<a.heap.size->H i->G i):Sb G a b:=
 ⟨h.os,h.tape,h.output,h.size,λi hi I=>h.block i hi λN=>I (Z i hi N)⟩
variable{n:Nat}
theorem Sb.of_below(h:Below n w w'):Sb (λb=>n<=b) w w':=⟨h.os,h.tape,h.output,h.size,λb _ I=>h.block b oM⟩
theorem Sb.new(h:Below w.heap.size w w'):Sb H w w':=(Sb.of_below h).mono λi hi I=>oM
theorem Sb.cell(h:Sb H w w'){b o:Nat}(I:b<w)(N:¬H b):w'.cell? ⟨b,o,none⟩=w.cell? ⟨b,o,none⟩:=
 eA (w:=w) (a:=⟨b,o,none⟩) (h.block b I N)
variable{g:Nat}
theorem Sb.blk{t:TypeId}{cs:Array Value}(h:Sb H w w')(I:Blk w g t cs)(N:¬H g):Blk w' g t cs:=(h.block g I.lt N).trans I
theorem Sb.agree(h:Sb H w w'):Agree (NH H w) w w':=λb I=>h.block b I.1 I.2
theorem Sb.ext{a b c:World}(h:Sb H a b)(k:Ext b c):Sb H a c:=h.trans (k.sb H)
theorem Sb.drew{a w:World}(h:Sb H a w):Sb H a w.drew:=h.ext ((fq w).drew)
theorem Sb.set{a w:World}(h:Sb H a w){p:Addr}(I:a.heap.size<=p.block\/H p.block)(u:Value):Sb H a (w.setCell p u):=
 ⟨h.os,h.tape,h.output,by simpa[World.setCell]using h.size,λi hi N=>(eG w p u i (by
   rintro rfl;rcases I with I|I
   .omega
   exact N I)).trans (h.block i hi N)⟩
theorem Sb.grown{b:Nat}(h:w.grownBy w' (some b)):Sb (λi=>i=b) w w':=
 ⟨h.os,h.tape,h.output,h.size,λi hi I=>h.block i hi (by intro e;injection e with e;exact I e)⟩
theorem Sb.made(h:w.grownBy w' none):Sb H w w':=⟨h.os,h.tape,h.output,h.size,λi hi I=>h.block i hi sM⟩
theorem Qbx{H:Type}{k:TypeId}{R:Value->Option (DataW H × List MemPlace)}{b n:Nat}{D:DataW H}(h:w.ownsMap P k R b n D)(N:w'.heap[b]? = w.heap[b]?):w'.ownsMap P k R b n D:=by
 obtain⟨Z,I,h1,F,h2,h3⟩:=h;exact⟨Z,I,N.trans h1,F,h2,h3⟩
abbrev fu:=@Sb.refl
structure OD where
 T:RT
 mb:Option Nat
 s:Sl
 us:List UD
 Hs:List (AL SV)
 C:AL SV
def OvB(O:Nat)(d:OD):Nat->Prop:=λb=>b=O\/d.mb=some b\/d.s.row=some b
def OvF(H:Nat->Prop)(w:World)(O:Nat)(d:OD):Nat->Prop:=λb=>b<w.heap.size/\¬OvB O d b/\¬H b
theorem Qdd(w:World)(F:Nat->Prop):RV w F zeroV Sl.none Sl.none:=RV.flat _ _ _ _ _ _ oN oN oN
def QkU(w:World)(F:Nat->Prop)(s:SV):Prop:=RV w F s.v s.sl s.so/\(s.has=false->s.v=zeroV)
theorem QkU.agree{s:SV}(h:QkU w F s)(I:Agree F w w'):QkU w' F s:=⟨h.1.agree I,h.2⟩
theorem QkU.mono{s:SV}(h:QkU w F s)(I:∀i,F i->G i):QkU w G s:=⟨h.1.mono I,h.2⟩
def Qh2(w:World)(F:Nat->Prop)(O:Nat)(u:UD)(v:Value):Prop:=
 ∃(bw bd bo bk:Nat) (o:SV),v=.func (.func 211) #[] #[.pointer (some ⟨bw,0,none⟩),.pointer (some ⟨bd,0,none⟩),.pointer (some ⟨bo,0,none⟩),.pointer (some ⟨bk,0,none⟩)]/\
  (F bw/\F bd/\F bo/\F bk)/\Blk w bw 4 #[.bool u.old.isSome]/\Blk w bd 192 o.cells/\(∀x,u.old=some x->x=o)/\Blk w bo 151 #[.pointer (some ⟨O,0,none⟩)]/\Blk w bk 9 #[.string u.k]
variable{O:Nat}
theorem Qh2.agree{u:UD}{v:Value}(h:Qh2 w F O u v)(I:Agree F w w'):Qh2 w' F O u v:=by
 obtain⟨bw,bd,bo,bk,o,h1,⟨Z,f2,f3,N⟩,h2,h3,h4,h5,h6⟩:=h;exact⟨bw,bd,bo,bk,o,h1,⟨Z,f2,f3,N⟩,h2.agree I Z,h3.agree I f2,h4,h5.agree I f3,h6.agree I N⟩
theorem Qh2.mono{u:UD}{v:Value}(h:Qh2 w F O u v)(I:∀i,F i->G i):Qh2 w G O u v:=by
 obtain⟨N,Z,bo,bk,o,h1,⟨f1,f2,f3,f4⟩,r⟩:=h;exact⟨N,Z,bo,bk,o,h1,⟨I _ f1,I _ f2,I _ f3,I _ f4⟩,r⟩
def Qbp(w:World)(mb:Option Nat)(C:AL SV):Prop:=match mb with
 |none=>C=[]
 |some b=>w.ownsMap prog 9 QeO b C.length (mapA SV.val C)
variable{C:AL SV}
theorem Qbp.heap{mb:Option Nat}(h:Qbp w mb C)(I:∀b,mb=some b->w'.heap[b]? = w.heap[b]?):Qbp w' mb C:=by
 cases mb with
 |none=>exact h
 |some b=>exact Qbx h (I b rfl)
theorem Qbp.lt{mb:Option Nat}(h:Qbp w mb C){b:Nat}(I:mb=some b):b<w:=by
 subst I;exact World.ownsMap.lt h
theorem QeV{b n:Nat}(h:w.ownsMap prog 9 QeO b n (mapA SV.val C)):w.ownsMap prog 9 QeO b C.length (mapA SV.val C):=by
 obtain⟨Z,I,h1,F,h2,N⟩:=h;refine⟨Z,I,h1,F,?_,N⟩;have:=congrArg Maps.size N;rw[Qkt]at this;simp[Maps.size,length_sorted]at this;omega
def Qu9(w:World)(F:Nat->Prop)(O:Nat)(s:Sl)(us:List UD):Prop:=
 ∃xs:List Value,xs.length=us.length/\w.ownsRow 0 1 1 (.slice s.a us.length s.c) us.length xs/\∀(i:Nat) (u:UD) (v:Value),us[i]? = some u->xs[i]? = some v->Qh2 w F O u v
structure QcK(H:Nat->Prop)(w:World)(O:Nat)(d:OD):Prop where
 blk:Blk w O 184 #[QaK d.T,.map d.mb,.slice d.s.a d.us.length d.s.c]
 map:Qbp w d.mb d.C
 row:Qu9 w (OvF H w O d) O d.s d.us
 vals:∀p∈d.C,p.1.size<=maxLen/\QkU w (OvF H w O d) p.2
 olds:∀u∈d.us,u.k.size<=maxLen/\∀o,u.old=some o->QkU w (OvF H w O d) o
 hist:Chain d.us d.Hs
 h0:d.Hs[0]? = some []
 last:d.Hs[d.us.length]? = some d.C
 sorted:Qay d.C
 tree:IsT w (OvF H w O d) d.T
 ok:OkR d.T
 ne:d.mb≠some O/\d.s.row≠some O/\∀b,d.mb=some b->d.s.row≠some b
 out:∀b,OvB O d b->¬H b
 some_:d.us≠[]->∃b,d.mb=some b
theorem Chain.short{I:List UD}{N:List (AL SV)}(h:Chain I N)(Z:N[0]? = some []):∀(i:Nat) (C:AL SV),N[i]? = some C->C.length<=i
 |0,C,hC=>by rw[Z]at hC;injection hC with hC;subst hC;exact an _
 | i+1,C,hC=>by
   have hi:i<I.length:=by have:=(ae.1 hC).1;have:=h.len;omega
   obtain⟨C',s,h1,h2,h3,h4⟩:=h.step i _ (ac hi);rw[h4]at hC;injection hC with hC;subst hC;have:=h.short Z i C' h1;have:=Qsc (C:=C') (k:=(I[i]'hi).k) (v:=s);omega
section
variable{H : Nat -> Prop}{w w' : World}{O : Nat}{d : OD}
theorem QcK.few(h:QcK H w O d):d.C.length<=d.us.length:=h.hist.short h.h0 _ _ h.last
theorem QcK.Qko(h:QcK H w O d){b:Nat}(I:d.s.row=some b):b<w:=by
 obtain⟨xs,-,h2,-⟩:=h.row;exact(Qad h2 I).2
theorem QcK.Qbe(h:QcK H w O d){b:Nat}(I:OvB O d b):b<w:=by
 rcases I with rfl|I|I
 .exact h.blk.lt
 .exact h.map.lt I
 exact h.Qko I
theorem QcK.sb{G:Nat->Prop}(h:QcK H w O d)(k:Sb G w w')(hG:∀b,G b->H b):QcK H w' O d:=by
 have Z:Agree (OvF H w O d) w w':=λb I=>k.block b I.1 λhh=>I.2.2 (hG b hh)
 have N:∀i,OvF H w O d i->OvF H w' O d i:=λi hi=>⟨Nat.lt_of_lt_of_le hi.1 k.size,hi.2⟩
 have hn:∀b,OvB O d b->¬G b:=λb I hg=>h.out b I (hG b hg)
 obtain⟨xs,r1,r2,r3⟩:=h.row;exact⟨k.blk h.blk (hn O (.inl rfl)),h.map.heap λb I=>k.block b (h.map.lt I) (hn b (.inr (.inl I))),
  ⟨xs,r1,Qab r2 k.agree λb I=>⟨h.Qko I,hn b (.inr (.inr I))⟩,λi u v hu hv=>((r3 i u v hu hv).agree Z).mono N⟩,
  λp hp=>⟨(h.vals p hp).1,((h.vals p hp).2.agree Z).mono N⟩,λu hu=>⟨(h.olds u hu).1,λo ho=>(((h.olds u hu).2 o ho).agree Z).mono N⟩,
  h.hist,h.h0,h.last,h.sorted,(h.tree.agree Z).mono N,h.ok,h.ne,h.out,h.some_⟩
theorem QcK.ext(h:QcK H w O d)(k:Ext w w'):QcK H w' O d:=h.sb (k.sb λ_=>False) λ_ I=>I.elim
theorem QcK.more{G:Nat->Prop}(h:QcK H w O d)(hG:∀b,b<w.heap.size->G b->H b):QcK G w O d:=by
 have I:∀i,OvF H w O d i->OvF G w O d i:=λi hi=>⟨hi.1,hi.2.1,λN=>hi.2.2 (hG i hi.1 N)⟩
 obtain⟨xs,r1,r2,r3⟩:=h.row;exact⟨h.blk,h.map,⟨xs,r1,r2,λi u v hu hv=>(r3 i u v hu hv).mono I⟩,λp hp=>⟨(h.vals p hp).1,(h.vals p hp).2.mono I⟩,
  λu hu=>⟨(h.olds u hu).1,λo ho=>((h.olds u hu).2 o ho).mono I⟩,h.hist,h.h0,h.last,h.sorted,h.tree.mono I,h.ok,h.ne,λb Z N=>h.out b Z (hG b (h.Qbe Z) N),h.some_⟩
end
theorem Qe2:Keyed prog 9:=string_keyed underlying9
theorem QtW(k:ByteArray)(I:k.size<=maxLen):keyOf prog 9 (.string k)=some (Qfz k):=Go.WideMaps.keyOf_string_mk underlying9 I
structure Qok(H:Nat->Prop)(w:World)(O:Nat)(d d':OD)(w':World):Prop where
 at_:QcK H w' O d'
 sb:Sb (OvB O d) w w'
 new:∀b,OvB O d' b->OvB O d b\/w.heap.size<=b
abbrev QhY:SV:=⟨false,zeroV,Sl.none,Sl.none⟩
theorem Qgd(w:World):(zeroValue 192).run prog w=.ok QhY.val w:=kM
theorem Tryz.Qul:(prog.info? 1).map (λi=>(i.zero,i.size,i.bytes))=some (some Value.nilFunc,1,8):=kM
def Qiw(C:AL SV)(k:ByteArray):SV:=(QaZ C k).getD QhY
variable{W:World}
theorem Qlg{mb:Option Nat}(hm:Qbp W mb C){k:ByteArray}(Z:k.size<=maxLen) :
  (Instr.lookup 181 (.map mb) (.string k) true).run prog W=.ok (.tuple #[(Qiw C k).val,.bool (QaZ C k).isSome]) W:=by
 cases mb with
 | none=>
   have hC:C=[]:=hm;subst hC;rw[Maps.look_nil true Qe2 underlying181 (Qgd W) (QtW k Z)];rfl
 | some b=>
   obtain⟨v,ps,I,N⟩:=World.ownsMap.look_ok hm Qe2 underlying181 (Qgd W) (zd:=.held QhY.val) (zp:=[]) rfl (QtW k Z);rw[Qgh]at N;rw[I,Ql5];unfold Qiw;cases hg:QaZ C k with
   |none=>rw[hg]at N;rw[QeP N];rfl
   |some s=>rw[hg]at N;rw[QeP N];rfl
variable{a:Act}{Q:Exit->Act->World->Prop}{K:Act->World->Prop}
theorem Qj9{o:Oper}{m x v:Operand}(Z:o.op=Op.mapUpdate 181 m x v)
  {b:Nat} {k:ByteArray} {s:SV} (hm:a.eval m=.map (some b)) (hx:a.eval x=.string k) (hv:a.eval v=s.val) (N:Qbp w (some b) C) (hk:k.size<=maxLen) (hC:C.length<maxLen) (hs:Qay C)
  (hK:∀w',Qbp w' (some b) (QcX C k s)->Sb (λc=>c=b) w w'->K (a.put o.dst undef) w'):Oper.wp prog o a w K Q:=by
 obtain⟨w',I,r1,r2⟩:=World.ownsMap.store N Qe2 underlying181 hC (QtW k hk) (val:=s.val) (d:=.held s.val) (ps:=[]) rfl;unfold Oper.wp;simp[execOp,Z,hm,hx,hv,I,Result.andThen];rw[Qse SV.val hs]at r1;exact hK _ (QeV r1) (Sb.grown r2.grown)
theorem Qp1{o:Oper}{m x:Operand}(Z:o.op=Op.call { callee:=Callee.builtin Builtin.delete,args:=#[m,x],argTypes:=#[181,9] })
  {b:Nat} {k:ByteArray} (hm:a.eval m=.map (some b)) (hx:a.eval x=.string k) (N:Qbp w (some b) C) (hk:k.size<=maxLen)
  (hK:∀w',Qbp w' (some b) (Qjs C k)->Sb (λc=>c=b) w w'->K (a.put o.dst (.tuple #[])) w'):Oper.wp prog o a w K Q:=by
 obtain⟨w',I,r1,r2⟩:=World.ownsMap.drop N Qe2 underlying181 (QtW k hk) o.type;unfold Oper.wp;simp[execOp,Z,resolve,invoke,builtin,hm,hx,I,Result.andThen];rw[Qrg SV.val]at r1;exact hK _ (QeV r1) (Sb.grown r2.grown)
theorem Qbp.ne{b g:Nat}{t:TypeId}{cs:Array Value}(h:Qbp w (some b) C)(N:Blk w g t cs):g≠b:=by
 rintro rfl;obtain⟨Z,I,h1,-⟩:=h;have h2:w.heap[g]? = some (.cells cs t (0,0)):=N;rw[h1]at h2;cases h2
theorem Qru{us:List UD}{Z:List (AL SV)}(h:Chain us Z)(N:Z[us.length]? = some C):∃I,Z=I++[C]:=by
 have hn:=h.len;rcases List.eq_nil_or_concat Z with rfl |⟨I,c,rfl⟩
 .simp at hn
 refine⟨I,?_⟩;rw[List.concat_eq_append]at *;rw[aj,bp]at hn;rw[aO oM,show us.length-I.length=0 by omega]at N;injection N with N;rw[N]
section
variable{H : Nat -> Prop}{w wc : World}{O : Nat}{d : OD}
theorem QcK.made(h:QcK H w O d)(hm:d.mb=none){b:Nat}(hb:w.heap.size<=b)(hH:∀b,H b->b<w.heap.size)(k:Sb (λc=>c=O) w wc)
  (N:Blk wc O 184 #[QaK d.T,.map (some b),.slice d.s.a d.us.length d.s.c]) (Z:wc.ownsMap prog 9 QeO b 0 (mapA SV.val [])):QcK H wc O { d with mb:=some b }:=by
 have hC:d.C=[]:=by have:=h.map;rw[hm]at this;exact this
 have ha:Agree (OvF H w O d) w wc:=λi hi=>k.block i hi.1 λe=>hi.2.1 (.inl e)
 have I:∀i,OvF H w O d i->OvF H wc O { d with mb:=some b } i:=λi hi=>⟨Nat.lt_of_lt_of_le hi.1 k.size,λe=>by
  rcases e with e|e|e
  .exact hi.2.1 (.inl e)
  ·have e:some b=some i:=e
   injection e with e;have:=hi.1;omega
  exact hi.2.1 (.inr (.inr e)),hi.2.2⟩
 obtain⟨xs,r1,r2,r3⟩:=h.row;refine⟨N,?_,⟨xs,r1,Qab r2 k.agree λi hi=>⟨h.Qko hi,λe=>h.ne.2.1 (by rw[<-e];exact hi)⟩,λi u v hu hv=>((r3 i u v hu hv).agree ha).mono I⟩,
  λp hp=>⟨(h.vals p hp).1,((h.vals p hp).2.agree ha).mono I⟩,λu hu=>⟨(h.olds u hu).1,λo ho=>(((h.olds u hu).2 o ho).agree ha).mono I⟩,
  h.hist,h.h0,h.last,h.sorted,(h.tree.agree ha).mono I,h.ok,⟨?_,h.ne.2.1,?_⟩,?_,λ_=>⟨b,rfl⟩⟩
 ·show wc.ownsMap _ _ _ _ _ _
  rw[hC];exact Z
 ·intro e
  have e:some b=some O:=e;injection e with e;have:=h.blk.lt;omega
 ·intro i hi hr
  have hi:some b=some i:=hi;injection hi with hi;have:=h.Qko hr;omega
 rintro i (hi|hi|hi) hh
 .exact h.out i (.inl hi) hh
 ·have hi:some b=some i:=hi
  injection hi with hi;have:=hH i hh;omega
 exact h.out i (.inr (.inr hi)) hh
structure Qou(H:Nat->Prop)(w:World)(O:Nat)(d:OD)(k:ByteArray)(sv:SV)(b:Nat)(wc:World):Prop where
 at_:QcK H wc O { d with mb:=some b }
 sb:Sb (OvB O d) w wc
 mb:d.mb=some b\/w.heap.size<=b
 big:w.heap.size+3<=wc.heap.size
 bo:Blk wc w.heap.size 151 #[.pointer (some ⟨O,0,none⟩)]
 bk:Blk wc (w.heap.size+1) 9 #[.string k]
 bs:Blk wc (w.heap.size+1+1) 192 sv.cells
 ok:QkU wc (OvF H wc O { d with mb:=some b }) sv
def Qq0(H:Nat->Prop)(O:Nat)(d:OD)(k:ByteArray)(sv:SV)(w:World)(e:Ending)(w':World):Prop:=
 (∃r,e=.returned r)/\∃mb s,Qok H w O d ⟨d.T,mb,s,d.us++[⟨k,QaZ d.C k⟩],d.Hs++[QcX d.C k sv],QcX d.C k sv⟩ w'
abbrev QkE(bw bd bo bk:Nat):Value:=.func (.func 211) #[] #[.pointer (some ⟨bw,0,none⟩),.pointer (some ⟨bd,0,none⟩),.pointer (some ⟨bo,0,none⟩),.pointer (some ⟨bk,0,none⟩)]
theorem step_end{k:ByteArray}{sv:SV}{b:Nat}{wm W w5 w7:World}(I:Qou H w O d k sv b wc)(e1:O<w.heap.size)(a4:∀i,d.s.row=some i->i<w.heap.size)(hH:∀b,H b->b<w.heap.size)(hk:k.size<=maxLen)(a7:Ext wc wm)
  {bw bd:Nat} (b8:wc.heap.size<=bw/\bw<wm.heap.size) (b5:wc.heap.size<=bd/\bd<wm.heap.size) (c7:Blk wm bd 192 (Qiw d.C k).cells) (d0:Blk wm bw 4 #[.bool (QaZ d.C k).isSome]) (hx:Ext wm W)
  {xs:List Value} (hl:xs.length=d.us.length) (c9:∀(i:Nat) (u:UD) (v:Value),d.us[i]? = some u->xs[i]? = some v->Qh2 wc (OvF H wc O { d with mb:=some b }) O u v) {N:Sl}
  (a5:w5.ownsRow 0 1 1 (.slice N.a (d.us.length+1) N.c) (d.us.length+1) (xs++[QkE bw bd w.heap.size (w.heap.size+1)])) (a3:Wr W w5 d.s.row) (hs:N.a=d.s.a\/N.a=some ⟨W.heap.size,0,none⟩/\Wr W w5 none)
  (h7:Qbp w7 (some b) (QcX d.C k sv)) (a1:Sb (λc=>c=b) (w5.setCell ⟨O,2,none⟩ (.slice N.a (d.us.length+1) N.c)) w7) :
  Qok H w O d ⟨d.T,some b,N,d.us++[⟨k,QaZ d.C k⟩],d.Hs++[QcX d.C k sv],QcX d.C k sv⟩ w7:=by
 have d3:=I.big;have d6:=a7.size;have e0:=hx.size;have d5:=a3.grown.size;have c8:=a1.size;rw[ee]at c8;have d7:b<wc.heap.size:=I.at_.map.lt rfl;have c2:b≠O:=λe=>I.at_.ne.1 (by rw[e])
 have c6:d.s.row≠some b:=λe=>I.at_.ne.2.2 b rfl e
 have b4:d.s.row≠some O:=I.at_.ne.2.1;have Z:∀i,N.row=some i->d.s.row=some i\/i=W.heap.size:=λi hi=>by
  rcases hs with h |⟨h,-⟩
  .left;rw[Sl.row,<-h];exact hi
  right;rw[Sl.row,h]at hi;simpa using hi.symm
 have b7:N.row≠some O:=λe=>by
  rcases Z O e with h|h
  .exact b4 h
  omega
 have c0:N.row≠some b:=λe=>by
  rcases Z b e with h|h
  .exact c6 h
  omega
 -- what turns between wc and the end
 have hW:Sb (λ_=>False) wc W:=(a7.trans hx).sb _;have h5:Sb (λc=>d.s.row=some c) W w5:=⟨a3.grown.os,a3.grown.tape,a3.grown.output,a3.grown.size,λi hi hn=>a3.grown.block i hi λe=>hn e.symm⟩;have h6:Sb (λc=>c=O) w5 (w5.setCell ⟨O,2,none⟩ (.slice N.a (d.us.length+1) N.c)):=(fu (λc=>c=O) w5).set (p:=⟨O,2,none⟩) (.inr rfl) _;have a6:Sb (OvB O { d with mb:=some b }) wc w7:=
  (((hW.mono λi _ h=>h.elim).trans (h5.mono λi _ h=>.inr (.inr h))).trans (h6.mono λi _ h=>.inl h)).trans (a1.mono λi _ h=>.inr (.inl (by rw[h])))
 have a0:∀{g t cs},Blk wm g t cs->g≠O->g≠b->d.s.row≠some g->Blk w7 g t cs:=λhb h1 h2 h3=>
  a1.blk (h6.blk (h5.blk (hb.ext hx) h3) h1) h2
 have a2:∀i,wc.heap.size<=i\/(i=w.heap.size\/i=w.heap.size+1)->i<wm.heap.size->i≠b->OvF H w7 O ⟨d.T,some b,N,d.us++[⟨k,QaZ d.C k⟩],d.Hs++[QcX d.C k sv],QcX d.C k sv⟩ i:=λi hi d8 c4=>
  ⟨oM,λe=>by
    rcases e with e|e|e
    .omega
    ·have e:some b=some i:=e
     injection e with e;exact c4 e.symm
    rcases Z i e with h|h
    .have:=a4 i h;omega
    omega,λhh=>by have:=hH i hh;omega⟩
 have c1:=I.bo;have b6:=I.bk;have b3:=Qbp.ne I.at_.map c1;have b9:=Qbp.ne I.at_.map b6;have ha:Agree (OvF H wc O { d with mb:=some b }) wc w7:=λi hi=>a6.block i hi.1 hi.2.1
 have hm:∀i,OvF H wc O { d with mb:=some b } i->OvF H w7 O ⟨d.T,some b,N,d.us++[⟨k,QaZ d.C k⟩],d.Hs++[QcX d.C k sv],QcX d.C k sv⟩ i:=λi hi=>
  ⟨Nat.lt_of_lt_of_le hi.1 a6.size,λe=>by
    rcases e with e|e|e
    .exact hi.2.1 (.inl e)
    .exact hi.2.1 (.inr (.inl e))
    rcases Z i e with h|h
    .exact hi.2.1 (.inr (.inr h))
    have:=hi.1;omega,hi.2.2⟩
 obtain⟨Ps,a9⟩:=Qru I.at_.hist I.at_.last;have a9:d.Hs=Ps++[d.C]:=a9;have b0:Chain d.us d.Hs:=I.at_.hist;have c3:d.Hs[d.us.length]? = some d.C:=I.at_.last;have d4:=b0.len;have a8:Qay d.C:=I.at_.sorted;refine⟨⟨?_,h7,⟨xs++[QkE bw bd w.heap.size (w.heap.size+1)],by simp[hl],?_,?_⟩,?_,?_,?_,?_,?_,Qbu a8 _ _,(I.at_.tree.agree ha).mono hm,I.at_.ok,⟨?_,b7,?_⟩,?_,λ_=>⟨b,rfl⟩⟩,?_,?_⟩
 ·have h8:Blk (w5.setCell ⟨O,2,none⟩ (.slice N.a (d.us.length+1) N.c)) O 184 #[QaK d.T,.map (some b),.slice N.a (d.us.length+1) N.c]:=(h5.blk ((I.at_.blk.ext a7).ext hx) b4).QbH 2 _
  have h9:=a1.blk h8 (λe=>c2 e.symm);show Blk w7 O _ #[_,_,.slice N.a (d.us++[(⟨k,QaZ d.C k⟩:UD)]).length N.c];rw[aj,bp];exact h9
 ·show w7.ownsRow 0 _ 1 (.slice N.a (d.us++[(⟨k,QaZ d.C k⟩:UD)]).length N.c) (d.us++[(⟨k,QaZ d.C k⟩:UD)]).length _
  rw[aj,bp];exact Qab (Qab a5 h6.agree λi hi=>⟨(Qad a5 hi).2,λe=>b7 (by rw[<-e];exact hi)⟩) a1.agree λi hi=>⟨by rw[ee];exact(Qad a5 hi).2,λe=>c0 (by rw[<-e];exact hi)⟩
 ·intro i u v hu hv
  rcases Nat.lt_or_ge i d.us.length with hi|hi
  ·have hu:(d.us++[(⟨k,QaZ d.C k⟩:UD)])[i]? = some u:=hu
   rw[bn hi]at hu;rw[bn oM]at hv;exact((c9 i u v hu hv).agree ha).mono hm
  have hu:(d.us++[(⟨k,QaZ d.C k⟩:UD)])[i]? = some u:=hu;rw[aO hi]at hu;rw[aO oM]at hv;have h0:i-d.us.length=0:=by have:=(ae.1 hu).1;simpa using this
  rw[h0]at hu;rw[show i-xs.length=0 by omega]at hv;have hu:(⟨k,QaZ d.C k⟩:UD)=u:=by simpa using hu
  have hv:QkE bw bd w.heap.size (w.heap.size+1)=v:=by simpa using hv
  subst hu hv;refine⟨bw,bd,w.heap.size,w.heap.size+1,Qiw d.C k,rfl,⟨a2 _ (.inl b8.1) b8.2 oM,a2 _ (.inl b5.1) b5.2 oM,a2 _ (.inr (.inl rfl)) oM b3,a2 _ (.inr (.inr rfl)) oM b9⟩,?_,?_,?_,?_,?_⟩
  .exact a0 d0 oM oM λe=>by have:=a4 _ e;omega
  .exact a0 c7 oM oM λe=>by have:=a4 _ e;omega
  ·intro x hx
   have hx:QaZ d.C k=some x:=hx;unfold Qiw;rw[hx];rfl
  .exact a0 (c1.ext a7) oM b3 λe=>by have:=a4 _ e;omega
  exact a0 (b6.ext a7) oM b9 λe=>by have:=a4 _ e;omega
 ·intro p hp
  rcases QiH hp with rfl|hp
  .exact ⟨hk,(I.ok.agree ha).mono hm⟩
  exact⟨(I.at_.vals p hp).1,((I.at_.vals p hp).2.agree ha).mono hm⟩
 ·intro u hu
  rcases aP.1 hu with hu|hu
  .exact ⟨(I.at_.olds u hu).1,λo ho=>(((I.at_.olds u hu).2 o ho).agree ha).mono hm⟩
  rw[aR.1 hu];exact⟨hk,λo ho=>((((I.at_.vals (k,o) (QeJ ho)).2).agree ha).mono hm)⟩
 ·show Chain (d.us++[(⟨k,QaZ d.C k⟩:UD)]) (d.Hs++[QcX d.C k sv])
  rw[a9]at b0 ⊢;exact b0.snoc a8 k sv
 ·have h0:d.Hs[0]? = some []:=I.at_.h0
  show(d.Hs++[QcX d.C k sv])[0]? = _;rw[bn oM];exact h0
 ·show (d.Hs++[QcX d.C k sv])[(d.us++[(⟨k,QaZ d.C k⟩:UD)]).length]? = some (QcX d.C k sv)
  rw[aj,bp,aO oM,show d.us.length+1-d.Hs.length=0 by omega];rfl
 ·intro e
  have e:some b=some O:=e;injection e with e;exact c2 e
 ·intro i hi
  have hi:some b=some i:=hi;injection hi with hi;subst hi;exact c0
 ·rintro i (hi | hi | hi) hh
  .exact I.at_.out i (.inl hi) hh
  .exact I.at_.out i (.inr (.inl hi)) hh
  rcases Z i hi with h|h
  .exact I.at_.out i (.inr (.inr h)) hh
  have:=hH i hh;omega
 ·refine I.sb.comp a6 fun i hi h=>?_
  rcases h with h|h|h
  .exact .inl h
  ·have h:some b=some i:=h
   injection h with h;subst h;rcases I.mb with h|h
   .exact .inr (.inl h)
   omega
  exact .inr (.inr h)
 rintro i (hi|hi|hi)
 .exact .inl (.inl hi)
 ·have hi:some b=some i:=hi
  injection hi with hi;subst hi;rcases I.mb with h|h
  .exact .inl (.inr (.inl h))
  exact .inr h
 rcases Z i hi with h|h
 .exact .inl (.inr (.inr h))
 right;omega
end
abbrev od0(T:RT):OD:=⟨T,none,Sl.none,[],[[]],[]⟩
theorem QcK.fresh(I:Blk w O 184 #[QaK T,.map none,.slice none 0 0])(N:IsT w F T)(ok:OkR T)(hF:∀b,F b->b<w.heap.size/\¬H b/\b≠O)(Z:¬H O):QcK H w O (od0 T):=
 ⟨I,rfl,⟨[],rfl,ey _ _ _ _,λi u v hu=>by simp at hu⟩,λp hp=>(by cases hp),λu hu=>(by cases hu),Chain.nil [],rfl,rfl,List.Pairwise.nil,
   N.mono λb I=>⟨(hF b I).1,⟨λh=>by
    rcases h with h|h|h
    .exact (hF b I).2.2 h
    .cases h
    (cases h),(hF b I).2.1⟩⟩,ok,⟨sM,by simp[Sl.row],λb I=>(by cases I)⟩,λb I=>by
   rcases I with rfl|h|h
   .exact Z
   .cases h
   (cases h),λh=>absurd rfl h⟩
theorem Qq5(hT:IsT w F T)(ok:OkR T)(hF:∀b,F b->b<w.heap.size/\¬H b)(hH:∀b,H b->b<w.heap.size) :
  Calls prog 94 #[Qao T] w λe w'=>∃O,e=.returned (.pointer (some ⟨O,0,none⟩))/\w.heap.size<=O/\QcK H w' O (od0 T)/\Ext w w':=by
 obtain⟨p,hp⟩:=Qaj T;rw[Qao,hp];obtain⟨HT,Z,HH,HP⟩:=Ye hT hF hH hp;clear hT hF hH hp;go_in;go_wp2_with fail;generalize a0:World.alloc _ _=W0;obtain⟨I,a2,-,a1⟩:=Qas w _ _ _ _ W0 a0;refine ec (v:=.pointer (some ⟨w+1,0,none⟩)) (by simp[results,results94,go_sem]) rfl ?_;refine⟨w+1,rfl,cq _,QcK.fresh (by rw[HP.o];exact a1) (HT.o.agree (I.agree λb N=>(Z.o b N).1)) ok (λb N=>⟨by have:=(Z.o b N).1;omega,(Z.o b N).2,by have:=(Z.o b N).1;omega⟩) (λh=>by have:=HH.o _ h;omega),I⟩
variable{d:OD}
theorem QdB(h:QcK H w O d):Calls prog 164 #[.pointer (some ⟨O,0,none⟩)] w λe w'=>e=.returned (.int .i64 (d.us.length:Int))/\Ext w w':=by
 have I:w.cell? ⟨O,2,none⟩=some (.slice d.s.a d.us.length d.s.c):=h.blk.cell 2;clear h;go_in;go_wp2_with fail;go_ret;exact⟨rfl,fq w⟩
abbrev OD.now(d:OD)(k:ByteArray):Option Val:=QkO (Qaa d.T) (Qhe d.C) k
theorem Qmo{k:ByteArray}(h:QaZ d.C k=none):d.now k=Qaq (Qaa d.T) k:=by
 unfold OD.now QkO;rw[QdU,h];rfl
theorem Qmp{k:ByteArray}{s:SV}(h:QaZ d.C k=some s):d.now k=s.opt:=by
 unfold OD.now QkO;rw[QdU,h];rfl
theorem Qtz{s:SV}(h:QkU w F s):s.opt.getD zeroV=s.v/\s.opt.isSome=s.has:=by
 unfold SV.opt;cases I:s.has with
 |true=>simp
 |false=>simp[h.2 I]
theorem QsA(h:QcK H w O d)(hl:(Qaa d.T).length<=1000000){k:ByteArray}(hk:k.size<=maxLen) :
  Calls prog 196 #[.pointer (some ⟨O,0,none⟩),.string k] w (QbC (d.now k) w):=by
 have lO:=h.blk.lt;have c1:w.cell? ⟨O,1,none⟩=some (.map d.mb):=h.blk.cell 1;have c0:w.cell? ⟨O,0,none⟩=some (QaK d.T):=h.blk.cell 0;have a4:∀cs t,(Instr.lookup 181 (.map d.mb) (.string k) true).run prog (w.alloc (.cells cs t))=.ok (.tuple #[(Qiw d.C k).val,.bool (QaZ d.C k).isSome]) (w.alloc (.cells cs t)):=λcs t=>
  Qlg (h.map.heap λb I=>ev _ _ _ (h.map.lt I)) hk
 cases hg:QaZ d.C k with
 | none=>
   rw[Qmo hg];simp only[hg,Qiw,Option.getD_none,Option.isSome_none]at a4;have hF:∀b,OvF H w O d b->b<w.heap.size:=λb I=>I.1
   have a8:=λW (hW:Ext w W)=>Qg2 (w:=W) (λb I=>ab (hF b I) hW.size) (h.tree.agree (hW.agree hF)) h.ok hl k
   generalize Qaq (Qaa d.T) k=N at *;obtain⟨p,hp⟩:=Qaj d.T;rw[hp]at c0;simp only[Qao,hp]at a8;have b6:=hY a8;clear a8 h hF hg hp;go_in;go_wp2_with fail;generalize a2:World.alloc _ _=W0;obtain⟨Z,a3,a0,a5⟩:=Qas w _ _ _ _ W0 a2;obtain⟨a6,a9,HZ⟩:=Yc Z a0 a3;clear a2 a0 a5 a3 a4;refine(b6.o W0 Z).mono ?_;rintro e w1 ⟨sl,so,rfl,b3,a7⟩;have I:=a9.o.ext b3;obtain⟨q0,q1,q2,q3,q4,q5⟩:=I.c6;have f2:=I.frozen;have lb:=I.lt;obtain⟨b9,c4⟩:=Yb b3 a7;clear I b3 a7 Z b6;go_wp2_with fail;refine ec (v:=.tuple #[QbV (N.getD zeroV) sl so,.bool N.isSome]) (by simp[results,results196,go_sem,q0,q1,q2,q3,q4,q5]) rfl ?_;exact Qel (a6.o.trans b9.o) (b:=w.heap.size) (lo:=W0.heap.size) oM (by rw[HZ.o];omega) c4.o
 | some s=>
   rw[Qmp hg];have hs:=(h.vals (k,s) (QeJ hg)).2;have hv:s.opt.getD zeroV=s.v/\s.opt.isSome=s.has:=Qtz hs;simp only[hg,Qiw,Option.getD_some,Option.isSome_some]at a4;have b7:=λW (hW:Ext w W)=>QdS _ s.v (an _) W s.sl s.so ((hs.1.agree (hW.agree λb I=>I.1)).mono λb I=>ab I.1 hW.size)
   obtain⟨N,b5⟩:∃N,s.opt=N:=⟨_,rfl⟩;rw[b5]at hv ⊢;obtain⟨c7,v,sl,so⟩:=s;obtain⟨rfl,rfl⟩:=hv;have b8:=hY b7;clear b7 h hg hs b5;go_in;go_wp2_with fail;generalize a2:World.alloc _ _=W0;obtain⟨Z,a3,a0,a5⟩:=Qas w _ _ _ _ W0 a2;have a1:=hY (show ∀W,St (λb=>b=w.heap.size) W0 W->W.cell? ⟨w.heap.size+1,0,none⟩=some (.bool N.isSome)/\W.cell? ⟨w.heap.size+1,1,none⟩=some (.int .i64 (N.getD zeroV).kind)/\W.cell? ⟨w.heap.size+1,2,none⟩=some (.bool (N.getD zeroV).b)/\W.cell? ⟨w.heap.size+1,3,none⟩=some (.int .i64 (N.getD zeroV).i)/\W.cell? ⟨w.heap.size+1,4,none⟩=some (.string (N.getD zeroV).t)/\W.cell? ⟨w.heap.size+1,5,none⟩=some (.slice sl.a (N.getD zeroV).l.length sl.c)/\W.cell? ⟨w.heap.size+1,6,none⟩=some (.slice so.a (N.getD zeroV).ok.length so.c)from
    λW hW=>by
     have I:=hW.blk a5 oM;exact⟨I.cell 0,I.cell 1,I.cell 2,I.cell 3,I.cell 4,I.cell 5,I.cell 6⟩)
   obtain⟨a6,a9,HZ⟩:=Yc Z a0 a3;have l0:=a0.lt;clear a2 Z a0 a5 a3 a4;refine ed (S:=(λw'=>St (λb=>b=w.heap.size) W0 w')) kM (((fD _ W0).drew)) (λhHeld=>?_);refine Qaf 0 (some 21) a1 hHeld ?_;refine Qaf 1 (some 22) a1 hHeld ?_;refine Qaf 3 (some 24) a1 hHeld ?_;refine Qaf 4 (some 25) a1 hHeld ?_;refine Qac (i:=2) kM rfl (by rfl) (λK hK=>?_);go_simp
   (refine(b8.o _ (a6.o.drew)).mono ?_;rintro e w2 ⟨c3,c2,rfl,b0,a7⟩;have b4:=(a9.o.ext ((fq W0).drew)).ext b0;obtain⟨q0,q1,q2,q3,q4,q5⟩:=b4.c6;have f2:=b4.frozen;have lb:=b4.lt)
   refine hK.out _ _ (hHeld.ext b0) (λhHeld=>?_);clear hK K
   try go_frame
   refine Qac (i:=5) kM rfl (by rfl) (λK hK=>?_);go_simp
   skip
   refine hK.out _ _ (hHeld.QdE (.inr rfl) 0 _ _ _) (λhHeld=>?_);clear hK K
   try go_frame
   refine Qaf 6 (some 5) a1 hHeld ?_;refine eu kM ?_ _;go_wp2_with fail;refine ec (v:=.tuple #[QbV (N.getD zeroV) c3 c2,.bool N.isSome]) (by simp[results,results196,go_sem,q0,q1,q2,q3,q4,q5]) rfl ?_;exact Qel ((a6.o.drew).trans b0) (b:=w.heap.size) (lo:=W0.heap.size) oM (by rw[HZ.o];omega) a7
def QuG(R:Act->World->Prop):Exit->Act->World->Prop
 |.normal,a,w=>R a w
 |_,_,_=>False
variable{R:Act->World->Prop}
theorem QiN(h:R a w):QuG R .normal a w:=h
def QsH(tm:Array Value):List (Nat × Value)->Array Value
 |[]=>tm
 |(i,v)::l=>QsH (tm.setIfInBounds i v) l
theorem QmL{c:Code}{α:Type}(Z:World->α->Prop)(ds:List Nat)(I:α->List (Nat × Value))
  (h1:c.wp P (QuG λN w'=>∃x,Z w' x/\N.defers=a.defers/\N.tmps=QsH a.tmps ((ds.map λd=>(d,N.tmps.getD d undef))++I x)) a w)
  (h2:∀(w':World) (x:α) (vs:Nat->Value),Z w' x->Q .normal { tmps:=QsH a.tmps ((ds.map λd=>(d,vs d))++I x),defers:=a.defers } w'):c.wp P Q a w:=
 wp_mono h1 λe N w' h=>by
  cases e with
  | normal=>
    obtain⟨x,hr,hd,ht⟩:=h;have:=h2 w' x (λd=>N.tmps.getD d undef) hr;rw[<-ht,<-hd]at this;exact this
  |_=>exact h.elim
theorem QmH(w:World)(I t1:TypeId)(N Z:Array Value):∀W,((w.alloc (.cells N I)).alloc (.cells Z t1)).drew=W->
  Ext w W/\W.heap.size=w.heap.size+2/\Blk W w.heap.size I N/\Blk W (w.heap.size+1) t1 Z:=by
 rintro W rfl;obtain⟨hx,hz,h0,h1⟩:=Qas w I t1 N Z _ rfl;exact⟨hx.drew,hz,h0,h1⟩
theorem QqB{t I t1 N:TypeId}{cs Z c1 c2:Array Value}(hb:Blk w O t cs):∀W,((((w.setCell ⟨O,1,none⟩ (.map (some (w.heap.size+1+1+1)))).alloc (.cells Z I)).alloc (.cells c1 t1)).alloc (.cells c2 N)).alloc (.map #[] 0)=W->
  Sb (λc=>c=O) w W/\w.heap.size+3<=W.heap.size/\Blk W O t (cs.setIfInBounds 1 (.map (some (w.heap.size+1+1+1))))/\Blk W w.heap.size I Z/\Blk W (w.heap.size+1) t1 c1/\Blk W (w.heap.size+1+1) N c2/\W.ownsMap prog 9 QeO (w.heap.size+1+1+1) 0 (mapA SV.val []):=by
 rintro W rfl;have hz:(w.setCell ⟨O,1,none⟩ (.map (some (w.heap.size+1+1+1)))).heap.size=w.heap.size:=ee _ _ _;have a1:Sb (λc=>c=O) w (w.setCell ⟨O,1,none⟩ (.map (some (w.heap.size+1+1+1)))):=(fu (λc=>c=O) w).set (p:=⟨O,1,none⟩) (.inr rfl) _;have a2:=hb.QbH 1 (.map (some (w.heap.size+1+1+1)));generalize w.setCell ⟨O,1,none⟩ (.map (some (w.heap.size+1+1+1)))=W0 at *;obtain⟨hx,a0,h0,h1,h2⟩:=Qal W0 I t1 N Z c1 c2 _ rfl;rw[hz]at h0 h1 h2 a0;generalize ((W0.alloc (.cells Z I)).alloc (.cells c1 t1)).alloc (.cells c2 N)=W3 at *;have hm:=World.ownsMap_made W3 prog 9 QeO;rw[show W3.heap.size=w.heap.size+1+1+1 by omega]at hm;exact⟨(a1.trans (hx.sb _)).trans (Sb.made (World.grownBy_alloc _ _ _)),by simp;omega,(a2.ext hx).alloc _,h0.alloc _,h1.alloc _,h2.alloc _,hm⟩
variable{sv:SV}
theorem QmF(h:QcK H w O d)(hH:∀b,H b->b<w.heap.size)(hn:d.us.length<=1000000){k:ByteArray}(hk:k.size<=maxLen)(f8:QkU w (OvF H w O d) sv) :
  Calls prog 195 #[.pointer (some ⟨O,0,none⟩),.string k,sv.val] w (Qq0 H O d k sv w):=by
 obtain⟨i0,hi,e1,i7,j8⟩:=ej Tryz.Qul;have k7:=@run_makeMap prog;have k9:∀(w:World) (r:Option Nat),(binOp .eql 181 (.map r) (.map none)).run prog w=.ok (.bool r.isNone) w:=λw r=>run_eql_map_nil w _ _ _ r underlying181
 have c1:w.cell? ⟨O,1,none⟩=some (.map d.mb):=h.blk.cell 1;have f1:=h.blk.frozen 1;have lO:=h.blk.lt;have g6:∀i,d.s.row=some i->i<w.heap.size:=λi hi=>h.Qko hi
 obtain⟨b0,g0,i2,a9⟩:=Ye h hH f8 g6;clear h hH f8 g6;obtain⟨c4,v,sl,so⟩:=sv;show Calls _ _ #[_,_,.agg #[.bool c4,.int .i64 v.kind,.bool v.b,.int .i64 v.i,.string v.t,.slice sl.a v.l.length sl.c,.slice so.a v.ok.length so.c]] _ _;have l1:O<w.heap.size+1:=oM
 have l2:O<w.heap.size+1+1:=oM
 go_in;go_upto_if 12 with fail;go_cut [] (λwc=>∃b,Qou H w O d k ⟨c4,v,sl,so⟩ b wc)
 case first=>
  obtain⟨mb,d4⟩:∃mb,d.mb=mb:=⟨_,rfl⟩;rw[d4]at c1 ⊢;have f4:=hY d4;clear d4;rcases mb with _|b
  ·go_wp2_with fail
   generalize b4:World.alloc _ _=W0;obtain⟨c6,e1,j9,e2,a5,a6,a3⟩:=QqB b0.o.blk W0 b4;clear b4;go_meet;have c9:=b0.o.made f4.o (b:=w.heap.size+1+1+1) oM g0.o c6 j9 a3;refine⟨_,c9,c6.mono λi _ h=>.inl h,.inr oM,e1,e2,a5,a6,?_⟩;refine(i2.o.agree (λi hi=>c6.block i hi.1 λe=>hi.2.1 (.inl e))).mono λi hi=>⟨Nat.lt_of_lt_of_le hi.1 c6.size,λe=>?_,hi.2.2⟩
   rcases e with e|e|e
   .exact hi.2.1 (.inl e)
   ·have e:some (w.heap.size+1+1+1)=some i:=e
    injection e with e;have:=hi.1;omega
   exact hi.2.1 (.inr (.inr e))
  go_wp2_with fail;generalize b4:World.alloc _ _=W0;obtain⟨b9,k3,e2,a5,a6⟩:=Qal w _ _ _ _ _ _ W0 b4;clear b4;go_meet;have c9:=b0.o.ext b9;have hd:d={ d with mb:=some b }:=by rw[<-f4.o]
  refine⟨b,by rw[<-hd];exact c9,b9.sb _,.inl f4.o,oM,e2,a5,a6,?_⟩;rw[<-hd];exact(i2.o.agree (b9.agree λb hb=>hb.1)).mono λi hi=>⟨Nat.lt_of_lt_of_le hi.1 b9.size,hi.2⟩
 obtain⟨b,hM⟩:=hcut;have e4:∀W,Ext wc W->(Instr.lookup 181 (.map (some b)) (.string k) true).run prog W=.ok (.tuple #[(Qiw d.C k).val,.bool (QaZ d.C k).isSome]) W:=λW hW=>
  Qlg (hM.at_.ext hW).map hk
 obtain⟨o,ho⟩:∃o,Qiw d.C k=o:=⟨_,rfl⟩;obtain⟨g,hg⟩:∃g,(QaZ d.C k).isSome=g:=⟨_,rfl⟩;rw[ho,hg]at e4;obtain⟨oh,ov,b8,b6⟩:=o;obtain⟨HO,HG⟩:=Yb ho hg;have i6:O<wc.heap.size:=hM.at_.blk.lt;have k4:=hM.big;have HM:=hY hM;have I:=hY (show ∀W,Ext wc W->W.cell? ⟨w.heap.size,0,none⟩=some (.pointer (some ⟨O,0,none⟩))/\W.cell? ⟨O,1,none⟩=some (.map (some b))/\W.cell? ⟨w.heap.size+1,0,none⟩=some (.string k)/\
   (Instr.lookup 181 (.map (some b)) (.string k) true).run prog W=.ok (.tuple #[.agg #[.bool oh,.int .i64 ov.kind,.bool ov.b,.int .i64 ov.i,.string ov.t,.slice b8.a ov.l.length b8.c,.slice b6.a ov.ok.length b6.c],.bool g]) W from
  λW hW=>⟨(hM.bo.ext hW).cell 0,((hM.at_.ext hW).blk).cell 1,(hM.bk.ext hW).cell 0,e4 W hW⟩)
 clear hM e4 ho hg c1 f1 l1 l2;go_wp2_with fail;refine QmL (α:=Nat × Nat) (λw' x=>Ext wc w'/\(wc.heap.size<=x.1/\x.1<w'.heap.size)/\(wc.heap.size<=x.2/\x.2<w'.heap.size)/\Blk w' x.1 192 #[.bool oh,.int .i64 ov.kind,.bool ov.b,.int .i64 ov.i,.string ov.t,.slice b8.a ov.l.length b8.c,.slice b6.a ov.ok.length b6.c]/\Blk w' x.2 4 #[.bool g]) [17,18,19,20,21,22,23,24,25] (λx=>[(6,.pointer (some ⟨x.1,0,none⟩)),(7,.pointer (some ⟨x.2,0,none⟩))]) ?h1 ?h2
 case h1=>
  refine ed (S:=(λw'=>Ext wc w')) kM (((fq wc).drew)) (λhHeld=>?_);refine Qaf 0 (some 18) I hHeld ?_;refine Qaf 1 (some 19) I hHeld ?_;refine Qaf 2 (some 20) I hHeld ?_;refine Qaf 3 (some 21) I hHeld ?_;refine Qaf 4 (some 22) I hHeld ?_;refine Qaf 5 (some 23) I hHeld ?_;refine Qaf 6 (some 17) I hHeld ?_;refine Qaf 7 (some 24) I hHeld ?_;refine Qaf 8 (some 25) I hHeld ?_;refine Qix (i:=9) (j:=10) kM rfl rfl (by rfl) (by rfl) (λK N=>?_) (λK N=>?_)
  ·go_simp
   skip
   refine N.out _ _ ((by first|exact(((fq _).drew).alloc _ _).alloc _ _|exact((fq _).drew).alloc _ _)) (λhHeld=>?_);clear N K
   try go_frame
   refine Qac (i:=10) kM rfl (by rfl) (λK N=>?_);go_simp
   skip
   refine N.out _ _ ((by first|exact(((fq _).drew).alloc _ _).alloc _ _|exact((fq _).drew).alloc _ _)) (λhHeld=>?_);clear N K
   try go_frame
   refine Qac (i:=11) kM rfl (by rfl) (λK N=>?_);go_simp
   skip
   refine N.out _ _ ((by first|exact(((fq _).drew).alloc _ _).alloc _ _|exact(((fq _).alloc _ _).alloc _ _).drew)) (λhHeld=>?_);clear N K
   try go_frame
   refine Qac (i:=12) kM rfl (by rfl) (λK N=>?_);go_simp
   skip
   refine N.out _ _ ((by first|exact(((fq _).drew).alloc _ _).alloc _ _|exact(((fq _).alloc _ _).alloc _ _).drew)) (λhHeld=>?_);clear N K
   try go_frame
   refine eu kM ?_ _;generalize e0:World.drew _=Z;obtain⟨a0,j7,a5,a6⟩:=QmH wc _ _ _ _ Z e0;refine QiN ⟨(wc.heap.size,wc.heap.size+1),⟨a0,⟨Nat.le_refl _,by show wc.heap.size<_;omega⟩,⟨Nat.le_succ _,by show wc.heap.size+1<_;omega⟩,a5,a6⟩,kM,?_⟩;simp only[QsH,List.map_cons,List.map_nil,List.cons_append,List.nil_append,List.setIfInBounds_toArray,List.set_cons_zero,List.set_cons_succ]
   kernel_rfl
  go_simp
  skip
  refine N.out _ _ ((by first|exact(((fq _).drew).alloc _ _).alloc _ _|exact((fq _).drew).alloc _ _)) (λhHeld=>?_);clear N K
  try go_frame
  refine Qac (i:=9) kM rfl (by rfl) (λK N=>?_);go_simp
  skip
  refine N.out _ _ ((by first|exact(((fq _).drew).alloc _ _).alloc _ _|exact((fq _).drew).alloc _ _)) (λhHeld=>?_);clear N K
  try go_frame
  refine Qac (i:=11) kM rfl (by rfl) (λK N=>?_);go_simp
  skip
  refine N.out _ _ ((by first|exact(((fq _).drew).alloc _ _).alloc _ _|exact(((fq _).alloc _ _).alloc _ _).drew)) (λhHeld=>?_);clear N K
  try go_frame
  refine Qac (i:=12) kM rfl (by rfl) (λK N=>?_);go_simp
  skip
  refine N.out _ _ ((by first|exact(((fq _).drew).alloc _ _).alloc _ _|exact(((fq _).alloc _ _).alloc _ _).drew)) (λhHeld=>?_);clear N K
  try go_frame
  refine eu kM ?_ _;generalize e0:World.drew _=Z;obtain⟨a0,j7,a5,a6⟩:=QmH wc _ _ _ _ Z e0;refine QiN ⟨(wc.heap.size+1,wc.heap.size),⟨a0,⟨Nat.le_succ _,by show wc.heap.size+1<_;omega⟩,⟨Nat.le_refl _,by show wc.heap.size<_;omega⟩,a6,a5⟩,kM,?_⟩;simp only[QsH,List.map_cons,List.map_nil,List.cons_append,List.nil_append,List.setIfInBounds_toArray,List.set_cons_zero,List.set_cons_succ]
  kernel_rfl
 rintro Z ⟨bd,bw⟩ uu ⟨a0,e3,d8,f6,f7⟩;simp only[QsH,List.map_cons,List.map_nil,List.cons_append,List.nil_append,List.setIfInBounds_toArray,List.set_cons_zero,List.set_cons_succ];dsimp only at e3 d8 f6 f7;have c0:=HM.o.at_.blk.ext a0;have c2:Z.cell? ⟨O,2,none⟩=some (.slice d.s.a d.us.length d.s.c):=c0.cell 2;have f2:=c0.frozen 2;have e6:=c0.lt;have e7:=HM.o.bo.ext a0;have c3:Z.cell? ⟨w.heap.size,0,none⟩=some (.pointer (some ⟨O,0,none⟩)):=e7.cell 0;have l3:=e7.lt;obtain⟨xs,hl,a3,g4⟩:=HM.o.at_.row;obtain⟨HL,j0,i8⟩:=Yc (show xs.length=d.us.length from hl) g4 (show ∀W,Ext Z W->W.ownsRow 0 1 1 (.slice d.s.a d.us.length d.s.c) d.us.length xs fromλW hW=>Qab a3 ((a0.trans hW).agree λb (hb:b<wc.heap.size)=>hb) λb hb=>(Qad a3 hb).2);have f9:d.s.row≠some O:=HM.o.at_.ne.2.1;have j2:d.s.row≠some w.heap.size:=λe=>by have:=a9.o _ e;omega
 have c7:∀u∈[QkE bw bd w.heap.size (w.heap.size+1)],u.oneCell'=true:=by simp[Value.oneCell']
 have g3:d.us.length+1<=maxLen:=by unfold maxLen;omega
 have g9:(d.us.length+1)*8<=140737488355328:=oM
 obtain⟨i1,j1,i9,j4,j3⟩:=Yf a0 f6 f7 d8 e3;clear f6 f7 d8 e3 c0 e7 hl g4 a3 a0 I;go_wp2_with fail;refine QmL (α:=Sl × World × World) (λw' x=>Ext Z x.2.1/\x.2.2.ownsRow 0 1 1 (.slice x.1.a (d.us.length+1) x.1.c) (d.us.length+1) (xs++[QkE bw bd w.heap.size (w.heap.size+1)])/\Wr x.2.1 x.2.2 d.s.row/\(x.1.a=d.s.a\/x.1.a=some ⟨x.2.1.heap.size,0,none⟩/\Wr x.2.1 x.2.2 none)/\w'=x.2.2.setCell ⟨O,2,none⟩ (.slice x.1.a (d.us.length+1) x.1.c)) [26,27,28,29,30,31,32,33,34,35] (λ_=>[]) ?g1 ?g2
 case g1=>
  go_region_law (refine Qdi _ rfl (.tmp 30) (.tmp 32) 182 rfl 0 1 i0 _ 1 8 underlying182 hi e1 i7 j8 rfl oN d.s d.us.length xs (by rfl) (i8.o _ (by first|exact((fq Z).drew).alloc _ _|exact((fq Z).alloc _ _).drew)) (λb=>b=Z.heap.size) ⟨some ⟨Z.heap.size,0,none⟩,1⟩ 1 [QkE bw bd w.heap.size (w.heap.size+1)] (by rfl) (fE (ft _ _ _) oN rfl) c7 g3 g9 (aC _) ?_;intro s5 w5 b3 a2 a8;have d7:=a2.cell0 (w:=Z) (o:=2) (by first|exact((fq Z).drew).alloc _ _|exact((fq Z).alloc _ _).drew) f9 e6;have k8:=d7.1.trans c2;have k5:=d7.2;have i3:=a2.cell0 (w:=Z) (o:=0) (by first|exact((fq Z).drew).alloc _ _|exact((fq Z).alloc _ _).drew) j2 l3;have k6:=i3.1.trans c3;have f5:w5.frozen? ⟨O,2,none⟩=false:=(a2.fz _ _).trans (((by first|exact((fq Z).drew).alloc _ _|exact((fq Z).alloc _ _).drew:Ext Z _).frozen (o:=2) e6).trans f2);have d0:=hY b3;have d5:=hY a2;have d3:=hY a8;clear b3 a2 a8 d7 i3)
  all_goals
   refine QiN ⟨(s5,_,w5),⟨by first|exact((fq Z).drew).alloc _ _|exact((fq Z).alloc _ _).drew,d0.o,d5.o,d3.o,rfl⟩,kM,?_⟩;simp only[QsH,List.map_cons,List.map_nil,List.append_nil,List.cons_append,List.nil_append,List.setIfInBounds_toArray,List.set_cons_zero,List.set_cons_succ]
   kernel_rfl
 rintro w6 ⟨s5,W5,w5⟩ vv ⟨b5,f3,a1,a8,rfl⟩;simp only[QsH,List.map_cons,List.map_nil,List.append_nil,List.cons_append,List.nil_append,List.setIfInBounds_toArray,List.set_cons_zero,List.set_cons_succ];dsimp only at b5 f3 a1 a8;have b7:Ext wc W5:=i1.o.trans b5;have a4:Sb (λc=>c=O\/d.s.row=some c) wc (w5.setCell ⟨O,2,none⟩ (.slice s5.a (d.us.length+1) s5.c)):=
  ((b7.sb _).trans ⟨a1.grown.os,a1.grown.tape,a1.grown.output,a1.grown.size,λi hi hn=>a1.grown.block i hi λe=>hn (.inr e.symm)⟩).trans ((fu _ w5).set (p:=⟨O,2,none⟩) (.inr (.inl rfl)) _)
 have c8:Blk w5 O 184 #[QaK d.T,.map (some b),.slice d.s.a d.us.length d.s.c]:=(a1.agree (F:=λc=>c=O) (λi hi=>by rw[hi];exact ab i6 b7.size) (λi hi e=>f9 (by rw[hi,e])) O rfl).trans (HM.o.at_.blk.ext b7);have f0:=c8.QbH 2 (.slice s5.a (d.us.length+1) s5.c);have g5:¬O=b:=λe=>HM.o.at_.ne.1 (by rw[e])
 have n0:=Qbp.ne HM.o.at_.map HM.o.bo;have n1:=Qbp.ne HM.o.at_.map HM.o.bk;have n2:=Qbp.ne HM.o.at_.map HM.o.bs;have k0:=a4.blk HM.o.bo (λe=>by
  rcases e with e|e
  .omega
  have:=a9.o _ e;omega)
 have k1:=a4.blk HM.o.bk (λe=>by
  rcases e with e|e
  .omega
  have:=a9.o _ e;omega)
 have k2:=a4.blk HM.o.bs (λe=>by
  rcases e with e|e
  .omega
  have:=a9.o _ e;omega)
 have a7:Qbp (w5.setCell ⟨O,2,none⟩ (.slice s5.a (d.us.length+1) s5.c)) (some b) d.C:=HM.o.at_.map.heap λi hi=>by
  injection hi with hi;subst hi;exact a4.block b (HM.o.at_.map.lt rfl) λe=>by
   rcases e with e|e
   .exact g5 e.symm
   exact HM.o.at_.ne.2.2 b rfl e
 obtain⟨j6,d0,d5,d3⟩:=Ye b5 f3 a1 a8;obtain⟨W6,d6⟩:∃W6,w5.setCell ⟨O,2,none⟩ (.slice s5.a (d.us.length+1) s5.c)=W6:=⟨_,rfl⟩;rw[d6]at f0 k0 k1 k2 a7 ⊢;obtain⟨i5,g8⟩:=Yb d6 a7;have I:=hY (show ∀W,Sb (λc=>c=b) W6 W->W.cell? ⟨w.heap.size,0,none⟩=some (.pointer (some ⟨O,0,none⟩))/\W.cell? ⟨O,1,none⟩=some (.map (some b))/\W.cell? ⟨w.heap.size+1,0,none⟩=some (.string k)/\W.cell? ⟨w.heap.size+1+1,0,none⟩=some (.bool c4)/\W.cell? ⟨w.heap.size+1+1,1,none⟩=some (.int .i64 v.kind)/\W.cell? ⟨w.heap.size+1+1,2,none⟩=some (.bool v.b)/\W.cell? ⟨w.heap.size+1+1,3,none⟩=some (.int .i64 v.i)/\W.cell? ⟨w.heap.size+1+1,4,none⟩=some (.string v.t)/\W.cell? ⟨w.heap.size+1+1,5,none⟩=some (.slice sl.a v.l.length sl.c)/\W.cell? ⟨w.heap.size+1+1,6,none⟩=some (.slice so.a v.ok.length so.c)from
  λW hW=>⟨(hW.blk k0 n0).cell 0,(hW.blk f0 g5).cell 1,(hW.blk k1 n1).cell 0,(hW.blk k2 n2).cell 0,(hW.blk k2 n2).cell 1,(hW.blk k2 n2).cell 2,(hW.blk k2 n2).cell 3,(hW.blk k2 n2).cell 4,(hW.blk k2 n2).cell 5,(hW.blk k2 n2).cell 6⟩)
 have j5:d.C.length<maxLen:=by have:=b0.o.few;unfold maxLen;omega
 clear b7 a4 c8 f0 n0 n1 n2 k0 k1 k2 a7 b5 f3 a1 a8 d6 c2 f2 e6 c3 l3 c7 g3 g9;go_wp2_with fail;refine ed (S:=(λw'=>Sb (λc=>c=b) W6 w')) kM (((fu _ W6).drew)) (λhHeld=>?_);refine Qaf 0 (some 36) I hHeld ?_;refine Qaf 1 (some 37) I hHeld ?_;refine Qaf 2 (some 38) I hHeld ?_;refine Qaf 3 (some 39) I hHeld ?_;refine Qaf 4 (some 40) I hHeld ?_;refine Qaf 5 (some 41) I hHeld ?_;refine Qac (i:=6) kM rfl (by rfl) (λK N=>?_)
 skip
 (refine Qj9 (b:=b) (C:=d.C) (k:=k) (s:=⟨c4,v,sl,so⟩) rfl rfl rfl rfl (g8.o.heap λ_ _=>rfl) hk j5 b0.o.sorted ?_;intro w7 e8 g7)
 refine N.out _ _ (hHeld.trans g7) (λhHeld=>?_);clear N K
 try go_frame
 refine eu kM ?_ _;have h7:Sb (λc=>c=b) (w5.setCell ⟨O,2,none⟩ (.slice s5.a (d.us.length+1) s5.c)) w7:=by rw[i5.o];exact hHeld
 have i4:=step_end HM.o lO a9.o g0.o hk i1.o j4.o j3.o (by rw[HO.o];exact j1.o) (by rw[HG.o];exact i9.o) j6.o HL.o j0.o d0.o d5.o d3.o e8 h7;go_end0;exact⟨⟨_,rfl⟩,_,_,i4⟩
abbrev Nw(w w':World):Prop:=Sb (λ_=>False) w w'
theorem Nw.any(h:Nw w w')(H:Nat->Prop):Sb H w w':=h.mono λ_ _ e=>e.elim
theorem Nw.blk(h:Nw w w'){t:TypeId}{cs:Array Value}(I:Blk w g t cs):Blk w' g t cs:=Sb.blk h I λe=>e
theorem Nw.agree{w w':World}(h:Nw w w'){F:Nat->Prop}(hF:∀b,F b->b<w.heap.size):Agree F w w':=λb I=>h.block b (hF b I) λe=>e
theorem Nw.of{w w':World}(h:Ext w w'):Nw w w':=h.sb _
section
variable{H : Nat -> Prop}{w w' : World}{O : Nat}{d d' : OD}
theorem QcK.nw(h:QcK H w O d)(k:Nw w w'):QcK H w' O d:=h.sb k λ_ I=>I.elim
theorem Qok.after{w0:World}(h:Qok H w O d d' w')(k:Nw w0 w):Qok H w0 O d d' w':=
 ⟨h.at_,(k.any _).trans h.sb,λb I=>(h.new b I).imp id λN=>ak k.size N⟩
def OD.step(d:OD)(k:ByteArray)(sv:SV)(mb:Option Nat)(s:Sl):OD:=⟨d.T,mb,s,d.us++[⟨k,QaZ d.C k⟩],d.Hs++[QcX d.C k sv],QcX d.C k sv⟩
end
def QlM(H:Nat->Prop)(O:Nat)(d:OD)(k:ByteArray)(w:World)(e:Ending)(w':World):Prop:=
 e=.returned (.bool (d.now k).isSome)/\(((d.now k).isSome=false/\Nw w w')\/((d.now k).isSome=true/\∃mb s,Qok H w O d (d.step k QhY mb s) w'))
theorem QoZ(h:QcK H w O d)(hH:∀b,H b->b<w.heap.size)(hn:d.us.length<=1000000)(hl:(Qaa d.T).length<=1000000){k:ByteArray}(hk:k.size<=maxLen) :
  Calls prog 168 #[.pointer (some ⟨O,0,none⟩),.string k] w (QlM H O d k w):=by
 have hg:=QsA h hl hk;have N:=λW (hW:Ext w W)=>QmF (h.ext hW) (λb hb=>ab (hH b hb) hW.size) hn hk (sv:=QhY) ⟨Qdd _ _,λ_=>rfl⟩
 unfold QlM;generalize d.now k=og at *;obtain⟨a2,HG⟩:=Yb N hg;clear h hH N hg;go_in;go_wp2_with fail;refine HG.o.mono ?_;rintro e w1 ⟨sl,so,rfl,a0,-⟩;have Z:=hY a0;clear a0;cases og with
 | none=>
   go_wp2_with fail;go_ret;exact⟨rfl,.inl ⟨rfl,Nw.of (Z.o.alloc _ _)⟩⟩
 | some v=>
   go_wp2_with fail;have I:=Z.o.alloc (w:=w1) #[.int .i64 v.kind,.bool v.b,.int .i64 v.i,.string v.t,.slice sl.a v.l.length sl.c,.slice so.a v.ok.length so.c] 34;refine(a2.o _ I).mono ?_;rintro e w3 ⟨⟨r,rfl⟩,mb,s,a1⟩;have a3:=hY (a1.after (Nw.of I));clear a1 I;go_wp2_with fail;go_ret;exact⟨rfl,.inr ⟨rfl,mb,s,a3.o⟩⟩
variable{sl so:Sl}
theorem QnL{k:ByteArray}{v:Val}{c:Int}(I:∀W,Nw w W->Calls prog 194 #[.string k] W λe w'=>e=.returned (.int .i64 c)/\Nw W w')(hc:c≠0) :
  Calls prog 167 #[.pointer (some ⟨O,0,none⟩),.string k,QbV v sl so] w λe w'=>e=.returned (.int .i64 8)/\Nw w w':=by
 have HM:=hY I;have g0:(c != 0)=true:=eE.2 hc;clear I hc;go_in;go_wp2_with fail;have N:Ext w (w.alloc (.cells #[.int .i64 v.kind,.bool v.b,.int .i64 v.i,.string v.t,.slice sl.a v.l.length sl.c,.slice so.a v.ok.length so.c] 34)):=(fq w).alloc _ _;refine(HM.o _ (Nw.of N)).mono ?_;rintro e w1 ⟨rfl,Z⟩;have a0:=hY ((Nw.of N).trans Z);clear N Z;go_wp2_with fail;go_ret;exact⟨rfl,a0.o⟩
theorem Qqg{k:ByteArray}{v:Val}{c:Int}(N:∀W,Nw w W->Calls prog 194 #[.string k] W λe w'=>e=.returned (.int .i64 0)/\Nw W w')
  (Z:∀W,Nw w W->Calls prog 193 #[QbV v sl so] W λe w'=>e=.returned (.int .i64 c)/\Nw W w') (hc:c≠0) :
  Calls prog 167 #[.pointer (some ⟨O,0,none⟩),.string k,QbV v sl so] w λe w'=>e=.returned (.int .i64 c)/\Nw w w':=by
 obtain⟨HM,HF⟩:=Yb N Z;have g0:(c != 0)=true:=eE.2 hc;clear N hc Z;go_in;go_wp2_with fail;have a0:Ext w (w.alloc (.cells #[.int .i64 v.kind,.bool v.b,.int .i64 v.i,.string v.t,.slice sl.a v.l.length sl.c,.slice so.a v.ok.length so.c] 34)):=(fq w).alloc _ _;have a4:=ft w 34 #[.int .i64 v.kind,.bool v.b,.int .i64 v.i,.string v.t,.slice sl.a v.l.length sl.c,.slice so.a v.ok.length so.c];refine(HM.o _ (Nw.of a0)).mono ?_;rintro e w1 ⟨rfl,a1⟩;obtain⟨q0,q1,q2,q3,q4,q5⟩:=(a1.blk a4).c6;have I:=(Nw.of a0).trans a1;have a3:=hY I;clear a0 a1 I a4;go_wp2_with fail;refine(HF.o _ a3.o).mono ?_;rintro e w2 ⟨rfl,a2⟩;have a5:=hY (a3.o.trans a2);clear a2 q0 q1 q2 q3 q4 q5;go_wp2_with fail;go_ret;exact⟨rfl,a5.o⟩
def QqZ(H:Nat->Prop)(O:Nat)(d:OD)(k:ByteArray)(v:Val)(w:World)(e:Ending)(w':World):Prop:=
 e=.returned (.int .i64 0)/\∃sl so mb s,Qok H w O d (d.step k ⟨true,v,sl,so⟩ mb s) w'
theorem QuM(h:QcK H w O d)(hH:∀b,H b->b<w.heap.size)(hn:d.us.length<=1000000){k:ByteArray}(hk:k.size<=maxLen){v:Val}(hv:RV w (Lt w) v sl so)
  (a2:∀W,Nw w W->Calls prog 194 #[.string k] W λe w'=>e=.returned (.int .i64 0)/\Nw W w')
  (a4:∀W,Nw w W->Calls prog 193 #[QbV v sl so] W λe w'=>e=.returned (.int .i64 0)/\Nw W w') :
  Calls prog 167 #[.pointer (some ⟨O,0,none⟩),.string k,QbV v sl so] w (QqZ H O d k v w):=by
 have b0:=λW (hW:Nw w W) sv hsv=>QmF (h.nw hW) (λb hb=>ab (hH b hb) hW.size) hn hk (sv:=sv) hsv
 have c2:=λW (hW:Nw w W)=>QdS _ v (an _) W sl so ((hv.agree (hW.agree λb hb=>hb)).mono λb hb=>ab hb hW.size)
 have a3:∀b,OvB O d b->b<w.heap.size:=λb hb=>h.Qbe hb
 obtain⟨HM,HF,c0,b5,c4,c7⟩:=Yg a2 a4 b0 c2 a3 hH;clear a2 a4 h hv b0 c2 a3 hH;go_in;go_wp2_with fail;have a8:Ext w (w.alloc (.cells #[.int .i64 v.kind,.bool v.b,.int .i64 v.i,.string v.t,.slice sl.a v.l.length sl.c,.slice so.a v.ok.length so.c] 34)):=(fq w).alloc _ _;have c3:=ft w 34 #[.int .i64 v.kind,.bool v.b,.int .i64 v.i,.string v.t,.slice sl.a v.l.length sl.c,.slice so.a v.ok.length so.c];refine(HM.o _ (Nw.of a8)).mono ?_;rintro e w1 ⟨rfl,a9⟩;have a6:=a9.blk c3;obtain⟨q0,q1,q2,q3,q4,q5⟩:=a6.c6;have a0:=(Nw.of a8).trans a9;obtain⟨b6,b3⟩:=Yb a0 a6;clear a8 a9 a0 c3 a6 HM;go_wp2_with fail;refine(HF.o _ b6.o).mono ?_;rintro e w2 ⟨rfl,a7⟩;have c1:=a7.blk b3.o;have a1:=b6.o.trans a7;have Z:=hY a1;clear a7 q0 q1 q2 q3 q4 q5 b3 HF;obtain⟨q0,q1,q2,q3,q4,q5⟩:=c1.c6;clear c1 a1;go_wp2_with fail;refine(b5.o _ Z.o).mono ?_;rintro e w3 ⟨sl',so',rfl,b9,b8⟩;have N:=Z.o.trans (Nw.of b9);have b4:QkU w3 (OvF H w3 O d) ⟨true,v,sl',so'⟩:=⟨b8.mono λi hi=>⟨hi.2,λe=>by have:=c4.o i e;have:=Z.o.size;have:=hi.1;omega,λe=>by have:=c7.o i e;have:=Z.o.size;have:=hi.1;omega⟩,λe=>by cases e⟩;have I:=c0.o w3 N _ b4;obtain⟨c8,a5⟩:=Yb N I;clear b9 b8 N b4 I q0 q1 q2 q3 q4 q5 b5 c0;go_wp2_with fail;refine a5.o.mono ?_;rintro e w4 ⟨⟨r,rfl⟩,mb,s,b7⟩;have c9:=hY (b7.after c8.o);clear b7;go_wp2_with fail;go_ret;exact⟨rfl,sl',so',mb,s,c9.o⟩
abbrev fr:=@Nw.of
abbrev fA:=@Nw.agree
end Go.Proofs.YtdiecmkpbadgjaaGreatDoor
