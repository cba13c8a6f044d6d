/- What the theorem needs of the texts Gather, Step, Build, DiffP, AppP, AL, OvP, OvQ, RangeG, RangeC, Coll, Trod, TrodV, Frame, Map7, Put7, Text02, Cmp02, SameEnt, Map7b, Del7: no condition of its own. -/
import Derived.RangeFuncNested
import Derived.RangeFuncBound
import Derived.OwnWalkIn
import Derived.ProofKit
import Derived.OpenShut
import Derived.Test.YtkjkafgnnoidpaaGreatDoorPhc
set_option linter.unusedVariables false
set_option linter.unusedSimpArgs false
set_option linter.unnecessarySimpa false
set_option maxRecDepth 100000
set_option maxHeartbeats 2000000
namespace Go.Proofs.YtkjkafgnnoidpaaGreatDoor
open Go.Proofs.Tryz
open Go.RowKit
def Qcm(base:Nat)(s:Sl)(xs:List LE)(es:List Ent)(w:World)(e:Ending)(w':World):Prop:=
 ∃(s':Sl) (ys:List LE),e=.returned (.slice s'.a (xs.length+ys.length) s'.c)/\OE w' base s' (xs++ys)/\ys.map LE.ent=es/\Wr w w' s.row/\(s'.row=s.row\/∃b,s'.row=some b/\w.heap.size<=b)
variable{w w':World}{s s':Sl}{xs ys:List LE}{F:Nat->Prop}
theorem OE.append{base:Nat}(Y:OE w base s xs)(Z:Qmw w F ys)(hF:∀b,F b->base<=b/\b<w.heap.size/\s.row≠some b)(hf:(xs.length+ys.length)*104<=140737488355328)
  (R:w'.ownsRow base 70 7 (.slice s'.a (xs.length+ys.length) s'.c) (xs.length+ys.length) (Qai xs++Qai ys)) (N:Wr w w' s.row) (U:s'.row=s.row\/∃b,s'.row=some b/\w.heap.size<=b):OE w' base s' (xs++ys):=by
 have J:∀b,b<w.heap.size->s.row≠some b->s'.row≠some b:=λb hb hn X=>by
  rcases U with h |⟨g,h,hg⟩
  .exact hn (h▸X)
  rw[h]at X;simp at X;omega
 have I:Agree (λb=>(base<=b/\b<w.heap.size)/\s.row≠some b) w w':=N.agree (λi hi=>hi.1.2) (λk hk h=>h.2 hk);refine⟨by rw[ak,QaA];exact R,λx z=>?_,by rw[ak];exact hf⟩;have D:∀i,((base<=i/\i<w.heap.size)/\s.row≠some i)->(base<=i/\i<w'.heap.size)/\s'.row≠some i:=λi hi=>⟨⟨hi.1.1,ab hi.1.2 N.grown.size⟩,J i hi.1.2 hi.2⟩
 rcases aB.1 z with z|z
 .exact ⟨((Y.vals x z).1.agree I).mono D,(Y.vals x z).2⟩
 exact⟨(((Z x z).1.mono λi hi=>⟨⟨(hF i hi).1,(hF i hi).2.1⟩,(hF i hi).2.2⟩).agree I).mono D,(Z x z).2⟩
theorem QaQ.base{es:List Ent}{e:Ending}(h:QaQ es w e w'):∃(s:Sl) (ys:List LE),e=.returned (.slice s.a ys.length s.c)/\ys.map LE.ent=es/\OE w' w.heap.size s ys/\Ext w w':=h
theorem QrV(h:Ext w w')(r:Option Nat):Wr w w' r:=⟨⟨h.below.os,h.below.tape,h.below.output,h.size,λk z _=>h.heap z⟩,h.fz⟩
variable{nv:Value}
theorem QgK{es:List Ent}{base:Nat}(he:Calls prog 101 #[nv] w (QaQ es w))(hk:∀W,Wr w W s.row->Calls prog 95 #[nv] W λe w'=>e=.returned (.slice none 0 0)/\W=w')
  (U:base<=w.heap.size) (ho:OE w base s xs) (hl:xs.length+es.length<=1000000):Calls prog 57 #[.slice s.a xs.length s.c,nv] w (Qcm base s xs es w):=by
 obtain⟨i0,hi,b0,b6,b7⟩:=eG Tryz.Qa1;have HK:=hY hk;have HO:=hY ho;clear hk ho;go_in;go_wp2_with fail;refine he.mono ?_;intro e w1 hp;obtain⟨sy,ys,rfl,R,a0,z⟩:=hp.base;have b3:ys.length=es.length:=by rw[<-R,ao]
 have Y:=HO.o.ext z;have a1:=hY Y;have a5:=hY z;have a3:=hY a0;have b5:=hY R;have b4:xs.length+ys.length<=maxLen:=by unfold maxLen;omega
 have a9:base<=w1.heap.size:=al U z.size;have a2:(xs.length+ys.length)*104<=140737488355328:=by omega
 clear hp R a0 z Y b3;go_wp2_with(at_builtin;refine Qac _ rfl (.tmp 7) (.tmp 9) 22 rfl base 70 i0 _ 7 104 underlying22 hi b0 b6 b7 rfl (by decide) s xs.length (Qai xs) rfl a1.o.own (In w.heap.size w1.heap.size) sy ys.length (Qai ys) rfl a3.o.es.rd (QaM ys) b4 a2 a9 ?_;intro s' w2 D J Z);have N:s'.row=s.row\/∃b,s'.row=some b/\w1<=b:=by
  rcases Z with h |⟨h,-⟩
  .exact .inl (by simp[Sl.row,h])
  exact .inr ⟨w1,by simp[Sl.row,h],an _⟩
 have I:∀b,s.row=some b->b<w:=λb U=>(Qaa HO.o.own U).2
 have a4:=OE.append a1.o a3.o.es.vals (λb U=>⟨Nat.le_trans ‹base<=w.heap.size› U.1,U.2,λe=>by have:=I b e;omega⟩) a2 D J N;have a6:=hY a4;have HW:=hY ((QrV a5.o s.row).trans J (λi hi=>.inl hi));have b8:=hY N;have X:=a5.o.size;clear a4 D J Z N I;refine(HK.o w2 HW.o).mono ?_;rintro e w3 ⟨rfl,rfl⟩;go_wp2_with fail;go_loopw[0,14] (λv i wr=>v=.slice s'.a (xs.length+ys.length) s'.c/\i=.int .i64 0/\wr=w2) (λ_ _ _=>0)
 case atStart=>exact⟨rfl,rfl,rfl⟩
 obtain⟨rfl,rfl,rfl⟩:=hrel;go_wp2_with fail;go_ret;exact⟨s',ys,rfl,a6.o,b5.o,HW.o,b8.o.imp_right λ⟨b,h1,h2⟩=>⟨b,h1,al X h2⟩⟩
structure Qqt(base:Nat)(s:Sl)(xs:List LE)(w wr:World)(s':Sl)(ys:List LE):Prop where
 own:OE wr base s' (xs++ys)
 wr:Wr w wr s.row
 row:s'.row=s.row\/∃b,s'.row=some b/\w.heap.size<=b
variable{h:Nat}
theorem QkM(ih:∀(t:PT h) (w:World) (F:Nat->Prop) (base:Nat) (s:Sl) (xs:List LE),IsN w F h t->(∀b,F b->b<w/\s.row≠some b)->base<=w.heap.size->OE w base s xs->OkT h t->xs.length+(ents h t).length<=1000000->Calls prog 57 #[.slice s.a xs.length s.c,ptr h t] w (Qcm base s xs (ents h t) w))
  {t:PT (h+1)} {base:Nat} (hn:IsN w F (h+1) t) (hF:∀b,F b->b<w/\s.row≠some b) (U:base<=w.heap.size) (ho:OE w base s xs) (ok:OkT (h+1) t) (hl:xs.length+(ents (h+1) t).length<=1000000) :
  Calls prog 57 #[.slice s.a xs.length s.c,ptr (h+1) t] w (Qcm base s xs (ents (h+1) t) w):=by
 obtain⟨i0,hi,e4,f7,f9⟩:=eG Tryz.Qa1;have f3:=ok.2.1;have f5:=ok.1;have hc:=QcO hn (by omega);have d5:∀x∈t.2,IsN w F h x:=hn.2.choose_spec.2.2;have he:=Qii hn;have f8:=hY ih;have HO:=hY ho;have HF:=hY hF;have f2:=hY d5;have d8:=hY ok;have HL:=hY hl;have e7:xs.length+0<=maxLen:=by unfold maxLen;omega
 have c0:(xs.length+0)*104<=140737488355328:=by omega
 have f6:=hY hn;clear ih ho hF d5 ok hl hn hc;go_in;go_wp2_with fail;refine he.mono ?_;rintro e w1 ⟨rfl,rfl⟩;go_wp2_with(at_builtin;refine Qac _ rfl (.tmp 7) (.tmp 9) 22 rfl base 70 i0 _ 7 104 underlying22 hi e4 f7 f9 rfl (by decide) s xs.length (Qai xs) rfl HO.o.own (λ_=>True) Sl.none 0 [] rfl (Rd.nil _ _ _) (by simp) e7 c0 U ?_;intro s' w2 z a1 b6);have a5:s'.row=s.row\/∃b,s'.row=some b/\w<=b:=by
  rcases b6 with h |⟨h,-⟩
  .exact .inl (by simp[Sl.row,h])
  exact .inr ⟨w,by simp[Sl.row,h],an _⟩
 have Y:OE w2 base s' (xs++[]):=OE.append (F:=λ_=>False) HO.o (λx hx=>by simp at hx) (λb U=>U.elim) c0 (by simpa[QoD]using z) a1 a5;rw[aY]at Y;have R:∀b,s'.row=some b->b<w2:=λb U=>(Qaa Y.own U).2
 have c2:IsN w2 F (h+1) t:=f6.out.agree (a1.agree (λi hi=>(HF.o i hi).1) (λk hk h=>(HF.o k h).2 hk));have c9:=QcO c2 (by omega);have a0:=hY (show Qqt base s xs w w2 s' []from⟨by rw[aY];exact Y,a1,a5⟩);clear b6 z Y a1 a5 c2;refine c9.mono ?_;rintro e w3 ⟨sk,rfl,z,b3⟩;obtain⟨g,c6,rfl,g0,d4,b5,a4⟩:=Qa2 z (by omega);have N:Rd w3 (λb=>b=g) 1 ⟨some ⟨g,0,none⟩,c6⟩ t.2.length (ptrs h t.2):=by
  obtain⟨b,o,h1,h2,h3⟩:=fE z;obtain⟨e1,d4,b5⟩:=h1.eq (by omega);obtain⟨rfl,rfl⟩:g=b/\0=o:=by simpa using e1
  exact⟨g,0,.some _ _ _ _ d4 b5 rfl,h2,h3⟩
 have f4:s'.row≠some g:=λe=>by have:=R g e;omega
 have e2:g<w3:=a4.lt;have f1:=hY (show Qqt base s xs w w3 s' []from⟨a0.o.own.ext b3,a0.o.wr.trans (QrV b3 none) (λi hi=>by cases hi),a0.o.row⟩);have e0:=hY N;clear a4 z b3 N c9 R a0;go_wp2_with fail;go_loopw[0,14] (λv i wr=>∃(j:Nat) (J:Sl) (ys:List LE),j<=t.2.length/\i=.int .i64 j/\v=.slice J.a (xs.length+ys.length) J.c/\ys.map LE.ent=(t.2.take j).flatMap (ents h)/\Qqt base s xs w wr J ys/\Rd wr (λb=>b=g) 1 ⟨some ⟨g,0,none⟩,c6⟩ t.2.length (ptrs h t.2)/\J.row≠some g/\g<wr)
  (λ_ i _=>t.2.length -(intOf i).toNat)
 case atStart=>exact⟨0,s',[],aw _,rfl,rfl,rfl,f1.o,e0.o,f4,e2⟩
 obtain⟨j,J,ys,hj,rfl,rfl,Z,hG,N,a3,b4⟩:=hrel;have d3:=hY Z;have HG:=hY hG;have HR:=hY N;by_cases c4:j<t.2.length
 ·obtain ⟨I,D⟩:∃ I,t.2[j]? = some I:=⟨_,ac c4⟩
  obtain⟨b,o,c3,-,-,-,d6⟩:=N.Qc4 D;obtain⟨rfl,rfl⟩:g=b/\0=o:=by simpa using c3
  have kc:wr.cell? ⟨g,j,none⟩=some (ptr h I):=by simpa using d6
  have g3:(j:Int)<(t.2.length:Int):=by omega
  have a9:=am D;have c7:ys.length+(ents h I).length<=(ents (h+1) t).length:=by
   have e1:ys.length=((t.2.take j).flatMap (ents h)).length:=by rw[<-Z,ao]
   show _<=(t.2.flatMap (ents h)).length;rw[e1]
   conv=>rhs;rw[QbU D]
   simp only[List.flatMap_append,List.flatMap_cons,List.length_append];omega
  have a6:=f8.o I wr F base J (xs++ys) ((f2.o I a9).agree (hG.wr.agree (λi hi=>(HF.o i hi).1) (λk hk h=>(HF.o k h).2 hk)))
   (λb U=>⟨Nat.lt_of_lt_of_le (HF.o b U).1 hG.wr.grown.size,λe=>by
     rcases hG.row with h |⟨b',h,X⟩
     .exact (HF.o b U).2 (h▸e)
     rw[h]at e;simp at e;have:=(HF.o b U).1;omega⟩)
   (al U hG.wr.grown.size) hG.own (d8.o.2.2 I a9).1 (by have:=HL.o;rw[ak];omega)
  rw[ak]at a6;have HK:=hY D;clear Z hG N D c3 d6 a9 c7;go_wp2_with fail;refine a6.mono ?_;rintro e w4 ⟨s4,zs,rfl,b8,b7,a2,b0⟩;have HZ:=hY b7;have e3:s4.row≠some g:=λe=>by
   rcases b0 with h |⟨b',h,X⟩
   .exact a3 (h▸e)
   rw[h]at e;simp at e;omega
  have c1:Qqt base s xs w w4 s4 (ys++zs):=by
   refine⟨by rw[<-aS];exact b8,HG.o.wr.trans a2 (λi hi=>?_),?_⟩
   ·rcases HG.o.row with h | ⟨b',h,X⟩
    .exact .inl (h▸hi)
    rw[h]at hi;simp at hi;exact .inr (by omega)
   rcases b0 with h |⟨b',h,X⟩
   .rw [h];exact HG.o.row
   exact .inr ⟨b',h,al HG.o.wr.grown.size X⟩
  have d0:=HR.o.agree (a2.agree (F:=λb=>b=g) (λi hi=>by omega) (λk hk e=>a3 (e▸hk)));have d7:g<w4:=ab b4 a2.grown.size;have f0:=hY c1;have e6:=hY d0;have c8:(xs++ys).length+zs.length=xs.length+(ys++zs).length:=by simp[Nat.add_assoc]
  have e8:=hY c8;clear b7 b8 a2 b0 c1 d0 c8 a6;go_wp2_with fail;go_roundw
  case rel=>exact⟨j+1,s4,ys++zs,c4,by go_num,by rw[<-e8.o];simp,by rw[aL,d3.o,HZ.o,aT,HK.o];simp,f0.o,e6.o,e3,d7⟩
  simp[intOf];omega
 obtain rfl:j=t.2.length:=by omega
 clear Z hG N;go_wp2_with fail;go_ret;exact⟨J,ys,rfl,HG.o.own,by rw[d3.o,aM];rfl,HG.o.wr,HG.o.row⟩
theorem QhI:∀(h:Nat) (t:PT h) (w:World) (F:Nat->Prop) (base:Nat) (s:Sl) (xs:List LE),IsN w F h t->(∀b,F b->b<w/\s.row≠some b)->base<=w.heap.size->OE w base s xs->OkT h t->xs.length+(ents h t).length<=1000000->Calls prog 57 #[.slice s.a xs.length s.c,ptr h t] w (Qcm base s xs (ents h t) w)
 | 0,t,w,F,base,s,xs,hn,hF,z,ho,_,hl=>
   QgK (Qbh (hn.mono λb z=>(hF b z).1)) (λW I=>QjA (hn.agree (I.agree (λi hi=>(hF i hi).1) (λk D h=>(hF k h).2 D)))) z ho hl
 |h+1,t,w,F,base,s,xs,hn,hF,z,ho,ok,hl=>QkM (QhI h) hn hF z ho ok hl
theorem QlQ(w:World):Calls prog 95 #[.pointer none] w λe w'=>e=.returned (.slice none 0 0)/\w=w':=by
 go_in;go_wp2_with fail;go_ret;exact⟨rfl,rfl⟩
variable{T:RT}
theorem QkL{base:Nat}(D:IsT w F T)(hF:∀b,F b->b<w/\s.row≠some b)(J:base<=w.heap.size)(I:OE w base s xs)(ok:OkR T)(z:xs.length+(Qab T).length<=1000000) :
  Calls prog 57 #[.slice s.a xs.length s.c,Qay T] w (Qcm base s xs (Qab T) w):=by
 match T,D,ok,z with
 |none,_,_,z=>exact QgK ((Qey w).mono λe w' ⟨h1,h2⟩=>⟨Sl.none,[],h1,rfl,OE.nil _ _,h2▸fv w⟩) (λW _=>QlQ W) J I z
 |some ⟨h,t⟩,D,ok,z=>exact QhI h t w F base s xs D hF J I ok.1 z
theorem Qfj(z:IsT w F T):Calls prog 58 #[Qay T] w λe w'=>e=.returned (.int .i64 (Qab T).length)/\w=w':=by
 match T,z with
 |none,_=>exact count_nil w
 |some ⟨h,t⟩,z=>exact Qjg z
theorem QeF(hF:∀b,F b->b<w)(D:IsT w F T):Calls prog 33 #[Qau T] w λe w'=>e=.returned (.int .i64 (Qab T).length)/\Ext w w':=by
 have z:Ext w (w.alloc (.cells #[Qay T] 41)):=(fv w).alloc _ _;have I:=Qfj (D.agree (z.agree hF));clear hF D;go_in;go_wp2_with fail;refine I.mono ?_;rintro e w' ⟨rfl,rfl⟩;go_wp2_with fail;go_ret;exact⟨rfl,z⟩
theorem Qkb(w:World)(v:Value):Calls prog 240 #[.agg #[v]] w λe w'=>e=.returned v/\Ext w w':=by
 go_in;go_wp2_with fail;go_ret;exact⟨rfl,(fv w).alloc _ _⟩
theorem QcG(hF:∀b,F b->b<w)(hT:IsT w F T)(ok:OkR T)(hl:(Qab T).length<=1000000):Calls prog 31 #[Qau T] w (QaQ (Qab T) w):=by
 obtain⟨i0,hi,R,Y,Z⟩:=eG Tryz.Qa1;have X:∀W,Ext w W->Calls prog 33 #[Qau T] W λe w'=>e=.returned (.int .i64 (Qab T).length)/\Ext W w':=λW J=>
  QeF (λb hb=>ab (hF b hb) J.size) (hT.agree (J.agree hF))
 have U:∀(W:World) (s:Sl),Ext w W->OE W w.heap.size s []->Calls prog 57 #[.slice s.a 0 s.c,Qay T] W (Qcm w.heap.size s [] (Qab T) W):=λW s J ho=>
  QkL (xs:=[]) (hT.agree (J.agree hF)) (λb hb=>⟨Nat.lt_of_lt_of_le (hF b hb) J.size,λe=>by have:=(Qaa ho.own e).1;have:=hF b hb;omega⟩) J.size ho ok (by simpa using hl)
 generalize Qab T=es at *;obtain⟨I,N,b3⟩:∃I:Array Value,I.size=es.length*7/\∀W,(Instr.makeSlice 22 (.int .i64 0) (.int .i64 (es.length:Int))).run prog W=.ok (.slice (some ⟨W,0,none⟩) 0 es.length) (W.alloc (.cells I 70)):=by
  refine⟨madeCells (Value.cells (.agg #[.string ByteArray.empty,.int .i64 0,.bool false,.int .i64 0,.string ByteArray.empty,.slice none 0 0,.slice none 0 0])) (es.length*7),size_madeCells _ _,λW=>?_⟩;have h:=Qci (P:=prog) 22 70 i0 _ underlying22 hi R .i64 .i64 0 es.length (aw _) (by rw[Z];omega) (by omega) W;rw[Y]at h;exact h
 have a6:=hY N;have a3:=hY X;have a4:=hY U;clear hF hT ok X U hi R Y Z N;go_in;go_wp2_with fail;have D:Ext w (w.alloc (.cells #[Qay T] 41)):=(fv w).alloc _ _;have a1:=fA w 41 #[Qay T];generalize a5:World.alloc _ _=W0 at *;have r0:W0.cell? ⟨w,0,none⟩=some (Qay T):=a1.cell 0;have l0:=a1.lt;clear a5;go_region_held3 (λw'=>w'.cell? ⟨w,0,none⟩=some (Qay T)) (first |(with_reducible exact r1) |(with_reducible exact r3)|go_keep)
  (first
    |(go_at_call 33;refine(a3.o _ ?_).mono ?_;(exact D.drew);rintro e w1 ⟨rfl,z⟩;have r1:=(z.cell (o:=0) l0).trans r0;have l1:=ab l0 z.size)
    |(go_at_call 57;refine(a4.o _ ⟨some ⟨w1,0,none⟩,es.length⟩ ?_ ?_).mono ?_;(exact((D.drew).trans z).alloc _ _);(exact⟨World.ownsRow_made w1 I es.length ((D.drew).trans z).size (by unfold maxLen;omega) a6.o,λx hx=>by simp at hx,by simp⟩);rintro e w3 ⟨s3,ys,rfl,a9,a2,a0,b0⟩;have r3:w3.cell? ⟨w,0,none⟩=some (Qay T):=(eS (w:=w1.alloc (.cells I 70)) (a:=⟨w,0,none⟩) (a0.grown.block w.heap.size (by rw[ey];omega) (λe=>by simp[Sl.row]at e;omega))).trans ((World.cell?_alloc_lt _ _ _ l1).trans r1))
    )
 go_wp2_with fail;go_ret;have hX:=((D.drew).trans z).alloc I 70;exact⟨s3,ys,rfl,a2,by simpa using a9,hX.wr a0 (λi hi=>by simp[Sl.row]at hi;have:=((D.drew).trans z).size;omega)⟩
section
variable{P : Program}(w : World)
theorem Qdp{ops:Array Oper}{o:Oper}{a:Act}{K:Act->World->Prop}{Q:Exit->Act->World->Prop}{E:Prop}(a3:o.guard=none)(s' x:Operand)(t:TypeId)
  (ho:o.op=.call { callee:=.builtin .append,args:=#[s',x],argTypes:=#[t,t] })
  (base:Nat) (e:TypeId) (i:TypeInfo) (z:Value) (size D:Nat) (ht:P.underlying t=some (.slice e)) (hi:P.info? e=some i) (hz:i.zero=some z)
  (N:i.size=size) (a0:i.bytes=D) (Z:z.cells.size=size) (a2:0<size)
  (s:Sl) (n:Nat) (xs:List Value) (hs:a.eval s'=.slice s.a n s.c) (X:w.ownsRow base e size (.slice s.a n s.c) n xs)
  (F:Nat->Prop) (Y:Sl) (m:Nat) (I:List Value) (hx:a.eval x=.slice Y.a m Y.c) (U:Rd w F size Y m I) (h1:∀u∈I,u.oneCell'=true)
  (a1:n+m<=maxLen) (J:(n+m)*D<=140737488355328) (R:base<=w.heap.size)
  (h:∀(s':Sl) (w':World),w'.ownsRow base e size (.slice s'.a (n+m) s'.c) (n+m) (xs++I)->Wr w w' s.row->(s'.a=s.a\/s'.a=some ⟨w,0,none⟩/\Wr w w' none)->K (a.put o.dst (.slice s'.a (n+m) s'.c)) w') :
  if Region.wanted o (yielded ops a.tmps)=true then Oper.wp P o a w K Q else E:=by
 have hw:Region.wanted o (yielded ops a.tmps)=true:=by simp[Region.wanted,a3]
 rw[em hw];exact QeH w s' x t ho base e i z size D ht hi hz N a0 Z a2 s n xs hs X F Y m I hx U h1 a1 J R h
theorem Rd.block{w:World}{g:Nat}{t:TypeId}{cs:List Value}{size n:Nat}(D:Blk w g t cs.toArray)(I:n<=maxLen)(z:cs.length=n*size):Rd w (λb=>b=g) size ⟨some ⟨g,0,none⟩,n⟩ n cs:=
 ⟨g,0,.some _ _ _ _ (an _) I rfl,z,λj u J=>by rw[aA,D.cell];simpa using J⟩
end
abbrev fH:=@Rd.block
def QiU(es:List Ent)(w:World)(e:Ending)(w':World):Prop:=
 ∃T,e=.returned (Qau T)/\Qfy es T/\IsT w' (In w.heap.size w'.heap.size) T/\Ext w w'
theorem Qaq(T:RT):∃p,Qay T=.pointer p:=by
 match T with
 |none=>exact⟨_,rfl⟩
 |some ⟨h,t⟩=>exact⟨_,rfl⟩
theorem ES.ext(h:ES w (Lt w) s xs)(z:Ext w w'):ES w' (Lt w') s xs:=(h.agree (z.agree λ_ h=>h)).mono λ_ hi=>ab hi z.size
theorem Qoa(hs:ES w (Lt w) s xs)(hl:xs.length<=500000):Calls prog 13 #[.slice s.a xs.length s.c] w (QiU (xs.map LE.ent) w):=by
 have HS:=hY hs;clear hs;go_in;go_wp2_with fail;generalize a3:World.alloc (World.alloc _ _) _=W0;obtain⟨b0,b6,a6,X⟩:=Qap w _ _ _ _ W0 a3;clear a3;go_loopw[8] (λi wr=>∃(j:Nat) (T:RT) (p:Option Addr),j<=xs.length/\i=.int .i64 j/\Ext w wr/\Blk wr w.heap.size 41 #[.pointer none]/\Blk wr (w.heap.size+1) 41 #[.pointer p]/\Yd (Qay T=.pointer p)/\Qfy ((xs.take j).map LE.ent) T/\IsT wr (In (w.heap.size+2) wr.heap.size) T)
  (λi _=>xs.length -(intOf i).toNat)
 case atStart=>exact⟨0,none,none,aw _,rfl,b0,a6,X,hY rfl,.nil,trivial⟩
 obtain⟨j,T,p,hj,rfl,hx,hR,hS,HP,hB,hT⟩:=hrel;clear b0 b6 a6 X;have HX:=hY hx;have HR:=hY hR;have HB:=hY hB;have HT:=hY hT;have c1:=hY hS;have c0:wr.cell? ⟨w+1,0,none⟩=some (.pointer p):=hS.cell 0;have fS:=hS.frozen;have lS:=hS.lt;by_cases J:j<xs.length
 ·obtain ⟨x,N⟩:∃ x,xs[j]? = some x:=⟨_,ac J⟩
  obtain⟨b,o,ha,c6,c7,c4,k0,hv,a5,b7⟩:=(HS.o.ext hx).at N;obtain⟨v0,v1,v2,v3,v4,v5⟩:=hv.m;have c3:(j:Int)<(xs.length:Int):=by omega
  have D:=hB.both;have Z:∀W,Ext wr W->Calls prog 38 #[.agg #[.pointer p],.string x.k,Qbg x.v x.sl x.so] W (QnX (In (w.heap.size+2) wr.heap.size) T x.k x.v W):=λW hW=>by
   rw[<-HP.o];exact QpD (λb U=>ab U.2 hW.size) (hT.agree (hW.agree λb U=>U.2)) D.1 (by
    rw[D.2];have:=Qea ((xs.take j).map LE.ent) [];simp only[List.length_map,List.length_take,List.length_nil]at this;omega) b7 ((a5.agree (hW.agree λb U=>U)).mono λb U=>ab U hW.size)
  obtain⟨sa,sc⟩:=s;dsimp only at ha;subst ha;have b8:=hY Z;have c2:=hY N;clear hx hR hS hB hT N hv a5 D Z;go_wp2_with fail;refine(b8.o _ ((fv wr).alloc _ _)).mono ?_;rintro e w2 ⟨T2,rfl,a1,a9,a2⟩;obtain⟨R,I⟩:=Qaq T2;have b5:=hY I;dsimp only[Qau];rw[I];clear I;have z:Ext wr w2:=((fv wr).alloc _ _).trans a2;have d0:w2.cell? ⟨w+1,0,none⟩=some (.pointer p):=(z.cell lS).trans c0;have f2:∀o,w2.frozen? ⟨w+1,o,none⟩=false:=λo=>(z.frozen lS).trans (fS o)
  have hE:=(HX.o.trans z).setCell (p:=⟨w+1,0,none⟩) (show w.heap.size<=w.heap.size+1 by omega) (.pointer R);have a4:=(HR.o.ext z).far (p:=⟨w+1,0,none⟩) (by simp) (.pointer R);have Y:Blk (w2.setCell ⟨w+1,0,none⟩ (.pointer R)) (w.heap.size+1) 41 #[.pointer R]:=(c1.o.ext z).Qdz 0 _;have a0:IsT (w2.setCell ⟨w+1,0,none⟩ (.pointer R)) (In (w.heap.size+2) (w2.setCell ⟨w+1,0,none⟩ (.pointer R)).heap.size) T2:=by
   have b4:=z.size;have J:=lS;have hm:∀i,Up (In (w.heap.size+2) wr.heap.size) (wr.alloc (.cells #[.string x.k,.int .i64 x.v.kind,.bool x.v.b,.int .i64 x.v.i,.string x.v.t,.slice x.sl.a x.v.l.length x.sl.c,.slice x.so.a x.v.ok.length x.so.c] 70)) w2 i->In (w.heap.size+2) w2.heap.size i:=λi hi=>by
    rcases hi with hi|hi
    .exact ⟨hi.1,ab hi.2 b4⟩
    have:=hi.1;simp at this;exact⟨by omega,hi.2⟩
   refine((a9.mono hm).agree (fC w2 ⟨w+1,0,none⟩ _ (λh=>by have h1:w.heap.size+2<=w.heap.size+1:=h.1;omega))).mono λi hi=>⟨hi.1,by simpa using hi.2⟩
  have b3:=hY (Qfy.snoc HB.o a1);have H1:=hY hE;have H2:=hY a4;have H3:=hY Y;have H4:=hY a0;clear a1 a9 a2 z hE a4 Y a0;go_wp2_with fail;go_roundw
  case rel=>exact⟨j+1,T2,R,J,by go_num,H1.o,H2.o,H3.o,b5,by rw[aT,c2.o,aL];exact b3.o,H4.o⟩
  simp[intOf];omega
 obtain rfl:j=xs.length:=by omega
 have r0:wr.cell? ⟨w,0,none⟩=some (.pointer none):=hR.cell 0;have fR:=hR.frozen;clear hx hR hS hB hT;go_wp2_with fail;have q0:(wr.setCell ⟨w,0,none⟩ (.pointer p)).cell? ⟨w,0,none⟩=some (.pointer p):=eM wr _ _ r0;refine eD (v:=.agg #[.pointer p]) (by simp[results,results13,go_sem,q0]) rfl ?_;refine⟨T,by rw[Qau,HP.o],by have:=HB.o;rwa[aM]at this,?_,HX.o.setCell (p:=⟨w,0,none⟩) (an _) _⟩;exact(HT.o.agree (fC wr ⟨w,0,none⟩ _ (λh=>by have h1:w.heap.size+2<=w.heap.size:=h.1;omega))).mono λi hi=>⟨by have:=hi.1;omega,by simpa using hi.2⟩
theorem Qi8(hs:ES w (Lt w) s xs)(z:xs.length<=100000):Calls prog 13 #[.slice s.a xs.length s.c] w (QiU (xs.map LE.ent) w):=Qoa hs (by omega)
structure Chg where
 k:ByteArray
 had:Bool
 was:Val
 has:Bool
 is_:Val
def Qsv(e:Ent):Chg:=⟨e.1,true,e.2,false,zeroV⟩
def Qtj(e:Ent):Chg:=⟨e.1,false,zeroV,true,e.2⟩
def QuP(e f:Ent):List Chg:=if Qbo e.2 f.2=0 then[]else[⟨e.1,true,e.2,true,f.2⟩]
def chg:List Ent->List Ent->List Chg
 |[],b=>b.map Qtj
 |e::a,[]=>Qsv e::a.map Qsv
 |e::a,f::b=>if klt e.1 f.1 then Qsv e::chg a (f::b)else if klt f.1 e.1 then Qtj f::chg (e::a) b else QuP e f++chg a b
termination_by a b=>a.length+b.length
theorem Qdg:∀(es:List Ent) (k:ByteArray) (v:Val) (x:ByteArray),Qam (Qbq es k v) x=if x=k then some v else Qam es x
 | [],k,v,x=>by
   simp only[Qbq,Qam];by_cases h:x=k
   .rw [em h.symm,em h]
   rw[ef (λe=>h e.symm),ef h]
 | e :: es,k,v,x=>by
   by_cases h1:klt e.1 k=true
   ·rw [Qbq,em h1,Qam,Qam,Qdg es k v x]
    by_cases h:x=k
    ·have:e.1≠x:=fun h2=>by rw [h2,h,Qah] at h1;cases h1
     rw[ef this,em h,em h]
    rw[ef h,ef h]
   rw[Qbq,ef h1];by_cases h2:e.1=k
   ·rw [em h2,Qam,Qam,h2]
    by_cases h:x=k
    .rw [em h.symm,em h]
    rw[ef (λe=>h e.symm),ef h,ef (λe=>h e.symm)]
   rw[ef h2,Qam];by_cases h:x=k
   .rw [em h.symm,em h]
   rw[ef (λe=>h e.symm),ef h]
theorem QcL:∀(es:List Ent) (k:ByteArray) (x:ByteArray),Sorted es->Qam (Qb2 es k) x=if x=k then none else Qam es x
 |[],k,x,_=>by simp[Qb2,Qam]
 | e :: es,k,x,hs=>by
   obtain⟨h1,h2⟩:=aW.1 hs;by_cases z:klt e.1 k=true
   ·rw [Qb2,em z,Qam,Qam,QcL es k x h2]
    by_cases h:x=k
    ·have:e.1≠x:=fun h2=>by rw [h2,h,Qah] at z;cases z
     rw[ef this,em h,em h]
    rw[ef h,ef h]
   rw[Qb2,ef z];by_cases I:e.1=k
   ·rw [em I,Qam,I]
    by_cases h:x=k
    ·rw [em h]
     exact QeY λf D J=>by have:=h1 f D;rw[I,J,h,Qah]at this;cases this
    rw[ef h,ef (λe=>h e.symm)]
   rw[ef I];by_cases h:x=k
   ·rw [em h]
    refine QeY λf D J=>?_
    rcases aG.1 D with rfl|D
    .exact I (J.trans h)
    have:=h1 f D;rw[J,h]at this;exact z this
   rw[ef h]
def Qt2:Option Val->Option Val->Bool
 |none,none=>true
 |some v,some u=>decide (Qbo v u=0)
 |_,_=>false
theorem Qj6(o:Option Val):Qt2 o o=true:=by cases o<;>simp[Qt2,QgA]
open Go.Maps
abbrev eh:=@decide_eq_false
abbrev ej:=@decide_eq_true
section
variable{α : Type}
abbrev AL(α:Type):=List (ByteArray × α)
def Qav(C:AL α):Prop:=C.Pairwise λa b=>klt a.1 b.1=true
def Qa5:AL α->ByteArray->Option α
 |[],_=>none
 |e::r,k=>if e.1=k then some e.2 else Qa5 r k
def Qc6:AL α->ByteArray->α->AL α
 |[],k,v=>[(k,v)]
 |e::r,k,v=>if klt e.1 k then e::Qc6 r k v else if e.1=k then(k,v)::r else(k,v)::e::r
def Qjj(C:AL α)(k:ByteArray):AL α:=C.filter λp=>!decide (p.1=k)
theorem QeV{C:AL α}{k:ByteArray}(h:∀e∈C,e.1≠k):Qa5 C k=none:=by
 induction C with
 |nil=>rfl
 |cons e r ih=>rw[Qa5,ef (h e (az ..)),ih λf z=>h f (aI _ z)]
theorem QeX{C:AL α}{k:ByteArray}{s:α}(h:Qa5 C k=some s):(k,s)∈C:=by
 induction C with
 |nil=>cases h
 | cons e r ih=>
   rw[Qa5]at h;by_cases z:e.1=k
   ·rw [em z] at h
    injection h with h;subst z h;exact az ..
   rw[ef z]at h;exact aI _ (ih h)
theorem QcE{e:ByteArray × α}{r:AL α}(h:Qav (e::r)):Qav r/\∀f∈r,klt e.1 f.1=true/\f.1≠e.1:=by
 obtain⟨h1,h2⟩:=aW.1 h;exact⟨h2,λf z=>⟨h1 f z,λD=>by have:=h1 f z;rw[D,Qah]at this;cases this⟩⟩
theorem Qio{C:AL α}(hs:Qav C){k:ByteArray}{s:α}(h:(k,s)∈C):Qa5 C k=some s:=by
 induction C with
 |nil=>cases h
 | cons e r ih=>
   obtain⟨h2,h1⟩:=QcE hs;rw[Qa5];rcases aG.1 h with rfl|h
   .rw [em rfl]
   rw[ef (λz=>(h1 _ h).2 z.symm),ih h2 h]
theorem QeW:∀(C:AL α) (k:ByteArray) (v:α) (x:ByteArray),Qa5 (Qc6 C k v) x=if x=k then some v else Qa5 C x
 | [],k,v,x=>by
   simp only[Qc6,Qa5];by_cases h:x=k
   .rw [em h.symm,em h]
   rw[ef (λe=>h e.symm),ef h]
 | e :: es,k,v,x=>by
   by_cases h1:klt e.1 k=true
   ·rw [Qc6,em h1,Qa5,Qa5,QeW es k v x]
    by_cases h:x=k
    ·have:e.1≠x:=fun h2=>by rw [h2,h,Qah] at h1;cases h1
     rw[ef this,em h,em h]
    rw[ef h,ef h]
   rw[Qc6,ef h1];by_cases h2:e.1=k
   ·rw [em h2,Qa5,Qa5,h2]
    by_cases h:x=k
    .rw [em h.symm,em h]
    rw[ef (λe=>h e.symm),ef h,ef (λe=>h e.symm)]
   rw[ef h2,Qa5];by_cases h:x=k
   .rw [em h.symm,em h]
   rw[ef (λe=>h e.symm),ef h]
theorem QlE(k x:ByteArray):∀(C:AL α),Qa5 (Qjj C k) x=if x=k then none else Qa5 C x
 |[]=>by simp[Qjj,Qa5]
 | e :: r=>by
   have I:=QlE k x r;unfold Qjj at I ⊢;by_cases h:e.1=k
   ·rw [bz,ef (by simp [h]),I,Qa5]
    by_cases z:x=k
    .rw [em z,em z]
    rw[ef z,ef z,ef (λD=>z (D.symm.trans h))]
   rw[bz,em (by simp[h]),Qa5,I,Qa5];by_cases z:x=k
   .rw [em z,em z,ef (λD=>h (D.trans z))]
   rw[ef z,ef z]
theorem QiD{C:AL α}{k:ByteArray}{v:α}{x:ByteArray × α}(h:x∈Qc6 C k v):x=(k,v)\/x∈C:=by
 induction C with
 |nil=>exact .inl (by simpa[Qc6]using h)
 | cons e r ih=>
   rw[Qc6]at h;split at h
   ·rcases aG.1 h with rfl | h
    .exact .inr (az ..)
    exact(ih h).imp id (aI _)
   split at h
   ·rcases aG.1 h with rfl | h
    .exact .inl rfl
    exact .inr (aI _ h)
   exact aG.1 h
theorem QbG{C:AL α}(h:Qav C)(k:ByteArray)(v:α):Qav (Qc6 C k v):=by
 induction C with
 |nil=>exact aW.2 ⟨λ_ z=>(by cases z),List.Pairwise.nil⟩
 | cons e r ih=>
   obtain⟨h1,h2⟩:=aW.1 h;rw[Qc6];split
   ·rename_i hk
    refine aW.2 ⟨λx z=>?_,ih h2⟩;rcases QiD z with rfl|z
    .exact hk
    exact h1 x z
   rename_i hk;split
   ·rename_i he
    exact aW.2 ⟨λx z=>by rw[<-he];exact h1 x z,h2⟩
   rename_i he;have D:klt k e.1=true:=Qc3 (by simpa using hk) he;refine aW.2 ⟨λx z=>?_,h⟩;rcases aG.1 z with rfl|z
   .exact D
   exact QaI D (h1 x z)
theorem QgF{C:AL α}(h:Qav C)(k:ByteArray):Qav (Qjj C k):=h.sublist (ce ..)
theorem QeE:∀{a b:AL α},Qav a->Qav b->(∀k,Qa5 a k=Qa5 b k)->a=b
 |[],[],_,_,_=>rfl
 |[],f::b,_,_,h=>by have:=h f.1;simp[Qa5]at this
 |e::a,[],_,_,h=>by have:=h e.1;simp[Qa5]at this
 | e :: a,f :: b,ha,hb,h=>by
   obtain⟨X,R⟩:=QcE ha;obtain⟨b2,b1⟩:=QcE hb;have U:e.1=f.1:=by
    refine QbR ?_ ?_
    ·cases I:klt e.1 f.1 with
     |false=>rfl
     | true=>
       have h1:=h e.1;rw[Qa5,em rfl,QeV (C:=f::b) (λg z D=>by
        rcases aG.1 z with rfl|z
        .rw [D,Qah]at I;cases I
        have:=QaI I (b1 g z).1;rw[D,Qah]at this;cases this)]at h1
       cases h1
    cases I:klt f.1 e.1 with
    |false=>rfl
    | true=>
      have h1:=h f.1;rw[QeV (C:=e::a) (k:=f.1) (λg z D=>by
       rcases aG.1 z with rfl|z
       .rw [D,Qah]at I;cases I
       have:=QaI I (R g z).1;rw[D,Qah]at this;cases this),Qa5,em rfl]at h1
      cases h1
   have J:=h e.1;rw[Qa5,em rfl,Qa5,em U.symm]at J;injection J with J;have Y:e=f:=ed U J;subst Y;rw[QeE X b2 λk=>?_];by_cases N:e.1=k
   .rw [QeV λg z D=>(R g z).2 (D.trans N.symm),QeV λg z D=>(b1 g z).2 (D.trans N.symm)]
   have:=h k;rwa[Qa5,ef N,Qa5,ef N]at this
theorem QpC{C:AL α}(h:Qav C){k:ByteArray}{s z:α}(I:Qa5 C k=some z):Qc6 (Qc6 C k s) k z=C:=
 QeE (QbG (QbG h k s) k z) h λx=>by
  rw[QeW,QeW];by_cases D:x=k
  .rw [em D,D,I]
  rw[ef D,ef D]
theorem Qok{C:AL α}(h:Qav C){k:ByteArray}{s:α}(D:Qa5 C k=none):Qjj (Qc6 C k s) k=C:=
 QeE (QgF (QbG h k s) k) h λx=>by
  rw[QlE,QeW];by_cases z:x=k
  .rw [em z,z,D]
  rw[ef z,ef z]
theorem Qrx{C:AL α}{k:ByteArray}{v:α}:(Qc6 C k v).length<=C.length+1:=by
 induction C with
 |nil=>simp[Qc6]
 | cons e r ih=>
   rw[Qc6];split
   .simp only[List.length_cons];omega
   split<;>simp only[List.length_cons]<;>omega
end
section
variable{α : Type}(f : α -> Value)
abbrev QfF(k:ByteArray):Lit:=.string k.data.toList
abbrev QrT(p:ByteArray × α):Lit × DataW Value:=(QfF p.1,.held (f p.2))
def mapA(C:AL α):DataW Value:=.map (C.map (QrT f))
def QeZ(v:Value):Option (DataW Value × List MemPlace):=some (.held v,[])
theorem Qe0{v u:Value}{ps:List MemPlace}(h:QeZ v=some (.held u,ps)):v=u:=by
 injection h with h;injection h with h;injection h
theorem Qi3:∀a b:List UInt8,bytesBefore a b=Op.bytesLess a b
 |[],[]=>rfl
 |[],_::_=>rfl
 |_::_,[]=>rfl
 |a::x,b::y=>by rw[bytesBefore,Op.bytesLess,Qi3 x y]
theorem Qgx(a b:ByteArray):(QfF a).before (QfF b)=klt a b:=by
 show bytesBefore _ _=Op.bytesLess _ _;rw[Qi3,eB,eB]
theorem Qfa(a b:ByteArray):(QfF a).sameKey (QfF b)=decide (a=b):=by
 show(a.data.toList==b.data.toList)=_;rw[<-eB,<-eB];exact beq_toList a b
theorem QlH(C:AL α)(k:ByteArray):Maps.has (mapA f C) (QfF k)=(Qa5 C k).isSome:=by
 show List.any (List.map _ C) _=_
 induction C with
 |nil=>rfl
 | cons e r ih=>
   rw[aR,List.any_cons,ih,Qa5];show((QfF e.1).sameKey (QfF k)||_)=_;rw[Qfa];by_cases h:e.1=k
   .rw [em h,ej h];rfl
   rw[ef h,eh h];rfl
theorem Qgv(C:AL α)(k:ByteArray)(zd:DataW Value):(mapA f C).atKey (QfF k) zd=match Qa5 C k with
  |some s=>.held (f s)
  |none=>zd:=by
 unfold mapA;simp only[DataW.atKey]
 induction C with
 |nil=>rfl
 | cons e r ih=>
   rw[aR,List.find?_cons,Qa5];by_cases h:e.1=k
   .rw [em h,show(QfF e.1).sameKey (QfF k)=true by rw[Qfa,ej h]]
   rw[ef h,show(QfF e.1).sameKey (QfF k)=false by rw[Qfa,eh h]];exact ih
theorem Qj7(C:AL α):Maps.size (mapA f C)=C.length:=by
 show List.length (List.map _ C)=_;rw[ao]
theorem Qez(k:ByteArray):∀C:AL α,(C.map (QrT f)).filter (λp=>!p.1.sameKey (QfF k))=(Qjj C k).map (QrT f)
 |[]=>rfl
 | e :: r=>by
   have z:=Qez k r;unfold Qjj at z ⊢;rw[aR,bz,bz,z];show(if(!(QfF e.1).sameKey (QfF k))=true then _ else _)=_;rw[Qfa];split<;>rfl
theorem QqH(C:AL α)(k:ByteArray):(mapA f C).del (QfF k)=mapA f (Qjj C k):=by
 show DataW.map (List.filter _ (List.map _ C))=_;rw[Qez];rfl
theorem QgO(k:ByteArray)(s:α):∀C:AL α,Qav C->DataW.insert (QfF k,(DataW.held (f s):DataW Value)) ((Qjj C k).map (QrT f))=(Qc6 C k s).map (QrT f)
 |[],_=>rfl
 | e :: r,h=>by
   obtain⟨h2,h1⟩:=QcE h;have Y:=QgO k s r h2;have D:∀x:ByteArray,(∀g∈r,g.1≠x)->Qjj r x=r:=λx Z=>List.filter_eq_self.2 λg I=>by simp[Z g I]
   have z:∀(g:ByteArray × α) (t:AL α),klt k g.1=true->DataW.insert (QfF k,(DataW.held (f s):DataW Value)) ((g::t).map (QrT f))=(((k,s)::g::t).map (QrT f)):=λg t I=>by
    rw[aR,DataW.insert,em (by show(QfF k).before (QfF g.1)=true;rw[Qgx,I])];rfl
   rw[Qc6];by_cases J:klt e.1 k=true
   ·have X:e.1≠k:=fun U=>by rw [U,Qah] at J;cases J
    rw[em J,show Qjj (e::r) k=e::Qjj r k by unfold Qjj;rw[bz,em (by simp[X])],aR,DataW.insert,ef (by show ¬(QfF k).before (QfF e.1)=true;rw[Qgx,Qby J];simp),Y];rfl
   rw[ef J];by_cases N:e.1=k
   ·rw [em N,show Qjj (e :: r) k=r by
     rw[<-N];show List.filter _ _=_;rw[bz,ef (by simp)];exact D e.1 λg I=>(h1 g I).2]
    cases r with
    |nil=>rfl
    |cons g t=>exact z g t (by rw[<-N];exact(h1 g (az ..)).1)
   have R:klt k e.1=true:=Qc3 (by simpa using J) N;rw[ef N,show Qjj (e::r) k=e::r by
    show List.filter _ _=_;rw[bz,em (by simp[N])];exact congrArg (e :: ·) (D k λg I U=>by have:=QaI R (h1 g I).1;rw[U,Qah]at this;cases this)]
   exact z e r R
theorem Qrz{C:AL α}(h:Qav C)(k:ByteArray)(s:α):(mapA f C).put (QfF k) (.held (f s))=mapA f (Qc6 C k s):=by
 show DataW.map (DataW.insert _ (List.filter _ (List.map _ C)))=_;rw[Qez,QgO f k s C h];rfl
end
abbrev Slots:=AL (Option Val)
def Qkq(B:List Ent)(C:Slots)(k:ByteArray):Option Val:=match Qa5 C k with
 |some s=>s
 |none=>Qam B k
def QfC(B:List Ent):Slots->List Ent->List Ent
 |[],t=>t
 |(k,some v)::r,t=>QfC B r (if(Qam B k).any (λwas=>decide (Qbo was v=0))then t else Qbq t k v)
 |(k,none)::r,t=>QfC B r (if(Qam B k).isSome then Qb2 t k else t)
theorem Qcw(B:List Ent):∀(C:Slots) (t:List Ent),Sorted t->Sorted (QfC B C t)
 |[],t,h=>h
 | (k,some v) :: r,t,h=>by
   rw[QfC];split
   .exact Qcw B r t h
   exact Qcw B r _ (QaS h k v)
 | (k,none) :: r,t,h=>by
   rw[QfC];split
   .exact Qcw B r _ (QaR h k)
   exact Qcw B r t h
theorem QcJ(B:List Ent){k:ByteArray}:∀(C:Slots) (t:List Ent),Sorted t->(∀e∈C,e.1≠k)->Qam (QfC B C t) k=Qam t k
 |[],t,_,_=>rfl
 | (k',some v) :: r,t,h,hk=>by
   rw[QfC];have h1:k'≠k:=hk _ (az ..);have h2:=λf z=>hk f (aI _ z)
   split
   .exact QcJ B r t h h2
   rw[QcJ B r _ (QaS h k' v) h2,Qdg,ef (λe=>h1 e.symm)]
 | (k',none) :: r,t,h,hk=>by
   rw[QfC];have h1:k'≠k:=hk _ (az ..);have h2:=λf z=>hk f (aI _ z)
   split
   .rw [QcJ B r _ (QaR h k') h2,QcL _ _ _ h,ef (λe=>h1 e.symm)]
   exact QcJ B r t h h2
theorem QeS(B:List Ent){k:ByteArray}:∀(C:Slots) (t:List Ent),Qav C->Sorted t->Qam t k=Qam B k->Qt2 (Qam (QfC B C t) k) (Qkq B C k)=true
 |[],t,_,_,h=>by rw[QfC,Qkq,Qa5,h];exact Qj6 _
 | (k',s) :: r,t,hs,ht,h=>by
   obtain⟨h2,N⟩:=QcE hs;have J:=λf X=>(N f X).2
   by_cases I:k'=k
   ·subst I
    have R:Qkq B ((k',s)::r) k'=s:=by rw[Qkq,Qa5,em rfl]
    rw[R];cases s with
    | some v=>
      rw[QfC];split
      ·rename_i z
       rw[QcJ B r t ht J,h];cases D:Qam B k' with
       |none=>rw[D]at z;cases z
       |some b=>rw[D]at z;exact z
      rw[QcJ B r _ (QaS ht k' v) J,Qdg,em rfl];exact Qj6 _
    | none=>
      rw[QfC];split
      .rw [QcJ B r _ (QaR ht k') J,QcL _ _ _ ht,em rfl];rfl
      rename_i D;rw[QcJ B r t ht J,h];cases U:Qam B k' with
      |none=>rfl
      |some b=>rw[U]at D;exact absurd rfl D
   have R:Qkq B ((k',s)::r) k=Qkq B r k:=by rw[Qkq,Qkq,Qa5,ef I]
   rw[R];cases s with
   | some v=>
     rw[QfC];split
     .exact QeS B r t h2 ht h
     exact QeS B r _ h2 (QaS ht k' v) (by rw[Qdg,ef (λe=>I e.symm),h])
   | none=>
     rw[QfC];split
     .exact QeS B r _ h2 (QaR ht k') (by rw[QcL _ _ _ ht,ef (λe=>I e.symm),h])
     exact QeS B r t h2 ht h
def idleC(B:List Ent)(C:Slots):Prop:=∀k s,Qa5 C k=some s->match s with
 |some v=>(Qam B k).any (λwas=>decide (Qbo was v=0))=true
 |none=>Qam B k=none
def Qfm(P:ByteArray->Bool)(M:List Ent):List ByteArray:=(M.filter λe=>P e.1).map Prod.fst
theorem QiK:∀{a b:List ByteArray},a.Pairwise (λx y=>klt x y=true)->b.Pairwise (λx y=>klt x y=true)->(∀k,k∈a↔k∈b)->a=b
 |[],[],_,_,_=>rfl
 |[],y::b,_,_,h=>by have:=(h y).2 (az ..);cases this
 |x::a,[],_,_,h=>by have:=(h x).1 (az ..);cases this
 | x :: a,y :: b,ha,hb,h=>by
   obtain⟨J,N⟩:=aW.1 ha;obtain⟨b1,b2⟩:=aW.1 hb;have I:x=y:=by
    rcases aG.1 ((h x).1 (az ..))with e|e
    .exact e
    rcases aG.1 ((h y).2 (az ..))with D|D
    .exact D.symm
    have h1:=b1 x e;have h2:=J y D;rw[Qby h1]at h2;cases h2
   subst I;rw[QiK N b2 λk=>⟨λz=>?_,λz=>?_⟩]
   ·rcases aG.1 ((h k).1 (aI _ z)) with e | e
    .have:=J k z;rw[e,Qah]at this;cases this
    exact e
   rcases aG.1 ((h k).2 (aI _ z))with e|e
   .have:=b1 k z;rw[e,Qah]at this;cases this
   exact e
theorem QcM{B:List Ent}(hs:Sorted B){e:Ent}(h:e∈B):Qam B e.1=some e.2:=by
 induction B with
 |nil=>cases h
 | cons f r ih=>
   obtain⟨h1,h2⟩:=aW.1 hs;rw[Qam];rcases aG.1 h with rfl|h
   .rw [em rfl]
   have:=h1 _ h;rw[ef (λz=>by rw[z,Qah]at this;cases this),ih h2 h]
theorem Qcg{B:List Ent}{k:ByteArray}{v:Val}(h:Qam B k=some v):(k,v)∈B:=by
 induction B with
 |nil=>cases h
 | cons e r ih=>
   rw[Qam]at h;by_cases z:e.1=k
   ·rw [em z] at h
    injection h with h;subst z h;exact az ..
   rw[ef z]at h;exact aI _ (ih h)
variable{M:List Ent}
theorem QgV{P:ByteArray->Bool}(hs:Sorted M){k:ByteArray}:k∈Qfm P M↔P k=true/\(Qam M k).isSome=true:=by
 simp only[Qfm,List.mem_map,List.mem_filter];constructor
 ·rintro ⟨e,⟨D,z⟩,rfl⟩
  exact⟨z,by rw[QcM hs D];rfl⟩
 rintro⟨z,h⟩;obtain⟨v,I⟩:=cR.1 h;exact⟨(k,v),⟨Qcg I,z⟩,rfl⟩
theorem QmU{P:ByteArray->Bool}(hs:Sorted M):(Qfm P M).Pairwise λx y=>klt x y=true:=
 bG.2 (hs.sublist (ce ..))
structure SV where
 has:Bool
 v:Val
 sl:Sl
 so:Sl
abbrev SV.cells(s:SV):Array Value:=#[.bool s.has,.int .i64 s.v.kind,.bool s.v.b,.int .i64 s.v.i,.string s.v.t,.slice s.sl.a s.v.l.length s.sl.c,.slice s.so.a s.v.ok.length s.so.c]
abbrev SV.val(s:SV):Value:=.agg s.cells
def SV.opt(s:SV):Option Val:=if s.has then some s.v else none
def Qht(C:AL SV):Slots:=C.map λp=>(p.1,p.2.opt)
theorem Qd7(k:ByteArray):∀C:AL SV,Qa5 (Qht C) k=(Qa5 C k).map SV.opt
 |[]=>rfl
 | e :: r=>by
   have z:=Qd7 k r;unfold Qht at z ⊢;rw[aR,Qa5,Qa5,z];split<;>rfl
variable{C:AL SV}
theorem QhW(h:Qav C):Qav (Qht C):=bG.2 h
theorem Ql0(C:AL SV)(k:ByteArray)(s:SV)(x:ByteArray):Qa5 (Qht (Qc6 C k s)) x=if x=k then some s.opt else Qa5 (Qht C) x:=by
 rw[Qd7,QeW,Qd7];split<;>rfl
structure UD where
 k:ByteArray
 old:Option SV
def Qhw(u:UD)(C:AL SV):AL SV:=match u.old with
 |some o=>Qc6 C u.k o
 |none=>Qjj C u.k
theorem Qqb(h:Qav C){k:ByteArray}(s:SV):Qhw ⟨k,Qa5 C k⟩ (Qc6 C k s)=C:=by
 unfold Qhw;cases z:Qa5 C k with
 |some o=>exact QpC h z
 |none=>exact Qok h z
theorem Qkf(h:Qav C)(u:UD):Qav (Qhw u C):=by
 unfold Qhw;split
 .exact QbG h _ _
 exact QgF h _
def Qdw(us:List UD)(C:AL SV)(m:Nat):AL SV:=(us.drop m).foldr Qhw C
theorem Qi2(z:List UD)(C:AL SV):Qdw z C z.length=C:=by simp[Qdw]
theorem QhA{z:List UD}{m:Nat}{u:UD}(h:z[m]? = some u):Qdw z C m=Qhw u (Qdw z C (m+1)):=by
 obtain⟨D,rfl⟩:=ah.1 h;unfold Qdw;rw[aE D];rfl
structure Chain(us:List UD)(H:List (AL SV)):Prop where
 len:H.length=us.length+1
 step:∀i u,us[i]? = some u->∃(C:AL SV) (s:SV),H[i]? = some C/\Qav C/\u.old=Qa5 C u.k/\H[i+1]? = some (Qc6 C u.k s)
theorem Chain.nil(C:AL SV):Chain [] [C]:=⟨rfl,λi u h=>by simp at h⟩
theorem Chain.snoc{z:List UD}{H:List (AL SV)}(h:Chain z (H++[C]))(hs:Qav C)(k:ByteArray)(s:SV):Chain (z++[⟨k,Qa5 C k⟩]) (H++[C]++[Qc6 C k s]):=by
 have R:=h.len;rw[ak,cF]at R;refine⟨by simp;omega,λi u hi=>?_⟩;rcases Nat.lt_trichotomy i z.length with D|I|U
 ·rw [bp D] at hi
  obtain⟨J,s',h1,h2,N,X⟩:=h.step i u hi;exact⟨J,s',by rw[bp (by simp;omega)];exact h1,h2,N,by rw[bp (by simp;omega)];exact X⟩
 ·subst I
  rw[aU (an _),cW]at hi;injection hi with hi;subst hi;refine⟨C,s,?_,hs,rfl,?_⟩
  .rw [bp (by simp;omega),aU (by omega),show z.length-H.length=0 by omega];rfl
  rw[aU (by simp;omega),show z.length+1 -(H++[C]).length=0 by simp;omega];rfl
 rw[aQ (by simp;omega)]at hi;cases hi
theorem Chain.back{z:List UD}{H:List (AL SV)}(h:Chain z H)(I:H[z.length]? = some C):∀d m,m+d=z.length->H[m]? = some (Qdw z C m)
 | 0,m,hm=>by
   obtain rfl:m=z.length:=by omega
   rw[Qi2];exact I
 | d+1,m,hm=>by
   have hlt:m<z.length:=by omega
   have hu:=ac hlt;obtain⟨R,s,h1,h2,J,N⟩:=h.step m _ hu;have D:=h.back I d (m+1) (by omega);rw[N]at D;injection D with D;rw[h1,QhA hu,<-D];congr 1;have:=Qqb h2 (k:=(z[m]'hlt).k) s;rw[<-J]at this;exact this.symm
theorem Chain.take{z:List UD}{H:List (AL SV)}(h:Chain z H){m:Nat}(N:m<=z.length):Chain (z.take m) (H.take (m+1)):=by
 refine⟨by rw[ap,ap,h.len];omega,λi u hi=>?_⟩;have D:i<m:=by
  have:=(ah.1 hi).1;rw[ap]at this;omega
 rw[bJ D]at hi;obtain⟨C,s,h1,h2,I,J⟩:=h.step i u hi;exact⟨C,s,by rw[bJ (by omega)];exact h1,h2,I,by rw[bJ (by omega)];exact J⟩
theorem Qfz(h:Qav C)(z:List UD)(m:Nat):Qav (Qdw z C m):=by
 unfold Qdw
 induction z.drop m with
 |nil=>exact h
 |cons u r ih=>exact Qkf ih u
abbrev e9:=@World.putObj_heap_other
abbrev fc:=@World.alloc_heap_new
theorem Qik(w:World)(o:Obj)(h:∀(W:World) (i j:Nat),W.heap[i]? = some o->W.frozen? ⟨i,j,none⟩=false):Ext w (w.alloc o):=by
 refine⟨(Below.refl _ _).alloc (an _) _,λb j D=>?_⟩;by_cases z:b=w.heap.size
 ·subst z
  exact h _ _ _ (fc w o)
 exact frozen_none (by simp;omega)
structure Turned(B:Nat)(W W':World):Prop where
 os:W'.os=W.os
 tape:W'.tape=W.tape
 output:W'.output=W.output
 size:W'.heap.size=W.heap.size
 block:∀b,(b<B\/∃o,W.heap[b]? = some o/\o.isCells=true)->W'.heap[b]? = W.heap[b]?
 fz:∀b o,W'.frozen? ⟨b,o,none⟩=W.frozen? ⟨b,o,none⟩
variable{W:World}
theorem Turned.put{B l:Nat}{o o':Obj}(N:B<=l)(h:W.heap[l]? = some o)(I:o.isCells=false)(z:o'.isCells=false):Turned B W (W.putObj l o'):=by
 refine⟨rfl,rfl,rfl,by simp,λb J=>e9 ?_,λb j=>?_⟩
 ·rintro rfl
  rcases J with J |⟨R,h2,D⟩
  .omega
  rw[h]at h2;cases h2;rw[I]at D;cases D
 by_cases e:b=l
 ·subst e
  have h1:(W.putObj b o').heap[b]? = some o':=World.putObj_heap_same (aC.1 h).1;unfold World.frozen?;simp only[h1,h];cases o<;>cases o'<;>first|rfl |(simp[Obj.isCells]at I;done) |(simp[Obj.isCells]at z;done)
 exact World.frozen?_of_block (a:=⟨b,j,none⟩) (e9 e)
abbrev eC:=@callsIn_wide
abbrev fe:=@run_endRound
theorem St.then{C z:Nat->Prop}{a b c:World}(h:St C a b)(k:St z b c)(I:∀i,i<a.heap.size->z i->C i):St C a c:=
 ⟨k.os.trans h.os,k.tape.trans h.tape,k.output.trans h.output,al h.size k.size,λi hi D=>(k.block i (ab hi h.size) (λJ=>D (I i hi J))).trans (h.block i hi D),λb o=>(k.fz b o).trans (h.fz b o)⟩
theorem St.put{l:Nat}{o o':Obj}(h:W.heap[l]? = some o)(D:o.isCells=false)(z:o'.isCells=false):St (λb=>b=l) W (W.putObj l o'):=
 ⟨rfl,rfl,rfl,by simp,λb _ I=>e9 I,(Turned.put (an l) h D z).fz⟩
structure Takes{α:Type}(P:Program)(l:Nat)(encs:α->Array Value)(G:List α->α->World->World->Prop)(J:List α->(Nat->Prop)->World->Prop)(Jx:List α->World->Prop):Prop where
 lt:∀pre C W,J pre C W->∀b,C b->b<W.heap.size
 take:∀pre C x W0 W1,J pre C W0->Ext W0 W1->G pre x W0 W1->YieldAt Fence.wide 4 P l (encs x) W1 λe W'=>
  (e=.returned (.bool true)/\∃C',J (pre++[x]) C' W'/\St C W1 W'/\∀b,C' b->C b\/W1.heap.size<=b)\/(e=.returned (.bool false)/\Jx (pre++[x]) W'/\St C W1 W')
def Quw{α:Type}(P:Program)(g:Nat)(lb:Array Value)(encs:α->Array Value)(K:Nat->Prop)(G:List α->α->World->World->Prop)(S Sp:List α->Prop)(w0:World):Prop:=
 ∀(l:Nat) (J:List α->(Nat->Prop)->World->Prop) (Jx:List α->World->Prop) (C:Nat->Prop) (W:World),Takes P l encs G J Jx->Agree K w0 W->w0.heap.size<=W.heap.size->(∀b,C b->¬K b)->J [] C W->
  Calls P g (#[.func (.yield l) #[] #[]]++lb) W λe W'=>(∃v,e=.returned v)/\((∃xs C' W0,S xs/\J xs C' W0/\Ext W0 W')\/(∃pre W0,Sp pre/\Jx pre W0/\Ext W0 W'))
def Qrp{α:Type}(C:Nat->Prop)(I:List α->(Nat->Prop)->World->Prop)(Ix:Code->List α->World->Prop)(xs:List α)(W:World):Exit->Act->World->Prop
 |.normal,_,W'=>∃C',I xs C' W'/\St C W W'/\(∀b,C' b->C b\/W.heap.size<=b)/\(∀b,C' b->b<W'.heap.size)
 |.ret,_,W'=>St C W W'/\Ix .ret xs W'
 |.exit id,_,W'=>St C W W'/\Ix (.exit id) xs W'
 |.goto t,_,W'=>St C W W'/\Ix (.goto t) xs W'
 |.panic _,_,_=>False
 |.outgrown,_,_=>False
variable{n:Nat}{P:Program}{Q:Exit->Act->World->Prop}{a:Act}{w0:World}
theorem Qlk{α:Type}{g:Operand}{ps:Array Tmp}{assign body:Code} 
  {gf:Nat} {lb:Array Value} (hg:a.eval g=.func (.func gf) #[] lb) (eg:∀args w,(callFunc gf args).run P w=.ok (.enter gf args) w)
  {encs:α->Array Value} {K:Nat->Prop} {G:List α->α->World->World->Prop} {S Sp:List α->Prop} (hseq:Quw P gf lb encs K G S Sp w0)
  (hA:Agree K w0 w) (hsz:w0.heap.size<=w.heap.size) (hK:∀b,K b->b<w) (hps:∀x,(encs x).size=ps.size)
  (I:List α->(Nat->Prop)->World->Prop) (Ix:Code->List α->World->Prop) (C₀:Nat->Prop) (hC:∀b,C₀ b->b<w/\¬K b)
  (hI:∀{s C W W'},I s C W->St (λb=>b=w.heap.size+1) W W'->I s C W') (hIx:∀{c s W W'},Ix c s W->St (λb=>b=w.heap.size+1) W W'->Ix c s W')
  (h0:∀W,Ext w W->w.heap.size+2<=W.heap.size->I [] C₀ W)
  (hround:∀(pre:List α) (C:Nat->Prop) (x:α) (W0 W1:World),I pre C W0->(∀b,C b->b<W0)->w.heap.size+2<=W0.heap.size->¬C (w.heap.size+1)->Ext W0 W1->G pre x W0 W1->
    assign.wpIn (Fence.wide.inRound (w.heap.size+1)) 4 P (Exit.then (λa1 W2=>Ext W1 W2/\∀W3,St (λb=>b=w.heap.size+1) W2 W3->body.wpIn (Fence.wide.inRound (w.heap.size+1)) 4 P (Qrp C I Ix (pre++[x]) W3) a1 W3) (λ_ _ _=>False))
     { tmps:=(ps.zip (encs x)).foldl (λt (p,v)=>t.setIfInBounds p v) a.tmps,defers:=[] } W1)
  (hdone:∀(D:Nat) (xs:List α) (C:Nat->Prop) (W:World),D=w.heap.size->S xs->I xs C W->W.heap[D]? = some (.deferred (some []))->Q .normal { a with defers:={ target:=.collected D,args:=#[] }::a.defers } W)
  (hstop:∀(D:Nat) (c:Code) (pre:List α) (W:World),D=w.heap.size->Sp pre->Ix c pre W->W.heap[D]? = some (.deferred (some []))->c.wpIn Fence.wide n P Q { a with defers:={ target:=.collected D,args:=#[] }::a.defers } W) :
  (Code.rangeFunc g ps assign body).wpIn Fence.wide n P Q a w:=by
 refine wpIn_rangeFunc λfn hfn=>?_
 rw[show Fence.wide.round=none from rfl]
 -- the loop's record at each of its states;where it lies,and the block of the rounds' deferred calls
 let rec_:LoopState->Option Code->Obj:=λst pe=>.loop { state:=st,pending:=pe,fn,tmps:=a.tmps,params:=ps,assign,body,defers:=w.heap.size }
 let BK:LoopState->Option Code->World->Prop:=λst pe W=>W.heap[w.heap.size+1]? = some (rec_ st pe)/\W.heap[w.heap.size]? = some (.deferred (some []))
 have bkL:∀{st pe W},BK st pe W->w.heap.size+1<W.heap.size:=λh=>(aC.1 h.1).1
 have bkE:∀{st pe W W'},BK st pe W->Ext W W'->BK st pe W':=λh he=>⟨(he.heap (aC.1 h.1).1).trans h.1,(he.heap (aC.1 h.2).1).trans h.2⟩
 have bkS:∀{st pe W W'} {C:Nat->Prop},BK st pe W->St C W W'->¬C (w.heap.size+1)->¬C w.heap.size->BK st pe W':=λh hk h1 h2=>⟨(hk.block _ (bkL h) h1).trans h.1,(hk.block _ (by have:=bkL h;omega) h2).trans h.2⟩
 have bkP:∀{st pe W} (st':LoopState) (pe':Option Code),BK st pe W->BK st' pe' (W.putObj (w.heap.size+1) (rec_ st' pe'))/\St (λb=>b=w.heap.size+1) W (W.putObj (w.heap.size+1) (rec_ st' pe')):=λst' pe' h=>
  ⟨⟨World.putObj_heap_same (aC.1 h.1).1,(e9 (by omega)).trans h.2⟩,St.put h.1 rfl rfl⟩
 have e1:Ext w (w.alloc (.deferred (some []))):=Qik w _ λW i j h=>by simp[World.frozen?,h]
 have e2:Ext (w.alloc (.deferred (some []))) ((w.alloc (.deferred (some []))).alloc (rec_ .ready none)):=Qik _ _ λW i j h=>by simp[World.frozen?,h,rec_]
 have hrun:=run_enterLoop_outer (P:=P) (w:=w) fn a.tmps ps assign body;have bk1:BK .ready none ((w.alloc (.deferred (some []))).alloc (rec_ .ready none)):=
  ⟨by have:=fc (w.alloc (.deferred (some []))) (rec_ .ready none);rwa[ey]at this,(eJ _ _ _ (by simp)).trans (fc w _)⟩
 have eW:=e1.trans e2;have hs1:w.heap.size+2<=((w.alloc (.deferred (some []))).alloc (rec_ .ready none)).heap.size:=by simp
 change _=Result.ok _ ((w.alloc (.deferred (some []))).alloc (rec_ .ready none))at hrun;generalize (w.alloc (.deferred (some []))).alloc (rec_ .ready none)=W1 at *;refine⟨w+1,_,W1,{ target:=.fn (.func gf) lb,args:=#[.func (.yield (w.heap.size+1)) #[] #[]] },W1,gf,#[.func (.yield (w.heap.size+1)) #[] #[]]++lb,W1,hrun,?_,?_,?_,λh=>by simp[Fence.wide]at h,?_⟩
 ·simp only [resolve,hg]
  simp[go_sem]
 .intro f' hf';trivial
 .simp [invoke,go_sem,eg]
 refine eC.2 ((hseq (w.heap.size+1) (λpre C W=>∃C0:Nat->Prop,C=(λb=>C0 b\/b=w.heap.size+1)/\I pre C0 W/\(∀b,C0 b->b<W)/\¬C0 (w.heap.size+1)/\¬C0 w.heap.size/\BK .ready none W) (λpre W=>∃c,Ix c pre W/\BK .done (some c) W) (λb=>C₀ b\/b=w.heap.size+1) W1 ⟨?_,?_⟩ (hA.trans (eW.agree hK)) (al hsz eW.size) ?_
  ⟨C₀,rfl,h0 W1 eW hs1,λb hb=>by have:=(hC b hb).1;omega,λh=>by have:=(hC _ h).1;omega,λh=>by have:=(hC _ h).1;omega,bk1⟩).mono ?_)
 ·rintro pre C W ⟨C0,rfl,-,hlt,-,-,hbk⟩ b (hb | rfl)
  .exact hlt b hb
  exact bkL hbk
 ·rintro pre C x W0 Wy ⟨C0,rfl,hi,hlt,nL,nD,hbk⟩ hx hgd
  have hbk1:=bkE hbk hx;have hl0:=bkL hbk;refine⟨fn,_,assign,body,run_yield (args:=encs x) hbk1.1 (hps x),roundIn_of_wpIn hfn (wpIn_mono (hround pre C0 x W0 Wy hi hlt (by omega) nL hx hgd) ?_)⟩;rintro e a3 W2 hp;cases e with
  | normal=>
    obtain⟨hx2,hb⟩:=hp;have hbk2:=bkE hbk1 hx2;obtain⟨hbk3,ht3⟩:=bkP .busy none hbk2;refine⟨_,run_beginRound hbk2.1 rfl,wpIn_mono (hb _ ht3) ?_⟩;have hl3:=bkL hbk3;generalize W2.putObj (w.heap.size+1) (rec_ .busy none)=W3 at *;rintro e a4 W4 hq;cases e with
    | normal=>
      obtain⟨C',hi4,hst,hsub,hlt4⟩:=hq;have hbk4:=bkS hbk3 hst nL nD;obtain⟨hbk5,ht5⟩:=bkP .ready none hbk4;refine⟨_,_,fe none hbk4.1,.inl ⟨rfl,_,⟨C',rfl,hI hi4 ht5,λb hb=>ab (hlt4 b hb) ht5.size,λh=>?_,λh=>?_,hbk5⟩,?_,?_⟩⟩
      ·rcases hsub _ h with h | h
       .exact nL h
       omega
      ·rcases hsub _ h with h | h
       .exact nD h
       omega
      .exact (((hx2.st _).trans (ht3.mono λi _ hi=>.inr hi)).trans (hst.mono λi _ hi=>.inl hi)).trans (ht5.mono λi _ hi=>.inr hi)
      rintro b (hb|rfl)
      ·rcases hsub b hb with h | h
       .exact .inl (.inl h)
       exact .inr (by have:=hx2.size;have:=ht3.size;omega)
      exact .inl (.inr rfl)
    | ret=>
      have hbk4:=bkS hbk3 hq.1 nL nD;obtain⟨hbk5,ht5⟩:=bkP .done (some .ret) hbk4;exact⟨_,_,fe (some .ret) hbk4.1,.inr ⟨rfl,⟨.ret,hIx hq.2 ht5,hbk5⟩,(((hx2.st _).trans (ht3.mono λi _ hi=>.inr hi)).trans (hq.1.mono λi _ hi=>.inl hi)).trans (ht5.mono λi _ hi=>.inr hi)⟩⟩
    | exit id=>
      have hbk4:=bkS hbk3 hq.1 nL nD;obtain⟨hbk5,ht5⟩:=bkP .done (some (.exit id)) hbk4;exact⟨_,_,fe (some (.exit id)) hbk4.1,.inr ⟨rfl,⟨.exit id,hIx hq.2 ht5,hbk5⟩,(((hx2.st _).trans (ht3.mono λi _ hi=>.inr hi)).trans (hq.1.mono λi _ hi=>.inl hi)).trans (ht5.mono λi _ hi=>.inr hi)⟩⟩
    | goto t=>
      have hbk4:=bkS hbk3 hq.1 nL nD;obtain⟨hbk5,ht5⟩:=bkP .done (some (.goto t)) hbk4;exact⟨_,_,fe (some (.goto t)) hbk4.1,.inr ⟨rfl,⟨.goto t,hIx hq.2 ht5,hbk5⟩,(((hx2.st _).trans (ht3.mono λi _ hi=>.inr hi)).trans (hq.1.mono λi _ hi=>.inl hi)).trans (ht5.mono λi _ hi=>.inr hi)⟩⟩
    |panic ch=>exact hq.elim
    |outgrown=>exact hq.elim
  |ret=>exact hp.elim
  |exit id=>exact hp.elim
  |goto t=>exact hp.elim
  |panic ch=>exact hp.elim
  |outgrown=>exact hp.elim
 ·rintro b (hb | rfl) hk
  .exact (hC b hb).2 hk
  have:=hK _ hk;omega
 rintro e W2 ⟨⟨v,rfl⟩,(⟨xs,C,W0,hS,⟨C0,rfl,hi,-,-,-,hbk⟩,hx⟩ |⟨pre,W0,hSp,⟨c,hi,hbk⟩,hx⟩)⟩
 ·have hbk2:=bkE hbk hx
  obtain⟨hbk5,ht5⟩:=bkP .exhausted none hbk2;exact⟨none,_,run_endLoop hbk2.1 (by simp),hdone _ xs C0 _ rfl hS (hI hi ((hx.st _).trans ht5)) hbk5.2⟩
 have hbk2:=bkE hbk hx;obtain⟨hbk5,ht5⟩:=bkP .exhausted (some c) hbk2;exact⟨some c,_,run_endLoop hbk2.1 (by simp),hstop _ c pre _ rfl hSp (hIx hi ((hx.st _).trans ht5)) hbk5.2⟩
variable{ops:Array Oper}
theorem Qdb{F:Fence}(w:World){rest:List Oper}{o:Oper}(a5:o.guard=none)(s' x:Operand)(t:TypeId)
  (ho:o.op=.call { callee:=.builtin .append,args:=#[s',x],argTypes:=#[t,t] })
  (base:Nat) (e:TypeId) (i:TypeInfo) (z:Value) (size D:Nat) (ht:P.underlying t=some (.slice e)) (hi:P.info? e=some i) (hz:i.zero=some z)
  (N:i.size=size) (a0:i.bytes=D) (Z:z.cells.size=size) (a3:0<size)
  (s:Sl) (k:Nat) (xs:List Value) (hs:a.eval s'=.slice s.a k s.c) (X:w.ownsRow base e size (.slice s.a k s.c) k xs)
  (G:Nat->Prop) (Y:Sl) (m:Nat) (I:List Value) (hx:a.eval x=.slice Y.a m Y.c) (U:Rd w G size Y m I) (h1:∀u∈I,u.oneCell'=true)
  (a2:k+m<=maxLen) (J:(k+m)*D<=140737488355328) (R:base<=w.heap.size)
  (h:∀(s':Sl) (w':World),w'.ownsRow base e size (.slice s'.a (k+m) s'.c) (k+m) (xs++I)->Wr w w' s.row->(s'.a=s.a\/s'.a=some ⟨w,0,none⟩/\Wr w w' none)->wpListIn F n P ops Q rest (a.put o.dst (.slice s'.a (k+m) s'.c)) w'):wpListIn F n P ops Q (o::rest) a w:=by
 refine wpListIn_plain a5 λK a4=>?_
 obtain⟨v',w',hr,h2,h3,h4⟩:=QfL (P:=P) w base t o.type e i z size D ht hi hz N a0 Z a3 s k xs X G Y m I U h1 a2 J R;unfold Oper.wpIn;refine⟨?_,?_⟩
 .simp [Oper.about,ho,resolve,Target.leads,Sem.run_pure]
 rw[Oper.semAt_plain F _ _ (by rw[ho];intro c a1;cases a1)];simp[execOp,ho,resolve,invoke,builtin,hs,hx,hr,Result.andThen];exact a4 _ _ (h v' w' h2 h3 h4)
variable{H:Nat->Prop}
theorem St.QdP{a w:World}(h:St H a w){b:Nat}(z:a<=b\/H b)(o:Nat)(d:Val)(sl so:Sl):St H a (QdP w b o d sl so):=
 (((((h.set (p:=⟨b,_,none⟩) z _).set (p:=⟨b,_,none⟩) z _).set (p:=⟨b,_,none⟩) z _).set (p:=⟨b,_,none⟩) z _).set (p:=⟨b,_,none⟩) z _).set (p:=⟨b,_,none⟩) z _
section
variable{H : Type}{enc : TypeId × Value -> H}{P : Program}{w : World}{held : Bool}
abbrev WOk(P:Program)(t:TypeId)(d:DataW H):Prop:=(DataW.weights P t d).all (·<=reachBytes)=true
abbrev tr(enc:TypeId × Value->H)(P:Program)(w:World)(held:Bool)(fuel:Nat)(t:TypeId)(cs:List Value):Option (DataW H × List MemPlace):=DataW.trod enc P w 0 (λ_=>true) held fuel t cs
theorem Qet{e:TypeId}:∀{l:List (DataW H)},(DataW.weightsAll P e l).all (·<=reachBytes)=true->∀d∈l,WOk P e d
 |[],_,d,hd=>by cases hd
 | x :: l,h,d,hd=>by
   simp only[DataW.weightsAll,List.all_append,Bool.and_eq_true]at h;rcases aG.1 hd with rfl|hd
   .exact h.1
   exact Qet h.2 d hd
theorem weightsEach_at:∀{ts:List TypeId} {z:List (DataW H)},(DataW.weightsEach P ts z).all (·<=reachBytes)=true->∀(i:Nat) (t:TypeId) (d:DataW H),ts[i]? = some t->z[i]? = some d->WOk P t d
 |[],_,_,i,t,d,ht,_=>by simp at ht
 |t::ts,[],_,i,t',d,_,hd=>by simp at hd
 | t :: ts,d :: z,h,i,t',d',ht,hd=>by
   simp only[DataW.weightsEach,List.all_append,Bool.and_eq_true]at h;cases i with
   |zero=>simp at ht hd;subst ht hd;exact h.1
   |succ i=>exact weightsEach_at h.2 i t' d' (by simpa using ht) (by simpa using hd)
theorem Qfd{t e:TypeId}{C B J:Nat}{cs:List Value}{x:DataW H × List MemPlace}(ht:P.underlying t=some (.slice e))(hC:P.cellsOf e=C)(hB:P.bytesOf e=B)(b0:0<C)
  (h:tr enc P w held J t cs=some x) (hw:WOk P t x.1) :
  ∃(n D:Nat) (s:Sl) (b o:Nat),J=n+1/\cs=[.slice s.a D s.c]/\QeM (Lt w) s D b o/\D*B<=140737488351232/\
   ∀i,i<D->∃U y,U.length=C/\(∀j,j<C->w.cell? ⟨b,o+i*C+j,none⟩=U[j]?)/\tr enc P w held n e U=some y/\WOk P e y.1:=by
 rcases DataW.trod_slice ht h with⟨rfl,rfl⟩ |⟨a,D,a1,I,rest,n,rfl,rfl,rfl,-,hl,hm,b8,X,b7,-⟩
 ·cases J with
  |zero=>simp[tr,DataW.trod]at h
  |succ n=>exact⟨n,0,Sl.none,0,0,rfl,rfl,.nil _ _,by omega,λi hi=>by omega⟩
 obtain⟨hr,R⟩:=b7 rfl;have Z:(I.length+rest.length)*P.bytesOf e<=reachBytes/\(DataW.weightsAll P e (I.map (·.1))).all (·<=reachBytes)=true:=by
  have a0:=hw;simp only[WOk,DataW.weights,ht,List.all_cons,List.all_append,Bool.and_eq_true,decide_eq_true_eq,List.length_map]at a0;exact⟨a0.1,a0.2.1⟩
 rw[hB]at Z;rw[hC]at X R;by_cases a4:a1=0
 ·subst a4
  obtain rfl:D=0:=by omega
  exact⟨n,0,⟨some a,0⟩,0,0,rfl,rfl,.zero a 0 0,by omega,λi hi=>by omega⟩
 have b6:D*B<=140737488351232:=by
  have h1:D*B<=(I.length+rest.length)*B:=cg _ (by omega);have h2:=Z.1;have h3:reachBytes=140737488351232:=rfl;omega
 have b3:∃z:DataW H × List MemPlace,∃k,(w.cells? 0 (a.add (k*C)) C).bind (tr enc P w held n e)=some z/\k=0:=by
  by_cases h0:0<D
  .exact ⟨I[0]'(by omega),0,by rw[X 0 h0];exact ac (by omega),rfl⟩
  have:=R 0 (by omega);have e0:D=0:=by omega
  rw[e0,cx]at this;exact⟨rest[0]'(by omega),0,by rw[this];exact ac (by omega),rfl⟩
 obtain⟨z,k,hz,rfl⟩:=b3;obtain⟨a9,b5,-⟩:=dw.1 hz;obtain⟨-,c0,a6⟩:=World.cells?_some b5;have N:w.cell? (a.add 0)=some (a9[0]'(by omega)):=by
  have:=a6 0 b0;rw[cN]at this;rw[ac (by omega)]at this;simpa[Addr.add]using this
 obtain⟨b,o,a3⟩:=a;have Y:a3=none:=by simpa[Addr.add]using World.cell?_spot N
 subst Y;have a2:b<w:=by
  have h1:w.cell? ⟨b,o,none⟩=some (a9[0]'(by omega)):=by simpa[Addr.add]using N
  exact eH w _ h1
 refine⟨n,D,⟨some ⟨b,o,none⟩,a1⟩,b,o,rfl,rfl,.some _ _ _ _ hl hm a2,b6,λi hi=>?_⟩;have he:=X i hi;rw[ac (by omega)]at he;obtain⟨U,h1,h2⟩:=dw.1 he;obtain⟨-,b4,a5⟩:=World.cells?_some h1;refine⟨U,_,b4,λj hj=>?_,h2,Qet Z.2 _ (cT (List.getElem_mem (by omega)))⟩;have:=a5 j hj;rw[Go.WideShapes.add_plain,Go.WideShapes.add_plain]at this;exact this
theorem Qh1{t:TypeId}{k:IntKind}{z:Nat}{cs:List Value}{x:DataW H × List MemPlace}(D:P.underlying t=some (.int k))(h:tr enc P w held z t cs=some x):∃n,cs=[.int k n]/\(Lit.int k n).wf=true:=by
 obtain⟨n,h1,-,h2⟩:=DataW.trod_int D h;exact⟨n,h1,h2⟩
theorem Qmh{t:TypeId}{z:Nat}{cs:List Value}{x:DataW H × List MemPlace}(D:P.underlying t=some .bool)(h:tr enc P w held z t cs=some x):∃b,cs=[.bool b]:=by
 obtain⟨b,h1,-⟩:=DataW.trod_bool D h;exact⟨b,h1⟩
theorem Qp7{t:TypeId}{z:Nat}{cs:List Value}{x:DataW H × List MemPlace}(D:P.underlying t=some .string)(h:tr enc P w held z t cs=some x):∃s,cs=[.string s]/\s.size<=maxLen:=by
 obtain⟨s,h1,-,h2⟩:=DataW.trod_string D h;exact⟨s,h1,h2⟩
end
theorem skolem{α:Type}[Inhabited α]{p:Nat->Prop}{q:Nat->α->Prop}(h:∀i,p i->∃a,q i a):∃f:Nat->α,∀i,p i->q i (f i):=by
 have:∀i,∃y:α,p i->q i y:=λi=>by
  by_cases z:p i
  ·obtain ⟨a,D⟩:=h i z
   exact⟨a,λ_=>D⟩
  exact⟨default,λh=>absurd h z⟩
 exact Classical.axiomOfChoice this
instance : Inhabited Val :=⟨.mk 0 false 0 ByteArray.empty [] [] []⟩
instance : Inhabited Sl :=⟨Sl.none⟩
variable{cs:List Value}
theorem Qmd(h:cs.length=6):∃a b c d e f,cs=[a,b,c,d,e,f]:=by
 match cs,h with
 |[a,b,c,d,e,f],_=>exact⟨_,_,_,_,_,_,rfl⟩
variable{j:Nat}
theorem at_of_take{cs l:List Value}{z k:Nat}(h:(cs.drop z).take k=l)(D:j<k):cs[z+j]? = l[j]?:=by
 rw[<-h,bm,em D,bj]
abbrev QeR(v:Val)(sl so:Sl):List Value:=[.int .i64 v.kind,.bool v.b,.int .i64 v.i,.string v.t,.slice sl.a v.l.length sl.c,.slice so.a v.ok.length so.c]
theorem QaP{α:Type}{f:Nat->α}{d:α}(h:((List.range n).map f)[j]? = some d):j<n/\d=f j:=by
 rw[aq]at h;obtain⟨k,z,rfl⟩:=dB.1 h;obtain⟨h1,rfl⟩:=ah.1 z;simp at h1;exact⟨h1,by simp⟩
section
variable{H : Type}{enc : TypeId × Value -> H}{w : World}{held : Bool}
theorem Qa7:prog.cellsOf 28=6:=by kernel_rfl
theorem QeQ:prog.cellsOf 121=7:=by kernel_rfl
theorem Qja:prog.cellsOf 70=7:=by kernel_rfl
theorem QfB:prog.bytesOf 28=88:=by kernel_rfl
theorem QeP:prog.bytesOf 121=104:=by kernel_rfl
theorem Qi9:prog.bytesOf 70=104:=by kernel_rfl
structure LA where
 kd:Int
 k:ByteArray
 v:Val
 sl:Sl
 so:Sl
instance : Inhabited LA :=⟨⟨0, ByteArray.empty, default, Sl.none, Sl.none⟩⟩
end
open Go.ChangeShapes Go.WideShapes Go.ChangeAt
theorem trodAll_stays{H:Type}{enc:TypeId × Value->H}{P:Program}(U:laidOutB P=true){W W':World}(R:Below W.heap.size W W')(z:Nat->Bool) :
  ∀{ts:List TypeId} {J:List Value} {N:List (DataW H)} {ps:List MemPlace},(∀t∈ts,P.readableRec t=true/\t<P.types.size)->DataW.TrodAll enc P W 0 (λ_=>true) true ts J N ps->
   (∀p∈ps,p.block<W.heap.size)->(∀p∈ps,z p.block=true)->DataW.TrodAll enc P W' 0 z true ts J N ps
 | [],J,N,ps,_,h,_,_=>by
   obtain⟨rfl,rfl,rfl⟩:=trodAll_nil h;exact rfl
 | t :: ts,J,N,ps,hr,h,hb,hs=>by
   obtain⟨v0,a0,d0,Z,X,q0,rfl,rfl,rfl,h0,Y⟩:=trodAll_cons h;refine⟨X,q0,Go.WideElems.Trod_stays U (hr t (az ..)).1 (hr t (az ..)).2 h0 (λp D=>?_) (λp D=>hs p (List.mem_append_left _ D)),
    trodAll_stays U R z (λt ht=>hr t (aI _ ht)) Y (λp D=>hb p (List.mem_append_right _ D)) (λp D=>hs p (List.mem_append_right _ D)),rfl⟩
   have I:=hb p (List.mem_append_left _ D);cases p with
   |cell b o=>exact R.cell (p:=⟨b,o,none⟩) I
   |map b=>exact R.block b I
structure MapAt(H:Nat->Prop)(w:World)(M:Nat)(es:List Ent):Prop where
 hm:H M
 ex:∃s xs,Blk w M 55 #[.slice s.a xs.length s.c]/\ES w (NH H w) s xs/\xs.map LE.ent=es
variable{G:Nat->Prop}
theorem MapAt.st{M:Nat}{es:List Ent}(h:MapAt H w M es)(k:St G w w')(N:∀b,G b->H b)(J:¬G M):MapAt H w' M es:=by
 obtain⟨R,s,xs,z,hs,D⟩:=h;exact⟨R,s,xs,k.blk z J,(hs.agree (λb z=>k.block b z.1 λI=>z.2 (N b I))).mono λi hi=>⟨Nat.lt_of_lt_of_le hi.1 k.size,hi.2⟩,D⟩
theorem MapAt.ext{M:Nat}{es:List Ent}(h:MapAt H w M es)(k:Ext w w'):MapAt H w' M es:=
 h.st (k.st λ_=>False) (λ_ z=>z.elim) (λz=>z)
theorem MapAt.more{M:Nat}{es:List Ent}(h:MapAt H w M es)(I:∀b,H b->G b)(N:∀b,b<w.heap.size->G b->H b):MapAt G w M es:=by
 obtain⟨R,s,xs,D,hs,z⟩:=h;exact⟨I M R,s,xs,D,hs.mono λi hi=>⟨hi.1,λJ=>hi.2 (N i hi.1 J)⟩,z⟩
theorem QuO{M:Nat}{es:List Ent}(h:MapAt H w M es)(k:ByteArray):Calls prog 43 #[.pointer (some ⟨M,0,none⟩),.string k] w λe w'=>
  e=.returned (.tuple #[.int .i64 (Qcc es k),.bool (decide ((es[Qcc es k]?).map Prod.fst=some k))])/\∃q,w'=w.drewN q:=by
 obtain⟨-,s,xs,hb,hs,rfl⟩:=h;have h0:w.cell? ⟨M,0,none⟩=some (.slice s.a xs.length s.c):=hb.cell 0;have a0:=hs.few;have HS:=hY hs;clear hb hs;go_in;go_wp2_with fail;have a1:xs.length<=140737488355328:=by omega
 go_loopw[6] (λq wr=>∃j:Nat,q=.int .i64 j/\j<=xs.length/\(∀i x,i<j->xs[i]? = some x->klt x.k k=true)/\wr=w) (λq _=>xs.length -(intOf q).toNat)
 case atStart=>exact⟨0,rfl,aw _,λi x hi=>absurd hi (Nat.not_lt_zero _),rfl⟩
 obtain⟨j,rfl,hj,hp,rfl⟩:=hrel;have Z:=hY hp;clear hp;by_cases h1:j<xs.length
 ·have g1:(j:Int)<(xs.length:Int):=by omega
  obtain⟨x,Y⟩:∃x,xs[j]? = some x:=⟨_,ac h1⟩;obtain⟨g,o,hg,lg,hc,U,kx,-,-,-⟩:=HS.o.at Y;obtain⟨sa,sc⟩:=s;dsimp only at hg hc U;subst hg;have R:=hY Y;clear Y;cases N:klt x.k k with
  | true=>
    have X:Op.bytesLess x.k.toList k.toList=true:=N;go_wp2_with fail;go_roundw
    case rel=>
     refine⟨j+1,by go_num,h1,λi y hi J=>?_,by trivial⟩;rcases Nat.lt_or_eq_of_le (bq hi)with h|rfl
     .exact Z.o i y h J
     rw[R.o]at J;cases J;exact N
    simp[intOf];omega
  | false=>
    have X:Op.bytesLess x.k.toList k.toList=false:=N;have z:Qcc (xs.map LE.ent) k=j:=QgZ (by rw[ao];exact hj) (λi e hi D=>by
     rw[aq]at D;cases J:xs[i]? with
     |none=>rw[J]at D;cases D
     |some y=>rw[J]at D;cases D;exact Z.o i y hi J) (λe D=>by
     rw[aq,R.o]at D;cases D;exact N)
    have I:=hY z;clear z;go_wp2_with fail;go_quiet (fail);go_wp2_with fail;refine eD (v:=.tuple #[.int .i64 j,.bool (x.k.toList==k.toList)]) (by simp[results,results43,go_sem]) rfl ?_;rw[I.o,aq,R.o];refine⟨?_,_,rfl⟩;rw[beq_toList];simp[LE.ent]
 have g1:¬(j:Int)<(xs.length:Int):=by omega
 obtain rfl:j=xs.length:=by omega
 have z:Qcc (xs.map LE.ent) k=xs.length:=QgZ (by rw[ao];exact an _) (λi e hi D=>by
  rw[aq]at D;cases J:xs[i]? with
  |none=>rw[J]at D;cases D
  |some y=>rw[J]at D;cases D;exact Z.o i y hi J) (λe D=>by
  rw[aq,aQ (an _)]at D;cases D)
 have I:=hY z;clear z;go_wp2_with fail;refine eD (v:=.tuple #[.int .i64 xs.length,.bool false]) (by simp[results,results43,go_sem]) rfl ?_;rw[I.o];exact⟨by simp,0,rfl⟩
theorem Qvq{es:List Ent}(hs:Sorted es)(k:ByteArray):decide ((es[Qcc es k]?).map Prod.fst=some k)=(Qam es k).isSome:=by
 rw[Qip hs];cases D:es[Qcc es k]? with
 |none=>simp
 |some e=>by_cases z:e.1=k<;>simp[z]
def Qvi(o:Option Val)(w:World)(e:Ending)(w':World):Prop:=
 ∃sl so,e=.returned (.tuple #[Qbg (o.getD zeroV) sl so,.bool o.isSome])/\Ext w w'/\RV w' (Lt w.heap.size) (o.getD zeroV) sl so
def Qvd(F:Nat->Prop)(o:Option Val)(w:World)(e:Ending)(w':World):Prop:=
 ∃sl so,e=.returned (.tuple #[Qbg (o.getD zeroV) sl so,.bool o.isSome])/\Ext w w'/\RV w' F (o.getD zeroV) sl so
theorem Qvt{M:Nat}{es:List Ent}(h:MapAt H w M es)(a2:Sorted es)(k:ByteArray):Calls prog 54 #[.pointer (some ⟨M,0,none⟩),.string k] w (Qvd (NH H w) (Qam es k) w):=by
 have a1:=fA w 28 #[.int .i64 0,.bool false,.int .i64 0,.string ByteArray.empty,.slice none 0 0,.slice none 0 0];have U:Ext w (w.alloc (.cells #[.int .i64 0,.bool false,.int .i64 0,.string ByteArray.empty,.slice none 0 0,.slice none 0 0] 28)):=(fv w).alloc _ _;have X:=QuO (h.ext U) k;rw[Qvq a2]at X;have z:=Qip a2 k;obtain⟨-,s,xs,hb,hs,rfl⟩:=h;have HS:=hY hs;have HB:=hY hb;have Y:=hY U;have J:=hY X;obtain⟨p,hp⟩:∃p,Qcc (xs.map LE.ent) k=p:=⟨_,rfl⟩;rw[hp]at z;have HP:=hY hp;have b0:=hs.few;clear hb hs X U hp;cases hg:Qam (xs.map LE.ent) k with
 | none=>
   rw[hg]at J;clear z hg;go_in;go_wp2_with fail;refine J.o.mono ?_;rintro e w2 ⟨rfl,q,rfl⟩;go_wp2_with fail;have I:=a1.ext ((fv _).drewN q);obtain⟨c0,c1,c2,c3,c4,c5⟩:=I.c6;have N:=hY (Y.o.drewN q);generalize World.drewN _ q=W2 at *;clear J I;refine eD (v:=.tuple #[.agg #[.int .i64 0,.bool false,.int .i64 0,.string ⟨#[]⟩,.slice none 0 0,.slice none 0 0],.bool false]) (by simp[results,results54,go_sem,c0,c1,c2,c3,c4,c5]) rfl ?_;exact⟨Sl.none,Sl.none,rfl,N.o.QdP (b:=w) (an _) 0 zeroV Sl.none Sl.none,RV.flat _ _ _ _ _ _ (by decide) (by decide) (by decide)⟩
 | some v=>
   have a3:∃x,xs[p]? = some x/\x.v=v:=by
    rw[hg,aq]at z;cases Z:xs[p]? with
    |none=>rw[Z]at z;cases z
    | some x=>
      rw[Z]at z;simp only[Option.map_some,Option.bind_some]at z;by_cases hk:x.ent.1=k
      .rw [em hk]at z;cases z;exact⟨x,rfl,rfl⟩
      rw[ef hk]at z;cases z
   obtain⟨x,Z,rfl⟩:=a3;rw[hg,HP.o]at J;have b3:p<xs.length:=(ah.1 Z).1;have b4:(p:Int)<(xs.length:Int):=by omega
   have a6:=HB.o.ext Y.o;obtain⟨g,o,a0,R,a5,a4,-,⟨v0,v1,v2,v3,v4,v5⟩,rx,-⟩:=HS.o.at Z;obtain⟨sa,sc⟩:=s;dsimp only at a0 a5 a4;subst a0;have a9:=hY rx;have R:g<w:=R.1;have lM:=HB.o.lt;have m0:w.cell? ⟨M,0,none⟩=some (.slice (some ⟨g,o,none⟩) xs.length sc):=HB.o.cell 0;clear z hg Z a6 rx;go_in;go_wp2_with fail;refine J.o.mono ?_;rintro e w2 ⟨rfl,q,rfl⟩;have I:=a1.ext ((fv _).drewN q);obtain⟨c0,c1,c2,c3,c4,c5⟩:=I.c6;have D:=Y.o.drewN q
   replace m0:=(D.cell lM).trans m0
   replace v0:=(D.cell R).trans v0
   replace v1:=(D.cell R).trans v1
   replace v2:=(D.cell R).trans v2
   replace v3:=(D.cell R).trans v3
   replace v4:=(D.cell R).trans v4
   replace v5:=(D.cell R).trans v5
   have l2:=I.lt;have f4:=I.frozen;have N:=hY D;generalize World.drewN _ q=W2 at *;clear J I D;go_wp2_with fail;refine eD (v:=.tuple #[Qbg x.v x.sl x.so,.bool true]) (by simp[results,results54,go_sem,c0,c1,c2,c3,c4,c5]) rfl ?_;exact⟨x.sl,x.so,rfl,N.o.QdP (b:=w) (an _) 0 x.v x.sl x.so,(a9.o.agree (N.o.agree λ_ h=>h.1)).agree (Qbm W2 w.heap.size 0 x.v x.sl x.so (F:=NH H w) λh=>cQ _ h.1)⟩
theorem Qvu{M:Nat}{es:List Ent}(h:MapAt H w M es)(z:Sorted es)(k:ByteArray):Calls prog 54 #[.pointer (some ⟨M,0,none⟩),.string k] w (Qvi (Qam es k) w):=
 (Qvt h z k).mono λe w' ⟨sl,so,h1,h2,h3⟩=>⟨sl,so,h1,h2,h3.mono λi hi=>hi.1⟩
def Qln(H:Nat->Prop)(M:Nat)(es:List Ent)(w:World)(e:Ending)(w':World):Prop:=
 (∃r,e=.returned r)/\MapAt H w' M es/\St (λb=>b=M) w w'
variable{o:Nat}
theorem Wr.cell0{w w' z:World}{D:Option Nat}(h:Wr w' z D)(I:Ext w w'){M:Nat}(R:D≠some M)(J:M<w.heap.size):z.cell? ⟨M,o,none⟩=w.cell? ⟨M,o,none⟩/\M<z.heap.size:=
 ⟨((h.agree (F:=λb=>b=M) (λi hi=>by subst hi;exact ab J I.size) (λk N e=>R (e▸N))).cell rfl).trans (I.cell J),ab J (al I.size h.grown.size)⟩
def Qbi(xs:List LE)(p q:Nat)(x:LE):List LE:=(xs.take p++[x])++xs.drop q
variable{p q:Nat}
theorem Qru{k:ByteArray}(hs:Sorted (xs.map LE.ent))(x:LE)(z:x.k=k)(I:Qcc (xs.map LE.ent) k=p)(D:q=if(((xs.map LE.ent)[p]?).map Prod.fst=some k)then p+1 else p):(Qbi xs p q x).map LE.ent=Qbq (xs.map LE.ent) k x.v:=by
 rw[QlM hs,I,Qbi];subst z D;simp only[List.map_append,List.map_take,List.map_drop,List.map_cons,List.map_nil,List.append_assoc,List.singleton_append];congr 2;split<;>rfl
variable{w3:World}{s3:Sl}{x:LE}
theorem Qrw{M:Nat}{es:List Ent}(Z:H M)(hH:∀b,H b->b<w)(Y:Blk w M 55 #[.slice s.a xs.length s.c])(hs:ES w (NH H w) s xs)(hv:RV w (NH H w) x.v x.sl x.so)(hk:x.k.size<=maxLen)
  (X:Ext w w3) (R:w3.ownsRow w.heap.size 70 7 (.slice s3.a (Qbi xs p q x).length s3.c) (Qbi xs p q x).length (Qai (Qbi xs p q x))) (hf:(Qbi xs p q x).length*104<=140737488355328) (he:(Qbi xs p q x).map LE.ent=es) :
  MapAt H (w3.setCell ⟨M,0,none⟩ (.slice s3.a (Qbi xs p q x).length s3.c)) M es/\St (λb=>b=M) w (w3.setCell ⟨M,0,none⟩ (.slice s3.a (Qbi xs p q x).length s3.c)):=by
 have a0:=Y.lt;have D:St (λb=>b=M) w (w3.setCell ⟨M,0,none⟩ (.slice s3.a (Qbi xs p q x).length s3.c)):=(X.st (λb=>b=M)).set (p:=⟨M,0,none⟩) (.inr rfl) _;have J:Agree (NH H w) w (w3.setCell ⟨M,0,none⟩ (.slice s3.a (Qbi xs p q x).length s3.c)):=D.agree.mono λi hi=>⟨hi.1,λe=>hi.2 (e▸Z)⟩
 have I:∀i,NH H w i->NH H (w3.setCell ⟨M,0,none⟩ (.slice s3.a (Qbi xs p q x).length s3.c)) i:=λi hi=>⟨Nat.lt_of_lt_of_le hi.1 D.size,hi.2⟩
 have N:Agree (In w.heap.size w3.heap.size) w3 (w3.setCell ⟨M,0,none⟩ (.slice s3.a (Qbi xs p q x).length s3.c)):=fC w3 ⟨M,0,none⟩ _ (λh=>by have h1:w.heap.size<=M:=h.1;omega);refine⟨⟨Z,s3,Qbi xs p q x,?_,⟨?_,?_,hf⟩,he⟩,D⟩
 .exact (Y.ext X).Qdz 0 _
 .exact ((fE R).agree N).mono λi hi=>⟨by rw[eA];exact hi.2,λh=>by have:=hH i h;have:=hi.1;omega⟩
 intro y z;have z:y∈(xs.take p++[x])++xs.drop q:=z;have U:y∈xs\/y=x:=by
  rcases aB.1 z with z|z
  ·rcases aB.1 z with z | z
   .exact .inl (aN z)
   exact .inr (bn.1 z)
  exact .inl (aD z)
 rcases U with z|rfl
 .exact ⟨((hs.vals y z).1.agree J).mono I,(hs.vals y z).2⟩
 exact⟨(hv.agree J).mono I,hk⟩
section
variable{P : Program}{w : World}
theorem Qa3{ops:Array Oper}{rest:List Oper}{o:Oper}{a:Act}{Q:Exit->Act->World->Prop}(a1:o.guard=none)(s' x:Operand)(t:TypeId)
  (ho:o.op=.call { callee:=.builtin .append,args:=#[s',x],argTypes:=#[t,t] })
  (base:Nat) (e:TypeId) (i:TypeInfo) (z:Value) (size D:Nat) (ht:P.underlying t=some (.slice e)) (hi:P.info? e=some i) (hz:i.zero=some z)
  (N:i.size=size) (Z:i.bytes=D) (Y:z.cells.size=size) (a0:0<size) (hs:a.eval s'=.slice none 0 0)
  (F:Nat->Prop) (X:Sl) (m:Nat) (I:List Value) (hx:a.eval x=.slice X.a m X.c) (U:Rd w F size X m I) (h1:∀u∈I,u.oneCell'=true)
  (a2:m<=maxLen) (J:m*D<=140737488355328) (R:base<=w.heap.size)
  (h:∀(s':Sl) (w':World),w'.ownsRow base e size (.slice s'.a m s'.c) m I->Ext w w'->wpList P ops Q rest (a.put o.dst (.slice s'.a m s'.c)) w'):wpList P ops Q (o::rest) a w:=
 Qac w a1 s' x t ho base e i z size D ht hi hz N Z Y a0 Sl.none 0 [] hs (eI _ _ _ _) F X m I hx U h1 (by omega) (by rw[aA];exact J) R λs2 w2 h2 h3 _=>by
  rw[aA,aJ]at h2;rw[aA];exact h s2 w2 h2 ((fv w).wr h3 (λi hi=>by cases hi))
end
variable{sl so:Sl}
theorem Qrv{M:Nat}{es:List Ent}(h:MapAt H w M es)(hH:∀b,H b->b<w)(j9:Sorted es)(hc:es.length<=1000000){k:ByteArray}(hk:k.size<=maxLen){v:Val}(hv:RV w (NH H w) v sl so) :
  Calls prog 16 #[.pointer (some ⟨M,0,none⟩),.string k,Qbg v sl so] w (Qln H M (Qbq es k v) w):=by
 obtain⟨i0,hi,a6,a9,b0⟩:=eG Tryz.Qa1;have i9:Ext w (w.alloc (.cells #[.int .i64 v.kind,.bool v.b,.int .i64 v.i,.string v.t,.slice sl.a v.l.length sl.c,.slice so.a v.ok.length so.c] 28)):=(fv w).alloc _ _;have d6:=fA w 28 #[.int .i64 v.kind,.bool v.b,.int .i64 v.i,.string v.t,.slice sl.a v.l.length sl.c,.slice so.a v.ok.length so.c];have j0:=QuO (h.ext i9) k;have k0:=Qk3 es k;obtain⟨hm,s,xs,hb,hs,g6⟩:=h;obtain⟨p,hp⟩:∃p,Qcc es k=p:=⟨_,rfl⟩;obtain⟨f,hf⟩:∃f,decide ((es[p]?).map Prod.fst=some k)=f:=⟨_,rfl⟩;rw[hp,hf]at j0;have j4:xs.length=es.length:=by rw[<-g6,ao]
 obtain⟨q,hq⟩:∃q,(if f=true then p+1 else p)=q:=⟨_,rfl⟩;have i7:q=if((es[p]?).map Prod.fst=some k)then p+1 else p:=by
  rw[<-hq,<-hf];simp only[decide_eq_true_eq]
 have i1:q<=xs.length:=by
  rw[i7];split
  ·rename_i he
   have:p<es.length:=by
    rcases dL p es.length with h|h
    .exact h
    rw[aQ h]at he;cases he
   omega
  omega
 have d8:p<=xs.length:=by omega
 have i5:∀x:LE,x.k=k->x.v=v->(Qbi xs p q x).map LE.ent=Qbq es k v:=λx h1 h2=>by
  have:=Qru (xs:=xs) (k:=k) (by rw[g6];exact j9) x h1 (p:=p) (q:=q) (by rw[g6];exact hp) (by rw[g6];exact i7);rw[this,g6,h2]
 have i4:∀x:LE,(Qbi xs p q x).length=p+1+(xs.length-q):=λx=>by
  simp only[Qbi,List.length_append,List.length_take,List.length_drop,List.length_cons,List.length_nil];omega
 obtain⟨x,i8,i6,j3,j6⟩:∃x:LE,x.k=k/\x.v=v/\x.sl=sl/\x.so=so:=⟨⟨k,v,sl,so⟩,rfl,rfl,rfl,rfl⟩;have he:=i5 x i8 i6;have i3:=λ(w3:World) (s3:Sl)=>Qrw (w3:=w3) (s3:=s3) (p:=p) (q:=q) (x:=x) (es:=Qbq es k v) hm hH hb hs (by rw[i6,j3,j6];exact hv) (by rw[i8];exact hk)
 have j5:=λ(W:World) (hW:Ext w W)=>(hs.mono (G:=Lt w) λi hi=>hi.1).agree (hW.agree λ_ h=>h)
 have h0:w.cell? ⟨M,0,none⟩=some (.slice s.a xs.length s.c):=hb.cell 0;have lM:=hb.lt;have g5:=hb.frozen 0;have f6:=hY i3;have f7:=hY j5;have HE:=hY he;have f4:=hY (i4 x);have e0:=hY j0;have d7:=hY i9;have HQ:=hY hq;have k1:xs.length<=1000000:=by omega
 have j2:LE.cells x=[.string k,.int .i64 v.kind,.bool v.b,.int .i64 v.i,.string v.t,.slice sl.a v.l.length sl.c,.slice so.a v.ok.length so.c]:=by
  rw[LE.cells,i8,i6,j3,j6]
 have g4:=hY j2;have i2:∀W:World,Rd (W.alloc (.cells #[.string k,.int .i64 v.kind,.bool v.b,.int .i64 v.i,.string v.t,.slice sl.a v.l.length sl.c,.slice so.a v.ok.length so.c] 70)) (λb=>b=W.heap.size) 7 ⟨some ⟨W,0,none⟩,1⟩ 1 [.string k,.int .i64 v.kind,.bool v.b,.int .i64 v.i,.string v.t,.slice sl.a v.l.length sl.c,.slice so.a v.ok.length so.c]:=λW=>fH (fA W 70 #[.string k,.int .i64 v.kind,.bool v.b,.int .i64 v.i,.string v.t,.slice sl.a v.l.length sl.c,.slice so.a v.ok.length so.c]) (by decide) rfl
 have g8:∀u∈[Value.string k,.int .i64 v.kind,.bool v.b,.int .i64 v.i,.string v.t,.slice sl.a v.l.length sl.c,.slice so.a v.ok.length so.c],u.oneCell'=true:=by rw[<-j2];exact LE.one x
 have f5:=hY i2;have d5:=hY g8;clear i2 g8;have j8:=hs.rd;obtain⟨gs,os,j7,-,-⟩:=j8;clear i3 j5 he i5 i4 j0 i9 hq i7 hf g6 j4 hs hb j2 hv;generalize hn:xs.length=n at j7;cases j7 with
 | nil=>
   obtain rfl:p=0:=by omega
   obtain rfl:xs=[]:=ar hn;cases f with
   | true=>
     exfalso;have h1:0+1=q:=by have:=HQ.o;simpa using this
     simp at i1;omega
   | false=>
     obtain rfl:0=q:=by have:=HQ.o;simpa using this
     go_in;go_wp2_with fail;refine e0.o.mono ?_;rintro e w2 ⟨rfl,nq,rfl⟩;have N:=d7.o.drewN nq
     replace h0:=(N.cell lM).trans h0
     have R:=d6.ext ((fv _).drewN nq);obtain⟨c0,c1,c2,c3,c4,c5⟩:=R.c6;have l5:=R.lt;have I:M<(World.drewN (w.alloc (.cells #[.int .i64 v.kind,.bool v.b,.int .i64 v.i,.string v.t,.slice sl.a v.l.length sl.c,.slice so.a v.ok.length so.c] 28)) nq).heap.size:=ab lM N.size;generalize World.drewN _ nq=W2 at *;have e1:=N.size;have b3:Rd W2 (Lt w) 7 Sl.none 0 (Qai (([]:List LE).take 0)):=by have:=((f7.o W2 N).take d8).rd;rwa[ap,bx d8]at this
     have e7:=hY b3;have e6:=hY N;have c7:0<=maxLen:=by unfold maxLen;omega
     have b7:0*104<=140737488355328:=by omega
     have d3:0+1<=maxLen:=by unfold maxLen;omega
     have c8:(0+1)*104<=140737488355328:=by omega
     have b6:∀W,Ext w W->Rd W (Lt w) 7 Sl.none 0 []:=λW hW=>Rd.nil _ _ _
     have e3:=hY b6;have b4:0+1+0<=maxLen:=by unfold maxLen;omega
     have c9:(0+1+0)*104<=140737488355328:=by omega
     have g7:((0:Nat):Int)<=(([]:List LE).length:Int):=by omega
     have g9:(0:Int)<=(([]:List LE).length:Int):=by omega
     clear b3 N e0 d6 R d7 b6;go_wp2_with(first
      |(at_builtin;refine Qa3 rfl (.tmp 15) (.tmp 21) 22 rfl w.heap.size 70 i0 _ 7 104 underlying22 hi a6 a9 b0 rfl (by decide) rfl (Lt w) Sl.none 0 (Qai (([]:List LE).take 0)) rfl e7.o (QaM _) c7 b7 e1 ?_;intro s1 w3 D z;have c0:=(z.cell l5).trans c0;have c1:=(z.cell l5).trans c1;have c2:=(z.cell l5).trans c2;have c3:=(z.cell l5).trans c3;have c4:=(z.cell l5).trans c4;have c5:=(z.cell l5).trans c5;have h0:=(z.cell I).trans h0;have l5:=ab l5 z.size;have I:=ab I z.size;have b8:=hY D;have d0:=hY (e6.o.trans z);have e8:=d0.o.size;have b5:=hY (Qae (w':=w3.alloc (.cells #[.string k,.int .i64 v.kind,.bool v.b,.int .i64 v.i,.string v.t,.slice sl.a v.l.length sl.c,.slice so.a v.ok.length so.c] 70)) (s:=s1) D (F:=Lt w3) (((fv w3).alloc _ _).agree λ_ h=>h) λb hb=>(Qaa (s:=s1) D hb).2);clear D z)
      |(at_builtin;refine Qac _ rfl (.tmp 23) (.tmp 27) 22 rfl w.heap.size 70 i0 _ 7 104 underlying22 hi a6 a9 b0 rfl (by decide) s1 0 (Qai (([]:List LE).take 0)) rfl b5.o (λb=>b=w3.heap.size) ⟨some ⟨w3,0,none⟩,1⟩ 1 [.string k,.int .i64 v.kind,.bool v.b,.int .i64 v.i,.string v.t,.slice sl.a v.l.length sl.c,.slice so.a v.ok.length so.c] rfl (f5.o w3) d5.o d3 c8 (al e8 ((fv w3).alloc _ _).size) ?_;intro s2 w4 X Y e4;have a3:=((fv w3).alloc #[.string k,.int .i64 v.kind,.bool v.b,.int .i64 v.i,.string v.t,.slice sl.a v.l.length sl.c,.slice so.a v.ok.length so.c] 70);have a4:=Y.cell0 (o:=0) a3 (λe=>by have:=(Qaa (s:=s1) b8.o e).1;omega) I;have h0:=a4.1.trans h0;have I:=a4.2;have Z:=hY X;have a0:=hY ((d0.o.trans a3).wr Y (λi hi=>(Qaa (s:=s1) b8.o hi).1));have f3:=a0.o.size;clear X Y e4 a3 a4)
      |(at_builtin;refine Qac _ rfl (.tmp 33) (.tmp 39) 22 rfl w.heap.size 70 i0 _ 7 104 underlying22 hi a6 a9 b0 rfl (by decide) s2 (0+1) (Qai (([]:List LE).take 0)++[.string k,.int .i64 v.kind,.bool v.b,.int .i64 v.i,.string v.t,.slice sl.a v.l.length sl.c,.slice so.a v.ok.length so.c]) rfl Z.o (Lt w) Sl.none 0 [] rfl (e3.o w4 a0.o) (by simp) b4 c9 f3 ?_;intro s3 w5 U J e2;have a5:=J.cell0 (o:=0) (fv w4) (λe=>by have:=(Qaa (s:=s2) Z.o e).1;omega) I;have h0:=a5.1.trans h0;have I:=a5.2;have f0:=(a0.o.wr J (λi hi=>(Qaa (s:=s2) Z.o hi).1)).frozen (o:=0) lM;rw[g5]at f0;have f2:=hY U;have f1:=hY (a0.o.wr J (λi hi=>(Qaa (s:=s2) Z.o hi).1));clear U J e2 a5))
     have d4:Qai (Qbi ([]:List LE) 0 (0) x)=(Qai (([]:List LE).take 0)++[.string k,.int .i64 v.kind,.bool v.b,.int .i64 v.i,.string v.t,.slice sl.a v.l.length sl.c,.slice so.a v.ok.length so.c])++Qai (([]:List LE).drop (0)):=by rw[Qbi,QaA,QaA,show Qai [x]=LE.cells x from by simp[Qai],g4.o]
     have a1:(Qbi ([]:List LE) 0 (0) x).length=0+1+(([]:List LE).length -(0)):=f4.o;have g3:([]:List LE).length -(0)=0:=by omega
     have g0:([]:List LE).drop (0)=[]:=bu.2 (by omega);rw[g3]at a1;rw[g0]at d4;have a2:=f6.o w5 s3 f1.o (by rw[a1,d4];exact f2.o) (by rw[a1];omega) HE.o;rw[a1]at a2;go_end0;exact⟨⟨_,rfl⟩,a2⟩
 | zero ad=>
   obtain rfl:p=0:=by omega
   obtain rfl:xs=[]:=ar hn;cases f with
   | true=>
     exfalso;have h1:0+1=q:=by have:=HQ.o;simpa using this
     simp at i1;omega
   | false=>
     obtain rfl:0=q:=by have:=HQ.o;simpa using this
     go_in;go_wp2_with fail;refine e0.o.mono ?_;rintro e w2 ⟨rfl,nq,rfl⟩;have N:=d7.o.drewN nq
     replace h0:=(N.cell lM).trans h0
     have R:=d6.ext ((fv _).drewN nq);obtain⟨c0,c1,c2,c3,c4,c5⟩:=R.c6;have l5:=R.lt;have I:M<(World.drewN (w.alloc (.cells #[.int .i64 v.kind,.bool v.b,.int .i64 v.i,.string v.t,.slice sl.a v.l.length sl.c,.slice so.a v.ok.length so.c] 28)) nq).heap.size:=ab lM N.size;generalize World.drewN _ nq=W2 at *;have e1:=N.size;have b3:Rd W2 (Lt w) 7 ⟨some ad,0⟩ 0 (Qai (([]:List LE).take 0)):=by have:=((f7.o W2 N).take d8).rd;rwa[ap,bx d8]at this
     have e7:=hY b3;have e6:=hY N;have c7:0<=maxLen:=by unfold maxLen;omega
     have b7:0*104<=140737488355328:=by omega
     have d3:0+1<=maxLen:=by unfold maxLen;omega
     have c8:(0+1)*104<=140737488355328:=by omega
     have b6:∀W,Ext w W->Rd W (Lt w) 7 ⟨some ad,0⟩ 0 []:=λW hW=>⟨0,0,.zero _ _ _,rfl,λj u hj=>by simp at hj⟩
     have e3:=hY b6;have b4:0+1+0<=maxLen:=by unfold maxLen;omega
     have c9:(0+1+0)*104<=140737488355328:=by omega
     have g7:((0:Nat):Int)<=(([]:List LE).length:Int):=by omega
     have g9:(0:Int)<=(([]:List LE).length:Int):=by omega
     clear b3 N e0 d6 R d7 b6;go_wp2_with(first
      |(at_builtin;refine Qa3 rfl (.tmp 15) (.tmp 21) 22 rfl w.heap.size 70 i0 _ 7 104 underlying22 hi a6 a9 b0 rfl (by decide) rfl (Lt w) ⟨some ad,0⟩ 0 (Qai (([]:List LE).take 0)) rfl e7.o (QaM _) c7 b7 e1 ?_;intro s1 w3 D z;have c0:=(z.cell l5).trans c0;have c1:=(z.cell l5).trans c1;have c2:=(z.cell l5).trans c2;have c3:=(z.cell l5).trans c3;have c4:=(z.cell l5).trans c4;have c5:=(z.cell l5).trans c5;have h0:=(z.cell I).trans h0;have l5:=ab l5 z.size;have I:=ab I z.size;have b8:=hY D;have d0:=hY (e6.o.trans z);have e8:=d0.o.size;have b5:=hY (Qae (w':=w3.alloc (.cells #[.string k,.int .i64 v.kind,.bool v.b,.int .i64 v.i,.string v.t,.slice sl.a v.l.length sl.c,.slice so.a v.ok.length so.c] 70)) (s:=s1) D (F:=Lt w3) (((fv w3).alloc _ _).agree λ_ h=>h) λb hb=>(Qaa (s:=s1) D hb).2);clear D z)
      |(at_builtin;refine Qac _ rfl (.tmp 23) (.tmp 27) 22 rfl w.heap.size 70 i0 _ 7 104 underlying22 hi a6 a9 b0 rfl (by decide) s1 0 (Qai (([]:List LE).take 0)) rfl b5.o (λb=>b=w3.heap.size) ⟨some ⟨w3,0,none⟩,1⟩ 1 [.string k,.int .i64 v.kind,.bool v.b,.int .i64 v.i,.string v.t,.slice sl.a v.l.length sl.c,.slice so.a v.ok.length so.c] rfl (f5.o w3) d5.o d3 c8 (al e8 ((fv w3).alloc _ _).size) ?_;intro s2 w4 X Y e4;have a3:=((fv w3).alloc #[.string k,.int .i64 v.kind,.bool v.b,.int .i64 v.i,.string v.t,.slice sl.a v.l.length sl.c,.slice so.a v.ok.length so.c] 70);have a4:=Y.cell0 (o:=0) a3 (λe=>by have:=(Qaa (s:=s1) b8.o e).1;omega) I;have h0:=a4.1.trans h0;have I:=a4.2;have Z:=hY X;have a0:=hY ((d0.o.trans a3).wr Y (λi hi=>(Qaa (s:=s1) b8.o hi).1));have f3:=a0.o.size;clear X Y e4 a3 a4)
      |(at_builtin;refine Qac _ rfl (.tmp 33) (.tmp 39) 22 rfl w.heap.size 70 i0 _ 7 104 underlying22 hi a6 a9 b0 rfl (by decide) s2 (0+1) (Qai (([]:List LE).take 0)++[.string k,.int .i64 v.kind,.bool v.b,.int .i64 v.i,.string v.t,.slice sl.a v.l.length sl.c,.slice so.a v.ok.length so.c]) rfl Z.o (Lt w) ⟨some ad,0⟩ 0 [] rfl (e3.o w4 a0.o) (by simp) b4 c9 f3 ?_;intro s3 w5 U J e2;have a5:=J.cell0 (o:=0) (fv w4) (λe=>by have:=(Qaa (s:=s2) Z.o e).1;omega) I;have h0:=a5.1.trans h0;have I:=a5.2;have f0:=(a0.o.wr J (λi hi=>(Qaa (s:=s2) Z.o hi).1)).frozen (o:=0) lM;rw[g5]at f0;have f2:=hY U;have f1:=hY (a0.o.wr J (λi hi=>(Qaa (s:=s2) Z.o hi).1));clear U J e2 a5))
     have d4:Qai (Qbi ([]:List LE) 0 (0) x)=(Qai (([]:List LE).take 0)++[.string k,.int .i64 v.kind,.bool v.b,.int .i64 v.i,.string v.t,.slice sl.a v.l.length sl.c,.slice so.a v.ok.length so.c])++Qai (([]:List LE).drop (0)):=by rw[Qbi,QaA,QaA,show Qai [x]=LE.cells x from by simp[Qai],g4.o]
     have a1:(Qbi ([]:List LE) 0 (0) x).length=0+1+(([]:List LE).length -(0)):=f4.o;have g3:([]:List LE).length -(0)=0:=by omega
     have g0:([]:List LE).drop (0)=[]:=bu.2 (by omega);rw[g3]at a1;rw[g0]at d4;have a2:=f6.o w5 s3 f1.o (by rw[a1,d4];exact f2.o) (by rw[a1];omega) HE.o;rw[a1]at a2;go_end0;exact⟨⟨_,rfl⟩,a2⟩
 | some _ sc _ _ hsc hscm hsF=>
   subst hn;cases f with
   | true=>
     obtain rfl:p+1=q:=by have:=HQ.o;simpa using this
     by_cases f8:sc=p+1
     ·have f9:=f8.symm
      subst f9;go_in;go_wp2_with fail;refine e0.o.mono ?_;rintro e w2 ⟨rfl,nq,rfl⟩;have N:=d7.o.drewN nq
      replace h0:=(N.cell lM).trans h0
      have R:=d6.ext ((fv _).drewN nq);obtain⟨c0,c1,c2,c3,c4,c5⟩:=R.c6;have l5:=R.lt;have I:M<(World.drewN (w.alloc (.cells #[.int .i64 v.kind,.bool v.b,.int .i64 v.i,.string v.t,.slice sl.a v.l.length sl.c,.slice so.a v.ok.length so.c] 28)) nq).heap.size:=ab lM N.size;generalize World.drewN _ nq=W2 at *;have e1:=N.size;have b3:Rd W2 (Lt w) 7 ⟨some ⟨gs,os,none⟩,p+1⟩ p (Qai (xs.take p)):=by have:=((f7.o W2 N).take d8).rd;rwa[ap,bx d8]at this
      have e7:=hY b3;have e6:=hY N;have c7:p<=maxLen:=by unfold maxLen;omega
      have b7:p*104<=140737488355328:=by omega
      have d3:p+1<=maxLen:=by unfold maxLen;omega
      have c8:(p+1)*104<=140737488355328:=by omega
      have b6:∀W,Ext w W->Rd W (Lt w) 7 ⟨some ⟨gs,os,none⟩,0⟩ 0 []:=λW hW=>⟨gs,os,.some _ _ _ _ (aw _) (aw _) hsF.1,rfl,λj u hj=>by simp at hj⟩
      have e3:=hY b6;have b4:p+1+0<=maxLen:=by unfold maxLen;omega
      have c9:(p+1+0)*104<=140737488355328:=by omega
      have g7:((p+1:Nat):Int)<=(xs.length:Int):=by omega
      have g9:(p:Int)<=(xs.length:Int):=by omega
      clear b3 N e0 d6 R d7 b6;go_wp2_with(first
       |(at_builtin;refine Qa3 rfl (.tmp 15) (.tmp 21) 22 rfl w.heap.size 70 i0 _ 7 104 underlying22 hi a6 a9 b0 rfl (by decide) rfl (Lt w) ⟨some ⟨gs,os,none⟩,p+1⟩ p (Qai (xs.take p)) rfl e7.o (QaM _) c7 b7 e1 ?_;intro s1 w3 D z;have c0:=(z.cell l5).trans c0;have c1:=(z.cell l5).trans c1;have c2:=(z.cell l5).trans c2;have c3:=(z.cell l5).trans c3;have c4:=(z.cell l5).trans c4;have c5:=(z.cell l5).trans c5;have h0:=(z.cell I).trans h0;have l5:=ab l5 z.size;have I:=ab I z.size;have b8:=hY D;have d0:=hY (e6.o.trans z);have e8:=d0.o.size;have b5:=hY (Qae (w':=w3.alloc (.cells #[.string k,.int .i64 v.kind,.bool v.b,.int .i64 v.i,.string v.t,.slice sl.a v.l.length sl.c,.slice so.a v.ok.length so.c] 70)) (s:=s1) D (F:=Lt w3) (((fv w3).alloc _ _).agree λ_ h=>h) λb hb=>(Qaa (s:=s1) D hb).2);clear D z)
       |(at_builtin;refine Qac _ rfl (.tmp 23) (.tmp 27) 22 rfl w.heap.size 70 i0 _ 7 104 underlying22 hi a6 a9 b0 rfl (by decide) s1 p (Qai (xs.take p)) rfl b5.o (λb=>b=w3.heap.size) ⟨some ⟨w3,0,none⟩,1⟩ 1 [.string k,.int .i64 v.kind,.bool v.b,.int .i64 v.i,.string v.t,.slice sl.a v.l.length sl.c,.slice so.a v.ok.length so.c] rfl (f5.o w3) d5.o d3 c8 (al e8 ((fv w3).alloc _ _).size) ?_;intro s2 w4 X Y e4;have a3:=((fv w3).alloc #[.string k,.int .i64 v.kind,.bool v.b,.int .i64 v.i,.string v.t,.slice sl.a v.l.length sl.c,.slice so.a v.ok.length so.c] 70);have a4:=Y.cell0 (o:=0) a3 (λe=>by have:=(Qaa (s:=s1) b8.o e).1;omega) I;have h0:=a4.1.trans h0;have I:=a4.2;have Z:=hY X;have a0:=hY ((d0.o.trans a3).wr Y (λi hi=>(Qaa (s:=s1) b8.o hi).1));have f3:=a0.o.size;clear X Y e4 a3 a4)
       |(at_builtin;refine Qac _ rfl (.tmp 33) (.tmp 39) 22 rfl w.heap.size 70 i0 _ 7 104 underlying22 hi a6 a9 b0 rfl (by decide) s2 (p+1) (Qai (xs.take p)++[.string k,.int .i64 v.kind,.bool v.b,.int .i64 v.i,.string v.t,.slice sl.a v.l.length sl.c,.slice so.a v.ok.length so.c]) rfl Z.o (Lt w) ⟨some ⟨gs,os,none⟩,0⟩ 0 [] rfl (e3.o w4 a0.o) (by simp) b4 c9 f3 ?_;intro s3 w5 U J e2;have a5:=J.cell0 (o:=0) (fv w4) (λe=>by have:=(Qaa (s:=s2) Z.o e).1;omega) I;have h0:=a5.1.trans h0;have I:=a5.2;have f0:=(a0.o.wr J (λi hi=>(Qaa (s:=s2) Z.o hi).1)).frozen (o:=0) lM;rw[g5]at f0;have f2:=hY U;have f1:=hY (a0.o.wr J (λi hi=>(Qaa (s:=s2) Z.o hi).1));clear U J e2 a5))
      have d4:Qai (Qbi xs p (p+1) x)=(Qai (xs.take p)++[.string k,.int .i64 v.kind,.bool v.b,.int .i64 v.i,.string v.t,.slice sl.a v.l.length sl.c,.slice so.a v.ok.length so.c])++Qai (xs.drop (p+1)):=by rw[Qbi,QaA,QaA,show Qai [x]=LE.cells x from by simp[Qai],g4.o]
      have a1:(Qbi xs p (p+1) x).length=p+1+(xs.length -(p+1)):=f4.o;have g3:xs.length -(p+1)=0:=by omega
      have g0:xs.drop (p+1)=[]:=bu.2 (by omega);rw[g3]at a1;rw[g0]at d4;have a2:=f6.o w5 s3 f1.o (by rw[a1,d4];exact f2.o) (by rw[a1];omega) HE.o;rw[a1]at a2;go_end0;exact⟨⟨_,rfl⟩,a2⟩
     have j1:¬p+1=sc:=λe=>f8 e.symm
     go_in;go_wp2_with fail;refine e0.o.mono ?_;rintro e w2 ⟨rfl,nq,rfl⟩;have N:=d7.o.drewN nq
     replace h0:=(N.cell lM).trans h0
     have R:=d6.ext ((fv _).drewN nq);obtain⟨c0,c1,c2,c3,c4,c5⟩:=R.c6;have l5:=R.lt;have I:M<(World.drewN (w.alloc (.cells #[.int .i64 v.kind,.bool v.b,.int .i64 v.i,.string v.t,.slice sl.a v.l.length sl.c,.slice so.a v.ok.length so.c] 28)) nq).heap.size:=ab lM N.size;generalize World.drewN _ nq=W2 at *;have e1:=N.size;have b3:Rd W2 (Lt w) 7 ⟨some ⟨gs,os,none⟩,sc⟩ p (Qai (xs.take p)):=by have:=((f7.o W2 N).take d8).rd;rwa[ap,bx d8]at this
     have e7:=hY b3;have e6:=hY N;have c7:p<=maxLen:=by unfold maxLen;omega
     have b7:p*104<=140737488355328:=by omega
     have d3:p+1<=maxLen:=by unfold maxLen;omega
     have c8:(p+1)*104<=140737488355328:=by omega
     have b6:∀W,Ext w W->Rd W (Lt w) 7 ⟨some ⟨gs,os+(p+1)*7,none⟩,sc -(p+1)⟩ (xs.length -(p+1)) (Qai (xs.drop (p+1))):=λW hW=>by have:=((f7.o W hW).drop i1).rd;rwa[au]at this
     have e3:=hY b6;have b4:p+1+(xs.length -(p+1))<=maxLen:=by unfold maxLen;omega
     have c9:(p+1+(xs.length -(p+1)))*104<=140737488355328:=by omega
     have g7:((p+1:Nat):Int)<=(xs.length:Int):=by omega
     have g9:(p:Int)<=(xs.length:Int):=by omega
     clear b3 N e0 d6 R d7 b6;go_wp2_with(first
      |(at_builtin;refine Qa3 rfl (.tmp 15) (.tmp 21) 22 rfl w.heap.size 70 i0 _ 7 104 underlying22 hi a6 a9 b0 rfl (by decide) rfl (Lt w) ⟨some ⟨gs,os,none⟩,sc⟩ p (Qai (xs.take p)) rfl e7.o (QaM _) c7 b7 e1 ?_;intro s1 w3 D z;have c0:=(z.cell l5).trans c0;have c1:=(z.cell l5).trans c1;have c2:=(z.cell l5).trans c2;have c3:=(z.cell l5).trans c3;have c4:=(z.cell l5).trans c4;have c5:=(z.cell l5).trans c5;have h0:=(z.cell I).trans h0;have l5:=ab l5 z.size;have I:=ab I z.size;have b8:=hY D;have d0:=hY (e6.o.trans z);have e8:=d0.o.size;have b5:=hY (Qae (w':=w3.alloc (.cells #[.string k,.int .i64 v.kind,.bool v.b,.int .i64 v.i,.string v.t,.slice sl.a v.l.length sl.c,.slice so.a v.ok.length so.c] 70)) (s:=s1) D (F:=Lt w3) (((fv w3).alloc _ _).agree λ_ h=>h) λb hb=>(Qaa (s:=s1) D hb).2);clear D z)
      |(at_builtin;refine Qac _ rfl (.tmp 23) (.tmp 27) 22 rfl w.heap.size 70 i0 _ 7 104 underlying22 hi a6 a9 b0 rfl (by decide) s1 p (Qai (xs.take p)) rfl b5.o (λb=>b=w3.heap.size) ⟨some ⟨w3,0,none⟩,1⟩ 1 [.string k,.int .i64 v.kind,.bool v.b,.int .i64 v.i,.string v.t,.slice sl.a v.l.length sl.c,.slice so.a v.ok.length so.c] rfl (f5.o w3) d5.o d3 c8 (al e8 ((fv w3).alloc _ _).size) ?_;intro s2 w4 X Y e4;have a3:=((fv w3).alloc #[.string k,.int .i64 v.kind,.bool v.b,.int .i64 v.i,.string v.t,.slice sl.a v.l.length sl.c,.slice so.a v.ok.length so.c] 70);have a4:=Y.cell0 (o:=0) a3 (λe=>by have:=(Qaa (s:=s1) b8.o e).1;omega) I;have h0:=a4.1.trans h0;have I:=a4.2;have Z:=hY X;have a0:=hY ((d0.o.trans a3).wr Y (λi hi=>(Qaa (s:=s1) b8.o hi).1));have f3:=a0.o.size;clear X Y e4 a3 a4)
      |(at_builtin;refine Qac _ rfl (.tmp 33) (.tmp 39) 22 rfl w.heap.size 70 i0 _ 7 104 underlying22 hi a6 a9 b0 rfl (by decide) s2 (p+1) (Qai (xs.take p)++[.string k,.int .i64 v.kind,.bool v.b,.int .i64 v.i,.string v.t,.slice sl.a v.l.length sl.c,.slice so.a v.ok.length so.c]) rfl Z.o (Lt w) ⟨some ⟨gs,os+(p+1)*7,none⟩,sc -(p+1)⟩ (xs.length -(p+1)) (Qai (xs.drop (p+1))) rfl (e3.o w4 a0.o) (QaM _) b4 c9 f3 ?_;intro s3 w5 U J e2;have a5:=J.cell0 (o:=0) (fv w4) (λe=>by have:=(Qaa (s:=s2) Z.o e).1;omega) I;have h0:=a5.1.trans h0;have I:=a5.2;have f0:=(a0.o.wr J (λi hi=>(Qaa (s:=s2) Z.o hi).1)).frozen (o:=0) lM;rw[g5]at f0;have f2:=hY U;have f1:=hY (a0.o.wr J (λi hi=>(Qaa (s:=s2) Z.o hi).1));clear U J e2 a5))
     have d4:Qai (Qbi xs p (p+1) x)=(Qai (xs.take p)++[.string k,.int .i64 v.kind,.bool v.b,.int .i64 v.i,.string v.t,.slice sl.a v.l.length sl.c,.slice so.a v.ok.length so.c])++Qai (xs.drop (p+1)):=by rw[Qbi,QaA,QaA,show Qai [x]=LE.cells x from by simp[Qai],g4.o]
     have a1:(Qbi xs p (p+1) x).length=p+1+(xs.length -(p+1)):=f4.o;have a2:=f6.o w5 s3 f1.o (by rw[a1,d4];exact f2.o) (by rw[a1];omega) HE.o;rw[a1,show p+1+(xs.length -(p+1))=xs.length from by omega]at a2;go_end0;exact⟨⟨_,rfl⟩,a2⟩
   | false=>
     obtain rfl:p=q:=by have:=HQ.o;simpa using this
     by_cases f8:sc=p
     ·have f9:=f8.symm
      subst f9;go_in;go_wp2_with fail;refine e0.o.mono ?_;rintro e w2 ⟨rfl,nq,rfl⟩;have N:=d7.o.drewN nq
      replace h0:=(N.cell lM).trans h0
      have R:=d6.ext ((fv _).drewN nq);obtain⟨c0,c1,c2,c3,c4,c5⟩:=R.c6;have l5:=R.lt;have I:M<(World.drewN (w.alloc (.cells #[.int .i64 v.kind,.bool v.b,.int .i64 v.i,.string v.t,.slice sl.a v.l.length sl.c,.slice so.a v.ok.length so.c] 28)) nq).heap.size:=ab lM N.size;generalize World.drewN _ nq=W2 at *;have e1:=N.size;have b3:Rd W2 (Lt w) 7 ⟨some ⟨gs,os,none⟩,p⟩ p (Qai (xs.take p)):=by have:=((f7.o W2 N).take d8).rd;rwa[ap,bx d8]at this
      have e7:=hY b3;have e6:=hY N;have c7:p<=maxLen:=by unfold maxLen;omega
      have b7:p*104<=140737488355328:=by omega
      have d3:p+1<=maxLen:=by unfold maxLen;omega
      have c8:(p+1)*104<=140737488355328:=by omega
      have b6:∀W,Ext w W->Rd W (Lt w) 7 ⟨some ⟨gs,os,none⟩,0⟩ 0 []:=λW hW=>⟨gs,os,.some _ _ _ _ (aw _) (aw _) hsF.1,rfl,λj u hj=>by simp at hj⟩
      have e3:=hY b6;have b4:p+1+0<=maxLen:=by unfold maxLen;omega
      have c9:(p+1+0)*104<=140737488355328:=by omega
      have g7:((p:Nat):Int)<=(xs.length:Int):=by omega
      have g9:(p:Int)<=(xs.length:Int):=by omega
      clear b3 N e0 d6 R d7 b6;go_wp2_with(first
       |(at_builtin;refine Qa3 rfl (.tmp 15) (.tmp 21) 22 rfl w.heap.size 70 i0 _ 7 104 underlying22 hi a6 a9 b0 rfl (by decide) rfl (Lt w) ⟨some ⟨gs,os,none⟩,p⟩ p (Qai (xs.take p)) rfl e7.o (QaM _) c7 b7 e1 ?_;intro s1 w3 D z;have c0:=(z.cell l5).trans c0;have c1:=(z.cell l5).trans c1;have c2:=(z.cell l5).trans c2;have c3:=(z.cell l5).trans c3;have c4:=(z.cell l5).trans c4;have c5:=(z.cell l5).trans c5;have h0:=(z.cell I).trans h0;have l5:=ab l5 z.size;have I:=ab I z.size;have b8:=hY D;have d0:=hY (e6.o.trans z);have e8:=d0.o.size;have b5:=hY (Qae (w':=w3.alloc (.cells #[.string k,.int .i64 v.kind,.bool v.b,.int .i64 v.i,.string v.t,.slice sl.a v.l.length sl.c,.slice so.a v.ok.length so.c] 70)) (s:=s1) D (F:=Lt w3) (((fv w3).alloc _ _).agree λ_ h=>h) λb hb=>(Qaa (s:=s1) D hb).2);clear D z)
       |(at_builtin;refine Qac _ rfl (.tmp 23) (.tmp 27) 22 rfl w.heap.size 70 i0 _ 7 104 underlying22 hi a6 a9 b0 rfl (by decide) s1 p (Qai (xs.take p)) rfl b5.o (λb=>b=w3.heap.size) ⟨some ⟨w3,0,none⟩,1⟩ 1 [.string k,.int .i64 v.kind,.bool v.b,.int .i64 v.i,.string v.t,.slice sl.a v.l.length sl.c,.slice so.a v.ok.length so.c] rfl (f5.o w3) d5.o d3 c8 (al e8 ((fv w3).alloc _ _).size) ?_;intro s2 w4 X Y e4;have a3:=((fv w3).alloc #[.string k,.int .i64 v.kind,.bool v.b,.int .i64 v.i,.string v.t,.slice sl.a v.l.length sl.c,.slice so.a v.ok.length so.c] 70);have a4:=Y.cell0 (o:=0) a3 (λe=>by have:=(Qaa (s:=s1) b8.o e).1;omega) I;have h0:=a4.1.trans h0;have I:=a4.2;have Z:=hY X;have a0:=hY ((d0.o.trans a3).wr Y (λi hi=>(Qaa (s:=s1) b8.o hi).1));have f3:=a0.o.size;clear X Y e4 a3 a4)
       |(at_builtin;refine Qac _ rfl (.tmp 33) (.tmp 39) 22 rfl w.heap.size 70 i0 _ 7 104 underlying22 hi a6 a9 b0 rfl (by decide) s2 (p+1) (Qai (xs.take p)++[.string k,.int .i64 v.kind,.bool v.b,.int .i64 v.i,.string v.t,.slice sl.a v.l.length sl.c,.slice so.a v.ok.length so.c]) rfl Z.o (Lt w) ⟨some ⟨gs,os,none⟩,0⟩ 0 [] rfl (e3.o w4 a0.o) (by simp) b4 c9 f3 ?_;intro s3 w5 U J e2;have a5:=J.cell0 (o:=0) (fv w4) (λe=>by have:=(Qaa (s:=s2) Z.o e).1;omega) I;have h0:=a5.1.trans h0;have I:=a5.2;have f0:=(a0.o.wr J (λi hi=>(Qaa (s:=s2) Z.o hi).1)).frozen (o:=0) lM;rw[g5]at f0;have f2:=hY U;have f1:=hY (a0.o.wr J (λi hi=>(Qaa (s:=s2) Z.o hi).1));clear U J e2 a5))
      have d4:Qai (Qbi xs p (p) x)=(Qai (xs.take p)++[.string k,.int .i64 v.kind,.bool v.b,.int .i64 v.i,.string v.t,.slice sl.a v.l.length sl.c,.slice so.a v.ok.length so.c])++Qai (xs.drop (p)):=by rw[Qbi,QaA,QaA,show Qai [x]=LE.cells x from by simp[Qai],g4.o]
      have a1:(Qbi xs p (p) x).length=p+1+(xs.length -(p)):=f4.o;have g3:xs.length -(p)=0:=by omega
      have g0:xs.drop (p)=[]:=bu.2 (by omega);rw[g3]at a1;rw[g0]at d4;have a2:=f6.o w5 s3 f1.o (by rw[a1,d4];exact f2.o) (by rw[a1];omega) HE.o;rw[a1]at a2;go_end0;exact⟨⟨_,rfl⟩,a2⟩
     have j1:¬p=sc:=λe=>f8 e.symm
     go_in;go_wp2_with fail;refine e0.o.mono ?_;rintro e w2 ⟨rfl,nq,rfl⟩;have N:=d7.o.drewN nq
     replace h0:=(N.cell lM).trans h0
     have R:=d6.ext ((fv _).drewN nq);obtain⟨c0,c1,c2,c3,c4,c5⟩:=R.c6;have l5:=R.lt;have I:M<(World.drewN (w.alloc (.cells #[.int .i64 v.kind,.bool v.b,.int .i64 v.i,.string v.t,.slice sl.a v.l.length sl.c,.slice so.a v.ok.length so.c] 28)) nq).heap.size:=ab lM N.size;generalize World.drewN _ nq=W2 at *;have e1:=N.size;have b3:Rd W2 (Lt w) 7 ⟨some ⟨gs,os,none⟩,sc⟩ p (Qai (xs.take p)):=by have:=((f7.o W2 N).take d8).rd;rwa[ap,bx d8]at this
     have e7:=hY b3;have e6:=hY N;have c7:p<=maxLen:=by unfold maxLen;omega
     have b7:p*104<=140737488355328:=by omega
     have d3:p+1<=maxLen:=by unfold maxLen;omega
     have c8:(p+1)*104<=140737488355328:=by omega
     have b6:∀W,Ext w W->Rd W (Lt w) 7 ⟨some ⟨gs,os+(p)*7,none⟩,sc -(p)⟩ (xs.length -(p)) (Qai (xs.drop (p))):=λW hW=>by have:=((f7.o W hW).drop i1).rd;rwa[au]at this
     have e3:=hY b6;have b4:p+1+(xs.length -(p))<=maxLen:=by unfold maxLen;omega
     have c9:(p+1+(xs.length -(p)))*104<=140737488355328:=by omega
     have g7:((p:Nat):Int)<=(xs.length:Int):=by omega
     have g9:(p:Int)<=(xs.length:Int):=by omega
     clear b3 N e0 d6 R d7 b6;go_wp2_with(first
      |(at_builtin;refine Qa3 rfl (.tmp 15) (.tmp 21) 22 rfl w.heap.size 70 i0 _ 7 104 underlying22 hi a6 a9 b0 rfl (by decide) rfl (Lt w) ⟨some ⟨gs,os,none⟩,sc⟩ p (Qai (xs.take p)) rfl e7.o (QaM _) c7 b7 e1 ?_;intro s1 w3 D z;have c0:=(z.cell l5).trans c0;have c1:=(z.cell l5).trans c1;have c2:=(z.cell l5).trans c2;have c3:=(z.cell l5).trans c3;have c4:=(z.cell l5).trans c4;have c5:=(z.cell l5).trans c5;have h0:=(z.cell I).trans h0;have l5:=ab l5 z.size;have I:=ab I z.size;have b8:=hY D;have d0:=hY (e6.o.trans z);have e8:=d0.o.size;have b5:=hY (Qae (w':=w3.alloc (.cells #[.string k,.int .i64 v.kind,.bool v.b,.int .i64 v.i,.string v.t,.slice sl.a v.l.length sl.c,.slice so.a v.ok.length so.c] 70)) (s:=s1) D (F:=Lt w3) (((fv w3).alloc _ _).agree λ_ h=>h) λb hb=>(Qaa (s:=s1) D hb).2);clear D z)
      |(at_builtin;refine Qac _ rfl (.tmp 23) (.tmp 27) 22 rfl w.heap.size 70 i0 _ 7 104 underlying22 hi a6 a9 b0 rfl (by decide) s1 p (Qai (xs.take p)) rfl b5.o (λb=>b=w3.heap.size) ⟨some ⟨w3,0,none⟩,1⟩ 1 [.string k,.int .i64 v.kind,.bool v.b,.int .i64 v.i,.string v.t,.slice sl.a v.l.length sl.c,.slice so.a v.ok.length so.c] rfl (f5.o w3) d5.o d3 c8 (al e8 ((fv w3).alloc _ _).size) ?_;intro s2 w4 X Y e4;have a3:=((fv w3).alloc #[.string k,.int .i64 v.kind,.bool v.b,.int .i64 v.i,.string v.t,.slice sl.a v.l.length sl.c,.slice so.a v.ok.length so.c] 70);have a4:=Y.cell0 (o:=0) a3 (λe=>by have:=(Qaa (s:=s1) b8.o e).1;omega) I;have h0:=a4.1.trans h0;have I:=a4.2;have Z:=hY X;have a0:=hY ((d0.o.trans a3).wr Y (λi hi=>(Qaa (s:=s1) b8.o hi).1));have f3:=a0.o.size;clear X Y e4 a3 a4)
      |(at_builtin;refine Qac _ rfl (.tmp 33) (.tmp 39) 22 rfl w.heap.size 70 i0 _ 7 104 underlying22 hi a6 a9 b0 rfl (by decide) s2 (p+1) (Qai (xs.take p)++[.string k,.int .i64 v.kind,.bool v.b,.int .i64 v.i,.string v.t,.slice sl.a v.l.length sl.c,.slice so.a v.ok.length so.c]) rfl Z.o (Lt w) ⟨some ⟨gs,os+(p)*7,none⟩,sc -(p)⟩ (xs.length -(p)) (Qai (xs.drop (p))) rfl (e3.o w4 a0.o) (QaM _) b4 c9 f3 ?_;intro s3 w5 U J e2;have a5:=J.cell0 (o:=0) (fv w4) (λe=>by have:=(Qaa (s:=s2) Z.o e).1;omega) I;have h0:=a5.1.trans h0;have I:=a5.2;have f0:=(a0.o.wr J (λi hi=>(Qaa (s:=s2) Z.o hi).1)).frozen (o:=0) lM;rw[g5]at f0;have f2:=hY U;have f1:=hY (a0.o.wr J (λi hi=>(Qaa (s:=s2) Z.o hi).1));clear U J e2 a5))
     have d4:Qai (Qbi xs p (p) x)=(Qai (xs.take p)++[.string k,.int .i64 v.kind,.bool v.b,.int .i64 v.i,.string v.t,.slice sl.a v.l.length sl.c,.slice so.a v.ok.length so.c])++Qai (xs.drop (p)):=by rw[Qbi,QaA,QaA,show Qai [x]=LE.cells x from by simp[Qai],g4.o]
     have a1:(Qbi xs p (p) x).length=p+1+(xs.length -(p)):=f4.o;have a2:=f6.o w5 s3 f1.o (by rw[a1,d4];exact f2.o) (by rw[a1];omega) HE.o;rw[a1]at a2;go_end0;exact⟨⟨_,rfl⟩,a2⟩
abbrev fp:=@bne_eq_false_iff_eq
theorem QgX(w:World)(a b:Int):Calls prog 92 #[.int .i64 a,.int .i64 b] w λe w'=>e=.returned (.int .i64 (Qcp a b))/\w=w':=by
 by_cases h:a<b
 ·have z:Qcp a b = -1:=by simp [Qcp,h]
  rw[z];go_in;go_wp2_with fail;go_ret;exact⟨rfl,rfl⟩
 by_cases D:b<a
 ·have z:Qcp a b=1:=by simp [Qcp,h,D]
  rw[z];go_in;go_wp2_with fail;go_ret;exact⟨rfl,rfl⟩
 have z:Qcp a b=0:=by simp[Qcp,h,D]
 rw[z];go_in;go_wp2_with fail;go_ret;exact⟨rfl,rfl⟩
theorem Qh8(p x y:List UInt8):Op.bytesLess (p++x) (p++y)=Op.bytesLess x y:=by
 induction p with
 |nil=>rfl
 |cons a p ih=>simp[Op.bytesLess,ih]
theorem Qf9{a:ByteArray}{i:Nat}(h:i<a.size):a.toList[i]? = some a[i]:=by
 rw[eB];obtain⟨d⟩:=a;have h:i<d.size:=h;show d.toList[i]? = some d[i];simp[h]
theorem Qh0(a:ByteArray):a.toList.length=a.size:=by
 rw[eB];rfl
theorem QnH{a b:ByteArray}{i:Nat}(ha:i<a.size)(Y:i<b.size)(U:a.toList.take i=b.toList.take i)(I:a[i]≠b[i]):Qbn a b=Qcp (a[i].toNat:Int) (b[i].toNat:Int):=by
 have N:a.toList=a.toList.take i++a[i]::a.toList.drop (i+1):=by
  have h:=Qf9 ha;obtain⟨h1,h2⟩:=ah.1 h
  conv=>lhs;rw[<-aX i a.toList,aE h1,h2]
 have R:b.toList=a.toList.take i++b[i]::b.toList.drop (i+1):=by
  have h:=Qf9 Y;obtain⟨h1,h2⟩:=ah.1 h
  conv=>lhs;rw[<-aX i b.toList,aE h1,h2]
  rw[U]
 unfold Qbn klt;generalize a[i]=x at *;generalize b[i]=y at *;have J:∀(P u v A B:List UInt8),A=P++x::u->B=P++y::v->Op.bytesLess A B=decide (x<y)/\Op.bytesLess B A=decide (y<x):=by
  rintro P u v A B rfl rfl;have D:¬x=y:=I;have z:¬y=x:=λh=>I h.symm
  rw[Qh8,Qh8];exact⟨by simp[Op.bytesLess,D],by simp[Op.bytesLess,z]⟩
 obtain⟨Z,X⟩:=J _ _ _ _ _ N R;rw[Z,X];unfold Qcp;have h1:(x<y)↔((x.toNat:Int)<(y.toNat:Int)):=by rw[UInt8.lt_iff_toNat_lt];omega
 have h2:(y<x)↔((y.toNat:Int)<(x.toNat:Int)):=by rw[UInt8.lt_iff_toNat_lt];omega
 simp only[decide_eq_true_eq,h1,h2]
theorem Qj8{a b:ByteArray}(z:a.toList.take (min a.size b.size)=b.toList.take (min a.size b.size)):Qbn a b=Qcp (a.size:Int) (b.size:Int):=by
 have I:=Qh0 a;have D:=Qh0 b;rcases Nat.lt_trichotomy a.size b.size with h|h|h
 ·have e:b.toList=a.toList++b.toList.drop a.size:=by
   rw[bx (b9 h),<-I,aM,I]at z
   conv=>lhs;rw[<-aX a.size b.toList,<-z]
  obtain⟨c,r,N⟩:∃c r,b.toList.drop a.size=c::r:=by
   cases hd:b.toList.drop a.size with
   |nil=>have:=congrArg List.length hd;rw[au,D]at this;simp at this;omega
   |cons c r=>exact⟨c,r,rfl⟩
  have J:klt a b=true:=by
   unfold klt;rw[e,N]
   conv=>lhs;arg 1;rw[<-aY a.toList]
   rw[Qh8];rfl
  unfold Qbn Qcp;rw[em J,em (by omega)]
 ·have e:a=b:=toList_inj (by rw [h,Nat.min_self,←D] at z;rw [aM] at z;rw [←z,D,←h,←I,aM])
  subst e;rw[Qee,QjM]
 have e:a.toList=b.toList++a.toList.drop b.size:=by
  rw[Nat.min_eq_right (b9 h)]at z
  conv=>lhs;rw[<-aX b.size a.toList,z,<-D,aM]
  rw[D]
 obtain⟨c,r,N⟩:∃c r,a.toList.drop b.size=c::r:=by
  cases hd:a.toList.drop b.size with
  |nil=>have:=congrArg List.length hd;rw[au,I]at this;simp at this;omega
  |cons c r=>exact⟨c,r,rfl⟩
 have J:klt b a=true:=by
  unfold klt;rw[e,N]
  conv=>lhs;arg 1;rw[<-aY b.toList]
  rw[Qh8];rfl
 unfold Qbn Qcp;rw[ef (by rw[Qby J];simp),em J,ef (by omega),em (by omega)]
theorem Qj9(w:World)(a b:ByteArray)(ha:a.size<=maxLen)(hb:b.size<=maxLen):Calls prog 93 #[.string a,.string b] w λe w'=>e=.returned (.int .i64 (Qbn a b))/\Ext w w':=by
 have hn:∀W x y,Calls prog 92 #[.int .i64 x,.int .i64 y] W λe w'=>e=.returned (.int .i64 (Qcp x y))/\W=w':=QgX
 unfold maxLen at ha hb;have HN:=hY hn;clear hn;go_in;go_wp2_with fail;go_loopw[5] (λq wr=>∃i:Nat,q=.int .i64 i/\i<=a.size/\i<=b.size/\a.toList.take i=b.toList.take i/\Ext w wr) (λq _=>a.size -(intOf q).toNat)
 case atStart=>exact⟨0,rfl,aw _,aw _,rfl,fv w⟩
 obtain⟨i,rfl,Z,a0,N,I⟩:=hrel;by_cases h1:i<a.size
 ·by_cases h2:i<b.size
  ·have g1:(i:Int)<(a.size:Int):=by omega
   have g2:(i:Int)<(b.size:Int):=by omega
   have HP:=hY N;have J:=hY I;clear N I;go_wp2_with fail;go_quiet (fail);go_wp2_with fail
   case _=>
    have z:(((a[i].toNat:Nat):Int) !=((b[i].toNat:Nat):Int))=true:=by assumption
    have D:a[i]≠b[i]:=λe=>by rw[e]at z;simp at z
    have U:=hY (QnH h1 h2 HP.o D);have X:wrap64 ((a[i].toNat:Nat):Int)=((a[i].toNat:Nat):Int):=by have:=a[i].toNat_lt;unfold wrap64;omega
    have R:wrap64 ((b[i].toNat:Nat):Int)=((b[i].toNat:Nat):Int):=by have:=b[i].toNat_lt;unfold wrap64;omega
    have a1:=hY X;have Y:=hY R;clear D X R;go_quiet ((go_at_call 92;refine(HN.o _ _ _).mono ?_;rintro e w2 ⟨rfl,rfl⟩;exact⟨rfl,_,rfl⟩));go_wp2_with fail;go_ret;rw[U.o,a1.o,Y.o];exact⟨rfl,(J.o.drewN _).drewN _⟩
   case roundEnd=>
    have z:(((a[i].toNat:Nat):Int) !=((b[i].toNat:Nat):Int))=false:=by assumption
    have he:a[i]=b[i]:=UInt8.toNat_inj.1 (by have h:=fp.1 z;omega);refine⟨⟨i+1,by simp,by omega,by omega,?_,J.o.drewN _⟩,?_⟩
    .rw [aT,aT,Qf9 h1,Qf9 h2,HP.o,he]
    simp[intOf];omega
  have g1:(i:Int)<(a.size:Int):=by omega
  have g2:¬(i:Int)<(b.size:Int):=by omega
  obtain rfl:i=b.size:=by omega
  have U:=hY (Qj8 (a:=a) (b:=b) (by rw[Nat.min_eq_right Z];exact N));have J:=hY I;clear N I;go_wp2_with fail;refine(HN.o _ _ _).mono ?_;rintro e w2 ⟨rfl,rfl⟩;go_wp2_with fail;go_ret;rw[U.o];exact⟨rfl,J.o⟩
 have g1:¬(i:Int)<(a.size:Int):=by omega
 obtain rfl:i=a.size:=by omega
 have U:=hY (Qj8 (a:=a) (b:=b) (by rw[bx a0];exact N));have J:=hY I;clear N I;go_wp2_with fail;refine(HN.o _ _ _).mono ?_;rintro e w2 ⟨rfl,rfl⟩;go_wp2_with fail;go_ret;rw[U.o];exact⟨rfl,J.o⟩
abbrev ez:=@wp_region_held_drew
abbrev eE:=@wpAnyH_done
abbrev eL:=@bne_iff_ne
def QbX(n:Int)(w:World)(e:Ending)(w':World):Prop:=e=.returned (.int .i64 n)/\Ext w w'
theorem Qjb{l l':List Val}{a b:Val}(D:l[j]? = some a)(z:l'[j]? = some b):cmpL (l.drop j) (l'.drop j)=if Qbo a b≠0 then Qbo a b else cmpL (l.drop (j+1)) (l'.drop (j+1)):=by
 obtain⟨h1,rfl⟩:=ah.1 D;obtain⟨h2,rfl⟩:=ah.1 z;rw[aE h1,aE h2];simp only[cmpL]
theorem Qia{l l':List Val}(h:j=l.length\/j=l'.length)(h1:j<=l.length)(h2:j<=l'.length):cmpL (l.drop j) (l'.drop j)=Qcp (l.length:Int) (l'.length:Int):=by
 by_cases N:j=l.length
 ·have D:l.drop j=[]:=bu.2 (by omega)
  rw[D];simp only[cmpL,List.length_drop];unfold Qcp;by_cases z:l'.length-j=0
  .rw [em z,ef (by omega),ef (by omega)]
  rw[ef z,em (by omega)]
 obtain⟨a,r,J⟩:∃a r,l.drop j=a::r:=by
  cases hd:l.drop j with
  |nil=>have:=bu.1 hd;omega
  |cons a r=>exact⟨a,r,rfl⟩
 have I:l'.drop j=[]:=bu.2 (by omega);rw[J,I];simp only[cmpL];unfold Qcp;rw[ef (by omega),em (by omega)]
theorem Qjc{l l':List Val}{k k':List ByteArray}{a b:Val}{x y:ByteArray}(J:l[j]? = some a)(I:l'[j]? = some b)(z:k[j]? = some x)(N:k'[j]? = some y) :
  Qfe (l.drop j) (k.drop j) (k'.drop j) (l'.drop j)=if Qbn x y≠0 then Qbn x y else if Qbo a b≠0 then Qbo a b else Qfe (l.drop (j+1)) (k.drop (j+1)) (k'.drop (j+1)) (l'.drop (j+1)):=by
 obtain⟨h1,rfl⟩:=ah.1 J;obtain⟨h2,rfl⟩:=ah.1 I;obtain⟨D,rfl⟩:=ah.1 z;obtain⟨R,rfl⟩:=ah.1 N;rw[aE h1,aE h2,aE D,aE R];simp only[Qfe,List.headD_cons,List.tail_cons];rfl
theorem Qib{l l':List Val}{k k':List ByteArray}(h:j=l.length\/j=l'.length)(h1:j<=l.length)(h2:j<=l'.length):Qfe (l.drop j) (k.drop j) (k'.drop j) (l'.drop j)=Qcp (l.length:Int) (l'.length:Int):=by
 by_cases N:j=l.length
 ·have D:l.drop j=[]:=bu.2 (by omega)
  rw[D];simp only[Qfe,List.length_drop];unfold Qcp;by_cases z:l'.length-j=0
  .rw [em z,ef (by omega),ef (by omega)]
  rw[ef z,em (by omega)]
 obtain⟨a,r,J⟩:∃a r,l.drop j=a::r:=by
  cases hd:l.drop j with
  |nil=>have:=bu.1 hd;omega
  |cons a r=>exact⟨a,r,rfl⟩
 have I:l'.drop j=[]:=bu.2 (by omega);rw[J,I];simp only[Qfe];unfold Qcp;rw[ef (by omega),em (by omega)]
theorem Qof(m:Nat):∀(x y:Val),SizeOf.sizeOf x<=m->∀(w:World) (sl so sl' so':Sl),RV w (Lt w.heap.size) x sl so->RV w (Lt w.heap.size) y sl' so'->
  Calls prog 55 #[Qbg x sl so,Qbg y sl' so'] w (QbX (Qbo x y) w):=by
 induction m with
 |zero=>intro d y hd;have:=Val.Qb7 d;omega
 |succ m ih=>
 intro x y hd w sl so sl' so' h h';have HI:=hY ih;clear ih;have hn:∀W a b,Calls prog 92 #[.int .i64 a,.int .i64 b] W λe w'=>e=.returned (.int .i64 (Qcp a b))/\W=w':=QgX
 have HN:=hY hn;clear hn;obtain⟨k,b,i,t,l,ok,ov⟩:=x;obtain⟨k',b',i',t',l',R,b3⟩:=y;show Calls _ _ #[.agg #[.int .i64 k,.bool b,.int .i64 i,.string t,.slice sl.a l.length sl.c,.slice so.a ok.length so.c],.agg #[.int .i64 k',.bool b',.int .i64 i',.string t',.slice sl'.a l'.length sl'.c,.slice so'.a R.length so'.c]] _ _;cases h with
 |mk bl fl bo fo cl co hl ho hov el rl ek eo ro bk bi bt nl no=>
 cases h' with
 |mk bl' fl' bo' fo' cl' co' hl' ho' hov' el' rl' ek' eo' ro' bk' bi' bt' nl' no'=>
 have e6:∀(j:Nat) (d:Val),l[j]? = some d->SizeOf.sizeOf d<=m:=λj d hj=>bq (ab (Val.Qqm hj) hd)
 have e3:∀(j:Nat) (d:Val),ov[j]? = some d->SizeOf.sizeOf d<=m:=λj d hj=>bq (ab (Val.Qqn hj) hd)
 have g9:=hY e6;have f8:=hY e3;have f9:=hY el;have i1:=hY rl;have f0:=hY ek;have g0:=hY eo;have i6:=hY ro;have b4:=hY hov;have e4:=hY el';have f2:=hY rl';have d7:=hY ek';have f4:=hY eo';have e8:=hY ro';have Z:=hY hov';have e2:Qbo (.mk k b i t l ok ov) (.mk k' b' i' t' l' R b3)=if k≠k' then Qcp k k' else if k=2 then Qi7 b b' else if k=3 then Qcp i i' else if k=4 then Qbn t t' else if k=5 then cmpL l l' else if k=6 then Qfe ov ok R b3 else 0:=by
  simp only[Qbo,Val.kind,Val.b,Val.i,Val.t,Val.l,Val.ok,Val.ov];rfl
 rw[e2];clear e6 e3 el rl ek eo ro hov hd el' rl' ek' eo' ro' hov' e2;by_cases d3:k=k'
 ·subst d3
  have i2:(k != k)=false:=by simp
  rw[ef (by simp)];by_cases h2:k=2
  ·subst h2
   rw[em rfl];cases b<;>cases b' <;>
   ·go_in
    go_wp2_with fail;go_ret;exact⟨rfl,((fv w).alloc _ _).alloc _ _⟩
  by_cases h3:k=3
  ·subst h3
   rw[ef h2,em rfl];clear h2;go_in;go_wp2_with fail;refine(HN.o _ _ _).mono ?_;rintro e w2 ⟨rfl,rfl⟩;go_wp2_with fail;go_ret;exact⟨rfl,((fv w).alloc _ _).alloc _ _⟩
  by_cases h4:k=4
  ·subst h4
   rw[ef h2,ef h3,em rfl];clear h2 h3;have N:=λW=>Qj9 W t t' bt bt'
   have i5:=hY N;clear N;go_in;go_wp2_with fail;refine(i5.o _).mono ?_;rintro e w2 ⟨rfl,N⟩;have HX:=hY N;clear N;go_wp2_with fail;go_ret;exact⟨rfl,(((fv w).alloc _ _).alloc _ _).trans HX.o⟩
  rw[ef h2,ef h3,ef h4];by_cases h5:k=5
  ·subst h5
   rw[em rfl];clear h2 h3 h4;have g7:l.length<=140737488355328:=by omega
   have e0:l'.length<=140737488355328:=by omega
   go_in;go_wp2_with fail;generalize c0:World.alloc (World.alloc _ _) _=W0;obtain⟨d0,f6,c2,b8⟩:=Qap w _ _ _ _ W0 c0;clear c0;have J:=hY d0;have c4:=hY c2;have c8:=hY b8;clear d0 c2 b8;go_loopw[5] (λq wr=>∃j:Nat,q=.int .i64 j/\j<=l.length/\j<=l'.length/\cmpL l l'=cmpL (l.drop j) (l'.drop j)/\Ext W0 wr) (λq _=>l.length -(intOf q).toNat)
   case atStart=>exact⟨0,rfl,aw _,aw _,rfl,fv W0⟩
   obtain⟨j,rfl,c7,b0,hp,N⟩:=hrel;obtain⟨-,-,-,-,q4,-⟩:=(c4.o.ext N).c6;obtain⟨-,-,-,-,r4,-⟩:=(c8.o.ext N).c6;have b5:=(c4.o.ext N).lt;have b6:=(c8.o.ext N).lt;have HP:=hY hp;have HX:=hY N;by_cases h1:j<l.length
   ·by_cases h2:j<l'.length
    ·have g1:(j:Int)<(l.length:Int):=by omega
     have g2:(j:Int)<(l'.length:Int):=by omega
     obtain⟨d,hd⟩:∃d,l[j]? = some d:=⟨_,ac h1⟩;obtain⟨d',a1⟩:∃d,l'[j]? = some d:=⟨_,ac h2⟩;have HD:=hY (Qjb hd a1);have U:Agree (Lt w.heap.size) w wr:=(J.o.trans N).agree λ_ h=>h
     obtain⟨sa,sc⟩:=sl;obtain⟨i3,d5⟩:=sl';obtain⟨rfl,i0,f5⟩:=hl.eq (by omega);obtain⟨rfl,f1,e1⟩:=hl'.eq (by omega);have a9:=hl.fits (by omega);have X:=hl'.fits (by omega);obtain⟨v0,v1,v2,v3,v4,v5⟩:=(f9.o j d hd).agree U a9;obtain⟨a0,a6,a4,a3,a2,a5⟩:=(e4.o j d' a1).agree U X;have c1:∀W,Ext wr W->Calls prog 55 #[Qbg d (cl j).1 (cl j).2,Qbg d' (cl' j).1 (cl' j).2] W (QbX (Qbo d d') W):=λW hW=>
      HI.o d d' (g9.o j d hd) W _ _ _ _ (((i1.o j d hd).agree (U.trans (hW.agree λ_ h=>ab h (al J.o.size N.size)))).mono λi hi=>ab hi (al J.o.size (al N.size hW.size)))
       (((f2.o j d' a1).agree (U.trans (hW.agree λ_ h=>ab h (al J.o.size N.size)))).mono λi hi=>ab hi (al J.o.size (al N.size hW.size)))
     have Y:bl<wr.heap.size:=ab a9 (al J.o.size N.size);have I:bl'<wr.heap.size:=ab X (al J.o.size N.size);clear hp N hd a1 U a9 X;go_wp2_with fail;refine ez (S:=(λw'=>w'.cell? ⟨w.heap.size,4,none⟩=some (.slice (some ⟨bl,fl,none⟩) l.length sc)/\w'.cell? ⟨w.heap.size+1,4,none⟩=some (.slice (some ⟨bl',fl',none⟩) l'.length d5)/\w'.cell? ⟨bl,fl+j*6,none⟩=some (.int .i64 d.kind)/\w'.cell? ⟨bl,fl+j*6+1,none⟩=some (.bool d.b)/\w'.cell? ⟨bl,fl+j*6+2,none⟩=some (.int .i64 d.i)/\w'.cell? ⟨bl,fl+j*6+3,none⟩=some (.string d.t)/\w'.cell? ⟨bl,fl+j*6+4,none⟩=some (.slice (cl j).1.a d.l.length (cl j).1.c)/\w'.cell? ⟨bl,fl+j*6+5,none⟩=some (.slice (cl j).2.a d.ok.length (cl j).2.c)/\w'.cell? ⟨bl',fl'+j*6,none⟩=some (.int .i64 d'.kind)/\w'.cell? ⟨bl',fl'+j*6+1,none⟩=some (.bool d'.b)/\w'.cell? ⟨bl',fl'+j*6+2,none⟩=some (.int .i64 d'.i)/\w'.cell? ⟨bl',fl'+j*6+3,none⟩=some (.string d'.t)/\w'.cell? ⟨bl',fl'+j*6+4,none⟩=some (.slice (cl' j).1.a d'.l.length (cl' j).1.c)/\w'.cell? ⟨bl',fl'+j*6+5,none⟩=some (.slice (cl' j).2.a d'.ok.length (cl' j).2.c))) (by kernel_rfl) (⟨q4,r4,v0,v1,v2,v3,v4,v5,a0,a6,a4,a3,a2,a5⟩) (λhHeld=>?_);refine Qar 0 (some 61) hHeld ?_;refine Qar 1 (some 62) hHeld ?_;refine Qar 2 (some 63) hHeld ?_;refine Qar 3 (some 64) hHeld ?_;refine Qar 4 (some 65) hHeld ?_;refine Qar 5 (some 66) hHeld ?_;refine Qar 6 (some 67) hHeld ?_;refine Qar 7 (some 68) hHeld ?_;refine Qar 8 (some 69) hHeld ?_;refine Qar 9 (some 70) hHeld ?_;refine Qag (i:=10) (by kernel_rfl) rfl (by rfl) (λK hK=>?_);go_simp
     (refine(c1 _ ((fv wr).drew)).mono ?_;rintro e w2 ⟨rfl,z⟩;replace z:=((fv wr).drew).trans z)
     refine hK.out _ _ (⟨(z.cell b5).trans q4,(z.cell b6).trans r4,(z.cell Y).trans v0,(z.cell Y).trans v1,(z.cell Y).trans v2,(z.cell Y).trans v3,(z.cell Y).trans v4,(z.cell Y).trans v5,(z.cell I).trans a0,(z.cell I).trans a6,(z.cell I).trans a4,(z.cell I).trans a3,(z.cell I).trans a2,(z.cell I).trans a5⟩) (λhHeld=>?_);clear hK K
     try simp only[Act.put,List.setIfInBounds_toArray,List.set_cons_zero,List.set_cons_succ]
     refine Qar 11 (some 6) hHeld ?_;refine eE (by kernel_rfl) ?_ _;clear hHeld c1 q4 r4 v0 v1 v2 v3 v4 v5 a0 a6 a4 a3 a2 a5;have c9:=hY (HX.o.trans z);clear z;by_cases hc:Qbo d d'=0
     ·have d8:(Qbo d d' != 0)=false:=by simp [hc]
      have HC:=hY hc;clear hc;go_wp2_with fail;go_roundw
      case rel=>exact⟨j+1,by go_num,h1,h2,by rw[HP.o,HD.o,ef (by simp[HC.o])],c9.o⟩
      simp[intOf];omega
     have d8:(Qbo d d' != 0)=true:=eL.2 hc;have HC:=hY hc;clear hc;go_wp2_with fail;go_ret;rw[HP.o,HD.o,em HC.o];exact⟨rfl,J.o.trans c9.o⟩
    have g1:(j:Int)<(l.length:Int):=by omega
    have g2:¬(j:Int)<(l'.length:Int):=by omega
    have HE:=hY (Qia (l:=l) (l':=l') (j:=j) (by omega) c7 b0);clear hp N;go_wp2_with fail;refine(HN.o _ _ _).mono ?_;rintro e w2 ⟨rfl,rfl⟩;go_wp2_with fail;go_ret;rw[HP.o,HE.o];exact⟨rfl,J.o.trans HX.o⟩
   have g1:¬(j:Int)<(l.length:Int):=by omega
   have HE:=hY (Qia (l:=l) (l':=l') (j:=j) (by omega) c7 b0);clear hp N;go_wp2_with fail;refine(HN.o _ _ _).mono ?_;rintro e w2 ⟨rfl,rfl⟩;go_wp2_with fail;go_ret;rw[HP.o,HE.o];exact⟨rfl,J.o.trans HX.o⟩
  by_cases h6:k=6
  ·subst h6
   rw[ef h5,em rfl];clear h2 h3 h4 h5;have g7:ok.length<=140737488355328:=by omega
   have e0:R.length<=140737488355328:=by omega
   go_in;go_wp2_with fail;generalize c0:World.alloc (World.alloc _ _) _=W0;obtain⟨d0,f6,c2,b8⟩:=Qap w _ _ _ _ W0 c0;clear c0;have J:=hY d0;have c4:=hY c2;have c8:=hY b8;clear d0 c2 b8;go_loopw[7] (λq wr=>∃j:Nat,q=.int .i64 j/\j<=ok.length/\j<=R.length/\Qfe ov ok R b3=Qfe (ov.drop j) (ok.drop j) (R.drop j) (b3.drop j)/\Ext W0 wr) (λq _=>ok.length -(intOf q).toNat)
   case atStart=>exact⟨0,rfl,aw _,aw _,rfl,fv W0⟩
   obtain⟨j,rfl,c7,b0,hp,N⟩:=hrel;obtain⟨-,-,-,-,-,q5⟩:=(c4.o.ext N).c6;obtain⟨-,-,-,-,-,r5⟩:=(c8.o.ext N).c6;have b5:=(c4.o.ext N).lt;have b6:=(c8.o.ext N).lt;have HP:=hY hp;have HX:=hY N;by_cases h1:j<ok.length
   ·by_cases h2:j<R.length
    ·have g1:(j:Int)<(ok.length:Int):=by omega
     have g2:(j:Int)<(R.length:Int):=by omega
     obtain⟨x,d4⟩:∃d,ok[j]? = some d:=⟨_,ac h1⟩;obtain⟨x',b7⟩:∃d,R[j]? = some d:=⟨_,ac h2⟩;obtain⟨d,hd⟩:∃d,ov[j]? = some d:=⟨_,ac (by rw[b4.o];exact h1)⟩;obtain⟨d',a1⟩:∃d,b3[j]? = some d:=⟨_,ac (by rw[Z.o];exact h2)⟩;have HD:=hY (Qjc hd a1 d4 b7);have U:Agree (Lt w.heap.size) w wr:=(J.o.trans N).agree λ_ h=>h
     obtain⟨sa,sc⟩:=so;obtain⟨i3,d5⟩:=so';obtain⟨rfl,i0,f5⟩:=ho.eq (by omega);obtain⟨rfl,f1,e1⟩:=ho'.eq (by omega);have a9:=ho.fits (by omega);have X:=ho'.fits (by omega);obtain⟨v0,v1,v2,v3,v4,v5⟩:=(g0.o j d hd).agree U a9;obtain⟨a0,a6,a4,a3,a2,a5⟩:=(f4.o j d' a1).agree U X;have kx:=(U.cell a9).trans (f0.o j x d4).1;have c3:=(U.cell X).trans (d7.o j x' b7).1;have e7:=λW=>Qj9 W x x' (f0.o j x d4).2 (d7.o j x' b7).2
     have c1:∀W,Ext wr W->Calls prog 55 #[Qbg d (co j).1 (co j).2,Qbg d' (co' j).1 (co' j).2] W (QbX (Qbo d d') W):=λW hW=>
      HI.o d d' (f8.o j d hd) W _ _ _ _ (((i6.o j d hd).agree (U.trans (hW.agree λ_ h=>ab h (al J.o.size N.size)))).mono λi hi=>ab hi (al J.o.size (al N.size hW.size)))
       (((e8.o j d' a1).agree (U.trans (hW.agree λ_ h=>ab h (al J.o.size N.size)))).mono λi hi=>ab hi (al J.o.size (al N.size hW.size)))
     have Y:bo<wr.heap.size:=ab a9 (al J.o.size N.size);have I:bo'<wr.heap.size:=ab X (al J.o.size N.size);have HT:=hY e7;have i4:=hY c1;clear hp N hd a1 U a9 X d4 b7 e7 c1;go_wp2_with fail;refine ez (S:=(λw'=>w'.cell? ⟨w.heap.size,5,none⟩=some (.slice (some ⟨bo,fo,none⟩) ok.length sc)/\w'.cell? ⟨w.heap.size+1,5,none⟩=some (.slice (some ⟨bo',fo',none⟩) R.length d5)/\w'.cell? ⟨bo,fo+j*7,none⟩=some (.string x)/\w'.cell? ⟨bo',fo'+j*7,none⟩=some (.string x'))) (by kernel_rfl) (⟨q5,r5,kx,c3⟩) (λhHeld=>?_);refine Qar 0 (some 98) hHeld ?_;refine Qar 1 (some 99) hHeld ?_;refine Qar 2 (some 100) hHeld ?_;refine Qar 3 (some 101) hHeld ?_;refine Qar 4 (some 102) hHeld ?_;refine Qar 5 (some 103) hHeld ?_;refine Qar 6 (some 104) hHeld ?_;refine Qar 7 (some 105) hHeld ?_;refine Qar 8 (some 106) hHeld ?_;refine Qar 9 (some 107) hHeld ?_;refine Qar 10 (some 108) hHeld ?_;refine Qar 11 (some 109) hHeld ?_;refine Qag (i:=12) (by kernel_rfl) rfl (by rfl) (λK hK=>?_);go_simp
     (refine(HT.o _).mono ?_;rintro e w2 ⟨rfl,D⟩;replace D:=((fv wr).drew).trans D)
     refine hK.out _ _ (⟨(D.cell b5).trans q5,(D.cell b6).trans r5,(D.cell Y).trans kx,(D.cell I).trans c3⟩) (λhHeld=>?_);clear hK K
     try simp only[Act.put,List.setIfInBounds_toArray,List.set_cons_zero,List.set_cons_succ]
     refine Qar 13 (some 8) hHeld ?_;refine eE (by kernel_rfl) ?_ _;clear hHeld;have g8:=hY D;have c9:=hY (HX.o.trans D)
     replace q5:=(D.cell b5).trans q5;replace r5:=(D.cell b6).trans r5;replace v0:=(D.cell Y).trans v0;replace v1:=(D.cell Y).trans v1;replace v2:=(D.cell Y).trans v2;replace v3:=(D.cell Y).trans v3;replace v4:=(D.cell Y).trans v4;replace v5:=(D.cell Y).trans v5;replace a0:=(D.cell I).trans a0;replace a6:=(D.cell I).trans a6;replace a4:=(D.cell I).trans a4;replace a3:=(D.cell I).trans a3;replace a2:=(D.cell I).trans a2;replace a5:=(D.cell I).trans a5;replace kx:=(D.cell Y).trans kx;replace c3:=(D.cell I).trans c3
     replace b5:=ab b5 D.size
     replace b6:=ab b6 D.size
     replace Y:=ab Y D.size
     replace I:=ab I D.size
     clear D;by_cases ht:Qbn x x'=0
     ·have f7:(Qbn x x' != 0)=false:=by simp [ht]
      have d6:=hY ht;clear ht;go_wp2_with fail;refine ez (S:=(λw'=>w'.cell? ⟨w.heap.size,5,none⟩=some (.slice (some ⟨bo,fo,none⟩) ok.length sc)/\w'.cell? ⟨w.heap.size+1,5,none⟩=some (.slice (some ⟨bo',fo',none⟩) R.length d5)/\w'.cell? ⟨bo,fo+j*7+1,none⟩=some (.int .i64 d.kind)/\w'.cell? ⟨bo,fo+j*7+1+1,none⟩=some (.bool d.b)/\w'.cell? ⟨bo,fo+j*7+1+2,none⟩=some (.int .i64 d.i)/\w'.cell? ⟨bo,fo+j*7+1+3,none⟩=some (.string d.t)/\w'.cell? ⟨bo,fo+j*7+1+4,none⟩=some (.slice (co j).1.a d.l.length (co j).1.c)/\w'.cell? ⟨bo,fo+j*7+1+5,none⟩=some (.slice (co j).2.a d.ok.length (co j).2.c)/\w'.cell? ⟨bo',fo'+j*7+1,none⟩=some (.int .i64 d'.kind)/\w'.cell? ⟨bo',fo'+j*7+1+1,none⟩=some (.bool d'.b)/\w'.cell? ⟨bo',fo'+j*7+1+2,none⟩=some (.int .i64 d'.i)/\w'.cell? ⟨bo',fo'+j*7+1+3,none⟩=some (.string d'.t)/\w'.cell? ⟨bo',fo'+j*7+1+4,none⟩=some (.slice (co' j).1.a d'.l.length (co' j).1.c)/\w'.cell? ⟨bo',fo'+j*7+1+5,none⟩=some (.slice (co' j).2.a d'.ok.length (co' j).2.c))) (by kernel_rfl) (⟨q5,r5,v0,v1,v2,v3,v4,v5,a0,a6,a4,a3,a2,a5⟩) (λhHeld=>?_);refine Qar 0 (some 114) hHeld ?_;refine Qar 1 (some 115) hHeld ?_;refine Qar 2 (some 116) hHeld ?_;refine Qar 3 (some 117) hHeld ?_;refine Qar 4 (some 118) hHeld ?_;refine Qar 5 (some 119) hHeld ?_;refine Qar 6 (some 120) hHeld ?_;refine Qar 7 (some 121) hHeld ?_;refine Qar 8 (some 122) hHeld ?_;refine Qar 9 (some 123) hHeld ?_;refine Qar 10 (some 124) hHeld ?_;refine Qar 11 (some 125) hHeld ?_;refine Qag (i:=12) (by kernel_rfl) rfl (by rfl) (λK hK=>?_);go_simp
      (refine(i4.o _ (g8.o.drew)).mono ?_;rintro e w3 ⟨rfl,z⟩;replace z:=((fv w2).drew).trans z)
      refine hK.out _ _ (⟨(z.cell b5).trans q5,(z.cell b6).trans r5,(z.cell Y).trans v0,(z.cell Y).trans v1,(z.cell Y).trans v2,(z.cell Y).trans v3,(z.cell Y).trans v4,(z.cell Y).trans v5,(z.cell I).trans a0,(z.cell I).trans a6,(z.cell I).trans a4,(z.cell I).trans a3,(z.cell I).trans a2,(z.cell I).trans a5⟩) (λhHeld=>?_);clear hK K
      try simp only[Act.put,List.setIfInBounds_toArray,List.set_cons_zero,List.set_cons_succ]
      refine Qar 13 (some 9) hHeld ?_;refine eE (by kernel_rfl) ?_ _;clear hHeld q5 r5 v0 v1 v2 v3 v4 v5 a0 a6 a4 a3 a2 a5 kx c3;have f3:=hY (c9.o.trans z);clear z;by_cases hc:Qbo d d'=0
      ·have d8:(Qbo d d' != 0)=false:=by simp [hc]
       have HC:=hY hc;clear hc;go_wp2_with fail;go_roundw
       case rel=>exact⟨j+1,by go_num,h1,h2,by rw[HP.o,HD.o,ef (by simp[d6.o]),ef (by simp[HC.o])],f3.o⟩
       simp[intOf];omega
      have d8:(Qbo d d' != 0)=true:=eL.2 hc;have HC:=hY hc;clear hc;go_wp2_with fail;go_ret;rw[HP.o,HD.o,ef (by simp[d6.o]),em HC.o];exact⟨rfl,J.o.trans f3.o⟩
     have f7:(Qbn x x' != 0)=true:=eL.2 ht;have d6:=hY ht;clear ht;go_wp2_with fail;go_ret;rw[HP.o,HD.o,em d6.o];exact⟨rfl,J.o.trans c9.o⟩
    have g1:(j:Int)<(ok.length:Int):=by omega
    have g2:¬(j:Int)<(R.length:Int):=by omega
    have HE:=hY (Qib (l:=ov) (l':=b3) (k:=ok) (k':=R) (j:=j) (by rw[b4.o,Z.o];omega) (by rw[b4.o];exact c7) (by rw[Z.o];exact b0));clear hp N;go_wp2_with fail;refine(HN.o _ _ _).mono ?_;rintro e w2 ⟨rfl,rfl⟩;go_wp2_with fail;go_ret;rw[HP.o,HE.o,b4.o,Z.o];exact⟨rfl,J.o.trans HX.o⟩
   have g1:¬(j:Int)<(ok.length:Int):=by omega
   have HE:=hY (Qib (l:=ov) (l':=b3) (k:=ok) (k':=R) (j:=j) (by rw[b4.o,Z.o];omega) (by rw[b4.o];exact c7) (by rw[Z.o];exact b0));clear hp N;go_wp2_with fail;refine(HN.o _ _ _).mono ?_;rintro e w2 ⟨rfl,rfl⟩;go_wp2_with fail;go_ret;rw[HP.o,HE.o,b4.o,Z.o];exact⟨rfl,J.o.trans HX.o⟩
  rw[ef h5,ef h6];have g2:(k==2)=false:=eu.2 h2;have g3:(k==3)=false:=eu.2 h3;have g4:(k==4)=false:=eu.2 h4;have g5:(k==5)=false:=eu.2 h5;have g6:(k==6)=false:=eu.2 h6;clear h2 h3 h4 h5 h6;go_in;go_wp2_with fail;go_ret;exact⟨rfl,((fv w).alloc _ _).alloc _ _⟩
 have i2:(k != k')=true:=eL.2 d3;rw[em d3];clear d3;go_in;go_wp2_with fail;refine(HN.o _ _ _).mono ?_;rintro e w2 ⟨rfl,rfl⟩;go_wp2_with fail;go_ret;exact⟨rfl,((fv w).alloc _ _).alloc _ _⟩
theorem QhT{l m:List Ent}{a b:Ent}(D:l[j]? = some a)(z:m[j]? = some b):QcT (l.drop j) (m.drop j)=(decide (a.1=b.1)&&decide (Qbo a.2 b.2=0)&&QcT (l.drop (j+1)) (m.drop (j+1))):=by
 obtain⟨h1,rfl⟩:=ah.1 D;obtain⟨h2,rfl⟩:=ah.1 z;rw[aE h1,aE h2];rfl
theorem QiM{l m:List Ent}(h:l.length≠m.length):QcT l m=false:=by
 cases hs:QcT l m with
 |false=>rfl
 |true=>exact absurd (Qj5 hs) h
theorem Qk9(hs:ES w (Lt w.heap.size) s xs)(a2:ES w (Lt w.heap.size) s' ys) :
  Calls prog 30 #[.slice s.a xs.length s.c,.slice s'.a ys.length s'.c] w λe w'=>e=.returned (.bool (QcT (xs.map LE.ent) (ys.map LE.ent)))/\Ext w w':=by
 have hf:=hs.few;have b8:xs.length<=140737488355328:=by omega
 by_cases I:xs.length=ys.length
 ·have HS:=hY hs
  have b7:=hY a2;have R:=hY I;rw[<-I];clear hs a2 I hf;go_in;go_wp2_with fail;go_loopw[5] (λq wr=>∃j:Nat,q=.int .i64 j/\j<=xs.length/\QcT (xs.map LE.ent) (ys.map LE.ent)=QcT ((xs.map LE.ent).drop j) ((ys.map LE.ent).drop j)/\Ext w wr) (λq _=>xs.length -(intOf q).toNat)
  case atStart=>exact⟨0,rfl,aw _,rfl,fv w⟩
  obtain⟨j,rfl,c3,hp,hx⟩:=hrel;have HP:=hY hp;have HX:=hY hx;by_cases h1:j<xs.length
  ·have g1:(j:Int)<(xs.length:Int):=by omega
   obtain⟨x,a5⟩:∃x,xs[j]? = some x:=⟨_,ac h1⟩;obtain⟨y,a4⟩:∃y,ys[j]? = some y:=⟨_,ac (by rw[<-R.o];exact h1)⟩;have HD:=hY (QhT (l:=xs.map LE.ent) (m:=ys.map LE.ent) (a:=x.ent) (b:=y.ent) (by rw[aq,a5];rfl) (by rw[aq,a4];rfl));have e1:=HS.o.ext hx;have e2:=b7.o.ext hx;obtain⟨g,o,hg,lg,hc,b6,kx,⟨v0,v1,v2,v3,v4,v5⟩,rx,-⟩:=e1.at a5;obtain⟨J,N,b5,D,a9,b3,ky,⟨U,a1,Y,X,Z,a0⟩,ry,-⟩:=e2.at a4;rw[<-R.o]at a9;obtain⟨sa,sc⟩:=s;obtain⟨c4,c2⟩:=s';dsimp only at hg b5 hc a9 b6 b3;subst hg b5;have b0:∀W,Ext wr W->Calls prog 55 #[Qbg x.v x.sl x.so,Qbg y.v y.sl y.so] W (QbX (Qbo x.v y.v) W):=λW hW=>
    Qof _ x.v y.v (an _) W _ _ _ _ ((rx.agree (hW.agree λ_ h=>h)).mono λi hi=>ab hi hW.size) ((ry.agree (hW.agree λ_ h=>h)).mono λi hi=>ab hi hW.size)
   have c0:=hY b0;clear hp hx a5 a4 e1 e2 rx ry b0;have lg:g<wr.heap.size:=lg;have D:J<wr.heap.size:=D;by_cases hk:x.k=y.k
   ·have a3:(x.k.toList == y.k.toList)=true:=by rw [hk];simp
    have HK:=hY hk;go_wp2_with fail;refine ez (S:=(λw'=>w'.cell? ⟨g,o+j*7,none⟩=some (.string x.k)/\w'.cell? ⟨J,N+j*7,none⟩=some (.string y.k)/\w'.cell? ⟨g,o+j*7+1,none⟩=some (.int .i64 x.v.kind)/\w'.cell? ⟨g,o+j*7+1+1,none⟩=some (.bool x.v.b)/\w'.cell? ⟨g,o+j*7+1+2,none⟩=some (.int .i64 x.v.i)/\w'.cell? ⟨g,o+j*7+1+3,none⟩=some (.string x.v.t)/\w'.cell? ⟨g,o+j*7+1+4,none⟩=some (.slice x.sl.a x.v.l.length x.sl.c)/\w'.cell? ⟨g,o+j*7+1+5,none⟩=some (.slice x.so.a x.v.ok.length x.so.c)/\w'.cell? ⟨J,N+j*7+1,none⟩=some (.int .i64 y.v.kind)/\w'.cell? ⟨J,N+j*7+1+1,none⟩=some (.bool y.v.b)/\w'.cell? ⟨J,N+j*7+1+2,none⟩=some (.int .i64 y.v.i)/\w'.cell? ⟨J,N+j*7+1+3,none⟩=some (.string y.v.t)/\w'.cell? ⟨J,N+j*7+1+4,none⟩=some (.slice y.sl.a y.v.l.length y.sl.c)/\w'.cell? ⟨J,N+j*7+1+5,none⟩=some (.slice y.so.a y.v.ok.length y.so.c))) (by kernel_rfl) (⟨kx,ky,v0,v1,v2,v3,v4,v5,U,a1,Y,X,Z,a0⟩) (λhHeld=>?_);refine Qar 0 (some 17) hHeld ?_;refine Qar 1 (some 18) hHeld ?_;refine Qar 2 (some 19) hHeld ?_;refine Qar 3 (some 20) hHeld ?_;refine Qar 4 (some 21) hHeld ?_;refine Qar 5 (some 22) hHeld ?_;refine Qar 6 (some 23) hHeld ?_;refine Qar 7 (some 24) hHeld ?_;refine Qar 8 (some 25) hHeld ?_;refine Qar 9 (some 26) hHeld ?_;refine Qar 10 (some 27) hHeld ?_;refine Qar 11 (some 28) hHeld ?_;refine Qar 12 (some 29) hHeld ?_;refine Qar 13 (some 30) hHeld ?_;refine Qar 14 (some 31) hHeld ?_;refine Qar 15 (some 32) hHeld ?_;refine Qar 16 (some 33) hHeld ?_;refine Qar 17 (some 34) hHeld ?_;refine Qar 18 (some 35) hHeld ?_;refine Qar 19 (some 36) hHeld ?_;refine Qar 20 (some 37) hHeld ?_;refine Qar 21 (some 38) hHeld ?_;refine Qag (i:=22) (by kernel_rfl) rfl (by rfl) (λK hK=>?_);go_simp
    (refine(c0.o _ ((fv wr).drew)).mono ?_;rintro e w2 ⟨rfl,z⟩;replace z:=((fv wr).drew).trans z)
    refine hK.out _ _ (⟨(z.cell lg).trans kx,(z.cell D).trans ky,(z.cell lg).trans v0,(z.cell lg).trans v1,(z.cell lg).trans v2,(z.cell lg).trans v3,(z.cell lg).trans v4,(z.cell lg).trans v5,(z.cell D).trans U,(z.cell D).trans a1,(z.cell D).trans Y,(z.cell D).trans X,(z.cell D).trans Z,(z.cell D).trans a0⟩) (λhHeld=>?_);clear hK K
    try simp only[Act.put,List.setIfInBounds_toArray,List.set_cons_zero,List.set_cons_succ]
    refine Qar 23 (some 40) hHeld ?_;refine Qar 24 (some 41) hHeld ?_;refine eE (by kernel_rfl) ?_ _;have b4:=hY (HX.o.trans z);clear z hHeld a3 hk kx ky v0 v1 v2 v3 v4 v5 U a1 Y X Z a0;by_cases hc:Qbo x.v y.v=0
    ·have c1:(Qbo x.v y.v != 0)=false:=by simp [hc]
     have HC:=hY hc;clear hc;go_wp2_with fail;go_roundw
     case rel=>exact⟨j+1,by go_num,h1,by rw[HP.o,HD.o,ej (show x.ent.1=y.ent.1 from HK.o),ej (show Qbo x.ent.2 y.ent.2=0 from HC.o)];rfl,b4.o⟩
     simp[intOf];omega
    have c1:(Qbo x.v y.v != 0)=true:=eL.2 hc;have HC:=hY hc;clear hc;go_wp2_with fail;go_ret;rw[HP.o,HD.o,eh (show ¬Qbo x.ent.2 y.ent.2=0 from HC.o)];exact⟨by simp,b4.o⟩
   have a3:(x.k.toList==y.k.toList)=false:=by rw[beq_toList];simp[hk]
   have HK:=hY hk;go_wp2_with fail;refine ez (S:=(λw'=>w'.cell? ⟨g,o+j*7,none⟩=some (.string x.k)/\w'.cell? ⟨J,N+j*7,none⟩=some (.string y.k)/\w'.cell? ⟨g,o+j*7+1,none⟩=some (.int .i64 x.v.kind)/\w'.cell? ⟨g,o+j*7+1+1,none⟩=some (.bool x.v.b)/\w'.cell? ⟨g,o+j*7+1+2,none⟩=some (.int .i64 x.v.i)/\w'.cell? ⟨g,o+j*7+1+3,none⟩=some (.string x.v.t)/\w'.cell? ⟨g,o+j*7+1+4,none⟩=some (.slice x.sl.a x.v.l.length x.sl.c)/\w'.cell? ⟨g,o+j*7+1+5,none⟩=some (.slice x.so.a x.v.ok.length x.so.c)/\w'.cell? ⟨J,N+j*7+1,none⟩=some (.int .i64 y.v.kind)/\w'.cell? ⟨J,N+j*7+1+1,none⟩=some (.bool y.v.b)/\w'.cell? ⟨J,N+j*7+1+2,none⟩=some (.int .i64 y.v.i)/\w'.cell? ⟨J,N+j*7+1+3,none⟩=some (.string y.v.t)/\w'.cell? ⟨J,N+j*7+1+4,none⟩=some (.slice y.sl.a y.v.l.length y.sl.c)/\w'.cell? ⟨J,N+j*7+1+5,none⟩=some (.slice y.so.a y.v.ok.length y.so.c))) (by kernel_rfl) (⟨kx,ky,v0,v1,v2,v3,v4,v5,U,a1,Y,X,Z,a0⟩) (λhHeld=>?_);refine Qar 0 (some 17) hHeld ?_;refine Qar 1 (some 18) hHeld ?_;refine Qar 2 (some 19) hHeld ?_;refine Qar 3 (some 20) hHeld ?_;refine Qar 4 (some 21) hHeld ?_;refine Qar 5 (some 22) hHeld ?_;refine Qar 6 (some 23) hHeld ?_;refine Qar 7 (some 24) hHeld ?_;refine Qar 8 (some 25) hHeld ?_;refine Qar 9 (some 26) hHeld ?_;refine Qar 10 (some 27) hHeld ?_;refine Qar 11 (some 28) hHeld ?_;refine QdI 12 (some 29) hHeld ?_;refine QdI 13 (some 30) hHeld ?_;refine QdI 14 (some 31) hHeld ?_;refine QdI 15 (some 32) hHeld ?_;refine QdI 16 (some 33) hHeld ?_;refine QdI 17 (some 34) hHeld ?_;refine QdI 18 (some 35) hHeld ?_;refine QdI 19 (some 36) hHeld ?_;refine QdI 20 (some 37) hHeld ?_;refine QdI 21 (some 38) hHeld ?_;refine QdI 22 (some 39) hHeld ?_;refine QdI 23 (some 40) hHeld ?_;refine Qar 24 (some 41) hHeld ?_;refine eE (by kernel_rfl) ?_ _;clear hHeld a3 hk kx ky v0 v1 v2 v3 v4 v5 U a1 Y X Z a0;go_wp2_with fail;go_ret;rw[HP.o,HD.o,eh (show ¬x.ent.1=y.ent.1 from HK.o)];exact⟨by simp,HX.o.drew⟩
  have g1:¬(j:Int)<(xs.length:Int):=by omega
  have a6:QcT ((xs.map LE.ent).drop j) ((ys.map LE.ent).drop j)=true:=by
   rw[bu.2 (by rw[ao];omega),bu.2 (by rw[ao,<-R.o];omega)];rfl
  have HE:=hY a6;clear hp hx a6;go_wp2_with fail;go_ret;rw[HP.o,HE.o];exact⟨rfl,HX.o⟩
 have c6:(((xs.length:Int)) !=((ys.length:Int)))=true:=eL.2 (by omega);rw[QiM (by rw[ao,ao];exact I)];clear hs a2 I hf b8;go_in;go_wp2_with fail;go_ret;exact⟨rfl,fv w⟩
def QnT(H:Nat->Prop)(es:List Ent)(w:World)(e:Ending)(w':World):Prop:=
 ∃M',e=.returned (.pointer (some ⟨M',0,none⟩))/\w.heap.size<=M'/\Ext w w'/\MapAt (λb=>H b\/b=M') w' M' es
theorem Qjf{M:Nat}{es:List Ent}(h:MapAt H w M es)(hH:∀b,H b->b<w)(hc:es.length<=1000000) :
  Calls prog 80 #[.pointer (some ⟨M,0,none⟩)] w (QnT H es w):=by
 obtain⟨i0,hi,X,a1,a2⟩:=eG Tryz.Qa1;obtain⟨hm,s,xs,hb,hs,D⟩:=h;have h0:w.cell? ⟨M,0,none⟩=some (.slice s.a xs.length s.c):=hb.cell 0;have I:xs.length=es.length:=by rw[<-D,ao]
 have Y:xs.length<=maxLen:=by unfold maxLen;omega
 have J:xs.length*104<=140737488355328:=by omega
 have Z:=hY hs;have a0:=hY D;clear hb hs D I;go_in;go_wp2_with(at_builtin;refine Qa3 rfl (.const (.slice none 0 0)) (.tmp 6) 22 rfl w.heap.size 70 i0 _ 7 104 underlying22 hi X a1 a2 rfl (by decide) rfl (NH H w) s xs.length (Qai xs) rfl Z.o.rd (QaM _) Y J (an _) ?_;intro s1 w1 z N;have U:=hY z;have R:=hY N;clear z N);go_ret;have hE:Ext w1 (w1.alloc (.cells #[.slice s1.a xs.length s1.c] 55)):=(fv _).alloc _ _;have hX:=R.o.trans hE;have hz:=R.o.size;refine⟨w1,rfl,hz,hX,.inr rfl,s1,xs,fA w1 _ _,⟨?_,?_,J⟩,a0.o⟩
 ·refine ((fE U.o).agree (hE.agree fun i hi=>hi.2)).mono fun i hi=>⟨by rw [ey];have:=hi.2;omega,fun h=>?_⟩
  have h1:=hi.1;have h2:=hi.2;rcases h with h|h
  .have:=hH i h;omega
  omega
 intro x hx;refine⟨((Z.o.vals x hx).1.agree (hX.agree λi hi=>hi.1)).mono λi hi=>⟨Nat.lt_of_lt_of_le hi.1 hX.size,λh=>?_⟩,(Z.o.vals x hx).2⟩;have h1:=hi.1;rcases h with h|h
 .exact hi.2 h
 omega
theorem Qwo{M:Nat}{xs L:List LE}{es:List Ent}(Y:H M)(hH:∀b,H b->b<w)(X:Blk w M 55 #[.slice s.a xs.length s.c])(hs:ES w (NH H w) s xs)(U:∀y∈L,y∈xs)
  (R:Ext w w3) (I:w3.ownsRow w.heap.size 70 7 (.slice s3.a L.length s3.c) L.length (Qai L)) (hf:L.length*104<=140737488355328) (he:L.map LE.ent=es) :
  MapAt H (w3.setCell ⟨M,0,none⟩ (.slice s3.a L.length s3.c)) M es/\St (λb=>b=M) w (w3.setCell ⟨M,0,none⟩ (.slice s3.a L.length s3.c)):=by
 have Z:=X.lt;have z:St (λb=>b=M) w (w3.setCell ⟨M,0,none⟩ (.slice s3.a L.length s3.c)):=(R.st (λb=>b=M)).set (p:=⟨M,0,none⟩) (.inr rfl) _;have J:Agree (NH H w) w (w3.setCell ⟨M,0,none⟩ (.slice s3.a L.length s3.c)):=z.agree.mono λi hi=>⟨hi.1,λe=>hi.2 (e▸Y)⟩
 have D:Agree (In w.heap.size w3.heap.size) w3 (w3.setCell ⟨M,0,none⟩ (.slice s3.a L.length s3.c)):=fC w3 ⟨M,0,none⟩ _ (λh=>by have h1:w.heap.size<=M:=h.1;omega);refine⟨⟨Y,s3,L,?_,⟨?_,?_,hf⟩,he⟩,z⟩
 .exact (X.ext R).Qdz 0 _
 .exact ((fE I).agree D).mono λi hi=>⟨by rw[eA];exact hi.2,λh=>by have:=hH i h;have:=hi.1;omega⟩
 intro y N;exact⟨((hs.vals y (U y N)).1.agree J).mono λi hi=>⟨Nat.lt_of_lt_of_le hi.1 z.size,hi.2⟩,(hs.vals y (U y N)).2⟩
section
variable{P : Program}(w : World)
theorem QvM{ops:Array Oper}{o:Oper}{a:Act}{K:Act->World->Prop}{Q:Exit->Act->World->Prop}{E:Prop}(a1:o.guard=none)(s' x:Operand)(t:TypeId)
  (ho:o.op=.call { callee:=.builtin .append,args:=#[s',x],argTypes:=#[t,t] })
  (base:Nat) (e:TypeId) (i:TypeInfo) (z:Value) (size D:Nat) (ht:P.underlying t=some (.slice e)) (hi:P.info? e=some i) (hz:i.zero=some z)
  (N:i.size=size) (Z:i.bytes=D) (Y:z.cells.size=size) (a0:0<size) (hs:a.eval s'=.slice none 0 0)
  (F:Nat->Prop) (X:Sl) (m:Nat) (I:List Value) (hx:a.eval x=.slice X.a m X.c) (U:Rd w F size X m I) (h1:∀u∈I,u.oneCell'=true)
  (a2:m<=maxLen) (J:m*D<=140737488355328) (R:base<=w.heap.size)
  (h:∀(s':Sl) (w':World),w'.ownsRow base e size (.slice s'.a m s'.c) m I->Ext w w'->K (a.put o.dst (.slice s'.a m s'.c)) w') :
  if Region.wanted o (yielded ops a.tmps)=true then Oper.wp P o a w K Q else E:=
 Qdp w a1 s' x t ho base e i z size D ht hi hz N Z Y a0 Sl.none 0 [] hs (eI _ _ _ _) F X m I hx U h1 (by omega) (by rw[aA];exact J) R λs2 w2 h2 h3 _=>by
  rw[aA,aJ]at h2;rw[aA];exact h s2 w2 h2 ((fv w).wr h3 (λi hi=>by cases hi))
end
def Qwj(H:Nat->Prop)(M:Nat)(es:List Ent)(k:ByteArray)(w:World)(e:Ending)(w':World):Prop:=
 e=.returned (.bool (Qam es k).isSome)/\MapAt H w' M (Qb2 es k)/\St (λb=>b=M) w w'
theorem Qwk{M:Nat}{es:List Ent}(h:MapAt H w M es)(hH:∀b,H b->b<w)(e7:Sorted es)(hc:es.length<=1000000)(k:ByteArray) :
  Calls prog 18 #[.pointer (some ⟨M,0,none⟩),.string k] w (Qwj H M es k w):=by
 obtain⟨i0,hi,c3,c6,c8⟩:=eG Tryz.Qa1;have Y:=QuO h k;rw[Qvq e7]at Y;have b5:=QqF e7 k;have b3:=Qvq e7 k;have e8:=h;obtain⟨hm,s,xs,hb,hs,b6⟩:=h;obtain⟨p,hp⟩:∃p,Qcc es k=p:=⟨_,rfl⟩;rw[hp]at Y b5 b3;cases hg:Qam es k with
 | none=>
   rw[hg]at Y;have a3:=hY Y;have HM:=hY e8;have HD:=hY (Qom hg);have HG:=hY hg;clear Y b5 b3 e8 hb hs b6 hg hp;go_in;go_wp2_with fail;refine a3.o.mono ?_;rintro e w2 ⟨rfl,nq,rfl⟩;have z:=(fv w).drewN nq;go_wp2_with fail;go_ret;exact⟨by rw[HG.o];rfl,by rw[HD.o];exact HM.o.ext z,z.st _⟩
 | some v=>
   rw[hg]at Y b3;have a4:=ft b3;have c4:p<xs.length:=by
    rw[<-b6,aq]at a4;rcases dL p xs.length with h|h
    .exact h
    rw[aQ h]at a4;cases a4
   rw[em a4]at b5;have f7:xs.length=es.length:=by rw[<-b6,ao]
   have g7:xs.length<=1000000:=by omega
   have he:(xs.take p++xs.drop (p+1)).map LE.ent=Qb2 es k:=by rw[b5,<-b6,aL,cO,cy]
   have c9:(xs.take p++xs.drop (p+1)).length=p+(xs.length -(p+1)):=by simp only[List.length_append,List.length_take,List.length_drop];omega
   have d5:=λ(w3:World) (s3:Sl)=>Qwo (w3:=w3) (s3:=s3) (L:=xs.take p++xs.drop (p+1)) (es:=Qb2 es k) hm hH hb hs (λy hy=>by
    rcases aB.1 hy with hy|hy
    .exact aN hy
    exact aD hy)
   have f8:=λ(W:World) (hW:Ext w W)=>(hs.mono (G:=Lt w) λi hi=>hi.1).agree (hW.agree λ_ h=>h)
   have h0:w.cell? ⟨M,0,none⟩=some (.slice s.a xs.length s.c):=hb.cell 0;have lM:=hb.lt;have a2:=hb.frozen 0;have g3:=hs.rd;obtain⟨gs,os,f6,-,-⟩:=g3;have c0:=hY d5;have d8:=hY f8;have HE:=hY he;have d3:=hY c9;have a3:=hY Y;have HG:=hY hg;clear d5 f8 he c9 Y b3 a4 b5 e8 hb hs b6 hg hp f7;generalize hn:xs.length=n at f6;cases f6 with
   |nil=>omega
   |zero=>omega
   | some _ sc _ _ hsc hscm hsF=>
     subst hn;have g8:(p:Int)+1<=(xs.length:Int):=by omega
     have i1:(p:Int)<=(xs.length:Int):=by omega
     have i3:(p:Int)<=(sc:Int):=by omega
     have g6:(p:Int)+1<=(sc:Int):=by omega
     have g9:(0:Int)<=(p:Int):=by omega
     have i4:(p:Int)<=(p:Int)+1:=by omega
     have g5:(0:Int)<=(p:Int)+1:=by omega
     have i2:((p:Int)+1).toNat=p+1:=by omega
     have d4:p<=maxLen:=by unfold maxLen;omega
     have d0:p*104<=140737488355328:=by omega
     by_cases d6:sc=p+1
     ·subst d6
      have b0:∀W,Ext w W->Rd W (Lt w) 7 ⟨some ⟨gs,os,none⟩,0⟩ 0 []:=λW hW=>⟨gs,os,.some _ _ _ _ (aw _) (aw _) hsF.1,rfl,λj u hj=>by simp at hj⟩
      have a5:∀W,Ext w W->Rd W (Lt w) 7 ⟨some ⟨gs,os,none⟩,p+1⟩ p (Qai (xs.take p)):=λW hW=>by have:=((d8.o W hW).take (b9 c4)).rd;rwa[ap,bx (b9 c4)]at this
      have e0:=hY b0;have e4:=hY a5;have c1:∀u∈([]:List Value),u.oneCell'=true:=by simp
      have e3:=hY c1;have a9:p+0<=maxLen:=by unfold maxLen;omega
      have b4:(p+0)*104<=140737488355328:=by omega
      clear b0 a5 c1;go_in;go_wp2_with fail;refine a3.o.mono ?_;rintro e w2 ⟨rfl,nq,rfl⟩;have z:=(fv w).drewN nq
      replace h0:=(z.cell lM).trans h0
      replace a2:=(z.frozen (o:=0) lM).trans a2
      have Z:=ab lM z.size;have f2:=z.size;generalize World.drewN w nq=W2 at *;have b7:=hY z;clear z a3;go_wp2_with fail;have f1:IntKind.i64.wrap ((p:Int)+1)=(p:Int)+1/\wrap64 ((p:Int)+1)=(p:Int)+1:=⟨by rw[ew];omega,by unfold wrap64;omega⟩;obtain⟨f0,c2⟩:=f1;go_region_law (first
       |(refine QvM _ rfl (.const (.slice none 0 0)) (.tmp 20) 22 rfl w.heap.size 70 i0 _ 7 104 underlying22 hi c3 c6 c8 rfl (by decide) (by rfl) (Lt w) ⟨some ⟨gs,os,none⟩,p+1⟩ p (Qai (xs.take p)) (by rfl) (e4.o _ b7.o.drew) (QaM _) d4 d0 f2 ?_;intro s1 w3 I D;replace D:=((fv W2).drew).trans D;have m3:=(D.cell (o:=0) Z).trans h0;have f3:=(D.frozen (o:=0) Z).trans a2;have e2:=ab Z D.size;have U:=hY (b7.o.trans D);have e6:=U.o.size;have a1:=hY I;clear I D)
       | (refine Qdp _ rfl (.tmp 21) (.tmp 28) 22 rfl w.heap.size 70 i0 _ 7 104 underlying22 hi c3 c6 c8 rfl (by decide) s1 p (Qai (xs.take p)) (by rfl) a1.o (Lt w) ⟨some ⟨gs,os,none⟩,0⟩ 0 [] (by rfl) (e0.o _ U.o) e3.o a9 b4 e6 ?_;intro s2 w4 R J e1;have a0:=J.cell0 (o:=0) (fv w3) (fun e=>cQ _ (ab lM (Qaa (s:=s1) a1.o e).1)) e2;have m4:=a0.1.trans m3;have f9:=a0.2;have b8:=hY (U.o.wr J (fun i hi=>(Qaa (s:=s1) a1.o hi).1));have f4:w4.frozen? ⟨M,0,none⟩=false:=by have h1:=b8.o.frozen (o:=0) lM;have h2:=U.o.frozen (o:=0) lM;rw [h1,←h2];exact f3
          have d7:=hY R;clear R J e1 a0))
      all_goals
       clear f0 c2;have c7:Qai (xs.take p++xs.drop (p+1))=Qai (xs.take p)++Qai (xs.drop (p+1)):=QaA _ _;have X:(xs.take p++xs.drop (p+1)).length=p+(xs.length -(p+1)):=d3.o;have g0:xs.length -(p+1)=0:=by omega
       have f5:xs.drop (p+1)=[]:=bu.2 (by omega);rw[g0]at X;rw[f5]at c7;rw[f5]at X c0 HE;have N:=c0.o w4 s2 b8.o (by rw[X,c7];exact d7.o) (by rw[X];omega) HE.o;rw[X]at N;have a6:=hY N;clear N;go_wp2_with fail;go_ret;exact⟨by rw[HG.o];rfl,a6.o⟩
     have g4:¬p+1=sc:=λe=>d6 e.symm
     have b0:∀W,Ext w W->Rd W (Lt w) 7 ⟨some ⟨gs,os+(p+1)*7,none⟩,sc -(p+1)⟩ (xs.length -(p+1)) (Qai (xs.drop (p+1))):=λW hW=>by have:=((d8.o W hW).drop (m:=p+1) (by omega)).rd;rwa[au]at this
     have a5:∀W,Ext w W->Rd W (Lt w) 7 ⟨some ⟨gs,os,none⟩,sc⟩ p (Qai (xs.take p)):=λW hW=>by have:=((d8.o W hW).take (b9 c4)).rd;rwa[ap,bx (b9 c4)]at this
     have e0:=hY b0;have e4:=hY a5;have c1:∀u∈((Qai (xs.drop (p+1))):List Value),u.oneCell'=true:=QaM _;have e3:=hY c1;have a9:p+(xs.length -(p+1))<=maxLen:=by unfold maxLen;omega
     have b4:(p+(xs.length -(p+1)))*104<=140737488355328:=by omega
     clear b0 a5 c1;go_in;go_wp2_with fail;refine a3.o.mono ?_;rintro e w2 ⟨rfl,nq,rfl⟩;have z:=(fv w).drewN nq
     replace h0:=(z.cell lM).trans h0
     replace a2:=(z.frozen (o:=0) lM).trans a2
     have Z:=ab lM z.size;have f2:=z.size;generalize World.drewN w nq=W2 at *;have b7:=hY z;clear z a3;go_wp2_with fail;have f1:IntKind.i64.wrap ((p:Int)+1)=(p:Int)+1/\wrap64 ((p:Int)+1)=(p:Int)+1:=⟨by rw[ew];omega,by unfold wrap64;omega⟩;obtain⟨f0,c2⟩:=f1;go_region_law (first
      |(refine QvM _ rfl (.const (.slice none 0 0)) (.tmp 20) 22 rfl w.heap.size 70 i0 _ 7 104 underlying22 hi c3 c6 c8 rfl (by decide) (by rfl) (Lt w) ⟨some ⟨gs,os,none⟩,sc⟩ p (Qai (xs.take p)) (by rfl) (e4.o _ b7.o.drew) (QaM _) d4 d0 f2 ?_;intro s1 w3 I D;replace D:=((fv W2).drew).trans D;have m3:=(D.cell (o:=0) Z).trans h0;have f3:=(D.frozen (o:=0) Z).trans a2;have e2:=ab Z D.size;have U:=hY (b7.o.trans D);have e6:=U.o.size;have a1:=hY I;clear I D)
      | (refine Qdp _ rfl (.tmp 21) (.tmp 28) 22 rfl w.heap.size 70 i0 _ 7 104 underlying22 hi c3 c6 c8 rfl (by decide) s1 p (Qai (xs.take p)) (by rfl) a1.o (Lt w) ⟨some ⟨gs,os+(p+1)*7,none⟩,sc - (p+1)⟩ (xs.length - (p+1)) (Qai (xs.drop (p+1))) (by rfl) (e0.o _ U.o) e3.o a9 b4 e6 ?_;intro s2 w4 R J e1;have a0:=J.cell0 (o:=0) (fv w3) (fun e=>cQ _ (ab lM (Qaa (s:=s1) a1.o e).1)) e2;have m4:=a0.1.trans m3;have f9:=a0.2;have b8:=hY (U.o.wr J (fun i hi=>(Qaa (s:=s1) a1.o hi).1));have f4:w4.frozen? ⟨M,0,none⟩=false:=by have h1:=b8.o.frozen (o:=0) lM;have h2:=U.o.frozen (o:=0) lM;rw [h1,←h2];exact f3
         have d7:=hY R;clear R J e1 a0))
     all_goals
      clear f0 c2;have c7:Qai (xs.take p++xs.drop (p+1))=Qai (xs.take p)++Qai (xs.drop (p+1)):=QaA _ _;have X:(xs.take p++xs.drop (p+1)).length=p+(xs.length -(p+1)):=d3.o;have N:=c0.o w4 s2 b8.o (by rw[X,c7];exact d7.o) (by rw[X];omega) HE.o;rw[X]at N;have a6:=hY N;clear N;go_wp2_with fail;go_ret;exact⟨by rw[HG.o];rfl,a6.o⟩
end Go.Proofs.YtkjkafgnnoidpaaGreatDoor
