/- What the theorem needs: no condition of its own. -/
import Derived.RangeFuncNested
import Derived.RangeFuncBound
import Derived.OwnWalkIn
import Derived.ProofKit
import Derived.OpenShut
import Derived.Test.YtdiecmkpbadgjaaGreatDoorPsb
set_option linter.all false
set_option maxRecDepth 100000
set_option maxHeartbeats 2000000
namespace Go.Proofs.YtdiecmkpbadgjaaGreatDoor
open Go.Proofs.Tryz
open Go.RowKit
def Qce(base:Nat)(s:Sl)(xs:List LE)(es:List Ent)(w:World)(e:Ending)(w':World):Prop:=
 ∃(s':Sl) (ys:List LE),e=.returned (.slice s'.a (xs.length+ys.length) s'.c)/\OE w' base s' (xs++ys)/\ys.map LE.ent=es/\Wr w w' s.row/\(s'.row=s.row\/∃b,s'.row=some b/\w.heap.size<=b)
variable{w w':World}{s s':Sl}{xs ys:List LE}{F:Nat->Prop}
theorem OE.append{base:Nat}(ho:OE w base s xs)(hv:QmT w F ys)(hF:∀b,F b->base<=b/\b<w.heap.size/\s.row≠some b)(hf:(xs.length+ys.length)*104<=140737488355328)
  (a2:w'.ownsRow base 78 7 (.slice s'.a (xs.length+ys.length) s'.c) (xs.length+ys.length) (QaD xs++QaD ys)) (a1:Wr w w' s.row) (a3:s'.row=s.row\/∃b,s'.row=some b/\w.heap.size<=b):OE w' base s' (xs++ys):=by
 have N:∀b,b<w.heap.size->s.row≠some b->s'.row≠some b:=λb hb hn he=>by
  rcases a3 with h |⟨g,h,hg⟩
  .exact hn (h▸he)
  rw[h]at he;simp at he;omega
 have a0:Agree (λb=>(base<=b/\b<w.heap.size)/\s.row≠some b) w w':=a1.agree (λi hi=>hi.1.2) (λk hk h=>h.2 hk);refine⟨by rw[aj,Qcp];exact a2,λx I=>?_,by rw[aj];exact hf⟩;have Z:∀i,((base<=i/\i<w.heap.size)/\s.row≠some i)->(base<=i/\i<w'.heap.size)/\s'.row≠some i:=λi hi=>⟨⟨hi.1.1,ab hi.1.2 a1.grown.size⟩,N i hi.1.2 hi.2⟩
 rcases aO.1 I with I|I
 .exact ⟨((ho.vals x I).1.agree a0).mono Z,(ho.vals x I).2⟩
 exact⟨(((hv x I).1.mono λi hi=>⟨⟨(hF i hi).1,(hF i hi).2.1⟩,(hF i hi).2.2⟩).agree a0).mono Z,(hv x I).2⟩
theorem QaU.base{es:List Ent}{e:Ending}(h:QaU es w e w'):∃(s:Sl) (ys:List LE),e=.returned (.slice s.a ys.length s.c)/\ys.map LE.ent=es/\OE w' w.heap.size s ys/\Ext w w':=h
theorem Qsy(h:Ext w w')(r:Option Nat):Wr w w' r:=⟨⟨h.below.os,h.below.tape,h.below.output,h.size,λk I _=>h.heap I⟩,h.fz⟩
variable{nv:Value}
theorem Qgy{es:List Ent}{base:Nat}(he:Calls prog 76 #[nv] w (QaU es w))(hk:∀W,Wr w W s.row->Calls prog 67 #[nv] W λe w'=>e=.returned (.slice none 0 0)/\W=w')
  (hb:base<=w.heap.size) (ho:OE w base s xs) (hl:xs.length+es.length<=1000000):Calls prog 60 #[.slice s.a xs.length s.c,nv] w (Qce base s xs es w):=by
 obtain⟨i0,hi,b4,c1,b9⟩:=eR Tryz.Qa8;obtain⟨HK,HO⟩:=Yb hk ho;clear hk ho;go_in;go_wp2_with fail;refine he.mono ?_;intro e w1 hp;obtain⟨sy,ys,rfl,a1,a6,I⟩:=hp.base;have b5:ys.length=es.length:=by rw[<-a1,aq]
 have a8:=HO.o.ext I;obtain⟨b0,b3,a3,b6⟩:=Ye a8 I a6 a1;have c2:xs.length+ys.length<=maxLen:=by unfold maxLen;omega
 have b8:base<=w1.heap.size:=ak hb I.size;have a5:(xs.length+ys.length)*104<=140737488355328:=oM
 clear hp a1 a6 I a8 b5;go_wp2_with(at_builtin;refine Qak _ rfl (.tmp 7) (.tmp 9) 41 rfl base 78 i0 _ 7 104 underlying41 hi b4 c1 b9 rfl oN s xs.length (QaD xs) rfl b0.o.own (In w.heap.size w1.heap.size) sy ys.length (QaD ys) rfl a3.o.es.rd (QbX ys) c2 a5 b8 ?_;intro s' w2 Z a2 a9);have a0:s'.row=s.row\/∃b,s'.row=some b/\w1.heap.size<=b:=by
  rcases a9 with h |⟨h,-⟩
  .exact .inl (by simp[Sl.row,h])
  exact .inr ⟨w1,by simp[Sl.row,h],ao _⟩
 have N:∀b,s.row=some b->b<w.heap.size:=λb hb=>(Qad HO.o.own hb).2
 have a4:=OE.append b0.o a3.o.es.vals (λb hb=>⟨Nat.le_trans ‹base<=w.heap.size› hb.1,hb.2,λe=>by have:=N b e;omega⟩) a5 Z a2 a0;obtain⟨b7,HW,c0⟩:=Yc a4 ((Qsy b3.o s.row).trans a2 (λi hi=>.inl hi)) a0;have a7:=b3.o.size;clear a4 Z a2 a9 a0 N;refine(HK.o w2 HW.o).mono ?_;rintro e w3 ⟨rfl,rfl⟩;go_wp2_with fail;go_loopw[0,14] (λv i wr=>v=.slice s'.a (xs.length+ys.length) s'.c/\i=.int .i64 0/\wr=w2) (λ_ _ _=>0)
 case atStart=>exact⟨rfl,rfl,rfl⟩
 obtain⟨rfl,rfl,rfl⟩:=hrel;go_wp2_with fail;go_ret;exact⟨s',ys,rfl,b7.o,b6.o,HW.o,c0.o.imp_right λ⟨b,h1,h2⟩=>⟨b,h1,ak a7 h2⟩⟩
structure QqX(base:Nat)(s:Sl)(xs:List LE)(w wr:World)(s':Sl)(ys:List LE):Prop where
 own:OE wr base s' (xs++ys)
 wr:Wr w wr s.row
 row:s'.row=s.row\/∃b,s'.row=some b/\w.heap.size<=b
variable{h:Nat}
theorem Qk7(ih:∀(t:PT h) (w:World) (F:Nat->Prop) (base:Nat) (s:Sl) (xs:List LE),IsN w F h t->(∀b,F b->b<w.heap.size/\s.row≠some b)->base<=w.heap.size->OE w base s xs->OkT h t->xs.length+(ents h t).length<=1000000->Calls prog 60 #[.slice s.a xs.length s.c,ptr h t] w (Qce base s xs (ents h t) w))
  {t:PT (h+1)} {base:Nat} (hn:IsN w F (h+1) t) (hF:∀b,F b->b<w.heap.size/\s.row≠some b) (hb:base<=w.heap.size) (ho:OE w base s xs) (ok:OkT (h+1) t) (hl:xs.length+(ents (h+1) t).length<=1000000) :
  Calls prog 60 #[.slice s.a xs.length s.c,ptr (h+1) t] w (Qce base s xs (ents (h+1) t) w):=by
 obtain⟨i0,hi,f3,e8,e6⟩:=eR Tryz.Qa8;have e7:=ok.2.1;have f1:=ok.1;have hc:=Qb9 hn oM;have e0:∀x∈t.2,IsN w F h x:=hn.2.choose_spec.2.2;have he:=Qin hn;obtain⟨f0,HO,HF,g3,g0,HL⟩:=Yg ih ho hF e0 ok hl;have f7:xs.length+0<=maxLen:=by unfold maxLen;omega
 have d0:(xs.length+0)*104<=140737488355328:=oM
 have f5:=hY hn;clear ih ho hF e0 ok hl hn hc;go_in;go_wp2_with fail;refine he.mono ?_;rintro e w1 ⟨rfl,rfl⟩;go_wp2_with(at_builtin;refine Qak _ rfl (.tmp 7) (.tmp 9) 41 rfl base 78 i0 _ 7 104 underlying41 hi f3 e8 e6 rfl oN s xs.length (QaD xs) rfl HO.o.own (λ_=>True) Sl.none 0 [] rfl (Rd.nil _ _ _) oO f7 d0 hb ?_;intro s' w2 I a6 c2);have b6:s'.row=s.row\/∃b,s'.row=some b/\w.heap.size<=b:=by
  rcases c2 with h |⟨h,-⟩
  .exact .inl (by simp[Sl.row,h])
  exact .inr ⟨w,by simp[Sl.row,h],ao _⟩
 have a4:OE w2 base s' (xs++[]):=OE.append (F:=λ_=>False) HO.o (λx hx=>by simp at hx) (λb hb=>hb.elim) d0 (by simpa[Qpe]using I) a6 b6;rw[aU]at a4;have a2:∀b,s'.row=some b->b<w2.heap.size:=λb hb=>(Qad a4.own hb).2
 have d6:IsN w2 F (h+1) t:=f5.out.agree (a6.agree (λi hi=>(HF.o i hi).1) (λk hk h=>(HF.o k h).2 hk));have c9:=Qb9 d6 oM;have a8:=hY (show QqX base s xs w w2 s' []from⟨by rw[aU];exact a4,a6,b6⟩);clear c2 I a4 a6 b6 d6;refine c9.mono ?_;rintro e w3 ⟨sk,rfl,I,b5⟩;obtain⟨g,d7,rfl,g5,c3,b9,a9⟩:=QaJ I oM;have a1:Rd w3 (λb=>b=g) 1 ⟨some g,d7⟩ t.2.length (ptrs h t.2):=by
  obtain⟨b,o,h1,h2,h3⟩:=gz I;obtain⟨e1,c3,b9⟩:=h1.eq oM;obtain⟨rfl,rfl⟩:g=b/\0=o:=by simpa using e1
  exact⟨g,0,.some _ _ _ _ c3 b9 rfl,h2,h3⟩
 have f8:s'.row≠some g:=λe=>by have:=a2 g e;omega
 have e4:g<w3:=a9.lt;obtain⟨f9,f6⟩:=Yb (show QqX base s xs w w3 s' []from⟨a8.o.own.ext b5,a8.o.wr.trans (Qsy b5 none) (λi hi=>by cases hi),a8.o.row⟩) a1;clear a9 I b5 a1 c9 a2 a8;go_wp2_with fail;go_loopw[0,14] (λv i wr=>∃(j:Nat) (a0:Sl) (ys:List LE),j<=t.2.length/\i=.int .i64 j/\v=.slice a0.a (xs.length+ys.length) a0.c/\ys.map LE.ent=(t.2.take j).flatMap (ents h)/\QqX base s xs w wr a0 ys/\Rd wr (λb=>b=g) 1 ⟨some g,d7⟩ t.2.length (ptrs h t.2)/\a0.row≠some g/\g<wr)
  (λ_ i _=>t.2.length -(intOf i).toNat)
 case atStart=>exact⟨0,s',[],aA _,rfl,rfl,rfl,f9.o,f6.o,f8,e4⟩
 obtain⟨j,a0,ys,hj,rfl,rfl,a5,hG,a1,b0,d8⟩:=hrel;obtain⟨c7,HG,HR⟩:=Yc a5 hG a1;by_cases c8:j<t.2.length
 ·obtain ⟨Z,N⟩:∃ Z,t.2[j]? = some Z:=⟨_,ac c8⟩
  obtain⟨b,o,c6,-,-,-,c1⟩:=a1.QcV N;obtain⟨rfl,rfl⟩:g=b/\0=o:=by simpa using c6
  have kc:wr.cell? ⟨g,j,none⟩=some (ptr h Z):=by simpa using c1
  have g6:(j:Int)<(t.2.length:Int):=oM
  have b7:=am N;have b8:ys.length+(ents h Z).length<=(ents (h+1) t).length:=by
   have e1:ys.length=((t.2.take j).flatMap (ents h)).length:=by rw[<-a5,aq]
   show _<=(t.2.flatMap (ents h)).length;rw[e1]
   conv=>rhs;rw[QbI N]
   simp only[List.flatMap_append,List.flatMap_cons,List.length_append];omega
  have b4:=f0.o Z wr F base a0 (xs++ys) ((g3.o Z b7).agree (hG.wr.agree (λi hi=>(HF.o i hi).1) (λk hk h=>(HF.o k h).2 hk)))
   (λb hb=>⟨Nat.lt_of_lt_of_le (HF.o b hb).1 hG.wr.grown.size,λe=>by
     rcases hG.row with h |⟨b',h,a3⟩
     .exact (HF.o b hb).2 (h▸e)
     rw[h]at e;simp at e;have:=(HF.o b hb).1;omega⟩)
   (ak hb hG.wr.grown.size) hG.own (g0.o.2.2 Z b7).1 (by have:=HL.o;rw[aj];omega)
  rw[aj]at b4;have HK:=hY N;clear a5 hG a1 N c6 c1 b7 b8;go_wp2_with fail;refine b4.mono ?_;rintro e w4 ⟨s4,zs,rfl,c0,d5,a7,b3⟩;have HZ:=hY d5;have e3:s4.row≠some g:=λe=>by
   rcases b3 with h |⟨b',h,a3⟩
   .exact b0 (h▸e)
   rw[h]at e;simp at e;omega
  have e2:QqX base s xs w w4 s4 (ys++zs):=by
   refine⟨by rw[<-aT];exact c0,HG.o.wr.trans a7 (λi hi=>?_),?_⟩
   ·rcases HG.o.row with h | ⟨b',h,a3⟩
    .exact .inl (h▸hi)
    rw[h]at hi;simp at hi;exact .inr oM
   rcases b3 with h |⟨b',h,a3⟩
   .rw [h];exact HG.o.row
   exact .inr ⟨b',h,ak HG.o.wr.grown.size a3⟩
  have c4:=HR.o.agree (a7.agree (F:=λb=>b=g) (λi hi=>oM) (λk hk e=>b0 (e▸hk)));have d3:g<w4:=ab d8 a7.grown.size;obtain⟨g4,f4⟩:=Yb e2 c4;have d4:(xs++ys).length+zs.length=xs.length+(ys++zs).length:=by simp[Nat.add_assoc]
  have f2:=hY d4;clear d5 c0 a7 b3 e2 c4 d4 b4;go_wp2_with fail;go_roundw
  case rel=>exact⟨j+1,s4,ys++zs,c8,by go_num,by rw[<-f2.o];simp,by rw[aB,c7.o,HZ.o,aJ,HK.o];simp,g4.o,f4.o,e3,d3⟩
  simp[intOf];omega
 obtain rfl:j=t.2.length:=oM
 clear a5 hG a1;go_wp2_with fail;go_ret;exact⟨a0,ys,rfl,HG.o.own,by rw[c7.o,aR];rfl,HG.o.wr,HG.o.row⟩
theorem Qhu:∀(h:Nat) (t:PT h) (w:World) (F:Nat->Prop) (base:Nat) (s:Sl) (xs:List LE),IsN w F h t->(∀b,F b->b<w.heap.size/\s.row≠some b)->base<=w.heap.size->OE w base s xs->OkT h t->xs.length+(ents h t).length<=1000000->Calls prog 60 #[.slice s.a xs.length s.c,ptr h t] w (Qce base s xs (ents h t) w)
 | 0,t,w,F,base,s,xs,hn,hF,I,ho,_,hl=>
   Qgy (Qa5 (hn.mono λb I=>(hF b I).1)) (λW Z=>QjP (hn.agree (Z.agree (λi hi=>(hF i hi).1) (λk N h=>(hF k h).2 N)))) I ho hl
 |h+1,t,w,F,base,s,xs,hn,hF,I,ho,ok,hl=>Qk7 (Qhu h) hn hF I ho ok hl
theorem Qmd(w:World):Calls prog 67 #[.pointer none] w λe w'=>e=.returned (.slice none 0 0)/\w=w':=by
 go_in;go_wp2_with fail;go_ret;exact⟨rfl,rfl⟩
variable{T:RT}
theorem Qk6{base:Nat}(N:IsT w F T)(hF:∀b,F b->b<w.heap.size/\s.row≠some b)(Z:base<=w.heap.size)(ho:OE w base s xs)(ok:OkR T)(I:xs.length+(Qaa T).length<=1000000) :
  Calls prog 60 #[.slice s.a xs.length s.c,QaK T] w (Qce base s xs (Qaa T) w):=by
 match T,N,ok,I with
 |none,_,_,I=>exact Qgy ((Qej w).mono λe w' ⟨h1,h2⟩=>⟨Sl.none,[],h1,rfl,OE.nil _ _,h2▸gh w⟩) (λW _=>Qmd W) Z ho I
 |some ⟨h,t⟩,N,ok,I=>exact Qhu h t w F base s xs N hF Z ho ok.1 I
theorem Qfb(I:IsT w F T):Calls prog 73 #[QaK T] w λe w'=>e=.returned (.int .i64 (Qaa T).length)/\w=w':=by
 match T,I with
 |none,_=>exact count_nil w
 |some ⟨h,t⟩,I=>exact Qjp I
theorem QlI(hF:∀b,F b->b<w.heap.size)(I:IsT w F T):Calls prog 46 #[Qao T] w λe w'=>e=.returned (.int .i64 (Qaa T).length)/\Ext w w':=by
 have N:Ext w (w.alloc (.cells #[QaK T] 48)):=(gh w).alloc _ _;have Z:=Qfb (I.agree (N.agree hF));clear hF I;go_in;go_wp2_with fail;refine Z.mono ?_;rintro e w' ⟨rfl,rfl⟩;go_wp2_with fail;go_ret;exact⟨rfl,N⟩
theorem QdN(w:World)(v:Value):Calls prog 141 #[.agg #[v]] w λe w'=>e=.returned v/\Ext w w':=by
 go_in;go_wp2_with fail;go_ret;exact⟨rfl,(gh w).alloc _ _⟩
theorem Qg1(hF:∀b,F b->b<w.heap.size)(hT:IsT w F T)(ok:OkR T)(hl:(Qaa T).length<=1000000):Calls prog 37 #[Qao T] w (QaU (Qaa T) w):=by
 obtain⟨i0,hi,a0,a5,a2⟩:=eR Tryz.Qa8;have a7:∀W,Ext w W->Calls prog 46 #[Qao T] W λe w'=>e=.returned (.int .i64 (Qaa T).length)/\Ext W w':=λW hW=>
  QlI (λb hb=>ab (hF b hb) hW.size) (hT.agree (hW.agree hF))
 have a6:∀(W:World) (s:Sl),Ext w W->OE W w.heap.size s []->Calls prog 60 #[.slice s.a 0 s.c,QaK T] W (Qce w.heap.size s [] (Qaa T) W):=λW s hW ho=>
  Qk6 (xs:=[]) (hT.agree (hW.agree hF)) (λb hb=>⟨Nat.lt_of_lt_of_le (hF b hb) hW.size,λe=>by have:=(Qad ho.own e).1;have:=hF b hb;omega⟩) hW.size ho ok (by simpa using hl)
 generalize Qaa T=es at *;obtain⟨Z,a4,b7⟩:∃Z:Array Value,Z.size=es.length*7/\∀W,(Instr.makeSlice 41 (.int .i64 0) (.int .i64 (es.length:Int))).run prog W=.ok (.slice (some W) 0 es.length) (W.alloc (.cells Z 78)):=by
  refine⟨madeCells (Value.cells (.agg #[ByteArray.empty,.int .i64 0,false,.int .i64 0,ByteArray.empty,.slice none 0 0,.slice none 0 0])) (es.length*7),fV _ _,λW=>?_⟩;have h:=QbG (P:=prog) 41 78 i0 _ underlying41 hi a0 .i64 .i64 0 es.length (aA _) (by rw[a2];omega) oM W;rw[a5]at h;exact h
 obtain⟨b0,a9,a8⟩:=Yc a4 a7 a6;clear hF hT ok a7 a6 hi a0 a5 a2 a4;go_in;go_wp2_with fail;have N:Ext w (w.alloc (.cells #[QaK T] 48)):=(gh w).alloc _ _;have a1:=gm w 48 #[QaK T];generalize b4:World.alloc _ _=W0 at *;have r0:W0.cell? w=some (QaK T):=a1.cell 0;have l0:=a1.lt;clear b4;go_region_held3 (λw'=>w'.cell? w=some (QaK T)) (first |(with_reducible exact r1) |(with_reducible exact r3)|go_keep)
  (first
    |(go_at_call 46;refine(a9.o _ ?_).mono ?_;(exact N.drew);rintro e w1 ⟨rfl,I⟩;have r1:=(I.cell (o:=0) l0).trans r0;have l1:=ab l0 I.size)
    |(go_at_call 60;refine(a8.o _ ⟨some w1,es.length⟩ ?_ ?_).mono ?_;(exact((N.drew).trans I).alloc _ _);(exact⟨World.ownsRow_made w1 Z es.length ((N.drew).trans I).size (by unfold maxLen;omega) b0.o,λx hx=>by simp at hx,oO⟩);rintro e w3 ⟨s3,ys,rfl,b3,b5,a3,b6⟩;have r3:w3.cell? w=some (QaK T):=(fb (w:=w1.alloc (.cells Z 78)) (a:=⟨w,0,none⟩) (a3.grown.block w.heap.size (by rw[eK];omega) (λe=>by simp[Sl.row]at e;omega))).trans ((World.cell?_alloc_lt _ _ _ l1).trans r1))
    )
 go_wp2_with fail;go_ret;have hX:=((N.drew).trans I).alloc Z 78;exact⟨s3,ys,rfl,b5,by simpa using b3,hX.wr a3 (λi hi=>by simp[Sl.row]at hi;have:=((N.drew).trans I).size;omega)⟩
section
variable{P : Program}(w : World)
theorem Qdi{ops:Array Oper}{o:Oper}{a:Act}{K:Act->World->Prop}{Q:Exit->Act->World->Prop}{E:Prop}(a7:o.guard=none)(s' x:Operand)(t:TypeId)
  (ho:o.op=.call { callee:=.builtin .append,args:=#[s',x],argTypes:=#[t,t] })
  (base:Nat) (e:TypeId) (i:TypeInfo) (z:Value) (size I:Nat) (ht:P.underlying t=some (.slice e)) (hi:P.info? e=some i) (hz:i.zero=some z)
  (a0:i.size=size) (a4:i.bytes=I) (a5:z.cells.size=size) (a8:0<size)
  (s:Sl) (n:Nat) (xs:List Value) (hs:a.eval s'=.slice s.a n s.c) (a3:w.ownsRow base e size (.slice s.a n s.c) n xs)
  (F:Nat->Prop) (sx:Sl) (m:Nat) (N:List Value) (hx:a.eval x=.slice sx.a m sx.c) (a2:Rd w F size sx m N) (h1:∀u∈N,u.oneCell'=true)
  (a6:n+m<=maxLen) (Z:(n+m)*I<=140737488355328) (a1:base<=w.heap.size)
  (h:∀(s':Sl) (w':World),w'.ownsRow base e size (.slice s'.a (n+m) s'.c) (n+m) (xs++N)->Wr w w' s.row->(s'.a=s.a\/s'.a=some ⟨w,0,none⟩/\Wr w w' none)->K (a.put o.dst (.slice s'.a (n+m) s'.c)) w') :
  if Region.wanted o (yielded ops a.tmps)=true then Oper.wp P o a w K Q else E:=by
 have hw:Region.wanted o (yielded ops a.tmps)=true:=by simp[Region.wanted,a7]
 rw[eH hw];exact Qdl w s' x t ho base e i z size I ht hi hz a0 a4 a5 a8 s n xs hs a3 F sx m N hx a2 h1 a6 Z a1 h
theorem Rd.block{w:World}{g:Nat}{t:TypeId}{cs:List Value}{size n:Nat}(N:Blk w g t cs.toArray)(I:n<=maxLen)(hl:cs.length=n*size):Rd w (λb=>b=g) size ⟨some g,n⟩ n cs:=
 ⟨g,0,.some _ _ _ _ (ao _) I rfl,hl,λj u Z=>by rw[aD,N.cell];simpa using Z⟩
end
abbrev gA:=@Rd.block
def Qw6(es:List Ent)(w:World)(e:Ending)(w':World):Prop:=
 ∃T,e=.returned (Qao T)/\Qwz es T/\IsT w' (In w.heap.size w'.heap.size) T/\Ext w w'
theorem Qaj(T:RT):∃p,QaK T=.pointer p:=by
 match T with
 |none=>exact⟨_,rfl⟩
 |some ⟨h,t⟩=>exact⟨_,rfl⟩
theorem ES.ext(h:ES w (Lt w) s xs)(I:Ext w w'):ES w' (Lt w') s xs:=(h.agree (I.agree λ_ h=>h)).mono λ_ hi=>ab hi I.size
theorem Qx5(hs:ES w (Lt w) s xs)(hl:xs.length<=500000):Calls prog 15 #[.slice s.a xs.length s.c] w (Qw6 (xs.map LE.ent) w):=by
 have HS:=hY hs;clear hs;go_in;go_wp2_with fail;generalize b3:World.alloc (World.alloc _ _) _=W0;obtain⟨a6,c1,a7,a5⟩:=Qas w _ _ _ _ W0 b3;clear b3;go_loopw[8] (λi wr=>∃(j:Nat) (T:RT) (p:Option Addr),j<=xs.length/\i=.int .i64 j/\Ext w wr/\Blk wr w.heap.size 48 #[.pointer none]/\Blk wr (w.heap.size+1) 48 #[.pointer p]/\Yd (QaK T=.pointer p)/\Qwz ((xs.take j).map LE.ent) T/\IsT wr (In (w.heap.size+2) wr.heap.size) T)
  (λi _=>xs.length -(intOf i).toNat)
 case atStart=>exact⟨0,none,none,aA _,rfl,a6,a7,a5,hY rfl,.nil,trivial⟩
 obtain⟨j,T,p,hj,rfl,hx,hR,hS,HP,hB,hT⟩:=hrel;clear a6 c1 a7 a5;obtain⟨HX,HR,HB,HT,b7⟩:=Yf hx hR hB hT hS;have c0:wr.cell? ⟨w+1,0,none⟩=some (.pointer p):=hS.cell 0;have fS:=hS.frozen;have lS:=hS.lt;by_cases a0:j<xs.length
 ·obtain ⟨x,N⟩:∃ x,xs[j]? = some x:=⟨_,ac a0⟩
  obtain⟨b,o,ha,d3,c9,c8,k0,hv,a9,c4⟩:=(HS.o.ext hx).at N;obtain⟨v0,v1,v2,v3,v4,v5⟩:=hv.m;have c7:(j:Int)<(xs.length:Int):=oM
  have a2:=hB.both;have a4:∀W,Ext wr W->Calls prog 28 #[.agg #[.pointer p],.string x.k,QbV x.v x.sl x.so] W (QsR (In (w.heap.size+2) wr.heap.size) T x.k x.v W):=λW hW=>by
   rw[<-HP.o];exact Qqf (λb Z=>ab Z.2 hW.size) (hT.agree (hW.agree λb Z=>Z.2)) a2.1 (by
    rw[a2.2];have:=QnJ ((xs.take j).map LE.ent) [];simp only[List.length_map,List.length_take,List.length_nil]at this;omega) c4 ((a9.agree (hW.agree λb Z=>Z)).mono λb Z=>ab Z hW.size)
  obtain⟨sa,sc⟩:=s;dsimp only at ha;subst ha;obtain⟨b8,c3⟩:=Yb a4 N;clear hx hR hS hB hT N hv a9 a2 a4;go_wp2_with fail;refine(b8.o _ ((gh wr).alloc _ _)).mono ?_;rintro e w2 ⟨T2,rfl,b4,b0,b6⟩;obtain⟨p2,a1⟩:=Qaj T2;have c6:=hY a1;dsimp only[Qao];rw[a1];clear a1;have I:Ext wr w2:=((gh wr).alloc _ _).trans b6;have d0:w2.cell? ⟨w+1,0,none⟩=some (.pointer p):=(I.cell lS).trans c0;have f2:∀o,w2.frozen? ⟨w+1,o,none⟩=false:=λo=>(I.frozen lS).trans (fS o)
  have hE:=(HX.o.trans I).setCell (p:=⟨w+1,0,none⟩) (show w.heap.size<=w.heap.size+1 by omega) (.pointer p2);have b5:=(HR.o.ext I).far (p:=⟨w+1,0,none⟩) oO (.pointer p2);have a3:Blk (w2.setCell ⟨w+1,0,none⟩ (.pointer p2)) (w.heap.size+1) 48 #[.pointer p2]:=(b7.o.ext I).QbH 0 _;have a8:IsT (w2.setCell ⟨w+1,0,none⟩ (.pointer p2)) (In (w.heap.size+2) (w2.setCell ⟨w+1,0,none⟩ (.pointer p2)).heap.size) T2:=by
   have c2:=I.size;have a0:=lS;have hm:∀i,Up (In (w.heap.size+2) wr.heap.size) (wr.alloc (.cells #[.string x.k,.int .i64 x.v.kind,.bool x.v.b,.int .i64 x.v.i,.string x.v.t,.slice x.sl.a x.v.l.length x.sl.c,.slice x.so.a x.v.ok.length x.so.c] 78)) w2 i->In (w.heap.size+2) w2.heap.size i:=λi hi=>by
    rcases hi with hi|hi
    .exact ⟨hi.1,ab hi.2 c2⟩
    have:=hi.1;simp at this;exact⟨oM,hi.2⟩
   refine((b0.mono hm).agree (gw w2 ⟨w+1,0,none⟩ _ (λh=>by have h1:w.heap.size+2<=w.heap.size+1:=h.1;omega))).mono λi hi=>⟨hi.1,by simpa using hi.2⟩
  obtain⟨b9,H1,H2,H3,H4⟩:=Yf (Qwz.snoc HB.o b4) hE b5 a3 a8;clear b4 b0 b6 I hE b5 a3 a8;go_wp2_with fail;go_roundw
  case rel=>exact⟨j+1,T2,p2,a0,by go_num,H1.o,H2.o,H3.o,c6,by rw[aJ,c3.o,aB];exact b9.o,H4.o⟩
  simp[intOf];omega
 obtain rfl:j=xs.length:=oM
 have r0:wr.cell? w=some (.pointer none):=hR.cell 0;have fR:=hR.frozen;clear hx hR hS hB hT;go_wp2_with fail;have q0:(wr.setCell w (.pointer p)).cell? w=some (.pointer p):=fc wr _ _ r0;refine eN (v:=.agg #[.pointer p]) (by simp[results,results15,go_sem,q0]) rfl ?_;refine⟨T,by rw[Qao,HP.o],by have:=HB.o;rwa[aR]at this,?_,HX.o.setCell (p:=⟨w,0,none⟩) (ao _) _⟩;exact(HT.o.agree (gw wr w _ (λh=>by have h1:w.heap.size+2<=w.heap.size:=h.1;omega))).mono λi hi=>⟨by have:=hi.1;omega,by simpa using hi.2⟩
theorem Qx4(hs:ES w (Lt w) s xs)(I:xs.length<=100000):Calls prog 15 #[.slice s.a xs.length s.c] w (Qw6 (xs.map LE.ent) w):=Qx5 hs oM
structure Chg where
 k:ByteArray
 had:Bool
 was:Val
 has:Bool
 is_:Val
def Qiu(e:Ent):Chg:=⟨e.1,true,e.2,false,zeroV⟩
def Qjn(e:Ent):Chg:=⟨e.1,false,zeroV,true,e.2⟩
def Qq4(e f:Ent):List Chg:=if Qbq e.2 f.2=0 then[]else[⟨e.1,true,e.2,true,f.2⟩]
def chg:List Ent->List Ent->List Chg
 |[],b=>b.map Qjn
 |e::a,[]=>Qiu e::a.map Qiu
 |e::a,f::b=>if klt e.1 f.1 then Qiu e::chg a (f::b)else if klt f.1 e.1 then Qjn f::chg (e::a) b else Qq4 e f++chg a b
termination_by a b=>a.length+b.length
theorem Qib(a:List Ent):chg a []=a.map Qiu:=by cases a<;>simp[chg]
theorem Qli(b:List Ent):chg [] b=b.map Qjn:=by simp[chg]
variable{e:Ent}
theorem Qq8{a b:List Ent}(h:∀f∈b.head?,klt e.1 f.1=true):chg (e::a) b=Qiu e::chg a b:=by
 cases b with
 |nil=>rw[Qib,Qib];rfl
 |cons f b=>rw[chg,eH (h f rfl)]
theorem Qq7{f:Ent}{a b:List Ent}(h:∀e∈a.head?,klt f.1 e.1=true):chg a (f::b)=Qjn f::chg a b:=by
 cases a with
 |nil=>rw[Qli,Qli];rfl
 |cons e a=>rw[chg,eE (by rw[Qbh (h e rfl)];simp),eH (h e rfl)]
theorem QlU{e f:Ent}{a b:List Ent}(h:e.1=f.1):chg (e::a) (f::b)=Qq4 e f++chg a b:=by
 rw[chg,h,eE (by rw[Qag];simp),eE (by rw[Qag];simp)]
theorem Qic(a b:List Ent):∀c:List Ent,chg (c++a) (c++b)=chg a b
 |[]=>rfl
 |e::c=>by rw[aM,aM,QlU rfl,Qq4,eH (QcN _),aG,Qic a b c]
theorem QlV(a:List Ent):chg a a=[]:=by
 have:=Qic [] [] a;rw[aU,Qib]at this;exact this
abbrev AN:=(h:Nat) × PT h
def AN.es(a:AN):List Ent:=ents a.1 a.2
def AN.at_(a:AN):Nat:=addr a.1 a.2
def AN.ok(a:AN):Prop:=OkT a.1 a.2/\1<=size a.1 a.2
def Qfa(ns:List AN):List Ent:=ns.reverse.flatMap AN.es
def QcE(h:Nat)(t:PT (h+1)):List AN:=t.2.map (Sigma.mk h)
theorem Qhq(I:List AN)(a:AN):Qfa (I++[a])=a.es++Qfa I:=by simp[Qfa]
theorem Qm4(I:List AN)(h:Nat)(t:PT (h+1)):Qfa (I++(QcE h t).reverse)=ents (h+1) t++Qfa I:=by
 simp only[Qfa,List.reverse_append,List.reverse_reverse,List.flatMap_append,QcE,List.flatMap_map];rfl
def QbQ:(h:Nat)->PT h->Nat
 |0,_=>1
 |h+1,t=>1+(t.2.map (QbQ h)).sum
theorem QgN:∀(h:Nat) (t:PT h),1<=QbQ h t
 |0,_=>ao _
 |h+1,t=>by simp[QbQ]
def wtA(a:AN):Nat:=QbQ a.1 a.2+a.es.length
structure Qat where
 es:List Ent
 ns:List AN
 o:Nat
def Qat.cont(x:Qat):List Ent:=x.es++Qfa x.ns
def Qat.wt(x:Qat):Nat:=x.es.length+(x.ns.map wtA).sum
def Qat.ok(x:Qat):Prop:=∀a∈x.ns,a.ok
def Qat.node(x:Qat):Option AN:=if x.es=[]then x.ns.getLast? else none
def Qat.gone(x:Qat):Prop:=x.es=[]/\x.ns=[]
def Qat.height(x:Qat):Int:=if x.es=[]then(match x.ns.getLast? with|some a=>(a.1:Int)|none=>0)else -1
def Qat.first(x:Qat):ByteArray:=match x.es with|e::_=>e.1 | []=>(match x.ns.getLast? with|some a=>Qav a.es|none=>ByteArray.empty)
def Qat.last(x:Qat):ByteArray:=match x.es with|e::_=>e.1 | []=>(match x.ns.getLast? with|some a=>Qbl a.es|none=>ByteArray.empty)
def Qat.skip(x:Qat):Qat:=⟨x.es,x.ns.dropLast,x.o⟩
def Qat.take(x:Qat):Qat:=⟨x.es.tail,x.ns,x.o⟩
def Qat.open_(x:Qat):Qat:=match x.ns.getLast? with
 |none=>x
 |some ⟨0,t⟩=>⟨t.2,x.ns.dropLast,x.o+1⟩
 |some ⟨h+1,t⟩=>⟨x.es,x.ns.dropLast++(QcE h t).reverse,x.o+1⟩
def Qat.head(x:Qat):Ent:=x.es.headD (ByteArray.empty,zeroV)
theorem QeM{α:Type}{l:List α}{a:α}(h:l.getLast? = some a):l=l.dropLast++[a]:=by
 obtain⟨ys,rfl⟩:=List.getLast?_eq_some_iff.1 h;simp
theorem Qat.QaQ{x:Qat}{a:AN}(h:x.node=some a):x.es=[]/\x.ns=x.ns.dropLast++[a]/\x.ns.getLast? = some a:=by
 unfold Qat.node at h;split at h
 .exact ⟨‹_›,QeM h,h⟩
 cases h
theorem Qat.QpT{x:Qat}(h:x.node=none)(I:¬x.gone):∃e es,x.es=e::es:=by
 unfold Qat.node at h;split at h
 .exact absurd ⟨‹_›,cW.1 h⟩ I
 exact List.exists_cons_of_ne_nil ‹_›
theorem Qat.Qc6{x:Qat}{a:AN}(h:x.node=some a):x.height=a.1:=by
 obtain⟨h1,-,h2⟩:=x.QaQ h;simp[Qat.height,h1,h2]
theorem Qat.Qcy{x:Qat}{es:List Ent}(h:x.es=e::es):x.height = -1:=by simp[Qat.height,h]
theorem Qrk{es:List Ent}(h:es≠[]):∃e l,es=e::l/\Qav es=e.1:=by
 obtain⟨e,l,rfl⟩:=List.exists_cons_of_ne_nil h;exact⟨e,l,rfl,rfl⟩
theorem AN.ne{a:AN}(h:a.ok):a.es≠[]:=λe=>by
 have:=Qbk a.1 a.2 h.1 h.2;have e:ents a.1 a.2=[]:=e;rw[e]at this;cases this
theorem Qat.Qht{x:Qat}(ok:x.ok)(hn:¬x.gone):∃e l,x.cont=e::l/\x.first=e.1:=by
 obtain⟨es,I,o⟩:=x;cases es with
 |cons e l=>exact⟨e,l++Qfa I,rfl,rfl⟩
 | nil=>
   cases N:I.getLast? with
   |none=>exact absurd ⟨rfl,cW.1 N⟩ hn
   | some a=>
     have e1:=QeM N;obtain⟨e,l,e2,Z⟩:=Qrk (AN.ne (ok a (bO N)));refine⟨e,l++Qfa I.dropLast,?_,?_⟩
     ·show []++Qfa I=_
      rw[aG,e1,Qhq,e2];simp
     simp[Qat.first,N,Z]
theorem Qat.Qcg{x:Qat}{es:List Ent}(h:x.es=e::es):x.cont=e::x.take.cont/\x.first=e.1/\x.last=e.1/\x.head=e:=by
 obtain⟨l,I,o⟩:=x;dsimp only at h;subst h;exact⟨rfl,rfl,rfl,rfl⟩
theorem Qat.QeC{x:Qat}(h:x.gone):x.cont=[]:=by
 obtain⟨es,I,o⟩:=x;obtain⟨rfl,rfl⟩:es=[]/\I=[]:=h;rfl
theorem Qat.QeD{x:Qat}{a:AN}(h:x.node=some a):x.open_.cont=x.cont/\x.cont=a.es++x.skip.cont:=by
 obtain⟨h1,h2,N⟩:=x.QaQ h;obtain⟨es,I,o⟩:=x;dsimp only at h1 h2 N;subst h1;have Z:(Qat.mk [] I o).cont=a.es++(Qat.mk [] I o).skip.cont:=by
  show[]++Qfa I=a.es++([]++Qfa I.dropLast);rw[aG,aG]
  conv=>lhs;rw[h2]
  exact Qhq _ _
 refine⟨?_,Z⟩;rw[Z];obtain⟨n,t⟩:=a;cases n with
 |zero=>simp only[Qat.open_,N];rfl
 | succ n=>
   simp only[Qat.open_,N];show[]++Qfa _=_;rw[aG,Qm4];rfl
theorem Qkw{I:List AN}{a:AN}(h:I=I.dropLast++[a]):(I.map wtA).sum=(I.dropLast.map wtA).sum+wtA a:=by
 conv=>lhs;rw[h]
 simp
theorem Qtl(l:List (PT h)):((l.map (Sigma.mk h)).map wtA).sum=(l.map (QbQ h)).sum+(l.flatMap (ents h)).length:=by
 induction l with
 |nil=>rfl
 | cons t l ih=>
   simp only[List.map_cons,List.sum_cons,List.flatMap_cons,List.length_append,ih];show QbQ h t+(ents h t).length+_=_;omega
theorem Qat.QiW{x:Qat}{a:AN}(h:x.node=some a):x.open_.wt<x.wt/\x.skip.wt<x.wt:=by
 obtain⟨h1,h2,I⟩:=x.QaQ h;obtain⟨es,ns,o⟩:=x;dsimp only at h1 h2 I;subst h1;have hs:=Qkw h2;have Z:1<=wtA a:=by have:=QgN a.1 a.2;unfold wtA;omega
 refine⟨?_,?_⟩
 ·obtain ⟨n,t⟩:=a
  cases n with
  | zero=>
    simp only[Qat.open_,I];have:wtA ⟨0,t⟩=1+t.2.length:=rfl;simp only[Qat.wt,List.length_nil];omega
  | succ n=>
    simp only[Qat.open_,I];have e1:wtA ⟨n+1,t⟩=1+(t.2.map (QbQ n)).sum+(t.2.flatMap (ents n)).length:=rfl;have N:((QcE n t).reverse.map wtA).sum=(t.2.map (QbQ n)).sum+(t.2.flatMap (ents n)).length:=by
     rw[List.map_reverse,List.sum_reverse];exact Qtl t.2
    simp only[Qat.wt,List.length_nil,List.map_append,List.sum_append,N];omega
 simp only[Qat.wt,Qat.skip,List.length_nil];omega
theorem Qat.QiX{x:Qat}{es:List Ent}(h:x.es=e::es):x.take.wt<x.wt:=by
 simp[Qat.wt,Qat.take,h]
theorem Qat.QpZ{x:Qat}(ok:x.ok):x.skip.ok:=λa I=>ok a (dm _ I)
theorem Qat.QiM{x:Qat}(ok:x.ok):x.take.ok:=ok
theorem Qat.QpY{x:Qat}(ok:x.ok):x.open_.ok:=by
 unfold Qat.open_;split
 .exact ok
 .exact λa I=>ok a (dm _ I)
 rename_i h t hg;intro a I;rcases aO.1 I with I|I
 .exact ok a (dm _ I)
 obtain⟨k,N,rfl⟩:=bY.1 (List.mem_reverse.1 I);have h1:=(ok _ (bO hg)).1.2.2 k N;exact⟨h1.1,ak oN h1.2⟩
def Qsm(x y:Qat):Prop:=∃a b,x.node=some a/\y.node=some b/\a.at_=b.at_
inductive Step:Qat->Qat->Qat->Qat->List Chg->Prop
 |skip {x y:Qat} {a:AN} (hx:x.node=some a) (hy:y.node=some a):Step x y x.skip y.skip []
 |openX {x y:Qat} {a:AN} (hx:x.node=some a) (hne:¬Qsm x y) (hc:y.gone\/klt x.last y.first=true\/(klt x.last y.first=false/\klt y.last x.first=false/\¬y.gone/\y.height<a.1)):Step x y x.open_ y []
 |openY {x y:Qat} {b:AN} (hy:y.node=some b) (hne:¬Qsm x y) (hc:x.gone\/klt y.last x.first=true\/(klt x.last y.first=false/\klt y.last x.first=false/\¬x.gone/\x.height<=b.1)):Step x y x y.open_ []
 |gone {x y:Qat} {e:Ent} {es:List Ent} (hx:x.es=e::es) (hc:y.gone\/(¬y.gone/\klt e.1 y.first=true)):Step x y x.take y [Qiu e]
 |come {x y:Qat} {f:Ent} {fs:List Ent} (hy:y.es=f::fs) (hc:x.gone\/(¬x.gone/\klt f.1 x.first=true)):Step x y x y.take [Qjn f]
 |both {x y:Qat} {e f:Ent} {es fs:List Ent} (hx:x.es=e::es) (hy:y.es=f::fs) (hk:e.1=f.1):Step x y x.take y.take (Qq4 e f)
theorem Step.wt{x y I N:Qat}{l:List Chg}(h:Step x y I N l):I.wt+N.wt<x.wt+y.wt:=by
 cases h with
 |skip hx hy=>have:=(x.QiW hx).2;have:=(y.QiW hy).2;omega
 |openX hx=>have:=(x.QiW hx).1;omega
 |openY hy=>have:=(y.QiW hy).1;omega
 |gone hx=>have:=x.QiX hx;omega
 |come hy=>have:=y.QiX hy;omega
 |both hx hy=>have:=x.QiX hx;have:=y.QiX hy;omega
theorem Step.ok{x y Z y':Qat}{l:List Chg}(h:Step x y Z y' l)(N:x.ok)(I:y.ok):Z.ok/\y'.ok:=by
 cases h with
 |skip=>exact⟨Qat.QpZ N,Qat.QpZ I⟩
 |openX=>exact⟨Qat.QpY N,I⟩
 |openY=>exact⟨N,Qat.QpY I⟩
 |gone=>exact⟨Qat.QiM N,I⟩
 |come=>exact⟨N,Qat.QiM I⟩
 |both=>exact⟨Qat.QiM N,Qat.QiM I⟩
theorem Step.chg{x y x' y':Qat}{l:List Chg}(h:Step x y x' y' l)(hx:x.ok)(hy:y.ok):Proofs.YtdiecmkpbadgjaaGreatDoor.chg x.cont y.cont=l++Proofs.YtdiecmkpbadgjaaGreatDoor.chg x'.cont y'.cont:=by
 cases h with
 |skip h1 h2=>rw[(x.QeD h1).2,(y.QeD h2).2,Qic,aG]
 |openX h1=>rw[(x.QeD h1).1,aG]
 |openY h1=>rw[(y.QeD h1).1,aG]
 | gone h1 I=>
   obtain⟨e1,e2,-,-⟩:=x.Qcg h1;rw[e1,dM];refine Qq8 λf N=>?_
   rcases I with I |⟨I,Z⟩
   .rw [y.QeC I]at N;cases N
   obtain⟨g,l,e3,e4⟩:=y.Qht hy I;rw[e3]at N;obtain rfl:g=f:=by simpa using N
   rw[<-e4];exact Z
 | come h1 I=>
   obtain⟨e1,e2,-,-⟩:=y.Qcg h1;rw[e1,dM];refine Qq7 λf N=>?_
   rcases I with I |⟨I,Z⟩
   .rw [x.QeC I]at N;cases N
   obtain⟨g,l,e3,e4⟩:=x.Qht hx I;rw[e3]at N;obtain rfl:g=f:=by simpa using N
   rw[<-e4];exact Z
 |both h1 h2 Z=>rw[(x.Qcg h1).1,(y.Qcg h2).1,QlU Z]
inductive Run (x0 y0:Qat):Qat->Qat->List Chg->Prop
 |start:Run x0 y0 x0 y0 []
 |step {x y x' y':Qat} {l m:List Chg} (h:Run x0 y0 x y l) (hs:Step x y x' y' m):Run x0 y0 x' y' (l++m)
theorem Run.ok{N I x y:Qat}{l:List Chg}(h:Run N I x y l)(hx:N.ok)(Z:I.ok):x.ok/\y.ok:=by
 induction h with
 |start=>exact⟨hx,Z⟩
 |step _ hs ih=>exact hs.ok ih.1 ih.2
theorem Run.chg{N I x y:Qat}{l:List Chg}(h:Run N I x y l)(hx:N.ok)(Z:I.ok):Proofs.YtdiecmkpbadgjaaGreatDoor.chg N.cont I.cont=l++Proofs.YtdiecmkpbadgjaaGreatDoor.chg x.cont y.cont:=by
 induction h with
 |start=>rfl
 |step hr hs ih=>rw[ih,hs.chg (hr.ok hx Z).1 (hr.ok hx Z).2,aT]
theorem Run.done{N I x y:Qat}{l:List Chg}(h:Run N I x y l)(hx:N.ok)(hy:I.ok)(gx:x.gone)(Z:y.gone):Proofs.YtdiecmkpbadgjaaGreatDoor.chg N.cont I.cont=l:=by
 rw[h.chg hx hy,x.QeC gx,y.QeC Z,QlV,aU]
def Qbd(ns:List AN):Nat:=(ns.map λa=>QbQ a.1 a.2).sum
def Qat.tot(x:Qat):Nat:=x.o+Qbd x.ns
theorem Qen(I:List AN)(a:AN):Qbd (I++[a])=Qbd I+QbQ a.1 a.2:=by simp[Qbd]
theorem Qlj(I:List AN)(h:Nat)(t:PT (h+1)):Qbd (I++(QcE h t).reverse)=Qbd I+(t.2.map (QbQ h)).sum:=by
 simp only[Qbd,List.map_append,List.sum_append,List.map_reverse,List.sum_reverse,QcE,List.map_map];rfl
theorem Qnz(I:List AN):I.length<=Qbd I:=by
 induction I with
 |nil=>exact ao _
 | cons a I ih=>
   have:=QgN a.1 a.2;simp only[Qbd,List.map_cons,List.sum_cons,List.length_cons]at *;omega
theorem Qat.Qgc{x:Qat}{a:AN}(h:x.node=some a):x.open_.tot=x.tot/\x.skip.tot+1<=x.tot:=by
 obtain⟨h1,h2,I⟩:=x.QaQ h;have e:Qbd x.ns=Qbd x.ns.dropLast+QbQ a.1 a.2:=by
  conv=>lhs;rw[h2]
  exact Qen _ _
 have:=QgN a.1 a.2;refine⟨?_,by simp only[Qat.tot,Qat.skip];omega⟩;obtain⟨n,t⟩:=a;cases n with
 | zero=>
   simp only[Qat.open_,I,Qat.tot];have N:QbQ 0 t=1:=rfl;dsimp only at e;omega
 | succ n=>
   simp only[Qat.open_,I,Qat.tot,Qlj];have N:QbQ (n+1) t=1+(t.2.map (QbQ n)).sum:=rfl;dsimp only at e;omega
theorem QeK:∀(es:List Ent) (k:ByteArray) (v:Val) (x:ByteArray),Qaq (QbY es k v) x=if x=k then some v else Qaq es x
 | [],k,v,x=>by
   simp only[QbY,Qaq];by_cases h:x=k
   .rw [eH h.symm,eH h]
   rw[eE (λe=>h e.symm),eE h]
 | e :: es,k,v,x=>by
   by_cases h1:klt e.1 k=true
   ·rw [QbY,eH h1,Qaq,Qaq,QeK es k v x]
    by_cases h:x=k
    ·have:e.1≠x:=fun h2=>by rw [h2,h,Qag] at h1;cases h1
     rw[eE this,eH h,eH h]
    rw[eE h,eE h]
   rw[QbY,eE h1];by_cases h2:e.1=k
   ·rw [eH h2,Qaq,Qaq,h2]
    by_cases h:x=k
    .rw [eH h.symm,eH h]
    rw[eE (λe=>h e.symm),eE h,eE (λe=>h e.symm)]
   rw[eE h2,Qaq];by_cases h:x=k
   .rw [eH h.symm,eH h]
   rw[eE (λe=>h e.symm),eE h]
theorem Qcx:∀(es:List Ent) (k:ByteArray) (x:ByteArray),Sorted es->Qaq (QbM es k) x=if x=k then none else Qaq es x
 |[],k,x,_=>by simp[QbM,Qaq]
 | e :: es,k,x,hs=>by
   obtain⟨h1,h2⟩:=be.1 hs;by_cases Z:klt e.1 k=true
   ·rw [QbM,eH Z,Qaq,Qaq,Qcx es k x h2]
    by_cases h:x=k
    ·have:e.1≠x:=fun h2=>by rw [h2,h,Qag] at Z;cases Z
     rw[eE this,eH h,eH h]
    rw[eE h,eE h]
   rw[QbM,eE Z];by_cases I:e.1=k
   ·rw [eH I,Qaq,I]
    by_cases h:x=k
    ·rw [eH h]
     exact QeL λf N e2=>by have:=h1 f N;rw[I,e2,h,Qag]at this;cases this
    rw[eE h,eE (λe=>h e.symm)]
   rw[eE I];by_cases h:x=k
   ·rw [eH h]
    refine QeL λf N e2=>?_
    rcases aH.1 N with rfl|N
    .exact I (e2.trans h)
    have:=h1 f N;rw[e2,h]at this;exact Z this
   rw[eE h]
def Qu3:Option Val->Option Val->Bool
 |none,none=>true
 |some v,some u=>decide (Qbq v u=0)
 |_,_=>false
theorem Qks(o:Option Val):Qu3 o o=true:=by cases o<;>simp[Qu3,QcN]
open Go.Maps
abbrev eG:=@decide_eq_false
abbrev eI:=@decide_eq_true
section
variable{α : Type}
abbrev AL(α:Type):=List (ByteArray × α)
def Qay(C:AL α):Prop:=C.Pairwise λa b=>klt a.1 b.1=true
def QaZ:AL α->ByteArray->Option α
 |[],_=>none
 |e::r,k=>if e.1=k then some e.2 else QaZ r k
def QcX:AL α->ByteArray->α->AL α
 |[],k,v=>[(k,v)]
 |e::r,k,v=>if klt e.1 k then e::QcX r k v else if e.1=k then(k,v)::r else(k,v)::e::r
def Qjs(C:AL α)(k:ByteArray):AL α:=C.filter λp=>!decide (p.1=k)
theorem QeH{C:AL α}{k:ByteArray}(h:∀e∈C,e.1≠k):QaZ C k=none:=by
 induction C with
 |nil=>rfl
 |cons e r ih=>rw[QaZ,eE (h e (aF ..)),ih λf I=>h f (aS _ I)]
theorem QeJ{C:AL α}{k:ByteArray}{s:α}(h:QaZ C k=some s):(k,s)∈C:=by
 induction C with
 |nil=>cases h
 | cons e r ih=>
   rw[QaZ]at h;by_cases I:e.1=k
   ·rw [eH I] at h
    injection h with h;subst I h;exact aF ..
   rw[eE I]at h;exact aS _ (ih h)
theorem Qcs{e:ByteArray × α}{r:AL α}(h:Qay (e::r)):Qay r/\∀f∈r,klt e.1 f.1=true/\f.1≠e.1:=by
 obtain⟨h1,h2⟩:=be.1 h;exact⟨h2,λf I=>⟨h1 f I,λN=>by have:=h1 f I;rw[N,Qag]at this;cases this⟩⟩
theorem Qir{C:AL α}(hs:Qay C){k:ByteArray}{s:α}(h:(k,s)∈C):QaZ C k=some s:=by
 induction C with
 |nil=>cases h
 | cons e r ih=>
   obtain⟨h2,h1⟩:=Qcs hs;rw[QaZ];rcases aH.1 h with rfl|h
   .rw [eH rfl]
   rw[eE (λI=>(h1 _ h).2 I.symm),ih h2 h]
theorem QeI:∀(C:AL α) (k:ByteArray) (v:α) (x:ByteArray),QaZ (QcX C k v) x=if x=k then some v else QaZ C x
 | [],k,v,x=>by
   simp only[QcX,QaZ];by_cases h:x=k
   .rw [eH h.symm,eH h]
   rw[eE (λe=>h e.symm),eE h]
 | e :: es,k,v,x=>by
   by_cases h1:klt e.1 k=true
   ·rw [QcX,eH h1,QaZ,QaZ,QeI es k v x]
    by_cases h:x=k
    ·have:e.1≠x:=fun h2=>by rw [h2,h,Qag] at h1;cases h1
     rw[eE this,eH h,eH h]
    rw[eE h,eE h]
   rw[QcX,eE h1];by_cases h2:e.1=k
   ·rw [eH h2,QaZ,QaZ,h2]
    by_cases h:x=k
    .rw [eH h.symm,eH h]
    rw[eE (λe=>h e.symm),eE h,eE (λe=>h e.symm)]
   rw[eE h2,QaZ];by_cases h:x=k
   .rw [eH h.symm,eH h]
   rw[eE (λe=>h e.symm),eE h]
theorem Ql2(k x:ByteArray):∀(C:AL α),QaZ (Qjs C k) x=if x=k then none else QaZ C x
 |[]=>by simp[Qjs,QaZ]
 | e :: r=>by
   have N:=Ql2 k x r;unfold Qjs at N ⊢;by_cases h:e.1=k
   ·rw [bB,eE (by simp [h]),N,QaZ]
    by_cases I:x=k
    .rw [eH I,eH I]
    rw[eE I,eE I,eE (λZ=>I (Z.symm.trans h))]
   rw[bB,eH (by simp[h]),QaZ,N,QaZ];by_cases I:x=k
   .rw [eH I,eH I,eE (λZ=>h (Z.trans I))]
   rw[eE I,eE I]
theorem QiH{C:AL α}{k:ByteArray}{v:α}{x:ByteArray × α}(h:x∈QcX C k v):x=(k,v)\/x∈C:=by
 induction C with
 |nil=>exact .inl (by simpa[QcX]using h)
 | cons e r ih=>
   rw[QcX]at h;split at h
   ·rcases aH.1 h with rfl | h
    .exact .inr (aF ..)
    exact(ih h).imp id (aS _)
   split at h
   ·rcases aH.1 h with rfl | h
    .exact .inl rfl
    exact .inr (aS _ h)
   exact aH.1 h
theorem Qbu{C:AL α}(h:Qay C)(k:ByteArray)(v:α):Qay (QcX C k v):=by
 induction C with
 |nil=>exact be.2 ⟨λ_ I=>(by cases I),List.Pairwise.nil⟩
 | cons e r ih=>
   obtain⟨h1,h2⟩:=be.1 h;rw[QcX];split
   ·rename_i hk
    refine be.2 ⟨λx I=>?_,ih h2⟩;rcases QiH I with rfl|I
    .exact hk
    exact h1 x I
   rename_i hk;split
   ·rename_i he
    exact be.2 ⟨λx I=>by rw[<-he];exact h1 x I,h2⟩
   rename_i he;have N:klt k e.1=true:=QcU (by simpa using hk) he;refine be.2 ⟨λx I=>?_,h⟩;rcases aH.1 I with rfl|I
   .exact N
   exact QaH N (h1 x I)
theorem Qgt{C:AL α}(h:Qay C)(k:ByteArray):Qay (Qjs C k):=h.sublist (cJ ..)
theorem Qes:∀{a b:AL α},Qay a->Qay b->(∀k,QaZ a k=QaZ b k)->a=b
 |[],[],_,_,_=>rfl
 |[],f::b,_,_,h=>by have:=h f.1;simp[QaZ]at this
 |e::a,[],_,_,h=>by have:=h e.1;simp[QaZ]at this
 | e :: a,f :: b,ha,hb,h=>by
   obtain⟨a2,a1⟩:=Qcs ha;obtain⟨b2,b1⟩:=Qcs hb;have hk:e.1=f.1:=by
    refine QbE ?_ ?_
    ·cases Z:klt e.1 f.1 with
     |false=>rfl
     | true=>
       have h1:=h e.1;rw[QaZ,eH rfl,QeH (C:=f::b) (λg I N=>by
        rcases aH.1 I with rfl|I
        .rw [N,Qag]at Z;cases Z
        have:=QaH Z (b1 g I).1;rw[N,Qag]at this;cases this)]at h1
       cases h1
    cases Z:klt f.1 e.1 with
    |false=>rfl
    | true=>
      have h1:=h f.1;rw[QeH (C:=e::a) (k:=f.1) (λg I N=>by
       rcases aH.1 I with rfl|I
       .rw [N,Qag]at Z;cases Z
       have:=QaH Z (a1 g I).1;rw[N,Qag]at this;cases this),QaZ,eH rfl]at h1
      cases h1
   have h0:=h e.1;rw[QaZ,eH rfl,QaZ,eH hk.symm]at h0;injection h0 with h0;have he:e=f:=eC hk h0;subst he;rw[Qes a2 b2 λk=>?_];by_cases hx:e.1=k
   .rw [QeH λg I N=>(a1 g I).2 (N.trans hx.symm),QeH λg I N=>(b1 g I).2 (N.trans hx.symm)]
   have:=h k;rwa[QaZ,eE hx,QaZ,eE hx]at this
theorem Qqe{C:AL α}(h:Qay C){k:ByteArray}{s I:α}(Z:QaZ C k=some I):QcX (QcX C k s) k I=C:=
 Qes (Qbu (Qbu h k s) k I) h λx=>by
  rw[QeI,QeI];by_cases N:x=k
  .rw [eH N,N,Z]
  rw[eE N,eE N]
theorem QoT{C:AL α}(h:Qay C){k:ByteArray}{s:α}(N:QaZ C k=none):Qjs (QcX C k s) k=C:=
 Qes (Qgt (Qbu h k s) k) h λx=>by
  rw[Ql2,QeI];by_cases I:x=k
  .rw [eH I,I,N]
  rw[eE I,eE I]
theorem Qsc{C:AL α}{k:ByteArray}{v:α}:(QcX C k v).length<=C.length+1:=by
 induction C with
 |nil=>simp[QcX]
 | cons e r ih=>
   rw[QcX];split
   .simp only[List.length_cons];omega
   split<;>simp only[List.length_cons]<;>omega
end
section
variable{α : Type}(f : α -> Value)
abbrev Qfz(k:ByteArray):Lit:=.string k.data.toList
abbrev Qsx(p:ByteArray × α):Lit × DataW Value:=(Qfz p.1,.held (f p.2))
def mapA(C:AL α):DataW Value:=.map (C.map (Qsx f))
def QeO(v:Value):Option (DataW Value × List MemPlace):=some (.held v,[])
theorem QeP{v u:Value}{ps:List MemPlace}(h:QeO v=some (.held u,ps)):v=u:=by
 injection h with h;injection h with h;injection h
theorem Qjc:∀a b:List UInt8,bytesBefore a b=Op.bytesLess a b
 |[],[]=>rfl
 |[],_::_=>rfl
 |_::_,[]=>rfl
 |a::x,b::y=>by rw[bytesBefore,Op.bytesLess,Qjc x y]
theorem Qgj(a b:ByteArray):(Qfz a).before (Qfz b)=klt a b:=by
 show bytesBefore _ _=Op.bytesLess _ _;rw[Qjc,eQ,eQ]
theorem QeY(a b:ByteArray):(Qfz a).sameKey (Qfz b)=decide (a=b):=by
 show(a.data.toList==b.data.toList)=_;rw[<-eQ,<-eQ];exact beq_toList a b
theorem Ql5(C:AL α)(k:ByteArray):Maps.has (mapA f C) (Qfz k)=(QaZ C k).isSome:=by
 show List.any (List.map _ C) _=_
 induction C with
 |nil=>rfl
 | cons e r ih=>
   rw[bn,List.any_cons,ih,QaZ];show((Qfz e.1).sameKey (Qfz k)||_)=_;rw[QeY];by_cases h:e.1=k
   .rw [eH h,eI h];rfl
   rw[eE h,eG h];rfl
theorem Qgh(C:AL α)(k:ByteArray)(zd:DataW Value):(mapA f C).atKey (Qfz k) zd=match QaZ C k with
  |some s=>.held (f s)
  |none=>zd:=by
 unfold mapA;simp only[DataW.atKey]
 induction C with
 |nil=>rfl
 | cons e r ih=>
   rw[bn,List.find?_cons,QaZ];by_cases h:e.1=k
   .rw [eH h,show(Qfz e.1).sameKey (Qfz k)=true by rw[QeY,eI h]]
   rw[eE h,show(Qfz e.1).sameKey (Qfz k)=false by rw[QeY,eG h]];exact ih
theorem Qkt(C:AL α):Maps.size (mapA f C)=C.length:=by
 show List.length (List.map _ C)=_;rw[aq]
theorem Qek(k:ByteArray):∀C:AL α,(C.map (Qsx f)).filter (λp=>!p.1.sameKey (Qfz k))=(Qjs C k).map (Qsx f)
 |[]=>rfl
 | e :: r=>by
   have I:=Qek k r;unfold Qjs at I ⊢;rw[bn,bB,bB,I];show(if(!(Qfz e.1).sameKey (Qfz k))=true then _ else _)=_;rw[QeY];split<;>rfl
theorem Qrg(C:AL α)(k:ByteArray):(mapA f C).del (Qfz k)=mapA f (Qjs C k):=by
 show DataW.map (List.filter _ (List.map _ C))=_;rw[Qek];rfl
theorem QgE(k:ByteArray)(s:α):∀C:AL α,Qay C->DataW.insert (Qfz k,(DataW.held (f s):DataW Value)) ((Qjs C k).map (Qsx f))=(QcX C k s).map (Qsx f)
 |[],_=>rfl
 | e :: r,h=>by
   obtain⟨h2,h1⟩:=Qcs h;have ih:=QgE k s r h2;have N:∀x:ByteArray,(∀g∈r,g.1≠x)->Qjs r x=r:=λx hx=>List.filter_eq_self.2 λg Z=>by simp[hx g Z]
   have I:∀(g:ByteArray × α) (t:AL α),klt k g.1=true->DataW.insert (Qfz k,(DataW.held (f s):DataW Value)) ((g::t).map (Qsx f))=(((k,s)::g::t).map (Qsx f)):=λg t Z=>by
    rw[bn,DataW.insert,eH (by show(Qfz k).before (Qfz g.1)=true;rw[Qgj,Z])];rfl
   rw[QcX];by_cases hk:klt e.1 k=true
   ·have a1:e.1≠k:=fun e2=>by rw [e2,Qag] at hk;cases hk
    rw[eH hk,show Qjs (e::r) k=e::Qjs r k by unfold Qjs;rw[bB,eH (by simp[a1])],bn,DataW.insert,eE (by show ¬(Qfz k).before (Qfz e.1)=true;rw[Qgj,Qbh hk];simp),ih];rfl
   rw[eE hk];by_cases he:e.1=k
   ·rw [eH he,show Qjs (e :: r) k=r by
     rw[<-he];show List.filter _ _=_;rw[bB,eE oO];exact N e.1 λg Z=>(h1 g Z).2]
    cases r with
    |nil=>rfl
    |cons g t=>exact I g t (by rw[<-he];exact(h1 g (aF ..)).1)
   have a0:klt k e.1=true:=QcU (by simpa using hk) he;rw[eE he,show Qjs (e::r) k=e::r by
    show List.filter _ _=_;rw[bB,eH (by simp[he])];exact congrArg (e :: ·) (N k λg Z e2=>by have:=QaH a0 (h1 g Z).1;rw[e2,Qag]at this;cases this)]
   exact I e r a0
theorem Qse{C:AL α}(h:Qay C)(k:ByteArray)(s:α):(mapA f C).put (Qfz k) (.held (f s))=mapA f (QcX C k s):=by
 show DataW.map (DataW.insert _ (List.filter _ (List.map _ C)))=_;rw[Qek,QgE f k s C h];rfl
end
abbrev Slots:=AL (Option Val)
def QkO(B:List Ent)(C:Slots)(k:ByteArray):Option Val:=match QaZ C k with
 |some s=>s
 |none=>Qaq B k
def Qfw(B:List Ent):Slots->List Ent->List Ent
 |[],t=>t
 |(k,some v)::r,t=>Qfw B r (if(Qaq B k).any (λwas=>decide (Qbq was v=0))then t else QbY t k v)
 |(k,none)::r,t=>Qfw B r (if(Qaq B k).isSome then QbM t k else t)
theorem Qcn(B:List Ent):∀(C:Slots) (t:List Ent),Sorted t->Sorted (Qfw B C t)
 |[],t,h=>h
 | (k,some v) :: r,t,h=>by
   rw[Qfw];split
   .exact Qcn B r t h
   exact Qcn B r _ (Qa1 h k v)
 | (k,none) :: r,t,h=>by
   rw[Qfw];split
   .exact Qcn B r _ (QaN h k)
   exact Qcn B r t h
theorem Qcw(B:List Ent){k:ByteArray}:∀(C:Slots) (t:List Ent),Sorted t->(∀e∈C,e.1≠k)->Qaq (Qfw B C t) k=Qaq t k
 |[],t,_,_=>rfl
 | (k',some v) :: r,t,h,hk=>by
   rw[Qfw];have h1:k'≠k:=hk _ (aF ..);have h2:=λf I=>hk f (aS _ I)
   split
   .exact Qcw B r t h h2
   rw[Qcw B r _ (Qa1 h k' v) h2,QeK,eE (λe=>h1 e.symm)]
 | (k',none) :: r,t,h,hk=>by
   rw[Qfw];have h1:k'≠k:=hk _ (aF ..);have h2:=λf I=>hk f (aS _ I)
   split
   .rw [Qcw B r _ (QaN h k') h2,Qcx _ _ _ h,eE (λe=>h1 e.symm)]
   exact Qcw B r t h h2
theorem QeB(B:List Ent){k:ByteArray}:∀(C:Slots) (t:List Ent),Qay C->Sorted t->Qaq t k=Qaq B k->Qu3 (Qaq (Qfw B C t) k) (QkO B C k)=true
 |[],t,_,_,h=>by rw[Qfw,QkO,QaZ,h];exact Qks _
 | (k',s) :: r,t,hs,ht,h=>by
   obtain⟨h2,a1⟩:=Qcs hs;have Z:=λf hm=>(a1 f hm).2
   by_cases hk:k'=k
   ·subst hk
    have hn:QkO B ((k',s)::r) k'=s:=by rw[QkO,QaZ,eH rfl]
    rw[hn];cases s with
    | some v=>
      rw[Qfw];split
      ·rename_i I
       rw[Qcw B r t ht Z,h];cases N:Qaq B k' with
       |none=>rw[N]at I;cases I
       |some b=>rw[N]at I;exact I
      rw[Qcw B r _ (Qa1 ht k' v) Z,QeK,eH rfl];exact Qks _
    | none=>
      rw[Qfw];split
      .rw [Qcw B r _ (QaN ht k') Z,Qcx _ _ _ ht,eH rfl];rfl
      rename_i N;rw[Qcw B r t ht Z,h];cases a0:Qaq B k' with
      |none=>rfl
      |some b=>rw[a0]at N;exact absurd rfl N
   have hn:QkO B ((k',s)::r) k=QkO B r k:=by rw[QkO,QkO,QaZ,eE hk]
   rw[hn];cases s with
   | some v=>
     rw[Qfw];split
     .exact QeB B r t h2 ht h
     exact QeB B r _ h2 (Qa1 ht k' v) (by rw[QeK,eE (λe=>hk e.symm),h])
   | none=>
     rw[Qfw];split
     .exact QeB B r _ h2 (QaN ht k') (by rw[Qcx _ _ _ ht,eE (λe=>hk e.symm),h])
     exact QeB B r t h2 ht h
def idleC(B:List Ent)(C:Slots):Prop:=∀k s,QaZ C k=some s->match s with
 |some v=>(Qaq B k).any (λwas=>decide (Qbq was v=0))=true
 |none=>Qaq B k=none
def Qfh(P:ByteArray->Bool)(M:List Ent):List ByteArray:=(M.filter λe=>P e.1).map Prod.fst
theorem QiP:∀{a b:List ByteArray},a.Pairwise (λx y=>klt x y=true)->b.Pairwise (λx y=>klt x y=true)->(∀k,k∈a↔k∈b)->a=b
 |[],[],_,_,_=>rfl
 |[],y::b,_,_,h=>by have:=(h y).2 (aF ..);cases this
 |x::a,[],_,_,h=>by have:=(h x).1 (aF ..);cases this
 | x :: a,y :: b,ha,hb,h=>by
   obtain⟨a1,a2⟩:=be.1 ha;obtain⟨b1,b2⟩:=be.1 hb;have N:x=y:=by
    rcases aH.1 ((h x).1 (aF ..))with e|e
    .exact e
    rcases aH.1 ((h y).2 (aF ..))with Z|Z
    .exact Z.symm
    have h1:=b1 x e;have h2:=a1 y Z;rw[Qbh h1]at h2;cases h2
   subst N;rw[QiP a2 b2 λk=>⟨λI=>?_,λI=>?_⟩]
   ·rcases aH.1 ((h k).1 (aS _ I)) with e | e
    .have:=a1 k I;rw[e,Qag]at this;cases this
    exact e
   rcases aH.1 ((h k).2 (aS _ I))with e|e
   .have:=b1 k I;rw[e,Qag]at this;cases this
   exact e
theorem Qis{B:List Ent}(hs:Sorted B)(h:e∈B):Qaq B e.1=some e.2:=by
 induction B with
 |nil=>cases h
 | cons f r ih=>
   obtain⟨h1,h2⟩:=be.1 hs;rw[Qaq];rcases aH.1 h with rfl|h
   .rw [eH rfl]
   have:=h1 _ h;rw[eE (λI=>by rw[I,Qag]at this;cases this),ih h2 h]
theorem QdW{B:List Ent}{k:ByteArray}{v:Val}(h:Qaq B k=some v):(k,v)∈B:=by
 induction B with
 |nil=>cases h
 | cons e r ih=>
   rw[Qaq]at h;by_cases I:e.1=k
   ·rw [eH I] at h
    injection h with h;subst I h;exact aF ..
   rw[eE I]at h;exact aS _ (ih h)
variable{M:List Ent}
theorem QgL{P:ByteArray->Bool}(hs:Sorted M){k:ByteArray}:k∈Qfh P M↔P k=true/\(Qaq M k).isSome=true:=by
 simp only[Qfh,List.mem_map,List.mem_filter];constructor
 ·rintro ⟨e,⟨N,I⟩,rfl⟩
  exact⟨I,by rw[Qis hs N];rfl⟩
 rintro⟨I,h⟩;obtain⟨v,Z⟩:=db.1 h;exact⟨(k,v),⟨QdW Z,I⟩,rfl⟩
theorem Qnn{P:ByteArray->Bool}(hs:Sorted M):(Qfh P M).Pairwise λx y=>klt x y=true:=
 bU.2 (hs.sublist (cJ ..))
structure SV where
 has:Bool
 v:Val
 sl:Sl
 so:Sl
abbrev SV.cells(s:SV):Array Value:=#[.bool s.has,.int .i64 s.v.kind,.bool s.v.b,.int .i64 s.v.i,.string s.v.t,.slice s.sl.a s.v.l.length s.sl.c,.slice s.so.a s.v.ok.length s.so.c]
abbrev SV.val(s:SV):Value:=.agg s.cells
def SV.opt(s:SV):Option Val:=if s.has then some s.v else none
def Qhe(C:AL SV):Slots:=C.map λp=>(p.1,p.2.opt)
theorem QdU(k:ByteArray):∀C:AL SV,QaZ (Qhe C) k=(QaZ C k).map SV.opt
 |[]=>rfl
 | e :: r=>by
   have I:=QdU k r;unfold Qhe at I ⊢;rw[bn,QaZ,QaZ,I];split<;>rfl
variable{C:AL SV}
theorem QhM(h:Qay C):Qay (Qhe C):=bU.2 h
theorem Qms(C:AL SV)(k:ByteArray)(s:SV)(x:ByteArray):QaZ (Qhe (QcX C k s)) x=if x=k then some s.opt else QaZ (Qhe C) x:=by
 rw[QdU,QeI,QdU];split<;>rfl
structure UD where
 k:ByteArray
 old:Option SV
def Qhh(u:UD)(C:AL SV):AL SV:=match u.old with
 |some o=>QcX C u.k o
 |none=>Qjs C u.k
theorem QqJ(h:Qay C){k:ByteArray}(s:SV):Qhh ⟨k,QaZ C k⟩ (QcX C k s)=C:=by
 unfold Qhh;cases I:QaZ C k with
 |some o=>exact Qqe h I
 |none=>exact QoT h I
theorem QkD(h:Qay C)(u:UD):Qay (Qhh u C):=by
 unfold Qhh;split
 .exact Qbu h _ _
 exact Qgt h _
def Qdp(us:List UD)(C:AL SV)(m:Nat):AL SV:=(us.drop m).foldr Qhh C
theorem Qjb(I:List UD)(C:AL SV):Qdp I C I.length=C:=by simp[Qdp]
theorem Qhk{I:List UD}{m:Nat}{u:UD}(h:I[m]? = some u):Qdp I C m=Qhh u (Qdp I C (m+1)):=by
 obtain⟨N,rfl⟩:=ae.1 h;unfold Qdp;rw[aE N];rfl
structure Chain(us:List UD)(H:List (AL SV)):Prop where
 len:H.length=us.length+1
 step:∀i u,us[i]? = some u->∃(C:AL SV) (s:SV),H[i]? = some C/\Qay C/\u.old=QaZ C u.k/\H[i+1]? = some (QcX C u.k s)
theorem Chain.nil(C:AL SV):Chain [] [C]:=⟨rfl,λi u h=>by simp at h⟩
theorem Chain.snoc{I:List UD}{H:List (AL SV)}(h:Chain I (H++[C]))(hs:Qay C)(k:ByteArray)(s:SV):Chain (I++[⟨k,QaZ C k⟩]) (H++[C]++[QcX C k s]):=by
 have hl:=h.len;rw[aj,bA]at hl;refine⟨by simp;omega,λi u hi=>?_⟩;rcases Nat.lt_trichotomy i I.length with N|Z|a0
 ·rw [bu N] at hi
  obtain⟨C',s',h1,h2,h3,h4⟩:=h.step i u hi;exact⟨C',s',by rw[bu (by simp;omega)];exact h1,h2,h3,by rw[bu (by simp;omega)];exact h4⟩
 ·subst Z
  rw[aP (ao _),cu]at hi;injection hi with hi;subst hi;refine⟨C,s,?_,hs,rfl,?_⟩
  .rw [bu (by simp;omega),aP oM,show I.length-H.length=0 by omega];rfl
  rw[aP (by simp;omega),show I.length+1 -(H++[C]).length=0 by simp;omega];rfl
 rw[aI (by simp;omega)]at hi;cases hi
theorem Chain.back{I:List UD}{H:List (AL SV)}(h:Chain I H)(Z:H[I.length]? = some C):∀d m,m+d=I.length->H[m]? = some (Qdp I C m)
 | 0,m,hm=>by
   obtain rfl:m=I.length:=oM
   rw[Qjb];exact Z
 | d+1,m,hm=>by
   have hlt:m<I.length:=oM
   have hu:=ac hlt;obtain⟨C',s,h1,h2,h3,h4⟩:=h.step m _ hu;have N:=h.back Z d (m+1) oM;rw[h4]at N;injection N with N;rw[h1,Qhk hu,<-N];congr 1;have:=QqJ h2 (k:=(I[m]'hlt).k) s;rw[<-h3]at this;exact this.symm
theorem Chain.take{N:List UD}{H:List (AL SV)}(h:Chain N H){m:Nat}(hm:m<=N.length):Chain (N.take m) (H.take (m+1)):=by
 refine⟨by rw[av,av,h.len];omega,λi u hi=>?_⟩;have I:i<m:=by
  have:=(ae.1 hi).1;rw[av]at this;omega
 rw[bS I]at hi;obtain⟨C,s,h1,h2,h3,Z⟩:=h.step i u hi;exact⟨C,s,by rw[bS oM];exact h1,h2,h3,by rw[bS oM];exact Z⟩
theorem Qfv(h:Qay C)(I:List UD)(m:Nat):Qay (Qdp I C m):=by
 unfold Qdp
 induction I.drop m with
 |nil=>exact h
 |cons u r ih=>exact QkD ih u
abbrev fq:=@World.alloc_heap_new
abbrev fr:=@World.putObj_heap_other
theorem Qfe(w:World)(o:Obj)(h:∀(W:World) (i j:Nat),W.heap[i]? = some o->W.frozen? ⟨i,j,none⟩=false):Ext w (w.alloc o):=by
 refine⟨(Below.refl _ _).alloc (ao _) _,λb j N=>?_⟩;by_cases I:b=w.heap.size
 ·subst I
  exact h _ _ _ (fq w o)
 exact frozen_none (by simp;omega)
structure Turned(B:Nat)(W W':World):Prop where
 os:W'.os=W.os
 tape:W'.tape=W.tape
 output:W'.output=W.output
 size:W'.heap.size=W.heap.size
 block:∀b,(b<B\/∃o,W.heap[b]? = some o/\o.isCells=true)->W'.heap[b]? = W.heap[b]?
 fz:∀b o,W'.frozen? ⟨b,o,none⟩=W.frozen? ⟨b,o,none⟩
variable{W:World}
theorem Turned.put{B l:Nat}{o o':Obj}(hl:B<=l)(h:W.heap[l]? = some o)(N:o.isCells=false)(I:o'.isCells=false):Turned B W (W.putObj l o'):=by
 refine⟨rfl,rfl,rfl,oO,λb hb=>fr ?_,λb j=>?_⟩
 ·rintro rfl
  rcases hb with hb |⟨o2,h2,Z⟩
  .omega
  rw[h]at h2;cases h2;rw[N]at Z;cases Z
 by_cases e:b=l
 ·subst e
  have h1:(W.putObj b o').heap[b]? = some o':=World.putObj_heap_same (az.1 h).1;unfold World.frozen?;simp only[h1,h];cases o<;>cases o'<;>first|rfl |(simp[Obj.isCells]at N;done) |(simp[Obj.isCells]at I;done)
 exact World.frozen?_of_block (a:=⟨b,j,none⟩) (fr e)
abbrev eL:=@callsIn_wide
abbrev fi:=@run_endRound
abbrev fY:=@run_endLoop
abbrev ge:=@wpIn_mono
theorem St.then{C I:Nat->Prop}{a b c:World}(h:St C a b)(k:St I b c)(hC:∀i,i<a.heap.size->I i->C i):St C a c:=
 ⟨k.os.trans h.os,k.tape.trans h.tape,k.output.trans h.output,ak h.size k.size,λi hi N=>(k.block i (ab hi h.size) (λZ=>N (hC i hi Z))).trans (h.block i hi N),λb o=>(k.fz b o).trans (h.fz b o)⟩
theorem St.put{l:Nat}{o o':Obj}(h:W.heap[l]? = some o)(N:o.isCells=false)(I:o'.isCells=false):St (λb=>b=l) W (W.putObj l o'):=
 ⟨rfl,rfl,rfl,oO,λb _ Z=>fr Z,(Turned.put (ao l) h N I).fz⟩
structure Takes{α:Type}(P:Program)(l:Nat)(encs:α->Array Value)(G:List α->α->World->World->Prop)(J:List α->(Nat->Prop)->World->Prop)(Jx:List α->World->Prop):Prop where
 lt:∀pre C W,J pre C W->∀b,C b->b<W.heap.size
 take:∀pre C x W0 W1,J pre C W0->Ext W0 W1->G pre x W0 W1->YieldAt Fence.wide 4 P l (encs x) W1 λe W'=>
  (e=.returned (.bool true)/\∃C',J (pre++[x]) C' W'/\St C W1 W'/\∀b,C' b->C b\/W1.heap.size<=b)\/(e=.returned (.bool false)/\Jx (pre++[x]) W'/\St C W1 W')
def Qvd{α:Type}(P:Program)(g:Nat)(lb:Array Value)(encs:α->Array Value)(K:Nat->Prop)(G:List α->α->World->World->Prop)(S Sp:List α->Prop)(w0:World):Prop:=
 ∀(l:Nat) (J:List α->(Nat->Prop)->World->Prop) (Jx:List α->World->Prop) (C:Nat->Prop) (W:World),Takes P l encs G J Jx->Agree K w0 W->w0.heap.size<=W.heap.size->(∀b,C b->¬K b)->J [] C W->
  Calls P g (#[.func (.yield l) #[] #[]]++lb) W λe W'=>(∃v,e=.returned v)/\((∃xs C' W0,S xs/\J xs C' W0/\Ext W0 W')\/(∃pre W0,Sp pre/\Jx pre W0/\Ext W0 W'))
def Qr5{α:Type}(C:Nat->Prop)(I:List α->(Nat->Prop)->World->Prop)(Ix:Code->List α->World->Prop)(xs:List α)(W:World):Exit->Act->World->Prop
 |.normal,_,W'=>∃C',I xs C' W'/\St C W W'/\(∀b,C' b->C b\/W.heap.size<=b)/\(∀b,C' b->b<W'.heap.size)
 |.ret,_,W'=>St C W W'/\Ix .ret xs W'
 |.exit id,_,W'=>St C W W'/\Ix (.exit id) xs W'
 |.goto t,_,W'=>St C W W'/\Ix (.goto t) xs W'
 |.panic _,_,_=>False
 |.outgrown,_,_=>False
variable{n gf:Nat}{P:Program}{assign body:Code}{Q:Exit->Act->World->Prop}{a:Act}{w0:World}
theorem Qg6{α:Type}{g:Operand}{ps:Array Tmp} 
 {lb:Array Value} (hg:a.eval g=.func (.func gf) #[] lb) (eg:∀ args w,(callFunc gf args).run P w=.ok (.enter gf args) w)
  {encs:α->Array Value} {K:Nat->Prop} {G:List α->α->World->World->Prop} {S Sp:List α->Prop} (hseq:Qvd P gf lb encs K G S Sp w0)
  (hA:Agree K w0 w) (hsz:w0.heap.size<=w.heap.size) (hK:∀b,K b->b<w.heap.size) (hps:∀x,(encs x).size=ps.size)
  (I:List α->(Nat->Prop)->World->Prop) (Ix:Code->List α->World->Prop) (C₀:Nat->Prop) (hC:∀b,C₀ b->b<w.heap.size/\¬K b)
  (hI:∀{s C W W'},I s C W->St (λb=>b=w.heap.size+1) W W'->I s C W') (hIx:∀{c s W W'},Ix c s W->St (λb=>b=w.heap.size+1) W W'->Ix c s W')
  (h0:∀W,Ext w W->w.heap.size+2<=W.heap.size->I [] C₀ W)
  (hround:∀(pre:List α) (C:Nat->Prop) (x:α) (W0 W1:World),I pre C W0->(∀b,C b->b<W0.heap.size)->w.heap.size+2<=W0.heap.size->¬C (w.heap.size+1)->Ext W0 W1->G pre x W0 W1->
    assign.wpIn (Fence.wide.inRound (w.heap.size+1)) 4 P (Exit.then (λa1 W2=>Ext W1 W2/\∀W3,St (λb=>b=w.heap.size+1) W2 W3->body.wpIn (Fence.wide.inRound (w.heap.size+1)) 4 P (Qr5 C I Ix (pre++[x]) W3) a1 W3) (λ_ _ _=>False))
     { tmps:=(ps.zip (encs x)).foldl (λt (p,v)=>t.setIfInBounds p v) a.tmps,defers:=[] } W1)
  (hdone:∀(D:Nat) (xs:List α) (C:Nat->Prop) (W:World),D=w.heap.size->S xs->I xs C W->W.heap[D]? = some (.deferred (some []))->Q .normal { a with defers:={ target:=.collected D,args:=#[] }::a.defers } W)
  (hstop:∀(D:Nat) (c:Code) (pre:List α) (W:World),D=w.heap.size->Sp pre->Ix c pre W->W.heap[D]? = some (.deferred (some []))->c.wpIn Fence.wide n P Q { a with defers:={ target:=.collected D,args:=#[] }::a.defers } W) :
  (Code.rangeFunc g ps assign body).wpIn Fence.wide n P Q a w:=by
 refine wpIn_rangeFunc λfn hfn=>?_
 rw[show Fence.wide.round=none from rfl]
 -- the loop's record at each of its states;where it lies,and the block of the rounds' deferred calls
 let rec_:LoopState->Option Code->Obj:=λst pe=>.loop { state:=st,pending:=pe,fn,tmps:=a.tmps,params:=ps,assign,body,defers:=w.heap.size }
 let BK:LoopState->Option Code->World->Prop:=λst pe W=>W.heap[w.heap.size+1]? = some (rec_ st pe)/\W.heap[w.heap.size]? = some (.deferred (some []))
 have bkL:∀{st pe W},BK st pe W->w.heap.size+1<W.heap.size:=λh=>(az.1 h.1).1
 have bkE:∀{st pe W W'},BK st pe W->Ext W W'->BK st pe W':=λh he=>⟨(he.heap (az.1 h.1).1).trans h.1,(he.heap (az.1 h.2).1).trans h.2⟩
 have bkS:∀{st pe W W'} {C:Nat->Prop},BK st pe W->St C W W'->¬C (w.heap.size+1)->¬C w.heap.size->BK st pe W':=λh hk h1 h2=>⟨(hk.block _ (bkL h) h1).trans h.1,(hk.block _ (by have:=bkL h;omega) h2).trans h.2⟩
 have bkP:∀{st pe W} (st':LoopState) (pe':Option Code),BK st pe W->BK st' pe' (W.putObj (w.heap.size+1) (rec_ st' pe'))/\St (λb=>b=w.heap.size+1) W (W.putObj (w.heap.size+1) (rec_ st' pe')):=λst' pe' h=>
  ⟨⟨World.putObj_heap_same (az.1 h.1).1,(fr oM).trans h.2⟩,St.put h.1 rfl rfl⟩
 have e1:Ext w (w.alloc (.deferred (some []))):=Qfe w _ λW i j h=>by simp[World.frozen?,h]
 have e2:Ext (w.alloc (.deferred (some []))) ((w.alloc (.deferred (some []))).alloc (rec_ .ready none)):=Qfe _ _ λW i j h=>by simp[World.frozen?,h,rec_]
 have hrun:=run_enterLoop_outer (P:=P) (w:=w) fn a.tmps ps assign body;have bk1:BK .ready none ((w.alloc (.deferred (some []))).alloc (rec_ .ready none)):=
  ⟨by have:=fq (w.alloc (.deferred (some []))) (rec_ .ready none);rwa[eK]at this,(eY _ _ _ oO).trans (fq w _)⟩
 have eW:=e1.trans e2;have hs1:w.heap.size+2<=((w.alloc (.deferred (some []))).alloc (rec_ .ready none)).heap.size:=oO
 change _=Result.ok _ ((w.alloc (.deferred (some []))).alloc (rec_ .ready none))at hrun;generalize (w.alloc (.deferred (some []))).alloc (rec_ .ready none)=W1 at *;refine⟨w+1,_,W1,{ target:=.fn (.func gf) lb,args:=#[.func (.yield (w.heap.size+1)) #[] #[]] },W1,gf,#[.func (.yield (w.heap.size+1)) #[] #[]]++lb,W1,hrun,?_,?_,?_,λh=>by simp[Fence.wide]at h,?_⟩
 ·simp only [resolve,hg]
  simp[go_sem]
 .intro f' hf';trivial
 .simp [invoke,go_sem,eg]
 refine eL.2 ((hseq (w.heap.size+1) (λpre C W=>∃C0:Nat->Prop,C=(λb=>C0 b\/b=w.heap.size+1)/\I pre C0 W/\(∀b,C0 b->b<W.heap.size)/\¬C0 (w.heap.size+1)/\¬C0 w.heap.size/\BK .ready none W) (λpre W=>∃c,Ix c pre W/\BK .done (some c) W) (λb=>C₀ b\/b=w.heap.size+1) W1 ⟨?_,?_⟩ (hA.trans (eW.agree hK)) (ak hsz eW.size) ?_
  ⟨C₀,rfl,h0 W1 eW hs1,λb hb=>by have:=(hC b hb).1;omega,λh=>by have:=(hC _ h).1;omega,λh=>by have:=(hC _ h).1;omega,bk1⟩).mono ?_)
 ·rintro pre C W ⟨C0,rfl,-,hlt,-,-,hbk⟩ b (hb | rfl)
  .exact hlt b hb
  exact bkL hbk
 ·rintro pre C x W0 Wy ⟨C0,rfl,hi,hlt,nL,nD,hbk⟩ hx hgd
  have hbk1:=bkE hbk hx;have hl0:=bkL hbk;refine⟨fn,_,assign,body,run_yield (args:=encs x) hbk1.1 (hps x),roundIn_of_wpIn hfn (ge (hround pre C0 x W0 Wy hi hlt oM nL hx hgd) ?_)⟩;rintro e a3 W2 hp;cases e with
  | normal=>
    obtain⟨hx2,hb⟩:=hp;have hbk2:=bkE hbk1 hx2;obtain⟨hbk3,ht3⟩:=bkP .busy none hbk2;refine⟨_,run_beginRound hbk2.1 rfl,ge (hb _ ht3) ?_⟩;have hl3:=bkL hbk3;generalize W2.putObj (w.heap.size+1) (rec_ .busy none)=W3 at *;rintro e a4 W4 hq;cases e with
    | normal=>
      obtain⟨C',hi4,hst,hsub,hlt4⟩:=hq;have hbk4:=bkS hbk3 hst nL nD;obtain⟨hbk5,ht5⟩:=bkP .ready none hbk4;refine⟨_,_,fi none hbk4.1,.inl ⟨rfl,_,⟨C',rfl,hI hi4 ht5,λb hb=>ab (hlt4 b hb) ht5.size,λh=>?_,λh=>?_,hbk5⟩,?_,?_⟩⟩
      ·rcases hsub _ h with h | h
       .exact nL h
       omega
      ·rcases hsub _ h with h | h
       .exact nD h
       omega
      .exact (((hx2.st _).trans (ht3.mono λi _ hi=>.inr hi)).trans (hst.mono λi _ hi=>.inl hi)).trans (ht5.mono λi _ hi=>.inr hi)
      rintro b (hb|rfl)
      ·rcases hsub b hb with h | h
       .exact .inl (.inl h)
       exact .inr (by have:=hx2.size;have:=ht3.size;omega)
      exact .inl (.inr rfl)
    | ret=>
      have hbk4:=bkS hbk3 hq.1 nL nD;obtain⟨hbk5,ht5⟩:=bkP .done (some .ret) hbk4;exact⟨_,_,fi (some .ret) hbk4.1,.inr ⟨rfl,⟨.ret,hIx hq.2 ht5,hbk5⟩,(((hx2.st _).trans (ht3.mono λi _ hi=>.inr hi)).trans (hq.1.mono λi _ hi=>.inl hi)).trans (ht5.mono λi _ hi=>.inr hi)⟩⟩
    | exit id=>
      have hbk4:=bkS hbk3 hq.1 nL nD;obtain⟨hbk5,ht5⟩:=bkP .done (some (.exit id)) hbk4;exact⟨_,_,fi (some (.exit id)) hbk4.1,.inr ⟨rfl,⟨.exit id,hIx hq.2 ht5,hbk5⟩,(((hx2.st _).trans (ht3.mono λi _ hi=>.inr hi)).trans (hq.1.mono λi _ hi=>.inl hi)).trans (ht5.mono λi _ hi=>.inr hi)⟩⟩
    | goto t=>
      have hbk4:=bkS hbk3 hq.1 nL nD;obtain⟨hbk5,ht5⟩:=bkP .done (some (.goto t)) hbk4;exact⟨_,_,fi (some (.goto t)) hbk4.1,.inr ⟨rfl,⟨.goto t,hIx hq.2 ht5,hbk5⟩,(((hx2.st _).trans (ht3.mono λi _ hi=>.inr hi)).trans (hq.1.mono λi _ hi=>.inl hi)).trans (ht5.mono λi _ hi=>.inr hi)⟩⟩
    |panic ch=>exact hq.elim
    |outgrown=>exact hq.elim
  |ret=>exact hp.elim
  |exit id=>exact hp.elim
  |goto t=>exact hp.elim
  |panic ch=>exact hp.elim
  |outgrown=>exact hp.elim
 ·rintro b (hb | rfl) hk
  .exact (hC b hb).2 hk
  have:=hK _ hk;omega
 rintro e W2 ⟨⟨v,rfl⟩,(⟨xs,C,W0,hS,⟨C0,rfl,hi,-,-,-,hbk⟩,hx⟩ |⟨pre,W0,hSp,⟨c,hi,hbk⟩,hx⟩)⟩
 ·have hbk2:=bkE hbk hx
  obtain⟨hbk5,ht5⟩:=bkP .exhausted none hbk2;exact⟨none,_,fY hbk2.1 oO,hdone _ xs C0 _ rfl hS (hI hi ((hx.st _).trans ht5)) hbk5.2⟩
 have hbk2:=bkE hbk hx;obtain⟨hbk5,ht5⟩:=bkP .exhausted (some c) hbk2;exact⟨some c,_,fY hbk2.1 oO,hstop _ c pre _ rfl hSp (hIx hi ((hx.st _).trans ht5)) hbk5.2⟩
variable{ops:Array Oper}
theorem QbS{F:Fence}(w:World){rest:List Oper}{o:Oper}(a9:o.guard=none)(s' x:Operand)(t:TypeId)
  (ho:o.op=.call { callee:=.builtin .append,args:=#[s',x],argTypes:=#[t,t] })
  (base:Nat) (e:TypeId) (i:TypeInfo) (z:Value) (size I:Nat) (ht:P.underlying t=some (.slice e)) (hi:P.info? e=some i) (hz:i.zero=some z)
  (a0:i.size=size) (a5:i.bytes=I) (a6:z.cells.size=size) (b0:0<size)
  (s:Sl) (k:Nat) (xs:List Value) (hs:a.eval s'=.slice s.a k s.c) (a3:w.ownsRow base e size (.slice s.a k s.c) k xs)
  (G:Nat->Prop) (sx:Sl) (m:Nat) (N:List Value) (hx:a.eval x=.slice sx.a m sx.c) (a2:Rd w G size sx m N) (h1:∀u∈N,u.oneCell'=true)
  (a8:k+m<=maxLen) (Z:(k+m)*I<=140737488355328) (a1:base<=w.heap.size)
  (h:∀(s':Sl) (w':World),w'.ownsRow base e size (.slice s'.a (k+m) s'.c) (k+m) (xs++N)->Wr w w' s.row->(s'.a=s.a\/s'.a=some ⟨w,0,none⟩/\Wr w w' none)->wpListIn F n P ops Q rest (a.put o.dst (.slice s'.a (k+m) s'.c)) w'):wpListIn F n P ops Q (o::rest) a w:=by
 refine wpListIn_plain a9 λK a7=>?_
 obtain⟨v',w',hr,h2,h3,h4⟩:=QfG (P:=P) w base t o.type e i z size I ht hi hz a0 a5 a6 b0 s k xs a3 G sx m N a2 h1 a8 Z a1;unfold Oper.wpIn;refine⟨?_,?_⟩
 .simp [Oper.about,ho,resolve,Target.leads,Sem.run_pure]
 rw[Oper.semAt_plain F _ _ (by rw[ho];intro c a4;cases a4)];simp[execOp,ho,resolve,invoke,builtin,hs,hx,hr,Result.andThen];exact a7 _ _ (h v' w' h2 h3 h4)
variable{H:Nat->Prop}
theorem St.QdE{a w:World}(h:St H a w){b:Nat}(I:a<=b\/H b)(o:Nat)(d:Val)(sl so:Sl):St H a (QdE w b o d sl so):=
 (((((h.set (p:=⟨b,_,none⟩) I _).set (p:=⟨b,_,none⟩) I _).set (p:=⟨b,_,none⟩) I _).set (p:=⟨b,_,none⟩) I _).set (p:=⟨b,_,none⟩) I _).set (p:=⟨b,_,none⟩) I _
section
variable{H : Type}{enc : TypeId × Value -> H}{P : Program}{w : World}{held : Bool}
abbrev WOk(P:Program)(t:TypeId)(d:DataW H):Prop:=(DataW.weights P t d).all (·<=reachBytes)=true
abbrev tr(enc:TypeId × Value->H)(P:Program)(w:World)(held:Bool)(fuel:Nat)(t:TypeId)(cs:List Value):Option (DataW H × List MemPlace):=DataW.trod enc P w 0 (λ_=>true) held fuel t cs
theorem Qee{e:TypeId}:∀{l:List (DataW H)},(DataW.weightsAll P e l).all (·<=reachBytes)=true->∀d∈l,WOk P e d
 |[],_,d,hd=>by cases hd
 | x :: l,h,d,hd=>by
   simp only[DataW.weightsAll,List.all_append,Bool.and_eq_true]at h;rcases aH.1 hd with rfl|hd
   .exact h.1
   exact Qee h.2 d hd
theorem weightsEach_at:∀{ts:List TypeId} {I:List (DataW H)},(DataW.weightsEach P ts I).all (·<=reachBytes)=true->∀(i:Nat) (t:TypeId) (d:DataW H),ts[i]? = some t->I[i]? = some d->WOk P t d
 |[],_,_,i,t,d,ht,_=>by simp at ht
 |t::ts,[],_,i,t',d,_,hd=>by simp at hd
 | t :: ts,d :: I,h,i,t',d',ht,hd=>by
   simp only[DataW.weightsEach,List.all_append,Bool.and_eq_true]at h;cases i with
   |zero=>simp at ht hd;subst ht hd;exact h.1
   |succ i=>exact weightsEach_at h.2 i t' d' (by simpa using ht) (by simpa using hd)
theorem QqF{t e:TypeId}{C B a2:Nat}{cs:List Value}{x:DataW H × List MemPlace}(ht:P.underlying t=some (.slice e))(hC:P.cellsOf e=C)(hB:P.bytesOf e=B)(c0:0<C)
  (h:tr enc P w held a2 t cs=some x) (hw:WOk P t x.1) :
  ∃(n I:Nat) (s:Sl) (b o:Nat),a2=n+1/\cs=[.slice s.a I s.c]/\Qd5 (Lt w) s I b o/\I*B<=140737488351232/\
   ∀i,i<I->∃Z y,Z.length=C/\(∀j,j<C->w.cell? ⟨b,o+i*C+j,none⟩=Z[j]?)/\tr enc P w held n e Z=some y/\WOk P e y.1:=by
 rcases DataW.trod_slice ht h with⟨rfl,rfl⟩ |⟨a,I,b4,N,rest,n,rfl,rfl,rfl,-,hl,hm,c2,a3,b6,-⟩
 ·cases a2 with
  |zero=>simp[tr,DataW.trod]at h
  |succ n=>exact⟨n,0,Sl.none,0,0,rfl,rfl,.nil _ _,oM,λi hi=>oM⟩
 obtain⟨hr,a0⟩:=b6 rfl;have a5:(N.length+rest.length)*P.bytesOf e<=reachBytes/\(DataW.weightsAll P e (N.map (·.1))).all (·<=reachBytes)=true:=by
  have a4:=hw;simp only[WOk,DataW.weights,ht,List.all_cons,List.all_append,Bool.and_eq_true,decide_eq_true_eq,List.length_map]at a4;exact⟨a4.1,a4.2.1⟩
 rw[hB]at a5;rw[hC]at a3 a0;by_cases a7:b4=0
 ·subst a7
  obtain rfl:I=0:=oM
  exact⟨n,0,⟨some a,0⟩,0,0,rfl,rfl,.zero a 0 0,oM,λi hi=>oM⟩
 have b7:I*B<=140737488351232:=by
  have h1:I*B<=(N.length+rest.length)*B:=cg _ oM;have h2:=a5.1;have h3:reachBytes=140737488351232:=rfl;omega
 have b9:∃z:DataW H × List MemPlace,∃k,(w.cells? 0 (a.add (k*C)) C).bind (tr enc P w held n e)=some z/\k=0:=by
  by_cases h0:0<I
  .exact ⟨N[0]' oM,0,by rw[a3 0 h0];exact ac oM,rfl⟩
  have:=a0 0 oM;have e0:I=0:=oM
  rw[e0,ct]at this;exact⟨rest[0]' oM,0,by rw[this];exact ac oM,rfl⟩
 obtain⟨z,k,hz,rfl⟩:=b9;obtain⟨a9,c1,-⟩:=dE.1 hz;obtain⟨-,c3,b0⟩:=World.cells?_some c1;have a1:w.cell? (a.add 0)=some (a9[0]' oM):=by
  have:=b0 0 c0;rw[cE]at this;rw[ac oM]at this;simpa[Addr.add]using this
 obtain⟨b,o,b5⟩:=a;have a6:b5=none:=by simpa[Addr.add]using World.cell?_spot a1
 subst a6;have b3:b<w:=by
  have h1:w.cell? ⟨b,o,none⟩=some (a9[0]' oM):=by simpa[Addr.add]using a1
  exact eX w _ h1
 refine⟨n,I,⟨some ⟨b,o,none⟩,b4⟩,b,o,rfl,rfl,.some _ _ _ _ hl hm b3,b7,λi hi=>?_⟩;have he:=a3 i hi;rw[ac oM]at he;obtain⟨Z,h1,h2⟩:=dE.1 he;obtain⟨-,b8,a8⟩:=World.cells?_some h1;refine⟨Z,_,b8,λj hj=>?_,h2,Qee a5.2 _ (de (List.getElem_mem oM))⟩;have:=a8 j hj;rw[Go.WideShapes.add_plain,Go.WideShapes.add_plain]at this;exact this
theorem QkA{t:TypeId}{k:IntKind}{I:Nat}{cs:List Value}{x:DataW H × List MemPlace}(N:P.underlying t=some (.int k))(h:tr enc P w held I t cs=some x):∃n,cs=[.int k n]/\(Lit.int k n).wf=true:=by
 obtain⟨n,h1,-,h2⟩:=DataW.trod_int N h;exact⟨n,h1,h2⟩
theorem QqE{t:TypeId}{I:Nat}{cs:List Value}{x:DataW H × List MemPlace}(N:P.underlying t=some .bool)(h:tr enc P w held I t cs=some x):∃b,cs=[.bool b]:=by
 obtain⟨b,h1,-⟩:=DataW.trod_bool N h;exact⟨b,h1⟩
theorem Qzd{t:TypeId}{I:Nat}{cs:List Value}{x:DataW H × List MemPlace}(N:P.underlying t=some .string)(h:tr enc P w held I t cs=some x):∃s,cs=[.string s]/\s.size<=maxLen:=by
 obtain⟨s,h1,-,h2⟩:=DataW.trod_string N h;exact⟨s,h1,h2⟩
end
theorem skolem{α:Type}[Inhabited α]{p:Nat->Prop}{q:Nat->α->Prop}(h:∀i,p i->∃a,q i a):∃f:Nat->α,∀i,p i->q i (f i):=by
 have:∀i,∃y:α,p i->q i y:=λi=>by
  by_cases I:p i
  ·obtain ⟨a,N⟩:=h i I
   exact⟨a,λ_=>N⟩
  exact⟨default,λh=>absurd h I⟩
 exact Classical.axiomOfChoice this
instance : Inhabited Val :=⟨.mk 0 false 0 ByteArray.empty [] [] []⟩
instance : Inhabited Sl :=⟨Sl.none⟩
variable{cs:List Value}
theorem Qso(h:cs.length=6):∃a b c d e f,cs=[a,b,c,d,e,f]:=by
 match cs,h with
 |[a,b,c,d,e,f],_=>exact⟨_,_,_,_,_,_,rfl⟩
variable{j:Nat}
theorem at_of_take{cs l:List Value}{I k:Nat}(h:(cs.drop I).take k=l)(N:j<k):cs[I+j]? = l[j]?:=by
 rw[<-h,br,eH N,bc]
abbrev Qji(v:Val)(sl so:Sl):List Value:=[.int .i64 v.kind,.bool v.b,.int .i64 v.i,.string v.t,.slice sl.a v.l.length sl.c,.slice so.a v.ok.length so.c]
theorem QaY{α:Type}{f:Nat->α}{d:α}(h:((List.range n).map f)[j]? = some d):j<n/\d=f j:=by
 rw[ar]at h;obtain⟨k,I,rfl⟩:=dJ.1 h;obtain⟨h1,rfl⟩:=ae.1 I;simp at h1;exact⟨h1,oO⟩
section
variable{H : Type}{enc : TypeId × Value -> H}{w : World}{held : Bool}
theorem QbW:prog.cellsOf 34=6:=kM
theorem Qh9:prog.cellsOf 124=7:=kM
theorem Qxa:prog.cellsOf 78=7:=kM
theorem Qjh:prog.bytesOf 34=88:=kM
theorem Qh7:prog.bytesOf 124=104:=kM
theorem Qw9:prog.bytesOf 78=104:=kM
structure LA where
 kd:Int
 k:ByteArray
 v:Val
 sl:Sl
 so:Sl
instance : Inhabited LA :=⟨⟨0, ByteArray.empty, default, Sl.none, Sl.none⟩⟩
end
open Go.ChangeShapes Go.WideShapes Go.ChangeAt
theorem trodAll_stays{H:Type}{enc:TypeId × Value->H}{P:Program}(hl:laidOutB P=true){W W':World}(hx:Below W.heap.size W W')(N:Nat->Bool) :
  ∀{ts:List TypeId} {vs:List Value} {ds:List (DataW H)} {ps:List MemPlace},(∀t∈ts,P.readableRec t=true/\t<P.types.size)->DataW.TrodAll enc P W 0 (λ_=>true) true ts vs ds ps->
   (∀p∈ps,p.block<W.heap.size)->(∀p∈ps,N p.block=true)->DataW.TrodAll enc P W' 0 N true ts vs ds ps
 | [],vs,ds,ps,_,h,_,_=>by
   obtain⟨rfl,rfl,rfl⟩:=trodAll_nil h;exact rfl
 | t :: ts,vs,ds,ps,hr,h,hb,hs=>by
   obtain⟨v0,a1,d0,a0,p0,q0,rfl,rfl,rfl,h0,r0⟩:=trodAll_cons h;refine⟨p0,q0,Go.WideElems.Trod_stays hl (hr t (aF ..)).1 (hr t (aF ..)).2 h0 (λp I=>?_) (λp I=>hs p (List.mem_append_left _ I)),
    trodAll_stays hl hx N (λt ht=>hr t (aS _ ht)) r0 (λp I=>hb p (List.mem_append_right _ I)) (λp I=>hs p (List.mem_append_right _ I)),rfl⟩
   have Z:=hb p (List.mem_append_left _ I);cases p with
   |cell b o=>exact hx.cell (p:=⟨b,o,none⟩) Z
   |map b=>exact hx.block b Z
structure MapAt(H:Nat->Prop)(w:World)(M:Nat)(es:List Ent):Prop where
 hm:H M
 ex:∃s xs,Blk w M 56 #[.slice s.a xs.length s.c]/\ES w (NH H w) s xs/\xs.map LE.ent=es
variable{G:Nat->Prop}
theorem MapAt.st{M:Nat}{es:List Ent}(h:MapAt H w M es)(k:St G w w')(N:∀b,G b->H b)(hM:¬G M):MapAt H w' M es:=by
 obtain⟨Z,s,xs,I,hs,hx⟩:=h;exact⟨Z,s,xs,k.blk I hM,(hs.agree (λb I=>k.block b I.1 λhh=>I.2 (N b hh))).mono λi hi=>⟨Nat.lt_of_lt_of_le hi.1 k.size,hi.2⟩,hx⟩
theorem MapAt.ext{M:Nat}{es:List Ent}(h:MapAt H w M es)(k:Ext w w'):MapAt H w' M es:=
 h.st (k.st λ_=>False) (λ_ I=>I.elim) (λI=>I)
theorem MapAt.more{M:Nat}{es:List Ent}(h:MapAt H w M es)(hH:∀b,H b->G b)(I:∀b,b<w.heap.size->G b->H b):MapAt G w M es:=by
 obtain⟨N,s,xs,hb,hs,hx⟩:=h;exact⟨hH M N,s,xs,hb,hs.mono λi hi=>⟨hi.1,λZ=>hi.2 (I i hi.1 Z)⟩,hx⟩
theorem Qzf{M:Nat}{es:List Ent}(h:MapAt H w M es)(k:ByteArray):Calls prog 65 #[.pointer (some M),k] w λe w'=>
  e=.returned (.tuple #[.int .i64 (Qct es k),.bool (decide ((es[Qct es k]?).map Prod.fst=some k))])/\∃q,w'=w.drewN q:=by
 obtain⟨-,s,xs,hb,hs,rfl⟩:=h;have h0:w.cell? M=some (.slice s.a xs.length s.c):=hb.cell 0;have a4:=hs.few;have HS:=hY hs;clear hb hs;go_in;go_wp2_with fail;have a5:xs.length<=140737488355328:=oM
 go_loopw[6] (λq wr=>∃j:Nat,q=.int .i64 j/\j<=xs.length/\(∀i x,i<j->xs[i]? = some x->klt x.k k=true)/\wr=w) (λq _=>xs.length -(intOf q).toNat)
 case atStart=>exact⟨0,rfl,aA _,λi x hi=>absurd hi (ew _),rfl⟩
 obtain⟨j,rfl,hj,hp,rfl⟩:=hrel;have HP:=hY hp;clear hp;by_cases h1:j<xs.length
 ·have g1:(j:Int)<(xs.length:Int):=oM
  obtain⟨x,hx⟩:∃x,xs[j]? = some x:=⟨_,ac h1⟩;obtain⟨g,o,hg,lg,hc,a2,kx,-,-,-⟩:=HS.o.at hx;obtain⟨sa,sc⟩:=s;dsimp only at hg hc a2;subst hg;have a1:=hY hx;clear hx;cases a0:klt x.k k with
  | true=>
    have a3:Op.bytesLess x.k.toList k.toList=true:=a0;go_wp2_with fail;go_roundw
    case rel=>
     refine⟨j+1,by go_num,h1,λi y hi hy=>?_,by trivial⟩;rcases Nat.lt_or_eq_of_le (bv hi)with h|rfl
     .exact HP.o i y h hy
     rw[a1.o]at hy;cases hy;exact a0
    simp[intOf];omega
  | false=>
    have a3:Op.bytesLess x.k.toList k.toList=false:=a0;have I:Qct (xs.map LE.ent) k=j:=Qlr (by rw[aq];exact hj) (λi e hi N=>by
     rw[ar]at N;cases hy:xs[i]? with
     |none=>rw[hy]at N;cases N
     |some y=>rw[hy]at N;cases N;exact HP.o i y hi hy) (λe N=>by
     rw[ar,a1.o]at N;cases N;exact a0)
    have Z:=hY I;clear I;go_wp2_with fail;go_quiet (fail);go_wp2_with fail;refine eN (v:=.tuple #[j,.bool (x.k.toList==k.toList)]) (by simp[results,results65,go_sem]) rfl ?_;rw[Z.o,ar,a1.o];refine⟨?_,_,rfl⟩;rw[beq_toList];simp[LE.ent]
 have g1:¬(j:Int)<(xs.length:Int):=oM
 obtain rfl:j=xs.length:=oM
 have I:Qct (xs.map LE.ent) k=xs.length:=Qlr (by rw[aq];exact ao _) (λi e hi N=>by
  rw[ar]at N;cases hy:xs[i]? with
  |none=>rw[hy]at N;cases N
  |some y=>rw[hy]at N;cases N;exact HP.o i y hi hy) (λe N=>by
  rw[ar,aI (ao _)]at N;cases N)
 have Z:=hY I;clear I;go_wp2_with fail;refine eN (v:=.tuple #[xs.length,false]) (by simp[results,results65,go_sem]) rfl ?_;rw[Z.o];exact⟨oO,0,rfl⟩
theorem Qx1{es:List Ent}(hs:Sorted es)(k:ByteArray):decide ((es[Qct es k]?).map Prod.fst=some k)=(Qaq es k).isSome:=by
 rw[Qit hs];cases N:es[Qct es k]? with
 |none=>simp
 |some e=>by_cases I:e.1=k<;>simp[I]
def Qxw(o:Option Val)(w:World)(e:Ending)(w':World):Prop:=
 ∃sl so,e=.returned (.tuple #[QbV (o.getD zeroV) sl so,.bool o.isSome])/\Ext w w'/\RV w' (Lt w.heap.size) (o.getD zeroV) sl so
def QxW(F:Nat->Prop)(o:Option Val)(w:World)(e:Ending)(w':World):Prop:=
 ∃sl so,e=.returned (.tuple #[QbV (o.getD zeroV) sl so,.bool o.isSome])/\Ext w w'/\RV w' F (o.getD zeroV) sl so
theorem Qy8{M:Nat}{es:List Ent}(h:MapAt H w M es)(a7:Sorted es)(k:ByteArray):Calls prog 128 #[.pointer (some M),k] w (QxW (NH H w) (Qaq es k) w):=by
 have a6:=gm w 34 #[.int .i64 0,.bool false,.int .i64 0,.string ByteArray.empty,.slice none 0 0,.slice none 0 0];have a2:Ext w (w.alloc (.cells #[.int .i64 0,false,.int .i64 0,ByteArray.empty,.slice none 0 0,.slice none 0 0] 34)):=(gh w).alloc _ _;have a3:=Qzf (h.ext a2) k;rw[Qx1 a7]at a3;have I:=Qit a7 k;obtain⟨-,s,xs,hb,hs,rfl⟩:=h;obtain⟨HS,HB,a4,a0⟩:=Ye hs hb a2 a3;obtain⟨p,hp⟩:∃p,Qct (xs.map LE.ent) k=p:=⟨_,rfl⟩;rw[hp]at I;have HP:=hY hp;have b5:=hs.few;clear hb hs a3 a2 hp;cases hg:Qaq (xs.map LE.ent) k with
 | none=>
   rw[hg]at a0;clear I hg;go_in;go_wp2_with fail;refine a0.o.mono ?_;rintro e w2 ⟨rfl,q,rfl⟩;go_wp2_with fail;have Z:=a6.ext ((gh _).drewN q);obtain⟨c0,c1,c2,c3,c4,c5⟩:=Z.c6;have a1:=hY (a4.o.drewN q);generalize World.drewN _ q=W2 at *;clear a0 Z;refine eN (v:=.tuple #[.agg #[.int .i64 0,.bool false,.int .i64 0,.string ⟨#[]⟩,.slice none 0 0,.slice none 0 0],.bool false]) (by simp[results,results128,go_sem,c0,c1,c2,c3,c4,c5]) rfl ?_;exact⟨Sl.none,Sl.none,rfl,a1.o.QdE (b:=w) (ao _) 0 zeroV Sl.none Sl.none,RV.flat _ _ _ _ _ _ oN oN oN⟩
 | some v=>
   have a8:∃x,xs[p]? = some x/\x.v=v:=by
    rw[hg,ar]at I;cases hx:xs[p]? with
    |none=>rw[hx]at I;cases I
    | some x=>
      rw[hx]at I;simp only[Option.map_some,Option.bind_some]at I;by_cases hk:x.ent.1=k
      .rw [eH hk]at I;cases I;exact⟨x,rfl,rfl⟩
      rw[eE hk]at I;cases I
   obtain⟨x,hx,rfl⟩:=a8;rw[hg,HP.o]at a0;have b7:p<xs.length:=(ae.1 hx).1;have b6:(p:Int)<(xs.length:Int):=oM
   have b0:=HB.o.ext a4.o;obtain⟨g,o,a5,lg,b4,a9,-,⟨v0,v1,v2,v3,v4,v5⟩,rx,-⟩:=HS.o.at hx;obtain⟨sa,sc⟩:=s;dsimp only at a5 b4 a9;subst a5;have b3:=hY rx;have lg:g<w:=lg.1;have lM:=HB.o.lt;have m0:w.cell? M=some (.slice (some ⟨g,o,none⟩) xs.length sc):=HB.o.cell 0;clear I hg hx b0 rx;go_in;go_wp2_with fail;refine a0.o.mono ?_;rintro e w2 ⟨rfl,q,rfl⟩;have Z:=a6.ext ((gh _).drewN q);obtain⟨c0,c1,c2,c3,c4,c5⟩:=Z.c6;have N:=a4.o.drewN q
   replace m0:=(N.cell lM).trans m0
   replace v0:=(N.cell lg).trans v0
   replace v1:=(N.cell lg).trans v1
   replace v2:=(N.cell lg).trans v2
   replace v3:=(N.cell lg).trans v3
   replace v4:=(N.cell lg).trans v4
   replace v5:=(N.cell lg).trans v5
   have l2:=Z.lt;have f4:=Z.frozen;have a1:=hY N;generalize World.drewN _ q=W2 at *;clear a0 Z N;go_wp2_with fail;refine eN (v:=.tuple #[QbV x.v x.sl x.so,true]) (by simp[results,results128,go_sem,c0,c1,c2,c3,c4,c5]) rfl ?_;exact⟨x.sl,x.so,rfl,a1.o.QdE (b:=w) (ao _) 0 x.v x.sl x.so,(b3.o.agree (a1.o.agree λ_ h=>h.1)).agree (Qbm W2 w.heap.size 0 x.v x.sl x.so (F:=NH H w) λh=>da _ h.1)⟩
theorem Qzg{M:Nat}{es:List Ent}(h:MapAt H w M es)(I:Sorted es)(k:ByteArray):Calls prog 128 #[.pointer (some M),k] w (Qxw (Qaq es k) w):=
 (Qy8 h I k).mono λe w' ⟨sl,so,h1,h2,h3⟩=>⟨sl,so,h1,h2,h3.mono λi hi=>hi.1⟩
def Qxx(H:Nat->Prop)(M:Nat)(es:List Ent)(w:World)(e:Ending)(w':World):Prop:=
 (∃r,e=.returned r)/\MapAt H w' M es/\St (λb=>b=M) w w'
variable{o:Nat}
theorem Wr.cell0{w w' I:World}{row:Option Nat}(h:Wr w' I row)(Z:Ext w w'){M:Nat}(hn:row≠some M)(N:M<w.heap.size):I.cell? ⟨M,o,none⟩=w.cell? ⟨M,o,none⟩/\M<I.heap.size:=
 ⟨((h.agree (F:=λb=>b=M) (λi hi=>by subst hi;exact ab N Z.size) (λk hk e=>hn (e▸hk))).cell rfl).trans (Z.cell N),ab N (ak Z.size h.grown.size)⟩
def Qwk(xs:List LE)(p q:Nat)(x:LE):List LE:=(xs.take p++[x])++xs.drop q
theorem QyH{k:ByteArray}(hs:Sorted (xs.map LE.ent))(x:LE)(Z:x.k=k){p q:Nat}(I:Qct (xs.map LE.ent) k=p)(N:q=if(((xs.map LE.ent)[p]?).map Prod.fst=some k)then p+1 else p):(Qwk xs p q x).map LE.ent=QbY (xs.map LE.ent) k x.v:=by
 rw[Qry hs,I,Qwk];subst Z N;simp only[List.map_append,List.map_take,List.map_drop,List.map_cons,List.map_nil,List.append_assoc,List.singleton_append];congr 2;split<;>rfl
variable{w3:World}{s3:Sl}{x:LE}
theorem QyI{M:Nat}{p q:Nat}{es:List Ent}(hm:H M)(hH:∀b,H b->b<w.heap.size)(hb:Blk w M 56 #[.slice s.a xs.length s.c])(hs:ES w (NH H w) s xs)(hv:RV w (NH H w) x.v x.sl x.so)(hk:x.k.size<=maxLen)
  (hx:Ext w w3) (a2:w3.ownsRow w.heap.size 78 7 (.slice s3.a (Qwk xs p q x).length s3.c) (Qwk xs p q x).length (QaD (Qwk xs p q x))) (hf:(Qwk xs p q x).length*104<=140737488355328) (he:(Qwk xs p q x).map LE.ent=es) :
  MapAt H (w3.setCell M (.slice s3.a (Qwk xs p q x).length s3.c)) M es/\St (λb=>b=M) w (w3.setCell M (.slice s3.a (Qwk xs p q x).length s3.c)):=by
 have a4:=hb.lt;have N:St (λb=>b=M) w (w3.setCell M (.slice s3.a (Qwk xs p q x).length s3.c)):=(hx.st (λb=>b=M)).set (p:=⟨M,0,none⟩) (.inr rfl) _;have a1:Agree (NH H w) w (w3.setCell M (.slice s3.a (Qwk xs p q x).length s3.c)):=N.agree.mono λi hi=>⟨hi.1,λe=>hi.2 (e▸hm)⟩
 have a0:∀i,NH H w i->NH H (w3.setCell M (.slice s3.a (Qwk xs p q x).length s3.c)) i:=λi hi=>⟨Nat.lt_of_lt_of_le hi.1 N.size,hi.2⟩
 have Z:Agree (In w.heap.size w3.heap.size) w3 (w3.setCell M (.slice s3.a (Qwk xs p q x).length s3.c)):=gw w3 M _ (λh=>by have h1:w.heap.size<=M:=h.1;omega);refine⟨⟨hm,s3,Qwk xs p q x,?_,⟨?_,?_,hf⟩,he⟩,N⟩
 .exact (hb.ext hx).QbH 0 _
 .exact ((gz a2).agree Z).mono λi hi=>⟨by rw[eP];exact hi.2,λh=>by have:=hH i h;have:=hi.1;omega⟩
 intro y I;have I:y∈(xs.take p++[x])++xs.drop q:=I;have a3:y∈xs\/y=x:=by
  rcases aO.1 I with I|I
  ·rcases aO.1 I with I | I
   .exact .inl (ba I)
   exact .inr (aV.1 I)
  exact .inl (aN I)
 rcases a3 with I|rfl
 .exact ⟨((hs.vals y I).1.agree a1).mono a0,(hs.vals y I).2⟩
 exact⟨(hv.agree a1).mono a0,hk⟩
section
variable{P : Program}{w : World}
theorem Qwo{ops:Array Oper}{rest:List Oper}{o:Oper}{a:Act}{Q:Exit->Act->World->Prop}(a5:o.guard=none)(s' x:Operand)(t:TypeId)
  (ho:o.op=.call { callee:=.builtin .append,args:=#[s',x],argTypes:=#[t,t] })
  (base:Nat) (e:TypeId) (i:TypeInfo) (z:Value) (size I:Nat) (ht:P.underlying t=some (.slice e)) (hi:P.info? e=some i) (hz:i.zero=some z)
  (a0:i.size=size) (a3:i.bytes=I) (a4:z.cells.size=size) (a6:0<size) (hs:a.eval s'=.slice none 0 0)
  (F:Nat->Prop) (sx:Sl) (m:Nat) (N:List Value) (hx:a.eval x=.slice sx.a m sx.c) (a2:Rd w F size sx m N) (h1:∀u∈N,u.oneCell'=true)
  (a7:m<=maxLen) (Z:m*I<=140737488355328) (a1:base<=w.heap.size)
  (h:∀(s':Sl) (w':World),w'.ownsRow base e size (.slice s'.a m s'.c) m N->Ext w w'->wpList P ops Q rest (a.put o.dst (.slice s'.a m s'.c)) w'):wpList P ops Q (o::rest) a w:=
 Qak w a5 s' x t ho base e i z size I ht hi hz a0 a3 a4 a6 Sl.none 0 [] hs (eS _ _ _ _) F sx m N hx a2 h1 oM (by rw[aD];exact Z) a1 λs2 w2 h2 h3 _=>by
  rw[aD,aG]at h2;rw[aD];exact h s2 w2 h2 ((gh w).wr h3 (λi hi=>by cases hi))
end
section
variable{P : Program}{w : World}{ops : Array Oper}{rest : List Oper}{o : Oper}{a : Act}{Q : Exit -> Act -> World -> Prop}
theorem QxV(Z:o.guard=none)(x lo:Operand)(t e:TypeId)(size:Nat)(ho:o.op=.slice t x (some lo) none none)(N:P.underlying t=some (.slice e)){i:TypeInfo}(hi:P.info? e=some i)(a0:i.size=size)
  (s:Sl) (n l:Nat) (hx:a.eval x=.slice s.a n s.c) (hl:a.eval lo=.int .i64 l) (hn:l<=n)
  (h:∀s':Sl,s'.a=(if s.c=l then s.a else s.a.map (·.add (l*size)))->s'.c=s.c-l->wpList P ops Q rest (a.put o.dst (.slice s'.a (n-l) s'.c)) w):wpList P ops Q (o::rest) a w:=
 fP Z λ_ hK=>by
  have I:P.elem t=e:=by simp[Program.elem,N]
  have hs:(Go.sizeOf e).run P w=.ok size w:=by simp[Go.sizeOf,typeInfo,hi,a0]
  have hr:=Go.run_slice_l (P:=P) (w:=w) t s.a n s.c (by rw[I];exact N) .i64 (l:Int) oM oM;rw[I,hs]at hr;unfold Oper.wp;simp[execOp,ho,hx,hl,Instr.sliceAt,run_underlying N,hr,Result.andThen,sliced];exact hK _ _ (h ⟨_,_⟩ rfl rfl)
theorem Qw5(a0:o.guard=none)(x I:Operand)(t e:TypeId)(ho:o.op=.slice t x none (some I) none)(Z:P.underlying t=some (.slice e)){i:TypeInfo}(hi:P.info? e=some i)
  (s:Sl) (n l:Nat) (hx:a.eval x=.slice s.a n s.c) (hl:a.eval I=.int .i64 l) (hn:l<=s.c)
  (h:wpList P ops Q rest (a.put o.dst (.slice s.a l s.c)) w):wpList P ops Q (o::rest) a w:=
 fP a0 λ_ hK=>by
  have N:P.elem t=e:=by simp[Program.elem,Z]
  have hs:(Go.sizeOf e).run P w=.ok i.size w:=by simp[Go.sizeOf,typeInfo,hi]
  have hr:=Go.run_slice_h (P:=P) (w:=w) t s.a n s.c (by rw[N];exact Z) .i64 (l:Int) oM oM;rw[N,hs]at hr;have h0:(if s.c=0 then s.a else s.a.map (·.add 0))=s.a:=by
   cases s.a<;>simp[Addr.add]
  unfold Oper.wp;simp[execOp,ho,hx,hl,Instr.sliceAt,run_underlying Z,hr,Result.andThen,sliced,h0];exact hK _ _ h
end
theorem Rd.cut{size n m:Nat}(h:Rd w F size s n cs)(hm:m<=n)(Z:s'.a=if s.c=m then s.a else s.a.map (·.add (m*size)))(N:s'.c=s.c-m):Rd w F size s' (n-m) (cs.drop (m*size)):=by
 obtain⟨b,o,h1,h2,h3⟩:=h;obtain⟨sa,sc⟩:=s';dsimp only at Z N;subst Z N;refine⟨b,o+m*size,?_,by rw[aw,h2,<-dv],λj u hj=>?_⟩
 ·cases h1 with
  | nil=>
    obtain rfl:m=0:=oM
    exact .nil _ _
  | some _ cc _ _ h4 h5 h6=>
    dsimp only;by_cases I:cc=m
    ·subst I
     rw[eH rfl,cu,show n-cc=0 by omega];exact .zero _ _ _
    rw[eE I,bK,Qbc];exact .some _ _ _ _ oM oM h6
  | zero a=>
    obtain rfl:m=0:=oM
    exact .zero _ _ _
 rw[bc]at hj;rw[bH];exact h3 _ u hj
theorem Qd5.cap{n b o:Nat}(h:Qd5 F s n b o):n<=s.c:=by
 cases h with
 |nil=>exact aA _
 |some _ cc _ _ h4 h5 h6=>exact h4
 |zero a=>exact aA _
variable{sl so:Sl}
theorem QxC{M:Nat}{es:List Ent}(h:MapAt H w M es)(hH:∀b,H b->b<w.heap.size)(e1:Sorted es)(hc:es.length<=1000000){k:ByteArray}(hk:k.size<=maxLen){v:Val}(hv:RV w (NH H w) v sl so) :
  Calls prog 43 #[.pointer (some M),k,QbV v sl so] w (Qxx H M (QbY es k v) w):=by
 obtain⟨i0,hi,b4,a4,a9⟩:=eR Tryz.Qa8;have b0:=λW (hW:Ext w W)=>Qzf (h.ext hW) k
 have g9:=Qp8 es k;obtain⟨hm,s,xs,hb,hs,N⟩:=h;obtain⟨p,hp⟩:∃p,Qct es k=p:=⟨_,rfl⟩;obtain⟨f,hf⟩:∃f,decide ((es[p]?).map Prod.fst=some k)=f:=⟨_,rfl⟩;rw[hp,hf]at b0;have b9:xs.length=es.length:=by rw[<-N,aq]
 obtain⟨q,hq⟩:∃q,(if f=true then p+1 else p)=q:=⟨_,rfl⟩;have b5:q=if((es[p]?).map Prod.fst=some k)then p+1 else p:=by
  rw[<-hq,<-hf];simp only[decide_eq_true_eq]
 have b8:q<=xs.length:=by
  rw[b5];split
  ·rename_i he
   have:p<es.length:=by
    rcases d9 p es.length with h|h
    .exact h
    rw[aI h]at he;cases he
   omega
  omega
 have c7:p<=xs.length:=oM
 obtain⟨x,hx⟩:∃x:LE,x=⟨k,v,sl,so⟩:=⟨_,rfl⟩;have I:(Qwk xs p q x).length=p+1+(xs.length-q):=by
  simp only[Qwk,List.length_append,List.length_take,List.length_drop,List.length_cons,List.length_nil];omega
 have e2:QaD (Qwk xs p q x)=(QaD (xs.take p)++x.cells)++QaD (xs.drop q):=by rw[Qwk,Qcp,Qcp,show QaD [x]=x.cells from by simp[QaD]]
 have f5:=hY (show ∀(w3:World) (s3:Sl),Ext w w3->w3.ownsRow w.heap.size 78 7 (.slice s3.a (p+1+(xs.length-q)) s3.c) (p+1+(xs.length-q)) ((QaD (xs.take p)++x.cells)++QaD (xs.drop q))->_ fromλw3 s3 h1 h2=>by
  have h3:=QyI (w3:=w3) (s3:=s3) (p:=p) (q:=q) (x:=x) (es:=QbY es k v) hm hH hb hs (by rw[hx];exact hv) (by rw[hx];exact hk) h1 (by rw[I,e2];exact h2) (by rw[I];omega) (by
   have:=QyH (xs:=xs) (k:=k) (by rw[N];exact e1) x (by rw[hx]) (p:=p) (q:=q) (by rw[N];exact hp) (by rw[N];exact b5);rw[this,N,hx])
  rw[I]at h3;exact h3)
 have b7:=λ(W:World) (hW:Ext w W)=>((hs.mono (G:=Lt w) λi hi=>hi.1).agree (hW.agree λ_ h=>h)).rd
 obtain⟨gs,os,f2,-,-⟩:=hs.rd;have e6:=ak c7 f2.cap;obtain⟨g4,g6,HB,e0,HQ,i3⟩:=Yg (λW (hW:Ext w W)=>by have h:=(b7 W hW).take c7;rwa[QcS]at h) (λW (hW:Ext w W) (s':Sl) ha hc=>by have h:=(b7 W hW).cut (s':=s') b8 ha hc;rwa[QcQ]at h) hb b0 hq (hb.frozen 0);have i1:xs.length<=1000000:=oM
 have f3:p<=maxLen:=by unfold maxLen;omega
 have d4:p*104<=140737488355328:=oM
 have e8:p+1<=maxLen:=by unfold maxLen;omega
 have f4:(p+1)*104<=140737488355328:=oM
 have f6:p+1+(xs.length-q)<=maxLen:=by unfold maxLen;omega
 have e7:(p+1+(xs.length-q))*104<=140737488355328:=oM
 clear b0 b7 I e2 hq b5 hf N b9 hs hb hv f2 hp e1 g9 hm hH hk hc;go_in;go_upto_region 1 with fail;generalize f1:World.alloc _ _=w1;obtain⟨d7,c8⟩:Ext w w1/\Blk w1 w.heap.size 34 #[.int .i64 v.kind,.bool v.b,.int .i64 v.i,.string v.t,.slice sl.a v.l.length sl.c,.slice so.a v.ok.length so.c]:=by rw[<-f1];exact⟨(gh w).alloc _ _,gm w _ _⟩
 obtain⟨b3,a3⟩:=Yb d7 c8;clear f1 d7 c8;go_wp2_with fail;refine(e0.o _ b3.o).mono ?_;rintro e w2 ⟨rfl,nq,rfl⟩;have a6:=b3.o.drewN nq;obtain⟨c0,c1,c2,c3,c4,c5⟩:=(a3.o.ext ((gh w1).drewN nq)).c6;have a3:=hY (a3.o.ext ((gh w1).drewN nq));generalize World.drewN _ nq=w2 at *;have h0:w2.cell? M=some (.slice s.a xs.length s.c):=(HB.o.ext a6).cell 0;have f8:=a6.size;have d3:=hY a6;clear a6 e0 b3;go_upto_region 4 with(first |(refine Qw5 rfl (.tmp 19) (.tmp 20) 41 78 rfl underlying41 hi s xs.length p rfl rfl e6 ?_) |(at_builtin;refine Qwo rfl (.tmp 15) (.tmp 21) 41 rfl w.heap.size 78 i0 _ 7 104 underlying41 hi b4 a4 a9 rfl oN rfl (Lt w) s p (QaD (xs.take p)) rfl (g4.o w2 d3.o) (QbX _) f3 d4 f8 ?_;intro s1 w3 a2 e3;have b6:=hY a2;have d5:=hY e3;clear a2 e3));have d6:=hY (d3.o.trans d5.o);have i2:=d6.o.size;obtain⟨c0,c1,c2,c3,c4,c5⟩:=(a3.o.ext d5.o).c6;obtain⟨f9,d0⟩:=Yb (gm w3 78 x.cells.toArray) (d6.o.alloc x.cells.toArray 78);have g7:=d0.o.size;have g0:=hY (Qab (w':=w3.alloc (.cells x.cells.toArray 78)) (s:=s1) b6.o (F:=Lt w3) (((gh w3).alloc _ _).agree λ_ h=>h) λb hb=>(Qad (s:=s1) b6.o hb).2);subst hx;go_upto_if 29 with(at_builtin;refine Qak _ rfl (.tmp 23) (.tmp 27) 41 rfl w.heap.size 78 i0 _ 7 104 underlying41 hi b4 a4 a9 rfl oN s1 p (QaD (xs.take p)) rfl g0.o (λb=>b=w3.heap.size) ⟨some w3,1⟩ 1 (LE.cells ⟨k,v,sl,so⟩) rfl (gA f9.o oN rfl) (LE.one _) e8 f4 g7 ?_;intro s2 w5 a1 a8 _;have e4:=hY a1;have a5:=hY (d0.o.wr a8 λi hi=>(Qad (s:=s1) b6.o hi).1);clear a1 a8);have h0:w5.cell? M=some (.slice s.a xs.length s.c):=(HB.o.ext a5.o).cell 0;have g8:=a5.o.size;go_cut [6] (λv wc=>v=.int .i64 (q:Int)/\wc=w5)
 case first=>
  cases f with
  | true=>
    obtain rfl:p+1=q:=HQ.o;go_wp2_with fail;go_meet;exact⟨by go_num,rfl⟩
  | false=>
    obtain rfl:p=q:=HQ.o;go_wp2_with fail;go_meet;exact⟨rfl,rfl⟩
 obtain⟨rfl,rfl⟩:=hcut;go_wp2_with(first |(refine QxV rfl (.tmp 37) (.tmp 38) 41 78 7 rfl underlying41 hi a4 s xs.length q rfl rfl b8 ?_;intro sq c9 d8;have g3:=hY (g6.o wc a5.o sq c9 d8);clear c9 d8) |(at_builtin;refine Qak _ rfl (.tmp 33) (.tmp 39) 41 rfl w.heap.size 78 i0 _ 7 104 underlying41 hi b4 a4 a9 rfl oN s2 (p+1) _ rfl e4.o (Lt w) sq (xs.length-q) (QaD (xs.drop q)) rfl g3.o (QbX _) f6 e7 g8 ?_;intro s3 w6 Z a7 _;have a0:=a5.o.wr a7 (λi hi=>(Qad (s:=s2) e4.o hi).1);have h0:w6.cell? M=some (.slice s.a xs.length s.c):=(HB.o.ext a0).cell 0;have f0:=(HB.o.ext a0).frozen 0;have l0:=(HB.o.ext a0).lt;have g5:=hY Z;have f7:=hY a0;clear Z a7 a0));go_end0;exact⟨⟨_,rfl⟩,f5.o w6 s3 f7.o g5.o⟩
abbrev fN:=@bne_eq_false_iff_eq
theorem QgO(w:World)(a b:Int):Calls prog 63 #[a,b] w λe w'=>e=.returned (Qcj a b)/\w=w':=by
 by_cases h:a<b
 ·have I:Qcj a b = -1:=by simp [Qcj,h]
  rw[I];go_in;go_wp2_with fail;go_ret;exact⟨rfl,rfl⟩
 by_cases N:b<a
 ·have I:Qcj a b=1:=by simp [Qcj,h,N]
  rw[I];go_in;go_wp2_with fail;go_ret;exact⟨rfl,rfl⟩
 have I:Qcj a b=0:=by simp[Qcj,h,N]
 rw[I];go_in;go_wp2_with fail;go_ret;exact⟨rfl,rfl⟩
theorem Qh3(p x y:List UInt8):Op.bytesLess (p++x) (p++y)=Op.bytesLess x y:=by
 induction p with
 |nil=>rfl
 |cons a p ih=>simp[Op.bytesLess,ih]
theorem Qf0{a:ByteArray}{i:Nat}(h:i<a.size):a.toList[i]? = some a[i]:=by
 rw[eQ];obtain⟨d⟩:=a;have h:i<d.size:=h;show d.toList[i]? = some d[i];simp[h]
theorem QhS(a:ByteArray):a.toList.length=a.size:=by
 rw[eQ];rfl
theorem Qof{a b:ByteArray}{i:Nat}(ha:i<a.size)(hb:i<b.size)(hp:a.toList.take i=b.toList.take i)(Z:a[i]≠b[i]):Qbn a b=Qcj (a[i].toNat:Int) (b[i].toNat:Int):=by
 have e1:a.toList=a.toList.take i++a[i]::a.toList.drop (i+1):=by
  have h:=Qf0 ha;obtain⟨h1,h2⟩:=ae.1 h
  conv=>lhs;rw[<-aX i a.toList,aE h1,h2]
 have e2:b.toList=a.toList.take i++b[i]::b.toList.drop (i+1):=by
  have h:=Qf0 hb;obtain⟨h1,h2⟩:=ae.1 h
  conv=>lhs;rw[<-aX i b.toList,aE h1,h2]
  rw[hp]
 unfold Qbn klt;generalize a[i]=x at *;generalize b[i]=y at *;have a0:∀(P u v A B:List UInt8),A=P++x::u->B=P++y::v->Op.bytesLess A B=decide (x<y)/\Op.bytesLess B A=decide (y<x):=by
  rintro P u v A B rfl rfl;have I:¬x=y:=Z;have N:¬y=x:=λh=>Z h.symm
  rw[Qh3,Qh3];exact⟨by simp[Op.bytesLess,I],by simp[Op.bytesLess,N]⟩
 obtain⟨k1,k2⟩:=a0 _ _ _ _ _ e1 e2;rw[k1,k2];unfold Qcj;have h1:(x<y)↔((x.toNat:Int)<(y.toNat:Int)):=by rw[UInt8.lt_iff_toNat_lt];omega
 have h2:(y<x)↔((y.toNat:Int)<(x.toNat:Int)):=by rw[UInt8.lt_iff_toNat_lt];omega
 simp only[decide_eq_true_eq,h1,h2]
theorem Qkx{a b:ByteArray}(I:a.toList.take (min a.size b.size)=b.toList.take (min a.size b.size)):Qbn a b=Qcj (a.size:Int) (b.size:Int):=by
 have Z:=QhS a;have N:=QhS b;rcases Nat.lt_trichotomy a.size b.size with h|h|h
 ·have e:b.toList=a.toList++b.toList.drop a.size:=by
   rw[bR (bZ h),<-Z,aR,Z]at I
   conv=>lhs;rw[<-aX a.size b.toList,<-I]
  obtain⟨c,r,hr⟩:∃c r,b.toList.drop a.size=c::r:=by
   cases hd:b.toList.drop a.size with
   |nil=>have:=congrArg List.length hd;rw[aw,N]at this;simp at this;omega
   |cons c r=>exact⟨c,r,rfl⟩
  have k1:klt a b=true:=by
   unfold klt;rw[e,hr]
   conv=>lhs;arg 1;rw[<-aU a.toList]
   rw[Qh3];rfl
  unfold Qbn Qcj;rw[eH k1,eH oM]
 ·have e:a=b:=toList_inj (by rw [h,Nat.min_self,←N] at I;rw [aR] at I;rw [←I,N,←h,←Z,aR])
  subst e;rw[Qd1,Qj7]
 have e:a.toList=b.toList++a.toList.drop b.size:=by
  rw[Nat.min_eq_right (bZ h)]at I
  conv=>lhs;rw[<-aX b.size a.toList,I,<-N,aR]
  rw[N]
 obtain⟨c,r,hr⟩:∃c r,a.toList.drop b.size=c::r:=by
  cases hd:a.toList.drop b.size with
  |nil=>have:=congrArg List.length hd;rw[aw,Z]at this;simp at this;omega
  |cons c r=>exact⟨c,r,rfl⟩
 have k1:klt b a=true:=by
  unfold klt;rw[e,hr]
  conv=>lhs;arg 1;rw[<-aU b.toList]
  rw[Qh3];rfl
 unfold Qbn Qcj;rw[eE (by rw[Qbh k1];simp),eH k1,eE oM,eH oM]
theorem Qky(w:World)(a b:ByteArray)(ha:a.size<=maxLen)(hb:b.size<=maxLen):Calls prog 64 #[a,b] w λe w'=>e=.returned (Qbn a b)/\Ext w w':=by
 have hn:∀W(x y:Int),Calls prog 63 #[x,y] W λe w'=>e=.returned (Qcj x y)/\W=w':=QgO
 unfold maxLen at ha hb;have HN:=hY hn;clear hn;go_in;go_wp2_with fail;go_loopw[5] (λq wr=>∃i:Nat,q=.int .i64 i/\i<=a.size/\i<=b.size/\a.toList.take i=b.toList.take i/\Ext w wr) (λq _=>a.size -(intOf q).toNat)
 case atStart=>exact⟨0,rfl,aA _,aA _,rfl,gh w⟩
 obtain⟨i,rfl,a4,a3,Z,hx⟩:=hrel;by_cases h1:i<a.size
 ·by_cases h2:i<b.size
  ·have g1:(i:Int)<(a.size:Int):=oM
   have g2:(i:Int)<(b.size:Int):=oM
   obtain⟨HP,HX⟩:=Yb Z hx;clear Z hx;go_wp2_with fail;go_quiet (fail);go_wp2_with fail
   case _=>
    have I:(((a[i].toNat:Nat):Int) !=((b[i].toNat:Nat):Int))=true:=by assumption
    have N:a[i]≠b[i]:=λe=>by rw[e]at I;simp at I
    have HT:=hY (Qof h1 h2 HP.o N);have a1:wrap64 ((a[i].toNat:Nat):Int)=((a[i].toNat:Nat):Int):=by have:=a[i].toNat_lt;unfold wrap64;omega
    have a0:wrap64 ((b[i].toNat:Nat):Int)=((b[i].toNat:Nat):Int):=by have:=b[i].toNat_lt;unfold wrap64;omega
    obtain⟨a2,a5⟩:=Yb a1 a0;clear N a1 a0;go_quiet ((go_at_call 63;refine(HN.o _ _ _).mono ?_;rintro e w2 ⟨rfl,rfl⟩;exact⟨rfl,_,rfl⟩));go_wp2_with fail;go_ret;rw[HT.o,a2.o,a5.o];exact⟨rfl,(HX.o.drewN _).drewN _⟩
   case roundEnd=>
    have I:(((a[i].toNat:Nat):Int) !=((b[i].toNat:Nat):Int))=false:=by assumption
    have he:a[i]=b[i]:=UInt8.toNat_inj.1 (by have h:=fN.1 I;omega);refine⟨⟨i+1,oO,oM,oM,?_,HX.o.drewN _⟩,?_⟩
    .rw [aJ,aJ,Qf0 h1,Qf0 h2,HP.o,he]
    simp[intOf];omega
  have g1:(i:Int)<(a.size:Int):=oM
  have g2:¬(i:Int)<(b.size:Int):=oM
  obtain rfl:i=b.size:=oM
  obtain⟨HT,HX⟩:=Yb (Qkx (a:=a) (b:=b) (by rw[Nat.min_eq_right a4];exact Z)) hx;clear Z hx;go_wp2_with fail;refine(HN.o _ _ _).mono ?_;rintro e w2 ⟨rfl,rfl⟩;go_wp2_with fail;go_ret;rw[HT.o];exact⟨rfl,HX.o⟩
 have g1:¬(i:Int)<(a.size:Int):=oM
 obtain rfl:i=a.size:=oM
 obtain⟨HT,HX⟩:=Yb (Qkx (a:=a) (b:=b) (by rw[bR a3];exact Z)) hx;clear Z hx;go_wp2_with fail;refine(HN.o _ _ _).mono ?_;rintro e w2 ⟨rfl,rfl⟩;go_wp2_with fail;go_ret;rw[HT.o];exact⟨rfl,HX.o⟩
section
variable{P : Program}{ops : Array Oper}{Q : Exit -> Act -> World -> Prop}{md : Region.Mode}{S : World -> Prop}
theorem Qrs(i:Nat)(d:Option Tmp)(ty:TypeId)(x:Operand){b o:Nat}{cs:Array Value}{ds:TypeDesc}{Z:Oper}{N:Nat}{I l':Array Bool}{a a':Act}{w:World}(hC:Yd (∀W,S W->W.rangeAt b o cs.toList))(hS:S w)
  (hT:P.underlying ty=some ds/\ds.isRow=true/\(P.info? ty).map (·.size)=some cs.size) (h:wpAnyH P md ops Q S N l' a' w)
  (hi:ops[i]? = some Z:=by rfl) (ho:Z.op=.load ty x:=by rfl) (hx:a.eval x=.pointer (some ⟨b,o,none⟩):=by rfl) (hd:Z.dst=d:=by rfl) (hs:Region.noSelect ops=true:=by kernel_rfl) (hf:Region.free md ops I i=true:=by kernel_rfl) (hr:(Region.ready md ops I).contains i=true:=by kernel_rfl)
  (hQ:∀c a w,Q (.panic c) (a.put d (.agg cs)) w->Q (.panic c) a w:=by exactλ_ _ _ h=>h) (hw:Region.wanted Z (yielded ops a.tmps)=true:=by rfl)
  (hl:I.setIfInBounds i true=l':=by first |(simp only[List.setIfInBounds_toArray,List.set_cons_zero,List.set_cons_succ];rfl)|rfl)
  (hp:a.put d (.agg cs)=a':=by first |(go_frame;rfl)|rfl):wpAnyH P md ops Q S (N+1) I a w:=by
 subst hl hp;refine Qk8 hi hd hs hf hr hQ hw hS (λW hW=>?_) h;unfold execOp;simp only[ho,hx,Instr.loadAt,Instr.sureAddr,Sem.run_bind,Sem.run_pure,Result.andThen_ok,run_loadVar_mid W b o ty cs.toList ds (hC.out W hW) hT.1 hT.2.1 (by rw[Array.length_toList];exact hT.2.2),Array.toArray_toList]
end
theorem Qe3{b t n:Nat}{cs:Array Value}(h:Blk w b t cs)(N:n<=cs.size):w.there b 0 n:=λj I=>
 ⟨by rw[h.cell];simp;omega,h.frozen _⟩
theorem Ext.setCells{w:World}{b:Nat}(I:w<=b):∀(vs:List Value) (o:Nat) {W:World},Ext w W->Ext w (W.setCells b o vs)
 |[],_,_,h=>h
 | v :: vs,o,W,h=>by
   rw[World.setCells];exact Ext.setCells I vs (o+1) (h.setCell (p:=⟨b,o,none⟩) I v)
abbrev eO:=@wp_region_held_drew
abbrev eV:=@wpAnyH_done
abbrev fa:=@bne_iff_ne
def QbN(n:Int)(w:World)(e:Ending)(w':World):Prop:=e=.returned (.int .i64 n)/\Ext w w'
theorem Qjj{l l':List Val}{a b:Val}(N:l[j]? = some a)(I:l'[j]? = some b):cmpL (l.drop j) (l'.drop j)=if Qbq a b≠0 then Qbq a b else cmpL (l.drop (j+1)) (l'.drop (j+1)):=by
 obtain⟨h1,rfl⟩:=ae.1 N;obtain⟨h2,rfl⟩:=ae.1 I;rw[aE h1,aE h2];simp only[cmpL]
theorem Qid{l l':List Val}(h:j=l.length\/j=l'.length)(h1:j<=l.length)(h2:j<=l'.length):cmpL (l.drop j) (l'.drop j)=Qcj (l.length:Int) (l'.length:Int):=by
 by_cases ha:j=l.length
 ·have Z:l.drop j=[]:=bN.2 oM
  rw[Z];simp only[cmpL,List.length_drop];unfold Qcj;by_cases I:l'.length-j=0
  .rw [eH I,eE oM,eE oM]
  rw[eE I,eH oM]
 obtain⟨a,r,N⟩:∃a r,l.drop j=a::r:=by
  cases hd:l.drop j with
  |nil=>have:=bN.1 hd;omega
  |cons a r=>exact⟨a,r,rfl⟩
 have e2:l'.drop j=[]:=bN.2 oM;rw[N,e2];simp only[cmpL];unfold Qcj;rw[eE oM,eH oM]
theorem Qjk{l l':List Val}{k k':List ByteArray}{a b:Val}{x y:ByteArray}(ha:l[j]? = some a)(Z:l'[j]? = some b)(hx:k[j]? = some x)(I:k'[j]? = some y) :
  Qe5 (l.drop j) (k.drop j) (k'.drop j) (l'.drop j)=if Qbn x y≠0 then Qbn x y else if Qbq a b≠0 then Qbq a b else Qe5 (l.drop (j+1)) (k.drop (j+1)) (k'.drop (j+1)) (l'.drop (j+1)):=by
 obtain⟨h1,rfl⟩:=ae.1 ha;obtain⟨h2,rfl⟩:=ae.1 Z;obtain⟨h3,rfl⟩:=ae.1 hx;obtain⟨N,rfl⟩:=ae.1 I;rw[aE h1,aE h2,aE h3,aE N];simp only[Qe5,List.headD_cons,List.tail_cons];rfl
theorem Qie{l l':List Val}{k k':List ByteArray}(h:j=l.length\/j=l'.length)(h1:j<=l.length)(h2:j<=l'.length):Qe5 (l.drop j) (k.drop j) (k'.drop j) (l'.drop j)=Qcj (l.length:Int) (l'.length:Int):=by
 by_cases ha:j=l.length
 ·have Z:l.drop j=[]:=bN.2 oM
  rw[Z];simp only[Qe5,List.length_drop];unfold Qcj;by_cases I:l'.length-j=0
  .rw [eH I,eE oM,eE oM]
  rw[eE I,eH oM]
 obtain⟨a,r,N⟩:∃a r,l.drop j=a::r:=by
  cases hd:l.drop j with
  |nil=>have:=bN.1 hd;omega
  |cons a r=>exact⟨a,r,rfl⟩
 have e2:l'.drop j=[]:=bN.2 oM;rw[N,e2];simp only[Qe5];unfold Qcj;rw[eE oM,eH oM]
def QAu(d:Val)(sl so:Sl):Array Value:=#[.int .i64 d.kind,.bool d.b,.int .i64 d.i,.string d.t,.slice sl.a d.l.length sl.c,.slice so.a d.ok.length so.c]
theorem QaV.rng{b o:Nat}{d:Val}(h:QaV w b o d sl so):w.rangeAt b o (QAu d sl so).toList:=λj u hu=>by
 obtain⟨N,h1,h2,Z,I,h5⟩:=h
 match j,hu with
 |0,rfl|1,rfl|2,rfl|3,rfl|4,rfl|5,rfl=>assumption
 |n+6,hu=>simp[QAu]at hu
theorem Tryz.QAs:(prog.info? 34).map (·.size)=some 6:=kM
theorem QAt(d:Val)(sl so:Sl):∃D,prog.underlying 34=some D/\D.isRow=true/\(prog.info? 34).map (·.size)=some (QAu d sl so).size:=⟨_,underlying34,rfl,Tryz.QAs⟩
theorem Qgn(m:Nat):∀(x y:Val),SizeOf.sizeOf x<=m->∀(w:World) (sl so sl' so':Sl),RV w (Lt w.heap.size) x sl so->RV w (Lt w.heap.size) y sl' so'->
  Calls prog 42 #[QbV x sl so,QbV y sl' so'] w (QbN (Qbq x y) w):=by
 induction m with
 |zero=>intro d y hd;have:=Val.Qb6 d;omega
 |succ m ih=>
 intro x y hd w sl so sl' so' h h';have HI:=hY ih;clear ih;have hn:∀W(x y:Int),Calls prog 63 #[x,y] W λe w'=>e=.returned (Qcj x y)/\W=w':=QgO
 have HN:=hY hn;clear hn;obtain⟨k,b,i,t,l,ok,ov⟩:=x;obtain⟨k',b',i',t',l',a0,a5⟩:=y;show Calls _ _ #[.agg #[k,b,i,t,.slice sl.a l.length sl.c,.slice so.a ok.length so.c],.agg #[k',b',i',t',.slice sl'.a l'.length sl'.c,.slice so'.a a0.length so'.c]] _ _;cases h with
 |mk bl fl bo fo cl co hl ho hov el rl ek eo ro bk bi bt nl no=>
 cases h' with
 |mk bl' fl' bo' fo' cl' co' hl' ho' hov' el' rl' ek' eo' ro' bk' bi' bt' nl' no'=>
 have d7:∀(j:Nat) (d:Val),l[j]? = some d->SizeOf.sizeOf d<=m:=λj d hj=>bv (ab (Val.QtM hj) hd)
 have f1:∀(j:Nat) (d:Val),ov[j]? = some d->SizeOf.sizeOf d<=m:=λj d hj=>bv (ab (Val.QtN hj) hd)
 obtain⟨g8,f2,f4,i1,e0,f9,i3⟩:=Yh d7 f1 el rl ek eo ro;obtain⟨b9,e6,e3,c1,d4,d6,a8⟩:=Yh hov el' rl' ek' eo' ro' hov';have e7:Qbq (.mk k b i t l ok ov) (.mk k' b' i' t' l' a0 a5)=if k≠k' then Qcj k k' else if k=2 then Qjg b b' else if k=3 then Qcj i i' else if k=4 then Qbn t t' else if k=5 then cmpL l l' else if k=6 then Qe5 ov ok a0 a5 else 0:=by
  simp only[Qbq,Val.kind,Val.b,Val.i,Val.t,Val.l,Val.ok,Val.ov];rfl
 rw[e7];clear d7 f1 el rl ek eo ro hov hd el' rl' ek' eo' ro' hov' e7;obtain⟨r,hr⟩:∃r,(if k≠k' then Qcj k k' else if k=2 then Qjg b b' else if k=3 then Qcj i i' else if k=4 then Qbn t t' else if k=5 then cmpL l l' else if k=6 then Qe5 ov ok a0 a5 else 0)=r:=⟨_,rfl⟩;rw[hr];have HR:=hY hr;clear hr;go_in;go_upto_region 1 with fail;generalize e2:World.alloc (World.alloc _ _) _=W0;obtain⟨e1,f6,c9,c2⟩:=Qas w _ _ _ _ W0 e2;clear e2;obtain⟨q0,q1,q2,q3,q4,q5⟩:=c9.c6;obtain⟨r0,r1,r2,r3,r4,r5⟩:=c2.c6;obtain⟨a1,c0,b6⟩:=Yc e1 c9 c2;clear e1 c9 c2 f6;by_cases b8:k=k'
 rotate_left
 ·have i2:(k != k')=true:=fa.2 b8
  have Z:=hY (HR.o.symm.trans (eH b8));clear b8;go_wp2_with fail;refine(HN.o _ _ _).mono ?_;rintro e w2 ⟨rfl,rfl⟩;go_wp2_with fail;go_ret;exact⟨by rw[Z.o]<;>rfl,a1.o⟩
 subst b8;have i2:(k != k)=false:=oO
 have N:=HR.o.symm.trans (eE λh=>h rfl);by_cases h2:k=2
 ·subst h2
  rw[eH rfl]at N;have Z:=hY N;clear N HR;cases b<;>cases b' <;>
  ·go_wp2_with fail
   go_ret;exact⟨by rw[Z.o]<;>rfl,a1.o⟩
 by_cases h3:k=3
 ·subst h3
  rw[eE h2,eH rfl]at N;have Z:=hY N;clear h2 N HR;go_wp2_with fail;refine(HN.o _ _ _).mono ?_;rintro e w2 ⟨rfl,rfl⟩;go_wp2_with fail;go_ret;exact⟨by rw[Z.o]<;>rfl,a1.o⟩
 by_cases h4:k=4
 ·subst h4
  rw[eE h2,eE h3,eH rfl]at N;have Z:=hY N;clear h2 h3 N HR;have g7:=hY (λW=>Qky W t t' bt bt');go_wp2_with fail;refine(g7.o _).mono ?_;rintro e w2 ⟨rfl,hx⟩;have HX:=hY hx;clear hx;go_wp2_with fail;go_ret;exact⟨by rw[Z.o]<;>rfl,a1.o.trans HX.o⟩
 rw[eE h2,eE h3,eE h4]at N;by_cases h5:k=5
 ·subst h5
  rw[eH rfl]at N;have Z:=hY N;clear h2 h3 h4 N HR;have f8:l.length<=140737488355328:=oM
  have e8:l'.length<=140737488355328:=oM
  go_wp2_with fail;clear q0 q1 q2 q3 q4 q5 r0 r1 r2 r3 r4 r5;go_loopw[5] (λq wr=>∃j:Nat,q=.int .i64 j/\j<=l.length/\j<=l'.length/\Yd (cmpL l l'=cmpL (l.drop j) (l'.drop j))/\Yd (Ext W0 wr)) (λq _=>l.length -(intOf q).toNat)
  case atStart=>exact⟨0,rfl,aA _,aA _,hY rfl,hY (gh W0)⟩
  obtain⟨j,rfl,c4,b0,HP,HX⟩:=hrel;obtain⟨-,-,-,-,q4,-⟩:=(c0.o.ext HX.o).c6;obtain⟨-,-,-,-,r4,-⟩:=(b6.o.ext HX.o).c6;by_cases a6:j<l.length/\j<l'.length
  rotate_left
  ·have HE:=hY (Qid (l:=l) (l':=l') (j:=j) oM c4 b0)
   have a4:=hY (show ∀e:Ending,e=.returned (Qcj l.length l'.length)->QbN r w e wr fromλe he=>⟨by rw[Z.o,HP.o,HE.o];exact he,a1.o.trans HX.o⟩);by_cases h1:j<l.length
   ·have g1:(j:Int)<(l.length:Int):=oM
    have g2:¬(j:Int)<(l'.length:Int):=oM
    clear a6;go_wp2_with fail;refine(HN.o _ _ _).mono ?_;rintro e w2 ⟨rfl,rfl⟩;go_wp2_with fail;go_ret;exact a4.o _ rfl
   have g1:¬(j:Int)<(l.length:Int):=oM
   clear a6;go_wp2_with fail;refine(HN.o _ _ _).mono ?_;rintro e w2 ⟨rfl,rfl⟩;go_wp2_with fail;go_ret;exact a4.o _ rfl
  obtain⟨h1,h2⟩:=a6;have g1:(j:Int)<(l.length:Int):=oM
  have g2:(j:Int)<(l'.length:Int):=oM
  obtain⟨d,hd⟩:∃d,l[j]? = some d:=⟨_,ac h1⟩;obtain⟨d',a3⟩:∃d,l'[j]? = some d:=⟨_,ac h2⟩;have HD:=hY (Qjj hd a3);obtain⟨sa,sc⟩:=sl;obtain⟨g0,c3⟩:=sl';obtain⟨rfl,g9,f3⟩:=hl.eq oM;obtain⟨rfl,d5,e4⟩:=hl'.eq oM;have a2:∀W,Ext wr W->Agree (Lt w.heap.size) w W:=λW hW=>((a1.o.trans HX.o).trans hW).agree λ_ h=>h
  have a7:∀W,Ext wr W->∀i,i<w.heap.size->i<W.heap.size:=λW hW i hi=>ab hi ((a1.o.trans HX.o).trans hW).size
  obtain⟨HV,c8,c7,I⟩:=Ye (λW (hW:Ext wr W)=>((f4.o j d hd).agree (a2 W hW) (hl.fits oM)).rng) (λW (hW:Ext wr W)=>((e6.o j d' a3).agree (a2 W hW) (hl'.fits oM)).rng) (λW (hW:Ext wr W)=>HI.o d d' (g8.o j d hd) W _ _ _ _ (((i1.o j d hd).agree (a2 W hW)).mono (a7 W hW)) (((e3.o j d' a3).agree (a2 W hW)).mono (a7 W hW))) (show ∀W,Ext wr W->W.cell? ⟨w.heap.size,4,none⟩=some (.slice (some ⟨bl,fl,none⟩) l.length sc)/\W.cell? ⟨w.heap.size+1,4,none⟩=some (.slice (some ⟨bl',fl',none⟩) l'.length c3) fromλW hW=>⟨((c0.o.ext HX.o).ext hW).c6.2.2.2.2.1,((b6.o.ext HX.o).ext hW).c6.2.2.2.2.1⟩);obtain⟨D,hD⟩:=QAt d (cl j).1 (cl j).2;have b5:=hY hD;clear hd a3 a2 a7 hD;go_wp2_with fail;clear q4 r4;refine eO (S:=(λw'=>Ext wr w')) kM (((gh wr).drew)) (λhHeld=>?_);refine Qaf 0 (some 61) I hHeld ?_;refine Qaf 1 (some 62) I hHeld ?_;refine Qaf 2 (some 63) I hHeld ?_;refine Qaf 3 (some 64) I hHeld ?_;refine Qrs 4 (some 65) 34 (.tmp 64) HV hHeld b5.o ?_;refine Qaf 5 (some 66) I hHeld ?_;refine Qaf 6 (some 67) I hHeld ?_;refine Qaf 7 (some 68) I hHeld ?_;refine Qaf 8 (some 69) I hHeld ?_;refine Qrs 9 (some 70) 34 (.tmp 69) c8 hHeld b5.o ?_;refine Qac (i:=10) kM rfl (by rfl) (λK hK=>?_);go_simp
  (refine(c7.o _ hHeld).mono ?_;rintro e w2 ⟨rfl,i4⟩)
  refine hK.out _ _ (hHeld.trans i4) (λhHeld=>?_);clear hK K
  try go_frame
  refine Qaf 11 (some 6) I hHeld ?_;refine eV kM ?_ _;have b4:=hY (HX.o.trans hHeld);by_cases hc:Qbq d d'=0
  ·have d0:(Qbq d d' != 0)=false:=by simp [hc]
   have HC:=hY (HP.o.trans (HD.o.trans (eE λh=>h hc)));clear hc;go_wp2_with fail;go_roundw
   case rel=>exact⟨j+1,by go_num,h1,h2,HC,b4⟩
   simp[intOf];omega
  have d0:(Qbq d d' != 0)=true:=fa.2 hc;have HC:=hY (HP.o.trans (HD.o.trans (eH hc)));clear hc;go_wp2_with fail;go_ret;exact⟨by rw[Z.o,HC.o]<;>rfl,a1.o.trans b4.o⟩
 by_cases h6:k=6
 ·subst h6
  rw[eE h5,eH rfl]at N;have Z:=hY N;clear h2 h3 h4 h5 N HR;have f8:ok.length<=140737488355328:=oM
  have e8:a0.length<=140737488355328:=oM
  go_wp2_with fail;clear q0 q1 q2 q3 q4 q5 r0 r1 r2 r3 r4 r5;go_loopw[7] (λq wr=>∃j:Nat,q=.int .i64 j/\j<=ok.length/\j<=a0.length/\Yd (Qe5 ov ok a0 a5=Qe5 (ov.drop j) (ok.drop j) (a0.drop j) (a5.drop j))/\Yd (Ext W0 wr)) (λq _=>ok.length -(intOf q).toNat)
  case atStart=>exact⟨0,rfl,aA _,aA _,hY rfl,hY (gh W0)⟩
  obtain⟨j,rfl,c4,b0,HP,HX⟩:=hrel;obtain⟨-,-,-,-,-,q5⟩:=(c0.o.ext HX.o).c6;obtain⟨-,-,-,-,-,r5⟩:=(b6.o.ext HX.o).c6;by_cases a6:j<ok.length/\j<a0.length
  rotate_left
  ·have HE:=hY (Qie (l:=ov) (l':=a5) (k:=ok) (k':=a0) (j:=j) (by rw [b9.o,a8.o];omega) (by rw [b9.o];exact c4) (by rw [a8.o];exact b0))
   have a4:=hY (show ∀e:Ending,e=.returned (Qcj ok.length a0.length)->QbN r w e wr fromλe he=>⟨by rw[Z.o,HP.o,HE.o,b9.o,a8.o];exact he,a1.o.trans HX.o⟩);by_cases h1:j<ok.length
   ·have g1:(j:Int)<(ok.length:Int):=oM
    have g2:¬(j:Int)<(a0.length:Int):=oM
    clear a6;go_wp2_with fail;refine(HN.o _ _ _).mono ?_;rintro e w2 ⟨rfl,rfl⟩;go_wp2_with fail;go_ret;exact a4.o _ rfl
   have g1:¬(j:Int)<(ok.length:Int):=oM
   clear a6;go_wp2_with fail;refine(HN.o _ _ _).mono ?_;rintro e w2 ⟨rfl,rfl⟩;go_wp2_with fail;go_ret;exact a4.o _ rfl
  obtain⟨h1,h2⟩:=a6;have g1:(j:Int)<(ok.length:Int):=oM
  have g2:(j:Int)<(a0.length:Int):=oM
  obtain⟨x,b7⟩:∃d,ok[j]? = some d:=⟨_,ac h1⟩;obtain⟨x',a9⟩:∃d,a0[j]? = some d:=⟨_,ac h2⟩;obtain⟨d,hd⟩:∃d,ov[j]? = some d:=⟨_,ac (by rw[b9.o];exact h1)⟩;obtain⟨d',a3⟩:∃d,a5[j]? = some d:=⟨_,ac (by rw[a8.o];exact h2)⟩;have HD:=hY (Qjk hd a3 b7 a9);obtain⟨sa,sc⟩:=so;obtain⟨g0,c3⟩:=so';obtain⟨rfl,g9,f3⟩:=ho.eq oM;obtain⟨rfl,d5,e4⟩:=ho'.eq oM;have d3:=ho.fits oM;have b3:=ho'.fits oM;have a2:∀W,Ext wr W->Agree (Lt w.heap.size) w W:=λW hW=>((a1.o.trans HX.o).trans hW).agree λ_ h=>h
  have a7:∀W,Ext wr W->∀i,i<w.heap.size->i<W.heap.size:=λW hW i hi=>ab hi ((a1.o.trans HX.o).trans hW).size
  obtain⟨HV,c8,c7,HT,I⟩:=Yf (λW (hW:Ext wr W)=>((f9.o j d hd).agree (a2 W hW) d3).rng) (λW (hW:Ext wr W)=>((d4.o j d' a3).agree (a2 W hW) b3).rng) (λW (hW:Ext wr W)=>HI.o d d' (f2.o j d hd) W _ _ _ _ (((i3.o j d hd).agree (a2 W hW)).mono (a7 W hW)) (((d6.o j d' a3).agree (a2 W hW)).mono (a7 W hW))) (λW=>Qky W x x' (e0.o j x b7).2 (c1.o j x' a9).2) (show ∀W,Ext wr W->W.cell? ⟨w.heap.size,5,none⟩=some (.slice (some ⟨bo,fo,none⟩) ok.length sc)/\W.cell? ⟨w.heap.size+1,5,none⟩=some (.slice (some ⟨bo',fo',none⟩) a0.length c3)/\W.cell? ⟨bo,fo+j*7,none⟩=some (.string x)/\W.cell? ⟨bo',fo'+j*7,none⟩=some (.string x') fromλW hW=>⟨((c0.o.ext HX.o).ext hW).c6.2.2.2.2.2,((b6.o.ext HX.o).ext hW).c6.2.2.2.2.2,((a2 W hW).cell d3).trans (e0.o j x b7).1,((a2 W hW).cell b3).trans (c1.o j x' a9).1⟩);obtain⟨D,hD⟩:=QAt d (co j).1 (co j).2;have b5:=hY hD;clear hd a3 b7 a9 a2 a7 d3 b3 hD;go_wp2_with fail;clear q5 r5;refine eO (S:=(λw'=>Ext wr w')) kM (((gh wr).drew)) (λhHeld=>?_);refine Qaf 0 (some 98) I hHeld ?_;refine Qaf 1 (some 99) I hHeld ?_;refine Qaf 2 (some 100) I hHeld ?_;refine Qaf 3 (some 101) I hHeld ?_;refine Qaf 4 (some 102) I hHeld ?_;refine Qaf 5 (some 103) I hHeld ?_;refine Qaf 6 (some 104) I hHeld ?_;refine Qaf 7 (some 105) I hHeld ?_;refine Qaf 8 (some 106) I hHeld ?_;refine Qaf 9 (some 107) I hHeld ?_;refine Qaf 10 (some 108) I hHeld ?_;refine Qaf 11 (some 109) I hHeld ?_;refine Qac (i:=12) kM rfl (by rfl) (λK hK=>?_);go_simp
  (refine(HT.o _).mono ?_;rintro e w2 ⟨rfl,f5⟩)
  refine hK.out _ _ (hHeld.trans f5) (λhHeld=>?_);clear hK K
  try go_frame
  refine Qaf 13 (some 8) I hHeld ?_;refine eV kM ?_ _;have b4:=hY hHeld;by_cases ht:Qbn x x'=0
  rotate_left
  ·have f7:(Qbn x x' != 0)=true:=fa.2 ht
   have HC:=hY (HP.o.trans (HD.o.trans (eH ht)));clear ht;go_wp2_with fail;go_ret;exact⟨by rw[Z.o,HC.o]<;>rfl,(a1.o.trans HX.o).trans b4.o⟩
  have f7:(Qbn x x' != 0)=false:=by simp[ht]
  have d8:=hY (HP.o.trans (HD.o.trans (eE λh=>h ht)));clear ht;go_wp2_with fail;refine eO (S:=(λw'=>Ext wr w')) kM ((b4.o.drew)) (λhHeld=>?_);refine Qaf 0 (some 114) I hHeld ?_;refine Qaf 1 (some 115) I hHeld ?_;refine Qaf 2 (some 116) I hHeld ?_;refine Qaf 3 (some 117) I hHeld ?_;refine Qaf 4 (some 118) I hHeld ?_;refine Qrs 5 (some 119) 34 (.tmp 118) HV hHeld b5.o ?_;refine Qaf 6 (some 120) I hHeld ?_;refine Qaf 7 (some 121) I hHeld ?_;refine Qaf 8 (some 122) I hHeld ?_;refine Qaf 9 (some 123) I hHeld ?_;refine Qaf 10 (some 124) I hHeld ?_;refine Qrs 11 (some 125) 34 (.tmp 124) c8 hHeld b5.o ?_;refine Qac (i:=12) kM rfl (by rfl) (λK hK=>?_);go_simp
  (refine(c7.o _ hHeld).mono ?_;rintro e w3 ⟨rfl,i0⟩)
  refine hK.out _ _ (hHeld.trans i0) (λhHeld=>?_);clear hK K
  try go_frame
  refine Qaf 13 (some 9) I hHeld ?_;refine eV kM ?_ _;have f0:=hY (HX.o.trans hHeld);by_cases hc:Qbq d d'=0
  ·have d0:(Qbq d d' != 0)=false:=by simp [hc]
   have HC:=hY (d8.o.trans (eE λh=>h hc));clear hc;go_wp2_with fail;go_roundw
   case rel=>exact⟨j+1,by go_num,h1,h2,HC,f0⟩
   simp[intOf];omega
  have d0:(Qbq d d' != 0)=true:=fa.2 hc;have HC:=hY (d8.o.trans (eH hc));clear hc;go_wp2_with fail;go_ret;exact⟨by rw[Z.o,HC.o]<;>rfl,a1.o.trans f0.o⟩
 rw[eE h5,eE h6]at N;have Z:=hY N;have g2:(k==2)=false:=eJ.2 h2;have g3:(k==3)=false:=eJ.2 h3;have g4:(k==4)=false:=eJ.2 h4;have g5:(k==5)=false:=eJ.2 h5;have g6:(k==6)=false:=eJ.2 h6;clear h2 h3 h4 h5 h6 N HR;go_wp2_with fail;go_ret;exact⟨by rw[Z.o]<;>rfl,a1.o⟩
theorem QnT{l m:List Ent}{a b:Ent}(N:l[j]? = some a)(I:m[j]? = some b):Qeq (l.drop j) (m.drop j)=(decide (a.1=b.1)&&decide (Qbq a.2 b.2=0)&&Qeq (l.drop (j+1)) (m.drop (j+1))):=by
 obtain⟨h1,rfl⟩:=ae.1 N;obtain⟨h2,rfl⟩:=ae.1 I;rw[aE h1,aE h2];rfl
theorem Qsl{l m:List Ent}(h:l.length≠m.length):Qeq l m=false:=by
 cases hs:Qeq l m with
 |false=>rfl
 |true=>exact absurd (Qkr hs) h
theorem Qlz(hs:ES w (Lt w.heap.size) s xs)(a8:ES w (Lt w.heap.size) s' ys) :
  Calls prog 36 #[.slice s.a xs.length s.c,.slice s'.a ys.length s'.c] w λe w'=>e=.returned (.bool (Qeq (xs.map LE.ent) (ys.map LE.ent)))/\Ext w w':=by
 have hf:=hs.few;have c0:xs.length<=140737488355328:=oM
 by_cases Z:xs.length=ys.length
 ·have HS:=hY hs
  obtain⟨c3,a0⟩:=Yb a8 Z;rw[<-Z];clear hs a8 Z hf;go_in;go_wp2_with fail;go_loopw[5] (λq wr=>∃j:Nat,q=.int .i64 j/\j<=xs.length/\Qeq (xs.map LE.ent) (ys.map LE.ent)=Qeq ((xs.map LE.ent).drop j) ((ys.map LE.ent).drop j)/\Ext w wr) (λq _=>xs.length -(intOf q).toNat)
  case atStart=>exact⟨0,rfl,aA _,rfl,gh w⟩
  obtain⟨j,rfl,c7,hp,hx⟩:=hrel;obtain⟨HP,HX⟩:=Yb hp hx;by_cases h1:j<xs.length
  ·have g1:(j:Int)<(xs.length:Int):=oM
   obtain⟨x,a7⟩:∃x,xs[j]? = some x:=⟨_,ac h1⟩;obtain⟨y,a9⟩:∃y,ys[j]? = some y:=⟨_,ac (by rw[<-a0.o];exact h1)⟩;have HD:=hY (QnT (l:=xs.map LE.ent) (m:=ys.map LE.ent) (a:=x.ent) (b:=y.ent) (by rw[ar,a7];rfl) (by rw[ar,a9];rfl));have e1:=HS.o.ext hx;have e2:=c3.o.ext hx;obtain⟨g,o,hg,lg,hc,b9,kx,⟨v0,v1,v2,v3,v4,v5⟩,rx,-⟩:=e1.at a7;obtain⟨g',o',b7,N,b3,b8,ky,⟨a5,a1,a2,a3,a6,a4⟩,ry,-⟩:=e2.at a9;rw[<-a0.o]at b3;obtain⟨sa,sc⟩:=s;obtain⟨c4,c6⟩:=s';dsimp only at hg b7 hc b3 b9 b8;subst hg b7;have b5:∀W,Ext wr W->Calls prog 42 #[QbV x.v x.sl x.so,QbV y.v y.sl y.so] W (QbN (Qbq x.v y.v) W):=λW hW=>
    Qgn _ x.v y.v (ao _) W _ _ _ _ ((rx.agree (hW.agree λ_ h=>h)).mono λi hi=>ab hi hW.size) ((ry.agree (hW.agree λ_ h=>h)).mono λi hi=>ab hi hW.size)
   have c1:=hY b5;clear hp hx a7 a9 e1 e2 rx ry b5;have lg:g<wr.heap.size:=lg;have N:g'<wr.heap.size:=N;by_cases hk:x.k=y.k
   ·have b0:(x.k.toList == y.k.toList)=true:=by rw [hk];simp
    have HK:=hY hk;go_wp2_with fail;refine eO (S:=(λw'=>w'.cell? ⟨g,o+j*7,none⟩=some (.string x.k)/\w'.cell? ⟨g',o'+j*7,none⟩=some (.string y.k)/\w'.cell? ⟨g,o+j*7+1,none⟩=some (.int .i64 x.v.kind)/\w'.cell? ⟨g,o+j*7+1+1,none⟩=some (.bool x.v.b)/\w'.cell? ⟨g,o+j*7+1+2,none⟩=some (.int .i64 x.v.i)/\w'.cell? ⟨g,o+j*7+1+3,none⟩=some (.string x.v.t)/\w'.cell? ⟨g,o+j*7+1+4,none⟩=some (.slice x.sl.a x.v.l.length x.sl.c)/\w'.cell? ⟨g,o+j*7+1+5,none⟩=some (.slice x.so.a x.v.ok.length x.so.c)/\w'.cell? ⟨g',o'+j*7+1,none⟩=some (.int .i64 y.v.kind)/\w'.cell? ⟨g',o'+j*7+1+1,none⟩=some (.bool y.v.b)/\w'.cell? ⟨g',o'+j*7+1+2,none⟩=some (.int .i64 y.v.i)/\w'.cell? ⟨g',o'+j*7+1+3,none⟩=some (.string y.v.t)/\w'.cell? ⟨g',o'+j*7+1+4,none⟩=some (.slice y.sl.a y.v.l.length y.sl.c)/\w'.cell? ⟨g',o'+j*7+1+5,none⟩=some (.slice y.so.a y.v.ok.length y.so.c))) kM (⟨kx,ky,v0,v1,v2,v3,v4,v5,a5,a1,a2,a3,a6,a4⟩) (λhHeld=>?_);refine Qar 0 (some 17) hHeld ?_;refine Qar 1 (some 18) hHeld ?_;refine Qar 2 (some 19) hHeld ?_;refine Qar 3 (some 20) hHeld ?_;refine Qar 4 (some 21) hHeld ?_;refine Qar 5 (some 22) hHeld ?_;refine Qar 6 (some 23) hHeld ?_;refine Qar 7 (some 24) hHeld ?_;refine Qar 8 (some 25) hHeld ?_;refine Qar 9 (some 26) hHeld ?_;refine Qar 10 (some 27) hHeld ?_;refine Qar 11 (some 28) hHeld ?_;refine Qar 12 (some 29) hHeld ?_;refine Qar 13 (some 30) hHeld ?_;refine Qar 14 (some 31) hHeld ?_;refine Qar 15 (some 32) hHeld ?_;refine Qar 16 (some 33) hHeld ?_;refine Qar 17 (some 34) hHeld ?_;refine Qar 18 (some 35) hHeld ?_;refine Qar 19 (some 36) hHeld ?_;refine Qar 20 (some 37) hHeld ?_;refine Qar 21 (some 38) hHeld ?_;refine Qac (i:=22) kM rfl (by rfl) (λK hK=>?_);go_simp
    (refine(c1.o _ ((gh wr).drew)).mono ?_;rintro e w2 ⟨rfl,I⟩;replace I:=((gh wr).drew).trans I)
    refine hK.out _ _ (⟨(I.cell lg).trans kx,(I.cell N).trans ky,(I.cell lg).trans v0,(I.cell lg).trans v1,(I.cell lg).trans v2,(I.cell lg).trans v3,(I.cell lg).trans v4,(I.cell lg).trans v5,(I.cell N).trans a5,(I.cell N).trans a1,(I.cell N).trans a2,(I.cell N).trans a3,(I.cell N).trans a6,(I.cell N).trans a4⟩) (λhHeld=>?_);clear hK K
    try go_frame
    refine Qar 23 (some 40) hHeld ?_;refine Qar 24 (some 41) hHeld ?_;refine eV kM ?_ _;have b4:=hY (HX.o.trans I);clear I hHeld b0 hk kx ky v0 v1 v2 v3 v4 v5 a5 a1 a2 a3 a6 a4;by_cases hc:Qbq x.v y.v=0
    ·have c2:(Qbq x.v y.v != 0)=false:=by simp [hc]
     have HC:=hY hc;clear hc;go_wp2_with fail;go_roundw
     case rel=>exact⟨j+1,by go_num,h1,by rw[HP.o,HD.o,eI (show x.ent.1=y.ent.1 from HK.o),eI (show Qbq x.ent.2 y.ent.2=0 from HC.o)];rfl,b4.o⟩
     simp[intOf];omega
    have c2:(Qbq x.v y.v != 0)=true:=fa.2 hc;have HC:=hY hc;clear hc;go_wp2_with fail;go_ret;rw[HP.o,HD.o,eG (show ¬Qbq x.ent.2 y.ent.2=0 from HC.o)];exact⟨oO,b4.o⟩
   have b0:(x.k.toList==y.k.toList)=false:=by rw[beq_toList];simp[hk]
   have HK:=hY hk;go_wp2_with fail;refine eO (S:=(λw'=>w'.cell? ⟨g,o+j*7,none⟩=some (.string x.k)/\w'.cell? ⟨g',o'+j*7,none⟩=some (.string y.k)/\w'.cell? ⟨g,o+j*7+1,none⟩=some (.int .i64 x.v.kind)/\w'.cell? ⟨g,o+j*7+1+1,none⟩=some (.bool x.v.b)/\w'.cell? ⟨g,o+j*7+1+2,none⟩=some (.int .i64 x.v.i)/\w'.cell? ⟨g,o+j*7+1+3,none⟩=some (.string x.v.t)/\w'.cell? ⟨g,o+j*7+1+4,none⟩=some (.slice x.sl.a x.v.l.length x.sl.c)/\w'.cell? ⟨g,o+j*7+1+5,none⟩=some (.slice x.so.a x.v.ok.length x.so.c)/\w'.cell? ⟨g',o'+j*7+1,none⟩=some (.int .i64 y.v.kind)/\w'.cell? ⟨g',o'+j*7+1+1,none⟩=some (.bool y.v.b)/\w'.cell? ⟨g',o'+j*7+1+2,none⟩=some (.int .i64 y.v.i)/\w'.cell? ⟨g',o'+j*7+1+3,none⟩=some (.string y.v.t)/\w'.cell? ⟨g',o'+j*7+1+4,none⟩=some (.slice y.sl.a y.v.l.length y.sl.c)/\w'.cell? ⟨g',o'+j*7+1+5,none⟩=some (.slice y.so.a y.v.ok.length y.so.c))) kM (⟨kx,ky,v0,v1,v2,v3,v4,v5,a5,a1,a2,a3,a6,a4⟩) (λhHeld=>?_);refine Qar 0 (some 17) hHeld ?_;refine Qar 1 (some 18) hHeld ?_;refine Qar 2 (some 19) hHeld ?_;refine Qar 3 (some 20) hHeld ?_;refine Qar 4 (some 21) hHeld ?_;refine Qar 5 (some 22) hHeld ?_;refine Qar 6 (some 23) hHeld ?_;refine Qar 7 (some 24) hHeld ?_;refine Qar 8 (some 25) hHeld ?_;refine Qar 9 (some 26) hHeld ?_;refine Qar 10 (some 27) hHeld ?_;refine Qar 11 (some 28) hHeld ?_;refine QfN 12 (some 29) hHeld ?_;refine QfN 13 (some 30) hHeld ?_;refine QfN 14 (some 31) hHeld ?_;refine QfN 15 (some 32) hHeld ?_;refine QfN 16 (some 33) hHeld ?_;refine QfN 17 (some 34) hHeld ?_;refine QfN 18 (some 35) hHeld ?_;refine QfN 19 (some 36) hHeld ?_;refine QfN 20 (some 37) hHeld ?_;refine QfN 21 (some 38) hHeld ?_;refine QfN 22 (some 39) hHeld ?_;refine QfN 23 (some 40) hHeld ?_;refine Qar 24 (some 41) hHeld ?_;refine eV kM ?_ _;clear hHeld b0 hk kx ky v0 v1 v2 v3 v4 v5 a5 a1 a2 a3 a6 a4;go_wp2_with fail;go_ret;rw[HP.o,HD.o,eG (show ¬x.ent.1=y.ent.1 from HK.o)];exact⟨oO,HX.o.drew⟩
  have g1:¬(j:Int)<(xs.length:Int):=oM
  have b6:Qeq ((xs.map LE.ent).drop j) ((ys.map LE.ent).drop j)=true:=by
   rw[bN.2 (by rw[aq];omega),bN.2 (by rw[aq,<-a0.o];omega)];rfl
  have HE:=hY b6;clear hp hx b6;go_wp2_with fail;go_ret;rw[HP.o,HE.o];exact⟨rfl,HX.o⟩
 have c8:(((xs.length:Int)) !=((ys.length:Int)))=true:=fa.2 oM;rw[Qsl (by rw[aq,aq];exact Z)];clear hs a8 Z hf c0;go_in;go_wp2_with fail;go_ret;exact⟨rfl,gh w⟩
def Qw7(H:Nat->Prop)(es:List Ent)(w:World)(e:Ending)(w':World):Prop:=
 ∃M',e=.returned (.pointer (some ⟨M',0,none⟩))/\w.heap.size<=M'/\Ext w w'/\MapAt (λb=>H b\/b=M') w' M' es
theorem QwN{M:Nat}{es:List Ent}(h:MapAt H w M es)(hH:∀b,H b->b<w.heap.size)(hc:es.length<=1000000) :
  Calls prog 84 #[.pointer (some M)] w (Qw7 H es w):=by
 obtain⟨i0,hi,a4,a6,a5⟩:=eR Tryz.Qa8;obtain⟨hm,s,xs,hb,hs,N⟩:=h;have h0:w.cell? M=some (.slice s.a xs.length s.c):=hb.cell 0;have Z:xs.length=es.length:=by rw[<-N,aq]
 have a7:xs.length<=maxLen:=by unfold maxLen;omega
 have a0:xs.length*104<=140737488355328:=oM
 obtain⟨HS,a3⟩:=Yb hs N;clear hb hs N Z;go_in;go_wp2_with(at_builtin;refine Qwo rfl (.const (.slice none 0 0)) (.tmp 6) 41 rfl w.heap.size 78 i0 _ 7 104 underlying41 hi a4 a6 a5 rfl oN rfl (NH H w) s xs.length (QaD xs) rfl HS.o.rd (QbX _) a7 a0 (ao _) ?_;intro s1 w1 I a1;have a8:=hY I;have a2:=hY a1;clear I a1);go_ret;have hE:Ext w1 (w1.alloc (.cells #[.slice s1.a xs.length s1.c] 56)):=(gh _).alloc _ _;have hX:=a2.o.trans hE;have hz:=a2.o.size;refine⟨w1,rfl,hz,hX,.inr rfl,s1,xs,gm w1 _ _,⟨?_,?_,a0⟩,a3.o⟩
 ·refine ((gz a8.o).agree (hE.agree fun i hi=>hi.2)).mono fun i hi=>⟨by rw [eK];have:=hi.2;omega,fun h=>?_⟩
  have h1:=hi.1;have h2:=hi.2;rcases h with h|h
  .have:=hH i h;omega
  omega
 intro x hx;refine⟨((HS.o.vals x hx).1.agree (hX.agree λi hi=>hi.1)).mono λi hi=>⟨Nat.lt_of_lt_of_le hi.1 hX.size,λh=>?_⟩,(HS.o.vals x hx).2⟩;have h1:=hi.1;rcases h with h|h
 .exact hi.2 h
 omega
theorem QyK{M:Nat}{xs L:List LE}{es:List Ent}(hm:H M)(hH:∀b,H b->b<w.heap.size)(hb:Blk w M 56 #[.slice s.a xs.length s.c])(hs:ES w (NH H w) s xs)(hL:∀y∈L,y∈xs)
  (hx:Ext w w3) (Z:w3.ownsRow w.heap.size 78 7 (.slice s3.a L.length s3.c) L.length (QaD L)) (hf:L.length*104<=140737488355328) (he:L.map LE.ent=es) :
  MapAt H (w3.setCell M (.slice s3.a L.length s3.c)) M es/\St (λb=>b=M) w (w3.setCell M (.slice s3.a L.length s3.c)):=by
 have a1:=hb.lt;have I:St (λb=>b=M) w (w3.setCell M (.slice s3.a L.length s3.c)):=(hx.st (λb=>b=M)).set (p:=⟨M,0,none⟩) (.inr rfl) _;have a0:Agree (NH H w) w (w3.setCell M (.slice s3.a L.length s3.c)):=I.agree.mono λi hi=>⟨hi.1,λe=>hi.2 (e▸hm)⟩
 have N:Agree (In w.heap.size w3.heap.size) w3 (w3.setCell M (.slice s3.a L.length s3.c)):=gw w3 M _ (λh=>by have h1:w.heap.size<=M:=h.1;omega);refine⟨⟨hm,s3,L,?_,⟨?_,?_,hf⟩,he⟩,I⟩
 .exact (hb.ext hx).QbH 0 _
 .exact ((gz Z).agree N).mono λi hi=>⟨by rw[eP];exact hi.2,λh=>by have:=hH i h;have:=hi.1;omega⟩
 intro y hy;exact⟨((hs.vals y (hL y hy)).1.agree a0).mono λi hi=>⟨Nat.lt_of_lt_of_le hi.1 I.size,hi.2⟩,(hs.vals y (hL y hy)).2⟩
section
variable{P : Program}(w : World)
theorem Qwt{ops:Array Oper}{o:Oper}{a:Act}{K:Act->World->Prop}{Q:Exit->Act->World->Prop}{E:Prop}(a5:o.guard=none)(s' x:Operand)(t:TypeId)
  (ho:o.op=.call { callee:=.builtin .append,args:=#[s',x],argTypes:=#[t,t] })
  (base:Nat) (e:TypeId) (i:TypeInfo) (z:Value) (size I:Nat) (ht:P.underlying t=some (.slice e)) (hi:P.info? e=some i) (hz:i.zero=some z)
  (a0:i.size=size) (a3:i.bytes=I) (a4:z.cells.size=size) (a6:0<size) (hs:a.eval s'=.slice none 0 0)
  (F:Nat->Prop) (sx:Sl) (m:Nat) (N:List Value) (hx:a.eval x=.slice sx.a m sx.c) (a2:Rd w F size sx m N) (h1:∀u∈N,u.oneCell'=true)
  (a7:m<=maxLen) (Z:m*I<=140737488355328) (a1:base<=w.heap.size)
  (h:∀(s':Sl) (w':World),w'.ownsRow base e size (.slice s'.a m s'.c) m N->Ext w w'->K (a.put o.dst (.slice s'.a m s'.c)) w') :
  if Region.wanted o (yielded ops a.tmps)=true then Oper.wp P o a w K Q else E:=
 Qdi w a5 s' x t ho base e i z size I ht hi hz a0 a3 a4 a6 Sl.none 0 [] hs (eS _ _ _ _) F sx m N hx a2 h1 oM (by rw[aD];exact Z) a1 λs2 w2 h2 h3 _=>by
  rw[aD,aG]at h2;rw[aD];exact h s2 w2 h2 ((gh w).wr h3 (λi hi=>by cases hi))
end
def Qyw(H:Nat->Prop)(M:Nat)(es:List Ent)(k:ByteArray)(w:World)(e:Ending)(w':World):Prop:=
 e=.returned (.bool (Qaq es k).isSome)/\MapAt H w' M (QbM es k)/\St (λb=>b=M) w w'
theorem QyB{M:Nat}{es:List Ent}(h:MapAt H w M es)(hH:∀b,H b->b<w.heap.size)(e7:Sorted es)(hc:es.length<=1000000)(k:ByteArray) :
  Calls prog 89 #[.pointer (some M),k] w (Qyw H M es k w):=by
 obtain⟨i0,hi,d4,d0,c9⟩:=eR Tryz.Qa8;have a5:=Qzf h k;rw[Qx1 e7]at a5;have c6:=Qre e7 k;have b8:=Qx1 e7 k;have e4:=h;obtain⟨hm,s,xs,hb,hs,c2⟩:=h;obtain⟨p,hp⟩:∃p,Qct es k=p:=⟨_,rfl⟩;rw[hp]at a5 c6 b8;cases hg:Qaq es k with
 | none=>
   rw[hg]at a5;obtain⟨a9,HM,HD,HG⟩:=Ye a5 e4 (QoV hg) hg;clear a5 c6 b8 e4 hb hs c2 hg hp;go_in;go_wp2_with fail;refine a9.o.mono ?_;rintro e w2 ⟨rfl,nq,rfl⟩;have I:=(gh w).drewN nq;go_wp2_with fail;go_ret;exact⟨by rw[HG.o];rfl,by rw[HD.o];exact HM.o.ext I,I.st _⟩
 | some v=>
   rw[hg]at a5 b8;have b9:=fZ b8;have c8:p<xs.length:=by
    rw[<-c2,ar]at b9;rcases d9 p xs.length with h|h
    .exact h
    rw[aI h]at b9;cases b9
   rw[eH b9]at c6;have f9:xs.length=es.length:=by rw[<-c2,aq]
   have i7:xs.length<=1000000:=oM
   have he:(xs.take p++xs.drop (p+1)).map LE.ent=QbM es k:=by rw[c6,<-c2,aB,cZ,cO]
   have d8:(xs.take p++xs.drop (p+1)).length=p+(xs.length -(p+1)):=by simp only[List.length_append,List.length_take,List.length_drop];omega
   have d5:=λ(w3:World) (s3:Sl)=>QyK (w3:=w3) (s3:=s3) (L:=xs.take p++xs.drop (p+1)) (es:=QbM es k) hm hH hb hs (λy hy=>by
    rcases aO.1 hy with hy|hy
    .exact ba hy
    exact aN hy)
   have g4:=λ(W:World) (hW:Ext w W)=>(hs.mono (G:=Lt w) λi hi=>hi.1).agree (hW.agree λ_ h=>h)
   have h0:w.cell? M=some (.slice s.a xs.length s.c):=hb.cell 0;have lM:=hb.lt;have b0:=hb.frozen 0;have g5:=hs.rd;obtain⟨gs,os,g3,-,-⟩:=g5;obtain⟨c4,f8,HE,d7,a9,HG⟩:=Yg d5 g4 he d8 a5 hg;clear d5 g4 he d8 a5 b8 b9 c6 e4 hb hs c2 hg hp f9;generalize hn:xs.length=n at g3;cases g3 with
   |nil=>omega
   |zero=>omega
   | some _ sc _ _ hsc hscm hsF=>
     subst hn;have i4:(p:Int)+1<=(xs.length:Int):=oM
     have i8:(p:Int)<=(xs.length:Int):=oM
     have i5:(p:Int)<=(sc:Int):=oM
     have i1:(p:Int)+1<=(sc:Int):=oM
     have i3:(0:Int)<=(p:Int):=oM
     have i2:(p:Int)<=(p:Int)+1:=oM
     have g9:(0:Int)<=(p:Int)+1:=oM
     have i6:((p:Int)+1).toNat=p+1:=oM
     have e1:p<=maxLen:=by unfold maxLen;omega
     have d6:p*104<=140737488355328:=oM
     by_cases e0:sc=p+1
     ·subst e0
      have b6:∀W,Ext w W->Rd W (Lt w) 7 ⟨some ⟨gs,os,none⟩,0⟩ 0 []:=λW hW=>⟨gs,os,.some _ _ _ _ (aA _) (aA _) hsF.1,rfl,λj u hj=>by simp at hj⟩
      have b7:∀W,Ext w W->Rd W (Lt w) 7 ⟨some ⟨gs,os,none⟩,p+1⟩ p (QaD (xs.take p)):=λW hW=>by have:=((f8.o W hW).take (bZ c8)).rd;rwa[av,bR (bZ c8)]at this
      obtain⟨f6,f1⟩:=Yb b6 b7;have b5:∀u∈([]:List Value),u.oneCell'=true:=oO
      have e3:=hY b5;have c7:p+0<=maxLen:=by unfold maxLen;omega
      have c0:(p+0)*104<=140737488355328:=oM
      clear b6 b7 b5;go_in;go_wp2_with fail;refine a9.o.mono ?_;rintro e w2 ⟨rfl,nq,rfl⟩;have I:=(gh w).drewN nq
      replace h0:=(I.cell lM).trans h0
      replace b0:=(I.frozen (o:=0) lM).trans b0
      have a7:=ab lM I.size;have e2:=I.size;generalize World.drewN w nq=W2 at *;have b4:=hY I;clear I a9;go_wp2_with fail;have e6:IntKind.i64.wrap ((p:Int)+1)=(p:Int)+1/\wrap64 ((p:Int)+1)=(p:Int)+1:=⟨by rw[eM];omega,by unfold wrap64;omega⟩;obtain⟨f5,c3⟩:=e6;go_region_law (first
       |(refine Qwt _ rfl (.const (.slice none 0 0)) (.tmp 20) 41 rfl w.heap.size 78 i0 _ 7 104 underlying41 hi d4 d0 c9 rfl oN (by rfl) (Lt w) ⟨some ⟨gs,os,none⟩,p+1⟩ p (QaD (xs.take p)) (by rfl) (f1.o _ b4.o.drew) (QbX _) e1 d6 e2 ?_;intro s1 w3 a0 N;replace N:=((gh W2).drew).trans N;have m3:=(N.cell (o:=0) a7).trans h0;have f3:=(N.frozen (o:=0) a7).trans b0;have e8:=ab a7 N.size;have a3:=hY (b4.o.trans N);have f7:=a3.o.size;have a8:=hY a0;clear a0 N)
       | (refine Qdi _ rfl (.tmp 21) (.tmp 28) 41 rfl w.heap.size 78 i0 _ 7 104 underlying41 hi d4 d0 c9 rfl oN s1 p (QaD (xs.take p)) (by rfl) a8.o (Lt w) ⟨some ⟨gs,os,none⟩,0⟩ 0 [] (by rfl) (f6.o _ a3.o) e3.o c7 c0 f7 ?_;intro s2 w4 Z a2 f2;have a6:=a2.cell0 (o:=0) (gh w3) (fun e=>da _ (ab lM (Qad (s:=s1) a8.o e).1)) e8;have m4:=a6.1.trans m3;have g7:=a6.2;have b3:=hY (a3.o.wr a2 (fun i hi=>(Qad (s:=s1) a8.o hi).1));have f4:w4.frozen? M=false:=by have h1:=b3.o.frozen (o:=0) lM;have h2:=a3.o.frozen (o:=0) lM;rw [h1,←h2];exact f3
          have f0:=hY Z;clear Z a2 f2 a6))
      all_goals
       clear f5 c3;have d3:QaD (xs.take p++xs.drop (p+1))=QaD (xs.take p)++QaD (xs.drop (p+1)):=Qcp _ _;have a4:(xs.take p++xs.drop (p+1)).length=p+(xs.length -(p+1)):=d7.o;have g6:xs.length -(p+1)=0:=oM
       have g0:xs.drop (p+1)=[]:=bN.2 oM;rw[g6]at a4;rw[g0]at d3;rw[g0]at a4 c4 HE;have a1:=c4.o w4 s2 b3.o (by rw[a4,d3];exact f0.o) (by rw[a4];omega) HE.o;rw[a4]at a1;have c1:=hY a1;clear a1;go_wp2_with fail;go_ret;exact⟨by rw[HG.o];rfl,c1.o⟩
     have g8:¬p+1=sc:=λe=>e0 e.symm
     have b6:∀W,Ext w W->Rd W (Lt w) 7 ⟨some ⟨gs,os+(p+1)*7,none⟩,sc -(p+1)⟩ (xs.length -(p+1)) (QaD (xs.drop (p+1))):=λW hW=>by have:=((f8.o W hW).drop (m:=p+1) oM).rd;rwa[aw]at this
     have b7:∀W,Ext w W->Rd W (Lt w) 7 ⟨some ⟨gs,os,none⟩,sc⟩ p (QaD (xs.take p)):=λW hW=>by have:=((f8.o W hW).take (bZ c8)).rd;rwa[av,bR (bZ c8)]at this
     obtain⟨f6,f1⟩:=Yb b6 b7;have b5:∀u∈((QaD (xs.drop (p+1))):List Value),u.oneCell'=true:=QbX _;have e3:=hY b5;have c7:p+(xs.length -(p+1))<=maxLen:=by unfold maxLen;omega
     have c0:(p+(xs.length -(p+1)))*104<=140737488355328:=oM
     clear b6 b7 b5;go_in;go_wp2_with fail;refine a9.o.mono ?_;rintro e w2 ⟨rfl,nq,rfl⟩;have I:=(gh w).drewN nq
     replace h0:=(I.cell lM).trans h0
     replace b0:=(I.frozen (o:=0) lM).trans b0
     have a7:=ab lM I.size;have e2:=I.size;generalize World.drewN w nq=W2 at *;have b4:=hY I;clear I a9;go_wp2_with fail;have e6:IntKind.i64.wrap ((p:Int)+1)=(p:Int)+1/\wrap64 ((p:Int)+1)=(p:Int)+1:=⟨by rw[eM];omega,by unfold wrap64;omega⟩;obtain⟨f5,c3⟩:=e6;go_region_law (first
      |(refine Qwt _ rfl (.const (.slice none 0 0)) (.tmp 20) 41 rfl w.heap.size 78 i0 _ 7 104 underlying41 hi d4 d0 c9 rfl oN (by rfl) (Lt w) ⟨some ⟨gs,os,none⟩,sc⟩ p (QaD (xs.take p)) (by rfl) (f1.o _ b4.o.drew) (QbX _) e1 d6 e2 ?_;intro s1 w3 a0 N;replace N:=((gh W2).drew).trans N;have m3:=(N.cell (o:=0) a7).trans h0;have f3:=(N.frozen (o:=0) a7).trans b0;have e8:=ab a7 N.size;have a3:=hY (b4.o.trans N);have f7:=a3.o.size;have a8:=hY a0;clear a0 N)
      | (refine Qdi _ rfl (.tmp 21) (.tmp 28) 41 rfl w.heap.size 78 i0 _ 7 104 underlying41 hi d4 d0 c9 rfl oN s1 p (QaD (xs.take p)) (by rfl) a8.o (Lt w) ⟨some ⟨gs,os+(p+1)*7,none⟩,sc - (p+1)⟩ (xs.length - (p+1)) (QaD (xs.drop (p+1))) (by rfl) (f6.o _ a3.o) e3.o c7 c0 f7 ?_;intro s2 w4 Z a2 f2;have a6:=a2.cell0 (o:=0) (gh w3) (fun e=>da _ (ab lM (Qad (s:=s1) a8.o e).1)) e8;have m4:=a6.1.trans m3;have g7:=a6.2;have b3:=hY (a3.o.wr a2 (fun i hi=>(Qad (s:=s1) a8.o hi).1));have f4:w4.frozen? M=false:=by have h1:=b3.o.frozen (o:=0) lM;have h2:=a3.o.frozen (o:=0) lM;rw [h1,←h2];exact f3
         have f0:=hY Z;clear Z a2 f2 a6))
     all_goals
      clear f5 c3;have d3:QaD (xs.take p++xs.drop (p+1))=QaD (xs.take p)++QaD (xs.drop (p+1)):=Qcp _ _;have a4:(xs.take p++xs.drop (p+1)).length=p+(xs.length -(p+1)):=d7.o;have a1:=c4.o w4 s2 b3.o (by rw[a4,d3];exact f0.o) (by rw[a4];omega) HE.o;rw[a4]at a1;have c1:=hY a1;clear a1;go_wp2_with fail;go_ret;exact⟨by rw[HG.o];rfl,c1.o⟩
abbrev Qds(sl sr:Sl):Nat->Prop:=λb=>sl.row=some b\/sr.row=some b
def Qfs(P:Nat->World->Prop)(W:World)(e:Ending)(W':World):Prop:=∃a,e=.returned (.pointer (some ⟨a,0,none⟩))/\W.heap.size<=a/\P a W'/\Ext W W'
theorem Qln{base n:Nat}{xs:List Value}(h:w.ownsRow base 78 7 (.slice s.a n s.c) n xs)(hs:St G w W)(N:∀b,s.row=some b->¬G b):W.ownsRow base 78 7 (.slice s.a n s.c) n xs:=
 Qab h hs.agree λb I=>⟨(Qad h I).2,N b I⟩
theorem Qsh{n m:Nat}(h:Rd w F 7 s n cs)(I:m<=n):Rd w F 7 s m (cs.take (m*7)):=h.take I
theorem Qvm{ls:List Value}(hl:ls.length=n*7)(hn:0<n)(hp:True):∃v0 I v2 v3 v4 N Z:Value,ls.drop ((n-1)*7)=[v0,I,v2,v3,v4,N,Z]:=by
 have h:(ls.drop ((n-1)*7)).length=7:=by rw[aw,hl];omega
 match hd:ls.drop ((n-1)*7),h with
 |[v0,I,v2,v3,v4,N,Z],_=>exact⟨v0,I,v2,v3,v4,N,Z,rfl⟩
section
variable{w : World}{base m nr : Nat}{sl sr : Sl}{ls rs : List Value}{P1 P2 : Nat -> World -> Prop}
theorem QnD(hL:w.ownsRow base 78 7 (.slice sl.a (m+1) sl.c) (m+1) ls)(hR:w.ownsRow base 78 7 (.slice sr.a nr sr.c) nr rs)(hb:base<=w.heap.size)(a9:∀b,sl.row=some b->sr.row≠some b)
  (b3:∀u∈ls,u.oneCell'=true) (c3:∀u∈rs,u.oneCell'=true) (c8:True) (h4:4<m+1) (h8:m+1<=8) (r8:nr<=8)
  (c0:∀(W:World) (s:Sl),St (Qds sl sr) w W->Rd W (Lt W) 7 s m (ls.take (m*7))->Calls prog 80 #[.slice s.a m s.c] W (Qfs P1 W))
  (b7:∀(W:World) (s:Sl),St (Qds sl sr) w W->Rd W (Lt W) 7 s (nr+1) (ls.drop (m*7)++rs)->Calls prog 80 #[.slice s.a (nr+1) s.c] W (Qfs P2 W))
  (b6:∀a W W',St (Qds sl sr) w W->P1 a W->St (Qds sl sr) W W'->P1 a W') :
  Calls prog 146 #[.slice sl.a (m+1) sl.c,.slice sr.a nr sr.c,.func (.func 80) #[] #[]] w λe w'=>∃a b,e=.returned (.tuple #[.pointer (some ⟨a,0,none⟩),.pointer (some ⟨b,0,none⟩)])/\w.heap.size<=a/\w.heap.size<=b/\P1 a w'/\P2 b w'/\St (Qds sl sr) w w':=by
 obtain⟨i0,hi,f5,f1,e8⟩:=eR Tryz.Qa8;obtain⟨v0,v1,v2,v3,v4,v5,v6,I⟩:=Qvm hL.1 oM c8;rw[Nat.add_sub_cancel]at I;obtain⟨Z,N,rfl,f0,e4,b9,a5⟩:=QaJ hL oM;have c7:Z<w:=a5.lt;have a8:∀b,sr.row=some b->b<w.heap.size:=λb hb=>(Qad hR hb).2
 have a3:∀W,St (λb=>sr.row=some b) w W->∀j u,ls[j]? = some u->W.cell? ⟨Z,j,none⟩=some u:=λW hW j u hj=>by
  obtain⟨b,o,h1,h2,h3⟩:=gz hL;obtain⟨e1,-,-⟩:=h1.eq oM;obtain⟨rfl,rfl⟩:Z=b/\0=o:=by simpa using e1
  have:=h3 j u hj;rw[aD]at this;exact(hW.cell c7 (a9 Z rfl)).trans this
 have a0:∀(c:Nat) (u:Value),([v0,v1,v2,v3,v4,v5,v6]:List Value)[c]? = some u->ls[m*7+c]? = some u:=λc u hu=>by rw[<-I,bc]at hu;exact hu
 have hS:∀W,St (λb=>sr.row=some b) w W->W.cell? ⟨Z,m*7,none⟩=some v0/\W.cell? ⟨Z,m*7+1,none⟩=some v1/\W.cell? ⟨Z,m*7+2,none⟩=some v2/\W.cell? ⟨Z,m*7+3,none⟩=some v3/\W.cell? ⟨Z,m*7+4,none⟩=some v4/\W.cell? ⟨Z,m*7+5,none⟩=some v5/\W.cell? ⟨Z,m*7+6,none⟩=some v6:=λW hW=>⟨a3 W hW _ _ (a0 0 _ rfl),a3 W hW _ _ (a0 1 _ rfl),a3 W hW _ _ (a0 2 _ rfl),a3 W hW _ _ (a0 3 _ rfl),a3 W hW _ _ (a0 4 _ rfl),a3 W hW _ _ (a0 5 _ rfl),a3 W hW _ _ (a0 6 _ rfl)⟩
 have f3:(4:Int)<(m:Int)+1:=oM
 have f7:(m:Int)<=(N:Int):=oM
 have f2:(m:Int)<(m:Int)+1:=oM
 have e6:(N:Int)<=9223372036854775807:=by unfold maxLen at b9;omega
 have f6:IntKind.i64.wrap ((m:Int)+1)=(m:Int)+1:=by rw[eM];omega
 have b4:∀W,St (λb=>sr.row=some b) w W->Calls prog 80 #[.slice (some Z) m N] W (Qfs P1 W):=λW hW=>
  c0 W ⟨some Z,N⟩ (hW.mono λi _ hi=>.inr hi) (Qsh ((gz (Qln (s:=⟨some Z,N⟩) hL hW (λb hb=>a9 b hb))).mono λi hi=>hi.2) oM)
 have a6:∀W vb,Ext w W->Blk W vb 78 #[v0,v1,v2,v3,v4,v5,v6]->w.heap.size<=vb->Calls prog 78 #[.slice sr.a nr sr.c,.int .i64 0,.slice (some vb) 1 1] W (Qev base sr nr 0 rs [v0,v1,v2,v3,v4,v5,v6] W):=λW vb hW hv e7=>
  Qma (Qln hR (hW.st (λ_=>False)) (λ_ _ h=>h)) (ak hb hW.size) oM (aA _) rfl hv (λe=>by have:=a8 vb e;omega) (λu hu=>b3 u (aN (I▸hu))) c3
 obtain⟨HS,c9,d0,HI,d4,HL⟩:=Yg hS b4 b7 a6 b6 I;clear hS b4 c0 b7 a6 b6 I a0 a3 b3 c3 hL hR a5 a9;go_in;go_wp2_with fail;have s0:=(gB (λb=>sr.row=some b) w).drew;have k0:=HS.o _ s0;have e0:=(gh w).drew;have sA:=((((gh w).alloc #[v0,v1,v2,v3,v4,v5,v6] 78).drew).st (λb=>sr.row=some b));have d8:=hY (show Blk (w.alloc (.cells #[v0,v1,v2,v3,v4,v5,v6] 78)).drew w.heap.size 78 #[v0,v1,v2,v3,v4,v5,v6]from gm w 78 _);go_region_held3 (λW=>W.cell? ⟨Z,m*7,none⟩=some v0/\W.cell? ⟨Z,m*7+1,none⟩=some v1/\W.cell? ⟨Z,m*7+2,none⟩=some v2/\W.cell? ⟨Z,m*7+3,none⟩=some v3/\W.cell? ⟨Z,m*7+4,none⟩=some v4/\W.cell? ⟨Z,m*7+5,none⟩=some v5/\W.cell? ⟨Z,m*7+6,none⟩=some v6) (first |(with_reducible exact HS.o _ s0) |(with_reducible exact HS.o _ (s0.alloc _ _)) |(with_reducible exact HS.o _ s1) |(with_reducible exact HS.o _ (s1.alloc _ _)) |(with_reducible exact HS.o _ s2) |(with_reducible exact HS.o _ c2) |(with_reducible exact HS.o _ sA)|go_keep)
  (first
    |(go_at_call_of 80 (Value.slice (some Z) m N);refine(c9.o _ (by first|exact s0|exact s0.alloc _ _)).mono ?_;rintro e w1 ⟨a1,rfl,e3,b5,a7⟩;have s1:=(show St (λb=>sr.row=some b) w _ from by first|exact s0|exact s0.alloc _ _).ext a7;have e1:=(show Ext w _ from by first|exact e0|exact e0.alloc _ _).trans a7;have e2:=hY b5;clear b5)
    |(go_at_call 78;refine(HI.o _ _ (by first |(with_reducible exact e1)|exact e1.alloc _ _) (by first|exact(gm _ _ _)|exact Blk.ext d8.o a7) (by first|exact e1.size|exact ao _)).mono ?_;rintro e w2 ⟨s3,rfl,b0,a4,d3⟩;have d7:=(show St (Qds ⟨some Z,N⟩ sr) w1 w2 from by first|exact(a4.st λi hi=>.inr hi)|exact(((gh w1).alloc _ _).st _).trans (a4.st λi hi=>.inr hi));have s2:=s1.trans (show St (λb=>sr.row=some b) w1 w2 from by first|exact(a4.st λi hi=>hi)|exact(((gh w1).alloc _ _).st _).trans (a4.st λi hi=>hi));have d5:=hY b0;clear b0 a4 d3)
    |(go_at_call 80;refine(d0.o w2 s3 (s2.mono λi _ hi=>.inr hi) ?_).mono ?_;(have h:=gz d5.o;simp only[Nat.zero_mul,List.take_zero,List.nil_append,List.drop_zero]at h;rw[<-HL.o]at h;exact h.mono λi hi=>hi.2);rintro e w3 ⟨a2,rfl,c6,c1,b8⟩;have c2:=s2.ext b8;have c4:=hY c1;clear c1))
 all_goals
  go_wp2_with fail;go_ret2;have f4:=s1.size;have d6:=s2.size;refine⟨a1,a2,rfl,?_,ak d6 c6,d4.o a1 w1 w3 (s1.mono λi _ hi=>.inr hi) e2.o (d7.ext b8),c4.o,c2.mono λi _ hi=>.inr hi⟩;simp only[World.size_alloc,World.size_drew]at e3;omega
end
theorem Quf{rs:List Value}(hl:rs.length=n*7)(hn:0<n)(hp:True):∃v0 I v2 v3 v4 N Z:Value,rs.take 7=[v0,I,v2,v3,v4,N,Z]:=by
 have h:(rs.take 7).length=7:=by rw[av,hl];omega
 match hd:rs.take 7,h with
 |[v0,I,v2,v3,v4,N,Z],_=>exact⟨v0,I,v2,v3,v4,N,Z,rfl⟩
section
variable{w : World}{base nl m : Nat}{sl sr : Sl}{ls rs : List Value}{P1 P2 : Nat -> World -> Prop}
theorem Qlp(hL:w.ownsRow base 78 7 (.slice sl.a nl sl.c) nl ls)(hR:w.ownsRow base 78 7 (.slice sr.a (m+1) sr.c) (m+1) rs)(hb:base<=w.heap.size)(b7:∀b,sl.row=some b->sr.row≠some b)
  (a8:∀u∈ls,u.oneCell'=true) (c2:∀u∈rs,u.oneCell'=true) (c8:True) (h4:nl<=4) (h5:4<m+1) (h8:m+1<=8)
  (b8:∀(W:World) (s:Sl),St (Qds sl sr) w W->Rd W (Lt W) 7 s (nl+1) (ls++rs.take 7)->Calls prog 80 #[.slice s.a (nl+1) s.c] W (Qfs P1 W))
  (b4:∀(W:World) (s:Sl),St (Qds sl sr) w W->Rd W (Lt W) 7 s m (rs.drop 7)->Calls prog 80 #[.slice s.a m s.c] W (Qfs P2 W))
  (b3:∀a W W',St (Qds sl sr) w W->P1 a W->St (Qds sl sr) W W'->P1 a W') :
  Calls prog 146 #[.slice sl.a nl sl.c,.slice sr.a (m+1) sr.c,.func (.func 80) #[] #[]] w λe w'=>∃a b,e=.returned (.tuple #[.pointer (some ⟨a,0,none⟩),.pointer (some ⟨b,0,none⟩)])/\w.heap.size<=a/\w.heap.size<=b/\P1 a w'/\P2 b w'/\St (Qds sl sr) w w':=by
 obtain⟨i0,hi,e2,d5,d3⟩:=eR Tryz.Qa8;obtain⟨v0,v1,v2,v3,v4,v5,v6,N⟩:=Quf hR.1 oM c8;obtain⟨I,Z,rfl,f8,f5,c0,a4⟩:=QaJ hR oM;have f0:I<w:=a4.lt;have a5:∀b,sl.row=some b->b≠I:=λb hb e=>b7 b hb (by simp[Sl.row,e])
 have c3:Rd w (λb=>b=I) 7 ⟨some I,Z⟩ (m+1) rs:=by
  obtain⟨b,o,h1,h2,h3⟩:=gz hR;obtain⟨e1,d6,c7⟩:=h1.eq oM;obtain⟨rfl,rfl⟩:I=b/\0=o:=by simpa using e1
  exact⟨I,0,.some _ _ _ _ d6 c7 rfl,h2,h3⟩
 have a3:∀W,St (λb=>sl.row=some b) w W->∀j u,rs[j]? = some u->W.cell? ⟨I,j,none⟩=some u:=λW hW j u hj=>by
  obtain⟨b,o,h1,h2,h3⟩:=gz hR;obtain⟨e1,-,-⟩:=h1.eq oM;obtain⟨rfl,rfl⟩:I=b/\0=o:=by simpa using e1
  have:=h3 j u hj;rw[aD]at this;exact(hW.cell f0 (λe=>a5 I e rfl)).trans this
 have a0:∀(c:Nat) (u:Value),([v0,v1,v2,v3,v4,v5,v6]:List Value)[c]? = some u->rs[c]? = some u:=λc u hu=>by
  rw[<-N,br]at hu;split at hu
  .exact hu
  cases hu
 have hS:∀W,St (λb=>sl.row=some b) w W->W.cell? I=some v0/\W.cell? ⟨I,1,none⟩=some v1/\W.cell? ⟨I,2,none⟩=some v2/\W.cell? ⟨I,3,none⟩=some v3/\W.cell? ⟨I,4,none⟩=some v4/\W.cell? ⟨I,5,none⟩=some v5/\W.cell? ⟨I,6,none⟩=some v6:=λW hW=>⟨a3 W hW _ _ (a0 0 _ rfl),a3 W hW _ _ (a0 1 _ rfl),a3 W hW _ _ (a0 2 _ rfl),a3 W hW _ _ (a0 3 _ rfl),a3 W hW _ _ (a0 4 _ rfl),a3 W hW _ _ (a0 5 _ rfl),a3 W hW _ _ (a0 6 _ rfl)⟩
 have f9:¬(4:Int)<(nl:Int):=oM
 have g0:(4:Int)<(m:Int)+1:=oM
 have g5:(0:Int)<(m:Int)+1:=oM
 have g7:(1:Int)<=(m:Int)+1:=oM
 have g6:¬Z=1:=oM
 have g4:IntKind.i64.wrap ((m:Int)+1)=(m:Int)+1:=by rw[eM];omega
 have f6:(Z:Int)<=9223372036854775807:=by unfold maxLen at c0;omega
 have f7:(m:Int)+1<=(Z:Int):=oM
 have e8:nl+1<=maxLen:=by unfold maxLen;omega
 have e4:(nl+1)*104<=140737488355328:=oM
 have a7:∀W,Ext w W->W.ownsRow base 78 7 (.slice sl.a nl sl.c) nl ls:=λW hW=>Qln hL (hW.st (λ_=>False)) (λ_ _ h=>h)
 have b9:∀W,St (λb=>sl.row=some b) w W->Calls prog 80 #[.slice (some ⟨I,7,none⟩) m (Z-1)] W (Qfs P2 W):=λW hW=>by
  refine b4 W ⟨some ⟨I,7,none⟩,Z-1⟩ (hW.mono λi _ hi=>.inl hi) ?_;have h:=((c3.agree (hW.agree.mono λi (hi:i=I)=>⟨oM,λe=>a5 i e hi⟩)).drop (m:=1) oM).mono (G:=Lt W) λi (hi:i=I)=>by have:=hW.size;show i<_;omega
  simpa using h
 obtain⟨HS,c9,d4,d7,HF,a9,g3⟩:=Yh hS b8 b9 b3 N a7 a8;have e7:Yd (∀u∈([v0,v1,v2,v3,v4,v5,v6]:List Value),u.oneCell'=true):=hY λu hu=>c2 u (ba (N▸hu))
 clear hS b9 b8 b4 b3 N a3 a0 a8 c2 hL hR a4 b7 a5 a7 c3;go_in;go_wp2_with fail;have s0:=(gB (λb=>sl.row=some b) w).drew;have e0:=(gh w).drew;have sA:=((((gh w).alloc #[v0,v1,v2,v3,v4,v5,v6] 78).drew).st (λb=>sl.row=some b));have k0:=HS.o _ s0;have f1:=hY (show Blk (w.alloc (.cells #[v0,v1,v2,v3,v4,v5,v6] 78)).drew w.heap.size 78 #[v0,v1,v2,v3,v4,v5,v6]from gm w 78 _);go_region_held3 (λW=>W.cell? I=some v0/\W.cell? ⟨I,1,none⟩=some v1/\W.cell? ⟨I,2,none⟩=some v2/\W.cell? ⟨I,3,none⟩=some v3/\W.cell? ⟨I,4,none⟩=some v4/\W.cell? ⟨I,5,none⟩=some v5/\W.cell? ⟨I,6,none⟩=some v6) (first |(with_reducible exact HS.o _ s0) |(with_reducible exact HS.o _ sA) |(with_reducible exact HS.o _ s1) |(with_reducible exact HS.o _ s2) |(with_reducible exact HS.o _ s3)|go_keep)
  (first
    |(refine Qdi _ rfl (.tmp 35) (.tmp 39) 41 rfl base 78 i0 _ 7 104 underlying41 hi e2 d5 d3 rfl oN sl nl ls (by rfl) (a9.o _ (((gh w).alloc _ _).drew)) (λb=>b=w.heap.size) ⟨some w,1⟩ 1 [v0,v1,v2,v3,v4,v5,v6] (by rfl) (gA f1.o oN rfl) e7.o e8 e4 (by rw[fC,eK];omega) ?_;intro sx w1 a6 b5 e3;have s1:=sA.trans (b5.st λi hi=>hi);have f3:=hY a6;clear a6 e3)
    |(go_at_call 80;refine(d4.o w2 s2).mono ?_;rintro e w3 ⟨a2,rfl,c6,c1,b6⟩;have s3:=s2.ext b6;have c4:=hY c1;clear c1)
    |(go_at_call 80;refine(c9.o w1 sx (s1.mono λi _ hi=>.inl hi) ?_).mono ?_;(have h:=gz f3.o;rw[<-HF.o]at h;exact h.mono λi hi=>hi.2);rintro e w2 ⟨a1,rfl,f4,b0,d0⟩;have s2:=s1.ext d0;have f2:=hY b0;clear b0))
 all_goals
  go_wp2_with fail;go_ret2;have d8:=s1.size;have e6:=s2.size;exact⟨a1,a2,rfl,ak d8 f4,ak e6 c6,d7.o a1 w2 w3 (s2.mono λi _ hi=>.inl hi) f2.o (b6.st _),c4.o,s3.mono λi _ hi=>.inl hi⟩
theorem QnC{nr:Nat}(hL:w.ownsRow base 78 7 (.slice sl.a nl sl.c) nl ls)(hR:w.ownsRow base 78 7 (.slice sr.a nr sr.c) nr rs)(hb:base<=w.heap.size)
  (a2:∀u∈rs,u.oneCell'=true) (h4:nl<=4) (r4:nr<=4)
  (a0:∀(W:World) (s:Sl),St (Qds sl sr) w W->Rd W (Lt W) 7 s (nl+nr) (ls++rs)->Calls prog 80 #[.slice s.a (nl+nr) s.c] W (Qfs P1 W)) :
  Calls prog 146 #[.slice sl.a nl sl.c,.slice sr.a nr sr.c,.func (.func 80) #[] #[]] w λe w'=>∃a,e=.returned (.tuple #[.pointer (some ⟨a,0,none⟩),.pointer none])/\w.heap.size<=a/\P1 a w'/\St (Qds sl sr) w w':=by
 obtain⟨i0,hi,a3,a9,a8⟩:=eR Tryz.Qa8;have b5:¬(4:Int)<(nl:Int):=oM
 have b4:¬(4:Int)<(nr:Int):=oM
 have b0:nl+nr<=maxLen:=by unfold maxLen;omega
 have a5:(nl+nr)*104<=140737488355328:=oM
 obtain⟨a6,HR,HL,H1⟩:=Ye a0 (gz hR) hL a2;clear a0 hR hL a2;go_in;go_wp2_with(at_builtin;refine Qak _ rfl (.tmp 47) (.tmp 48) 41 rfl base 78 i0 _ 7 104 underlying41 hi a3 a9 a8 rfl oN sl nl ls rfl HL.o (In base w.heap.size) sr nr rs rfl HR.o H1.o b0 a5 hb ?_;intro sx w1 I N a4);have s1:St (λb=>sl.row=some b) w w1:=N.st λi hi=>hi
 refine(a6.o w1 sx (s1.mono λi _ hi=>.inl hi) ((gz I).mono λi hi=>hi.2)).mono ?_;rintro e w2 ⟨a1,rfl,b3,Z,a7⟩;have HP:=hY Z;clear Z I N a4;go_wp2_with fail;go_ret2;exact⟨a1,rfl,ak s1.size b3,HP.o,(s1.ext a7).mono λi _ hi=>.inl hi⟩
end
end Go.Proofs.YtdiecmkpbadgjaaGreatDoor
