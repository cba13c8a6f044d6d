/- Steps to the theorem. -/
import Derived.RangeFuncNested
import Derived.RangeFuncBound
import Derived.OwnWalkIn
import Derived.ProofKit
import Derived.OpenShut
import Derived.Test.YtahhllcdbjbpbaaGreatDoorPqb
set_option linter.all false
set_option maxRecDepth 100000
set_option maxHeartbeats 2000000
namespace Go.Proofs.YtahhllcdbjbpbaaGreatDoor
open Go.Proofs.Tryz
open Go.RowKit
def G7(base:Nat)(s:Sl)(xs:List LE)(es:List AD)(w:AB)(e:AC)(w':AB):Prop:=
 ∃(s':Sl) (ys:List LE),e=.returned (.slice s'.a (xs.length+ys.length) s'.c)/\OE w' base s' (xs++ys)/\ys.map LE.ent=es/\Wr w w' s.row/\(s'.row=s.row\/∃b,s'.row=some b/\w.heap.size<=b)
variable{w w':AB}{s s':Sl}{xs ys:List LE}{F:Nat->Prop}
def OE.append{base:Nat}(ho:OE w base s xs)(hv:D2 w F ys)(hF:∀b,F b->base<=b/\b<w.heap.size/\s.row≠some b)(hf:(xs.length+ys.length)*104<=140737488355328)
  (a2:w'.ownsRow base 65 7 (.slice s'.a (xs.length+ys.length) s'.c) (xs.length+ys.length) (AP xs++AP ys)) (a0:Wr w w' s.row) (a3:s'.row=s.row\/∃b,s'.row=some b/\w.heap.size<=b):OE w' base s' (xs++ys):=by
 have N:∀b,b<w.heap.size->s.row≠some b->s'.row≠some b:=λb hb hn he=>by
  rcases a3 with h |⟨g,h,hg⟩
  .exact hn (h▸he)
  rw[h]at he;simp at he;omega
 have a1:Agree (λb=>(base<=b/\b<w.heap.size)/\s.row≠some b) w w':=a0.agree (λi hi=>hi.1.2) (λk hk h=>h.2 hk);refine⟨by rw[aj,D5];exact a2,λx I=>?_,by rw[aj];exact hf⟩;have Z:∀i,((base<=i/\i<w.heap.size)/\s.row≠some i)->(base<=i/\i<w'.heap.size)/\s'.row≠some i:=λi hi=>⟨⟨hi.1.1,ab hi.1.2 a0.grown.size⟩,N i hi.1.2 hi.2⟩
 rcases aL.1 I with I|I
 .exact ⟨((ho.vals x I).1.agree a1).mono Z,(ho.vals x I).2⟩
 exact⟨(((hv x I).1.mono λi hi=>⟨⟨(hF i hi).1,(hF i hi).2.1⟩,(hF i hi).2.2⟩).agree a1).mono Z,(hv x I).2⟩
def Et.base{es:List AD}{e:AC}(h:Et es w e w'):∃(s:Sl) (ys:List LE),e=.returned (.slice s.a ys.length s.c)/\ys.map LE.ent=es/\OE w' w.heap.size s ys/\Ext w w':=h
def S2(h:Ext w w')(r:Option Nat):Wr w w' r:=⟨⟨h.below.os,h.below.tape,h.below.output,h.size,λk I _=>h.heap I⟩,h.fz⟩
variable{nv:Value}
def Oz{es:List AD}{base:Nat}(he:Calls prog 49 #[nv] w (Et es w))(hk:∀W,Wr w W s.row->Calls prog 54 #[nv] W λe w'=>e=.returned (.slice none 0 0)/\W=w')
  (hb:base<=w.heap.size) (ho:OE w base s xs) (hl:xs.length+es.length<=1000000):Calls prog 43 #[.slice s.a xs.length s.c,nv] w (G7 base s xs es w):=by
 obtain⟨i0,hi,c8,b9,b5⟩:=eZ Tryz.DK;obtain⟨HK,HO⟩:=Yb hk ho;clear hk ho;go_in;go_wp2_with fail;refine he.mono ?_;intro e w1 hp;obtain⟨sy,ys,rfl,a2,a5,I⟩:=hp.base;have b8:ys.length=es.length:=by rw[<-a2,aq]
 have a9:=HO.o.ext I;obtain⟨b0,a4,a3,b6⟩:=Ye a9 I a5 a2;have b7:xs.length+ys.length<=maxLen:=by unfold maxLen;omega
 have b4:base<=w1.heap.size:=an hb I.size;have a7:(xs.length+ys.length)*104<=140737488355328:=oM
 clear hp a2 a5 I a9 b8;go_wp2_with(at_builtin;refine Bq _ rfl (.tmp 7) (.tmp 9) 22 rfl base 65 i0 _ 7 104 underlying22 hi c8 b9 b5 rfl oN s xs.length (AP xs) rfl b0.o.own (In w.heap.size w1.heap.size) sy ys.length (AP ys) rfl a3.o.es.rd (Ds ys) b7 a7 b4 ?_;intro s' w2 N a1 b3);have a0:s'.row=s.row\/∃b,s'.row=some b/\w1.heap.size<=b:=by
  rcases b3 with h |⟨h,-⟩
  .exact .inl (by simp[Sl.row,h])
  exact .inr ⟨w1,by simp[Sl.row,h],ao _⟩
 have Z:∀b,s.row=some b->b<w.heap.size:=λb hb=>(AM HO.o.own hb).2
 have a6:=OE.append b0.o a3.o.es.vals (λb hb=>⟨Nat.le_trans ‹base<=w.heap.size› hb.1,hb.2,λe=>by have:=Z b e;omega⟩) a7 N a1 a0;obtain⟨c6,HW,c7⟩:=Yc a6 ((S2 a4.o s.row).trans a1 (λi hi=>.inl hi)) a0;have a8:=a4.o.size;clear a6 N a1 b3 a0 Z;refine(HK.o w2 HW.o).mono ?_;rintro e w3 ⟨rfl,rfl⟩;go_wp2_with fail;go_loopw[0,14] (λv i wr=>v=.slice s'.a (xs.length+ys.length) s'.c/\i=.int .i64 0/\wr=w2) (λ_ _ _=>0)
 case atStart=>exact⟨rfl,rfl,rfl⟩
 obtain⟨rfl,rfl,rfl⟩:=hrel;go_wp2_with fail;go_ret;exact⟨s',ys,rfl,c6.o,b6.o,HW.o,c7.o.imp_right λ⟨b,h1,h2⟩=>⟨b,h1,an a8 h2⟩⟩
structure Lr(base:Nat)(s:Sl)(xs:List LE)(w wr:AB)(s':Sl)(ys:List LE):Prop where
 own:OE wr base s' (xs++ys)
 wr:Wr w wr s.row
 row:s'.row=s.row\/∃b,s'.row=some b/\w.heap.size<=b
variable{h:Nat}
def gQ(ih:∀(t:PT h) (w:AB) (F:Nat->Prop) (base:Nat) (s:Sl) (xs:List LE),AJ w F h t->(∀b,F b->b<w.heap.size/\s.row≠some b)->base<=w.heap.size->OE w base s xs->Aj h t->xs.length+(ents h t).length<=1000000->Calls prog 43 #[.slice s.a xs.length s.c,ptr h t] w (G7 base s xs (ents h t) w))
  {t:PT (h+1)} {base:Nat} (hn:AJ w F (h+1) t) (hF:∀b,F b->b<w.heap.size/\s.row≠some b) (hb:base<=w.heap.size) (ho:OE w base s xs) (ok:Aj (h+1) t) (hl:xs.length+(ents (h+1) t).length<=1000000) :
  Calls prog 43 #[.slice s.a xs.length s.c,ptr (h+1) t] w (G7 base s xs (ents (h+1) t) w):=by
 obtain⟨i0,hi,f9,g6,g4⟩:=eZ Tryz.DK;have e8:=ok.2.1;have g7:=ok.1;have hc:=FZ hn oM;have c8:∀x∈t.2,AJ w F h x:=hn.2.choose_spec.2.2;have he:=Wu hn;obtain⟨f5,HO,HF,f4,f8,HL⟩:=Yg ih ho hF c8 ok hl;have f1:xs.length+0<=maxLen:=by unfold maxLen;omega
 have e0:(xs.length+0)*104<=140737488355328:=oM
 have g8:=hY hn;clear ih ho hF c8 ok hl hn hc;go_in;go_wp2_with fail;refine he.mono ?_;rintro e w1 ⟨rfl,rfl⟩;go_wp2_with(at_builtin;refine Bq _ rfl (.tmp 7) (.tmp 9) 22 rfl base 65 i0 _ 7 104 underlying22 hi f9 g6 g4 rfl oN s xs.length (AP xs) rfl HO.o.own (λ_=>True) Sl.none 0 [] rfl (Rd.nil _ _ _) oO f1 e0 hb ?_;intro s' w2 I a5 e3);have b5:s'.row=s.row\/∃b,s'.row=some b/\w.heap.size<=b:=by
  rcases e3 with h |⟨h,-⟩
  .exact .inl (by simp[Sl.row,h])
  exact .inr ⟨w,by simp[Sl.row,h],ao _⟩
 have a6:OE w2 base s' (xs++[]):=OE.append (F:=λ_=>False) HO.o (λx hx=>by simp at hx) (λb hb=>hb.elim) e0 (by simpa[jW]using I) a5 b5;rw[aY]at a6;have a2:∀b,s'.row=some b->b<w2.heap.size:=λb hb=>(AM a6.own hb).2
 have b8:AJ w2 F (h+1) t:=g8.out.agree (a5.agree (λi hi=>(HF.o i hi).1) (λk hk h=>(HF.o k h).2 hk));have e7:=FZ b8 oM;have a4:=hY (show Lr base s xs w w2 s' []from⟨by rw[aY];exact a6,a5,b5⟩);clear e3 I a6 a5 b5 b8;refine e7.mono ?_;rintro e w3 ⟨sk,rfl,I,b7⟩;obtain⟨g,d4,rfl,g9,c6,d7,a9⟩:=Dg I oM;have a1:Rd w3 (λb=>b=g) 1 ⟨some g,d4⟩ t.2.length (ptrs h t.2):=by
  obtain⟨b,o,h1,h2,h3⟩:=gF I;obtain⟨e1,c6,d7⟩:=h1.eq oM;obtain⟨rfl,rfl⟩:g=b/\0=o:=by simpa using e1
  exact⟨g,0,.some _ _ _ _ c6 d7 rfl,h2,h3⟩
 have g5:s'.row≠some g:=λe=>by have:=a2 g e;omega
 have f0:g<w3:=a9.lt;obtain⟨g3,f3⟩:=Yb (show Lr base s xs w w3 s' []from⟨a4.o.own.ext b7,a4.o.wr.trans (S2 b7 none) (λi hi=>by cases hi),a4.o.row⟩) a1;clear a9 I b7 a1 e7 a2 a4;go_wp2_with fail;go_loopw[0,14] (λv i wr=>∃(j:Nat) (Z:Sl) (ys:List LE),j<=t.2.length/\i=.int .i64 j/\v=.slice Z.a (xs.length+ys.length) Z.c/\ys.map LE.ent=(t.2.take j).flatMap (ents h)/\Lr base s xs w wr Z ys/\Rd wr (λb=>b=g) 1 ⟨some g,d4⟩ t.2.length (ptrs h t.2)/\Z.row≠some g/\g<wr)
  (λ_ i _=>t.2.length -(intOf i).toNat)
 case atStart=>exact⟨0,s',[],aw _,rfl,rfl,rfl,g3.o,f3.o,g5,f0⟩
 obtain⟨j,Z,ys,hj,rfl,rfl,a8,hG,a1,b0,d8⟩:=hrel;obtain⟨b9,HG,HR⟩:=Yc a8 hG a1;by_cases e2:j<t.2.length
 ·obtain ⟨a0,N⟩:∃ a0,t.2[j]? = some a0:=⟨_,ac e2⟩
  obtain⟨b,o,e4,-,-,-,c7⟩:=a1.EB N;obtain⟨rfl,rfl⟩:g=b/\0=o:=by simpa using e4
  have kc:wr.cell? ⟨g,j,none⟩=some (ptr h a0):=by simpa using c7
  have i1:(j:Int)<(t.2.length:Int):=oM
  have b4:=ap N;have c9:ys.length+(ents h a0).length<=(ents (h+1) t).length:=by
   have e1:ys.length=((t.2.take j).flatMap (ents h)).length:=by rw[<-a8,aq]
   show _<=(t.2.flatMap (ents h)).length;rw[e1]
   conv=>rhs;rw[Ef N]
   simp only[List.flatMap_append,List.flatMap_cons,List.length_append];omega
  have b6:=f5.o a0 wr F base Z (xs++ys) ((f4.o a0 b4).agree (hG.wr.agree (λi hi=>(HF.o i hi).1) (λk hk h=>(HF.o k h).2 hk)))
   (λb hb=>⟨Nat.lt_of_lt_of_le (HF.o b hb).1 hG.wr.grown.size,λe=>by
     rcases hG.row with h |⟨b',h,a7⟩
     .exact (HF.o b hb).2 (h▸e)
     rw[h]at e;simp at e;have:=(HF.o b hb).1;omega⟩)
   (an hb hG.wr.grown.size) hG.own (f8.o.2.2 a0 b4).1 (by have:=HL.o;rw[aj];omega)
  rw[aj]at b6;have HK:=hY N;clear a8 hG a1 N e4 c7 b4 c9;go_wp2_with fail;refine b6.mono ?_;rintro e w4 ⟨s4,zs,rfl,d5,d0,a3,b3⟩;have HZ:=hY d0;have g0:s4.row≠some g:=λe=>by
   rcases b3 with h |⟨b',h,a7⟩
   .exact b0 (h▸e)
   rw[h]at e;simp at e;omega
  have d6:Lr base s xs w w4 s4 (ys++zs):=by
   refine⟨by rw[<-aU];exact d5,HG.o.wr.trans a3 (λi hi=>?_),?_⟩
   ·rcases HG.o.row with h | ⟨b',h,a7⟩
    .exact .inl (h▸hi)
    rw[h]at hi;simp at hi;exact .inr oM
   rcases b3 with h |⟨b',h,a7⟩
   .rw [h];exact HG.o.row
   exact .inr ⟨b',h,an HG.o.wr.grown.size a7⟩
  have e6:=HR.o.agree (a3.agree (F:=λb=>b=g) (λi hi=>oM) (λk hk e=>b0 (e▸hk)));have d9:g<w4:=ab d8 a3.grown.size;obtain⟨f2,f6⟩:=Yb d6 e6;have d3:(xs++ys).length+zs.length=xs.length+(ys++zs).length:=by simp[Nat.add_assoc]
  have f7:=hY d3;clear d0 d5 a3 b3 d6 e6 d3 b6;go_wp2_with fail;go_roundw
  case rel=>exact⟨j+1,s4,ys++zs,e2,by go_num,by rw[<-f7.o];simp,by rw[aB,b9.o,HZ.o,aK,HK.o];simp,f2.o,f6.o,g0,d9⟩
  simp[intOf];omega
 obtain rfl:j=t.2.length:=oM
 clear a8 hG a1;go_wp2_with fail;go_ret;exact⟨Z,ys,rfl,HG.o.own,by rw[b9.o,aR];rfl,HG.o.wr,HG.o.row⟩
def UJ:∀(h:Nat) (t:PT h) (w:AB) (F:Nat->Prop) (base:Nat) (s:Sl) (xs:List LE),AJ w F h t->(∀b,F b->b<w.heap.size/\s.row≠some b)->base<=w.heap.size->OE w base s xs->Aj h t->xs.length+(ents h t).length<=1000000->Calls prog 43 #[.slice s.a xs.length s.c,ptr h t] w (G7 base s xs (ents h t) w)
 | 0,t,w,F,base,s,xs,hn,hF,I,ho,_,hl=>
   Oz (Gl (hn.mono λb I=>(hF b I).1)) (λW Z=>P5 (hn.agree (Z.agree (λi hi=>(hF i hi).1) (λk N h=>(hF k h).2 N)))) I ho hl
 |h+1,t,w,F,base,s,xs,hn,hF,I,ho,ok,hl=>gQ (UJ h) hn hF I ho ok hl
def SL(w:AB):Calls prog 54 #[.pointer none] w λe w'=>e=.returned (.slice none 0 0)/\w=w':=by
 go_in;go_wp2_with fail;go_ret;exact⟨rfl,rfl⟩
variable{T:RT}
def Zu{base:Nat}(N:AV w F T)(hF:∀b,F b->b<w.heap.size/\s.row≠some b)(Z:base<=w.heap.size)(ho:OE w base s xs)(ok:Am T)(I:xs.length+(AG T).length<=1000000) :
  Calls prog 43 #[.slice s.a xs.length s.c,Aa T] w (G7 base s xs (AG T) w):=by
 match T,N,ok,I with
 |none,_,_,I=>exact Oz ((N0 w).mono λe w' ⟨h1,h2⟩=>⟨Sl.none,[],h1,rfl,OE.nil _ _,h2▸gz w⟩) (λW _=>SL W) Z ho I
 |some ⟨h,t⟩,N,ok,I=>exact UJ h t w F base s xs N hF Z ho ok.1 I
def OO(I:AV w F T):Calls prog 76 #[Aa T] w λe w'=>e=.returned (.int .i64 (AG T).length)/\w=w':=by
 match T,I with
 |none,_=>exact count_nil w
 |some ⟨h,t⟩,I=>exact TD I
def kS(hF:∀b,F b->b<w.heap.size)(I:AV w F T):Calls prog 44 #[AO T] w λe w'=>e=.returned (.int .i64 (AG T).length)/\Ext w w':=by
 have N:Ext w (w.alloc (.cells #[Aa T] 36)):=(gz w).alloc _ _;have Z:=OO (I.agree (N.agree hF));clear hF I;go_in;go_wp2_with fail;refine Z.mono ?_;rintro e w' ⟨rfl,rfl⟩;go_wp2_with fail;go_ret;exact⟨rfl,N⟩
def MD(w:AB)(v:Value):Calls prog 113 #[.agg #[v]] w λe w'=>e=.returned v/\Ext w w':=by
 go_in;go_wp2_with fail;go_ret;exact⟨rfl,(gz w).alloc _ _⟩
def ZJ(hF:∀b,F b->b<w.heap.size)(hT:AV w F T)(ok:Am T)(hl:(AG T).length<=1000000):Calls prog 26 #[AO T] w (Et (AG T) w):=by
 obtain⟨i0,hi,a6,a3,a1⟩:=eZ Tryz.DK;have a0:∀W,Ext w W->Calls prog 44 #[AO T] W λe w'=>e=.returned (.int .i64 (AG T).length)/\Ext W w':=λW hW=>
  kS (λb hb=>ab (hF b hb) hW.size) (hT.agree (hW.agree hF))
 have a5:∀(W:AB) (s:Sl),Ext w W->OE W w.heap.size s []->Calls prog 43 #[.slice s.a 0 s.c,Aa T] W (G7 w.heap.size s [] (AG T) W):=λW s hW ho=>
  Zu (xs:=[]) (hT.agree (hW.agree hF)) (λb hb=>⟨Nat.lt_of_lt_of_le (hF b hb) hW.size,λe=>by have:=(AM ho.own e).1;have:=hF b hb;omega⟩) hW.size ho ok (by simpa using hl)
 generalize AG T=es at *;obtain⟨Z,a4,b7⟩:∃Z:Array Value,Z.size=es.length*7/\∀W,(Instr.makeSlice 22 (.int .i64 0) (.int .i64 (es.length:Int))).run prog W=.ok (.slice (some ⟨W,0,none⟩) 0 es.length) (W.alloc (.cells Z 65)):=by
  refine⟨madeCells (Value.cells (.agg #[ByteArray.empty,.int .i64 0,false,.int .i64 0,ByteArray.empty,.slice none 0 0,.slice none 0 0])) (es.length*7),gh _ _,λW=>?_⟩;have h:=I' (P:=prog) 22 65 i0 _ underlying22 hi a6 .i64 .i64 0 es.length (aw _) (by rw[a1];omega) oM W;rw[a3]at h;exact h
 obtain⟨a9,b0,b5⟩:=Yc a4 a0 a5;clear hF hT ok a0 a5 hi a6 a3 a1 a4;go_in;go_wp2_with fail;have N:Ext w (w.alloc (.cells #[Aa T] 36)):=(gz w).alloc _ _;have a7:=gB w 36 #[Aa T];generalize b3:World.alloc _ _=W0 at *;have r0:W0.cell? w=some (Aa T):=a7.cell 0;have l0:=a7.lt;clear b3;go_region_held3 (λw'=>w'.cell? w=some (Aa T)) (first |(with_reducible exact r1) |(with_reducible exact r3)|go_keep)
  (first
    |(go_at_call 44;refine(b0.o _ ?_).mono ?_;(exact N.drew);rintro e w1 ⟨rfl,I⟩;have r1:=(I.cell (o:=0) l0).trans r0;have l1:=ab l0 I.size)
    |(go_at_call 43;refine(b5.o _ ⟨some w1,es.length⟩ ?_ ?_).mono ?_;(exact((N.drew).trans I).alloc _ _);(exact⟨World.ownsRow_made w1 Z es.length ((N.drew).trans I).size (by unfold maxLen;omega) a9.o,λx hx=>by simp at hx,oO⟩);rintro e w3 ⟨s3,ys,rfl,b4,a8,a2,b6⟩;have r3:w3.cell? w=some (Aa T):=(fi (w:=w1.alloc (.cells Z 65)) (a:=⟨w,0,none⟩) (a2.grown.block w.heap.size (by rw[eQ];omega) (λe=>by simp[Sl.row]at e;omega))).trans ((World.cell?_alloc_lt _ _ _ l1).trans r1))
    )
 go_wp2_with fail;go_ret;have hX:=((N.drew).trans I).alloc Z 65;exact⟨s3,ys,rfl,a8,by simpa using b4,hX.wr a2 (λi hi=>by simp[Sl.row]at hi;have:=((N.drew).trans I).size;omega)⟩
section
variable{P : Program}(w : AB)
def IK{ops:Array Oper}{o:Oper}{a:Act}{K:Act->AB->Prop}{Q:Exit->Act->AB->Prop}{E:Prop}(a5:o.guard=none)(s' x:Operand)(t:TypeId)
  (ho:o.op=.call { callee:=.builtin .append,args:=#[s',x],argTypes:=#[t,t] })
  (base:Nat) (e:TypeId) (i:TypeInfo) (z:Value) (size I:Nat) (ht:P.underlying t=some (.slice e)) (hi:P.info? e=some i) (hz:i.zero=some z)
  (a1:i.size=size) (a7:i.bytes=I) (a6:z.cells.size=size) (a4:0<size)
  (s:Sl) (n:Nat) (xs:List Value) (hs:a.eval s'=.slice s.a n s.c) (a2:w.ownsRow base e size (.slice s.a n s.c) n xs)
  (F:Nat->Prop) (sx:Sl) (m:Nat) (N:List Value) (hx:a.eval x=.slice sx.a m sx.c) (a3:Rd w F size sx m N) (h1:∀u∈N,u.oneCell'=true)
  (a8:n+m<=maxLen) (Z:(n+m)*I<=140737488355328) (a0:base<=w.heap.size)
  (h:∀(s':Sl) (w':AB),w'.ownsRow base e size (.slice s'.a (n+m) s'.c) (n+m) (xs++N)->Wr w w' s.row->(s'.a=s.a\/s'.a=some ⟨w,0,none⟩/\Wr w w' none)->K (a.put o.dst (.slice s'.a (n+m) s'.c)) w') :
  if Region.wanted o (yielded ops a.tmps)=true then Oper.wp P o a w K Q else E:=by
 have hw:Region.wanted o (yielded ops a.tmps)=true:=by simp[Region.wanted,a5]
 rw[eN hw];exact JE w s' x t ho base e i z size I ht hi hz a1 a7 a6 a4 s n xs hs a2 F sx m N hx a3 h1 a8 Z a0 h
def Rd.block{w:AB}{g:Nat}{t:TypeId}{cs:List Value}{size n:Nat}(I:AE w g t cs.toArray)(Z:n<=maxLen)(N:cs.length=n*size):Rd w (λb=>b=g) size ⟨some g,n⟩ n cs:=
 ⟨g,0,.some _ _ _ _ (ao _) Z rfl,N,λj u hj=>by rw[aF,I.cell];simpa using hj⟩
end
abbrev gG:=@Rd.block
def Ua(es:List AD)(w:AB)(e:AC)(w':AB):Prop:=
 ∃T,e=.returned (AO T)/\Fs es T/\AV w' (In w.heap.size w'.heap.size) T/\Ext w w'
def BM(T:RT):∃p,Aa T=.pointer p:=by
 match T with
 |none=>exact⟨_,rfl⟩
 |some ⟨h,t⟩=>exact⟨_,rfl⟩
def ES.ext(h:ES w (Lt w) s xs)(I:Ext w w'):ES w' (Lt w') s xs:=(h.agree (I.agree λ_ h=>h)).mono λ_ hi=>ab hi I.size
def kO(hs:ES w (Lt w) s xs)(hl:xs.length<=500000):Calls prog 9 #[.slice s.a xs.length s.c] w (Ua (xs.map LE.ent) w):=by
 have HS:=hY hs;clear hs;go_in;go_wp2_with fail;generalize a9:World.alloc (World.alloc _ _) _=W0;obtain⟨a6,b8,b6,a4⟩:=CH w _ _ _ _ W0 a9;clear a9;go_loopw[8] (λi wr=>∃(j:Nat) (T:RT) (p:Option Addr),j<=xs.length/\i=.int .i64 j/\Ext w wr/\AE wr w.heap.size 36 #[.pointer none]/\AE wr (w.heap.size+1) 36 #[.pointer p]/\Yd (Aa T=.pointer p)/\Fs ((xs.take j).map LE.ent) T/\AV wr (In (w.heap.size+2) wr.heap.size) T)
  (λi _=>xs.length -(intOf i).toNat)
 case atStart=>exact⟨0,none,none,aw _,rfl,a6,b6,a4,hY rfl,.nil,trivial⟩
 obtain⟨j,T,p,hj,rfl,hx,hR,hS,HP,hB,hT⟩:=hrel;clear a6 b8 b6 a4;obtain⟨HX,HR,HB,HT,c8⟩:=Yf hx hR hB hT hS;have c0:wr.cell? ⟨w+1,0,none⟩=some (.pointer p):=hS.cell 0;have fS:=hS.frozen;have lS:=hS.lt;by_cases a2:j<xs.length
 ·obtain ⟨x,a1⟩:∃ x,xs[j]? = some x:=⟨_,ac a2⟩
  obtain⟨b,o,ha,d8,d6,d7,k0,hv,b7,b9⟩:=(HS.o.ext hx).at a1;obtain⟨v0,v1,v2,v3,v4,v5⟩:=hv.m;have d5:(j:Int)<(xs.length:Int):=oM
  have a3:=hB.both;have b0:∀W,Ext wr W->Calls prog 15 #[.agg #[.pointer p],.string x.k,AS x.v x.sl x.so] W (RP (In (w.heap.size+2) wr.heap.size) T x.k x.v W):=λW hW=>by
   rw[<-HP.o];exact OM (λb N=>ab N.2 hW.size) (hT.agree (hW.agree λb N=>N.2)) a3.1 (by
    rw[a3.2];have:=FI ((xs.take j).map LE.ent) [];simp only[List.length_map,List.length_take,List.length_nil]at this;omega) b9 ((b7.agree (hW.agree λb N=>N)).mono λb N=>ab N hW.size)
  obtain⟨sa,sc⟩:=s;dsimp only at ha;subst ha;obtain⟨c7,c9⟩:=Yb b0 a1;clear hx hR hS hB hT a1 hv b7 a3 b0;go_wp2_with fail;refine(c7.o _ ((gz wr).alloc _ _)).mono ?_;rintro e w2 ⟨T2,rfl,b3,a8,a5⟩;obtain⟨Z,a0⟩:=BM T2;have d4:=hY a0;dsimp only[AO];rw[a0];clear a0;have I:Ext wr w2:=((gz wr).alloc _ _).trans a5;have d0:w2.cell? ⟨w+1,0,none⟩=some (.pointer p):=(I.cell lS).trans c0;have f2:∀o,w2.frozen? ⟨w+1,o,none⟩=false:=λo=>(I.frozen lS).trans (fS o)
  have hE:=(HX.o.trans I).setCell (p:=⟨w+1,0,none⟩) (show w.heap.size<=w.heap.size+1 by omega) (.pointer Z);have b4:=(HR.o.ext I).far (p:=⟨w+1,0,none⟩) oO (.pointer Z);have b5:AE (w2.setCell ⟨w+1,0,none⟩ (.pointer Z)) (w.heap.size+1) 36 #[.pointer Z]:=(c8.o.ext I).AX 0 _;have a7:AV (w2.setCell ⟨w+1,0,none⟩ (.pointer Z)) (In (w.heap.size+2) (w2.setCell ⟨w+1,0,none⟩ (.pointer Z)).heap.size) T2:=by
   have c6:=I.size;have a2:=lS;have hm:∀i,Up (In (w.heap.size+2) wr.heap.size) (wr.alloc (.cells #[.string x.k,.int .i64 x.v.kind,.bool x.v.b,.int .i64 x.v.i,.string x.v.t,.slice x.sl.a x.v.l.length x.sl.c,.slice x.so.a x.v.ok.length x.so.c] 65)) w2 i->In (w.heap.size+2) w2.heap.size i:=λi hi=>by
    rcases hi with hi|hi
    .exact ⟨hi.1,ab hi.2 c6⟩
    have:=hi.1;simp at this;exact⟨oM,hi.2⟩
   refine((a8.mono hm).agree (gD w2 ⟨w+1,0,none⟩ _ (λh=>by have h1:w.heap.size+2<=w.heap.size+1:=h.1;omega))).mono λi hi=>⟨hi.1,by simpa using hi.2⟩
  obtain⟨d3,H1,H2,H3,H4⟩:=Yf (Fs.snoc HB.o b3) hE b4 b5 a7;clear b3 a8 a5 I hE b4 b5 a7;go_wp2_with fail;go_roundw
  case rel=>exact⟨j+1,T2,Z,a2,by go_num,H1.o,H2.o,H3.o,d4,by rw[aK,c9.o,aB];exact d3.o,H4.o⟩
  simp[intOf];omega
 obtain rfl:j=xs.length:=oM
 have r0:wr.cell? w=some (.pointer none):=hR.cell 0;have fR:=hR.frozen;clear hx hR hS hB hT;go_wp2_with fail;have q0:(wr.setCell w (.pointer p)).cell? w=some (.pointer p):=fm wr _ _ r0;refine eU (v:=.agg #[.pointer p]) (by simp[results,results9,go_sem,q0]) rfl ?_;refine⟨T,by rw[AO,HP.o],by have:=HB.o;rwa[aR]at this,?_,HX.o.setCell (p:=⟨w,0,none⟩) (ao _) _⟩;exact(HT.o.agree (gD wr w _ (λh=>by have h1:w.heap.size+2<=w.heap.size:=h.1;omega))).mono λi hi=>⟨by have:=hi.1;omega,by simpa using hi.2⟩
def Z0(hs:ES w (Lt w) s xs)(I:xs.length<=100000):Calls prog 9 #[.slice s.a xs.length s.c] w (Ua (xs.map LE.ent) w):=kO hs oM
structure Bv where
 k:AA
 had:Bool
 was:Val
 has:Bool
 is_:Val
def Em(e:AD):Bv:=⟨e.1,true,e.2,false,zeroV⟩
def FL(e:AD):Bv:=⟨e.1,false,zeroV,true,e.2⟩
def E8(e f:AD):List Bv:=if AW e.2 f.2=0 then[]else[⟨e.1,true,e.2,true,f.2⟩]
def chg:List AD->List AD->List Bv
 |[],b=>b.map FL
 |e::a,[]=>Em e::a.map Em
 |e::a,f::b=>if klt e.1 f.1 then Em e::chg a (f::b)else if klt f.1 e.1 then FL f::chg (e::a) b else E8 e f++chg a b
termination_by a b=>a.length+b.length
def Ii(a:List AD):chg a []=a.map Em:=by cases a<;>simp[chg]
def Mz(b:List AD):chg [] b=b.map FL:=by simp[chg]
variable{e:AD}
def Vb{a b:List AD}(h:∀f∈b.head?,klt e.1 f.1=true):chg (e::a) b=Em e::chg a b:=by
 cases b with
 |nil=>rw[Ii,Ii];rfl
 |cons f b=>rw[chg,eN (h f rfl)]
def Re{f:AD}{a b:List AD}(h:∀e∈a.head?,klt f.1 e.1=true):chg a (f::b)=FL f::chg a b:=by
 cases a with
 |nil=>rw[Mz,Mz];rfl
 |cons e a=>rw[chg,eL (by rw[Ej (h e rfl)];simp),eN (h e rfl)]
def Mg{e f:AD}{a b:List AD}(h:e.1=f.1):chg (e::a) (f::b)=E8 e f++chg a b:=by
 rw[chg,h,eL (by rw[BI];simp),eL (by rw[BI];simp)]
def MM(a b:List AD):∀c:List AD,chg (c++a) (c++b)=chg a b
 |[]=>rfl
 |e::c=>by rw[aJ,aJ,Mg rfl,E8,eN (FA _),aG,MM a b c]
def Sv(a:List AD):chg a a=[]:=by
 have:=MM [] [] a;rw[aY,Ii]at this;exact this
def Cz(a b:List AD)(k:AA):Option Bv:=
 if(AH a k).isSome≠(AH b k).isSome\/AW ((AH a k).getD zeroV) ((AH b k).getD zeroV)≠0 then some ⟨k,(AH a k).isSome,(AH a k).getD zeroV,(AH b k).isSome,(AH b k).getD zeroV⟩else none
def CK(l:List AD):List AD:=l.map λe=>(e.1,zeroV)
def I8(a b:List AD):List Bv:=((A0 (A0 [] (CK a)) (CK b)).map Prod.fst).filterMap (Cz a b)
def Nq{a:List AD}{k:AA}{K:List AA}(hs:Sorted a)(hK:∀y∈K,klt k y=true)(h:∀e∈a,e.1=k\/e.1∈K) :
  (∃v a',a=(k,v)::a'/\Sorted a'/\∀e∈a',e.1∈K)\/∀e∈a,e.1∈K:=by
 cases a with
 |nil=>exact .inr λe he=>by cases he
 | cons e a=>
   obtain⟨h1,h2⟩:=aZ.1 hs;rcases h e (aD)with Z|Z
   ·refine .inl ⟨e.2,a,by rw [←Z],h2,fun x N=>?_⟩
    rcases h x (aI _ N)with I|I
    ·have:=h1 x N
     rw[I,Z,BI]at this;cases this
    exact I
   refine .inr λx N=>?_
   rcases aH.1 N with rfl|N
   .exact Z
   rcases h x (aI _ N)with I|I
   ·have:=Ck (hK _ Z) (h1 x N)
    rw[I,BI]at this;cases this
   exact I
def LQ{a:List AD}{k:AA}{K:List AA}(Z:∀y∈K,klt k y=true)(h:∀e∈a,e.1∈K):AH a k=none:=
 JA λe I N=>by have:=Z _ (h e I);rw[N,BI]at this;cases this
def UL{a:List AD}{k:AA}{K:List AA}(N:∀y∈K,klt k y=true)(h:∀e∈a,e.1∈K):∀e∈a.head?,klt k e.1=true:=λe I=>N _ (h e (List.mem_of_mem_head? I))
def LF{α β:Type}{f g:α->Option β}:∀{l:List α},(∀x∈l,f x=g x)->l.filterMap f=l.filterMap g
 |[],_=>rfl
 |x::l,h=>by rw[bV,bV,h x aD,LF λy I=>h y (aI _ I)]
def I6:∀{K:List AA} {a b:List AD},K.Pairwise (λx y=>klt x y=true)->Sorted a->Sorted b->(∀e∈a,e.1∈K)->(∀e∈b,e.1∈K)->chg a b=K.filterMap (Cz a b)
 | [],a,b,_,_,_,ha,hb=>by
   have e1:a=[]:=List.eq_nil_iff_forall_not_mem.2 λx Z=>by cases ha x Z
   have e2:b=[]:=List.eq_nil_iff_forall_not_mem.2 λx Z=>by cases hb x Z
   subst e1 e2;rw[Ii];rfl
 | k :: K,a,b,hK,sa,sb,ha,hb=>by
   obtain⟨hk,a0⟩:=aZ.1 hK;have a4:∀x∈K,k≠x:=λx Z e=>by have:=hk x Z;rw[e,BI]at this;cases this
   have hg:∀(v:Val) (l:List AD) x,x∈K->AH ((k,v)::l) x=AH l x:=λv l x Z=>by simp[AH,a4 x Z]
   have a2:∀(v:Val) (l:List AD),AH ((k,v)::l) k=some v:=λv l=>by simp[AH]
   rcases Nq sa hk (λe he=>aH.1 (ha e he))with⟨v,a',rfl,a3,N⟩|N
   ·rcases Nq sb hk (fun e he=>aH.1 (hb e he)) with ⟨u,b',rfl,a1,I⟩ | I
    ·rw [Mg (e:=(k,v)) (f:=(k,u)) rfl,I6 a0 a3 a1 N I,bV,show K.filterMap (Cz ((k,v) :: a') ((k,u) :: b'))=K.filterMap (Cz a' b') from LF fun x Z=>by simp [Cz,hg _ _ x Z]]
     unfold E8;simp only[Cz,a2,Option.isSome_some,ne_eq,not_true,false_or,Option.getD_some];by_cases hc:AW v u=0
     .simp [hc]
     simp[hc]
    rw[Vb (UL hk I),I6 a0 a3 sb N I,bV,show K.filterMap (Cz ((k,v)::a') b)=K.filterMap (Cz a' b)from LF λx Z=>by simp[Cz,hg _ _ x Z]];simp[Cz,a2,LQ hk I,Em]
   rcases Nq sb hk (λe he=>aH.1 (hb e he))with⟨u,b',rfl,a1,I⟩|I
   ·rw [Re (UL hk N),I6 a0 sa a1 N I,bV,show K.filterMap (Cz a ((k,u) :: b'))=K.filterMap (Cz a b') from LF fun x Z=>by simp [Cz,hg _ _ x Z]]
    simp[Cz,a2,LQ hk N,FL]
   rw[I6 a0 sa sb N I,bV];simp[Cz,LQ hk N,LQ hk I,FA]
def PP{es:List AD}{k:AA}{v:Val}{x:AA}(h:x=k\/x∈es.map Prod.fst):x∈(AU es k v).map Prod.fst:=by
 induction es with
 |nil=>simpa[AU]using h
 | cons e es ih=>
   unfold AU;split
   ·rcases h with h | h
    .exact aI _ (ih (.inl h))
    rcases aH.1 h with h|h
    .rw [h];exact aD
    exact aI _ (ih (.inr h))
   split
   ·rename_i h2
    rcases h with h|h
    .rw [h];exact aD
    rcases aH.1 h with h|h
    .rw [h,h2];exact aD
    exact aI _ h
   rcases h with h|h
   .rw [h];exact aD
   exact aI _ h
def Js{x:AA}:∀{l es:List AD},(x∈es.map Prod.fst\/x∈l.map Prod.fst)->x∈(A0 es l).map Prod.fst
 | [],es,h=>by
   rcases h with h|h
   .exact h
   cases h
 | e :: l,es,h=>by
   refine Js (l:=l) (es:=AU es e.1 e.2) ?_;rcases h with h|h
   .exact .inl (PP (.inr h))
   rcases aH.1 h with h|h
   .exact .inl (PP (.inl h))
   exact .inr h
def IM:∀{l es:List AD},Sorted es->Sorted (A0 es l)
 |[],_,h=>h
 |e::l,_,h=>IM (l:=l) (EU h _ _)
def V6{a b:List AD}(ha:Sorted a)(Z:Sorted b):chg a b=I8 a b:=by
 have hs:Sorted (A0 (A0 [] (CK a)) (CK b)):=IM (IM List.Pairwise.nil);have N:∀(l:List AD) e,e∈l->e.1∈(CK l).map Prod.fst:=λl e I=>by
  rw[CK,ct];exact bX.2 ⟨e,I,rfl⟩
 exact I6 (bO.2 hs) ha Z (λe I=>Js (.inl (Js (.inr (N a e I))))) (λe I=>Js (.inr (N b e I)))
abbrev AN:=(h:Nat) × PT h
def AN.es(a:AN):List AD:=ents a.1 a.2
def AN.at_(a:AN):Nat:=addr a.1 a.2
def AN.ok(a:AN):Prop:=Aj a.1 a.2/\1<=size a.1 a.2
def D7(ns:List AN):List AD:=ns.reverse.flatMap AN.es
def CQ(h:Nat)(t:PT (h+1)):List AN:=t.2.map (Sigma.mk h)
def RA(I:List AN)(a:AN):D7 (I++[a])=a.es++D7 I:=by simp[D7]
def nZ(I:List AN)(h:Nat)(t:PT (h+1)):D7 (I++(CQ h t).reverse)=ents (h+1) t++D7 I:=by
 simp only[D7,List.reverse_append,List.reverse_reverse,List.flatMap_append,CQ,List.flatMap_map];rfl
def Bz:(h:Nat)->PT h->Nat
 |0,_=>1
 |h+1,t=>1+(t.2.map (Bz h)).sum
def MA:∀(h:Nat) (t:PT h),1<=Bz h t
 |0,_=>ao _
 |h+1,t=>by simp[Bz]
def wtA(a:AN):Nat:=Bz a.1 a.2+a.es.length
structure AI where
 es:List AD
 ns:List AN
 o:Nat
def AI.cont(x:AI):List AD:=x.es++D7 x.ns
def AI.wt(x:AI):Nat:=x.es.length+(x.ns.map wtA).sum
def AI.ok(x:AI):Prop:=∀a∈x.ns,a.ok
def AI.node(x:AI):Option AN:=if x.es=[]then x.ns.getLast? else none
def AI.gone(x:AI):Prop:=x.es=[]/\x.ns=[]
def AI.height(x:AI):Int:=if x.es=[]then(match x.ns.getLast? with|some a=>(a.1:Int)|none=>0)else -1
def AI.first(x:AI):AA:=match x.es with|e::_=>e.1 | []=>(match x.ns.getLast? with|some a=>Az a.es|none=>ByteArray.empty)
def AI.last(x:AI):AA:=match x.es with|e::_=>e.1 | []=>(match x.ns.getLast? with|some a=>BZ a.es|none=>ByteArray.empty)
def AI.skip(x:AI):AI:=⟨x.es,x.ns.dropLast,x.o⟩
def AI.take(x:AI):AI:=⟨x.es.tail,x.ns,x.o⟩
def AI.open_(x:AI):AI:=match x.ns.getLast? with
 |none=>x
 |some ⟨0,t⟩=>⟨t.2,x.ns.dropLast,x.o+1⟩
 |some ⟨h+1,t⟩=>⟨x.es,x.ns.dropLast++(CQ h t).reverse,x.o+1⟩
def AI.head(x:AI):AD:=x.es.headD (ByteArray.empty,zeroV)
def R5{α:Type}{l:List α}{a:α}(h:l.getLast? = some a):l=l.dropLast++[a]:=by
 obtain⟨ys,rfl⟩:=List.getLast?_eq_some_iff.1 h;simp
def AI.DV{x:AI}{a:AN}(h:x.node=some a):x.es=[]/\x.ns=x.ns.dropLast++[a]/\x.ns.getLast? = some a:=by
 unfold AI.node at h;split at h
 .exact ⟨‹_›,R5 h,h⟩
 cases h
def AI.ny{x:AI}(h:x.node=none)(I:¬x.gone):∃e es,x.es=e::es:=by
 unfold AI.node at h;split at h
 .exact absurd ⟨‹_›,cZ.1 h⟩ I
 exact List.exists_cons_of_ne_nil ‹_›
def AI.J0{x:AI}{a:AN}(h:x.node=some a):x.height=a.1:=by
 obtain⟨h1,-,h2⟩:=x.DV h;simp[AI.height,h1,h2]
def AI.JV{x:AI}{es:List AD}(h:x.es=e::es):x.height = -1:=by simp[AI.height,h]
def nN{es:List AD}(h:es≠[]):∃e l,es=e::l/\Az es=e.1:=by
 obtain⟨e,l,rfl⟩:=List.exists_cons_of_ne_nil h;exact⟨e,l,rfl,rfl⟩
def AN.ne{a:AN}(h:a.ok):a.es≠[]:=λe=>by
 have:=ER a.1 a.2 h.1 h.2;have e:ents a.1 a.2=[]:=e;rw[e]at this;cases this
def AI.Vi{x:AI}(ok:x.ok)(hn:¬x.gone):∃e l,x.cont=e::l/\x.first=e.1:=by
 obtain⟨es,N,o⟩:=x;cases es with
 |cons e l=>exact⟨e,l++D7 N,rfl,rfl⟩
 | nil=>
   cases I:N.getLast? with
   |none=>exact absurd ⟨rfl,cZ.1 I⟩ hn
   | some a=>
     have Z:=R5 I;obtain⟨e,l,e2,e3⟩:=nN (AN.ne (ok a (bR I)));refine⟨e,l++D7 N.dropLast,?_,?_⟩
     ·show []++D7 N=_
      rw[aG,Z,RA,e2];simp
     simp[AI.first,I,e3]
def AI.IE{x:AI}{es:List AD}(h:x.es=e::es):x.cont=e::x.take.cont/\x.first=e.1/\x.last=e.1/\x.head=e:=by
 obtain⟨l,I,o⟩:=x;dsimp only at h;subst h;exact⟨rfl,rfl,rfl,rfl⟩
def AI.Jh{x:AI}(h:x.gone):x.cont=[]:=by
 obtain⟨es,I,o⟩:=x;obtain⟨rfl,rfl⟩:es=[]/\I=[]:=h;rfl
def AI.Jv{x:AI}{a:AN}(h:x.node=some a):x.open_.cont=x.cont/\x.cont=a.es++x.skip.cont:=by
 obtain⟨h1,h2,N⟩:=x.DV h;obtain⟨es,I,o⟩:=x;dsimp only at h1 h2 N;subst h1;have Z:(AI.mk [] I o).cont=a.es++(AI.mk [] I o).skip.cont:=by
  show[]++D7 I=a.es++([]++D7 I.dropLast);rw[aG,aG]
  conv=>lhs;rw[h2]
  exact RA _ _
 refine⟨?_,Z⟩;rw[Z];obtain⟨n,t⟩:=a;cases n with
 |zero=>simp only[AI.open_,N];rfl
 | succ n=>
   simp only[AI.open_,N];show[]++D7 _=_;rw[aG,nZ];rfl
def lI{I:List AN}{a:AN}(h:I=I.dropLast++[a]):(I.map wtA).sum=(I.dropLast.map wtA).sum+wtA a:=by
 conv=>lhs;rw[h]
 simp
def jy(l:List (PT h)):((l.map (Sigma.mk h)).map wtA).sum=(l.map (Bz h)).sum+(l.flatMap (ents h)).length:=by
 induction l with
 |nil=>rfl
 | cons t l ih=>
   simp only[List.map_cons,List.sum_cons,List.flatMap_cons,List.length_append,ih];show Bz h t+(ents h t).length+_=_;omega
def AI.LR{x:AI}{a:AN}(h:x.node=some a):x.open_.wt<x.wt/\x.skip.wt<x.wt:=by
 obtain⟨h1,h2,I⟩:=x.DV h;obtain⟨es,ns,o⟩:=x;dsimp only at h1 h2 I;subst h1;have hs:=lI h2;have Z:1<=wtA a:=by have:=MA a.1 a.2;unfold wtA;omega
 refine⟨?_,?_⟩
 ·obtain ⟨n,t⟩:=a
  cases n with
  | zero=>
    simp only[AI.open_,I];have:wtA ⟨0,t⟩=1+t.2.length:=rfl;simp only[AI.wt,List.length_nil];omega
  | succ n=>
    simp only[AI.open_,I];have e1:wtA ⟨n+1,t⟩=1+(t.2.map (Bz n)).sum+(t.2.flatMap (ents n)).length:=rfl;have N:((CQ n t).reverse.map wtA).sum=(t.2.map (Bz n)).sum+(t.2.flatMap (ents n)).length:=by
     rw[List.map_reverse,List.sum_reverse];exact jy t.2
    simp only[AI.wt,List.length_nil,List.map_append,List.sum_append,N];omega
 simp only[AI.wt,AI.skip,List.length_nil];omega
def AI.J2{x:AI}{es:List AD}(h:x.es=e::es):x.take.wt<x.wt:=by
 simp[AI.wt,AI.take,h]
def AI.UQ{x:AI}(ok:x.ok):x.skip.ok:=λa I=>ok a (dq _ I)
def AI.Jq{x:AI}(ok:x.ok):x.take.ok:=ok
def AI.Og{x:AI}(ok:x.ok):x.open_.ok:=by
 unfold AI.open_;split
 .exact ok
 .exact λa I=>ok a (dq _ I)
 rename_i h t hg;intro a I;rcases aL.1 I with I|I
 .exact ok a (dq _ I)
 obtain⟨k,N,rfl⟩:=bX.1 (List.mem_reverse.1 I);have h1:=(ok _ (bR hg)).1.2.2 k N;exact⟨h1.1,an oN h1.2⟩
def qR(x y:AI):Prop:=∃a b,x.node=some a/\y.node=some b/\a.at_=b.at_
inductive Step:AI->AI->AI->AI->List Bv->Prop
 |skip {x y:AI} {a:AN} (hx:x.node=some a) (hy:y.node=some a):Step x y x.skip y.skip []
 |openX {x y:AI} {a:AN} (hx:x.node=some a) (hne:¬qR x y) (hc:y.gone\/klt x.last y.first=true\/(klt x.last y.first=false/\klt y.last x.first=false/\¬y.gone/\y.height<a.1)):Step x y x.open_ y []
 |openY {x y:AI} {b:AN} (hy:y.node=some b) (hne:¬qR x y) (hc:x.gone\/klt y.last x.first=true\/(klt x.last y.first=false/\klt y.last x.first=false/\¬x.gone/\x.height<=b.1)):Step x y x y.open_ []
 |gone {x y:AI} {e:AD} {es:List AD} (hx:x.es=e::es) (hc:y.gone\/(¬y.gone/\klt e.1 y.first=true)):Step x y x.take y [Em e]
 |come {x y:AI} {f:AD} {fs:List AD} (hy:y.es=f::fs) (hc:x.gone\/(¬x.gone/\klt f.1 x.first=true)):Step x y x y.take [FL f]
 |both {x y:AI} {e f:AD} {es fs:List AD} (hx:x.es=e::es) (hy:y.es=f::fs) (hk:e.1=f.1):Step x y x.take y.take (E8 e f)
def Step.wt{x y I N:AI}{l:List Bv}(h:Step x y I N l):I.wt+N.wt<x.wt+y.wt:=by
 cases h with
 |skip hx hy=>have:=(x.LR hx).2;have:=(y.LR hy).2;omega
 |openX hx=>have:=(x.LR hx).1;omega
 |openY hy=>have:=(y.LR hy).1;omega
 |gone hx=>have:=x.J2 hx;omega
 |come hy=>have:=y.J2 hy;omega
 |both hx hy=>have:=x.J2 hx;have:=y.J2 hy;omega
def Step.ok{x y Z y':AI}{l:List Bv}(h:Step x y Z y' l)(I:x.ok)(N:y.ok):Z.ok/\y'.ok:=by
 cases h with
 |skip=>exact⟨AI.UQ I,AI.UQ N⟩
 |openX=>exact⟨AI.Og I,N⟩
 |openY=>exact⟨I,AI.Og N⟩
 |gone=>exact⟨AI.Jq I,N⟩
 |come=>exact⟨I,AI.Jq N⟩
 |both=>exact⟨AI.Jq I,AI.Jq N⟩
def Step.chg{x y x' y':AI}{l:List Bv}(h:Step x y x' y' l)(hx:x.ok)(hy:y.ok):Proofs.YtahhllcdbjbpbaaGreatDoor.chg x.cont y.cont=l++Proofs.YtahhllcdbjbpbaaGreatDoor.chg x'.cont y'.cont:=by
 cases h with
 |skip h1 h2=>rw[(x.Jv h1).2,(y.Jv h2).2,MM,aG]
 |openX h1=>rw[(x.Jv h1).1,aG]
 |openY h1=>rw[(y.Jv h1).1,aG]
 | gone h1 I=>
   obtain⟨e1,e2,-,-⟩:=x.IE h1;rw[e1,dR];refine Vb λf N=>?_
   rcases I with I |⟨I,Z⟩
   .rw [y.Jh I]at N;cases N
   obtain⟨g,l,e3,e4⟩:=y.Vi hy I;rw[e3]at N;obtain rfl:g=f:=by simpa using N
   rw[<-e4];exact Z
 | come h1 I=>
   obtain⟨e1,e2,-,-⟩:=y.IE h1;rw[e1,dR];refine Re λf N=>?_
   rcases I with I |⟨I,Z⟩
   .rw [x.Jh I]at N;cases N
   obtain⟨g,l,e3,e4⟩:=x.Vi hx I;rw[e3]at N;obtain rfl:g=f:=by simpa using N
   rw[<-e4];exact Z
 |both h1 h2 Z=>rw[(x.IE h1).1,(y.IE h2).1,Mg Z]
inductive Cg (x0 y0:AI):AI->AI->List Bv->Prop
 |start:Cg x0 y0 x0 y0 []
 |step {x y x' y':AI} {l m:List Bv} (h:Cg x0 y0 x y l) (hs:Step x y x' y' m):Cg x0 y0 x' y' (l++m)
def Cg.ok{N I x y:AI}{l:List Bv}(h:Cg N I x y l)(Z:N.ok)(hy:I.ok):x.ok/\y.ok:=by
 induction h with
 |start=>exact⟨Z,hy⟩
 |step _ hs ih=>exact hs.ok ih.1 ih.2
def Cg.chg{N I x y:AI}{l:List Bv}(h:Cg N I x y l)(Z:N.ok)(hy:I.ok):Proofs.YtahhllcdbjbpbaaGreatDoor.chg N.cont I.cont=l++Proofs.YtahhllcdbjbpbaaGreatDoor.chg x.cont y.cont:=by
 induction h with
 |start=>rfl
 |step hr hs ih=>rw[ih,hs.chg (hr.ok Z hy).1 (hr.ok Z hy).2,aU]
def Cg.done{N I x y:AI}{l:List Bv}(h:Cg N I x y l)(hx:N.ok)(Z:I.ok)(gx:x.gone)(gy:y.gone):Proofs.YtahhllcdbjbpbaaGreatDoor.chg N.cont I.cont=l:=by
 rw[h.chg hx Z,x.Jh gx,y.Jh gy,Sv,aY]
def CF(ns:List AN):Nat:=(ns.map λa=>Bz a.1 a.2).sum
def AI.tot(x:AI):Nat:=x.o+CF x.ns
def NX(I:List AN)(a:AN):CF (I++[a])=CF I+Bz a.1 a.2:=by simp[CF]
def Y2(I:List AN)(h:Nat)(t:PT (h+1)):CF (I++(CQ h t).reverse)=CF I+(t.2.map (Bz h)).sum:=by
 simp only[CF,List.map_append,List.sum_append,List.map_reverse,List.sum_reverse,CQ,List.map_map];rfl
def ng(I:List AN):I.length<=CF I:=by
 induction I with
 |nil=>exact ao _
 | cons a I ih=>
   have:=MA a.1 a.2;simp only[CF,List.map_cons,List.sum_cons,List.length_cons]at *;omega
def AI.LG{x:AI}{a:AN}(h:x.node=some a):x.open_.tot=x.tot/\x.skip.tot+1<=x.tot:=by
 obtain⟨h1,h2,I⟩:=x.DV h;have e:CF x.ns=CF x.ns.dropLast+Bz a.1 a.2:=by
  conv=>lhs;rw[h2]
  exact NX _ _
 have:=MA a.1 a.2;refine⟨?_,by simp only[AI.tot,AI.skip];omega⟩;obtain⟨n,t⟩:=a;cases n with
 | zero=>
   simp only[AI.open_,I,AI.tot];have N:Bz 0 t=1:=rfl;dsimp only at e;omega
 | succ n=>
   simp only[AI.open_,I,AI.tot,Y2];have N:Bz (n+1) t=1+(t.2.map (Bz n)).sum:=rfl;dsimp only at e;omega
def Ic:∀(es:List AD) (k:AA) (v:Val) (x:AA),AH (AU es k v) x=if x=k then some v else AH es x
 | [],k,v,x=>by
   simp only[AU,AH];by_cases h:x=k
   .rw [eN h.symm,eN h]
   rw[eL (λe=>h e.symm),eL h]
 | e :: es,k,v,x=>by
   by_cases h1:klt e.1 k=true
   ·rw [AU,eN h1,AH,AH,Ic es k v x]
    by_cases h:x=k
    ·have:e.1≠x:=fun h2=>by rw [h2,h,BI] at h1;cases h1
     rw[eL this,eN h,eN h]
    rw[eL h,eL h]
   rw[AU,eL h1];by_cases h2:e.1=k
   ·rw [eN h2,AH,AH,h2]
    by_cases h:x=k
    .rw [eN h.symm,eN h]
    rw[eL (λe=>h e.symm),eL h,eL (λe=>h e.symm)]
   rw[eL h2,AH];by_cases h:x=k
   .rw [eN h.symm,eN h]
   rw[eL (λe=>h e.symm),eL h]
def Fw:∀(es:List AD) (k:AA) (x:AA),Sorted es->AH (Ac es k) x=if x=k then none else AH es x
 |[],k,x,_=>by simp[Ac,AH]
 | e :: es,k,x,hs=>by
   obtain⟨h1,h2⟩:=aZ.1 hs;by_cases Z:klt e.1 k=true
   ·rw [Ac,eN Z,AH,AH,Fw es k x h2]
    by_cases h:x=k
    ·have:e.1≠x:=fun h2=>by rw [h2,h,BI] at Z;cases Z
     rw[eL this,eN h,eN h]
    rw[eL h,eL h]
   rw[Ac,eL Z];by_cases N:e.1=k
   ·rw [eN N,AH,N]
    by_cases h:x=k
    ·rw [eN h]
     exact JA λf I e2=>by have:=h1 f I;rw[N,e2,h,BI]at this;cases this
    rw[eL h,eL (λe=>h e.symm)]
   rw[eL N];by_cases h:x=k
   ·rw [eN h]
    refine JA λf I e2=>?_
    rcases aH.1 I with rfl|I
    .exact N (e2.trans h)
    have:=h1 f I;rw[e2,h]at this;exact Z this
   rw[eL h]
def Le:Option Val->Option Val->Bool
 |none,none=>true
 |some v,some u=>decide (AW v u=0)
 |_,_=>false
def Sf(o:Option Val):Le o o=true:=by cases o<;>simp[Le,FA]
open Go.Maps
abbrev eM:=@decide_eq_false
abbrev eO:=@decide_eq_true
section
variable{α : Type}
abbrev AL(α:Type):=List (AA × α)
def Bd(C:AL α):Prop:=C.Pairwise λa b=>klt a.1 b.1=true
def AQ:AL α->AA->Option α
 |[],_=>none
 |e::r,k=>if e.1=k then some e.2 else AQ r k
def BG:AL α->AA->α->AL α
 |[],k,v=>[(k,v)]
 |e::r,k,v=>if klt e.1 k then e::BG r k v else if e.1=k then(k,v)::r else(k,v)::e::r
def DF(C:AL α)(k:AA):AL α:=C.filter λp=>!decide (p.1=k)
def Lx{C:AL α}{k:AA}(h:∀e∈C,e.1≠k):AQ C k=none:=by
 induction C with
 |nil=>rfl
 |cons e r ih=>rw[AQ,eL (h e (aD ..)),ih λf I=>h f (aI _ I)]
def LV{C:AL α}{k:AA}{s:α}(h:AQ C k=some s):(k,s)∈C:=by
 induction C with
 |nil=>cases h
 | cons e r ih=>
   rw[AQ]at h;by_cases I:e.1=k
   ·rw [eN I] at h
    injection h with h;subst I h;exact aD ..
   rw[eL I]at h;exact aI _ (ih h)
def I0{e:AA × α}{r:AL α}(h:Bd (e::r)):Bd r/\∀f∈r,klt e.1 f.1=true/\f.1≠e.1:=by
 obtain⟨h1,h2⟩:=aZ.1 h;exact⟨h2,λf I=>⟨h1 f I,λN=>by have:=h1 f I;rw[N,BI]at this;cases this⟩⟩
def Oa{C:AL α}(hs:Bd C){k:AA}{s:α}(h:(k,s)∈C):AQ C k=some s:=by
 induction C with
 |nil=>cases h
 | cons e r ih=>
   obtain⟨h2,h1⟩:=I0 hs;rw[AQ];rcases aH.1 h with rfl|h
   .rw [eN rfl]
   rw[eL (λI=>(h1 _ h).2 I.symm),ih h2 h]
def JN:∀(C:AL α) (k:AA) (v:α) (x:AA),AQ (BG C k v) x=if x=k then some v else AQ C x
 | [],k,v,x=>by
   simp only[BG,AQ];by_cases h:x=k
   .rw [eN h.symm,eN h]
   rw[eL (λe=>h e.symm),eL h]
 | e :: es,k,v,x=>by
   by_cases h1:klt e.1 k=true
   ·rw [BG,eN h1,AQ,AQ,JN es k v x]
    by_cases h:x=k
    ·have:e.1≠x:=fun h2=>by rw [h2,h,BI] at h1;cases h1
     rw[eL this,eN h,eN h]
    rw[eL h,eL h]
   rw[BG,eL h1];by_cases h2:e.1=k
   ·rw [eN h2,AQ,AQ,h2]
    by_cases h:x=k
    .rw [eN h.symm,eN h]
    rw[eL (λe=>h e.symm),eL h,eL (λe=>h e.symm)]
   rw[eL h2,AQ];by_cases h:x=k
   .rw [eN h.symm,eN h]
   rw[eL (λe=>h e.symm),eL h]
def Oj(k x:AA):∀(C:AL α),AQ (DF C k) x=if x=k then none else AQ C x
 |[]=>by simp[DF,AQ]
 | e :: r=>by
   have N:=Oj k x r;unfold DF at N ⊢;by_cases h:e.1=k
   ·rw [bC,eL (by simp [h]),N,AQ]
    by_cases I:x=k
    .rw [eN I,eN I]
    rw[eL I,eL I,eL (λZ=>I (Z.symm.trans h))]
   rw[bC,eN (by simp[h]),AQ,N,AQ];by_cases I:x=k
   .rw [eN I,eN I,eL (λZ=>h (Z.trans I))]
   rw[eL I,eL I]
def NB{C:AL α}{k:AA}{v:α}{x:AA × α}(h:x∈BG C k v):x=(k,v)\/x∈C:=by
 induction C with
 |nil=>exact .inl (by simpa[BG]using h)
 | cons e r ih=>
   rw[BG]at h;split at h
   ·rcases aH.1 h with rfl | h
    .exact .inr (aD ..)
    exact(ih h).imp id (aI _)
   split at h
   ·rcases aH.1 h with rfl | h
    .exact .inl rfl
    exact .inr (aI _ h)
   exact aH.1 h
def Gm{C:AL α}(h:Bd C)(k:AA)(v:α):Bd (BG C k v):=by
 induction C with
 |nil=>exact aZ.2 ⟨λ_ I=>(by cases I),List.Pairwise.nil⟩
 | cons e r ih=>
   obtain⟨h1,h2⟩:=aZ.1 h;rw[BG];split
   ·rename_i hk
    refine aZ.2 ⟨λx I=>?_,ih h2⟩;rcases NB I with rfl|I
    .exact hk
    exact h1 x I
   rename_i hk;split
   ·rename_i he
    exact aZ.2 ⟨λx I=>by rw[<-he];exact h1 x I,h2⟩
   rename_i he;have N:klt k e.1=true:=Ie (by simpa using hk) he;refine aZ.2 ⟨λx I=>?_,h⟩;rcases aH.1 I with rfl|I
   .exact N
   exact Ck N (h1 x I)
def Vm{C:AL α}(h:Bd C)(k:AA):Bd (DF C k):=h.sublist (cQ ..)
def Nz:∀{a b:AL α},Bd a->Bd b->(∀k,AQ a k=AQ b k)->a=b
 |[],[],_,_,_=>rfl
 |[],f::b,_,_,h=>by have:=h f.1;simp[AQ]at this
 |e::a,[],_,_,h=>by have:=h e.1;simp[AQ]at this
 | e :: a,f :: b,ha,hb,h=>by
   obtain⟨a2,a1⟩:=I0 ha;obtain⟨b2,b1⟩:=I0 hb;have hk:e.1=f.1:=by
    refine E6 ?_ ?_
    ·cases Z:klt e.1 f.1 with
     |false=>rfl
     | true=>
       have h1:=h e.1;rw[AQ,eN rfl,Lx (C:=f::b) (λg I N=>by
        rcases aH.1 I with rfl|I
        .rw [N,BI]at Z;cases Z
        have:=Ck Z (b1 g I).1;rw[N,BI]at this;cases this)]at h1
       cases h1
    cases Z:klt f.1 e.1 with
    |false=>rfl
    | true=>
      have h1:=h f.1;rw[Lx (C:=e::a) (k:=f.1) (λg I N=>by
       rcases aH.1 I with rfl|I
       .rw [N,BI]at Z;cases Z
       have:=Ck Z (a1 g I).1;rw[N,BI]at this;cases this),AQ,eN rfl]at h1
      cases h1
   have h0:=h e.1;rw[AQ,eN rfl,AQ,eN hk.symm]at h0;injection h0 with h0;have he:e=f:=eJ hk h0;subst he;rw[Nz a2 b2 λk=>?_];by_cases hx:e.1=k
   .rw [Lx λg I N=>(a1 g I).2 (N.trans hx.symm),Lx λg I N=>(b1 g I).2 (N.trans hx.symm)]
   have:=h k;rwa[AQ,eL hx,AQ,eL hx]at this
def Vr{C:AL α}(h:Bd C){k:AA}{s I:α}(Z:AQ C k=some I):BG (BG C k s) k I=C:=
 Nz (Gm (Gm h k s) k I) h λx=>by
  rw[JN,JN];by_cases N:x=k
  .rw [eN N,N,Z]
  rw[eL N,eL N]
def jQ{C:AL α}(h:Bd C){k:AA}{s:α}(N:AQ C k=none):DF (BG C k s) k=C:=
 Nz (Vm (Gm h k s) k) h λx=>by
  rw[Oj,JN];by_cases I:x=k
  .rw [eN I,I,N]
  rw[eL I,eL I]
def XU{C:AL α}{k:AA}{v:α}:(BG C k v).length<=C.length+1:=by
 induction C with
 |nil=>simp[BG]
 | cons e r ih=>
   rw[BG];split
   .simp only[List.length_cons];omega
   split<;>simp only[List.length_cons]<;>omega
end
section
variable{α : Type}(f : α -> Value)
abbrev B1(k:AA):Lit:=.string k.data.toList
abbrev Fu(p:AA × α):Lit × DataW Value:=(B1 p.1,.held (f p.2))
def mapA(C:AL α):DataW Value:=.map (C.map (Fu f))
def Dx(v:Value):Option (DataW Value × List MemPlace):=some (.held v,[])
def Ln{v u:Value}{ps:List MemPlace}(h:Dx v=some (.held u,ps)):v=u:=by
 injection h with h;injection h with h;injection h
def TZ:∀a b:List UInt8,bytesBefore a b=Op.bytesLess a b
 |[],[]=>rfl
 |[],_::_=>rfl
 |_::_,[]=>rfl
 |a::x,b::y=>by rw[bytesBefore,Op.bytesLess,TZ x y]
def Sa(a b:AA):(B1 a).before (B1 b)=klt a b:=by
 show bytesBefore _ _=Op.bytesLess _ _;rw[TZ,eY,eY]
def Lk(a b:AA):(B1 a).sameKey (B1 b)=decide (a=b):=by
 show(a.data.toList==b.data.toList)=_;rw[<-eY,<-eY];exact beq_toList a b
def VO(C:AL α)(k:AA):Maps.has (mapA f C) (B1 k)=(AQ C k).isSome:=by
 show List.any (List.map _ C) _=_
 induction C with
 |nil=>rfl
 | cons e r ih=>
   rw[aW,List.any_cons,ih,AQ];show((B1 e.1).sameKey (B1 k)||_)=_;rw[Lk];by_cases h:e.1=k
   .rw [eN h,eO h];rfl
   rw[eL h,eM h];rfl
def IU(C:AL α)(k:AA)(zd:DataW Value):(mapA f C).atKey (B1 k) zd=match AQ C k with
  |some s=>.held (f s)
  |none=>zd:=by
 unfold mapA;simp only[DataW.atKey]
 induction C with
 |nil=>rfl
 | cons e r ih=>
   rw[aW,List.find?_cons,AQ];by_cases h:e.1=k
   .rw [eN h,show(B1 e.1).sameKey (B1 k)=true by rw[Lk,eO h]]
   rw[eL h,show(B1 e.1).sameKey (B1 k)=false by rw[Lk,eM h]];exact ih
def RD(C:AL α):Maps.size (mapA f C)=C.length:=by
 show List.length (List.map _ C)=_;rw[aq]
def MF(k:AA):∀C:AL α,(C.map (Fu f)).filter (λp=>!p.1.sameKey (B1 k))=(DF C k).map (Fu f)
 |[]=>rfl
 | e :: r=>by
   have I:=MF k r;unfold DF at I ⊢;rw[aW,bC,bC,I];show(if(!(B1 e.1).sameKey (B1 k))=true then _ else _)=_;rw[Lk];split<;>rfl
def XY(C:AL α)(k:AA):(mapA f C).del (B1 k)=mapA f (DF C k):=by
 show DataW.map (List.filter _ (List.map _ C))=_;rw[MF];rfl
def Ui(k:AA)(s:α):∀C:AL α,Bd C->DataW.insert (B1 k,(DataW.held (f s):DataW Value)) ((DF C k).map (Fu f))=(BG C k s).map (Fu f)
 |[],_=>rfl
 | e :: r,h=>by
   obtain⟨h2,h1⟩:=I0 h;have ih:=Ui k s r h2;have N:∀x:AA,(∀g∈r,g.1≠x)->DF r x=r:=λx hx=>List.filter_eq_self.2 λg Z=>by simp[hx g Z]
   have I:∀(g:AA × α) (t:AL α),klt k g.1=true->DataW.insert (B1 k,(DataW.held (f s):DataW Value)) ((g::t).map (Fu f))=(((k,s)::g::t).map (Fu f)):=λg t Z=>by
    rw[aW,DataW.insert,eN (by show(B1 k).before (B1 g.1)=true;rw[Sa,Z])];rfl
   rw[BG];by_cases hk:klt e.1 k=true
   ·have a1:e.1≠k:=fun e2=>by rw [e2,BI] at hk;cases hk
    rw[eN hk,show DF (e::r) k=e::DF r k by unfold DF;rw[bC,eN (by simp[a1])],aW,DataW.insert,eL (by show ¬(B1 k).before (B1 e.1)=true;rw[Sa,Ej hk];simp),ih];rfl
   rw[eL hk];by_cases he:e.1=k
   ·rw [eN he,show DF (e :: r) k=r by
     rw[<-he];show List.filter _ _=_;rw[bC,eL oO];exact N e.1 λg Z=>(h1 g Z).2]
    cases r with
    |nil=>rfl
    |cons g t=>exact I g t (by rw[<-he];exact(h1 g (aD ..)).1)
   have a0:klt k e.1=true:=Ie (by simpa using hk) he;rw[eL he,show DF (e::r) k=e::r by
    show List.filter _ _=_;rw[bC,eN (by simp[he])];exact congrArg (e :: ·) (N k λg Z e2=>by have:=Ck a0 (h1 g Z).1;rw[e2,BI]at this;cases this)]
   exact I e r a0
def pO{C:AL α}(h:Bd C)(k:AA)(s:α):(mapA f C).put (B1 k) (.held (f s))=mapA f (BG C k s):=by
 show DataW.map (DataW.insert _ (List.filter _ (List.map _ C)))=_;rw[MF,Ui f k s C h];rfl
end
abbrev Slots:=AL (Option Val)
def DX(B:List AD)(C:Slots)(k:AA):Option Val:=match AQ C k with
 |some s=>s
 |none=>AH B k
def B4(B:List AD):Slots->List AD->List AD
 |[],t=>t
 |(k,some v)::r,t=>B4 B r (if(AH B k).any (λwas=>decide (AW was v=0))then t else AU t k v)
 |(k,none)::r,t=>B4 B r (if(AH B k).isSome then Ac t k else t)
def JF(B:List AD):∀(C:Slots) (t:List AD),Sorted t->Sorted (B4 B C t)
 |[],t,h=>h
 | (k,some v) :: r,t,h=>by
   rw[B4];split
   .exact JF B r t h
   exact JF B r _ (EU h k v)
 | (k,none) :: r,t,h=>by
   rw[B4];split
   .exact JF B r _ (EI h k)
   exact JF B r t h
def FR(B:List AD){k:AA}:∀(C:Slots) (t:List AD),Sorted t->(∀e∈C,e.1≠k)->AH (B4 B C t) k=AH t k
 |[],t,_,_=>rfl
 | (k',some v) :: r,t,h,hk=>by
   rw[B4];have h1:k'≠k:=hk _ (aD ..);have h2:=λf I=>hk f (aI _ I)
   split
   .exact FR B r t h h2
   rw[FR B r _ (EU h k' v) h2,Ic,eL (λe=>h1 e.symm)]
 | (k',none) :: r,t,h,hk=>by
   rw[B4];have h1:k'≠k:=hk _ (aD ..);have h2:=λf I=>hk f (aI _ I)
   split
   .rw [FR B r _ (EI h k') h2,Fw _ _ _ h,eL (λe=>h1 e.symm)]
   exact FR B r t h h2
def IY(B:List AD){k:AA}:∀(C:Slots) (t:List AD),Bd C->Sorted t->AH t k=AH B k->Le (AH (B4 B C t) k) (DX B C k)=true
 |[],t,_,_,h=>by rw[B4,DX,AQ,h];exact Sf _
 | (k',s) :: r,t,hs,ht,h=>by
   obtain⟨h2,a1⟩:=I0 hs;have Z:=λf hm=>(a1 f hm).2
   by_cases hk:k'=k
   ·subst hk
    have hn:DX B ((k',s)::r) k'=s:=by rw[DX,AQ,eN rfl]
    rw[hn];cases s with
    | some v=>
      rw[B4];split
      ·rename_i I
       rw[FR B r t ht Z,h];cases N:AH B k' with
       |none=>rw[N]at I;cases I
       |some b=>rw[N]at I;exact I
      rw[FR B r _ (EU ht k' v) Z,Ic,eN rfl];exact Sf _
    | none=>
      rw[B4];split
      .rw [FR B r _ (EI ht k') Z,Fw _ _ _ ht,eN rfl];rfl
      rename_i N;rw[FR B r t ht Z,h];cases a0:AH B k' with
      |none=>rfl
      |some b=>rw[a0]at N;exact absurd rfl N
   have hn:DX B ((k',s)::r) k=DX B r k:=by rw[DX,DX,AQ,eL hk]
   rw[hn];cases s with
   | some v=>
     rw[B4];split
     .exact IY B r t h2 ht h
     exact IY B r _ h2 (EU ht k' v) (by rw[Ic,eL (λe=>hk e.symm),h])
   | none=>
     rw[B4];split
     .exact IY B r _ h2 (EI ht k') (by rw[Fw _ _ _ ht,eL (λe=>hk e.symm),h])
     exact IY B r t h2 ht h
def idleC(B:List AD)(C:Slots):Prop:=∀k s,AQ C k=some s->match s with
 |some v=>(AH B k).any (λwas=>decide (AW was v=0))=true
 |none=>AH B k=none
def EE(P:AA->Bool)(M:List AD):List AA:=(M.filter λe=>P e.1).map Prod.fst
def Mw:∀{a b:List AA},a.Pairwise (λx y=>klt x y=true)->b.Pairwise (λx y=>klt x y=true)->(∀k,k∈a↔k∈b)->a=b
 |[],[],_,_,_=>rfl
 |[],y::b,_,_,h=>by have:=(h y).2 (aD ..);cases this
 |x::a,[],_,_,h=>by have:=(h x).1 (aD ..);cases this
 | x :: a,y :: b,ha,hb,h=>by
   obtain⟨a1,a2⟩:=aZ.1 ha;obtain⟨b1,b2⟩:=aZ.1 hb;have Z:x=y:=by
    rcases aH.1 ((h x).1 (aD ..))with e|e
    .exact e
    rcases aH.1 ((h y).2 (aD ..))with N|N
    .exact N.symm
    have h1:=b1 x e;have h2:=a1 y N;rw[Ej h1]at h2;cases h2
   subst Z;rw[Mw a2 b2 λk=>⟨λI=>?_,λI=>?_⟩]
   ·rcases aH.1 ((h k).1 (aI _ I)) with e | e
    .have:=a1 k I;rw[e,BI]at this;cases this
    exact e
   rcases aH.1 ((h k).2 (aI _ I))with e|e
   .have:=b1 k I;rw[e,BI]at this;cases this
   exact e
def L4{B:List AD}(hs:Sorted B)(h:e∈B):AH B e.1=some e.2:=by
 induction B with
 |nil=>cases h
 | cons f r ih=>
   obtain⟨h1,h2⟩:=aZ.1 hs;rw[AH];rcases aH.1 h with rfl|h
   .rw [eN rfl]
   have:=h1 _ h;rw[eL (λI=>by rw[I,BI]at this;cases this),ih h2 h]
def IJ{B:List AD}{k:AA}{v:Val}(h:AH B k=some v):(k,v)∈B:=by
 induction B with
 |nil=>cases h
 | cons e r ih=>
   rw[AH]at h;by_cases I:e.1=k
   ·rw [eN I] at h
    injection h with h;subst I h;exact aD ..
   rw[eL I]at h;exact aI _ (ih h)
variable{M:List AD}
def OX{P:AA->Bool}(hs:Sorted M){k:AA}:k∈EE P M↔P k=true/\(AH M k).isSome=true:=by
 simp only[EE,List.mem_map,List.mem_filter];constructor
 ·rintro ⟨e,⟨N,I⟩,rfl⟩
  exact⟨I,by rw[L4 hs N];rfl⟩
 rintro⟨I,h⟩;obtain⟨v,Z⟩:=de.1 h;exact⟨(k,v),⟨IJ Z,I⟩,rfl⟩
def nA{P:AA->Bool}(hs:Sorted M):(EE P M).Pairwise λx y=>klt x y=true:=
 bO.2 (hs.sublist (cQ ..))
structure SV where
 has:Bool
 v:Val
 sl:Sl
 so:Sl
abbrev SV.cells(s:SV):Array Value:=#[.bool s.has,.int .i64 s.v.kind,.bool s.v.b,.int .i64 s.v.i,.string s.v.t,.slice s.sl.a s.v.l.length s.sl.c,.slice s.so.a s.v.ok.length s.so.c]
abbrev SV.val(s:SV):Value:=.agg s.cells
def SV.opt(s:SV):Option Val:=if s.has then some s.v else none
def CZ(C:AL SV):Slots:=C.map λp=>(p.1,p.2.opt)
def Gt(k:AA):∀C:AL SV,AQ (CZ C) k=(AQ C k).map SV.opt
 |[]=>rfl
 | e :: r=>by
   have I:=Gt k r;unfold CZ at I ⊢;rw[aW,AQ,AQ,I];split<;>rfl
variable{C:AL SV}
def O1(h:Bd C):Bd (CZ C):=bO.2 h
def Vd(C:AL SV)(k:AA)(s:SV)(x:AA):AQ (CZ (BG C k s)) x=if x=k then some s.opt else AQ (CZ C) x:=by
 rw[Gt,JN,Gt];split<;>rfl
structure UD where
 k:AA
 old:Option SV
def Eu(u:UD)(C:AL SV):AL SV:=match u.old with
 |some o=>BG C u.k o
 |none=>DF C u.k
def Zz(h:Bd C){k:AA}(s:SV):Eu ⟨k,AQ C k⟩ (BG C k s)=C:=by
 unfold Eu;cases I:AQ C k with
 |some o=>exact Vr h I
 |none=>exact jQ h I
def ix(h:Bd C)(u:UD):Bd (Eu u C):=by
 unfold Eu;split
 .exact Gm h _ _
 exact Vm h _
def Cu(us:List UD)(C:AL SV)(m:Nat):AL SV:=(us.drop m).foldr Eu C
def Oy(I:List UD)(C:AL SV):Cu I C I.length=C:=by simp[Cu]
def S0{I:List UD}{m:Nat}{u:UD}(h:I[m]? = some u):Cu I C m=Eu u (Cu I C (m+1)):=by
 obtain⟨N,rfl⟩:=ai.1 h;unfold Cu;rw[aE N];rfl
structure Chain(us:List UD)(H:List (AL SV)):Prop where
 len:H.length=us.length+1
 step:∀i u,us[i]? = some u->∃(C:AL SV) (s:SV),H[i]? = some C/\Bd C/\u.old=AQ C u.k/\H[i+1]? = some (BG C u.k s)
def Chain.nil(C:AL SV):Chain [] [C]:=⟨rfl,λi u h=>by simp at h⟩
def Chain.snoc{I:List UD}{H:List (AL SV)}(h:Chain I (H++[C]))(hs:Bd C)(k:AA)(s:SV):Chain (I++[⟨k,AQ C k⟩]) (H++[C]++[BG C k s]):=by
 have hl:=h.len;rw[aj,bg]at hl;refine⟨by simp;omega,λi u hi=>?_⟩;rcases Nat.lt_trichotomy i I.length with Z|N|a0
 ·rw [bu Z] at hi
  obtain⟨C',s',h1,h2,h3,h4⟩:=h.step i u hi;exact⟨C',s',by rw[bu (by simp;omega)];exact h1,h2,h3,by rw[bu (by simp;omega)];exact h4⟩
 ·subst N
  rw[aO (ao _),cE]at hi;injection hi with hi;subst hi;refine⟨C,s,?_,hs,rfl,?_⟩
  .rw [bu (by simp;omega),aO oM,show I.length-H.length=0 by omega];rfl
  rw[aO (by simp;omega),show I.length+1 -(H++[C]).length=0 by simp;omega];rfl
 rw[aN (by simp;omega)]at hi;cases hi
def Chain.back{I:List UD}{H:List (AL SV)}(h:Chain I H)(Z:H[I.length]? = some C):∀d m,m+d=I.length->H[m]? = some (Cu I C m)
 | 0,m,hm=>by
   obtain rfl:m=I.length:=oM
   rw[Oy];exact Z
 | d+1,m,hm=>by
   have hlt:m<I.length:=oM
   have hu:=ac hlt;obtain⟨C',s,h1,h2,h3,h4⟩:=h.step m _ hu;have N:=h.back Z d (m+1) oM;rw[h4]at N;injection N with N;rw[h1,S0 hu,<-N];congr 1;have:=Zz h2 (k:=(I[m]'hlt).k) s;rw[<-h3]at this;exact this.symm
def Chain.take{I:List UD}{H:List (AL SV)}(h:Chain I H){m:Nat}(hm:m<=I.length):Chain (I.take m) (H.take (m+1)):=by
 refine⟨by rw[au,au,h.len];omega,λi u hi=>?_⟩;have N:i<m:=by
  have:=(ai.1 hi).1;rw[au]at this;omega
 rw[bU N]at hi;obtain⟨C,s,h1,h2,h3,Z⟩:=h.step i u hi;exact⟨C,s,by rw[bU oM];exact h1,h2,h3,by rw[bU oM];exact Z⟩
def VB(h:Bd C)(I:List UD)(m:Nat):Bd (Cu I C m):=by
 unfold Cu
 induction I.drop m with
 |nil=>exact h
 |cons u r ih=>exact ix ih u
abbrev fB:=@World.alloc_heap_new
abbrev fC:=@World.putObj_heap_other
def II(w:AB)(o:Obj)(h:∀(W:AB) (i j:Nat),W.heap[i]? = some o->W.frozen? ⟨i,j,none⟩=false):Ext w (w.alloc o):=by
 refine⟨(Below.refl _ _).alloc (ao _) _,λb j N=>?_⟩;by_cases I:b=w.heap.size
 ·subst I
  exact h _ _ _ (fB w o)
 exact frozen_none (by simp;omega)
structure Turned(B:Nat)(W W':AB):Prop where
 os:W'.os=W.os
 tape:W'.tape=W.tape
 output:W'.output=W.output
 size:W'.heap.size=W.heap.size
 block:∀b,(b<B\/∃o,W.heap[b]? = some o/\o.isCells=true)->W'.heap[b]? = W.heap[b]?
 fz:∀b o,W'.frozen? ⟨b,o,none⟩=W.frozen? ⟨b,o,none⟩
variable{W:AB}
def Turned.put{B l:Nat}{o o':Obj}(hl:B<=l)(h:W.heap[l]? = some o)(N:o.isCells=false)(I:o'.isCells=false):Turned B W (W.putObj l o'):=by
 refine⟨rfl,rfl,rfl,oO,λb Z=>fC ?_,λb j=>?_⟩
 ·rintro rfl
  rcases Z with Z |⟨o2,h2,h3⟩
  .omega
  rw[h]at h2;cases h2;rw[N]at h3;cases h3
 by_cases e:b=l
 ·subst e
  have h1:(W.putObj b o').heap[b]? = some o':=World.putObj_heap_same (aA.1 h).1;unfold World.frozen?;simp only[h1,h];cases o<;>cases o'<;>first|rfl |(simp[Obj.isCells]at N;done) |(simp[Obj.isCells]at I;done)
 exact World.frozen?_of_block (a:=⟨b,j,none⟩) (fC e)
abbrev eR:=@callsIn_wide
abbrev fu:=@run_endRound
abbrev gm:=@run_endLoop
abbrev gw:=@wpIn_mono
def St.then{C I:Nat->Prop}{a b c:AB}(h:St C a b)(k:St I b c)(Z:∀i,i<a.heap.size->I i->C i):St C a c:=
 ⟨k.os.trans h.os,k.tape.trans h.tape,k.output.trans h.output,an h.size k.size,λi hi N=>(k.block i (ab hi h.size) (λhh=>N (Z i hi hh))).trans (h.block i hi N),λb o=>(k.fz b o).trans (h.fz b o)⟩
def St.put{l:Nat}{o o':Obj}(h:W.heap[l]? = some o)(N:o.isCells=false)(I:o'.isCells=false):St (λb=>b=l) W (W.putObj l o'):=
 ⟨rfl,rfl,rfl,oO,λb _ Z=>fC Z,(Turned.put (ao l) h N I).fz⟩
structure Takes{α:Type}(P:Program)(l:Nat)(encs:α->Array Value)(G:List α->α->AB->AB->Prop)(J:List α->(Nat->Prop)->AB->Prop)(Jx:List α->AB->Prop):Prop where
 lt:∀pre C W,J pre C W->∀b,C b->b<W.heap.size
 take:∀pre C x W0 W1,J pre C W0->Ext W0 W1->G pre x W0 W1->YieldAt Fence.wide 4 P l (encs x) W1 λe W'=>
  (e=.returned (.bool true)/\∃C',J (pre++[x]) C' W'/\St C W1 W'/\∀b,C' b->C b\/W1.heap.size<=b)\/(e=.returned (.bool false)/\Jx (pre++[x]) W'/\St C W1 W')
def Mi{α:Type}(P:Program)(g:Nat)(lb:Array Value)(encs:α->Array Value)(K:Nat->Prop)(G:List α->α->AB->AB->Prop)(S Sp:List α->Prop)(w0:AB):Prop:=
 ∀(l:Nat) (J:List α->(Nat->Prop)->AB->Prop) (Jx:List α->AB->Prop) (C:Nat->Prop) (W:AB),Takes P l encs G J Jx->Agree K w0 W->w0.heap.size<=W.heap.size->(∀b,C b->¬K b)->J [] C W->
  Calls P g (#[.func (.yield l) #[] #[]]++lb) W λe W'=>(∃v,e=.returned v)/\((∃xs C' W0,S xs/\J xs C' W0/\Ext W0 W')\/(∃pre W0,Sp pre/\Jx pre W0/\Ext W0 W'))
def kH{α:Type}(C:Nat->Prop)(I:List α->(Nat->Prop)->AB->Prop)(Ix:Code->List α->AB->Prop)(xs:List α)(W:AB):Exit->Act->AB->Prop
 |.normal,_,W'=>∃C',I xs C' W'/\St C W W'/\(∀b,C' b->C b\/W.heap.size<=b)/\(∀b,C' b->b<W'.heap.size)
 |.ret,_,W'=>St C W W'/\Ix .ret xs W'
 |.exit id,_,W'=>St C W W'/\Ix (.exit id) xs W'
 |.goto t,_,W'=>St C W W'/\Ix (.goto t) xs W'
 |.panic _,_,_=>False
 |.outgrown,_,_=>False
variable{n gf:Nat}{P:Program}{assign body:Code}{Q:Exit->Act->AB->Prop}{a:Act}{w0:AB}
def PW{α:Type}{g:Operand}{ps:Array Tmp} 
 {lb:Array Value} (hg:a.eval g=.func (.func gf) #[] lb) (eg:∀ args w,(callFunc gf args).run P w=.ok (.enter gf args) w)
  {encs:α->Array Value} {K:Nat->Prop} {G:List α->α->AB->AB->Prop} {S Sp:List α->Prop} (hseq:Mi P gf lb encs K G S Sp w0)
  (hA:Agree K w0 w) (hsz:w0.heap.size<=w.heap.size) (hK:∀b,K b->b<w.heap.size) (hps:∀x,(encs x).size=ps.size)
  (I:List α->(Nat->Prop)->AB->Prop) (Ix:Code->List α->AB->Prop) (C₀:Nat->Prop) (hC:∀b,C₀ b->b<w.heap.size/\¬K b)
  (hI:∀{s C W W'},I s C W->St (λb=>b=w.heap.size+1) W W'->I s C W') (hIx:∀{c s W W'},Ix c s W->St (λb=>b=w.heap.size+1) W W'->Ix c s W')
  (h0:∀W,Ext w W->w.heap.size+2<=W.heap.size->I [] C₀ W)
  (hround:∀(pre:List α) (C:Nat->Prop) (x:α) (W0 W1:AB),I pre C W0->(∀b,C b->b<W0.heap.size)->w.heap.size+2<=W0.heap.size->¬C (w.heap.size+1)->Ext W0 W1->G pre x W0 W1->
    assign.wpIn (Fence.wide.inRound (w.heap.size+1)) 4 P (Exit.then (λa1 W2=>Ext W1 W2/\∀W3,St (λb=>b=w.heap.size+1) W2 W3->body.wpIn (Fence.wide.inRound (w.heap.size+1)) 4 P (kH C I Ix (pre++[x]) W3) a1 W3) (λ_ _ _=>False))
     { tmps:=(ps.zip (encs x)).foldl (λt (p,v)=>t.setIfInBounds p v) a.tmps,defers:=[] } W1)
  (hdone:∀(D:Nat) (xs:List α) (C:Nat->Prop) (W:AB),D=w.heap.size->S xs->I xs C W->W.heap[D]? = some (.deferred (some []))->Q .normal { a with defers:={ target:=.collected D,args:=#[] }::a.defers } W)
  (hstop:∀(D:Nat) (c:Code) (pre:List α) (W:AB),D=w.heap.size->Sp pre->Ix c pre W->W.heap[D]? = some (.deferred (some []))->c.wpIn Fence.wide n P Q { a with defers:={ target:=.collected D,args:=#[] }::a.defers } W) :
  (Code.rangeFunc g ps assign body).wpIn Fence.wide n P Q a w:=by
 refine wpIn_rangeFunc λfn hfn=>?_
 rw[show Fence.wide.round=none from rfl]
 -- the loop's record at each of its states;where it lies,and the block of the rounds' deferred calls
 let rec_:LoopState->Option Code->Obj:=λst pe=>.loop { state:=st,pending:=pe,fn,tmps:=a.tmps,params:=ps,assign,body,defers:=w.heap.size }
 let BK:LoopState->Option Code->AB->Prop:=λst pe W=>W.heap[w.heap.size+1]? = some (rec_ st pe)/\W.heap[w.heap.size]? = some (.deferred (some []))
 have bkL:∀{st pe W},BK st pe W->w.heap.size+1<W.heap.size:=λh=>(aA.1 h.1).1
 have bkE:∀{st pe W W'},BK st pe W->Ext W W'->BK st pe W':=λh he=>⟨(he.heap (aA.1 h.1).1).trans h.1,(he.heap (aA.1 h.2).1).trans h.2⟩
 have bkS:∀{st pe W W'} {C:Nat->Prop},BK st pe W->St C W W'->¬C (w.heap.size+1)->¬C w.heap.size->BK st pe W':=λh hk h1 h2=>⟨(hk.block _ (bkL h) h1).trans h.1,(hk.block _ (by have:=bkL h;omega) h2).trans h.2⟩
 have bkP:∀{st pe W} (st':LoopState) (pe':Option Code),BK st pe W->BK st' pe' (W.putObj (w.heap.size+1) (rec_ st' pe'))/\St (λb=>b=w.heap.size+1) W (W.putObj (w.heap.size+1) (rec_ st' pe')):=λst' pe' h=>
  ⟨⟨World.putObj_heap_same (aA.1 h.1).1,(fC oM).trans h.2⟩,St.put h.1 rfl rfl⟩
 have e1:Ext w (w.alloc (.deferred (some []))):=II w _ λW i j h=>by simp[World.frozen?,h]
 have e2:Ext (w.alloc (.deferred (some []))) ((w.alloc (.deferred (some []))).alloc (rec_ .ready none)):=II _ _ λW i j h=>by simp[World.frozen?,h,rec_]
 have hrun:=run_enterLoop_outer (P:=P) (w:=w) fn a.tmps ps assign body;have bk1:BK .ready none ((w.alloc (.deferred (some []))).alloc (rec_ .ready none)):=
  ⟨by have:=fB (w.alloc (.deferred (some []))) (rec_ .ready none);rwa[eQ]at this,(fe _ _ _ oO).trans (fB w _)⟩
 have eW:=e1.trans e2;have hs1:w.heap.size+2<=((w.alloc (.deferred (some []))).alloc (rec_ .ready none)).heap.size:=oO
 change _=Result.ok _ ((w.alloc (.deferred (some []))).alloc (rec_ .ready none))at hrun;generalize (w.alloc (.deferred (some []))).alloc (rec_ .ready none)=W1 at *;refine⟨w+1,_,W1,{ target:=.fn (.func gf) lb,args:=#[.func (.yield (w.heap.size+1)) #[] #[]] },W1,gf,#[.func (.yield (w.heap.size+1)) #[] #[]]++lb,W1,hrun,?_,?_,?_,λh=>by simp[Fence.wide]at h,?_⟩
 ·simp only [resolve,hg]
  simp[go_sem]
 .intro f' hf';trivial
 .simp [invoke,go_sem,eg]
 refine eR.2 ((hseq (w.heap.size+1) (λpre C W=>∃C0:Nat->Prop,C=(λb=>C0 b\/b=w.heap.size+1)/\I pre C0 W/\(∀b,C0 b->b<W.heap.size)/\¬C0 (w.heap.size+1)/\¬C0 w.heap.size/\BK .ready none W) (λpre W=>∃c,Ix c pre W/\BK .done (some c) W) (λb=>C₀ b\/b=w.heap.size+1) W1 ⟨?_,?_⟩ (hA.trans (eW.agree hK)) (an hsz eW.size) ?_
  ⟨C₀,rfl,h0 W1 eW hs1,λb hb=>by have:=(hC b hb).1;omega,λh=>by have:=(hC _ h).1;omega,λh=>by have:=(hC _ h).1;omega,bk1⟩).mono ?_)
 ·rintro pre C W ⟨C0,rfl,-,hlt,-,-,hbk⟩ b (hb | rfl)
  .exact hlt b hb
  exact bkL hbk
 ·rintro pre C x W0 Wy ⟨C0,rfl,hi,hlt,nL,nD,hbk⟩ hx hgd
  have hbk1:=bkE hbk hx;have hl0:=bkL hbk;refine⟨fn,_,assign,body,run_yield (args:=encs x) hbk1.1 (hps x),roundIn_of_wpIn hfn (gw (hround pre C0 x W0 Wy hi hlt oM nL hx hgd) ?_)⟩;rintro e a3 W2 hp;cases e with
  | normal=>
    obtain⟨hx2,hb⟩:=hp;have hbk2:=bkE hbk1 hx2;obtain⟨hbk3,ht3⟩:=bkP .busy none hbk2;refine⟨_,run_beginRound hbk2.1 rfl,gw (hb _ ht3) ?_⟩;have hl3:=bkL hbk3;generalize W2.putObj (w.heap.size+1) (rec_ .busy none)=W3 at *;rintro e a4 W4 hq;cases e with
    | normal=>
      obtain⟨C',hi4,hst,hsub,hlt4⟩:=hq;have hbk4:=bkS hbk3 hst nL nD;obtain⟨hbk5,ht5⟩:=bkP .ready none hbk4;refine⟨_,_,fu none hbk4.1,.inl ⟨rfl,_,⟨C',rfl,hI hi4 ht5,λb hb=>ab (hlt4 b hb) ht5.size,λh=>?_,λh=>?_,hbk5⟩,?_,?_⟩⟩
      ·rcases hsub _ h with h | h
       .exact nL h
       omega
      ·rcases hsub _ h with h | h
       .exact nD h
       omega
      .exact (((hx2.st _).trans (ht3.mono λi _ hi=>.inr hi)).trans (hst.mono λi _ hi=>.inl hi)).trans (ht5.mono λi _ hi=>.inr hi)
      rintro b (hb|rfl)
      ·rcases hsub b hb with h | h
       .exact .inl (.inl h)
       exact .inr (by have:=hx2.size;have:=ht3.size;omega)
      exact .inl (.inr rfl)
    | ret=>
      have hbk4:=bkS hbk3 hq.1 nL nD;obtain⟨hbk5,ht5⟩:=bkP .done (some .ret) hbk4;exact⟨_,_,fu (some .ret) hbk4.1,.inr ⟨rfl,⟨.ret,hIx hq.2 ht5,hbk5⟩,(((hx2.st _).trans (ht3.mono λi _ hi=>.inr hi)).trans (hq.1.mono λi _ hi=>.inl hi)).trans (ht5.mono λi _ hi=>.inr hi)⟩⟩
    | exit id=>
      have hbk4:=bkS hbk3 hq.1 nL nD;obtain⟨hbk5,ht5⟩:=bkP .done (some (.exit id)) hbk4;exact⟨_,_,fu (some (.exit id)) hbk4.1,.inr ⟨rfl,⟨.exit id,hIx hq.2 ht5,hbk5⟩,(((hx2.st _).trans (ht3.mono λi _ hi=>.inr hi)).trans (hq.1.mono λi _ hi=>.inl hi)).trans (ht5.mono λi _ hi=>.inr hi)⟩⟩
    | goto t=>
      have hbk4:=bkS hbk3 hq.1 nL nD;obtain⟨hbk5,ht5⟩:=bkP .done (some (.goto t)) hbk4;exact⟨_,_,fu (some (.goto t)) hbk4.1,.inr ⟨rfl,⟨.goto t,hIx hq.2 ht5,hbk5⟩,(((hx2.st _).trans (ht3.mono λi _ hi=>.inr hi)).trans (hq.1.mono λi _ hi=>.inl hi)).trans (ht5.mono λi _ hi=>.inr hi)⟩⟩
    |panic ch=>exact hq.elim
    |outgrown=>exact hq.elim
  |ret=>exact hp.elim
  |exit id=>exact hp.elim
  |goto t=>exact hp.elim
  |panic ch=>exact hp.elim
  |outgrown=>exact hp.elim
 ·rintro b (hb | rfl) hk
  .exact (hC b hb).2 hk
  have:=hK _ hk;omega
 rintro e W2 ⟨⟨v,rfl⟩,(⟨xs,C,W0,hS,⟨C0,rfl,hi,-,-,-,hbk⟩,hx⟩ |⟨pre,W0,hSp,⟨c,hi,hbk⟩,hx⟩)⟩
 ·have hbk2:=bkE hbk hx
  obtain⟨hbk5,ht5⟩:=bkP .exhausted none hbk2;exact⟨none,_,gm hbk2.1 oO,hdone _ xs C0 _ rfl hS (hI hi ((hx.st _).trans ht5)) hbk5.2⟩
 have hbk2:=bkE hbk hx;obtain⟨hbk5,ht5⟩:=bkP .exhausted (some c) hbk2;exact⟨some c,_,gm hbk2.1 oO,hstop _ c pre _ rfl hSp (hIx hi ((hx.st _).trans ht5)) hbk5.2⟩
variable{ops:Array Oper}
def MN{F:Fence}(w:AB){rest:List Oper}{o:Oper}(a5:o.guard=none)(s' x:Operand)(t:TypeId)
  (ho:o.op=.call { callee:=.builtin .append,args:=#[s',x],argTypes:=#[t,t] })
  (base:Nat) (e:TypeId) (i:TypeInfo) (z:Value) (size I:Nat) (ht:P.underlying t=some (.slice e)) (hi:P.info? e=some i) (hz:i.zero=some z)
  (a1:i.size=size) (a7:i.bytes=I) (a6:z.cells.size=size) (a4:0<size)
  (s:Sl) (k:Nat) (xs:List Value) (hs:a.eval s'=.slice s.a k s.c) (a2:w.ownsRow base e size (.slice s.a k s.c) k xs)
  (G:Nat->Prop) (sx:Sl) (m:Nat) (N:List Value) (hx:a.eval x=.slice sx.a m sx.c) (a3:Rd w G size sx m N) (h1:∀u∈N,u.oneCell'=true)
  (a8:k+m<=maxLen) (Z:(k+m)*I<=140737488355328) (a0:base<=w.heap.size)
  (h:∀(s':Sl) (w':AB),w'.ownsRow base e size (.slice s'.a (k+m) s'.c) (k+m) (xs++N)->Wr w w' s.row->(s'.a=s.a\/s'.a=some ⟨w,0,none⟩/\Wr w w' none)->wpListIn F n P ops Q rest (a.put o.dst (.slice s'.a (k+m) s'.c)) w'):wpListIn F n P ops Q (o::rest) a w:=by
 refine wpListIn_plain a5 λK b0=>?_
 obtain⟨v',w',hr,h2,h3,h4⟩:=Uh (P:=P) w base t o.type e i z size I ht hi hz a1 a7 a6 a4 s k xs a2 G sx m N a3 h1 a8 Z a0;unfold Oper.wpIn;refine⟨?_,?_⟩
 .simp [Oper.about,ho,resolve,Target.leads,Sem.run_pure]
 rw[Oper.semAt_plain F _ _ (by rw[ho];intro c a9;cases a9)];simp[execOp,ho,resolve,invoke,builtin,hs,hx,hr,Result.andThen];exact b0 _ _ (h v' w' h2 h3 h4)
variable{H:Nat->Prop}
def St.BN{a w:AB}(h:St H a w){b:Nat}(I:a<=b\/H b)(o:Nat)(d:Val)(sl so:Sl):St H a (BN w b o d sl so):=
 (((((h.set (p:=⟨b,_,none⟩) I _).set (p:=⟨b,_,none⟩) I _).set (p:=⟨b,_,none⟩) I _).set (p:=⟨b,_,none⟩) I _).set (p:=⟨b,_,none⟩) I _).set (p:=⟨b,_,none⟩) I _
section
variable{H : Type}{enc : TypeId × Value -> H}{P : Program}{w : AB}{held : Bool}
abbrev WOk(P:Program)(t:TypeId)(d:DataW H):Prop:=(DataW.weights P t d).all (·<=reachBytes)=true
abbrev tr(enc:TypeId × Value->H)(P:Program)(w:AB)(held:Bool)(fuel:Nat)(t:TypeId)(cs:List Value):Option (DataW H × List MemPlace):=DataW.trod enc P w 0 (λ_=>true) held fuel t cs
def TX{e:TypeId}:∀{l:List (DataW H)},(DataW.weightsAll P e l).all (·<=reachBytes)=true->∀d∈l,WOk P e d
 |[],_,d,hd=>by cases hd
 | x :: l,h,d,hd=>by
   simp only[DataW.weightsAll,List.all_append,Bool.and_eq_true]at h;rcases aH.1 hd with rfl|hd
   .exact h.1
   exact TX h.2 d hd
def weightsEach_at:∀{ts:List TypeId} {I:List (DataW H)},(DataW.weightsEach P ts I).all (·<=reachBytes)=true->∀(i:Nat) (t:TypeId) (d:DataW H),ts[i]? = some t->I[i]? = some d->WOk P t d
 |[],_,_,i,t,d,ht,_=>by simp at ht
 |t::ts,[],_,i,t',d,_,hd=>by simp at hd
 | t :: ts,d :: I,h,i,t',d',ht,hd=>by
   simp only[DataW.weightsEach,List.all_append,Bool.and_eq_true]at h;cases i with
   |zero=>simp at ht hd;subst ht hd;exact h.1
   |succ i=>exact weightsEach_at h.2 i t' d' (by simpa using ht) (by simpa using hd)
def XD{t e:TypeId}{C B a0:Nat}{cs:List Value}{x:DataW H × List MemPlace}(ht:P.underlying t=some (.slice e))(hC:P.cellsOf e=C)(hB:P.bytesOf e=B)(b6:0<C)
  (h:tr enc P w held a0 t cs=some x) (hw:WOk P t x.1) :
  ∃(n I:Nat) (s:Sl) (b o:Nat),a0=n+1/\cs=[.slice s.a I s.c]/\BV (Lt w) s I b o/\I*B<=140737488351232/\
   ∀i,i<I->∃Z y,Z.length=C/\(∀j,j<C->w.cell? ⟨b,o+i*C+j,none⟩=Z[j]?)/\tr enc P w held n e Z=some y/\WOk P e y.1:=by
 rcases DataW.trod_slice ht h with⟨rfl,rfl⟩ |⟨a,I,b5,N,rest,n,rfl,rfl,rfl,-,hl,hm,c8,a4,b8,-⟩
 ·cases a0 with
  |zero=>simp[tr,DataW.trod]at h
  |succ n=>exact⟨n,0,Sl.none,0,0,rfl,rfl,.nil _ _,oM,λi hi=>oM⟩
 obtain⟨hr,a2⟩:=b8 rfl;have a5:(N.length+rest.length)*P.bytesOf e<=reachBytes/\(DataW.weightsAll P e (N.map (·.1))).all (·<=reachBytes)=true:=by
  have a6:=hw;simp only[WOk,DataW.weights,ht,List.all_cons,List.all_append,Bool.and_eq_true,decide_eq_true_eq,List.length_map]at a6;exact⟨a6.1,a6.2.1⟩
 rw[hB]at a5;rw[hC]at a4 a2;by_cases b4:b5=0
 ·subst b4
  obtain rfl:I=0:=oM
  exact⟨n,0,⟨some a,0⟩,0,0,rfl,rfl,.zero a 0 0,oM,λi hi=>oM⟩
 have b7:I*B<=140737488351232:=by
  have h1:I*B<=(N.length+rest.length)*B:=ci _ oM;have h2:=a5.1;have h3:reachBytes=140737488351232:=rfl;omega
 have c6:∃z:DataW H × List MemPlace,∃k,(w.cells? 0 (a.add (k*C)) C).bind (tr enc P w held n e)=some z/\k=0:=by
  by_cases h0:0<I
  .exact ⟨N[0]' oM,0,by rw[a4 0 h0];exact ac oM,rfl⟩
  have:=a2 0 oM;have e0:I=0:=oM
  rw[e0,cA]at this;exact⟨rest[0]' oM,0,by rw[this];exact ac oM,rfl⟩
 obtain⟨z,k,hz,rfl⟩:=c6;obtain⟨b3,b9,-⟩:=dI.1 hz;obtain⟨-,c9,a9⟩:=World.cells?_some b9;have a1:w.cell? (a.add 0)=some (b3[0]' oM):=by
  have:=a9 0 b6;rw[cH]at this;rw[ac oM]at this;simpa[Addr.add]using this
 obtain⟨b,o,a7⟩:=a;have a3:a7=none:=by simpa[Addr.add]using World.cell?_spot a1
 subst a3;have a8:b<w:=by
  have h1:w.cell? ⟨b,o,none⟩=some (b3[0]' oM):=by simpa[Addr.add]using a1
  exact fc w _ h1
 refine⟨n,I,⟨some ⟨b,o,none⟩,b5⟩,b,o,rfl,rfl,.some _ _ _ _ hl hm a8,b7,λi hi=>?_⟩;have he:=a4 i hi;rw[ac oM]at he;obtain⟨Z,h1,h2⟩:=dI.1 he;obtain⟨-,c7,b0⟩:=World.cells?_some h1;refine⟨Z,_,c7,λj hj=>?_,h2,TX a5.2 _ (dg (List.getElem_mem oM))⟩;have:=b0 j hj;rw[Go.WideShapes.add_plain,Go.WideShapes.add_plain]at this;exact this
def JO{t:TypeId}{k:IntKind}{I:Nat}{cs:List Value}{x:DataW H × List MemPlace}(N:P.underlying t=some (.int k))(h:tr enc P w held I t cs=some x):∃n,cs=[.int k n]/\(Lit.int k n).wf=true:=by
 obtain⟨n,h1,-,h2⟩:=DataW.trod_int N h;exact⟨n,h1,h2⟩
def Mo{t:TypeId}{I:Nat}{cs:List Value}{x:DataW H × List MemPlace}(N:P.underlying t=some .bool)(h:tr enc P w held I t cs=some x):∃b,cs=[.bool b]:=by
 obtain⟨b,h1,-⟩:=DataW.trod_bool N h;exact⟨b,h1⟩
def WH{t:TypeId}{I:Nat}{cs:List Value}{x:DataW H × List MemPlace}(N:P.underlying t=some .string)(h:tr enc P w held I t cs=some x):∃s,cs=[.string s]/\s.size<=maxLen:=by
 obtain⟨s,h1,-,h2⟩:=DataW.trod_string N h;exact⟨s,h1,h2⟩
end
def skolem{α:Type}[Inhabited α]{p:Nat->Prop}{q:Nat->α->Prop}(h:∀i,p i->∃a,q i a):∃f:Nat->α,∀i,p i->q i (f i):=by
 have:∀i,∃y:α,p i->q i y:=λi=>by
  by_cases I:p i
  ·obtain ⟨a,N⟩:=h i I
   exact⟨a,λ_=>N⟩
  exact⟨default,λh=>absurd h I⟩
 exact Classical.axiomOfChoice this
instance : Inhabited Val :=⟨.mk 0 false 0 ByteArray.empty [] [] []⟩
instance : Inhabited Sl :=⟨Sl.none⟩
variable{cs:List Value}
def kf(h:cs.length=6):∃a b c d e f,cs=[a,b,c,d,e,f]:=by
 match cs,h with
 |[a,b,c,d,e,f],_=>exact⟨_,_,_,_,_,_,rfl⟩
variable{j:Nat}
def at_of_take{cs l:List Value}{I k:Nat}(h:(cs.drop I).take k=l)(N:j<k):cs[I+j]? = l[j]?:=by
 rw[<-h,bv,eN N,bm]
abbrev Gs(v:Val)(sl so:Sl):List Value:=[.int .i64 v.kind,.bool v.b,.int .i64 v.i,.string v.t,.slice sl.a v.l.length sl.c,.slice so.a v.ok.length so.c]
def Ci{α:Type}{f:Nat->α}{d:α}(h:((List.range n).map f)[j]? = some d):j<n/\d=f j:=by
 rw[ar]at h;obtain⟨k,I,rfl⟩:=dN.1 h;obtain⟨h1,rfl⟩:=ai.1 I;simp at h1;exact⟨h1,oO⟩
section
variable{H : Type}{enc : TypeId × Value -> H}{w : AB}{held : Bool}
def G4:prog.cellsOf 54=6:=kM
def kX:prog.cellsOf 107=7:=kM
def WS:prog.cellsOf 65=7:=kM
def Z':prog.bytesOf 54=88:=kM
def ig:prog.bytesOf 107=104:=kM
def iX:prog.bytesOf 65=104:=kM
structure LA where
 kd:Int
 k:AA
 v:Val
 sl:Sl
 so:Sl
instance : Inhabited LA :=⟨⟨0, ByteArray.empty, default, Sl.none, Sl.none⟩⟩
end
open Go.ChangeShapes Go.WideShapes Go.ChangeAt
def trodAll_stays{H:Type}{enc:TypeId × Value->H}{P:Program}(hl:laidOutB P=true){W W':AB}(hx:Below W.heap.size W W')(I:Nat->Bool) :
  ∀{ts:List TypeId} {vs:List Value} {ds:List (DataW H)} {ps:List MemPlace},(∀t∈ts,P.readableRec t=true/\t<P.types.size)->DataW.TrodAll enc P W 0 (λ_=>true) true ts vs ds ps->
   (∀p∈ps,p.block<W.heap.size)->(∀p∈ps,I p.block=true)->DataW.TrodAll enc P W' 0 I true ts vs ds ps
 | [],vs,ds,ps,_,h,_,_=>by
   obtain⟨rfl,rfl,rfl⟩:=trodAll_nil h;exact rfl
 | t :: ts,vs,ds,ps,hr,h,hb,hs=>by
   obtain⟨v0,a1,d0,a0,p0,q0,rfl,rfl,rfl,h0,r0⟩:=trodAll_cons h;refine⟨p0,q0,Go.WideElems.Trod_stays hl (hr t (aD ..)).1 (hr t (aD ..)).2 h0 (λp N=>?_) (λp N=>hs p (List.mem_append_left _ N)),
    trodAll_stays hl hx I (λt ht=>hr t (aI _ ht)) r0 (λp N=>hb p (List.mem_append_right _ N)) (λp N=>hs p (List.mem_append_right _ N)),rfl⟩
   have Z:=hb p (List.mem_append_left _ N);cases p with
   |cell b o=>exact hx.cell (p:=⟨b,o,none⟩) Z
   |map b=>exact hx.block b Z
structure MapAt(H:Nat->Prop)(w:AB)(M:Nat)(es:List AD):Prop where
 hm:H M
 ex:∃s xs,AE w M 44 #[.slice s.a xs.length s.c]/\ES w (NH H w) s xs/\xs.map LE.ent=es
variable{G:Nat->Prop}
def MapAt.st{M:Nat}{es:List AD}(h:MapAt H w M es)(k:St G w w')(N:∀b,G b->H b)(hM:¬G M):MapAt H w' M es:=by
 obtain⟨hm,s,xs,I,hs,Z⟩:=h;exact⟨hm,s,xs,k.blk I hM,(hs.agree (λb I=>k.block b I.1 λhh=>I.2 (N b hh))).mono λi hi=>⟨Nat.lt_of_lt_of_le hi.1 k.size,hi.2⟩,Z⟩
def MapAt.ext{M:Nat}{es:List AD}(h:MapAt H w M es)(k:Ext w w'):MapAt H w' M es:=
 h.st (k.st λ_=>False) (λ_ I=>I.elim) (λI=>I)
def MapAt.more{M:Nat}{es:List AD}(h:MapAt H w M es)(hH:∀b,H b->G b)(Z:∀b,b<w.heap.size->G b->H b):MapAt G w M es:=by
 obtain⟨hm,s,xs,I,hs,hx⟩:=h;exact⟨hH M hm,s,xs,I,hs.mono λi hi=>⟨hi.1,λN=>hi.2 (Z i hi.1 N)⟩,hx⟩
def NT{M:Nat}{es:List AD}(h:MapAt H w M es)(k:AA):Calls prog 47 #[.pointer (some M),k] w λe w'=>
  e=.returned (.tuple #[.int .i64 (Aq es k),.bool (decide ((es[Aq es k]?).map Prod.fst=some k))])/\∃q,w'=w.drewN q:=by
 obtain⟨-,s,xs,hb,hs,rfl⟩:=h;have h0:w.cell? M=some (.slice s.a xs.length s.c):=hb.cell 0;have a4:=hs.few;have HS:=hY hs;clear hb hs;go_in;go_wp2_with fail;have a5:xs.length<=140737488355328:=oM
 go_loopw[6] (λq wr=>∃j:Nat,q=.int .i64 j/\j<=xs.length/\(∀i x,i<j->xs[i]? = some x->klt x.k k=true)/\wr=w) (λq _=>xs.length -(intOf q).toNat)
 case atStart=>exact⟨0,rfl,aw _,λi x hi=>absurd hi (eD _),rfl⟩
 obtain⟨j,rfl,hj,hp,rfl⟩:=hrel;have HP:=hY hp;clear hp;by_cases h1:j<xs.length
 ·have g1:(j:Int)<(xs.length:Int):=oM
  obtain⟨x,hx⟩:∃x,xs[j]? = some x:=⟨_,ac h1⟩;obtain⟨g,o,hg,lg,hc,a3,kx,-,-,-⟩:=HS.o.at hx;obtain⟨sa,sc⟩:=s;dsimp only at hg hc a3;subst hg;have a1:=hY hx;clear hx;cases a0:klt x.k k with
  | true=>
    have a2:Op.bytesLess x.k.toList k.toList=true:=a0;go_wp2_with fail;go_roundw
    case rel=>
     refine⟨j+1,by go_num,h1,λi y hi hy=>?_,by trivial⟩;rcases Nat.lt_or_eq_of_le (bz hi)with h|rfl
     .exact HP.o i y h hy
     rw[a1.o]at hy;cases hy;exact a0
    simp[intOf];omega
  | false=>
    have a2:Op.bytesLess x.k.toList k.toList=false:=a0;have N:Aq (xs.map LE.ent) k=j:=Ib (by rw[aq];exact hj) (λi e hi I=>by
     rw[ar]at I;cases hy:xs[i]? with
     |none=>rw[hy]at I;cases I
     |some y=>rw[hy]at I;cases I;exact HP.o i y hi hy) (λe I=>by
     rw[ar,a1.o]at I;cases I;exact a0)
    have Z:=hY N;clear N;go_wp2_with fail;go_quiet (fail);go_wp2_with fail;refine eU (v:=.tuple #[j,.bool (x.k.toList==k.toList)]) (by simp[results,results47,go_sem]) rfl ?_;rw[Z.o,ar,a1.o];refine⟨?_,_,rfl⟩;rw[beq_toList];simp[LE.ent]
 have g1:¬(j:Int)<(xs.length:Int):=oM
 obtain rfl:j=xs.length:=oM
 have N:Aq (xs.map LE.ent) k=xs.length:=Ib (by rw[aq];exact ao _) (λi e hi I=>by
  rw[ar]at I;cases hy:xs[i]? with
  |none=>rw[hy]at I;cases I
  |some y=>rw[hy]at I;cases I;exact HP.o i y hi hy) (λe I=>by
  rw[ar,aN (ao _)]at I;cases I)
 have Z:=hY N;clear N;go_wp2_with fail;refine eU (v:=.tuple #[xs.length,false]) (by simp[results,results47,go_sem]) rfl ?_;rw[Z.o];exact⟨oO,0,rfl⟩
def Nr{es:List AD}(hs:Sorted es)(k:AA):decide ((es[Aq es k]?).map Prod.fst=some k)=(AH es k).isSome:=by
 rw[I9 hs];cases N:es[Aq es k]? with
 |none=>simp
 |some e=>by_cases I:e.1=k<;>simp[I]
def PH(o:Option Val)(w:AB)(e:AC)(w':AB):Prop:=
 ∃sl so,e=.returned (.tuple #[AS (o.getD zeroV) sl so,.bool o.isSome])/\Ext w w'/\RV w' (Lt w.heap.size) (o.getD zeroV) sl so
def lH(F:Nat->Prop)(o:Option Val)(w:AB)(e:AC)(w':AB):Prop:=
 ∃sl so,e=.returned (.tuple #[AS (o.getD zeroV) sl so,.bool o.isSome])/\Ext w w'/\RV w' F (o.getD zeroV) sl so
def RU{M:Nat}{es:List AD}(h:MapAt H w M es)(a5:Sorted es)(k:AA):Calls prog 97 #[.pointer (some M),k] w (lH (NH H w) (AH es k) w):=by
 have a7:=gB w 54 #[.int .i64 0,.bool false,.int .i64 0,.string ByteArray.empty,.slice none 0 0,.slice none 0 0];have a4:Ext w (w.alloc (.cells #[.int .i64 0,false,.int .i64 0,ByteArray.empty,.slice none 0 0,.slice none 0 0] 54)):=(gz w).alloc _ _;have a3:=NT (h.ext a4) k;rw[Nr a5]at a3;have I:=I9 a5 k;obtain⟨-,s,xs,hb,hs,rfl⟩:=h;obtain⟨HS,HB,a2,a0⟩:=Ye hs hb a4 a3;obtain⟨p,hp⟩:∃p,Aq (xs.map LE.ent) k=p:=⟨_,rfl⟩;rw[hp]at I;have HP:=hY hp;have b5:=hs.few;clear hb hs a3 a4 hp;cases hg:AH (xs.map LE.ent) k with
 | none=>
   rw[hg]at a0;clear I hg;go_in;go_wp2_with fail;refine a0.o.mono ?_;rintro e w2 ⟨rfl,q,rfl⟩;go_wp2_with fail;have Z:=a7.ext ((gz _).drewN q);obtain⟨c0,c1,c2,c3,c4,c5⟩:=Z.c6;have a1:=hY (a2.o.drewN q);generalize World.drewN _ q=W2 at *;clear a0 Z;refine eU (v:=.tuple #[.agg #[.int .i64 0,.bool false,.int .i64 0,.string ⟨#[]⟩,.slice none 0 0,.slice none 0 0],.bool false]) (by simp[results,results97,go_sem,c0,c1,c2,c3,c4,c5]) rfl ?_;exact⟨Sl.none,Sl.none,rfl,a1.o.BN (b:=w) (ao _) 0 zeroV Sl.none Sl.none,RV.flat _ _ _ _ _ _ oN oN oN⟩
 | some v=>
   have b0:∃x,xs[p]? = some x/\x.v=v:=by
    rw[hg,ar]at I;cases hx:xs[p]? with
    |none=>rw[hx]at I;cases I
    | some x=>
      rw[hx]at I;simp only[Option.map_some,Option.bind_some]at I;by_cases hk:x.ent.1=k
      .rw [eN hk]at I;cases I;exact⟨x,rfl,rfl⟩
      rw[eL hk]at I;cases I
   obtain⟨x,hx,rfl⟩:=b0;rw[hg,HP.o]at a0;have b6:p<xs.length:=(ai.1 hx).1;have b7:(p:Int)<(xs.length:Int):=oM
   have b3:=HB.o.ext a2.o;obtain⟨g,o,a6,lg,b4,a8,-,⟨v0,v1,v2,v3,v4,v5⟩,rx,-⟩:=HS.o.at hx;obtain⟨sa,sc⟩:=s;dsimp only at a6 b4 a8;subst a6;have a9:=hY rx;have lg:g<w:=lg.1;have lM:=HB.o.lt;have m0:w.cell? M=some (.slice (some ⟨g,o,none⟩) xs.length sc):=HB.o.cell 0;clear I hg hx b3 rx;go_in;go_wp2_with fail;refine a0.o.mono ?_;rintro e w2 ⟨rfl,q,rfl⟩;have Z:=a7.ext ((gz _).drewN q);obtain⟨c0,c1,c2,c3,c4,c5⟩:=Z.c6;have N:=a2.o.drewN q
   replace m0:=(N.cell lM).trans m0
   replace v0:=(N.cell lg).trans v0
   replace v1:=(N.cell lg).trans v1
   replace v2:=(N.cell lg).trans v2
   replace v3:=(N.cell lg).trans v3
   replace v4:=(N.cell lg).trans v4
   replace v5:=(N.cell lg).trans v5
   have l2:=Z.lt;have f4:=Z.frozen;have a1:=hY N;generalize World.drewN _ q=W2 at *;clear a0 Z N;go_wp2_with fail;refine eU (v:=.tuple #[AS x.v x.sl x.so,true]) (by simp[results,results97,go_sem,c0,c1,c2,c3,c4,c5]) rfl ?_;exact⟨x.sl,x.so,rfl,a1.o.BN (b:=w) (ao _) 0 x.v x.sl x.so,(a9.o.agree (a1.o.agree λ_ h=>h.1)).agree (Eo W2 w.heap.size 0 x.v x.sl x.so (F:=NH H w) λh=>dd _ h.1)⟩
def MH{M:Nat}{es:List AD}(h:MapAt H w M es)(I:Sorted es)(k:AA):Calls prog 97 #[.pointer (some M),k] w (PH (AH es k) w):=
 (RU h I k).mono λe w' ⟨sl,so,h1,h2,h3⟩=>⟨sl,so,h1,h2,h3.mono λi hi=>hi.1⟩
def Sc(H:Nat->Prop)(M:Nat)(es:List AD)(w:AB)(e:AC)(w':AB):Prop:=
 (∃r,e=.returned r)/\MapAt H w' M es/\St (λb=>b=M) w w'
variable{o:Nat}
def Wr.cell0{w w' I:AB}{row:Option Nat}(h:Wr w' I row)(N:Ext w w'){M:Nat}(hn:row≠some M)(Z:M<w.heap.size):I.cell? ⟨M,o,none⟩=w.cell? ⟨M,o,none⟩/\M<I.heap.size:=
 ⟨((h.agree (F:=λb=>b=M) (λi hi=>by subst hi;exact ab Z N.size) (λk hk e=>hn (e▸hk))).cell rfl).trans (N.cell Z),ab Z (an N.size h.grown.size)⟩
def Cn(xs:List LE)(p q:Nat)(x:LE):List LE:=(xs.take p++[x])++xs.drop q
def oR{k:AA}(hs:Sorted (xs.map LE.ent))(x:LE)(Z:x.k=k){p q:Nat}(N:Aq (xs.map LE.ent) k=p)(I:q=if(((xs.map LE.ent)[p]?).map Prod.fst=some k)then p+1 else p):(Cn xs p q x).map LE.ent=AU (xs.map LE.ent) k x.v:=by
 rw[PE hs,N,Cn];subst Z I;simp only[List.map_append,List.map_take,List.map_drop,List.map_cons,List.map_nil,List.append_assoc,List.singleton_append];congr 2;split<;>rfl
variable{w3:AB}{s3:Sl}{x:LE}
def kR{M:Nat}{p q:Nat}{es:List AD}(hm:H M)(hH:∀b,H b->b<w.heap.size)(hb:AE w M 44 #[.slice s.a xs.length s.c])(hs:ES w (NH H w) s xs)(hv:RV w (NH H w) x.v x.sl x.so)(hk:x.k.size<=maxLen)
  (hx:Ext w w3) (a1:w3.ownsRow w.heap.size 65 7 (.slice s3.a (Cn xs p q x).length s3.c) (Cn xs p q x).length (AP (Cn xs p q x))) (hf:(Cn xs p q x).length*104<=140737488355328) (he:(Cn xs p q x).map LE.ent=es) :
  MapAt H (w3.setCell M (.slice s3.a (Cn xs p q x).length s3.c)) M es/\St (λb=>b=M) w (w3.setCell M (.slice s3.a (Cn xs p q x).length s3.c)):=by
 have a4:=hb.lt;have N:St (λb=>b=M) w (w3.setCell M (.slice s3.a (Cn xs p q x).length s3.c)):=(hx.st (λb=>b=M)).set (p:=⟨M,0,none⟩) (.inr rfl) _;have a0:Agree (NH H w) w (w3.setCell M (.slice s3.a (Cn xs p q x).length s3.c)):=N.agree.mono λi hi=>⟨hi.1,λe=>hi.2 (e▸hm)⟩
 have Z:∀i,NH H w i->NH H (w3.setCell M (.slice s3.a (Cn xs p q x).length s3.c)) i:=λi hi=>⟨Nat.lt_of_lt_of_le hi.1 N.size,hi.2⟩
 have a2:Agree (In w.heap.size w3.heap.size) w3 (w3.setCell M (.slice s3.a (Cn xs p q x).length s3.c)):=gD w3 M _ (λh=>by have h1:w.heap.size<=M:=h.1;omega);refine⟨⟨hm,s3,Cn xs p q x,?_,⟨?_,?_,hf⟩,he⟩,N⟩
 .exact (hb.ext hx).AX 0 _
 .exact ((gF a1).agree a2).mono λi hi=>⟨by rw[eX];exact hi.2,λh=>by have:=hH i h;have:=hi.1;omega⟩
 intro y I;have I:y∈(xs.take p++[x])++xs.drop q:=I;have a3:y∈xs\/y=x:=by
  rcases aL.1 I with I|I
  ·rcases aL.1 I with I | I
   .exact .inl (bj I)
   exact .inr (aV.1 I)
  exact .inl (aS I)
 rcases a3 with I|rfl
 .exact ⟨((hs.vals y I).1.agree a0).mono Z,(hs.vals y I).2⟩
 exact⟨(hv.agree a0).mono Z,hk⟩
section
variable{P : Program}{w : AB}
def T6{ops:Array Oper}{rest:List Oper}{o:Oper}{a:Act}{Q:Exit->Act->AB->Prop}(a4:o.guard=none)(s' x:Operand)(t:TypeId)
  (ho:o.op=.call { callee:=.builtin .append,args:=#[s',x],argTypes:=#[t,t] })
  (base:Nat) (e:TypeId) (i:TypeInfo) (z:Value) (size I:Nat) (ht:P.underlying t=some (.slice e)) (hi:P.info? e=some i) (hz:i.zero=some z)
  (a1:i.size=size) (a6:i.bytes=I) (a5:z.cells.size=size) (a3:0<size) (hs:a.eval s'=.slice none 0 0)
  (F:Nat->Prop) (sx:Sl) (m:Nat) (N:List Value) (hx:a.eval x=.slice sx.a m sx.c) (a2:Rd w F size sx m N) (h1:∀u∈N,u.oneCell'=true)
  (a7:m<=maxLen) (Z:m*I<=140737488355328) (a0:base<=w.heap.size)
  (h:∀(s':Sl) (w':AB),w'.ownsRow base e size (.slice s'.a m s'.c) m N->Ext w w'->wpList P ops Q rest (a.put o.dst (.slice s'.a m s'.c)) w'):wpList P ops Q (o::rest) a w:=
 Bq w a4 s' x t ho base e i z size I ht hi hz a1 a6 a5 a3 Sl.none 0 [] hs (e9 _ _ _ _) F sx m N hx a2 h1 oM (by rw[aF];exact Z) a0 λs2 w2 h2 h3 _=>by
  rw[aF,aG]at h2;rw[aF];exact h s2 w2 h2 ((gz w).wr h3 (λi hi=>by cases hi))
end
section
variable{P : Program}{w : AB}{ops : Array Oper}{rest : List Oper}{o : Oper}{a : Act}{Q : Exit -> Act -> AB -> Prop}
def X9(a0:o.guard=none)(x lo:Operand)(t e:TypeId)(size:Nat)(ho:o.op=.slice t x (some lo) none none)(N:P.underlying t=some (.slice e)){i:TypeInfo}(hi:P.info? e=some i)(Z:i.size=size)
  (s:Sl) (n l:Nat) (hx:a.eval x=.slice s.a n s.c) (hl:a.eval lo=.int .i64 l) (hn:l<=n)
  (h:∀s':Sl,s'.a=(if s.c=l then s.a else s.a.map (·.add (l*size)))->s'.c=s.c-l->wpList P ops Q rest (a.put o.dst (.slice s'.a (n-l) s'.c)) w):wpList P ops Q (o::rest) a w:=
 fY a0 λ_ hK=>by
  have I:P.elem t=e:=by simp[Program.elem,N]
  have hs:(Go.sizeOf e).run P w=.ok size w:=by simp[Go.sizeOf,typeInfo,hi,Z]
  have hr:=Go.run_slice_l (P:=P) (w:=w) t s.a n s.c (by rw[I];exact N) .i64 (l:Int) oM oM;rw[I,hs]at hr;unfold Oper.wp;simp[execOp,ho,hx,hl,Instr.sliceAt,run_underlying N,hr,Result.andThen,sliced];exact hK _ _ (h ⟨_,_⟩ rfl rfl)
def nV(a0:o.guard=none)(x N:Operand)(t e:TypeId)(ho:o.op=.slice t x none (some N) none)(Z:P.underlying t=some (.slice e)){i:TypeInfo}(hi:P.info? e=some i)
  (s:Sl) (n l:Nat) (hx:a.eval x=.slice s.a n s.c) (hl:a.eval N=.int .i64 l) (hn:l<=s.c)
  (h:wpList P ops Q rest (a.put o.dst (.slice s.a l s.c)) w):wpList P ops Q (o::rest) a w:=
 fY a0 λ_ hK=>by
  have I:P.elem t=e:=by simp[Program.elem,Z]
  have hs:(Go.sizeOf e).run P w=.ok i.size w:=by simp[Go.sizeOf,typeInfo,hi]
  have hr:=Go.run_slice_h (P:=P) (w:=w) t s.a n s.c (by rw[I];exact Z) .i64 (l:Int) oM oM;rw[I,hs]at hr;have h0:(if s.c=0 then s.a else s.a.map (·.add 0))=s.a:=by
   cases s.a<;>simp[Addr.add]
  unfold Oper.wp;simp[execOp,ho,hx,hl,Instr.sliceAt,run_underlying Z,hr,Result.andThen,sliced,h0];exact hK _ _ h
end
def Rd.cut{size n m:Nat}(h:Rd w F size s n cs)(hm:m<=n)(ha:s'.a=if s.c=m then s.a else s.a.map (·.add (m*size)))(N:s'.c=s.c-m):Rd w F size s' (n-m) (cs.drop (m*size)):=by
 obtain⟨b,o,h1,h2,h3⟩:=h;obtain⟨sa,sc⟩:=s';dsimp only at ha N;subst ha N;refine⟨b,o+m*size,?_,by rw[az,h2,<-dx],λj u Z=>?_⟩
 ·cases h1 with
  | nil=>
    obtain rfl:m=0:=oM
    exact .nil _ _
  | some _ cc _ _ h4 h5 h6=>
    dsimp only;by_cases I:cc=m
    ·subst I
     rw[eN rfl,cE,show n-cc=0 by omega];exact .zero _ _ _
    rw[eL I,bM,Cb];exact .some _ _ _ _ oM oM h6
  | zero a=>
    obtain rfl:m=0:=oM
    exact .zero _ _ _
 rw[bm]at Z;rw[bH];exact h3 _ u Z
def BV.cap{n b o:Nat}(h:BV F s n b o):n<=s.c:=by
 cases h with
 |nil=>exact aw _
 |some _ cc _ _ h4 h5 h6=>exact h4
 |zero a=>exact aw _
variable{sl so:Sl}
def LD{M:Nat}{es:List AD}(h:MapAt H w M es)(hH:∀b,H b->b<w.heap.size)(b8:Sorted es)(hc:es.length<=1000000){k:AA}(hk:k.size<=maxLen){v:Val}(hv:RV w (NH H w) v sl so) :
  Calls prog 29 #[.pointer (some M),k,AS v sl so] w (Sc H M (AU es k v) w):=by
 obtain⟨i0,hi,b4,a6,b5⟩:=eZ Tryz.DK;have b0:=λW (hW:Ext w W)=>NT (h.ext hW) k
 have g4:=Mc es k;obtain⟨hm,s,xs,hb,hs,N⟩:=h;obtain⟨p,hp⟩:∃p,Aq es k=p:=⟨_,rfl⟩;obtain⟨f,hf⟩:∃f,decide ((es[p]?).map Prod.fst=some k)=f:=⟨_,rfl⟩;rw[hp,hf]at b0;have e1:xs.length=es.length:=by rw[<-N,aq]
 obtain⟨q,hq⟩:∃q,(if f=true then p+1 else p)=q:=⟨_,rfl⟩;have b3:q=if((es[p]?).map Prod.fst=some k)then p+1 else p:=by
  rw[<-hq,<-hf];simp only[decide_eq_true_eq]
 have d0:q<=xs.length:=by
  rw[b3];split
  ·rename_i he
   have:p<es.length:=by
    rcases eh p es.length with h|h
    .exact h
    rw[aN h]at he;cases he
   omega
  omega
 have c8:p<=xs.length:=oM
 obtain⟨x,hx⟩:∃x:LE,x=⟨k,v,sl,so⟩:=⟨_,rfl⟩;have I:(Cn xs p q x).length=p+1+(xs.length-q):=by
  simp only[Cn,List.length_append,List.length_take,List.length_drop,List.length_cons,List.length_nil];omega
 have c9:AP (Cn xs p q x)=(AP (xs.take p)++x.cells)++AP (xs.drop q):=by rw[Cn,D5,D5,show AP [x]=x.cells from by simp[AP]]
 have e8:=hY (show ∀(w3:AB) (s3:Sl),Ext w w3->w3.ownsRow w.heap.size 65 7 (.slice s3.a (p+1+(xs.length-q)) s3.c) (p+1+(xs.length-q)) ((AP (xs.take p)++x.cells)++AP (xs.drop q))->_ fromλw3 s3 h1 h2=>by
  have h3:=kR (w3:=w3) (s3:=s3) (p:=p) (q:=q) (x:=x) (es:=AU es k v) hm hH hb hs (by rw[hx];exact hv) (by rw[hx];exact hk) h1 (by rw[I,c9];exact h2) (by rw[I];omega) (by
   have:=oR (xs:=xs) (k:=k) (by rw[N];exact b8) x (by rw[hx]) (p:=p) (q:=q) (by rw[N];exact hp) (by rw[N];exact b3);rw[this,N,hx])
  rw[I]at h3;exact h3)
 have b7:=λ(W:AB) (hW:Ext w W)=>((hs.mono (G:=Lt w) λi hi=>hi.1).agree (hW.agree λ_ h=>h)).rd
 obtain⟨gs,os,d9,-,-⟩:=hs.rd;have f5:=an c8 d9.cap;obtain⟨g0,f9,HB,d8,HQ,g9⟩:=Yg (λW (hW:Ext w W)=>by have h:=(b7 W hW).take c8;rwa[IP]at h) (λW (hW:Ext w W) (s':Sl) ha hc=>by have h:=(b7 W hW).cut (s':=s') d0 ha hc;rwa[IC]at h) hb b0 hq (hb.frozen 0);have i1:xs.length<=1000000:=oM
 have c7:p<=maxLen:=by unfold maxLen;omega
 have e3:p*104<=140737488355328:=oM
 have e7:p+1<=maxLen:=by unfold maxLen;omega
 have d4:(p+1)*104<=140737488355328:=oM
 have f4:p+1+(xs.length-q)<=maxLen:=by unfold maxLen;omega
 have e6:(p+1+(xs.length-q))*104<=140737488355328:=oM
 clear b0 b7 I c9 hq b3 hf N e1 hs hb hv d9 hp b8 g4 hm hH hk hc;go_in;go_upto_region 1 with fail;generalize d3:World.alloc _ _=w1;obtain⟨e2,b9⟩:Ext w w1/\AE w1 w.heap.size 54 #[.int .i64 v.kind,.bool v.b,.int .i64 v.i,.string v.t,.slice sl.a v.l.length sl.c,.slice so.a v.ok.length so.c]:=by rw[<-d3];exact⟨(gz w).alloc _ _,gB w _ _⟩
 obtain⟨a9,a5⟩:=Yb e2 b9;clear d3 e2 b9;go_wp2_with fail;refine(d8.o _ a9.o).mono ?_;rintro e w2 ⟨rfl,nq,rfl⟩;have a3:=a9.o.drewN nq;obtain⟨c0,c1,c2,c3,c4,c5⟩:=(a5.o.ext ((gz w1).drewN nq)).c6;have a5:=hY (a5.o.ext ((gz w1).drewN nq));generalize World.drewN _ nq=w2 at *;have h0:w2.cell? M=some (.slice s.a xs.length s.c):=(HB.o.ext a3).cell 0;have f6:=a3.size;have d7:=hY a3;clear a3 d8 a9;go_upto_region 4 with(first |(refine nV rfl (.tmp 19) (.tmp 20) 22 65 rfl underlying22 hi s xs.length p rfl rfl f5 ?_) |(at_builtin;refine T6 rfl (.tmp 15) (.tmp 21) 22 rfl w.heap.size 65 i0 _ 7 104 underlying22 hi b4 a6 b5 rfl oN rfl (Lt w) s p (AP (xs.take p)) rfl (g0.o w2 d7.o) (Ds _) c7 e3 f6 ?_;intro s1 w3 a2 f3;have b6:=hY a2;have f2:=hY f3;clear a2 f3));have e4:=hY (d7.o.trans f2.o);have i2:=e4.o.size;obtain⟨c0,c1,c2,c3,c4,c5⟩:=(a5.o.ext f2.o).c6;obtain⟨g6,f1⟩:=Yb (gB w3 65 x.cells.toArray) (e4.o.alloc x.cells.toArray 65);have f7:=f1.o.size;have f8:=hY (AZ (w':=w3.alloc (.cells x.cells.toArray 65)) (s:=s1) b6.o (F:=Lt w3) (((gz w3).alloc _ _).agree λ_ h=>h) λb hb=>(AM (s:=s1) b6.o hb).2);subst hx;go_upto_if 29 with(at_builtin;refine Bq _ rfl (.tmp 23) (.tmp 27) 22 rfl w.heap.size 65 i0 _ 7 104 underlying22 hi b4 a6 b5 rfl oN s1 p (AP (xs.take p)) rfl f8.o (λb=>b=w3.heap.size) ⟨some w3,1⟩ 1 (LE.cells ⟨k,v,sl,so⟩) rfl (gG g6.o oN rfl) (LE.one _) e7 d4 f7 ?_;intro s2 w5 Z a7 _;have d5:=hY Z;have a4:=hY (f1.o.wr a7 λi hi=>(AM (s:=s1) b6.o hi).1);clear Z a7);have h0:w5.cell? M=some (.slice s.a xs.length s.c):=(HB.o.ext a4.o).cell 0;have g5:=a4.o.size;go_cut [6] (λv wc=>v=.int .i64 (q:Int)/\wc=w5)
 case first=>
  cases f with
  | true=>
    obtain rfl:p+1=q:=HQ.o;go_wp2_with fail;go_meet;exact⟨by go_num,rfl⟩
  | false=>
    obtain rfl:p=q:=HQ.o;go_wp2_with fail;go_meet;exact⟨rfl,rfl⟩
 obtain⟨rfl,rfl⟩:=hcut;go_wp2_with(first |(refine X9 rfl (.tmp 37) (.tmp 38) 22 65 7 rfl underlying22 hi a6 s xs.length q rfl rfl d0 ?_;intro sq d6 e0;have g8:=hY (f9.o wc a4.o sq d6 e0);clear d6 e0) |(at_builtin;refine Bq _ rfl (.tmp 33) (.tmp 39) 22 rfl w.heap.size 65 i0 _ 7 104 underlying22 hi b4 a6 b5 rfl oN s2 (p+1) _ rfl d5.o (Lt w) sq (xs.length-q) (AP (xs.drop q)) rfl g8.o (Ds _) f4 e6 g5 ?_;intro s3 w6 a1 a8 _;have a0:=a4.o.wr a8 (λi hi=>(AM (s:=s2) d5.o hi).1);have h0:w6.cell? M=some (.slice s.a xs.length s.c):=(HB.o.ext a0).cell 0;have f0:=(HB.o.ext a0).frozen 0;have l0:=(HB.o.ext a0).lt;have g7:=hY a1;have g3:=hY a0;clear a1 a8 a0));go_end0;exact⟨⟨_,rfl⟩,e8.o w6 s3 g3.o g7.o⟩
abbrev fV:=@bne_eq_false_iff_eq
def VH(w:AB)(a b:Int):Calls prog 45 #[a,b] w λe w'=>e=.returned (As a b)/\w=w':=by
 by_cases h:a<b
 ·have I:As a b = -1:=by simp [As,h]
  rw[I];go_in;go_wp2_with fail;go_ret;exact⟨rfl,rfl⟩
 by_cases N:b<a
 ·have I:As a b=1:=by simp [As,h,N]
  rw[I];go_in;go_wp2_with fail;go_ret;exact⟨rfl,rfl⟩
 have I:As a b=0:=by simp[As,h,N]
 rw[I];go_in;go_wp2_with fail;go_ret;exact⟨rfl,rfl⟩
def LY(p x y:List UInt8):Op.bytesLess (p++x) (p++y)=Op.bytesLess x y:=by
 induction p with
 |nil=>rfl
 |cons a p ih=>simp[Op.bytesLess,ih]
def Jm{a:AA}{i:Nat}(h:i<a.size):a.toList[i]? = some a[i]:=by
 rw[eY];obtain⟨d⟩:=a;have h:i<d.size:=h;show d.toList[i]? = some d[i];simp[h]
def SH(a:AA):a.toList.length=a.size:=by
 rw[eY];rfl
def XV{a b:AA}{i:Nat}(ha:i<a.size)(hb:i<b.size)(hp:a.toList.take i=b.toList.take i)(I:a[i]≠b[i]):BU a b=As (a[i].toNat:Int) (b[i].toNat:Int):=by
 have e1:a.toList=a.toList.take i++a[i]::a.toList.drop (i+1):=by
  have h:=Jm ha;obtain⟨h1,h2⟩:=ai.1 h
  conv=>lhs;rw[<-aX i a.toList,aE h1,h2]
 have e2:b.toList=a.toList.take i++b[i]::b.toList.drop (i+1):=by
  have h:=Jm hb;obtain⟨h1,h2⟩:=ai.1 h
  conv=>lhs;rw[<-aX i b.toList,aE h1,h2]
  rw[hp]
 unfold BU klt;generalize a[i]=x at *;generalize b[i]=y at *;have a0:∀(P u v A B:List UInt8),A=P++x::u->B=P++y::v->Op.bytesLess A B=decide (x<y)/\Op.bytesLess B A=decide (y<x):=by
  rintro P u v A B rfl rfl;have Z:¬x=y:=I;have N:¬y=x:=λh=>I h.symm
  rw[LY,LY];exact⟨by simp[Op.bytesLess,Z],by simp[Op.bytesLess,N]⟩
 obtain⟨k1,k2⟩:=a0 _ _ _ _ _ e1 e2;rw[k1,k2];unfold As;have h1:(x<y)↔((x.toNat:Int)<(y.toNat:Int)):=by rw[UInt8.lt_iff_toNat_lt];omega
 have h2:(y<x)↔((y.toNat:Int)<(x.toNat:Int)):=by rw[UInt8.lt_iff_toNat_lt];omega
 simp only[decide_eq_true_eq,h1,h2]
def O2{a b:AA}(I:a.toList.take (min a.size b.size)=b.toList.take (min a.size b.size)):BU a b=As (a.size:Int) (b.size:Int):=by
 have la:=SH a;have N:=SH b;rcases Nat.lt_trichotomy a.size b.size with h|h|h
 ·have e:b.toList=a.toList++b.toList.drop a.size:=by
   rw[bL (bY h),<-la,aR,la]at I
   conv=>lhs;rw[<-aX a.size b.toList,<-I]
  obtain⟨c,r,hr⟩:∃c r,b.toList.drop a.size=c::r:=by
   cases hd:b.toList.drop a.size with
   |nil=>have:=congrArg List.length hd;rw[az,N]at this;simp at this;omega
   |cons c r=>exact⟨c,r,rfl⟩
  have Z:klt a b=true:=by
   unfold klt;rw[e,hr]
   conv=>lhs;arg 1;rw[<-aY a.toList]
   rw[LY];rfl
  unfold BU As;rw[eN Z,eN oM]
 ·have e:a=b:=toList_inj (by rw [h,Nat.min_self,←N] at I;rw [aR] at I;rw [←I,N,←h,←la,aR])
  subst e;rw[Lh,R8]
 have e:a.toList=b.toList++a.toList.drop b.size:=by
  rw[Nat.min_eq_right (bY h)]at I
  conv=>lhs;rw[<-aX b.size a.toList,I,<-N,aR]
  rw[N]
 obtain⟨c,r,hr⟩:∃c r,a.toList.drop b.size=c::r:=by
  cases hd:a.toList.drop b.size with
  |nil=>have:=congrArg List.length hd;rw[az,la]at this;simp at this;omega
  |cons c r=>exact⟨c,r,rfl⟩
 have Z:klt b a=true:=by
  unfold klt;rw[e,hr]
  conv=>lhs;arg 1;rw[<-aY b.toList]
  rw[LY];rfl
 unfold BU As;rw[eL (by rw[Ej Z];simp),eN Z,eL oM,eN oM]
def Pt(w:AB)(a b:AA)(ha:a.size<=maxLen)(hb:b.size<=maxLen):Calls prog 46 #[a,b] w λe w'=>e=.returned (BU a b)/\Ext w w':=by
 have hn:∀W x y,Calls prog 45 #[.int .i64 x,.int .i64 y] W λe w'=>e=.returned (.int .i64 (As x y))/\W=w':=VH
 unfold maxLen at ha hb;have HN:=hY hn;clear hn;go_in;go_wp2_with fail;go_loopw[5] (λq wr=>∃i:Nat,q=.int .i64 i/\i<=a.size/\i<=b.size/\a.toList.take i=b.toList.take i/\Ext w wr) (λq _=>a.size -(intOf q).toNat)
 case atStart=>exact⟨0,rfl,aw _,aw _,rfl,gz w⟩
 obtain⟨i,rfl,a5,a4,Z,hx⟩:=hrel;by_cases h1:i<a.size
 ·by_cases h2:i<b.size
  ·have g1:(i:Int)<(a.size:Int):=oM
   have g2:(i:Int)<(b.size:Int):=oM
   obtain⟨HP,HX⟩:=Yb Z hx;clear Z hx;go_wp2_with fail;go_quiet (fail);go_wp2_with fail
   case _=>
    have I:(((a[i].toNat:Nat):Int) !=((b[i].toNat:Nat):Int))=true:=by assumption
    have N:a[i]≠b[i]:=λe=>by rw[e]at I;simp at I
    have HT:=hY (XV h1 h2 HP.o N);have a1:wrap64 ((a[i].toNat:Nat):Int)=((a[i].toNat:Nat):Int):=by have:=a[i].toNat_lt;unfold wrap64;omega
    have a0:wrap64 ((b[i].toNat:Nat):Int)=((b[i].toNat:Nat):Int):=by have:=b[i].toNat_lt;unfold wrap64;omega
    obtain⟨a3,a2⟩:=Yb a1 a0;clear N a1 a0;go_quiet ((go_at_call 45;refine(HN.o _ _ _).mono ?_;rintro e w2 ⟨rfl,rfl⟩;exact⟨rfl,_,rfl⟩));go_wp2_with fail;go_ret;rw[HT.o,a3.o,a2.o];exact⟨rfl,(HX.o.drewN _).drewN _⟩
   case roundEnd=>
    have I:(((a[i].toNat:Nat):Int) !=((b[i].toNat:Nat):Int))=false:=by assumption
    have he:a[i]=b[i]:=UInt8.toNat_inj.1 (by have h:=fV.1 I;omega);refine⟨⟨i+1,oO,oM,oM,?_,HX.o.drewN _⟩,?_⟩
    .rw [aK,aK,Jm h1,Jm h2,HP.o,he]
    simp[intOf];omega
  have g1:(i:Int)<(a.size:Int):=oM
  have g2:¬(i:Int)<(b.size:Int):=oM
  obtain rfl:i=b.size:=oM
  obtain⟨HT,HX⟩:=Yb (O2 (a:=a) (b:=b) (by rw[Nat.min_eq_right a5];exact Z)) hx;clear Z hx;go_wp2_with fail;refine(HN.o _ _ _).mono ?_;rintro e w2 ⟨rfl,rfl⟩;go_wp2_with fail;go_ret;rw[HT.o];exact⟨rfl,HX.o⟩
 have g1:¬(i:Int)<(a.size:Int):=oM
 obtain rfl:i=a.size:=oM
 obtain⟨HT,HX⟩:=Yb (O2 (a:=a) (b:=b) (by rw[bL a4];exact Z)) hx;clear Z hx;go_wp2_with fail;refine(HN.o _ _ _).mono ?_;rintro e w2 ⟨rfl,rfl⟩;go_wp2_with fail;go_ret;rw[HT.o];exact⟨rfl,HX.o⟩
section
variable{P : Program}{ops : Array Oper}{Q : Exit -> Act -> AB -> Prop}{md : Region.Mode}{S : AB -> Prop}
def Ff(i:Nat)(d:Option Tmp)(ty:TypeId)(x:Operand){b o:Nat}{cs:Array Value}{ds:TypeDesc}{Z:Oper}{N:Nat}{I l':Array Bool}{a a':Act}{w:AB}(hC:Yd (∀W,S W->W.rangeAt b o cs.toList))(hS:S w)
  (hT:P.underlying ty=some ds/\ds.isRow=true/\(P.info? ty).map (·.size)=some cs.size) (h:wpAnyH P md ops Q S N l' a' w)
  (hi:ops[i]? = some Z:=by rfl) (ho:Z.op=.load ty x:=by rfl) (hx:a.eval x=.pointer (some ⟨b,o,none⟩):=by rfl) (hd:Z.dst=d:=by rfl) (hs:Region.noSelect ops=true:=by kernel_rfl) (hf:Region.free md ops I i=true:=by kernel_rfl) (hr:(Region.ready md ops I).contains i=true:=by kernel_rfl)
  (hQ:∀c a w,Q (.panic c) (a.put d (.agg cs)) w->Q (.panic c) a w:=by exactλ_ _ _ h=>h) (hw:Region.wanted Z (yielded ops a.tmps)=true:=by rfl)
  (hl:I.setIfInBounds i true=l':=by first |(simp only[List.setIfInBounds_toArray,List.set_cons_zero,List.set_cons_succ];rfl)|rfl)
  (hp:a.put d (.agg cs)=a':=by first |(go_frame;rfl)|rfl):wpAnyH P md ops Q S (N+1) I a w:=by
 subst hl hp;refine Mk hi hd hs hf hr hQ hw hS (λW hW=>?_) h;unfold execOp;simp only[ho,hx,Instr.loadAt,Instr.sureAddr,Sem.run_bind,Sem.run_pure,Result.andThen_ok,run_loadVar_mid W b o ty cs.toList ds (hC.out W hW) hT.1 hT.2.1 (by rw[Array.length_toList];exact hT.2.2),Array.toArray_toList]
end
def Ju{b t n:Nat}{cs:Array Value}(h:AE w b t cs)(N:n<=cs.size):w.there b 0 n:=λj I=>
 ⟨by rw[h.cell];simp;omega,h.frozen _⟩
def Ext.setCells{w:AB}{b:Nat}(I:w<=b):∀(vs:List Value) (o:Nat) {W:AB},Ext w W->Ext w (W.setCells b o vs)
 |[],_,_,h=>h
 | v :: vs,o,W,h=>by
   rw[World.setCells];exact Ext.setCells I vs (o+1) (h.setCell (p:=⟨b,o,none⟩) I v)
abbrev eV:=@wp_region_held_drew
abbrev fa:=@wpAnyH_done
abbrev fg:=@bne_iff_ne
def DO(n:Int)(w:AB)(e:AC)(w':AB):Prop:=e=.returned (.int .i64 n)/\Ext w w'
def UM{l l':List Val}{a b:Val}(N:l[j]? = some a)(I:l'[j]? = some b):cmpL (l.drop j) (l'.drop j)=if AW a b≠0 then AW a b else cmpL (l.drop (j+1)) (l'.drop (j+1)):=by
 obtain⟨h1,rfl⟩:=ai.1 N;obtain⟨h2,rfl⟩:=ai.1 I;rw[aE h1,aE h2];simp only[cmpL]
def PS{l l':List Val}(h:j=l.length\/j=l'.length)(h1:j<=l.length)(h2:j<=l'.length):cmpL (l.drop j) (l'.drop j)=As (l.length:Int) (l'.length:Int):=by
 by_cases ha:j=l.length
 ·have N:l.drop j=[]:=bQ.2 oM
  rw[N];simp only[cmpL,List.length_drop];unfold As;by_cases I:l'.length-j=0
  .rw [eN I,eL oM,eL oM]
  rw[eL I,eN oM]
 obtain⟨a,r,Z⟩:∃a r,l.drop j=a::r:=by
  cases hd:l.drop j with
  |nil=>have:=bQ.1 hd;omega
  |cons a r=>exact⟨a,r,rfl⟩
 have e2:l'.drop j=[]:=bQ.2 oM;rw[Z,e2];simp only[cmpL];unfold As;rw[eL oM,eN oM]
def U4{l l':List Val}{k k':List AA}{a b:Val}{x y:AA}(ha:l[j]? = some a)(I:l'[j]? = some b)(hx:k[j]? = some x)(N:k'[j]? = some y) :
  Bn (l.drop j) (k.drop j) (k'.drop j) (l'.drop j)=if BU x y≠0 then BU x y else if AW a b≠0 then AW a b else Bn (l.drop (j+1)) (k.drop (j+1)) (k'.drop (j+1)) (l'.drop (j+1)):=by
 obtain⟨h1,rfl⟩:=ai.1 ha;obtain⟨h2,rfl⟩:=ai.1 I;obtain⟨Z,rfl⟩:=ai.1 hx;obtain⟨h4,rfl⟩:=ai.1 N;rw[aE h1,aE h2,aE Z,aE h4];simp only[Bn,List.headD_cons,List.tail_cons];rfl
def VC{l l':List Val}{k k':List AA}(h:j=l.length\/j=l'.length)(h1:j<=l.length)(h2:j<=l'.length):Bn (l.drop j) (k.drop j) (k'.drop j) (l'.drop j)=As (l.length:Int) (l'.length:Int):=by
 by_cases ha:j=l.length
 ·have N:l.drop j=[]:=bQ.2 oM
  rw[N];simp only[Bn,List.length_drop];unfold As;by_cases I:l'.length-j=0
  .rw [eN I,eL oM,eL oM]
  rw[eL I,eN oM]
 obtain⟨a,r,Z⟩:∃a r,l.drop j=a::r:=by
  cases hd:l.drop j with
  |nil=>have:=bQ.1 hd;omega
  |cons a r=>exact⟨a,r,rfl⟩
 have e2:l'.drop j=[]:=bQ.2 oM;rw[Z,e2];simp only[Bn];unfold As;rw[eL oM,eN oM]
def Nv(d:Val)(sl so:Sl):Array Value:=#[.int .i64 d.kind,.bool d.b,.int .i64 d.i,.string d.t,.slice sl.a d.l.length sl.c,.slice so.a d.ok.length so.c]
def BR.rng{b o:Nat}{d:Val}(h:BR w b o d sl so):w.rangeAt b o (Nv d sl so).toList:=λj u hu=>by
 obtain⟨I,h1,h2,h3,N,Z⟩:=h
 match j,hu with
 |0,rfl|1,rfl|2,rfl|3,rfl|4,rfl|5,rfl=>assumption
 |n+6,hu=>simp[Nv]at hu
def Tryz.nt:(prog.info? 54).map (·.size)=some 6:=kM
def Ts(d:Val)(sl so:Sl):∃D,prog.underlying 54=some D/\D.isRow=true/\(prog.info? 54).map (·.size)=some (Nv d sl so).size:=⟨_,underlying54,rfl,Tryz.nt⟩
def Gf(m:Nat):∀(x y:Val),SizeOf.sizeOf x<=m->∀(w:AB) (sl so sl' so':Sl),RV w (Lt w.heap.size) x sl so->RV w (Lt w.heap.size) y sl' so'->
  Calls prog 28 #[AS x sl so,AS y sl' so'] w (DO (AW x y) w):=by
 induction m with
 |zero=>intro d y hd;have:=Val.CM d;omega
 |succ m ih=>
 intro x y hd w sl so sl' so' h h';have HI:=hY ih;clear ih;have hn:∀W a b,Calls prog 45 #[.int .i64 a,.int .i64 b] W λe w'=>e=.returned (.int .i64 (As a b))/\W=w':=VH
 have HN:=hY hn;clear hn;obtain⟨k,b,i,t,l,ok,ov⟩:=x;obtain⟨k',b',i',t',l',a0,a7⟩:=y;show Calls _ _ #[.agg #[k,.bool b,.int .i64 i,t,.slice sl.a l.length sl.c,.slice so.a ok.length so.c],.agg #[k',b',i',t',.slice sl'.a l'.length sl'.c,.slice so'.a a0.length so'.c]] _ _;cases h with
 |mk bl fl bo fo cl co hl ho hov el rl ek eo ro bk bi bt nl no=>
 cases h' with
 |mk bl' fl' bo' fo' cl' co' hl' ho' hov' el' rl' ek' eo' ro' bk' bi' bt' nl' no'=>
 have f2:∀(j:Nat) (d:Val),l[j]? = some d->SizeOf.sizeOf d<=m:=λj d hj=>bz (ab (Val.Ev hj) hd)
 have d9:∀(j:Nat) (d:Val),ov[j]? = some d->SizeOf.sizeOf d<=m:=λj d hj=>bz (ab (Val.E0 hj) hd)
 obtain⟨f6,i5,i4,g0,e1,i6,i2⟩:=Yh f2 d9 el rl ek eo ro;obtain⟨b7,f5,f1,c8,e8,e0,a8⟩:=Yh hov el' rl' ek' eo' ro' hov';have e2:AW (.mk k b i t l ok ov) (.mk k' b' i' t' l' a0 a7)=if k≠k' then As k k' else if k=2 then FC b b' else if k=3 then As i i' else if k=4 then BU t t' else if k=5 then cmpL l l' else if k=6 then Bn ov ok a0 a7 else 0:=by
  simp only[AW,Val.kind,Val.b,Val.i,Val.t,Val.l,Val.ok,Val.ov];rfl
 rw[e2];clear f2 d9 el rl ek eo ro hov hd el' rl' ek' eo' ro' hov' e2;obtain⟨r,hr⟩:∃r,(if k≠k' then As k k' else if k=2 then FC b b' else if k=3 then As i i' else if k=4 then BU t t' else if k=5 then cmpL l l' else if k=6 then Bn ov ok a0 a7 else 0)=r:=⟨_,rfl⟩;rw[hr];have HR:=hY hr;clear hr;go_in;go_upto_region 1 with fail;generalize e3:World.alloc (World.alloc _ _) _=W0;obtain⟨f0,g7,d7,c9⟩:=CH w _ _ _ _ W0 e3;clear e3;obtain⟨q0,q1,q2,q3,q4,q5⟩:=d7.c6;obtain⟨r0,r1,r2,r3,r4,r5⟩:=c9.c6;obtain⟨a1,b9,b8⟩:=Yc f0 d7 c9;clear f0 d7 c9 g7;by_cases c7:k=k'
 rotate_left
 ·have g8:(k != k')=true:=fg.2 c7
  have Z:=hY (HR.o.symm.trans (eN c7));clear c7;go_wp2_with fail;refine(HN.o _ _ _).mono ?_;rintro e w2 ⟨rfl,rfl⟩;go_wp2_with fail;go_ret;exact⟨by rw[Z.o]<;>rfl,a1.o⟩
 subst c7;have g8:(k != k)=false:=oO
 have N:=HR.o.symm.trans (eL λh=>h rfl);by_cases h2:k=2
 ·subst h2
  rw[eN rfl]at N;have Z:=hY N;clear N HR;cases b<;>cases b' <;>
  ·go_wp2_with fail
   go_ret;exact⟨by rw[Z.o]<;>rfl,a1.o⟩
 by_cases h3:k=3
 ·subst h3
  rw[eL h2,eN rfl]at N;have Z:=hY N;clear h2 N HR;go_wp2_with fail;refine(HN.o _ _ _).mono ?_;rintro e w2 ⟨rfl,rfl⟩;go_wp2_with fail;go_ret;exact⟨by rw[Z.o]<;>rfl,a1.o⟩
 by_cases h4:k=4
 ·subst h4
  rw[eL h2,eL h3,eN rfl]at N;have Z:=hY N;clear h2 h3 N HR;have g9:=hY (λW=>Pt W t t' bt bt');go_wp2_with fail;refine(g9.o _).mono ?_;rintro e w2 ⟨rfl,hx⟩;have HX:=hY hx;clear hx;go_wp2_with fail;go_ret;exact⟨by rw[Z.o]<;>rfl,a1.o.trans HX.o⟩
 rw[eL h2,eL h3,eL h4]at N;by_cases h5:k=5
 ·subst h5
  rw[eN rfl]at N;have Z:=hY N;clear h2 h3 h4 N HR;have i0:l.length<=140737488355328:=oM
  have e4:l'.length<=140737488355328:=oM
  go_wp2_with fail;clear q0 q1 q2 q3 q4 q5 r0 r1 r2 r3 r4 r5;go_loopw[5] (λq wr=>∃j:Nat,q=.int .i64 j/\j<=l.length/\j<=l'.length/\Yd (cmpL l l'=cmpL (l.drop j) (l'.drop j))/\Yd (Ext W0 wr)) (λq _=>l.length -(intOf q).toNat)
  case atStart=>exact⟨0,rfl,aw _,aw _,hY rfl,hY (gz W0)⟩
  obtain⟨j,rfl,d4,b5,HP,HX⟩:=hrel;obtain⟨-,-,-,-,q4,-⟩:=(b9.o.ext HX.o).c6;obtain⟨-,-,-,-,r4,-⟩:=(b8.o.ext HX.o).c6;by_cases a5:j<l.length/\j<l'.length
  rotate_left
  ·have HE:=hY (PS (l:=l) (l':=l') (j:=j) oM d4 b5)
   have a4:=hY (show ∀e:AC,e=.returned (As l.length l'.length)->DO r w e wr fromλe he=>⟨by rw[Z.o,HP.o,HE.o];exact he,a1.o.trans HX.o⟩);by_cases h1:j<l.length
   ·have g1:(j:Int)<(l.length:Int):=oM
    have g2:¬(j:Int)<(l'.length:Int):=oM
    clear a5;go_wp2_with fail;refine(HN.o _ _ _).mono ?_;rintro e w2 ⟨rfl,rfl⟩;go_wp2_with fail;go_ret;exact a4.o _ rfl
   have g1:¬(j:Int)<(l.length:Int):=oM
   clear a5;go_wp2_with fail;refine(HN.o _ _ _).mono ?_;rintro e w2 ⟨rfl,rfl⟩;go_wp2_with fail;go_ret;exact a4.o _ rfl
  obtain⟨h1,h2⟩:=a5;have g1:(j:Int)<(l.length:Int):=oM
  have g2:(j:Int)<(l'.length:Int):=oM
  obtain⟨d,hd⟩:∃d,l[j]? = some d:=⟨_,ac h1⟩;obtain⟨d',a3⟩:∃d,l'[j]? = some d:=⟨_,ac h2⟩;have HD:=hY (UM hd a3);obtain⟨sa,sc⟩:=sl;obtain⟨i3,d3⟩:=sl';obtain⟨rfl,f7,i7⟩:=hl.eq oM;obtain⟨rfl,f3,e7⟩:=hl'.eq oM;have a2:∀W,Ext wr W->Agree (Lt w.heap.size) w W:=λW hW=>((a1.o.trans HX.o).trans hW).agree λ_ h=>h
  have a6:∀W,Ext wr W->∀i,i<w.heap.size->i<W.heap.size:=λW hW i hi=>ab hi ((a1.o.trans HX.o).trans hW).size
  obtain⟨HV,d0,d5,I⟩:=Ye (λW (hW:Ext wr W)=>((i4.o j d hd).agree (a2 W hW) (hl.fits oM)).rng) (λW (hW:Ext wr W)=>((f5.o j d' a3).agree (a2 W hW) (hl'.fits oM)).rng) (λW (hW:Ext wr W)=>HI.o d d' (f6.o j d hd) W _ _ _ _ (((g0.o j d hd).agree (a2 W hW)).mono (a6 W hW)) (((f1.o j d' a3).agree (a2 W hW)).mono (a6 W hW))) (show ∀W,Ext wr W->W.cell? ⟨w.heap.size,4,none⟩=some (.slice (some ⟨bl,fl,none⟩) l.length sc)/\W.cell? ⟨w.heap.size+1,4,none⟩=some (.slice (some ⟨bl',fl',none⟩) l'.length d3) fromλW hW=>⟨((b9.o.ext HX.o).ext hW).c6.2.2.2.2.1,((b8.o.ext HX.o).ext hW).c6.2.2.2.2.1⟩);obtain⟨D,hD⟩:=Ts d (cl j).1 (cl j).2;have b4:=hY hD;clear hd a3 a2 a6 hD;go_wp2_with fail;clear q4 r4;refine eV (S:=(λw'=>Ext wr w')) kM (((gz wr).drew)) (λhHeld=>?_);refine AF 0 (some 61) I hHeld ?_;refine AF 1 (some 62) I hHeld ?_;refine AF 2 (some 63) I hHeld ?_;refine AF 3 (some 64) I hHeld ?_;refine Ff 4 (some 65) 54 (.tmp 64) HV hHeld b4.o ?_;refine AF 5 (some 66) I hHeld ?_;refine AF 6 (some 67) I hHeld ?_;refine AF 7 (some 68) I hHeld ?_;refine AF 8 (some 69) I hHeld ?_;refine Ff 9 (some 70) 54 (.tmp 69) d0 hHeld b4.o ?_;refine Af (i:=10) kM rfl (by rfl) (λK hK=>?_);go_simp
  (refine(d5.o _ hHeld).mono ?_;rintro e w2 ⟨rfl,f8⟩)
  refine hK.out _ _ (hHeld.trans f8) (λhHeld=>?_);clear hK K
  try go_frame
  refine AF 11 (some 6) I hHeld ?_;refine fa kM ?_ _;have b3:=hY (HX.o.trans hHeld);by_cases hc:AW d d'=0
  ·have d8:(AW d d' != 0)=false:=by simp [hc]
   have HC:=hY (HP.o.trans (HD.o.trans (eL λh=>h hc)));clear hc;go_wp2_with fail;go_roundw
   case rel=>exact⟨j+1,by go_num,h1,h2,HC,b3⟩
   simp[intOf];omega
  have d8:(AW d d' != 0)=true:=fg.2 hc;have HC:=hY (HP.o.trans (HD.o.trans (eN hc)));clear hc;go_wp2_with fail;go_ret;exact⟨by rw[Z.o,HC.o]<;>rfl,a1.o.trans b3.o⟩
 by_cases h6:k=6
 ·subst h6
  rw[eL h5,eN rfl]at N;have Z:=hY N;clear h2 h3 h4 h5 N HR;have i0:ok.length<=140737488355328:=oM
  have e4:a0.length<=140737488355328:=oM
  go_wp2_with fail;clear q0 q1 q2 q3 q4 q5 r0 r1 r2 r3 r4 r5;go_loopw[7] (λq wr=>∃j:Nat,q=.int .i64 j/\j<=ok.length/\j<=a0.length/\Yd (Bn ov ok a0 a7=Bn (ov.drop j) (ok.drop j) (a0.drop j) (a7.drop j))/\Yd (Ext W0 wr)) (λq _=>ok.length -(intOf q).toNat)
  case atStart=>exact⟨0,rfl,aw _,aw _,hY rfl,hY (gz W0)⟩
  obtain⟨j,rfl,d4,b5,HP,HX⟩:=hrel;obtain⟨-,-,-,-,-,q5⟩:=(b9.o.ext HX.o).c6;obtain⟨-,-,-,-,-,r5⟩:=(b8.o.ext HX.o).c6;by_cases a5:j<ok.length/\j<a0.length
  rotate_left
  ·have HE:=hY (VC (l:=ov) (l':=a7) (k:=ok) (k':=a0) (j:=j) (by rw [b7.o,a8.o];omega) (by rw [b7.o];exact d4) (by rw [a8.o];exact b5))
   have a4:=hY (show ∀e:AC,e=.returned (As ok.length a0.length)->DO r w e wr fromλe he=>⟨by rw[Z.o,HP.o,HE.o,b7.o,a8.o];exact he,a1.o.trans HX.o⟩);by_cases h1:j<ok.length
   ·have g1:(j:Int)<(ok.length:Int):=oM
    have g2:¬(j:Int)<(a0.length:Int):=oM
    clear a5;go_wp2_with fail;refine(HN.o _ _ _).mono ?_;rintro e w2 ⟨rfl,rfl⟩;go_wp2_with fail;go_ret;exact a4.o _ rfl
   have g1:¬(j:Int)<(ok.length:Int):=oM
   clear a5;go_wp2_with fail;refine(HN.o _ _ _).mono ?_;rintro e w2 ⟨rfl,rfl⟩;go_wp2_with fail;go_ret;exact a4.o _ rfl
  obtain⟨h1,h2⟩:=a5;have g1:(j:Int)<(ok.length:Int):=oM
  have g2:(j:Int)<(a0.length:Int):=oM
  obtain⟨x,b6⟩:∃d,ok[j]? = some d:=⟨_,ac h1⟩;obtain⟨x',a9⟩:∃d,a0[j]? = some d:=⟨_,ac h2⟩;obtain⟨d,hd⟩:∃d,ov[j]? = some d:=⟨_,ac (by rw[b7.o];exact h1)⟩;obtain⟨d',a3⟩:∃d,a7[j]? = some d:=⟨_,ac (by rw[a8.o];exact h2)⟩;have HD:=hY (U4 hd a3 b6 a9);obtain⟨sa,sc⟩:=so;obtain⟨i3,d3⟩:=so';obtain⟨rfl,f7,i7⟩:=ho.eq oM;obtain⟨rfl,f3,e7⟩:=ho'.eq oM;have d6:=ho.fits oM;have b0:=ho'.fits oM;have a2:∀W,Ext wr W->Agree (Lt w.heap.size) w W:=λW hW=>((a1.o.trans HX.o).trans hW).agree λ_ h=>h
  have a6:∀W,Ext wr W->∀i,i<w.heap.size->i<W.heap.size:=λW hW i hi=>ab hi ((a1.o.trans HX.o).trans hW).size
  obtain⟨HV,d0,d5,HT,I⟩:=Yf (λW (hW:Ext wr W)=>((i6.o j d hd).agree (a2 W hW) d6).rng) (λW (hW:Ext wr W)=>((e8.o j d' a3).agree (a2 W hW) b0).rng) (λW (hW:Ext wr W)=>HI.o d d' (i5.o j d hd) W _ _ _ _ (((i2.o j d hd).agree (a2 W hW)).mono (a6 W hW)) (((e0.o j d' a3).agree (a2 W hW)).mono (a6 W hW))) (λW=>Pt W x x' (e1.o j x b6).2 (c8.o j x' a9).2) (show ∀W,Ext wr W->W.cell? ⟨w.heap.size,5,none⟩=some (.slice (some ⟨bo,fo,none⟩) ok.length sc)/\W.cell? ⟨w.heap.size+1,5,none⟩=some (.slice (some ⟨bo',fo',none⟩) a0.length d3)/\W.cell? ⟨bo,fo+j*7,none⟩=some (.string x)/\W.cell? ⟨bo',fo'+j*7,none⟩=some (.string x') fromλW hW=>⟨((b9.o.ext HX.o).ext hW).c6.2.2.2.2.2,((b8.o.ext HX.o).ext hW).c6.2.2.2.2.2,((a2 W hW).cell d6).trans (e1.o j x b6).1,((a2 W hW).cell b0).trans (c8.o j x' a9).1⟩);obtain⟨D,hD⟩:=Ts d (co j).1 (co j).2;have b4:=hY hD;clear hd a3 b6 a9 a2 a6 d6 b0 hD;go_wp2_with fail;clear q5 r5;refine eV (S:=(λw'=>Ext wr w')) kM (((gz wr).drew)) (λhHeld=>?_);refine AF 0 (some 98) I hHeld ?_;refine AF 1 (some 99) I hHeld ?_;refine AF 2 (some 100) I hHeld ?_;refine AF 3 (some 101) I hHeld ?_;refine AF 4 (some 102) I hHeld ?_;refine AF 5 (some 103) I hHeld ?_;refine AF 6 (some 104) I hHeld ?_;refine AF 7 (some 105) I hHeld ?_;refine AF 8 (some 106) I hHeld ?_;refine AF 9 (some 107) I hHeld ?_;refine AF 10 (some 108) I hHeld ?_;refine AF 11 (some 109) I hHeld ?_;refine Af (i:=12) kM rfl (by rfl) (λK hK=>?_);go_simp
  (refine(HT.o _).mono ?_;rintro e w2 ⟨rfl,f9⟩)
  refine hK.out _ _ (hHeld.trans f9) (λhHeld=>?_);clear hK K
  try go_frame
  refine AF 13 (some 8) I hHeld ?_;refine fa kM ?_ _;have b3:=hY hHeld;by_cases ht:BU x x'=0
  rotate_left
  ·have i8:(BU x x' != 0)=true:=fg.2 ht
   have HC:=hY (HP.o.trans (HD.o.trans (eN ht)));clear ht;go_wp2_with fail;go_ret;exact⟨by rw[Z.o,HC.o]<;>rfl,(a1.o.trans HX.o).trans b3.o⟩
  have i8:(BU x x' != 0)=false:=by simp[ht]
  have e6:=hY (HP.o.trans (HD.o.trans (eL λh=>h ht)));clear ht;go_wp2_with fail;refine eV (S:=(λw'=>Ext wr w')) kM ((b3.o.drew)) (λhHeld=>?_);refine AF 0 (some 114) I hHeld ?_;refine AF 1 (some 115) I hHeld ?_;refine AF 2 (some 116) I hHeld ?_;refine AF 3 (some 117) I hHeld ?_;refine AF 4 (some 118) I hHeld ?_;refine Ff 5 (some 119) 54 (.tmp 118) HV hHeld b4.o ?_;refine AF 6 (some 120) I hHeld ?_;refine AF 7 (some 121) I hHeld ?_;refine AF 8 (some 122) I hHeld ?_;refine AF 9 (some 123) I hHeld ?_;refine AF 10 (some 124) I hHeld ?_;refine Ff 11 (some 125) 54 (.tmp 124) d0 hHeld b4.o ?_;refine Af (i:=12) kM rfl (by rfl) (λK hK=>?_);go_simp
  (refine(d5.o _ hHeld).mono ?_;rintro e w3 ⟨rfl,i1⟩)
  refine hK.out _ _ (hHeld.trans i1) (λhHeld=>?_);clear hK K
  try go_frame
  refine AF 13 (some 9) I hHeld ?_;refine fa kM ?_ _;have f4:=hY (HX.o.trans hHeld);by_cases hc:AW d d'=0
  ·have d8:(AW d d' != 0)=false:=by simp [hc]
   have HC:=hY (e6.o.trans (eL λh=>h hc));clear hc;go_wp2_with fail;go_roundw
   case rel=>exact⟨j+1,by go_num,h1,h2,HC,f4⟩
   simp[intOf];omega
  have d8:(AW d d' != 0)=true:=fg.2 hc;have HC:=hY (e6.o.trans (eN hc));clear hc;go_wp2_with fail;go_ret;exact⟨by rw[Z.o,HC.o]<;>rfl,a1.o.trans f4.o⟩
 rw[eL h5,eL h6]at N;have Z:=hY N;have g2:(k==2)=false:=eP.2 h2;have g3:(k==3)=false:=eP.2 h3;have g4:(k==4)=false:=eP.2 h4;have g5:(k==5)=false:=eP.2 h5;have g6:(k==6)=false:=eP.2 h6;clear h2 h3 h4 h5 h6 N HR;go_wp2_with fail;go_ret;exact⟨by rw[Z.o]<;>rfl,a1.o⟩
def Wo{l m:List AD}{a b:AD}(N:l[j]? = some a)(I:m[j]? = some b):Df (l.drop j) (m.drop j)=(decide (a.1=b.1)&&decide (AW a.2 b.2=0)&&Df (l.drop (j+1)) (m.drop (j+1))):=by
 obtain⟨h1,rfl⟩:=ai.1 N;obtain⟨h2,rfl⟩:=ai.1 I;rw[aE h1,aE h2];rfl
def jm{l m:List AD}(h:l.length≠m.length):Df l m=false:=by
 cases hs:Df l m with
 |false=>rfl
 |true=>exact absurd (O7 hs) h
def ib(hs:ES w (Lt w.heap.size) s xs)(b0:ES w (Lt w.heap.size) s' ys) :
  Calls prog 25 #[.slice s.a xs.length s.c,.slice s'.a ys.length s'.c] w λe w'=>e=.returned (.bool (Df (xs.map LE.ent) (ys.map LE.ent)))/\Ext w w':=by
 have hf:=hs.few;have c8:xs.length<=140737488355328:=oM
 by_cases Z:xs.length=ys.length
 ·have HS:=hY hs
  obtain⟨c6,a2⟩:=Yb b0 Z;rw[<-Z];clear hs b0 Z hf;go_in;go_wp2_with fail;go_loopw[5] (λq wr=>∃j:Nat,q=.int .i64 j/\j<=xs.length/\Df (xs.map LE.ent) (ys.map LE.ent)=Df ((xs.map LE.ent).drop j) ((ys.map LE.ent).drop j)/\Ext w wr) (λq _=>xs.length -(intOf q).toNat)
  case atStart=>exact⟨0,rfl,aw _,rfl,gz w⟩
  obtain⟨j,rfl,d5,hp,hx⟩:=hrel;obtain⟨HP,HX⟩:=Yb hp hx;by_cases h1:j<xs.length
  ·have g1:(j:Int)<(xs.length:Int):=oM
   obtain⟨x,a8⟩:∃x,xs[j]? = some x:=⟨_,ac h1⟩;obtain⟨y,a7⟩:∃y,ys[j]? = some y:=⟨_,ac (by rw[<-a2.o];exact h1)⟩;have HD:=hY (Wo (l:=xs.map LE.ent) (m:=ys.map LE.ent) (a:=x.ent) (b:=y.ent) (by rw[ar,a8];rfl) (by rw[ar,a7];rfl));have e1:=HS.o.ext hx;have e2:=c6.o.ext hx;obtain⟨g,o,hg,lg,hc,c7,kx,⟨v0,v1,v2,v3,v4,v5⟩,rx,-⟩:=e1.at a8;obtain⟨g',o',b8,N,b4,b3,ky,⟨a0,a6,a4,a5,a1,a3⟩,ry,-⟩:=e2.at a7;rw[<-a2.o]at b4;obtain⟨sa,sc⟩:=s;obtain⟨d0,d3⟩:=s';dsimp only at hg b8 hc b4 c7 b3;subst hg b8;have b6:∀W,Ext wr W->Calls prog 28 #[AS x.v x.sl x.so,AS y.v y.sl y.so] W (DO (AW x.v y.v) W):=λW hW=>
    Gf _ x.v y.v (ao _) W _ _ _ _ ((rx.agree (hW.agree λ_ h=>h)).mono λi hi=>ab hi hW.size) ((ry.agree (hW.agree λ_ h=>h)).mono λi hi=>ab hi hW.size)
   have c9:=hY b6;clear hp hx a8 a7 e1 e2 rx ry b6;have lg:g<wr.heap.size:=lg;have N:g'<wr.heap.size:=N;by_cases hk:x.k=y.k
   ·have a9:(x.k.toList == y.k.toList)=true:=by rw [hk];simp
    have HK:=hY hk;go_wp2_with fail;refine eV (S:=(λw'=>w'.cell? ⟨g,o+j*7,none⟩=some (.string x.k)/\w'.cell? ⟨g',o'+j*7,none⟩=some (.string y.k)/\w'.cell? ⟨g,o+j*7+1,none⟩=some (.int .i64 x.v.kind)/\w'.cell? ⟨g,o+j*7+1+1,none⟩=some (.bool x.v.b)/\w'.cell? ⟨g,o+j*7+1+2,none⟩=some (.int .i64 x.v.i)/\w'.cell? ⟨g,o+j*7+1+3,none⟩=some (.string x.v.t)/\w'.cell? ⟨g,o+j*7+1+4,none⟩=some (.slice x.sl.a x.v.l.length x.sl.c)/\w'.cell? ⟨g,o+j*7+1+5,none⟩=some (.slice x.so.a x.v.ok.length x.so.c)/\w'.cell? ⟨g',o'+j*7+1,none⟩=some (.int .i64 y.v.kind)/\w'.cell? ⟨g',o'+j*7+1+1,none⟩=some (.bool y.v.b)/\w'.cell? ⟨g',o'+j*7+1+2,none⟩=some (.int .i64 y.v.i)/\w'.cell? ⟨g',o'+j*7+1+3,none⟩=some (.string y.v.t)/\w'.cell? ⟨g',o'+j*7+1+4,none⟩=some (.slice y.sl.a y.v.l.length y.sl.c)/\w'.cell? ⟨g',o'+j*7+1+5,none⟩=some (.slice y.so.a y.v.ok.length y.so.c))) kM (⟨kx,ky,v0,v1,v2,v3,v4,v5,a0,a6,a4,a5,a1,a3⟩) (λhHeld=>?_);refine Au 0 (some 17) hHeld ?_;refine Au 1 (some 18) hHeld ?_;refine Au 2 (some 19) hHeld ?_;refine Au 3 (some 20) hHeld ?_;refine Au 4 (some 21) hHeld ?_;refine Au 5 (some 22) hHeld ?_;refine Au 6 (some 23) hHeld ?_;refine Au 7 (some 24) hHeld ?_;refine Au 8 (some 25) hHeld ?_;refine Au 9 (some 26) hHeld ?_;refine Au 10 (some 27) hHeld ?_;refine Au 11 (some 28) hHeld ?_;refine Au 12 (some 29) hHeld ?_;refine Au 13 (some 30) hHeld ?_;refine Au 14 (some 31) hHeld ?_;refine Au 15 (some 32) hHeld ?_;refine Au 16 (some 33) hHeld ?_;refine Au 17 (some 34) hHeld ?_;refine Au 18 (some 35) hHeld ?_;refine Au 19 (some 36) hHeld ?_;refine Au 20 (some 37) hHeld ?_;refine Au 21 (some 38) hHeld ?_;refine Af (i:=22) kM rfl (by rfl) (λK hK=>?_);go_simp
    (refine(c9.o _ ((gz wr).drew)).mono ?_;rintro e w2 ⟨rfl,I⟩;replace I:=((gz wr).drew).trans I)
    refine hK.out _ _ (⟨(I.cell lg).trans kx,(I.cell N).trans ky,(I.cell lg).trans v0,(I.cell lg).trans v1,(I.cell lg).trans v2,(I.cell lg).trans v3,(I.cell lg).trans v4,(I.cell lg).trans v5,(I.cell N).trans a0,(I.cell N).trans a6,(I.cell N).trans a4,(I.cell N).trans a5,(I.cell N).trans a1,(I.cell N).trans a3⟩) (λhHeld=>?_);clear hK K
    try go_frame
    refine Au 23 (some 40) hHeld ?_;refine Au 24 (some 41) hHeld ?_;refine fa kM ?_ _;have b5:=hY (HX.o.trans I);clear I hHeld a9 hk kx ky v0 v1 v2 v3 v4 v5 a0 a6 a4 a5 a1 a3;by_cases hc:AW x.v y.v=0
    ·have b9:(AW x.v y.v != 0)=false:=by simp [hc]
     have HC:=hY hc;clear hc;go_wp2_with fail;go_roundw
     case rel=>exact⟨j+1,by go_num,h1,by rw[HP.o,HD.o,eO (show x.ent.1=y.ent.1 from HK.o),eO (show AW x.ent.2 y.ent.2=0 from HC.o)];rfl,b5.o⟩
     simp[intOf];omega
    have b9:(AW x.v y.v != 0)=true:=fg.2 hc;have HC:=hY hc;clear hc;go_wp2_with fail;go_ret;rw[HP.o,HD.o,eM (show ¬AW x.ent.2 y.ent.2=0 from HC.o)];exact⟨oO,b5.o⟩
   have a9:(x.k.toList==y.k.toList)=false:=by rw[beq_toList];simp[hk]
   have HK:=hY hk;go_wp2_with fail;refine eV (S:=(λw'=>w'.cell? ⟨g,o+j*7,none⟩=some (.string x.k)/\w'.cell? ⟨g',o'+j*7,none⟩=some (.string y.k)/\w'.cell? ⟨g,o+j*7+1,none⟩=some (.int .i64 x.v.kind)/\w'.cell? ⟨g,o+j*7+1+1,none⟩=some (.bool x.v.b)/\w'.cell? ⟨g,o+j*7+1+2,none⟩=some (.int .i64 x.v.i)/\w'.cell? ⟨g,o+j*7+1+3,none⟩=some (.string x.v.t)/\w'.cell? ⟨g,o+j*7+1+4,none⟩=some (.slice x.sl.a x.v.l.length x.sl.c)/\w'.cell? ⟨g,o+j*7+1+5,none⟩=some (.slice x.so.a x.v.ok.length x.so.c)/\w'.cell? ⟨g',o'+j*7+1,none⟩=some (.int .i64 y.v.kind)/\w'.cell? ⟨g',o'+j*7+1+1,none⟩=some (.bool y.v.b)/\w'.cell? ⟨g',o'+j*7+1+2,none⟩=some (.int .i64 y.v.i)/\w'.cell? ⟨g',o'+j*7+1+3,none⟩=some (.string y.v.t)/\w'.cell? ⟨g',o'+j*7+1+4,none⟩=some (.slice y.sl.a y.v.l.length y.sl.c)/\w'.cell? ⟨g',o'+j*7+1+5,none⟩=some (.slice y.so.a y.v.ok.length y.so.c))) kM (⟨kx,ky,v0,v1,v2,v3,v4,v5,a0,a6,a4,a5,a1,a3⟩) (λhHeld=>?_);refine Au 0 (some 17) hHeld ?_;refine Au 1 (some 18) hHeld ?_;refine Au 2 (some 19) hHeld ?_;refine Au 3 (some 20) hHeld ?_;refine Au 4 (some 21) hHeld ?_;refine Au 5 (some 22) hHeld ?_;refine Au 6 (some 23) hHeld ?_;refine Au 7 (some 24) hHeld ?_;refine Au 8 (some 25) hHeld ?_;refine Au 9 (some 26) hHeld ?_;refine Au 10 (some 27) hHeld ?_;refine Au 11 (some 28) hHeld ?_;refine EM 12 (some 29) hHeld ?_;refine EM 13 (some 30) hHeld ?_;refine EM 14 (some 31) hHeld ?_;refine EM 15 (some 32) hHeld ?_;refine EM 16 (some 33) hHeld ?_;refine EM 17 (some 34) hHeld ?_;refine EM 18 (some 35) hHeld ?_;refine EM 19 (some 36) hHeld ?_;refine EM 20 (some 37) hHeld ?_;refine EM 21 (some 38) hHeld ?_;refine EM 22 (some 39) hHeld ?_;refine EM 23 (some 40) hHeld ?_;refine Au 24 (some 41) hHeld ?_;refine fa kM ?_ _;clear hHeld a9 hk kx ky v0 v1 v2 v3 v4 v5 a0 a6 a4 a5 a1 a3;go_wp2_with fail;go_ret;rw[HP.o,HD.o,eM (show ¬x.ent.1=y.ent.1 from HK.o)];exact⟨oO,HX.o.drew⟩
  have g1:¬(j:Int)<(xs.length:Int):=oM
  have b7:Df ((xs.map LE.ent).drop j) ((ys.map LE.ent).drop j)=true:=by
   rw[bQ.2 (by rw[aq];omega),bQ.2 (by rw[aq,<-a2.o];omega)];rfl
  have HE:=hY b7;clear hp hx b7;go_wp2_with fail;go_ret;rw[HP.o,HE.o];exact⟨rfl,HX.o⟩
 have d4:(((xs.length:Int)) !=((ys.length:Int)))=true:=fg.2 oM;rw[jm (by rw[aq,aq];exact Z)];clear hs b0 Z hf c8;go_in;go_wp2_with fail;go_ret;exact⟨rfl,gz w⟩
def P8(H:Nat->Prop)(es:List AD)(w:AB)(e:AC)(w':AB):Prop:=
 ∃M',e=.returned (.pointer (some ⟨M',0,none⟩))/\w.heap.size<=M'/\Ext w w'/\MapAt (λb=>H b\/b=M') w' M' es
def NW{M:Nat}{es:List AD}(h:MapAt H w M es)(hH:∀b,H b->b<w.heap.size)(hc:es.length<=1000000) :
  Calls prog 59 #[.pointer (some M)] w (P8 H es w):=by
 obtain⟨i0,hi,a8,a6,a3⟩:=eZ Tryz.DK;obtain⟨hm,s,xs,hb,hs,N⟩:=h;have h0:w.cell? M=some (.slice s.a xs.length s.c):=hb.cell 0;have a1:xs.length=es.length:=by rw[<-N,aq]
 have a4:xs.length<=maxLen:=by unfold maxLen;omega
 have a0:xs.length*104<=140737488355328:=oM
 obtain⟨HS,a7⟩:=Yb hs N;clear hb hs N a1;go_in;go_wp2_with(at_builtin;refine T6 rfl (.const (.slice none 0 0)) (.tmp 6) 22 rfl w.heap.size 65 i0 _ 7 104 underlying22 hi a8 a6 a3 rfl oN rfl (NH H w) s xs.length (AP xs) rfl HS.o.rd (Ds _) a4 a0 (ao _) ?_;intro s1 w1 I a2;have a5:=hY I;have Z:=hY a2;clear I a2);go_ret;have hE:Ext w1 (w1.alloc (.cells #[.slice s1.a xs.length s1.c] 44)):=(gz _).alloc _ _;have hX:=Z.o.trans hE;have hz:=Z.o.size;refine⟨w1,rfl,hz,hX,.inr rfl,s1,xs,gB w1 _ _,⟨?_,?_,a0⟩,a7.o⟩
 ·refine ((gF a5.o).agree (hE.agree fun i hi=>hi.2)).mono fun i hi=>⟨by rw [eQ];have:=hi.2;omega,fun h=>?_⟩
  have h1:=hi.1;have h2:=hi.2;rcases h with h|h
  .have:=hH i h;omega
  omega
 intro x hx;refine⟨((HS.o.vals x hx).1.agree (hX.agree λi hi=>hi.1)).mono λi hi=>⟨Nat.lt_of_lt_of_le hi.1 hX.size,λh=>?_⟩,(HS.o.vals x hx).2⟩;have h1:=hi.1;rcases h with h|h
 .exact hi.2 h
 omega
def lJ{M:Nat}{xs L:List LE}{es:List AD}(hm:H M)(hH:∀b,H b->b<w.heap.size)(hb:AE w M 44 #[.slice s.a xs.length s.c])(hs:ES w (NH H w) s xs)(hL:∀y∈L,y∈xs)
  (hx:Ext w w3) (N:w3.ownsRow w.heap.size 65 7 (.slice s3.a L.length s3.c) L.length (AP L)) (hf:L.length*104<=140737488355328) (he:L.map LE.ent=es) :
  MapAt H (w3.setCell M (.slice s3.a L.length s3.c)) M es/\St (λb=>b=M) w (w3.setCell M (.slice s3.a L.length s3.c)):=by
 have a1:=hb.lt;have I:St (λb=>b=M) w (w3.setCell M (.slice s3.a L.length s3.c)):=(hx.st (λb=>b=M)).set (p:=⟨M,0,none⟩) (.inr rfl) _;have a0:Agree (NH H w) w (w3.setCell M (.slice s3.a L.length s3.c)):=I.agree.mono λi hi=>⟨hi.1,λe=>hi.2 (e▸hm)⟩
 have Z:Agree (In w.heap.size w3.heap.size) w3 (w3.setCell M (.slice s3.a L.length s3.c)):=gD w3 M _ (λh=>by have h1:w.heap.size<=M:=h.1;omega);refine⟨⟨hm,s3,L,?_,⟨?_,?_,hf⟩,he⟩,I⟩
 .exact (hb.ext hx).AX 0 _
 .exact ((gF N).agree Z).mono λi hi=>⟨by rw[eX];exact hi.2,λh=>by have:=hH i h;have:=hi.1;omega⟩
 intro y hy;exact⟨((hs.vals y (hL y hy)).1.agree a0).mono λi hi=>⟨Nat.lt_of_lt_of_le hi.1 I.size,hi.2⟩,(hs.vals y (hL y hy)).2⟩
section
variable{P : Program}(w : AB)
def R0{ops:Array Oper}{o:Oper}{a:Act}{K:Act->AB->Prop}{Q:Exit->Act->AB->Prop}{E:Prop}(a4:o.guard=none)(s' x:Operand)(t:TypeId)
  (ho:o.op=.call { callee:=.builtin .append,args:=#[s',x],argTypes:=#[t,t] })
  (base:Nat) (e:TypeId) (i:TypeInfo) (z:Value) (size I:Nat) (ht:P.underlying t=some (.slice e)) (hi:P.info? e=some i) (hz:i.zero=some z)
  (a1:i.size=size) (a6:i.bytes=I) (a5:z.cells.size=size) (a3:0<size) (hs:a.eval s'=.slice none 0 0)
  (F:Nat->Prop) (sx:Sl) (m:Nat) (N:List Value) (hx:a.eval x=.slice sx.a m sx.c) (a2:Rd w F size sx m N) (h1:∀u∈N,u.oneCell'=true)
  (a7:m<=maxLen) (Z:m*I<=140737488355328) (a0:base<=w.heap.size)
  (h:∀(s':Sl) (w':AB),w'.ownsRow base e size (.slice s'.a m s'.c) m N->Ext w w'->K (a.put o.dst (.slice s'.a m s'.c)) w') :
  if Region.wanted o (yielded ops a.tmps)=true then Oper.wp P o a w K Q else E:=
 IK w a4 s' x t ho base e i z size I ht hi hz a1 a6 a5 a3 Sl.none 0 [] hs (e9 _ _ _ _) F sx m N hx a2 h1 oM (by rw[aF];exact Z) a0 λs2 w2 h2 h3 _=>by
  rw[aF,aG]at h2;rw[aF];exact h s2 w2 h2 ((gz w).wr h3 (λi hi=>by cases hi))
end
def aa(H:Nat->Prop)(M:Nat)(es:List AD)(k:AA)(w:AB)(e:AC)(w':AB):Prop:=
 e=.returned (.bool (AH es k).isSome)/\MapAt H w' M (Ac es k)/\St (λb=>b=M) w w'
def kJ{M:Nat}{es:List AD}(h:MapAt H w M es)(hH:∀b,H b->b<w.heap.size)(e8:Sorted es)(hc:es.length<=1000000)(k:AA) :
  Calls prog 64 #[.pointer (some M),k] w (aa H M es k w):=by
 obtain⟨i0,hi,d7,d9,d8⟩:=eZ Tryz.DK;have a5:=NT h k;rw[Nr e8]at a5;have b7:=Uj e8 k;have b4:=Nr e8 k;have f7:=h;obtain⟨hm,s,xs,hb,hs,b3⟩:=h;obtain⟨p,hp⟩:∃p,Aq es k=p:=⟨_,rfl⟩;rw[hp]at a5 b7 b4;cases hg:AH es k with
 | none=>
   rw[hg]at a5;obtain⟨a9,HM,HD,HG⟩:=Ye a5 f7 (Ta hg) hg;clear a5 b7 b4 f7 hb hs b3 hg hp;go_in;go_wp2_with fail;refine a9.o.mono ?_;rintro e w2 ⟨rfl,nq,rfl⟩;have I:=(gz w).drewN nq;go_wp2_with fail;go_ret;exact⟨by rw[HG.o];rfl,by rw[HD.o];exact HM.o.ext I,I.st _⟩
 | some v=>
   rw[hg]at a5 b4;have c6:=gp b4;have d5:p<xs.length:=by
    rw[<-b3,ar]at c6;rcases eh p xs.length with h|h
    .exact h
    rw[aN h]at c6;cases c6
   rw[eN c6]at b7;have g6:xs.length=es.length:=by rw[<-b3,aq]
   have i7:xs.length<=1000000:=oM
   have he:(xs.take p++xs.drop (p+1)).map LE.ent=Ac es k:=by rw[b7,<-b3,aB,db,cR]
   have e3:(xs.take p++xs.drop (p+1)).length=p+(xs.length -(p+1)):=by simp only[List.length_append,List.length_take,List.length_drop];omega
   have e4:=λ(w3:AB) (s3:Sl)=>lJ (w3:=w3) (s3:=s3) (L:=xs.take p++xs.drop (p+1)) (es:=Ac es k) hm hH hb hs (λy hy=>by
    rcases aL.1 hy with hy|hy
    .exact bj hy
    exact aS hy)
   have g7:=λ(W:AB) (hW:Ext w W)=>(hs.mono (G:=Lt w) λi hi=>hi.1).agree (hW.agree λ_ h=>h)
   have h0:w.cell? M=some (.slice s.a xs.length s.c):=hb.cell 0;have lM:=hb.lt;have b0:=hb.frozen 0;have i1:=hs.rd;obtain⟨gs,os,g5,-,-⟩:=i1;obtain⟨c9,f2,HE,e1,a9,HG⟩:=Yg e4 g7 he e3 a5 hg;clear e4 g7 he e3 a5 b4 c6 b7 f7 hb hs b3 hg hp g6;generalize hn:xs.length=n at g5;cases g5 with
   |nil=>omega
   |zero=>omega
   | some _ sc _ _ hsc hscm hsF=>
     subst hn;have j0:(p:Int)+1<=(xs.length:Int):=oM
     have j1:(p:Int)<=(xs.length:Int):=oM
     have i8:(p:Int)<=(sc:Int):=oM
     have i4:(p:Int)+1<=(sc:Int):=oM
     have i6:(0:Int)<=(p:Int):=oM
     have j2:(p:Int)<=(p:Int)+1:=oM
     have i5:(0:Int)<=(p:Int)+1:=oM
     have i9:((p:Int)+1).toNat=p+1:=oM
     have e0:p<=maxLen:=by unfold maxLen;omega
     have e2:p*104<=140737488355328:=oM
     by_cases e6:sc=p+1
     ·subst e6
      have c8:∀W,Ext w W->Rd W (Lt w) 7 ⟨some ⟨gs,os,none⟩,0⟩ 0 []:=λW hW=>⟨gs,os,.some _ _ _ _ (aw _) (aw _) hsF.1,rfl,λj u hj=>by simp at hj⟩
      have d4:∀W,Ext w W->Rd W (Lt w) 7 ⟨some ⟨gs,os,none⟩,p+1⟩ p (AP (xs.take p)):=λW hW=>by have:=((f2.o W hW).take (bY d5)).rd;rwa[au,bL (bY d5)]at this
      obtain⟨f6,g0⟩:=Yb c8 d4;have b6:∀u∈([]:List Value),u.oneCell'=true:=oO
      have f0:=hY b6;have d3:p+0<=maxLen:=by unfold maxLen;omega
      have c7:(p+0)*104<=140737488355328:=oM
      clear c8 d4 b6;go_in;go_wp2_with fail;refine a9.o.mono ?_;rintro e w2 ⟨rfl,nq,rfl⟩;have I:=(gz w).drewN nq
      replace h0:=(I.cell lM).trans h0
      replace b0:=(I.frozen (o:=0) lM).trans b0
      have a8:=ab lM I.size;have e7:=I.size;generalize World.drewN w nq=W2 at *;have b5:=hY I;clear I a9;go_wp2_with fail;have f1:IntKind.i64.wrap ((p:Int)+1)=(p:Int)+1/\wrap64 ((p:Int)+1)=(p:Int)+1:=⟨by rw[eS];omega,by unfold wrap64;omega⟩;obtain⟨f9,b8⟩:=f1;go_region_law (first
       |(refine R0 _ rfl (.const (.slice none 0 0)) (.tmp 20) 22 rfl w.heap.size 65 i0 _ 7 104 underlying22 hi d7 d9 d8 rfl oN (by rfl) (Lt w) ⟨some ⟨gs,os,none⟩,p+1⟩ p (AP (xs.take p)) (by rfl) (g0.o _ b5.o.drew) (Ds _) e0 e2 e7 ?_;intro s1 w3 a2 N;replace N:=((gz W2).drew).trans N;have m3:=(N.cell (o:=0) a8).trans h0;have f3:=(N.frozen (o:=0) a8).trans b0;have g3:=ab a8 N.size;have a4:=hY (b5.o.trans N);have g4:=a4.o.size;have a7:=hY a2;clear a2 N)
       | (refine IK _ rfl (.tmp 21) (.tmp 28) 22 rfl w.heap.size 65 i0 _ 7 104 underlying22 hi d7 d9 d8 rfl oN s1 p (AP (xs.take p)) (by rfl) a7.o (Lt w) ⟨some ⟨gs,os,none⟩,0⟩ 0 [] (by rfl) (f6.o _ a4.o) f0.o d3 c7 g4 ?_;intro s2 w4 a1 Z f5;have a6:=Z.cell0 (o:=0) (gz w3) (fun e=>dd _ (ab lM (AM (s:=s1) a7.o e).1)) g3;have m4:=a6.1.trans m3;have i2:=a6.2;have d0:=hY (a4.o.wr Z (fun i hi=>(AM (s:=s1) a7.o hi).1));have f4:w4.frozen? M=false:=by have h1:=d0.o.frozen (o:=0) lM;have h2:=a4.o.frozen (o:=0) lM;rw [h1,←h2];exact f3
          have f8:=hY a1;clear a1 Z f5 a6))
      all_goals
       clear f9 b8;have d6:AP (xs.take p++xs.drop (p+1))=AP (xs.take p)++AP (xs.drop (p+1)):=D5 _ _;have a3:(xs.take p++xs.drop (p+1)).length=p+(xs.length -(p+1)):=e1.o;have g9:xs.length -(p+1)=0:=oM
       have g8:xs.drop (p+1)=[]:=bQ.2 oM;rw[g9]at a3;rw[g8]at d6;rw[g8]at a3 c9 HE;have a0:=c9.o w4 s2 d0.o (by rw[a3,d6];exact f8.o) (by rw[a3];omega) HE.o;rw[a3]at a0;have b9:=hY a0;clear a0;go_wp2_with fail;go_ret;exact⟨by rw[HG.o];rfl,b9.o⟩
     have i3:¬p+1=sc:=λe=>e6 e.symm
     have c8:∀W,Ext w W->Rd W (Lt w) 7 ⟨some ⟨gs,os+(p+1)*7,none⟩,sc -(p+1)⟩ (xs.length -(p+1)) (AP (xs.drop (p+1))):=λW hW=>by have:=((f2.o W hW).drop (m:=p+1) oM).rd;rwa[az]at this
     have d4:∀W,Ext w W->Rd W (Lt w) 7 ⟨some ⟨gs,os,none⟩,sc⟩ p (AP (xs.take p)):=λW hW=>by have:=((f2.o W hW).take (bY d5)).rd;rwa[au,bL (bY d5)]at this
     obtain⟨f6,g0⟩:=Yb c8 d4;have b6:∀u∈((AP (xs.drop (p+1))):List Value),u.oneCell'=true:=Ds _;have f0:=hY b6;have d3:p+(xs.length -(p+1))<=maxLen:=by unfold maxLen;omega
     have c7:(p+(xs.length -(p+1)))*104<=140737488355328:=oM
     clear c8 d4 b6;go_in;go_wp2_with fail;refine a9.o.mono ?_;rintro e w2 ⟨rfl,nq,rfl⟩;have I:=(gz w).drewN nq
     replace h0:=(I.cell lM).trans h0
     replace b0:=(I.frozen (o:=0) lM).trans b0
     have a8:=ab lM I.size;have e7:=I.size;generalize World.drewN w nq=W2 at *;have b5:=hY I;clear I a9;go_wp2_with fail;have f1:IntKind.i64.wrap ((p:Int)+1)=(p:Int)+1/\wrap64 ((p:Int)+1)=(p:Int)+1:=⟨by rw[eS];omega,by unfold wrap64;omega⟩;obtain⟨f9,b8⟩:=f1;go_region_law (first
      |(refine R0 _ rfl (.const (.slice none 0 0)) (.tmp 20) 22 rfl w.heap.size 65 i0 _ 7 104 underlying22 hi d7 d9 d8 rfl oN (by rfl) (Lt w) ⟨some ⟨gs,os,none⟩,sc⟩ p (AP (xs.take p)) (by rfl) (g0.o _ b5.o.drew) (Ds _) e0 e2 e7 ?_;intro s1 w3 a2 N;replace N:=((gz W2).drew).trans N;have m3:=(N.cell (o:=0) a8).trans h0;have f3:=(N.frozen (o:=0) a8).trans b0;have g3:=ab a8 N.size;have a4:=hY (b5.o.trans N);have g4:=a4.o.size;have a7:=hY a2;clear a2 N)
      | (refine IK _ rfl (.tmp 21) (.tmp 28) 22 rfl w.heap.size 65 i0 _ 7 104 underlying22 hi d7 d9 d8 rfl oN s1 p (AP (xs.take p)) (by rfl) a7.o (Lt w) ⟨some ⟨gs,os+(p+1)*7,none⟩,sc - (p+1)⟩ (xs.length - (p+1)) (AP (xs.drop (p+1))) (by rfl) (f6.o _ a4.o) f0.o d3 c7 g4 ?_;intro s2 w4 a1 Z f5;have a6:=Z.cell0 (o:=0) (gz w3) (fun e=>dd _ (ab lM (AM (s:=s1) a7.o e).1)) g3;have m4:=a6.1.trans m3;have i2:=a6.2;have d0:=hY (a4.o.wr Z (fun i hi=>(AM (s:=s1) a7.o hi).1));have f4:w4.frozen? M=false:=by have h1:=d0.o.frozen (o:=0) lM;have h2:=a4.o.frozen (o:=0) lM;rw [h1,←h2];exact f3
         have f8:=hY a1;clear a1 Z f5 a6))
     all_goals
      clear f9 b8;have d6:AP (xs.take p++xs.drop (p+1))=AP (xs.take p)++AP (xs.drop (p+1)):=D5 _ _;have a3:(xs.take p++xs.drop (p+1)).length=p+(xs.length -(p+1)):=e1.o;have a0:=c9.o w4 s2 d0.o (by rw[a3,d6];exact f8.o) (by rw[a3];omega) HE.o;rw[a3]at a0;have b9:=hY a0;clear a0;go_wp2_with fail;go_ret;exact⟨by rw[HG.o];rfl,b9.o⟩
end Go.Proofs.YtahhllcdbjbpbaaGreatDoor
