/- What the theorem needs of the texts Gather, Step, Build, DiffP, AppP, AL, OvP, OvQ, RangeG, RangeC, Coll, Trod, TrodV, Frame, Map7, Put7, Text02, Cmp02, SameEnt, Map7b, PairE, PairN: no condition of its own. -/
import Derived.RangeFuncNested
import Derived.RangeFuncBound
import Derived.OwnWalkIn
import Derived.ProofKit
import Derived.OpenShut
import Derived.Test.YtdiecmkpbadgjaaGreatDoorPnc
set_option linter.unusedVariables false
set_option linter.unusedSimpArgs false
set_option linter.unnecessarySimpa false
set_option maxRecDepth 100000
set_option maxHeartbeats 2000000
namespace Go.Proofs.YtdiecmkpbadgjaaGreatDoor
open Go.Proofs.Tryz
open Go.RowKit
def Qce(base:Nat)(s:Sl)(xs:List LE)(es:List Ent)(w:World)(e:Ending)(w':World):Prop:=
 ∃(s':Sl) (ys:List LE),e=.returned (.slice s'.a (xs.length+ys.length) s'.c)/\OE w' base s' (xs++ys)/\ys.map LE.ent=es/\Wr w w' s.row/\(s'.row=s.row\/∃b,s'.row=some b/\w.heap.size<=b)
variable{w w':World}{s s':Sl}{xs ys:List LE}{F:Nat->Prop}
theorem OE.append{base:Nat}(ho:OE w base s xs)(hv:QmT w F ys)(hF:∀b,F b->base<=b/\b<w.heap.size/\s.row≠some b)(hf:(xs.length+ys.length)*104<=140737488355328)
  (a0:w'.ownsRow base 78 7 (.slice s'.a (xs.length+ys.length) s'.c) (xs.length+ys.length) (QaD xs++QaD ys)) (N:Wr w w' s.row) (a3:s'.row=s.row\/∃b,s'.row=some b/\w.heap.size<=b):OE w' base s' (xs++ys):=by
 have a2:∀b,b<w.heap.size->s.row≠some b->s'.row≠some b:=λb hb hn he=>by
  rcases a3 with h |⟨g,h,hg⟩
  .exact hn (h▸he)
  rw[h]at he;simp at he;omega
 have a1:Agree (λb=>(base<=b/\b<w.heap.size)/\s.row≠some b) w w':=N.agree (λi hi=>hi.1.2) (λk hk h=>h.2 hk);refine⟨by rw[aj,Qcp];exact a0,λx I=>?_,by rw[aj];exact hf⟩;have Z:∀i,((base<=i/\i<w.heap.size)/\s.row≠some i)->(base<=i/\i<w'.heap.size)/\s'.row≠some i:=λi hi=>⟨⟨hi.1.1,ab hi.1.2 N.grown.size⟩,a2 i hi.1.2 hi.2⟩
 rcases aS.1 I with I|I
 .exact ⟨((ho.vals x I).1.agree a1).mono Z,(ho.vals x I).2⟩
 exact⟨(((hv x I).1.mono λi hi=>⟨⟨(hF i hi).1,(hF i hi).2.1⟩,(hF i hi).2.2⟩).agree a1).mono Z,(hv x I).2⟩
theorem QaU.base{es:List Ent}{e:Ending}(h:QaU es w e w'):∃(s:Sl) (ys:List LE),e=.returned (.slice s.a ys.length s.c)/\ys.map LE.ent=es/\OE w' w.heap.size s ys/\Ext w w':=h
theorem Qsy(h:Ext w w')(r:Option Nat):Wr w w' r:=⟨⟨h.below.os,h.below.tape,h.below.output,h.size,λk I _=>h.heap I⟩,h.fz⟩
variable{nv:Value}
theorem Qgy{es:List Ent}{base:Nat}(he:Calls prog 76 #[nv] w (QaU es w))(hk:∀W,Wr w W s.row->Calls prog 67 #[nv] W λe w'=>e=.returned (.slice none 0 0)/\W=w')
  (hb:base<=w.heap.size) (ho:OE w base s xs) (hl:xs.length+es.length<=1000000):Calls prog 60 #[.slice s.a xs.length s.c,nv] w (Qce base s xs es w):=by
 obtain⟨i0,hi,b7,c0,b8⟩:=eE Tryz.Qa8;obtain⟨HK,HO⟩:=Yb hk ho;clear hk ho;go_in;go_wp2_with fail;refine he.mono ?_;intro e w1 hp;obtain⟨sy,ys,rfl,a0,a5,I⟩:=hp.base;have b5:ys.length=es.length:=by rw[<-a0,aq]
 have a3:=HO.o.ext I;obtain⟨a7,a6,a9,b6⟩:=Ye a3 I a5 a0;have c1:xs.length+ys.length<=maxLen:=by unfold maxLen;omega
 have b9:base<=w1.heap.size:=an hb I.size;have a8:(xs.length+ys.length)*104<=140737488355328:=oM
 clear hp a0 a5 I a3 b5;go_wp2_with(at_builtin;refine Qak _ rfl (.tmp 7) (.tmp 9) 41 rfl base 78 i0 _ 7 104 underlying41 hi b7 c0 b8 rfl oN s xs.length (QaD xs) rfl a7.o.own (In w.heap.size w1.heap.size) sy ys.length (QaD ys) rfl a9.o.es.rd (QbX ys) c1 a8 b9 ?_;intro s' w2 N a2 b0);have a1:s'.row=s.row\/∃b,s'.row=some b/\w1.heap.size<=b:=by
  rcases b0 with h |⟨h,-⟩
  .exact .inl (by simp[Sl.row,h])
  exact .inr ⟨w1,by simp[Sl.row,h],ao _⟩
 have Z:∀b,s.row=some b->b<w.heap.size:=λb hb=>(Qad HO.o.own hb).2
 have b3:=OE.append a7.o a9.o.es.vals (λb hb=>⟨Nat.le_trans ‹base<=w.heap.size› hb.1,hb.2,λe=>by have:=Z b e;omega⟩) a8 N a2 a1;obtain⟨c2,HW,b4⟩:=Yc b3 ((Qsy a6.o s.row).trans a2 (λi hi=>.inl hi)) a1;have a4:=a6.o.size;clear b3 N a2 b0 a1 Z;refine(HK.o w2 HW.o).mono ?_;rintro e w3 ⟨rfl,rfl⟩;go_wp2_with fail;go_loopw[0,14] (λv i wr=>v=.slice s'.a (xs.length+ys.length) s'.c/\i=.int .i64 0/\wr=w2) (λ_ _ _=>0)
 case atStart=>exact⟨rfl,rfl,rfl⟩
 obtain⟨rfl,rfl,rfl⟩:=hrel;go_wp2_with fail;go_ret;exact⟨s',ys,rfl,c2.o,b6.o,HW.o,b4.o.imp_right λ⟨b,h1,h2⟩=>⟨b,h1,an a4 h2⟩⟩
structure QqX(base:Nat)(s:Sl)(xs:List LE)(w wr:World)(s':Sl)(ys:List LE):Prop where
 own:OE wr base s' (xs++ys)
 wr:Wr w wr s.row
 row:s'.row=s.row\/∃b,s'.row=some b/\w.heap.size<=b
variable{h:Nat}
theorem Qk7(ih:∀(t:PT h) (w:World) (F:Nat->Prop) (base:Nat) (s:Sl) (xs:List LE),IsN w F h t->(∀b,F b->b<w.heap.size/\s.row≠some b)->base<=w.heap.size->OE w base s xs->OkT h t->xs.length+(ents h t).length<=1000000->Calls prog 60 #[.slice s.a xs.length s.c,ptr h t] w (Qce base s xs (ents h t) w))
  {t:PT (h+1)} {base:Nat} (hn:IsN w F (h+1) t) (hF:∀b,F b->b<w.heap.size/\s.row≠some b) (hb:base<=w.heap.size) (ho:OE w base s xs) (ok:OkT (h+1) t) (hl:xs.length+(ents (h+1) t).length<=1000000) :
  Calls prog 60 #[.slice s.a xs.length s.c,ptr (h+1) t] w (Qce base s xs (ents (h+1) t) w):=by
 obtain⟨i0,hi,e8,f5,f0⟩:=eE Tryz.Qa8;have g4:=ok.2.1;have f2:=ok.1;have hc:=Qb9 hn oM;have c2:∀x∈t.2,IsN w F h x:=hn.2.choose_spec.2.2;have he:=Qin hn;obtain⟨g0,HO,HF,f4,e6,HL⟩:=Yg ih ho hF c2 ok hl;have f6:xs.length+0<=maxLen:=by unfold maxLen;omega
 have e0:(xs.length+0)*104<=140737488355328:=oM
 have e7:=hY hn;clear ih ho hF c2 ok hl hn hc;go_in;go_wp2_with fail;refine he.mono ?_;rintro e w1 ⟨rfl,rfl⟩;go_wp2_with(at_builtin;refine Qak _ rfl (.tmp 7) (.tmp 9) 41 rfl base 78 i0 _ 7 104 underlying41 hi e8 f5 f0 rfl oN s xs.length (QaD xs) rfl HO.o.own (λ_=>True) Sl.none 0 [] rfl (Rd.nil _ _ _) sM f6 e0 hb ?_;intro s' w2 I a3 c7);have b4:s'.row=s.row\/∃b,s'.row=some b/\w.heap.size<=b:=by
  rcases c7 with h |⟨h,-⟩
  .exact .inl (by simp[Sl.row,h])
  exact .inr ⟨w,by simp[Sl.row,h],ao _⟩
 have a8:OE w2 base s' (xs++[]):=OE.append (F:=λ_=>False) HO.o (λx hx=>by simp at hx) (λb hb=>hb.elim) e0 (by simpa[Qpe]using I) a3 b4;rw[aW]at a8;have a2:∀b,s'.row=some b->b<w2.heap.size:=λb hb=>(Qad a8.own hb).2
 have c4:IsN w2 F (h+1) t:=e7.out.agree (a3.agree (λi hi=>(HF.o i hi).1) (λk hk h=>(HF.o k h).2 hk));have d8:=Qb9 c4 oM;have a4:=hY (show QqX base s xs w w2 s' []from⟨by rw[aW];exact a8,a3,b4⟩);clear c7 I a8 a3 b4 c4;refine d8.mono ?_;rintro e w3 ⟨sk,rfl,I,b5⟩;obtain⟨g,d0,rfl,g5,c9,c3,a9⟩:=QaJ I oM;have a1:Rd w3 (λb=>b=g) 1 ⟨some ⟨g,0,none⟩,d0⟩ t.2.length (ptrs h t.2):=by
  obtain⟨b,o,h1,h2,h3⟩:=fP I;obtain⟨e1,c9,c3⟩:=h1.eq oM;obtain⟨rfl,rfl⟩:g=b/\0=o:=by simpa using e1
  exact⟨g,0,.some _ _ _ _ c9 c3 rfl,h2,h3⟩
 have f7:s'.row≠some g:=λe=>by have:=a2 g e;omega
 have f3:g<w3:=a9.lt;obtain⟨f8,e4⟩:=Yb (show QqX base s xs w w3 s' []from⟨a4.o.own.ext b5,a4.o.wr.trans (Qsy b5 none) (λi hi=>by cases hi),a4.o.row⟩) a1;clear a9 I b5 a1 d8 a2 a4;go_wp2_with fail;go_loopw[0,14] (λv i wr=>∃(j:Nat) (a0:Sl) (ys:List LE),j<=t.2.length/\i=.int .i64 j/\v=.slice a0.a (xs.length+ys.length) a0.c/\ys.map LE.ent=(t.2.take j).flatMap (ents h)/\QqX base s xs w wr a0 ys/\Rd wr (λb=>b=g) 1 ⟨some ⟨g,0,none⟩,d0⟩ t.2.length (ptrs h t.2)/\a0.row≠some g/\g<wr)
  (λ_ i _=>t.2.length -(intOf i).toNat)
 case atStart=>exact⟨0,s',[],aA _,rfl,rfl,rfl,f8.o,e4.o,f7,f3⟩
 obtain⟨j,a0,ys,hj,rfl,rfl,a6,hG,a1,b0,c0⟩:=hrel;obtain⟨c1,HG,HR⟩:=Yc a6 hG a1;by_cases d5:j<t.2.length
 ·obtain ⟨Z,N⟩:∃ Z,t.2[j]? = some Z:=⟨_,ac d5⟩
  obtain⟨b,o,b9,-,-,-,d3⟩:=a1.QcV N;obtain⟨rfl,rfl⟩:g=b/\0=o:=by simpa using b9
  have kc:wr.cell? ⟨g,j,none⟩=some (ptr h Z):=by simpa using d3
  have g6:(j:Int)<(t.2.length:Int):=oM
  have b6:=ap N;have e2:ys.length+(ents h Z).length<=(ents (h+1) t).length:=by
   have e1:ys.length=((t.2.take j).flatMap (ents h)).length:=by rw[<-a6,aq]
   show _<=(t.2.flatMap (ents h)).length;rw[e1]
   conv=>rhs;rw[QbI N]
   simp only[List.flatMap_append,List.flatMap_cons,List.length_append];omega
  have b7:=g0.o Z wr F base a0 (xs++ys) ((f4.o Z b6).agree (hG.wr.agree (λi hi=>(HF.o i hi).1) (λk hk h=>(HF.o k h).2 hk)))
   (λb hb=>⟨Nat.lt_of_lt_of_le (HF.o b hb).1 hG.wr.grown.size,λe=>by
     rcases hG.row with h |⟨b',h,a7⟩
     .exact (HF.o b hb).2 (h▸e)
     rw[h]at e;simp at e;have:=(HF.o b hb).1;omega⟩)
   (an hb hG.wr.grown.size) hG.own (e6.o.2.2 Z b6).1 (by have:=HL.o;rw[aj];omega)
  rw[aj]at b7;have HK:=hY N;clear a6 hG a1 N b9 d3 b6 e2;go_wp2_with fail;refine b7.mono ?_;rintro e w4 ⟨s4,zs,rfl,b8,c6,a5,b3⟩;have HZ:=hY c6;have e3:s4.row≠some g:=λe=>by
   rcases b3 with h |⟨b',h,a7⟩
   .exact b0 (h▸e)
   rw[h]at e;simp at e;omega
  have d6:QqX base s xs w w4 s4 (ys++zs):=by
   refine⟨by rw[<-aN];exact b8,HG.o.wr.trans a5 (λi hi=>?_),?_⟩
   ·rcases HG.o.row with h | ⟨b',h,a7⟩
    .exact .inl (h▸hi)
    rw[h]at hi;simp at hi;exact .inr oM
   rcases b3 with h |⟨b',h,a7⟩
   .rw [h];exact HG.o.row
   exact .inr ⟨b',h,an HG.o.wr.grown.size a7⟩
  have d4:=HR.o.agree (a5.agree (F:=λb=>b=g) (λi hi=>oM) (λk hk e=>b0 (e▸hk)));have d7:g<w4:=ab c0 a5.grown.size;obtain⟨g3,f9⟩:=Yb d6 d4;have c8:(xs++ys).length+zs.length=xs.length+(ys++zs).length:=by simp[Nat.add_assoc]
  have f1:=hY c8;clear c6 b8 a5 b3 d6 d4 c8 b7;go_wp2_with fail;go_roundw
  case rel=>exact⟨j+1,s4,ys++zs,d5,by go_num,by rw[<-f1.o];simp,by rw[aC,c1.o,HZ.o,aT,HK.o];simp,g3.o,f9.o,e3,d7⟩
  simp[intOf];omega
 obtain rfl:j=t.2.length:=oM
 clear a6 hG a1;go_wp2_with fail;go_ret;exact⟨a0,ys,rfl,HG.o.own,by rw[c1.o,aU];rfl,HG.o.wr,HG.o.row⟩
theorem Qhu:∀(h:Nat) (t:PT h) (w:World) (F:Nat->Prop) (base:Nat) (s:Sl) (xs:List LE),IsN w F h t->(∀b,F b->b<w.heap.size/\s.row≠some b)->base<=w.heap.size->OE w base s xs->OkT h t->xs.length+(ents h t).length<=1000000->Calls prog 60 #[.slice s.a xs.length s.c,ptr h t] w (Qce base s xs (ents h t) w)
 | 0,t,w,F,base,s,xs,hn,hF,I,ho,_,hl=>
   Qgy (Qa5 (hn.mono λb I=>(hF b I).1)) (λW N=>QjP (hn.agree (N.agree (λi hi=>(hF i hi).1) (λk Z h=>(hF k h).2 Z)))) I ho hl
 |h+1,t,w,F,base,s,xs,hn,hF,I,ho,ok,hl=>Qk7 (Qhu h) hn hF I ho ok hl
theorem Qmd(w:World):Calls prog 67 #[.pointer none] w λe w'=>e=.returned (.slice none 0 0)/\w=w':=by
 go_in;go_wp2_with fail;go_ret;exact⟨rfl,rfl⟩
variable{T:RT}
theorem Qk6{base:Nat}(N:IsT w F T)(hF:∀b,F b->b<w.heap.size/\s.row≠some b)(Z:base<=w.heap.size)(ho:OE w base s xs)(ok:OkR T)(I:xs.length+(Qaa T).length<=1000000) :
  Calls prog 60 #[.slice s.a xs.length s.c,QaK T] w (Qce base s xs (Qaa T) w):=by
 match T,N,ok,I with
 |none,_,_,I=>exact Qgy ((Qej w).mono λe w' ⟨h1,h2⟩=>⟨Sl.none,[],h1,rfl,OE.nil _ _,h2▸fI w⟩) (λW _=>Qmd W) Z ho I
 |some ⟨h,t⟩,N,ok,I=>exact Qhu h t w F base s xs N hF Z ho ok.1 I
theorem Qfb(I:IsT w F T):Calls prog 73 #[QaK T] w λe w'=>e=.returned (.int .i64 (Qaa T).length)/\w=w':=by
 match T,I with
 |none,_=>exact count_nil w
 |some ⟨h,t⟩,I=>exact Qjp I
theorem QlI(hF:∀b,F b->b<w.heap.size)(I:IsT w F T):Calls prog 46 #[Qao T] w λe w'=>e=.returned (.int .i64 (Qaa T).length)/\Ext w w':=by
 have N:Ext w (w.alloc (.cells #[QaK T] 48)):=(fI w).alloc _ _;have Z:=Qfb (I.agree (N.agree hF));clear hF I;go_in;go_wp2_with fail;refine Z.mono ?_;rintro e w' ⟨rfl,rfl⟩;go_wp2_with fail;go_ret;exact⟨rfl,N⟩
theorem QdN(w:World)(v:Value):Calls prog 141 #[.agg #[v]] w λe w'=>e=.returned v/\Ext w w':=by
 go_in;go_wp2_with fail;go_ret;exact⟨rfl,(fI w).alloc _ _⟩
theorem Qg1(hF:∀b,F b->b<w.heap.size)(hT:IsT w F T)(ok:OkR T)(hl:(Qaa T).length<=1000000):Calls prog 37 #[Qao T] w (QaU (Qaa T) w):=by
 obtain⟨i0,hi,a2,a4,a3⟩:=eE Tryz.Qa8;have a0:∀W,Ext w W->Calls prog 46 #[Qao T] W λe w'=>e=.returned (.int .i64 (Qaa T).length)/\Ext W w':=λW hW=>
  QlI (λb hb=>ab (hF b hb) hW.size) (hT.agree (hW.agree hF))
 have a7:∀(W:World) (s:Sl),Ext w W->OE W w.heap.size s []->Calls prog 60 #[.slice s.a 0 s.c,QaK T] W (Qce w.heap.size s [] (Qaa T) W):=λW s hW ho=>
  Qk6 (xs:=[]) (hT.agree (hW.agree hF)) (λb hb=>⟨Nat.lt_of_lt_of_le (hF b hb) hW.size,λe=>by have:=(Qad ho.own e).1;have:=hF b hb;omega⟩) hW.size ho ok (by simpa using hl)
 generalize Qaa T=Z at *;obtain⟨MC,a5,b6⟩:∃MC:Array Value,MC.size=Z.length*7/\∀W,(Instr.makeSlice 41 (.int .i64 0) (.int .i64 (Z.length:Int))).run prog W=.ok (.slice (some ⟨W,0,none⟩) 0 Z.length) (W.alloc (.cells MC 78)):=by
  refine⟨madeCells (Value.cells (.agg #[.string ByteArray.empty,.int .i64 0,.bool false,.int .i64 0,.string ByteArray.empty,.slice none 0 0,.slice none 0 0])) (Z.length*7),fm _ _,λW=>?_⟩;have h:=QbG (P:=prog) 41 78 i0 _ underlying41 hi a2 .i64 .i64 0 Z.length (aA _) (by rw[a3];omega) oM W;rw[a4]at h;exact h
 obtain⟨b4,b3,a8⟩:=Yc a5 a0 a7;clear hF hT ok a0 a7 hi a2 a4 a3 a5;go_in;go_wp2_with fail;have N:Ext w (w.alloc (.cells #[QaK T] 48)):=(fI w).alloc _ _;have a1:=fK w 48 #[QaK T];generalize b5:World.alloc _ _=W0 at *;have r0:W0.cell? ⟨w,0,none⟩=some (QaK T):=a1.cell 0;have l0:=a1.lt;clear b5;go_region_held3 (λw'=>w'.cell? ⟨w,0,none⟩=some (QaK T)) (first |(with_reducible exact r1) |(with_reducible exact r3)|go_keep)
  (first
    |(go_at_call 46;refine(b3.o _ ?_).mono ?_;(exact N.drew);rintro e w1 ⟨rfl,I⟩;have r1:=(I.cell (o:=0) l0).trans r0;have l1:=ab l0 I.size)
    |(go_at_call 60;refine(a8.o _ ⟨some ⟨w1,0,none⟩,Z.length⟩ ?_ ?_).mono ?_;(exact((N.drew).trans I).alloc _ _);(exact⟨World.ownsRow_made w1 MC Z.length ((N.drew).trans I).size (by unfold maxLen;omega) b4.o,λx hx=>by simp at hx,sM⟩);rintro e w3 ⟨s3,ys,rfl,a9,b0,a6,b7⟩;have r3:w3.cell? ⟨w,0,none⟩=some (QaK T):=(eL (w:=w1.alloc (.cells MC 78)) (a:=⟨w,0,none⟩) (a6.grown.block w.heap.size (by rw[ew];omega) (λe=>by simp[Sl.row]at e;omega))).trans ((World.cell?_alloc_lt _ _ _ l1).trans r1))
    )
 go_wp2_with fail;go_ret;have hX:=((N.drew).trans I).alloc MC 78;exact⟨s3,ys,rfl,b0,by simpa using a9,hX.wr a6 (λi hi=>by simp[Sl.row]at hi;have:=((N.drew).trans I).size;omega)⟩
section
variable{P : Program}(w : World)
theorem Qdi{ops:Array Oper}{o:Oper}{a:Act}{K:Act->World->Prop}{Q:Exit->Act->World->Prop}{E:Prop}(a5:o.guard=none)(s' x:Operand)(t:TypeId)
  (ho:o.op=.call { callee:=.builtin .append,args:=#[s',x],argTypes:=#[t,t] })
  (base:Nat) (e:TypeId) (i:TypeInfo) (z:Value) (size I:Nat) (ht:P.underlying t=some (.slice e)) (hi:P.info? e=some i) (hz:i.zero=some z)
  (a0:i.size=size) (a8:i.bytes=I) (a4:z.cells.size=size) (a6:0<size)
  (s:Sl) (n:Nat) (xs:List Value) (hs:a.eval s'=.slice s.a n s.c) (a2:w.ownsRow base e size (.slice s.a n s.c) n xs)
  (F:Nat->Prop) (sx:Sl) (m:Nat) (N:List Value) (hx:a.eval x=.slice sx.a m sx.c) (a3:Rd w F size sx m N) (h1:∀u∈N,u.oneCell'=true)
  (a7:n+m<=maxLen) (Z:(n+m)*I<=140737488355328) (a1:base<=w.heap.size)
  (h:∀(s':Sl) (w':World),w'.ownsRow base e size (.slice s'.a (n+m) s'.c) (n+m) (xs++N)->Wr w w' s.row->(s'.a=s.a\/s'.a=some ⟨w,0,none⟩/\Wr w w' none)->K (a.put o.dst (.slice s'.a (n+m) s'.c)) w') :
  if Region.wanted o (yielded ops a.tmps)=true then Oper.wp P o a w K Q else E:=by
 have hw:Region.wanted o (yielded ops a.tmps)=true:=by simp[Region.wanted,a5]
 rw[eu hw];exact Qdl w s' x t ho base e i z size I ht hi hz a0 a8 a4 a6 s n xs hs a2 F sx m N hx a3 h1 a7 Z a1 h
theorem Rd.block{w:World}{g:Nat}{t:TypeId}{cs:List Value}{size n:Nat}(N:Blk w g t cs.toArray)(I:n<=maxLen)(Z:cs.length=n*size):Rd w (λb=>b=g) size ⟨some ⟨g,0,none⟩,n⟩ n cs:=
 ⟨g,0,.some _ _ _ _ (ao _) I rfl,Z,λj u hj=>by rw[aD,N.cell];simpa using hj⟩
end
abbrev fU:=@Rd.block
def Qw6(es:List Ent)(w:World)(e:Ending)(w':World):Prop:=
 ∃T,e=.returned (Qao T)/\Qwz es T/\IsT w' (In w.heap.size w'.heap.size) T/\Ext w w'
theorem Qaj(T:RT):∃p,QaK T=.pointer p:=by
 match T with
 |none=>exact⟨_,rfl⟩
 |some ⟨h,t⟩=>exact⟨_,rfl⟩
theorem ES.ext(h:ES w (Lt w) s xs)(I:Ext w w'):ES w' (Lt w') s xs:=(h.agree (I.agree λ_ h=>h)).mono λ_ hi=>ab hi I.size
theorem Qx5(hs:ES w (Lt w) s xs)(hl:xs.length<=500000):Calls prog 15 #[.slice s.a xs.length s.c] w (Qw6 (xs.map LE.ent) w):=by
 have HS:=hY hs;clear hs;go_in;go_wp2_with fail;generalize a4:World.alloc (World.alloc _ _) _=W0;obtain⟨b7,c6,a7,b6⟩:=Qas w _ _ _ _ W0 a4;clear a4;go_loopw[8] (λi wr=>∃(j:Nat) (T:RT) (p:Option Addr),j<=xs.length/\i=.int .i64 j/\Ext w wr/\Blk wr w.heap.size 48 #[.pointer none]/\Blk wr (w.heap.size+1) 48 #[.pointer p]/\Yd (QaK T=.pointer p)/\Qwz ((xs.take j).map LE.ent) T/\IsT wr (In (w.heap.size+2) wr.heap.size) T)
  (λi _=>xs.length -(intOf i).toNat)
 case atStart=>exact⟨0,none,none,aA _,rfl,b7,a7,b6,hY rfl,.nil,trivial⟩
 obtain⟨j,T,p,hj,rfl,hx,hR,hS,HP,hB,hT⟩:=hrel;clear b7 c6 a7 b6;obtain⟨HX,HR,HB,HT,c3⟩:=Yf hx hR hB hT hS;have c0:wr.cell? ⟨w+1,0,none⟩=some (.pointer p):=hS.cell 0;have fS:=hS.frozen;have lS:=hS.lt;by_cases a1:j<xs.length
 ·obtain ⟨x,a0⟩:∃ x,xs[j]? = some x:=⟨_,ac a1⟩
  obtain⟨b,o,ha,d4,c9,d3,k0,hv,a6,c1⟩:=(HS.o.ext hx).at a0;obtain⟨v0,v1,v2,v3,v4,v5⟩:=hv.m;have c8:(j:Int)<(xs.length:Int):=oM
  have a2:=hB.both;have a8:∀W,Ext wr W->Calls prog 28 #[.agg #[.pointer p],.string x.k,QbV x.v x.sl x.so] W (QsR (In (w.heap.size+2) wr.heap.size) T x.k x.v W):=λW hW=>by
   rw[<-HP.o];exact Qqf (λb N=>ab N.2 hW.size) (hT.agree (hW.agree λb N=>N.2)) a2.1 (by
    rw[a2.2];have:=QnJ ((xs.take j).map LE.ent) [];simp only[List.length_map,List.length_take,List.length_nil]at this;omega) c1 ((a6.agree (hW.agree λb N=>N)).mono λb N=>ab N hW.size)
  obtain⟨sa,sc⟩:=s;dsimp only at ha;subst ha;obtain⟨c2,c7⟩:=Yb a8 a0;clear hx hR hS hB hT a0 hv a6 a2 a8;go_wp2_with fail;refine(c2.o _ ((fI wr).alloc _ _)).mono ?_;rintro e w2 ⟨T2,rfl,b5,b0,a5⟩;obtain⟨Z,a3⟩:=Qaj T2;have b9:=hY a3;dsimp only[Qao];rw[a3];clear a3;have I:Ext wr w2:=((fI wr).alloc _ _).trans a5;have d0:w2.cell? ⟨w+1,0,none⟩=some (.pointer p):=(I.cell lS).trans c0;have f2:∀o,w2.frozen? ⟨w+1,o,none⟩=false:=λo=>(I.frozen lS).trans (fS o)
  have hE:=(HX.o.trans I).setCell (p:=⟨w+1,0,none⟩) (show w.heap.size<=w.heap.size+1 by omega) (.pointer Z);have b3:=(HR.o.ext I).far (p:=⟨w+1,0,none⟩) sM (.pointer Z);have a9:Blk (w2.setCell ⟨w+1,0,none⟩ (.pointer Z)) (w.heap.size+1) 48 #[.pointer Z]:=(c3.o.ext I).QbH 0 _;have b4:IsT (w2.setCell ⟨w+1,0,none⟩ (.pointer Z)) (In (w.heap.size+2) (w2.setCell ⟨w+1,0,none⟩ (.pointer Z)).heap.size) T2:=by
   have b8:=I.size;have a1:=lS;have hm:∀i,Up (In (w.heap.size+2) wr.heap.size) (wr.alloc (.cells #[.string x.k,.int .i64 x.v.kind,.bool x.v.b,.int .i64 x.v.i,.string x.v.t,.slice x.sl.a x.v.l.length x.sl.c,.slice x.so.a x.v.ok.length x.so.c] 78)) w2 i->In (w.heap.size+2) w2.heap.size i:=λi hi=>by
    rcases hi with hi|hi
    .exact ⟨hi.1,ab hi.2 b8⟩
    have:=hi.1;simp at this;exact⟨oM,hi.2⟩
   refine((b0.mono hm).agree (fO w2 ⟨w+1,0,none⟩ _ (λh=>by have h1:w.heap.size+2<=w.heap.size+1:=h.1;omega))).mono λi hi=>⟨hi.1,by simpa using hi.2⟩
  obtain⟨c4,H1,H2,H3,H4⟩:=Yf (Qwz.snoc HB.o b5) hE b3 a9 b4;clear b5 b0 a5 I hE b3 a9 b4;go_wp2_with fail;go_roundw
  case rel=>exact⟨j+1,T2,Z,a1,by go_num,H1.o,H2.o,H3.o,b9,by rw[aT,c7.o,aC];exact c4.o,H4.o⟩
  simp[intOf];omega
 obtain rfl:j=xs.length:=oM
 have r0:wr.cell? ⟨w,0,none⟩=some (.pointer none):=hR.cell 0;have fR:=hR.frozen;clear hx hR hS hB hT;go_wp2_with fail;have q0:(wr.setCell ⟨w,0,none⟩ (.pointer p)).cell? ⟨w,0,none⟩=some (.pointer p):=eN wr _ _ r0;refine eB (v:=.agg #[.pointer p]) (by simp[results,results15,go_sem,q0]) rfl ?_;refine⟨T,by rw[Qao,HP.o],by have:=HB.o;rwa[aU]at this,?_,HX.o.setCell (p:=⟨w,0,none⟩) (ao _) _⟩;exact(HT.o.agree (fO wr ⟨w,0,none⟩ _ (λh=>by have h1:w.heap.size+2<=w.heap.size:=h.1;omega))).mono λi hi=>⟨by have:=hi.1;omega,by simpa using hi.2⟩
theorem Qx4(hs:ES w (Lt w) s xs)(I:xs.length<=100000):Calls prog 15 #[.slice s.a xs.length s.c] w (Qw6 (xs.map LE.ent) w):=Qx5 hs oM
structure Chg where
 k:ByteArray
 had:Bool
 was:Val
 has:Bool
 is_:Val
def Qiu(e:Ent):Chg:=⟨e.1,true,e.2,false,zeroV⟩
def Qjn(e:Ent):Chg:=⟨e.1,false,zeroV,true,e.2⟩
def Qq4(e f:Ent):List Chg:=if Qbq e.2 f.2=0 then[]else[⟨e.1,true,e.2,true,f.2⟩]
def chg:List Ent->List Ent->List Chg
 |[],b=>b.map Qjn
 |e::a,[]=>Qiu e::a.map Qiu
 |e::a,f::b=>if klt e.1 f.1 then Qiu e::chg a (f::b)else if klt f.1 e.1 then Qjn f::chg (e::a) b else Qq4 e f++chg a b
termination_by a b=>a.length+b.length
theorem Qib(a:List Ent):chg a []=a.map Qiu:=by cases a<;>simp[chg]
theorem Qli(b:List Ent):chg [] b=b.map Qjn:=by simp[chg]
variable{e:Ent}
theorem Qq8{a b:List Ent}(h:∀f∈b.head?,klt e.1 f.1=true):chg (e::a) b=Qiu e::chg a b:=by
 cases b with
 |nil=>rw[Qib,Qib];rfl
 |cons f b=>rw[chg,eu (h f rfl)]
theorem Qq7{f:Ent}{a b:List Ent}(h:∀e∈a.head?,klt f.1 e.1=true):chg a (f::b)=Qjn f::chg a b:=by
 cases a with
 |nil=>rw[Qli,Qli];rfl
 |cons e a=>rw[chg,eh (by rw[Qbh (h e rfl)];simp),eu (h e rfl)]
theorem QlU{e f:Ent}{a b:List Ent}(h:e.1=f.1):chg (e::a) (f::b)=Qq4 e f++chg a b:=by
 rw[chg,h,eh (by rw[Qag];simp),eh (by rw[Qag];simp)]
theorem Qic(a b:List Ent):∀c:List Ent,chg (c++a) (c++b)=chg a b
 |[]=>rfl
 |e::c=>by rw[aI,aI,QlU rfl,Qq4,eu (QcN _),aG,Qic a b c]
theorem QlV(a:List Ent):chg a a=[]:=by
 have:=Qic [] [] a;rw[aW,Qib]at this;exact this
abbrev AN:=(h:Nat) × PT h
def AN.es(a:AN):List Ent:=ents a.1 a.2
def AN.at_(a:AN):Nat:=addr a.1 a.2
def AN.ok(a:AN):Prop:=OkT a.1 a.2/\1<=size a.1 a.2
def Qfa(ns:List AN):List Ent:=ns.reverse.flatMap AN.es
def QcE(h:Nat)(t:PT (h+1)):List AN:=t.2.map (Sigma.mk h)
theorem Qhq(I:List AN)(a:AN):Qfa (I++[a])=a.es++Qfa I:=by simp[Qfa]
theorem Qm4(I:List AN)(h:Nat)(t:PT (h+1)):Qfa (I++(QcE h t).reverse)=ents (h+1) t++Qfa I:=by
 simp only[Qfa,List.reverse_append,List.reverse_reverse,List.flatMap_append,QcE,List.flatMap_map];rfl
def QbQ:(h:Nat)->PT h->Nat
 |0,_=>1
 |h+1,t=>1+(t.2.map (QbQ h)).sum
theorem QgN:∀(h:Nat) (t:PT h),1<=QbQ h t
 |0,_=>ao _
 |h+1,t=>by simp[QbQ]
def wtA(a:AN):Nat:=QbQ a.1 a.2+a.es.length
structure Qat where
 es:List Ent
 ns:List AN
 o:Nat
def Qat.cont(x:Qat):List Ent:=x.es++Qfa x.ns
def Qat.wt(x:Qat):Nat:=x.es.length+(x.ns.map wtA).sum
def Qat.ok(x:Qat):Prop:=∀a∈x.ns,a.ok
def Qat.node(x:Qat):Option AN:=if x.es=[]then x.ns.getLast? else none
def Qat.gone(x:Qat):Prop:=x.es=[]/\x.ns=[]
def Qat.height(x:Qat):Int:=if x.es=[]then(match x.ns.getLast? with|some a=>(a.1:Int)|none=>0)else -1
def Qat.first(x:Qat):ByteArray:=match x.es with|e::_=>e.1 | []=>(match x.ns.getLast? with|some a=>Qav a.es|none=>ByteArray.empty)
def Qat.last(x:Qat):ByteArray:=match x.es with|e::_=>e.1 | []=>(match x.ns.getLast? with|some a=>Qbl a.es|none=>ByteArray.empty)
def Qat.skip(x:Qat):Qat:=⟨x.es,x.ns.dropLast,x.o⟩
def Qat.take(x:Qat):Qat:=⟨x.es.tail,x.ns,x.o⟩
def Qat.open_(x:Qat):Qat:=match x.ns.getLast? with
 |none=>x
 |some ⟨0,t⟩=>⟨t.2,x.ns.dropLast,x.o+1⟩
 |some ⟨h+1,t⟩=>⟨x.es,x.ns.dropLast++(QcE h t).reverse,x.o+1⟩
def Qat.head(x:Qat):Ent:=x.es.headD (ByteArray.empty,zeroV)
theorem QeM{α:Type}{l:List α}{a:α}(h:l.getLast? = some a):l=l.dropLast++[a]:=by
 obtain⟨ys,rfl⟩:=List.getLast?_eq_some_iff.1 h;simp
theorem Qat.QaQ{x:Qat}{a:AN}(h:x.node=some a):x.es=[]/\x.ns=x.ns.dropLast++[a]/\x.ns.getLast? = some a:=by
 unfold Qat.node at h;split at h
 .exact ⟨‹_›,QeM h,h⟩
 cases h
theorem Qat.QpT{x:Qat}(h:x.node=none)(I:¬x.gone):∃e es,x.es=e::es:=by
 unfold Qat.node at h;split at h
 .exact absurd ⟨‹_›,cI.1 h⟩ I
 exact List.exists_cons_of_ne_nil ‹_›
theorem Qat.Qc6{x:Qat}{a:AN}(h:x.node=some a):x.height=a.1:=by
 obtain⟨h1,-,h2⟩:=x.QaQ h;simp[Qat.height,h1,h2]
theorem Qat.Qcy{x:Qat}{es:List Ent}(h:x.es=e::es):x.height = -1:=by simp[Qat.height,h]
theorem Qrk{es:List Ent}(h:es≠[]):∃e l,es=e::l/\Qav es=e.1:=by
 obtain⟨e,l,rfl⟩:=List.exists_cons_of_ne_nil h;exact⟨e,l,rfl,rfl⟩
theorem AN.ne{a:AN}(h:a.ok):a.es≠[]:=λe=>by
 have:=Qbk a.1 a.2 h.1 h.2;have e:ents a.1 a.2=[]:=e;rw[e]at this;cases this
theorem Qat.Qht{x:Qat}(ok:x.ok)(Z:¬x.gone):∃e l,x.cont=e::l/\x.first=e.1:=by
 obtain⟨es,I,o⟩:=x;cases es with
 |cons e l=>exact⟨e,l++Qfa I,rfl,rfl⟩
 | nil=>
   cases N:I.getLast? with
   |none=>exact absurd ⟨rfl,cI.1 N⟩ Z
   | some a=>
     have e1:=QeM N;obtain⟨e,l,e2,e3⟩:=Qrk (AN.ne (ok a (bL N)));refine⟨e,l++Qfa I.dropLast,?_,?_⟩
     ·show []++Qfa I=_
      rw[aG,e1,Qhq,e2];simp
     simp[Qat.first,N,e3]
theorem Qat.Qcg{x:Qat}{es:List Ent}(h:x.es=e::es):x.cont=e::x.take.cont/\x.first=e.1/\x.last=e.1/\x.head=e:=by
 obtain⟨l,I,o⟩:=x;dsimp only at h;subst h;exact⟨rfl,rfl,rfl,rfl⟩
theorem Qat.QeC{x:Qat}(h:x.gone):x.cont=[]:=by
 obtain⟨N,I,o⟩:=x;obtain⟨rfl,rfl⟩:N=[]/\I=[]:=h;rfl
theorem Qat.QeD{x:Qat}{a:AN}(h:x.node=some a):x.open_.cont=x.cont/\x.cont=a.es++x.skip.cont:=by
 obtain⟨h1,h2,N⟩:=x.QaQ h;obtain⟨es,I,o⟩:=x;dsimp only at h1 h2 N;subst h1;have Z:(Qat.mk [] I o).cont=a.es++(Qat.mk [] I o).skip.cont:=by
  show[]++Qfa I=a.es++([]++Qfa I.dropLast);rw[aG,aG]
  conv=>lhs;rw[h2]
  exact Qhq _ _
 refine⟨?_,Z⟩;rw[Z];obtain⟨n,t⟩:=a;cases n with
 |zero=>simp only[Qat.open_,N];rfl
 | succ n=>
   simp only[Qat.open_,N];show[]++Qfa _=_;rw[aG,Qm4];rfl
theorem Qkw{I:List AN}{a:AN}(h:I=I.dropLast++[a]):(I.map wtA).sum=(I.dropLast.map wtA).sum+wtA a:=by
 conv=>lhs;rw[h]
 simp
theorem Qtl(l:List (PT h)):((l.map (Sigma.mk h)).map wtA).sum=(l.map (QbQ h)).sum+(l.flatMap (ents h)).length:=by
 induction l with
 |nil=>rfl
 | cons t l ih=>
   simp only[List.map_cons,List.sum_cons,List.flatMap_cons,List.length_append,ih];show QbQ h t+(ents h t).length+_=_;omega
theorem Qat.QiW{x:Qat}{a:AN}(h:x.node=some a):x.open_.wt<x.wt/\x.skip.wt<x.wt:=by
 obtain⟨h1,h2,I⟩:=x.QaQ h;obtain⟨es,Z,o⟩:=x;dsimp only at h1 h2 I;subst h1;have hs:=Qkw h2;have hp:1<=wtA a:=by have:=QgN a.1 a.2;unfold wtA;omega
 refine⟨?_,?_⟩
 ·obtain ⟨n,t⟩:=a
  cases n with
  | zero=>
    simp only[Qat.open_,I];have:wtA ⟨0,t⟩=1+t.2.length:=rfl;simp only[Qat.wt,List.length_nil];omega
  | succ n=>
    simp only[Qat.open_,I];have e1:wtA ⟨n+1,t⟩=1+(t.2.map (QbQ n)).sum+(t.2.flatMap (ents n)).length:=rfl;have N:((QcE n t).reverse.map wtA).sum=(t.2.map (QbQ n)).sum+(t.2.flatMap (ents n)).length:=by
     rw[List.map_reverse,List.sum_reverse];exact Qtl t.2
    simp only[Qat.wt,List.length_nil,List.map_append,List.sum_append,N];omega
 simp only[Qat.wt,Qat.skip,List.length_nil];omega
theorem Qat.QiX{x:Qat}{es:List Ent}(h:x.es=e::es):x.take.wt<x.wt:=by
 simp[Qat.wt,Qat.take,h]
theorem Qat.QpZ{x:Qat}(ok:x.ok):x.skip.ok:=λa I=>ok a (cY _ I)
theorem Qat.QiM{x:Qat}(ok:x.ok):x.take.ok:=ok
theorem Qat.QpY{x:Qat}(ok:x.ok):x.open_.ok:=by
 unfold Qat.open_;split
 .exact ok
 .exact λa I=>ok a (cY _ I)
 rename_i h t hg;intro a I;rcases aS.1 I with I|I
 .exact ok a (cY _ I)
 obtain⟨k,N,rfl⟩:=bW.1 (List.mem_reverse.1 I);have h1:=(ok _ (bL hg)).1.2.2 k N;exact⟨h1.1,an oN h1.2⟩
def Qsm(x y:Qat):Prop:=∃a b,x.node=some a/\y.node=some b/\a.at_=b.at_
inductive Step:Qat->Qat->Qat->Qat->List Chg->Prop
 |skip {x y:Qat} {a:AN} (hx:x.node=some a) (hy:y.node=some a):Step x y x.skip y.skip []
 |openX {x y:Qat} {a:AN} (hx:x.node=some a) (hne:¬Qsm x y) (hc:y.gone\/klt x.last y.first=true\/(klt x.last y.first=false/\klt y.last x.first=false/\¬y.gone/\y.height<a.1)):Step x y x.open_ y []
 |openY {x y:Qat} {b:AN} (hy:y.node=some b) (hne:¬Qsm x y) (hc:x.gone\/klt y.last x.first=true\/(klt x.last y.first=false/\klt y.last x.first=false/\¬x.gone/\x.height<=b.1)):Step x y x y.open_ []
 |gone {x y:Qat} {e:Ent} {es:List Ent} (hx:x.es=e::es) (hc:y.gone\/(¬y.gone/\klt e.1 y.first=true)):Step x y x.take y [Qiu e]
 |come {x y:Qat} {f:Ent} {fs:List Ent} (hy:y.es=f::fs) (hc:x.gone\/(¬x.gone/\klt f.1 x.first=true)):Step x y x y.take [Qjn f]
 |both {x y:Qat} {e f:Ent} {es fs:List Ent} (hx:x.es=e::es) (hy:y.es=f::fs) (hk:e.1=f.1):Step x y x.take y.take (Qq4 e f)
theorem Step.wt{x y N I:Qat}{l:List Chg}(h:Step x y N I l):N.wt+I.wt<x.wt+y.wt:=by
 cases h with
 |skip hx hy=>have:=(x.QiW hx).2;have:=(y.QiW hy).2;omega
 |openX hx=>have:=(x.QiW hx).1;omega
 |openY hy=>have:=(y.QiW hy).1;omega
 |gone hx=>have:=x.QiX hx;omega
 |come hy=>have:=y.QiX hy;omega
 |both hx hy=>have:=x.QiX hx;have:=y.QiX hy;omega
theorem Step.ok{x y x' Z:Qat}{l:List Chg}(h:Step x y x' Z l)(I:x.ok)(N:y.ok):x'.ok/\Z.ok:=by
 cases h with
 |skip=>exact⟨Qat.QpZ I,Qat.QpZ N⟩
 |openX=>exact⟨Qat.QpY I,N⟩
 |openY=>exact⟨I,Qat.QpY N⟩
 |gone=>exact⟨Qat.QiM I,N⟩
 |come=>exact⟨I,Qat.QiM N⟩
 |both=>exact⟨Qat.QiM I,Qat.QiM N⟩
theorem Step.chg{x y x' y':Qat}{l:List Chg}(h:Step x y x' y' l)(hx:x.ok)(hy:y.ok):Proofs.YtdiecmkpbadgjaaGreatDoor.chg x.cont y.cont=l++Proofs.YtdiecmkpbadgjaaGreatDoor.chg x'.cont y'.cont:=by
 cases h with
 |skip h1 h2=>rw[(x.QeD h1).2,(y.QeD h2).2,Qic,aG]
 |openX h1=>rw[(x.QeD h1).1,aG]
 |openY h1=>rw[(y.QeD h1).1,aG]
 | gone h1 I=>
   obtain⟨e1,e2,-,-⟩:=x.Qcg h1;rw[e1,dC];refine Qq8 λf N=>?_
   rcases I with I |⟨I,Z⟩
   .rw [y.QeC I]at N;cases N
   obtain⟨g,l,e3,e4⟩:=y.Qht hy I;rw[e3]at N;obtain rfl:g=f:=by simpa using N
   rw[<-e4];exact Z
 | come h1 I=>
   obtain⟨e1,e2,-,-⟩:=y.Qcg h1;rw[e1,dC];refine Qq7 λf N=>?_
   rcases I with I |⟨I,Z⟩
   .rw [x.QeC I]at N;cases N
   obtain⟨g,l,e3,e4⟩:=x.Qht hx I;rw[e3]at N;obtain rfl:g=f:=by simpa using N
   rw[<-e4];exact Z
 |both h1 h2 Z=>rw[(x.Qcg h1).1,(y.Qcg h2).1,QlU Z]
inductive Run (x0 y0:Qat):Qat->Qat->List Chg->Prop
 |start:Run x0 y0 x0 y0 []
 |step {x y x' y':Qat} {l m:List Chg} (h:Run x0 y0 x y l) (hs:Step x y x' y' m):Run x0 y0 x' y' (l++m)
theorem Run.ok{N I x y:Qat}{l:List Chg}(h:Run N I x y l)(Z:N.ok)(hy:I.ok):x.ok/\y.ok:=by
 induction h with
 |start=>exact⟨Z,hy⟩
 |step _ hs ih=>exact hs.ok ih.1 ih.2
theorem Run.chg{N I x y:Qat}{l:List Chg}(h:Run N I x y l)(Z:N.ok)(hy:I.ok):Proofs.YtdiecmkpbadgjaaGreatDoor.chg N.cont I.cont=l++Proofs.YtdiecmkpbadgjaaGreatDoor.chg x.cont y.cont:=by
 induction h with
 |start=>rfl
 |step hr hs ih=>rw[ih,hs.chg (hr.ok Z hy).1 (hr.ok Z hy).2,aN]
theorem Run.done{N I x y:Qat}{l:List Chg}(h:Run N I x y l)(hx:N.ok)(Z:I.ok)(gx:x.gone)(gy:y.gone):Proofs.YtdiecmkpbadgjaaGreatDoor.chg N.cont I.cont=l:=by
 rw[h.chg hx Z,x.QeC gx,y.QeC gy,QlV,aW]
def Qbd(ns:List AN):Nat:=(ns.map λa=>QbQ a.1 a.2).sum
def Qat.tot(x:Qat):Nat:=x.o+Qbd x.ns
theorem Qen(I:List AN)(a:AN):Qbd (I++[a])=Qbd I+QbQ a.1 a.2:=by simp[Qbd]
theorem Qlj(I:List AN)(h:Nat)(t:PT (h+1)):Qbd (I++(QcE h t).reverse)=Qbd I+(t.2.map (QbQ h)).sum:=by
 simp only[Qbd,List.map_append,List.sum_append,List.map_reverse,List.sum_reverse,QcE,List.map_map];rfl
theorem Qnz(I:List AN):I.length<=Qbd I:=by
 induction I with
 |nil=>exact ao _
 | cons a I ih=>
   have:=QgN a.1 a.2;simp only[Qbd,List.map_cons,List.sum_cons,List.length_cons]at *;omega
theorem Qat.Qgc{x:Qat}{a:AN}(h:x.node=some a):x.open_.tot=x.tot/\x.skip.tot+1<=x.tot:=by
 obtain⟨h1,h2,I⟩:=x.QaQ h;have e:Qbd x.ns=Qbd x.ns.dropLast+QbQ a.1 a.2:=by
  conv=>lhs;rw[h2]
  exact Qen _ _
 have:=QgN a.1 a.2;refine⟨?_,by simp only[Qat.tot,Qat.skip];omega⟩;obtain⟨n,t⟩:=a;cases n with
 | zero=>
   simp only[Qat.open_,I,Qat.tot];have N:QbQ 0 t=1:=rfl;dsimp only at e;omega
 | succ n=>
   simp only[Qat.open_,I,Qat.tot,Qlj];have N:QbQ (n+1) t=1+(t.2.map (QbQ n)).sum:=rfl;dsimp only at e;omega
theorem QeK:∀(es:List Ent) (k:ByteArray) (v:Val) (x:ByteArray),Qaq (QbY es k v) x=if x=k then some v else Qaq es x
 | [],k,v,x=>by
   simp only[QbY,Qaq];by_cases h:x=k
   .rw [eu h.symm,eu h]
   rw[eh (λe=>h e.symm),eh h]
 | e :: es,k,v,x=>by
   by_cases h1:klt e.1 k=true
   ·rw [QbY,eu h1,Qaq,Qaq,QeK es k v x]
    by_cases h:x=k
    ·have:e.1≠x:=fun h2=>by rw [h2,h,Qag] at h1;cases h1
     rw[eh this,eu h,eu h]
    rw[eh h,eh h]
   rw[QbY,eh h1];by_cases h2:e.1=k
   ·rw [eu h2,Qaq,Qaq,h2]
    by_cases h:x=k
    .rw [eu h.symm,eu h]
    rw[eh (λe=>h e.symm),eh h,eh (λe=>h e.symm)]
   rw[eh h2,Qaq];by_cases h:x=k
   .rw [eu h.symm,eu h]
   rw[eh (λe=>h e.symm),eh h]
theorem Qcx:∀(es:List Ent) (k:ByteArray) (x:ByteArray),Sorted es->Qaq (QbM es k) x=if x=k then none else Qaq es x
 |[],k,x,_=>by simp[QbM,Qaq]
 | e :: es,k,x,hs=>by
   obtain⟨h1,h2⟩:=bf.1 hs;by_cases Z:klt e.1 k=true
   ·rw [QbM,eu Z,Qaq,Qaq,Qcx es k x h2]
    by_cases h:x=k
    ·have:e.1≠x:=fun h2=>by rw [h2,h,Qag] at Z;cases Z
     rw[eh this,eu h,eu h]
    rw[eh h,eh h]
   rw[QbM,eh Z];by_cases N:e.1=k
   ·rw [eu N,Qaq,N]
    by_cases h:x=k
    ·rw [eu h]
     exact QeL λf I e2=>by have:=h1 f I;rw[N,e2,h,Qag]at this;cases this
    rw[eh h,eh (λe=>h e.symm)]
   rw[eh N];by_cases h:x=k
   ·rw [eu h]
    refine QeL λf I e2=>?_
    rcases aH.1 I with rfl|I
    .exact N (e2.trans h)
    have:=h1 f I;rw[e2,h]at this;exact Z this
   rw[eh h]
def Qu3:Option Val->Option Val->Bool
 |none,none=>true
 |some v,some u=>decide (Qbq v u=0)
 |_,_=>false
theorem Qks(o:Option Val):Qu3 o o=true:=by cases o<;>simp[Qu3,QcN]
open Go.Maps
abbrev ej:=@decide_eq_false
abbrev em:=@decide_eq_true
section
variable{α : Type}
abbrev AL(α:Type):=List (ByteArray × α)
def Qay(C:AL α):Prop:=C.Pairwise λa b=>klt a.1 b.1=true
def QaZ:AL α->ByteArray->Option α
 |[],_=>none
 |e::r,k=>if e.1=k then some e.2 else QaZ r k
def QcX:AL α->ByteArray->α->AL α
 |[],k,v=>[(k,v)]
 |e::r,k,v=>if klt e.1 k then e::QcX r k v else if e.1=k then(k,v)::r else(k,v)::e::r
def Qjs(C:AL α)(k:ByteArray):AL α:=C.filter λp=>!decide (p.1=k)
theorem QeH{C:AL α}{k:ByteArray}(h:∀e∈C,e.1≠k):QaZ C k=none:=by
 induction C with
 |nil=>rfl
 |cons e r ih=>rw[QaZ,eh (h e (aF ..)),ih λf I=>h f (aR _ I)]
theorem QeJ{C:AL α}{k:ByteArray}{s:α}(h:QaZ C k=some s):(k,s)∈C:=by
 induction C with
 |nil=>cases h
 | cons e r ih=>
   rw[QaZ]at h;by_cases I:e.1=k
   ·rw [eu I] at h
    injection h with h;subst I h;exact aF ..
   rw[eh I]at h;exact aR _ (ih h)
theorem Qcs{e:ByteArray × α}{r:AL α}(h:Qay (e::r)):Qay r/\∀f∈r,klt e.1 f.1=true/\f.1≠e.1:=by
 obtain⟨h1,h2⟩:=bf.1 h;exact⟨h2,λf I=>⟨h1 f I,λN=>by have:=h1 f I;rw[N,Qag]at this;cases this⟩⟩
theorem Qir{C:AL α}(hs:Qay C){k:ByteArray}{s:α}(h:(k,s)∈C):QaZ C k=some s:=by
 induction C with
 |nil=>cases h
 | cons e r ih=>
   obtain⟨h2,h1⟩:=Qcs hs;rw[QaZ];rcases aH.1 h with rfl|h
   .rw [eu rfl]
   rw[eh (λI=>(h1 _ h).2 I.symm),ih h2 h]
theorem QeI:∀(C:AL α) (k:ByteArray) (v:α) (x:ByteArray),QaZ (QcX C k v) x=if x=k then some v else QaZ C x
 | [],k,v,x=>by
   simp only[QcX,QaZ];by_cases h:x=k
   .rw [eu h.symm,eu h]
   rw[eh (λe=>h e.symm),eh h]
 | e :: es,k,v,x=>by
   by_cases h1:klt e.1 k=true
   ·rw [QcX,eu h1,QaZ,QaZ,QeI es k v x]
    by_cases h:x=k
    ·have:e.1≠x:=fun h2=>by rw [h2,h,Qag] at h1;cases h1
     rw[eh this,eu h,eu h]
    rw[eh h,eh h]
   rw[QcX,eh h1];by_cases h2:e.1=k
   ·rw [eu h2,QaZ,QaZ,h2]
    by_cases h:x=k
    .rw [eu h.symm,eu h]
    rw[eh (λe=>h e.symm),eh h,eh (λe=>h e.symm)]
   rw[eh h2,QaZ];by_cases h:x=k
   .rw [eu h.symm,eu h]
   rw[eh (λe=>h e.symm),eh h]
theorem Ql2(k x:ByteArray):∀(C:AL α),QaZ (Qjs C k) x=if x=k then none else QaZ C x
 |[]=>by simp[Qjs,QaZ]
 | e :: r=>by
   have Z:=Ql2 k x r;unfold Qjs at Z ⊢;by_cases h:e.1=k
   ·rw [bA,eh (by simp [h]),Z,QaZ]
    by_cases I:x=k
    .rw [eu I,eu I]
    rw[eh I,eh I,eh (λN=>I (N.symm.trans h))]
   rw[bA,eu (by simp[h]),QaZ,Z,QaZ];by_cases I:x=k
   .rw [eu I,eu I,eh (λN=>h (N.trans I))]
   rw[eh I,eh I]
theorem QiH{C:AL α}{k:ByteArray}{v:α}{x:ByteArray × α}(h:x∈QcX C k v):x=(k,v)\/x∈C:=by
 induction C with
 |nil=>exact .inl (by simpa[QcX]using h)
 | cons e r ih=>
   rw[QcX]at h;split at h
   ·rcases aH.1 h with rfl | h
    .exact .inr (aF ..)
    exact(ih h).imp id (aR _)
   split at h
   ·rcases aH.1 h with rfl | h
    .exact .inl rfl
    exact .inr (aR _ h)
   exact aH.1 h
theorem Qbu{C:AL α}(h:Qay C)(k:ByteArray)(v:α):Qay (QcX C k v):=by
 induction C with
 |nil=>exact bf.2 ⟨λ_ I=>(by cases I),List.Pairwise.nil⟩
 | cons e r ih=>
   obtain⟨h1,h2⟩:=bf.1 h;rw[QcX];split
   ·rename_i hk
    refine bf.2 ⟨λx I=>?_,ih h2⟩;rcases QiH I with rfl|I
    .exact hk
    exact h1 x I
   rename_i hk;split
   ·rename_i he
    exact bf.2 ⟨λx I=>by rw[<-he];exact h1 x I,h2⟩
   rename_i he;have N:klt k e.1=true:=QcU (by simpa using hk) he;refine bf.2 ⟨λx I=>?_,h⟩;rcases aH.1 I with rfl|I
   .exact N
   exact QaH N (h1 x I)
theorem Qgt{C:AL α}(h:Qay C)(k:ByteArray):Qay (Qjs C k):=h.sublist (cz ..)
theorem Qes:∀{a b:AL α},Qay a->Qay b->(∀k,QaZ a k=QaZ b k)->a=b
 |[],[],_,_,_=>rfl
 |[],f::b,_,_,h=>by have:=h f.1;simp[QaZ]at this
 |e::a,[],_,_,h=>by have:=h e.1;simp[QaZ]at this
 | e :: a,f :: b,ha,hb,h=>by
   obtain⟨a2,a1⟩:=Qcs ha;obtain⟨b2,b1⟩:=Qcs hb;have hk:e.1=f.1:=by
    refine QbE ?_ ?_
    ·cases Z:klt e.1 f.1 with
     |false=>rfl
     | true=>
       have h1:=h e.1;rw[QaZ,eu rfl,QeH (C:=f::b) (λg I N=>by
        rcases aH.1 I with rfl|I
        .rw [N,Qag]at Z;cases Z
        have:=QaH Z (b1 g I).1;rw[N,Qag]at this;cases this)]at h1
       cases h1
    cases Z:klt f.1 e.1 with
    |false=>rfl
    | true=>
      have h1:=h f.1;rw[QeH (C:=e::a) (k:=f.1) (λg I N=>by
       rcases aH.1 I with rfl|I
       .rw [N,Qag]at Z;cases Z
       have:=QaH Z (a1 g I).1;rw[N,Qag]at this;cases this),QaZ,eu rfl]at h1
      cases h1
   have h0:=h e.1;rw[QaZ,eu rfl,QaZ,eu hk.symm]at h0;injection h0 with h0;have he:e=f:=Prod.ext hk h0;subst he;rw[Qes a2 b2 λk=>?_];by_cases hx:e.1=k
   .rw [QeH λg I N=>(a1 g I).2 (N.trans hx.symm),QeH λg I N=>(b1 g I).2 (N.trans hx.symm)]
   have:=h k;rwa[QaZ,eh hx,QaZ,eh hx]at this
theorem Qqe{C:AL α}(h:Qay C){k:ByteArray}{s I:α}(Z:QaZ C k=some I):QcX (QcX C k s) k I=C:=
 Qes (Qbu (Qbu h k s) k I) h λx=>by
  rw[QeI,QeI];by_cases N:x=k
  .rw [eu N,N,Z]
  rw[eh N,eh N]
theorem QoT{C:AL α}(h:Qay C){k:ByteArray}{s:α}(N:QaZ C k=none):Qjs (QcX C k s) k=C:=
 Qes (Qgt (Qbu h k s) k) h λx=>by
  rw[Ql2,QeI];by_cases I:x=k
  .rw [eu I,I,N]
  rw[eh I,eh I]
theorem Qsc{C:AL α}{k:ByteArray}{v:α}:(QcX C k v).length<=C.length+1:=by
 induction C with
 |nil=>simp[QcX]
 | cons e r ih=>
   rw[QcX];split
   .simp only[List.length_cons];omega
   split<;>simp only[List.length_cons]<;>omega
end
section
variable{α : Type}(f : α -> Value)
abbrev Qfz(k:ByteArray):Lit:=.string k.data.toList
abbrev Qsx(p:ByteArray × α):Lit × DataW Value:=(Qfz p.1,.held (f p.2))
def mapA(C:AL α):DataW Value:=.map (C.map (Qsx f))
def QeO(v:Value):Option (DataW Value × List MemPlace):=some (.held v,[])
theorem QeP{v u:Value}{ps:List MemPlace}(h:QeO v=some (.held u,ps)):v=u:=by
 injection h with h;injection h with h;injection h
theorem Qjc:∀a b:List UInt8,bytesBefore a b=Op.bytesLess a b
 |[],[]=>rfl
 |[],_::_=>rfl
 |_::_,[]=>rfl
 |a::x,b::y=>by rw[bytesBefore,Op.bytesLess,Qjc x y]
theorem Qgj(a b:ByteArray):(Qfz a).before (Qfz b)=klt a b:=by
 show bytesBefore _ _=Op.bytesLess _ _;rw[Qjc,eD,eD]
theorem QeY(a b:ByteArray):(Qfz a).sameKey (Qfz b)=decide (a=b):=by
 show(a.data.toList==b.data.toList)=_;rw[<-eD,<-eD];exact beq_toList a b
theorem Ql5(C:AL α)(k:ByteArray):Maps.has (mapA f C) (Qfz k)=(QaZ C k).isSome:=by
 show List.any (List.map _ C) _=_
 induction C with
 |nil=>rfl
 | cons e r ih=>
   rw[aY,List.any_cons,ih,QaZ];show((Qfz e.1).sameKey (Qfz k)||_)=_;rw[QeY];by_cases h:e.1=k
   .rw [eu h,em h];rfl
   rw[eh h,ej h];rfl
theorem Qgh(C:AL α)(k:ByteArray)(zd:DataW Value):(mapA f C).atKey (Qfz k) zd=match QaZ C k with
  |some s=>.held (f s)
  |none=>zd:=by
 unfold mapA;simp only[DataW.atKey]
 induction C with
 |nil=>rfl
 | cons e r ih=>
   rw[aY,List.find?_cons,QaZ];by_cases h:e.1=k
   .rw [eu h,show(Qfz e.1).sameKey (Qfz k)=true by rw[QeY,em h]]
   rw[eh h,show(Qfz e.1).sameKey (Qfz k)=false by rw[QeY,ej h]];exact ih
theorem Qkt(C:AL α):Maps.size (mapA f C)=C.length:=by
 show List.length (List.map _ C)=_;rw[aq]
theorem Qek(k:ByteArray):∀C:AL α,(C.map (Qsx f)).filter (λp=>!p.1.sameKey (Qfz k))=(Qjs C k).map (Qsx f)
 |[]=>rfl
 | e :: r=>by
   have I:=Qek k r;unfold Qjs at I ⊢;rw[aY,bA,bA,I];show(if(!(Qfz e.1).sameKey (Qfz k))=true then _ else _)=_;rw[QeY];split<;>rfl
theorem Qrg(C:AL α)(k:ByteArray):(mapA f C).del (Qfz k)=mapA f (Qjs C k):=by
 show DataW.map (List.filter _ (List.map _ C))=_;rw[Qek];rfl
theorem QgE(k:ByteArray)(s:α):∀C:AL α,Qay C->DataW.insert (Qfz k,(DataW.held (f s):DataW Value)) ((Qjs C k).map (Qsx f))=(QcX C k s).map (Qsx f)
 |[],_=>rfl
 | e :: r,h=>by
   obtain⟨h2,h1⟩:=Qcs h;have ih:=QgE k s r h2;have N:∀x:ByteArray,(∀g∈r,g.1≠x)->Qjs r x=r:=λx hx=>List.filter_eq_self.2 λg Z=>by simp[hx g Z]
   have I:∀(g:ByteArray × α) (t:AL α),klt k g.1=true->DataW.insert (Qfz k,(DataW.held (f s):DataW Value)) ((g::t).map (Qsx f))=(((k,s)::g::t).map (Qsx f)):=λg t Z=>by
    rw[aY,DataW.insert,eu (by show(Qfz k).before (Qfz g.1)=true;rw[Qgj,Z])];rfl
   rw[QcX];by_cases hk:klt e.1 k=true
   ·have a1:e.1≠k:=fun e2=>by rw [e2,Qag] at hk;cases hk
    rw[eu hk,show Qjs (e::r) k=e::Qjs r k by unfold Qjs;rw[bA,eu (by simp[a1])],aY,DataW.insert,eh (by show ¬(Qfz k).before (Qfz e.1)=true;rw[Qgj,Qbh hk];simp),ih];rfl
   rw[eh hk];by_cases he:e.1=k
   ·rw [eu he,show Qjs (e :: r) k=r by
     rw[<-he];show List.filter _ _=_;rw[bA,eh sM];exact N e.1 λg Z=>(h1 g Z).2]
    cases r with
    |nil=>rfl
    |cons g t=>exact I g t (by rw[<-he];exact(h1 g (aF ..)).1)
   have a0:klt k e.1=true:=QcU (by simpa using hk) he;rw[eh he,show Qjs (e::r) k=e::r by
    show List.filter _ _=_;rw[bA,eu (by simp[he])];exact congrArg (e :: ·) (N k λg Z e2=>by have:=QaH a0 (h1 g Z).1;rw[e2,Qag]at this;cases this)]
   exact I e r a0
theorem Qse{C:AL α}(h:Qay C)(k:ByteArray)(s:α):(mapA f C).put (Qfz k) (.held (f s))=mapA f (QcX C k s):=by
 show DataW.map (DataW.insert _ (List.filter _ (List.map _ C)))=_;rw[Qek,QgE f k s C h];rfl
end
abbrev Slots:=AL (Option Val)
def QkO(B:List Ent)(C:Slots)(k:ByteArray):Option Val:=match QaZ C k with
 |some s=>s
 |none=>Qaq B k
def Qfw(B:List Ent):Slots->List Ent->List Ent
 |[],t=>t
 |(k,some v)::r,t=>Qfw B r (if(Qaq B k).any (λwas=>decide (Qbq was v=0))then t else QbY t k v)
 |(k,none)::r,t=>Qfw B r (if(Qaq B k).isSome then QbM t k else t)
theorem Qcn(B:List Ent):∀(C:Slots) (t:List Ent),Sorted t->Sorted (Qfw B C t)
 |[],t,h=>h
 | (k,some v) :: r,t,h=>by
   rw[Qfw];split
   .exact Qcn B r t h
   exact Qcn B r _ (Qa1 h k v)
 | (k,none) :: r,t,h=>by
   rw[Qfw];split
   .exact Qcn B r _ (QaN h k)
   exact Qcn B r t h
theorem Qcw(B:List Ent){k:ByteArray}:∀(C:Slots) (t:List Ent),Sorted t->(∀e∈C,e.1≠k)->Qaq (Qfw B C t) k=Qaq t k
 |[],t,_,_=>rfl
 | (k',some v) :: r,t,h,hk=>by
   rw[Qfw];have h1:k'≠k:=hk _ (aF ..);have h2:=λf I=>hk f (aR _ I)
   split
   .exact Qcw B r t h h2
   rw[Qcw B r _ (Qa1 h k' v) h2,QeK,eh (λe=>h1 e.symm)]
 | (k',none) :: r,t,h,hk=>by
   rw[Qfw];have h1:k'≠k:=hk _ (aF ..);have h2:=λf I=>hk f (aR _ I)
   split
   .rw [Qcw B r _ (QaN h k') h2,Qcx _ _ _ h,eh (λe=>h1 e.symm)]
   exact Qcw B r t h h2
theorem QeB(B:List Ent){k:ByteArray}:∀(C:Slots) (t:List Ent),Qay C->Sorted t->Qaq t k=Qaq B k->Qu3 (Qaq (Qfw B C t) k) (QkO B C k)=true
 |[],t,_,_,h=>by rw[Qfw,QkO,QaZ,h];exact Qks _
 | (k',s) :: r,t,hs,ht,h=>by
   obtain⟨h2,a1⟩:=Qcs hs;have Z:=λf hm=>(a1 f hm).2
   by_cases hk:k'=k
   ·subst hk
    have hn:QkO B ((k',s)::r) k'=s:=by rw[QkO,QaZ,eu rfl]
    rw[hn];cases s with
    | some v=>
      rw[Qfw];split
      ·rename_i I
       rw[Qcw B r t ht Z,h];cases N:Qaq B k' with
       |none=>rw[N]at I;cases I
       |some b=>rw[N]at I;exact I
      rw[Qcw B r _ (Qa1 ht k' v) Z,QeK,eu rfl];exact Qks _
    | none=>
      rw[Qfw];split
      .rw [Qcw B r _ (QaN ht k') Z,Qcx _ _ _ ht,eu rfl];rfl
      rename_i N;rw[Qcw B r t ht Z,h];cases a0:Qaq B k' with
      |none=>rfl
      |some b=>rw[a0]at N;exact absurd rfl N
   have hn:QkO B ((k',s)::r) k=QkO B r k:=by rw[QkO,QkO,QaZ,eh hk]
   rw[hn];cases s with
   | some v=>
     rw[Qfw];split
     .exact QeB B r t h2 ht h
     exact QeB B r _ h2 (Qa1 ht k' v) (by rw[QeK,eh (λe=>hk e.symm),h])
   | none=>
     rw[Qfw];split
     .exact QeB B r _ h2 (QaN ht k') (by rw[Qcx _ _ _ ht,eh (λe=>hk e.symm),h])
     exact QeB B r t h2 ht h
def idleC(B:List Ent)(C:Slots):Prop:=∀k s,QaZ C k=some s->match s with
 |some v=>(Qaq B k).any (λwas=>decide (Qbq was v=0))=true
 |none=>Qaq B k=none
def Qfh(P:ByteArray->Bool)(M:List Ent):List ByteArray:=(M.filter λe=>P e.1).map Prod.fst
theorem QiP:∀{a b:List ByteArray},a.Pairwise (λx y=>klt x y=true)->b.Pairwise (λx y=>klt x y=true)->(∀k,k∈a↔k∈b)->a=b
 |[],[],_,_,_=>rfl
 |[],y::b,_,_,h=>by have:=(h y).2 (aF ..);cases this
 |x::a,[],_,_,h=>by have:=(h x).1 (aF ..);cases this
 | x :: a,y :: b,ha,hb,h=>by
   obtain⟨a1,a2⟩:=bf.1 ha;obtain⟨b1,b2⟩:=bf.1 hb;have N:x=y:=by
    rcases aH.1 ((h x).1 (aF ..))with e|e
    .exact e
    rcases aH.1 ((h y).2 (aF ..))with Z|Z
    .exact Z.symm
    have h1:=b1 x e;have h2:=a1 y Z;rw[Qbh h1]at h2;cases h2
   subst N;rw[QiP a2 b2 λk=>⟨λI=>?_,λI=>?_⟩]
   ·rcases aH.1 ((h k).1 (aR _ I)) with e | e
    .have:=a1 k I;rw[e,Qag]at this;cases this
    exact e
   rcases aH.1 ((h k).2 (aR _ I))with e|e
   .have:=b1 k I;rw[e,Qag]at this;cases this
   exact e
theorem Qis{B:List Ent}(hs:Sorted B)(h:e∈B):Qaq B e.1=some e.2:=by
 induction B with
 |nil=>cases h
 | cons f r ih=>
   obtain⟨h1,h2⟩:=bf.1 hs;rw[Qaq];rcases aH.1 h with rfl|h
   .rw [eu rfl]
   have:=h1 _ h;rw[eh (λI=>by rw[I,Qag]at this;cases this),ih h2 h]
theorem QdW{B:List Ent}{k:ByteArray}{v:Val}(h:Qaq B k=some v):(k,v)∈B:=by
 induction B with
 |nil=>cases h
 | cons e r ih=>
   rw[Qaq]at h;by_cases I:e.1=k
   ·rw [eu I] at h
    injection h with h;subst I h;exact aF ..
   rw[eh I]at h;exact aR _ (ih h)
variable{M:List Ent}
theorem QgL{P:ByteArray->Bool}(hs:Sorted M){k:ByteArray}:k∈Qfh P M↔P k=true/\(Qaq M k).isSome=true:=by
 simp only[Qfh,List.mem_map,List.mem_filter];constructor
 ·rintro ⟨e,⟨Z,I⟩,rfl⟩
  exact⟨I,by rw[Qis hs Z];rfl⟩
 rintro⟨I,h⟩;obtain⟨v,N⟩:=cN.1 h;exact⟨(k,v),⟨QdW N,I⟩,rfl⟩
theorem Qnn{P:ByteArray->Bool}(hs:Sorted M):(Qfh P M).Pairwise λx y=>klt x y=true:=
 bO.2 (hs.sublist (cz ..))
structure SV where
 has:Bool
 v:Val
 sl:Sl
 so:Sl
abbrev SV.cells(s:SV):Array Value:=#[.bool s.has,.int .i64 s.v.kind,.bool s.v.b,.int .i64 s.v.i,.string s.v.t,.slice s.sl.a s.v.l.length s.sl.c,.slice s.so.a s.v.ok.length s.so.c]
abbrev SV.val(s:SV):Value:=.agg s.cells
def SV.opt(s:SV):Option Val:=if s.has then some s.v else none
def Qhe(C:AL SV):Slots:=C.map λp=>(p.1,p.2.opt)
theorem QdU(k:ByteArray):∀C:AL SV,QaZ (Qhe C) k=(QaZ C k).map SV.opt
 |[]=>rfl
 | e :: r=>by
   have I:=QdU k r;unfold Qhe at I ⊢;rw[aY,QaZ,QaZ,I];split<;>rfl
variable{C:AL SV}
theorem QhM(h:Qay C):Qay (Qhe C):=bO.2 h
theorem Qms(C:AL SV)(k:ByteArray)(s:SV)(x:ByteArray):QaZ (Qhe (QcX C k s)) x=if x=k then some s.opt else QaZ (Qhe C) x:=by
 rw[QdU,QeI,QdU];split<;>rfl
structure UD where
 k:ByteArray
 old:Option SV
def Qhh(u:UD)(C:AL SV):AL SV:=match u.old with
 |some o=>QcX C u.k o
 |none=>Qjs C u.k
theorem QqJ(h:Qay C){k:ByteArray}(s:SV):Qhh ⟨k,QaZ C k⟩ (QcX C k s)=C:=by
 unfold Qhh;cases I:QaZ C k with
 |some o=>exact Qqe h I
 |none=>exact QoT h I
theorem QkD(h:Qay C)(u:UD):Qay (Qhh u C):=by
 unfold Qhh;split
 .exact Qbu h _ _
 exact Qgt h _
def Qdp(us:List UD)(C:AL SV)(m:Nat):AL SV:=(us.drop m).foldr Qhh C
theorem Qjb(I:List UD)(C:AL SV):Qdp I C I.length=C:=by simp[Qdp]
theorem Qhk{I:List UD}{m:Nat}{u:UD}(h:I[m]? = some u):Qdp I C m=Qhh u (Qdp I C (m+1)):=by
 obtain⟨N,rfl⟩:=ai.1 h;unfold Qdp;rw[aE N];rfl
structure Chain(us:List UD)(H:List (AL SV)):Prop where
 len:H.length=us.length+1
 step:∀i u,us[i]? = some u->∃(C:AL SV) (s:SV),H[i]? = some C/\Qay C/\u.old=QaZ C u.k/\H[i+1]? = some (QcX C u.k s)
theorem Chain.nil(C:AL SV):Chain [] [C]:=⟨rfl,λi u h=>by simp at h⟩
theorem Chain.snoc{I:List UD}{H:List (AL SV)}(h:Chain I (H++[C]))(hs:Qay C)(k:ByteArray)(s:SV):Chain (I++[⟨k,QaZ C k⟩]) (H++[C]++[QcX C k s]):=by
 have hl:=h.len;rw[aj,bu]at hl;refine⟨by simp;omega,λi u hi=>?_⟩;rcases Nat.lt_trichotomy i I.length with Z|N|a0
 ·rw [bn Z] at hi
  obtain⟨C',s',h1,h2,h3,h4⟩:=h.step i u hi;exact⟨C',s',by rw[bn (by simp;omega)];exact h1,h2,h3,by rw[bn (by simp;omega)];exact h4⟩
 ·subst N
  rw[aQ (ao _),cD]at hi;injection hi with hi;subst hi;refine⟨C,s,?_,hs,rfl,?_⟩
  .rw [bn (by simp;omega),aQ oM,show I.length-H.length=0 by omega];rfl
  rw[aQ (by simp;omega),show I.length+1 -(H++[C]).length=0 by simp;omega];rfl
 rw[aJ (by simp;omega)]at hi;cases hi
theorem Chain.back{I:List UD}{H:List (AL SV)}(h:Chain I H)(Z:H[I.length]? = some C):∀d m,m+d=I.length->H[m]? = some (Qdp I C m)
 | 0,m,hm=>by
   obtain rfl:m=I.length:=oM
   rw[Qjb];exact Z
 | d+1,m,hm=>by
   have hlt:m<I.length:=oM
   have hu:=ac hlt;obtain⟨C',s,h1,h2,h3,h4⟩:=h.step m _ hu;have N:=h.back Z d (m+1) oM;rw[h4]at N;injection N with N;rw[h1,Qhk hu,<-N];congr 1;have:=QqJ h2 (k:=(I[m]'hlt).k) s;rw[<-h3]at this;exact this.symm
theorem Chain.take{I:List UD}{H:List (AL SV)}(h:Chain I H){m:Nat}(hm:m<=I.length):Chain (I.take m) (H.take (m+1)):=by
 refine⟨by rw[av,av,h.len];omega,λi u hi=>?_⟩;have N:i<m:=by
  have:=(ai.1 hi).1;rw[av]at this;omega
 rw[bN N]at hi;obtain⟨C,s,h1,h2,h3,Z⟩:=h.step i u hi;exact⟨C,s,by rw[bN oM];exact h1,h2,h3,by rw[bN oM];exact Z⟩
theorem Qfv(h:Qay C)(I:List UD)(m:Nat):Qay (Qdp I C m):=by
 unfold Qdp
 induction I.drop m with
 |nil=>exact h
 |cons u r ih=>exact QkD ih u
abbrev eX:=@World.alloc_heap_new
abbrev eY:=@World.putObj_heap_other
theorem Qfe(w:World)(o:Obj)(h:∀(W:World) (i j:Nat),W.heap[i]? = some o->W.frozen? ⟨i,j,none⟩=false):Ext w (w.alloc o):=by
 refine⟨(Below.refl _ _).alloc (ao _) _,λb j N=>?_⟩;by_cases I:b=w.heap.size
 ·subst I
  exact h _ _ _ (eX w o)
 exact frozen_none (by simp;omega)
structure Turned(B:Nat)(W W':World):Prop where
 os:W'.os=W.os
 tape:W'.tape=W.tape
 output:W'.output=W.output
 size:W'.heap.size=W.heap.size
 block:∀b,(b<B\/∃o,W.heap[b]? = some o/\o.isCells=true)->W'.heap[b]? = W.heap[b]?
 fz:∀b o,W'.frozen? ⟨b,o,none⟩=W.frozen? ⟨b,o,none⟩
variable{W:World}
theorem Turned.put{B l:Nat}{o o':Obj}(hl:B<=l)(h:W.heap[l]? = some o)(Z:o.isCells=false)(I:o'.isCells=false):Turned B W (W.putObj l o'):=by
 refine⟨rfl,rfl,rfl,sM,λb N=>eY ?_,λb j=>?_⟩
 ·rintro rfl
  rcases N with N |⟨o2,h2,h3⟩
  .omega
  rw[h]at h2;cases h2;rw[Z]at h3;cases h3
 by_cases e:b=l
 ·subst e
  have h1:(W.putObj b o').heap[b]? = some o':=World.putObj_heap_same (az.1 h).1;unfold World.frozen?;simp only[h1,h];cases o<;>cases o'<;>first|rfl |(simp[Obj.isCells]at Z;done) |(simp[Obj.isCells]at I;done)
 exact World.frozen?_of_block (a:=⟨b,j,none⟩) (eY e)
abbrev ez:=@callsIn_wide
abbrev eT:=@run_endRound
abbrev fF:=@run_endLoop
abbrev fH:=@wpIn_mono
theorem St.then{C N:Nat->Prop}{a b c:World}(h:St C a b)(k:St N b c)(hC:∀i,i<a.heap.size->N i->C i):St C a c:=
 ⟨k.os.trans h.os,k.tape.trans h.tape,k.output.trans h.output,an h.size k.size,λi hi I=>(k.block i (ab hi h.size) (λZ=>I (hC i hi Z))).trans (h.block i hi I),λb o=>(k.fz b o).trans (h.fz b o)⟩
theorem St.put{l:Nat}{o o':Obj}(h:W.heap[l]? = some o)(Z:o.isCells=false)(I:o'.isCells=false):St (λb=>b=l) W (W.putObj l o'):=
 ⟨rfl,rfl,rfl,sM,λb _ N=>eY N,(Turned.put (ao l) h Z I).fz⟩
structure Takes{α:Type}(P:Program)(l:Nat)(encs:α->Array Value)(G:List α->α->World->World->Prop)(J:List α->(Nat->Prop)->World->Prop)(Jx:List α->World->Prop):Prop where
 lt:∀pre C W,J pre C W->∀b,C b->b<W.heap.size
 take:∀pre C x W0 W1,J pre C W0->Ext W0 W1->G pre x W0 W1->YieldAt Fence.wide 4 P l (encs x) W1 λe W'=>
  (e=.returned (.bool true)/\∃C',J (pre++[x]) C' W'/\St C W1 W'/\∀b,C' b->C b\/W1.heap.size<=b)\/(e=.returned (.bool false)/\Jx (pre++[x]) W'/\St C W1 W')
def Qvd{α:Type}(P:Program)(g:Nat)(lb:Array Value)(encs:α->Array Value)(K:Nat->Prop)(G:List α->α->World->World->Prop)(S Sp:List α->Prop)(w0:World):Prop:=
 ∀(l:Nat) (J:List α->(Nat->Prop)->World->Prop) (Jx:List α->World->Prop) (C:Nat->Prop) (W:World),Takes P l encs G J Jx->Agree K w0 W->w0.heap.size<=W.heap.size->(∀b,C b->¬K b)->J [] C W->
  Calls P g (#[.func (.yield l) #[] #[]]++lb) W λe W'=>(∃v,e=.returned v)/\((∃xs C' W0,S xs/\J xs C' W0/\Ext W0 W')\/(∃pre W0,Sp pre/\Jx pre W0/\Ext W0 W'))
def Qr5{α:Type}(C:Nat->Prop)(I:List α->(Nat->Prop)->World->Prop)(Ix:Code->List α->World->Prop)(xs:List α)(W:World):Exit->Act->World->Prop
 |.normal,_,W'=>∃C',I xs C' W'/\St C W W'/\(∀b,C' b->C b\/W.heap.size<=b)/\(∀b,C' b->b<W'.heap.size)
 |.ret,_,W'=>St C W W'/\Ix .ret xs W'
 |.exit id,_,W'=>St C W W'/\Ix (.exit id) xs W'
 |.goto t,_,W'=>St C W W'/\Ix (.goto t) xs W'
 |.panic _,_,_=>False
 |.outgrown,_,_=>False
variable{n gf:Nat}{P:Program}{assign body:Code}{Q:Exit->Act->World->Prop}{a:Act}{w0:World}
theorem Qg6{α:Type}{g:Operand}{ps:Array Tmp} 
 {lb:Array Value} (hg:a.eval g=.func (.func gf) #[] lb) (eg:∀ args w,(callFunc gf args).run P w=.ok (.enter gf args) w)
  {encs:α->Array Value} {K:Nat->Prop} {G:List α->α->World->World->Prop} {S Sp:List α->Prop} (hseq:Qvd P gf lb encs K G S Sp w0)
  (hA:Agree K w0 w) (hsz:w0.heap.size<=w.heap.size) (hK:∀b,K b->b<w.heap.size) (hps:∀x,(encs x).size=ps.size)
  (I:List α->(Nat->Prop)->World->Prop) (Ix:Code->List α->World->Prop) (C₀:Nat->Prop) (hC:∀b,C₀ b->b<w.heap.size/\¬K b)
  (hI:∀{s C W W'},I s C W->St (λb=>b=w.heap.size+1) W W'->I s C W') (hIx:∀{c s W W'},Ix c s W->St (λb=>b=w.heap.size+1) W W'->Ix c s W')
  (h0:∀W,Ext w W->w.heap.size+2<=W.heap.size->I [] C₀ W)
  (hround:∀(pre:List α) (C:Nat->Prop) (x:α) (W0 W1:World),I pre C W0->(∀b,C b->b<W0.heap.size)->w.heap.size+2<=W0.heap.size->¬C (w.heap.size+1)->Ext W0 W1->G pre x W0 W1->
    assign.wpIn (Fence.wide.inRound (w.heap.size+1)) 4 P (Exit.then (λa1 W2=>Ext W1 W2/\∀W3,St (λb=>b=w.heap.size+1) W2 W3->body.wpIn (Fence.wide.inRound (w.heap.size+1)) 4 P (Qr5 C I Ix (pre++[x]) W3) a1 W3) (λ_ _ _=>False))
     { tmps:=(ps.zip (encs x)).foldl (λt (p,v)=>t.setIfInBounds p v) a.tmps,defers:=[] } W1)
  (hdone:∀(D:Nat) (xs:List α) (C:Nat->Prop) (W:World),D=w.heap.size->S xs->I xs C W->W.heap[D]? = some (.deferred (some []))->Q .normal { a with defers:={ target:=.collected D,args:=#[] }::a.defers } W)
  (hstop:∀(D:Nat) (c:Code) (pre:List α) (W:World),D=w.heap.size->Sp pre->Ix c pre W->W.heap[D]? = some (.deferred (some []))->c.wpIn Fence.wide n P Q { a with defers:={ target:=.collected D,args:=#[] }::a.defers } W) :
  (Code.rangeFunc g ps assign body).wpIn Fence.wide n P Q a w:=by
 refine wpIn_rangeFunc λfn hfn=>?_
 rw[show Fence.wide.round=none from rfl]
 -- the loop's record at each of its states;where it lies,and the block of the rounds' deferred calls
 let rec_:LoopState->Option Code->Obj:=λst pe=>.loop { state:=st,pending:=pe,fn,tmps:=a.tmps,params:=ps,assign,body,defers:=w.heap.size }
 let BK:LoopState->Option Code->World->Prop:=λst pe W=>W.heap[w.heap.size+1]? = some (rec_ st pe)/\W.heap[w.heap.size]? = some (.deferred (some []))
 have bkL:∀{st pe W},BK st pe W->w.heap.size+1<W.heap.size:=λh=>(az.1 h.1).1
 have bkE:∀{st pe W W'},BK st pe W->Ext W W'->BK st pe W':=λh he=>⟨(he.heap (az.1 h.1).1).trans h.1,(he.heap (az.1 h.2).1).trans h.2⟩
 have bkS:∀{st pe W W'} {C:Nat->Prop},BK st pe W->St C W W'->¬C (w.heap.size+1)->¬C w.heap.size->BK st pe W':=λh hk h1 h2=>⟨(hk.block _ (bkL h) h1).trans h.1,(hk.block _ (by have:=bkL h;omega) h2).trans h.2⟩
 have bkP:∀{st pe W} (st':LoopState) (pe':Option Code),BK st pe W->BK st' pe' (W.putObj (w.heap.size+1) (rec_ st' pe'))/\St (λb=>b=w.heap.size+1) W (W.putObj (w.heap.size+1) (rec_ st' pe')):=λst' pe' h=>
  ⟨⟨World.putObj_heap_same (az.1 h.1).1,(eY oM).trans h.2⟩,St.put h.1 rfl rfl⟩
 have e1:Ext w (w.alloc (.deferred (some []))):=Qfe w _ λW i j h=>by simp[World.frozen?,h]
 have e2:Ext (w.alloc (.deferred (some []))) ((w.alloc (.deferred (some []))).alloc (rec_ .ready none)):=Qfe _ _ λW i j h=>by simp[World.frozen?,h,rec_]
 have hrun:=run_enterLoop_outer (P:=P) (w:=w) fn a.tmps ps assign body;have bk1:BK .ready none ((w.alloc (.deferred (some []))).alloc (rec_ .ready none)):=
  ⟨by have:=eX (w.alloc (.deferred (some []))) (rec_ .ready none);rwa[ew]at this,(eJ _ _ _ sM).trans (eX w _)⟩
 have eW:=e1.trans e2;have hs1:w.heap.size+2<=((w.alloc (.deferred (some []))).alloc (rec_ .ready none)).heap.size:=sM
 change _=Result.ok _ ((w.alloc (.deferred (some []))).alloc (rec_ .ready none))at hrun;generalize (w.alloc (.deferred (some []))).alloc (rec_ .ready none)=W1 at *;refine⟨w+1,_,W1,{ target:=.fn (.func gf) lb,args:=#[.func (.yield (w.heap.size+1)) #[] #[]] },W1,gf,#[.func (.yield (w.heap.size+1)) #[] #[]]++lb,W1,hrun,?_,?_,?_,λh=>by simp[Fence.wide]at h,?_⟩
 ·simp only [resolve,hg]
  simp[go_sem]
 .intro f' hf';trivial
 .simp [invoke,go_sem,eg]
 refine ez.2 ((hseq (w.heap.size+1) (λpre C W=>∃C0:Nat->Prop,C=(λb=>C0 b\/b=w.heap.size+1)/\I pre C0 W/\(∀b,C0 b->b<W.heap.size)/\¬C0 (w.heap.size+1)/\¬C0 w.heap.size/\BK .ready none W) (λpre W=>∃c,Ix c pre W/\BK .done (some c) W) (λb=>C₀ b\/b=w.heap.size+1) W1 ⟨?_,?_⟩ (hA.trans (eW.agree hK)) (an hsz eW.size) ?_
  ⟨C₀,rfl,h0 W1 eW hs1,λb hb=>by have:=(hC b hb).1;omega,λh=>by have:=(hC _ h).1;omega,λh=>by have:=(hC _ h).1;omega,bk1⟩).mono ?_)
 ·rintro pre C W ⟨C0,rfl,-,hlt,-,-,hbk⟩ b (hb | rfl)
  .exact hlt b hb
  exact bkL hbk
 ·rintro pre C x W0 Wy ⟨C0,rfl,hi,hlt,nL,nD,hbk⟩ hx hgd
  have hbk1:=bkE hbk hx;have hl0:=bkL hbk;refine⟨fn,_,assign,body,run_yield (args:=encs x) hbk1.1 (hps x),roundIn_of_wpIn hfn (fH (hround pre C0 x W0 Wy hi hlt oM nL hx hgd) ?_)⟩;rintro e a3 W2 hp;cases e with
  | normal=>
    obtain⟨hx2,hb⟩:=hp;have hbk2:=bkE hbk1 hx2;obtain⟨hbk3,ht3⟩:=bkP .busy none hbk2;refine⟨_,run_beginRound hbk2.1 rfl,fH (hb _ ht3) ?_⟩;have hl3:=bkL hbk3;generalize W2.putObj (w.heap.size+1) (rec_ .busy none)=W3 at *;rintro e a4 W4 hq;cases e with
    | normal=>
      obtain⟨C',hi4,hst,hsub,hlt4⟩:=hq;have hbk4:=bkS hbk3 hst nL nD;obtain⟨hbk5,ht5⟩:=bkP .ready none hbk4;refine⟨_,_,eT none hbk4.1,.inl ⟨rfl,_,⟨C',rfl,hI hi4 ht5,λb hb=>ab (hlt4 b hb) ht5.size,λh=>?_,λh=>?_,hbk5⟩,?_,?_⟩⟩
      ·rcases hsub _ h with h | h
       .exact nL h
       omega
      ·rcases hsub _ h with h | h
       .exact nD h
       omega
      .exact (((hx2.st _).trans (ht3.mono λi _ hi=>.inr hi)).trans (hst.mono λi _ hi=>.inl hi)).trans (ht5.mono λi _ hi=>.inr hi)
      rintro b (hb|rfl)
      ·rcases hsub b hb with h | h
       .exact .inl (.inl h)
       exact .inr (by have:=hx2.size;have:=ht3.size;omega)
      exact .inl (.inr rfl)
    | ret=>
      have hbk4:=bkS hbk3 hq.1 nL nD;obtain⟨hbk5,ht5⟩:=bkP .done (some .ret) hbk4;exact⟨_,_,eT (some .ret) hbk4.1,.inr ⟨rfl,⟨.ret,hIx hq.2 ht5,hbk5⟩,(((hx2.st _).trans (ht3.mono λi _ hi=>.inr hi)).trans (hq.1.mono λi _ hi=>.inl hi)).trans (ht5.mono λi _ hi=>.inr hi)⟩⟩
    | exit id=>
      have hbk4:=bkS hbk3 hq.1 nL nD;obtain⟨hbk5,ht5⟩:=bkP .done (some (.exit id)) hbk4;exact⟨_,_,eT (some (.exit id)) hbk4.1,.inr ⟨rfl,⟨.exit id,hIx hq.2 ht5,hbk5⟩,(((hx2.st _).trans (ht3.mono λi _ hi=>.inr hi)).trans (hq.1.mono λi _ hi=>.inl hi)).trans (ht5.mono λi _ hi=>.inr hi)⟩⟩
    | goto t=>
      have hbk4:=bkS hbk3 hq.1 nL nD;obtain⟨hbk5,ht5⟩:=bkP .done (some (.goto t)) hbk4;exact⟨_,_,eT (some (.goto t)) hbk4.1,.inr ⟨rfl,⟨.goto t,hIx hq.2 ht5,hbk5⟩,(((hx2.st _).trans (ht3.mono λi _ hi=>.inr hi)).trans (hq.1.mono λi _ hi=>.inl hi)).trans (ht5.mono λi _ hi=>.inr hi)⟩⟩
    |panic ch=>exact hq.elim
    |outgrown=>exact hq.elim
  |ret=>exact hp.elim
  |exit id=>exact hp.elim
  |goto t=>exact hp.elim
  |panic ch=>exact hp.elim
  |outgrown=>exact hp.elim
 ·rintro b (hb | rfl) hk
  .exact (hC b hb).2 hk
  have:=hK _ hk;omega
 rintro e W2 ⟨⟨v,rfl⟩,(⟨xs,C,W0,hS,⟨C0,rfl,hi,-,-,-,hbk⟩,hx⟩ |⟨pre,W0,hSp,⟨c,hi,hbk⟩,hx⟩)⟩
 ·have hbk2:=bkE hbk hx
  obtain⟨hbk5,ht5⟩:=bkP .exhausted none hbk2;exact⟨none,_,fF hbk2.1 sM,hdone _ xs C0 _ rfl hS (hI hi ((hx.st _).trans ht5)) hbk5.2⟩
 have hbk2:=bkE hbk hx;obtain⟨hbk5,ht5⟩:=bkP .exhausted (some c) hbk2;exact⟨some c,_,fF hbk2.1 sM,hstop _ c pre _ rfl hSp (hIx hi ((hx.st _).trans ht5)) hbk5.2⟩
variable{ops:Array Oper}
theorem QbS{F:Fence}(w:World){rest:List Oper}{o:Oper}(a5:o.guard=none)(s' x:Operand)(t:TypeId)
  (ho:o.op=.call { callee:=.builtin .append,args:=#[s',x],argTypes:=#[t,t] })
  (base:Nat) (e:TypeId) (i:TypeInfo) (z:Value) (size I:Nat) (ht:P.underlying t=some (.slice e)) (hi:P.info? e=some i) (hz:i.zero=some z)
  (a0:i.size=size) (a9:i.bytes=I) (a4:z.cells.size=size) (a7:0<size)
  (s:Sl) (k:Nat) (xs:List Value) (hs:a.eval s'=.slice s.a k s.c) (a2:w.ownsRow base e size (.slice s.a k s.c) k xs)
  (G:Nat->Prop) (sx:Sl) (m:Nat) (N:List Value) (hx:a.eval x=.slice sx.a m sx.c) (a3:Rd w G size sx m N) (h1:∀u∈N,u.oneCell'=true)
  (a8:k+m<=maxLen) (Z:(k+m)*I<=140737488355328) (a1:base<=w.heap.size)
  (h:∀(s':Sl) (w':World),w'.ownsRow base e size (.slice s'.a (k+m) s'.c) (k+m) (xs++N)->Wr w w' s.row->(s'.a=s.a\/s'.a=some ⟨w,0,none⟩/\Wr w w' none)->wpListIn F n P ops Q rest (a.put o.dst (.slice s'.a (k+m) s'.c)) w'):wpListIn F n P ops Q (o::rest) a w:=by
 refine wpListIn_plain a5 λK b0=>?_
 obtain⟨v',w',hr,h2,h3,h4⟩:=QfG (P:=P) w base t o.type e i z size I ht hi hz a0 a9 a4 a7 s k xs a2 G sx m N a3 h1 a8 Z a1;unfold Oper.wpIn;refine⟨?_,?_⟩
 .simp [Oper.about,ho,resolve,Target.leads,Sem.run_pure]
 rw[Oper.semAt_plain F _ _ (by rw[ho];intro c a6;cases a6)];simp[execOp,ho,resolve,invoke,builtin,hs,hx,hr,Result.andThen];exact b0 _ _ (h v' w' h2 h3 h4)
variable{H:Nat->Prop}
theorem St.QdE{a w:World}(h:St H a w){b:Nat}(I:a<=b\/H b)(o:Nat)(d:Val)(sl so:Sl):St H a (QdE w b o d sl so):=
 (((((h.set (p:=⟨b,_,none⟩) I _).set (p:=⟨b,_,none⟩) I _).set (p:=⟨b,_,none⟩) I _).set (p:=⟨b,_,none⟩) I _).set (p:=⟨b,_,none⟩) I _).set (p:=⟨b,_,none⟩) I _
section
variable{H : Type}{enc : TypeId × Value -> H}{P : Program}{w : World}{held : Bool}
abbrev WOk(P:Program)(t:TypeId)(d:DataW H):Prop:=(DataW.weights P t d).all (·<=reachBytes)=true
abbrev tr(enc:TypeId × Value->H)(P:Program)(w:World)(held:Bool)(fuel:Nat)(t:TypeId)(cs:List Value):Option (DataW H × List MemPlace):=DataW.trod enc P w 0 (λ_=>true) held fuel t cs
theorem Qee{e:TypeId}:∀{l:List (DataW H)},(DataW.weightsAll P e l).all (·<=reachBytes)=true->∀d∈l,WOk P e d
 |[],_,d,hd=>by cases hd
 | x :: l,h,d,hd=>by
   simp only[DataW.weightsAll,List.all_append,Bool.and_eq_true]at h;rcases aH.1 hd with rfl|hd
   .exact h.1
   exact Qee h.2 d hd
theorem weightsEach_at:∀{ts:List TypeId} {I:List (DataW H)},(DataW.weightsEach P ts I).all (·<=reachBytes)=true->∀(i:Nat) (t:TypeId) (d:DataW H),ts[i]? = some t->I[i]? = some d->WOk P t d
 |[],_,_,i,t,d,ht,_=>by simp at ht
 |t::ts,[],_,i,t',d,_,hd=>by simp at hd
 | t :: ts,d :: I,h,i,t',d',ht,hd=>by
   simp only[DataW.weightsEach,List.all_append,Bool.and_eq_true]at h;cases i with
   |zero=>simp at ht hd;subst ht hd;exact h.1
   |succ i=>exact weightsEach_at h.2 i t' d' (by simpa using ht) (by simpa using hd)
theorem QqF{t e:TypeId}{C B a1:Nat}{cs:List Value}{x:DataW H × List MemPlace}(ht:P.underlying t=some (.slice e))(hC:P.cellsOf e=C)(hB:P.bytesOf e=B)(b9:0<C)
  (h:tr enc P w held a1 t cs=some x) (hw:WOk P t x.1) :
  ∃(n I:Nat) (s:Sl) (b o:Nat),a1=n+1/\cs=[.slice s.a I s.c]/\Qd5 (Lt w) s I b o/\I*B<=140737488351232/\
   ∀i,i<I->∃Z y,Z.length=C/\(∀j,j<C->w.cell? ⟨b,o+i*C+j,none⟩=Z[j]?)/\tr enc P w held n e Z=some y/\WOk P e y.1:=by
 rcases DataW.trod_slice ht h with⟨rfl,rfl⟩ |⟨a,I,a8,N,rest,n,rfl,rfl,rfl,-,hl,hm,c2,a3,b7,-⟩
 ·cases a1 with
  |zero=>simp[tr,DataW.trod]at h
  |succ n=>exact⟨n,0,Sl.none,0,0,rfl,rfl,.nil _ _,oM,λi hi=>oM⟩
 obtain⟨hr,a0⟩:=b7 rfl;have a6:(N.length+rest.length)*P.bytesOf e<=reachBytes/\(DataW.weightsAll P e (N.map (·.1))).all (·<=reachBytes)=true:=by
  have a5:=hw;simp only[WOk,DataW.weights,ht,List.all_cons,List.all_append,Bool.and_eq_true,decide_eq_true_eq,List.length_map]at a5;exact⟨a5.1,a5.2.1⟩
 rw[hB]at a6;rw[hC]at a3 a0;by_cases b3:a8=0
 ·subst b3
  obtain rfl:I=0:=oM
  exact⟨n,0,⟨some a,0⟩,0,0,rfl,rfl,.zero a 0 0,oM,λi hi=>oM⟩
 have c1:I*B<=140737488351232:=by
  have h1:I*B<=(N.length+rest.length)*B:=bR _ oM;have h2:=a6.1;have h3:reachBytes=140737488351232:=rfl;omega
 have b8:∃z:DataW H × List MemPlace,∃k,(w.cells? 0 (a.add (k*C)) C).bind (tr enc P w held n e)=some z/\k=0:=by
  by_cases h0:0<I
  .exact ⟨N[0]' oM,0,by rw[a3 0 h0];exact ac oM,rfl⟩
  have:=a0 0 oM;have e0:I=0:=oM
  rw[e0,bX]at this;exact⟨rest[0]' oM,0,by rw[this];exact ac oM,rfl⟩
 obtain⟨z,k,hz,rfl⟩:=b8;obtain⟨a7,b6,-⟩:=du.1 hz;obtain⟨-,c3,b0⟩:=World.cells?_some b6;have a2:w.cell? (a.add 0)=some (a7[0]' oM):=by
  have:=b0 0 b9;rw[cq]at this;rw[ac oM]at this;simpa[Addr.add]using this
 obtain⟨b,o,b4⟩:=a;have a4:b4=none:=by simpa[Addr.add]using World.cell?_spot a2
 subst a4;have b5:b<w:=by
  have h1:w.cell? ⟨b,o,none⟩=some (a7[0]' oM):=by simpa[Addr.add]using a2
  exact eH w _ h1
 refine⟨n,I,⟨some ⟨b,o,none⟩,a8⟩,b,o,rfl,rfl,.some _ _ _ _ hl hm b5,c1,λi hi=>?_⟩;have he:=a3 i hi;rw[ac oM]at he;obtain⟨Z,h1,h2⟩:=du.1 he;obtain⟨-,c0,a9⟩:=World.cells?_some h1;refine⟨Z,_,c0,λj hj=>?_,h2,Qee a6.2 _ (dj (List.getElem_mem oM))⟩;have:=a9 j hj;rw[Go.WideShapes.add_plain,Go.WideShapes.add_plain]at this;exact this
theorem QkA{t:TypeId}{k:IntKind}{I:Nat}{cs:List Value}{x:DataW H × List MemPlace}(N:P.underlying t=some (.int k))(h:tr enc P w held I t cs=some x):∃n,cs=[.int k n]/\(Lit.int k n).wf=true:=by
 obtain⟨n,h1,-,h2⟩:=DataW.trod_int N h;exact⟨n,h1,h2⟩
theorem QqE{t:TypeId}{I:Nat}{cs:List Value}{x:DataW H × List MemPlace}(N:P.underlying t=some .bool)(h:tr enc P w held I t cs=some x):∃b,cs=[.bool b]:=by
 obtain⟨b,h1,-⟩:=DataW.trod_bool N h;exact⟨b,h1⟩
theorem Qzd{t:TypeId}{I:Nat}{cs:List Value}{x:DataW H × List MemPlace}(N:P.underlying t=some .string)(h:tr enc P w held I t cs=some x):∃s,cs=[.string s]/\s.size<=maxLen:=by
 obtain⟨s,h1,-,h2⟩:=DataW.trod_string N h;exact⟨s,h1,h2⟩
end
theorem skolem{α:Type}[Inhabited α]{p:Nat->Prop}{q:Nat->α->Prop}(h:∀i,p i->∃a,q i a):∃f:Nat->α,∀i,p i->q i (f i):=by
 have:∀i,∃y:α,p i->q i y:=λi=>by
  by_cases I:p i
  ·obtain ⟨a,N⟩:=h i I
   exact⟨a,λ_=>N⟩
  exact⟨default,λh=>absurd h I⟩
 exact Classical.axiomOfChoice this
instance : Inhabited Val :=⟨.mk 0 false 0 ByteArray.empty [] [] []⟩
instance : Inhabited Sl :=⟨Sl.none⟩
variable{cs:List Value}
theorem Qso(h:cs.length=6):∃a b c d e f,cs=[a,b,c,d,e,f]:=by
 match cs,h with
 |[a,b,c,d,e,f],_=>exact⟨_,_,_,_,_,_,rfl⟩
variable{j:Nat}
theorem at_of_take{cs l:List Value}{I k:Nat}(h:(cs.drop I).take k=l)(N:j<k):cs[I+j]? = l[j]?:=by
 rw[<-h,be,eu N,bc]
abbrev Qji(v:Val)(sl so:Sl):List Value:=[.int .i64 v.kind,.bool v.b,.int .i64 v.i,.string v.t,.slice sl.a v.l.length sl.c,.slice so.a v.ok.length so.c]
theorem QaY{α:Type}{f:Nat->α}{d:α}(h:((List.range n).map f)[j]? = some d):j<n/\d=f j:=by
 rw[au]at h;obtain⟨k,I,rfl⟩:=dz.1 h;obtain⟨h1,rfl⟩:=ai.1 I;simp at h1;exact⟨h1,sM⟩
section
variable{H : Type}{enc : TypeId × Value -> H}{w : World}{held : Bool}
theorem QbW:prog.cellsOf 34=6:=kM
theorem Qh9:prog.cellsOf 124=7:=kM
theorem Qxa:prog.cellsOf 78=7:=kM
theorem Qjh:prog.bytesOf 34=88:=kM
theorem Qh7:prog.bytesOf 124=104:=kM
theorem Qw9:prog.bytesOf 78=104:=kM
structure LA where
 kd:Int
 k:ByteArray
 v:Val
 sl:Sl
 so:Sl
instance : Inhabited LA :=⟨⟨0, ByteArray.empty, default, Sl.none, Sl.none⟩⟩
end
open Go.ChangeShapes Go.WideShapes Go.ChangeAt
theorem trodAll_stays{H:Type}{enc:TypeId × Value->H}{P:Program}(hl:laidOutB P=true){W W':World}(hx:Below W.heap.size W W')(I:Nat->Bool) :
  ∀{ts:List TypeId} {vs:List Value} {ds:List (DataW H)} {ps:List MemPlace},(∀t∈ts,P.readableRec t=true/\t<P.types.size)->DataW.TrodAll enc P W 0 (λ_=>true) true ts vs ds ps->
   (∀p∈ps,p.block<W.heap.size)->(∀p∈ps,I p.block=true)->DataW.TrodAll enc P W' 0 I true ts vs ds ps
 | [],vs,ds,ps,_,h,_,_=>by
   obtain⟨rfl,rfl,rfl⟩:=trodAll_nil h;exact rfl
 | t :: ts,vs,ds,ps,hr,h,hb,hs=>by
   obtain⟨v0,a0,d0,a1,p0,q0,rfl,rfl,rfl,h0,r0⟩:=trodAll_cons h;refine⟨p0,q0,Go.WideElems.Trod_stays hl (hr t (aF ..)).1 (hr t (aF ..)).2 h0 (λp N=>?_) (λp N=>hs p (List.mem_append_left _ N)),
    trodAll_stays hl hx I (λt ht=>hr t (aR _ ht)) r0 (λp N=>hb p (List.mem_append_right _ N)) (λp N=>hs p (List.mem_append_right _ N)),rfl⟩
   have Z:=hb p (List.mem_append_left _ N);cases p with
   |cell b o=>exact hx.cell (p:=⟨b,o,none⟩) Z
   |map b=>exact hx.block b Z
structure MapAt(H:Nat->Prop)(w:World)(M:Nat)(es:List Ent):Prop where
 hm:H M
 ex:∃s xs,Blk w M 56 #[.slice s.a xs.length s.c]/\ES w (NH H w) s xs/\xs.map LE.ent=es
variable{G:Nat->Prop}
theorem MapAt.st{M:Nat}{es:List Ent}(h:MapAt H w M es)(k:St G w w')(hG:∀b,G b->H b)(N:¬G M):MapAt H w' M es:=by
 obtain⟨Z,s,xs,I,hs,hx⟩:=h;exact⟨Z,s,xs,k.blk I N,(hs.agree (λb I=>k.block b I.1 λhh=>I.2 (hG b hh))).mono λi hi=>⟨Nat.lt_of_lt_of_le hi.1 k.size,hi.2⟩,hx⟩
theorem MapAt.ext{M:Nat}{es:List Ent}(h:MapAt H w M es)(k:Ext w w'):MapAt H w' M es:=
 h.st (k.st λ_=>False) (λ_ I=>I.elim) (λI=>I)
theorem MapAt.more{M:Nat}{es:List Ent}(h:MapAt H w M es)(hH:∀b,H b->G b)(Z:∀b,b<w.heap.size->G b->H b):MapAt G w M es:=by
 obtain⟨I,s,xs,N,hs,hx⟩:=h;exact⟨hH M I,s,xs,N,hs.mono λi hi=>⟨hi.1,λhg=>hi.2 (Z i hi.1 hg)⟩,hx⟩
theorem Qzf{M:Nat}{es:List Ent}(h:MapAt H w M es)(k:ByteArray):Calls prog 65 #[.pointer (some ⟨M,0,none⟩),.string k] w λe w'=>
  e=.returned (.tuple #[.int .i64 (Qct es k),.bool (decide ((es[Qct es k]?).map Prod.fst=some k))])/\∃q,w'=w.drewN q:=by
 obtain⟨-,s,xs,hb,hs,rfl⟩:=h;have h0:w.cell? ⟨M,0,none⟩=some (.slice s.a xs.length s.c):=hb.cell 0;have a4:=hs.few;have HS:=hY hs;clear hb hs;go_in;go_wp2_with fail;have a5:xs.length<=140737488355328:=oM
 go_loopw[6] (λq wr=>∃j:Nat,q=.int .i64 j/\j<=xs.length/\(∀i x,i<j->xs[i]? = some x->klt x.k k=true)/\wr=w) (λq _=>xs.length -(intOf q).toNat)
 case atStart=>exact⟨0,rfl,aA _,λi x hi=>absurd hi (d9 _),rfl⟩
 obtain⟨j,rfl,hj,hp,rfl⟩:=hrel;have HP:=hY hp;clear hp;by_cases h1:j<xs.length
 ·have g1:(j:Int)<(xs.length:Int):=oM
  obtain⟨x,hx⟩:∃x,xs[j]? = some x:=⟨_,ac h1⟩;obtain⟨g,o,hg,lg,hc,a3,kx,-,-,-⟩:=HS.o.at hx;obtain⟨sa,sc⟩:=s;dsimp only at hg hc a3;subst hg;have a1:=hY hx;clear hx;cases a0:klt x.k k with
  | true=>
    have a2:Op.bytesLess x.k.toList k.toList=true:=a0;go_wp2_with fail;go_roundw
    case rel=>
     refine⟨j+1,by go_num,h1,λi y hi hy=>?_,by trivial⟩;rcases Nat.lt_or_eq_of_le (bq hi)with h|rfl
     .exact HP.o i y h hy
     rw[a1.o]at hy;cases hy;exact a0
    simp[intOf];omega
  | false=>
    have a2:Op.bytesLess x.k.toList k.toList=false:=a0;have N:Qct (xs.map LE.ent) k=j:=Qlr (by rw[aq];exact hj) (λi e hi I=>by
     rw[au]at I;cases hy:xs[i]? with
     |none=>rw[hy]at I;cases I
     |some y=>rw[hy]at I;cases I;exact HP.o i y hi hy) (λe I=>by
     rw[au,a1.o]at I;cases I;exact a0)
    have Z:=hY N;clear N;go_wp2_with fail;go_quiet (fail);go_wp2_with fail;refine eB (v:=.tuple #[.int .i64 j,.bool (x.k.toList==k.toList)]) (by simp[results,results65,go_sem]) rfl ?_;rw[Z.o,au,a1.o];refine⟨?_,_,rfl⟩;rw[beq_toList];simp[LE.ent]
 have g1:¬(j:Int)<(xs.length:Int):=oM
 obtain rfl:j=xs.length:=oM
 have N:Qct (xs.map LE.ent) k=xs.length:=Qlr (by rw[aq];exact ao _) (λi e hi I=>by
  rw[au]at I;cases hy:xs[i]? with
  |none=>rw[hy]at I;cases I
  |some y=>rw[hy]at I;cases I;exact HP.o i y hi hy) (λe I=>by
  rw[au,aJ (ao _)]at I;cases I)
 have Z:=hY N;clear N;go_wp2_with fail;refine eB (v:=.tuple #[.int .i64 xs.length,.bool false]) (by simp[results,results65,go_sem]) rfl ?_;rw[Z.o];exact⟨sM,0,rfl⟩
def Qxx(H:Nat->Prop)(M:Nat)(es:List Ent)(w:World)(e:Ending)(w':World):Prop:=
 (∃r,e=.returned r)/\MapAt H w' M es/\St (λb=>b=M) w w'
variable{o:Nat}
theorem Wr.cell0{w w' I:World}{row:Option Nat}(h:Wr w' I row)(Z:Ext w w'){M:Nat}(hn:row≠some M)(N:M<w.heap.size):I.cell? ⟨M,o,none⟩=w.cell? ⟨M,o,none⟩/\M<I.heap.size:=
 ⟨((h.agree (F:=λb=>b=M) (λi hi=>by subst hi;exact ab N Z.size) (λk hk e=>hn (e▸hk))).cell rfl).trans (Z.cell N),ab N (an Z.size h.grown.size)⟩
def Qwk(xs:List LE)(p q:Nat)(x:LE):List LE:=(xs.take p++[x])++xs.drop q
theorem QyH{k:ByteArray}(hs:Sorted (xs.map LE.ent))(x:LE)(I:x.k=k){p q:Nat}(Z:Qct (xs.map LE.ent) k=p)(N:q=if(((xs.map LE.ent)[p]?).map Prod.fst=some k)then p+1 else p):(Qwk xs p q x).map LE.ent=QbY (xs.map LE.ent) k x.v:=by
 rw[Qry hs,Z,Qwk];subst I N;simp only[List.map_append,List.map_take,List.map_drop,List.map_cons,List.map_nil,List.append_assoc,List.singleton_append];congr 2;split<;>rfl
variable{w3:World}{s3:Sl}{x:LE}
theorem QyI{M:Nat}{p q:Nat}{es:List Ent}(hm:H M)(hH:∀b,H b->b<w.heap.size)(hb:Blk w M 56 #[.slice s.a xs.length s.c])(hs:ES w (NH H w) s xs)(hv:RV w (NH H w) x.v x.sl x.so)(hk:x.k.size<=maxLen)
  (hx:Ext w w3) (a0:w3.ownsRow w.heap.size 78 7 (.slice s3.a (Qwk xs p q x).length s3.c) (Qwk xs p q x).length (QaD (Qwk xs p q x))) (hf:(Qwk xs p q x).length*104<=140737488355328) (he:(Qwk xs p q x).map LE.ent=es) :
  MapAt H (w3.setCell ⟨M,0,none⟩ (.slice s3.a (Qwk xs p q x).length s3.c)) M es/\St (λb=>b=M) w (w3.setCell ⟨M,0,none⟩ (.slice s3.a (Qwk xs p q x).length s3.c)):=by
 have a4:=hb.lt;have N:St (λb=>b=M) w (w3.setCell ⟨M,0,none⟩ (.slice s3.a (Qwk xs p q x).length s3.c)):=(hx.st (λb=>b=M)).set (p:=⟨M,0,none⟩) (.inr rfl) _;have a2:Agree (NH H w) w (w3.setCell ⟨M,0,none⟩ (.slice s3.a (Qwk xs p q x).length s3.c)):=N.agree.mono λi hi=>⟨hi.1,λe=>hi.2 (e▸hm)⟩
 have Z:∀i,NH H w i->NH H (w3.setCell ⟨M,0,none⟩ (.slice s3.a (Qwk xs p q x).length s3.c)) i:=λi hi=>⟨Nat.lt_of_lt_of_le hi.1 N.size,hi.2⟩
 have a1:Agree (In w.heap.size w3.heap.size) w3 (w3.setCell ⟨M,0,none⟩ (.slice s3.a (Qwk xs p q x).length s3.c)):=fO w3 ⟨M,0,none⟩ _ (λh=>by have h1:w.heap.size<=M:=h.1;omega);refine⟨⟨hm,s3,Qwk xs p q x,?_,⟨?_,?_,hf⟩,he⟩,N⟩
 .exact (hb.ext hx).QbH 0 _
 .exact ((fP a0).agree a1).mono λi hi=>⟨by rw[eC];exact hi.2,λh=>by have:=hH i h;have:=hi.1;omega⟩
 intro y I;have I:y∈(xs.take p++[x])++xs.drop q:=I;have a3:y∈xs\/y=x:=by
  rcases aS.1 I with I|I
  ·rcases aS.1 I with I | I
   .exact .inl (ba I)
   exact .inr (aX.1 I)
  exact .inl (aM I)
 rcases a3 with I|rfl
 .exact ⟨((hs.vals y I).1.agree a2).mono Z,(hs.vals y I).2⟩
 exact⟨(hv.agree a2).mono Z,hk⟩
section
variable{P : Program}{w : World}
theorem Qwo{ops:Array Oper}{rest:List Oper}{o:Oper}{a:Act}{Q:Exit->Act->World->Prop}(a4:o.guard=none)(s' x:Operand)(t:TypeId)
  (ho:o.op=.call { callee:=.builtin .append,args:=#[s',x],argTypes:=#[t,t] })
  (base:Nat) (e:TypeId) (i:TypeInfo) (z:Value) (size I:Nat) (ht:P.underlying t=some (.slice e)) (hi:P.info? e=some i) (hz:i.zero=some z)
  (a0:i.size=size) (a6:i.bytes=I) (a3:z.cells.size=size) (a5:0<size) (hs:a.eval s'=.slice none 0 0)
  (F:Nat->Prop) (sx:Sl) (m:Nat) (N:List Value) (hx:a.eval x=.slice sx.a m sx.c) (a2:Rd w F size sx m N) (h1:∀u∈N,u.oneCell'=true)
  (a7:m<=maxLen) (Z:m*I<=140737488355328) (a1:base<=w.heap.size)
  (h:∀(s':Sl) (w':World),w'.ownsRow base e size (.slice s'.a m s'.c) m N->Ext w w'->wpList P ops Q rest (a.put o.dst (.slice s'.a m s'.c)) w'):wpList P ops Q (o::rest) a w:=
 Qak w a4 s' x t ho base e i z size I ht hi hz a0 a6 a3 a5 Sl.none 0 [] hs (eG _ _ _ _) F sx m N hx a2 h1 oM (by rw[aD];exact Z) a1 λs2 w2 h2 h3 _=>by
  rw[aD,aG]at h2;rw[aD];exact h s2 w2 h2 ((fI w).wr h3 (λi hi=>by cases hi))
end
section
variable{P : Program}{w : World}{ops : Array Oper}{rest : List Oper}{o : Oper}{a : Act}{Q : Exit -> Act -> World -> Prop}
theorem QxV(a0:o.guard=none)(x lo:Operand)(t e:TypeId)(size:Nat)(ho:o.op=.slice t x (some lo) none none)(N:P.underlying t=some (.slice e)){i:TypeInfo}(hi:P.info? e=some i)(Z:i.size=size)
  (s:Sl) (n l:Nat) (hx:a.eval x=.slice s.a n s.c) (hl:a.eval lo=.int .i64 l) (hn:l<=n)
  (h:∀s':Sl,s'.a=(if s.c=l then s.a else s.a.map (·.add (l*size)))->s'.c=s.c-l->wpList P ops Q rest (a.put o.dst (.slice s'.a (n-l) s'.c)) w):wpList P ops Q (o::rest) a w:=
 fA a0 λ_ hK=>by
  have I:P.elem t=e:=by simp[Program.elem,N]
  have hs:(Go.sizeOf e).run P w=.ok size w:=by simp[Go.sizeOf,typeInfo,hi,Z]
  have hr:=Go.run_slice_l (P:=P) (w:=w) t s.a n s.c (by rw[I];exact N) .i64 (l:Int) oM oM;rw[I,hs]at hr;unfold Oper.wp;simp[execOp,ho,hx,hl,Instr.sliceAt,run_underlying N,hr,Result.andThen,sliced];exact hK _ _ (h ⟨_,_⟩ rfl rfl)
theorem Qw5(a0:o.guard=none)(x N:Operand)(t e:TypeId)(ho:o.op=.slice t x none (some N) none)(Z:P.underlying t=some (.slice e)){i:TypeInfo}(hi:P.info? e=some i)
  (s:Sl) (n l:Nat) (hx:a.eval x=.slice s.a n s.c) (hl:a.eval N=.int .i64 l) (hn:l<=s.c)
  (h:wpList P ops Q rest (a.put o.dst (.slice s.a l s.c)) w):wpList P ops Q (o::rest) a w:=
 fA a0 λ_ hK=>by
  have I:P.elem t=e:=by simp[Program.elem,Z]
  have hs:(Go.sizeOf e).run P w=.ok i.size w:=by simp[Go.sizeOf,typeInfo,hi]
  have hr:=Go.run_slice_h (P:=P) (w:=w) t s.a n s.c (by rw[I];exact Z) .i64 (l:Int) oM oM;rw[I,hs]at hr;have h0:(if s.c=0 then s.a else s.a.map (·.add 0))=s.a:=by
   cases s.a<;>simp[Addr.add]
  unfold Oper.wp;simp[execOp,ho,hx,hl,Instr.sliceAt,run_underlying Z,hr,Result.andThen,sliced,h0];exact hK _ _ h
end
theorem Rd.cut{size n m:Nat}(h:Rd w F size s n cs)(hm:m<=n)(ha:s'.a=if s.c=m then s.a else s.a.map (·.add (m*size)))(Z:s'.c=s.c-m):Rd w F size s' (n-m) (cs.drop (m*size)):=by
 obtain⟨b,o,h1,h2,h3⟩:=h;obtain⟨sa,sc⟩:=s';dsimp only at ha Z;subst ha Z;refine⟨b,o+m*size,?_,by rw[aw,h2,<-de],λj u N=>?_⟩
 ·cases h1 with
  | nil=>
    obtain rfl:m=0:=oM
    exact .nil _ _
  | some _ cc _ _ h4 h5 h6=>
    dsimp only;by_cases I:cc=m
    ·subst I
     rw[eu rfl,cD,show n-cc=0 by omega];exact .zero _ _ _
    rw[eh I,bM,Qbc];exact .some _ _ _ _ oM oM h6
  | zero a=>
    obtain rfl:m=0:=oM
    exact .zero _ _ _
 rw[bc]at N;rw[bH];exact h3 _ u N
theorem Qd5.cap{n b o:Nat}(h:Qd5 F s n b o):n<=s.c:=by
 cases h with
 |nil=>exact aA _
 |some _ cc _ _ h4 h5 h6=>exact h4
 |zero a=>exact aA _
variable{sl so:Sl}
theorem QxC{M:Nat}{es:List Ent}(h:MapAt H w M es)(hH:∀b,H b->b<w.heap.size)(c9:Sorted es)(hc:es.length<=1000000){k:ByteArray}(hk:k.size<=maxLen){v:Val}(hv:RV w (NH H w) v sl so) :
  Calls prog 43 #[.pointer (some ⟨M,0,none⟩),.string k,QbV v sl so] w (Qxx H M (QbY es k v) w):=by
 obtain⟨i0,hi,b0,a6,b3⟩:=eE Tryz.Qa8;have b6:=λW (hW:Ext w W)=>Qzf (h.ext hW) k
 have f7:=Qp8 es k;obtain⟨hm,s,xs,hb,hs,N⟩:=h;obtain⟨p,hp⟩:∃p,Qct es k=p:=⟨_,rfl⟩;obtain⟨f,hf⟩:∃f,decide ((es[p]?).map Prod.fst=some k)=f:=⟨_,rfl⟩;rw[hp,hf]at b6;have f3:xs.length=es.length:=by rw[<-N,aq]
 obtain⟨q,hq⟩:∃q,(if f=true then p+1 else p)=q:=⟨_,rfl⟩;have a9:q=if((es[p]?).map Prod.fst=some k)then p+1 else p:=by
  rw[<-hq,<-hf];simp only[decide_eq_true_eq]
 have c8:q<=xs.length:=by
  rw[a9];split
  ·rename_i he
   have:p<es.length:=by
    rcases dW p es.length with h|h
    .exact h
    rw[aJ h]at he;cases he
   omega
  omega
 have d7:p<=xs.length:=oM
 obtain⟨x,hx⟩:∃x:LE,x=⟨k,v,sl,so⟩:=⟨_,rfl⟩;have I:(Qwk xs p q x).length=p+1+(xs.length-q):=by
  simp only[Qwk,List.length_append,List.length_take,List.length_drop,List.length_cons,List.length_nil];omega
 have f2:QaD (Qwk xs p q x)=(QaD (xs.take p)++x.cells)++QaD (xs.drop q):=by rw[Qwk,Qcp,Qcp,show QaD [x]=x.cells from by simp[QaD]]
 have d0:=hY (show ∀(w3:World) (s3:Sl),Ext w w3->w3.ownsRow w.heap.size 78 7 (.slice s3.a (p+1+(xs.length-q)) s3.c) (p+1+(xs.length-q)) ((QaD (xs.take p)++x.cells)++QaD (xs.drop q))->_ fromλw3 s3 h1 h2=>by
  have h3:=QyI (w3:=w3) (s3:=s3) (p:=p) (q:=q) (x:=x) (es:=QbY es k v) hm hH hb hs (by rw[hx];exact hv) (by rw[hx];exact hk) h1 (by rw[I,f2];exact h2) (by rw[I];omega) (by
   have:=QyH (xs:=xs) (k:=k) (by rw[N];exact c9) x (by rw[hx]) (p:=p) (q:=q) (by rw[N];exact hp) (by rw[N];exact a9);rw[this,N,hx])
  rw[I]at h3;exact h3)
 have b7:=λ(W:World) (hW:Ext w W)=>((hs.mono (G:=Lt w) λi hi=>hi.1).agree (hW.agree λ_ h=>h)).rd
 obtain⟨gs,os,d8,-,-⟩:=hs.rd;have e3:=an d7 d8.cap;obtain⟨g7,g4,HB,e6,HQ,i2⟩:=Yg (λW (hW:Ext w W)=>by have h:=(b7 W hW).take d7;rwa[QcS]at h) (λW (hW:Ext w W) (s':Sl) ha hc=>by have h:=(b7 W hW).cut (s':=s') c8 ha hc;rwa[QcQ]at h) hb b6 hq (hb.frozen 0);have i1:xs.length<=1000000:=oM
 have e1:p<=maxLen:=by unfold maxLen;omega
 have e2:p*104<=140737488355328:=oM
 have c7:p+1<=maxLen:=by unfold maxLen;omega
 have b8:(p+1)*104<=140737488355328:=oM
 have f4:p+1+(xs.length-q)<=maxLen:=by unfold maxLen;omega
 have e7:(p+1+(xs.length-q))*104<=140737488355328:=oM
 clear b6 b7 I f2 hq a9 hf N f3 hs hb hv d8 hp c9 f7 hm hH hk hc;go_in;go_upto_region 1 with fail;generalize f1:World.alloc _ _=w1;obtain⟨f5,e4⟩:Ext w w1/\Blk w1 w.heap.size 34 #[.int .i64 v.kind,.bool v.b,.int .i64 v.i,.string v.t,.slice sl.a v.l.length sl.c,.slice so.a v.ok.length so.c]:=by rw[<-f1];exact⟨(fI w).alloc _ _,fK w _ _⟩
 obtain⟨b4,a5⟩:=Yb f5 e4;clear f1 f5 e4;go_wp2_with fail;refine(e6.o _ b4.o).mono ?_;rintro e w2 ⟨rfl,nq,rfl⟩;have a3:=b4.o.drewN nq;obtain⟨c0,c1,c2,c3,c4,c5⟩:=(a5.o.ext ((fI w1).drewN nq)).c6;have a5:=hY (a5.o.ext ((fI w1).drewN nq));generalize World.drewN _ nq=w2 at *;have h0:w2.cell? ⟨M,0,none⟩=some (.slice s.a xs.length s.c):=(HB.o.ext a3).cell 0;have g6:=a3.size;have e0:=hY a3;clear a3 e6 b4;go_upto_region 4 with(first |(refine Qw5 rfl (.tmp 19) (.tmp 20) 41 78 rfl underlying41 hi s xs.length p rfl rfl e3 ?_) |(at_builtin;refine Qwo rfl (.tmp 15) (.tmp 21) 41 rfl w.heap.size 78 i0 _ 7 104 underlying41 hi b0 a6 b3 rfl oN rfl (Lt w) s p (QaD (xs.take p)) rfl (g7.o w2 e0.o) (QbX _) e1 e2 g6 ?_;intro s1 w3 Z d3;have b5:=hY Z;have e8:=hY d3;clear Z d3));have b9:=hY (e0.o.trans e8.o);have i3:=b9.o.size;obtain⟨c0,c1,c2,c3,c4,c5⟩:=(a5.o.ext e8.o).c6;obtain⟨g3,d6⟩:=Yb (fK w3 78 x.cells.toArray) (b9.o.alloc x.cells.toArray 78);have f9:=d6.o.size;have f8:=hY (Qab (w':=w3.alloc (.cells x.cells.toArray 78)) (s:=s1) b5.o (F:=Lt w3) (((fI w3).alloc _ _).agree λ_ h=>h) λb hb=>(Qad (s:=s1) b5.o hb).2);subst hx;go_upto_if 29 with(at_builtin;refine Qak _ rfl (.tmp 23) (.tmp 27) 41 rfl w.heap.size 78 i0 _ 7 104 underlying41 hi b0 a6 b3 rfl oN s1 p (QaD (xs.take p)) rfl f8.o (λb=>b=w3.heap.size) ⟨some ⟨w3,0,none⟩,1⟩ 1 (LE.cells ⟨k,v,sl,so⟩) rfl (fU g3.o oN rfl) (LE.one _) c7 b8 f9 ?_;intro s2 w5 a2 a8 _;have d5:=hY a2;have a4:=hY (d6.o.wr a8 λi hi=>(Qad (s:=s1) b5.o hi).1);clear a2 a8);have h0:w5.cell? ⟨M,0,none⟩=some (.slice s.a xs.length s.c):=(HB.o.ext a4.o).cell 0;have g0:=a4.o.size;go_cut [6] (λv wc=>v=.int .i64 (q:Int)/\wc=w5)
 case first=>
  cases f with
  | true=>
    obtain rfl:p+1=q:=HQ.o;go_wp2_with fail;go_meet;exact⟨by go_num,rfl⟩
  | false=>
    obtain rfl:p=q:=HQ.o;go_wp2_with fail;go_meet;exact⟨rfl,rfl⟩
 obtain⟨rfl,rfl⟩:=hcut;go_wp2_with(first |(refine QxV rfl (.tmp 37) (.tmp 38) 41 78 7 rfl underlying41 hi a6 s xs.length q rfl rfl c8 ?_;intro sq f6 d4;have g9:=hY (g4.o wc a4.o sq f6 d4);clear f6 d4) |(at_builtin;refine Qak _ rfl (.tmp 33) (.tmp 39) 41 rfl w.heap.size 78 i0 _ 7 104 underlying41 hi b0 a6 b3 rfl oN s2 (p+1) _ rfl d5.o (Lt w) sq (xs.length-q) (QaD (xs.drop q)) rfl g9.o (QbX _) f4 e7 g0 ?_;intro s3 w6 a0 a7 _;have a1:=a4.o.wr a7 (λi hi=>(Qad (s:=s2) d5.o hi).1);have h0:w6.cell? ⟨M,0,none⟩=some (.slice s.a xs.length s.c):=(HB.o.ext a1).cell 0;have f0:=(HB.o.ext a1).frozen 0;have l0:=(HB.o.ext a1).lt;have g5:=hY a0;have g8:=hY a1;clear a0 a7 a1));go_end0;exact⟨⟨_,rfl⟩,d0.o w6 s3 g8.o g5.o⟩
abbrev fu:=@bne_eq_false_iff_eq
theorem QgO(w:World)(a b:Int):Calls prog 63 #[.int .i64 a,.int .i64 b] w λe w'=>e=.returned (.int .i64 (Qcj a b))/\w=w':=by
 by_cases h:a<b
 ·have I:Qcj a b = -1:=by simp [Qcj,h]
  rw[I];go_in;go_wp2_with fail;go_ret;exact⟨rfl,rfl⟩
 by_cases N:b<a
 ·have I:Qcj a b=1:=by simp [Qcj,h,N]
  rw[I];go_in;go_wp2_with fail;go_ret;exact⟨rfl,rfl⟩
 have I:Qcj a b=0:=by simp[Qcj,h,N]
 rw[I];go_in;go_wp2_with fail;go_ret;exact⟨rfl,rfl⟩
theorem Qh3(p x y:List UInt8):Op.bytesLess (p++x) (p++y)=Op.bytesLess x y:=by
 induction p with
 |nil=>rfl
 |cons a p ih=>simp[Op.bytesLess,ih]
theorem Qf0{a:ByteArray}{i:Nat}(h:i<a.size):a.toList[i]? = some a[i]:=by
 rw[eD];obtain⟨d⟩:=a;have h:i<d.size:=h;show d.toList[i]? = some d[i];simp[h]
theorem QhS(a:ByteArray):a.toList.length=a.size:=by
 rw[eD];rfl
theorem Qof{a b:ByteArray}{i:Nat}(ha:i<a.size)(hb:i<b.size)(hp:a.toList.take i=b.toList.take i)(I:a[i]≠b[i]):Qbn a b=Qcj (a[i].toNat:Int) (b[i].toNat:Int):=by
 have e1:a.toList=a.toList.take i++a[i]::a.toList.drop (i+1):=by
  have h:=Qf0 ha;obtain⟨h1,h2⟩:=ai.1 h
  conv=>lhs;rw[<-aV i a.toList,aE h1,h2]
 have e2:b.toList=a.toList.take i++b[i]::b.toList.drop (i+1):=by
  have h:=Qf0 hb;obtain⟨h1,h2⟩:=ai.1 h
  conv=>lhs;rw[<-aV i b.toList,aE h1,h2]
  rw[hp]
 unfold Qbn klt;generalize a[i]=x at *;generalize b[i]=y at *;have a0:∀(P u v A B:List UInt8),A=P++x::u->B=P++y::v->Op.bytesLess A B=decide (x<y)/\Op.bytesLess B A=decide (y<x):=by
  rintro P u v A B rfl rfl;have Z:¬x=y:=I;have N:¬y=x:=λh=>I h.symm
  rw[Qh3,Qh3];exact⟨by simp[Op.bytesLess,Z],by simp[Op.bytesLess,N]⟩
 obtain⟨k1,k2⟩:=a0 _ _ _ _ _ e1 e2;rw[k1,k2];unfold Qcj;have h1:(x<y)↔((x.toNat:Int)<(y.toNat:Int)):=by rw[UInt8.lt_iff_toNat_lt];omega
 have h2:(y<x)↔((y.toNat:Int)<(x.toNat:Int)):=by rw[UInt8.lt_iff_toNat_lt];omega
 simp only[decide_eq_true_eq,h1,h2]
theorem Qkx{a b:ByteArray}(I:a.toList.take (min a.size b.size)=b.toList.take (min a.size b.size)):Qbn a b=Qcj (a.size:Int) (b.size:Int):=by
 have Z:=QhS a;have N:=QhS b;rcases Nat.lt_trichotomy a.size b.size with h|h|h
 ·have e:b.toList=a.toList++b.toList.drop a.size:=by
   rw[bY (cC h),<-Z,aU,Z]at I
   conv=>lhs;rw[<-aV a.size b.toList,<-I]
  obtain⟨c,r,hr⟩:∃c r,b.toList.drop a.size=c::r:=by
   cases hd:b.toList.drop a.size with
   |nil=>have:=congrArg List.length hd;rw[aw,N]at this;simp at this;omega
   |cons c r=>exact⟨c,r,rfl⟩
  have k1:klt a b=true:=by
   unfold klt;rw[e,hr]
   conv=>lhs;arg 1;rw[<-aW a.toList]
   rw[Qh3];rfl
  unfold Qbn Qcj;rw[eu k1,eu oM]
 ·have e:a=b:=toList_inj (by rw [h,Nat.min_self,←N] at I;rw [aU] at I;rw [←I,N,←h,←Z,aU])
  subst e;rw[Qd1,Qj7]
 have e:a.toList=b.toList++a.toList.drop b.size:=by
  rw[Nat.min_eq_right (cC h)]at I
  conv=>lhs;rw[<-aV b.size a.toList,I,<-N,aU]
  rw[N]
 obtain⟨c,r,hr⟩:∃c r,a.toList.drop b.size=c::r:=by
  cases hd:a.toList.drop b.size with
  |nil=>have:=congrArg List.length hd;rw[aw,Z]at this;simp at this;omega
  |cons c r=>exact⟨c,r,rfl⟩
 have k1:klt b a=true:=by
  unfold klt;rw[e,hr]
  conv=>lhs;arg 1;rw[<-aW b.toList]
  rw[Qh3];rfl
 unfold Qbn Qcj;rw[eh (by rw[Qbh k1];simp),eu k1,eh oM,eu oM]
theorem Qky(w:World)(a b:ByteArray)(ha:a.size<=maxLen)(hb:b.size<=maxLen):Calls prog 64 #[.string a,.string b] w λe w'=>e=.returned (.int .i64 (Qbn a b))/\Ext w w':=by
 have hn:∀W x y,Calls prog 63 #[.int .i64 x,.int .i64 y] W λe w'=>e=.returned (.int .i64 (Qcj x y))/\W=w':=QgO
 unfold maxLen at ha hb;have HN:=hY hn;clear hn;go_in;go_wp2_with fail;go_loopw[5] (λq wr=>∃i:Nat,q=.int .i64 i/\i<=a.size/\i<=b.size/\a.toList.take i=b.toList.take i/\Ext w wr) (λq _=>a.size -(intOf q).toNat)
 case atStart=>exact⟨0,rfl,aA _,aA _,rfl,fI w⟩
 obtain⟨i,rfl,a5,a2,Z,hx⟩:=hrel;by_cases h1:i<a.size
 ·by_cases h2:i<b.size
  ·have g1:(i:Int)<(a.size:Int):=oM
   have g2:(i:Int)<(b.size:Int):=oM
   obtain⟨HP,HX⟩:=Yb Z hx;clear Z hx;go_wp2_with fail;go_quiet (fail);go_wp2_with fail
   case _=>
    have I:(((a[i].toNat:Nat):Int) !=((b[i].toNat:Nat):Int))=true:=by assumption
    have N:a[i]≠b[i]:=λe=>by rw[e]at I;simp at I
    have HT:=hY (Qof h1 h2 HP.o N);have a1:wrap64 ((a[i].toNat:Nat):Int)=((a[i].toNat:Nat):Int):=by have:=a[i].toNat_lt;unfold wrap64;omega
    have a0:wrap64 ((b[i].toNat:Nat):Int)=((b[i].toNat:Nat):Int):=by have:=b[i].toNat_lt;unfold wrap64;omega
    obtain⟨a4,a3⟩:=Yb a1 a0;clear N a1 a0;go_quiet ((go_at_call 63;refine(HN.o _ _ _).mono ?_;rintro e w2 ⟨rfl,rfl⟩;exact⟨rfl,_,rfl⟩));go_wp2_with fail;go_ret;rw[HT.o,a4.o,a3.o];exact⟨rfl,(HX.o.drewN _).drewN _⟩
   case roundEnd=>
    have I:(((a[i].toNat:Nat):Int) !=((b[i].toNat:Nat):Int))=false:=by assumption
    have he:a[i]=b[i]:=UInt8.toNat_inj.1 (by have h:=fu.1 I;omega);refine⟨⟨i+1,sM,oM,oM,?_,HX.o.drewN _⟩,?_⟩
    .rw [aT,aT,Qf0 h1,Qf0 h2,HP.o,he]
    simp[intOf];omega
  have g1:(i:Int)<(a.size:Int):=oM
  have g2:¬(i:Int)<(b.size:Int):=oM
  obtain rfl:i=b.size:=oM
  obtain⟨HT,HX⟩:=Yb (Qkx (a:=a) (b:=b) (by rw[Nat.min_eq_right a5];exact Z)) hx;clear Z hx;go_wp2_with fail;refine(HN.o _ _ _).mono ?_;rintro e w2 ⟨rfl,rfl⟩;go_wp2_with fail;go_ret;rw[HT.o];exact⟨rfl,HX.o⟩
 have g1:¬(i:Int)<(a.size:Int):=oM
 obtain rfl:i=a.size:=oM
 obtain⟨HT,HX⟩:=Yb (Qkx (a:=a) (b:=b) (by rw[bY a2];exact Z)) hx;clear Z hx;go_wp2_with fail;refine(HN.o _ _ _).mono ?_;rintro e w2 ⟨rfl,rfl⟩;go_wp2_with fail;go_ret;rw[HT.o];exact⟨rfl,HX.o⟩
abbrev eA:=@wp_region_held_drew
abbrev eF:=@wpAnyH_done
abbrev eQ:=@bne_iff_ne
def QbN(n:Int)(w:World)(e:Ending)(w':World):Prop:=e=.returned (.int .i64 n)/\Ext w w'
theorem Qjj{l l':List Val}{a b:Val}(N:l[j]? = some a)(I:l'[j]? = some b):cmpL (l.drop j) (l'.drop j)=if Qbq a b≠0 then Qbq a b else cmpL (l.drop (j+1)) (l'.drop (j+1)):=by
 obtain⟨h1,rfl⟩:=ai.1 N;obtain⟨h2,rfl⟩:=ai.1 I;rw[aE h1,aE h2];simp only[cmpL]
theorem Qid{l l':List Val}(h:j=l.length\/j=l'.length)(h1:j<=l.length)(h2:j<=l'.length):cmpL (l.drop j) (l'.drop j)=Qcj (l.length:Int) (l'.length:Int):=by
 by_cases ha:j=l.length
 ·have e1:l.drop j=[]:=bQ.2 oM
  rw[e1];simp only[cmpL,List.length_drop];unfold Qcj;by_cases I:l'.length-j=0
  .rw [eu I,eh oM,eh oM]
  rw[eh I,eu oM]
 obtain⟨a,r,N⟩:∃a r,l.drop j=a::r:=by
  cases hd:l.drop j with
  |nil=>have:=bQ.1 hd;omega
  |cons a r=>exact⟨a,r,rfl⟩
 have Z:l'.drop j=[]:=bQ.2 oM;rw[N,Z];simp only[cmpL];unfold Qcj;rw[eh oM,eu oM]
theorem Qjk{l l':List Val}{k k':List ByteArray}{a b:Val}{x y:ByteArray}(ha:l[j]? = some a)(I:l'[j]? = some b)(hx:k[j]? = some x)(N:k'[j]? = some y) :
  Qe5 (l.drop j) (k.drop j) (k'.drop j) (l'.drop j)=if Qbn x y≠0 then Qbn x y else if Qbq a b≠0 then Qbq a b else Qe5 (l.drop (j+1)) (k.drop (j+1)) (k'.drop (j+1)) (l'.drop (j+1)):=by
 obtain⟨h1,rfl⟩:=ai.1 ha;obtain⟨h2,rfl⟩:=ai.1 I;obtain⟨Z,rfl⟩:=ai.1 hx;obtain⟨h4,rfl⟩:=ai.1 N;rw[aE h1,aE h2,aE Z,aE h4];simp only[Qe5,List.headD_cons,List.tail_cons];rfl
theorem Qie{l l':List Val}{k k':List ByteArray}(h:j=l.length\/j=l'.length)(h1:j<=l.length)(h2:j<=l'.length):Qe5 (l.drop j) (k.drop j) (k'.drop j) (l'.drop j)=Qcj (l.length:Int) (l'.length:Int):=by
 by_cases ha:j=l.length
 ·have e1:l.drop j=[]:=bQ.2 oM
  rw[e1];simp only[Qe5,List.length_drop];unfold Qcj;by_cases I:l'.length-j=0
  .rw [eu I,eh oM,eh oM]
  rw[eh I,eu oM]
 obtain⟨a,r,N⟩:∃a r,l.drop j=a::r:=by
  cases hd:l.drop j with
  |nil=>have:=bQ.1 hd;omega
  |cons a r=>exact⟨a,r,rfl⟩
 have Z:l'.drop j=[]:=bQ.2 oM;rw[N,Z];simp only[Qe5];unfold Qcj;rw[eh oM,eu oM]
theorem Qgn(m:Nat):∀(x y:Val),SizeOf.sizeOf x<=m->∀(w:World) (sl so sl' so':Sl),RV w (Lt w.heap.size) x sl so->RV w (Lt w.heap.size) y sl' so'->
  Calls prog 42 #[QbV x sl so,QbV y sl' so'] w (QbN (Qbq x y) w):=by
 induction m with
 |zero=>intro d y hd;have:=Val.Qb6 d;omega
 |succ m ih=>
 intro x y hd w sl so sl' so' h h';have HI:=hY ih;clear ih;have hn:∀W a b,Calls prog 63 #[.int .i64 a,.int .i64 b] W λe w'=>e=.returned (.int .i64 (Qcj a b))/\W=w':=QgO
 have HN:=hY hn;clear hn;obtain⟨k,b,i,t,l,ok,ov⟩:=x;obtain⟨k',b',i',t',l',a1,b8⟩:=y;show Calls _ _ #[.agg #[.int .i64 k,.bool b,.int .i64 i,.string t,.slice sl.a l.length sl.c,.slice so.a ok.length so.c],.agg #[.int .i64 k',.bool b',.int .i64 i',.string t',.slice sl'.a l'.length sl'.c,.slice so'.a a1.length so'.c]] _ _;cases h with
 |mk bl fl bo fo cl co hl ho hov el rl ek eo ro bk bi bt nl no=>
 cases h' with
 |mk bl' fl' bo' fo' cl' co' hl' ho' hov' el' rl' ek' eo' ro' bk' bi' bt' nl' no'=>
 have e4:∀(j:Nat) (d:Val),l[j]? = some d->SizeOf.sizeOf d<=m:=λj d hj=>bq (ab (Val.QtM hj) hd)
 have f2:∀(j:Nat) (d:Val),ov[j]? = some d->SizeOf.sizeOf d<=m:=λj d hj=>bq (ab (Val.QtN hj) hd)
 obtain⟨i3,g0,i6,i1,e7,f9,i5⟩:=Yh e4 f2 el rl ek eo ro;obtain⟨b6,f4,f6,e0,f5,e8,a4⟩:=Yh hov el' rl' ek' eo' ro' hov';have e3:Qbq (.mk k b i t l ok ov) (.mk k' b' i' t' l' a1 b8)=if k≠k' then Qcj k k' else if k=2 then Qjg b b' else if k=3 then Qcj i i' else if k=4 then Qbn t t' else if k=5 then cmpL l l' else if k=6 then Qe5 ov ok a1 b8 else 0:=by
  simp only[Qbq,Val.kind,Val.b,Val.i,Val.t,Val.l,Val.ok,Val.ov];rfl
 rw[e3];clear e4 f2 el rl ek eo ro hov hd el' rl' ek' eo' ro' hov' e3;by_cases d8:k=k'
 ·subst d8
  have g9:(k != k)=false:=sM
  rw[eh sM];by_cases h2:k=2
  ·subst h2
   rw[eu rfl];cases b<;>cases b' <;>
   ·go_in
    go_wp2_with fail;go_ret;exact⟨rfl,((fI w).alloc _ _).alloc _ _⟩
  by_cases h3:k=3
  ·subst h3
   rw[eh h2,eu rfl];clear h2;go_in;go_wp2_with fail;refine(HN.o _ _ _).mono ?_;rintro e w2 ⟨rfl,rfl⟩;go_wp2_with fail;go_ret;exact⟨rfl,((fI w).alloc _ _).alloc _ _⟩
  by_cases h4:k=4
  ·subst h4
   rw[eh h2,eh h3,eu rfl];clear h2 h3;have hx:=λW=>Qky W t t' bt bt'
   have i2:=hY hx;clear hx;go_in;go_wp2_with fail;refine(i2.o _).mono ?_;rintro e w2 ⟨rfl,hx⟩;have HX:=hY hx;clear hx;go_wp2_with fail;go_ret;exact⟨rfl,(((fI w).alloc _ _).alloc _ _).trans HX.o⟩
  rw[eh h2,eh h3,eh h4];by_cases h5:k=5
  ·subst h5
   rw[eu rfl];clear h2 h3 h4;have i8:l.length<=140737488355328:=oM
   have e2:l'.length<=140737488355328:=oM
   go_in;go_wp2_with fail;generalize c4:World.alloc (World.alloc _ _) _=W0;obtain⟨c2,f8,c9,d4⟩:=Qas w _ _ _ _ W0 c4;clear c4;obtain⟨a0,c1,c3⟩:=Yc c2 c9 d4;clear c2 c9 d4;go_loopw[5] (λq wr=>∃j:Nat,q=.int .i64 j/\j<=l.length/\j<=l'.length/\cmpL l l'=cmpL (l.drop j) (l'.drop j)/\Ext W0 wr) (λq _=>l.length -(intOf q).toNat)
   case atStart=>exact⟨0,rfl,aA _,aA _,rfl,fI W0⟩
   obtain⟨j,rfl,c7,b4,hp,hx⟩:=hrel;obtain⟨-,-,-,-,q4,-⟩:=(c1.o.ext hx).c6;obtain⟨-,-,-,-,r4,-⟩:=(c3.o.ext hx).c6;have b9:=(c1.o.ext hx).lt;have b7:=(c3.o.ext hx).lt;obtain⟨HP,HX⟩:=Yb hp hx;by_cases h1:j<l.length
   ·by_cases h2:j<l'.length
    ·have g1:(j:Int)<(l.length:Int):=oM
     have g2:(j:Int)<(l'.length:Int):=oM
     obtain⟨d,hd⟩:∃d,l[j]? = some d:=⟨_,ac h1⟩;obtain⟨d',b0⟩:∃d,l'[j]? = some d:=⟨_,ac h2⟩;have HD:=hY (Qjj hd b0);have a2:Agree (Lt w.heap.size) w wr:=(a0.o.trans hx).agree λ_ h=>h
     obtain⟨sa,sc⟩:=sl;obtain⟨i4,d6⟩:=sl';obtain⟨rfl,f7,i0⟩:=hl.eq oM;obtain⟨rfl,f3,e6⟩:=hl'.eq oM;have b5:=hl.fits oM;have a3:=hl'.fits oM;obtain⟨v0,v1,v2,v3,v4,v5⟩:=(i6.o j d hd).agree a2 b5;obtain⟨a5,a6,a9,a7,b3,a8⟩:=(f4.o j d' b0).agree a2 a3;have d0:∀W,Ext wr W->Calls prog 42 #[QbV d (cl j).1 (cl j).2,QbV d' (cl' j).1 (cl' j).2] W (QbN (Qbq d d') W):=λW hW=>
      HI.o d d' (i3.o j d hd) W _ _ _ _ (((i1.o j d hd).agree (a2.trans (hW.agree λ_ h=>ab h (an a0.o.size hx.size)))).mono λi hi=>ab hi (an a0.o.size (an hx.size hW.size)))
       (((f6.o j d' b0).agree (a2.trans (hW.agree λ_ h=>ab h (an a0.o.size hx.size)))).mono λi hi=>ab hi (an a0.o.size (an hx.size hW.size)))
     have lb:bl<wr.heap.size:=ab b5 (an a0.o.size hx.size);have Z:bl'<wr.heap.size:=ab a3 (an a0.o.size hx.size);clear hp hx hd b0 a2 b5 a3;go_wp2_with fail;refine eA (S:=(λw'=>w'.cell? ⟨w.heap.size,4,none⟩=some (.slice (some ⟨bl,fl,none⟩) l.length sc)/\w'.cell? ⟨w.heap.size+1,4,none⟩=some (.slice (some ⟨bl',fl',none⟩) l'.length d6)/\w'.cell? ⟨bl,fl+j*6,none⟩=some (.int .i64 d.kind)/\w'.cell? ⟨bl,fl+j*6+1,none⟩=some (.bool d.b)/\w'.cell? ⟨bl,fl+j*6+2,none⟩=some (.int .i64 d.i)/\w'.cell? ⟨bl,fl+j*6+3,none⟩=some (.string d.t)/\w'.cell? ⟨bl,fl+j*6+4,none⟩=some (.slice (cl j).1.a d.l.length (cl j).1.c)/\w'.cell? ⟨bl,fl+j*6+5,none⟩=some (.slice (cl j).2.a d.ok.length (cl j).2.c)/\w'.cell? ⟨bl',fl'+j*6,none⟩=some (.int .i64 d'.kind)/\w'.cell? ⟨bl',fl'+j*6+1,none⟩=some (.bool d'.b)/\w'.cell? ⟨bl',fl'+j*6+2,none⟩=some (.int .i64 d'.i)/\w'.cell? ⟨bl',fl'+j*6+3,none⟩=some (.string d'.t)/\w'.cell? ⟨bl',fl'+j*6+4,none⟩=some (.slice (cl' j).1.a d'.l.length (cl' j).1.c)/\w'.cell? ⟨bl',fl'+j*6+5,none⟩=some (.slice (cl' j).2.a d'.ok.length (cl' j).2.c))) kM (⟨q4,r4,v0,v1,v2,v3,v4,v5,a5,a6,a9,a7,b3,a8⟩) (λhHeld=>?_);refine Qar 0 (some 61) hHeld ?_;refine Qar 1 (some 62) hHeld ?_;refine Qar 2 (some 63) hHeld ?_;refine Qar 3 (some 64) hHeld ?_;refine Qar 4 (some 65) hHeld ?_;refine Qar 5 (some 66) hHeld ?_;refine Qar 6 (some 67) hHeld ?_;refine Qar 7 (some 68) hHeld ?_;refine Qar 8 (some 69) hHeld ?_;refine Qar 9 (some 70) hHeld ?_;refine Qac (i:=10) kM rfl (by rfl) (λK hK=>?_);go_simp
     (refine(d0 _ ((fI wr).drew)).mono ?_;rintro e w2 ⟨rfl,I⟩;replace I:=((fI wr).drew).trans I)
     refine hK.out _ _ (⟨(I.cell b9).trans q4,(I.cell b7).trans r4,(I.cell lb).trans v0,(I.cell lb).trans v1,(I.cell lb).trans v2,(I.cell lb).trans v3,(I.cell lb).trans v4,(I.cell lb).trans v5,(I.cell Z).trans a5,(I.cell Z).trans a6,(I.cell Z).trans a9,(I.cell Z).trans a7,(I.cell Z).trans b3,(I.cell Z).trans a8⟩) (λhHeld=>?_);clear hK K
     try go_frame
     refine Qar 11 (some 6) hHeld ?_;refine eF kM ?_ _;clear hHeld d0 q4 r4 v0 v1 v2 v3 v4 v5 a5 a6 a9 a7 b3 a8;have d3:=hY (HX.o.trans I);clear I;by_cases hc:Qbq d d'=0
     ·have e1:(Qbq d d' != 0)=false:=by simp [hc]
      have HC:=hY hc;clear hc;go_wp2_with fail;go_roundw
      case rel=>exact⟨j+1,by go_num,h1,h2,by rw[HP.o,HD.o,eh (by simp[HC.o])],d3.o⟩
      simp[intOf];omega
     have e1:(Qbq d d' != 0)=true:=eQ.2 hc;have HC:=hY hc;clear hc;go_wp2_with fail;go_ret;rw[HP.o,HD.o,eu HC.o];exact⟨rfl,a0.o.trans d3.o⟩
    have g1:(j:Int)<(l.length:Int):=oM
    have g2:¬(j:Int)<(l'.length:Int):=oM
    have HE:=hY (Qid (l:=l) (l':=l') (j:=j) oM c7 b4);clear hp hx;go_wp2_with fail;refine(HN.o _ _ _).mono ?_;rintro e w2 ⟨rfl,rfl⟩;go_wp2_with fail;go_ret;rw[HP.o,HE.o];exact⟨rfl,a0.o.trans HX.o⟩
   have g1:¬(j:Int)<(l.length:Int):=oM
   have HE:=hY (Qid (l:=l) (l':=l') (j:=j) oM c7 b4);clear hp hx;go_wp2_with fail;refine(HN.o _ _ _).mono ?_;rintro e w2 ⟨rfl,rfl⟩;go_wp2_with fail;go_ret;rw[HP.o,HE.o];exact⟨rfl,a0.o.trans HX.o⟩
  by_cases h6:k=6
  ·subst h6
   rw[eh h5,eu rfl];clear h2 h3 h4 h5;have i8:ok.length<=140737488355328:=oM
   have e2:a1.length<=140737488355328:=oM
   go_in;go_wp2_with fail;generalize c4:World.alloc (World.alloc _ _) _=W0;obtain⟨c2,f8,c9,d4⟩:=Qas w _ _ _ _ W0 c4;clear c4;obtain⟨a0,c1,c3⟩:=Yc c2 c9 d4;clear c2 c9 d4;go_loopw[7] (λq wr=>∃j:Nat,q=.int .i64 j/\j<=ok.length/\j<=a1.length/\Qe5 ov ok a1 b8=Qe5 (ov.drop j) (ok.drop j) (a1.drop j) (b8.drop j)/\Ext W0 wr) (λq _=>ok.length -(intOf q).toNat)
   case atStart=>exact⟨0,rfl,aA _,aA _,rfl,fI W0⟩
   obtain⟨j,rfl,c7,b4,hp,hx⟩:=hrel;obtain⟨-,-,-,-,-,q5⟩:=(c1.o.ext hx).c6;obtain⟨-,-,-,-,-,r5⟩:=(c3.o.ext hx).c6;have b9:=(c1.o.ext hx).lt;have b7:=(c3.o.ext hx).lt;obtain⟨HP,HX⟩:=Yb hp hx;by_cases h1:j<ok.length
   ·by_cases h2:j<a1.length
    ·have g1:(j:Int)<(ok.length:Int):=oM
     have g2:(j:Int)<(a1.length:Int):=oM
     obtain⟨x,d5⟩:∃d,ok[j]? = some d:=⟨_,ac h1⟩;obtain⟨x',c0⟩:∃d,a1[j]? = some d:=⟨_,ac h2⟩;obtain⟨d,hd⟩:∃d,ov[j]? = some d:=⟨_,ac (by rw[b6.o];exact h1)⟩;obtain⟨d',b0⟩:∃d,b8[j]? = some d:=⟨_,ac (by rw[a4.o];exact h2)⟩;have HD:=hY (Qjk hd b0 d5 c0);have a2:Agree (Lt w.heap.size) w wr:=(a0.o.trans hx).agree λ_ h=>h
     obtain⟨sa,sc⟩:=so;obtain⟨i4,d6⟩:=so';obtain⟨rfl,f7,i0⟩:=ho.eq oM;obtain⟨rfl,f3,e6⟩:=ho'.eq oM;have b5:=ho.fits oM;have a3:=ho'.fits oM;obtain⟨v0,v1,v2,v3,v4,v5⟩:=(f9.o j d hd).agree a2 b5;obtain⟨a5,a6,a9,a7,b3,a8⟩:=(f5.o j d' b0).agree a2 a3;have kx:=(a2.cell b5).trans (e7.o j x d5).1;have c8:=(a2.cell a3).trans (e0.o j x' c0).1;have f1:=λW=>Qky W x x' (e7.o j x d5).2 (e0.o j x' c0).2
     have d0:∀W,Ext wr W->Calls prog 42 #[QbV d (co j).1 (co j).2,QbV d' (co' j).1 (co' j).2] W (QbN (Qbq d d') W):=λW hW=>
      HI.o d d' (g0.o j d hd) W _ _ _ _ (((i5.o j d hd).agree (a2.trans (hW.agree λ_ h=>ab h (an a0.o.size hx.size)))).mono λi hi=>ab hi (an a0.o.size (an hx.size hW.size)))
       (((e8.o j d' b0).agree (a2.trans (hW.agree λ_ h=>ab h (an a0.o.size hx.size)))).mono λi hi=>ab hi (an a0.o.size (an hx.size hW.size)))
     have lb:bo<wr.heap.size:=ab b5 (an a0.o.size hx.size);have Z:bo'<wr.heap.size:=ab a3 (an a0.o.size hx.size);obtain⟨HT,i7⟩:=Yb f1 d0;clear hp hx hd b0 a2 b5 a3 d5 c0 f1 d0;go_wp2_with fail;refine eA (S:=(λw'=>w'.cell? ⟨w.heap.size,5,none⟩=some (.slice (some ⟨bo,fo,none⟩) ok.length sc)/\w'.cell? ⟨w.heap.size+1,5,none⟩=some (.slice (some ⟨bo',fo',none⟩) a1.length d6)/\w'.cell? ⟨bo,fo+j*7,none⟩=some (.string x)/\w'.cell? ⟨bo',fo'+j*7,none⟩=some (.string x'))) kM (⟨q5,r5,kx,c8⟩) (λhHeld=>?_);refine Qar 0 (some 98) hHeld ?_;refine Qar 1 (some 99) hHeld ?_;refine Qar 2 (some 100) hHeld ?_;refine Qar 3 (some 101) hHeld ?_;refine Qar 4 (some 102) hHeld ?_;refine Qar 5 (some 103) hHeld ?_;refine Qar 6 (some 104) hHeld ?_;refine Qar 7 (some 105) hHeld ?_;refine Qar 8 (some 106) hHeld ?_;refine Qar 9 (some 107) hHeld ?_;refine Qar 10 (some 108) hHeld ?_;refine Qar 11 (some 109) hHeld ?_;refine Qac (i:=12) kM rfl (by rfl) (λK hK=>?_);go_simp
     (refine(HT.o _).mono ?_;rintro e w2 ⟨rfl,N⟩;replace N:=((fI wr).drew).trans N)
     refine hK.out _ _ (⟨(N.cell b9).trans q5,(N.cell b7).trans r5,(N.cell lb).trans kx,(N.cell Z).trans c8⟩) (λhHeld=>?_);clear hK K
     try go_frame
     refine Qar 13 (some 8) hHeld ?_;refine eF kM ?_ _;clear hHeld;obtain⟨g8,d3⟩:=Yb N (HX.o.trans N)
     replace q5:=(N.cell b9).trans q5;replace r5:=(N.cell b7).trans r5;replace v0:=(N.cell lb).trans v0;replace v1:=(N.cell lb).trans v1;replace v2:=(N.cell lb).trans v2;replace v3:=(N.cell lb).trans v3;replace v4:=(N.cell lb).trans v4;replace v5:=(N.cell lb).trans v5;replace a5:=(N.cell Z).trans a5;replace a6:=(N.cell Z).trans a6;replace a9:=(N.cell Z).trans a9;replace a7:=(N.cell Z).trans a7;replace b3:=(N.cell Z).trans b3;replace a8:=(N.cell Z).trans a8;replace kx:=(N.cell lb).trans kx;replace c8:=(N.cell Z).trans c8
     replace b9:=ab b9 N.size
     replace b7:=ab b7 N.size
     replace lb:=ab lb N.size
     replace Z:=ab Z N.size
     clear N;by_cases ht:Qbn x x'=0
     ·have g7:(Qbn x x' != 0)=false:=by simp [ht]
      have d7:=hY ht;clear ht;go_wp2_with fail;refine eA (S:=(λw'=>w'.cell? ⟨w.heap.size,5,none⟩=some (.slice (some ⟨bo,fo,none⟩) ok.length sc)/\w'.cell? ⟨w.heap.size+1,5,none⟩=some (.slice (some ⟨bo',fo',none⟩) a1.length d6)/\w'.cell? ⟨bo,fo+j*7+1,none⟩=some (.int .i64 d.kind)/\w'.cell? ⟨bo,fo+j*7+1+1,none⟩=some (.bool d.b)/\w'.cell? ⟨bo,fo+j*7+1+2,none⟩=some (.int .i64 d.i)/\w'.cell? ⟨bo,fo+j*7+1+3,none⟩=some (.string d.t)/\w'.cell? ⟨bo,fo+j*7+1+4,none⟩=some (.slice (co j).1.a d.l.length (co j).1.c)/\w'.cell? ⟨bo,fo+j*7+1+5,none⟩=some (.slice (co j).2.a d.ok.length (co j).2.c)/\w'.cell? ⟨bo',fo'+j*7+1,none⟩=some (.int .i64 d'.kind)/\w'.cell? ⟨bo',fo'+j*7+1+1,none⟩=some (.bool d'.b)/\w'.cell? ⟨bo',fo'+j*7+1+2,none⟩=some (.int .i64 d'.i)/\w'.cell? ⟨bo',fo'+j*7+1+3,none⟩=some (.string d'.t)/\w'.cell? ⟨bo',fo'+j*7+1+4,none⟩=some (.slice (co' j).1.a d'.l.length (co' j).1.c)/\w'.cell? ⟨bo',fo'+j*7+1+5,none⟩=some (.slice (co' j).2.a d'.ok.length (co' j).2.c))) kM (⟨q5,r5,v0,v1,v2,v3,v4,v5,a5,a6,a9,a7,b3,a8⟩) (λhHeld=>?_);refine Qar 0 (some 114) hHeld ?_;refine Qar 1 (some 115) hHeld ?_;refine Qar 2 (some 116) hHeld ?_;refine Qar 3 (some 117) hHeld ?_;refine Qar 4 (some 118) hHeld ?_;refine Qar 5 (some 119) hHeld ?_;refine Qar 6 (some 120) hHeld ?_;refine Qar 7 (some 121) hHeld ?_;refine Qar 8 (some 122) hHeld ?_;refine Qar 9 (some 123) hHeld ?_;refine Qar 10 (some 124) hHeld ?_;refine Qar 11 (some 125) hHeld ?_;refine Qac (i:=12) kM rfl (by rfl) (λK hK=>?_);go_simp
      (refine(i7.o _ (g8.o.drew)).mono ?_;rintro e w3 ⟨rfl,I⟩;replace I:=((fI w2).drew).trans I)
      refine hK.out _ _ (⟨(I.cell b9).trans q5,(I.cell b7).trans r5,(I.cell lb).trans v0,(I.cell lb).trans v1,(I.cell lb).trans v2,(I.cell lb).trans v3,(I.cell lb).trans v4,(I.cell lb).trans v5,(I.cell Z).trans a5,(I.cell Z).trans a6,(I.cell Z).trans a9,(I.cell Z).trans a7,(I.cell Z).trans b3,(I.cell Z).trans a8⟩) (λhHeld=>?_);clear hK K
      try go_frame
      refine Qar 13 (some 9) hHeld ?_;refine eF kM ?_ _;clear hHeld q5 r5 v0 v1 v2 v3 v4 v5 a5 a6 a9 a7 b3 a8 kx c8;have f0:=hY (d3.o.trans I);clear I;by_cases hc:Qbq d d'=0
      ·have e1:(Qbq d d' != 0)=false:=by simp [hc]
       have HC:=hY hc;clear hc;go_wp2_with fail;go_roundw
       case rel=>exact⟨j+1,by go_num,h1,h2,by rw[HP.o,HD.o,eh (by simp[d7.o]),eh (by simp[HC.o])],f0.o⟩
       simp[intOf];omega
      have e1:(Qbq d d' != 0)=true:=eQ.2 hc;have HC:=hY hc;clear hc;go_wp2_with fail;go_ret;rw[HP.o,HD.o,eh (by simp[d7.o]),eu HC.o];exact⟨rfl,a0.o.trans f0.o⟩
     have g7:(Qbn x x' != 0)=true:=eQ.2 ht;have d7:=hY ht;clear ht;go_wp2_with fail;go_ret;rw[HP.o,HD.o,eu d7.o];exact⟨rfl,a0.o.trans d3.o⟩
    have g1:(j:Int)<(ok.length:Int):=oM
    have g2:¬(j:Int)<(a1.length:Int):=oM
    have HE:=hY (Qie (l:=ov) (l':=b8) (k:=ok) (k':=a1) (j:=j) (by rw[b6.o,a4.o];omega) (by rw[b6.o];exact c7) (by rw[a4.o];exact b4));clear hp hx;go_wp2_with fail;refine(HN.o _ _ _).mono ?_;rintro e w2 ⟨rfl,rfl⟩;go_wp2_with fail;go_ret;rw[HP.o,HE.o,b6.o,a4.o];exact⟨rfl,a0.o.trans HX.o⟩
   have g1:¬(j:Int)<(ok.length:Int):=oM
   have HE:=hY (Qie (l:=ov) (l':=b8) (k:=ok) (k':=a1) (j:=j) (by rw[b6.o,a4.o];omega) (by rw[b6.o];exact c7) (by rw[a4.o];exact b4));clear hp hx;go_wp2_with fail;refine(HN.o _ _ _).mono ?_;rintro e w2 ⟨rfl,rfl⟩;go_wp2_with fail;go_ret;rw[HP.o,HE.o,b6.o,a4.o];exact⟨rfl,a0.o.trans HX.o⟩
  rw[eh h5,eh h6];have g2:(k==2)=false:=ev.2 h2;have g3:(k==3)=false:=ev.2 h3;have g4:(k==4)=false:=ev.2 h4;have g5:(k==5)=false:=ev.2 h5;have g6:(k==6)=false:=ev.2 h6;clear h2 h3 h4 h5 h6;go_in;go_wp2_with fail;go_ret;exact⟨rfl,((fI w).alloc _ _).alloc _ _⟩
 have g9:(k != k')=true:=eQ.2 d8;rw[eu d8];clear d8;go_in;go_wp2_with fail;refine(HN.o _ _ _).mono ?_;rintro e w2 ⟨rfl,rfl⟩;go_wp2_with fail;go_ret;exact⟨rfl,((fI w).alloc _ _).alloc _ _⟩
theorem QnT{l m:List Ent}{a b:Ent}(N:l[j]? = some a)(I:m[j]? = some b):Qeq (l.drop j) (m.drop j)=(decide (a.1=b.1)&&decide (Qbq a.2 b.2=0)&&Qeq (l.drop (j+1)) (m.drop (j+1))):=by
 obtain⟨h1,rfl⟩:=ai.1 N;obtain⟨h2,rfl⟩:=ai.1 I;rw[aE h1,aE h2];rfl
theorem Qsl{l m:List Ent}(h:l.length≠m.length):Qeq l m=false:=by
 cases hs:Qeq l m with
 |false=>rfl
 |true=>exact absurd (Qkr hs) h
theorem Qlz(hs:ES w (Lt w.heap.size) s xs)(a8:ES w (Lt w.heap.size) s' ys) :
  Calls prog 36 #[.slice s.a xs.length s.c,.slice s'.a ys.length s'.c] w λe w'=>e=.returned (.bool (Qeq (xs.map LE.ent) (ys.map LE.ent)))/\Ext w w':=by
 have hf:=hs.few;have c3:xs.length<=140737488355328:=oM
 by_cases Z:xs.length=ys.length
 ·have HS:=hY hs
  obtain⟨c1,a6⟩:=Yb a8 Z;rw[<-Z];clear hs a8 Z hf;go_in;go_wp2_with fail;go_loopw[5] (λq wr=>∃j:Nat,q=.int .i64 j/\j<=xs.length/\Qeq (xs.map LE.ent) (ys.map LE.ent)=Qeq ((xs.map LE.ent).drop j) ((ys.map LE.ent).drop j)/\Ext w wr) (λq _=>xs.length -(intOf q).toNat)
  case atStart=>exact⟨0,rfl,aA _,rfl,fI w⟩
  obtain⟨j,rfl,c8,hp,hx⟩:=hrel;obtain⟨HP,HX⟩:=Yb hp hx;by_cases h1:j<xs.length
  ·have g1:(j:Int)<(xs.length:Int):=oM
   obtain⟨x,b0⟩:∃x,xs[j]? = some x:=⟨_,ac h1⟩;obtain⟨y,a9⟩:∃y,ys[j]? = some y:=⟨_,ac (by rw[<-a6.o];exact h1)⟩;have HD:=hY (QnT (l:=xs.map LE.ent) (m:=ys.map LE.ent) (a:=x.ent) (b:=y.ent) (by rw[au,b0];rfl) (by rw[au,a9];rfl));have e1:=HS.o.ext hx;have e2:=c1.o.ext hx;obtain⟨g,o,hg,lg,hc,c0,kx,⟨v0,v1,v2,v3,v4,v5⟩,rx,-⟩:=e1.at b0;obtain⟨g',o',b6,N,b7,b8,ky,⟨a1,a2,a0,a3,a4,a5⟩,ry,-⟩:=e2.at a9;rw[<-a6.o]at b7;obtain⟨sa,sc⟩:=s;obtain⟨c7,c4⟩:=s';dsimp only at hg b6 hc b7 c0 b8;subst hg b6;have b4:∀W,Ext wr W->Calls prog 42 #[QbV x.v x.sl x.so,QbV y.v y.sl y.so] W (QbN (Qbq x.v y.v) W):=λW hW=>
    Qgn _ x.v y.v (ao _) W _ _ _ _ ((rx.agree (hW.agree λ_ h=>h)).mono λi hi=>ab hi hW.size) ((ry.agree (hW.agree λ_ h=>h)).mono λi hi=>ab hi hW.size)
   have c2:=hY b4;clear hp hx b0 a9 e1 e2 rx ry b4;have lg:g<wr.heap.size:=lg;have N:g'<wr.heap.size:=N;by_cases hk:x.k=y.k
   ·have a7:(x.k.toList == y.k.toList)=true:=by rw [hk];simp
    have HK:=hY hk;go_wp2_with fail;refine eA (S:=(λw'=>w'.cell? ⟨g,o+j*7,none⟩=some (.string x.k)/\w'.cell? ⟨g',o'+j*7,none⟩=some (.string y.k)/\w'.cell? ⟨g,o+j*7+1,none⟩=some (.int .i64 x.v.kind)/\w'.cell? ⟨g,o+j*7+1+1,none⟩=some (.bool x.v.b)/\w'.cell? ⟨g,o+j*7+1+2,none⟩=some (.int .i64 x.v.i)/\w'.cell? ⟨g,o+j*7+1+3,none⟩=some (.string x.v.t)/\w'.cell? ⟨g,o+j*7+1+4,none⟩=some (.slice x.sl.a x.v.l.length x.sl.c)/\w'.cell? ⟨g,o+j*7+1+5,none⟩=some (.slice x.so.a x.v.ok.length x.so.c)/\w'.cell? ⟨g',o'+j*7+1,none⟩=some (.int .i64 y.v.kind)/\w'.cell? ⟨g',o'+j*7+1+1,none⟩=some (.bool y.v.b)/\w'.cell? ⟨g',o'+j*7+1+2,none⟩=some (.int .i64 y.v.i)/\w'.cell? ⟨g',o'+j*7+1+3,none⟩=some (.string y.v.t)/\w'.cell? ⟨g',o'+j*7+1+4,none⟩=some (.slice y.sl.a y.v.l.length y.sl.c)/\w'.cell? ⟨g',o'+j*7+1+5,none⟩=some (.slice y.so.a y.v.ok.length y.so.c))) kM (⟨kx,ky,v0,v1,v2,v3,v4,v5,a1,a2,a0,a3,a4,a5⟩) (λhHeld=>?_);refine Qar 0 (some 17) hHeld ?_;refine Qar 1 (some 18) hHeld ?_;refine Qar 2 (some 19) hHeld ?_;refine Qar 3 (some 20) hHeld ?_;refine Qar 4 (some 21) hHeld ?_;refine Qar 5 (some 22) hHeld ?_;refine Qar 6 (some 23) hHeld ?_;refine Qar 7 (some 24) hHeld ?_;refine Qar 8 (some 25) hHeld ?_;refine Qar 9 (some 26) hHeld ?_;refine Qar 10 (some 27) hHeld ?_;refine Qar 11 (some 28) hHeld ?_;refine Qar 12 (some 29) hHeld ?_;refine Qar 13 (some 30) hHeld ?_;refine Qar 14 (some 31) hHeld ?_;refine Qar 15 (some 32) hHeld ?_;refine Qar 16 (some 33) hHeld ?_;refine Qar 17 (some 34) hHeld ?_;refine Qar 18 (some 35) hHeld ?_;refine Qar 19 (some 36) hHeld ?_;refine Qar 20 (some 37) hHeld ?_;refine Qar 21 (some 38) hHeld ?_;refine Qac (i:=22) kM rfl (by rfl) (λK hK=>?_);go_simp
    (refine(c2.o _ ((fI wr).drew)).mono ?_;rintro e w2 ⟨rfl,I⟩;replace I:=((fI wr).drew).trans I)
    refine hK.out _ _ (⟨(I.cell lg).trans kx,(I.cell N).trans ky,(I.cell lg).trans v0,(I.cell lg).trans v1,(I.cell lg).trans v2,(I.cell lg).trans v3,(I.cell lg).trans v4,(I.cell lg).trans v5,(I.cell N).trans a1,(I.cell N).trans a2,(I.cell N).trans a0,(I.cell N).trans a3,(I.cell N).trans a4,(I.cell N).trans a5⟩) (λhHeld=>?_);clear hK K
    try go_frame
    refine Qar 23 (some 40) hHeld ?_;refine Qar 24 (some 41) hHeld ?_;refine eF kM ?_ _;have b5:=hY (HX.o.trans I);clear I hHeld a7 hk kx ky v0 v1 v2 v3 v4 v5 a1 a2 a0 a3 a4 a5;by_cases hc:Qbq x.v y.v=0
    ·have b9:(Qbq x.v y.v != 0)=false:=by simp [hc]
     have HC:=hY hc;clear hc;go_wp2_with fail;go_roundw
     case rel=>exact⟨j+1,by go_num,h1,by rw[HP.o,HD.o,em (show x.ent.1=y.ent.1 from HK.o),em (show Qbq x.ent.2 y.ent.2=0 from HC.o)];rfl,b5.o⟩
     simp[intOf];omega
    have b9:(Qbq x.v y.v != 0)=true:=eQ.2 hc;have HC:=hY hc;clear hc;go_wp2_with fail;go_ret;rw[HP.o,HD.o,ej (show ¬Qbq x.ent.2 y.ent.2=0 from HC.o)];exact⟨sM,b5.o⟩
   have a7:(x.k.toList==y.k.toList)=false:=by rw[beq_toList];simp[hk]
   have HK:=hY hk;go_wp2_with fail;refine eA (S:=(λw'=>w'.cell? ⟨g,o+j*7,none⟩=some (.string x.k)/\w'.cell? ⟨g',o'+j*7,none⟩=some (.string y.k)/\w'.cell? ⟨g,o+j*7+1,none⟩=some (.int .i64 x.v.kind)/\w'.cell? ⟨g,o+j*7+1+1,none⟩=some (.bool x.v.b)/\w'.cell? ⟨g,o+j*7+1+2,none⟩=some (.int .i64 x.v.i)/\w'.cell? ⟨g,o+j*7+1+3,none⟩=some (.string x.v.t)/\w'.cell? ⟨g,o+j*7+1+4,none⟩=some (.slice x.sl.a x.v.l.length x.sl.c)/\w'.cell? ⟨g,o+j*7+1+5,none⟩=some (.slice x.so.a x.v.ok.length x.so.c)/\w'.cell? ⟨g',o'+j*7+1,none⟩=some (.int .i64 y.v.kind)/\w'.cell? ⟨g',o'+j*7+1+1,none⟩=some (.bool y.v.b)/\w'.cell? ⟨g',o'+j*7+1+2,none⟩=some (.int .i64 y.v.i)/\w'.cell? ⟨g',o'+j*7+1+3,none⟩=some (.string y.v.t)/\w'.cell? ⟨g',o'+j*7+1+4,none⟩=some (.slice y.sl.a y.v.l.length y.sl.c)/\w'.cell? ⟨g',o'+j*7+1+5,none⟩=some (.slice y.so.a y.v.ok.length y.so.c))) kM (⟨kx,ky,v0,v1,v2,v3,v4,v5,a1,a2,a0,a3,a4,a5⟩) (λhHeld=>?_);refine Qar 0 (some 17) hHeld ?_;refine Qar 1 (some 18) hHeld ?_;refine Qar 2 (some 19) hHeld ?_;refine Qar 3 (some 20) hHeld ?_;refine Qar 4 (some 21) hHeld ?_;refine Qar 5 (some 22) hHeld ?_;refine Qar 6 (some 23) hHeld ?_;refine Qar 7 (some 24) hHeld ?_;refine Qar 8 (some 25) hHeld ?_;refine Qar 9 (some 26) hHeld ?_;refine Qar 10 (some 27) hHeld ?_;refine Qar 11 (some 28) hHeld ?_;refine QfN 12 (some 29) hHeld ?_;refine QfN 13 (some 30) hHeld ?_;refine QfN 14 (some 31) hHeld ?_;refine QfN 15 (some 32) hHeld ?_;refine QfN 16 (some 33) hHeld ?_;refine QfN 17 (some 34) hHeld ?_;refine QfN 18 (some 35) hHeld ?_;refine QfN 19 (some 36) hHeld ?_;refine QfN 20 (some 37) hHeld ?_;refine QfN 21 (some 38) hHeld ?_;refine QfN 22 (some 39) hHeld ?_;refine QfN 23 (some 40) hHeld ?_;refine Qar 24 (some 41) hHeld ?_;refine eF kM ?_ _;clear hHeld a7 hk kx ky v0 v1 v2 v3 v4 v5 a1 a2 a0 a3 a4 a5;go_wp2_with fail;go_ret;rw[HP.o,HD.o,ej (show ¬x.ent.1=y.ent.1 from HK.o)];exact⟨sM,HX.o.drew⟩
  have g1:¬(j:Int)<(xs.length:Int):=oM
  have b3:Qeq ((xs.map LE.ent).drop j) ((ys.map LE.ent).drop j)=true:=by
   rw[bQ.2 (by rw[aq];omega),bQ.2 (by rw[aq,<-a6.o];omega)];rfl
  have HE:=hY b3;clear hp hx b3;go_wp2_with fail;go_ret;rw[HP.o,HE.o];exact⟨rfl,HX.o⟩
 have c6:(((xs.length:Int)) !=((ys.length:Int)))=true:=eQ.2 oM;rw[Qsl (by rw[aq,aq];exact Z)];clear hs a8 Z hf c3;go_in;go_wp2_with fail;go_ret;exact⟨rfl,fI w⟩
def Qw7(H:Nat->Prop)(es:List Ent)(w:World)(e:Ending)(w':World):Prop:=
 ∃M',e=.returned (.pointer (some ⟨M',0,none⟩))/\w.heap.size<=M'/\Ext w w'/\MapAt (λb=>H b\/b=M') w' M' es
theorem QwN{M:Nat}{es:List Ent}(h:MapAt H w M es)(hH:∀b,H b->b<w.heap.size)(hc:es.length<=1000000) :
  Calls prog 84 #[.pointer (some ⟨M,0,none⟩)] w (Qw7 H es w):=by
 obtain⟨i0,hi,a4,a6,a5⟩:=eE Tryz.Qa8;obtain⟨hm,s,xs,hb,hs,N⟩:=h;have h0:w.cell? ⟨M,0,none⟩=some (.slice s.a xs.length s.c):=hb.cell 0;have a1:xs.length=es.length:=by rw[<-N,aq]
 have a7:xs.length<=maxLen:=by unfold maxLen;omega
 have a0:xs.length*104<=140737488355328:=oM
 obtain⟨HS,a3⟩:=Yb hs N;clear hb hs N a1;go_in;go_wp2_with(at_builtin;refine Qwo rfl (.const (.slice none 0 0)) (.tmp 6) 41 rfl w.heap.size 78 i0 _ 7 104 underlying41 hi a4 a6 a5 rfl oN rfl (NH H w) s xs.length (QaD xs) rfl HS.o.rd (QbX _) a7 a0 (ao _) ?_;intro s1 w1 I a2;have a8:=hY I;have Z:=hY a2;clear I a2);go_ret;have hE:Ext w1 (w1.alloc (.cells #[.slice s1.a xs.length s1.c] 56)):=(fI _).alloc _ _;have hX:=Z.o.trans hE;have hz:=Z.o.size;refine⟨w1,rfl,hz,hX,.inr rfl,s1,xs,fK w1 _ _,⟨?_,?_,a0⟩,a3.o⟩
 ·refine ((fP a8.o).agree (hE.agree fun i hi=>hi.2)).mono fun i hi=>⟨by rw [ew];have:=hi.2;omega,fun h=>?_⟩
  have h1:=hi.1;have h2:=hi.2;rcases h with h|h
  .have:=hH i h;omega
  omega
 intro x hx;refine⟨((HS.o.vals x hx).1.agree (hX.agree λi hi=>hi.1)).mono λi hi=>⟨Nat.lt_of_lt_of_le hi.1 hX.size,λh=>?_⟩,(HS.o.vals x hx).2⟩;have h1:=hi.1;rcases h with h|h
 .exact hi.2 h
 omega
abbrev Qds(sl sr:Sl):Nat->Prop:=λb=>sl.row=some b\/sr.row=some b
def Qfs(P:Nat->World->Prop)(W:World)(e:Ending)(W':World):Prop:=∃a,e=.returned (.pointer (some ⟨a,0,none⟩))/\W.heap.size<=a/\P a W'/\Ext W W'
theorem Qln{base n:Nat}{xs:List Value}(h:w.ownsRow base 78 7 (.slice s.a n s.c) n xs)(hs:St G w W)(N:∀b,s.row=some b->¬G b):W.ownsRow base 78 7 (.slice s.a n s.c) n xs:=
 Qab h hs.agree λb I=>⟨(Qad h I).2,N b I⟩
theorem Qsh{n m:Nat}(h:Rd w F 7 s n cs)(I:m<=n):Rd w F 7 s m (cs.take (m*7)):=h.take I
theorem Qvm{ls:List Value}(hl:ls.length=n*7)(hn:0<n)(hp:True):∃v0 I v2 Z v4 N v6:Value,ls.drop ((n-1)*7)=[v0,I,v2,Z,v4,N,v6]:=by
 have h:(ls.drop ((n-1)*7)).length=7:=by rw[aw,hl];omega
 match hd:ls.drop ((n-1)*7),h with
 |[v0,I,v2,Z,v4,N,v6],_=>exact⟨v0,I,v2,Z,v4,N,v6,rfl⟩
section
variable{w : World}{base m nr : Nat}{sl sr : Sl}{ls rs : List Value}{P1 P2 : Nat -> World -> Prop}
theorem QnD(hL:w.ownsRow base 78 7 (.slice sl.a (m+1) sl.c) (m+1) ls)(hR:w.ownsRow base 78 7 (.slice sr.a nr sr.c) nr rs)(hb:base<=w.heap.size)(a7:∀b,sl.row=some b->sr.row≠some b)
  (b5:∀u∈ls,u.oneCell'=true) (c2:∀u∈rs,u.oneCell'=true) (c9:True) (h4:4<m+1) (h8:m+1<=8) (r8:nr<=8)
  (b6:∀(W:World) (s:Sl),St (Qds sl sr) w W->Rd W (Lt W) 7 s m (ls.take (m*7))->Calls prog 80 #[.slice s.a m s.c] W (Qfs P1 W))
  (c3:∀(W:World) (s:Sl),St (Qds sl sr) w W->Rd W (Lt W) 7 s (nr+1) (ls.drop (m*7)++rs)->Calls prog 80 #[.slice s.a (nr+1) s.c] W (Qfs P2 W))
  (b4:∀a W W',St (Qds sl sr) w W->P1 a W->St (Qds sl sr) W W'->P1 a W') :
  Calls prog 146 #[.slice sl.a (m+1) sl.c,.slice sr.a nr sr.c,.func (.func 80) #[] #[]] w λe w'=>∃a b,e=.returned (.tuple #[.pointer (some ⟨a,0,none⟩),.pointer (some ⟨b,0,none⟩)])/\w.heap.size<=a/\w.heap.size<=b/\P1 a w'/\P2 b w'/\St (Qds sl sr) w w':=by
 obtain⟨i0,hi,e7,f6,e8⟩:=eE Tryz.Qa8;obtain⟨v0,v1,v2,v3,v4,v5,v6,Z⟩:=Qvm hL.1 oM c9;rw[Nat.add_sub_cancel]at Z;obtain⟨N,I,rfl,f4,e4,c0,a4⟩:=QaJ hL oM;have d4:N<w:=a4.lt;have a8:∀b,sr.row=some b->b<w.heap.size:=λb hb=>(Qad hR hb).2
 have a3:∀W,St (λb=>sr.row=some b) w W->∀j u,ls[j]? = some u->W.cell? ⟨N,j,none⟩=some u:=λW hW j u hj=>by
  obtain⟨b,o,h1,h2,h3⟩:=fP hL;obtain⟨e1,-,-⟩:=h1.eq oM;obtain⟨rfl,rfl⟩:N=b/\0=o:=by simpa using e1
  have:=h3 j u hj;rw[aD]at this;exact(hW.cell d4 (a7 N rfl)).trans this
 have a0:∀(c:Nat) (u:Value),([v0,v1,v2,v3,v4,v5,v6]:List Value)[c]? = some u->ls[m*7+c]? = some u:=λc u hu=>by rw[<-Z,bc]at hu;exact hu
 have hS:∀W,St (λb=>sr.row=some b) w W->W.cell? ⟨N,m*7,none⟩=some v0/\W.cell? ⟨N,m*7+1,none⟩=some v1/\W.cell? ⟨N,m*7+2,none⟩=some v2/\W.cell? ⟨N,m*7+3,none⟩=some v3/\W.cell? ⟨N,m*7+4,none⟩=some v4/\W.cell? ⟨N,m*7+5,none⟩=some v5/\W.cell? ⟨N,m*7+6,none⟩=some v6:=λW hW=>⟨a3 W hW _ _ (a0 0 _ rfl),a3 W hW _ _ (a0 1 _ rfl),a3 W hW _ _ (a0 2 _ rfl),a3 W hW _ _ (a0 3 _ rfl),a3 W hW _ _ (a0 4 _ rfl),a3 W hW _ _ (a0 5 _ rfl),a3 W hW _ _ (a0 6 _ rfl)⟩
 have f1:(4:Int)<(m:Int)+1:=oM
 have f0:(m:Int)<=(I:Int):=oM
 have f5:(m:Int)<(m:Int)+1:=oM
 have e6:(I:Int)<=9223372036854775807:=by unfold maxLen at c0;omega
 have f3:IntKind.i64.wrap ((m:Int)+1)=(m:Int)+1:=by rw[ey];omega
 have c1:∀W,St (λb=>sr.row=some b) w W->Calls prog 80 #[.slice (some ⟨N,0,none⟩) m I] W (Qfs P1 W):=λW hW=>
  b6 W ⟨some ⟨N,0,none⟩,I⟩ (hW.mono λi _ hi=>.inr hi) (Qsh ((fP (Qln (s:=⟨some ⟨N,0,none⟩,I⟩) hL hW (λb hb=>a7 b hb))).mono λi hi=>hi.2) oM)
 have a6:∀W vb,Ext w W->Blk W vb 78 #[v0,v1,v2,v3,v4,v5,v6]->w.heap.size<=vb->Calls prog 78 #[.slice sr.a nr sr.c,.int .i64 0,.slice (some ⟨vb,0,none⟩) 1 1] W (Qev base sr nr 0 rs [v0,v1,v2,v3,v4,v5,v6] W):=λW vb hW hv f7=>
  Qma (Qln hR (hW.st (λ_=>False)) (λ_ _ h=>h)) (an hb hW.size) oM (aA _) rfl hv (λe=>by have:=a8 vb e;omega) (λu hu=>b5 u (aM (Z▸hu))) c2
 obtain⟨HS,d6,d8,HI,c4,HL⟩:=Yg hS c1 c3 a6 b4 Z;clear hS c1 b6 c3 a6 b4 Z a0 a3 b5 c2 hL hR a4 a7;go_in;go_wp2_with fail;have s0:=(fQ (λb=>sr.row=some b) w).drew;have k0:=HS.o _ s0;have e0:=(fI w).drew;have sA:=((((fI w).alloc #[v0,v1,v2,v3,v4,v5,v6] 78).drew).st (λb=>sr.row=some b));have d3:=hY (show Blk (w.alloc (.cells #[v0,v1,v2,v3,v4,v5,v6] 78)).drew w.heap.size 78 #[v0,v1,v2,v3,v4,v5,v6]from fK w 78 _);go_region_held3 (λW=>W.cell? ⟨N,m*7,none⟩=some v0/\W.cell? ⟨N,m*7+1,none⟩=some v1/\W.cell? ⟨N,m*7+2,none⟩=some v2/\W.cell? ⟨N,m*7+3,none⟩=some v3/\W.cell? ⟨N,m*7+4,none⟩=some v4/\W.cell? ⟨N,m*7+5,none⟩=some v5/\W.cell? ⟨N,m*7+6,none⟩=some v6) (first |(with_reducible exact HS.o _ s0) |(with_reducible exact HS.o _ (s0.alloc _ _)) |(with_reducible exact HS.o _ s1) |(with_reducible exact HS.o _ (s1.alloc _ _)) |(with_reducible exact HS.o _ s2) |(with_reducible exact HS.o _ b8) |(with_reducible exact HS.o _ sA)|go_keep)
  (first
    |(go_at_call_of 80 (Value.slice (some ⟨N,0,none⟩) m I);refine(d6.o _ (by first|exact s0|exact s0.alloc _ _)).mono ?_;rintro e w1 ⟨a1,rfl,c7,b3,a9⟩;have s1:=(show St (λb=>sr.row=some b) w _ from by first|exact s0|exact s0.alloc _ _).ext a9;have e1:=(show Ext w _ from by first|exact e0|exact e0.alloc _ _).trans a9;have c8:=hY b3;clear b3)
    |(go_at_call 78;refine(HI.o _ _ (by first |(with_reducible exact e1)|exact e1.alloc _ _) (by first|exact(fK _ _ _)|exact Blk.ext d3.o a9) (by first|exact e1.size|exact ao _)).mono ?_;rintro e w2 ⟨s3,rfl,b0,a5,d5⟩;have e2:=(show St (Qds ⟨some ⟨N,0,none⟩,I⟩ sr) w1 w2 from by first|exact(a5.st λi hi=>.inr hi)|exact(((fI w1).alloc _ _).st _).trans (a5.st λi hi=>.inr hi));have s2:=s1.trans (show St (λb=>sr.row=some b) w1 w2 from by first|exact(a5.st λi hi=>hi)|exact(((fI w1).alloc _ _).st _).trans (a5.st λi hi=>hi));have d0:=hY b0;clear b0 a5 d5)
    |(go_at_call 80;refine(d8.o w2 s3 (s2.mono λi _ hi=>.inr hi) ?_).mono ?_;(have h:=fP d0.o;simp only[Nat.zero_mul,List.take_zero,List.nil_append,List.drop_zero]at h;rw[<-HL.o]at h;exact h.mono λi hi=>hi.2);rintro e w3 ⟨a2,rfl,d7,b9,b7⟩;have b8:=s2.ext b7;have e3:=hY b9;clear b9))
 all_goals
  go_wp2_with fail;go_ret2;have f2:=s1.size;have c6:=s2.size;refine⟨a1,a2,rfl,?_,an c6 d7,c4.o a1 w1 w3 (s1.mono λi _ hi=>.inr hi) c8.o (e2.ext b7),e3.o,b8.mono λi _ hi=>.inr hi⟩;simp only[World.size_alloc,World.size_drew]at c7;omega
end
theorem Quf{rs:List Value}(hl:rs.length=n*7)(hn:0<n)(hp:True):∃v0 I v2 Z v4 N v6:Value,rs.take 7=[v0,I,v2,Z,v4,N,v6]:=by
 have h:(rs.take 7).length=7:=by rw[av,hl];omega
 match hd:rs.take 7,h with
 |[v0,I,v2,Z,v4,N,v6],_=>exact⟨v0,I,v2,Z,v4,N,v6,rfl⟩
section
variable{w : World}{base nl m : Nat}{sl sr : Sl}{ls rs : List Value}{P1 P2 : Nat -> World -> Prop}
theorem Qlp(hL:w.ownsRow base 78 7 (.slice sl.a nl sl.c) nl ls)(hR:w.ownsRow base 78 7 (.slice sr.a (m+1) sr.c) (m+1) rs)(hb:base<=w.heap.size)(b8:∀b,sl.row=some b->sr.row≠some b)
  (b0:∀u∈ls,u.oneCell'=true) (c0:∀u∈rs,u.oneCell'=true) (d5:True) (h4:nl<=4) (h5:4<m+1) (h8:m+1<=8)
  (b3:∀(W:World) (s:Sl),St (Qds sl sr) w W->Rd W (Lt W) 7 s (nl+1) (ls++rs.take 7)->Calls prog 80 #[.slice s.a (nl+1) s.c] W (Qfs P1 W))
  (c1:∀(W:World) (s:Sl),St (Qds sl sr) w W->Rd W (Lt W) 7 s m (rs.drop 7)->Calls prog 80 #[.slice s.a m s.c] W (Qfs P2 W))
  (a9:∀a W W',St (Qds sl sr) w W->P1 a W->St (Qds sl sr) W W'->P1 a W') :
  Calls prog 146 #[.slice sl.a nl sl.c,.slice sr.a (m+1) sr.c,.func (.func 80) #[] #[]] w λe w'=>∃a b,e=.returned (.tuple #[.pointer (some ⟨a,0,none⟩),.pointer (some ⟨b,0,none⟩)])/\w.heap.size<=a/\w.heap.size<=b/\P1 a w'/\P2 b w'/\St (Qds sl sr) w w':=by
 obtain⟨i0,hi,c8,f0,c9⟩:=eE Tryz.Qa8;obtain⟨v0,v1,v2,v3,v4,v5,v6,N⟩:=Quf hR.1 oM d5;obtain⟨I,Z,rfl,g4,f5,b7,a5⟩:=QaJ hR oM;have f3:I<w:=a5.lt;have a6:∀b,sl.row=some b->b≠I:=λb hb e=>b8 b hb (by simp[Sl.row,e])
 have c2:Rd w (λb=>b=I) 7 ⟨some ⟨I,0,none⟩,Z⟩ (m+1) rs:=by
  obtain⟨b,o,h1,h2,h3⟩:=fP hR;obtain⟨e1,e3,d8⟩:=h1.eq oM;obtain⟨rfl,rfl⟩:I=b/\0=o:=by simpa using e1
  exact⟨I,0,.some _ _ _ _ e3 d8 rfl,h2,h3⟩
 have a0:∀W,St (λb=>sl.row=some b) w W->∀j u,rs[j]? = some u->W.cell? ⟨I,j,none⟩=some u:=λW hW j u hj=>by
  obtain⟨b,o,h1,h2,h3⟩:=fP hR;obtain⟨e1,-,-⟩:=h1.eq oM;obtain⟨rfl,rfl⟩:I=b/\0=o:=by simpa using e1
  have:=h3 j u hj;rw[aD]at this;exact(hW.cell f3 (λe=>a6 I e rfl)).trans this
 have a3:∀(c:Nat) (u:Value),([v0,v1,v2,v3,v4,v5,v6]:List Value)[c]? = some u->rs[c]? = some u:=λc u hu=>by
  rw[<-N,be]at hu;split at hu
  .exact hu
  cases hu
 have hS:∀W,St (λb=>sl.row=some b) w W->W.cell? ⟨I,0,none⟩=some v0/\W.cell? ⟨I,1,none⟩=some v1/\W.cell? ⟨I,2,none⟩=some v2/\W.cell? ⟨I,3,none⟩=some v3/\W.cell? ⟨I,4,none⟩=some v4/\W.cell? ⟨I,5,none⟩=some v5/\W.cell? ⟨I,6,none⟩=some v6:=λW hW=>⟨a0 W hW _ _ (a3 0 _ rfl),a0 W hW _ _ (a3 1 _ rfl),a0 W hW _ _ (a3 2 _ rfl),a0 W hW _ _ (a3 3 _ rfl),a0 W hW _ _ (a3 4 _ rfl),a0 W hW _ _ (a3 5 _ rfl),a0 W hW _ _ (a3 6 _ rfl)⟩
 have f8:¬(4:Int)<(nl:Int):=oM
 have f7:(4:Int)<(m:Int)+1:=oM
 have g7:(0:Int)<(m:Int)+1:=oM
 have g3:(1:Int)<=(m:Int)+1:=oM
 have g5:¬Z=1:=oM
 have f9:IntKind.i64.wrap ((m:Int)+1)=(m:Int)+1:=by rw[ey];omega
 have f6:(Z:Int)<=9223372036854775807:=by unfold maxLen at b7;omega
 have g0:(m:Int)+1<=(Z:Int):=oM
 have f1:nl+1<=maxLen:=by unfold maxLen;omega
 have f4:(nl+1)*104<=140737488355328:=oM
 have a7:∀W,Ext w W->W.ownsRow base 78 7 (.slice sl.a nl sl.c) nl ls:=λW hW=>Qln hL (hW.st (λ_=>False)) (λ_ _ h=>h)
 have b5:∀W,St (λb=>sl.row=some b) w W->Calls prog 80 #[.slice (some ⟨I,7,none⟩) m (Z-1)] W (Qfs P2 W):=λW hW=>by
  refine c1 W ⟨some ⟨I,7,none⟩,Z-1⟩ (hW.mono λi _ hi=>.inl hi) ?_;have h:=((c2.agree (hW.agree.mono λi (hi:i=I)=>⟨oM,λe=>a6 i e hi⟩)).drop (m:=1) oM).mono (G:=Lt W) λi (hi:i=I)=>by have:=hW.size;show i<_;omega
  simpa using h
 obtain⟨HS,e6,e8,c6,HF,c3,g6⟩:=Yh hS b3 b5 a9 N a7 b0;have e4:Yd (∀u∈([v0,v1,v2,v3,v4,v5,v6]:List Value),u.oneCell'=true):=hY λu hu=>c0 u (ba (N▸hu))
 clear hS b5 b3 c1 a9 N a0 a3 b0 c0 hL hR a5 b8 a6 a7 c2;go_in;go_wp2_with fail;have s0:=(fQ (λb=>sl.row=some b) w).drew;have e0:=(fI w).drew;have sA:=((((fI w).alloc #[v0,v1,v2,v3,v4,v5,v6] 78).drew).st (λb=>sl.row=some b));have k0:=HS.o _ s0;have e2:=hY (show Blk (w.alloc (.cells #[v0,v1,v2,v3,v4,v5,v6] 78)).drew w.heap.size 78 #[v0,v1,v2,v3,v4,v5,v6]from fK w 78 _);go_region_held3 (λW=>W.cell? ⟨I,0,none⟩=some v0/\W.cell? ⟨I,1,none⟩=some v1/\W.cell? ⟨I,2,none⟩=some v2/\W.cell? ⟨I,3,none⟩=some v3/\W.cell? ⟨I,4,none⟩=some v4/\W.cell? ⟨I,5,none⟩=some v5/\W.cell? ⟨I,6,none⟩=some v6) (first |(with_reducible exact HS.o _ s0) |(with_reducible exact HS.o _ sA) |(with_reducible exact HS.o _ s1) |(with_reducible exact HS.o _ s2) |(with_reducible exact HS.o _ s3)|go_keep)
  (first
    |(refine Qdi _ rfl (.tmp 35) (.tmp 39) 41 rfl base 78 i0 _ 7 104 underlying41 hi c8 f0 c9 rfl oN sl nl ls (by rfl) (c3.o _ (((fI w).alloc _ _).drew)) (λb=>b=w.heap.size) ⟨some ⟨w,0,none⟩,1⟩ 1 [v0,v1,v2,v3,v4,v5,v6] (by rfl) (fU e2.o oN rfl) e4.o f1 f4 (by rw[ff,ew];omega) ?_;intro sx w1 a4 b6 c7;have s1:=sA.trans (b6.st λi hi=>hi);have d6:=hY a4;clear a4 c7)
    |(go_at_call 80;refine(e8.o w2 s2).mono ?_;rintro e w3 ⟨a2,rfl,e7,b9,b4⟩;have s3:=s2.ext b4;have f2:=hY b9;clear b9)
    |(go_at_call 80;refine(e6.o w1 sx (s1.mono λi _ hi=>.inl hi) ?_).mono ?_;(have h:=fP d6.o;rw[<-HF.o]at h;exact h.mono λi hi=>hi.2);rintro e w2 ⟨a1,rfl,d3,a8,c4⟩;have s2:=s1.ext c4;have d4:=hY a8;clear a8))
 all_goals
  go_wp2_with fail;go_ret2;have d7:=s1.size;have d0:=s2.size;exact⟨a1,a2,rfl,an d7 d3,an d0 e7,c6.o a1 w2 w3 (s2.mono λi _ hi=>.inl hi) d4.o (b4.st _),f2.o,s3.mono λi _ hi=>.inl hi⟩
theorem QnC{nr:Nat}(hL:w.ownsRow base 78 7 (.slice sl.a nl sl.c) nl ls)(hR:w.ownsRow base 78 7 (.slice sr.a nr sr.c) nr rs)(hb:base<=w.heap.size)
  (a0:∀u∈rs,u.oneCell'=true) (h4:nl<=4) (r4:nr<=4)
  (a2:∀(W:World) (s:Sl),St (Qds sl sr) w W->Rd W (Lt W) 7 s (nl+nr) (ls++rs)->Calls prog 80 #[.slice s.a (nl+nr) s.c] W (Qfs P1 W)) :
  Calls prog 146 #[.slice sl.a nl sl.c,.slice sr.a nr sr.c,.func (.func 80) #[] #[]] w λe w'=>∃a,e=.returned (.tuple #[.pointer (some ⟨a,0,none⟩),.pointer none])/\w.heap.size<=a/\P1 a w'/\St (Qds sl sr) w w':=by
 obtain⟨i0,hi,a6,a8,a7⟩:=eE Tryz.Qa8;have b5:¬(4:Int)<(nl:Int):=oM
 have b4:¬(4:Int)<(nr:Int):=oM
 have b0:nl+nr<=maxLen:=by unfold maxLen;omega
 have b3:(nl+nr)*104<=140737488355328:=oM
 obtain⟨a5,HR,HL,H1⟩:=Ye a2 (fP hR) hL a0;clear a2 hR hL a0;go_in;go_wp2_with(at_builtin;refine Qak _ rfl (.tmp 47) (.tmp 48) 41 rfl base 78 i0 _ 7 104 underlying41 hi a6 a8 a7 rfl oN sl nl ls rfl HL.o (In base w.heap.size) sr nr rs rfl HR.o H1.o b0 b3 hb ?_;intro sx w1 I N a4);have s1:St (λb=>sl.row=some b) w w1:=N.st λi hi=>hi
 refine(a5.o w1 sx (s1.mono λi _ hi=>.inl hi) ((fP I).mono λi hi=>hi.2)).mono ?_;rintro e w2 ⟨a1,rfl,a9,Z,a3⟩;have HP:=hY Z;clear Z I N a4;go_wp2_with fail;go_ret2;exact⟨a1,rfl,an s1.size a9,HP.o,(s1.ext a3).mono λi _ hi=>.inl hi⟩
end
abbrev Qdt(sl sr:Sl):Nat->Prop:=λb=>sl.row=some b\/sr.row=some b
def Qft(P:Nat->World->Prop)(W:World)(e:Ending)(W':World):Prop:=∃a,e=.returned (.pointer (some ⟨a,0,none⟩))/\W.heap.size<=a/\P a W'/\Ext W W'
theorem Qlo{base n:Nat}{xs:List Value}(h:w.ownsRow base 46 1 (.slice s.a n s.c) n xs)(hs:St G w W)(N:∀b,s.row=some b->¬G b):W.ownsRow base 46 1 (.slice s.a n s.c) n xs:=
 Qab h hs.agree λb I=>⟨(Qad h I).2,N b I⟩
theorem Qsi{n m:Nat}(h:Rd w F 1 s n cs)(I:m<=n):Rd w F 1 s m (cs.take (m*1)):=h.take I
theorem Qvn{ls:List Value}(N:ls.length=n*1)(hn:0<n)(Z:∀u∈ls,∃p,u=Value.pointer p):∃v0:Option Addr,ls.drop ((n-1)*1)=[.pointer v0]:=by
 have h:(ls.drop ((n-1)*1)).length=1:=by rw[aw,N];omega
 match hd:ls.drop ((n-1)*1),h with
 |[x],_=>obtain⟨p,I⟩:=Z x (aM (by rw[hd];exact aX.2 rfl));exact⟨p,by rw[I]⟩
section
variable{w : World}{base m nr : Nat}{sl sr : Sl}{ls rs : List Value}{P1 P2 : Nat -> World -> Prop}
theorem QnF(hL:w.ownsRow base 46 1 (.slice sl.a (m+1) sl.c) (m+1) ls)(hR:w.ownsRow base 46 1 (.slice sr.a nr sr.c) nr rs)(hb:base<=w.heap.size)(a4:∀b,sl.row=some b->sr.row≠some b)
  (b3:∀u∈ls,u.oneCell'=true) (c1:∀u∈rs,u.oneCell'=true) (c8:∀u∈ls,∃p,u=Value.pointer p) (h4:4<m+1) (h8:m+1<=8) (r8:nr<=8)
  (b4:∀(W:World) (s:Sl),St (Qdt sl sr) w W->Rd W (Lt W) 1 s m (ls.take (m*1))->Calls prog 54 #[.slice s.a m s.c] W (Qft P1 W))
  (c2:∀(W:World) (s:Sl),St (Qdt sl sr) w W->Rd W (Lt W) 1 s (nr+1) (ls.drop (m*1)++rs)->Calls prog 54 #[.slice s.a (nr+1) s.c] W (Qft P2 W))
  (b0:∀a W W',St (Qdt sl sr) w W->P1 a W->St (Qdt sl sr) W W'->P1 a W') :
  Calls prog 147 #[.slice sl.a (m+1) sl.c,.slice sr.a nr sr.c,.func (.func 54) #[] #[]] w λe w'=>∃a b,e=.returned (.tuple #[.pointer (some ⟨a,0,none⟩),.pointer (some ⟨b,0,none⟩)])/\w.heap.size<=a/\w.heap.size<=b/\P1 a w'/\P2 b w'/\St (Qdt sl sr) w w':=by
 obtain⟨i0,hi,e6,f5,e7⟩:=eE Tryz.Qbg;obtain⟨v0,N⟩:=Qvn hL.1 oM c8;rw[Nat.add_sub_cancel]at N;obtain⟨gl,I,rfl,f3,e3,b9,Z⟩:=QaJ hL oM;have d3:gl<w:=Z.lt;have a5:∀b,sr.row=some b->b<w.heap.size:=λb hb=>(Qad hR hb).2
 have b7:∀W,St (λb=>sr.row=some b) w W->∀j u,ls[j]? = some u->W.cell? ⟨gl,j,none⟩=some u:=λW hW j u hj=>by
  obtain⟨b,o,h1,h2,h3⟩:=fP hL;obtain⟨e1,-,-⟩:=h1.eq oM;obtain⟨rfl,rfl⟩:gl=b/\0=o:=by simpa using e1
  have:=h3 j u hj;rw[aD]at this;exact(hW.cell d3 (a4 gl rfl)).trans this
 have a7:∀(c:Nat) (u:Value),([.pointer v0]:List Value)[c]? = some u->ls[m*1+c]? = some u:=λc u hu=>by rw[<-N,bc]at hu;exact hu
 have hS:∀W,St (λb=>sr.row=some b) w W->W.cell? ⟨gl,m,none⟩=some (.pointer v0):=λW hW=>by have:=b7 W hW _ _ (a7 0 _ rfl);simpa using this
 have f0:(4:Int)<(m:Int)+1:=oM
 have e8:(m:Int)<=(I:Int):=oM
 have f4:(m:Int)<(m:Int)+1:=oM
 have e4:(I:Int)<=9223372036854775807:=by unfold maxLen at b9;omega
 have f2:IntKind.i64.wrap ((m:Int)+1)=(m:Int)+1:=by rw[ey];omega
 have c0:∀W,St (λb=>sr.row=some b) w W->Calls prog 54 #[.slice (some ⟨gl,0,none⟩) m I] W (Qft P1 W):=λW hW=>
  b4 W ⟨some ⟨gl,0,none⟩,I⟩ (hW.mono λi _ hi=>.inr hi) (Qsi ((fP (Qlo (s:=⟨some ⟨gl,0,none⟩,I⟩) hL hW (λb hb=>a4 b hb))).mono λi hi=>hi.2) oM)
 have a3:∀W vb,Ext w W->Blk W vb 46 #[.pointer v0]->w.heap.size<=vb->Calls prog 81 #[.slice sr.a nr sr.c,.int .i64 0,.slice (some ⟨vb,0,none⟩) 1 1] W (Qew base sr nr 0 rs [.pointer v0] W):=λW vb hW hv f6=>
  Qmb (Qlo hR (hW.st (λ_=>False)) (λ_ _ h=>h)) (an hb hW.size) oM (aA _) rfl hv (λe=>by have:=a5 vb e;omega) (λu hu=>b3 u (aM (N▸hu))) c1
 obtain⟨HS,d5,d7,HI,c3,HL⟩:=Yg hS c0 c2 a3 b0 N;clear hS c0 b4 c2 a3 b0 N a7 b7 b3 c1 hL hR Z a4;go_in;go_wp2_with fail;have s0:=(fQ (λb=>sr.row=some b) w).drew;have k0:=HS.o _ s0;have e0:=(fI w).drew;have sA:=((((fI w).alloc #[.pointer v0] 46).drew).st (λb=>sr.row=some b));have d0:=hY (show Blk (w.alloc (.cells #[.pointer v0] 46)).drew w.heap.size 46 #[.pointer v0]from fK w 46 _);go_region_held3 (λW=>W.cell? ⟨gl,m,none⟩=some (.pointer v0)) (first |(with_reducible exact HS.o _ s0) |(with_reducible exact HS.o _ (s0.alloc _ _)) |(with_reducible exact HS.o _ s1) |(with_reducible exact HS.o _ (s1.alloc _ _)) |(with_reducible exact HS.o _ s2) |(with_reducible exact HS.o _ b6) |(with_reducible exact HS.o _ sA)|go_keep)
  (first
    |(go_at_call_of 54 (Value.slice (some ⟨gl,0,none⟩) m I);refine(d5.o _ (by first|exact s0|exact s0.alloc _ _)).mono ?_;rintro e w1 ⟨a1,rfl,c6,a9,a6⟩;have s1:=(show St (λb=>sr.row=some b) w _ from by first|exact s0|exact s0.alloc _ _).ext a6;have e1:=(show Ext w _ from by first|exact e0|exact e0.alloc _ _).trans a6;have c7:=hY a9;clear a9)
    |(go_at_call 81;refine(HI.o _ _ (by first |(with_reducible exact e1)|exact e1.alloc _ _) (by first|exact(fK _ _ _)|exact Blk.ext d0.o a6) (by first|exact e1.size|exact ao _)).mono ?_;rintro e w2 ⟨s3,rfl,a8,a0,d4⟩;have d8:=(show St (Qdt ⟨some ⟨gl,0,none⟩,I⟩ sr) w1 w2 from by first|exact(a0.st λi hi=>.inr hi)|exact(((fI w1).alloc _ _).st _).trans (a0.st λi hi=>.inr hi));have s2:=s1.trans (show St (λb=>sr.row=some b) w1 w2 from by first|exact(a0.st λi hi=>hi)|exact(((fI w1).alloc _ _).st _).trans (a0.st λi hi=>hi));have c9:=hY a8;clear a8 a0 d4)
    |(go_at_call 54;refine(d7.o w2 s3 (s2.mono λi _ hi=>.inr hi) ?_).mono ?_;(have h:=fP c9.o;simp only[Nat.zero_mul,List.take_zero,List.nil_append,List.drop_zero]at h;rw[<-HL.o]at h;exact h.mono λi hi=>hi.2);rintro e w3 ⟨a2,rfl,d6,b8,b5⟩;have b6:=s2.ext b5;have e2:=hY b8;clear b8))
 all_goals
  go_wp2_with fail;go_ret2;have f1:=s1.size;have c4:=s2.size;refine⟨a1,a2,rfl,?_,an c4 d6,c3.o a1 w1 w3 (s1.mono λi _ hi=>.inr hi) c7.o (d8.ext b5),e2.o,b6.mono λi _ hi=>.inr hi⟩;simp only[World.size_alloc,World.size_drew]at c6;omega
end
theorem Qug{rs:List Value}(N:rs.length=n*1)(hn:0<n)(Z:∀u∈rs,∃p,u=Value.pointer p):∃v0:Option Addr,rs.take 1=[.pointer v0]:=by
 have h:(rs.take 1).length=1:=by rw[av,N];omega
 match hd:rs.take 1,h with
 |[x],_=>obtain⟨p,I⟩:=Z x (ba (by rw[hd];exact aX.2 rfl));exact⟨p,by rw[I]⟩
section
variable{w : World}{base nl m : Nat}{sl sr : Sl}{ls rs : List Value}{P1 P2 : Nat -> World -> Prop}
theorem Qlq(hL:w.ownsRow base 46 1 (.slice sl.a nl sl.c) nl ls)(hR:w.ownsRow base 46 1 (.slice sr.a (m+1) sr.c) (m+1) rs)(hb:base<=w.heap.size)(b8:∀b,sl.row=some b->sr.row≠some b)
  (a9:∀u∈ls,u.oneCell'=true) (c0:∀u∈rs,u.oneCell'=true) (d5:∀u∈rs,∃p,u=Value.pointer p) (h4:nl<=4) (h5:4<m+1) (h8:m+1<=8)
  (b0:∀(W:World) (s:Sl),St (Qdt sl sr) w W->Rd W (Lt W) 1 s (nl+1) (ls++rs.take 1)->Calls prog 54 #[.slice s.a (nl+1) s.c] W (Qft P1 W))
  (c3:∀(W:World) (s:Sl),St (Qdt sl sr) w W->Rd W (Lt W) 1 s m (rs.drop 1)->Calls prog 54 #[.slice s.a m s.c] W (Qft P2 W))
  (a8:∀a W W',St (Qdt sl sr) w W->P1 a W->St (Qdt sl sr) W W'->P1 a W') :
  Calls prog 147 #[.slice sl.a nl sl.c,.slice sr.a (m+1) sr.c,.func (.func 54) #[] #[]] w λe w'=>∃a b,e=.returned (.tuple #[.pointer (some ⟨a,0,none⟩),.pointer (some ⟨b,0,none⟩)])/\w.heap.size<=a/\w.heap.size<=b/\P1 a w'/\P2 b w'/\St (Qdt sl sr) w w':=by
 obtain⟨i0,hi,c8,f0,c9⟩:=eE Tryz.Qbg;obtain⟨v0,I⟩:=Qug hR.1 oM d5;obtain⟨Z,N,rfl,g4,f5,b6,a3⟩:=QaJ hR oM;have f3:Z<w:=a3.lt;have a4:∀b,sl.row=some b->b≠Z:=λb hb e=>b8 b hb (by simp[Sl.row,e])
 have c1:Rd w (λb=>b=Z) 1 ⟨some ⟨Z,0,none⟩,N⟩ (m+1) rs:=by
  obtain⟨b,o,h1,h2,h3⟩:=fP hR;obtain⟨e1,e3,d8⟩:=h1.eq oM;obtain⟨rfl,rfl⟩:Z=b/\0=o:=by simpa using e1
  exact⟨Z,0,.some _ _ _ _ e3 d8 rfl,h2,h3⟩
 have a7:∀W,St (λb=>sl.row=some b) w W->∀j u,rs[j]? = some u->W.cell? ⟨Z,j,none⟩=some u:=λW hW j u hj=>by
  obtain⟨b,o,h1,h2,h3⟩:=fP hR;obtain⟨e1,-,-⟩:=h1.eq oM;obtain⟨rfl,rfl⟩:Z=b/\0=o:=by simpa using e1
  have:=h3 j u hj;rw[aD]at this;exact(hW.cell f3 (λe=>a4 Z e rfl)).trans this
 have b7:∀(c:Nat) (u:Value),([.pointer v0]:List Value)[c]? = some u->rs[c]? = some u:=λc u hu=>by
  rw[<-I,be]at hu;split at hu
  .exact hu
  cases hu
 have hS:∀W,St (λb=>sl.row=some b) w W->W.cell? ⟨Z,0,none⟩=some (.pointer v0):=λW hW=>a7 W hW _ _ (b7 0 _ rfl)
 have f8:¬(4:Int)<(nl:Int):=oM
 have f7:(4:Int)<(m:Int)+1:=oM
 have g7:(0:Int)<(m:Int)+1:=oM
 have g3:(1:Int)<=(m:Int)+1:=oM
 have g5:¬N=1:=oM
 have f9:IntKind.i64.wrap ((m:Int)+1)=(m:Int)+1:=by rw[ey];omega
 have f6:(N:Int)<=9223372036854775807:=by unfold maxLen at b6;omega
 have g0:(m:Int)+1<=(N:Int):=oM
 have f1:nl+1<=maxLen:=by unfold maxLen;omega
 have f4:(nl+1)*8<=140737488355328:=oM
 have a5:∀W,Ext w W->W.ownsRow base 46 1 (.slice sl.a nl sl.c) nl ls:=λW hW=>Qlo hL (hW.st (λ_=>False)) (λ_ _ h=>h)
 have b4:∀W,St (λb=>sl.row=some b) w W->Calls prog 54 #[.slice (some ⟨Z,1,none⟩) m (N-1)] W (Qft P2 W):=λW hW=>by
  refine c3 W ⟨some ⟨Z,1,none⟩,N-1⟩ (hW.mono λi _ hi=>.inl hi) ?_;have h:=((c1.agree (hW.agree.mono λi (hi:i=Z)=>⟨oM,λe=>a4 i e hi⟩)).drop (m:=1) oM).mono (G:=Lt W) λi (hi:i=Z)=>by have:=hW.size;show i<_;omega
  simpa using h
 obtain⟨HS,e6,e8,c6,HF,c2,g6⟩:=Yh hS b0 b4 a8 I a5 a9;have e4:Yd (∀u∈([.pointer v0]:List Value),u.oneCell'=true):=hY λu hu=>c0 u (ba (I▸hu))
 clear hS b4 b0 c3 a8 I a7 b7 a9 c0 hL hR a3 b8 a4 a5 c1;go_in;go_wp2_with fail;have s0:=(fQ (λb=>sl.row=some b) w).drew;have e0:=(fI w).drew;have sA:=((((fI w).alloc #[.pointer v0] 46).drew).st (λb=>sl.row=some b));have k0:=HS.o _ s0;have e2:=hY (show Blk (w.alloc (.cells #[.pointer v0] 46)).drew w.heap.size 46 #[.pointer v0]from fK w 46 _);go_region_held3 (λW=>W.cell? ⟨Z,0,none⟩=some (.pointer v0)) (first |(with_reducible exact HS.o _ s0) |(with_reducible exact HS.o _ sA) |(with_reducible exact HS.o _ s1) |(with_reducible exact HS.o _ s2) |(with_reducible exact HS.o _ s3)|go_keep)
  (first
    |(refine Qdi _ rfl (.tmp 35) (.tmp 39) 108 rfl base 46 i0 _ 1 8 underlying108 hi c8 f0 c9 rfl oN sl nl ls (by rfl) (c2.o _ (((fI w).alloc _ _).drew)) (λb=>b=w.heap.size) ⟨some ⟨w,0,none⟩,1⟩ 1 [.pointer v0] (by rfl) (fU e2.o oN rfl) e4.o f1 f4 (by rw[ff,ew];omega) ?_;intro sx w1 a0 b5 c7;have s1:=sA.trans (b5.st λi hi=>hi);have d6:=hY a0;clear a0 c7)
    |(go_at_call 54;refine(e8.o w2 s2).mono ?_;rintro e w3 ⟨a2,rfl,e7,b9,b3⟩;have s3:=s2.ext b3;have f2:=hY b9;clear b9)
    |(go_at_call 54;refine(e6.o w1 sx (s1.mono λi _ hi=>.inl hi) ?_).mono ?_;(have h:=fP d6.o;rw[<-HF.o]at h;exact h.mono λi hi=>hi.2);rintro e w2 ⟨a1,rfl,d3,a6,c4⟩;have s2:=s1.ext c4;have d4:=hY a6;clear a6))
 all_goals
  go_wp2_with fail;go_ret2;have d7:=s1.size;have d0:=s2.size;exact⟨a1,a2,rfl,an d7 d3,an d0 e7,c6.o a1 w2 w3 (s2.mono λi _ hi=>.inl hi) d4.o (b3.st _),f2.o,s3.mono λi _ hi=>.inl hi⟩
theorem QnE{nr:Nat}(hL:w.ownsRow base 46 1 (.slice sl.a nl sl.c) nl ls)(hR:w.ownsRow base 46 1 (.slice sr.a nr sr.c) nr rs)(hb:base<=w.heap.size)
  (a0:∀u∈rs,u.oneCell'=true) (h4:nl<=4) (r4:nr<=4)
  (a2:∀(W:World) (s:Sl),St (Qdt sl sr) w W->Rd W (Lt W) 1 s (nl+nr) (ls++rs)->Calls prog 54 #[.slice s.a (nl+nr) s.c] W (Qft P1 W)) :
  Calls prog 147 #[.slice sl.a nl sl.c,.slice sr.a nr sr.c,.func (.func 54) #[] #[]] w λe w'=>∃a,e=.returned (.tuple #[.pointer (some ⟨a,0,none⟩),.pointer none])/\w.heap.size<=a/\P1 a w'/\St (Qdt sl sr) w w':=by
 obtain⟨i0,hi,a6,a8,a7⟩:=eE Tryz.Qbg;have b5:¬(4:Int)<(nl:Int):=oM
 have b4:¬(4:Int)<(nr:Int):=oM
 have b0:nl+nr<=maxLen:=by unfold maxLen;omega
 have b3:(nl+nr)*8<=140737488355328:=oM
 obtain⟨a5,HR,HL,H1⟩:=Ye a2 (fP hR) hL a0;clear a2 hR hL a0;go_in;go_wp2_with(at_builtin;refine Qak _ rfl (.tmp 47) (.tmp 48) 108 rfl base 46 i0 _ 1 8 underlying108 hi a6 a8 a7 rfl oN sl nl ls rfl HL.o (In base w.heap.size) sr nr rs rfl HR.o H1.o b0 b3 hb ?_;intro sx w1 I N a4);have s1:St (λb=>sl.row=some b) w w1:=N.st λi hi=>hi
 refine(a5.o w1 sx (s1.mono λi _ hi=>.inl hi) ((fP I).mono λi hi=>hi.2)).mono ?_;rintro e w2 ⟨a1,rfl,a9,Z,a3⟩;have HP:=hY Z;clear Z I N a4;go_wp2_with fail;go_ret2;exact⟨a1,rfl,an s1.size a9,HP.o,(s1.ext a3).mono λi _ hi=>.inl hi⟩
end
end Go.Proofs.YtdiecmkpbadgjaaGreatDoor
