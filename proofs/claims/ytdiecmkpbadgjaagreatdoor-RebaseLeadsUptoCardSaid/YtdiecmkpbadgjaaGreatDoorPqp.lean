/- What the theorem needs of the texts Two24, Same9, Alike, Apply, TSame: no condition of its own. -/
import Derived.Test.YtdiecmkpbadgjaaGreatDoorPqo
set_option linter.unusedVariables false
set_option linter.unusedSimpArgs false
set_option linter.unnecessarySimpa false
set_option maxRecDepth 100000
set_option maxHeartbeats 8000000
namespace Go.Proofs.YtdiecmkpbadgjaaGreatDoor
open Go.Proofs.Tryz
open Go.RowKit Go.Maps Go.Shelf
variable{P:Program}{Q:Exit->Act->World->Prop}{a:Act}{w:World}
theorem Qz4{α:Type}{c:Code}(N:World->α->Prop)(Z:List Nat)(last:α->List (Nat × Value))
  (h1:c.wp P (QuH λI w'=>∃x,N w' x/\I.defers=a.defers/\I.tmps=QnK a.tmps ((Z.map λd=>(d,I.tmps.getD d undef))++last x)) a w)
  (h2:∀(w':World) (x:α) (vs:Nat->Value),N w' x->Q .normal { tmps:=QnK a.tmps ((Z.map λd=>(d,vs d))++last x),defers:=a.defers } w'):c.wp P Q a w:=
 wp_mono h1 λe I w' h=>by
  cases e with
  | normal=>
    obtain⟨x,hr,hd,ht⟩:=h;have:=h2 w' x (λd=>I.tmps.getD d undef) hr;rw[<-ht,<-hd]at this;exact this
  |_=>exact h.elim
variable{w1:World}{s0 s:Sl}{H:Nat->Prop}
theorem QzN{l xs:List LE}{M:Nat}(h:Qwa w l w1 l.length M s xs H)(hs:ES w (Lt w) s0 l)(hl:l.length<=60) :
  ∃E:List Ent,OkM E/\E.length<=60/\MapAt H w1 M E/\∀W,Nw w1 W->Calls prog 15 #[.slice s.a xs.length s.c] W λe w2=>∃T p,e=.returned (.agg #[.pointer p])/\QaK T=.pointer p/\OkR T/\Qaa T=E/\IsT w2 (In W.heap.size w2.heap.size) T/\Ext W w2:=by
 have I:=h.ents;rw[aU]at I;have a0:=Qyr hs;have N:=QxP (l.map LE.ent);rw[ar]at N;rw[<-I]at a0 N;have a1:=h.few;refine⟨_,a0,oM,h.map,λW hW=>(Qx4 ((h.nwS hW).es hs oM) oM).mono ?_⟩;rintro e w2 ⟨T,rfl,Z,hT,hx⟩;obtain⟨p,hp⟩:=Qaj T;exact⟨T,p,by rw[Qao,hp],hp,Z.both.1,Z.both.2,hT,hx⟩
structure QAb(n B m:Nat)(w:World)(E U:List Ent)(L:List Nm)(sL sC:Sl):Prop where
 ex:∃V p,QaK V=.pointer p/\OkR V/\IsT w (λi=>n<=i/\i<w.heap.size/\i≠B) V/\Qaa V=(QbD (Qe6 L) U).2/\OkM (Qaa V)/\Blk w B 48 #[.pointer p]/\∃cs:List CE,cs.length=m/\cs.map CE.c=chg E (Qaa V)/\CS w (λi=>n<=i/\i<w.heap.size/\i≠B) sC cs
 row:Qa7 w (λi=>n<=i/\i<w.heap.size/\i≠B) sL L
 low:n<=B
variable{n B:Nat}{z:Value}{F F':Nat->Prop}
theorem Qz9{E U:List Ent}{L:List Nm}{sL sC:Sl}{V:RT}{p:Option Addr}{cs:List CE}(hp:QaK V=.pointer p)(ok:OkR V)(he:Qaa V=(QbD (Qe6 L) U).2)(hM:OkM (Qaa V))(hV:IsT w F V)(hr:Qa7 w F' sL L)(hc:cs.map CE.c=chg E (Qaa V))(hs:CS w F' sC cs)(hb:Blk w B 48 #[z])(hl:n<=B)
  (hF:∀i,F i->n<=i/\i<w.heap.size/\i≠B) (I:∀i,F' i->n<=i/\i<w.heap.size/\i≠B):QAb n B cs.length (w.setCell ⟨B,0,none⟩ (.pointer p)) E U L sL sC:=by
 have Z (G:Nat->Prop) (hG:∀i,G i->n<=i/\i<w.heap.size/\i≠B):Agree G w (w.setCell ⟨B,0,none⟩ (.pointer p)):=fV w ⟨B,0,none⟩ _ λh=>(hG _ h).2.2 rfl
 have N (G:Nat->Prop) (hG:∀i,G i->n<=i/\i<w.heap.size/\i≠B):∀i,G i->n<=i/\i<(w.setCell ⟨B,0,none⟩ (.pointer p)).heap.size/\i≠B:=by rw[eG];exact hG
 exact⟨⟨V,p,hp,ok,(hV.agree (Z F hF)).mono (N F hF),he,hM,hb.QbH 0 _,cs,rfl,hc,(hs.Qvh (Z F' I)).Quu (N F' I)⟩,(hr.agree (Z F' I)).mono (N F' I),hl⟩
variable{W:World}{T U:RT}
theorem QzZ{p q:Option Addr}{FT FU G:Nat->Prop}{ms:List Nm}{last:Int}(hp:QaK T=.pointer p)(ok:OkR T)(hT:IsT W FT T)(hF:∀b,FT b->b<W.heap.size)(hl:(Qaa T).length<=5000)(hq:QaK U=.pointer q)(h:Qey W FU G U s ms) :
  Calls prog 21 #[.agg #[.pointer p],.agg #[.pointer q],.int .u64 last,.slice s.a ms.length s.c] W λe w'=>∃(V:RT) (p3:Option Addr) (N Z:Sl) (cs:List CE),e=.returned (.tuple #[.agg #[.pointer p3],.slice N.a (QbK last ms).length N.c,.slice Z.a cs.length Z.c])/\QaK V=.pointer p3/\OkR V/\Qaa V=(QbD (Qe6 (QbK last ms)) (Qaa U)).2/\OkM (Qaa V)/\IsT w' (Up FU W w') V/\Qa7 w' (In W.heap.size w'.heap.size) N (QbK last ms)/\cs.map CE.c=chg (Qaa T) (Qaa V)/\CS w' (In W.heap.size w'.heap.size) Z cs/\Nw W w':=by
 have h:=QnA (last:=last) hT hF ok hl h;rw[Qao,Qao,hp,hq]at h;refine h.mono ?_;rintro e w' ⟨V,N,Z,cs,rfl,I⟩;obtain⟨p3,a0⟩:=Qaj V;exact⟨V,p3,N,Z,cs,by rw[Qao,a0],a0,I.ok,I.ents,I.okM,I.tree,I.row,I.chg,I.cs,I.nw⟩
theorem Qz8(h:IsT w F T)(hF:∀b,F b->b<w.heap.size):IsT w.drew F T:=h.agree (((fQ w).drew).agree hF)
theorem CS.at{xs:List CE}(h:CS w F s xs){i:Nat}{x:CE}(N:xs[i]? = some x) :
  ∃b o,s.a=some ⟨b,o,none⟩/\F b/\xs.length<=s.c/\s.c<=maxLen/\CR w F x/\∀c u,x.cells.toList[c]? = some u->w.cell? ⟨b,o+i*15+c,none⟩=some u:=by
 obtain⟨b,o,h1,h2,h3⟩:=h.rd;have hi:i<xs.length:=(ai.1 N).1;obtain⟨e1,Z,e3⟩:=h1.eq oM;refine⟨b,o,e1,h1.fits oM,Z,e3,h.vals x (aq N),λc u hu=>?_⟩;rw[bG];refine h3 _ u ?_;have hc:c<15:=(ai.1 hu).1;have I:QjC xs=QjC (xs.take i)++(x.cells.toList++QjC (xs.drop (i+1))):=by
  have e:xs=xs.take i++x::xs.drop (i+1):=by
   obtain⟨h1,h2⟩:=ai.1 N
   conv=>lhs;rw[<-aX i xs,aG h1,h2]
  conv=>lhs;rw[e]
  simp[QjC]
 have hl:(QjC (xs.take i)).length=i*15:=by rw[QzW,aw,bV (cA hi)]
 rw[I,aM oM,hl,Nat.add_sub_cancel_left,bp (by simpa using hc)];exact hu
variable{sl so sl' so':Sl}
theorem QzG{a b:Bool}{v u:Val}(h:RV w (Lt w) v sl so)(h':RV w (Lt w) u sl' so') :
  Calls prog 51 #[.bool a,QbV v sl so,.bool b,QbV u sl' so'] w λe w'=>e=.returned (.bool (Qzp a v b u))/\Ext w w':=by
 have hs:=λ(W:World) (I:Ext w W)=>Qdk ((h.agree (I.agree λ_ h=>h)).mono λi (hi:i<w)=>ab hi I.size) ((h'.agree (I.agree λ_ h=>h)).mono λi (hi:i<w)=>ab hi I.size)
 obtain⟨d,hd⟩:∃d,decide (Qbq v u=0)=d:=⟨_,rfl⟩;have hr:Qzp a v b u=(decide (a=b)&&(!a||d)):=by rw[Qzp,hd]
 rw[hr];have hS:∀W,Ext w W->Calls prog 49 #[QbV v sl so,QbV u sl' so'] W λe w'=>e=.returned (.bool d)/\Ext W w':=λW I=>by rw[<-hd];exact hs W I
 have HS:=hY hS;have hx:Ext w ((w.alloc (.cells #[.int .i64 v.kind,.bool v.b,.int .i64 v.i,.string v.t,.slice sl.a v.l.length sl.c,.slice so.a v.ok.length so.c] 34)).alloc (.cells #[.int .i64 u.kind,.bool u.b,.int .i64 u.i,.string u.t,.slice sl'.a u.l.length sl'.c,.slice so'.a u.ok.length so'.c] 34)):=((fQ w).alloc _ _).alloc _ _;have Z:=hY hx;clear hs hd hr h h' hS hx;cases a<;>cases b
 ·go_in
  go_wp2_with fail;go_ret;exact⟨rfl,Z.o⟩
 ·go_in
  go_wp2_with fail;go_ret;exact⟨rfl,Z.o⟩
 ·go_in
  go_wp2_with fail;go_ret;exact⟨rfl,Z.o⟩
 go_in;go_wp2_with fail;refine(HS.o _ Z.o).mono ?_;rintro e w1 ⟨rfl,N⟩;have a0:=hY (Z.o.trans N);clear N;cases d
 all_goals
  go_wp2_with fail;go_ret;exact⟨rfl,a0.o⟩
theorem QAc{b p:Nat}{x:CE}(h:∀c u,x.cells.toList[c]? = some u->W.cell? ⟨b,p+c,none⟩=some u) :
  W.cell? ⟨b,p,none⟩=some (.string x.c.k)/\W.cell? ⟨b,p+1,none⟩=some (.bool x.c.had)/\W.cell? ⟨b,p+2,none⟩=some (.int .i64 x.c.was.kind)/\W.cell? ⟨b,p+3,none⟩=some (.bool x.c.was.b)/\W.cell? ⟨b,p+4,none⟩=some (.int .i64 x.c.was.i)/\W.cell? ⟨b,p+5,none⟩=some (.string x.c.was.t)/\W.cell? ⟨b,p+6,none⟩=some (.slice x.slw.a x.c.was.l.length x.slw.c)/\W.cell? ⟨b,p+7,none⟩=some (.slice x.sow.a x.c.was.ok.length x.sow.c)/\
   W.cell? ⟨b,p+8,none⟩=some (.bool x.c.has)/\W.cell? ⟨b,p+9,none⟩=some (.int .i64 x.c.is_.kind)/\W.cell? ⟨b,p+10,none⟩=some (.bool x.c.is_.b)/\W.cell? ⟨b,p+11,none⟩=some (.int .i64 x.c.is_.i)/\W.cell? ⟨b,p+12,none⟩=some (.string x.c.is_.t)/\W.cell? ⟨b,p+13,none⟩=some (.slice x.sli.a x.c.is_.l.length x.sli.c)/\W.cell? ⟨b,p+14,none⟩=some (.slice x.soi.a x.c.is_.ok.length x.soi.c):=
 ⟨h 0 _ rfl,h 1 _ rfl,h 2 _ rfl,h 3 _ rfl,h 4 _ rfl,h 5 _ rfl,h 6 _ rfl,h 7 _ rfl,h 8 _ rfl,h 9 _ rfl,h 10 _ rfl,h 11 _ rfl,h 12 _ rfl,h 13 _ rfl,h 14 _ rfl⟩
theorem Qz3{x:CE}(h:CR w (Lt w) x):Calls prog 50 #[x.agg] w λe w'=>e=.returned (.bool (Qzp x.c.had x.c.was x.c.has x.c.is_))/\Ext w w':=by
 have hS:=λ(W:World) (N:Ext w W)=>QzG (a:=x.c.had) (b:=x.c.has) ((h.was.agree (N.agree λ_ h=>h)).mono λi (hi:i<w)=>ab hi N.size) ((h.is_.agree (N.agree λ_ h=>h)).mono λi (hi:i<w)=>ab hi N.size)
 obtain⟨d,hd⟩:∃d,Qzp x.c.had x.c.was x.c.has x.c.is_=d:=⟨_,rfl⟩;rw[hd]at hS ⊢;obtain⟨HS,HX⟩:=Yb hS ((fQ w).alloc x.cells 92);clear hS hd h;go_in;go_wp2_with fail;refine(HS.o _ HX.o).mono ?_;rintro e w1 ⟨rfl,I⟩;have Z:=hY (HX.o.trans I);clear I;go_wp2_with fail;go_ret;exact⟨rfl,Z.o⟩
def QzP(F:Nat->Prop)(o:Option (List Ent))(w:World)(e:Ending)(w':World):Prop:=
 ∃T':RT,e=.returned (.tuple #[Qao T',.int .i64 (if o.isSome then 0 else 13)])/\OkR T'/\IsT w' (Up F w w') T'/\Qaa T'=o.getD []/\Ext w w'
def NB(F:Nat->Prop)(n:Nat)(w:World)(b:Nat):Prop:=(F b\/n<=b)/\b<w.heap.size/\b≠n/\b≠n+1
variable{j:Nat}
theorem drop_at{α:Type}{l:List α}{x:α}(h:l[j]? = some x):l.drop j=x::l.drop (j+1):=by
 obtain⟨h1,h2⟩:=ai.1 h;rw[aG h1,h2]
theorem QzK(es:List Ent)(c:Chg):(Qzt es c).length<=es.length+1:=by
 unfold Qzt;split
 .rcases QcA es c.k c.is_ with h|h<;>omega
 have:=(Qa3 es c.k).length_le;omega
variable{T':RT}{v0:Value}
theorem QzA{w wr w7 I:World}{N:Option Addr}(hX:Ext w wr)(h7:Ext wr w7)(h8:Ext w7 I)(hT:IsT I (Up (NB F w.heap.size wr) w7 I) T')(hp:QaK T'=.pointer N)(hb:Blk wr w.heap.size 48 #[v0])(Z:Blk wr (w.heap.size+1) 48 #[.pointer none]) :
  IsT (I.setCell ⟨w,0,none⟩ (.pointer N)) (NB F w.heap.size (I.setCell ⟨w,0,none⟩ (.pointer N))) T'/\Blk (I.setCell ⟨w,0,none⟩ (.pointer N)) w.heap.size 48 #[QaK T']/\Blk (I.setCell ⟨w,0,none⟩ (.pointer N)) (w.heap.size+1) 48 #[.pointer none]/\Ext w (I.setCell ⟨w,0,none⟩ (.pointer N)):=by
 have l1:=Z.lt;have s7:=h7.size;have s8:=h8.size;refine⟨(hT.agree (fV I ⟨w,0,none⟩ _ ?_)).mono λi hi=>?_,?_,(Z.ext (h7.trans h8)).far (by show w.heap.size+1≠w.heap.size;omega) _,((hX.trans h7).trans h8).setCell (ao _) _⟩
 ·rintro (hf | hf)
  .exact hf.2.2.1 rfl
  have:w7.heap.size<=w.heap.size:=hf.1;omega
 ·rw [NB,eG]
  rcases hi with hi|hi
  .exact ⟨hi.1,by have:=hi.2.1;omega,hi.2.2⟩
  exact⟨.inr (by have:=hi.1;omega),hi.2,by have:=hi.1;omega,by have:=hi.1;omega⟩
 rw[hp];exact(hb.ext (h7.trans h8)).QbH 0 _
theorem QzR{cs:List CE}(hF:∀b,F b->b<w.heap.size)(hT:IsT w F T)(ok:OkR T)(hs:CS w (Lt w) s cs)(hc:(Qaa T).length+cs.length<=100000) :
  Calls prog 27 #[Qao T,.slice s.a cs.length s.c] w (QzP F (apC (Qaa T) (cs.map CE.c)) w):=by
 obtain⟨p0,e7⟩:=Qaj T;obtain⟨n0,e0⟩:∃n,(Qaa T).length=n:=⟨_,rfl⟩;obtain⟨ap,a2⟩:∃ap,apC (Qaa T) (cs.map CE.c)=ap:=⟨_,rfl⟩;rw[Qao,e7,a2];rw[e0]at hc;obtain⟨HS,H0⟩:=Yb hs (show IsT w F T/\OkR T/\(∀b,F b->b<w.heap.size)/\(Qaa T).length=n0/\apC (Qaa T) (cs.map CE.c)=ap/\QaK T=.pointer p0 from⟨hT,ok,hF,e0,a2,e7⟩);clear hs hT ok hF e7 e0 a2;go_in;go_wp2_with fail;generalize f9:World.alloc (World.alloc _ _) _=W0;obtain⟨g3,i3,i4,g4⟩:=Qas w _ _ _ _ W0 f9;obtain⟨f8,k0,j7,j2⟩:=Ye g3 i4 g4 i3;clear f9 g3 i4 g4 i3;go_loopw[12] (λi wr=>∃(j:Nat) (I:RT),j<=cs.length/\i=.int .i64 j/\OkR I/\IsT wr (NB F w.heap.size wr) I/\apC (Qaa I) ((cs.map CE.c).drop j)=ap/\(Qaa I).length<=n0+j/\Blk wr w.heap.size 48 #[QaK I]/\Blk wr (w.heap.size+1) 48 #[.pointer none]/\Ext w wr) (λi _=>cs.length -(intOf i).toNat)
 case atStart=>exact⟨0,T,aD _,rfl,H0.o.2.1,(H0.o.1.agree (f8.o.agree H0.o.2.2.1)).mono λi hi=>⟨.inl hi,by have:=H0.o.2.2.1 i hi;have:=j2.o;omega,by have:=H0.o.2.2.1 i hi;omega,by have:=H0.o.2.2.1 i hi;omega⟩,H0.o.2.2.2.2.1,by rw[H0.o.2.2.2.1];exact ao _,by rw[H0.o.2.2.2.2.2];exact k0.o,j7.o,f8.o⟩
 obtain⟨j,I,hj,rfl,ok,hT,a2,e4,b6,a7,hX⟩:=hrel;obtain⟨p1,a5⟩:=Qaj I;have k3:=a7.lt;have k2:w.heap.size<wr.heap.size:=oM
 by_cases f0:j<cs.length
 ·have g1:(j:Int)<(cs.length:Int):=oM
  obtain⟨x,f1⟩:∃x,cs[j]? = some x:=⟨_,ac f0⟩;obtain⟨b,o,i2,lb,j3,j0,i7,i6⟩:=HS.o.at f1;obtain⟨sa,sc⟩:=s;dsimp only at i2 j3 j0;subst i2;have lb:b<w:=lb;have a6:CR wr (Lt w) x:=i7.agree (hX.agree λ_ h=>h);have i0:∀c u,x.cells.toList[c]? = some u->wr.cell? ⟨b,o+j*15+c,none⟩=some u:=λc u hu=>(hX.cell lb).trans (i6 c u hu)
  obtain⟨v0,v1,v2,v3,v4,v5,v6,v7,v8,v9,j9,j4,k1,j1,i9⟩:=QAc i0;have b7:(cs.map CE.c).drop j=x.c ::(cs.map CE.c).drop (j+1):=drop_at (by rw[au,f1];rfl);have a8:∀i,NB F w.heap.size wr i->i<wr.heap.size:=λi hi=>hi.2.1
  have c8:(Qaa I).length<=1000000:=oM
  have a3:=λ(W:World) (N:Ext wr W)=>Qg2 (k:=x.c.k) (λb hb=>ab (a8 b hb) N.size) (hT.agree (N.agree a8)) ok c8
  have c2:=λ(W:World) (N:Ext wr W)=>Qqf (k:=x.c.k) (v:=x.c.is_) (sl:=x.sli) (so:=x.soi) (λb hb=>ab (a8 b hb) N.size) (hT.agree (N.agree a8)) ok c8 a6.key ((a6.is_.agree (N.agree λi (hi:i<w)=>ab hi hX.size)).mono λi (hi:i<w)=>ab hi (hX.trans N).size)
  have b9:=λ(W:World) (N:Ext wr W)=>Qm9 (λb hb=>ab (a8 b hb) N.size) (hT.agree (N.agree a8)) ok c8 x.c.k
  have c3:=λ(W:World) (N:Ext wr W)=>Qz3 ((a6.agree (N.agree λi (hi:i<w)=>ab hi hX.size)).mono λi (hi:i<w)=>ab hi (hX.trans N).size)
  have d3:=λ(W:World) (N:Ext wr W)=>(a6.agree (N.agree λi (hi:i<w)=>ab hi hX.size)).mono (G:=Lt W) λi (hi:i<w)=>ab hi (hX.trans N).size
  obtain⟨gv,e8⟩:∃g,(Qaq (Qaa I) x.c.k).getD zeroV=g:=⟨_,rfl⟩;obtain⟨gb,e1⟩:∃g,(Qaq (Qaa I) x.c.k).isSome=g:=⟨_,rfl⟩;obtain⟨bi,e3⟩:∃g,Qzp x.c.had x.c.was x.c.has x.c.is_=g:=⟨_,rfl⟩;obtain⟨ba,f3⟩:∃g,Qzp gb gv x.c.had x.c.was=g:=⟨_,rfl⟩;have d5:QzV (Qaa I) x.c=(!bi&&ba):=by rw[QzV,e8,e1,e3,f3]
  unfold QbC at a3;rw[Qao,a5]at a3 c2 b9;rw[e8,e1]at a3;rw[e3]at c3;have d0:ap=if(!bi&&ba)=true then apC (Qzt (Qaa I) x.c) ((cs.map CE.c).drop (j+1))else none:=by rw[<-a2,b7,apC,d5]
  have c4:Ext wr (wr.alloc (.cells x.cells 92)):=(fQ wr).alloc _ _;have e6:=fU wr 92 x.cells;have b0:=hY (show ∀W,Ext (wr.alloc (.cells x.cells 92)) W->(W.cell? ⟨wr,0,none⟩=some (.string x.c.k)/\W.cell? ⟨wr,1,none⟩=some (.bool x.c.had)/\W.cell? ⟨wr,2,none⟩=some (.int .i64 x.c.was.kind)/\W.cell? ⟨wr,3,none⟩=some (.bool x.c.was.b)/\W.cell? ⟨wr,4,none⟩=some (.int .i64 x.c.was.i)/\W.cell? ⟨wr,5,none⟩=some (.string x.c.was.t)/\W.cell? ⟨wr,6,none⟩=some (.slice x.slw.a x.c.was.l.length x.slw.c)/\W.cell? ⟨wr,7,none⟩=some (.slice x.sow.a x.c.was.ok.length x.sow.c)/\
    W.cell? ⟨wr,8,none⟩=some (.bool x.c.has)/\W.cell? ⟨wr,9,none⟩=some (.int .i64 x.c.is_.kind)/\W.cell? ⟨wr,10,none⟩=some (.bool x.c.is_.b)/\W.cell? ⟨wr,11,none⟩=some (.int .i64 x.c.is_.i)/\W.cell? ⟨wr,12,none⟩=some (.string x.c.is_.t)/\W.cell? ⟨wr,13,none⟩=some (.slice x.sli.a x.c.is_.l.length x.sli.c)/\W.cell? ⟨wr,14,none⟩=some (.slice x.soi.a x.c.is_.ok.length x.soi.c))/\
    W.cell? ⟨w,0,none⟩=some (.pointer p1)/\W.frozen? ⟨w,0,none⟩=false/\W.cell? ⟨w+1,0,none⟩=some (.pointer none)/\W.frozen? ⟨w+1,0,none⟩=false/\w.heap.size+1<W.heap.size/\wr.heap.size<W.heap.size fromλW N=>by
   have h1:=b6.ext (c4.trans N);have h2:=a7.ext (c4.trans N);rw[a5]at h1;exact⟨(e6.ext N).c15,h1.cell 0,h1.frozen 0,h2.cell 0,h2.frozen 0,h2.lt,(e6.ext N).lt⟩)
  have t0:wr.cell? ⟨w,0,none⟩=some (.pointer p1):=by have:=b6.cell 0;rw[a5]at this;exact this
  obtain⟨HX,Z,g6,i5,g8,f7,j8⟩:=Yh hX c4 a3 c2 b9 c3 d3;obtain⟨f2,j5,c9,f6,g9,k5,i1⟩:=Yh d0 f3 ok b6 a7 a5 e4;clear hX hT a2 b6 a7 a5 f1 i7 i6 a6 i0 b7 a8 a3 c2 b9 c3 d3 e8 e1 e3 f3 d5 d0 c4 e6 ok c8 e4;go_wp2_with fail;dsimp only[CE.cells]at b0 Z;generalize j6:wr.alloc (.cells _ _)=W3 at *;clear j6 t0 v0 v1 v2 v3 v4 v5 v6 v7 v8 v9 j9 j4 k1 j1 i9;refine(g6.o W3 Z.o).mono ?_;rintro e w4 ⟨gl,gq,rfl,f4,i8⟩;have c7:=(fQ w4).alloc #[.int .i64 gv.kind,.bool gv.b,.int .i64 gv.i,.string gv.t,.slice gl.a gv.l.length gl.c,.slice gq.a gv.ok.length gq.c] 34;obtain⟨g7,g5,H5⟩:=Yc (fU w4 34 #[.int .i64 gv.kind,.bool gv.b,.int .i64 gv.i,.string gv.t,.slice gl.a gv.l.length gl.c,.slice gq.a gv.ok.length gq.c]) ((i8.agree (c7.agree λb hb=>hb.2)).mono (G:=Lt (w4.alloc (.cells #[.int .i64 gv.kind,.bool gv.b,.int .i64 gv.i,.string gv.t,.slice gl.a gv.l.length gl.c,.slice gq.a gv.ok.length gq.c] 34)).heap.size) λb hb=>ab hb.2 c7.size) (f4.trans c7);have q4:=b0.o _ f4;clear f4 i8;go_wp2_with fail;have q5:=b0.o _ H5.o;clear q4 c7;generalize w4.alloc (.cells _ _)=W5 at *;refine(f7.o W5 (Z.o.trans H5.o)).mono ?_;rintro e w6 ⟨rfl,c1⟩;have H6:=hY (H5.o.trans c1);have f5:=g7.o.ext c1;obtain⟨u0,u1,u2,u3,u4,u5⟩:=f5.c6;have ul:=f5.lt;have g0:=hY ((g5.o.agree (c1.agree λb hb=>hb)).mono (G:=Lt w6) λb hb=>ab hb c1.size);have q6:=b0.o _ H6.o;clear q5 c1 f5 g5 g7;cases bi with
  | true=>
    have r0:=q6.2.2.2.1;have e2:=hY (HX.o.trans (Z.o.trans H6.o));clear u0 u1 u2 u3 u4 u5;go_wp2_with fail;have qr:(w6.setCell ⟨w+1,0,none⟩ (.pointer none)).cell? ⟨w+1,0,none⟩=some (.pointer none):=eO w6 _ _ r0;refine eE (v:=.tuple #[.agg #[.pointer none],.int .i64 13]) (by simp[results,results27,go_sem,qr]) rfl ?_;have b3:ap=none:=by rw[f2.o];rfl
    rw[b3];exact⟨none,rfl,trivial,trivial,rfl,e2.o.setCell (p:=⟨w+1,0,none⟩) (bY _) _⟩
  | false=>
    go_wp2_with fail;refine(QzG (a:=gb) (b:=x.c.had) g0.o (j8.o w6 (Z.o.trans H6.o)).was).mono ?_;rintro e w7 ⟨rfl,d8⟩;rw[j5.o];have H7:=hY (H6.o.trans d8);have q7:=b0.o _ H7.o;have k6:=d8.size;clear q6 d8 u0 u1 u2 u3 u4 u5;cases ba with
    | false=>
      have r0:=q7.2.2.2.1;have e2:=hY (HX.o.trans (Z.o.trans H7.o));go_wp2_with fail;have qr:(w7.setCell ⟨w+1,0,none⟩ (.pointer none)).cell? ⟨w+1,0,none⟩=some (.pointer none):=eO w7 _ _ r0;refine eE (v:=.tuple #[.agg #[.pointer none],.int .i64 13]) (by simp[results,results27,go_sem,qr]) rfl ?_;have b3:ap=none:=by rw[f2.o];rfl
      rw[b3];exact⟨none,rfl,trivial,trivial,rfl,e2.o.setCell (p:=⟨w+1,0,none⟩) (bY _) _⟩
    | true=>
      have d4:ap=apC (Qzt (Qaa I) x.c) ((cs.map CE.c).drop (j+1)):=by rw[f2.o];rfl
      have k4:=QzK (Qaa I) x.c;have d7:=hY d4;clear d4;cases hh:x.c.has with
      | true=>
        rw[hh]at q7;have HH:=hY hh;clear hh;go_wp2_with fail;refine(i5.o w7 (Z.o.trans H7.o)).mono ?_;rintro e w8 ⟨T',rfl,hR,c0,a9⟩;obtain⟨p',b4⟩:=Qaj T';rw[Qao,b4];have H8:=hY (H7.o.trans a9);have q8:=b0.o _ H8.o;have a1:Qaa T'=Qzt (Qaa I) x.c:=by rw[hR.ents c9.o,Qzt,ez HH.o]
        obtain⟨a4,b8,a0⟩:=Yc a1 (hR.ok c9.o) (QzA HX.o (Z.o.trans H7.o) a9 c0 b4 f6.o g9.o);clear q7 a9 c0 hR b4 a1;go_wp2_with fail;go_roundw
        case rel=>exact⟨j+1,T',f0,by go_num,b8.o,a0.o.1,by rw[a4.o];exact d7.o.symm,by rw[a4.o];have:=i1.o;omega,a0.o.2.1,a0.o.2.2.1,a0.o.2.2.2⟩
        simp[intOf];omega
      | false=>
        rw[hh]at q7;have HH:=hY hh;clear hh;go_wp2_with fail;refine(g8.o w7 (Z.o.trans H7.o)).mono ?_;rintro e w8 ⟨T',rfl,hR,c0,a9⟩;obtain⟨p',b4⟩:=Qaj T';rw[Qao,b4];have H8:=hY (H7.o.trans a9);have q8:=b0.o _ H8.o;have a1:Qaa T'=Qzt (Qaa I) x.c:=by rw[hR.ents c9.o,Qzt,ev (by rw[HH.o];simp)]
        obtain⟨a4,b8,a0⟩:=Yc a1 (hR.ok c9.o) (QzA HX.o (Z.o.trans H7.o) a9 c0 b4 f6.o g9.o);clear q7 a9 c0 hR b4 a1;go_wp2_with fail;go_roundw
        case rel=>exact⟨j+1,T',f0,by go_num,b8.o,a0.o.1,by rw[a4.o];exact d7.o.symm,by rw[a4.o];have:=i1.o;omega,a0.o.2.1,a0.o.2.2.1,a0.o.2.2.2⟩
        simp[intOf];omega
 have g1:¬(j:Int)<(cs.length:Int):=oM
 have d6:ap=some (Qaa I):=by
  rw[<-a2,List.drop_of_length_le (by rw[ar];omega)];rfl
 have t0:wr.cell? ⟨w,0,none⟩=some (QaK I):=b6.cell 0;rw[a5]at t0;have r0:wr.cell? ⟨w+1,0,none⟩=some (.pointer none):=a7.cell 0;have fr:=a7.frozen 0;obtain⟨HE,b5⟩:=Yb d6 (show OkR I/\IsT wr (NB F w.heap.size wr) I/\QaK I=.pointer p1/\Ext w wr from⟨ok,hT,a5,hX⟩);clear ok hT a2 e4 b6 a7 hX a5 d6;go_wp2_with fail;have qr:(wr.setCell ⟨w+1,0,none⟩ (.pointer p1)).cell? ⟨w+1,0,none⟩=some (.pointer p1):=eO wr _ _ r0;refine eE (v:=.tuple #[.agg #[.pointer p1],.int .i64 0]) (by simp[results,results27,go_sem,qr]) rfl ?_;rw[HE.o];refine⟨I,by rw[Qao,b5.o.2.2.1];rfl,b5.o.1,(b5.o.2.1.agree (fV wr ⟨w+1,0,none⟩ _ λhf=>hf.2.2.2 rfl)).mono λi hi=>hi.1.imp id λh=>⟨h,by rw[eG];exact hi.2.1⟩,rfl,b5.o.2.2.2.setCell (p:=⟨w+1,0,none⟩) (bY _) _⟩
theorem QzM(hF:∀b,F b->b<w.heap.size)(a4:∀b,F' b->b<w.heap.size)(hT:IsT w F T)(hU:IsT w F' U)(ok:OkR T)(c8:OkR U)(hl:(Qaa T).length<=1000000)(c1:(Qaa U).length<=1000000) :
  Calls prog 26 #[Qao T,Qao U] w λe w'=>e=.returned (.bool (Qeq (Qaa T) (Qaa U)))/\Ext w w':=by
 obtain⟨p,hp⟩:=Qaj T;obtain⟨q,hq⟩:=Qaj U;have c6:∀W,Ext w W->Calls prog 25 #[.agg #[.pointer p],.agg #[.pointer q]] W λe w'=>e=.returned (.bool (decide (p=q)))/\Ext W w':=λW Z=>QAd W p q ((hT.leads hp).ext Z) ((hU.leads hq).ext Z)
 have c9:∀W,Ext w W->Calls prog 46 #[.agg #[.pointer p]] W λe w'=>e=.returned (.int .i64 (Qaa T).length)/\Ext W w':=λW Z=>by
  have:=QlI (λb hb=>ab (hF b hb) Z.size) (hT.agree (Z.agree hF));rwa[Qao,hp]at this
 have d4:∀W,Ext w W->Calls prog 46 #[.agg #[.pointer q]] W λe w'=>e=.returned (.int .i64 (Qaa U).length)/\Ext W w':=λW Z=>by
  have:=QlI (λb hb=>ab (a4 b hb) Z.size) (hU.agree (Z.agree a4));rwa[Qao,hq]at this
 have c7:∀W,Ext w W->Calls prog 37 #[.agg #[.pointer p]] W (QaU (Qaa T) W):=λW Z=>by
  have:=Qg1 (λb hb=>ab (hF b hb) Z.size) (hT.agree (Z.agree hF)) ok hl;rwa[Qao,hp]at this
 have b8:∀W,Ext w W->Calls prog 37 #[.agg #[.pointer q]] W (QaU (Qaa U) W):=λW Z=>by
  have:=Qg1 (λb hb=>ab (a4 b hb) Z.size) (hU.agree (Z.agree a4)) c8 c1;rwa[Qao,hq]at this
 have a6:p=q->Qeq (Qaa T) (Qaa U)=true:=λe=>by
  rw[hT.det hU (by rw[hp,hq,e]),QhK]
 rw[Qao,Qao,hp,hq];obtain⟨b5,a9,b9,d8,e0,b7⟩:=Yg c6 c9 d4 c7 b8 a6;clear c6 c9 d4 c7 b8 a6 hp hq hF a4 hT hU ok c8 hl c1;obtain⟨r,hr⟩:∃r,Qeq (Qaa T) (Qaa U)=r:=⟨_,rfl⟩;have HR:=hY hr;rw[hr];clear hr;by_cases a7:p=q
 ·obtain rfl:r=true:=by rw [←HR.o];exact b7.o a7
  subst a7;clear b5;go_in;go_wp2_with fail;generalize a2:World.alloc (World.alloc _ _) _=W0;obtain⟨a3,e4,b4,b0⟩:=Qas w _ _ _ _ W0 a2;clear a2;refine(QyT W0 p).mono ?_;rintro e w1 ⟨rfl,hx⟩;go_wp2_with fail;go_ret;exact⟨rfl,a3.trans hx⟩
 have hd:decide (p=q)=false:=ew a7;rw[hd]at b5;clear hd;go_in;go_wp2_with fail;generalize a2:World.alloc (World.alloc _ _) _=W0;obtain⟨a3,e4,b4,b0⟩:=Qas w _ _ _ _ W0 a2;clear a2;refine(b5.o _ a3).mono ?_;rintro e w1 ⟨rfl,a5⟩;have a0:=hY (a3.trans a5);have d5:=b4.ext a5;have c0:=b0.ext a5;have I:=hY (show ∀W,Ext w1 W->W.cell? ⟨w.heap.size,0,none⟩=some (.pointer p)/\W.cell? ⟨w.heap.size+1,0,none⟩=some (.pointer q) fromλW Z=>⟨(d5.ext Z).cell 0,(c0.ext Z).cell 0⟩);clear a3 a5 b4 b0 d5 c0;by_cases a1:(Qaa T).length=(Qaa U).length
 ·have d7:((Qaa U).length:Int)=((Qaa U).length:Int):=rfl
  rw[a1]at a9;go_wp2_with fail;refine eF (S:=(λw'=>Ext w1 w')) kM (((fQ w1).drew)) (λhHeld=>?_);refine Qaf 0 (some 8) I hHeld ?_;refine Qaf 2 (some 10) I hHeld ?_;refine Qac (i:=1) kM rfl (by rfl) (λK N=>?_);go_simp
  (refine(a9.o _ (a0.o.trans hHeld)).mono ?_;rintro e wa ⟨rfl,b6⟩)
  refine N.out _ _ (hHeld.trans b6) (λhHeld=>?_);clear N K
  try go_frame
  refine Qac (i:=3) kM rfl (by rfl) (λK N=>?_);go_simp
  (refine(b9.o _ (a0.o.trans hHeld)).mono ?_;rintro e wb ⟨rfl,b3⟩)
  refine N.out _ _ (hHeld.trans b3) (λhHeld=>?_);clear N K
  try go_frame
  refine Qaf 4 (some 12) I hHeld ?_;refine Qaf 5 (some 13) I hHeld ?_;refine Qaf 6 (some 14) I hHeld ?_;refine Qaf 8 (some 16) I hHeld ?_;refine Qac (i:=7) kM rfl (by rfl) (λK N=>?_);go_simp
  (refine(d8.o _ (a0.o.trans hHeld)).mono ?_;rintro e wc ⟨sc,yc,rfl,d0,d3,e3⟩;have e1:=hY d0;have e2:=hY d3;clear d0 d3)
  refine N.out _ _ (hHeld.trans e3) (λhHeld=>?_);clear N K
  try go_frame
  refine Qac (i:=9) kM rfl (by rfl) (λK N=>?_);go_simp
  (refine(e0.o _ (a0.o.trans hHeld)).mono ?_;rintro e we ⟨se,ye,rfl,c3,c4,c2⟩;have a8:=QzD ((e2.o.es.mono (G:=Lt wc.heap.size) λi hi=>hi.2).ext c2) (c4.es.mono (G:=Lt we.heap.size) λi hi=>hi.2);rw[c3,e1.o,HR.o]at a8;have e6:=hY a8;clear c3 c4 a8)
  refine N.out _ _ (hHeld.trans c2) (λhHeld=>?_);clear N K
  try go_frame
  refine Qac (i:=10) kM rfl (by rfl) (λK N=>?_);go_simp
  (refine e6.o.mono ?_;rintro e wf ⟨rfl,d6⟩)
  refine N.out _ _ (hHeld.trans d6) (λhHeld=>?_);clear N K
  try go_frame
  refine Qaf 11 (some 19) I hHeld ?_;refine Qaf 12 (some 4) I hHeld ?_;refine eJ kM ?_ _;have HX:=hY (a0.o.trans hHeld);clear hHeld;go_wp2_with fail;go_ret;exact⟨rfl,HX.o⟩
 obtain rfl:r=false:=by rw[<-HR.o];exact Qsl a1
 have d7:(((Qaa T).length:Int) ==((Qaa U).length:Int))=false:=eA.2 oM;clear a1;go_wp2_with fail;refine eF (S:=(λw'=>Ext w1 w')) kM (((fQ w1).drew)) (λhHeld=>?_);refine Qaf 0 (some 8) I hHeld ?_;refine Qaf 2 (some 10) I hHeld ?_;refine Qac (i:=1) kM rfl (by rfl) (λK N=>?_);go_simp
 (refine(a9.o _ (a0.o.trans hHeld)).mono ?_;rintro e wa ⟨rfl,b6⟩)
 refine N.out _ _ (hHeld.trans b6) (λhHeld=>?_);clear N K
 try go_frame
 refine Qac (i:=3) kM rfl (by rfl) (λK N=>?_);go_simp
 (refine(b9.o _ (a0.o.trans hHeld)).mono ?_;rintro e wb ⟨rfl,b3⟩)
 refine N.out _ _ (hHeld.trans b3) (λhHeld=>?_);clear N K
 try go_frame
 refine Qaf 4 (some 12) I hHeld ?_;refine Qaf 5 (some 13) I hHeld ?_;refine QfN 6 (some 14) hHeld ?_;refine QfN 7 (some 15) hHeld ?_;refine QfN 8 (some 16) hHeld ?_;refine QfN 9 (some 17) hHeld ?_;refine QfN 10 (some 18) hHeld ?_;refine Qaf 11 (some 19) I hHeld ?_;refine Qaf 12 (some 4) I hHeld ?_;refine eJ kM ?_ _;have HX:=hY (a0.o.trans hHeld);clear hHeld;go_wp2_with fail;go_ret;exact⟨rfl,HX.o⟩
end Go.Proofs.YtdiecmkpbadgjaaGreatDoor
