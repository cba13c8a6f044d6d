/- Steps to the theorem. -/
import Derived.Test.YtdiecmkpbadgjaaGreatDoorPsi
set_option linter.all false
set_option maxRecDepth 100000
set_option maxHeartbeats 40000000
namespace Go.Proofs.YtdiecmkpbadgjaaGreatDoor
open Go.Proofs.Tryz
open Go.RowKit Go.Shelf
abbrev AN.p(a:AN):Value:=ptr a.1 a.2
abbrev Qf1(X:Nat):Value:=.pointer (some ⟨X,0,none⟩)
structure Cur(F E:Nat->Prop)(lo X:Nat)(row:Option Nat)(x:Qat)(W:World):Prop where
 ex:∃(es nd:Sl) (xs:List LE),xs.map LE.ent=x.es/\Blk W X 202 #[.slice es.a xs.length es.c,.slice nd.a x.ns.length nd.c,.int .i64 x.o]/\ES W E es xs/\W.ownsRow lo 46 1 (.slice nd.a x.ns.length nd.c) x.ns.length (x.ns.map AN.p)/\nd.row=row
 nodes:∀a∈x.ns,IsN W F a.1 a.2
 lX:lo<=X
 ne:row≠some X
 few:x.tot<=1000000
 FX:∀b,F b->b<lo
 EX:∀b,E b->lo<=b/\b<W.heap.size/\b≠X/\row≠some b
section
variable{F E : Nat -> Prop}{lo X : Nat}{row : Option Nat}{x : Qat}{W W' : World}
theorem Cur.lt(h:Cur F E lo X row x W):X<W.heap.size:=by
 obtain⟨es,nd,xs,-,I,-⟩:=h.ex;exact I.lt
theorem Cur.rlt(h:Cur F E lo X row x W):∀b,row=some b->lo<=b/\b<W.heap.size:=by
 obtain⟨es,nd,xs,-,-,-,Z,I⟩:=h.ex;intro b N;exact Qad Z (I.trans N)
def QiY(F E:Nat->Prop)(X:Nat)(row:Option Nat)(b:Nat):Prop:=F b\/E b\/b=X\/row=some b
theorem Cur.agree(h:Cur F E lo X row x W)(k:Agree (QiY F E X row) W W')(hs:W.heap.size<=W'.heap.size):Cur F E lo X row x W':=by
 obtain⟨es,nd,xs,h1,h2,h3,Z,N⟩:=h.ex;exact⟨⟨es,nd,xs,h1,h2.agree k (.inr (.inr (.inl rfl))),h3.agree (k.mono λb I=>.inr (.inl I)),Qab Z k (λb I=>.inr (.inr (.inr (by rw[<-N];exact I)))),N⟩,λa ha=>(h.nodes a ha).agree (k.mono λb I=>.inl I),h.lX,h.ne,h.few,h.FX,λb I=>⟨(h.EX b I).1,ab (h.EX b I).2.1 hs,(h.EX b I).2.2⟩⟩
theorem Cur.kl(h:Cur F E lo X row x W)(N:lo<=W):∀b,QiY F E X row b->b<W.heap.size:=by
 rintro b (I|I|rfl|I)
 .exact ab (h.FX b I) N
 .exact (h.EX b I).2.1
 .exact h.lt
 exact(h.rlt b I).2
theorem Cur.low(h:Cur F E lo X row x W):lo<=W:=ak h.lX (bZ h.lt)
theorem Cur.ext(h:Cur F E lo X row x W)(k:Ext W W'):Cur F E lo X row x W':=h.agree (k.agree (h.kl h.low)) k.size
theorem Cur.st{H:Nat->Prop}(h:Cur F E lo X row x W)(k:St H W W')(N:∀b,QiY F E X row b->¬H b):Cur F E lo X row x W':=h.agree (k.agree.mono λb I=>⟨h.kl h.low b I,N b I⟩) k.size
theorem Cur.len(h:Cur F E lo X row x W):x.ns.length<=1000000:=by
 have:=Qnz x.ns;have:=h.few;unfold Qat.tot at this;omega
def Qat.Qhd(x:Qat):Value:=match x.node with|some a=>a.p|none=>.pointer none
def Qb7(x:Qat)(is:Bool)(W:World)(e:Ending)(w':World):Prop:=
 e=.returned (.tuple #[.agg #[x.Qhd,.int .i64 x.height,.string x.first,.string x.last],.bool is])/\Ext W w'
theorem Qng(h:Cur F E lo X row x W){e:Ent}{es:List Ent}(N:x.es=e::es):Calls prog 134 #[Qf1 X] W (Qb7 x true W):=by
 have hp:x.Qhd=.pointer none:=by simp[Qat.Qhd,Qat.node,N]
 have hh:=x.Qcy N;obtain⟨-,hf,hl,-⟩:=x.Qcg N;obtain⟨se,nd,xs,h1,h2,h3,-,-⟩:=h.ex;have I:xs.length=x.es.length:=by rw[<-h1,aq]
 have a2:0<xs.length:=by rw[I,N];exact Nat.succ_pos _
 obtain⟨y,hy⟩:∃y,xs[0]? = some y:=⟨_,ac a2⟩;have a0:y.k=e.1:=by
  have:(xs.map LE.ent)[0]? = some y.ent:=by rw[ar,hy];rfl
  rw[h1,N]at this;simp only[List.getElem?_cons_zero,Option.some.injEq]at this;rw[this];rfl
 obtain⟨b,o,Z,a4,a5,a3,ck,-⟩:=h3.at hy;rw[a0,cE,ct]at ck;have c0:W.cell? X=some (.slice se.a xs.length se.c):=h2.cell 0;have lX:=h2.lt;have lb:b<W:=(h.EX b a4).2.1;have g1:(0:Int)<(xs.length:Int):=oM
 unfold Qb7;rw[hp,hh,hf,hl];obtain⟨sa,sc⟩:=se;dsimp only at Z a5 a3 c0;subst Z;have a1:=h3.few;have a6:xs.length<=140737488355328:=oM
 clear h hp hh hf hl h1 h2 h3 I hy a0 N a1;go_in;go_wp2_with fail;refine eN (v:=.tuple #[.agg #[.pointer none,.int .i64 (-1),e.1,e.1],.bool true]) (by simp[results,results134,go_sem]) rfl ?_;exact⟨rfl,(gh W).alloc _ _⟩
theorem Qpj(h:Cur F E lo X row x W)(hx:x.gone):Calls prog 134 #[Qf1 X] W (Qb7 x false W):=by
 obtain⟨es,Z,o⟩:=x;obtain⟨rfl,rfl⟩:es=[]/\Z=[]:=hx;obtain⟨N,nd,xs,h1,h2,-,-,-⟩:=h.ex;have I:xs=[]:=dd.1 h1;subst I;have c0:W.cell? X=some (.slice N.a 0 N.c):=h2.cell 0;have c1:W.cell? ⟨X,1,none⟩=some (.slice nd.a 0 nd.c):=h2.cell 1;have lX:=h2.lt;unfold Qb7;show Calls _ _ _ _ λe w'=>e=.returned (.tuple #[.agg #[.pointer none,.int .i64 0,ByteArray.empty,ByteArray.empty],.bool false])/\Ext W w'
 clear h h1 h2;go_in;go_wp2_with fail;refine eN (v:=.tuple #[.agg #[.pointer none,.int .i64 0,ByteArray.empty,ByteArray.empty],.bool false]) (by simp[results,results134,go_sem];rfl) rfl ?_;exact⟨rfl,(gh W).alloc _ _⟩
theorem Qr8{W:World}{base e g cap n:Nat}{xs:List Value}{v:Value}(h:W.ownsRow base e 1 (.slice (some g) (n+1) cap) (n+1) (xs++[v])):W.ownsRow base e 1 (.slice (some g) n cap) n xs:=by
 have h1:xs.length=n:=by have:=h.1;simpa using this
 rcases h.2 with⟨hv,h0⟩ |⟨g',a1,I,hv,a0,hg,a2,Z,N,ht⟩
 .omega
 simp only[Value.slice.injEq,Option.some.injEq,Addr.mk.injEq,true_and,and_true]at hv;obtain⟨rfl,rfl⟩:=hv;refine⟨oM,.inr ⟨g,cap,I,rfl,a0,hg,oM,Z,N,?_⟩⟩;have:=congrArg (List.take n) ht;rw[cU,List.take_left' h1]at this;rw[<-this];congr 1;omega
theorem Cur.top(h:Cur F E lo X row x W){I:List AN}{a:AN}(hn:x.ns=I++[a]) :
  ∃(es:Sl) (xs:List LE) (g cap:Nat),xs.map LE.ent=x.es/\Blk W X 202 #[.slice es.a xs.length es.c,.slice (some g) (I.length+1) cap,.int .i64 x.o]/\ES W E es xs/\W.ownsRow lo 46 1 (.slice (some g) (I.length+1) cap) (I.length+1) (I.map AN.p++[a.p])/\row=some g/\
   lo<=g/\g<W/\I.length+1<=cap/\cap<=maxLen/\W.cell? ⟨g,I.length,none⟩=some a.p/\IsN W F a.1 a.2/\I.length<=1000000:=by
 obtain⟨es,nd,xs,h1,h2,h3,N,h5⟩:=h.ex;have hl:=h.len;have hm:x.ns.length=I.length+1:=by rw[hn];simp
 have a1:x.ns.map AN.p=I.map AN.p++[a.p]:=by rw[hn];simp
 rw[hm]at h2 N;rw[a1]at N;obtain⟨g,cap,rfl,hg,a0,Z,hf⟩:=QaJ N (Nat.succ_pos _);have hc:=N.cells (g:=g) rfl;refine⟨es,xs,g,cap,h1,h2,h3,N,h5.symm,hg,hf.lt,a0,Z,?_,h.nodes a (by rw[hn];simp),oM⟩;have:=hc I.length a.p (by rw[aP oO];simp);rwa[Qbc,aD]at this
theorem Qpi(h:Cur F E lo X row x W){a:AN}(hx:x.node=some a):Calls prog 134 #[Qf1 X] W (Qb7 x true W):=by
 obtain⟨I,a9,a0⟩:=x.QaQ hx;have hp:x.Qhd=a.p:=by simp[Qat.Qhd,hx]
 have hh:=x.Qc6 hx;have hf:x.first=Qav a.es:=by simp[Qat.first,I,a0]
 have hl:x.last=Qbl a.es:=by simp[Qat.last,I,a0]
 obtain⟨es,xs,g,b5,h1,h2,-,-,-,-,b6,b9,b7,b3,N,b8⟩:=h.top a9;rw[I]at h1;have b4:xs=[]:=dd.1 h1;subst b4;unfold Qb7;rw[hp,hh,hf,hl];have c0:W.cell? X=some (.slice es.a 0 es.c):=h2.cell 0;have c1:W.cell? ⟨X,1,none⟩=some (.slice (some g) (x.ns.dropLast.length+1) b5):=h2.cell 1;have lX:=h2.lt;have a8:∀W',Ext W W'->Calls prog 66 #[a.p] W' λe w'=>e=.returned a.1/\W'=w':=λW' hW=>QaC (F:=F) (N.agree (hW.agree λb hb=>ab (h.FX b hb) h.low))
 have a7:∀W',Ext W W'->Calls prog 102 #[a.p] W' λe w'=>e=.returned (Qav a.es)/\W'=w':=λW' hW=>Qgv (F:=F) (N.agree (hW.agree λb hb=>ab (h.FX b hb) h.low))
 have a4:∀W',Ext W W'->Calls prog 177 #[a.p] W' λe w'=>e=.returned (Qbl a.es)/\W'=w':=λW' hW=>Qme (F:=F) (N.agree (hW.agree λb hb=>ab (h.FX b hb) h.low))
 obtain⟨a6,a2,Z⟩:=Yc a8 a7 a4;generalize x.ns.dropLast.length=m at *;obtain⟨ah,a3⟩:=a;obtain⟨fk,b0⟩:∃k,Qav (AN.es ⟨ah,a3⟩)=k:=⟨_,rfl⟩;obtain⟨lk,a5⟩:∃k,Qbl (AN.es ⟨ah,a3⟩)=k:=⟨_,rfl⟩;rw[b0]at a2 ⊢;rw[a5]at Z ⊢;dsimp only[AN.p,ptr]at a6 a2 Z b3 ⊢;generalize addr ah a3=A at *;have g0:(0:Int)<(m:Int)+1:=oM
 have g1:(m:Int)<(m:Int)+1:=oM
 have g2:(0:Int)<=(m:Int):=oM
 clear h hx I a9 a0 hp hh hf hl h1 h2 N a8 a7 a4 b0 a5;go_in;go_wp2_with fail;go_region;go_wp2_with fail;have a1:Ext W (W.alloc (.cells #[.pointer none,.int .i64 0,ByteArray.empty,ByteArray.empty] 194)).drew:=((gh W).alloc _ _).drew;refine(a6.o _ a1).mono ?_;rintro e w1 ⟨rfl,rfl⟩;go_wp2_with fail;refine(a2.o _ a1).mono ?_;rintro e w1 ⟨rfl,rfl⟩;go_wp2_with fail;refine(Z.o _ a1).mono ?_;rintro e w1 ⟨rfl,rfl⟩;go_wp2_with fail;refine eN (v:=.tuple #[.agg #[.pointer (some A),ah,fk,lk],.bool true]) (by simp[results,results134,go_sem]) rfl ?_;exact⟨rfl,((gh W).alloc _ _).drew⟩
theorem Qf9(h:Cur F E lo X row x W){a:AN}(hx:x.node=some a):Calls prog 135 #[Qf1 X] W λe w'=>e=.returned (.tuple #[])/\Cur F E lo X row x.skip w'/\St (λb=>b=X) W w':=by
 obtain⟨b3,a8,b0⟩:=x.QaQ hx;have a4:=(x.Qgc hx).2;obtain⟨es,xs,g,N,h1,h2,h3,h4,Z,b5,a6,b8,b6,a9,b4,b7⟩:=h.top a8;have c1:W.cell? ⟨X,1,none⟩=some (.slice (some g) (x.ns.dropLast.length+1) N):=h2.cell 1;have f1:=h2.frozen 1;have lX:=h2.lt;have a3:=h.ne;have a1:∀W',St (λb=>b=X) W W'->Blk W' X 202 #[.slice es.a xs.length es.c,.slice (some g) x.ns.dropLast.length N,.int .i64 x.o]->Cur F E lo X row x.skip W':=λW' a7 I=>by
  have a2:∀b,b<W.heap.size->b≠X->W'.heap[b]? = W.heap[b]?:=λb I hn=>a7.block b I hn
  refine⟨⟨es,⟨some g,N⟩,xs,h1,I,h3.agree λb I=>a2 b (h.EX b I).2.1 (h.EX b I).2.2.1,?_,by rw[Z];rfl⟩,λa' ha=>(h.nodes a' (dm _ ha)).agree λb I=>a2 b (ab (h.FX b I) h.low) (by have:=h.FX b I;have:=h.lX;omega),h.lX,h.ne,by have:=h.few;omega,h.FX,λb I=>⟨(h.EX b I).1,ab (h.EX b I).2.1 a7.size,(h.EX b I).2.2⟩⟩;exact Qab (s:=⟨some g,N⟩) (Qr8 h4) (λb (I:b<W/\b≠X)=>a2 b I.1 I.2) (λb I=>by
   obtain rfl:g=b:=by simpa[Sl.row]using I
   exact⟨a6,λe=>a3 (by rw[Z,e])⟩)
 obtain⟨H2,a5⟩:=Yb h2 a1;generalize x.ns.dropLast.length=m at *;have g0:(0:Int)<=(m:Int):=oM
 have g1:(m:Int)<=(N:Int):=oM
 clear h hx b3 a8 b0 a4 h1 h2 h3 h4 Z a9 b4 a1 a3;go_in;go_wp2_with fail;go_region;go_wp2_with fail;go_end0;have a0:St (λb=>b=X) W (W.setCell ⟨X,1,none⟩ (.slice (some g) m N)):=(gB (λb=>b=X) W).set (p:=⟨X,1,none⟩) (.inr rfl) _;have I:=H2.o.QbH 1 (.slice (some g) m N);exact⟨rfl,a5.o _ a0.drew (I.ext ((gh _).drew)),a0.drew⟩
theorem ES.tail{w:World}{F:Nat->Prop}{b o c:Nat}{x:LE}{xs:List LE}(h:ES w F ⟨some ⟨b,o,none⟩,c⟩ (x::xs)):ES w F ⟨some ⟨b,o+7,none⟩,c-1⟩ xs/\(xs=[]->∀a,ES w F ⟨some a,0⟩ xs):=by
 obtain⟨⟨b',o',h1,h2,h3⟩,hv,hf⟩:=h;obtain⟨e1,e2,Z⟩:=h1.eq oO;have hF:=h1.fits oO;obtain⟨rfl,rfl⟩:b=b'/\o=o':=by simpa using e1
 simp only[List.length_cons]at e2 hf;dsimp only at Z;refine⟨⟨⟨b,o+7,.some _ _ _ _ oM oM hF,by rw[QcR],λj u N=>?_⟩,λy I=>hv y (aS _ I),oM⟩,?_⟩
 ·rw [bH]
  refine h3 _ u ?_;have e:QaD (x::xs)=x.cells++QaD xs:=by simp[QaD]
  rw[e,aP (by simp[LE.cells]),show 7+j-x.cells.length=j from by simp[LE.cells]];exact N
 rintro rfl a;exact⟨⟨b,o,.zero _ _ _,by simp[QaD],λj u N=>by simp[QaD]at N⟩,λy I=>by simp at I,oO⟩
theorem Qga(h:Cur F E lo X row x W){e:Ent}{es:List Ent}(hx:x.es=e::es):Calls prog 138 #[Qf1 X] W λe' w'=>∃sl so,e'=.returned (Qfu e.1 e.2 sl so)/\Cur F E lo X row x.take w'/\St (λb=>b=X) W w'/\RV w' E e.2 sl so/\e.1.size<=maxLen:=by
 obtain⟨se,nd,xs,h1,h2,h3,h4,h5⟩:=h.ex;obtain⟨y,ys,rfl⟩:∃y ys,xs=y::ys:=by
  cases xs with
  |nil=>rw[hx]at h1;simp at h1
  |cons y ys=>exact⟨y,ys,rfl⟩
 have a8:y.ent=e/\ys.map LE.ent=es:=by
  rw[hx]at h1;simpa using h1
 obtain⟨b,o,b8,b4,a9,c3,ck,⟨v0,v1,v2,v3,v4,v5⟩,b0,b3⟩:=h3.at (i:=0) (x:=y) rfl;have a4:x.take.tot=x.tot:=rfl;obtain⟨sa,sc⟩:=se;dsimp only at b8 a9 c3;subst b8;obtain⟨yk,I,sl,so⟩:=y;obtain⟨a8,b5⟩:=a8;obtain rfl:(yk,I)=e:=a8;dsimp only at ck v0 v1 v2 v3 v4 v5 b0 b3;rw[cE,ct]at ck v0 v1 v2 v3 v4 v5;have b7:=h.ne;have a0:=h.EX;have a6:∀(W':World) (s':Sl),St (λb=>b=X) W W'->Blk W' X 202 #[.slice s'.a ys.length s'.c,.slice nd.a x.ns.length nd.c,.int .i64 x.o]->(s'=⟨some ⟨b,o+7,none⟩,sc-1⟩\/(ys=[]/\∃a,s'=⟨some a,0⟩))->Cur F E lo X row x.take W'/\RV W' E I sl so:=λW' s' c1 N hs=>by
  have a7:∀b,b<W.heap.size->b≠X->W'.heap[b]? = W.heap[b]?:=λb N hn=>c1.block b N hn
  have a1:Agree E W W':=λb N=>a7 b (a0 b N).2.1 (a0 b N).2.2.1
  obtain⟨c8,c4⟩:=h3.tail;have c6:ES W E s' ys:=by
   rcases hs with rfl |⟨h0,a,rfl⟩
   .exact c8
   exact c4 h0 a
  refine⟨⟨⟨s',nd,ys,by rw[b5];simp[Qat.take,hx],N,c6.agree a1,Qab h4 (λb (N:b<W/\b≠X)=>a7 b N.1 N.2) (λb N=>?_),h5⟩,λa' ha=>(h.nodes a' ha).agree λb N=>a7 b (ab (h.FX b N) h.low) (by have:=h.FX b N;have:=h.lX;omega),h.lX,h.ne,by rw[a4];exact h.few,h.FX,λb N=>⟨(h.EX b N).1,ab (h.EX b N).2.1 c1.size,(h.EX b N).2.2⟩⟩,b0.agree a1⟩;exact⟨(Qad h4 N).2,λe=>b7 (by rw[<-h5,N,e])⟩
 obtain⟨a5,H2⟩:=Yb a6 h2;have c0:W.cell? X=some (.slice (some ⟨b,o,none⟩) (ys.length+1) sc):=h2.cell 0;have f0:=h2.frozen 0;have lX:=h2.lt;have lb:b<W:=(a0 b b4).2.1;have e1:ys.length+1<=sc:=a9;have a2:ys.length+1=1->ys=[]:=λh=>au oM
 obtain⟨d0,b6⟩:=Yb a2 b3;have a3:=h3.few;have e0:ys.length<=140737488355328:=by simp only[List.length_cons]at a3;omega
 have g0:(0:Int)<(ys.length:Int)+1:=oM
 have g1:(1:Int)<=(ys.length:Int)+1:=oM
 have g2:(ys.length:Int)+1<=(sc:Int):=oM
 have g3:(1:Int)<=(sc:Int):=oM
 have d6:¬W.heap.size=X:=oM
 have d3:¬W.heap.size+1=X:=oM
 have d8:¬W.heap.size=b:=oM
 have d4:¬W.heap.size+1=b:=oM
 dsimp only;clear h hx b5 h1 h2 h3 h4 h5 b7 a0 b4 b0 a6 a4 a9 a2 a3 b3;by_cases b9:sc=1
 ·obtain rfl:=b9
  have c9:ys.length=0:=oM
  go_in;go_wp2_with fail;refine eN (v:=Qfu yk I sl so) (by simp[results,results138,go_sem]) rfl ?_;have Z:St (λb=>b=X) W (W.setCell X (.slice (some ⟨b,o,none⟩) 0 0)):=(gB (λb=>b=X) W).set (p:=⟨X,0,none⟩) (.inr rfl) _;have N:=H2.o.QbH 0 (.slice (some ⟨b,o,none⟩) 0 0);generalize d5:W.setCell X (.slice (some ⟨b,o,none⟩) 0 0)=W1 at *;have hx:Ext W1 ((W1.alloc (.cells #[yk,I.kind,I.b,I.i,I.t,.slice sl.a I.l.length sl.c,.slice so.a I.ok.length so.c] 78)).alloc (.cells #[yk,I.kind,I.b,I.i,I.t,.slice sl.a I.l.length sl.c,.slice so.a I.ok.length so.c] 78)):=((gh W1).alloc _ _).alloc _ _;have c7:ys=[]:=d0.o oM;have c2:Blk W1 X 202 #[.slice (some ⟨b,o,none⟩) ys.length 0,.slice nd.a x.ns.length nd.c,.int .i64 x.o]:=by rw[c9];exact N
  have hr:=a5.o _ ⟨some ⟨b,o,none⟩,0⟩ (Z.ext hx) (c2.ext hx) (.inr ⟨c7,_,rfl⟩);exact⟨sl,so,rfl,hr.1,Z.ext hx,hr.2,b6.o⟩
 have d7:¬(1:Nat)=sc:=λe=>b9 e.symm
 go_in;go_wp2_with fail;refine eN (v:=Qfu yk I sl so) (by simp[results,results138,go_sem]) rfl ?_;have Z:St (λb=>b=X) W (W.setCell X (.slice (some ⟨b,o+7,none⟩) ys.length (sc-1))):=(gB (λb=>b=X) W).set (p:=⟨X,0,none⟩) (.inr rfl) _;have N:=H2.o.QbH 0 (.slice (some ⟨b,o+7,none⟩) ys.length (sc-1));generalize d5:W.setCell X (.slice (some ⟨b,o+7,none⟩) ys.length (sc-1))=W1 at *;have hx:Ext W1 ((W1.alloc (.cells #[yk,I.kind,I.b,I.i,I.t,.slice sl.a I.l.length sl.c,.slice so.a I.ok.length so.c] 78)).alloc (.cells #[yk,I.kind,I.b,I.i,I.t,.slice sl.a I.l.length sl.c,.slice so.a I.ok.length so.c] 78)):=((gh W1).alloc _ _).alloc _ _;have hr:=a5.o _ ⟨some ⟨b,o+7,none⟩,sc-1⟩ (Z.ext hx) (N.ext hx) (.inl rfl);exact⟨sl,so,rfl,hr.1,Z.ext hx,hr.2,b6.o⟩
end
def Qed(T:RT):Qat:=⟨[],T.toList,0⟩
theorem Qdh(T:RT):(Qed T).cont=Qaa T:=by
 cases T with
 |none=>rfl
 |some a=>show[]++([a].reverse).flatMap AN.es=_;simp;rfl
variable{T:RT}
theorem Qe1(ok:OkR T):(Qed T).ok:=by
 intro a I;cases T with
 |none=>cases I
 | some b=>
   obtain rfl:a=b:=by simpa[Qed]using I
   exact⟨ok.1,ok.2.1⟩
def QpV(T:RT):Nat:=Qbd T.toList
theorem QhP(T:RT):(Qed T).tot=QpV T:=by show 0+_=_;rw[aD];rfl
def Qez(F:Nat->Prop)(lo:Nat)(T:RT)(w:World)(e:Ending)(w':World):Prop:=
 ∃X row,e=.returned (Qf1 X)/\Ext w w'/\Cur F (λ_=>False) lo X row (Qed T) w'/\w.heap.size<=X/\∀b,row=some b->w.heap.size<=b
variable{w:World}{F:Nat->Prop}
theorem Qku{lo:Nat}(hT:IsT w F T)(hF:∀b,F b->b<lo)(b7:lo<=w)(hn:QpV T<=1000000):Calls prog 99 #[Qao T] w (Qez F lo T w):=by
 obtain⟨i0,hi,d3,c8,c4⟩:=eR Tryz.Qbg;cases T with
 | none=>
   show Calls _ _ #[.agg #[.pointer none]] _ _;go_in;go_wp2_with fail;generalize a3:World.alloc (World.alloc _ _) _=W0;obtain⟨a5,b8,b5,a4⟩:=Qas w _ _ _ _ W0 a3;clear a3;refine(QdN _ _).mono ?_;rintro e w1 ⟨rfl,N⟩;go_wp2_with fail;go_ret;refine⟨w+1,none,rfl,a5.trans N,⟨⟨Sl.none,Sl.none,[],rfl,a4.ext N,ES.nil _ _,eS _ _ _ _,rfl⟩,λa ha=>(by cases ha),oM,oO,by rw[QhP];exact hn,hF,λb Z=>Z.elim⟩,oM,λb Z=>(by cases Z)⟩
 | some a=>
   obtain⟨h,t⟩:=a;have hT:IsN w F h t:=hT;obtain⟨HT,HF,HN⟩:=Yc hT hF hn;clear hT hF hn;show Calls _ _ #[.agg #[ptr h t]] _ _;have a9:∀(w':World) (g I:Nat),Ext w w'->Blk w' (w.heap.size+1) 202 #[.slice none 0 0,.slice (some g) 1 I,.int .i64 0]->w'.ownsRow w.heap.size 46 1 (.slice (some g) 1 I) 1 [ptr h t]->g≠w.heap.size+1->Qez F lo (some ⟨h,t⟩) w (.returned (Qf1 (w.heap.size+1))) w':=λw' g I hx Z ho hg=>by
    have c3:=Qad (s:=⟨some g,I⟩) ho rfl;refine⟨w+1,some g,rfl,hx,⟨⟨Sl.none,⟨some g,I⟩,[],rfl,Z,ES.nil _ _,⟨ho.1,?_⟩,rfl⟩,λa ha=>?_,oM,by simpa using hg,by rw[QhP];exact HN.o,HF.o,λb Z=>Z.elim⟩,oM,λb Z=>?_⟩
    ·rcases ho.2 with h | ⟨g',b4,d0,h1,h2,h3⟩
     .exact .inl h
     exact .inr ⟨g',b4,d0,h1,ak b7 h2,h3⟩
    ·obtain rfl:a=⟨h,t⟩:=by simpa [Qed] using ha
     exact HT.o.agree (hx.agree λb Z=>ab (HF.o b Z) b7)
    obtain rfl:g=b:=by simpa using Z
    exact c3.1
   have a8:=hY a9;clear a9;dsimp only[ptr]at a8 ⊢;generalize addr h t=A at *;have d5:0+1<=maxLen:=oN
   go_in;go_wp2_with fail;generalize a3:World.alloc (World.alloc _ _) _=W0;obtain⟨a5,b8,b5,a4⟩:=Qas w _ _ _ _ W0 a3;clear a3;refine(QdN _ _).mono ?_;rintro e w1 ⟨rfl,N⟩;have a1:=a4.ext N;have c1:w1.cell? ⟨w+1,1,none⟩=some (.slice none 0 0):=a1.cell 1;have f1:=a1.frozen 1;have l1:=a1.lt;obtain⟨b6,c7⟩:=Yb (a5.trans N) a1;have e0:=b6.o.size;clear a5 N b5 a4 a1;go_wp2_with(at_builtin;refine Qak _ rfl _ _ 108 rfl w.heap.size 46 i0 (.pointer none) 1 8 underlying108 hi d3 c8 c4 rfl oN Sl.none 0 [] rfl (eS _ _ _ _) (λ_=>True) ⟨some w1,1⟩ 1 [.pointer (some A)] rfl (Rd.one _ _ _) (by simp[Value.oneCell']) d5 oM (by simp;omega) ?_;intro s2 w2 a0 b0 b9;have b3:=((gh w1).alloc #[.pointer (some A)] 46).wr b0 (λi hi=>by simp[Sl.row]at hi);have a2:=c7.o.ext b3;have c2:w2.cell? ⟨w+1,1,none⟩=some (.slice none 0 0):=a2.cell 1;have f2:=a2.frozen 1;have l2:=a2.lt;have c6:=hY b3;have c0:=hY a2;have a6:=hY a0;have d4:=hY b9;clear a0 b0 b9 b3 a2);obtain⟨g,I,rfl,hg,d8,d7,c9⟩:=QaJ a6.o oM;have a7:g≠w.heap.size+1:=by
    rcases d4.o with hs |⟨hs,-⟩
    .simp at hs
    simp only[Option.some.injEq,Addr.mk.injEq,and_true,World.size_alloc]at hs;omega
   have hE:=(b6.o.trans c6.o).setCell (p:=⟨w+1,1,none⟩) (cG _) (.slice (some g) 1 I);have d6:St (λb=>b=w.heap.size+1) w2 (w2.setCell ⟨w+1,1,none⟩ (.slice (some g) 1 I)):=(gB (λb=>b=w.heap.size+1) w2).set (p:=⟨w+1,1,none⟩) (.inr rfl) _;go_ret;exact a8.o _ g I hE (c0.o.QbH 1 _) (Qab (s:=⟨some g,I⟩) a6.o d6.agree (λb Z=>by
    obtain rfl:g=b:=by simpa[Sl.row]using Z
    exact⟨c9.lt,a7⟩)) a7
structure CE where
 c:Chg
 slw:Sl
 sow:Sl
 sli:Sl
 soi:Sl
abbrev CE.cells(x:CE):Array Value:=#[.string x.c.k,.bool x.c.had,.int .i64 x.c.was.kind,.bool x.c.was.b,.int .i64 x.c.was.i,.string x.c.was.t,.slice x.slw.a x.c.was.l.length x.slw.c,.slice x.sow.a x.c.was.ok.length x.sow.c,
 .bool x.c.has,.int .i64 x.c.is_.kind,.bool x.c.is_.b,.int .i64 x.c.is_.i,.string x.c.is_.t,.slice x.sli.a x.c.is_.l.length x.sli.c,.slice x.soi.a x.c.is_.ok.length x.soi.c]
abbrev CE.agg(x:CE):Value:=.agg x.cells
structure CR(w:World)(F:Nat->Prop)(x:CE):Prop where
 was:RV w F x.c.was x.slw x.sow
 is_:RV w F x.c.is_ x.sli x.soi
 key:x.c.k.size<=maxLen
variable{w':World}
theorem CR.agree{x:CE}(h:CR w F x)(I:Agree F w w'):CR w' F x:=⟨h.was.agree I,h.is_.agree I,h.key⟩
variable{G:Nat->Prop}
theorem CR.mono{x:CE}(h:CR w F x)(I:∀i,F i->G i):CR w G x:=⟨h.was.mono I,h.is_.mono I,h.key⟩
theorem Qqs(w:World)(F:Nat->Prop):RV w F zeroV Sl.none Sl.none:=RV.flat _ _ _ _ _ _ oN oN oN
def QjH(e:Ent)(sl so:Sl):CE:=⟨Qiu e,sl,so,Sl.none,Sl.none⟩
def Qjo(e:Ent)(sl so:Sl):CE:=⟨Qjn e,Sl.none,Sl.none,sl,so⟩
variable{e:Ent}{sl so:Sl}
theorem Qtc(h:RV w F e.2 sl so)(I:e.1.size<=maxLen):CR w F (QjH e sl so):=⟨h,Qqs _ _,I⟩
theorem Qs4(h:RV w F e.2 sl so)(I:e.1.size<=maxLen):CR w F (Qjo e sl so):=⟨Qqs _ _,h,I⟩
theorem Qrq(w:World)(e:Ent)(sl so:Sl):Calls prog 137 #[Qfu e.1 e.2 sl so] w λI w'=>I=.returned (QjH e sl so).agg/\Ext w w':=by
 obtain⟨k,v⟩:=e;go_in;go_wp2_with fail;refine eN (v:=(QjH (k,v) sl so).agg) (by simp[results,results137,go_sem];simp[QjH,Qiu,zeroV,Val.kind,Val.b,Val.i,Val.t,Val.l,Val.ok,Sl.none];rfl) rfl ?_;exact⟨rfl,((gh w).alloc _ _).alloc _ _⟩
theorem Qrc(w:World)(e:Ent)(sl so:Sl):Calls prog 139 #[Qfu e.1 e.2 sl so] w λI w'=>I=.returned (Qjo e sl so).agg/\Ext w w':=by
 obtain⟨k,v⟩:=e;go_in;go_wp2_with fail;refine eN (v:=(Qjo (k,v) sl so).agg) (by simp[results,results139,go_sem];simp[Qjo,Qjn,zeroV,Val.kind,Val.b,Val.i,Val.t,Val.l,Val.ok,Sl.none];rfl) rfl ?_;exact⟨rfl,((gh w).alloc _ _).alloc _ _⟩
def Qca:Op->Bool
 | .call c=>match c.callee with
   |.builtin .append | .builtin .len | .builtin .cap | .builtin .copy | .builtin .max | .builtin .min=>true
   |_=>false
 |.go _ | .defer _ | .send _ _ | .recv _ _ _ | .select _ _ | .panic _=>false
 |_=>true
variable{P:Program}
theorem Qvz(s:Sem Value)(row:String)(args:Array Value):(do pure (Next.value (<-s)):Sem Next).run P w≠.ok (.row row args) w':=by
 intro h;rw[fe]at h;cases hs:s.run P w with
 |ok v w1=>rw[hs]at h;simp[Result.andThen]at h
 |halt x w1=>rw[hs]at h;simp[Result.andThen]at h
theorem Qvy(s:Sem Unit)(row:String)(args:Array Value):(do s;pure Next.skip:Sem Next).run P w≠.ok (.row row args) w':=by
 intro h;rw[fe]at h;cases hs:s.run P w with
 |ok v w1=>rw[hs]at h;simp[Result.andThen]at h
 |halt x w1=>rw[hs]at h;simp[Result.andThen]at h
theorem Qvi(r:Result Value)(row:String)(args:Array Value):(r.andThen λa w=>Result.ok (Next.value a) w)≠.ok (.row row args) w':=by cases r<;>simp[Result.andThen]
theorem Qgk{α:Type}{s:Sem α}{f:α->Sem Next}{row:String}{args:Array Value}(h:(s>>=f).run P w=.ok (.row row args) w'):∃a w1,(f a).run P w1=.ok (.row row args) w':=by
 rw[fe]at h;cases hs:s.run P w with
 |ok a w1=>rw[hs]at h;exact⟨a,w1,by simpa[Result.andThen]using h⟩
 |halt x w1=>rw[hs]at h;simp[Result.andThen]at h
theorem QdY{row:String}{args:Array Value}:(runtimePanic .nilDeref:Sem Next).run P w≠.ok (.row row args) w':=by
 intro h;simp[runtimePanic,go_sem]at h
theorem QnH{ρ:Operand->Value}{o:Oper}(h:Qca o.op=true)(row:String)(args:Array Value):(execOp ρ o).run P w≠.ok (.row row args) w':=by
 unfold execOp;cases Z:o.op with
 | call c=>
   rw[Z]at h;cases N:c.callee with
   | builtin b=>
     simp only[Qca,N]at h;cases b<;>first|exact absurd h oN |(simp only[resolve,N,Sem.run_bind,Sem.run_pure,Result.andThen_ok,invoke,builtin];exact Qvi _ _ _)
   |_=>simp[Qca,N]at h
 | nilCheck x=>
   intro I;simp only at I;split at I
   .exact QdY I
   .exact QdY I
   .exact QdY I
   ·split at I
    .exact QdY I
    ·obtain ⟨a1,w1,h1⟩:=Qgk I
     obtain⟨a2,w2,h2⟩:=Qgk h1;split at h2
     ·obtain ⟨a3,w3,h3⟩:=Qgk h2
      simp at h3
     simp at h2
    simp at I
   simp at I
 | pick c x y=>
   intro I;simp only at I;rw[fe]at I;cases hs:(asBool (ρ c)).run P w with
   |ok v w1=>rw[hs]at I;simp[Result.andThen]at I
   |halt x w1=>rw[hs]at I;simp[Result.andThen]at I
 | _=>
   simp only
   first
   |exact Qvz _ _ _
   |exact Qvy _ _ _
   |(intro h;simp at h;done)
   |(rw[Z]at h;simp[Qca]at h)
theorem QgP{o:Oper}(h:Qca o.op=true):∀c,o.op≠.defer c:=λc e=>by rw[e]at h;simp[Qca]at h
variable{ops:Array Oper}{Q:Exit->Act->World->Prop}{a:Act}
theorem QfY{l n:Nat}(hp:∀(i:Nat) (o:Oper),ops[i]? = some o->Qca o.op=true)(hQ:¬LetsOut Q){i:Nat}{K K':Act->World->Prop} 
  (N:∀a w,K a w->K' a w) (h:wpOp P ops Q i K a w):wpOpIn (Fence.wide.inRound l) n P ops Q i K' a w:=by
 unfold wpOp at h;unfold wpOpIn;cases Z:ops[i]? with
 |none=>simp only[Z]at h ⊢;exact N _ _ h
 | some o=>
   simp only[Z]at h ⊢;split at h
   ·rename_i hw
    rw[eH hw];rcases h with h |⟨-,h⟩
    ·unfold Oper.wpIn
     refine⟨λ_ _=>trivial,?_⟩;rw[show(Fence.wide.inRound l).round=some l from rfl,Oper.semAt_some l _ o (QgP (hp i o Z))];unfold Oper.wp at h;have hr:=λrow I w'=>QnH (P:=P) (ρ:=a.eval) (w:=w) (w':=w') (hp i o Z) row I
     generalize (execOp a.eval o).run P w=r at *;cases r with
     | ok x w'=>
       cases x<;>simp only[Oper.upon,Oper.uponIn]at h ⊢
       case value v=>exact N _ _ h
       case skip=>exact N _ _ h
       case defer d=>exact N _ _ h
       case enter f I=>
        refine⟨(λhd=>by simp[Fence.wide]at hd),(CallsIn.inRound l (eL.2 h)).mono λe a0 he=>?_⟩;cases e with
        |returned v=>exact N _ _ he
        |panicked c=>exact he
        |outgrown=>exact he
       case row row I=>exact absurd rfl (hr row I w')
     |halt x w'=>cases x<;>simp only[Oper.upon,Oper.uponIn]at h ⊢ <;> exact h
    exact absurd h hQ
   rename_i hw;rw[eE hw];exact⟨λ_ _=>trivial,N _ _ h⟩
theorem Qfr{md:Region.Mode}{S:World->Prop}{l n:Nat}(Z:∀(i:Nat) (o:Oper),ops[i]? = some o->Qca o.op=true)(hQ:¬LetsOut Q) :
  ∀N I a w,wpAnyH P md ops Q S N I a w->wpAnyIn (Fence.wide.inRound l) n P md ops Q N I a w:=by
 intro N
 induction N with
 |zero=>exactλ_ _ _ h=>h
 | succ N ih=>
   intro I a w h;exact⟨h.1,λi hi=>QfY Z hQ (λa' w' h'=>ih _ a' w' h'.2) (h.2 i hi)⟩
theorem Qe4{Z l n:Nat}{S:World->Prop}(N:(ops.all λo=>Qca o.op)=true)(hQ:¬LetsOut Q)(hm:P.follows .mixedOrders=true)(hS:S w.drew)
  (h:S w.drew->wpAnyH P .any ops Q S ops.size (Array.replicate ops.size false) a w.drew):(Code.region Z ops true).wpIn (Fence.wide.inRound l) n P Q a w:=
 wpIn_region_any hm (Qfr (λi o I=>by
  have:=Array.all_eq_true.1 N i (az.1 I).1;rwa[(az.1 I).2]at this) hQ _ _ _ _ (h hS))
attribute [local go_sem] Oper.semAt_some
def QoC(e f:Ent)(sl so sl' so':Sl):CE:=⟨⟨e.1,true,e.2,true,f.2⟩,sl,so,sl',so'⟩
def QsK:CE:=⟨⟨ByteArray.empty,false,zeroV,false,zeroV⟩,Sl.none,Sl.none,Sl.none,Sl.none⟩
variable{W:World}
theorem Qt8{b:Nat}{t:TypeId}{a0 a1 a2 a3 a4 a5 a6 a7 a8 a9 b3 b0 Z N I c0 c1 c2 c3 c4 c5 c6 c7 c8 c9 b4 b5 b6 b7 b8:Value}(h:Blk W b t #[a0,a1,a2,a3,a4,a5,a6,a7,a8,a9,b3,b0,Z,N,I]) :
  Blk (((((((((((((((W.setCell b c0).setCell ⟨b,1,none⟩ c1).setCell ⟨b,2,none⟩ c2).setCell ⟨b,3,none⟩ c3).setCell ⟨b,4,none⟩ c4).setCell ⟨b,5,none⟩ c5).setCell ⟨b,6,none⟩ c6).setCell ⟨b,7,none⟩ c7).setCell ⟨b,8,none⟩ c8).setCell ⟨b,9,none⟩ c9).setCell ⟨b,10,none⟩ b4).setCell ⟨b,11,none⟩ b5).setCell ⟨b,12,none⟩ b6).setCell ⟨b,13,none⟩ b7).setCell ⟨b,14,none⟩ b8) b t #[c0,c1,c2,c3,c4,c5,c6,c7,c8,c9,b4,b5,b6,b7,b8]:=by
 have h0:Blk _ b t #[c0,a1,a2,a3,a4,a5,a6,a7,a8,a9,b3,b0,Z,N,I]:=h.QbH 0 c0;have h1:Blk _ b t #[c0,c1,a2,a3,a4,a5,a6,a7,a8,a9,b3,b0,Z,N,I]:=h0.QbH 1 c1;have h2:Blk _ b t #[c0,c1,c2,a3,a4,a5,a6,a7,a8,a9,b3,b0,Z,N,I]:=h1.QbH 2 c2;have h3:Blk _ b t #[c0,c1,c2,c3,a4,a5,a6,a7,a8,a9,b3,b0,Z,N,I]:=h2.QbH 3 c3;have h4:Blk _ b t #[c0,c1,c2,c3,c4,a5,a6,a7,a8,a9,b3,b0,Z,N,I]:=h3.QbH 4 c4;have h5:Blk _ b t #[c0,c1,c2,c3,c4,c5,a6,a7,a8,a9,b3,b0,Z,N,I]:=h4.QbH 5 c5;have h6:Blk _ b t #[c0,c1,c2,c3,c4,c5,c6,a7,a8,a9,b3,b0,Z,N,I]:=h5.QbH 6 c6;have h7:Blk _ b t #[c0,c1,c2,c3,c4,c5,c6,c7,a8,a9,b3,b0,Z,N,I]:=h6.QbH 7 c7;have h8:Blk _ b t #[c0,c1,c2,c3,c4,c5,c6,c7,c8,a9,b3,b0,Z,N,I]:=h7.QbH 8 c8;have h9:Blk _ b t #[c0,c1,c2,c3,c4,c5,c6,c7,c8,c9,b3,b0,Z,N,I]:=h8.QbH 9 c9;have d3:Blk _ b t #[c0,c1,c2,c3,c4,c5,c6,c7,c8,c9,b4,b0,Z,N,I]:=h9.QbH 10 b4;have b9:Blk _ b t #[c0,c1,c2,c3,c4,c5,c6,c7,c8,c9,b4,b5,Z,N,I]:=d3.QbH 11 b5;have d4:Blk _ b t #[c0,c1,c2,c3,c4,c5,c6,c7,c8,c9,b4,b5,b6,N,I]:=b9.QbH 12 b6;have d5:Blk _ b t #[c0,c1,c2,c3,c4,c5,c6,c7,c8,c9,b4,b5,b6,b7,I]:=d4.QbH 13 b7;have d0:Blk _ b t #[c0,c1,c2,c3,c4,c5,c6,c7,c8,c9,b4,b5,b6,b7,b8]:=d5.QbH 14 b8;exact d0
theorem Que{b:Nat}{c0 c1 c2 c3 c4 c5 c6 c7 c8 c9 a0 Z I a1 N:Value}(h:Ext w W)(hb:w<=b):Ext w (((((((((((((((W.setCell b c0).setCell ⟨b,1,none⟩ c1).setCell ⟨b,2,none⟩ c2).setCell ⟨b,3,none⟩ c3).setCell ⟨b,4,none⟩ c4).setCell ⟨b,5,none⟩ c5).setCell ⟨b,6,none⟩ c6).setCell ⟨b,7,none⟩ c7).setCell ⟨b,8,none⟩ c8).setCell ⟨b,9,none⟩ c9).setCell ⟨b,10,none⟩ a0).setCell ⟨b,11,none⟩ Z).setCell ⟨b,12,none⟩ I).setCell ⟨b,13,none⟩ a1).setCell ⟨b,14,none⟩ N):=by
 have s:∀{X:World} (i:Nat) (v:Value),Ext w X->Ext w (X.setCell ⟨b,i,none⟩ v):=λi v hx=>hx.setCell (p:=⟨b,i,none⟩) hb v
 exact s 14 _ (s 13 _ (s 12 _ (s 11 _ (s 10 _ (s 9 _ (s 8 _ (s 7 _ (s 6 _ (s 5 _ (s 4 _ (s 3 _ (s 2 _ (s 1 _ (s 0 _ (h)))))))))))))))
theorem QhH{tm:Array Value}{b:Nat}{bb:Bool}{c0 c1 c2 c3 c4 c5 c6 c7 c8 c9 a1 a0 N a2 Z:Value}(h4:tm.getD 4 undef=.pointer (some b))(h5:tm.getD 5 undef=.bool bb)(I:Blk W b 92 #[c0,c1,c2,c3,c4,c5,c6,c7,c8,c9,a1,a0,N,a2,Z]) :
  (results Tryz.f140 tm).run prog W=.ok (.tuple #[.agg #[c0,c1,c2,c3,c4,c5,c6,c7,c8,c9,a1,a0,N,a2,Z],.bool bb]) W:=by
 have r0:W.cell? b=some c0:=I.cell 0;have r1:W.cell? ⟨b,1,none⟩=some c1:=I.cell 1;have r2:W.cell? ⟨b,2,none⟩=some c2:=I.cell 2;have r3:W.cell? ⟨b,3,none⟩=some c3:=I.cell 3;have r4:W.cell? ⟨b,4,none⟩=some c4:=I.cell 4;have r5:W.cell? ⟨b,5,none⟩=some c5:=I.cell 5;have r6:W.cell? ⟨b,6,none⟩=some c6:=I.cell 6;have r7:W.cell? ⟨b,7,none⟩=some c7:=I.cell 7;have r8:W.cell? ⟨b,8,none⟩=some c8:=I.cell 8;have r9:W.cell? ⟨b,9,none⟩=some c9:=I.cell 9;have a3:W.cell? ⟨b,10,none⟩=some a1:=I.cell 10;have a7:W.cell? ⟨b,11,none⟩=some a0:=I.cell 11;have a5:W.cell? ⟨b,12,none⟩=some N:=I.cell 12;have a4:W.cell? ⟨b,13,none⟩=some a2:=I.cell 13;have a6:W.cell? ⟨b,14,none⟩=some Z:=I.cell 14;simp only[Array.getD_eq_getD_getElem?]at h4 h5;simp[results,results140,go_sem,h4,h5,r0,r1,r2,r3,r4,r5,r6,r7,r8,r9,a3,a7,a5,a4,a6]
variable{sl' so':Sl}
theorem QmU{e f:Ent}(h:RV w (Lt w) e.2 sl so)(h':RV w (Lt w) f.2 sl' so') :
  Calls prog 140 #[Qfu e.1 e.2 sl so,Qfu f.1 f.2 sl' so'] w λe' w'=>e'=.returned (.tuple #[(if Qbq e.2 f.2=0 then QsK else QoC e f sl so sl' so').agg,.bool (decide (Qbq e.2 f.2≠0))])/\Ext w w':=by
 have hs:∀W,Ext w W->Calls prog 49 #[QbV e.2 sl so,QbV f.2 sl' so'] W λe' w'=>e'=.returned (.bool (decide (Qbq e.2 f.2=0)))/\Ext W w':=λW hW=>
  Qdk ((h.agree (hW.agree λ_ h=>h)).mono λi hi=>ab hi hW.size) ((h'.agree (hW.agree λ_ h=>h)).mono λi hi=>ab hi hW.size)
 clear h h';obtain⟨k,v⟩:=e;obtain⟨k',v'⟩:=f;dsimp only at hs ⊢;by_cases hc:Qbq v v'=0
 ·rw [eH hc,eG (by simp [hc])]
  rw[eI hc]at hs;have HS:=hY hs;clear hs hc;go_in;go_wp2_with fail;generalize a4:World.alloc (World.alloc (World.alloc _ _) _) _=W0;obtain⟨Z,b5,a2,a1,a3⟩:=Qal w _ _ _ _ _ _ W0 a4;clear a4;refine(HS.o _ Z).mono ?_;rintro e w1 ⟨rfl,N⟩;have I:=a3.ext N;obtain⟨a7,HX⟩:=Yb I (Z.trans N);have l3:=I.lt;have f3:=λi=>I.frozen i
  have q0:w1.cell? ⟨w+1+1,0,none⟩=some (.string ByteArray.empty):=I.cell 0;have q1:w1.cell? ⟨w+1+1,1,none⟩=some (.bool false):=I.cell 1;have q2:w1.cell? ⟨w+1+1,2,none⟩=some (.int .i64 0):=I.cell 2;have q3:w1.cell? ⟨w+1+1,3,none⟩=some (.bool false):=I.cell 3;have q4:w1.cell? ⟨w+1+1,4,none⟩=some (.int .i64 0):=I.cell 4;have q5:w1.cell? ⟨w+1+1,5,none⟩=some (.string ByteArray.empty):=I.cell 5;have q6:w1.cell? ⟨w+1+1,6,none⟩=some (.slice none 0 0):=I.cell 6;have q7:w1.cell? ⟨w+1+1,7,none⟩=some (.slice none 0 0):=I.cell 7;have q8:w1.cell? ⟨w+1+1,8,none⟩=some (.bool false):=I.cell 8;have q9:w1.cell? ⟨w+1+1,9,none⟩=some (.int .i64 0):=I.cell 9;have a8:w1.cell? ⟨w+1+1,10,none⟩=some (.bool false):=I.cell 10;have a6:w1.cell? ⟨w+1+1,11,none⟩=some (.int .i64 0):=I.cell 11;have a5:w1.cell? ⟨w+1+1,12,none⟩=some (.string ByteArray.empty):=I.cell 12;have b0:w1.cell? ⟨w+1+1,13,none⟩=some (.slice none 0 0):=I.cell 13;have a9:w1.cell? ⟨w+1+1,14,none⟩=some (.slice none 0 0):=I.cell 14;clear Z N a2 a1 a3 I;go_wp2_with fail;generalize a0:(((((((((((((((w1.setCell ⟨w+1+1,0,none⟩ (.string ⟨#[]⟩)).setCell ⟨w+1+1,1,none⟩ (.bool false)).setCell ⟨w+1+1,2,none⟩ (.int .i64 0)).setCell ⟨w+1+1,3,none⟩ (.bool false)).setCell ⟨w+1+1,4,none⟩ (.int .i64 0)).setCell ⟨w+1+1,5,none⟩ (.string ⟨#[]⟩)).setCell ⟨w+1+1,6,none⟩ (.slice none 0 0)).setCell ⟨w+1+1,7,none⟩ (.slice none 0 0)).setCell ⟨w+1+1,8,none⟩ (.bool false)).setCell ⟨w+1+1,9,none⟩ (.int .i64 0)).setCell ⟨w+1+1,10,none⟩ (.bool false)).setCell ⟨w+1+1,11,none⟩ (.int .i64 0)).setCell ⟨w+1+1,12,none⟩ (.string ⟨#[]⟩)).setCell ⟨w+1+1,13,none⟩ (.slice none 0 0)).setCell ⟨w+1+1,14,none⟩ (.slice none 0 0))=W9;have b3:Blk W9 (w.heap.size+1+1) 92 #[.string ⟨#[]⟩,.bool false,.int .i64 0,.bool false,.int .i64 0,.string ⟨#[]⟩,.slice none 0 0,.slice none 0 0,.bool false,.int .i64 0,.bool false,.int .i64 0,.string ⟨#[]⟩,.slice none 0 0,.slice none 0 0]:=by rw[<-a0];exact Qt8 a7.o
  have b4:Ext w W9:=by rw[<-a0];exact Que HX.o oM
  clear a0 q0 q1 q2 q3 q4 q5 q6 q7 q8 q9 a8 a6 a5 b0 a9 f3;refine eN (QhH rfl rfl b3) rfl ?_;exact⟨rfl,b4⟩
 rw[eE hc,eI hc];rw[eG hc]at hs;have HS:=hY hs;clear hs hc;go_in;go_wp2_with fail;generalize a4:World.alloc (World.alloc (World.alloc _ _) _) _=W0;obtain⟨Z,b5,a2,a1,a3⟩:=Qal w _ _ _ _ _ _ W0 a4;clear a4;refine(HS.o _ Z).mono ?_;rintro e w1 ⟨rfl,N⟩;have I:=a3.ext N;obtain⟨a7,HX⟩:=Yb I (Z.trans N);have l3:=I.lt;have f3:=λi=>I.frozen i
 have q0:w1.cell? ⟨w+1+1,0,none⟩=some (.string ByteArray.empty):=I.cell 0;have q1:w1.cell? ⟨w+1+1,1,none⟩=some (.bool false):=I.cell 1;have q2:w1.cell? ⟨w+1+1,2,none⟩=some (.int .i64 0):=I.cell 2;have q3:w1.cell? ⟨w+1+1,3,none⟩=some (.bool false):=I.cell 3;have q4:w1.cell? ⟨w+1+1,4,none⟩=some (.int .i64 0):=I.cell 4;have q5:w1.cell? ⟨w+1+1,5,none⟩=some (.string ByteArray.empty):=I.cell 5;have q6:w1.cell? ⟨w+1+1,6,none⟩=some (.slice none 0 0):=I.cell 6;have q7:w1.cell? ⟨w+1+1,7,none⟩=some (.slice none 0 0):=I.cell 7;have q8:w1.cell? ⟨w+1+1,8,none⟩=some (.bool false):=I.cell 8;have q9:w1.cell? ⟨w+1+1,9,none⟩=some (.int .i64 0):=I.cell 9;have a8:w1.cell? ⟨w+1+1,10,none⟩=some (.bool false):=I.cell 10;have a6:w1.cell? ⟨w+1+1,11,none⟩=some (.int .i64 0):=I.cell 11;have a5:w1.cell? ⟨w+1+1,12,none⟩=some (.string ByteArray.empty):=I.cell 12;have b0:w1.cell? ⟨w+1+1,13,none⟩=some (.slice none 0 0):=I.cell 13;have a9:w1.cell? ⟨w+1+1,14,none⟩=some (.slice none 0 0):=I.cell 14;obtain⟨e0,e1,e2,e3,e4,e5,e6⟩:=(a2.ext N).c7;obtain⟨d0,d1,d2,d3,d4,d5,d6⟩:=(a1.ext N).c7;have le:=(a2.ext N).lt;have ld:=(a1.ext N).lt;clear Z N a2 a1 a3 I;go_wp2_with fail;clear e0 e1 e2 e3 e4 e5 e6 d0 d1 d2 d3 d4 d5 d6 le ld;generalize a0:(((((((((((((((w1.setCell ⟨w+1+1,0,none⟩ (.string k)).setCell ⟨w+1+1,1,none⟩ (.bool true)).setCell ⟨w+1+1,2,none⟩ (.int .i64 v.kind)).setCell ⟨w+1+1,3,none⟩ (.bool v.b)).setCell ⟨w+1+1,4,none⟩ (.int .i64 v.i)).setCell ⟨w+1+1,5,none⟩ (.string v.t)).setCell ⟨w+1+1,6,none⟩ (.slice sl.a v.l.length sl.c)).setCell ⟨w+1+1,7,none⟩ (.slice so.a v.ok.length so.c)).setCell ⟨w+1+1,8,none⟩ (.bool true)).setCell ⟨w+1+1,9,none⟩ (.int .i64 v'.kind)).setCell ⟨w+1+1,10,none⟩ (.bool v'.b)).setCell ⟨w+1+1,11,none⟩ (.int .i64 v'.i)).setCell ⟨w+1+1,12,none⟩ (.string v'.t)).setCell ⟨w+1+1,13,none⟩ (.slice sl'.a v'.l.length sl'.c)).setCell ⟨w+1+1,14,none⟩ (.slice so'.a v'.ok.length so'.c))=W9;have b3:Blk W9 (w.heap.size+1+1) 92 #[.string k,.bool true,.int .i64 v.kind,.bool v.b,.int .i64 v.i,.string v.t,.slice sl.a v.l.length sl.c,.slice so.a v.ok.length so.c,.bool true,.int .i64 v'.kind,.bool v'.b,.int .i64 v'.i,.string v'.t,.slice sl'.a v'.l.length sl'.c,.slice so'.a v'.ok.length so'.c]:=by rw[<-a0];exact Qt8 a7.o
 have b4:Ext w W9:=by rw[<-a0];exact Que HX.o oM
 clear a0 q0 q1 q2 q3 q4 q5 q6 q7 q8 q9 a8 a6 a5 b0 a9 f3;refine eN (QhH rfl rfl b3) rfl ?_;exact⟨rfl,b4⟩
abbrev QvE(x:Nat × Value):Array Value:=#[.int .i64 x.1,x.2]
structure QsL(vs:List Value)(pre:List (Nat × Value))(x:Nat × Value)(W0 W1:World):Prop where
 at_:x.1+pre.length+1=vs.length
 val:vs[x.1]? = some x.2
 pre_:pre.map Prod.snd=vs.reverse.take pre.length
variable{vs:List Value}{W0 W1:World}
theorem QoA{pre:List (Nat × Value)}{x:Nat × Value}(h:QsL vs pre x W0 W1):(pre++[x]).map Prod.snd=vs.reverse.take (pre++[x]).length:=by
 have h1:=h.at_;have h2:vs.reverse[pre.length]? = some x.2:=by
  rw[List.getElem?_reverse oM,show vs.length-1-pre.length=x.1 from oM];exact h.val
 rw[aB,h.pre_,aj,bA,aJ,h2];rfl
structure QtX(n:Nat)(vs:List Value)(J:List (Nat × Value)->(Nat->Prop)->World->Prop)(C:Nat->Prop)(W:World)(m:Nat)(pre:List (Nat × Value))(C':Nat->Prop)(Wj wr:World):Prop where
 j:J pre C' Wj
 ext:Ext Wj wr
 len:m+pre.length=n
 pre_:pre.map Prod.snd=vs.reverse.take pre.length
 st:St C W wr
 sub:∀b,C' b->C b\/W.heap.size<=b
variable{w0:World}
theorem Qq3{B g cap:Nat}(hb:Blk w0 B 108 #[.slice (some g) vs.length cap])(hv:∀j v,vs[j]? = some v->w0.cell? ⟨g,j,none⟩=some v)(hg:g<w0)(hc:vs.length<=cap)(hm:cap<=maxLen)(hl:vs.length<=1000) :
  Qvd prog 203 #[.pointer (some B)] QvE (λb=>b=B\/b=g) (QsL vs) (λxs=>xs.map Prod.snd=vs.reverse) (λ_=>True) w0:=by
 intro l J Jx C W a2 hA c1 a3 hJ;have a8:=a2.lt [] C W hJ;have b9:=hb.lt;have a4:∀W1,St C W W1->W1.cell? B=some (.slice (some g) vs.length cap)/\∀j v,vs[j]? = some v->W1.cell? ⟨g,j,none⟩=some v:=λW1 hW=>
  ⟨(hW.cell oM fun h=>a3 _ h (.inl rfl)).trans ((fb (w:=w0) (a:=⟨B,0,none⟩) (hA B (.inl rfl))).trans (hb.cell 0)),
    λj v h=>(hW.cell oM λh=>a3 _ h (.inr rfl)).trans ((fb (w:=w0) (a:=⟨g,j,none⟩) (hA g (.inr rfl))).trans (hv j v h))⟩
 obtain⟨b3,b0,b7,HJ⟩:=Ye a2 a4 a8 hJ;have c0:=(a4 W (gB _ W)).1;have lB:B<W.heap.size:=oM
 have lg:g<W:=oM
 have b6:(0:Int)<=(vs.length:Int):=oM
 clear a2 hA a3 hJ hb hv a4 a8;show Calls _ _ #[.func (.yield l) #[] #[],.pointer (some B)] W _;refine(eL (n:=5)).1 ?_;refine fK func203 rfl trivial ?_ rfl;simp only[ntmps203,zL,Nat.reduceAdd,Nat.reduceSub];gi_wp2_with fail;clear c0;gi_loopw [3] (λv wr=>∃(m:Nat) (pre:List (Nat × Value)) (C':Nat->Prop) (Wj:World),v=.int .i64 ((m:Int)-1)/\QtX vs.length vs J C W m pre C' Wj wr) (λv _=>(intOf v+1).toNat)
 case atStart=>exact⟨vs.length,[],C,W,rfl,⟨HJ.o,gh _,oO,oO,gB _ _,λb hb=>.inl hb⟩⟩
 obtain⟨m,pre,C',Wj,rfl,hS⟩:=hrel;have HS:=hY hS;cases m with
 | zero=>
   have I:pre.length=vs.length:=by have:=hS.len;omega
   have a0:pre.map Prod.snd=vs.reverse:=by rw[hS.pre_,I,aW oO]
   have a7:=hY a0;clear hS I a0;gi_wp2_with fail;go_end0;exact⟨⟨_,rfl⟩,.inl ⟨pre,C',Wj,a7.o,HS.o.j,HS.o.ext⟩⟩
 | succ k=>
   have e1:(((k+1:Nat):Int)-1)=(k:Int):=oM
   rw[e1];clear e1;have I:=hS.len;obtain⟨v,a1⟩:∃v,vs[k]? = some v:=⟨_,ac oM⟩;obtain⟨c0,a6⟩:=b0.o wr hS.st;have ck:=a6 k v a1;have b8:=hS.st.size;have g0:(0:Int)<=(k:Int):=oM
   have g1:(k:Int)<(vs.length:Int):=oM
   have hG:QsL vs pre (k,v) Wj wr:=⟨by show k+pre.length+1=_;omega,a1,hS.pre_⟩;have hy:=b3.o.take pre C' (k,v) Wj wr hS.j hS.ext hG;obtain⟨fn,b5,assign,body,hy,hR⟩:=hy;obtain⟨HR,HN⟩:=Yb hR (QoA hG);clear hS hG hR a6 a1;dsimp only[QvE]at hy;gi_wp2_with fail;refine HR.o.mono ?_;rintro e w6 (⟨rfl,C6,a5,Z,N⟩ |⟨rfl,a9,Z⟩)
   ·have b4:=hY (show QtX vs.length vs J C W k (pre++[(k,v)]) C6 w6 w6 from ⟨a5,gh _,by simp;omega,HN.o,HS.o.st.then Z (fun b hb h=>by
     rcases HS.o.sub b h with h|h
     .exact h
     .omega),λb hb=>by
     rcases N b hb with h|h
     .exact HS.o.sub b h
     exact .inr oM⟩)
    clear a5 Z N hy c0 ck;gi_wp2_with fail;go_roundw
    case rel=>exact⟨k,_,C6,w6,by go_num,b4.o⟩
    simp[intOf]
   gi_wp2_with fail;refine eN (v:=.tuple #[]) (by simp[results,results203,go_sem]) rfl ?_;exact⟨⟨_,rfl⟩,.inr ⟨_,w6,trivial,a9,gh _⟩⟩
end Go.Proofs.YtdiecmkpbadgjaaGreatDoor
namespace Go.Proofs.YtdiecmkpbadgjaaGreatDoor
open Go.Proofs.Tryz
open Go.RowKit Go.Shelf
attribute [local go_sem] Oper.semAt_some
section
variable{F E : Nat -> Prop}{lo X : Nat}{row : Option Nat}{x : Qat}{W W' : World}
theorem Cur.QvJ(h:Cur F E lo X row x W){W1:World}(k:St (λb=>b=X) W W1){N:Nat->Prop}{y:Qat}{es nd:Sl}{xs:List LE}(h1:xs.map LE.ent=y.es)(h2:Blk W1 X 202 #[.slice es.a xs.length es.c,.slice nd.a y.ns.length nd.c,.int .i64 y.o])(h3:ES W1 N es xs)(Z:W.ownsRow lo 46 1 (.slice nd.a y.ns.length nd.c) y.ns.length (y.ns.map AN.p))(h5:nd.row=row)
  (hn:∀a∈y.ns,a∈x.ns) (ht:y.tot<=1000000) (hE:∀b,N b->lo<=b/\b<W1.heap.size/\b≠X/\row≠some b):Cur F N lo X row y W1:=by
 refine⟨⟨es,nd,xs,h1,h2,h3,Qab Z k.agree (λb I=>⟨(Qad Z I).2,λe=>h.ne (by rw[<-h5,I,e])⟩),h5⟩,λa ha=>(h.nodes a (hn a ha)).agree (k.agree.mono λb I=>⟨Nat.lt_of_lt_of_le (h.FX b I) h.low,by have:=h.FX b I;have:=h.lX;omega⟩),h.lX,h.ne,ht,h.FX,hE⟩
theorem Cur.bump(h:Cur F E lo X row x W)(h1:x.tot+1<=1000000):Cur F E lo X row ⟨x.es,x.ns,x.o+1⟩ (W.setCell ⟨X,2,none⟩ (.int .i64 ((x.o:Int)+1))):=by
 obtain⟨es,nd,xs,g1,g2,g3,g4,Z⟩:=h.ex;have k:St (λb=>b=X) W (W.setCell ⟨X,2,none⟩ (.int .i64 ((x.o:Int)+1))):=(gB (λb=>b=X) W).set (p:=⟨X,2,none⟩) (.inr rfl) _;exact h.QvJ k g1 (g2.QbH 2 _) (g3.agree (k.agree.mono λb I=>⟨(h.EX b I).2.1,(h.EX b I).2.2.1⟩)) g4 Z (λa N=>N) (by simp only[Qat.tot]at *;omega) (λb I=>⟨(h.EX b I).1,by rw[eP];exact(h.EX b I).2.1,(h.EX b I).2.2⟩)
theorem Cur.fill(h:Cur F E lo X row x W){Z:Nat->Prop}{s:Sl}{ys:List LE}(hy:ES W Z s ys)(N:∀b,Z b->lo<=b/\b<W.heap.size/\b≠X/\row≠some b):Cur F Z lo X row ⟨ys.map LE.ent,x.ns,x.o⟩ (W.setCell X (.slice s.a ys.length s.c)):=by
 obtain⟨es,nd,xs,g1,g2,g3,g4,g5⟩:=h.ex;have k:St (λb=>b=X) W (W.setCell X (.slice s.a ys.length s.c)):=(gB (λb=>b=X) W).set (p:=⟨X,0,none⟩) (.inr rfl) _;exact h.QvJ k (es:=s) rfl (g2.QbH 0 _) (hy.agree (k.agree.mono λb I=>⟨(N b I).2.1,(N b I).2.2.1⟩)) g4 g5 (λa ha=>ha) h.few (λb I=>⟨(N b I).1,by rw[eP];exact(N b I).2.1,(N b I).2.2⟩)
theorem Cur.push(h:Cur F E lo X row x W){W4 w5:World}{nd s3:Sl}{a:AN}{xs:List LE}{es:Sl}(b6:xs.map LE.ent=x.es)(I:Blk W X 202 #[.slice es.a xs.length es.c,.slice nd.a x.ns.length nd.c,.int .i64 x.o])(b4:ES W E es xs)(a7:nd.row=row)
  (a2:Ext W W4) (a0:w5.ownsRow lo 46 1 (.slice s3.a (x.ns.length+1) s3.c) (x.ns.length+1) (x.ns.map AN.p++[a.p])) (a9:Wr W4 w5 nd.row) (b3:s3.a=nd.a\/s3.a=some ⟨W4,0,none⟩/\Wr W4 w5 none)
  (ha:IsN W F a.1 a.2) (ht:x.tot+QbQ a.1 a.2<=1000000) :
  Cur F E lo X s3.row ⟨x.es,x.ns++[a],x.o⟩ (w5.setCell ⟨X,1,none⟩ (.slice s3.a (x.ns.length+1) s3.c))/\St (λb=>b=X\/row=some b) W (w5.setCell ⟨X,1,none⟩ (.slice s3.a (x.ns.length+1) s3.c))/\(∀b,s3.row=some b->(row=some b\/W.heap.size<=b)/\b<w5.heap.size):=by
 have hX:=h.lt;have b7:=a2.size;have b8:=a9.grown.size;have Z:∀b,s3.row=some b->row=some b\/W4.heap.size<=b:=λb I=>by
  rcases b3 with e |⟨e,-⟩
  .exact .inl (by rw[<-a7,<-I];simp[Sl.row,e])
  right;rw[Sl.row,e]at I;simp at I;omega
 have a4:St (λb=>row=some b) W4 w5:=a9.st λi hi=>by rw[<-a7];exact hi
 have b5:St (λb=>b=X\/row=some b) W w5:=(a2.st _).trans (a4.mono λi _ hi=>.inr hi);have a6:St (λb=>b=X) w5 (w5.setCell ⟨X,1,none⟩ (.slice s3.a (x.ns.length+1) s3.c)):=(gB (λb=>b=X) w5).set (p:=⟨X,1,none⟩) (.inr rfl) _;have a3:=b5.trans (a6.mono λi _ hi=>.inl hi);have a5:∀b,b<W.heap.size->b≠X->row≠some b->(w5.setCell ⟨X,1,none⟩ (.slice s3.a (x.ns.length+1) s3.c)).heap[b]? = W.heap[b]?:=λb h1 h2 h3=>a3.block b h1 (λhh=>hh.elim h2 h3)
 have a1:s3.row≠some X:=λe=>by
  rcases Z X e with e'|e'
  .exact h.ne e'
  omega
 have b0:Blk w5 X 202 #[.slice es.a xs.length es.c,.slice nd.a x.ns.length nd.c,.int .i64 x.o]:=a4.blk (I.ext a2) h.ne;have a8:=h.low;refine⟨⟨⟨es,s3,xs,b6,by rw[aj,bA];exact b0.QbH 1 _,b4.agree λb I=>a5 b (h.EX b I).2.1 (h.EX b I).2.2.1 (h.EX b I).2.2.2,?_,rfl⟩,λa' N=>?_,h.lX,a1,?_,h.FX,λb I=>⟨(h.EX b I).1,ab (h.EX b I).2.1 a3.size,(h.EX b I).2.2.1,λe=>?_⟩⟩,a3,λb I=>⟨(Z b I).imp id (λh=>oM),(Qad a0 I).2⟩⟩
 ·rw [aj,bA,aB]
  exact Qab a0 a6.agree λb I=>⟨(Qad a0 I).2,λe=>a1 (by rw[I,e])⟩
 ·have hF:∀ b,F b→(w5.setCell ⟨X,1,none⟩ (.slice s3.a (x.ns.length+1) s3.c)).heap[b]? = W.heap[b]?:=fun b I=>a5 b (ab (h.FX b I) a8) (by have:=h.FX b I;have:=h.lX;omega) (fun e=>by have:=(h.rlt b e).1;have:=h.FX b I;omega)
  rcases aO.1 N with N|N
  .exact (h.nodes a' N).agree hF
  obtain rfl:=aV.1 N;exact ha.agree hF
 .simp only[Qat.tot,Qen]at *;omega
 rcases Z b e with e'|e'
 .exact (h.EX b I).2.2.2 e'
 have:=(h.EX b I).2.1;omega
def Qex(F E:Nat->Prop)(lo X:Nat)(row:Option Nat)(x:Qat)(W:World)(e:Ending)(w':World):Prop:=
 e=.returned (.tuple #[])/\∃(E':Nat->Prop) (row':Option Nat),Cur F E' lo X row' x.open_ w'/\St (λb=>b=X\/row=some b) W w'/\(∀b,E' b->E b\/W.heap.size<=b)/\(∀b,row'=some b->row=some b\/W.heap.size<=b)
theorem Qp0(h:Cur F E lo X row x W){t:PT 0}(hx:x.node=some ⟨0,t⟩):Calls prog 136 #[Qf1 X] W (Qex F E lo X row x W):=by
 obtain⟨b4,d0,c4⟩:=x.QaQ hx;have e0:=(x.Qgc hx).2;have c8:x.open_=⟨t.2,x.ns.dropLast,x.o+1⟩:=by unfold Qat.open_;rw[c4]
 obtain⟨es,xs,g,i2,h1,h2,-,h4,a9,j5,i9,g4,j1,a7,f1,f7⟩:=h.top d0;have f4:=λW' (hW:Ext W W')=>Qf9 (h.ext hW) hx
 have c1:W.cell? ⟨X,1,none⟩=some (.slice (some g) (x.ns.dropLast.length+1) i2):=h2.cell 1;have lX:=h2.lt;have e6:=h.low;have b6:∀b,F b->b<W.heap.size/\b≠X:=λb N=>⟨Nat.lt_of_lt_of_le (h.FX b N) e6,by have:=h.FX b N;have:=h.lX;omega⟩
 have f0:∀W',St (λb=>b=X) W W'->IsN W' F 0 t:=λW' hW=>f1.agree (hW.agree.mono λb N=>b6 b N)
 obtain⟨g9,d5,g6,HH,g8,c6⟩:=Yg f4 f0 b6 h c8 a9;have j4:(x.o:Int)<=1000000:=by have:=h.few;unfold Qat.tot at this;omega
 have i4:x.skip.tot+1<=1000000:=by have:=h.few;omega
 have j3:x.skip.o=x.o:=rfl;have f6:x.skip.es=[]:=b4;have k0:=hY b4;have j7:((0:Nat):Int)=0:=rfl;obtain⟨m,hm⟩:∃m,x.ns.dropLast.length=m:=⟨_,rfl⟩;rw[hm]at c1 g4 a7 f7;have g0:(0:Int)<=(m:Int):=oM
 have g1:(m:Int)<(m:Int)+1:=oM
 dsimp only[AN.p,ptr]at a7;generalize hA:addr 0 t=A at a7;have f9:=hY hA;clear h hx d0 c4 e0 c8 h1 h2 h4 a9 f4 f1 b6 f0 hm b4 hA;go_in;go_wp2_with fail;go_region;go_wp2_with fail;have c9:Ext W (W.alloc (.cells #[Qf1 X] 156)).drew:=((gh W).alloc _ _).drew;have e8:=(gm W 156 #[Qf1 X]).ext ((gh _).drew);refine(g9.o _ c9).mono ?_;rintro e w1 ⟨rfl,b8,a3⟩;have Z:=a3.blk e8 (show ¬W.heap.size=X by omega);have e2:St (λb=>b=X) W w1:=(c9.st _).trans a3;obtain⟨j2,j8,j9,-,a5,-⟩:=b8.ex;have c2:w1.cell? ⟨X,2,none⟩=some (.int .i64 x.o):=a5.cell 2;have f2:=a5.frozen 2;have l2:=a5.lt;have i1:w1.cell? W=some (Qf1 X):=Z.cell 0;have f5:=Z.lt;obtain⟨i5,c0,g5⟩:=Yc b8 Z e2;clear b8 a3 e8 Z e2 a5 c1 a7;have a8:¬W.heap.size=X:=oM
 have i7:¬X=W.heap.size:=oM
 go_wp2_with fail;have e7:Cur F E lo X row ⟨x.skip.es,x.skip.ns,x.o+1⟩ (w1.setCell ⟨X,2,none⟩ (.int .i64 ((x.o:Int)+1))):=i5.o.bump i4;have a2:St (λb=>b=X) w1 (w1.setCell ⟨X,2,none⟩ (.int .i64 ((x.o:Int)+1))):=(gB (λb=>b=X) w1).set (p:=⟨X,2,none⟩) (.inr rfl) _;have a0:=g5.o.trans a2;have a1:=a2.blk c0.o a8;clear c2 f2 l2 i1 f5 a2;generalize w1.setCell ⟨X,2,none⟩ (.int .i64 ((x.o:Int)+1))=w2 at *;have d7:=d5.o _ a0;have b7:=QaC d7;have a6:∀W',St (λb=>b=X) w2 W'->Calls prog 76 #[ptr 0 t] W' (QaU (ents 0 t) W'):=λW' hW=>Qa5 ((d5.o W' (a0.trans hW)).mono λb N=>ab (g6.o b N).1 (ak a0.size hW.size))
 dsimp only[ptr]at b7 a6;rw[f9.o]at b7 a6;obtain⟨i6,i8,f8,a4⟩:=Ye a6 e7 a0 (show ∀W',St (λb=>b=X) w2 W'->W'.cell? W=some (Qf1 X) fromλW' hW=>(hW.blk a1 a8).cell 0);have j0:=a1.lt;have j6:=a0.size;clear a6 e7 a0 a1 d7;refine b7.mono ?_;rintro e w3 ⟨rfl,rfl⟩;go_wp2_with fail;refine eO (S:=(λw'=>St (λb=>b=X) w2 w')) kM (((gB _ w2).drew)) (λhHeld=>?_);refine Qaf 0 (some 29) a4 hHeld ?_;refine Qaf 1 (some 30) a4 hHeld ?_;refine Qac (i:=2) kM rfl (by rfl) (λK hK=>?_);go_simp
 (refine(i6.o _ hHeld).mono ?_;rintro e w3 ⟨s,ys,rfl,c7,e3,d3⟩;have b5:=i8.o.ext (((gh w2).drew).trans d3);obtain⟨d4,k1,g3,d6,e4,-⟩:=b5.ex;have b0:g3=[]:=dd.1 (d6.trans f6);have I:=e4;rw[b0]at I;have c3:w3.cell? X=some (.slice d4.a 0 d4.c):=I.cell 0;have f3:=I.frozen 0;have l3:=I.lt;have i0:=hY c7;have i3:=hY e3;have g7:=hY b5;clear c7 e3 b5 e4 I d6 b0)
 refine hK.out _ _ (hHeld.ext d3) (λhHeld=>?_);clear hK K
 try go_frame
 refine Qaf 3 (some 32) a4 hHeld ?_;refine Qaf 4 (some 33) a4 hHeld ?_;refine Qac (i:=5) kM rfl (by rfl) (λK hK=>?_);go_simp
 skip
 refine hK.out _ _ (hHeld.set (p:=⟨X,0,none⟩) (.inr rfl) _) (λhHeld=>?_);clear hK K
 try go_frame
 refine eV kM ?_ _;have d8:=f8.o.trans hHeld;have hE:∀b,In w2.heap.size w3.heap.size b->lo<=b/\b<w3.heap.size/\b≠X/\row≠some b:=λb N=>⟨by have:=N.1;omega,N.2,by have:=N.1;omega,by rw[c6.o];simp only[ne_eq,Option.some.injEq];have:=N.1;omega⟩
 have b9:=g7.o.fill (s:=s) (ys:=ys) (i3.o.es.mono (G:=In w2.heap.size w3.heap.size) λi hi=>hi) hE;have b3:Qex F E lo X row x W (.returned (.tuple #[])) (w3.setCell X (.slice s.a ys.length s.c)):=by
  refine⟨rfl,In w2.heap.size w3.heap.size,row,?_,d8.mono λi _ hi=>.inl hi,λb N=>.inr (by have:=N.1;omega),λb N=>.inl N⟩;rw[g8.o];rw[i0.o]at b9;exact b9
 have e1:=hY b3;clear d8 hE b9 b3 hHeld c3 f3 l3;go_wp2_with fail;refine eN (v:=.tuple #[]) (by simp[results,results136,go_sem]) rfl ?_;exact e1.o
end
theorem Qq2(w:World)(s:Sl)(n:Nat):Calls prog 178 #[.slice s.a n s.c] w λe w'=>e=.returned (.func (.func 203) #[] #[.pointer (some w)])/\Ext w w'/\Blk w' w.heap.size 108 #[.slice s.a n s.c]:=by
 go_in;go_wp2_with fail;go_ret;exact⟨rfl,(gh w).alloc _ _,gm w _ _⟩
def QuF(R:Act->World->Prop):Exit->Act->World->Prop
 |.normal,a,w=>R a w
 |_,_,_=>False
variable{a:Act}{w:World}
theorem QrW{R:Act->World->Prop}(h:R a w):QuF R .normal a w:=h
variable{n:Nat}{P:Program}{Q:Exit->Act->World->Prop}
theorem Qoj{F:Fence}{c:Code}(h:c.wpIn F n P (QuF (Q .normal)) a w):c.wpIn F n P Q a w:=
 ge h λe a w h=>by cases e<;>first|exact h|exact h.elim
theorem Qfm(l m:List AN):Qbd (l++m)=Qbd l+Qbd m:=by simp[Qbd]
theorem Qlk(l:List AN)(j:Nat):Qbd (l.take j)<=Qbd l:=by
 conv=>rhs;rw[<-aX j l]
 rw[Qfm];omega
structure Qvb(F E:Nat->Prop)(lo X:Nat)(row:Option Nat)(ns:List AN)(o:Nat)(w4:World)(B0:Nat)(j:Nat)(C:Nat->Prop)(W:World):Prop where
 ex:∃r:Option Nat,(C=λb=>b=X\/r=some b)/\Cur F E lo X r ⟨[],ns,o⟩ W/\∀b,r=some b->row=some b\/w4.heap.size+2<=b
 st:St (λb=>b=X\/row=some b) w4 W
 box:Blk W B0 156 #[Qf1 X]
section
variable{F E : Nat -> Prop}{lo X : Nat}{row : Option Nat}{x : Qat}{W W' : World}
theorem QnB(h:Cur F E lo X row x W){n:Nat}{t:PT (n+1)}(hx:x.node=some ⟨n+1,t⟩)(ok:OkT (n+1) t):Calls prog 136 #[Qf1 X] W (Qex F E lo X row x W):=by
 obtain⟨i0,hi,k8,k1,j8⟩:=eR Tryz.Qbg;obtain⟨g6,b6,j6⟩:=x.QaQ hx;have l3:=(x.Qgc hx).2;have c3:=(x.Qgc hx).1;have g7:x.open_=⟨x.es,x.ns.dropLast++(QcE n t).reverse,x.o+1⟩:=by unfold Qat.open_;rw[j6]
 obtain⟨es,xs,g,r6,h1,h2,-,h4,f3,x0,t1,p6,t2,e7,p1,q4⟩:=h.top b6;have n6:=λW' (hW:Ext W W')=>Qf9 (h.ext hW) hx
 have c1:W.cell? ⟨X,1,none⟩=some (.slice (some g) (x.ns.dropLast.length+1) r6):=h2.cell 1;have lX:=h2.lt;have s4:=h.low;have v9:=h.lX;have k0:∀b,F b->b<lo:=h.FX;have n2:∀W',(∀b,F b->W'.heap[b]? = W.heap[b]?)->IsN W' F (n+1) t:=λW' hW=>p1.agree hW
 have g4:x.o+1+Qbd (x.ns.dropLast++(QcE n t).reverse)<=1000000:=by
  have h1:=h.few;rw[<-c3,g7]at h1;exact h1
 obtain⟨p8,i3,b7,q9,b0⟩:=Yf n6 n2 k0 g7 f3;have t7:(x.o:Int)<=1000000:=oM
 have q0:x.skip.tot+1<=1000000:=by have:=h.few;omega
 have v8:x.skip.o=x.o:=rfl;have q3:x.skip.es=[]:=g6;obtain⟨r7,j9,i6⟩:=Yc g6 g4 ok;obtain⟨m,hm⟩:∃m,x.ns.dropLast.length=m:=⟨_,rfl⟩;rw[hm]at c1 p6 e7 q4;have g0:(0:Int)<=(m:Int):=oM
 have g1:(m:Int)<(m:Int)+1:=oM
 have v1:(((n:Int)+1)==0)=false:=eJ.2 oM;dsimp only[AN.p,ptr]at e7;generalize hA:addr (n+1) t=A at e7;have p5:=hY hA;clear h hx b6 j6 l3 c3 g7 h1 h2 h4 f3 n6 p1 k0 n2 hm g6 hA g4 ok;refine(eL (n:=6)).1 ?_;refine fG func136 rfl trivial ?_ rfl;simp only[ntmps136,zL,Nat.reduceAdd,Nat.reduceSub];gi_wp2_with fail;refine Qoj (ga.2 ?_);go_quiet (fail);refine QrW ?_;gi_wp2_with fail;have g8:Ext W ((W.alloc (.cells #[Qf1 X] 156)).drewN nq):=((gh W).alloc _ _).drewN nq;have a2:=(gm W 156 #[Qf1 X]).ext ((gh _).drewN nq);have f5:¬W.heap.size=X:=oM
 have c8:¬X=W.heap.size:=oM
 refine⟨trivial,?_⟩;refine(eL.2 (p8.o _ g8)).mono ?_;rintro e w1 ⟨rfl,j3,c7⟩;have b3:=c7.blk a2 f5;have l6:St (λb=>b=X) W w1:=(g8.st _).trans c7;obtain⟨v4,x1,x2,-,e2,-⟩:=j3.ex;have c2:w1.cell? ⟨X,2,none⟩=some (.int .i64 x.o):=e2.cell 2;have f2:=e2.frozen 2;have l2:=e2.lt;have r3:w1.cell? W=some (Qf1 X):=b3.cell 0;have p3:=b3.lt;obtain⟨q1,n7,p7⟩:=Yc j3 b3 l6;clear j3 c7 a2 b3 l6 e2 c1 e7 g8;gi_wp2_with fail;have l8:Cur F E lo X row ⟨x.skip.es,x.skip.ns,x.o+1⟩ (w1.setCell ⟨X,2,none⟩ (.int .i64 ((x.o:Int)+1))):=q1.o.bump q0;have d5:St (λb=>b=X) w1 (w1.setCell ⟨X,2,none⟩ (.int .i64 ((x.o:Int)+1))):=(gB (λb=>b=X) w1).set (p:=⟨X,2,none⟩) (.inr rfl) _;have d7:=p7.o.trans d5;have f6:=d5.blk n7.o f5;clear c2 f2 l2 r3 p3 d5;generalize w1.setCell ⟨X,2,none⟩ (.int .i64 ((x.o:Int)+1))=w2 at *;have o3:∀W',Ext w2 W'->∀b,F b->W'.heap[b]? = W.heap[b]?:=λW' hW b I=>by
  have:=b7.o b I;exact(hW.heap (by have:=d7.size;omega)).trans (d7.block b oM oM)
 have i4:=i3.o _ (o3 w2 (gh _));have i1:=QaC i4;have hk:=Qb9 i4 (by have:=i6.o.2.1;omega);dsimp only[ptr]at i1 hk;rw[p5.o]at i1 hk;obtain⟨HK,q2,c0,l7⟩:=Ye hk l8 d7 f6;have t8:=d7.size;clear l8 d7 f6 i4 hk o3;refine⟨trivial,?_⟩;refine(eL.2 i1).mono ?_;rintro e w3 ⟨rfl,rfl⟩;gi_wp2_with fail;refine⟨trivial,?_⟩;refine(eL.2 HK.o).mono ?_;rintro e w3 ⟨sk,rfl,c9,i9⟩;have t6:2<=t.2.length:=i6.o.1;have s9:t.2.length<=8:=i6.o.2.1;have g5:(ptrs n t.2).length=t.2.length:=by simp[ptrs]
 obtain⟨gk,ck,rfl,v2,t4,k9,l9⟩:=QaJ c9 oM;have o4:=c9.cells (g:=gk) rfl;obtain⟨p4,q5⟩:=Yb o4 i9;have f4:=l9.lt;have t3:=i9.size;clear c9 o4 i9 l9;gi_wp2_with fail;refine⟨trivial,?_⟩;refine(eL.2 (Qq2 w3 ⟨some gk,ck⟩ t.2.length)).mono ?_;rintro e w4 ⟨rfl,c6,c4⟩;dsimp only at c4;rw[<-g5]at c4;have f7:=Qq3 c4 (λj v hv=>by
  have:=p4.o j v hv;rw[Qbc,aD]at this;exact(c6.cell f4).trans this) (ab f4 c6.size) oM k9 oM
 have r5:=hY f7;have a8:=q5.o.trans c6;obtain⟨j1,n4,a0⟩:=Yc (q2.o.ext a8) (l7.o.ext a8) a8;have v6:=c6.size;have t0:=c4.lt;have s8:=n4.o.lt;clear f7 a8 c4 c6;gi_wp2_with fail;have o7:∀b,E b->b<w4.heap.size:=λb I=>(j1.o.EX b I).2.1
 have n9:∀b,row=some b->b<w4.heap.size:=λb I=>(j1.o.rlt b I).2
 obtain⟨j0,e8⟩:=Yb o7 n9;clear o7 n9;refine Qg6 (gf:=203) (lb:=#[.pointer (some w3)]) rfl (ff func203 kM rfl) r5.o (Agree.refl _) (ao _)
  (λb I=>oM) (λ_=>rfl)
  (λpre C W'=>Qvb F E lo X row (x.ns.dropLast++(QcE n t).reverse.take pre.length) (x.o+1) w4 W.heap.size pre.length C W') (λ_ _ _=>False) (λb=>b=X\/row=some b)
  (λb I=>⟨I.elim (λe=>oM) (e8.o b),λh=>by
    rcases I with rfl|I
    .omega
    rw[b0.o]at I;simp only[Option.some.injEq]at I;omega⟩)
  (λ{s C W1 W2} h k=>?turn) (λh k=>h) (λW' hW hz=>?start) ?round ?done ?stop
 case turn=>
  obtain⟨⟨r,rfl,hc,hr⟩,a5,a2⟩:=h;refine⟨⟨r,rfl,hc.st k ?_,hr⟩,a5.then k (λb I e=>oM),k.blk a2 oM⟩;rintro b (I|I|rfl|I) e
  .have:=b7.o b I;omega
  .have:=j0.o b I;omega
  .omega
  rcases hr b I with h|h
  .have:=e8.o b h;omega
  omega
 case start=>
  refine⟨⟨row,rfl,?_,λb I=>.inl I⟩,hW.st _,n4.o.ext hW⟩;have h0:=j1.o.ext hW;rw[q3]at h0;have h1:Cur F E lo X row ⟨[],x.ns.dropLast,x.o+1⟩ W':=h0;simpa using h1
 case stop=>
  rintro D c pre W' hD v7 hX d3;exact hX.elim
 case round=>
  rintro pre C q v3 W1 ⟨⟨r,rfl,hc,hr⟩,a5,a2⟩ r0 x3 w8 f8 hG;obtain⟨qi,qv⟩:=q;have q7:qi+pre.length+1=t.2.length:=by have:=hG.at_;rw[g5]at this;exact this
  have q8:qi<t.2.length:=oM
  obtain⟨kd,e3⟩:∃kd,t.2[qi]? = some kd:=⟨_,ac q8⟩;obtain rfl:ptr n kd=qv:=by
   have h1:(ptrs n t.2)[qi]? = some qv:=hG.val;rw[ptrs,ar,e3]at h1;simpa using h1
  have f1:(QcE n t).reverse[pre.length]? = some ⟨n,kd⟩:=by
   have hl:(QcE n t).length=t.2.length:=by simp[QcE]
   rw[List.getElem?_reverse oM,show(QcE n t).length-1-pre.length=qi from oM,QcE,ar,e3];rfl
  obtain⟨ns,b6⟩:∃ns,x.ns.dropLast++(QcE n t).reverse.take pre.length=ns:=⟨_,rfl⟩;have a9:x.ns.dropLast++(QcE n t).reverse.take (pre++[((qi,ptr n kd):Nat × Value)]).length=ns++[⟨n,kd⟩]:=by
   rw[aj,bA,aJ,f1,<-b6];simp
  have p0:(Qat.mk [] ns (x.o+1)).tot+QbQ n kd<=1000000:=by
   have h1:=Qlk (QcE n t).reverse (pre.length+1);have h2:=j9.o;rw[Qfm]at h2;have h3:Qbd (x.ns.dropLast++(QcE n t).reverse.take (pre.length+1))=Qbd ns+QbQ n kd:=by
    rw[aj,bA]at a9;rw[a9,Qen]
   rw[Qfm]at h3;show x.o+1+Qbd ns+QbQ n kd<=1000000;omega
  rw[b6]at hc;obtain⟨k6,l1,HC,b5,r2,o0,HR⟩:=Yh a9 p0 hc a5 a2 f8 hr;have o2:=hY e3;clear hG f1 b6 a9 p0 hc a5 a2 f8 hr e3 q7 r0;gi_wp2_with fail;refine⟨gh _,λW3 k3=>?_⟩;have e6:=(o0.o.st _).trans k3;have o9:∀b,QiY F E X r b->¬b=w4.heap.size+1:=by
   rintro b (I|I|rfl|I) e
   .have:=b7.o b I;omega
   .have:=j0.o b I;omega
   .omega
   rcases HR.o b I with h|h
   .have:=e8.o b h;omega
   omega
  have d8:=HC.o.st e6 o9;have a3:=e6.blk r2.o oM;obtain⟨t9,b9,v5,e1,b1,s1,o1,r1⟩:=d8.ex;have r9:ns.length<=1000000:=d8.len;have cX:W3.cell? ⟨X,1,none⟩=some (.slice b9.a ns.length b9.c):=b1.cell 1;have fX:=b1.frozen 1;have e4:=b1.lt;have cB:W3.cell? W=some (Qf1 X):=a3.cell 0;have lB:=a3.lt;have d0:Ext W3 (W3.drew.alloc (.cells #[ptr n kd] 46)):=((gh W3).drew).alloc _ _;have f0:b9.row≠some X:=by rw[r1];exact d8.ne
  have b4:b9.row≠some W.heap.size:=by
   rw[r1];intro e;rcases HR.o _ e with h|h
   .rw [b0.o]at h;simp only[Option.some.injEq]at h;omega
   omega
  obtain⟨a7,j4,i7⟩:=Yc (Qab o1 (d0.agree λb (I:b<W3)=>I) (λb I=>(Qad o1 I).2)) (gA (size:=1) (n:=1) (cs:=[ptr n kd]) (gm W3.drew 46 #[ptr n kd]) oN rfl) (show ∀W',Ext W3 W'->W'.cell? W=some (Qf1 X) fromλW' hW=>(a3.ext hW).cell 0);have l4:ns.length+1<=maxLen:=by unfold maxLen;omega
  have o6:(ns.length+1)*8<=140737488355328:=oM
  have a4:lo<=(W3.drew.alloc (.cells #[ptr n kd] 46)).heap.size:=by rw[eK,fC];omega
  have j5:∀u∈[ptr n kd],u.oneCell'=true:=by intro u hu;rw[aV.1 hu];rfl
  obtain⟨k7,o5,j7,l0,e0,b8,Z⟩:=Yh d8 e1 b1 s1 r1 e6 d0;have f9:=hY a3;clear k3 e6 o9 d8 a3 e1 b1 s1 o1 r1 d0;dsimp only[ptr]at Z a7 j4 a4 j5 ⊢;gi_wp2_with fail;refine Qe4 (S:=(λw'=>w'.cell? W=some (Qf1 X))) kM (by rintro⟨a,w,h⟩;exact h) kM ((i7.o _ ((gh W3).drew))) (λhHeld=>?_);refine Qar 0 (some 39) hHeld ?_;refine Qar 1 (some 40) hHeld ?_;refine Qar 2 (some 41) hHeld ?_;refine Qar 3 (some 42) hHeld ?_;refine Qar 5 (some 44) hHeld ?_;refine Qix (i:=4) (j:=6) kM rfl rfl (by rfl) (by rfl) (λK hK=>?_) (λK hK=>?_)
  ·go_simp
   skip
   refine hK.out _ _ (hHeld) (λhHeld=>?_);clear hK K
   try go_frame
   refine Qac (i:=6) kM rfl (by rfl) (λK hK=>?_);go_simp
   skip
   refine hK.out _ _ (i7.o _ (((gh W3).drew).alloc _ _)) (λhHeld=>?_);clear hK K
   try go_frame
   refine Qac (i:=7) kM rfl (by rfl) (λK hK=>?_)
   skip
   refine Qdl _ (.tmp 43) (.tmp 45) 108 rfl lo 46 i0 _ 1 8 underlying108 hi k8 k1 j8 rfl oN b9 ns.length (ns.map AN.p) (by rfl) a7.o (λb=>b=W3.drew.heap.size) ⟨some W3.drew,1⟩ 1 [.pointer (some ⟨addr n kd,0,none⟩)] (by rfl) j4.o j5 l4 o6 a4 ?_;intro s3 w5 a1 N d4;have h5:=N.cell0 (o:=1) Z.o f0 e4;have r8:=h5.1.trans cX;have r4:=h5.2;have p9:=(N.fz X 1).trans ((Z.o.frozen (o:=1) e4).trans fX);have d6:=(N.cell0 (o:=0) Z.o b4 lB).1.trans cB;obtain⟨i5,j2,g9⟩:=Yc a1 N d4;clear a1 N d4 h5;refine hK.out _ _ (d6) (λhHeld=>?_);clear hK K
   try go_frame
   refine Qar 8 (some 47) hHeld ?_;refine Qar 9 (some 48) hHeld ?_;refine Qac (i:=10) kM rfl (by rfl) (λK hK=>?_);go_simp
   skip
   refine hK.out _ _ (((World.cell?_setCell_far _ _ _ _ c8).trans d6)) (λhHeld=>?_);clear hK K
   try go_frame
   refine eV kM ?_ _;gi_wp2_with fail;have i2:∀b,F b->W3.heap[b]? = W.heap[b]?:=λb I=>by
    have:=b7.o b I;have k2:=c0.o.size;have k4:=a0.o.size;have k5:=b5.o.size;refine(b8.o.block b oM oM).trans ((b5.o.block b oM ?_).trans ((a0.o.heap oM).trans (c0.o.block b oM oM)));rintro(e|e)
    .omega
    rw[b0.o]at e;simp only[Option.some.injEq]at e;omega
   obtain⟨-,sq,-,-,a6⟩:=i3.o W3 i2;have hp:=k7.o.push (W4:=W3.drew.alloc (.cells #[.pointer (some ⟨addr n kd,0,none⟩)] 46)) (a:=⟨n,kd⟩) o5.o j7.o l0.o e0.o Z.o i5.o j2.o g9.o (a6 kd (am o2.o)) l1.o;have o8:=b8.o.size;refine⟨λb=>b=X\/s3.row=some b,⟨⟨s3.row,rfl,?_,λb I=>?_⟩,?_,?_⟩,hp.2.1,λb I=>?_,λb I=>?_⟩
   .rw [k6.o];exact hp.1
   ·rcases (hp.2.2 b I).1 with e | e
    .exact HR.o b e
    exact .inr oM
   ·refine (b5.o.then b8.o (fun b I e=>oM)).then hp.2.1 fun b I e=>?_
    rcases e with e|e
    .exact .inl e
    rcases HR.o b e with e|e
    .exact .inr e
    omega
   ·refine hp.2.1.blk f9.o ?_
    rintro(e|e)
    .omega
    exact b4 (by rw[e0.o];exact e)
   ·rcases I with e | e
    .exact .inl (.inl e)
    exact(hp.2.2 b e).1.elim (λe=>.inl (.inr e)) .inr
   rw[eP];rcases I with e|e
   .omega
   exact(hp.2.2 b e).2
  go_simp
  skip
  refine hK.out _ _ (i7.o _ (((gh W3).drew).alloc _ _)) (λhHeld=>?_);clear hK K
  try go_frame
  refine Qac (i:=4) kM rfl (by rfl) (λK hK=>?_);go_simp
  skip
  refine hK.out _ _ (hHeld) (λhHeld=>?_);clear hK K
  try go_frame
  refine Qac (i:=7) kM rfl (by rfl) (λK hK=>?_)
  skip
  refine Qdl _ (.tmp 43) (.tmp 45) 108 rfl lo 46 i0 _ 1 8 underlying108 hi k8 k1 j8 rfl oN b9 ns.length (ns.map AN.p) (by rfl) a7.o (λb=>b=W3.drew.heap.size) ⟨some W3.drew,1⟩ 1 [.pointer (some ⟨addr n kd,0,none⟩)] (by rfl) j4.o j5 l4 o6 a4 ?_;intro s3 w5 a1 N d4;have h5:=N.cell0 (o:=1) Z.o f0 e4;have r8:=h5.1.trans cX;have r4:=h5.2;have p9:=(N.fz X 1).trans ((Z.o.frozen (o:=1) e4).trans fX);have d6:=(N.cell0 (o:=0) Z.o b4 lB).1.trans cB;obtain⟨i5,j2,g9⟩:=Yc a1 N d4;clear a1 N d4 h5;refine hK.out _ _ (d6) (λhHeld=>?_);clear hK K
  try go_frame
  refine Qar 8 (some 47) hHeld ?_;refine Qar 9 (some 48) hHeld ?_;refine Qac (i:=10) kM rfl (by rfl) (λK hK=>?_);go_simp
  skip
  refine hK.out _ _ (((World.cell?_setCell_far _ _ _ _ c8).trans d6)) (λhHeld=>?_);clear hK K
  try go_frame
  refine eV kM ?_ _;gi_wp2_with fail;have i2:∀b,F b->W3.heap[b]? = W.heap[b]?:=λb I=>by
   have:=b7.o b I;have k2:=c0.o.size;have k4:=a0.o.size;have k5:=b5.o.size;refine(b8.o.block b oM oM).trans ((b5.o.block b oM ?_).trans ((a0.o.heap oM).trans (c0.o.block b oM oM)));rintro(e|e)
   .omega
   rw[b0.o]at e;simp only[Option.some.injEq]at e;omega
  obtain⟨-,sq,-,-,a6⟩:=i3.o W3 i2;have hp:=k7.o.push (W4:=W3.drew.alloc (.cells #[.pointer (some ⟨addr n kd,0,none⟩)] 46)) (a:=⟨n,kd⟩) o5.o j7.o l0.o e0.o Z.o i5.o j2.o g9.o (a6 kd (am o2.o)) l1.o;have o8:=b8.o.size;refine⟨λb=>b=X\/s3.row=some b,⟨⟨s3.row,rfl,?_,λb I=>?_⟩,?_,?_⟩,hp.2.1,λb I=>?_,λb I=>?_⟩
  .rw [k6.o];exact hp.1
  ·rcases (hp.2.2 b I).1 with e | e
   .exact HR.o b e
   exact .inr oM
  ·refine (b5.o.then b8.o (fun b I e=>oM)).then hp.2.1 fun b I e=>?_
   rcases e with e|e
   .exact .inl e
   rcases HR.o b e with e|e
   .exact .inr e
   omega
  ·refine hp.2.1.blk f9.o ?_
   rintro(e|e)
   .omega
   exact b4 (by rw[e0.o];exact e)
  ·rcases I with e | e
   .exact .inl (.inl e)
   exact(hp.2.2 b e).1.elim (λe=>.inl (.inr e)) .inr
  rw[eP];rcases I with e|e
  .omega
  exact(hp.2.2 b e).2
 rintro D qs C W5 hD hS ⟨⟨r,rfl,hc,hr⟩,a5,a2⟩ d3;have n8:qs.length=t.2.length:=by
  have:=congrArg List.length hS;simp only[List.length_map,List.length_reverse]at this;rw[this];exact g5
 have p2:(QcE n t).reverse.take qs.length=(QcE n t).reverse:=aW (by simp[QcE,n8]);rw[p2]at hc;have t5:=(az.1 d3).1;have i8:St (λb=>b=D) W5 (W5.putObj D (.deferred none)):=St.put d3 rfl rfl;have g3:Qex F E lo X row x W (.returned (.tuple #[])) (W5.putObj D (.deferred none)):=by
  refine⟨rfl,E,r,?_,?_,λb I=>.inl I,λb I=>?_⟩
  ·rw [q9.o,r7.o]
   refine hc.st i8 ?_;rintro b (I|I|rfl|I) e
   .have:=b7.o b I;omega
   .have:=j0.o b I;omega
   .omega
   rcases hr b I with h|h
   .have:=e8.o b h;omega
   omega
  ·have h1:=((c0.o.mono (G:=fun b=>b=X∨row=some b) fun i _ hi=>.inl hi).trans (a0.o.st _)).trans a5
   exact h1.then i8 λb I e=>by have:=a0.o.size;omega
  rcases hr b I with h|h
  .exact .inl h
  exact .inr (by have:=a0.o.size;omega)
 obtain⟨l5,q6⟩:=Yb g3 d3;clear hc hr a5 a2 d3 hS i8 g3 p2 n8;gi_wp2_with fail;refine⟨oO,.inl ⟨_,_,rfl,fF q6.o,?_⟩⟩;exact⟨.tuple #[],by simp[results,results136,go_sem],l5.o⟩
theorem Qmr(h:Cur F E lo X row x W){a:AN}(I:x.node=some a)(ok:a.ok):Calls prog 136 #[Qf1 X] W (Qex F E lo X row x W):=by
 obtain⟨n,t⟩:=a;cases n with
 |zero=>exact Qp0 h I
 |succ n=>exact QnB h I ok.1
end
end Go.Proofs.YtdiecmkpbadgjaaGreatDoor
namespace Go.Proofs.YtdiecmkpbadgjaaGreatDoor
open Go.Proofs.Tryz
open Go.RowKit
structure Qov{α:Type}(P:Program)(l:Nat)(encs:α->Array Value)(lo:Nat)(G:Nat->List α->α->(Nat->Prop)->World->Prop)(J:List α->(Nat->Prop)->(Nat->Prop)->World->Prop)(Jx:List α->(Nat->Prop)->World->Prop):Prop where
 lt:∀pre C D W,J pre C D W->∀b,C b->b<W.heap.size
 take:∀pre C D D1 x W0 W1,J pre C D W0->St D W0 W1->(∀b,D1 b->D b\/W0.heap.size<=b)->(∀b,D1 b->lo<=b/\b<W1.heap.size)->(∀b,C b->¬D1 b)->G lo pre x (λb=>D1 b\/C b) W1->YieldAt Fence.wide 4 P l (encs x) W1 λe W'=>
  (e=.returned (.bool true)/\∃C',J (pre++[x]) C' D1 W'/\St C W1 W'/\∀b,C' b->C b\/W1.heap.size<=b)\/(e=.returned (.bool false)/\Jx (pre++[x]) D1 W'/\St C W1 W')
def Qt4{α:Type}(P:Program)(g:Nat)(lb:Array Value)(encs:α->Array Value)(K:Nat->Prop)(G:Nat->List α->α->(Nat->Prop)->World->Prop)(S Sp:List α->Prop)(w0:World):Prop:=
 ∀(l:Nat) (J:List α->(Nat->Prop)->(Nat->Prop)->World->Prop) (Jx:List α->(Nat->Prop)->World->Prop) (C:Nat->Prop) (W:World),Qov P l encs W.heap.size G J Jx->Agree K w0 W->w0.heap.size<=W.heap.size->(∀b,C b->¬K b)->J [] C (λ_=>False) W->
  Calls P g (#[.func (.yield l) #[] #[]]++lb) W λe W'=>(∃v,e=.returned v)/\((∃xs C' D W0,S xs/\J xs C' D W0/\St D W0 W'/\(∀b,D b->W.heap.size<=b))\/(∃pre D W0,Sp pre/\Jx pre D W0/\St D W0 W'/\(∀b,D b->W.heap.size<=b)))
def Qp2{α:Type}(C:Nat->Prop)(D1:Nat->Prop)(I:List α->(Nat->Prop)->(Nat->Prop)->World->Prop)(Ix:Code->List α->(Nat->Prop)->World->Prop)(xs:List α)(W:World):Exit->Act->World->Prop
 |.normal,_,W'=>∃C',I xs C' D1 W'/\St C W W'/\(∀b,C' b->C b\/W.heap.size<=b)/\(∀b,C' b->b<W'.heap.size)
 |.ret,_,W'=>St C W W'/\Ix .ret xs D1 W'
 |.exit id,_,W'=>St C W W'/\Ix (.exit id) xs D1 W'
 |.goto t,_,W'=>St C W W'/\Ix (.goto t) xs D1 W'
 |.panic _,_,_=>False
 |.outgrown,_,_=>False
variable{n gf:Nat}{P:Program}{assign body:Code}{Q:Exit->Act->World->Prop}{a:Act}{w w0:World}
theorem QkL{α:Type}{g:Operand}{ps:Array Tmp} 
 {lb:Array Value} (hg:a.eval g=.func (.func gf) #[] lb) (eg:∀ args w,(callFunc gf args).run P w=.ok (.enter gf args) w)
  {encs:α->Array Value} {K:Nat->Prop} {G:Nat->List α->α->(Nat->Prop)->World->Prop} {S Sp:List α->Prop} (hseq:Qt4 P gf lb encs K G S Sp w0)
  (hA:Agree K w0 w) (hsz:w0.heap.size<=w.heap.size) (hK:∀b,K b->b<w.heap.size) (hps:∀x,(encs x).size=ps.size)
  (I:List α->(Nat->Prop)->(Nat->Prop)->World->Prop) (Ix:Code->List α->(Nat->Prop)->World->Prop) (C₀:Nat->Prop) (hC:∀b,C₀ b->b<w.heap.size/\¬K b)
  (hI:∀{s C D W W'},I s C D W->St (λb=>b=w.heap.size+1) W W'->I s C D W') (hIx:∀{c s D W W'},Ix c s D W->St (λb=>b=w.heap.size+1) W W'->Ix c s D W')
  (h0:∀W,Ext w W->w.heap.size+2<=W.heap.size->I [] C₀ (λ_=>False) W)
  (hround:∀(pre:List α) (C D D1:Nat->Prop) (x:α) (W0 W1:World),I pre C D W0->(∀b,C b->b<W0.heap.size)->w.heap.size+2<=W0.heap.size->¬C (w.heap.size+1)->St D W0 W1->(∀b,D1 b->D b\/W0.heap.size<=b)->(∀b,D1 b->w.heap.size+2<=b/\b<W1.heap.size)->(∀b,C b->¬D1 b)->G (w.heap.size+2) pre x (λb=>D1 b\/(C b\/b=w.heap.size+1)) W1->
    assign.wpIn (Fence.wide.inRound (w.heap.size+1)) 4 P (Exit.then (λa1 W2=>Ext W1 W2/\∀W3,St (λb=>b=w.heap.size+1) W2 W3->body.wpIn (Fence.wide.inRound (w.heap.size+1)) 4 P (Qp2 C D1 I Ix (pre++[x]) W3) a1 W3) (λ_ _ _=>False))
     { tmps:=(ps.zip (encs x)).foldl (λt (p,v)=>t.setIfInBounds p v) a.tmps,defers:=[] } W1)
  (hdone:∀(D:Nat) (xs:List α) (C Di:Nat->Prop) (W0 W:World),D=w.heap.size->S xs->I xs C Di W0->St (λb=>Di b\/b=w.heap.size+1) W0 W->(∀b,Di b->w.heap.size+2<=b)->W.heap[D]? = some (.deferred (some []))->Q .normal { a with defers:={ target:=.collected D,args:=#[] }::a.defers } W)
  (hstop:∀(D:Nat) (c:Code) (pre:List α) (Di:Nat->Prop) (W0 W:World),D=w.heap.size->Sp pre->Ix c pre Di W0->St (λb=>Di b\/b=w.heap.size+1) W0 W->(∀b,Di b->w.heap.size+2<=b)->W.heap[D]? = some (.deferred (some []))->c.wpIn Fence.wide n P Q { a with defers:={ target:=.collected D,args:=#[] }::a.defers } W) :
  (Code.rangeFunc g ps assign body).wpIn Fence.wide n P Q a w:=by
 refine wpIn_rangeFunc λfn hfn=>?_
 rw[show Fence.wide.round=none from rfl]
 -- the loop's record at each of its states;where it lies,and the block of the rounds' deferred calls
 let rec_:LoopState->Option Code->Obj:=λst pe=>.loop { state:=st,pending:=pe,fn,tmps:=a.tmps,params:=ps,assign,body,defers:=w.heap.size }
 let BK:LoopState->Option Code->World->Prop:=λst pe W=>W.heap[w.heap.size+1]? = some (rec_ st pe)/\W.heap[w.heap.size]? = some (.deferred (some []))
 have bkL:∀{st pe W},BK st pe W->w.heap.size+1<W.heap.size:=λh=>(az.1 h.1).1
 have bkE:∀{st pe W W'},BK st pe W->Ext W W'->BK st pe W':=λh he=>⟨(he.heap (az.1 h.1).1).trans h.1,(he.heap (az.1 h.2).1).trans h.2⟩
 have bkS:∀{st pe W W'} {C:Nat->Prop},BK st pe W->St C W W'->¬C (w.heap.size+1)->¬C w.heap.size->BK st pe W':=λh hk h1 h2=>⟨(hk.block _ (bkL h) h1).trans h.1,(hk.block _ (by have:=bkL h;omega) h2).trans h.2⟩
 have bkP:∀{st pe W} (st':LoopState) (pe':Option Code),BK st pe W->BK st' pe' (W.putObj (w.heap.size+1) (rec_ st' pe'))/\St (λb=>b=w.heap.size+1) W (W.putObj (w.heap.size+1) (rec_ st' pe')):=λst' pe' h=>
  ⟨⟨World.putObj_heap_same (az.1 h.1).1,(fr oM).trans h.2⟩,St.put h.1 rfl rfl⟩
 have e1:Ext w (w.alloc (.deferred (some []))):=Qfe w _ λW i j h=>by simp[World.frozen?,h]
 have e2:Ext (w.alloc (.deferred (some []))) ((w.alloc (.deferred (some []))).alloc (rec_ .ready none)):=Qfe _ _ λW i j h=>by simp[World.frozen?,h,rec_]
 have hrun:=run_enterLoop_outer (P:=P) (w:=w) fn a.tmps ps assign body;have bk1:BK .ready none ((w.alloc (.deferred (some []))).alloc (rec_ .ready none)):=
  ⟨by have:=fq (w.alloc (.deferred (some []))) (rec_ .ready none);rwa[eK]at this,(eY _ _ _ oO).trans (fq w _)⟩
 have eW:=e1.trans e2;have hs1:((w.alloc (.deferred (some []))).alloc (rec_ .ready none)).heap.size=w.heap.size+2:=oO
 change _=Result.ok _ ((w.alloc (.deferred (some []))).alloc (rec_ .ready none))at hrun;generalize (w.alloc (.deferred (some []))).alloc (rec_ .ready none)=W1 at *;refine⟨w+1,_,W1,{ target:=.fn (.func gf) lb,args:=#[.func (.yield (w.heap.size+1)) #[] #[]] },W1,gf,#[.func (.yield (w.heap.size+1)) #[] #[]]++lb,W1,hrun,?_,?_,?_,λh=>by simp[Fence.wide]at h,?_⟩
 ·simp only [resolve,hg]
  simp[go_sem]
 .intro f' hf';trivial
 .simp [invoke,go_sem,eg]
 refine eL.2 ((hseq (w.heap.size+1) (λpre C D W=>∃C0:Nat->Prop,C=(λb=>C0 b\/b=w.heap.size+1)/\I pre C0 D W/\(∀b,C0 b->b<W.heap.size)/\¬C0 (w.heap.size+1)/\¬C0 w.heap.size/\BK .ready none W/\(∀b,D b->w.heap.size+2<=b)/\w.heap.size+2<=W.heap.size) (λpre D W=>∃c,Ix c pre D W/\BK .done (some c) W/\(∀b,D b->w.heap.size+2<=b)) (λb=>C₀ b\/b=w.heap.size+1) W1 ⟨?_,?_⟩ (hA.trans (eW.agree hK)) (ak hsz eW.size) ?_
  ⟨C₀,rfl,h0 W1 eW oM,λb hb=>by have:=(hC b hb).1;omega,λh=>by have:=(hC _ h).1;omega,λh=>by have:=(hC _ h).1;omega,bk1,λ_ h=>h.elim,oM⟩).mono ?_)
 ·rintro pre C D W ⟨C0,rfl,-,hlt,-,-,hbk,-⟩ b (hb | rfl)
  .exact hlt b hb
  exact bkL hbk
 ·rintro pre C D D1 x W0 Wy ⟨C0,rfl,hi,hlt,nL,nD,hbk,hDl,hz0⟩ hx hD1 hD1l hCD hgd
  have hbk1:=bkS hbk hx (λh=>by have:=hDl _ h;omega) (λh=>by have:=hDl _ h;omega);have hD2:∀b,D1 b->w.heap.size+2<=b/\b<Wy.heap.size:=λb hb=>by have:=hD1l b hb;omega
  have hl0:=bkL hbk;refine⟨fn,_,assign,body,run_yield (args:=encs x) hbk1.1 (hps x),roundIn_of_wpIn hfn (ge (hround pre C0 D D1 x W0 Wy hi hlt oM nL hx hD1 hD2 (λb hb=>hCD b (.inl hb)) (by rw[hs1]at hgd;exact hgd)) ?_)⟩;rintro e a3 W2 hp;cases e with
  | normal=>
    obtain⟨hx2,hb⟩:=hp;have hbk2:=bkE hbk1 hx2;obtain⟨hbk3,ht3⟩:=bkP .busy none hbk2;refine⟨_,run_beginRound hbk2.1 rfl,ge (hb _ ht3) ?_⟩;have hl3:=bkL hbk3;generalize W2.putObj (w.heap.size+1) (rec_ .busy none)=W3 at *;rintro e a4 W4 hq;cases e with
    | normal=>
      obtain⟨C',hi4,hst,hsub,hlt4⟩:=hq;have hbk4:=bkS hbk3 hst nL nD;obtain⟨hbk5,ht5⟩:=bkP .ready none hbk4;refine⟨_,_,fi none hbk4.1,.inl ⟨rfl,_,⟨C',rfl,hI hi4 ht5,λb hb=>ab (hlt4 b hb) ht5.size,λh=>?_,λh=>?_,hbk5,λb hb=>(hD2 b hb).1,ak (show w.heap.size+2<=W4.heap.size by have:=hx.size;have:=hx2.size;have:=ht3.size;have:=hst.size;omega) ht5.size⟩,?_,?_⟩⟩
      ·rcases hsub _ h with h | h
       .exact nL h
       omega
      ·rcases hsub _ h with h | h
       .exact nD h
       omega
      .exact (((hx2.st _).trans (ht3.mono λi _ hi=>.inr hi)).trans (hst.mono λi _ hi=>.inl hi)).trans (ht5.mono λi _ hi=>.inr hi)
      rintro b (hb|rfl)
      ·rcases hsub b hb with h | h
       .exact .inl (.inl h)
       exact .inr (by have:=hx2.size;have:=ht3.size;omega)
      exact .inl (.inr rfl)
    | ret=>
      have hbk4:=bkS hbk3 hq.1 nL nD;obtain⟨hbk5,ht5⟩:=bkP .done (some .ret) hbk4;exact⟨_,_,fi (some .ret) hbk4.1,.inr ⟨rfl,⟨.ret,hIx hq.2 ht5,hbk5,λb hb=>(hD2 b hb).1⟩,(((hx2.st _).trans (ht3.mono λi _ hi=>.inr hi)).trans (hq.1.mono λi _ hi=>.inl hi)).trans (ht5.mono λi _ hi=>.inr hi)⟩⟩
    | exit id=>
      have hbk4:=bkS hbk3 hq.1 nL nD;obtain⟨hbk5,ht5⟩:=bkP .done (some (.exit id)) hbk4;exact⟨_,_,fi (some (.exit id)) hbk4.1,.inr ⟨rfl,⟨.exit id,hIx hq.2 ht5,hbk5,λb hb=>(hD2 b hb).1⟩,(((hx2.st _).trans (ht3.mono λi _ hi=>.inr hi)).trans (hq.1.mono λi _ hi=>.inl hi)).trans (ht5.mono λi _ hi=>.inr hi)⟩⟩
    | goto t=>
      have hbk4:=bkS hbk3 hq.1 nL nD;obtain⟨hbk5,ht5⟩:=bkP .done (some (.goto t)) hbk4;exact⟨_,_,fi (some (.goto t)) hbk4.1,.inr ⟨rfl,⟨.goto t,hIx hq.2 ht5,hbk5,λb hb=>(hD2 b hb).1⟩,(((hx2.st _).trans (ht3.mono λi _ hi=>.inr hi)).trans (hq.1.mono λi _ hi=>.inl hi)).trans (ht5.mono λi _ hi=>.inr hi)⟩⟩
    |panic ch=>exact hq.elim
    |outgrown=>exact hq.elim
  |ret=>exact hp.elim
  |exit id=>exact hp.elim
  |goto t=>exact hp.elim
  |panic ch=>exact hp.elim
  |outgrown=>exact hp.elim
 ·rintro b (hb | rfl) hk
  .exact (hC b hb).2 hk
  have:=hK _ hk;omega
 rintro e W2 ⟨⟨v,rfl⟩,(⟨xs,C,D,W0,hS,⟨C0,rfl,hi,-,-,-,hbk,hDl,-⟩,hx,-⟩ |⟨pre,D,W0,hSp,⟨c,hi,hbk,hDl⟩,hx,-⟩)⟩
 ·have hbk2:=bkS hbk hx (fun h=>by have:=hDl _ h;omega) (fun h=>by have:=hDl _ h;omega)
  obtain⟨hbk5,ht5⟩:=bkP .exhausted none hbk2;exact⟨none,_,fY hbk2.1 oO,hdone _ xs C0 D W0 _ rfl hS hi ((hx.mono λi _ hi=>.inl hi).trans (ht5.mono λi _ hi=>.inr hi)) hDl hbk5.2⟩
 have hbk2:=bkS hbk hx (λh=>by have:=hDl _ h;omega) (λh=>by have:=hDl _ h;omega);obtain⟨hbk5,ht5⟩:=bkP .exhausted (some c) hbk2;exact⟨some c,_,fY hbk2.1 oO,hstop _ c pre D W0 _ rfl hSp hi ((hx.mono λi _ hi=>.inl hi).trans (ht5.mono λi _ hi=>.inr hi)) hDl hbk5.2⟩
open Go.Shelf
theorem QlK{c:Code}(h:c.wpIn Fence.wide n P (Exit.noGoto Q) a w):(Code.scope c).wpIn Fence.wide n P Q a w:=ga.2 (wp_scope_straight (ga.1 h))
abbrev Qs9(x:CE):Array Value:=#[x.agg]
structure QsN(all:List Chg)(lo:Nat)(pre:List CE)(x:CE)(D1:Nat->Prop)(W1:World):Prop where
 at_:all[pre.length]? = some x.c
 pre_:pre.map CE.c=all.take pre.length
 val:CR W1 (λb=>lo<=b/\b<W1.heap.size/\¬D1 b) x
def Own(X Y:Nat)(rx ry:Option Nat)(b:Nat):Prop:=b=X\/b=Y\/rx=some b\/ry=some b
structure WalkM(F F':Nat->Prop)(lo X Y:Nat)(C:Nat->Prop)(J:List CE->(Nat->Prop)->(Nat->Prop)->World->Prop)(W00:World)(x y:Qat)(rx ry:Option Nat)(Ex Ey:Nat->Prop)(pre:List CE)(C' D:Nat->Prop)(Wj wr:World):Prop where
 j:J pre C' D Wj
 jst:St D Wj wr
 cx:Cur F Ex lo X rx x wr
 cy:Cur F' Ey lo Y ry y wr
 own:∀b,Own X Y rx ry b->D b\/Wj.heap.size<=b
 low:∀b,D b->lo<=b
 apart:∀b,(b=X\/rx=some b)->¬QiY F' Ey Y ry b
 apart':∀b,(b=Y\/ry=some b)->¬QiY F Ex X rx b
 disC:∀b,C' b->¬QiY F Ex X rx b/\¬QiY F' Ey Y ry b
 clt:∀b,C' b->b<Wj.heap.size
 st:St C W00 wr
 sub:∀b,C' b->C b\/lo<=b
 base:W00.heap.size=lo
section
variable{F F' : Nat -> Prop}{lo X Y : Nat}{C : Nat -> Prop}{J : List CE ->(Nat -> Prop) ->(Nat -> Prop) -> World -> Prop}{W00 : World}{x y : Qat}{rx ry : Option Nat}{Ex Ey : Nat -> Prop}{pre : List CE}{C' D : Nat -> Prop}{Wj wr w' : World}
theorem WalkM.ext(h:WalkM F F' lo X Y C J W00 x y rx ry Ex Ey pre C' D Wj wr)(k:Ext wr w'):WalkM F F' lo X Y C J W00 x y rx ry Ex Ey pre C' D Wj w':=
 ⟨h.j,h.jst.ext k,h.cx.ext k,h.cy.ext k,h.own,h.low,h.apart,h.apart',h.disC,h.clt,h.st.ext k,h.sub,h.base⟩
theorem WalkM.Qu1(h:WalkM F F' lo X Y C J W00 x y rx ry Ex Ey pre C' D Wj wr){x':Qat}{Z:Option Nat}{N:Nat->Prop}(k:St (λb=>b=X\/rx=some b) wr w')(hc:Cur F N lo X Z x' w')(hE:∀b,N b->Ex b\/wr.heap.size<=b)(hr:∀b,Z=some b->rx=some b\/wr.heap.size<=b) :
  WalkM F F' lo X Y C J W00 x' y Z ry N Ey pre C' D Wj w':=by
 have hs:=h.jst.size;have a1:∀b,QiY F' Ey Y ry b->b<wr.heap.size:=h.cy.kl h.cy.low;have a0:∀b,QiY F N X Z b->QiY F Ex X rx b\/wr.heap.size<=b:=by
  rintro b (I|I|I|I)
  .exact .inl (.inl I)
  .exact (hE b I).imp (λh=>.inr (.inl h)) id
  .exact .inl (.inr (.inr (.inl I)))
  exact(hr b I).imp (λh=>.inr (.inr (.inr h))) id
 refine⟨h.j,h.jst.then k λi hi hk=>?_,hc,h.cy.st k λb I e=>h.apart b e I,λb I=>?_,h.low,λb I hh=>?_,λb I hh=>?_,λb I=>⟨λhh=>?_,(h.disC b I).2⟩,h.clt,h.st.then k λi hi hk=>?_,h.sub,h.base⟩
 ·rcases h.own i (hk.elim (fun e=>.inl e) (fun e=>.inr (.inr (.inl e)))) with e | e
  .exact e
  omega
 ·rcases I with I | I | I | I
  .exact h.own b (.inl I)
  .exact h.own b (.inr (.inl I))
  ·rcases hr b I with e | e
   .exact h.own b (.inr (.inr (.inl e)))
   exact .inr oM
  exact h.own b (.inr (.inr (.inr I)))
 ·rcases I with I | I
  .exact h.apart b (.inl I) hh
  rcases hr b I with e|e
  .exact h.apart b (.inr e) hh
  have:=a1 b hh;omega
 ·have hl:b<wr:=a1 b (I.elim (fun e=>.inr (.inr (.inl e))) (fun e=>.inr (.inr (.inr e))))
  rcases a0 b hh with e|e
  .exact h.apart' b I e
  omega
 ·have:=h.clt b I
  rcases a0 b hh with e|e
  .exact (h.disC b I).1 e
  omega
 have I:=h.base;rcases hk with e|e
 .have:=h.cx.lX;omega
 have:=(h.cx.rlt i e).1;omega
theorem WalkM.Qu2(h:WalkM F F' lo X Y C J W00 x y rx ry Ex Ey pre C' D Wj wr){y':Qat}{Z:Option Nat}{N:Nat->Prop}(k:St (λb=>b=Y\/ry=some b) wr w')(hc:Cur F' N lo Y Z y' w')(hE:∀b,N b->Ey b\/wr.heap.size<=b)(hr:∀b,Z=some b->ry=some b\/wr.heap.size<=b) :
  WalkM F F' lo X Y C J W00 x y' rx Z Ex N pre C' D Wj w':=by
 have hs:=h.jst.size;have a0:∀b,QiY F Ex X rx b->b<wr.heap.size:=h.cx.kl h.cx.low;have a1:∀b,QiY F' N Y Z b->QiY F' Ey Y ry b\/wr.heap.size<=b:=by
  rintro b (I|I|I|I)
  .exact .inl (.inl I)
  .exact (hE b I).imp (λh=>.inr (.inl h)) id
  .exact .inl (.inr (.inr (.inl I)))
  exact(hr b I).imp (λh=>.inr (.inr (.inr h))) id
 refine⟨h.j,h.jst.then k λi hi hk=>?_,h.cx.st k λb I e=>h.apart' b e I,hc,λb I=>?_,h.low,λb I hh=>?_,λb I hh=>?_,λb I=>⟨(h.disC b I).1,λhh=>?_⟩,h.clt,h.st.then k λi hi hk=>?_,h.sub,h.base⟩
 ·rcases h.own i (hk.elim (fun e=>.inr (.inl e)) (fun e=>.inr (.inr (.inr e)))) with e | e
  .exact e
  omega
 ·rcases I with I | I | I | I
  .exact h.own b (.inl I)
  .exact h.own b (.inr (.inl I))
  .exact h.own b (.inr (.inr (.inl I)))
  rcases hr b I with e|e
  .exact h.own b (.inr (.inr (.inr e)))
  exact .inr oM
 ·have hl:b<wr:=a0 b (I.elim (fun e=>.inr (.inr (.inl e))) (fun e=>.inr (.inr (.inr e))))
  rcases a1 b hh with e|e
  .exact h.apart b I e
  omega
 ·rcases I with I | I
  .exact h.apart' b (.inl I) hh
  rcases hr b I with e|e
  .exact h.apart' b (.inr e) hh
  have:=a0 b hh;omega
 ·have:=h.clt b I
  rcases a1 b hh with e|e
  .exact (h.disC b I).2 e
  omega
 have I:=h.base;rcases hk with e|e
 .have:=h.cy.lX;omega
 have:=(h.cy.rlt i e).1;omega
theorem WalkM.QvT(h:WalkM F F' lo X Y C J W00 x y rx ry Ex Ey pre C' D Wj wr){b:Nat}(I:Own X Y rx ry b):QiY F Ex X rx b\/QiY F' Ey Y ry b:=by
 rcases I with I|I|I|I
 .exact .inl (.inr (.inr (.inl I)))
 .exact .inr (.inr (.inr (.inl I)))
 .exact .inl (.inr (.inr (.inr I)))
 exact .inr (.inr (.inr (.inr I)))
theorem WalkM.Qzc(h:WalkM F F' lo X Y C J W00 x y rx ry Ex Ey pre C' D Wj wr){b:Nat}(I:Own X Y rx ry b):lo<=b/\b<wr:=by
 rcases I with rfl|rfl|I|I
 .exact ⟨h.cx.lX,h.cx.lt⟩
 .exact ⟨h.cy.lX,h.cy.lt⟩
 .exact h.cx.rlt b I
 exact h.cy.rlt b I
theorem WalkM.QtI(h:WalkM F F' lo X Y C J W00 x y rx ry Ex Ey pre C' D Wj wr):∀b,Ex b->lo<=b/\b<wr.heap.size/\¬(Own X Y rx ry b\/C' b):=λb I=>by
 obtain⟨Z,e2,N,e4⟩:=h.cx.EX b I;refine⟨Z,e2,?_⟩;rintro((e|e|e|e)|e)
 .exact N e
 .exact h.apart' b (.inl e) (.inr (.inl I))
 .exact e4 e
 .exact h.apart' b (.inr e) (.inr (.inl I))
 exact(h.disC b e).1 (.inr (.inl I))
theorem WalkM.QuO(h:WalkM F F' lo X Y C J W00 x y rx ry Ex Ey pre C' D Wj wr):∀b,Ey b->lo<=b/\b<wr.heap.size/\¬(Own X Y rx ry b\/C' b):=λb I=>by
 obtain⟨Z,e2,N,e4⟩:=h.cy.EX b I;refine⟨Z,e2,?_⟩;rintro((e|e|e|e)|e)
 .exact h.apart b (.inl e) (.inr (.inl I))
 .exact N e
 .exact h.apart b (.inr e) (.inr (.inl I))
 .exact e4 e
 exact(h.disC b e).2 (.inr (.inl I))
theorem WalkM.told(h:WalkM F F' lo X Y C J W00 x y rx ry Ex Ey pre C' D Wj wr){c:CE}{C6:Nat->Prop}(hj:J (pre++[c]) C6 (Own X Y rx ry) w')(a0:∀b,C6 b->b<w'.heap.size)(Z:St C' wr w')(N:∀b,C6 b->C' b\/wr.heap.size<=b) :
  WalkM F F' lo X Y C J W00 x y rx ry Ex Ey (pre++[c]) C6 (Own X Y rx ry) w' w':=by
 have a1:∀b,QiY F Ex X rx b->b<wr.heap.size:=h.cx.kl h.cx.low;have a2:∀b,QiY F' Ey Y ry b->b<wr.heap.size:=h.cy.kl h.cy.low;have a3:=h.cx.low;refine⟨hj,gB _ _,h.cx.st Z λb I e=>(h.disC b e).1 I,h.cy.st Z λb I e=>(h.disC b e).2 I,λb I=>.inl I,λb I=>(h.Qzc I).1,h.apart,h.apart',λb I=>⟨λhh=>?_,λhh=>?_⟩,a0,h.st.then Z λi hi hk=>?_,λb I=>?_,h.base⟩
 ·rcases N b I with e | e
  .exact (h.disC b e).1 hh
  have:=a1 b hh;omega
 ·rcases N b I with e | e
  .exact (h.disC b e).2 hh
  have:=a2 b hh;omega
 ·have I:=h.base
  rcases h.sub i hk with e|e
  .exact e
  omega
 rcases N b I with e|e
 .exact h.sub b e
 exact .inr oM
theorem WalkM.yields{l:Nat}{all:List Chg}{Jx:List CE->(Nat->Prop)->World->Prop}(h:WalkM F F' lo X Y C J W00 x y rx ry Ex Ey pre C' D Wj wr)(hT:Qov prog l Qs9 lo (λlo=>QsN all lo) J Jx){c:CE}{rest:List Chg}(I:all=pre.map CE.c++(c.c::rest))(hc:CR wr (λb=>lo<=b/\b<wr/\¬(Own X Y rx ry b\/C' b)) c) :
  YieldAt Fence.wide 4 prog l (Qs9 c) wr λe W'=>(e=.returned true/\∃Z,J (pre++[c]) Z (Own X Y rx ry) W'/\St C' wr W'/\∀b,Z b->C' b\/wr.heap.size<=b)\/(e=.returned false/\Jx (pre++[c]) (Own X Y rx ry) W'/\St C' wr W'):=by
 refine hT.take pre C' D (Own X Y rx ry) c Wj wr h.j h.jst h.own (λb N=>h.Qzc N) (λb N ho=>?_) ⟨?_,?_,hc⟩
 ·rcases h.QvT ho with e | e
  .exact (h.disC b N).1 e
  exact(h.disC b N).2 e
 .rw [I,aP oO];simp
 rw[I,List.take_left' oO]
end
attribute [local go_sem] Oper.semAt_some
theorem QjA(w:World)(p q:Option Addr)(Z:QsP w p)(hq:QsP w q):(binOp .eql 46 (.pointer p) (.pointer q)).run prog w=.ok (.bool (decide (p=q))) w:=by
 obtain⟨j,N,hz⟩:=Qth;cases p with
 | none=>
   cases q with
   | none=>
     have h:∀d:Nat,(Op.equalIn (d+1) 46 (.pointer none) (.pointer none)).run prog w=.ok true w:=λd=>by
      simp[Op.equalIn,run_underlying underlying46]
     simp only[binOp];simp[Op.equal,Op.maxDepth,h 9999]
   |some b=>rw[Qjz w b underlying46];simp
 | some a=>
   cases q with
   | none=>
     have h:∀d:Nat,(Op.equalIn (d+1) 46 (.pointer (some a)) (.pointer none)).run prog w=.ok false w:=λd=>by
      simp[Op.equalIn,run_underlying underlying46]
     simp only[binOp];simp[Op.equal,Op.maxDepth,h 9999]
   | some b=>
     by_cases I:a=b
     ·subst I
      rw[run_eql_ptr_same (P:=prog) w a underlying46 N];simp
     obtain⟨ca,ta,ha⟩:=Z a rfl;obtain⟨cb,tb,hb⟩:=hq b rfl;rw[run_eql_ptr_other (P:=prog) _ underlying46 N hz I ha hb];simp[I]
def Qu5(x:Qat)(px:Option Addr)(hz:Int)(fx lx:ByteArray)(b:Bool):Prop:=
 (x.gone/\b=false/\px=none)\/(∃e es,x.es=e::es/\b=true/\px=none/\hz = -1/\fx=e.1/\lx=e.1/\x.first=e.1/\x.last=e.1)\/
 (∃(a:AN) (A:Addr),x.node=some a/\b=true/\px=some A/\A=⟨a.at_,0,none⟩/\hz=a.1/\fx=x.first/\lx=x.last)
variable{W:World}
theorem Ql6{F E:Nat->Prop}{lo X:Nat}{row:Option Nat}{x:Qat}(h:Cur F E lo X row x W):∃(px:Option Addr) (hz:Int) (fx lx:ByteArray) (b:Bool),
  (∀W',Ext W W'->Calls prog 134 #[Qf1 X] W' λe w'=>e=.returned (.tuple #[.agg #[.pointer px,hz,fx,lx],.bool b])/\Ext W' w')/\Qu5 x px hz fx lx b:=by
 by_cases hg:x.gone
 ·refine ⟨none,x.height,x.first,x.last,false,fun W' Z=>?_,.inl ⟨hg,rfl,rfl⟩⟩
  have:=Qpj (h.ext Z) hg;have N:x.Qhd=.pointer none:=by
   obtain⟨es,ns,o⟩:=x;obtain⟨rfl,rfl⟩:es=[]/\ns=[]:=hg;rfl
  unfold Qb7 at this;rwa[N]at this
 cases I:x.node with
 | none=>
   obtain⟨e,es,he⟩:=Qat.QpT I hg;obtain⟨-,h1,h2,-⟩:=x.Qcg he;refine⟨none,x.height,x.first,x.last,true,λW' Z=>?_,.inr (.inl ⟨e,es,he,rfl,rfl,x.Qcy he,h1,h2,h1,h2⟩)⟩;have:=Qng (h.ext Z) he;have N:x.Qhd=.pointer none:=by unfold Qat.Qhd;rw[I]
   unfold Qb7 at this;rwa[N]at this
 | some a=>
   refine⟨some a.at_,x.height,x.first,x.last,true,λW' Z=>?_,.inr (.inr ⟨a,_,I,rfl,rfl,rfl,x.Qc6 I,rfl,rfl⟩)⟩;have:=Qpi (h.ext Z) I;have N:x.Qhd=.pointer (some a.at_):=by unfold Qat.Qhd;rw[I];rfl
   unfold Qb7 at this;rwa[N]at this
variable{F:Nat->Prop}{h:Nat}
theorem IsN.QsD{t:PT h}(hn:IsN w F h t){p:Option Addr}(N:p=some ⟨addr h t,0,none⟩):QsP w p:=by
 intro a I;rw[N]at I;obtain rfl:(⟨addr h t,0,none⟩:Addr)=a:=by simpa using I
 obtain⟨-,_,_,_,_,-,Z⟩:=hn.cells;exact⟨_,_,Z⟩
variable{F':Nat->Prop}
theorem QpU{a b:AN}(Z:IsN w F a.1 a.2)(I:IsN w F' b.1 b.2)(e:a.at_=b.at_):a=b:=by
 obtain⟨h,t⟩:=a;obtain⟨h',t'⟩:=b;have N:=Z.heights I e;dsimp only at N;subst N;have:=Z.det I e;dsimp only at this;rw[this]
def Qi6(F F':Nat->Prop)(lo X Y:Nat)(x0 y0:Qat)(all:List Chg)(C:Nat->Prop)(J:List CE->(Nat->Prop)->(Nat->Prop)->World->Prop)(Jx:List CE->(Nat->Prop)->World->Prop)(W00:World)(e:Ending)(w':World):Prop:=
 e=.returned (.tuple #[])/\((∃x y rx ry Ex Ey pre C' D Wj,WalkM F F' lo X Y C J W00 x y rx ry Ex Ey pre C' D Wj w'/\Run x0 y0 x y (pre.map CE.c)/\x.gone/\y.gone)\/
  (∃pre D,Jx pre D w'/\(∀b,D b->lo<=b)/\pre.map CE.c <+: all/\St C W00 w'))
theorem Qfp{x0 Z x y x' y':Qat}{l m:List Chg}{c:Chg}(h:Run x0 Z x y l)(I:x0.ok)(N:Z.ok)(hs:Step x y x' y' [c]):chg x0.cont Z.cont=l++(c::chg x'.cont y'.cont):=by
 rw[h.chg I N,hs.chg (h.ok I N).1 (h.ok I N).2];rfl
theorem QiS{l:List Chg}{c:Chg}{rest:List Chg}:l++[c] <+: l++(c::rest):=⟨rest,oO⟩
theorem Qju{lo X Y l:Nat}{C:Nat->Prop}{J:List CE->(Nat->Prop)->(Nat->Prop)->World->Prop}{Jx:List CE->(Nat->Prop)->World->Prop}{W00:World}{x0 y0:Qat}{k8 k9:Option Nat}{k6 l9:Nat->Prop}{C0 D0:Nat->Prop}{n2 W:World}{all:List Chg}
  (hT:Qov prog l Qs9 lo (λlo=>QsN all lo) J Jx) (hS:WalkM F F' lo X Y C J W00 x0 y0 k8 k9 k6 l9 [] C0 D0 n2 W) (e4:x0.ok) (e2:y0.ok) (i2:all=chg x0.cont y0.cont) :
  Calls prog 98 #[Qf1 X,Qf1 Y,.func (.yield l) #[] #[]] W (Qi6 F F' lo X Y x0 y0 all C J Jx W00):=by
 obtain⟨HT,l5,c0,b9,c1⟩:=Yf hT hS e4 e2 i2;clear hT hS e4 e2 i2;refine(eL (n:=5)).1 ?_;refine fK func98 rfl trivial ?_ rfl;simp only[ntmps98,zL,Nat.reduceAdd,Nat.reduceSub];gi_wp2_with fail;refine QlK ?_;gi_wp2_with fail;refine wpIn_label ?_;gi_wp2_with fail;gi_loopg [] (x0.wt+y0.wt) (λk wr=>∃(x y:Qat) (rx ry:Option Nat) (Ex Ey:Nat->Prop) (pre:List CE) (C' D:Nat->Prop) (Wj:World),x.wt+y.wt=k/\WalkM F F' lo X Y C J W00 x y rx ry Ex Ey pre C' D Wj wr/\Run x0 y0 x y (pre.map CE.c))
 case atStart=>exact⟨x0,y0,_,_,_,_,[],_,_,_,rfl,l5.o,Run.start⟩
 obtain⟨x,y,rx,ry,Ex,Ey,pre,C',D,Wj,rfl,hS,e6⟩:=hrel;obtain⟨px,c6,fx,lx,bx,j5,i8⟩:=Ql6 hS.cx;obtain⟨py,d6,fy,ly,o0,j0,i9⟩:=Ql6 hS.cy;obtain⟨e4,e2⟩:=e6.ok c0.o b9.o;obtain⟨HS,a1,n6,l6,l7,k5,k7⟩:=Yh hS e6 j5 j0 i8 i9 e4;have l3:=hY e2;clear hS e6 j5 j0 e4 e2 i8 i9;gi_wp2_with fail;refine⟨trivial,?_⟩;refine(eL.2 (n6.o wr (gh wr))).mono ?_;rintro e w1 ⟨rfl,j1⟩;have g5:=j1.alloc #[.pointer px,.int .i64 c6,.string fx,.string lx] 194;have j8:=gm w1 194 #[.pointer px,.int .i64 c6,.string fx,.string lx];obtain⟨j4,l8⟩:=Yb g5 j8;clear j1 g5 j8;gi_wp2_with fail;refine⟨trivial,?_⟩;refine(eL.2 (l6.o _ j4.o)).mono ?_;rintro e w2 ⟨rfl,i6⟩;have c3:=l8.o.ext i6;have p0:w2.cell? w1=some (.pointer px):=c3.cell 0;have p1:w2.cell? ⟨w1,1,none⟩=some (.int .i64 c6):=c3.cell 1;have p2:w2.cell? ⟨w1,2,none⟩=some (.string fx):=c3.cell 2;have p3:w2.cell? ⟨w1,3,none⟩=some (.string lx):=c3.cell 3;have lp:=c3.lt;have k1:=(j4.o.trans i6).alloc #[.pointer py,.int .i64 d6,.string fy,.string ly] 194;have a2:=hY (HS.o.ext k1);clear i6 k1 c3;rcases l7.o with⟨c8,rfl,rfl⟩ |⟨e,o2,a9,rfl,rfl,rfl,b6,a8,f3,f0⟩ |⟨a,A,a5,rfl,rfl,hA,e3,b6,a8⟩
 all_goals first
  |(have g8:x.node=none:=by unfold Qat.node;rw[eH c8.1,c8.2];rfl)
  | (have g8:x.node=none:=by unfold Qat.node;rw [eE (by rw [a9];simp)]
     have d8:¬x.gone:=λh=>by rw[h.1]at a9;cases a9
     obtain⟨l1,i7⟩:=Yb b6 a8
     replace b6:=b6.trans f3.symm
     replace a8:=a8.trans f0.symm
     clear f3 f0)
  | (have d8:¬x.gone:=fun h=>by have:=(x.QaQ a5).2.2;rw [h.2] at this;cases this
     have n9:(-1:Int)<c6:=oM
     have n7:¬c6<(-1:Int):=oM
     obtain⟨HA,k4⟩:=Yb hA e3;clear hA e3)
 all_goals try(have f9:=hY b6;have i4:=hY a8;clear b6 a8)
 all_goals rcases k5.o with⟨c7,rfl,rfl⟩ |⟨f,o1,b0,rfl,rfl,rfl,b6,a8,f3,f0⟩ |⟨b,B,a6,rfl,rfl,hB,e3,b6,a8⟩
 all_goals first
  |(have g9:y.node=none:=by unfold Qat.node;rw[eH c7.1,c7.2];rfl)
  | (have g9:y.node=none:=by unfold Qat.node;rw [eE (by rw [b0];simp)]
     have d7:¬y.gone:=λh=>by rw[h.1]at b0;cases b0
     obtain⟨n4,j2⟩:=Yb b6 a8
     replace b6:=b6.trans f3.symm
     replace a8:=a8.trans f0.symm
     clear f3 f0)
  | (have d7:¬y.gone:=fun h=>by have:=(y.QaQ a6).2.2;rw [h.2] at this;cases this
     have n8:(-1:Int)<d6:=oM
     have l4:¬d6<(-1:Int):=oM
     obtain⟨HB,j9⟩:=Yb hB e3;clear hB e3)
 all_goals try(have f8:=hY b6;have i5:=hY a8;clear b6 a8)
 all_goals first
  | (have k0:=QjA (w2.alloc (.cells #[.pointer (some B),d6,fy,ly] 194)) (some A) (some B) ((a2.o.cx.nodes a (bO (x.QaQ a5).2.2)).QsD (by rw [HA.o];rfl)) ((a2.o.cy.nodes b (bO (y.QaQ a6).2.2)).QsD (by rw [HB.o];rfl))
     by_cases e0:a.at_=b.at_
     all_goals first
      | (have i3:=hY (show y.node=some a by rw [a6,QpU (a2.o.cx.nodes a (bO (x.QaQ a5).2.2)) (a2.o.cy.nodes b (bO (y.QaQ a6).2.2)) e0])
         rw[show decide (some A=some B)=true by rw[HA.o.trans (congrArg (λz=>(⟨z,0,none⟩:Addr)) e0),HB.o];simp]at k0;clear e0)
      | (rw [show decide (some A=some B)=false from eG fun h=>by
          simp only[Option.some.injEq]at h;rw[HA.o,HB.o,Addr.mk.injEq]at h;exact e0 h.1]at k0
         have d0:=hY (show ¬Qsm x y fromλ⟨a',b',h1,h2,h3⟩=>by
          rw[a5]at h1;rw[a6]at h2;obtain rfl:a=a':=by simpa using h1
          obtain rfl:b=b':=by simpa using h2
          exact e0 h3)
         clear e0))
  | (have k2:¬Qsm x y:=fun ⟨a',b',h1,h2,h3⟩=>by first | (rw [g8] at h1;cases h1) | (rw [g9] at h2;cases h2)
     have d0:=hY k2;clear k2)
 any_goals (
  have _q:=And.intro d8 (And.intro d7 d0);clear _q;cases g3:klt lx fy;cases g0:klt ly fx
  first
  | (have _q:=And.intro a5 a6
     clear _q;by_cases hg:d6<c6
     rotate_left
     by_cases o3:c6<d6)
  |skip
  all_goals (
   have f1:=hY g3
   replace g3:Op.bytesLess lx.toList fy.toList=_:=g3
   try(have f4:=hY g0;replace g0:Op.bytesLess ly.toList fx.toList=_:=g0)
   try have HG:=hY hg))
 all_goals first
  |(have mE:=And.intro c8 c7)
  |(have mC:=And.intro c8 b0)
  |(have g4:=And.intro c8 a6)
  |(have mG:=And.intro a9 c7)
  |(have f7:=And.intro a5 c7)
  |(have mS:=i3)
  | (have _q:Op.bytesLess lx.toList fy.toList=true:=g3
     first |(have mG:=a9) |(have f7:=a5))
  | (have _q:Op.bytesLess ly.toList fx.toList=true:=g0
     first |(have mC:=b0) |(have g4:=a6))
  |(have mB:=And.intro a9 b0)
  |(have g4:=And.intro a9 a6)
  |(have f7:=And.intro a5 b0)
  |(have f7:d6<c6:=hg)
  |(have g4:=a6)
 all_goals (try clear _q)
 all_goals gi_wp2_with fail
 any_goals (
  clear mE;have b8:=hY (show Qi6 F F' lo X Y x0 y0 all C J Jx W00 (.returned (.tuple #[])) _ from⟨rfl,.inl ⟨x,y,_,_,_,_,pre,_,_,_,a2.o,a1.o,c8,c7⟩⟩);go_end0;exact b8.o)
 any_goals (
  clear mS;refine⟨trivial,?_⟩;refine(eL.2 (Qf9 a2.o.cx a5)).mono ?_;rintro e' w4 ⟨rfl,a4,N⟩;have b3:=hY (a2.o.Qu1 (N.mono λi _ hi=>.inl hi) a4 (λb hb=>.inl hb) (λb hb=>.inl hb));clear a4 N p0 p1 p2 p3 lp;gi_wp2_with fail;refine⟨trivial,?_⟩;refine(eL.2 (Qf9 b3.o.cy i3.o)).mono ?_;rintro e' w5 ⟨rfl,e8,c2⟩;obtain⟨b5,I⟩:=Yb (b3.o.Qu2 (c2.mono λi _ hi=>.inl hi) e8 (λb hb=>.inl hb) (λb hb=>.inl hb)) (show Step x y x.skip y.skip []from .skip a5 i3.o);have b4:=hY (show Run x0 y0 x.skip y.skip (pre.map CE.c)by have:=a1.o.step I.o;rwa[aU]at this);clear e8 c2;gi_wp2_with fail;gi_roundg (x.skip.wt+y.skip.wt)
  case rel=>exact⟨x.skip,y.skip,_,_,_,_,_,_,_,_,rfl,b5.o,b4.o⟩
  exact I.o.wt)
 any_goals (
  clear f7;refine⟨trivial,?_⟩;refine(eL.2 (Qmr a2.o.cx a5 (k7.o a (bO (x.QaQ a5).2.2)))).mono ?_;rintro e' w4 ⟨rfl,E4,r4,a4,N,f2,a7⟩;have b5:=hY (a2.o.Qu1 N a4 f2 a7);have I:=hY (show Step x y x.open_ y []from by
   first
   |exact .openX a5 d0.o (.inl c7)
   |exact .openX a5 d0.o (.inr (.inl (by rw[<-i4.o,<-f8.o];exact f1.o)))
   |exact .openX a5 d0.o (.inr (.inr ⟨by rw[<-i4.o,<-f8.o];exact f1.o,by rw[<-i5.o,<-f9.o];exact f4.o,d7,by first |(rw[y.Qcy b0];omega) |(rw[y.Qc6 a6,<-k4.o,<-j9.o];exact HG.o)⟩)))
  have b4:=hY (show Run x0 y0 x.open_ y (pre.map CE.c)by have:=a1.o.step I.o;rwa[aU]at this);clear a4 N f2 a7;clear p0 p1 p2 p3 lp;gi_wp2_with fail;gi_roundg (x.open_.wt+y.wt)
  case rel=>exact⟨x.open_,y,_,_,_,_,_,_,_,_,rfl,b5.o,b4.o⟩
  exact I.o.wt)
 any_goals (
  clear g4;refine⟨trivial,?_⟩;refine(eL.2 (Qmr a2.o.cy a6 (l3.o b (bO (y.QaQ a6).2.2)))).mono ?_;rintro e' w4 ⟨rfl,E4,r4,a4,N,f2,a7⟩;have b5:=hY (a2.o.Qu2 N a4 f2 a7);have I:=hY (show Step x y x y.open_ []from by
   first
   |exact .openY a6 d0.o (.inl c8)
   |exact .openY a6 d0.o (.inr (.inl (by rw[<-i5.o,<-f9.o];exact f4.o)))
   |exact .openY a6 d0.o (.inr (.inr ⟨by rw[<-i4.o,<-f8.o];exact f1.o,by rw[<-i5.o,<-f9.o];exact f4.o,d8,by first |(rw[x.Qcy a9];omega) |(rw[x.Qc6 a5,<-k4.o,<-j9.o];exact HG.o)⟩)))
  have b4:=hY (show Run x0 y0 x y.open_ (pre.map CE.c)by have:=a1.o.step I.o;rwa[aU]at this);clear a4 N f2 a7;clear p0 p1 p2 p3 lp;gi_wp2_with fail;gi_roundg (x.wt+y.open_.wt)
  case rel=>exact⟨x,y.open_,_,_,_,_,_,_,_,_,rfl,b5.o,b4.o⟩
  exact I.o.wt)
 any_goals (
  clear mG;refine⟨trivial,?_⟩;refine(eL.2 (Qga a2.o.cx a9)).mono ?_;rintro e' w4 ⟨sl,so,rfl,a4,N,a7,d3⟩;have I:=hY (show Step x y x.take y [Qiu e]from by
   first
   |exact .gone a9 (.inl c7)
   |exact .gone a9 (.inr ⟨d7,by rw[<-i7.o,<-f8.o];exact f1.o⟩))
  obtain⟨b3,e1⟩:=Yb (a2.o.Qu1 (N.mono λi _ hi=>.inl hi) a4 (λb hb=>.inl hb) (λb hb=>.inl hb)) (Qtc a7 d3);clear a4 N a7 d3 p0 p1 p2 p3 lp;gi_wp2_with fail;refine⟨trivial,?_⟩;refine(eL.2 (Qrq w4 e sl so)).mono ?_;rintro e' w5 ⟨rfl,d4⟩;have a0:=hY (b3.o.ext d4);have e7:=hY ((e1.o.agree (d4.agree λb hb=>(b3.o.QtI b hb).2.1)).mono (a0.o.QtI));clear d4;obtain⟨fn,i0,assign,body,hy,hR⟩:=a0.o.yields HT.o (c1.o.trans (Qfp (m:=[]) a1.o c0.o b9.o I.o)) e7.o;have HR:=hY hR;clear hR;dsimp only[Qs9]at hy;gi_wp2_with fail;refine HR.o.mono ?_;rintro e' w6 (⟨rfl,C6,b7,Z,a3⟩ |⟨rfl,c9,Z⟩)
  ·have b5:=hY (a0.o.told b7 (HT.o.lt _ _ _ _ b7) Z a3)
   have b4:=hY (show Run x0 y0 x.take y ((pre++[QjH e sl so]).map CE.c)by rw[aB];exact a1.o.step I.o);clear b7 Z a3 hy;gi_wp2_with fail;gi_roundg (x.take.wt+y.wt)
   case rel=>exact⟨x.take,y,_,_,_,_,_,_,_,_,rfl,b5.o,b4.o⟩
   exact I.o.wt
  have b8:=hY (show Qi6 F F' lo X Y x0 y0 all C J Jx W00 (.returned (.tuple #[])) w6 from⟨rfl,.inr ⟨_,_,c9,λb hb=>(a0.o.Qzc hb).1,by rw[c1.o,Qfp (m:=[]) a1.o c0.o b9.o I.o,aB];exact QiS,a0.o.st.then Z λi hi hk=>(a0.o.sub i hk).elim id λh=>by have:=a0.o.base;omega⟩⟩);clear c9 Z hy;gi_wp2_with fail;go_end0;exact b8.o)
 any_goals (
  clear mC;refine⟨trivial,?_⟩;refine(eL.2 (Qga a2.o.cy b0)).mono ?_;rintro e' w4 ⟨sl,so,rfl,a4,N,a7,d3⟩;have I:=hY (show Step x y x y.take [Qjn f]from by
   first
   |exact .come b0 (.inl c8)
   |exact .come b0 (.inr ⟨d8,by rw[<-j2.o,<-f9.o];exact f4.o⟩))
  obtain⟨b3,e1⟩:=Yb (a2.o.Qu2 (N.mono λi _ hi=>.inl hi) a4 (λb hb=>.inl hb) (λb hb=>.inl hb)) (Qs4 a7 d3);clear a4 N a7 d3 p0 p1 p2 p3 lp;gi_wp2_with fail;refine⟨trivial,?_⟩;refine(eL.2 (Qrc w4 f sl so)).mono ?_;rintro e' w5 ⟨rfl,d4⟩;have a0:=hY (b3.o.ext d4);have e7:=hY ((e1.o.agree (d4.agree λb hb=>(b3.o.QuO b hb).2.1)).mono (a0.o.QuO));clear d4;obtain⟨fn,i0,assign,body,hy,hR⟩:=a0.o.yields HT.o (c1.o.trans (Qfp (m:=[]) a1.o c0.o b9.o I.o)) e7.o;have HR:=hY hR;clear hR;dsimp only[Qs9]at hy;gi_wp2_with fail;refine HR.o.mono ?_;rintro e' w6 (⟨rfl,C6,b7,Z,a3⟩ |⟨rfl,c9,Z⟩)
  ·have b5:=hY (a0.o.told b7 (HT.o.lt _ _ _ _ b7) Z a3)
   have b4:=hY (show Run x0 y0 x y.take ((pre++[Qjo f sl so]).map CE.c)by rw[aB];exact a1.o.step I.o);clear b7 Z a3 hy;gi_wp2_with fail;gi_roundg (x.wt+y.take.wt)
   case rel=>exact⟨x,y.take,_,_,_,_,_,_,_,_,rfl,b5.o,b4.o⟩
   exact I.o.wt
  have b8:=hY (show Qi6 F F' lo X Y x0 y0 all C J Jx W00 (.returned (.tuple #[])) w6 from⟨rfl,.inr ⟨_,_,c9,λb hb=>(a0.o.Qzc hb).1,by rw[c1.o,Qfp (m:=[]) a1.o c0.o b9.o I.o,aB];exact QiS,a0.o.st.then Z λi hi hk=>(a0.o.sub i hk).elim id λh=>by have:=a0.o.base;omega⟩⟩);clear c9 Z hy;gi_wp2_with fail;go_end0;exact b8.o)
 any_goals (
  clear mB;have j6:e.1=f.1:=QbE (by rw[<-i7.o,<-n4.o];exact f1.o) (by rw[<-j2.o,<-l1.o];exact f4.o);have l2:=hY j6;clear j6;refine⟨trivial,?_⟩;refine(eL.2 (Qga a2.o.cx a9)).mono ?_;rintro e' w4 ⟨sl,so,rfl,a4,N,a7,d3⟩;obtain⟨b3,j7,j3⟩:=Yc (a2.o.Qu1 (N.mono λi _ hi=>.inl hi) a4 (λb hb=>.inl hb) (λb hb=>.inl hb)) a7 d3;clear a4 N a7 d3 p0 p1 p2 p3 lp;gi_wp2_with fail;refine⟨trivial,?_⟩;refine(eL.2 (Qga b3.o.cy b0)).mono ?_;rintro e' w5 ⟨sl',so',rfl,e8,c2,k3,l0⟩;have g6:=j7.o.agree (c2.agree.mono λb hb=>⟨(b3.o.QtI b hb).2.1,λe=>(b3.o.QtI b hb).2.2 (.inl (.inr (.inl e)))⟩);obtain⟨c4,i1,f5,I⟩:=Ye (b3.o.Qu2 (c2.mono λi _ hi=>.inl hi) e8 (λb hb=>.inl hb) (λb hb=>.inl hb)) g6 k3 (show Step x y x.take y.take (Qq4 e f)from .both a9 b0 l2.o);clear e8 c2 k3 l0 g6;gi_wp2_with fail;refine⟨trivial,?_⟩;refine(eL.2 (QmU (e:=e) (f:=f) (i1.o.mono λb hb=>(c4.o.QtI b hb).2.1) (f5.o.mono λb hb=>(c4.o.QuO b hb).2.1))).mono ?_;rintro e' w7 ⟨rfl,f6⟩;by_cases hc:Qbq e.2 f.2=0
  ·rw [eH hc,eG (by simp [hc])]
   have d5:=f6.alloc #[.string ByteArray.empty,.bool false,.int .i64 0,.bool false,.int .i64 0,.string ByteArray.empty,.slice none 0 0,.slice none 0 0,.bool false,.int .i64 0,.bool false,.int .i64 0,.string ByteArray.empty,.slice none 0 0,.slice none 0 0] 92;obtain⟨b5,b4⟩:=Yb (c4.o.ext d5) (show Run x0 y0 x.take y.take (pre.map CE.c)by have:=a1.o.step I.o;rwa[Qq4,eH hc,aU]at this);rw[show QsK.agg=.agg #[ByteArray.empty,false,.int .i64 0,false,.int .i64 0,ByteArray.empty,.slice none 0 0,.slice none 0 0,false,.int .i64 0,false,.int .i64 0,ByteArray.empty,.slice none 0 0,.slice none 0 0]from rfl];clear f6 d5 hc;gi_wp2_with fail;refine⟨λ_ h=>absurd h oO,?_⟩;gi_wp2_with fail;gi_roundg (x.take.wt+y.take.wt)
   case rel=>exact⟨x.take,y.take,_,_,_,_,_,_,_,_,rfl,b5.o,b4.o⟩
   exact I.o.wt
  rw[eE hc,eI hc];have d5:=f6.alloc #[.string e.1,.bool true,.int .i64 e.2.kind,.bool e.2.b,.int .i64 e.2.i,.string e.2.t,.slice sl.a e.2.l.length sl.c,.slice so.a e.2.ok.length so.c,.bool true,.int .i64 f.2.kind,.bool f.2.b,.int .i64 f.2.i,.string f.2.t,.slice sl'.a f.2.l.length sl'.c,.slice so'.a f.2.ok.length so'.c] 92;obtain⟨a0,g7⟩:=Yb (c4.o.ext d5) (show Step x y x.take y.take [⟨e.1,true,e.2,true,f.2⟩]by have:=I.o;rwa[Qq4,eE hc]at this);have e7:=hY (show CR _ (λb=>lo<=b/\b<_/\¬(Own X Y rx ry b\/C' b)) (QoC e f sl so sl' so')from⟨(i1.o.agree (d5.agree λb hb=>(c4.o.QtI b hb).2.1)).mono a0.o.QtI,(f5.o.agree (d5.agree λb hb=>(c4.o.QuO b hb).2.1)).mono a0.o.QuO,j3.o⟩);clear I;have I:=g7;rw[show(QoC e f sl so sl' so').agg=.agg #[e.1,true,e.2.kind,e.2.b,e.2.i,e.2.t,.slice sl.a e.2.l.length sl.c,.slice so.a e.2.ok.length so.c,true,f.2.kind,f.2.b,f.2.i,f.2.t,.slice sl'.a f.2.l.length sl'.c,.slice so'.a f.2.ok.length so'.c]from rfl];clear f6 d5 hc g7;obtain⟨fn,i0,assign,body,hy,hR⟩:=a0.o.yields HT.o (c1.o.trans (Qfp (m:=[]) a1.o c0.o b9.o I.o)) e7.o;have HR:=hY hR;clear hR;dsimp only[Qs9,QoC,CE.agg,CE.cells]at hy;gi_wp2_with fail;refine HR.o.mono ?_;rintro e' w6 (⟨rfl,C6,b7,Z,a3⟩ |⟨rfl,c9,Z⟩)
  ·have b5:=hY (a0.o.told b7 (HT.o.lt _ _ _ _ b7) Z a3)
   have b4:=hY (show Run x0 y0 x.take y.take ((pre++[QoC e f sl so sl' so']).map CE.c)by rw[aB];exact a1.o.step I.o);clear b7 Z a3 hy;gi_wp2_with fail;gi_roundg (x.take.wt+y.take.wt)
   case rel=>exact⟨x.take,y.take,_,_,_,_,_,_,_,_,rfl,b5.o,b4.o⟩
   exact I.o.wt
  have b8:=hY (show Qi6 F F' lo X Y x0 y0 all C J Jx W00 (.returned (.tuple #[])) w6 from⟨rfl,.inr ⟨_,_,c9,λb hb=>(a0.o.Qzc hb).1,by rw[c1.o,Qfp (m:=[]) a1.o c0.o b9.o I.o,aB];exact QiS,a0.o.st.then Z λi hi hk=>(a0.o.sub i hk).elim id λh=>by have:=a0.o.base;omega⟩⟩);clear c9 Z hy;gi_wp2_with fail;go_end0;exact b8.o)
end Go.Proofs.YtdiecmkpbadgjaaGreatDoor
namespace Go.Proofs.YtdiecmkpbadgjaaGreatDoor
open Go.Proofs.Tryz
open Go.RowKit Go.Shelf
theorem Qj3{h:Nat}:∀l:List (PT h),(∀k∈l,QbQ h k+1<=2*(ents h k).length)->(l.map (QbQ h)).sum+l.length<=2*(l.flatMap (ents h)).length
 |[],_=>oO
 | k :: l,hk=>by
   have h1:=hk k aF;have h2:=Qj3 l λx I=>hk x (aS _ I)
   simp only[List.map_cons,List.sum_cons,List.length_cons,List.flatMap_cons,List.length_append];omega
theorem Qmn:∀(h:Nat) (t:PT h),OkT h t->1<=size h t->QbQ h t+1<=2*(ents h t).length
 | 0,t,ok,hs=>by
   have h1:1<=t.2.length:=hs;have e:QbQ 0 t=1:=rfl;show QbQ 0 t+1<=2*t.2.length;omega
 | h+1,t,ok,hs=>by
   have h1:=Qj3 t.2 λk I=>Qmn h k (ok.2.2 k I).1 (ak oN (ok.2.2 k I).2)
   have h2:=ok.1;have e:QbQ (h+1) t=1+(t.2.map (QbQ h)).sum:=rfl;show QbQ (h+1) t+1<=2*(t.2.flatMap (ents h)).length;omega
variable{T:RT}
theorem Qj4(ok:OkR T):QpV T<=2*(Qaa T).length:=by
 cases T with
 |none=>exact aA _
 | some a=>
   have:=Qmn a.1 a.2 ok.1 ok.2.1;show Qbd [a]<=2*(ents a.1 a.2).length;simp only[Qbd,List.map_cons,List.map_nil,List.sum_cons,List.sum_nil];omega
variable{P:Program}
theorem QiL(w:World){t:TypeId}{ps rs:Array TypeId}{b:Bool}(f:Fn)(I lb:Array Value)(N:P.underlying t=some (.func ps rs b)) :
  (binOp .neq t (.func f I lb) .nilFunc).run P w=.ok (.bool true) w:=by
 have h:∀d:Nat,(Op.equalIn (d+1) t (.func f I lb) .nilFunc).run P w=.ok false w:=λd=>by
  simp[Op.equalIn,run_underlying N]
 simp only[binOp];simp[Op.equal,Op.maxDepth,h 9999]
variable{F F':Nat->Prop}{w':World}
theorem Qi6.st{lo X Y:Nat}{Z N:Qat}{all:List Chg}{C:Nat->Prop}{J:List CE->(Nat->Prop)->(Nat->Prop)->World->Prop}{Jx:List CE->(Nat->Prop)->World->Prop}{W00:World}{e:Ending}(h:Qi6 F F' lo X Y Z N all C J Jx W00 e w'):St C W00 w':=by
 rcases h.2 with⟨_,_,_,_,_,_,_,_,_,_,I,-⟩ |⟨_,_,-,-,-,I⟩
 .exact I.st
 exact I
def Qu4(F F':Nat->Prop)(B:Nat)(b:Nat):Prop:=F b\/F' b\/b=B\/b=B+1
variable{w0:World}{U:RT}{B:Nat}
theorem Qri(hT:IsT w0 F T)(hU:IsT w0 F' U)(hF:∀b,F b->b<w0.heap.size)(c7:∀b,F' b->b<w0.heap.size)(ok:OkR T)(a5:OkR U)(hl:(Qaa T).length<=500000)(d7:(Qaa U).length<=500000)
  (I:Blk w0 B 48 #[QaK T]) (a9:Blk w0 (B+1) 48 #[QaK U]) :
  Qt4 prog 97 #[.pointer (some B),.pointer (some ⟨B+1,0,none⟩)] Qs9 (Qu4 F F' B) (λlo=>QsN (chg (Qaa T) (Qaa U)) lo) (λxs=>xs.map CE.c=chg (Qaa T) (Qaa U)) (λpre=>pre.map CE.c <+: chg (Qaa T) (Qaa U)) w0:=by
 intro l J Jx C W b5 hA b7 a2 hJ;have f3:=I.lt;have d4:=a9.lt;have b6:Blk W B 48 #[QaK T]:=I.agree hA (.inr (.inr (.inl rfl)));have a1:Blk W (B+1) 48 #[QaK U]:=a9.agree hA (.inr (.inr (.inr rfl)));have c4:IsT W F T:=hT.agree (hA.mono λb I=>.inl I);have c0:IsT W F' U:=hU.agree (hA.mono λb I=>.inr (.inl I));have a8:∀b,F b->b<W.heap.size:=λb I=>ab (hF b I) b7
 have Z:∀b,F' b->b<W.heap.size:=λb I=>ab (c7 b I) b7
 have a4:∀W',Ext W W'->Calls prog 99 #[Qao T] W' (Qez F W.heap.size T W'):=λW' hW=>Qku (c4.agree (hW.agree a8)) a8 hW.size (ak (Qj4 ok) oM)
 have a3:∀W',Ext W W'->Calls prog 99 #[Qao U] W' (Qez F' W.heap.size U W'):=λW' hW=>Qku (c0.agree (hW.agree Z)) Z hW.size (ak (Qj4 a5) oM)
 obtain⟨p,hp⟩:=Qaj T;obtain⟨q,hq⟩:=Qaj U;rw[hp]at b6;rw[hq]at a1;rw[Qao,hp]at a4;rw[Qao,hq]at a3;have a6:=b5.lt [] C _ W hJ;have d0:∀(w1 w2:World) (X Y:Nat) (rx ry:Option Nat),Ext W w1->Ext w1 w2->Cur F (λ_=>False) W.heap.size X rx (Qed T) w1->W.heap.size<=X->(∀b,rx=some b->W.heap.size<=b)->Cur F' (λ_=>False) W.heap.size Y ry (Qed U) w2->w1.heap.size<=Y->(∀b,ry=some b->w1.heap.size<=b)->
   WalkM F F' W.heap.size X Y C J W (Qed T) (Qed U) rx ry (λ_=>False) (λ_=>False) [] C (λ_=>False) W w2:=λw1 w2 X Y rx ry h1 h2 hx hX a0 hy d6 N=>by
  have e1:=h1.size;have b4:=hx.lt;have c6:=hx.rlt;have e2:∀b,(b=Y\/ry=some b)->w1.heap.size<=b:=λb I=>I.elim (λe=>oM) (N b)
  refine⟨hJ,(h1.trans h2).st _,hx.ext h2,hy,λb I=>?_,λb I=>I.elim,λb I hh=>?_,λb I hh=>?_,λb I=>⟨λhh=>?_,λhh=>?_⟩,a6,(h1.trans h2).st _,λb I=>.inl I,rfl⟩
  ·rcases I with rfl | rfl | I | I
   .exact .inr hX
   .exact .inr oM
   .exact .inr (a0 b I)
   exact .inr (ak e1 (N b I))
  ·have f1:W.heap.size≤b:=I.elim (fun e=>oM) (a0 b)
   have f6:b<w1:=I.elim (λe=>oM) (λe=>(c6 b e).2);rcases hh with h|h|h|h
   .have:=Z b h;omega
   .exact h
   .omega
   have:=N b h;omega
  ·have f1:=e2 b I
   rcases hh with h|h|h|h
   .have:=a8 b h;omega
   .exact h
   .omega
   have:=(c6 b h).2;omega
  ·have hl:=a6 b I
   rcases hh with h|h|h|h
   .exact a2 b I (.inl h)
   .exact h
   .omega
   have:=a0 b h;omega
  have hl:=a6 b I;rcases hh with h|h|h|h
  .exact a2 b I (.inr (.inl h))
  .exact h
  .omega
  have:=N b h;omega
 have c8:=λ(w1 w2:World) (X Y:Nat) (rx ry:Option Nat) a b c d e f g h=>Qju (all:=chg (Qaa T) (Qaa U)) b5 (d0 w1 w2 X Y rx ry a b c d e f g h) (Qe1 ok) (Qe1 a5) (by rw[Qdh,Qdh])
 have b0:=hY (show ∀W1,St C W W1->W1.cell? B=some (.pointer p)/\W1.cell? ⟨B+1,0,none⟩=some (.pointer q) fromλW1 hW=>
  ⟨(hW.blk b6 λh=>a2 _ h (.inr (.inr (.inl rfl)))).cell 0,(hW.blk a1 λh=>a2 _ h (.inr (.inr (.inr rfl)))).cell 0⟩)
 obtain⟨d8,e7,e8,f2,d3⟩:=Yf c8 a4 a3 (Qe1 ok) (Qe1 a5);have f4:=QiL (P:=prog) W (t:=101) (.yield l) #[] #[] underlying101;clear b5 hA b7 a2 hJ hT hU hF c7 ok a5 hl d7 I a9 f3 d4 b6 a1 c4 c0 a8 Z a4 a3 hp hq a6 d0 c8;show Calls _ _ #[.func (.yield l) #[] #[],.pointer (some B),.pointer (some ⟨B+1,0,none⟩)] W _;go_in;go_wp2_with fail;refine eO (S:=(λw'=>St C W w')) kM (((gB C W).drew)) (λhHeld=>?_);refine Qaf 0 (some 6) b0 hHeld ?_;refine Qaf 2 (some 8) b0 hHeld ?_;refine Qaf 4 (some 10) b0 hHeld ?_;refine Qac (i:=1) kM rfl (by rfl) (λK hK=>?_);go_simp
 (refine(e7.o _ ((gh W).drew)).mono ?_;rintro e w1 ⟨X,rx,rfl,b4,c1,hX,a0⟩;have a7:=hY (((gh W).drew).trans b4);have e4:=hY c1;have e3:=hY a0;clear c1 b4 a0)
 refine hK.out _ _ (a7.o.st C) (λhHeld=>?_);clear hK K
 try go_frame
 refine Qac (i:=3) kM rfl (by rfl) (λK hK=>?_);go_simp
 (refine(e8.o _ a7.o).mono ?_;rintro e w2 ⟨Y,ry,rfl,d5,c9,d6,N⟩;have b9:=hY d5;have e0:=hY c9;have f0:=hY N;clear c9 d5 N)
 refine hK.out _ _ ((a7.o.trans b9.o).st C) (λhHeld=>?_);clear hK K
 try go_frame
 refine Qac (i:=5) kM rfl (by rfl) (λK hK=>?_);go_simp
 (refine(d8.o w1 w2 X Y rx ry a7.o b9.o e4.o (by have:=((gh W).drew).size;omega) (λb I=>by have:=e3.o b I;have:=((gh W).drew).size;omega) e0.o d6 f0.o).mono ?_;rintro e w3 ⟨rfl,b3⟩;have e6:=hY b3;have c2:St C W w3:=(Qi6.st ⟨rfl,b3⟩);clear b3)
 refine hK.out _ _ (c2) (λhHeld=>?_);clear hK K
 try go_frame
 refine eV kM ?_ _;go_wp2_with fail;go_end0;refine⟨⟨_,rfl⟩,?_⟩;rcases e6.o with⟨x,y,f5,f7,Ex,Ey,pre,C',D,Wj,hm,c3,gx,gy⟩ |⟨pre,D,hj,hD,b8,-⟩
 ·refine .inl ⟨pre,C',D,Wj,?_,hm.j,hm.jst,hm.low⟩
  have:=c3.done f2.o d3.o gx gy;rw[Qdh,Qdh]at this;exact this.symm
 exact .inr ⟨pre,D,_,b8,hj,gB _ _,hD⟩
def QhZ(T U:RT)(w:World)(e:Ending)(w':World):Prop:=
 e=.returned (.func (.func 97) #[] #[.pointer (some ⟨w.heap.size,0,none⟩),.pointer (some ⟨w.heap.size+1,0,none⟩)])/\Ext w w'/\Blk w' w.heap.size 48 #[QaK T]/\Blk w' (w.heap.size+1) 48 #[QaK U]
theorem Qrh(w:World)(T U:RT):Calls prog 62 #[Qao T,Qao U] w (QhZ T U w):=by
 obtain⟨p,hp⟩:=Qaj T;obtain⟨q,hq⟩:=Qaj U;unfold QhZ;rw[Qao,Qao,hp,hq];go_in;go_wp2_with fail;generalize Z:World.alloc (World.alloc _ _) _=W0;obtain⟨N,a1,I,a0⟩:=Qas w _ _ _ _ W0 Z;go_ret;exact⟨rfl,N,I,a0⟩
attribute [local go_sem] Oper.semAt_some
theorem Tryz.Qni:(prog.info? 92).map (λi=>(i.zero,i.size,i.bytes))=some (some (.agg #[ByteArray.empty,false,.int .i64 0,false,.int .i64 0,ByteArray.empty,.slice none 0 0,.slice none 0 0,false,.int .i64 0,false,.int .i64 0,ByteArray.empty,.slice none 0 0,.slice none 0 0]),15,208):=kM
def QjC(xs:List CE):List Value:=xs.flatMap λx=>x.cells.toList
theorem Qnd(xs:List CE)(x:CE):QjC (xs++[x])=QjC xs++x.cells.toList:=by simp[QjC]
theorem Qub(x:CE):∀u∈x.cells.toList,u.oneCell'=true:=by
 intro u hu;simp only[List.mem_cons,List.not_mem_nil,or_false]at hu;rcases hu with rfl|rfl|rfl|rfl|rfl|rfl|rfl|rfl|rfl|rfl|rfl|rfl|rfl|rfl|rfl<;>rfl
structure CS(w:World)(F:Nat->Prop)(s:Sl)(xs:List CE):Prop where
 rd:Rd w F 15 s xs.length (QjC xs)
 vals:∀x∈xs,CR w F x
 few:xs.length*208<=140737488355328
structure Qha(w:World)(L:Nat)(xs:List CE)(C D:Nat->Prop)(W:World):Prop where
 ex:∃s:Sl,(C=λb=>b=L\/s.row=some b)/\Blk W L 61 #[.slice s.a xs.length s.c]/\W.ownsRow (w.heap.size+2) 92 15 (.slice s.a xs.length s.c) xs.length (QjC xs)
 vals:∀x∈xs,CR W (λb=>w.heap.size+2<=b/\b<W.heap.size/\¬D b/\¬C b) x
 st:St (λb=>b=L) w W
 sz:w.heap.size+2<=W.heap.size
 dis:∀b,C b->¬D b
 dlo:∀b,D b->w.heap.size+2<=b
variable{w W:World}{L:Nat}
theorem Qha.start(N:Blk w L 61 #[.slice none 0 0])(I:Ext w W)(Z:w.heap.size+2<=W.heap.size):Qha w L [] (λb=>b=L) (λ_=>False) W:=
 ⟨⟨Sl.none,by funext b;simp[Sl.row],N.ext I,eS _ _ _ _⟩,λx I=>(by cases I),I.st _,Z,λ_ _ h=>h,λ_ h=>h.elim⟩
variable{W':World}
theorem Qha.turn{xs:List CE}{C D:Nat->Prop}(h:Qha w L xs C D W)(hL:L<w.heap.size)(k:St (λb=>b=w.heap.size+1) W W'):Qha w L xs C D W':=by
 obtain⟨⟨s,h1,h2,N⟩,Z,h5,h6,h7,h8⟩:=h;exact⟨⟨s,h1,k.blk h2 oM,Qab N k.agree λb I=>⟨(Qad N I).2,by have:=(Qad N I).1;omega⟩⟩,λx hx=>((Z x hx).agree (k.agree.mono λb I=>⟨I.2.1,by have:=I.1;omega⟩)).mono λb I=>⟨I.1,ab I.2.1 k.size,I.2.2⟩,h5.then k (λi hi e=>oM),ak h6 k.size,h7,h8⟩
variable{s s3:Sl}
theorem QoQ{w W0 W3 W4 w5:World}{xs:List CE}{x:CE}{D D1:Nat->Prop}(hL:L<w.heap.size)(h0:Qha w L xs (λb=>b=L\/s.row=some b) D W0)(a9:Blk W0 L 61 #[.slice s.a xs.length s.c])(ho:W0.ownsRow (w.heap.size+2) 92 15 (.slice s.a xs.length s.c) xs.length (QjC xs))
  (a3:St (λb=>D b\/b=w.heap.size+1) W0 W3) (b7:∀b,D1 b->D b\/W0.heap.size<=b) (a5:∀b,D1 b->w.heap.size+2<=b/\b<W3.heap.size) (a8:∀b,(b=L\/s.row=some b)->¬D1 b)
  (hx:CR W3 (λb=>w+2<=b/\b<W3/\¬(D1 b\/((b=L\/s.row=some b)\/b=w.heap.size+1))) x)
  (a7:Ext W3 W4) (a6:w5.ownsRow (w.heap.size+2) 92 15 (.slice s3.a (xs.length+1) s3.c) (xs.length+1) (QjC xs++x.cells.toList)) (b3:Wr W4 w5 s.row) (b4:s3.a=s.a\/s3.a=some ⟨W4,0,none⟩/\Wr W4 w5 none) :
  Qha w L (xs++[x]) (λb=>b=L\/s3.row=some b) D1 (w5.setCell L (.slice s3.a (xs.length+1) s3.c))/\St (λb=>b=L\/s.row=some b) W3 (w5.setCell L (.slice s3.a (xs.length+1) s3.c))/\
   (∀b,(b=L\/s3.row=some b)->(b=L\/s.row=some b)\/W3.heap.size<=b)/\(∀b,(b=L\/s3.row=some b)->b<(w5.setCell L (.slice s3.a (xs.length+1) s3.c)).heap.size):=by
 have Z:∀b,s.row=some b->w.heap.size+2<=b/\b<W0.heap.size:=λb I=>Qad ho I
 have c0:=a3.size;have b9:=a7.size;have b8:=b3.grown.size;have c1:=h0.sz;have a2:∀b,s3.row=some b->s.row=some b\/W4.heap.size<=b:=by
  intro b I;rcases b4 with h |⟨h,-⟩
  .exact .inl (by rw[<-I];simp[Sl.row,h])
  right;rw[Sl.row,h]at I;simp at I;omega
 have a4:St (λb=>b=L) w5 (w5.setCell L (.slice s3.a (xs.length+1) s3.c)):=(gB (λb=>b=L) w5).set (p:=⟨L,0,none⟩) (.inr rfl) _;have a0:St (λb=>s.row=some b) W4 w5:=b3.st λi hi=>hi
 have N:St (λb=>b=L\/s.row=some b) W3 (w5.setCell L (.slice s3.a (xs.length+1) s3.c)):=((a7.st _).trans (a0.mono λi _ hi=>.inr hi)).trans (a4.mono λi _ hi=>.inl hi);have b6:¬(D L\/L=w.heap.size+1):=λh=>h.elim (h0.dis L (.inl rfl)) oM
 have b5:Blk w5 L 61 #[.slice s.a xs.length s.c]:=a0.blk ((a3.blk a9 b6).ext a7) (λe=>by have:=(Z L e).1;omega);have a1:∀b,s3.row=some b->b<w5.heap.size:=λb I=>(Qad a6 I).2
 refine⟨⟨⟨s3,rfl,by rw[aj,bA];exact b5.QbH 0 _,?_⟩,λy hy=>?_,?_,?_,λb I hD=>?_,λb I=>(a5 b I).1⟩,N,λb I=>?_,λb I=>?_⟩
 ·rw [aj,bA,Qnd]
  exact Qab a6 a4.agree λb I=>⟨a1 b I,λe=>by
   rcases a2 b I with h|h
   .have:=(Z b h).1;omega
   omega⟩
 ·have b0:∀ (F:Nat→Prop) (y:CE),CR W3 F y→(∀ b,F b→w.heap.size+2≤b∧b<W3.heap.size∧¬D1 b∧¬(b=L∨s.row=some b))→CR (w5.setCell L (.slice s3.a (xs.length+1) s3.c)) (fun b=>w.heap.size+2≤b∧b<(w5.setCell L (.slice s3.a (xs.length+1) s3.c)).heap.size∧¬D1 b∧¬(b=L∨s3.row=some b)) y:=fun F y hy hF=>
   (hy.agree (N.agree.mono λb I=>⟨(hF b I).2.1,(hF b I).2.2.2⟩)).mono λb I=>⟨(hF b I).1,ab (hF b I).2.1 N.size,(hF b I).2.2.1,λe=>by
     rcases e with e|e
     .exact (hF b I).2.2.2 (.inl e)
     rcases a2 b e with e|e
     .exact (hF b I).2.2.2 (.inr e)
     have:=(hF b I).2.1;omega⟩
  rcases aO.1 hy with hy|hy
  ·refine b0 (fun b=>w.heap.size+2≤b∧b<W0.heap.size∧¬D b∧¬(b=L∨s.row=some b)) y ((h0.vals y hy).agree (a3.agree.mono fun b I=>⟨I.2.1,fun e=>e.elim I.2.2.1 (by have:=I.1;omega)⟩)) fun b I=>⟨I.1,oM,fun e=>?_,I.2.2.2⟩
   rcases b7 b e with e|e
   .exact I.2.2.1 e
   have:=I.2.1;omega
  obtain rfl:=aV.1 hy;exact b0 _ y hx λb I=>⟨I.1,I.2.1,λe=>I.2.2 (.inl e),λe=>I.2.2 (.inr (.inl e))⟩
 ·refine (h0.st.then a3 (fun i hi e=>?_)).then N fun i hi e=>?_
  ·rcases e with e | e
   .have:=h0.dlo i e;omega
   omega
  rcases e with e|e
  .exact e
  have:=(Z i e).1;omega
 .rw [eP];omega
 ·have:=(a5 b hD).2
  rcases I with e|e
  .exact a8 b (.inl e) hD
  rcases a2 b e with e|e
  .exact a8 b (.inr e) hD
  omega
 ·rcases I with e | e
  .exact .inl (.inl e)
  exact(a2 b e).imp .inr (λh=>oM)
 rw[eP];rcases I with e|e
 .omega
 exact a1 b e
variable{g:Nat}
theorem Blk.c15{t:TypeId}{v0 v1 v2 v3 v4 v5 v6 v7 v8 v9 N I Z a1 a0:Value}(h:Blk w g t #[v0,v1,v2,v3,v4,v5,v6,v7,v8,v9,N,I,Z,a1,a0]) :
  w.cell? g=some v0/\w.cell? ⟨g,1,none⟩=some v1/\w.cell? ⟨g,2,none⟩=some v2/\w.cell? ⟨g,3,none⟩=some v3/\w.cell? ⟨g,4,none⟩=some v4/\w.cell? ⟨g,5,none⟩=some v5/\w.cell? ⟨g,6,none⟩=some v6/\w.cell? ⟨g,7,none⟩=some v7/\w.cell? ⟨g,8,none⟩=some v8/\w.cell? ⟨g,9,none⟩=some v9/\w.cell? ⟨g,10,none⟩=some N/\w.cell? ⟨g,11,none⟩=some I/\w.cell? ⟨g,12,none⟩=some Z/\w.cell? ⟨g,13,none⟩=some a1/\w.cell? ⟨g,14,none⟩=some a0:=
 ⟨h.cell 0,h.cell 1,h.cell 2,h.cell 3,h.cell 4,h.cell 5,h.cell 6,h.cell 7,h.cell 8,h.cell 9,h.cell 10,h.cell 11,h.cell 12,h.cell 13,h.cell 14⟩
end Go.Proofs.YtdiecmkpbadgjaaGreatDoor
namespace Go.Proofs.YtdiecmkpbadgjaaGreatDoor
open Go.Proofs.Tryz
open Go.RowKit Go.Shelf
attribute [local go_sem] Oper.semAt_some
def Qeg(l:List Chg)(w:World)(e:Ending)(w':World):Prop:=
 ∃(s:Sl) (xs:List CE),e=.returned (.slice s.a xs.length s.c)/\xs.map CE.c=l/\Ext w w'/\CS w' (In w.heap.size w'.heap.size) s xs
theorem Qia:∀(a b:List Ent),(chg a b).length<=a.length+b.length
 |[],b=>by rw[Qli];simp
 |e::a,[]=>by rw[Qib];simp
 | e :: a,f :: b=>by
   rw[chg];split
   .have:=Qia a (f::b);simp only[List.length_cons]at *;omega
   split
   .have:=Qia (e::a) b;simp only[List.length_cons]at *;omega
   have:=Qia a b;rw[aj];have h1:(Qq4 e f).length<=1:=by unfold Qq4;split<;>simp
   simp only[List.length_cons];omega
termination_by a b=>a.length+b.length
variable{w:World}{F F':Nat->Prop}{T U:RT}
theorem QkX(hT:IsT w F T)(hU:IsT w F' U)(hF:∀b,F b->b<w.heap.size)(b8:∀b,F' b->b<w.heap.size)(ok:OkR T)(g0:OkR U)(hl:(Qaa T).length<=500000)(i7:(Qaa U).length<=500000) :
  Calls prog 41 #[Qao T,Qao U] w (Qeg (chg (Qaa T) (Qaa U)) w):=by
 obtain⟨i0,hi,k2,k0,j7⟩:=eR Tryz.Qni;obtain⟨p,hp⟩:=Qaj T;obtain⟨q,hq⟩:=Qaj U;have b5:=λW=>Qrh W T U
 have b7:=λ(W:World) (hW:Ext w W) B (I:Blk W B 48 #[QaK T]) (k9:Blk W (B+1) 48 #[QaK U])=>Qri (hT.agree (hW.agree hF)) (hU.agree (hW.agree b8)) (λb I=>ab (hF b I) hW.size) (λb I=>ab (b8 b I) hW.size) ok g0 hl i7 I k9
 obtain⟨al,f2⟩:∃al,chg (Qaa T) (Qaa U)=al:=⟨_,rfl⟩;have o0:al.length<=1000000:=by rw[<-f2];have:=Qia (Qaa T) (Qaa U);omega
 rw[f2]at b7 ⊢;unfold QhZ at b5;rw[Qao,Qao,hp,hq]at b5;rw[Qao,Qao,hp,hq];rw[hp,hq]at b7;obtain⟨j3,g6,HF,g3⟩:=Ye b5 b7 hF b8;clear hT hU hF b8 ok g0 hl i7 b5 b7 hp hq f2;refine(eL (n:=6)).1 ?_;refine fG func41 rfl trivial ?_ rfl;simp only[ntmps41,zL,Nat.reduceAdd,Nat.reduceSub];gi_wp2_with fail;generalize i5:World.alloc (World.alloc (World.alloc _ _) _) _=W0;obtain⟨g9,i6,l2,j6,g8⟩:=Qal w _ _ _ _ _ _ W0 i5;obtain⟨g5,l3⟩:=Yb g9 g8;have n9:w.heap.size+3<=W0.heap.size:=oM
 clear i5 g9 l2 j6 g8 i6;refine⟨trivial,?_⟩;refine(eL.2 (j3.o W0)).mono ?_;rintro e w1 ⟨rfl,a8,g4,f6⟩;obtain⟨b6,HL,l9⟩:=Yc (g5.o.trans a8) (l3.o.ext a8) (g6.o w1 (g5.o.trans a8) W0.heap.size g4 f6);have p1:=a8.size;have o1:=f6.lt;have i9:w.heap.size+1+1<w1.heap.size:=HL.o.lt;clear a8 g4 f6 j3 g6;gi_wp2_with fail;refine QkL (gf:=97) (lb:=#[.pointer (some W0),.pointer (some ⟨W0+1,0,none⟩)]) rfl (ff func97 kM rfl) l9.o (Agree.refl _) (ao _)
  (λb I=>I.elim (λh=>by have:=HF.o b h;omega) (λh=>h.elim (λh=>by have:=g3.o b h;omega) (λh=>oM))) (λ_=>rfl)
  (λpre C D W=>Qha w1 (w.heap.size+1+1) pre C D W/\pre.length<=1000000) (λ_ _ _ _=>False) (λb=>b=w.heap.size+1+1)
  (λb I=>⟨oM,λh=>h.elim (λh=>by have:=HF.o b h;omega) (λh=>h.elim (λh=>by have:=g3.o b h;omega) (λh=>oM))⟩)
  (λh k=>⟨h.1.turn i9 k,h.2⟩) (λh k=>h) (λW hW hz=>⟨Qha.start HL.o hW hz,oO⟩) ?round ?done ?stop
 case stop=>
  rintro D c pre Di b9 W hD o9 hX;exact hX.elim
 case round=>
  rintro pre C D D1 x b9 W1 ⟨⟨⟨s,rfl,a1,Z⟩,hv,b3,d8,a0,a3⟩,j5⟩ l7 p3 l5 e7 i4 f0 f9 hG;have n7:pre.length<1000000:=by
   have:=(ae.1 hG.at_).1;omega
  have i2:=gm W1 92 x.cells;have j1:Ext W1 (W1.alloc (.cells x.cells 92)):=(gh W1).alloc _ _;obtain⟨l0,i8,HI,d6,b4,e6,k4⟩:=Yh i2 j1 (show Qha w1 (w.heap.size+1+1) pre (λb=>b=w.heap.size+1+1\/s.row=some b) D b9 from⟨⟨s,rfl,a1,Z⟩,hv,b3,d8,a0,a3⟩) a1 Z e7 i4;obtain⟨e0,j4,HV⟩:=Yc f0 f9 hG.val;clear i2 j1 a1 Z hv b3 a0 a3 e7 i4 f0 f9 hG l5 l7;gi_wp2_with fail;refine⟨i8.o,λW3 k3=>?_⟩;have n4:=e6.o.size;have b0:St (λb=>b=w1.heap.size+1) W1 W3:=(i8.o.st _).trans k3;have a6:St (λb=>D b\/b=w1.heap.size+1) b9 W3:=(e6.o.mono λi _ hi=>.inl hi).trans (b0.mono λi _ hi=>.inr hi);have f8:=k3.blk l0.o oM;obtain⟨c0,c1,c2,c3,c4,c5,c6,c7,c8,c9,o2,o4,o7,o5,p2⟩:=f8.c15;have lv:=f8.lt;have N:∀b,s.row=some b->w1.heap.size+2<=b/\b<b9.heap.size:=λb I=>Qad b4.o I
  have f5:∀b,(b=w.heap.size+1+1\/s.row=some b)->¬(D b\/b=w1.heap.size+1):=λb I e=>e.elim (HI.o.dis b I) (λe=>by
   rcases I with h|h
   .omega
   have:=(N b h).1;omega)
  have d3:=a6.blk d6.o (f5 _ (.inl rfl));have cL:W3.cell? ⟨w+1+1,0,none⟩=some (.slice s.a pre.length s.c):=d3.cell 0;have fL:=d3.frozen 0;have lL:=d3.lt;have a5:Ext W3 (W3.alloc (.cells x.cells 92)):=(gh W3).alloc _ _;have a7:=Qab (Qab b4.o a6.agree λb I=>⟨(N b I).2,f5 b (.inr I)⟩) (a5.agree λb (I:b<W3)=>I) (λb I=>by have:=(N b I).2;have:=a6.size;omega);have k6:pre.length+1<=maxLen:=by unfold maxLen;omega
  have l8:(pre.length+1)*208<=140737488355328:=oM
  have n8:=a6.size;have f3:w1.heap.size+2<=(W3.alloc (.cells x.cells 92)).heap.size:=by rw[eK];omega
  have k7:=hY ((HV.o.agree (b0.agree.mono λb I=>⟨I.2.1,λe=>I.2.2 (.inr (.inr e))⟩)).mono (G:=λb=>w1+2<=b/\b<W3/\¬(D1 b\/((b=w.heap.size+1+1\/s.row=some b)\/b=w1.heap.size+1))) λb I=>⟨I.1,ab I.2.1 b0.size,I.2.2⟩);have j0:=b0.size;obtain⟨n2,d7,f7,j8⟩:=Ye a6 a5 a7 (gm W3 92 x.cells);have i3:s.row≠some (w.heap.size+1+1):=λe=>by have:=(N _ e).1;omega
  obtain⟨j9,g7⟩:=Yb ((a5.frozen (o:=0) lL).trans fL) (show ∀b,D1 b->w1.heap.size+2<=b/\b<W3.heap.size fromλb I=>⟨(e0.o b I).1,ab (e0.o b I).2 j0⟩);have n6:¬w.heap.size+1+1=W3.heap.size:=oM
  clear k3 a6 b0 f8 d3 a5 a7 f5 fL;gi_wp2_with(gi_at_builtin;refine QbS _ rfl (.tmp 11) (.tmp 13) 61 rfl (w1.heap.size+2) 92 i0 _ 15 208 underlying61 hi k2 k0 j7 rfl oN s pre.length (QjC pre) rfl f7.o (λb=>b=W3.heap.size) ⟨some W3,1⟩ 1 x.cells.toList rfl (gA j8.o oN rfl) (Qub x) k6 l8 f3 ?_;intro s3 w5 a9 a4 d5;have h5:=a4.cell0 (o:=0) d7.o i3 lL;have p0:w5.cell? ⟨w+1+1,0,none⟩=some (.slice s.a pre.length s.c):=h5.1.trans cL;have o8:=h5.2;have o6:w5.frozen? ⟨w+1+1,0,none⟩=false:=(a4.fz _ _).trans (j9.out);have l6:=hY a9;have k5:=hY a4;have k1:=hY d5;clear a9 a4 d5 h5);obtain⟨e1,e2,e3,e4⟩:=QoQ i9 HI.o d6.o b4.o n2.o k4.o g7.o j4.o k7.o d7.o l6.o k5.o k1.o;exact⟨_,⟨e1,by rw[aj,bA];omega⟩,e2,e3,e4⟩
 rintro D xs C Di W5 W hD hS ⟨⟨⟨s,rfl,a1,Z⟩,hv,b3,d8,a0,a3⟩,j5⟩ d4 j2 d0;have N:∀b,s.row=some b->w1.heap.size+2<=b/\b<W5.heap.size:=λb I=>Qad Z I
 have l1:¬(Di (w.heap.size+1+1)\/w.heap.size+1+1=w1.heap.size+1):=λe=>e.elim (a0 _ (.inl rfl)) oM
 have f1:=d4.blk a1 l1;have cL:W.cell? ⟨w+1+1,0,none⟩=some (.slice s.a xs.length s.c):=f1.cell 0;have lL:=f1.lt;have o3:=(az.1 d0).1;have f4:St (λb=>b=D) W (W.putObj D (.deferred none)):=St.put d0 rfl rfl;have d5:=d4.size;have k8:=f4.size;have a2:St (λb=>Di b\/b=w1.heap.size+1\/b=D) W5 (W.putObj D (.deferred none)):=(d4.mono (G:=λb=>Di b\/b=w1.heap.size+1\/b=D) λi _ hi=>hi.elim .inl λh=>.inr (.inl h)).trans (f4.mono λi _ hi=>.inr (.inr hi));have e8:Qeg al w (.returned (.slice s.a xs.length s.c)) (W.putObj D (.deferred none)):=by
  refine⟨s,xs,rfl,hS,?_,?_,λx hx=>?_,oM⟩
  ·refine (b6.o.step b3 (fun b I=>oM)).step a2 fun b I=>?_
   have:=b6.o.size;rcases I with h|h|h
   .have:=j2 b h;omega
   .omega
   omega
  ·have ho:=Qab Z a2.agree fun b I=>⟨(N b I).2,fun e=>by
    rcases e with e|e|e
    .exact a0 b (.inr I) e
    .have:=(N b I).1;omega
    have:=(N b I).1;omega⟩
   exact(gz ho).mono λb I=>⟨by have:=I.1;have:=b6.o.size;omega,I.2⟩
  exact((hv x hx).agree (a2.agree.mono λb I=>⟨I.2.1,λe=>by
   rcases e with e|e|e
   .exact I.2.2.1 e
   .have:=I.1;omega
   have:=I.1;omega⟩)).mono λb I=>⟨by have:=I.1;have:=b6.o.size;omega,ab I.2.1 (ak d5 k8)⟩
 obtain⟨i1,l4⟩:=Yb e8 d0;clear a1 Z hv b3 a0 a3 d4 j2 d0 f4 a2 e8 f1 hS;gi_wp2_with fail;refine⟨oO,.inl ⟨_,_,rfl,fF l4.o,?_⟩⟩;refine⟨.slice s.a xs.length s.c,?_,i1.o⟩;simp[results,Tryz.f41,go_sem]
end Go.Proofs.YtdiecmkpbadgjaaGreatDoor
namespace Go.Proofs.YtdiecmkpbadgjaaGreatDoor
open Go.Proofs.Tryz
open Go.RowKit Go.Maps Go.Shelf
variable{w w':World}{F:Nat->Prop}{s:Sl}
theorem CS.Qvh{xs:List CE}(h:CS w F s xs)(I:Agree F w w'):CS w' F s xs:=⟨h.rd.agree I,λx N=>(h.vals x N).agree I,h.few⟩
variable{G:Nat->Prop}
theorem CS.Quu{xs:List CE}(h:CS w F s xs)(I:∀i,F i->G i):CS w G s xs:=⟨h.rd.mono I,λx N=>(h.vals x N).mono I,h.few⟩
theorem QhT(last:Int):∀l:List Nm,Qcc (Qe6 (QbK last l))<=Qcc (Qe6 l)
 |[]=>ao _
 | x :: r=>by
   have I:=QhT last r;unfold QbK at I ⊢;rw[bB];split
   .simp only[Qe6,List.map_cons,Qcc]at I ⊢;omega
   simp only[Qe6,List.map_cons,Qcc]at I ⊢;omega
structure Qu8(w w':World)(F':Nat->Prop)(T U:RT)(L:List Nm)(V:RT)(sL sC:Sl)(cs:List CE):Prop where
 nw:Nw w w'
 ok:OkR V
 tree:IsT w' (Up F' w w') V
 ents:Qaa V=(QbD (Qe6 L) (Qaa U)).2
 okM:OkM (Qaa V)
 row:Qa7 w' (In w.heap.size w'.heap.size) sL L
 chg:cs.map CE.c=chg (Qaa T) (Qaa V)
 cs:CS w' (In w.heap.size w'.heap.size) sC cs
 same:(∀n∈L,(runM (Qaa U) n.m).2=Qaa U)->V=U
variable{F':Nat->Prop}{T U:RT}
theorem QnA{l:List Nm}{last:Int}(hT:IsT w F T)(hF:∀b,F b->b<w.heap.size)(ok:OkR T)(hl:(Qaa T).length<=5000)(h:Qey w F' G U s l) :
  Calls prog 21 #[Qao T,Qao U,.int .u64 last,.slice s.a l.length s.c] w λe w'=>∃V sL sC cs,e=.returned (.tuple #[Qao V,.slice sL.a (QbK last l).length sL.c,.slice sC.a cs.length sC.c])/\Qu8 w w' F' T U (QbK last l) V sL sC cs:=by
 obtain⟨p,hp⟩:=Qaj T;obtain⟨q,hq⟩:=Qaj U;have i2:=QgH last l;have c3:=QhT last l;have b0:=hY (λW (hW:Ext w W)=>Qfk (last:=last) (h.row.ext hW h.rowOld) λb I=>ab (h.rowOld b I) hW.size);obtain⟨L,hL⟩:∃L,QbK last l=L:=⟨_,rfl⟩;rw[hL]at i2 c3 b0 ⊢;obtain⟨H,HT,HF,g8,HP,HQ,g7⟩:=Yh h hT hF ok hp hq hl;have g0:=hY c3;rw[Qao,Qao,hp,hq];clear h hT hF ok hp hq hL hl c3;go_in;go_upto_region 1 with fail;generalize f0:World.alloc _ _=W0;obtain⟨e6,e1,f3,d0,e4⟩:=Qal w _ _ _ _ _ _ W0 f0;obtain⟨a5,i5,g4,i1,g3⟩:=Yf e6 f3 d0 e4 e1;clear f0 e6 f3 d0 e4 e1;go_wp2_with fail;refine(b0.o W0 a5.o).mono ?_;rintro e w1 ⟨sL,rfl,b4,a6⟩;have q1:w1.cell? ⟨w+1,0,none⟩=some (.pointer q):=(g4.o.ext b4).cell 0;obtain⟨b5,f4⟩:=Yb b4 a6;have c1:=(gj a5.o).trans (gj b4);have f5:=hY c1;have f2:Qey w1 F' (In W0.heap.size w1.heap.size) U sL L:=by
  have h1:=H.o.ext c1;exact⟨h1.tree,h1.old,h1.ok,h1.okM,a6,λb I=>I.2,h1.lib,by have:=h1.few;omega,by have:=h1.tot;have:=g0.o;omega⟩
 have c2:=Qhv f2;rw[Qao,HQ.o]at c2;have i7:=hY c2;clear b4 a6 c1 f2 c2;go_wp2_with fail;refine i7.o.mono ?_;rintro e w2 ⟨V,rfl,okV,hV,f7,e3,d3,a9⟩;obtain⟨r,hr⟩:=Qaj V;rw[Qao,hr];obtain⟨f1,HV,f9,g6,c0,b9,HR⟩:=Yh okV hV f7 e3 d3 a9 hr;clear okV hV f7 e3 d3 a9 hr q1;go_upto_region 3 with fail;generalize f6:World.alloc _ _=w3;obtain⟨b6,e7,j0⟩:=Qb2 f6;have N:Nw W0 w3:=(gj b5.o).trans (c0.o.trans (gj b6));have z0:=g3.o;have i9:=N.size;have z2:=c0.o.size;have b8:=N.blk i5.o;have a1:=N.blk i1.o;have a3:=hY (show ∀W,(Sb (λi=>i=w.heap.size+1+1) w3 W/\∃u,Blk W (w.heap.size+1+1) 48 #[u])->W.cell? w2=some (.pointer r)/\W.cell? w=some (.pointer p)from
  λW hW=>⟨(hW.1.blk e7 (by have:=b5.o.size;omega)).cell 0,(hW.1.blk b8 oM).cell 0⟩)
 have e8:IsT w3 F T:=HT.o.agree (gp ((gj a5.o).trans N) HF.o);have c4:IsT w3 (Up F' w1 w2) V:=HV.o.agree (b6.agree λb I=>I.elim (λe=>by have:=(H.o.old b e).2;have:=f5.o.size;omega) λe=>e.2);have a8:∀b,Up F' w1 w2 b->b<w3.heap.size/\b≠w.heap.size+1+1:=λb I=>I.elim (λe=>by have:=(H.o.old b e).2;have:=f5.o.size;exact⟨oM,oM⟩) λe=>⟨by have:=e.2;omega,by have:=e.1;have:=b5.o.size;omega⟩
 have b7:∀b,F b->b<w3.heap.size/\b≠w.heap.size+1+1:=λb I=>by have:=HF.o b I;exact⟨oM,oM⟩
 have i3:=hY (show ∀W,Sb (λi=>i=w.heap.size+1+1) w3 W->Calls prog 41 #[.agg #[.pointer p],.agg #[.pointer r]] W (Qeg (chg (Qaa T) (Qaa V)) W) fromλW hW=>by
  have h:=QkX (w:=W) (e8.agree λb I=>hW.block b (b7 b I).1 (b7 b I).2) (c4.agree λb I=>hW.block b (a8 b I).1 (a8 b I).2) (λb I=>ab (b7 b I).1 hW.size) (λb I=>ab (a8 b I).1 hW.size) g8.o f1.o (ak g7.o oN) (by
   rw[f9.o];have h1:=QeN (Qe6 L) (Qaa U) L.length;rw[aW (by rw[aq];exact ao _)]at h1;have h2:=H.o.few;omega)
  rwa[Qao,Qao,HP.o,HR.o]at h)
 obtain⟨i8,d8,a2,i4,g5,c9,i0⟩:=Yh a1 N (c0.o.trans (gj b6)) (show w.heap.size+1+1<w3.heap.size from a1.lt) c4 a8 (show Sb (λi=>i=w.heap.size+1+1) w3 w3.drew/\∃u,Blk w3.drew (w.heap.size+1+1) 48 #[u]from⟨(gu _ w3).drew,_,a1.ext ((gh w3).drew)⟩);clear f6 b6 e7 b8 a1 N e8 c4 a8 b7;refine eO (S:=(λw'=>Sb (λi=>i=w.heap.size+1+1) w3 w'/\∃u,Blk w' (w.heap.size+1+1) 48 #[u])) kM (i0.o) (λhHeld=>?_);refine Qaf 0 (some 19) a3 hHeld ?_;refine Qaf 1 (some 20) a3 hHeld ?_;refine Qaf 2 (some 21) a3 hHeld ?_;refine Qaf 3 (some 22) a3 hHeld ?_;refine Qac (i:=4) kM rfl (by rfl) (λK hK=>?_);go_simp
 (obtain⟨h8,u8,a7⟩:=hHeld;refine(i3.o _ h8).mono ?_;rintro e wa ⟨sC,cs,rfl,e2,a4,d4⟩;have c8:=(a7.ext a4).cell 0;have f8:=(a7.ext a4).frozen 0;have l8:=(a7.ext a4).lt;have c7:=hY h8;have c6:=hY (a7.ext a4);have d5:=hY e2;have i6:=hY d4;have d6:=hY a4;clear e2 d4 a4 h8 a7)
 refine hK.out _ _ (⟨c7.o.trans (d6.o.sb _),u8,c6.o⟩) (λhHeld=>?_);clear hK K
 try go_frame
 refine Qac (i:=5) kM rfl (by rfl) (λK hK=>?_);go_simp
 skip
 refine hK.out _ _ (⟨hHeld.1.set (p:=⟨w+1+1,0,none⟩) (.inr rfl) _,_,c6.o.QbH 0 _⟩) (λhHeld=>?_);clear hK K
 try go_frame
 refine Qaf 6 (some 9) a3 hHeld ?_;refine Qaf 7 (some 10) a3 hHeld ?_;refine eV kM ?_ _;generalize b3:World.setCell _ _ _=w9;have a0:Sb (λi=>i=w.heap.size+1+1) w3 w9:=by rw[<-b3];exact(c7.o.trans (d6.o.sb _)).set (p:=⟨w+1+1,0,none⟩) (.inr rfl) _
 have Z:Sb (λi=>i=w.heap.size+1+1) wa w9:=by rw[<-b3];exact(gu (λi=>i=w.heap.size+1+1) wa).set (p:=⟨w+1+1,0,none⟩) (.inr rfl) _
 have e0:Blk w9 (w.heap.size+1+1) 48 #[.pointer r]:=by rw[<-b3];exact c6.o.QbH 0 (.pointer r)
 have q9:w9.cell? ⟨w+1+1,0,none⟩=some (.pointer r):=e0.cell 0;obtain⟨g9,d7⟩:=Yb a0 Z;clear b3 e0 c8 f8 hHeld a0 Z;go_wp2_with fail;refine eN (v:=.tuple #[.agg #[.pointer r],.slice sL.a L.length sL.c,.slice sC.a cs.length sC.c]) (by simp[results,results21,go_sem,q9]) rfl ?_;have a0:=g9.o;have Z:=d7.o;have y0:=a5.o.size;have y1:=b5.o.size;have y3:=i4.o;have y8:=c7.o.size;have y9:=a0.size;have ya:=Z.size;refine⟨V,sL,sC,cs,by rw[Qao,HR.o],?_⟩;exact
  { nw:=((gj a5.o).trans d8.o).comp a0 λi hi e=>by omega
    ok:=f1.o
    tree:=(g5.o.agree λb I=>a0.block b (c9.o b I).1 (c9.o b I).2).mono λb I=>I.imp id λe=>⟨by have:=e.1;omega,by have:=e.2;have:=a2.o.size;omega⟩
    ents:=f9.o
    okM:=by have:=g6.o;exact this
    row:=(f4.o.agree λb I=>(a0.block b (by have:=I.2;have:=a2.o.size;omega) (by have:=I.1;omega)).trans (a2.o.block b I.2 λe=>e)).mono λb I=>⟨by have:=I.1;omega,by have:=I.2;have:=a2.o.size;omega⟩
    chg:=d5.o
    cs:=(i6.o.Qvh λb I=>Z.block b I.2 (by have:=I.1;omega)).Quu λb I=>⟨by have:=I.1;omega,by have:=I.2;omega⟩
    same:=b9.o }
theorem Qj6(w:World)(n:Int):Calls prog 29 #[n] w λe w'=>e=.returned (Qvu n)/\Ext w w':=by
 go_in;go_wp2_with fail;refine eN (v:=Qvu n) (by simp[results,results29,go_sem];rfl) rfl ?_;exact⟨rfl,(gh w).alloc _ _⟩
variable{xs:List LE}
theorem Qph(hF:∀b,F b->b<w.heap.size)(hT:IsT w F T)(ok:OkR T)(hl:(Qaa T).length<=1000000)(hs:ES w (Lt w) s xs) :
  Calls prog 17 #[Qao T,.slice s.a xs.length s.c] w λe w'=>e=.returned (.bool (Qeq (Qaa T) (xs.map LE.ent)))/\Ext w w':=by
 obtain⟨p,hp⟩:=Qaj T;have a5:∀W,Ext w W->Calls prog 37 #[.agg #[.pointer p]] W (QaU (Qaa T) W):=λW hW=>by
  have h:=Qg1 (w:=W) (λb I=>ab (hF b I) hW.size) (hT.agree (hW.agree hF)) ok hl;rwa[Qao,hp]at h
 have a1:∀(W:World) (Z:Sl) (N:List LE),Ext w W->ES W (Lt W) Z N->N.map LE.ent=Qaa T->Calls prog 36 #[.slice Z.a N.length Z.c,.slice s.a xs.length s.c] W λe w'=>e=.returned (.bool (Qeq (Qaa T) (xs.map LE.ent)))/\Ext W w':=λW Z N hW he hx=>by
  have h9:=Qlz he ((hs.agree (hW.agree λb I=>I)).mono λb I=>ab I hW.size);rwa[hx]at h9
 obtain⟨b3,a9⟩:=Yb a5 a1;rw[Qao,hp];clear a5 a1 hF hT ok hl hs hp;go_in;go_wp2_with fail;refine(b3.o _ ((gh w).alloc _ _)).mono ?_;rintro e w1 ⟨Z,N,rfl,a0,a2,a3⟩;obtain⟨b0,a7,a4⟩:=Yc (a2.es.mono (G:=Lt w1) λb I=>I.2) a0 (((gh w).alloc #[.pointer p] 48).trans a3);clear a0 a2 a3;go_wp2_with fail;refine(a9.o _ Z N a4.o b0.o a7.o).mono ?_;rintro e w2 ⟨rfl,a6⟩;have a8:=hY (a4.o.trans a6);clear a6;go_wp2_with fail;go_ret;exact⟨rfl,a8.o⟩
variable{s':Sl}
theorem QhJ{A B:List Int}(hA:Rd w (Lt w) 1 s A.length (A.map (.int .i64)))(hB:Rd w (Lt w) 1 s' B.length (B.map (.int .i64)))(hl:A.length<=1000000) :
  Calls prog 19 #[.slice s.a A.length s.c,.slice s'.a B.length s'.c] w λe w'=>e=.returned (.bool (decide (A=B)))/\Ext w w':=by
 obtain⟨b,o,hs,-,hc⟩:=hA;obtain⟨b',o',a4,-,a1⟩:=hB;obtain⟨HS,a5,HC,a7⟩:=Ye hs a4 hc a1;clear hs a4 hc a1;go_in;by_cases a0:A.length=B.length
 rotate_left
 ·have g:((A.length:Int) != (B.length:Int))=true:=by simp;omega
  have Z:decide (A=B)=false:=eG λh=>a0 (by rw[h])
  rw[Z];go_wp2_with fail;go_ret;exact⟨rfl,gh _⟩
 have g:((A.length:Int) !=(B.length:Int))=false:=by simp;omega
 have I:=hY a0;go_wp2_with fail;clear g a0;go_loopw[5] (λv wr=>∃j:Nat,v=.int .i64 (j:Int)/\j<=A.length/\Yd (A.take j=B.take j)/\Yd (Ext w wr)) (λv _=>A.length -(intOf v).toNat)
 case atStart=>exact⟨0,rfl,aA _,hY rfl,hY (gh _)⟩
 obtain⟨j,rfl,hj,HT,HX⟩:=hrel;by_cases a3:j<A.length
 ·have l1:(j:Int)<(A.length:Int):=oM
  have b4:decide ((j:Int)<(A.length:Int))=true:=eI l1;have l2:(j:Int)<(B.length:Int):=by have:=I.o;omega
  have l0:(0:Int)<=(j:Int):=oM
  obtain⟨x,hx⟩:∃x,A[j]? = some x:=⟨_,ac a3⟩;obtain⟨y,hy⟩:∃y,B[j]? = some y:=⟨_,ac (by have:=I.o;omega)⟩;obtain⟨a8,-,-⟩:=HS.o.eq oM;obtain⟨b0,-,-⟩:=a5.o.eq (by have:=I.o;omega);have e1:wr.cell? ⟨b,o+j,none⟩=some (.int .i64 x):=(HX.o.cell (HS.o.fits oM)).trans (HC.o j _ (by rw[ar,hx];rfl));have e2:wr.cell? ⟨b',o'+j,none⟩=some (.int .i64 y):=(HX.o.cell (a5.o.fits (by have:=I.o;omega))).trans (a7.o j _ (by rw[ar,hy];rfl));have N:=hY (And.intro hx hy);rw[a8,b0];clear hx hy;go_wp2_with fail;go_quiet (fail);have a2:=HX.o.drewN nq;clear e1 e2;generalize wr.drewN nq=wq at *;have a6:=hY a2;clear a2;by_cases h:x=y
  ·subst h
   have b3:wrap64 ((j:Int)+1)=((j+1:Nat):Int):=by unfold wrap64;omega
   go_wp2_with fail;go_roundw
   case measure=>simp[intOf];omega
   exact⟨j+1,by go_num,a3,hY (by rw[aJ,aJ,HT.o,N.o.1,N.o.2]),a6⟩
  have g:(x != y)=true:=by simp[h]
  have Z:decide (A=B)=false:=eG λe=>h (by
   have h1:=N.o.1;rw[e,N.o.2]at h1;injection h1 with h1;exact h1.symm)
  have a9:=hY Z;clear Z;go_wp2_with fail;go_ret;exact⟨by rw[a9.o]<;>rfl,a6.o⟩
 obtain rfl:j=A.length:=oM
 have l1:decide ((A.length:Int)<(A.length:Int))=false:=eG oM;have he:decide (A=B)=true:=eI (by
  have:=HT.o;rw[aR,I.o,aR]at this;exact this)
 have HE:=hY he;clear he;go_wp2_with fail;go_ret;exact⟨by rw[HE.o]<;>rfl,HX.o⟩
theorem Qly(n:Nat):∀(m:Mu) (c c':MuS) (w:World),SizeOf.sizeOf m<=n->RMu w (Lt w) m c->RMu w (Lt w) m c'->Calls prog 30 #[Qaz m c,Qaz m c'] w λe w'=>e=.returned true/\Ext w w':=by
 induction n with
 |zero=>intro m c c' w h;have:=Mu.Qb6 m;omega
 | succ n ih=>
   intro m c c' w hn hm d6;obtain⟨g9,f9,-,-,-⟩:=hm.parts;obtain⟨g3,i5,-,-,-⟩:=d6.parts;have Z:∀{W:World},Ext w W->∀{d:Val} {sl so:Sl},RV w (Lt w) d sl so->RV W (Lt W) d sl so:=λN _ _ _ h=>(h.agree (N.agree λ_ h=>h)).mono λb hb=>ab hb N.size
   obtain⟨j2,j1⟩:=Yb (λW (N:Ext w W)=>Qgn _ _ _ (ao _) W _ _ _ _ (Z N g9) (Z N g3)) (λW (N:Ext w W)=>Qgn _ _ _ (ao _) W _ _ _ _ (Z N f9) (Z N i5));have k3:=hm.len;obtain⟨HI,HM,i7,HN⟩:=Ye ih hm d6 hn;clear ih hm d6 hn g9 f9 g3 i5 Z;go_in;go_upto_region 1 with fail;generalize i4:World.alloc _ _=W0;obtain⟨i2,j5,f6,f5⟩:=Qas w _ _ _ _ W0 i4;have e8:MuC W0 w.heap.size 0 m c:=gC f6;have e7:MuC W0 (w.heap.size+1) 0 m c':=gC f5;obtain⟨g5,f7,g4⟩:=Yc i2 e8 e7;clear i4 i2 j5 f6 f5;obtain⟨a0,a1,a2,a3,a4,a5,a6,a7,a8,a9,j8,k2,f1,d4,e6,f3,d7,e4,i8⟩:=e8.c19;obtain⟨b0,b1,b2,b3,b4,b5,b6,b7,b8,b9,j7,j4,d8,e2,e0,f2,e1,e3,i9⟩:=e7.c19;clear e8 e7;go_wp2_with fail;refine(j2.o _ g5.o).mono ?_;rintro e w1 ⟨rfl,c2⟩;rw[QcN];obtain⟨g6,c0,c1⟩:=Yc (g5.o.trans c2) (f7.o.ext c2) (g4.o.ext c2);clear a0 a1 a2 a3 a4 a5 a6 a7 a8 a9 j8 k2 f1 d4 e6 f3 d7 e4 i8 b0 b1 b2 b3 b4 b5 b6 b7 b8 b9 j7 j4 d8 e2 e0 f2 e1 e3 i9 c2;obtain⟨-,-,-,-,-,-,-,-,-,-,-,-,f1,d4,e6,f3,d7,e4,-⟩:=c0.o.c19;obtain⟨-,-,-,-,-,-,-,-,-,-,-,-,d8,e2,e0,f2,e1,e3,-⟩:=c1.o.c19;go_wp2_with fail;refine(j1.o _ g6.o).mono ?_;rintro e w2 ⟨rfl,c4⟩;rw[QcN];obtain⟨f8,d3,d0⟩:=Yc (g6.o.trans c4) (c0.o.ext c4) (c1.o.ext c4);clear f1 d4 e6 f3 d7 e4 d8 e2 e0 f2 e1 e3 c4 c0 c1 f7 g4;go_wp2_with fail;go_loopw[5] (λv wr=>∃j:Nat,v=.int .i64 (j:Int)/\j<=m.l.length/\Yd (Ext w2 wr)) (λv _=>m.l.length -(intOf v).toNat)
   case atStart=>exact⟨0,rfl,aA _,hY (gh _)⟩
   obtain⟨j,rfl,hj,HX⟩:=hrel;have c6:wr.cell? ⟨w,0+18,none⟩=some (.slice c.s.a m.l.length c.s.c):=(d3.o.ext HX.o) 18 _ rfl;have c7:wr.cell? ⟨w+1,0+18,none⟩=some (.slice c'.s.a m.l.length c'.s.c):=(d0.o.ext HX.o) 18 _ rfl;by_cases g8:j<m.l.length
   ·have l1:(j:Int)<(m.l.length:Int):=oM
    have k7:decide ((j:Int)<(m.l.length:Int))=true:=eI l1;have l0:(0:Int)<=(j:Int):=oM
    obtain⟨x,hx⟩:∃x,m.l[j]? = some x:=⟨_,ac g8⟩;obtain⟨g,o,y,j9,hg,j3,k6,g7,i0⟩:=HM.o.at hx;obtain⟨g',o',y',i1,i3,k4,k5,c8,c9⟩:=i7.o.at hx;have c3:Ext w wr:=f8.o.trans HX.o;obtain⟨g0,d5⟩:=Yb (show ∀W,Ext wr W->W.rangeAt g (o+j*19) (Qa2 x y).toList fromλW N=>(g7.agree ((c3.trans N).agree λ_ h=>h) hg).range) (show ∀W,Ext wr W->W.rangeAt g' (o'+j*19) (Qa2 x y').toList fromλW N=>(c8.agree ((c3.trans N).agree λ_ h=>h) i3).range);have Z:∀{W:World},Ext wr W->∀{c:MuS},RMu w (Lt w) x c->RMu W (Lt W) x c:=λN _ h=>(h.agree ((c3.trans N).agree λ_ h=>h)).mono λb hb=>ab hb (c3.trans N).size
    have f0:=hY (λW (N:Ext wr W)=>HI.o x y y' W (by have:=Mu.Qsr hx;have:=HN.o;omega) (Z N i0) (Z N c9));obtain⟨d,f4⟩:=QiJ x y;obtain⟨d',i6⟩:=QiJ x y';obtain⟨k1,j0,I,HL⟩:=Ye f4 i6 (show ∀W,Ext wr W->W.cell? ⟨w,18,none⟩=some (.slice c.s.a m.l.length c.s.c)/\W.cell? ⟨w+1,18,none⟩=some (.slice c'.s.a m.l.length c'.s.c) fromλW N=>⟨(d3.o.ext (HX.o.trans N)) 18 _ rfl,(d0.o.ext (HX.o.trans N)) 18 _ rfl⟩) j3;rw[j9]at I c6;rw[i1]at I c7;clear g7 c8 i0 c9 Z hx f4 i6 hg i3;go_upto_region 6 with fail;clear c6 c7;refine eO (S:=(λw'=>Ext wr w')) kM (((gh wr).drew)) (λhHeld=>?_);refine Qaf 0 (some 78) I hHeld ?_;refine Qaf 1 (some 79) I hHeld ?_;refine Qaf 2 (some 80) I hHeld ?_;refine Qaf 3 (some 81) I hHeld ?_;refine Qrs 4 (some 82) 37 (.tmp 81) g0 hHeld k1.o ?_;refine Qaf 5 (some 83) I hHeld ?_;refine Qaf 6 (some 84) I hHeld ?_;refine Qaf 7 (some 85) I hHeld ?_;refine Qaf 8 (some 86) I hHeld ?_;refine Qrs 9 (some 87) 37 (.tmp 86) d5 hHeld j0.o ?_;refine Qac (i:=10) kM rfl (by rfl) (λK hK=>?_);go_simp
    (refine(f0.o _ hHeld).mono ?_;rintro e wa ⟨rfl,k0⟩)
    refine hK.out _ _ (hHeld.trans k0) (λhHeld=>?_);clear hK K
    try go_frame
    refine Qaf 11 (some 89) I hHeld ?_;refine eV kM ?_ _;have j6:=hY hHeld;clear hHeld;go_wp2_with fail;go_roundw
    case measure=>simp[intOf];omega
    exact⟨j+1,by go_num,g8,hY (HX.o.trans j6.o)⟩
   obtain rfl:j=m.l.length:=oM
   have l1:decide ((m.l.length:Int)<(m.l.length:Int))=false:=eG oM;go_wp2_with fail;go_ret;exact⟨rfl,f8.o.trans HX.o⟩
variable{c c':MuS}
theorem QnS{m:Mu}(h:RMu w (Lt w) m c)(I:RMu w (Lt w) m c'):Calls prog 30 #[Qaz m c,Qaz m c'] w λe w'=>e=.returned true/\Ext w w':=Qly _ m c c' w (ao _) h I
theorem QgX{l:List Nm}(h:Qa7 w (Lt w) s l)(h':Qa7 w (Lt w) s' l):Calls prog 11 #[.slice s.a l.length s.c,.slice s'.a l.length s'.c] w λe w'=>e=.returned true/\Ext w w':=by
 have c0:=h.len;obtain⟨H,H'⟩:=Yb h h';clear h h';go_in;go_wp2_with fail;go_loopw[5] (λv wr=>∃j:Nat,v=.int .i64 (j:Int)/\j<=l.length/\Yd (Ext w wr)) (λv _=>l.length -(intOf v).toNat)
 case atStart=>exact⟨0,rfl,aA _,hY (gh _)⟩
 obtain⟨j,rfl,hj,HX⟩:=hrel;by_cases a5:j<l.length
 ·have l1:(j:Int)<(l.length:Int):=oM
  have c3:decide ((j:Int)<(l.length:Int))=true:=eI l1;have l0:(0:Int)<=(j:Int):=oM
  obtain⟨x,hx⟩:∃x,l[j]? = some x:=⟨_,ac a5⟩;obtain⟨b,o,y,b6,hb,c4,c2,b0,a7⟩:=H.o.at hx;obtain⟨b',o',y',a8,a4,c1,b4,a0,a1⟩:=H'.o.at hx;have Z:∀W,Ext wr W->NmC W b (o+j*20) x y:=λW hW=>b0.agree ((HX.o.trans hW).agree λ_ h=>h) hb
  have N:∀W,Ext wr W->NmC W b' (o'+j*20) x y':=λW hW=>a0.agree ((HX.o.trans hW).agree λ_ h=>h) a4
  obtain⟨a9,a2,a3⟩:=Yc (show ∀W,Ext wr W->W.rangeAt b (o+j*20+1) (Qa2 x.m y).toList fromλW hW=>(Z W hW).mu.range) (show ∀W,Ext wr W->W.rangeAt b' (o'+j*20+1) (Qa2 x.m y').toList fromλW hW=>(N W hW).mu.range) (λW (hW:Ext wr W)=>QnS ((a7.agree ((HX.o.trans hW).agree λ_ h=>h)).mono (G:=Lt W) λb hb=>ab hb (HX.o.trans hW).size) ((a1.agree ((HX.o.trans hW).agree λ_ h=>h)).mono (G:=Lt W) λb hb=>ab hb (HX.o.trans hW).size));obtain⟨d,a6⟩:=QiJ x.m y;obtain⟨d',b3⟩:=QiJ x.m y';obtain⟨b9,b7,I⟩:=Yc a6 b3 (show ∀W,Ext wr W->W.cell? ⟨b,o+j*20,none⟩=some (.int .u64 x.id)/\W.cell? ⟨b',o'+j*20,none⟩=some (.int .u64 x.id) fromλW hW=>⟨(Z W hW).id,(N W hW).id⟩);rw[b6,a8];clear b0 a0 a7 a1 Z N hx a6 b3 hb a4;go_upto_region 6 with fail;refine eO (S:=(λw'=>Ext wr w')) kM (((gh wr).drew)) (λhHeld=>?_);refine Qaf 0 (some 17) I hHeld ?_;refine Qaf 1 (some 18) I hHeld ?_;refine Qaf 2 (some 19) I hHeld ?_;refine Qaf 3 (some 20) I hHeld ?_;refine Qaf 4 (some 21) I hHeld ?_;refine Qaf 5 (some 22) I hHeld ?_;refine Qaf 6 (some 23) I hHeld ?_;refine Qaf 7 (some 24) I hHeld ?_;refine Qaf 8 (some 25) I hHeld ?_;refine Qaf 9 (some 26) I hHeld ?_;refine Qaf 10 (some 27) I hHeld ?_;refine Qaf 11 (some 28) I hHeld ?_;refine Qaf 12 (some 29) I hHeld ?_;refine Qaf 13 (some 30) I hHeld ?_;refine Qaf 14 (some 31) I hHeld ?_;refine Qaf 15 (some 32) I hHeld ?_;refine Qrs 16 (some 33) 37 (.tmp 32) a9 hHeld b9.o ?_;refine Qaf 17 (some 34) I hHeld ?_;refine Qaf 18 (some 35) I hHeld ?_;refine Qaf 19 (some 36) I hHeld ?_;refine Qaf 20 (some 37) I hHeld ?_;refine Qrs 21 (some 38) 37 (.tmp 37) a2 hHeld b7.o ?_;refine Qac (i:=22) kM rfl (by rfl) (λK hK=>?_);go_simp
  (refine(a3.o _ hHeld).mono ?_;rintro e wa ⟨rfl,b8⟩)
  refine hK.out _ _ (hHeld.trans b8) (λhHeld=>?_);clear hK K
  try go_frame
  refine Qaf 23 (some 40) I hHeld ?_;refine Qaf 24 (some 41) I hHeld ?_;refine eV kM ?_ _;have b5:=hY hHeld;clear hHeld;go_wp2_with fail;go_roundw
  case measure=>simp[intOf];omega
  exact⟨j+1,by go_num,a5,hY (HX.o.trans b5.o)⟩
 obtain rfl:j=l.length:=oM
 have l1:decide ((l.length:Int)<(l.length:Int))=false:=eG oM;go_wp2_with fail;go_ret;exact⟨rfl,HX.o⟩
end Go.Proofs.YtdiecmkpbadgjaaGreatDoor
