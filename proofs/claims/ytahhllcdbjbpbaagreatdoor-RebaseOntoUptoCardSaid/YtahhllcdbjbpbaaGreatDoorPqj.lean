/- Steps to the theorem. -/
import Derived.Test.YtahhllcdbjbpbaaGreatDoorPqi
set_option linter.all false
set_option maxRecDepth 100000
set_option maxHeartbeats 40000000
namespace Go.Proofs.YtahhllcdbjbpbaaGreatDoor
open Go.Proofs.Tryz
open Go.RowKit Go.Shelf
abbrev AN.p(a:AN):Value:=ptr a.1 a.2
abbrev B'(X:Nat):Value:=.pointer (some ⟨X,0,none⟩)
structure Ak(F E:Nat->Prop)(lo X:Nat)(row:Option Nat)(x:AI)(W:AB):Prop where
 ex:∃(es nd:Sl) (xs:List LE),xs.map LE.ent=x.es/\AE W X 179 #[.slice es.a xs.length es.c,.slice nd.a x.ns.length nd.c,.int .i64 x.o]/\ES W E es xs/\W.ownsRow lo 34 1 (.slice nd.a x.ns.length nd.c) x.ns.length (x.ns.map AN.p)/\nd.row=row
 nodes:∀a∈x.ns,AJ W F a.1 a.2
 lX:lo<=X
 ne:row≠some X
 few:x.tot<=1000000
 FX:∀b,F b->b<lo
 EX:∀b,E b->lo<=b/\b<W.heap.size/\b≠X/\row≠some b
section
variable{F E : Nat -> Prop}{lo X : Nat}{row : Option Nat}{x : AI}{W W' : AB}
def Ak.lt(h:Ak F E lo X row x W):X<W.heap.size:=by
 obtain⟨es,nd,xs,-,I,-⟩:=h.ex;exact I.lt
def Ak.rlt(h:Ak F E lo X row x W):∀b,row=some b->lo<=b/\b<W.heap.size:=by
 obtain⟨es,nd,xs,-,-,-,N,Z⟩:=h.ex;intro b I;exact AM N (Z.trans I)
def Dq(F E:Nat->Prop)(X:Nat)(row:Option Nat)(b:Nat):Prop:=F b\/E b\/b=X\/row=some b
def Ak.agree(h:Ak F E lo X row x W)(k:Agree (Dq F E X row) W W')(hs:W.heap.size<=W'.heap.size):Ak F E lo X row x W':=by
 obtain⟨es,nd,xs,h1,h2,h3,Z,N⟩:=h.ex;exact⟨⟨es,nd,xs,h1,h2.agree k (.inr (.inr (.inl rfl))),h3.agree (k.mono λb I=>.inr (.inl I)),AZ Z k (λb I=>.inr (.inr (.inr (by rw[<-N];exact I)))),N⟩,λa ha=>(h.nodes a ha).agree (k.mono λb I=>.inl I),h.lX,h.ne,h.few,h.FX,λb I=>⟨(h.EX b I).1,ab (h.EX b I).2.1 hs,(h.EX b I).2.2⟩⟩
def Ak.kl(h:Ak F E lo X row x W)(N:lo<=W):∀b,Dq F E X row b->b<W.heap.size:=by
 rintro b (I|I|rfl|I)
 .exact ab (h.FX b I) N
 .exact (h.EX b I).2.1
 .exact h.lt
 exact(h.rlt b I).2
def Ak.low(h:Ak F E lo X row x W):lo<=W:=an h.lX (bY h.lt)
def Ak.ext(h:Ak F E lo X row x W)(k:Ext W W'):Ak F E lo X row x W':=h.agree (k.agree (h.kl h.low)) k.size
def Ak.st{H:Nat->Prop}(h:Ak F E lo X row x W)(k:St H W W')(N:∀b,Dq F E X row b->¬H b):Ak F E lo X row x W':=h.agree (k.agree.mono λb I=>⟨h.kl h.low b I,N b I⟩) k.size
def Ak.len(h:Ak F E lo X row x W):x.ns.length<=1000000:=by
 have:=ng x.ns;have:=h.few;unfold AI.tot at this;omega
def AI.En(x:AI):Value:=match x.node with|some a=>a.p|none=>.pointer none
def FD(x:AI)(is:Bool)(W:AB)(e:AC)(w':AB):Prop:=
 e=.returned (.tuple #[.agg #[x.En,.int .i64 x.height,.string x.first,.string x.last],.bool is])/\Ext W w'
def iY(h:Ak F E lo X row x W){e:AD}{es:List AD}(N:x.es=e::es):Calls prog 106 #[B' X] W (FD x true W):=by
 have hp:x.En=.pointer none:=by simp[AI.En,AI.node,N]
 have hh:=x.JV N;obtain⟨-,hf,hl,-⟩:=x.IE N;obtain⟨se,nd,xs,h1,h2,h3,-,-⟩:=h.ex;have I:xs.length=x.es.length:=by rw[<-h1,aq]
 have Z:0<xs.length:=by rw[I,N];exact Nat.succ_pos _
 obtain⟨y,hy⟩:∃y,xs[0]? = some y:=⟨_,ac Z⟩;have a2:y.k=e.1:=by
  have:(xs.map LE.ent)[0]? = some y.ent:=by rw[ar,hy];rfl
  rw[h1,N]at this;simp only[List.getElem?_cons_zero,Option.some.injEq]at this;rw[this];rfl
 obtain⟨b,o,a0,a5,a3,a4,ck,-⟩:=h3.at hy;rw[a2,cH,cA]at ck;have c0:W.cell? X=some (.slice se.a xs.length se.c):=h2.cell 0;have lX:=h2.lt;have lb:b<W:=(h.EX b a5).2.1;have g1:(0:Int)<(xs.length:Int):=oM
 unfold FD;rw[hp,hh,hf,hl];obtain⟨sa,sc⟩:=se;dsimp only at a0 a3 a4 c0;subst a0;have a1:=h3.few;have a6:xs.length<=140737488355328:=oM
 clear h hp hh hf hl h1 h2 h3 I hy a2 N a1;go_in;go_wp2_with fail;refine eU (v:=.tuple #[.agg #[.pointer none,.int .i64 (-1),e.1,e.1],.bool true]) (by simp[results,results106,go_sem]) rfl ?_;exact⟨rfl,(gz W).alloc _ _⟩
def iB(h:Ak F E lo X row x W)(Z:x.gone):Calls prog 106 #[B' X] W (FD x false W):=by
 obtain⟨es,ns,o⟩:=x;obtain⟨rfl,rfl⟩:es=[]/\ns=[]:=Z;obtain⟨N,nd,xs,h1,h2,-,-,-⟩:=h.ex;have I:xs=[]:=df.1 h1;subst I;have c0:W.cell? X=some (.slice N.a 0 N.c):=h2.cell 0;have c1:W.cell? ⟨X,1,none⟩=some (.slice nd.a 0 nd.c):=h2.cell 1;have lX:=h2.lt;unfold FD;show Calls _ _ _ _ λe w'=>e=.returned (.tuple #[.agg #[.pointer none,.int .i64 0,ByteArray.empty,ByteArray.empty],.bool false])/\Ext W w'
 clear h h1 h2;go_in;go_wp2_with fail;refine eU (v:=.tuple #[.agg #[.pointer none,.int .i64 0,ByteArray.empty,ByteArray.empty],.bool false]) (by simp[results,results106,go_sem];rfl) rfl ?_;exact⟨rfl,(gz W).alloc _ _⟩
def oY{W:AB}{base e g cap n:Nat}{xs:List Value}{v:Value}(h:W.ownsRow base e 1 (.slice (some g) (n+1) cap) (n+1) (xs++[v])):W.ownsRow base e 1 (.slice (some g) n cap) n xs:=by
 have h1:xs.length=n:=by have:=h.1;simpa using this
 rcases h.2 with⟨hv,h0⟩ |⟨g',a1,Z,hv,a0,hg,a2,N,I,ht⟩
 .omega
 simp only[Value.slice.injEq,Option.some.injEq,Addr.mk.injEq,true_and,and_true]at hv;obtain⟨rfl,rfl⟩:=hv;refine⟨oM,.inr ⟨g,cap,Z,rfl,a0,hg,oM,N,I,?_⟩⟩;have:=congrArg (List.take n) ht;rw[cW,List.take_left' h1]at this;rw[<-this];congr 1;omega
def Ak.top(h:Ak F E lo X row x W){I:List AN}{a:AN}(hn:x.ns=I++[a]) :
  ∃(es:Sl) (xs:List LE) (g cap:Nat),xs.map LE.ent=x.es/\AE W X 179 #[.slice es.a xs.length es.c,.slice (some g) (I.length+1) cap,.int .i64 x.o]/\ES W E es xs/\W.ownsRow lo 34 1 (.slice (some g) (I.length+1) cap) (I.length+1) (I.map AN.p++[a.p])/\row=some g/\
   lo<=g/\g<W/\I.length+1<=cap/\cap<=maxLen/\W.cell? ⟨g,I.length,none⟩=some a.p/\AJ W F a.1 a.2/\I.length<=1000000:=by
 obtain⟨es,nd,xs,h1,h2,h3,N,h5⟩:=h.ex;have hl:=h.len;have hm:x.ns.length=I.length+1:=by rw[hn];simp
 have a0:x.ns.map AN.p=I.map AN.p++[a.p]:=by rw[hn];simp
 rw[hm]at h2 N;rw[a0]at N;obtain⟨g,cap,rfl,hg,a1,Z,hf⟩:=Dg N (Nat.succ_pos _);have hc:=N.cells (g:=g) rfl;refine⟨es,xs,g,cap,h1,h2,h3,N,h5.symm,hg,hf.lt,a1,Z,?_,h.nodes a (by rw[hn];simp),oM⟩;have:=hc I.length a.p (by rw[aO oO];simp);rwa[Cb,aF]at this
def Z4(h:Ak F E lo X row x W){a:AN}(hx:x.node=some a):Calls prog 106 #[B' X] W (FD x true W):=by
 obtain⟨N,b0,Z⟩:=x.DV hx;have hp:x.En=a.p:=by simp[AI.En,hx]
 have hh:=x.J0 hx;have hf:x.first=Az a.es:=by simp[AI.first,N,Z]
 have hl:x.last=BZ a.es:=by simp[AI.last,N,Z]
 obtain⟨es,xs,g,b4,h1,h2,-,-,-,-,b6,b8,b7,b5,I,b9⟩:=h.top b0;rw[N]at h1;have b3:xs=[]:=df.1 h1;subst b3;unfold FD;rw[hp,hh,hf,hl];have c0:W.cell? X=some (.slice es.a 0 es.c):=h2.cell 0;have c1:W.cell? ⟨X,1,none⟩=some (.slice (some g) (x.ns.dropLast.length+1) b4):=h2.cell 1;have lX:=h2.lt;have a9:∀W',Ext W W'->Calls prog 48 #[a.p] W' λe w'=>e=.returned a.1/\W'=w':=λW' hW=>Dw (F:=F) (I.agree (hW.agree λb hb=>ab (h.FX b hb) h.low))
 have a7:∀W',Ext W W'->Calls prog 85 #[a.p] W' λe w'=>e=.returned (Az a.es)/\W'=w':=λW' hW=>M8 (F:=F) (I.agree (hW.agree λb hb=>ab (h.FX b hb) h.low))
 have a4:∀W',Ext W W'->Calls prog 146 #[a.p] W' λe w'=>e=.returned (BZ a.es)/\W'=w':=λW' hW=>TK (F:=F) (I.agree (hW.agree λb hb=>ab (h.FX b hb) h.low))
 obtain⟨a6,a3,a1⟩:=Yc a9 a7 a4;generalize x.ns.dropLast.length=m at *;obtain⟨ah,a2⟩:=a;obtain⟨fk,a5⟩:∃k,Az (AN.es ⟨ah,a2⟩)=k:=⟨_,rfl⟩;obtain⟨lk,a8⟩:∃k,BZ (AN.es ⟨ah,a2⟩)=k:=⟨_,rfl⟩;rw[a5]at a3 ⊢;rw[a8]at a1 ⊢;dsimp only[AN.p,ptr]at a6 a3 a1 b5 ⊢;generalize addr ah a2=A at *;have g0:(0:Int)<(m:Int)+1:=oM
 have g1:(m:Int)<(m:Int)+1:=oM
 have g2:(0:Int)<=(m:Int):=oM
 clear h hx N b0 Z hp hh hf hl h1 h2 I a9 a7 a4 a5 a8;go_in;go_wp2_with fail;go_region;go_wp2_with fail;have a0:Ext W (W.alloc (.cells #[.pointer none,.int .i64 0,ByteArray.empty,ByteArray.empty] 171)).drew:=((gz W).alloc _ _).drew;refine(a6.o _ a0).mono ?_;rintro e w1 ⟨rfl,rfl⟩;go_wp2_with fail;refine(a3.o _ a0).mono ?_;rintro e w1 ⟨rfl,rfl⟩;go_wp2_with fail;refine(a1.o _ a0).mono ?_;rintro e w1 ⟨rfl,rfl⟩;go_wp2_with fail;refine eU (v:=.tuple #[.agg #[.pointer (some A),ah,fk,lk],.bool true]) (by simp[results,results106,go_sem]) rfl ?_;exact⟨rfl,((gz W).alloc _ _).drew⟩
def Ji(h:Ak F E lo X row x W){a:AN}(hx:x.node=some a):Calls prog 107 #[B' X] W λe w'=>e=.returned (.tuple #[])/\Ak F E lo X row x.skip w'/\St (λb=>b=X) W w':=by
 obtain⟨b3,a7,a9⟩:=x.DV hx;have a8:=(x.LG hx).2;obtain⟨es,xs,g,N,h1,h2,h3,h4,Z,b6,a3,b7,b5,b4,b0,b8⟩:=h.top a7;have c1:W.cell? ⟨X,1,none⟩=some (.slice (some g) (x.ns.dropLast.length+1) N):=h2.cell 1;have f1:=h2.frozen 1;have lX:=h2.lt;have a6:=h.ne;have a1:∀W',St (λb=>b=X) W W'->AE W' X 179 #[.slice es.a xs.length es.c,.slice (some g) x.ns.dropLast.length N,.int .i64 x.o]->Ak F E lo X row x.skip W':=λW' a5 I=>by
  have a2:∀b,b<W.heap.size->b≠X->W'.heap[b]? = W.heap[b]?:=λb I hn=>a5.block b I hn
  refine⟨⟨es,⟨some g,N⟩,xs,h1,I,h3.agree λb I=>a2 b (h.EX b I).2.1 (h.EX b I).2.2.1,?_,by rw[Z];rfl⟩,λa' ha=>(h.nodes a' (dq _ ha)).agree λb I=>a2 b (ab (h.FX b I) h.low) (by have:=h.FX b I;have:=h.lX;omega),h.lX,h.ne,by have:=h.few;omega,h.FX,λb I=>⟨(h.EX b I).1,ab (h.EX b I).2.1 a5.size,(h.EX b I).2.2⟩⟩;exact AZ (s:=⟨some g,N⟩) (oY h4) (λb (I:b<W/\b≠X)=>a2 b I.1 I.2) (λb I=>by
   obtain rfl:g=b:=by simpa[Sl.row]using I
   exact⟨a3,λe=>a6 (by rw[Z,e])⟩)
 obtain⟨H2,a4⟩:=Yb h2 a1;generalize x.ns.dropLast.length=m at *;have g0:(0:Int)<=(m:Int):=oM
 have g1:(m:Int)<=(N:Int):=oM
 clear h hx b3 a7 a9 a8 h1 h2 h3 h4 Z b4 b0 a1 a6;go_in;go_wp2_with fail;go_region;go_wp2_with fail;go_end0;have a0:St (λb=>b=X) W (W.setCell ⟨X,1,none⟩ (.slice (some g) m N)):=(gH (λb=>b=X) W).set (p:=⟨X,1,none⟩) (.inr rfl) _;have I:=H2.o.AX 1 (.slice (some g) m N);exact⟨rfl,a4.o _ a0.drew (I.ext ((gz _).drew)),a0.drew⟩
def ES.tail{w:AB}{F:Nat->Prop}{b o c:Nat}{x:LE}{xs:List LE}(h:ES w F ⟨some ⟨b,o,none⟩,c⟩ (x::xs)):ES w F ⟨some ⟨b,o+7,none⟩,c-1⟩ xs/\(xs=[]->∀a,ES w F ⟨some a,0⟩ xs):=by
 obtain⟨⟨b',o',h1,h2,h3⟩,hv,Z⟩:=h;obtain⟨e1,e2,e3⟩:=h1.eq oO;have hF:=h1.fits oO;obtain⟨rfl,rfl⟩:b=b'/\o=o':=by simpa using e1
 simp only[List.length_cons]at e2 Z;dsimp only at e3;refine⟨⟨⟨b,o+7,.some _ _ _ _ oM oM hF,by rw[GA],λj u I=>?_⟩,λy N=>hv y (aI _ N),oM⟩,?_⟩
 ·rw [bH]
  refine h3 _ u ?_;have e:AP (x::xs)=x.cells++AP xs:=by simp[AP]
  rw[e,aO (by simp[LE.cells]),show 7+j-x.cells.length=j from by simp[LE.cells]];exact I
 rintro rfl a;exact⟨⟨b,o,.zero _ _ _,by simp[AP],λj u I=>by simp[AP]at I⟩,λy N=>by simp at N,oO⟩
def J'(h:Ak F E lo X row x W){e:AD}{es:List AD}(hx:x.es=e::es):Calls prog 110 #[B' X] W λe' w'=>∃sl so,e'=.returned (B3 e.1 e.2 sl so)/\Ak F E lo X row x.take w'/\St (λb=>b=X) W w'/\RV w' E e.2 sl so/\e.1.size<=maxLen:=by
 obtain⟨se,nd,xs,h1,h2,h3,h4,h5⟩:=h.ex;obtain⟨y,ys,rfl⟩:∃y ys,xs=y::ys:=by
  cases xs with
  |nil=>rw[hx]at h1;simp at h1
  |cons y ys=>exact⟨y,ys,rfl⟩
 have b0:y.ent=e/\ys.map LE.ent=es:=by
  rw[hx]at h1;simpa using h1
 obtain⟨b,o,b6,b5,a7,d4,ck,⟨v0,v1,v2,v3,v4,v5⟩,b3,a8⟩:=h3.at (i:=0) (x:=y) rfl;have a6:x.take.tot=x.tot:=rfl;obtain⟨sa,sc⟩:=se;dsimp only at b6 a7 d4;subst b6;obtain⟨yk,I,sl,so⟩:=y;obtain⟨b0,b8⟩:=b0;obtain rfl:(yk,I)=e:=b0;dsimp only at ck v0 v1 v2 v3 v4 v5 b3 a8;rw[cH,cA]at ck v0 v1 v2 v3 v4 v5;have b9:=h.ne;have a0:=h.EX;have a3:∀(W':AB) (s':Sl),St (λb=>b=X) W W'->AE W' X 179 #[.slice s'.a ys.length s'.c,.slice nd.a x.ns.length nd.c,.int .i64 x.o]->(s'=⟨some ⟨b,o+7,none⟩,sc-1⟩\/(ys=[]/\∃a,s'=⟨some a,0⟩))->Ak F E lo X row x.take W'/\RV W' E I sl so:=λW' s' c6 N hs=>by
  have a9:∀b,b<W.heap.size->b≠X->W'.heap[b]? = W.heap[b]?:=λb N hn=>c6.block b N hn
  have a1:Agree E W W':=λb N=>a9 b (a0 b N).2.1 (a0 b N).2.2.1
  obtain⟨c7,d5⟩:=h3.tail;have d8:ES W E s' ys:=by
   rcases hs with rfl |⟨h0,a,rfl⟩
   .exact c7
   exact d5 h0 a
  refine⟨⟨⟨s',nd,ys,by rw[b8];simp[AI.take,hx],N,d8.agree a1,AZ h4 (λb (N:b<W/\b≠X)=>a9 b N.1 N.2) (λb N=>?_),h5⟩,λa' ha=>(h.nodes a' ha).agree λb N=>a9 b (ab (h.FX b N) h.low) (by have:=h.FX b N;have:=h.lX;omega),h.lX,h.ne,by rw[a6];exact h.few,h.FX,λb N=>⟨(h.EX b N).1,ab (h.EX b N).2.1 c6.size,(h.EX b N).2.2⟩⟩,b3.agree a1⟩;exact⟨(AM h4 N).2,λe=>b9 (by rw[<-h5,N,e])⟩
 obtain⟨a4,H2⟩:=Yb a3 h2;have c0:W.cell? X=some (.slice (some ⟨b,o,none⟩) (ys.length+1) sc):=h2.cell 0;have f0:=h2.frozen 0;have lX:=h2.lt;have lb:b<W:=(a0 b b5).2.1;have e3:ys.length+1<=sc:=a7;have a5:ys.length+1=1->ys=[]:=λh=>av oM
 obtain⟨c8,b4⟩:=Yb a5 a8;have a2:=h3.few;have e4:ys.length<=140737488355328:=by simp only[List.length_cons]at a2;omega
 have g0:(0:Int)<(ys.length:Int)+1:=oM
 have g1:(1:Int)<=(ys.length:Int)+1:=oM
 have g2:(ys.length:Int)+1<=(sc:Int):=oM
 have g3:(1:Int)<=(sc:Int):=oM
 have e2:¬W.heap.size=X:=oM
 have d7:¬W.heap.size+1=X:=oM
 have e1:¬W.heap.size=b:=oM
 have d3:¬W.heap.size+1=b:=oM
 dsimp only;clear h hx b8 h1 h2 h3 h4 h5 b9 a0 b5 b3 a3 a6 a7 a5 a2 a8;by_cases b7:sc=1
 ·obtain rfl:=b7
  have d9:ys.length=0:=oM
  go_in;go_wp2_with fail;refine eU (v:=B3 yk I sl so) (by simp[results,results110,go_sem]) rfl ?_;have Z:St (λb=>b=X) W (W.setCell X (.slice (some ⟨b,o,none⟩) 0 0)):=(gH (λb=>b=X) W).set (p:=⟨X,0,none⟩) (.inr rfl) _;have N:=H2.o.AX 0 (.slice (some ⟨b,o,none⟩) 0 0);generalize c9:W.setCell X (.slice (some ⟨b,o,none⟩) 0 0)=W1 at *;have hx:Ext W1 ((W1.alloc (.cells #[yk,I.kind,.bool I.b,I.i,I.t,.slice sl.a I.l.length sl.c,.slice so.a I.ok.length so.c] 65)).alloc (.cells #[yk,I.kind,.bool I.b,I.i,I.t,.slice sl.a I.l.length sl.c,.slice so.a I.ok.length so.c] 65)):=((gz W1).alloc _ _).alloc _ _;have d0:ys=[]:=c8.o oM;have d6:AE W1 X 179 #[.slice (some ⟨b,o,none⟩) ys.length 0,.slice nd.a x.ns.length nd.c,.int .i64 x.o]:=by rw[d9];exact N
  have hr:=a4.o _ ⟨some ⟨b,o,none⟩,0⟩ (Z.ext hx) (d6.ext hx) (.inr ⟨d0,_,rfl⟩);exact⟨sl,so,rfl,hr.1,Z.ext hx,hr.2,b4.o⟩
 have e0:¬(1:Nat)=sc:=λe=>b7 e.symm
 go_in;go_wp2_with fail;refine eU (v:=B3 yk I sl so) (by simp[results,results110,go_sem]) rfl ?_;have Z:St (λb=>b=X) W (W.setCell X (.slice (some ⟨b,o+7,none⟩) ys.length (sc-1))):=(gH (λb=>b=X) W).set (p:=⟨X,0,none⟩) (.inr rfl) _;have N:=H2.o.AX 0 (.slice (some ⟨b,o+7,none⟩) ys.length (sc-1));generalize c9:W.setCell X (.slice (some ⟨b,o+7,none⟩) ys.length (sc-1))=W1 at *;have hx:Ext W1 ((W1.alloc (.cells #[yk,I.kind,.bool I.b,I.i,I.t,.slice sl.a I.l.length sl.c,.slice so.a I.ok.length so.c] 65)).alloc (.cells #[yk,I.kind,.bool I.b,I.i,I.t,.slice sl.a I.l.length sl.c,.slice so.a I.ok.length so.c] 65)):=((gz W1).alloc _ _).alloc _ _;have hr:=a4.o _ ⟨some ⟨b,o+7,none⟩,sc-1⟩ (Z.ext hx) (N.ext hx) (.inl rfl);exact⟨sl,so,rfl,hr.1,Z.ext hx,hr.2,b4.o⟩
end
def E9(T:RT):AI:=⟨[],T.toList,0⟩
def JZ(T:RT):(E9 T).cont=AG T:=by
 cases T with
 |none=>rfl
 |some a=>show[]++([a].reverse).flatMap AN.es=_;simp;rfl
variable{T:RT}
def LB(ok:Am T):(E9 T).ok:=by
 intro a I;cases T with
 |none=>cases I
 | some b=>
   obtain rfl:a=b:=by simpa[E9]using I
   exact⟨ok.1,ok.2.1⟩
def Mf(T:RT):Nat:=CF T.toList
def Vk(T:RT):(E9 T).tot=Mf T:=by show 0+_=_;rw[aF];rfl
def LL(F:Nat->Prop)(lo:Nat)(T:RT)(w:AB)(e:AC)(w':AB):Prop:=
 ∃X row,e=.returned (B' X)/\Ext w w'/\Ak F (λ_=>False) lo X row (E9 T) w'/\w.heap.size<=X/\∀b,row=some b->w.heap.size<=b
variable{w:AB}{F:Nat->Prop}
def UF{lo:Nat}(hT:AV w F T)(hF:∀b,F b->b<lo)(b7:lo<=w)(hn:Mf T<=1000000):Calls prog 75 #[AO T] w (LL F lo T w):=by
 obtain⟨i0,hi,d4,d7,d5⟩:=eZ Tryz.Ec;cases T with
 | none=>
   show Calls _ _ #[.agg #[.pointer none]] _ _;go_in;go_wp2_with fail;generalize a1:World.alloc (World.alloc _ _) _=W0;obtain⟨a5,b5,b9,a4⟩:=CH w _ _ _ _ W0 a1;clear a1;refine(MD _ _).mono ?_;rintro e w1 ⟨rfl,Z⟩;go_wp2_with fail;go_ret;refine⟨w+1,none,rfl,a5.trans Z,⟨⟨Sl.none,Sl.none,[],rfl,a4.ext Z,ES.nil _ _,e9 _ _ _ _,rfl⟩,λa ha=>(by cases ha),oM,oO,by rw[Vk];exact hn,hF,λb N=>N.elim⟩,oM,λb N=>(by cases N)⟩
 | some a=>
   obtain⟨h,t⟩:=a;have hT:AJ w F h t:=hT;obtain⟨HT,HF,HN⟩:=Yc hT hF hn;clear hT hF hn;show Calls _ _ #[.agg #[ptr h t]] _ _;have a8:∀(w':AB) (g I:Nat),Ext w w'->AE w' (w.heap.size+1) 179 #[.slice none 0 0,.slice (some g) 1 I,.int .i64 0]->w'.ownsRow w.heap.size 34 1 (.slice (some g) 1 I) 1 [ptr h t]->g≠w.heap.size+1->LL F lo (some ⟨h,t⟩) w (.returned (B' (w.heap.size+1))) w':=λw' g I hx N ho hg=>by
    have c6:=AM (s:=⟨some g,I⟩) ho rfl;refine⟨w+1,some g,rfl,hx,⟨⟨Sl.none,⟨some g,I⟩,[],rfl,N,ES.nil _ _,⟨ho.1,?_⟩,rfl⟩,λa ha=>?_,oM,by simpa using hg,by rw[Vk];exact HN.o,HF.o,λb N=>N.elim⟩,oM,λb N=>?_⟩
    ·rcases ho.2 with h | ⟨g',b6,d3,h1,h2,h3⟩
     .exact .inl h
     exact .inr ⟨g',b6,d3,h1,an b7 h2,h3⟩
    ·obtain rfl:a=⟨h,t⟩:=by simpa [E9] using ha
     exact HT.o.agree (hx.agree λb N=>ab (HF.o b N) b7)
    obtain rfl:g=b:=by simpa using N
    exact c6.1
   have a9:=hY a8;clear a8;dsimp only[ptr]at a9 ⊢;generalize addr h t=A at *;have c9:0+1<=maxLen:=oN
   go_in;go_wp2_with fail;generalize a1:World.alloc (World.alloc _ _) _=W0;obtain⟨a5,b5,b9,a4⟩:=CH w _ _ _ _ W0 a1;clear a1;refine(MD _ _).mono ?_;rintro e w1 ⟨rfl,Z⟩;have a0:=a4.ext Z;have c1:w1.cell? ⟨w+1,1,none⟩=some (.slice none 0 0):=a0.cell 1;have f1:=a0.frozen 1;have l1:=a0.lt;obtain⟨b4,d8⟩:=Yb (a5.trans Z) a0;have e2:=b4.o.size;clear a5 Z b9 a4 a0;go_wp2_with(at_builtin;refine Bq _ rfl _ _ 87 rfl w.heap.size 34 i0 (.pointer none) 1 8 underlying87 hi d4 d7 d5 rfl oN Sl.none 0 [] rfl (e9 _ _ _ _) (λ_=>True) ⟨some w1,1⟩ 1 [.pointer (some A)] rfl (Rd.one _ _ _) (by simp[Value.oneCell']) c9 oM (by simp;omega) ?_;intro s2 w2 a3 a7 b8;have b3:=((gz w1).alloc #[.pointer (some A)] 34).wr a7 (λi hi=>by simp[Sl.row]at hi);have a2:=d8.o.ext b3;have c2:w2.cell? ⟨w+1,1,none⟩=some (.slice none 0 0):=a2.cell 1;have f2:=a2.frozen 1;have l2:=a2.lt;have d0:=hY b3;have d6:=hY a2;have a6:=hY a3;have c8:=hY b8;clear a3 a7 b8 b3 a2);obtain⟨g,I,rfl,hg,e0,e1,c7⟩:=Dg a6.o oM;have b0:g≠w.heap.size+1:=by
    rcases c8.o with hs |⟨hs,-⟩
    .simp at hs
    simp only[Option.some.injEq,Addr.mk.injEq,and_true,World.size_alloc]at hs;omega
   have hE:=(b4.o.trans d0.o).setCell (p:=⟨w+1,1,none⟩) (cN _) (.slice (some g) 1 I);have d9:St (λb=>b=w.heap.size+1) w2 (w2.setCell ⟨w+1,1,none⟩ (.slice (some g) 1 I)):=(gH (λb=>b=w.heap.size+1) w2).set (p:=⟨w+1,1,none⟩) (.inr rfl) _;go_ret;exact a9.o _ g I hE (d6.o.AX 1 _) (AZ (s:=⟨some g,I⟩) a6.o d9.agree (λb N=>by
    obtain rfl:g=b:=by simpa[Sl.row]using N
    exact⟨c7.lt,b0⟩)) b0
structure CE where
 c:Bv
 slw:Sl
 sow:Sl
 sli:Sl
 soi:Sl
abbrev CE.cells(x:CE):Array Value:=#[.string x.c.k,.bool x.c.had,.int .i64 x.c.was.kind,.bool x.c.was.b,.int .i64 x.c.was.i,.string x.c.was.t,.slice x.slw.a x.c.was.l.length x.slw.c,.slice x.sow.a x.c.was.ok.length x.sow.c,
 .bool x.c.has,.int .i64 x.c.is_.kind,.bool x.c.is_.b,.int .i64 x.c.is_.i,.string x.c.is_.t,.slice x.sli.a x.c.is_.l.length x.sli.c,.slice x.soi.a x.c.is_.ok.length x.soi.c]
abbrev CE.agg(x:CE):Value:=.agg x.cells
structure CR(w:AB)(F:Nat->Prop)(x:CE):Prop where
 was:RV w F x.c.was x.slw x.sow
 is_:RV w F x.c.is_ x.sli x.soi
 key:x.c.k.size<=maxLen
variable{w':AB}
def CR.agree{x:CE}(h:CR w F x)(I:Agree F w w'):CR w' F x:=⟨h.was.agree I,h.is_.agree I,h.key⟩
variable{G:Nat->Prop}
def CR.mono{x:CE}(h:CR w F x)(I:∀i,F i->G i):CR w G x:=⟨h.was.mono I,h.is_.mono I,h.key⟩
def Us(w:AB)(F:Nat->Prop):RV w F zeroV Sl.none Sl.none:=RV.flat _ _ _ _ _ _ oN oN oN
def I3(e:AD)(sl so:Sl):CE:=⟨Em e,sl,so,Sl.none,Sl.none⟩
def Ig(e:AD)(sl so:Sl):CE:=⟨FL e,Sl.none,Sl.none,sl,so⟩
variable{e:AD}{sl so:Sl}
def YJ(h:RV w F e.2 sl so)(I:e.1.size<=maxLen):CR w F (I3 e sl so):=⟨h,Us _ _,I⟩
def pt(h:RV w F e.2 sl so)(I:e.1.size<=maxLen):CR w F (Ig e sl so):=⟨Us _ _,h,I⟩
def pV(w:AB)(e:AD)(sl so:Sl):Calls prog 109 #[B3 e.1 e.2 sl so] w λI w'=>I=.returned (I3 e sl so).agg/\Ext w w':=by
 obtain⟨k,v⟩:=e;go_in;go_wp2_with fail;refine eU (v:=(I3 (k,v) sl so).agg) (by simp[results,results109,go_sem];simp[I3,Em,zeroV,Val.kind,Val.b,Val.i,Val.t,Val.l,Val.ok,Sl.none];rfl) rfl ?_;exact⟨rfl,((gz w).alloc _ _).alloc _ _⟩
def Zk(w:AB)(e:AD)(sl so:Sl):Calls prog 111 #[B3 e.1 e.2 sl so] w λI w'=>I=.returned (Ig e sl so).agg/\Ext w w':=by
 obtain⟨k,v⟩:=e;go_in;go_wp2_with fail;refine eU (v:=(Ig (k,v) sl so).agg) (by simp[results,results111,go_sem];simp[Ig,FL,zeroV,Val.kind,Val.b,Val.i,Val.t,Val.l,Val.ok,Sl.none];rfl) rfl ?_;exact⟨rfl,((gz w).alloc _ _).alloc _ _⟩
def FN:Op->Bool
 | .call c=>match c.callee with
   |.builtin .append | .builtin .len | .builtin .cap | .builtin .copy | .builtin .max | .builtin .min=>true
   |_=>false
 |.go _ | .defer _ | .send _ _ | .recv _ _ _ | .select _ _ | .panic _=>false
 |_=>true
variable{P:Program}
def Yr(s:Sem Value)(row:String)(args:Array Value):(do pure (Next.value (<-s)):Sem Next).run P w≠.ok (.row row args) w':=by
 intro h;rw[fp]at h;cases hs:s.run P w with
 |ok v w1=>rw[hs]at h;simp[Result.andThen]at h
 |halt x w1=>rw[hs]at h;simp[Result.andThen]at h
def ZV(s:Sem Unit)(row:String)(args:Array Value):(do s;pure Next.skip:Sem Next).run P w≠.ok (.row row args) w':=by
 intro h;rw[fp]at h;cases hs:s.run P w with
 |ok v w1=>rw[hs]at h;simp[Result.andThen]at h
 |halt x w1=>rw[hs]at h;simp[Result.andThen]at h
def jK(r:Result Value)(row:String)(args:Array Value):(r.andThen λa w=>Result.ok (Next.value a) w)≠.ok (.row row args) w':=by cases r<;>simp[Result.andThen]
def OH{α:Type}{s:Sem α}{f:α->Sem Next}{row:String}{args:Array Value}(h:(s>>=f).run P w=.ok (.row row args) w'):∃a w1,(f a).run P w1=.ok (.row row args) w':=by
 rw[fp]at h;cases hs:s.run P w with
 |ok a w1=>rw[hs]at h;exact⟨a,w1,by simpa[Result.andThen]using h⟩
 |halt x w1=>rw[hs]at h;simp[Result.andThen]at h
def J4{row:String}{args:Array Value}:(runtimePanic .nilDeref:Sem Next).run P w≠.ok (.row row args) w':=by
 intro h;simp[runtimePanic,go_sem]at h
def pI{ρ:Operand->Value}{o:Oper}(h:FN o.op=true)(row:String)(args:Array Value):(execOp ρ o).run P w≠.ok (.row row args) w':=by
 unfold execOp;cases Z:o.op with
 | call c=>
   rw[Z]at h;cases N:c.callee with
   | builtin b=>
     simp only[FN,N]at h;cases b<;>first|exact absurd h oN |(simp only[resolve,N,Sem.run_bind,Sem.run_pure,Result.andThen_ok,invoke,builtin];exact jK _ _ _)
   |_=>simp[FN,N]at h
 | nilCheck x=>
   intro I;simp only at I;split at I
   .exact J4 I
   .exact J4 I
   .exact J4 I
   ·split at I
    .exact J4 I
    ·obtain ⟨a1,w1,h1⟩:=OH I
     obtain⟨a2,w2,h2⟩:=OH h1;split at h2
     ·obtain ⟨a3,w3,h3⟩:=OH h2
      simp at h3
     simp at h2
    simp at I
   simp at I
 | pick c x y=>
   intro I;simp only at I;rw[fp]at I;cases hs:(asBool (ρ c)).run P w with
   |ok v w1=>rw[hs]at I;simp[Result.andThen]at I
   |halt x w1=>rw[hs]at I;simp[Result.andThen]at I
 | _=>
   simp only
   first
   |exact Yr _ _ _
   |exact ZV _ _ _
   |(intro h;simp at h;done)
   |(rw[Z]at h;simp[FN]at h)
def kt{o:Oper}(h:FN o.op=true):∀c,o.op≠.defer c:=λc e=>by rw[e]at h;simp[FN]at h
variable{ops:Array Oper}{Q:Exit->Act->AB->Prop}{a:Act}
def oe{l n:Nat}(hp:∀(i:Nat) (o:Oper),ops[i]? = some o->FN o.op=true)(hQ:¬LetsOut Q){i:Nat}{K K':Act->AB->Prop} 
  (N:∀a w,K a w->K' a w) (h:wpOp P ops Q i K a w):wpOpIn (Fence.wide.inRound l) n P ops Q i K' a w:=by
 unfold wpOp at h;unfold wpOpIn;cases Z:ops[i]? with
 |none=>simp only[Z]at h ⊢;exact N _ _ h
 | some o=>
   simp only[Z]at h ⊢;split at h
   ·rename_i hw
    rw[eN hw];rcases h with h |⟨-,h⟩
    ·unfold Oper.wpIn
     refine⟨λ_ _=>trivial,?_⟩;rw[show(Fence.wide.inRound l).round=some l from rfl,Oper.semAt_some l _ o (kt (hp i o Z))];unfold Oper.wp at h;have hr:=λrow I w'=>pI (P:=P) (ρ:=a.eval) (w:=w) (w':=w') (hp i o Z) row I
     generalize (execOp a.eval o).run P w=r at *;cases r with
     | ok x w'=>
       cases x<;>simp only[Oper.upon,Oper.uponIn]at h ⊢
       case value v=>exact N _ _ h
       case skip=>exact N _ _ h
       case defer d=>exact N _ _ h
       case enter f I=>
        refine⟨(λhd=>by simp[Fence.wide]at hd),(CallsIn.inRound l (eR.2 h)).mono λe a0 he=>?_⟩;cases e with
        |returned v=>exact N _ _ he
        |panicked c=>exact he
        |outgrown=>exact he
       case row row I=>exact absurd rfl (hr row I w')
     |halt x w'=>cases x<;>simp only[Oper.upon,Oper.uponIn]at h ⊢ <;> exact h
    exact absurd h hQ
   rename_i hw;rw[eL hw];exact⟨λ_ _=>trivial,N _ _ h⟩
def ip{md:Region.Mode}{S:AB->Prop}{l n:Nat}(Z:∀(i:Nat) (o:Oper),ops[i]? = some o->FN o.op=true)(hQ:¬LetsOut Q) :
  ∀N I a w,wpAnyH P md ops Q S N I a w->wpAnyIn (Fence.wide.inRound l) n P md ops Q N I a w:=by
 intro N
 induction N with
 |zero=>exactλ_ _ _ h=>h
 | succ N ih=>
   intro I a w h;exact⟨h.1,λi hi=>oe Z hQ (λa' w' h'=>ih _ a' w' h'.2) (h.2 i hi)⟩
def ZO{N l n:Nat}{S:AB->Prop}(Z:(ops.all λo=>FN o.op)=true)(hQ:¬LetsOut Q)(hm:P.follows .mixedOrders=true)(hS:S w.drew)
  (h:S w.drew->wpAnyH P .any ops Q S ops.size (Array.replicate ops.size false) a w.drew):(Code.region N ops true).wpIn (Fence.wide.inRound l) n P Q a w:=
 wpIn_region_any hm (ip (λi o I=>by
  have:=Array.all_eq_true.1 Z i (aA.1 I).1;rwa[(aA.1 I).2]at this) hQ _ _ _ _ (h hS))
attribute [local go_sem] Oper.semAt_some
def Ia(e f:AD)(sl so sl' so':Sl):CE:=⟨⟨e.1,true,e.2,true,f.2⟩,sl,so,sl',so'⟩
def SY:CE:=⟨⟨ByteArray.empty,false,zeroV,false,zeroV⟩,Sl.none,Sl.none,Sl.none,Sl.none⟩
variable{W:AB}
def Sq{b:Nat}{t:TypeId}{a0 a1 a2 a3 a4 a5 a6 a7 a8 a9 b3 b0 Z N I c0 c1 c2 c3 c4 c5 c6 c7 c8 c9 b4 b5 b6 b7 b8:Value}(h:AE W b t #[a0,a1,a2,a3,a4,a5,a6,a7,a8,a9,b3,b0,Z,N,I]) :
  AE (((((((((((((((W.setCell b c0).setCell ⟨b,1,none⟩ c1).setCell ⟨b,2,none⟩ c2).setCell ⟨b,3,none⟩ c3).setCell ⟨b,4,none⟩ c4).setCell ⟨b,5,none⟩ c5).setCell ⟨b,6,none⟩ c6).setCell ⟨b,7,none⟩ c7).setCell ⟨b,8,none⟩ c8).setCell ⟨b,9,none⟩ c9).setCell ⟨b,10,none⟩ b4).setCell ⟨b,11,none⟩ b5).setCell ⟨b,12,none⟩ b6).setCell ⟨b,13,none⟩ b7).setCell ⟨b,14,none⟩ b8) b t #[c0,c1,c2,c3,c4,c5,c6,c7,c8,c9,b4,b5,b6,b7,b8]:=by
 have h0:AE _ b t #[c0,a1,a2,a3,a4,a5,a6,a7,a8,a9,b3,b0,Z,N,I]:=h.AX 0 c0;have h1:AE _ b t #[c0,c1,a2,a3,a4,a5,a6,a7,a8,a9,b3,b0,Z,N,I]:=h0.AX 1 c1;have h2:AE _ b t #[c0,c1,c2,a3,a4,a5,a6,a7,a8,a9,b3,b0,Z,N,I]:=h1.AX 2 c2;have h3:AE _ b t #[c0,c1,c2,c3,a4,a5,a6,a7,a8,a9,b3,b0,Z,N,I]:=h2.AX 3 c3;have h4:AE _ b t #[c0,c1,c2,c3,c4,a5,a6,a7,a8,a9,b3,b0,Z,N,I]:=h3.AX 4 c4;have h5:AE _ b t #[c0,c1,c2,c3,c4,c5,a6,a7,a8,a9,b3,b0,Z,N,I]:=h4.AX 5 c5;have h6:AE _ b t #[c0,c1,c2,c3,c4,c5,c6,a7,a8,a9,b3,b0,Z,N,I]:=h5.AX 6 c6;have h7:AE _ b t #[c0,c1,c2,c3,c4,c5,c6,c7,a8,a9,b3,b0,Z,N,I]:=h6.AX 7 c7;have h8:AE _ b t #[c0,c1,c2,c3,c4,c5,c6,c7,c8,a9,b3,b0,Z,N,I]:=h7.AX 8 c8;have h9:AE _ b t #[c0,c1,c2,c3,c4,c5,c6,c7,c8,c9,b3,b0,Z,N,I]:=h8.AX 9 c9;have d3:AE _ b t #[c0,c1,c2,c3,c4,c5,c6,c7,c8,c9,b4,b0,Z,N,I]:=h9.AX 10 b4;have d5:AE _ b t #[c0,c1,c2,c3,c4,c5,c6,c7,c8,c9,b4,b5,Z,N,I]:=d3.AX 11 b5;have b9:AE _ b t #[c0,c1,c2,c3,c4,c5,c6,c7,c8,c9,b4,b5,b6,N,I]:=d5.AX 12 b6;have d4:AE _ b t #[c0,c1,c2,c3,c4,c5,c6,c7,c8,c9,b4,b5,b6,b7,I]:=b9.AX 13 b7;have d0:AE _ b t #[c0,c1,c2,c3,c4,c5,c6,c7,c8,c9,b4,b5,b6,b7,b8]:=d4.AX 14 b8;exact d0
def Sk{b:Nat}{c0 c1 c2 c3 c4 c5 c6 c7 c8 c9 a0 I Z N a1:Value}(h:Ext w W)(hb:w<=b):Ext w (((((((((((((((W.setCell b c0).setCell ⟨b,1,none⟩ c1).setCell ⟨b,2,none⟩ c2).setCell ⟨b,3,none⟩ c3).setCell ⟨b,4,none⟩ c4).setCell ⟨b,5,none⟩ c5).setCell ⟨b,6,none⟩ c6).setCell ⟨b,7,none⟩ c7).setCell ⟨b,8,none⟩ c8).setCell ⟨b,9,none⟩ c9).setCell ⟨b,10,none⟩ a0).setCell ⟨b,11,none⟩ I).setCell ⟨b,12,none⟩ Z).setCell ⟨b,13,none⟩ N).setCell ⟨b,14,none⟩ a1):=by
 have s:∀{X:AB} (i:Nat) (v:Value),Ext w X->Ext w (X.setCell ⟨b,i,none⟩ v):=λi v hx=>hx.setCell (p:=⟨b,i,none⟩) hb v
 exact s 14 _ (s 13 _ (s 12 _ (s 11 _ (s 10 _ (s 9 _ (s 8 _ (s 7 _ (s 6 _ (s 5 _ (s 4 _ (s 3 _ (s 2 _ (s 1 _ (s 0 _ (h)))))))))))))))
def VZ{tm:Array Value}{b:Nat}{bb:Bool}{c0 c1 c2 c3 c4 c5 c6 c7 c8 c9 N a0 a1 Z a2:Value}(h4:tm.getD 4 undef=.pointer (some b))(h5:tm.getD 5 undef=.bool bb)(I:AE W b 79 #[c0,c1,c2,c3,c4,c5,c6,c7,c8,c9,N,a0,a1,Z,a2]) :
  (results Tryz.f112 tm).run prog W=.ok (.tuple #[.agg #[c0,c1,c2,c3,c4,c5,c6,c7,c8,c9,N,a0,a1,Z,a2],.bool bb]) W:=by
 have r0:W.cell? b=some c0:=I.cell 0;have r1:W.cell? ⟨b,1,none⟩=some c1:=I.cell 1;have r2:W.cell? ⟨b,2,none⟩=some c2:=I.cell 2;have r3:W.cell? ⟨b,3,none⟩=some c3:=I.cell 3;have r4:W.cell? ⟨b,4,none⟩=some c4:=I.cell 4;have r5:W.cell? ⟨b,5,none⟩=some c5:=I.cell 5;have r6:W.cell? ⟨b,6,none⟩=some c6:=I.cell 6;have r7:W.cell? ⟨b,7,none⟩=some c7:=I.cell 7;have r8:W.cell? ⟨b,8,none⟩=some c8:=I.cell 8;have r9:W.cell? ⟨b,9,none⟩=some c9:=I.cell 9;have a3:W.cell? ⟨b,10,none⟩=some N:=I.cell 10;have a4:W.cell? ⟨b,11,none⟩=some a0:=I.cell 11;have a7:W.cell? ⟨b,12,none⟩=some a1:=I.cell 12;have a6:W.cell? ⟨b,13,none⟩=some Z:=I.cell 13;have a5:W.cell? ⟨b,14,none⟩=some a2:=I.cell 14;simp only[Array.getD_eq_getD_getElem?]at h4 h5;simp[results,results112,go_sem,h4,h5,r0,r1,r2,r3,r4,r5,r6,r7,r8,r9,a3,a4,a7,a6,a5]
variable{sl' so':Sl}
def kA{e f:AD}(h:RV w (Lt w) e.2 sl so)(h':RV w (Lt w) f.2 sl' so') :
  Calls prog 112 #[B3 e.1 e.2 sl so,B3 f.1 f.2 sl' so'] w λe' w'=>e'=.returned (.tuple #[(if AW e.2 f.2=0 then SY else Ia e f sl so sl' so').agg,.bool (decide (AW e.2 f.2≠0))])/\Ext w w':=by
 have hs:∀W,Ext w W->Calls prog 104 #[AS e.2 sl so,AS f.2 sl' so'] W λe' w'=>e'=.returned (.bool (decide (AW e.2 f.2=0)))/\Ext W w':=λW hW=>
  MO ((h.agree (hW.agree λ_ h=>h)).mono λi hi=>ab hi hW.size) ((h'.agree (hW.agree λ_ h=>h)).mono λi hi=>ab hi hW.size)
 clear h h';obtain⟨k,v⟩:=e;obtain⟨k',v'⟩:=f;dsimp only at hs ⊢;by_cases hc:AW v v'=0
 ·rw [eN hc,eM (by simp [hc])]
  rw[eO hc]at hs;have HS:=hY hs;clear hs hc;go_in;go_wp2_with fail;generalize a3:World.alloc (World.alloc (World.alloc _ _) _) _=W0;obtain⟨a0,b5,a4,a1,a2⟩:=Ch w _ _ _ _ _ _ W0 a3;clear a3;refine(HS.o _ a0).mono ?_;rintro e w1 ⟨rfl,N⟩;have I:=a2.ext N;obtain⟨a9,HX⟩:=Yb I (a0.trans N);have l3:=I.lt;have f3:=λi=>I.frozen i
  have q0:w1.cell? ⟨w+1+1,0,none⟩=some (.string ByteArray.empty):=I.cell 0;have q1:w1.cell? ⟨w+1+1,1,none⟩=some (.bool false):=I.cell 1;have q2:w1.cell? ⟨w+1+1,2,none⟩=some (.int .i64 0):=I.cell 2;have q3:w1.cell? ⟨w+1+1,3,none⟩=some (.bool false):=I.cell 3;have q4:w1.cell? ⟨w+1+1,4,none⟩=some (.int .i64 0):=I.cell 4;have q5:w1.cell? ⟨w+1+1,5,none⟩=some (.string ByteArray.empty):=I.cell 5;have q6:w1.cell? ⟨w+1+1,6,none⟩=some (.slice none 0 0):=I.cell 6;have q7:w1.cell? ⟨w+1+1,7,none⟩=some (.slice none 0 0):=I.cell 7;have q8:w1.cell? ⟨w+1+1,8,none⟩=some (.bool false):=I.cell 8;have q9:w1.cell? ⟨w+1+1,9,none⟩=some (.int .i64 0):=I.cell 9;have a7:w1.cell? ⟨w+1+1,10,none⟩=some (.bool false):=I.cell 10;have a5:w1.cell? ⟨w+1+1,11,none⟩=some (.int .i64 0):=I.cell 11;have b3:w1.cell? ⟨w+1+1,12,none⟩=some (.string ByteArray.empty):=I.cell 12;have b4:w1.cell? ⟨w+1+1,13,none⟩=some (.slice none 0 0):=I.cell 13;have b0:w1.cell? ⟨w+1+1,14,none⟩=some (.slice none 0 0):=I.cell 14;clear a0 N a4 a1 a2 I;go_wp2_with fail;generalize Z:(((((((((((((((w1.setCell ⟨w+1+1,0,none⟩ (.string ⟨#[]⟩)).setCell ⟨w+1+1,1,none⟩ (.bool false)).setCell ⟨w+1+1,2,none⟩ (.int .i64 0)).setCell ⟨w+1+1,3,none⟩ (.bool false)).setCell ⟨w+1+1,4,none⟩ (.int .i64 0)).setCell ⟨w+1+1,5,none⟩ (.string ⟨#[]⟩)).setCell ⟨w+1+1,6,none⟩ (.slice none 0 0)).setCell ⟨w+1+1,7,none⟩ (.slice none 0 0)).setCell ⟨w+1+1,8,none⟩ (.bool false)).setCell ⟨w+1+1,9,none⟩ (.int .i64 0)).setCell ⟨w+1+1,10,none⟩ (.bool false)).setCell ⟨w+1+1,11,none⟩ (.int .i64 0)).setCell ⟨w+1+1,12,none⟩ (.string ⟨#[]⟩)).setCell ⟨w+1+1,13,none⟩ (.slice none 0 0)).setCell ⟨w+1+1,14,none⟩ (.slice none 0 0))=W9;have a6:AE W9 (w.heap.size+1+1) 79 #[.string ⟨#[]⟩,.bool false,.int .i64 0,.bool false,.int .i64 0,.string ⟨#[]⟩,.slice none 0 0,.slice none 0 0,.bool false,.int .i64 0,.bool false,.int .i64 0,.string ⟨#[]⟩,.slice none 0 0,.slice none 0 0]:=by rw[<-Z];exact Sq a9.o
  have a8:Ext w W9:=by rw[<-Z];exact Sk HX.o oM
  clear Z q0 q1 q2 q3 q4 q5 q6 q7 q8 q9 a7 a5 b3 b4 b0 f3;refine eU (VZ rfl rfl a6) rfl ?_;exact⟨rfl,a8⟩
 rw[eL hc,eO hc];rw[eM hc]at hs;have HS:=hY hs;clear hs hc;go_in;go_wp2_with fail;generalize a3:World.alloc (World.alloc (World.alloc _ _) _) _=W0;obtain⟨a0,b5,a4,a1,a2⟩:=Ch w _ _ _ _ _ _ W0 a3;clear a3;refine(HS.o _ a0).mono ?_;rintro e w1 ⟨rfl,N⟩;have I:=a2.ext N;obtain⟨a9,HX⟩:=Yb I (a0.trans N);have l3:=I.lt;have f3:=λi=>I.frozen i
 have q0:w1.cell? ⟨w+1+1,0,none⟩=some (.string ByteArray.empty):=I.cell 0;have q1:w1.cell? ⟨w+1+1,1,none⟩=some (.bool false):=I.cell 1;have q2:w1.cell? ⟨w+1+1,2,none⟩=some (.int .i64 0):=I.cell 2;have q3:w1.cell? ⟨w+1+1,3,none⟩=some (.bool false):=I.cell 3;have q4:w1.cell? ⟨w+1+1,4,none⟩=some (.int .i64 0):=I.cell 4;have q5:w1.cell? ⟨w+1+1,5,none⟩=some (.string ByteArray.empty):=I.cell 5;have q6:w1.cell? ⟨w+1+1,6,none⟩=some (.slice none 0 0):=I.cell 6;have q7:w1.cell? ⟨w+1+1,7,none⟩=some (.slice none 0 0):=I.cell 7;have q8:w1.cell? ⟨w+1+1,8,none⟩=some (.bool false):=I.cell 8;have q9:w1.cell? ⟨w+1+1,9,none⟩=some (.int .i64 0):=I.cell 9;have a7:w1.cell? ⟨w+1+1,10,none⟩=some (.bool false):=I.cell 10;have a5:w1.cell? ⟨w+1+1,11,none⟩=some (.int .i64 0):=I.cell 11;have b3:w1.cell? ⟨w+1+1,12,none⟩=some (.string ByteArray.empty):=I.cell 12;have b4:w1.cell? ⟨w+1+1,13,none⟩=some (.slice none 0 0):=I.cell 13;have b0:w1.cell? ⟨w+1+1,14,none⟩=some (.slice none 0 0):=I.cell 14;obtain⟨e0,e1,e2,e3,e4,e5,e6⟩:=(a4.ext N).c7;obtain⟨d0,d1,d2,d3,d4,d5,d6⟩:=(a1.ext N).c7;have le:=(a4.ext N).lt;have ld:=(a1.ext N).lt;clear a0 N a4 a1 a2 I;go_wp2_with fail;clear e0 e1 e2 e3 e4 e5 e6 d0 d1 d2 d3 d4 d5 d6 le ld;generalize Z:(((((((((((((((w1.setCell ⟨w+1+1,0,none⟩ (.string k)).setCell ⟨w+1+1,1,none⟩ (.bool true)).setCell ⟨w+1+1,2,none⟩ (.int .i64 v.kind)).setCell ⟨w+1+1,3,none⟩ (.bool v.b)).setCell ⟨w+1+1,4,none⟩ (.int .i64 v.i)).setCell ⟨w+1+1,5,none⟩ (.string v.t)).setCell ⟨w+1+1,6,none⟩ (.slice sl.a v.l.length sl.c)).setCell ⟨w+1+1,7,none⟩ (.slice so.a v.ok.length so.c)).setCell ⟨w+1+1,8,none⟩ (.bool true)).setCell ⟨w+1+1,9,none⟩ (.int .i64 v'.kind)).setCell ⟨w+1+1,10,none⟩ (.bool v'.b)).setCell ⟨w+1+1,11,none⟩ (.int .i64 v'.i)).setCell ⟨w+1+1,12,none⟩ (.string v'.t)).setCell ⟨w+1+1,13,none⟩ (.slice sl'.a v'.l.length sl'.c)).setCell ⟨w+1+1,14,none⟩ (.slice so'.a v'.ok.length so'.c))=W9;have a6:AE W9 (w.heap.size+1+1) 79 #[.string k,.bool true,.int .i64 v.kind,.bool v.b,.int .i64 v.i,.string v.t,.slice sl.a v.l.length sl.c,.slice so.a v.ok.length so.c,.bool true,.int .i64 v'.kind,.bool v'.b,.int .i64 v'.i,.string v'.t,.slice sl'.a v'.l.length sl'.c,.slice so'.a v'.ok.length so'.c]:=by rw[<-Z];exact Sq a9.o
 have a8:Ext w W9:=by rw[<-Z];exact Sk HX.o oM
 clear Z q0 q1 q2 q3 q4 q5 q6 q7 q8 q9 a7 a5 b3 b4 b0 f3;refine eU (VZ rfl rfl a6) rfl ?_;exact⟨rfl,a8⟩
abbrev UC(x:Nat × Value):Array Value:=#[.int .i64 x.1,x.2]
structure N5(vs:List Value)(pre:List (Nat × Value))(x:Nat × Value)(W0 W1:AB):Prop where
 at_:x.1+pre.length+1=vs.length
 val:vs[x.1]? = some x.2
 pre_:pre.map Prod.snd=vs.reverse.take pre.length
variable{vs:List Value}{W0 W1:AB}
def pN{pre:List (Nat × Value)}{x:Nat × Value}(h:N5 vs pre x W0 W1):(pre++[x]).map Prod.snd=vs.reverse.take (pre++[x]).length:=by
 have h1:=h.at_;have h2:vs.reverse[pre.length]? = some x.2:=by
  rw[List.getElem?_reverse oM,show vs.length-1-pre.length=x.1 from oM];exact h.val
 rw[aB,h.pre_,aj,bg,aK,h2];rfl
structure Vj(n:Nat)(vs:List Value)(J:List (Nat × Value)->(Nat->Prop)->AB->Prop)(C:Nat->Prop)(W:AB)(m:Nat)(pre:List (Nat × Value))(C':Nat->Prop)(Wj wr:AB):Prop where
 j:J pre C' Wj
 ext:Ext Wj wr
 len:m+pre.length=n
 pre_:pre.map Prod.snd=vs.reverse.take pre.length
 st:St C W wr
 sub:∀b,C' b->C b\/W.heap.size<=b
variable{w0:AB}
def qJ{B g cap:Nat}(hb:AE w0 B 87 #[.slice (some g) vs.length cap])(hv:∀j v,vs[j]? = some v->w0.cell? ⟨g,j,none⟩=some v)(hg:g<w0)(hc:vs.length<=cap)(hm:cap<=maxLen)(hl:vs.length<=1000) :
  Mi prog 181 #[.pointer (some B)] UC (λb=>b=B\/b=g) (N5 vs) (λxs=>xs.map Prod.snd=vs.reverse) (λ_=>True) w0:=by
 intro l J Jx C W a3 hA b6 a4 hJ;have a6:=a3.lt [] C W hJ;have b8:=hb.lt;have a1:∀W1,St C W W1->W1.cell? B=some (.slice (some g) vs.length cap)/\∀j v,vs[j]? = some v->W1.cell? ⟨g,j,none⟩=some v:=λW1 hW=>
  ⟨(hW.cell oM fun h=>a4 _ h (.inl rfl)).trans ((fi (w:=w0) (a:=⟨B,0,none⟩) (hA B (.inl rfl))).trans (hb.cell 0)),
    λj v h=>(hW.cell oM λh=>a4 _ h (.inr rfl)).trans ((fi (w:=w0) (a:=⟨g,j,none⟩) (hA g (.inr rfl))).trans (hv j v h))⟩
 obtain⟨b3,b0,b7,HJ⟩:=Ye a3 a1 a6 hJ;have c0:=(a1 W (gH _ W)).1;have lB:B<W.heap.size:=oM
 have lg:g<W:=oM
 have b9:(0:Int)<=(vs.length:Int):=oM
 clear a3 hA a4 hJ hb hv a1 a6;show Calls _ _ #[.func (.yield l) #[] #[],.pointer (some B)] W _;refine(eR (n:=5)).1 ?_;refine fT func181 rfl trivial ?_ rfl;simp only[ntmps181,zL,Nat.reduceAdd,Nat.reduceSub];gi_wp2_with fail;clear c0;gi_loopw [3] (λv wr=>∃(m:Nat) (pre:List (Nat × Value)) (C':Nat->Prop) (Wj:AB),v=.int .i64 ((m:Int)-1)/\Vj vs.length vs J C W m pre C' Wj wr) (λv _=>(intOf v+1).toNat)
 case atStart=>exact⟨vs.length,[],C,W,rfl,⟨HJ.o,gz _,oO,oO,gH _ _,λb hb=>.inl hb⟩⟩
 obtain⟨m,pre,C',Wj,rfl,hS⟩:=hrel;have HS:=hY hS;cases m with
 | zero=>
   have N:pre.length=vs.length:=by have:=hS.len;omega
   have a0:pre.map Prod.snd=vs.reverse:=by rw[hS.pre_,N,aM oO]
   have a5:=hY a0;clear hS N a0;gi_wp2_with fail;go_end0;exact⟨⟨_,rfl⟩,.inl ⟨pre,C',Wj,a5.o,HS.o.j,HS.o.ext⟩⟩
 | succ k=>
   have e1:(((k+1:Nat):Int)-1)=(k:Int):=oM
   rw[e1];clear e1;have N:=hS.len;obtain⟨v,a2⟩:∃v,vs[k]? = some v:=⟨_,ac oM⟩;obtain⟨c0,a8⟩:=b0.o wr hS.st;have ck:=a8 k v a2;have c6:=hS.st.size;have g0:(0:Int)<=(k:Int):=oM
   have g1:(k:Int)<(vs.length:Int):=oM
   have hG:N5 vs pre (k,v) Wj wr:=⟨by show k+pre.length+1=_;omega,a2,hS.pre_⟩;have hy:=b3.o.take pre C' (k,v) Wj wr hS.j hS.ext hG;obtain⟨fn,b5,assign,body,hy,hR⟩:=hy;obtain⟨HR,HN⟩:=Yb hR (pN hG);clear hS hG hR a8 a2;dsimp only[UC]at hy;gi_wp2_with fail;refine HR.o.mono ?_;rintro e w6 (⟨rfl,C6,a7,I,Z⟩ |⟨rfl,a9,I⟩)
   ·have b4:=hY (show Vj vs.length vs J C W k (pre++[(k,v)]) C6 w6 w6 from ⟨a7,gz _,by simp;omega,HN.o,HS.o.st.then I (fun b hb h=>by
     rcases HS.o.sub b h with h|h
     .exact h
     .omega),λb hb=>by
     rcases Z b hb with h|h
     .exact HS.o.sub b h
     exact .inr oM⟩)
    clear a7 I Z hy c0 ck;gi_wp2_with fail;go_roundw
    case rel=>exact⟨k,_,C6,w6,by go_num,b4.o⟩
    simp[intOf]
   gi_wp2_with fail;refine eU (v:=.tuple #[]) (by simp[results,results181,go_sem]) rfl ?_;exact⟨⟨_,rfl⟩,.inr ⟨_,w6,trivial,a9,gz _⟩⟩
end Go.Proofs.YtahhllcdbjbpbaaGreatDoor
namespace Go.Proofs.YtahhllcdbjbpbaaGreatDoor
open Go.Proofs.Tryz
open Go.RowKit Go.Shelf
attribute [local go_sem] Oper.semAt_some
section
variable{F E : Nat -> Prop}{lo X : Nat}{row : Option Nat}{x : AI}{W W' : AB}
def Ak.TW(h:Ak F E lo X row x W){W1:AB}(k:St (λb=>b=X) W W1){N:Nat->Prop}{y:AI}{es nd:Sl}{xs:List LE}(h1:xs.map LE.ent=y.es)(h2:AE W1 X 179 #[.slice es.a xs.length es.c,.slice nd.a y.ns.length nd.c,.int .i64 y.o])(h3:ES W1 N es xs)(Z:W.ownsRow lo 34 1 (.slice nd.a y.ns.length nd.c) y.ns.length (y.ns.map AN.p))(h5:nd.row=row)
  (hn:∀a∈y.ns,a∈x.ns) (ht:y.tot<=1000000) (hE:∀b,N b->lo<=b/\b<W1.heap.size/\b≠X/\row≠some b):Ak F N lo X row y W1:=by
 refine⟨⟨es,nd,xs,h1,h2,h3,AZ Z k.agree (λb I=>⟨(AM Z I).2,λe=>h.ne (by rw[<-h5,I,e])⟩),h5⟩,λa ha=>(h.nodes a (hn a ha)).agree (k.agree.mono λb I=>⟨Nat.lt_of_lt_of_le (h.FX b I) h.low,by have:=h.FX b I;have:=h.lX;omega⟩),h.lX,h.ne,ht,h.FX,hE⟩
def Ak.bump(h:Ak F E lo X row x W)(h1:x.tot+1<=1000000):Ak F E lo X row ⟨x.es,x.ns,x.o+1⟩ (W.setCell ⟨X,2,none⟩ (.int .i64 ((x.o:Int)+1))):=by
 obtain⟨es,nd,xs,g1,g2,N,Z,g5⟩:=h.ex;have k:St (λb=>b=X) W (W.setCell ⟨X,2,none⟩ (.int .i64 ((x.o:Int)+1))):=(gH (λb=>b=X) W).set (p:=⟨X,2,none⟩) (.inr rfl) _;exact h.TW k g1 (g2.AX 2 _) (N.agree (k.agree.mono λb I=>⟨(h.EX b I).2.1,(h.EX b I).2.2.1⟩)) Z g5 (λa ha=>ha) (by simp only[AI.tot]at *;omega) (λb I=>⟨(h.EX b I).1,by rw[eX];exact(h.EX b I).2.1,(h.EX b I).2.2⟩)
def Ak.fill(h:Ak F E lo X row x W){Z:Nat->Prop}{s:Sl}{ys:List LE}(hy:ES W Z s ys)(N:∀b,Z b->lo<=b/\b<W.heap.size/\b≠X/\row≠some b):Ak F Z lo X row ⟨ys.map LE.ent,x.ns,x.o⟩ (W.setCell X (.slice s.a ys.length s.c)):=by
 obtain⟨es,nd,xs,g1,g2,g3,g4,g5⟩:=h.ex;have k:St (λb=>b=X) W (W.setCell X (.slice s.a ys.length s.c)):=(gH (λb=>b=X) W).set (p:=⟨X,0,none⟩) (.inr rfl) _;exact h.TW k (es:=s) rfl (g2.AX 0 _) (hy.agree (k.agree.mono λb I=>⟨(N b I).2.1,(N b I).2.2.1⟩)) g4 g5 (λa ha=>ha) h.few (λb I=>⟨(N b I).1,by rw[eX];exact(N b I).2.1,(N b I).2.2⟩)
def Ak.push(h:Ak F E lo X row x W){W4 w5:AB}{nd s3:Sl}{a:AN}{xs:List LE}{es:Sl}(b0:xs.map LE.ent=x.es)(I:AE W X 179 #[.slice es.a xs.length es.c,.slice nd.a x.ns.length nd.c,.int .i64 x.o])(b4:ES W E es xs)(a5:nd.row=row)
  (a2:Ext W W4) (Z:w5.ownsRow lo 34 1 (.slice s3.a (x.ns.length+1) s3.c) (x.ns.length+1) (x.ns.map AN.p++[a.p])) (a8:Wr W4 w5 nd.row) (b5:s3.a=nd.a\/s3.a=some ⟨W4,0,none⟩/\Wr W4 w5 none)
  (ha:AJ W F a.1 a.2) (ht:x.tot+Bz a.1 a.2<=1000000) :
  Ak F E lo X s3.row ⟨x.es,x.ns++[a],x.o⟩ (w5.setCell ⟨X,1,none⟩ (.slice s3.a (x.ns.length+1) s3.c))/\St (λb=>b=X\/row=some b) W (w5.setCell ⟨X,1,none⟩ (.slice s3.a (x.ns.length+1) s3.c))/\(∀b,s3.row=some b->(row=some b\/W.heap.size<=b)/\b<w5.heap.size):=by
 have hX:=h.lt;have b8:=a2.size;have b7:=a8.grown.size;have a0:∀b,s3.row=some b->row=some b\/W4.heap.size<=b:=λb I=>by
  rcases b5 with e |⟨e,-⟩
  .exact .inl (by rw[<-a5,<-I];simp[Sl.row,e])
  right;rw[Sl.row,e]at I;simp at I;omega
 have a6:St (λb=>row=some b) W4 w5:=a8.st λi hi=>by rw[<-a5];exact hi
 have b3:St (λb=>b=X\/row=some b) W w5:=(a2.st _).trans (a6.mono λi _ hi=>.inr hi);have a4:St (λb=>b=X) w5 (w5.setCell ⟨X,1,none⟩ (.slice s3.a (x.ns.length+1) s3.c)):=(gH (λb=>b=X) w5).set (p:=⟨X,1,none⟩) (.inr rfl) _;have a3:=b3.trans (a4.mono λi _ hi=>.inl hi);have a9:∀b,b<W.heap.size->b≠X->row≠some b->(w5.setCell ⟨X,1,none⟩ (.slice s3.a (x.ns.length+1) s3.c)).heap[b]? = W.heap[b]?:=λb h1 h2 h3=>a3.block b h1 (λhh=>hh.elim h2 h3)
 have a1:s3.row≠some X:=λe=>by
  rcases a0 X e with e'|e'
  .exact h.ne e'
  omega
 have b6:AE w5 X 179 #[.slice es.a xs.length es.c,.slice nd.a x.ns.length nd.c,.int .i64 x.o]:=a6.blk (I.ext a2) h.ne;have a7:=h.low;refine⟨⟨⟨es,s3,xs,b0,by rw[aj,bg];exact b6.AX 1 _,b4.agree λb I=>a9 b (h.EX b I).2.1 (h.EX b I).2.2.1 (h.EX b I).2.2.2,?_,rfl⟩,λa' N=>?_,h.lX,a1,?_,h.FX,λb I=>⟨(h.EX b I).1,ab (h.EX b I).2.1 a3.size,(h.EX b I).2.2.1,λe=>?_⟩⟩,a3,λb I=>⟨(a0 b I).imp id (λh=>oM),(AM Z I).2⟩⟩
 ·rw [aj,bg,aB]
  exact AZ Z a4.agree λb I=>⟨(AM Z I).2,λe=>a1 (by rw[I,e])⟩
 ·have hF:∀ b,F b→(w5.setCell ⟨X,1,none⟩ (.slice s3.a (x.ns.length+1) s3.c)).heap[b]? = W.heap[b]?:=fun b I=>a9 b (ab (h.FX b I) a7) (by have:=h.FX b I;have:=h.lX;omega) (fun e=>by have:=(h.rlt b e).1;have:=h.FX b I;omega)
  rcases aL.1 N with N|N
  .exact (h.nodes a' N).agree hF
  obtain rfl:=aV.1 N;exact ha.agree hF
 .simp only[AI.tot,NX]at *;omega
 rcases a0 b e with e'|e'
 .exact (h.EX b I).2.2.2 e'
 have:=(h.EX b I).2.1;omega
def JG(F E:Nat->Prop)(lo X:Nat)(row:Option Nat)(x:AI)(W:AB)(e:AC)(w':AB):Prop:=
 e=.returned (.tuple #[])/\∃(E':Nat->Prop) (row':Option Nat),Ak F E' lo X row' x.open_ w'/\St (λb=>b=X\/row=some b) W w'/\(∀b,E' b->E b\/W.heap.size<=b)/\(∀b,row'=some b->row=some b\/W.heap.size<=b)
def nz(h:Ak F E lo X row x W){t:PT 0}(hx:x.node=some ⟨0,t⟩):Calls prog 108 #[B' X] W (JG F E lo X row x W):=by
 obtain⟨b8,d5,c6⟩:=x.DV hx;have e8:=(x.LG hx).2;have e6:x.open_=⟨t.2,x.ns.dropLast,x.o+1⟩:=by unfold AI.open_;rw[c6]
 obtain⟨es,xs,g,i2,h1,h2,-,h4,b3,j8,j0,g5,j7,a7,c9,i7⟩:=h.top d5;have f1:=λW' (hW:Ext W W')=>Ji (h.ext hW) hx
 have c1:W.cell? ⟨X,1,none⟩=some (.slice (some g) (x.ns.dropLast.length+1) i2):=h2.cell 1;have lX:=h2.lt;have d0:=h.low;have b4:∀b,F b->b<W.heap.size/\b≠X:=λb N=>⟨Nat.lt_of_lt_of_le (h.FX b N) d0,by have:=h.FX b N;have:=h.lX;omega⟩
 have d3:∀W',St (λb=>b=X) W W'->AJ W' F 0 t:=λW' hW=>c9.agree (hW.agree.mono λb N=>b4 b N)
 obtain⟨g4,e3,i5,HH,g7,d6⟩:=Yg f1 d3 b4 h e6 b3;have j5:(x.o:Int)<=1000000:=by have:=h.few;unfold AI.tot at this;omega
 have g6:x.skip.tot+1<=1000000:=by have:=h.few;omega
 have j4:x.skip.o=x.o:=rfl;have g3:x.skip.es=[]:=b8;have j2:=hY b8;have k2:((0:Nat):Int)=0:=rfl;obtain⟨m,hm⟩:∃m,x.ns.dropLast.length=m:=⟨_,rfl⟩;rw[hm]at c1 g5 a7 i7;have g0:(0:Int)<=(m:Int):=oM
 have g1:(m:Int)<(m:Int)+1:=oM
 dsimp only[AN.p,ptr]at a7;generalize hA:addr 0 t=A at a7;have f9:=hY hA;clear h hx d5 c6 e8 e6 h1 h2 h4 b3 f1 c9 b4 d3 hm b8 hA;go_in;go_wp2_with fail;go_region;go_wp2_with fail;have d7:Ext W (W.alloc (.cells #[B' X] 135)).drew:=((gz W).alloc _ _).drew;have c8:=(gB W 135 #[B' X]).ext ((gz _).drew);refine(g4.o _ d7).mono ?_;rintro e w1 ⟨rfl,b7,a1⟩;have Z:=a1.blk c8 (show ¬W.heap.size=X by omega);have d4:St (λb=>b=X) W w1:=(d7.st _).trans a1;obtain⟨j9,j1,k1,-,a5,-⟩:=b7.ex;have c2:w1.cell? ⟨X,2,none⟩=some (.int .i64 x.o):=a5.cell 2;have f2:=a5.frozen 2;have l2:=a5.lt;have f6:w1.cell? W=some (B' X):=Z.cell 0;have i8:=Z.lt;obtain⟨g8,e7,f7⟩:=Yc b7 Z d4;clear b7 a1 c8 Z d4 a5 c1 a7;have a9:¬W.heap.size=X:=oM
 have i3:¬X=W.heap.size:=oM
 go_wp2_with fail;have d9:Ak F E lo X row ⟨x.skip.es,x.skip.ns,x.o+1⟩ (w1.setCell ⟨X,2,none⟩ (.int .i64 ((x.o:Int)+1))):=g8.o.bump g6;have a2:St (λb=>b=X) w1 (w1.setCell ⟨X,2,none⟩ (.int .i64 ((x.o:Int)+1))):=(gH (λb=>b=X) w1).set (p:=⟨X,2,none⟩) (.inr rfl) _;have a0:=f7.o.trans a2;have a3:=a2.blk e7.o a9;clear c2 f2 l2 f6 i8 a2;generalize w1.setCell ⟨X,2,none⟩ (.int .i64 ((x.o:Int)+1))=w2 at *;have f4:=e3.o _ a0;have b5:=Dw f4;have a4:∀W',St (λb=>b=X) w2 W'->Calls prog 49 #[ptr 0 t] W' (Et (ents 0 t) W'):=λW' hW=>Gl ((e3.o W' (a0.trans hW)).mono λb N=>ab (i5.o b N).1 (an a0.size hW.size))
 dsimp only[ptr]at b5 a4;rw[f9.o]at b5 a4;obtain⟨i1,i9,g9,a6⟩:=Ye a4 d9 a0 (show ∀W',St (λb=>b=X) w2 W'->W'.cell? W=some (B' X) fromλW' hW=>(hW.blk a3 a9).cell 0);have k0:=a3.lt;have j6:=a0.size;clear a4 d9 a0 a3 f4;refine b5.mono ?_;rintro e w3 ⟨rfl,rfl⟩;go_wp2_with fail;refine eV (S:=(λw'=>St (λb=>b=X) w2 w')) kM (((gH _ w2).drew)) (λhHeld=>?_);refine AF 0 (some 29) a6 hHeld ?_;refine AF 1 (some 30) a6 hHeld ?_;refine Af (i:=2) kM rfl (by rfl) (λK hK=>?_);go_simp
 (refine(i1.o _ hHeld).mono ?_;rintro e w3 ⟨s,ys,rfl,e4,f5,f0⟩;have b6:=i9.o.ext (((gz w2).drew).trans f0);obtain⟨d8,j3,f8,e0,e2,-⟩:=b6.ex;have a8:f8=[]:=df.1 (e0.trans g3);have I:=e2;rw[a8]at I;have c3:w3.cell? X=some (.slice d8.a 0 d8.c):=I.cell 0;have f3:=I.frozen 0;have l3:=I.lt;have i6:=hY e4;have i4:=hY f5;have i0:=hY b6;clear e4 f5 b6 e2 I e0 a8)
 refine hK.out _ _ (hHeld.ext f0) (λhHeld=>?_);clear hK K
 try go_frame
 refine AF 3 (some 32) a6 hHeld ?_;refine AF 4 (some 33) a6 hHeld ?_;refine Af (i:=5) kM rfl (by rfl) (λK hK=>?_);go_simp
 skip
 refine hK.out _ _ (hHeld.set (p:=⟨X,0,none⟩) (.inr rfl) _) (λhHeld=>?_);clear hK K
 try go_frame
 refine fa kM ?_ _;have c7:=g9.o.trans hHeld;have hE:∀b,In w2.heap.size w3.heap.size b->lo<=b/\b<w3.heap.size/\b≠X/\row≠some b:=λb N=>⟨by have:=N.1;omega,N.2,by have:=N.1;omega,by rw[d6.o];simp only[ne_eq,Option.some.injEq];have:=N.1;omega⟩
 have b9:=i0.o.fill (s:=s) (ys:=ys) (i4.o.es.mono (G:=In w2.heap.size w3.heap.size) λi hi=>hi) hE;have b0:JG F E lo X row x W (.returned (.tuple #[])) (w3.setCell X (.slice s.a ys.length s.c)):=by
  refine⟨rfl,In w2.heap.size w3.heap.size,row,?_,c7.mono λi _ hi=>.inl hi,λb N=>.inr (by have:=N.1;omega),λb N=>.inl N⟩;rw[g7.o];rw[i6.o]at b9;exact b9
 have e1:=hY b0;clear c7 hE b9 b0 hHeld c3 f3 l3;go_wp2_with fail;refine eU (v:=.tuple #[]) (by simp[results,results108,go_sem]) rfl ?_;exact e1.o
end
def lG(w:AB)(s:Sl)(n:Nat):Calls prog 147 #[.slice s.a n s.c] w λe w'=>e=.returned (.func (.func 181) #[] #[.pointer (some w)])/\Ext w w'/\AE w' w.heap.size 87 #[.slice s.a n s.c]:=by
 go_in;go_wp2_with fail;go_ret;exact⟨rfl,(gz w).alloc _ _,gB w _ _⟩
def Oc(R:Act->AB->Prop):Exit->Act->AB->Prop
 |.normal,a,w=>R a w
 |_,_,_=>False
variable{a:Act}{w:AB}
def NJ{R:Act->AB->Prop}(h:R a w):Oc R .normal a w:=h
variable{n:Nat}{P:Program}{Q:Exit->Act->AB->Prop}
def kG{F:Fence}{c:Code}(h:c.wpIn F n P (Oc (Q .normal)) a w):c.wpIn F n P Q a w:=
 gw h λe a w h=>by cases e<;>first|exact h|exact h.elim
def N1(l m:List AN):CF (l++m)=CF l+CF m:=by simp[CF]
def Vu(l:List AN)(j:Nat):CF (l.take j)<=CF l:=by
 conv=>rhs;rw[<-aX j l]
 rw[N1];omega
structure Yl(F E:Nat->Prop)(lo X:Nat)(row:Option Nat)(ns:List AN)(o:Nat)(w4:AB)(B0:Nat)(j:Nat)(C:Nat->Prop)(W:AB):Prop where
 ex:∃r:Option Nat,(C=λb=>b=X\/r=some b)/\Ak F E lo X r ⟨[],ns,o⟩ W/\∀b,r=some b->row=some b\/w4.heap.size+2<=b
 st:St (λb=>b=X\/row=some b) w4 W
 box:AE W B0 135 #[B' X]
section
variable{F E : Nat -> Prop}{lo X : Nat}{row : Option Nat}{x : AI}{W W' : AB}
def YE(h:Ak F E lo X row x W){n:Nat}{t:PT (n+1)}(hx:x.node=some ⟨n+1,t⟩)(ok:Aj (n+1) t):Calls prog 108 #[B' X] W (JG F E lo X row x W):=by
 obtain⟨i0,hi,l1,p2,l5⟩:=eZ Tryz.Ec;obtain⟨j5,b8,n9⟩:=x.DV hx;have n4:=(x.LG hx).2;have c8:=(x.LG hx).1;have j4:x.open_=⟨x.es,x.ns.dropLast++(CQ n t).reverse,x.o+1⟩:=by unfold AI.open_;rw[n9]
 obtain⟨es,xs,g,q2,h1,h2,-,h4,f8,w8,s9,q0,v9,e7,k1,q7⟩:=h.top b8;have p4:=λW' (hW:Ext W W')=>Ji (h.ext hW) hx
 have c1:W.cell? ⟨X,1,none⟩=some (.slice (some g) (x.ns.dropLast.length+1) q2):=h2.cell 1;have lX:=h2.lt;have s8:=h.low;have v5:=h.lX;have n8:∀b,F b->b<lo:=h.FX;have k6:∀W',(∀b,F b->W'.heap[b]? = W.heap[b]?)->AJ W' F (n+1) t:=λW' hW=>k1.agree hW
 have f6:x.o+1+CF (x.ns.dropLast++(CQ n t).reverse)<=1000000:=by
  have h1:=h.few;rw[<-c8,j4]at h1;exact h1
 obtain⟨r2,i6,b9,r5,b3⟩:=Yf p4 k6 n8 j4 f8;have t5:(x.o:Int)<=1000000:=oM
 have r4:x.skip.tot+1<=1000000:=by have:=h.few;omega
 have t6:x.skip.o=x.o:=rfl;have r0:x.skip.es=[]:=j5;obtain⟨p5,j8,i1⟩:=Yc j5 f6 ok;obtain⟨m,hm⟩:∃m,x.ns.dropLast.length=m:=⟨_,rfl⟩;rw[hm]at c1 q0 e7 q7;have g0:(0:Int)<=(m:Int):=oM
 have g1:(m:Int)<(m:Int)+1:=oM
 have v8:(((n:Int)+1)==0)=false:=eP.2 oM;dsimp only[AN.p,ptr]at e7;generalize hA:addr (n+1) t=A at e7;have p7:=hY hA;clear h hx b8 n9 n4 c8 j4 h1 h2 h4 f8 p4 k1 n8 k6 hm j5 hA f6 ok;refine(eR (n:=6)).1 ?_;refine fN func108 rfl trivial ?_ rfl;simp only[ntmps108,zL,Nat.reduceAdd,Nat.reduceSub];gi_wp2_with fail;refine kG (gu.2 ?_);go_quiet (fail);refine NJ ?_;gi_wp2_with fail;have g9:Ext W ((W.alloc (.cells #[B' X] 135)).drewN nq):=((gz W).alloc _ _).drewN nq;have a2:=(gB W 135 #[B' X]).ext ((gz _).drewN nq);have g4:¬W.heap.size=X:=oM
 have d9:¬X=W.heap.size:=oM
 refine⟨trivial,?_⟩;refine(eR.2 (r2.o _ g9)).mono ?_;rintro e w1 ⟨rfl,j2,c6⟩;have a9:=c6.blk a2 g4;have o4:St (λb=>b=X) W w1:=(g9.st _).trans c6;obtain⟨v2,t4,x3,-,e3,-⟩:=j2.ex;have c2:w1.cell? ⟨X,2,none⟩=some (.int .i64 x.o):=e3.cell 2;have f2:=e3.frozen 2;have l2:=e3.lt;have q9:w1.cell? W=some (B' X):=a9.cell 0;have r9:=a9.lt;obtain⟨r6,n2,p6⟩:=Yc j2 a9 o4;clear j2 c6 a2 a9 o4 e3 c1 e7 g9;gi_wp2_with fail;have o8:Ak F E lo X row ⟨x.skip.es,x.skip.ns,x.o+1⟩ (w1.setCell ⟨X,2,none⟩ (.int .i64 ((x.o:Int)+1))):=r6.o.bump r4;have c9:St (λb=>b=X) w1 (w1.setCell ⟨X,2,none⟩ (.int .i64 ((x.o:Int)+1))):=(gH (λb=>b=X) w1).set (p:=⟨X,2,none⟩) (.inr rfl) _;have e2:=p6.o.trans c9;have g5:=c9.blk n2.o g4;clear c2 f2 l2 q9 r9 c9;generalize w1.setCell ⟨X,2,none⟩ (.int .i64 ((x.o:Int)+1))=w2 at *;have l4:∀W',Ext w2 W'->∀b,F b->W'.heap[b]? = W.heap[b]?:=λW' hW b I=>by
  have:=b9.o b I;exact(hW.heap (by have:=e2.size;omega)).trans (e2.block b oM oM)
 have j7:=i6.o _ (l4 w2 (gz _));have j0:=Dw j7;have hk:=FZ j7 (by have:=i1.o.2.1;omega);dsimp only[ptr]at j0 hk;rw[p7.o]at j0 hk;obtain⟨HK,s4,c7,p3⟩:=Ye hk o8 e2 g5;have v7:=e2.size;clear o8 e2 g5 j7 hk l4;refine⟨trivial,?_⟩;refine(eR.2 j0).mono ?_;rintro e w3 ⟨rfl,rfl⟩;gi_wp2_with fail;refine⟨trivial,?_⟩;refine(eR.2 HK.o).mono ?_;rintro e w3 ⟨sk,rfl,d0,i8⟩;have t8:2<=t.2.length:=i1.o.1;have t2:t.2.length<=8:=i1.o.2.1;have i9:(ptrs n t.2).length=t.2.length:=by simp[ptrs]
 obtain⟨gk,ck,rfl,v3,x5,o3,l3⟩:=Dg d0 oM;have p1:=d0.cells (g:=gk) rfl;obtain⟨r3,r8⟩:=Yb p1 i8;have g6:=l3.lt;have t9:=i8.size;clear d0 p1 i8 l3;gi_wp2_with fail;refine⟨trivial,?_⟩;refine(eR.2 (lG w3 ⟨some gk,ck⟩ t.2.length)).mono ?_;rintro e w4 ⟨rfl,d6,d4⟩;dsimp only at d4;rw[<-i9]at d4;have g3:=qJ d4 (λj v hv=>by
  have:=r3.o j v hv;rw[Cb,aF]at this;exact(d6.cell g6).trans this) (ab g6 d6.size) oM o3 oM
 have r7:=hY g3;have b0:=r8.o.trans d6;obtain⟨j1,n7,a0⟩:=Yc (s4.o.ext b0) (p3.o.ext b0) b0;have t7:=d6.size;have t0:=d4.lt;have t1:=n7.o.lt;clear g3 b0 d4 d6;gi_wp2_with fail;have k9:∀b,E b->b<w4.heap.size:=λb I=>(j1.o.EX b I).2.1
 have o0:∀b,row=some b->b<w4.heap.size:=λb I=>(j1.o.rlt b I).2
 obtain⟨g7,e6⟩:=Yb k9 o0;clear k9 o0;refine PW (gf:=181) (lb:=#[.pointer (some w3)]) rfl (fq func181 kM rfl) r7.o (Agree.refl _) (ao _)
  (λb I=>oM) (λ_=>rfl)
  (λpre C W'=>Yl F E lo X row (x.ns.dropLast++(CQ n t).reverse.take pre.length) (x.o+1) w4 W.heap.size pre.length C W') (λ_ _ _=>False) (λb=>b=X\/row=some b)
  (λb I=>⟨I.elim (λe=>oM) (e6.o b),λh=>by
    rcases I with rfl|I
    .omega
    rw[b3.o]at I;simp only[Option.some.injEq]at I;omega⟩)
  (λ{s C W1 W2} h k=>?turn) (λh k=>h) (λW' hW hz=>?start) ?round ?done ?stop
 case turn=>
  obtain⟨⟨r,rfl,hc,hr⟩,a4,a2⟩:=h;refine⟨⟨r,rfl,hc.st k ?_,hr⟩,a4.then k (λb I e=>oM),k.blk a2 oM⟩;rintro b (I|I|rfl|I) e
  .have:=b9.o b I;omega
  .have:=g7.o b I;omega
  .omega
  rcases hr b I with h|h
  .have:=e6.o b h;omega
  omega
 case start=>
  refine⟨⟨row,rfl,?_,λb I=>.inl I⟩,hW.st _,n7.o.ext hW⟩;have h0:=j1.o.ext hW;rw[r0]at h0;have h1:Ak F E lo X row ⟨[],x.ns.dropLast,x.o+1⟩ W':=h0;simpa using h1
 case stop=>
  rintro D c pre W' hD x2 hX d5;exact hX.elim
 case round=>
  rintro pre C q x0 W1 ⟨⟨r,rfl,hc,hr⟩,a4,a2⟩ q5 v4 x4 f3 hG;obtain⟨qi,qv⟩:=q;have p9:qi+pre.length+1=t.2.length:=by have:=hG.at_;rw[i9]at this;exact this
  have q1:qi<t.2.length:=oM
  obtain⟨kd,f1⟩:∃kd,t.2[qi]? = some kd:=⟨_,ac q1⟩;obtain rfl:ptr n kd=qv:=by
   have h1:(ptrs n t.2)[qi]? = some qv:=hG.val;rw[ptrs,ar,f1]at h1;simpa using h1
  have f9:(CQ n t).reverse[pre.length]? = some ⟨n,kd⟩:=by
   have hl:(CQ n t).length=t.2.length:=by simp[CQ]
   rw[List.getElem?_reverse oM,show(CQ n t).length-1-pre.length=qi from oM,CQ,ar,f1];rfl
  obtain⟨ns,b8⟩:∃ns,x.ns.dropLast++(CQ n t).reverse.take pre.length=ns:=⟨_,rfl⟩;have a8:x.ns.dropLast++(CQ n t).reverse.take (pre++[((qi,ptr n kd):Nat × Value)]).length=ns++[⟨n,kd⟩]:=by
   rw[aj,bg,aK,f9,<-b8];simp
  have l0:(AI.mk [] ns (x.o+1)).tot+Bz n kd<=1000000:=by
   have h1:=Vu (CQ n t).reverse (pre.length+1);have h2:=j8.o;rw[N1]at h2;have h3:CF (x.ns.dropLast++(CQ n t).reverse.take (pre.length+1))=CF ns+Bz n kd:=by
    rw[aj,bg]at a8;rw[a8,NX]
   rw[N1]at h3;show x.o+1+CF ns+Bz n kd<=1000000;omega
  rw[b8]at hc;obtain⟨p0,l8,HC,b6,q3,l9,HR⟩:=Yh a8 l0 hc a4 a2 f3 hr;have o6:=hY f1;clear hG f9 b8 a8 l0 hc a4 a2 f3 hr f1 p9 q5;gi_wp2_with fail;refine⟨gz _,λW3 k3=>?_⟩;have f0:=(l9.o.st _).trans k3;have o2:∀b,Dq F E X r b->¬b=w4.heap.size+1:=by
   rintro b (I|I|rfl|I) e
   .have:=b9.o b I;omega
   .have:=g7.o b I;omega
   .omega
   rcases HR.o b I with h|h
   .have:=e6.o b h;omega
   omega
  have d8:=HC.o.st f0 o2;have a3:=f0.blk q3.o oM;obtain⟨v1,b5,v6,e1,b1,s1,o1,r1⟩:=d8.ex;have t3:ns.length<=1000000:=d8.len;have cX:W3.cell? ⟨X,1,none⟩=some (.slice b5.a ns.length b5.c):=b1.cell 1;have fX:=b1.frozen 1;have e4:=b1.lt;have cB:W3.cell? W=some (B' X):=a3.cell 0;have lB:=a3.lt;have d7:Ext W3 (W3.drew.alloc (.cells #[ptr n kd] 34)):=((gz W3).drew).alloc _ _;have f7:b5.row≠some X:=by rw[r1];exact d8.ne
  have b4:b5.row≠some W.heap.size:=by
   rw[r1];intro e;rcases HR.o _ e with h|h
   .rw [b3.o]at h;simp only[Option.some.injEq]at h;omega
   omega
  obtain⟨a5,j6,j3⟩:=Yc (AZ o1 (d7.agree λb (I:b<W3)=>I) (λb I=>(AM o1 I).2)) (gG (size:=1) (n:=1) (cs:=[ptr n kd]) (gB W3.drew 34 #[ptr n kd]) oN rfl) (show ∀W',Ext W3 W'->W'.cell? W=some (B' X) fromλW' hW=>(a3.ext hW).cell 0);have k0:ns.length+1<=maxLen:=by unfold maxLen;omega
  have o9:(ns.length+1)*8<=140737488355328:=oM
  have a7:lo<=(W3.drew.alloc (.cells #[ptr n kd] 34)).heap.size:=by rw[eQ,fI];omega
  have i5:∀u∈[ptr n kd],u.oneCell'=true:=by intro u hu;rw[aV.1 hu];rfl
  obtain⟨o5,n6,o7,k7,e8,b7,Z⟩:=Yh d8 e1 b1 s1 r1 f0 d7;have f4:=hY a3;clear k3 f0 o2 d8 a3 e1 b1 s1 o1 r1 d7;dsimp only[ptr]at Z a5 j6 a7 i5 ⊢;gi_wp2_with fail;refine ZO (S:=(λw'=>w'.cell? W=some (B' X))) kM (by rintro⟨a,w,h⟩;exact h) kM ((j3.o _ ((gz W3).drew))) (λhHeld=>?_);refine Au 0 (some 39) hHeld ?_;refine Au 1 (some 40) hHeld ?_;refine Au 2 (some 41) hHeld ?_;refine Au 3 (some 42) hHeld ?_;refine Au 5 (some 44) hHeld ?_;refine JY (i:=4) (j:=6) kM rfl rfl (by rfl) (by rfl) (λK hK=>?_) (λK hK=>?_)
  ·go_simp
   skip
   refine hK.out _ _ (hHeld) (λhHeld=>?_);clear hK K
   try go_frame
   refine Af (i:=6) kM rfl (by rfl) (λK hK=>?_);go_simp
   skip
   refine hK.out _ _ (j3.o _ (((gz W3).drew).alloc _ _)) (λhHeld=>?_);clear hK K
   try go_frame
   refine Af (i:=7) kM rfl (by rfl) (λK hK=>?_)
   skip
   refine JE _ (.tmp 43) (.tmp 45) 87 rfl lo 34 i0 _ 1 8 underlying87 hi l1 p2 l5 rfl oN b5 ns.length (ns.map AN.p) (by rfl) a5.o (λb=>b=W3.drew.heap.size) ⟨some W3.drew,1⟩ 1 [.pointer (some ⟨addr n kd,0,none⟩)] (by rfl) j6.o i5 k0 o9 a7 ?_;intro s3 w5 a1 N e0;have h5:=N.cell0 (o:=1) Z.o f7 e4;have p8:=h5.1.trans cX;have q4:=h5.2;have q8:=(N.fz X 1).trans ((Z.o.frozen (o:=1) e4).trans fX);have d3:=(N.cell0 (o:=0) Z.o b4 lB).1.trans cB;obtain⟨g8,i7,i3⟩:=Yc a1 N e0;clear a1 N e0 h5;refine hK.out _ _ (d3) (λhHeld=>?_);clear hK K
   try go_frame
   refine Au 8 (some 47) hHeld ?_;refine Au 9 (some 48) hHeld ?_;refine Af (i:=10) kM rfl (by rfl) (λK hK=>?_);go_simp
   skip
   refine hK.out _ _ (((World.cell?_setCell_far _ _ _ _ d9).trans d3)) (λhHeld=>?_);clear hK K
   try go_frame
   refine fa kM ?_ _;gi_wp2_with fail;have i4:∀b,F b->W3.heap[b]? = W.heap[b]?:=λb I=>by
    have:=b9.o b I;have k2:=c7.o.size;have k4:=a0.o.size;have k5:=b6.o.size;refine(b7.o.block b oM oM).trans ((b6.o.block b oM ?_).trans ((a0.o.heap oM).trans (c7.o.block b oM oM)));rintro(e|e)
    .omega
    rw[b3.o]at e;simp only[Option.some.injEq]at e;omega
   obtain⟨-,sq,-,-,a6⟩:=i6.o W3 i4;have hp:=o5.o.push (W4:=W3.drew.alloc (.cells #[.pointer (some ⟨addr n kd,0,none⟩)] 34)) (a:=⟨n,kd⟩) n6.o o7.o k7.o e8.o Z.o g8.o i7.o i3.o (a6 kd (ap o6.o)) l8.o;have l6:=b7.o.size;refine⟨λb=>b=X\/s3.row=some b,⟨⟨s3.row,rfl,?_,λb I=>?_⟩,?_,?_⟩,hp.2.1,λb I=>?_,λb I=>?_⟩
   .rw [p0.o];exact hp.1
   ·rcases (hp.2.2 b I).1 with e | e
    .exact HR.o b e
    exact .inr oM
   ·refine (b6.o.then b7.o (fun b I e=>oM)).then hp.2.1 fun b I e=>?_
    rcases e with e|e
    .exact .inl e
    rcases HR.o b e with e|e
    .exact .inr e
    omega
   ·refine hp.2.1.blk f4.o ?_
    rintro(e|e)
    .omega
    exact b4 (by rw[e8.o];exact e)
   ·rcases I with e | e
    .exact .inl (.inl e)
    exact(hp.2.2 b e).1.elim (λe=>.inl (.inr e)) .inr
   rw[eX];rcases I with e|e
   .omega
   exact(hp.2.2 b e).2
  go_simp
  skip
  refine hK.out _ _ (j3.o _ (((gz W3).drew).alloc _ _)) (λhHeld=>?_);clear hK K
  try go_frame
  refine Af (i:=4) kM rfl (by rfl) (λK hK=>?_);go_simp
  skip
  refine hK.out _ _ (hHeld) (λhHeld=>?_);clear hK K
  try go_frame
  refine Af (i:=7) kM rfl (by rfl) (λK hK=>?_)
  skip
  refine JE _ (.tmp 43) (.tmp 45) 87 rfl lo 34 i0 _ 1 8 underlying87 hi l1 p2 l5 rfl oN b5 ns.length (ns.map AN.p) (by rfl) a5.o (λb=>b=W3.drew.heap.size) ⟨some W3.drew,1⟩ 1 [.pointer (some ⟨addr n kd,0,none⟩)] (by rfl) j6.o i5 k0 o9 a7 ?_;intro s3 w5 a1 N e0;have h5:=N.cell0 (o:=1) Z.o f7 e4;have p8:=h5.1.trans cX;have q4:=h5.2;have q8:=(N.fz X 1).trans ((Z.o.frozen (o:=1) e4).trans fX);have d3:=(N.cell0 (o:=0) Z.o b4 lB).1.trans cB;obtain⟨g8,i7,i3⟩:=Yc a1 N e0;clear a1 N e0 h5;refine hK.out _ _ (d3) (λhHeld=>?_);clear hK K
  try go_frame
  refine Au 8 (some 47) hHeld ?_;refine Au 9 (some 48) hHeld ?_;refine Af (i:=10) kM rfl (by rfl) (λK hK=>?_);go_simp
  skip
  refine hK.out _ _ (((World.cell?_setCell_far _ _ _ _ d9).trans d3)) (λhHeld=>?_);clear hK K
  try go_frame
  refine fa kM ?_ _;gi_wp2_with fail;have i4:∀b,F b->W3.heap[b]? = W.heap[b]?:=λb I=>by
   have:=b9.o b I;have k2:=c7.o.size;have k4:=a0.o.size;have k5:=b6.o.size;refine(b7.o.block b oM oM).trans ((b6.o.block b oM ?_).trans ((a0.o.heap oM).trans (c7.o.block b oM oM)));rintro(e|e)
   .omega
   rw[b3.o]at e;simp only[Option.some.injEq]at e;omega
  obtain⟨-,sq,-,-,a6⟩:=i6.o W3 i4;have hp:=o5.o.push (W4:=W3.drew.alloc (.cells #[.pointer (some ⟨addr n kd,0,none⟩)] 34)) (a:=⟨n,kd⟩) n6.o o7.o k7.o e8.o Z.o g8.o i7.o i3.o (a6 kd (ap o6.o)) l8.o;have l6:=b7.o.size;refine⟨λb=>b=X\/s3.row=some b,⟨⟨s3.row,rfl,?_,λb I=>?_⟩,?_,?_⟩,hp.2.1,λb I=>?_,λb I=>?_⟩
  .rw [p0.o];exact hp.1
  ·rcases (hp.2.2 b I).1 with e | e
   .exact HR.o b e
   exact .inr oM
  ·refine (b6.o.then b7.o (fun b I e=>oM)).then hp.2.1 fun b I e=>?_
   rcases e with e|e
   .exact .inl e
   rcases HR.o b e with e|e
   .exact .inr e
   omega
  ·refine hp.2.1.blk f4.o ?_
   rintro(e|e)
   .omega
   exact b4 (by rw[e8.o];exact e)
  ·rcases I with e | e
   .exact .inl (.inl e)
   exact(hp.2.2 b e).1.elim (λe=>.inl (.inr e)) .inr
  rw[eX];rcases I with e|e
  .omega
  exact(hp.2.2 b e).2
 rintro D qs C W5 hD hS ⟨⟨r,rfl,hc,hr⟩,a4,a2⟩ d5;have j9:qs.length=t.2.length:=by
  have:=congrArg List.length hS;simp only[List.length_map,List.length_reverse]at this;rw[this];exact i9
 have k8:(CQ n t).reverse.take qs.length=(CQ n t).reverse:=aM (by simp[CQ,j9]);rw[k8]at hc;have x1:=(aA.1 d5).1;have i2:St (λb=>b=D) W5 (W5.putObj D (.deferred none)):=St.put d5 rfl rfl;have f5:JG F E lo X row x W (.returned (.tuple #[])) (W5.putObj D (.deferred none)):=by
  refine⟨rfl,E,r,?_,?_,λb I=>.inl I,λb I=>?_⟩
  ·rw [r5.o,p5.o]
   refine hc.st i2 ?_;rintro b (I|I|rfl|I) e
   .have:=b9.o b I;omega
   .have:=g7.o b I;omega
   .omega
   rcases hr b I with h|h
   .have:=e6.o b h;omega
   omega
  ·have h1:=((c7.o.mono (G:=fun b=>b=X∨row=some b) fun i _ hi=>.inl hi).trans (a0.o.st _)).trans a4
   exact h1.then i2 λb I e=>by have:=a0.o.size;omega
  rcases hr b I with h|h
  .exact .inl h
  exact .inr (by have:=a0.o.size;omega)
 obtain⟨l7,q6⟩:=Yb f5 d5;clear hc hr a4 a2 d5 hS i2 f5 k8 j9;gi_wp2_with fail;refine⟨oO,.inl ⟨_,_,rfl,fM q6.o,?_⟩⟩;exact⟨.tuple #[],by simp[results,results108,go_sem],l7.o⟩
def Ve(h:Ak F E lo X row x W){a:AN}(I:x.node=some a)(ok:a.ok):Calls prog 108 #[B' X] W (JG F E lo X row x W):=by
 obtain⟨n,t⟩:=a;cases n with
 |zero=>exact nz h I
 |succ n=>exact YE h I ok.1
end
end Go.Proofs.YtahhllcdbjbpbaaGreatDoor
namespace Go.Proofs.YtahhllcdbjbpbaaGreatDoor
open Go.Proofs.Tryz
open Go.RowKit
structure NA{α:Type}(P:Program)(l:Nat)(encs:α->Array Value)(lo:Nat)(G:Nat->List α->α->(Nat->Prop)->AB->Prop)(J:List α->(Nat->Prop)->(Nat->Prop)->AB->Prop)(Jx:List α->(Nat->Prop)->AB->Prop):Prop where
 lt:∀pre C D W,J pre C D W->∀b,C b->b<W.heap.size
 take:∀pre C D D1 x W0 W1,J pre C D W0->St D W0 W1->(∀b,D1 b->D b\/W0.heap.size<=b)->(∀b,D1 b->lo<=b/\b<W1.heap.size)->(∀b,C b->¬D1 b)->G lo pre x (λb=>D1 b\/C b) W1->YieldAt Fence.wide 4 P l (encs x) W1 λe W'=>
  (e=.returned (.bool true)/\∃C',J (pre++[x]) C' D1 W'/\St C W1 W'/\∀b,C' b->C b\/W1.heap.size<=b)\/(e=.returned (.bool false)/\Jx (pre++[x]) D1 W'/\St C W1 W')
def VJ{α:Type}(P:Program)(g:Nat)(lb:Array Value)(encs:α->Array Value)(K:Nat->Prop)(G:Nat->List α->α->(Nat->Prop)->AB->Prop)(S Sp:List α->Prop)(w0:AB):Prop:=
 ∀(l:Nat) (J:List α->(Nat->Prop)->(Nat->Prop)->AB->Prop) (Jx:List α->(Nat->Prop)->AB->Prop) (C:Nat->Prop) (W:AB),NA P l encs W.heap.size G J Jx->Agree K w0 W->w0.heap.size<=W.heap.size->(∀b,C b->¬K b)->J [] C (λ_=>False) W->
  Calls P g (#[.func (.yield l) #[] #[]]++lb) W λe W'=>(∃v,e=.returned v)/\((∃xs C' D W0,S xs/\J xs C' D W0/\St D W0 W'/\(∀b,D b->W.heap.size<=b))\/(∃pre D W0,Sp pre/\Jx pre D W0/\St D W0 W'/\(∀b,D b->W.heap.size<=b)))
def iz{α:Type}(C:Nat->Prop)(D1:Nat->Prop)(I:List α->(Nat->Prop)->(Nat->Prop)->AB->Prop)(Ix:Code->List α->(Nat->Prop)->AB->Prop)(xs:List α)(W:AB):Exit->Act->AB->Prop
 |.normal,_,W'=>∃C',I xs C' D1 W'/\St C W W'/\(∀b,C' b->C b\/W.heap.size<=b)/\(∀b,C' b->b<W'.heap.size)
 |.ret,_,W'=>St C W W'/\Ix .ret xs D1 W'
 |.exit id,_,W'=>St C W W'/\Ix (.exit id) xs D1 W'
 |.goto t,_,W'=>St C W W'/\Ix (.goto t) xs D1 W'
 |.panic _,_,_=>False
 |.outgrown,_,_=>False
variable{n gf:Nat}{P:Program}{assign body:Code}{Q:Exit->Act->AB->Prop}{a:Act}{w w0:AB}
def Yk{α:Type}{g:Operand}{ps:Array Tmp} 
 {lb:Array Value} (hg:a.eval g=.func (.func gf) #[] lb) (eg:∀ args w,(callFunc gf args).run P w=.ok (.enter gf args) w)
  {encs:α->Array Value} {K:Nat->Prop} {G:Nat->List α->α->(Nat->Prop)->AB->Prop} {S Sp:List α->Prop} (hseq:VJ P gf lb encs K G S Sp w0)
  (hA:Agree K w0 w) (hsz:w0.heap.size<=w.heap.size) (hK:∀b,K b->b<w.heap.size) (hps:∀x,(encs x).size=ps.size)
  (I:List α->(Nat->Prop)->(Nat->Prop)->AB->Prop) (Ix:Code->List α->(Nat->Prop)->AB->Prop) (C₀:Nat->Prop) (hC:∀b,C₀ b->b<w.heap.size/\¬K b)
  (hI:∀{s C D W W'},I s C D W->St (λb=>b=w.heap.size+1) W W'->I s C D W') (hIx:∀{c s D W W'},Ix c s D W->St (λb=>b=w.heap.size+1) W W'->Ix c s D W')
  (h0:∀W,Ext w W->w.heap.size+2<=W.heap.size->I [] C₀ (λ_=>False) W)
  (hround:∀(pre:List α) (C D D1:Nat->Prop) (x:α) (W0 W1:AB),I pre C D W0->(∀b,C b->b<W0.heap.size)->w.heap.size+2<=W0.heap.size->¬C (w.heap.size+1)->St D W0 W1->(∀b,D1 b->D b\/W0.heap.size<=b)->(∀b,D1 b->w.heap.size+2<=b/\b<W1.heap.size)->(∀b,C b->¬D1 b)->G (w.heap.size+2) pre x (λb=>D1 b\/(C b\/b=w.heap.size+1)) W1->
    assign.wpIn (Fence.wide.inRound (w.heap.size+1)) 4 P (Exit.then (λa1 W2=>Ext W1 W2/\∀W3,St (λb=>b=w.heap.size+1) W2 W3->body.wpIn (Fence.wide.inRound (w.heap.size+1)) 4 P (iz C D1 I Ix (pre++[x]) W3) a1 W3) (λ_ _ _=>False))
     { tmps:=(ps.zip (encs x)).foldl (λt (p,v)=>t.setIfInBounds p v) a.tmps,defers:=[] } W1)
  (hdone:∀(D:Nat) (xs:List α) (C Di:Nat->Prop) (W0 W:AB),D=w.heap.size->S xs->I xs C Di W0->St (λb=>Di b\/b=w.heap.size+1) W0 W->(∀b,Di b->w.heap.size+2<=b)->W.heap[D]? = some (.deferred (some []))->Q .normal { a with defers:={ target:=.collected D,args:=#[] }::a.defers } W)
  (hstop:∀(D:Nat) (c:Code) (pre:List α) (Di:Nat->Prop) (W0 W:AB),D=w.heap.size->Sp pre->Ix c pre Di W0->St (λb=>Di b\/b=w.heap.size+1) W0 W->(∀b,Di b->w.heap.size+2<=b)->W.heap[D]? = some (.deferred (some []))->c.wpIn Fence.wide n P Q { a with defers:={ target:=.collected D,args:=#[] }::a.defers } W) :
  (Code.rangeFunc g ps assign body).wpIn Fence.wide n P Q a w:=by
 refine wpIn_rangeFunc λfn hfn=>?_
 rw[show Fence.wide.round=none from rfl]
 -- the loop's record at each of its states;where it lies,and the block of the rounds' deferred calls
 let rec_:LoopState->Option Code->Obj:=λst pe=>.loop { state:=st,pending:=pe,fn,tmps:=a.tmps,params:=ps,assign,body,defers:=w.heap.size }
 let BK:LoopState->Option Code->AB->Prop:=λst pe W=>W.heap[w.heap.size+1]? = some (rec_ st pe)/\W.heap[w.heap.size]? = some (.deferred (some []))
 have bkL:∀{st pe W},BK st pe W->w.heap.size+1<W.heap.size:=λh=>(aA.1 h.1).1
 have bkE:∀{st pe W W'},BK st pe W->Ext W W'->BK st pe W':=λh he=>⟨(he.heap (aA.1 h.1).1).trans h.1,(he.heap (aA.1 h.2).1).trans h.2⟩
 have bkS:∀{st pe W W'} {C:Nat->Prop},BK st pe W->St C W W'->¬C (w.heap.size+1)->¬C w.heap.size->BK st pe W':=λh hk h1 h2=>⟨(hk.block _ (bkL h) h1).trans h.1,(hk.block _ (by have:=bkL h;omega) h2).trans h.2⟩
 have bkP:∀{st pe W} (st':LoopState) (pe':Option Code),BK st pe W->BK st' pe' (W.putObj (w.heap.size+1) (rec_ st' pe'))/\St (λb=>b=w.heap.size+1) W (W.putObj (w.heap.size+1) (rec_ st' pe')):=λst' pe' h=>
  ⟨⟨World.putObj_heap_same (aA.1 h.1).1,(fC oM).trans h.2⟩,St.put h.1 rfl rfl⟩
 have e1:Ext w (w.alloc (.deferred (some []))):=II w _ λW i j h=>by simp[World.frozen?,h]
 have e2:Ext (w.alloc (.deferred (some []))) ((w.alloc (.deferred (some []))).alloc (rec_ .ready none)):=II _ _ λW i j h=>by simp[World.frozen?,h,rec_]
 have hrun:=run_enterLoop_outer (P:=P) (w:=w) fn a.tmps ps assign body;have bk1:BK .ready none ((w.alloc (.deferred (some []))).alloc (rec_ .ready none)):=
  ⟨by have:=fB (w.alloc (.deferred (some []))) (rec_ .ready none);rwa[eQ]at this,(fe _ _ _ oO).trans (fB w _)⟩
 have eW:=e1.trans e2;have hs1:((w.alloc (.deferred (some []))).alloc (rec_ .ready none)).heap.size=w.heap.size+2:=oO
 change _=Result.ok _ ((w.alloc (.deferred (some []))).alloc (rec_ .ready none))at hrun;generalize (w.alloc (.deferred (some []))).alloc (rec_ .ready none)=W1 at *;refine⟨w+1,_,W1,{ target:=.fn (.func gf) lb,args:=#[.func (.yield (w.heap.size+1)) #[] #[]] },W1,gf,#[.func (.yield (w.heap.size+1)) #[] #[]]++lb,W1,hrun,?_,?_,?_,λh=>by simp[Fence.wide]at h,?_⟩
 ·simp only [resolve,hg]
  simp[go_sem]
 .intro f' hf';trivial
 .simp [invoke,go_sem,eg]
 refine eR.2 ((hseq (w.heap.size+1) (λpre C D W=>∃C0:Nat->Prop,C=(λb=>C0 b\/b=w.heap.size+1)/\I pre C0 D W/\(∀b,C0 b->b<W.heap.size)/\¬C0 (w.heap.size+1)/\¬C0 w.heap.size/\BK .ready none W/\(∀b,D b->w.heap.size+2<=b)/\w.heap.size+2<=W.heap.size) (λpre D W=>∃c,Ix c pre D W/\BK .done (some c) W/\(∀b,D b->w.heap.size+2<=b)) (λb=>C₀ b\/b=w.heap.size+1) W1 ⟨?_,?_⟩ (hA.trans (eW.agree hK)) (an hsz eW.size) ?_
  ⟨C₀,rfl,h0 W1 eW oM,λb hb=>by have:=(hC b hb).1;omega,λh=>by have:=(hC _ h).1;omega,λh=>by have:=(hC _ h).1;omega,bk1,λ_ h=>h.elim,oM⟩).mono ?_)
 ·rintro pre C D W ⟨C0,rfl,-,hlt,-,-,hbk,-⟩ b (hb | rfl)
  .exact hlt b hb
  exact bkL hbk
 ·rintro pre C D D1 x W0 Wy ⟨C0,rfl,hi,hlt,nL,nD,hbk,hDl,hz0⟩ hx hD1 hD1l hCD hgd
  have hbk1:=bkS hbk hx (λh=>by have:=hDl _ h;omega) (λh=>by have:=hDl _ h;omega);have hD2:∀b,D1 b->w.heap.size+2<=b/\b<Wy.heap.size:=λb hb=>by have:=hD1l b hb;omega
  have hl0:=bkL hbk;refine⟨fn,_,assign,body,run_yield (args:=encs x) hbk1.1 (hps x),roundIn_of_wpIn hfn (gw (hround pre C0 D D1 x W0 Wy hi hlt oM nL hx hD1 hD2 (λb hb=>hCD b (.inl hb)) (by rw[hs1]at hgd;exact hgd)) ?_)⟩;rintro e a3 W2 hp;cases e with
  | normal=>
    obtain⟨hx2,hb⟩:=hp;have hbk2:=bkE hbk1 hx2;obtain⟨hbk3,ht3⟩:=bkP .busy none hbk2;refine⟨_,run_beginRound hbk2.1 rfl,gw (hb _ ht3) ?_⟩;have hl3:=bkL hbk3;generalize W2.putObj (w.heap.size+1) (rec_ .busy none)=W3 at *;rintro e a4 W4 hq;cases e with
    | normal=>
      obtain⟨C',hi4,hst,hsub,hlt4⟩:=hq;have hbk4:=bkS hbk3 hst nL nD;obtain⟨hbk5,ht5⟩:=bkP .ready none hbk4;refine⟨_,_,fu none hbk4.1,.inl ⟨rfl,_,⟨C',rfl,hI hi4 ht5,λb hb=>ab (hlt4 b hb) ht5.size,λh=>?_,λh=>?_,hbk5,λb hb=>(hD2 b hb).1,an (show w.heap.size+2<=W4.heap.size by have:=hx.size;have:=hx2.size;have:=ht3.size;have:=hst.size;omega) ht5.size⟩,?_,?_⟩⟩
      ·rcases hsub _ h with h | h
       .exact nL h
       omega
      ·rcases hsub _ h with h | h
       .exact nD h
       omega
      .exact (((hx2.st _).trans (ht3.mono λi _ hi=>.inr hi)).trans (hst.mono λi _ hi=>.inl hi)).trans (ht5.mono λi _ hi=>.inr hi)
      rintro b (hb|rfl)
      ·rcases hsub b hb with h | h
       .exact .inl (.inl h)
       exact .inr (by have:=hx2.size;have:=ht3.size;omega)
      exact .inl (.inr rfl)
    | ret=>
      have hbk4:=bkS hbk3 hq.1 nL nD;obtain⟨hbk5,ht5⟩:=bkP .done (some .ret) hbk4;exact⟨_,_,fu (some .ret) hbk4.1,.inr ⟨rfl,⟨.ret,hIx hq.2 ht5,hbk5,λb hb=>(hD2 b hb).1⟩,(((hx2.st _).trans (ht3.mono λi _ hi=>.inr hi)).trans (hq.1.mono λi _ hi=>.inl hi)).trans (ht5.mono λi _ hi=>.inr hi)⟩⟩
    | exit id=>
      have hbk4:=bkS hbk3 hq.1 nL nD;obtain⟨hbk5,ht5⟩:=bkP .done (some (.exit id)) hbk4;exact⟨_,_,fu (some (.exit id)) hbk4.1,.inr ⟨rfl,⟨.exit id,hIx hq.2 ht5,hbk5,λb hb=>(hD2 b hb).1⟩,(((hx2.st _).trans (ht3.mono λi _ hi=>.inr hi)).trans (hq.1.mono λi _ hi=>.inl hi)).trans (ht5.mono λi _ hi=>.inr hi)⟩⟩
    | goto t=>
      have hbk4:=bkS hbk3 hq.1 nL nD;obtain⟨hbk5,ht5⟩:=bkP .done (some (.goto t)) hbk4;exact⟨_,_,fu (some (.goto t)) hbk4.1,.inr ⟨rfl,⟨.goto t,hIx hq.2 ht5,hbk5,λb hb=>(hD2 b hb).1⟩,(((hx2.st _).trans (ht3.mono λi _ hi=>.inr hi)).trans (hq.1.mono λi _ hi=>.inl hi)).trans (ht5.mono λi _ hi=>.inr hi)⟩⟩
    |panic ch=>exact hq.elim
    |outgrown=>exact hq.elim
  |ret=>exact hp.elim
  |exit id=>exact hp.elim
  |goto t=>exact hp.elim
  |panic ch=>exact hp.elim
  |outgrown=>exact hp.elim
 ·rintro b (hb | rfl) hk
  .exact (hC b hb).2 hk
  have:=hK _ hk;omega
 rintro e W2 ⟨⟨v,rfl⟩,(⟨xs,C,D,W0,hS,⟨C0,rfl,hi,-,-,-,hbk,hDl,-⟩,hx,-⟩ |⟨pre,D,W0,hSp,⟨c,hi,hbk,hDl⟩,hx,-⟩)⟩
 ·have hbk2:=bkS hbk hx (fun h=>by have:=hDl _ h;omega) (fun h=>by have:=hDl _ h;omega)
  obtain⟨hbk5,ht5⟩:=bkP .exhausted none hbk2;exact⟨none,_,gm hbk2.1 oO,hdone _ xs C0 D W0 _ rfl hS hi ((hx.mono λi _ hi=>.inl hi).trans (ht5.mono λi _ hi=>.inr hi)) hDl hbk5.2⟩
 have hbk2:=bkS hbk hx (λh=>by have:=hDl _ h;omega) (λh=>by have:=hDl _ h;omega);obtain⟨hbk5,ht5⟩:=bkP .exhausted (some c) hbk2;exact⟨some c,_,gm hbk2.1 oO,hstop _ c pre D W0 _ rfl hSp hi ((hx.mono λi _ hi=>.inl hi).trans (ht5.mono λi _ hi=>.inr hi)) hDl hbk5.2⟩
open Go.Shelf
def Y5{c:Code}(h:c.wpIn Fence.wide n P (Exit.noGoto Q) a w):(Code.scope c).wpIn Fence.wide n P Q a w:=gu.2 (wp_scope_straight (gu.1 h))
abbrev GM(x:CE):Array Value:=#[x.agg]
structure OY(all:List Bv)(lo:Nat)(pre:List CE)(x:CE)(D1:Nat->Prop)(W1:AB):Prop where
 at_:all[pre.length]? = some x.c
 pre_:pre.map CE.c=all.take pre.length
 val:CR W1 (λb=>lo<=b/\b<W1.heap.size/\¬D1 b) x
def Own(X Y:Nat)(rx ry:Option Nat)(b:Nat):Prop:=b=X\/b=Y\/rx=some b\/ry=some b
structure WalkM(F F':Nat->Prop)(lo X Y:Nat)(C:Nat->Prop)(J:List CE->(Nat->Prop)->(Nat->Prop)->AB->Prop)(W00:AB)(x y:AI)(rx ry:Option Nat)(Ex Ey:Nat->Prop)(pre:List CE)(C' D:Nat->Prop)(Wj wr:AB):Prop where
 j:J pre C' D Wj
 jst:St D Wj wr
 cx:Ak F Ex lo X rx x wr
 cy:Ak F' Ey lo Y ry y wr
 own:∀b,Own X Y rx ry b->D b\/Wj.heap.size<=b
 low:∀b,D b->lo<=b
 apart:∀b,(b=X\/rx=some b)->¬Dq F' Ey Y ry b
 apart':∀b,(b=Y\/ry=some b)->¬Dq F Ex X rx b
 disC:∀b,C' b->¬Dq F Ex X rx b/\¬Dq F' Ey Y ry b
 clt:∀b,C' b->b<Wj.heap.size
 st:St C W00 wr
 sub:∀b,C' b->C b\/lo<=b
 base:W00.heap.size=lo
section
variable{F F' : Nat -> Prop}{lo X Y : Nat}{C : Nat -> Prop}{J : List CE ->(Nat -> Prop) ->(Nat -> Prop) -> AB -> Prop}{W00 : AB}{x y : AI}{rx ry : Option Nat}{Ex Ey : Nat -> Prop}{pre : List CE}{C' D : Nat -> Prop}{Wj wr w' : AB}
def WalkM.ext(h:WalkM F F' lo X Y C J W00 x y rx ry Ex Ey pre C' D Wj wr)(k:Ext wr w'):WalkM F F' lo X Y C J W00 x y rx ry Ex Ey pre C' D Wj w':=
 ⟨h.j,h.jst.ext k,h.cx.ext k,h.cy.ext k,h.own,h.low,h.apart,h.apart',h.disC,h.clt,h.st.ext k,h.sub,h.base⟩
def WalkM.J8(h:WalkM F F' lo X Y C J W00 x y rx ry Ex Ey pre C' D Wj wr){x':AI}{N:Option Nat}{Z:Nat->Prop}(k:St (λb=>b=X\/rx=some b) wr w')(hc:Ak F Z lo X N x' w')(hE:∀b,Z b->Ex b\/wr.heap.size<=b)(hr:∀b,N=some b->rx=some b\/wr.heap.size<=b) :
  WalkM F F' lo X Y C J W00 x' y N ry Z Ey pre C' D Wj w':=by
 have hs:=h.jst.size;have a1:∀b,Dq F' Ey Y ry b->b<wr.heap.size:=h.cy.kl h.cy.low;have a0:∀b,Dq F Z X N b->Dq F Ex X rx b\/wr.heap.size<=b:=by
  rintro b (I|I|I|I)
  .exact .inl (.inl I)
  .exact (hE b I).imp (λh=>.inr (.inl h)) id
  .exact .inl (.inr (.inr (.inl I)))
  exact(hr b I).imp (λh=>.inr (.inr (.inr h))) id
 refine⟨h.j,h.jst.then k λi hi hk=>?_,hc,h.cy.st k λb I e=>h.apart b e I,λb I=>?_,h.low,λb I hh=>?_,λb I hh=>?_,λb I=>⟨λhh=>?_,(h.disC b I).2⟩,h.clt,h.st.then k λi hi hk=>?_,h.sub,h.base⟩
 ·rcases h.own i (hk.elim (fun e=>.inl e) (fun e=>.inr (.inr (.inl e)))) with e | e
  .exact e
  omega
 ·rcases I with I | I | I | I
  .exact h.own b (.inl I)
  .exact h.own b (.inr (.inl I))
  ·rcases hr b I with e | e
   .exact h.own b (.inr (.inr (.inl e)))
   exact .inr oM
  exact h.own b (.inr (.inr (.inr I)))
 ·rcases I with I | I
  .exact h.apart b (.inl I) hh
  rcases hr b I with e|e
  .exact h.apart b (.inr e) hh
  have:=a1 b hh;omega
 ·have hl:b<wr:=a1 b (I.elim (fun e=>.inr (.inr (.inl e))) (fun e=>.inr (.inr (.inr e))))
  rcases a0 b hh with e|e
  .exact h.apart' b I e
  omega
 ·have:=h.clt b I
  rcases a0 b hh with e|e
  .exact (h.disC b I).1 e
  omega
 have I:=h.base;rcases hk with e|e
 .have:=h.cx.lX;omega
 have:=(h.cx.rlt i e).1;omega
def WalkM.Jn(h:WalkM F F' lo X Y C J W00 x y rx ry Ex Ey pre C' D Wj wr){y':AI}{N:Option Nat}{Z:Nat->Prop}(k:St (λb=>b=Y\/ry=some b) wr w')(hc:Ak F' Z lo Y N y' w')(hE:∀b,Z b->Ey b\/wr.heap.size<=b)(hr:∀b,N=some b->ry=some b\/wr.heap.size<=b) :
  WalkM F F' lo X Y C J W00 x y' rx N Ex Z pre C' D Wj w':=by
 have hs:=h.jst.size;have a0:∀b,Dq F Ex X rx b->b<wr.heap.size:=h.cx.kl h.cx.low;have a1:∀b,Dq F' Z Y N b->Dq F' Ey Y ry b\/wr.heap.size<=b:=by
  rintro b (I|I|I|I)
  .exact .inl (.inl I)
  .exact (hE b I).imp (λh=>.inr (.inl h)) id
  .exact .inl (.inr (.inr (.inl I)))
  exact(hr b I).imp (λh=>.inr (.inr (.inr h))) id
 refine⟨h.j,h.jst.then k λi hi hk=>?_,h.cx.st k λb I e=>h.apart' b e I,hc,λb I=>?_,h.low,λb I hh=>?_,λb I hh=>?_,λb I=>⟨(h.disC b I).1,λhh=>?_⟩,h.clt,h.st.then k λi hi hk=>?_,h.sub,h.base⟩
 ·rcases h.own i (hk.elim (fun e=>.inr (.inl e)) (fun e=>.inr (.inr (.inr e)))) with e | e
  .exact e
  omega
 ·rcases I with I | I | I | I
  .exact h.own b (.inl I)
  .exact h.own b (.inr (.inl I))
  .exact h.own b (.inr (.inr (.inl I)))
  rcases hr b I with e|e
  .exact h.own b (.inr (.inr (.inr e)))
  exact .inr oM
 ·have hl:b<wr:=a0 b (I.elim (fun e=>.inr (.inr (.inl e))) (fun e=>.inr (.inr (.inr e))))
  rcases a1 b hh with e|e
  .exact h.apart b I e
  omega
 ·rcases I with I | I
  .exact h.apart' b (.inl I) hh
  rcases hr b I with e|e
  .exact h.apart' b (.inr e) hh
  have:=a0 b hh;omega
 ·have:=h.clt b I
  rcases a1 b hh with e|e
  .exact (h.disC b I).2 e
  omega
 have I:=h.base;rcases hk with e|e
 .have:=h.cy.lX;omega
 have:=(h.cy.rlt i e).1;omega
def WalkM.Zg(h:WalkM F F' lo X Y C J W00 x y rx ry Ex Ey pre C' D Wj wr){b:Nat}(I:Own X Y rx ry b):Dq F Ex X rx b\/Dq F' Ey Y ry b:=by
 rcases I with I|I|I|I
 .exact .inl (.inr (.inr (.inl I)))
 .exact .inr (.inr (.inr (.inl I)))
 .exact .inl (.inr (.inr (.inr I)))
 exact .inr (.inr (.inr (.inr I)))
def WalkM.Il(h:WalkM F F' lo X Y C J W00 x y rx ry Ex Ey pre C' D Wj wr){b:Nat}(I:Own X Y rx ry b):lo<=b/\b<wr:=by
 rcases I with rfl|rfl|I|I
 .exact ⟨h.cx.lX,h.cx.lt⟩
 .exact ⟨h.cy.lX,h.cy.lt⟩
 .exact h.cx.rlt b I
 exact h.cy.rlt b I
def WalkM.GH(h:WalkM F F' lo X Y C J W00 x y rx ry Ex Ey pre C' D Wj wr):∀b,Ex b->lo<=b/\b<wr.heap.size/\¬(Own X Y rx ry b\/C' b):=λb I=>by
 obtain⟨N,e2,e3,Z⟩:=h.cx.EX b I;refine⟨N,e2,?_⟩;rintro((e|e|e|e)|e)
 .exact e3 e
 .exact h.apart' b (.inl e) (.inr (.inl I))
 .exact Z e
 .exact h.apart' b (.inr e) (.inr (.inl I))
 exact(h.disC b e).1 (.inr (.inl I))
def WalkM.Io(h:WalkM F F' lo X Y C J W00 x y rx ry Ex Ey pre C' D Wj wr):∀b,Ey b->lo<=b/\b<wr.heap.size/\¬(Own X Y rx ry b\/C' b):=λb I=>by
 obtain⟨N,e2,e3,Z⟩:=h.cy.EX b I;refine⟨N,e2,?_⟩;rintro((e|e|e|e)|e)
 .exact h.apart b (.inl e) (.inr (.inl I))
 .exact e3 e
 .exact h.apart b (.inr e) (.inr (.inl I))
 .exact Z e
 exact(h.disC b e).2 (.inr (.inl I))
def WalkM.told(h:WalkM F F' lo X Y C J W00 x y rx ry Ex Ey pre C' D Wj wr){c:CE}{C6:Nat->Prop}(hj:J (pre++[c]) C6 (Own X Y rx ry) w')(a2:∀b,C6 b->b<w'.heap.size)(Z:St C' wr w')(N:∀b,C6 b->C' b\/wr.heap.size<=b) :
  WalkM F F' lo X Y C J W00 x y rx ry Ex Ey (pre++[c]) C6 (Own X Y rx ry) w' w':=by
 have a0:∀b,Dq F Ex X rx b->b<wr.heap.size:=h.cx.kl h.cx.low;have a1:∀b,Dq F' Ey Y ry b->b<wr.heap.size:=h.cy.kl h.cy.low;have a3:=h.cx.low;refine⟨hj,gH _ _,h.cx.st Z λb I e=>(h.disC b e).1 I,h.cy.st Z λb I e=>(h.disC b e).2 I,λb I=>.inl I,λb I=>(h.Il I).1,h.apart,h.apart',λb I=>⟨λhh=>?_,λhh=>?_⟩,a2,h.st.then Z λi hi hk=>?_,λb I=>?_,h.base⟩
 ·rcases N b I with e | e
  .exact (h.disC b e).1 hh
  have:=a0 b hh;omega
 ·rcases N b I with e | e
  .exact (h.disC b e).2 hh
  have:=a1 b hh;omega
 ·have I:=h.base
  rcases h.sub i hk with e|e
  .exact e
  omega
 rcases N b I with e|e
 .exact h.sub b e
 exact .inr oM
def WalkM.yields{l:Nat}{all:List Bv}{Jx:List CE->(Nat->Prop)->AB->Prop}(h:WalkM F F' lo X Y C J W00 x y rx ry Ex Ey pre C' D Wj wr)(hT:NA prog l GM lo (λlo=>OY all lo) J Jx){c:CE}{rest:List Bv}(I:all=pre.map CE.c++(c.c::rest))(hc:CR wr (λb=>lo<=b/\b<wr/\¬(Own X Y rx ry b\/C' b)) c) :
  YieldAt Fence.wide 4 prog l (GM c) wr λe W'=>(e=.returned true/\∃Z,J (pre++[c]) Z (Own X Y rx ry) W'/\St C' wr W'/\∀b,Z b->C' b\/wr.heap.size<=b)\/(e=.returned false/\Jx (pre++[c]) (Own X Y rx ry) W'/\St C' wr W'):=by
 refine hT.take pre C' D (Own X Y rx ry) c Wj wr h.j h.jst h.own (λb N=>h.Il N) (λb N ho=>?_) ⟨?_,?_,hc⟩
 ·rcases h.Zg ho with e | e
  .exact (h.disC b N).1 e
  exact(h.disC b N).2 e
 .rw [I,aO oO];simp
 rw[I,List.take_left' oO]
end
attribute [local go_sem] Oper.semAt_some
def Vp(w:AB)(p q:Option Addr)(hp:Me w p)(hq:Me w q):(binOp .eql 34 (.pointer p) (.pointer q)).run prog w=.ok (.bool (decide (p=q))) w:=by
 obtain⟨j,N,hz⟩:=Y7;cases p with
 | none=>
   cases q with
   | none=>
     have h:∀d:Nat,(Op.equalIn (d+1) 34 (.pointer none) (.pointer none)).run prog w=.ok true w:=λd=>by
      simp[Op.equalIn,run_underlying underlying34]
     simp only[binOp];simp[Op.equal,Op.maxDepth,h 9999]
   |some b=>rw[qP w b underlying34];simp
 | some a=>
   cases q with
   | none=>
     have h:∀d:Nat,(Op.equalIn (d+1) 34 (.pointer (some a)) (.pointer none)).run prog w=.ok false w:=λd=>by
      simp[Op.equalIn,run_underlying underlying34]
     simp only[binOp];simp[Op.equal,Op.maxDepth,h 9999]
   | some b=>
     by_cases I:a=b
     ·subst I
      rw[run_eql_ptr_same (P:=prog) w a underlying34 N];simp
     obtain⟨ca,ta,ha⟩:=hp a rfl;obtain⟨cb,tb,Z⟩:=hq b rfl;rw[run_eql_ptr_other (P:=prog) _ underlying34 N hz I ha Z];simp[I]
def iT(x:AI)(px:Option Addr)(hz:Int)(fx lx:AA)(b:Bool):Prop:=
 (x.gone/\b=false/\px=none)\/(∃e es,x.es=e::es/\b=true/\px=none/\hz = -1/\fx=e.1/\lx=e.1/\x.first=e.1/\x.last=e.1)\/
 (∃(a:AN) (A:Addr),x.node=some a/\b=true/\px=some A/\A=⟨a.at_,0,none⟩/\hz=a.1/\fx=x.first/\lx=x.last)
variable{W:AB}
def RJ{F E:Nat->Prop}{lo X:Nat}{row:Option Nat}{x:AI}(h:Ak F E lo X row x W):∃(px:Option Addr) (hz:Int) (fx lx:AA) (b:Bool),
  (∀W',Ext W W'->Calls prog 106 #[B' X] W' λe w'=>e=.returned (.tuple #[.agg #[.pointer px,hz,fx,lx],.bool b])/\Ext W' w')/\iT x px hz fx lx b:=by
 by_cases hg:x.gone
 ·refine ⟨none,x.height,x.first,x.last,false,fun W' Z=>?_,.inl ⟨hg,rfl,rfl⟩⟩
  have:=iB (h.ext Z) hg;have N:x.En=.pointer none:=by
   obtain⟨es,ns,o⟩:=x;obtain⟨rfl,rfl⟩:es=[]/\ns=[]:=hg;rfl
  unfold FD at this;rwa[N]at this
 cases I:x.node with
 | none=>
   obtain⟨e,es,he⟩:=AI.ny I hg;obtain⟨-,h1,h2,-⟩:=x.IE he;refine⟨none,x.height,x.first,x.last,true,λW' Z=>?_,.inr (.inl ⟨e,es,he,rfl,rfl,x.JV he,h1,h2,h1,h2⟩)⟩;have:=iY (h.ext Z) he;have N:x.En=.pointer none:=by unfold AI.En;rw[I]
   unfold FD at this;rwa[N]at this
 | some a=>
   refine⟨some a.at_,x.height,x.first,x.last,true,λW' Z=>?_,.inr (.inr ⟨a,_,I,rfl,rfl,rfl,x.J0 I,rfl,rfl⟩)⟩;have:=Z4 (h.ext Z) I;have N:x.En=.pointer (some a.at_):=by unfold AI.En;rw[I];rfl
   unfold FD at this;rwa[N]at this
variable{F:Nat->Prop}{h:Nat}
def AJ.Vl{t:PT h}(hn:AJ w F h t){p:Option Addr}(Z:p=some ⟨addr h t,0,none⟩):Me w p:=by
 intro a I;rw[Z]at I;obtain rfl:(⟨addr h t,0,none⟩:Addr)=a:=by simpa using I
 obtain⟨-,_,_,_,_,-,N⟩:=hn.cells;exact⟨_,_,N⟩
variable{F':Nat->Prop}
def pC{a b:AN}(N:AJ w F a.1 a.2)(I:AJ w F' b.1 b.2)(e:a.at_=b.at_):a=b:=by
 obtain⟨h,t⟩:=a;obtain⟨h',t'⟩:=b;have Z:=N.heights I e;dsimp only at Z;subst Z;have:=N.det I e;dsimp only at this;rw[this]
def Fj(F F':Nat->Prop)(lo X Y:Nat)(x0 y0:AI)(all:List Bv)(C:Nat->Prop)(J:List CE->(Nat->Prop)->(Nat->Prop)->AB->Prop)(Jx:List CE->(Nat->Prop)->AB->Prop)(W00:AB)(e:AC)(w':AB):Prop:=
 e=.returned (.tuple #[])/\((∃x y rx ry Ex Ey pre C' D Wj,WalkM F F' lo X Y C J W00 x y rx ry Ex Ey pre C' D Wj w'/\Cg x0 y0 x y (pre.map CE.c)/\x.gone/\y.gone)\/
  (∃pre D,Jx pre D w'/\(∀b,D b->lo<=b)/\pre.map CE.c <+: all/\St C W00 w'))
def G3{x0 Z x y x' y':AI}{l m:List Bv}{c:Bv}(h:Cg x0 Z x y l)(N:x0.ok)(I:Z.ok)(hs:Step x y x' y' [c]):chg x0.cont Z.cont=l++(c::chg x'.cont y'.cont):=by
 rw[h.chg N I,hs.chg (h.ok N I).1 (h.ok N I).2];rfl
def OQ{l:List Bv}{c:Bv}{rest:List Bv}:l++[c] <+: l++(c::rest):=⟨rest,oO⟩
def il{lo X Y l:Nat}{C:Nat->Prop}{J:List CE->(Nat->Prop)->(Nat->Prop)->AB->Prop}{Jx:List CE->(Nat->Prop)->AB->Prop}{W00:AB}{x0 y0:AI}{n7 l2:Option Nat}{o0 n9:Nat->Prop}{C0 D0:Nat->Prop}{l5 W:AB}{all:List Bv}
  (hT:NA prog l GM lo (λlo=>OY all lo) J Jx) (hS:WalkM F F' lo X Y C J W00 x0 y0 n7 l2 o0 n9 [] C0 D0 l5 W) (f5:x0.ok) (f1:y0.ok) (i3:all=chg x0.cont y0.cont) :
  Calls prog 74 #[B' X,B' Y,.func (.yield l) #[] #[]] W (Fj F F' lo X Y x0 y0 all C J Jx W00):=by
 obtain⟨HT,l8,c6,b7,c7⟩:=Yf hT hS f5 f1 i3;clear hT hS f5 f1 i3;refine(eR (n:=5)).1 ?_;refine fT func74 rfl trivial ?_ rfl;simp only[ntmps74,zL,Nat.reduceAdd,Nat.reduceSub];gi_wp2_with fail;refine Y5 ?_;gi_wp2_with fail;refine wpIn_label ?_;gi_wp2_with fail;gi_loopg [] (x0.wt+y0.wt) (λk wr=>∃(x y:AI) (rx ry:Option Nat) (Ex Ey:Nat->Prop) (pre:List CE) (C' D:Nat->Prop) (Wj:AB),x.wt+y.wt=k/\WalkM F F' lo X Y C J W00 x y rx ry Ex Ey pre C' D Wj wr/\Cg x0 y0 x y (pre.map CE.c))
 case atStart=>exact⟨x0,y0,_,_,_,_,[],_,_,_,rfl,l8.o,Cg.start⟩
 obtain⟨x,y,rx,ry,Ex,Ey,pre,C',D,Wj,rfl,hS,e8⟩:=hrel;obtain⟨px,d6,fx,lx,bx,j4,j5⟩:=RJ hS.cx;obtain⟨py,e1,fy,ly,o6,j2,k3⟩:=RJ hS.cy;obtain⟨f5,f1⟩:=e8.ok c6.o b7.o;obtain⟨HS,a1,n6,l6,n2,n4,l4⟩:=Yh hS e8 j4 j2 j5 k3 f5;have l7:=hY f1;clear hS e8 j4 j2 f5 f1 j5 k3;gi_wp2_with fail;refine⟨trivial,?_⟩;refine(eR.2 (n6.o wr (gz wr))).mono ?_;rintro e w1 ⟨rfl,j3⟩;have i2:=j3.alloc #[.pointer px,.int .i64 d6,.string fx,.string lx] 171;have k2:=gB w1 171 #[.pointer px,.int .i64 d6,.string fx,.string lx];obtain⟨j1,n8⟩:=Yb i2 k2;clear j3 i2 k2;gi_wp2_with fail;refine⟨trivial,?_⟩;refine(eR.2 (l6.o _ j1.o)).mono ?_;rintro e w2 ⟨rfl,i7⟩;have c8:=n8.o.ext i7;have p0:w2.cell? w1=some (.pointer px):=c8.cell 0;have p1:w2.cell? ⟨w1,1,none⟩=some (.int .i64 d6):=c8.cell 1;have p2:w2.cell? ⟨w1,2,none⟩=some (.string fx):=c8.cell 2;have p3:w2.cell? ⟨w1,3,none⟩=some (.string lx):=c8.cell 3;have lp:=c8.lt;have j8:=(j1.o.trans i7).alloc #[.pointer py,.int .i64 e1,.string fy,.string ly] 171;have a2:=hY (HS.o.ext j8);clear i7 j8 c8;rcases n2.o with⟨d3,rfl,rfl⟩ |⟨e,o5,b4,rfl,rfl,rfl,b5,a9,f0,e6⟩ |⟨a,A,a5,rfl,rfl,hA,f8,b5,a9⟩
 all_goals first
  |(have i5:x.node=none:=by unfold AI.node;rw[eN d3.1,d3.2];rfl)
  | (have i5:x.node=none:=by unfold AI.node;rw [eL (by rw [b4];simp)]
     have e2:¬x.gone:=λh=>by rw[h.1]at b4;cases b4
     obtain⟨l1,k0⟩:=Yb b5 a9
     replace b5:=b5.trans f0.symm
     replace a9:=a9.trans e6.symm
     clear f0 e6)
  | (have e2:¬x.gone:=fun h=>by have:=(x.DV a5).2.2;rw [h.2] at this;cases this
     have o3:(-1:Int)<d6:=oM
     have l0:¬d6<(-1:Int):=oM
     obtain⟨HA,k7⟩:=Yb hA f8;clear hA f8)
 all_goals try(have g7:=hY b5;have i9:=hY a9;clear b5 a9)
 all_goals rcases n4.o with⟨d7,rfl,rfl⟩ |⟨f,o4,b6,rfl,rfl,rfl,b5,a9,f0,e6⟩ |⟨b,B,a6,rfl,rfl,hB,f8,b5,a9⟩
 all_goals first
  |(have i4:y.node=none:=by unfold AI.node;rw[eN d7.1,d7.2];rfl)
  | (have i4:y.node=none:=by unfold AI.node;rw [eL (by rw [b6];simp)]
     have e3:¬y.gone:=λh=>by rw[h.1]at b6;cases b6
     obtain⟨l9,k1⟩:=Yb b5 a9
     replace b5:=b5.trans f0.symm
     replace a9:=a9.trans e6.symm
     clear f0 e6)
  | (have e3:¬y.gone:=fun h=>by have:=(y.DV a6).2.2;rw [h.2] at this;cases this
     have o2:(-1:Int)<e1:=oM
     have l3:¬e1<(-1:Int):=oM
     obtain⟨HB,k4⟩:=Yb hB f8;clear hB f8)
 all_goals try(have g8:=hY b5;have j0:=hY a9;clear b5 a9)
 all_goals first
  | (have k6:=Vp (w2.alloc (.cells #[.pointer (some B),e1,fy,ly] 171)) (some A) (some B) ((a2.o.cx.nodes a (bR (x.DV a5).2.2)).Vl (by rw [HA.o];rfl)) ((a2.o.cy.nodes b (bR (y.DV a6).2.2)).Vl (by rw [HB.o];rfl))
     by_cases e4:a.at_=b.at_
     all_goals first
      | (have i8:=hY (show y.node=some a by rw [a6,pC (a2.o.cx.nodes a (bR (x.DV a5).2.2)) (a2.o.cy.nodes b (bR (y.DV a6).2.2)) e4])
         rw[show decide (some A=some B)=true by rw[HA.o.trans (congrArg (λz=>(⟨z,0,none⟩:Addr)) e4),HB.o];simp]at k6;clear e4)
      | (rw [show decide (some A=some B)=false from eM fun h=>by
          simp only[Option.some.injEq]at h;rw[HA.o,HB.o,Addr.mk.injEq]at h;exact e4 h.1]at k6
         have d5:=hY (show ¬qR x y fromλ⟨a',b',h1,h2,h3⟩=>by
          rw[a5]at h1;rw[a6]at h2;obtain rfl:a=a':=by simpa using h1
          obtain rfl:b=b':=by simpa using h2
          exact e4 h3)
         clear e4))
  | (have j6:¬qR x y:=fun ⟨a',b',h1,h2,h3⟩=>by first | (rw [i5] at h1;cases h1) | (rw [i4] at h2;cases h2)
     have d5:=hY j6;clear j6)
 any_goals (
  have _q:=And.intro e2 (And.intro e3 d5);clear _q;cases g5:klt lx fy;cases g3:klt ly fx
  first
  | (have _q:=And.intro a5 a6
     clear _q;by_cases hg:e1<d6
     rotate_left
     by_cases o7:d6<e1)
  |skip
  all_goals (
   have f9:=hY g5
   replace g5:Op.bytesLess lx.toList fy.toList=_:=g5
   try(have f2:=hY g3;replace g3:Op.bytesLess ly.toList fx.toList=_:=g3)
   try have HG:=hY hg))
 all_goals first
  |(have mE:=And.intro d3 d7)
  |(have mC:=And.intro d3 b6)
  |(have g0:=And.intro d3 a6)
  |(have mG:=And.intro b4 d7)
  |(have g6:=And.intro a5 d7)
  |(have mS:=i8)
  | (have _q:Op.bytesLess lx.toList fy.toList=true:=g5
     first |(have mG:=b4) |(have g6:=a5))
  | (have _q:Op.bytesLess ly.toList fx.toList=true:=g3
     first |(have mC:=b6) |(have g0:=a6))
  |(have mB:=And.intro b4 b6)
  |(have g0:=And.intro b4 a6)
  |(have g6:=And.intro a5 b6)
  |(have g6:e1<d6:=hg)
  |(have g0:=a6)
 all_goals (try clear _q)
 all_goals gi_wp2_with fail
 any_goals (
  clear mE;have b9:=hY (show Fj F F' lo X Y x0 y0 all C J Jx W00 (.returned (.tuple #[])) _ from⟨rfl,.inl ⟨x,y,_,_,_,_,pre,_,_,_,a2.o,a1.o,d3,d7⟩⟩);go_end0;exact b9.o)
 any_goals (
  clear mS;refine⟨trivial,?_⟩;refine(eR.2 (Ji a2.o.cx a5)).mono ?_;rintro e' w4 ⟨rfl,a3,Z⟩;have b3:=hY (a2.o.J8 (Z.mono λi _ hi=>.inl hi) a3 (λb hb=>.inl hb) (λb hb=>.inl hb));clear a3 Z p0 p1 p2 p3 lp;gi_wp2_with fail;refine⟨trivial,?_⟩;refine(eR.2 (Ji b3.o.cy i8.o)).mono ?_;rintro e' w5 ⟨rfl,f4,d0⟩;obtain⟨a8,I⟩:=Yb (b3.o.Jn (d0.mono λi _ hi=>.inl hi) f4 (λb hb=>.inl hb) (λb hb=>.inl hb)) (show Step x y x.skip y.skip []from .skip a5 i8.o);have b0:=hY (show Cg x0 y0 x.skip y.skip (pre.map CE.c)by have:=a1.o.step I.o;rwa[aY]at this);clear f4 d0;gi_wp2_with fail;gi_roundg (x.skip.wt+y.skip.wt)
  case rel=>exact⟨x.skip,y.skip,_,_,_,_,_,_,_,_,rfl,a8.o,b0.o⟩
  exact I.o.wt)
 any_goals (
  clear g6;refine⟨trivial,?_⟩;refine(eR.2 (Ve a2.o.cx a5 (l4.o a (bR (x.DV a5).2.2)))).mono ?_;rintro e' w4 ⟨rfl,E4,r4,a3,Z,e7,a7⟩;have a8:=hY (a2.o.J8 Z a3 e7 a7);have I:=hY (show Step x y x.open_ y []from by
   first
   |exact .openX a5 d5.o (.inl d7)
   |exact .openX a5 d5.o (.inr (.inl (by rw[<-i9.o,<-g8.o];exact f9.o)))
   |exact .openX a5 d5.o (.inr (.inr ⟨by rw[<-i9.o,<-g8.o];exact f9.o,by rw[<-j0.o,<-g7.o];exact f2.o,e3,by first |(rw[y.JV b6];omega) |(rw[y.J0 a6,<-k7.o,<-k4.o];exact HG.o)⟩)))
  have b0:=hY (show Cg x0 y0 x.open_ y (pre.map CE.c)by have:=a1.o.step I.o;rwa[aY]at this);clear a3 Z e7 a7;clear p0 p1 p2 p3 lp;gi_wp2_with fail;gi_roundg (x.open_.wt+y.wt)
  case rel=>exact⟨x.open_,y,_,_,_,_,_,_,_,_,rfl,a8.o,b0.o⟩
  exact I.o.wt)
 any_goals (
  clear g0;refine⟨trivial,?_⟩;refine(eR.2 (Ve a2.o.cy a6 (l7.o b (bR (y.DV a6).2.2)))).mono ?_;rintro e' w4 ⟨rfl,E4,r4,a3,Z,e7,a7⟩;have a8:=hY (a2.o.Jn Z a3 e7 a7);have I:=hY (show Step x y x y.open_ []from by
   first
   |exact .openY a6 d5.o (.inl d3)
   |exact .openY a6 d5.o (.inr (.inl (by rw[<-j0.o,<-g7.o];exact f2.o)))
   |exact .openY a6 d5.o (.inr (.inr ⟨by rw[<-i9.o,<-g8.o];exact f9.o,by rw[<-j0.o,<-g7.o];exact f2.o,e2,by first |(rw[x.JV b4];omega) |(rw[x.J0 a5,<-k7.o,<-k4.o];exact HG.o)⟩)))
  have b0:=hY (show Cg x0 y0 x y.open_ (pre.map CE.c)by have:=a1.o.step I.o;rwa[aY]at this);clear a3 Z e7 a7;clear p0 p1 p2 p3 lp;gi_wp2_with fail;gi_roundg (x.wt+y.open_.wt)
  case rel=>exact⟨x,y.open_,_,_,_,_,_,_,_,_,rfl,a8.o,b0.o⟩
  exact I.o.wt)
 any_goals (
  clear mG;refine⟨trivial,?_⟩;refine(eR.2 (J' a2.o.cx b4)).mono ?_;rintro e' w4 ⟨sl,so,rfl,a3,Z,a7,d8⟩;have I:=hY (show Step x y x.take y [Em e]from by
   first
   |exact .gone b4 (.inl d7)
   |exact .gone b4 (.inr ⟨e3,by rw[<-k0.o,<-g8.o];exact f9.o⟩))
  obtain⟨b3,f3⟩:=Yb (a2.o.J8 (Z.mono λi _ hi=>.inl hi) a3 (λb hb=>.inl hb) (λb hb=>.inl hb)) (YJ a7 d8);clear a3 Z a7 d8 p0 p1 p2 p3 lp;gi_wp2_with fail;refine⟨trivial,?_⟩;refine(eR.2 (pV w4 e sl so)).mono ?_;rintro e' w5 ⟨rfl,d9⟩;have a0:=hY (b3.o.ext d9);have f6:=hY ((f3.o.agree (d9.agree λb hb=>(b3.o.GH b hb).2.1)).mono (a0.o.GH));clear d9;obtain⟨fn,i0,assign,body,hy,hR⟩:=a0.o.yields HT.o (c7.o.trans (G3 (m:=[]) a1.o c6.o b7.o I.o)) f6.o;have HR:=hY hR;clear hR;dsimp only[GM]at hy;gi_wp2_with fail;refine HR.o.mono ?_;rintro e' w6 (⟨rfl,C6,b8,N,a4⟩ |⟨rfl,d4,N⟩)
  ·have a8:=hY (a0.o.told b8 (HT.o.lt _ _ _ _ b8) N a4)
   have b0:=hY (show Cg x0 y0 x.take y ((pre++[I3 e sl so]).map CE.c)by rw[aB];exact a1.o.step I.o);clear b8 N a4 hy;gi_wp2_with fail;gi_roundg (x.take.wt+y.wt)
   case rel=>exact⟨x.take,y,_,_,_,_,_,_,_,_,rfl,a8.o,b0.o⟩
   exact I.o.wt
  have b9:=hY (show Fj F F' lo X Y x0 y0 all C J Jx W00 (.returned (.tuple #[])) w6 from⟨rfl,.inr ⟨_,_,d4,λb hb=>(a0.o.Il hb).1,by rw[c7.o,G3 (m:=[]) a1.o c6.o b7.o I.o,aB];exact OQ,a0.o.st.then N λi hi hk=>(a0.o.sub i hk).elim id λh=>by have:=a0.o.base;omega⟩⟩);clear d4 N hy;gi_wp2_with fail;go_end0;exact b9.o)
 any_goals (
  clear mC;refine⟨trivial,?_⟩;refine(eR.2 (J' a2.o.cy b6)).mono ?_;rintro e' w4 ⟨sl,so,rfl,a3,Z,a7,d8⟩;have I:=hY (show Step x y x y.take [FL f]from by
   first
   |exact .come b6 (.inl d3)
   |exact .come b6 (.inr ⟨e2,by rw[<-k1.o,<-g7.o];exact f2.o⟩))
  obtain⟨b3,f3⟩:=Yb (a2.o.Jn (Z.mono λi _ hi=>.inl hi) a3 (λb hb=>.inl hb) (λb hb=>.inl hb)) (pt a7 d8);clear a3 Z a7 d8 p0 p1 p2 p3 lp;gi_wp2_with fail;refine⟨trivial,?_⟩;refine(eR.2 (Zk w4 f sl so)).mono ?_;rintro e' w5 ⟨rfl,d9⟩;have a0:=hY (b3.o.ext d9);have f6:=hY ((f3.o.agree (d9.agree λb hb=>(b3.o.Io b hb).2.1)).mono (a0.o.Io));clear d9;obtain⟨fn,i0,assign,body,hy,hR⟩:=a0.o.yields HT.o (c7.o.trans (G3 (m:=[]) a1.o c6.o b7.o I.o)) f6.o;have HR:=hY hR;clear hR;dsimp only[GM]at hy;gi_wp2_with fail;refine HR.o.mono ?_;rintro e' w6 (⟨rfl,C6,b8,N,a4⟩ |⟨rfl,d4,N⟩)
  ·have a8:=hY (a0.o.told b8 (HT.o.lt _ _ _ _ b8) N a4)
   have b0:=hY (show Cg x0 y0 x y.take ((pre++[Ig f sl so]).map CE.c)by rw[aB];exact a1.o.step I.o);clear b8 N a4 hy;gi_wp2_with fail;gi_roundg (x.wt+y.take.wt)
   case rel=>exact⟨x,y.take,_,_,_,_,_,_,_,_,rfl,a8.o,b0.o⟩
   exact I.o.wt
  have b9:=hY (show Fj F F' lo X Y x0 y0 all C J Jx W00 (.returned (.tuple #[])) w6 from⟨rfl,.inr ⟨_,_,d4,λb hb=>(a0.o.Il hb).1,by rw[c7.o,G3 (m:=[]) a1.o c6.o b7.o I.o,aB];exact OQ,a0.o.st.then N λi hi hk=>(a0.o.sub i hk).elim id λh=>by have:=a0.o.base;omega⟩⟩);clear d4 N hy;gi_wp2_with fail;go_end0;exact b9.o)
 any_goals (
  clear mB;have k5:e.1=f.1:=E6 (by rw[<-k0.o,<-l9.o];exact f9.o) (by rw[<-k1.o,<-l1.o];exact f2.o);have k9:=hY k5;clear k5;refine⟨trivial,?_⟩;refine(eR.2 (J' a2.o.cx b4)).mono ?_;rintro e' w4 ⟨sl,so,rfl,a3,Z,a7,d8⟩;obtain⟨b3,j9,k8⟩:=Yc (a2.o.J8 (Z.mono λi _ hi=>.inl hi) a3 (λb hb=>.inl hb) (λb hb=>.inl hb)) a7 d8;clear a3 Z a7 d8 p0 p1 p2 p3 lp;gi_wp2_with fail;refine⟨trivial,?_⟩;refine(eR.2 (J' b3.o.cy b6)).mono ?_;rintro e' w5 ⟨sl',so',rfl,f4,d0,j7,o1⟩;have i1:=j9.o.agree (d0.agree.mono λb hb=>⟨(b3.o.GH b hb).2.1,λe=>(b3.o.GH b hb).2.2 (.inl (.inr (.inl e)))⟩);obtain⟨c9,g9,f7,I⟩:=Ye (b3.o.Jn (d0.mono λi _ hi=>.inl hi) f4 (λb hb=>.inl hb) (λb hb=>.inl hb)) i1 j7 (show Step x y x.take y.take (E8 e f)from .both b4 b6 k9.o);clear f4 d0 j7 o1 i1;gi_wp2_with fail;refine⟨trivial,?_⟩;refine(eR.2 (kA (e:=e) (f:=f) (g9.o.mono λb hb=>(c9.o.GH b hb).2.1) (f7.o.mono λb hb=>(c9.o.Io b hb).2.1))).mono ?_;rintro e' w7 ⟨rfl,g4⟩;by_cases hc:AW e.2 f.2=0
  ·rw [eN hc,eM (by simp [hc])]
   have e0:=g4.alloc #[.string ByteArray.empty,.bool false,.int .i64 0,.bool false,.int .i64 0,.string ByteArray.empty,.slice none 0 0,.slice none 0 0,.bool false,.int .i64 0,.bool false,.int .i64 0,.string ByteArray.empty,.slice none 0 0,.slice none 0 0] 79;obtain⟨a8,b0⟩:=Yb (c9.o.ext e0) (show Cg x0 y0 x.take y.take (pre.map CE.c)by have:=a1.o.step I.o;rwa[E8,eN hc,aY]at this);rw[show SY.agg=.agg #[ByteArray.empty,false,.int .i64 0,false,.int .i64 0,ByteArray.empty,.slice none 0 0,.slice none 0 0,false,.int .i64 0,false,.int .i64 0,ByteArray.empty,.slice none 0 0,.slice none 0 0]from rfl];clear g4 e0 hc;gi_wp2_with fail;refine⟨λ_ h=>absurd h oO,?_⟩;gi_wp2_with fail;gi_roundg (x.take.wt+y.take.wt)
   case rel=>exact⟨x.take,y.take,_,_,_,_,_,_,_,_,rfl,a8.o,b0.o⟩
   exact I.o.wt
  rw[eL hc,eO hc];have e0:=g4.alloc #[.string e.1,.bool true,.int .i64 e.2.kind,.bool e.2.b,.int .i64 e.2.i,.string e.2.t,.slice sl.a e.2.l.length sl.c,.slice so.a e.2.ok.length so.c,.bool true,.int .i64 f.2.kind,.bool f.2.b,.int .i64 f.2.i,.string f.2.t,.slice sl'.a f.2.l.length sl'.c,.slice so'.a f.2.ok.length so'.c] 79;obtain⟨a0,i6⟩:=Yb (c9.o.ext e0) (show Step x y x.take y.take [⟨e.1,true,e.2,true,f.2⟩]by have:=I.o;rwa[E8,eL hc]at this);have f6:=hY (show CR _ (λb=>lo<=b/\b<_/\¬(Own X Y rx ry b\/C' b)) (Ia e f sl so sl' so')from⟨(g9.o.agree (e0.agree λb hb=>(c9.o.GH b hb).2.1)).mono a0.o.GH,(f7.o.agree (e0.agree λb hb=>(c9.o.Io b hb).2.1)).mono a0.o.Io,k8.o⟩);clear I;have I:=i6;rw[show(Ia e f sl so sl' so').agg=.agg #[e.1,true,e.2.kind,e.2.b,e.2.i,e.2.t,.slice sl.a e.2.l.length sl.c,.slice so.a e.2.ok.length so.c,true,f.2.kind,f.2.b,f.2.i,f.2.t,.slice sl'.a f.2.l.length sl'.c,.slice so'.a f.2.ok.length so'.c]from rfl];clear g4 e0 hc i6;obtain⟨fn,i0,assign,body,hy,hR⟩:=a0.o.yields HT.o (c7.o.trans (G3 (m:=[]) a1.o c6.o b7.o I.o)) f6.o;have HR:=hY hR;clear hR;dsimp only[GM,Ia,CE.agg,CE.cells]at hy;gi_wp2_with fail;refine HR.o.mono ?_;rintro e' w6 (⟨rfl,C6,b8,N,a4⟩ |⟨rfl,d4,N⟩)
  ·have a8:=hY (a0.o.told b8 (HT.o.lt _ _ _ _ b8) N a4)
   have b0:=hY (show Cg x0 y0 x.take y.take ((pre++[Ia e f sl so sl' so']).map CE.c)by rw[aB];exact a1.o.step I.o);clear b8 N a4 hy;gi_wp2_with fail;gi_roundg (x.take.wt+y.take.wt)
   case rel=>exact⟨x.take,y.take,_,_,_,_,_,_,_,_,rfl,a8.o,b0.o⟩
   exact I.o.wt
  have b9:=hY (show Fj F F' lo X Y x0 y0 all C J Jx W00 (.returned (.tuple #[])) w6 from⟨rfl,.inr ⟨_,_,d4,λb hb=>(a0.o.Il hb).1,by rw[c7.o,G3 (m:=[]) a1.o c6.o b7.o I.o,aB];exact OQ,a0.o.st.then N λi hi hk=>(a0.o.sub i hk).elim id λh=>by have:=a0.o.base;omega⟩⟩);clear d4 N hy;gi_wp2_with fail;go_end0;exact b9.o)
end Go.Proofs.YtahhllcdbjbpbaaGreatDoor
namespace Go.Proofs.YtahhllcdbjbpbaaGreatDoor
open Go.Proofs.Tryz
open Go.RowKit Go.Shelf
def O9{h:Nat}:∀l:List (PT h),(∀k∈l,Bz h k+1<=2*(ents h k).length)->(l.map (Bz h)).sum+l.length<=2*(l.flatMap (ents h)).length
 |[],_=>oO
 | k :: l,hk=>by
   have h1:=hk k aD;have h2:=O9 l λx I=>hk x (aI _ I)
   simp only[List.map_cons,List.sum_cons,List.length_cons,List.flatMap_cons,List.length_append];omega
def Tq:∀(h:Nat) (t:PT h),Aj h t->1<=size h t->Bz h t+1<=2*(ents h t).length
 | 0,t,ok,hs=>by
   have h1:1<=t.2.length:=hs;have e:Bz 0 t=1:=rfl;show Bz 0 t+1<=2*t.2.length;omega
 | h+1,t,ok,hs=>by
   have h1:=O9 t.2 λk I=>Tq h k (ok.2.2 k I).1 (an oN (ok.2.2 k I).2)
   have h2:=ok.1;have e:Bz (h+1) t=1+(t.2.map (Bz h)).sum:=rfl;show Bz (h+1) t+1<=2*(t.2.flatMap (ents h)).length;omega
variable{T:RT}
def Tn(ok:Am T):Mf T<=2*(AG T).length:=by
 cases T with
 |none=>exact aw _
 | some a=>
   have:=Tq a.1 a.2 ok.1 ok.2.1;show CF [a]<=2*(ents a.1 a.2).length;simp only[CF,List.map_cons,List.map_nil,List.sum_cons,List.sum_nil];omega
variable{P:Program}
def Y6(w:AB){t:TypeId}{ps rs:Array TypeId}{b:Bool}(f:Fn)(I lb:Array Value)(N:P.underlying t=some (.func ps rs b)) :
  (binOp .neq t (.func f I lb) .nilFunc).run P w=.ok (.bool true) w:=by
 have h:∀d:Nat,(Op.equalIn (d+1) t (.func f I lb) .nilFunc).run P w=.ok false w:=λd=>by
  simp[Op.equalIn,run_underlying N]
 simp only[binOp];simp[Op.equal,Op.maxDepth,h 9999]
variable{F F':Nat->Prop}{w':AB}
def Fj.st{lo X Y:Nat}{Z N:AI}{all:List Bv}{C:Nat->Prop}{J:List CE->(Nat->Prop)->(Nat->Prop)->AB->Prop}{Jx:List CE->(Nat->Prop)->AB->Prop}{W00:AB}{e:AC}(h:Fj F F' lo X Y Z N all C J Jx W00 e w'):St C W00 w':=by
 rcases h.2 with⟨_,_,_,_,_,_,_,_,_,_,I,-⟩ |⟨_,_,-,-,-,I⟩
 .exact I.st
 exact I
def Xo(F F':Nat->Prop)(B:Nat)(b:Nat):Prop:=F b\/F' b\/b=B\/b=B+1
variable{w0:AB}{U:RT}{B:Nat}
def nU(hT:AV w0 F T)(hU:AV w0 F' U)(hF:∀b,F b->b<w0.heap.size)(d9:∀b,F' b->b<w0.heap.size)(ok:Am T)(a8:Am U)(hl:(AG T).length<=500000)(e7:(AG U).length<=500000)
  (I:AE w0 B 36 #[Aa T]) (b4:AE w0 (B+1) 36 #[Aa U]) :
  VJ prog 73 #[.pointer (some B),.pointer (some ⟨B+1,0,none⟩)] GM (Xo F F' B) (λlo=>OY (chg (AG T) (AG U)) lo) (λxs=>xs.map CE.c=chg (AG T) (AG U)) (λpre=>pre.map CE.c <+: chg (AG T) (AG U)) w0:=by
 intro l J Jx C W b7 hA a9 a4 hJ;have e3:=I.lt;have d7:=b4.lt;have b5:AE W B 36 #[Aa T]:=I.agree hA (.inr (.inr (.inl rfl)));have a3:AE W (B+1) 36 #[Aa U]:=b4.agree hA (.inr (.inr (.inr rfl)));have e1:AV W F T:=hT.agree (hA.mono λb I=>.inl I);have b9:AV W F' U:=hU.agree (hA.mono λb I=>.inr (.inl I));have a7:∀b,F b->b<W.heap.size:=λb I=>ab (hF b I) a9
 have Z:∀b,F' b->b<W.heap.size:=λb I=>ab (d9 b I) a9
 have a1:∀W',Ext W W'->Calls prog 75 #[AO T] W' (LL F W.heap.size T W'):=λW' hW=>UF (e1.agree (hW.agree a7)) a7 hW.size (an (Tn ok) oM)
 have a2:∀W',Ext W W'->Calls prog 75 #[AO U] W' (LL F' W.heap.size U W'):=λW' hW=>UF (b9.agree (hW.agree Z)) Z hW.size (an (Tn a8) oM)
 obtain⟨p,hp⟩:=BM T;obtain⟨q,hq⟩:=BM U;rw[hp]at b5;rw[hq]at a3;rw[AO,hp]at a1;rw[AO,hq]at a2;have a6:=b7.lt [] C _ W hJ;have c7:∀(w1 w2:AB) (X Y:Nat) (rx ry:Option Nat),Ext W w1->Ext w1 w2->Ak F (λ_=>False) W.heap.size X rx (E9 T) w1->W.heap.size<=X->(∀b,rx=some b->W.heap.size<=b)->Ak F' (λ_=>False) W.heap.size Y ry (E9 U) w2->w1.heap.size<=Y->(∀b,ry=some b->w1.heap.size<=b)->
   WalkM F F' W.heap.size X Y C J W (E9 T) (E9 U) rx ry (λ_=>False) (λ_=>False) [] C (λ_=>False) W w2:=λw1 w2 X Y rx ry h1 h2 hx hX a0 hy d6 N=>by
  have f6:=h1.size;have b3:=hx.lt;have e0:=hx.rlt;have f3:∀b,(b=Y\/ry=some b)->w1.heap.size<=b:=λb I=>I.elim (λe=>oM) (N b)
  refine⟨hJ,(h1.trans h2).st _,hx.ext h2,hy,λb I=>?_,λb I=>I.elim,λb I hh=>?_,λb I hh=>?_,λb I=>⟨λhh=>?_,λhh=>?_⟩,a6,(h1.trans h2).st _,λb I=>.inl I,rfl⟩
  ·rcases I with rfl | rfl | I | I
   .exact .inr hX
   .exact .inr oM
   .exact .inr (a0 b I)
   exact .inr (an f6 (N b I))
  ·have f2:W.heap.size≤b:=I.elim (fun e=>oM) (a0 b)
   have g0:b<w1:=I.elim (λe=>oM) (λe=>(e0 b e).2);rcases hh with h|h|h|h
   .have:=Z b h;omega
   .exact h
   .omega
   have:=N b h;omega
  ·have f2:=f3 b I
   rcases hh with h|h|h|h
   .have:=a7 b h;omega
   .exact h
   .omega
   have:=(e0 b h).2;omega
  ·have hl:=a6 b I
   rcases hh with h|h|h|h
   .exact a4 b I (.inl h)
   .exact h
   .omega
   have:=a0 b h;omega
  have hl:=a6 b I;rcases hh with h|h|h|h
  .exact a4 b I (.inr (.inl h))
  .exact h
  .omega
  have:=N b h;omega
 have d3:=λ(w1 w2:AB) (X Y:Nat) (rx ry:Option Nat) a b c d e f g h=>il (all:=chg (AG T) (AG U)) b7 (c7 w1 w2 X Y rx ry a b c d e f g h) (LB ok) (LB a8) (by rw[JZ,JZ])
 have b0:=hY (show ∀W1,St C W W1->W1.cell? B=some (.pointer p)/\W1.cell? ⟨B+1,0,none⟩=some (.pointer q) fromλW1 hW=>
  ⟨(hW.blk b5 λh=>a4 _ h (.inr (.inr (.inl rfl)))).cell 0,(hW.blk a3 λh=>a4 _ h (.inr (.inr (.inr rfl)))).cell 0⟩)
 obtain⟨f4,e6,f0,e8,c6⟩:=Yf d3 a1 a2 (LB ok) (LB a8);have f8:=Y6 (P:=prog) W (t:=133) (.yield l) #[] #[] underlying133;clear b7 hA a9 a4 hJ hT hU hF d9 ok a8 hl e7 I b4 e3 d7 b5 a3 e1 b9 a7 Z a1 a2 hp hq a6 c7 d3;show Calls _ _ #[.func (.yield l) #[] #[],.pointer (some B),.pointer (some ⟨B+1,0,none⟩)] W _;go_in;go_wp2_with fail;refine eV (S:=(λw'=>St C W w')) kM (((gH C W).drew)) (λhHeld=>?_);refine AF 0 (some 6) b0 hHeld ?_;refine AF 2 (some 8) b0 hHeld ?_;refine AF 4 (some 10) b0 hHeld ?_;refine Af (i:=1) kM rfl (by rfl) (λK hK=>?_);go_simp
 (refine(e6.o _ ((gz W).drew)).mono ?_;rintro e w1 ⟨X,rx,rfl,b3,c8,hX,a0⟩;have a5:=hY (((gz W).drew).trans b3);have f5:=hY c8;have f1:=hY a0;clear c8 b3 a0)
 refine hK.out _ _ (a5.o.st C) (λhHeld=>?_);clear hK K
 try go_frame
 refine Af (i:=3) kM rfl (by rfl) (λK hK=>?_);go_simp
 (refine(f0.o _ a5.o).mono ?_;rintro e w2 ⟨Y,ry,rfl,b8,d0,d6,N⟩;have c9:=hY b8;have f7:=hY d0;have e4:=hY N;clear d0 b8 N)
 refine hK.out _ _ ((a5.o.trans c9.o).st C) (λhHeld=>?_);clear hK K
 try go_frame
 refine Af (i:=5) kM rfl (by rfl) (λK hK=>?_);go_simp
 (refine(f4.o w1 w2 X Y rx ry a5.o c9.o f5.o (by have:=((gz W).drew).size;omega) (λb I=>by have:=f1.o b I;have:=((gz W).drew).size;omega) f7.o d6 e4.o).mono ?_;rintro e w3 ⟨rfl,b6⟩;have e2:=hY b6;have d8:St C W w3:=(Fj.st ⟨rfl,b6⟩);clear b6)
 refine hK.out _ _ (d8) (λhHeld=>?_);clear hK K
 try go_frame
 refine fa kM ?_ _;go_wp2_with fail;go_end0;refine⟨⟨_,rfl⟩,?_⟩;rcases e2.o with⟨x,y,f9,g3,Ex,Ey,pre,C',D,Wj,hm,d4,gx,gy⟩ |⟨pre,D,hj,hD,d5,-⟩
 ·refine .inl ⟨pre,C',D,Wj,?_,hm.j,hm.jst,hm.low⟩
  have:=d4.done e8.o c6.o gx gy;rw[JZ,JZ]at this;exact this.symm
 exact .inr ⟨pre,D,_,d5,hj,gH _ _,hD⟩
def MC(T U:RT)(w:AB)(e:AC)(w':AB):Prop:=
 e=.returned (.func (.func 73) #[] #[.pointer (some ⟨w.heap.size,0,none⟩),.pointer (some ⟨w.heap.size+1,0,none⟩)])/\Ext w w'/\AE w' w.heap.size 36 #[Aa T]/\AE w' (w.heap.size+1) 36 #[Aa U]
def jh(w:AB)(T U:RT):Calls prog 42 #[AO T,AO U] w (MC T U w):=by
 obtain⟨p,hp⟩:=BM T;obtain⟨q,hq⟩:=BM U;unfold MC;rw[AO,AO,hp,hq];go_in;go_wp2_with fail;generalize Z:World.alloc (World.alloc _ _) _=W0;obtain⟨I,a1,a0,N⟩:=CH w _ _ _ _ W0 Z;go_ret;exact⟨rfl,I,a0,N⟩
attribute [local go_sem] Oper.semAt_some
def Tryz.PY:(prog.info? 79).map (λi=>(i.zero,i.size,i.bytes))=some (some (.agg #[ByteArray.empty,false,.int .i64 0,false,.int .i64 0,ByteArray.empty,.slice none 0 0,.slice none 0 0,false,.int .i64 0,false,.int .i64 0,ByteArray.empty,.slice none 0 0,.slice none 0 0]),15,208):=kM
def Cp(xs:List CE):List Value:=xs.flatMap λx=>x.cells.toList
def kr(xs:List CE):(Cp xs).length=xs.length*15:=by
 induction xs with
 |nil=>rfl
 |cons x xs ih=>simp only[Cp,List.flatMap_cons,List.length_append,List.length_cons]at *;rw[ih];simp;omega
def MK(xs:List CE)(x:CE):Cp (xs++[x])=Cp xs++x.cells.toList:=by simp[Cp]
def L8(x:CE):∀u∈x.cells.toList,u.oneCell'=true:=by
 intro u hu;simp only[List.mem_cons,List.not_mem_nil,or_false]at hu;rcases hu with rfl|rfl|rfl|rfl|rfl|rfl|rfl|rfl|rfl|rfl|rfl|rfl|rfl|rfl|rfl<;>rfl
structure CS(w:AB)(F:Nat->Prop)(s:Sl)(xs:List CE):Prop where
 rd:Rd w F 15 s xs.length (Cp xs)
 vals:∀x∈xs,CR w F x
 few:xs.length*208<=140737488355328
structure E1(w:AB)(L:Nat)(xs:List CE)(C D:Nat->Prop)(W:AB):Prop where
 ex:∃s:Sl,(C=λb=>b=L\/s.row=some b)/\AE W L 39 #[.slice s.a xs.length s.c]/\W.ownsRow (w.heap.size+2) 79 15 (.slice s.a xs.length s.c) xs.length (Cp xs)
 vals:∀x∈xs,CR W (λb=>w.heap.size+2<=b/\b<W.heap.size/\¬D b/\¬C b) x
 st:St (λb=>b=L) w W
 sz:w.heap.size+2<=W.heap.size
 dis:∀b,C b->¬D b
 dlo:∀b,D b->w.heap.size+2<=b
variable{w W:AB}{L:Nat}
def E1.start(N:AE w L 39 #[.slice none 0 0])(I:Ext w W)(Z:w.heap.size+2<=W.heap.size):E1 w L [] (λb=>b=L) (λ_=>False) W:=
 ⟨⟨Sl.none,by funext b;simp[Sl.row],N.ext I,e9 _ _ _ _⟩,λx I=>(by cases I),I.st _,Z,λ_ _ h=>h,λ_ h=>h.elim⟩
variable{W':AB}
def E1.turn{xs:List CE}{C D:Nat->Prop}(h:E1 w L xs C D W)(hL:L<w.heap.size)(k:St (λb=>b=w.heap.size+1) W W'):E1 w L xs C D W':=by
 obtain⟨⟨s,h1,h2,N⟩,hv,h5,Z,h7,h8⟩:=h;exact⟨⟨s,h1,k.blk h2 oM,AZ N k.agree λb I=>⟨(AM N I).2,by have:=(AM N I).1;omega⟩⟩,λx hx=>((hv x hx).agree (k.agree.mono λb I=>⟨I.2.1,by have:=I.1;omega⟩)).mono λb I=>⟨I.1,ab I.2.1 k.size,I.2.2⟩,h5.then k (λi hi e=>oM),an Z k.size,h7,h8⟩
variable{s s3:Sl}
def Wl{w W0 W3 W4 w5:AB}{xs:List CE}{x:CE}{D D1:Nat->Prop}(hL:L<w.heap.size)(h0:E1 w L xs (λb=>b=L\/s.row=some b) D W0)(a9:AE W0 L 39 #[.slice s.a xs.length s.c])(ho:W0.ownsRow (w.heap.size+2) 79 15 (.slice s.a xs.length s.c) xs.length (Cp xs))
  (a2:St (λb=>D b\/b=w.heap.size+1) W0 W3) (b5:∀b,D1 b->D b\/W0.heap.size<=b) (a4:∀b,D1 b->w.heap.size+2<=b/\b<W3.heap.size) (b3:∀b,(b=L\/s.row=some b)->¬D1 b)
  (hx:CR W3 (λb=>w+2<=b/\b<W3/\¬(D1 b\/((b=L\/s.row=some b)\/b=w.heap.size+1))) x)
  (a7:Ext W3 W4) (a6:w5.ownsRow (w.heap.size+2) 79 15 (.slice s3.a (xs.length+1) s3.c) (xs.length+1) (Cp xs++x.cells.toList)) (b0:Wr W4 w5 s.row) (b7:s3.a=s.a\/s3.a=some ⟨W4,0,none⟩/\Wr W4 w5 none) :
  E1 w L (xs++[x]) (λb=>b=L\/s3.row=some b) D1 (w5.setCell L (.slice s3.a (xs.length+1) s3.c))/\St (λb=>b=L\/s.row=some b) W3 (w5.setCell L (.slice s3.a (xs.length+1) s3.c))/\
   (∀b,(b=L\/s3.row=some b)->(b=L\/s.row=some b)\/W3.heap.size<=b)/\(∀b,(b=L\/s3.row=some b)->b<(w5.setCell L (.slice s3.a (xs.length+1) s3.c)).heap.size):=by
 have Z:∀b,s.row=some b->w.heap.size+2<=b/\b<W0.heap.size:=λb I=>AM ho I
 have b8:=a2.size;have c6:=a7.size;have b9:=b0.grown.size;have c7:=h0.sz;have a3:∀b,s3.row=some b->s.row=some b\/W4.heap.size<=b:=by
  intro b I;rcases b7 with h |⟨h,-⟩
  .exact .inl (by rw[<-I];simp[Sl.row,h])
  right;rw[Sl.row,h]at I;simp at I;omega
 have a5:St (λb=>b=L) w5 (w5.setCell L (.slice s3.a (xs.length+1) s3.c)):=(gH (λb=>b=L) w5).set (p:=⟨L,0,none⟩) (.inr rfl) _;have a0:St (λb=>s.row=some b) W4 w5:=b0.st λi hi=>hi
 have N:St (λb=>b=L\/s.row=some b) W3 (w5.setCell L (.slice s3.a (xs.length+1) s3.c)):=((a7.st _).trans (a0.mono λi _ hi=>.inr hi)).trans (a5.mono λi _ hi=>.inl hi);have b4:¬(D L\/L=w.heap.size+1):=λh=>h.elim (h0.dis L (.inl rfl)) oM
 have b6:AE w5 L 39 #[.slice s.a xs.length s.c]:=a0.blk ((a2.blk a9 b4).ext a7) (λe=>by have:=(Z L e).1;omega);have a1:∀b,s3.row=some b->b<w5.heap.size:=λb I=>(AM a6 I).2
 refine⟨⟨⟨s3,rfl,by rw[aj,bg];exact b6.AX 0 _,?_⟩,λy hy=>?_,?_,?_,λb I hD=>?_,λb I=>(a4 b I).1⟩,N,λb I=>?_,λb I=>?_⟩
 ·rw [aj,bg,MK]
  exact AZ a6 a5.agree λb I=>⟨a1 b I,λe=>by
   rcases a3 b I with h|h
   .have:=(Z b h).1;omega
   omega⟩
 ·have a8:∀ (F:Nat→Prop) (y:CE),CR W3 F y→(∀ b,F b→w.heap.size+2≤b∧b<W3.heap.size∧¬D1 b∧¬(b=L∨s.row=some b))→CR (w5.setCell L (.slice s3.a (xs.length+1) s3.c)) (fun b=>w.heap.size+2≤b∧b<(w5.setCell L (.slice s3.a (xs.length+1) s3.c)).heap.size∧¬D1 b∧¬(b=L∨s3.row=some b)) y:=fun F y hy hF=>
   (hy.agree (N.agree.mono λb I=>⟨(hF b I).2.1,(hF b I).2.2.2⟩)).mono λb I=>⟨(hF b I).1,ab (hF b I).2.1 N.size,(hF b I).2.2.1,λe=>by
     rcases e with e|e
     .exact (hF b I).2.2.2 (.inl e)
     rcases a3 b e with e|e
     .exact (hF b I).2.2.2 (.inr e)
     have:=(hF b I).2.1;omega⟩
  rcases aL.1 hy with hy|hy
  ·refine a8 (fun b=>w.heap.size+2≤b∧b<W0.heap.size∧¬D b∧¬(b=L∨s.row=some b)) y ((h0.vals y hy).agree (a2.agree.mono fun b I=>⟨I.2.1,fun e=>e.elim I.2.2.1 (by have:=I.1;omega)⟩)) fun b I=>⟨I.1,oM,fun e=>?_,I.2.2.2⟩
   rcases b5 b e with e|e
   .exact I.2.2.1 e
   have:=I.2.1;omega
  obtain rfl:=aV.1 hy;exact a8 _ y hx λb I=>⟨I.1,I.2.1,λe=>I.2.2 (.inl e),λe=>I.2.2 (.inr (.inl e))⟩
 ·refine (h0.st.then a2 (fun i hi e=>?_)).then N fun i hi e=>?_
  ·rcases e with e | e
   .have:=h0.dlo i e;omega
   omega
  rcases e with e|e
  .exact e
  have:=(Z i e).1;omega
 .rw [eX];omega
 ·have:=(a4 b hD).2
  rcases I with e|e
  .exact b3 b (.inl e) hD
  rcases a3 b e with e|e
  .exact b3 b (.inr e) hD
  omega
 ·rcases I with e | e
  .exact .inl (.inl e)
  exact(a3 b e).imp .inr (λh=>oM)
 rw[eX];rcases I with e|e
 .omega
 exact a1 b e
variable{g:Nat}
def AE.c15{t:TypeId}{v0 v1 v2 v3 v4 v5 v6 v7 v8 v9 I a0 N a1 Z:Value}(h:AE w g t #[v0,v1,v2,v3,v4,v5,v6,v7,v8,v9,I,a0,N,a1,Z]) :
  w.cell? g=some v0/\w.cell? ⟨g,1,none⟩=some v1/\w.cell? ⟨g,2,none⟩=some v2/\w.cell? ⟨g,3,none⟩=some v3/\w.cell? ⟨g,4,none⟩=some v4/\w.cell? ⟨g,5,none⟩=some v5/\w.cell? ⟨g,6,none⟩=some v6/\w.cell? ⟨g,7,none⟩=some v7/\w.cell? ⟨g,8,none⟩=some v8/\w.cell? ⟨g,9,none⟩=some v9/\w.cell? ⟨g,10,none⟩=some I/\w.cell? ⟨g,11,none⟩=some a0/\w.cell? ⟨g,12,none⟩=some N/\w.cell? ⟨g,13,none⟩=some a1/\w.cell? ⟨g,14,none⟩=some Z:=
 ⟨h.cell 0,h.cell 1,h.cell 2,h.cell 3,h.cell 4,h.cell 5,h.cell 6,h.cell 7,h.cell 8,h.cell 9,h.cell 10,h.cell 11,h.cell 12,h.cell 13,h.cell 14⟩
end Go.Proofs.YtahhllcdbjbpbaaGreatDoor
namespace Go.Proofs.YtahhllcdbjbpbaaGreatDoor
open Go.Proofs.Tryz
open Go.RowKit Go.Shelf
attribute [local go_sem] Oper.semAt_some
def N7(l:List Bv)(w:AB)(e:AC)(w':AB):Prop:=
 ∃(s:Sl) (xs:List CE),e=.returned (.slice s.a xs.length s.c)/\xs.map CE.c=l/\Ext w w'/\CS w' (In w.heap.size w'.heap.size) s xs
def JW:∀(a b:List AD),(chg a b).length<=a.length+b.length
 |[],b=>by rw[Mz];simp
 |e::a,[]=>by rw[Ii];simp
 | e :: a,f :: b=>by
   rw[chg];split
   .have:=JW a (f::b);simp only[List.length_cons]at *;omega
   split
   .have:=JW (e::a) b;simp only[List.length_cons]at *;omega
   have:=JW a b;rw[aj];have h1:(E8 e f).length<=1:=by unfold E8;split<;>simp
   simp only[List.length_cons];omega
termination_by a b=>a.length+b.length
variable{w:AB}{F F':Nat->Prop}{T U:RT}
def Vq(hT:AV w F T)(hU:AV w F' U)(hF:∀b,F b->b<w.heap.size)(d5:∀b,F' b->b<w.heap.size)(ok:Am T)(j2:Am U)(hl:(AG T).length<=500000)(g0:(AG U).length<=500000) :
  Calls prog 24 #[AO T,AO U] w (N7 (chg (AG T) (AG U)) w):=by
 obtain⟨i0,hi,j5,l4,j6⟩:=eZ Tryz.PY;obtain⟨p,hp⟩:=BM T;obtain⟨q,hq⟩:=BM U;have b9:=λW=>jh W T U
 have b8:=λ(W:AB) (hW:Ext w W) B (I:AE W B 36 #[Aa T]) (j8:AE W (B+1) 36 #[Aa U])=>nU (hT.agree (hW.agree hF)) (hU.agree (hW.agree d5)) (λb I=>ab (hF b I) hW.size) (λb I=>ab (d5 b I) hW.size) ok j2 hl g0 I j8
 obtain⟨al,f3⟩:∃al,chg (AG T) (AG U)=al:=⟨_,rfl⟩;have n8:al.length<=1000000:=by rw[<-f3];have:=JW (AG T) (AG U);omega
 rw[f3]at b8 ⊢;unfold MC at b9;rw[AO,AO,hp,hq]at b9;rw[AO,AO,hp,hq];rw[hp,hq]at b8;obtain⟨g8,f8,HF,j1⟩:=Ye b9 b8 hF d5;clear hT hU hF d5 ok j2 hl g0 b9 b8 hp hq f3;refine(eR (n:=6)).1 ?_;refine fN func24 rfl trivial ?_ rfl;simp only[ntmps24,zL,Nat.reduceAdd,Nat.reduceSub];gi_wp2_with fail;generalize g4:World.alloc (World.alloc (World.alloc _ _) _) _=W0;obtain⟨i7,i8,k5,j3,g3⟩:=Ch w _ _ _ _ _ _ W0 g4;obtain⟨i2,k4⟩:=Yb i7 g3;have n4:w.heap.size+3<=W0.heap.size:=oM
 clear g4 i7 k5 j3 g3 i8;refine⟨trivial,?_⟩;refine(eR.2 (g8.o W0)).mono ?_;rintro e w1 ⟨rfl,a8,f9,f6⟩;obtain⟨b6,HL,l0⟩:=Yc (i2.o.trans a8) (k4.o.ext a8) (f8.o w1 (i2.o.trans a8) W0.heap.size f9 f6);have p1:=a8.size;have o0:=f6.lt;have i5:w.heap.size+1+1<w1.heap.size:=HL.o.lt;clear a8 f9 f6 g8 f8;gi_wp2_with fail;refine Yk (gf:=73) (lb:=#[.pointer (some W0),.pointer (some ⟨W0+1,0,none⟩)]) rfl (fq func73 kM rfl) l0.o (Agree.refl _) (ao _)
  (λb I=>I.elim (λh=>by have:=HF.o b h;omega) (λh=>h.elim (λh=>by have:=j1.o b h;omega) (λh=>oM))) (λ_=>rfl)
  (λpre C D W=>E1 w1 (w.heap.size+1+1) pre C D W/\pre.length<=1000000) (λ_ _ _ _=>False) (λb=>b=w.heap.size+1+1)
  (λb I=>⟨oM,λh=>h.elim (λh=>by have:=HF.o b h;omega) (λh=>h.elim (λh=>by have:=j1.o b h;omega) (λh=>oM))⟩)
  (λh k=>⟨h.1.turn i5 k,h.2⟩) (λh k=>h) (λW hW hz=>⟨E1.start HL.o hW hz,oO⟩) ?round ?done ?stop
 case stop=>
  rintro D c pre Di d3 W hD o8 hX;exact hX.elim
 case round=>
  rintro pre C D D1 x d3 W1 ⟨⟨⟨s,rfl,a0,Z⟩,hv,b0,e6,a1,a4⟩,k7⟩ j9 o5 l6 d6 g9 e7 i9 hG;have n6:pre.length<1000000:=by
   have:=(ai.1 hG.at_).1;omega
  have g7:=gB W1 79 x.cells;have i1:Ext W1 (W1.alloc (.cells x.cells 79)):=(gz W1).alloc _ _;obtain⟨l2,j0,HI,d7,a9,d9,l7⟩:=Yh g7 i1 (show E1 w1 (w.heap.size+1+1) pre (λb=>b=w.heap.size+1+1\/s.row=some b) D d3 from⟨⟨s,rfl,a0,Z⟩,hv,b0,e6,a1,a4⟩) a0 Z d6 g9;obtain⟨e0,l9,HV⟩:=Yc e7 i9 hG.val;clear g7 i1 a0 Z hv b0 a1 a4 d6 g9 e7 i9 hG l6 j9;gi_wp2_with fail;refine⟨j0.o,λW3 k3=>?_⟩;have n2:=d9.o.size;have b4:St (λb=>b=w1.heap.size+1) W1 W3:=(j0.o.st _).trans k3;have a6:St (λb=>D b\/b=w1.heap.size+1) d3 W3:=(d9.o.mono λi _ hi=>.inl hi).trans (b4.mono λi _ hi=>.inr hi);have f0:=k3.blk l2.o oM;obtain⟨c0,c1,c2,c3,c4,c5,c6,c7,c8,c9,o9,p0,p2,o4,o1⟩:=f0.c15;have lv:=f0.lt;have N:∀b,s.row=some b->w1.heap.size+2<=b/\b<d3.heap.size:=λb I=>AM a9.o I
  have f2:∀b,(b=w.heap.size+1+1\/s.row=some b)->¬(D b\/b=w1.heap.size+1):=λb I e=>e.elim (HI.o.dis b I) (λe=>by
   rcases I with h|h
   .omega
   have:=(N b h).1;omega)
  have b7:=a6.blk d7.o (f2 _ (.inl rfl));have cL:W3.cell? ⟨w+1+1,0,none⟩=some (.slice s.a pre.length s.c):=b7.cell 0;have fL:=b7.frozen 0;have lL:=b7.lt;have a5:Ext W3 (W3.alloc (.cells x.cells 79)):=(gz W3).alloc _ _;have b3:=AZ (AZ a9.o a6.agree λb I=>⟨(N b I).2,f2 b (.inr I)⟩) (a5.agree λb (I:b<W3)=>I) (λb I=>by have:=(N b I).2;have:=a6.size;omega);have j4:pre.length+1<=maxLen:=by unfold maxLen;omega
  have l1:(pre.length+1)*208<=140737488355328:=oM
  have n7:=a6.size;have f7:w1.heap.size+2<=(W3.alloc (.cells x.cells 79)).heap.size:=by rw[eQ];omega
  have k6:=hY ((HV.o.agree (b4.agree.mono λb I=>⟨I.2.1,λe=>I.2.2 (.inr (.inr e))⟩)).mono (G:=λb=>w1+2<=b/\b<W3/\¬(D1 b\/((b=w.heap.size+1+1\/s.row=some b)\/b=w1.heap.size+1))) λb I=>⟨I.1,ab I.2.1 b4.size,I.2.2⟩);have g5:=b4.size;obtain⟨k9,e8,f4,l3⟩:=Ye a6 a5 b3 (gB W3 79 x.cells);have i6:s.row≠some (w.heap.size+1+1):=λe=>by have:=(N _ e).1;omega
  obtain⟨k1,i3⟩:=Yb ((a5.frozen (o:=0) lL).trans fL) (show ∀b,D1 b->w1.heap.size+2<=b/\b<W3.heap.size fromλb I=>⟨(e0.o b I).1,ab (e0.o b I).2 g5⟩);have n9:¬w.heap.size+1+1=W3.heap.size:=oM
  clear k3 a6 b4 f0 b7 a5 b3 f2 fL;gi_wp2_with(gi_at_builtin;refine MN _ rfl (.tmp 11) (.tmp 13) 39 rfl (w1.heap.size+2) 79 i0 _ 15 208 underlying39 hi j5 l4 j6 rfl oN s pre.length (Cp pre) rfl f4.o (λb=>b=W3.heap.size) ⟨some W3,1⟩ 1 x.cells.toList rfl (gG l3.o oN rfl) (L8 x) j4 l1 f7 ?_;intro s3 w5 a7 a3 d4;have h5:=a3.cell0 (o:=0) e8.o i6 lL;have o3:w5.cell? ⟨w+1+1,0,none⟩=some (.slice s.a pre.length s.c):=h5.1.trans cL;have o2:=h5.2;have o6:w5.frozen? ⟨w+1+1,0,none⟩=false:=(a3.fz _ _).trans (k1.out);have k8:=hY a7;have l8:=hY a3;have j7:=hY d4;clear a7 a3 d4 h5);obtain⟨e1,e2,e3,e4⟩:=Wl i5 HI.o d7.o a9.o k9.o l7.o i3.o l9.o k6.o e8.o k8.o l8.o j7.o;exact⟨_,⟨e1,by rw[aj,bg];omega⟩,e2,e3,e4⟩
 rintro D xs C Di W5 W hD hS ⟨⟨⟨s,rfl,a0,Z⟩,hv,b0,e6,a1,a4⟩,k7⟩ b5 i4 d0;have N:∀b,s.row=some b->w1.heap.size+2<=b/\b<W5.heap.size:=λb I=>AM Z I
 have k2:¬(Di (w.heap.size+1+1)\/w.heap.size+1+1=w1.heap.size+1):=λe=>e.elim (a1 _ (.inl rfl)) oM
 have f5:=b5.blk a0 k2;have cL:W.cell? ⟨w+1+1,0,none⟩=some (.slice s.a xs.length s.c):=f5.cell 0;have lL:=f5.lt;have o7:=(aA.1 d0).1;have f1:St (λb=>b=D) W (W.putObj D (.deferred none)):=St.put d0 rfl rfl;have d4:=b5.size;have l5:=f1.size;have a2:St (λb=>Di b\/b=w1.heap.size+1\/b=D) W5 (W.putObj D (.deferred none)):=(b5.mono (G:=λb=>Di b\/b=w1.heap.size+1\/b=D) λi _ hi=>hi.elim .inl λh=>.inr (.inl h)).trans (f1.mono λi _ hi=>.inr (.inr hi));have d8:N7 al w (.returned (.slice s.a xs.length s.c)) (W.putObj D (.deferred none)):=by
  refine⟨s,xs,rfl,hS,?_,?_,λx hx=>?_,oM⟩
  ·refine (b6.o.step b0 (fun b I=>oM)).step a2 fun b I=>?_
   have:=b6.o.size;rcases I with h|h|h
   .have:=i4 b h;omega
   .omega
   omega
  ·have ho:=AZ Z a2.agree fun b I=>⟨(N b I).2,fun e=>by
    rcases e with e|e|e
    .exact a1 b (.inr I) e
    .have:=(N b I).1;omega
    have:=(N b I).1;omega⟩
   exact(gF ho).mono λb I=>⟨by have:=I.1;have:=b6.o.size;omega,I.2⟩
  exact((hv x hx).agree (a2.agree.mono λb I=>⟨I.2.1,λe=>by
   rcases e with e|e|e
   .exact I.2.2.1 e
   .have:=I.1;omega
   have:=I.1;omega⟩)).mono λb I=>⟨by have:=I.1;have:=b6.o.size;omega,ab I.2.1 (an d4 l5)⟩
 obtain⟨g6,k0⟩:=Yb d8 d0;clear a0 Z hv b0 a1 a4 b5 i4 d0 f1 a2 d8 f5 hS;gi_wp2_with fail;refine⟨oO,.inl ⟨_,_,rfl,fM k0.o,?_⟩⟩;refine⟨.slice s.a xs.length s.c,?_,g6.o⟩;simp[results,Tryz.f24,go_sem]
end Go.Proofs.YtahhllcdbjbpbaaGreatDoor
namespace Go.Proofs.YtahhllcdbjbpbaaGreatDoor
open Go.Proofs.Tryz
open Go.RowKit Go.Maps Go.Shelf
variable{w w':AB}{F:Nat->Prop}{s:Sl}
def CS.LU{xs:List CE}(h:CS w F s xs)(I:Agree F w w'):CS w' F s xs:=⟨h.rd.agree I,λx N=>(h.vals x N).agree I,h.few⟩
variable{G:Nat->Prop}
def CS.Np{xs:List CE}(h:CS w F s xs)(I:∀i,F i->G i):CS w G s xs:=⟨h.rd.mono I,λx N=>(h.vals x N).mono I,h.few⟩
def MW(last:Int):∀l:List Nm,B7 (A8 (BH last l))<=B7 (A8 l)
 |[]=>ao _
 | x :: r=>by
   have I:=MW last r;unfold BH at I ⊢;rw[bC];split
   .simp only[A8,List.map_cons,B7]at I ⊢;omega
   simp only[A8,List.map_cons,B7]at I ⊢;omega
structure iv(w w':AB)(F':Nat->Prop)(T U:RT)(L:List Nm)(V:RT)(sL sC:Sl)(cs:List CE):Prop where
 nw:Nw w w'
 ok:Am V
 tree:AV w' (Up F' w w') V
 ents:AG V=(BA (A8 L) (AG U)).2
 okM:Ae (AG V)
 row:A7 w' (In w.heap.size w'.heap.size) sL L
 chg:cs.map CE.c=chg (AG T) (AG V)
 cs:CS w' (In w.heap.size w'.heap.size) sC cs
 same:(∀n∈L,(runM (AG U) n.m).2=AG U)->V=U
variable{F':Nat->Prop}{T U:RT}
def Uk{l:List Nm}{last:Int}(hT:AV w F T)(hF:∀b,F b->b<w.heap.size)(ok:Am T)(hl:(AG T).length<=5000)(h:C7 w F' G U s l) :
  Calls prog 10 #[AO T,AO U,.int .u64 last,.slice s.a l.length s.c] w λe w'=>∃V sL sC cs,e=.returned (.tuple #[AO V,.slice sL.a (BH last l).length sL.c,.slice sC.a cs.length sC.c])/\iv w w' F' T U (BH last l) V sL sC cs:=by
 obtain⟨p,hp⟩:=BM T;obtain⟨q,hq⟩:=BM U;have j1:=JC last l;have d4:=MW last l;have a6:=hY (λW (hW:Ext w W)=>Z9 (last:=last) (h.row.ext hW h.rowOld) λb I=>ab (h.rowOld b I) hW.size);obtain⟨L,hL⟩:∃L,BH last l=L:=⟨_,rfl⟩;rw[hL]at j1 d4 a6 ⊢;obtain⟨H,HT,HF,g8,HP,HQ,i5⟩:=Yh h hT hF ok hp hq hl;have g6:=hY d4;rw[AO,AO,hp,hq];clear h hT hF ok hp hq hL hl d4;go_in;go_upto_region 1 with fail;generalize e8:World.alloc _ _=W0;obtain⟨f7,f0,f4,d8,e6⟩:=Ch w _ _ _ _ _ _ W0 e8;obtain⟨a8,i9,i8,i4,j0⟩:=Yf f7 f4 d8 e6 f0;clear e8 f7 f4 d8 e6 f0;go_wp2_with fail;refine(a6.o W0 a8.o).mono ?_;rintro e w1 ⟨sL,rfl,b5,a7⟩;have q1:w1.cell? ⟨w+1,0,none⟩=some (.pointer q):=(i8.o.ext b5).cell 0;obtain⟨b3,g0⟩:=Yb b5 a7;have d0:=(gA a8.o).trans (gA b5);have d9:=hY d0;have e0:C7 w1 F' (In W0.heap.size w1.heap.size) U sL L:=by
  have h1:=H.o.ext d0;exact⟨h1.tree,h1.old,h1.ok,h1.okM,a7,λb I=>I.2,h1.lib,by have:=h1.few;omega,by have:=h1.tot;have:=g6.o;omega⟩
 have b9:=MR e0;rw[AO,HQ.o]at b9;have i2:=hY b9;clear b5 a7 d0 e0 b9;go_wp2_with fail;refine i2.o.mono ?_;rintro e w2 ⟨V,rfl,okV,hV,f5,g4,f9,a9⟩;obtain⟨r,hr⟩:=BM V;rw[AO,hr];obtain⟨f6,HV,f1,i1,d3,c6,HR⟩:=Yh okV hV f5 g4 f9 a9 hr;clear okV hV f5 g4 f9 a9 hr q1;go_upto_region 3 with fail;generalize e7:World.alloc _ _=w3;obtain⟨b6,f2,j4⟩:=D4 e7;have N:Nw W0 w3:=(gA b3.o).trans (d3.o.trans (gA b6));have z0:=j0.o;have j3:=N.size;have z2:=d3.o.size;have b8:=N.blk i9.o;have a1:=N.blk i4.o;have a3:=hY (show ∀W,(Sb (λi=>i=w.heap.size+1+1) w3 W/\∃u,AE W (w.heap.size+1+1) 36 #[u])->W.cell? w2=some (.pointer r)/\W.cell? w=some (.pointer p)from
  λW hW=>⟨(hW.1.blk f2 (by have:=b3.o.size;omega)).cell 0,(hW.1.blk b8 oM).cell 0⟩)
 have f3:AV w3 F T:=HT.o.agree (gC ((gA a8.o).trans N) HF.o);have c9:AV w3 (Up F' w1 w2) V:=HV.o.agree (b6.agree λb I=>I.elim (λe=>by have:=(H.o.old b e).2;have:=d9.o.size;omega) λe=>e.2);have b0:∀b,Up F' w1 w2 b->b<w3.heap.size/\b≠w.heap.size+1+1:=λb I=>I.elim (λe=>by have:=(H.o.old b e).2;have:=d9.o.size;exact⟨oM,oM⟩) λe=>⟨by have:=e.2;omega,by have:=e.1;have:=b3.o.size;omega⟩
 have b7:∀b,F b->b<w3.heap.size/\b≠w.heap.size+1+1:=λb I=>by have:=HF.o b I;exact⟨oM,oM⟩
 have g9:=hY (show ∀W,Sb (λi=>i=w.heap.size+1+1) w3 W->Calls prog 24 #[.agg #[.pointer p],.agg #[.pointer r]] W (N7 (chg (AG T) (AG V)) W) fromλW hW=>by
  have h:=Vq (w:=W) (f3.agree λb I=>hW.block b (b7 b I).1 (b7 b I).2) (c9.agree λb I=>hW.block b (b0 b I).1 (b0 b I).2) (λb I=>ab (b7 b I).1 hW.size) (λb I=>ab (b0 b I).1 hW.size) g8.o f6.o (an i5.o oN) (by
   rw[f1.o];have h1:=Gi (A8 L) (AG U) L.length;rw[aM (by rw[aq];exact ao _)]at h1;have h2:=H.o.few;omega)
  rwa[AO,AO,HP.o,HR.o]at h)
 obtain⟨j2,g3,a2,i3,i6,d7,i7⟩:=Yh a1 N (d3.o.trans (gA b6)) (show w.heap.size+1+1<w3.heap.size from a1.lt) c9 b0 (show Sb (λi=>i=w.heap.size+1+1) w3 w3.drew/\∃u,AE w3.drew (w.heap.size+1+1) 36 #[u]from⟨(gE _ w3).drew,_,a1.ext ((gz w3).drew)⟩);clear e7 b6 f2 b8 a1 N f3 c9 b0 b7;refine eV (S:=(λw'=>Sb (λi=>i=w.heap.size+1+1) w3 w'/\∃u,AE w' (w.heap.size+1+1) 36 #[u])) kM (i7.o) (λhHeld=>?_);refine AF 0 (some 19) a3 hHeld ?_;refine AF 1 (some 20) a3 hHeld ?_;refine AF 2 (some 21) a3 hHeld ?_;refine AF 3 (some 22) a3 hHeld ?_;refine Af (i:=4) kM rfl (by rfl) (λK hK=>?_);go_simp
 (obtain⟨h8,u8,a5⟩:=hHeld;refine(g9.o _ h8).mono ?_;rintro e wa ⟨sC,cs,rfl,d6,a4,g5⟩;have c8:=(a5.ext a4).cell 0;have f8:=(a5.ext a4).frozen 0;have l8:=(a5.ext a4).lt;have c7:=hY h8;have d5:=hY (a5.ext a4);have e2:=hY d6;have i0:=hY g5;have e3:=hY a4;clear d6 g5 a4 h8 a5)
 refine hK.out _ _ (⟨c7.o.trans (e3.o.sb _),u8,d5.o⟩) (λhHeld=>?_);clear hK K
 try go_frame
 refine Af (i:=5) kM rfl (by rfl) (λK hK=>?_);go_simp
 skip
 refine hK.out _ _ (⟨hHeld.1.set (p:=⟨w+1+1,0,none⟩) (.inr rfl) _,_,d5.o.AX 0 _⟩) (λhHeld=>?_);clear hK K
 try go_frame
 refine AF 6 (some 9) a3 hHeld ?_;refine AF 7 (some 10) a3 hHeld ?_;refine fa kM ?_ _;generalize b4:World.setCell _ _ _=w9;have a0:Sb (λi=>i=w.heap.size+1+1) w3 w9:=by rw[<-b4];exact(c7.o.trans (e3.o.sb _)).set (p:=⟨w+1+1,0,none⟩) (.inr rfl) _
 have Z:Sb (λi=>i=w.heap.size+1+1) wa w9:=by rw[<-b4];exact(gE (λi=>i=w.heap.size+1+1) wa).set (p:=⟨w+1+1,0,none⟩) (.inr rfl) _
 have e1:AE w9 (w.heap.size+1+1) 36 #[.pointer r]:=by rw[<-b4];exact d5.o.AX 0 (.pointer r)
 have q9:w9.cell? ⟨w+1+1,0,none⟩=some (.pointer r):=e1.cell 0;obtain⟨g7,e4⟩:=Yb a0 Z;clear b4 e1 c8 f8 hHeld a0 Z;go_wp2_with fail;refine eU (v:=.tuple #[.agg #[.pointer r],.slice sL.a L.length sL.c,.slice sC.a cs.length sC.c]) (by simp[results,results10,go_sem,q9]) rfl ?_;have a0:=g7.o;have Z:=e4.o;have y0:=a8.o.size;have y1:=b3.o.size;have y3:=i3.o;have y8:=c7.o.size;have y9:=a0.size;have ya:=Z.size;refine⟨V,sL,sC,cs,by rw[AO,HR.o],?_⟩;exact
  { nw:=((gA a8.o).trans g3.o).comp a0 λi hi e=>by omega
    ok:=f6.o
    tree:=(i6.o.agree λb I=>a0.block b (d7.o b I).1 (d7.o b I).2).mono λb I=>I.imp id λe=>⟨by have:=e.1;omega,by have:=e.2;have:=a2.o.size;omega⟩
    ents:=f1.o
    okM:=by have:=i1.o;exact this
    row:=(g0.o.agree λb I=>(a0.block b (by have:=I.2;have:=a2.o.size;omega) (by have:=I.1;omega)).trans (a2.o.block b I.2 λe=>e)).mono λb I=>⟨by have:=I.1;omega,by have:=I.2;have:=a2.o.size;omega⟩
    chg:=e2.o
    cs:=(i0.o.LU λb I=>Z.block b I.2 (by have:=I.1;omega)).Np λb I=>⟨by have:=I.1;omega,by have:=I.2;omega⟩
    same:=c6.o }
def Sr(w:AB)(n:Int):Calls prog 16 #[n] w λe w'=>e=.returned (NF n)/\Ext w w':=by
 go_in;go_wp2_with fail;refine eU (v:=NF n) (by simp[results,results16,go_sem];rfl) rfl ?_;exact⟨rfl,(gz w).alloc _ _⟩
variable{xs:List LE}
def Pe(hF:∀b,F b->b<w.heap.size)(hT:AV w F T)(ok:Am T)(hl:(AG T).length<=1000000)(hs:ES w (Lt w) s xs) :
  Calls prog 11 #[AO T,.slice s.a xs.length s.c] w λe w'=>e=.returned (.bool (Df (AG T) (xs.map LE.ent)))/\Ext w w':=by
 obtain⟨p,hp⟩:=BM T;have a0:∀W,Ext w W->Calls prog 26 #[.agg #[.pointer p]] W (Et (AG T) W):=λW hW=>by
  have h:=ZJ (w:=W) (λb I=>ab (hF b I) hW.size) (hT.agree (hW.agree hF)) ok hl;rwa[AO,hp]at h
 have a5:∀(W:AB) (N:Sl) (Z:List LE),Ext w W->ES W (Lt W) N Z->Z.map LE.ent=AG T->Calls prog 25 #[.slice N.a Z.length N.c,.slice s.a xs.length s.c] W λe w'=>e=.returned (.bool (Df (AG T) (xs.map LE.ent)))/\Ext W w':=λW N Z hW he hx=>by
  have h9:=ib he ((hs.agree (hW.agree λb I=>I)).mono λb I=>ab I hW.size);rwa[hx]at h9
 obtain⟨b3,a7⟩:=Yb a0 a5;rw[AO,hp];clear a0 a5 hF hT ok hl hs hp;go_in;go_wp2_with fail;refine(b3.o _ ((gz w).alloc _ _)).mono ?_;rintro e w1 ⟨N,Z,rfl,a3,a6,a4⟩;obtain⟨a8,b0,a2⟩:=Yc (a6.es.mono (G:=Lt w1) λb I=>I.2) a3 (((gz w).alloc #[.pointer p] 36).trans a4);clear a3 a6 a4;go_wp2_with fail;refine(a7.o _ N Z a2.o a8.o b0.o).mono ?_;rintro e w2 ⟨rfl,a1⟩;have a9:=hY (a2.o.trans a1);clear a1;go_wp2_with fail;go_ret;exact⟨rfl,a9.o⟩
variable{s':Sl}
def Uz{A B:List Int}(hA:Rd w (Lt w) 1 s A.length (A.map (.int .i64)))(hB:Rd w (Lt w) 1 s' B.length (B.map (.int .i64)))(hl:A.length<=1000000) :
  Calls prog 18 #[.slice s.a A.length s.c,.slice s'.a B.length s'.c] w λe w'=>e=.returned (.bool (decide (A=B)))/\Ext w w':=by
 obtain⟨b,o,hs,-,hc⟩:=hA;obtain⟨b',o',a6,-,a4⟩:=hB;obtain⟨HS,a5,HC,a8⟩:=Ye hs a6 hc a4;clear hs a6 hc a4;go_in;by_cases a0:A.length=B.length
 rotate_left
 ·have g:((A.length:Int) != (B.length:Int))=true:=by simp;omega
  have Z:decide (A=B)=false:=eM λh=>a0 (by rw[h])
  rw[Z];go_wp2_with fail;go_ret;exact⟨rfl,gz _⟩
 have g:((A.length:Int) !=(B.length:Int))=false:=by simp;omega
 have I:=hY a0;go_wp2_with fail;clear g a0;go_loopw[5] (λv wr=>∃j:Nat,v=.int .i64 (j:Int)/\j<=A.length/\Yd (A.take j=B.take j)/\Yd (Ext w wr)) (λv _=>A.length -(intOf v).toNat)
 case atStart=>exact⟨0,rfl,aw _,hY rfl,hY (gz _)⟩
 obtain⟨j,rfl,hj,HT,HX⟩:=hrel;by_cases a3:j<A.length
 ·have l1:(j:Int)<(A.length:Int):=oM
  have b3:decide ((j:Int)<(A.length:Int))=true:=eO l1;have l2:(j:Int)<(B.length:Int):=by have:=I.o;omega
  have l0:(0:Int)<=(j:Int):=oM
  obtain⟨x,hx⟩:∃x,A[j]? = some x:=⟨_,ac a3⟩;obtain⟨y,hy⟩:∃y,B[j]? = some y:=⟨_,ac (by have:=I.o;omega)⟩;obtain⟨a9,-,-⟩:=HS.o.eq oM;obtain⟨b0,-,-⟩:=a5.o.eq (by have:=I.o;omega);have e1:wr.cell? ⟨b,o+j,none⟩=some (.int .i64 x):=(HX.o.cell (HS.o.fits oM)).trans (HC.o j _ (by rw[ar,hx];rfl));have e2:wr.cell? ⟨b',o'+j,none⟩=some (.int .i64 y):=(HX.o.cell (a5.o.fits (by have:=I.o;omega))).trans (a8.o j _ (by rw[ar,hy];rfl));have N:=hY (And.intro hx hy);rw[a9,b0];clear hx hy;go_wp2_with fail;go_quiet (fail);have a2:=HX.o.drewN nq;clear e1 e2;generalize wr.drewN nq=wq at *;have a1:=hY a2;clear a2;by_cases h:x=y
  ·subst h
   have b4:wrap64 ((j:Int)+1)=((j+1:Nat):Int):=by unfold wrap64;omega
   go_wp2_with fail;go_roundw
   case measure=>simp[intOf];omega
   exact⟨j+1,by go_num,a3,hY (by rw[aK,aK,HT.o,N.o.1,N.o.2]),a1⟩
  have g:(x != y)=true:=by simp[h]
  have Z:decide (A=B)=false:=eM λe=>h (by
   have h1:=N.o.1;rw[e,N.o.2]at h1;injection h1 with h1;exact h1.symm)
  have a7:=hY Z;clear Z;go_wp2_with fail;go_ret;exact⟨by rw[a7.o]<;>rfl,a1.o⟩
 obtain rfl:j=A.length:=oM
 have l1:decide ((A.length:Int)<(A.length:Int))=false:=eM oM;have he:decide (A=B)=true:=eO (by
  have:=HT.o;rw[aR,I.o,aR]at this;exact this)
 have HE:=hY he;clear he;go_wp2_with fail;go_ret;exact⟨by rw[HE.o]<;>rfl,HX.o⟩
def YF(n:Nat):∀(m:Mu) (c c':AR) (w:AB),SizeOf.sizeOf m<=n->AK w (Lt w) m c->AK w (Lt w) m c'->Calls prog 27 #[Ap m c,Ap m c'] w λe w'=>e=.returned true/\Ext w w':=by
 induction n with
 |zero=>intro m c c' w h;have:=Mu.CM m;omega
 | succ n ih=>
   intro m c c' w hn hm e4;obtain⟨g9,i2,-,-,-⟩:=hm.parts;obtain⟨f9,i1,-,-,-⟩:=e4.parts;have Z:∀{W:AB},Ext w W->∀{d:Val} {sl so:Sl},RV w (Lt w) d sl so->RV W (Lt W) d sl so:=λN _ _ _ h=>(h.agree (N.agree λ_ h=>h)).mono λb hb=>ab hb N.size
   obtain⟨j7,k3⟩:=Yb (λW (N:Ext w W)=>Gf _ _ _ (ao _) W _ _ _ _ (Z N g9) (Z N f9)) (λW (N:Ext w W)=>Gf _ _ _ (ao _) W _ _ _ _ (Z N i2) (Z N i1));have k8:=hm.len;obtain⟨HI,HM,j4,HN⟩:=Ye ih hm e4 hn;clear ih hm e4 hn g9 i2 f9 i1 Z;go_in;go_upto_region 1 with fail;generalize i0:World.alloc _ _=W0;obtain⟨g6,j8,j0,g0⟩:=CH w _ _ _ _ W0 i0;have f2:Ay W0 w.heap.size 0 m c:=gI j0;have e2:Ay W0 (w.heap.size+1) 0 m c':=gI g0;obtain⟨f8,g4,i3⟩:=Yc g6 f2 e2;clear i0 g6 j8 j0 g0;obtain⟨a0,a1,a2,a3,a4,a5,a6,a7,a8,a9,k5,j5,f0,f5,e6,d9,f6,f3,j3⟩:=f2.c19;obtain⟨b0,b1,b2,b3,b4,b5,b6,b7,b8,b9,k1,j9,e8,e0,f7,e7,e1,f1,k0⟩:=e2.c19;clear f2 e2;go_wp2_with fail;refine(j7.o _ f8.o).mono ?_;rintro e w1 ⟨rfl,c9⟩;rw[FA];obtain⟨g3,c6,c7⟩:=Yc (f8.o.trans c9) (g4.o.ext c9) (i3.o.ext c9);clear a0 a1 a2 a3 a4 a5 a6 a7 a8 a9 k5 j5 f0 f5 e6 d9 f6 f3 j3 b0 b1 b2 b3 b4 b5 b6 b7 b8 b9 k1 j9 e8 e0 f7 e7 e1 f1 k0 c9;obtain⟨-,-,-,-,-,-,-,-,-,-,-,-,f0,f5,e6,d9,f6,f3,-⟩:=c6.o.c19;obtain⟨-,-,-,-,-,-,-,-,-,-,-,-,e8,e0,f7,e7,e1,f1,-⟩:=c7.o.c19;go_wp2_with fail;refine(k3.o _ g3.o).mono ?_;rintro e w2 ⟨rfl,c8⟩;rw[FA];obtain⟨g7,d6,d5⟩:=Yc (g3.o.trans c8) (c6.o.ext c8) (c7.o.ext c8);clear f0 f5 e6 d9 f6 f3 e8 e0 f7 e7 e1 f1 c8 c6 c7 g4 i3;go_wp2_with fail;go_loopw[5] (λv wr=>∃j:Nat,v=.int .i64 (j:Int)/\j<=m.l.length/\Yd (Ext w2 wr)) (λv _=>m.l.length -(intOf v).toNat)
   case atStart=>exact⟨0,rfl,aw _,hY (gz _)⟩
   obtain⟨j,rfl,hj,HX⟩:=hrel;have d4:wr.cell? ⟨w,0+18,none⟩=some (.slice c.s.a m.l.length c.s.c):=(d6.o.ext HX.o) 18 _ rfl;have d7:wr.cell? ⟨w+1,0+18,none⟩=some (.slice c'.s.a m.l.length c'.s.c):=(d5.o.ext HX.o) 18 _ rfl;by_cases i4:j<m.l.length
   ·have l1:(j:Int)<(m.l.length:Int):=oM
    have l3:decide ((j:Int)<(m.l.length:Int))=true:=eO l1;have l0:(0:Int)<=(j:Int):=oM
    obtain⟨x,hx⟩:∃x,m.l[j]? = some x:=⟨_,ac i4⟩;obtain⟨g,o,y,j6,hg,j2,l2,i6,i7⟩:=HM.o.at hx;obtain⟨g',o',y',g5,i9,k9,k7,d8,d3⟩:=j4.o.at hx;have d0:Ext w wr:=g7.o.trans HX.o;obtain⟨g8,f4⟩:=Yb (show ∀W,Ext wr W->W.rangeAt g (o+j*19) (BS x y).toList fromλW N=>(i6.agree ((d0.trans N).agree λ_ h=>h) hg).range) (show ∀W,Ext wr W->W.rangeAt g' (o'+j*19) (BS x y').toList fromλW N=>(d8.agree ((d0.trans N).agree λ_ h=>h) i9).range);have Z:∀{W:AB},Ext wr W->∀{c:AR},AK w (Lt w) x c->AK W (Lt W) x c:=λN _ h=>(h.agree ((d0.trans N).agree λ_ h=>h)).mono λb hb=>ab hb (d0.trans N).size
    have e3:=hY (λW (N:Ext wr W)=>HI.o x y y' W (by have:=Mu.Gc hx;have:=HN.o;omega) (Z N i7) (Z N d3));obtain⟨d,i5⟩:=Jr x y;obtain⟨d',i8⟩:=Jr x y';obtain⟨j1,k2,I,HL⟩:=Ye i5 i8 (show ∀W,Ext wr W->W.cell? ⟨w,18,none⟩=some (.slice c.s.a m.l.length c.s.c)/\W.cell? ⟨w+1,18,none⟩=some (.slice c'.s.a m.l.length c'.s.c) fromλW N=>⟨(d6.o.ext (HX.o.trans N)) 18 _ rfl,(d5.o.ext (HX.o.trans N)) 18 _ rfl⟩) j2;rw[j6]at I d4;rw[g5]at I d7;clear i6 d8 i7 d3 Z hx i5 i8 hg i9;go_upto_region 6 with fail;clear d4 d7;refine eV (S:=(λw'=>Ext wr w')) kM (((gz wr).drew)) (λhHeld=>?_);refine AF 0 (some 78) I hHeld ?_;refine AF 1 (some 79) I hHeld ?_;refine AF 2 (some 80) I hHeld ?_;refine AF 3 (some 81) I hHeld ?_;refine Ff 4 (some 82) 59 (.tmp 81) g8 hHeld j1.o ?_;refine AF 5 (some 83) I hHeld ?_;refine AF 6 (some 84) I hHeld ?_;refine AF 7 (some 85) I hHeld ?_;refine AF 8 (some 86) I hHeld ?_;refine Ff 9 (some 87) 59 (.tmp 86) f4 hHeld k2.o ?_;refine Af (i:=10) kM rfl (by rfl) (λK hK=>?_);go_simp
    (refine(e3.o _ hHeld).mono ?_;rintro e wa ⟨rfl,k4⟩)
    refine hK.out _ _ (hHeld.trans k4) (λhHeld=>?_);clear hK K
    try go_frame
    refine AF 11 (some 89) I hHeld ?_;refine fa kM ?_ _;have k6:=hY hHeld;clear hHeld;go_wp2_with fail;go_roundw
    case measure=>simp[intOf];omega
    exact⟨j+1,by go_num,i4,hY (HX.o.trans k6.o)⟩
   obtain rfl:j=m.l.length:=oM
   have l1:decide ((m.l.length:Int)<(m.l.length:Int))=false:=eM oM;go_wp2_with fail;go_ret;exact⟨rfl,g7.o.trans HX.o⟩
variable{c c':AR}
def iw{m:Mu}(h:AK w (Lt w) m c)(I:AK w (Lt w) m c'):Calls prog 27 #[Ap m c,Ap m c'] w λe w'=>e=.returned true/\Ext w w':=YF _ m c c' w (ao _) h I
end Go.Proofs.YtahhllcdbjbpbaaGreatDoor
