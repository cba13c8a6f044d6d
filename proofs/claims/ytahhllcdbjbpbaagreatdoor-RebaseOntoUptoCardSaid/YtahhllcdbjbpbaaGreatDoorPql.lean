/- Steps to the theorem. -/
import Derived.Test.YtahhllcdbjbpbaaGreatDoorPqk
set_option linter.all false
set_option maxRecDepth 100000
set_option maxHeartbeats 40000000
namespace Go.Proofs.YtahhllcdbjbpbaaGreatDoor
open Go.Proofs.Tryz
open Go.RowKit
def jg{f k:AA}(h:Ab f k=true):f.size<=k.size:=by
 unfold Ab at h;rw[eY,eY]at h;have h1:=(cV.1 h).length_le;rw[aQ,aQ]at h1;exact h1
def oD(f t k:AA):(An f t k).size<=t.size+k.size:=by
 unfold An;rw[aP,cd];omega
section
variable{es : List AD}{f t : AA}{j : Nat}{e : AD}
def U9(es:List AD)(f:AA)(j:Nat):BO es f=BO (es.take j) f++BO (es.drop j) f:=by
 unfold BO;rw[<-bT,aX]
def LN(es:List AD)(f:AA)(j:Nat):(BO es f).take (BO (es.take j) f).length=BO (es.take j) f:=by
 rw[U9 es f j,dL]
def Jf(N:es[j]? = some e)(I:Ab f e.1=true):(BO es f)[(BO (es.take j) f).length]? = some e:=by
 obtain⟨h1,h2⟩:=ai.1 N;rw[U9 es f j,aO (ao _),cE,aE h1,h2];unfold BO;rw[List.filter_cons_of_pos (by exact I)];rfl
def Lz(I:es[j]? = some e):BO (es.take (j+1)) f=if Ab f e.1 then BO (es.take j) f++[e]else BO (es.take j) f:=by
 unfold BO;rw[aK,I,bT];cases h:Ab f e.1<;>simp[h]
def UN(I:es[j]? = some e):B8 (es.take (j+1)) f=if Ab f e.1 then B8 (es.take j) f else B8 (es.take j) f++[e]:=by
 unfold B8;rw[aK,I,bT];cases h:Ab f e.1<;>simp[h]
def ox{L:List AD}{k:AA}{v:Val}(h:Sorted (L++[(k,v)])):AU L k v=L++[(k,v)]:=by
 have h1:=J6 (A:=L) (k:=k) (v:=v) (λe I=>(cJ.1 h).2.2 e I (k,v) (aV.2 rfl)) [];rw[aY]at h1;rw[h1];rfl
def iL(hs:Sorted es)(I:es[j]? = some e)(N:Ab f e.1=false):AU (B8 (es.take j) f) e.1 e.2=B8 (es.take (j+1)) f:=by
 have h:=JB (hs.sublist (List.take_sublist (j+1) es)) f;rw[UN I,N]at h ⊢;exact ox h
def L6{M:List AD}{f t:AA}:∀{L:List AD},Bt M f t L=0->∀e∈L,AT (An f t e.1)=0
 |[],_,e,I=>by cases I
 | x :: r,h,e,I=>by
   rw[Bt]at h;by_cases h1:AT (An f t x.1)=0
   ·rw [eL (by simp [h1])] at h
    rcases aH.1 I with rfl|I
    .exact h1
    split at h
    .cases h
    exact L6 h e I
   rw[eN h1]at h;cases h
def pP(Z:Bt es f t (BO (es.take j) f)=0)(N:es[j]? = some e)(I:Ab f e.1=true)(hk:AT (An f t e.1)≠0):CN es f t=(8,es):=by
 have h:=L0 (L:=BO es f) (by rw[LN es f j];exact Z) (Jf N I);rw[eN hk]at h;unfold CN;rw[h,eN oN]
def nM(hz:Bt es f t (BO (es.take j) f)=0)(Z:es[j]? = some e)(I:Ab f e.1=true)(hk:AT (An f t e.1)=0)(N:((AH es (An f t e.1)).isSome && !Ab f (An f t e.1))=true):CN es f t=(13,es):=by
 have h:=L0 (L:=BO es f) (by rw[LN es f j];exact hz) (Jf Z I);rw[eL (by simp[hk]),eN N]at h;unfold CN;rw[h,eN oN]
def Yt(hz:Bt es f t (BO (es.take j) f)=0)(N:es[j]? = some e)(I:Ab f e.1=true)(hk:AT (An f t e.1)=0)(Z:((AH es (An f t e.1)).isSome && !Ab f (An f t e.1))=false):Bt es f t (BO (es.take (j+1)) f)=0:=by
 have h:=NC (L:=BO es f) (by rw[LN es f j];exact hz) (Jf N I) hk Z;rw[Lz N,I,eN rfl,<-LN es f j];rw[aK,Jf N I]at h;exact h
def UG(N:es[j]? = some e)(I:Ab f e.1=false):BO (es.take (j+1)) f=BO (es.take j) f:=by rw[Lz N,I];rfl
end
variable{M:List AD}
def JP(h:Ae M){k:AA}{v:Val}(I:wfV v):Ae (setMu M k v).2:=by
 unfold setMu;split
 .exact h
 rename_i h1;split
 .exact h
 rename_i h2;exact h.put (fJ.1 h1) ⟨I,fJ.1 h2⟩
variable{y:Val}
def Pq(N:wfV y){x:Val}(Z:wfV x):wfV (Eh (y.l++[x])):=by
 obtain⟨k,b,i,t,l,ok,ov⟩:=y;unfold wfV at N;have h:∀l:List Val,By l->By (l++[x]):=λl=>by
  induction l with
  |nil=>intro _;rw[aG];unfold By;exact⟨Z,by unfold By;trivial⟩
  |cons a r ih=>intro I;unfold By at I;rw[aJ];unfold By;exact⟨I.1,ih I.2⟩
 unfold Eh wfV;exact⟨rfl,h l N.2.1,by unfold By;trivial⟩
def gX(h:Ae M)(k:AA)(n:Int):Ae (A' M k n).2:=by
 have I:∀q,Ae (CX M k q n).2:=λq=>by
  unfold CX;split
  .exact h
  exact JP h (by unfold CP wfV;exact⟨rfl,by unfold By;trivial,by unfold By;trivial⟩)
 unfold A';split
 ·split
  .exact h
  exact I _
 exact I 0
def pK(h:Ae M)(k:AA){x:Val}(I:wfV x):Ae (DY M k x).2:=by
 unfold DY;split
 ·rename_i y hy
  split
  .exact h
  unfold Cr;split
  .exact h
  exact JP h (Pq (h.get hy).2.1 I)
 unfold Cr;split
 .exact h
 exact JP h (Pq (y:=zeroV) (by unfold zeroV wfV;exact⟨rfl,by unfold By;trivial,by unfold By;trivial⟩) I)
def WM(h:Ae M)(f t:AA):Ae (CN M f t).2:=by
 unfold CN;split
 .exact h
 rename_i h0;refine L9 ⟨JB h.sorted f,λe I=>h.ok e (bK.1 I).1⟩ λe I=>?_
 obtain⟨x,N,rfl⟩:=bX.1 I;exact⟨L6 (fJ.1 h0) x N,(h.ok x (bK.1 N).1).2⟩
def O3(m:Mu)(M:List AD):stepM m M=if m.kd=1 then setMu M m.k m.v else if m.kd=2 then(if(AH M m.k).isSome then(0,Ac M m.k)else(12,M))else if m.kd=3 then A' M m.k m.i else if m.kd=4 then(if asM M m.k m.had m.was then(if m.has then setMu M m.k m.v else(0,Ac M m.k))else(13,M))else if m.kd=5 then DY M m.k m.v else if m.kd=6 then CN M m.k m.tk else if m.kd=7 then(if asM M m.k m.had m.was then(if(Al m.l M).1≠0 then((Al m.l M).1,M)else Al m.l M)else(13,M))else(9,M):=by
 obtain⟨kd,k,tk,i,N,I,Z,v,l⟩:=m;rw[stepM];rfl
def ZM(n:Nat):∀(m:Mu),SizeOf.sizeOf m<=n->∀{w:AB} {F:Nat->Prop} {c:AR},AK w F m c->∀{M:List AD},Ae M->Ae (stepM m M).2:=by
 induction n with
 |zero=>intro m h;have:=Mu.CM m;omega
 | succ n ih=>
   intro m hn w F c Z M h;have N:wfV m.v:=Z.parts.2.1.wf;have hq:∀(l:List Mu),(∀x∈l,∃(y:AR),AK w F x y/\SizeOf.sizeOf x<=n)->∀{M:List AD},Ae M->Ae (Al l M).2:=by
    intro l
    induction l with
    |nil=>intro _ M h;rw[Al];exact h
    | cons a r ihr=>
      intro ha M h;obtain⟨y,hy,hs⟩:=ha a (aD ..);rw[Al];split
      .exact h
      exact ihr (λx I=>ha x (aI _ I)) (ih a hs hy h)
   have hl:∀x∈m.l,∃(y:AR),AK w F x y/\SizeOf.sizeOf x<=n:=λx I=>by
    obtain⟨j,hj⟩:=bA I;obtain⟨b,o,y,-,-,-,-,-,hr⟩:=Z.at hj;exact⟨y,hr,by have:=Mu.Gc hj;omega⟩
   rw[O3];split
   .exact JP h N
   split
   ·split
    .exact h.del _
    exact h
   split
   .exact gX h _ _
   split
   ·split
    ·split
     .exact JP h N
     exact h.del _
    exact h
   split
   .exact pK h _ N
   split
   .exact WM h _ _
   split
   ·split
    ·split
     .exact h
     exact hq m.l hl h
    exact h
   exact h
variable{w:AB}{F:Nat->Prop}{c:AR}
def Ru{m:Mu}(I:AK w F m c)(h:Ae M):Ae (stepM m M).2:=ZM _ m (ao _) I h
variable{j:Nat}
def V5{l:List Mu}{x:Mu}(Z:l[j]? = some x)(M:List AD)(h:(Al (l.take j) M).1=0):Al (l.take (j+1)) M=if(stepM x (Al (l.take j) M).2).1≠0 then((stepM x (Al (l.take j) M).2).1,(Al (l.take j) M).2)else((stepM x (Al (l.take j) M).2)):=by
 induction l generalizing j M with
 |nil=>simp at Z
 | cons a r ih=>
   cases j with
   | zero=>
     have:a=x:=by simpa using Z
     subst this;rw[bq,Al];simp only[List.take_zero,Al];split
     .rfl
     rename_i hh;exact eJ (fJ.1 hh).symm rfl
   | succ j=>
     rw[bq]at h ⊢;rw[bq];by_cases N:(stepM a M).1=0
     ·have e1:∀ I,Al (a :: I) M=Al I (stepM a M).2:=fun I=>by rw [Al,eL (fun e=>e N)]
      rw[e1]at h ⊢;rw[e1];exact ih (by simpa using Z) _ h
     rw[Al,eN N]at h;exact absurd h N
def jV{l:List Mu}(h:(Al (l.take j) M).1≠0):Al l M=Al (l.take j) M:=by
 induction l generalizing j M with
 |nil=>simp
 | cons a r ih=>
   cases j with
   |zero=>exact absurd rfl h
   | succ j=>
     rw[bq,Al]at h ⊢;rw[Al];by_cases I:(stepM a M).1=0
     ·rw [eL (fun e=>e I)] at h
      rw[eL (λe=>e I),eL (λe=>e I)];exact ih h
     rw[eN I,eN I]
open Go.Maps Go.Shelf
def CI(H:Nat->Prop)(w:AB)(es:List AD)(M:Nat)(w':AB):Prop:=
 ∃H':Nat->Prop,(∀b,H b->H' b)/\(∀b,H' b->H b\/w.heap.size<=b)/\(∀b,H' b->b<w'.heap.size)/\MapAt H' w' M es/\Nw w w'
def EP(H:Nat->Prop)(w:AB)(r:Int × List AD)(e:AC)(w':AB):Prop:=∃M',e=.returned (.tuple #[.pointer (some ⟨M',0,none⟩),.int .i64 r.1])/\CI H w r.2 M' w'
section
variable{H : Nat -> Prop}{w w1 w' : AB}{es : List AD}{M : Nat}
def Ed.old(h:Ed H w es M w'):CI H w es M w':=by
 obtain⟨H',a,b,c,-,d,e⟩:=h;exact⟨H',a,b,c,d,e⟩
def CI.pre(h:CI H w1 es M w')(k:Nw w w1):CI H w es M w':=by
 obtain⟨H',a,b,c,d,e⟩:=h;exact⟨H',a,λi hi=>(b i hi).imp id (an k.size),c,d,k.trans e⟩
def CI.self(h:MapAt H w M es)(N:∀b,H b->b<w.heap.size)(k:Nw w w'):CI H w es M w':=
 ⟨H,λ_ h=>h,λ_ h=>.inl h,λi hi=>ab (N i hi) k.size,h.sb k (λb I=>I.elim) λI=>I.elim,k⟩
end
def Ut{n b:Int}(hn : -9223372036854775808<=n/\n<=9223372036854775807)(hb : -9223372036854775808<=b/\b<=9223372036854775807)(es:List AD)(k:AA) :
  (decide (0<b)=true/\decide (wrap64 (9223372036854775807-b)<n)=true/\CX es k n b=(7,es))\/
  (decide (0<b)=true/\decide (wrap64 (9223372036854775807-b)<n)=false/\decide (b<0)=false/\CX es k n b=setMu es k (CP (wrap64 (n+b))))\/
  (decide (0<b)=false/\decide (b<0)=true/\decide (n<wrap64 (-9223372036854775808-b))=true/\CX es k n b=(7,es))\/
  (decide (0<b)=false/\decide (b<0)=true/\decide (n<wrap64 (-9223372036854775808-b))=false/\CX es k n b=setMu es k (CP (wrap64 (n+b))))\/
  (decide (0<b)=false/\decide (b<0)=false/\CX es k n b=setMu es k (CP (wrap64 (n+b)))):=by
 have h3:=(Mv hn hb).2.2;unfold CX;by_cases N:0<b
 ·have Z:wrap64 (9223372036854775807 - b)=9223372036854775807 - b:=by unfold wrap64;omega
  rw[Z];by_cases h1:9223372036854775807-b<n
  .exact .inl ⟨decide_eq_true N,eO h1,eN (.inl ⟨N,h1⟩)⟩
  have I:¬((0<b/\9223372036854775807-b<n)\/(b<0/\n < -9223372036854775808-b)):=oM
  exact .inr (.inl ⟨decide_eq_true N,eM h1,eM oM,by rw[eL I,h3 I]⟩)
 by_cases h2:b<0
 ·have Z:wrap64 (-9223372036854775808 - b) = -9223372036854775808 - b:=by unfold wrap64;omega
  rw[Z];by_cases h1:n < -9223372036854775808-b
  .exact .inr (.inr (.inl ⟨decide_eq_false N,eO h2,eO h1,eN (.inr ⟨h2,h1⟩)⟩))
  have I:¬((0<b/\9223372036854775807-b<n)\/(b<0/\n < -9223372036854775808-b)):=oM
  exact .inr (.inr (.inr (.inl ⟨decide_eq_false N,eO h2,eM h1,by rw[eL I,h3 I]⟩)))
 have I:¬((0<b/\9223372036854775807-b<n)\/(b<0/\n < -9223372036854775808-b)):=oM
 exact .inr (.inr (.inr (.inr ⟨decide_eq_false N,eM h2,by rw[eL I,h3 I]⟩)))
def XC(M:List AD)(k:AA)(b:Int)(o:Option Val)(h:AH M k=o):(o=none/\A' M k b=CX M k 0 b)\/(∃x,o=some x/\(x.kind != 3)=true/\A' M k b=(9,M))\/∃x,o=some x/\(x.kind != 3)=false/\A' M k b=CX M k x.i b:=by
 unfold A';rw[h];cases o with
 |none=>exact .inl ⟨rfl,rfl⟩
 | some x=>
   by_cases I:x.kind=3
   .exact .inr (.inr ⟨x,rfl,by simp[I],eL (by simp[I])⟩)
   exact .inr (.inl ⟨x,rfl,by simp[I],eN I⟩)
variable{H:Nat->Prop}{M0:Nat}
def kE{es:List AD}(h:MapAt H w M0 es)(hH:∀b,H b->b<w.heap.size)(a4:Sorted es)(hc:es.length<=1000000){k:AA}(hk:k.size<=maxLen){n:Int}(hn : -9223372036854775808<=n/\n<=9223372036854775807) :
  Calls prog 65 #[.pointer (some M0),k,n] w (EP H w (A' es k n)):=by
 have HG:=hY (MH h a4 k);have a1:∀W,Nw w W->CI H w es M0 W:=λW hW=>CI.self h hH hW
 have a2:∀q W,Nw w W->Calls prog 19 #[.pointer (some M0),k,AS (CP (wrap64 q)) Sl.none Sl.none] W λe w'=>∃M',e=.returned (.tuple #[.pointer (some ⟨M',0,none⟩),.int .i64 (setMu es k (CP (wrap64 q))).1])/\Ed H W (setMu es k (CP (wrap64 q))).2 M' w':=λq W hW=>
  JR (h.sb hW (λb hb=>hb.elim) λhb=>hb.elim) (λb hb=>ab (hH b hb) hW.size) a4 hc hk (RV.flat _ _ _ _ _ _ oN (WalkArith.wf_i64 (by unfold wrap64;omega)) oN) (show 7+0+0+0<=1100000 by decide)
 obtain⟨N,a3⟩:=Yb a1 a2;obtain⟨r,hr⟩:∃r,A' es k n=r:=⟨_,rfl⟩;have hw:=XC es k n _ rfl;obtain⟨og,a5⟩:∃o,AH es k=o:=⟨_,rfl⟩;rw[a5,hr]at hw;rw[hr];rw[a5]at HG;obtain⟨HN,HW⟩:=Yb hn hw;clear h hH a4 hc hk a1 a2 a5 hr hw hn;go_in;go_wp2_with fail;refine HG.o.mono ?_;rintro e w1 ⟨s1,s2,rfl,a9,b0⟩;obtain⟨HI,b3⟩:=Yb b0.int a9;clear a9 b0;go_upto_region 2 with fail;generalize a7:World.alloc w1 _=w2;obtain⟨a6,a8⟩:Ext w1 w2/\AE w2 w1.heap.size 54 _:=by rw[<-a7];exact⟨(gz w1).alloc _ _,gB w1 _ _⟩
 obtain⟨d0,-,d2,-,-,-⟩:=a8.c6;have Z:=hY (gA (b3.o.trans a6));clear a7 a6 a8;rcases HW.o with⟨rfl,hr⟩ |⟨x,rfl,h3,rfl⟩ |⟨x,rfl,h3,hr⟩
 ·rcases Ut (n:=0) oN HN.o es k with ⟨f1,f2,hz⟩ | ⟨f1,f2,f3,hz⟩ | ⟨f1,f2,f3,hz⟩ | ⟨f1,f2,f3,hz⟩ | ⟨f1,f2,hz⟩
  all_goals (
   rw[hz]at hr
   (try simp only[Int.zero_add]at hr)
   have HR:=hY hr;clear hz hr;go_wp2_with fail
   first
   |(go_ret2;exact⟨M0,by rw[HR.o]<;>rfl,by rw[HR.o];exact N.o _ Z.o⟩)
   | (refine (a3.o _ _ Z.o).mono ?_
      rintro e w3 ⟨M',rfl,I⟩;have a0:=hY (I.old.pre Z.o);clear I;go_wp2_with fail;go_ret2;exact⟨M',by rw[HR.o]<;>rfl,by rw[HR.o];exact a0.o⟩))
 ·go_wp2_with fail
  go_ret2;exact⟨M0,rfl,N.o _ Z.o⟩
 rcases Ut (n:=x.i) HI.o HN.o es k with⟨f1,f2,hz⟩ |⟨f1,f2,f3,hz⟩ |⟨f1,f2,f3,hz⟩ |⟨f1,f2,f3,hz⟩ |⟨f1,f2,hz⟩
 all_goals (
  rw[hz]at hr;have HR:=hY hr;clear hz hr;go_wp2_with fail
  first
  |(go_ret2;exact⟨M0,by rw[HR.o]<;>rfl,by rw[HR.o];exact N.o _ Z.o⟩)
  | (refine (a3.o _ _ Z.o).mono ?_
     rintro e w3 ⟨M',rfl,I⟩;have a0:=hY (I.old.pre Z.o);clear I;go_wp2_with fail;go_ret2;exact⟨M',by rw[HR.o]<;>rfl,by rw[HR.o];exact a0.o⟩))
variable{sl so:Sl}
def oq{d:Val}(h:RV w F d sl so):∃xs:List WV,xs.map WV.v=d.l/\Rd w F 6 sl xs.length (Ba xs)/\(∀x∈xs,RV w F x.v x.sl x.so)/\xs.length*88<=140737488355328:=by
 cases h with
 | mk bl fl bo fo cl co hl ho hov el rl ek eo ro bk bi bt nl no=>
   rename_i kind b i t l ok ov;refine⟨wl l cl,Mr l cl,MB (by rw[EO];exact hl) λj x N=>?_,λx N=>?_,by rw[EO];exact nl⟩
   ·obtain ⟨I,Z,e3⟩:=Gv N
    rw[Z,e3];exact el j _ I
   obtain⟨j,hj⟩:=bA N;obtain⟨I,Z,e3⟩:=Gv hj;rw[Z,e3];exact rl j _ I
variable{W:AB}{s:Sl}
def Xg{base:Nat}{xs:List WV}(N:W.ownsRow base 54 6 (.slice s.a xs.length s.c) xs.length (Ba xs))(hF:∀i,base<=i->i<W.heap.size->F i)(hv:∀x∈xs,RV W F x.v x.sl x.so)(hn:xs.length*88<=140737488355328) :
  RV W F (Eh (xs.map WV.v)) s Sl.none:=by
 obtain⟨b,o,a0,hc⟩:=MI (gF N);have Z:∀(j:Nat) (d:Val),(xs.map WV.v)[j]? = some d->∃x,xs[j]? = some x/\x.v=d:=λj d hd=>by
  rw[ar]at hd;cases I:xs[j]? with
  |none=>rw[I]at hd;cases hd
  |some x=>rw[I]at hd;exact⟨x,rfl,by injection hd⟩
 have e:∀{j:Nat} {x:WV},xs[j]? = some x->xs.getD j ⟨zeroV,Sl.none,Sl.none⟩=x:=λI=>by rw[du,I];rfl
 refine .mk b o 0 0 (λj=>((xs.getD j ⟨zeroV,Sl.none,Sl.none⟩).sl,(xs.getD j ⟨zeroV,Sl.none,Sl.none⟩).so)) (λ_=>(Sl.none,Sl.none)) (by rw[aq];exact a0.mono λi h=>hF i h.1 h.2) (.nil _ _) rfl ?_ ?_ (λj k h=>by simp at h) (λj d h=>by simp at h) (λj d h=>by simp at h) oN oN oN (by rw[aq];exact hn) oO
 ·intro j d hd
  obtain⟨x,I,rfl⟩:=Z j d hd;rw[e I];exact hc j x I
 intro j d hd;obtain⟨x,I,rfl⟩:=Z j d hd;rw[e I];exact hv x (ap I)
def Zf{es:List AD}(h:MapAt H w M0 es)(hH:∀b,H b->b<w.heap.size)(hM:Ae es)(hc:es.length<=1000000){k:AA}(hk:k.size<=maxLen){v:Val}(hv:RV w (NH H w) v sl so)(f9:Ah v<=1092000) :
  Calls prog 67 #[.pointer (some M0),k,AS v sl so] w (EP H w (DY es k v)):=by
 have a4:=hY (show ∀W,Nw w W->CI H w es M0 W fromλW hW=>CI.self h hH hW);have g5:=hY (show ∀u s1 s2 W,Nw w W->RV W (NH H W) u s1 s2->Ah u<=1100000->Calls prog 19 #[.pointer (some M0),k,AS u s1 s2] W λe w'=>∃M',e=.returned (.tuple #[.pointer (some ⟨M',0,none⟩),.int .i64 (setMu es k u).1])/\Ed H W (setMu es k u).2 M' w' fromλu s1 s2 W hW hu j5=>
  JR (h.sb hW (λb I=>I.elim) λI=>I.elim) (λb I=>ab (hH b I) hW.size) hM.sorted hc hk hu j5)
 obtain⟨g9,k3⟩:=Yb h hM.sorted;have Z:=Sz es k v;have a3:BX ((AH es k).getD zeroV).l<=7168:=by
  cases hg:AH es k with
  |none=>exact aw _
  |some y=>exact an (SS y) (hM.get hg).2.cnt
 obtain⟨r,hr⟩:∃r,DY es k v=r:=⟨_,rfl⟩;obtain⟨og,c7⟩:∃o,AH es k=o:=⟨_,rfl⟩;rw[hr,c7]at Z;rw[c7]at a3;rw[hr];obtain⟨g7,d7,i4,k7,HV,HH⟩:=Yg c7 Z a3 f9 hv hH;obtain⟨i0,hi,g0,f2,g6⟩:=eZ Tryz.Lq;clear h hH hM hc hk hv f9 Z a3 hr c7;go_in;go_upto_region 1 with fail;generalize f8:World.alloc _ _=w0;obtain⟨e6,i1⟩:Ext w w0/\AE w0 w.heap.size 54 (Cl v sl so):=by rw[<-f8];exact⟨(gz w).alloc _ _,gB w _ _⟩
 have hg:=RU (g9.o.ext e6) k3.o k;rw[g7.o]at hg;obtain⟨HG,i2,k6⟩:=Yc hg e6 i1;clear f8 e6 i1 hg;go_wp2_with fail;refine HG.o.mono ?_;rintro e w1 ⟨s1,s2,rfl,f6,e8⟩;have a6:=hY f6;obtain⟨y,hy⟩:∃y,og.getD zeroV=y:=⟨_,rfl⟩;obtain⟨g,c9⟩:∃g,og.isSome=g:=⟨_,rfl⟩;have Z:=d7.o;have a3:=i4.o;rw[hy,c9]at Z;rw[hy]at a3 e8 ⊢;rw[c9];have i8:g=false->y.l=[]:=λe=>by
  cases og with
  |none=>rw[<-hy];rfl
  |some _=>rw[<-c9]at e;cases e
 obtain⟨j2,j8,j6,j9⟩:=Ye Z a3 i8 e8;clear Z a3 hy c9 f6 e8 i8 HG d7 i4 g7;go_upto_region 2 with fail;generalize f4:World.alloc w1 _=w2;obtain⟨b9,f5⟩:Ext w1 w2/\AE w2 w1.heap.size 54 (Cl y s1 s2):=by rw[<-f4];exact⟨(gz w1).alloc _ _,gB w1 _ _⟩
 obtain⟨k0,-,-,-,k4,-⟩:=f5.c6;obtain⟨f3,e1,i6⟩:=Yc (a6.o.trans b9) b9 (gA ((i2.o.trans a6.o).trans b9));clear f4 b9 f5;by_cases N:g=true/\y.kind≠5
 ·have g1:=N.1
  have g2:(y.kind != 5)=true:=by simp[N.2]
  have HR:=hY (j2.o.trans (eN N));clear N;subst g1;go_wp2_with fail;go_ret2;exact⟨M0,by rw[HR.o]<;>rfl,by rw[HR.o];exact a4.o _ i6.o⟩
 have HR:=hY (j2.o.trans (eL N));have g2:g=true->(y.kind != 5)=false:=λe=>by
  by_cases h5:y.kind=5
  .simp [h5]
  exact absurd ⟨e,h5⟩ N
 clear N;obtain⟨xs,e4,j3,i3,l1⟩:=oq j9.o;have a0:xs.length=y.l.length:=by rw[<-e4,aq]
 rw[<-a0]at k4;obtain⟨e7,j4,k1⟩:=Yc e4 i3 (show Rd w2 (NH H w0) 6 s1 xs.length (Ba xs)from j3.agree (e1.o.agree λb I=>ab I.1 a6.o.size));clear e4 i3 j3 a0;go_upto_if 17 with fail;go_cut [10] (λq w'=>∃s7:Sl,q=.slice s7.a xs.length s7.c/\Yd (w'.ownsRow w0.heap.size 54 6 (.slice s7.a xs.length s7.c) xs.length (Ba xs)/\Nw w2 w'))
 case first=>
  cases g with
  | false=>
    have hn:=j6.o rfl;rw[<-e7.o]at hn;obtain rfl:xs=[]:=df.1 hn;clear hn;go_wp2_with fail;go_meet;exact⟨Sl.none,rfl,hY ⟨World.ownsRow_nil _ _ _ _,gE _ _⟩⟩
  | true=>
    have g3:=g2 rfl;obtain⟨e3,f1,e2⟩:=Yc (show 0+xs.length<=maxLen by unfold maxLen;omega) (show(0+xs.length)*88<=140737488355328 by omega) (show w0.heap.size<=w2.heap.size from f3.o.size);clear g2;go_wp2_with(at_builtin;refine Bq _ rfl (.tmp 22) (.tmp 24) 51 rfl w0.heap.size 54 i0 _ 6 88 underlying51 hi g0 f2 g6 rfl oN Sl.none 0 [] rfl (e9 _ _ _ _) (NH H w0) s1 xs.length (Ba xs) rfl k1.o (PG _) e3.o f1.o e2.o ?_;intro s7 w7 a2 d8 f0;rw[aF]at a2 ⊢;have k9:=hY a2;have b7:=hY d8;clear a2 d8 f0);go_meet;exact⟨s7,rfl,hY ⟨k9.o,⟨b7.o.grown.os,b7.o.grown.tape,b7.o.grown.output,b7.o.grown.size,λi hi _=>b7.o.grown.block i hi (by simp[Sl.row,Sl.none])⟩⟩⟩
 obtain⟨s7,rfl,HO⟩:=hcut;clear k0 k4 g2;have a5:Nw w wc:=i6.o.trans HO.o.2;have a0:y.l.length=xs.length:=by rw[<-e7.o,aq]
 obtain⟨f7,d9⟩:=Yb a0 a5;by_cases d5:256<=xs.length
 ·have g3:decide ((256:Int)≤(xs.length:Int))=true:=eO oM
  have g4:(256:Int)<=(xs.length:Int):=oM
  have a8:=hY (HR.o.trans (show Cr es k y.l v=(6,es)by unfold Cr;rw[eN oM]));clear d5 a5 a0;go_wp2_with fail;go_ret2;exact⟨M0,by rw[a8.o]<;>rfl,by rw[a8.o];exact a4.o _ d9.o⟩
 have g3:decide ((256:Int)<=(xs.length:Int))=false:=eM oM;have g4:¬(256:Int)<=(xs.length:Int):=oM
 have a8:=hY (HR.o.trans (show Cr es k y.l v=setMu es k (Eh (y.l++[v]))by unfold Cr;rw[eL oM]));have i9:=gK ((gA (a6.o.trans e1.o)).trans HO.o.2) k6.o;obtain⟨b0,b1,b2,b3,b4,b5⟩:=i9.c6;have k8:=hY (gB wc 54 (⟨v,sl,so⟩:WV).cells.toArray);have c8:Ext wc (wc.alloc (.cells (⟨v,sl,so⟩:WV).cells.toArray 54)):=(gz wc).alloc _ _;obtain⟨k5,j7,e3,f1⟩:=Ye c8 (AZ HO.o.1 (F:=Lt wc) (c8.agree λb I=>I) λb I=>(AM HO.o.1 I).2) (show xs.length+1<=maxLen by unfold maxLen;omega) (show(xs.length+1)*88<=140737488355328 by omega);have l3:=i2.o.size;have i7:w0.heap.size<=wc.heap.size:=an f3.o.size HO.o.2.size;obtain⟨e2,j0⟩:=Yb (show w0.heap.size<=(wc.alloc (.cells (⟨v,sl,so⟩:WV).cells.toArray 54)).heap.size from an i7 c8.size) (show ∀b,s7.row=some b->w0.heap.size<=b fromλb I=>(AM HO.o.1 I).1);have l4:xs.length<=255:=oM
 clear d5 a5 a0 i9 c8 i7;go_wp2_with(at_builtin;refine Bq _ rfl (.tmp 32) (.tmp 34) 51 rfl w0.heap.size 54 i0 _ 6 88 underlying51 hi g0 f2 g6 rfl oN s7 xs.length (Ba xs) rfl j7.o (λb=>b=wc.heap.size) ⟨some wc,1⟩ 1 (⟨v,sl,so⟩:WV).cells rfl (gG k8.o oN rfl) (WV.one _) e3.o f1.o e2.o ?_;intro s9 w9 b8 d3 f0;have l0:=hY b8;have a7:=hY d3;clear b8 d3 f0);have e0:Sb (λb=>s7.row=some b) wc w9:=(Nw.any (gA k5.o) _).trans ⟨a7.o.grown.os,a7.o.grown.tape,a7.o.grown.output,a7.o.grown.size,λi hi hn=>a7.o.grown.block i hi λe=>hn e.symm⟩;have a1:Nw w w9:=d9.o.comp e0 λi hi e=>by have:=j0.o i e;omega
 have b6:Sb (λb=>s7.row=some b) w1 w9:=(Nw.any ((gA e1.o).trans HO.o.2) _).trans e0;have f2:=a6.o.size;have a9:=Xg (F:=NH H w9) (xs:=xs++[(⟨v,sl,so⟩:WV)]) (s:=s9) (by rw[aj,Pl];exact l0.o) (λi h1 h2=>⟨h2,λhh=>by have:=HH.o i hh;omega⟩) (λx hx=>by
  rcases aL.1 hx with hx|hx
  .exact ((j4.o x hx).agree λb I=>b6.block b (by have:=I.1;omega) λe=>by have:=j0.o b e;have:=I.1;omega).mono λb I=>⟨by have:=I.1;have:=b6.size;omega,I.2⟩
  obtain rfl:x=⟨v,sl,so⟩:=by simpa using hx
  exact(HV.o.agree (gC a1 λb I=>I.1)).mono λb I=>⟨Nat.lt_of_lt_of_le I.1 a1.size,I.2⟩) (by rw[aj];show(xs.length+1)*88<=_;omega)
 have d4:(xs++[(⟨v,sl,so⟩:WV)]).map WV.v=y.l++[v]:=by rw[aB,e7.o];rfl
 rw[d4]at a9;have d6:=g5.o (Eh (y.l++[v])) s9 Sl.none w9 a1 a9 (by rw[Oq];have:=j8.o;have:=k7.o;omega);have j1:xs.length+1=(Eh (y.l++[v])).l.length:=by show _=(y.l++[v]).length;rw[aj,f7.o];rfl
 obtain⟨k2,i5⟩:=Yb d6 a1;clear e0 a1 b6 a9 d4 d6;rw[j1];clear j1;refine k2.o.mono ?_;rintro e l2 ⟨M',rfl,d0⟩;have g8:=hY (d0.old.pre i5.o);clear d0;go_wp2_with fail;go_ret2;exact⟨M',by rw[a8.o]<;>rfl,by rw[a8.o];exact g8.o⟩
def PM(w:AB)(k p:AA)(hk:k.size<=maxLen)(hp:p.size<=maxLen):Calls prog 98 #[k,p] w λe w'=>e=.returned (p.toList.isPrefixOf k.toList)/\w=w':=by
 unfold maxLen at hk hp;have lk:=Fb k;have Z:=Fb p;by_cases h:p.size<=k.size
 ·have g1:(p.size:Int)≤(k.size:Int):=oM
  have g2:min p.size k.size=p.size:=oM
  have N:(k.extract 0 p.size).toList=k.toList.take p.size:=extract_toList k p.size;have he:((k.extract 0 p.size).toList==p.toList)=p.toList.isPrefixOf k.toList:=by
   rw[N];cases I:p.toList.isPrefixOf k.toList with
   | true=>
     have:=cO.1 (cV.1 I);rw[<-Z,<-this];simp
   | false=>
     rw[eP];intro e;have:p.toList <+: k.toList:=by rw[<-e];exact List.take_prefix _ _
     rw[cV.2 this]at I;cases I
  have HE:=hY he;clear he N lk Z;go_in;go_wp2_with fail;go_ret;exact⟨by rw[<-HE.o];rfl,rfl⟩
 have g1:¬(p.size:Int)<=(k.size:Int):=oM
 have a0:decide ((p.size:Int)<=(k.size:Int))=false:=eM g1;have hn:p.toList.isPrefixOf k.toList=false:=by
  cases I:p.toList.isPrefixOf k.toList with
  |true=>have:=(cV.1 I).length_le;omega
  |false=>rfl
 rw[hn];clear lk Z hn;go_in;go_wp2_with fail;go_ret;exact⟨rfl,rfl⟩
structure Ek(H:Nat->Prop)(w:AB)(es:List AD)(f t:AA)(wr:AB)(j:Nat)(s:Sl)(xs:List LE)(G:Nat->Prop):Prop where
 ents:xs.map LE.ent=(BO (es.take j) f).map λe=>(An f t e.1,e.2)
 zero:Bt es f t (BO (es.take j) f)=0
 vals:∀x∈xs,RV w (NH H w) x.v x.sl x.so/\x.k.size<=maxLen
 map:MapAt G wr w.heap.size (B8 (es.take j) f)
 own:wr.ownsRow (w.heap.size+1) 65 7 (.slice s.a xs.length s.c) xs.length (AP xs)
 sub:∀b,H b->G b
 low:∀b,G b->H b\/w.heap.size<=b
 below:∀b,G b->b<wr.heap.size
 row:∀b,s.row=some b->G b
 nw:Nw w wr
section
variable{H G : Nat -> Prop}{w wr W w2 w7 w9 : AB}{es : List AD}{f t : AA}{j : Nat}{s s7 : Sl}{xs : List LE}{e : AD}{x : LE}
def Ek.nwS(h:Ek H w es f t wr j s xs G)(k:Nw wr w2):Ek H w es f t w2 j s xs G:=
 ⟨h.ents,h.zero,h.vals,GC h.map k,AZ h.own (F:=Lt wr) (gC k λb I=>I) (λb I=>(AM h.own I).2),h.sub,h.low,λb I=>ab (h.below b I) k.size,h.row,h.nw.trans k⟩
def Ek.keep(h:Ek H w es f t wr j s xs G)(hs:Sorted es)(he:es[j]? = some e)(hb:Ab f e.1=false)(hp:MapAt G w2 w.heap.size (AU (B8 (es.take j) f) e.1 e.2))(st:St (λb=>b=w.heap.size) wr w2):Ek H w es f t w2 (j+1) s xs G where
 ents:=by rw[UG he hb];exact h.ents
 zero:=by rw[UG he hb];exact h.zero
 vals:=h.vals
 map:=by rw[<-iL hs he hb];exact hp
 own:=AZ h.own (F:=λb=>b<wr/\w+1<=b) (λb hb=>st.block b hb.1 (by have:=hb.2;omega)) λb hb=>⟨(AM h.own hb).2,(AM h.own hb).1⟩
 sub:=h.sub
 low:=h.low
 below:=λb hb=>ab (h.below b hb) st.size
 row:=h.row
 nw:=h.nw.comp st.sb λi hi e=>oM
def Ek.gone(h:Ek H w es f t wr j s xs G)(he:es[j]? = some e)(I:Ab f e.1=true)(hk:AT (An f t e.1)=0)(hg:((AH es (An f t e.1)).isSome && !Ab f (An f t e.1))=false)(hx:x.ent=(An f t e.1,e.2))(hv:RV w (NH H w) x.v x.sl x.so/\x.k.size<=maxLen)(k:Nw wr w7)
  (N:w9.ownsRow (w.heap.size+1) 65 7 (.slice s7.a (xs.length+1) s7.c) (xs.length+1) (AP xs++x.cells)) (hw:Wr w7 w9 s.row) (hs:s7.a=s.a\/s7.a=some ⟨w7,0,none⟩/\Wr w7 w9 none) :
  ∃G',Ek H w es f t w9 (j+1) s7 (xs++[x]) G':=by
 have hz:=h.nw.size;have z7:=k.size;have z9:=hw.grown.size;have Z:∀b,s7.row=some b->s.row=some b\/b=w7.heap.size:=λb I=>by
  rcases hs with e |⟨e,-⟩
  .left;unfold Sl.row at I ⊢;rwa[e]at I
  right;unfold Sl.row at I;rw[e]at I;simpa using I.symm
 have hR:w.heap.size<wr.heap.size:=h.below _ h.map.hm;refine⟨λb=>G b\/s7.row=some b,?_,Yt h.zero he I hk hg,?_,?_,?_,λb I=>.inl (h.sub b I),?_,?_,λb I=>.inr I,?_⟩
 .rw [aB,h.ents,Lz he,I,eN rfl,aB,aW,bB,hx];rfl
 ·intro y hy
  rcases aL.1 hy with hy|hy
  .exact h.vals y hy
  rw[aV.1 hy];exact hv
 ·rw [UN he,I,eN rfl]
  have a0:St (λb=>s.row=some b) w7 w9:=hw.st λi hi=>hi
  refine MapAt.st (G:=λb=>s.row=some b) ((GC h.map k).more (G:=λb=>G b\/s7.row=some b) (λb I=>.inl I) λb I hg=>?_) a0 (λb I=>.inl (h.row b I)) λe=>by have:=(AM h.own e).1;omega
  rcases hg with hg|hg
  .exact hg
  rcases Z b hg with e|e
  .exact h.row b e
  omega
 ·rw [aj,D5,show AP [x]=x.cells by simp [AP]]
  exact N
 ·rintro b (I | I)
  .exact h.low b I
  rcases Z b I with e|e
  .exact h.low b (h.row b e)
  right;omega
 ·rintro b (I | I)
  .have:=h.below b I;omega
  exact(AM N I).2
 exact(h.nw.trans k).comp ⟨hw.grown.os,hw.grown.tape,hw.grown.output,hw.grown.size,λi hi hn=>hw.grown.block i hi λe=>hn e.symm⟩ λi hi e=>by have:=(AM h.own e).1;omega
end
def Wm{es:List AD}(h:MapAt H w M0 es)(hH:∀b,H b->b<w.heap.size)(hM:Ae es)(hc:es.length<=100000){f t:AA}(hf:f.size<=maxLen)(ht:t.size<=100000000) :
  Calls prog 68 #[.pointer (some M0),f,t] w (EP H w (CN es f t)):=by
 obtain⟨i0,hi,n6,p5,o1⟩:=eZ Tryz.DK;obtain⟨c6,g8⟩:=Yb (show ∀W,Nw w W->CI H w es M0 W fromλW hW=>CI.self h hH hW) (show ∀k W,Nw w W->Calls prog 97 #[.pointer (some M0),.string k] W (PH (AH es k) W) fromλk W hW=>MH (GC h hW) hM.sorted k);obtain⟨-,sM,xM,i2,k1,g0⟩:=h;have k2:xM.length=es.length:=by rw[<-g0,aq]
 have p8:xM.length<=100000:=oM
 obtain⟨i1,p0,o7,HH,HM,HF⟩:=Yg i2 k1 g0 hH hM hf;obtain⟨r,hr⟩:∃r,CN es f t=r:=⟨_,rfl⟩;rw[hr];obtain⟨HR,f8⟩:=Yb hr k2;clear hH hM i2 k1 g0 hf hr k2 hc;go_in;go_upto_region 3 with fail;generalize i8:World.alloc _ _=w0;obtain⟨k0,a9,hz⟩:Ext w w0/\AE w0 w.heap.size 44 #[.slice none 0 0]/\w0.heap.size=w.heap.size+1:=by rw[<-i8];exact⟨(gz w).alloc _ _,gB w _ _,eQ _ _⟩
 have k6:=hY (show Ek H w es f t w0 0 Sl.none [] (λb=>H b\/b=w.heap.size)from
  ⟨rfl,rfl,(λx hx=>by cases hx),⟨.inr rfl,Sl.none,[],a9,⟨Rd.nil _ _ _,λx h=>by simp at h,oN⟩,rfl⟩,e9 _ _ _ _,λb N=>.inl N,λb N=>N.imp id λe=>oM,(λb N=>by exact N.elim (λh=>by have:=HH.o b h;omega) λh=>oM),(λb N=>by simp[Sl.row,Sl.none]at N),gA k0⟩)
 clear i8 k0 a9 hz;go_wp2_with fail;go_loopw[9,10] (λv9 l3 wr=>∃(j:Nat) (s:Sl) (xs:List LE) (G:Nat->Prop),v9=.slice s.a xs.length s.c/\l3=.int .i64 (j:Int)/\j<=xM.length/\Yd (Ek H w es f t wr j s xs G)) (λ_ v _=>xM.length -(intOf v).toNat)
 case atStart=>exact⟨0,Sl.none,[],_,rfl,rfl,aw _,k6⟩
 obtain⟨j,s,xs,G,rfl,rfl,hj,I⟩:=hrel;have c0:wr.cell? M0=some (.slice sM.a xM.length sM.c):=(I.o.nw.blk i1.o).cell 0;by_cases b8:j<xM.length
 ·have l1:(j:Int)<(xM.length:Int):=oM
  have o2:decide ((j:Int)<(xM.length:Int))=true:=eO l1;have l0:(0:Int)<=(j:Int):=oM
  obtain⟨y,hy⟩:∃y,xM[j]? = some y:=⟨_,ac b8⟩;obtain⟨b0,o0,c7,a9,l4,p3,cK,c9,l2,b7⟩:=p0.o.at hy;have j1:es[j]? = some (y.k,y.v):=by rw[<-o7.o,ar,hy];rfl
  have j8:=hY (show ∀W,Nw w W->W.cell? ⟨b0,o0+j*7,none⟩=some (.string y.k)/\BR W b0 (o0+j*7+1) y.v y.sl y.so fromλW hW=>⟨(gC hW (F:=Lt w) λb N=>N).cell a9.1 |>.trans cK,c9.agree (gC hW (F:=Lt w) λb N=>N) a9.1⟩);obtain⟨p9,j4⟩:=j8.o wr I.o.nw;obtain⟨e0,j2,l6,l7⟩:=Ye j1 l2 b7 (show Calls prog 98 #[.string y.k,f] wr λe w'=>e=.returned (.bool (Ab f y.k))/\wr=w' from PM wr y.k f b7 HF.o);rw[c7]at c0;clear hy j1 l2 b7 c9 cK a9;go_wp2_with fail;refine l7.o.mono ?_;rintro e w2 ⟨rfl,rfl⟩;rcases be (Ab f y.k)with N|N
  rotate_left
  ·have HB:=hY N
   rw[N];obtain⟨d0,d1,d2,d3,d4,d5⟩:=j4;have b4:=LD I.o.map I.o.below (JB (HM.o.sorted.sublist (List.take_sublist j es)) f) (by have:(B8 (es.take j) f).length<=(es.take j).length:=bE _ _;rw[au]at this;omega) l6.o (v:=y.v) (sl:=y.sl) (so:=y.so) ((j2.o.agree (gC I.o.nw λb N=>N.1)).mono λb N=>⟨Nat.lt_of_lt_of_le N.1 I.o.nw.size,λhg=>(I.o.low b hg).elim N.2 λh=>by have:=N.1;omega⟩);have c8:=hY b4;clear N b4;go_wp2_with fail;refine c8.o.mono ?_;rintro e w3 ⟨⟨rr,rfl⟩,j3,Z⟩;have HN:=hY (I.o.keep HM.o.sorted e0.o HB.o j3 Z);clear j3 Z;go_wp2_with fail;go_roundw
   case measure=>simp[intOf];omega
   exact⟨j+1,s,xs,G,rfl,by go_num,b8,HN⟩
  have HB:=hY N;rw[N];clear N;have n8:=jg HB.o;have s1:((f.size:Nat):Int)<=(y.k.size:Int):=oM
  have s0:(0:Int)<=((f.size:Nat):Int):=oM
  have l8:y.k.size<=64:=Iu (HM.o.ok (y.k,y.v) (ap e0.o)).1;have s2:¬9223372036854775807<t.size+(y.k.size-f.size):=oM
  obtain⟨nk,i6⟩:∃nk,t++y.k.extract f.size y.k.size=nk:=⟨_,rfl⟩;have b5:=hY (show An f t y.k=nk from i6);have d9:nk.size<=maxLen:=by have:=oD f t y.k;rw[b5.o]at this;unfold maxLen;omega
  obtain⟨g9,f4,p2,q6⟩:=Ye (MY wr nk d9) d9 (g8.o nk wr I.o.nw) (I.o);clear l8 d9 n8;go_upto_region 10 with fail;clear i6 s0 s1 s2;go_wp2_with fail;refine g9.o.mono ?_;rintro e w2 ⟨rfl,rfl⟩;by_cases b9:AT nk=0
  rotate_left
  ·have q7:(AT nk != 0)=true:=by simp [b9]
   obtain⟨i9,e3⟩:=Yb (HR.o.symm.trans (pP I.o.zero e0.o HB.o (by show AT (An f t y.k)≠0;rw[b5.o];exact b9))) (c6.o _ I.o.nw);clear b9;go_wp2_with fail;go_ret2;exact⟨M0,by rw[i9.o]<;>rfl,by rw[i9.o];exact e3.o⟩
  have i4:=hY b9;rw[b9];clear b9;go_wp2_with fail;refine p2.o.mono ?_;rintro e w3 ⟨s1,s2,rfl,j5,-⟩;obtain⟨og,f7⟩:∃og,AH es nk=og:=⟨_,rfl⟩;rw[f7];obtain⟨j0,n4⟩:=Yb f7 (gA j5);clear f7 j5;go_upto_region 13 with fail;generalize k3:World.alloc w3 _=w4;obtain⟨j9,-,-⟩:=D4 k3;obtain⟨b6,k7⟩:=Yb (n4.o.trans (gA j9)) (show Calls prog 98 #[.string nk,f] w4 λe w'=>e=.returned (.bool (Ab f nk))/\w4=w' from PM w4 nk f f4.o HF.o);clear k3 j9;by_cases a7:(og.isSome && !Ab f nk)=true
  ·have g6:og.isSome=true:=by simp only [Bool.and_eq_true] at a7;exact a7.1
   have i7:Ab f nk=false:=by simp only[Bool.and_eq_true,Bool.not_eq_true']at a7;exact a7.2
   obtain⟨e8,e3,o6⟩:=Yc (HR.o.symm.trans (nM I.o.zero e0.o HB.o (by show AT (An f t y.k)=0;rw[b5.o];exact i4.o) (by show((AH es (An f t y.k)).isSome && !Ab f (An f t y.k))=true;rw[b5.o,j0.o];exact a7))) (c6.o _ (I.o.nw.trans b6.o)) i7;rw[g6];clear a7 g6 i7;go_wp2_with fail;refine k7.o.mono ?_;rintro e w5 ⟨rfl,rfl⟩;rw[o6.o];go_wp2_with fail;go_ret2;exact⟨M0,by rw[e8.o]<;>rfl,by rw[e8.o];exact e3.o⟩
  have f6:=hY (show((AH es (An f t y.k)).isSome && !Ab f (An f t y.k))=false by rw[b5.o,j0.o];simpa using a7);have g7:og.isSome=false\/(og.isSome=true/\Ab f nk=true):=by
   cases h1:og.isSome with
   |false=>exact .inl rfl
   | true=>cases h2:Ab f nk with
     |true=>exact .inr ⟨rfl,rfl⟩
     |false=>rw[h1,h2]at a7;exact absurd rfl a7
  clear a7;go_cut [14,73] (λu v w'=>v=.bool false/\w'=w4)
  case first=>
   rcases g7 with h1 |⟨h1,h2⟩
   ·rw [h1]
    go_wp2_with fail;go_meet;exact⟨rfl,rfl⟩
   rw[h1];have H2:=hY h2;clear h1 h2;go_wp2_with fail;refine k7.o.mono ?_;rintro e w5 ⟨rfl,rfl⟩;rw[H2.o];go_wp2_with fail;go_meet;exact⟨rfl,rfl⟩
  obtain⟨rfl,hw⟩:=hcut;obtain rfl:w4=wc:=hw.symm;obtain⟨c0,c1,c2,c3,c4,c5⟩:=(j8.o w4 (I.o.nw.trans b6.o)).2;have m0:w4.cell? M0=some (.slice (some ⟨b0,o0,none⟩) xM.length sM.c):=by
   have:=(gK (I.o.nw.trans b6.o) i1.o).cell 0;rw[c7]at this;exact this
  have n7:=hY (gB w4 65 (⟨nk,y.v,y.sl,y.so⟩:LE).cells.toArray);have e6:Nw w4 (w4.alloc (.cells (⟨nk,y.v,y.sl,y.so⟩:LE).cells.toArray 65)):=gA ((gz w4).alloc _ _);have o8:=hY e6;have o3:=hY (I.o.nwS (b6.o.trans e6)).own;have f5:xs.length<=xM.length:=by
   have h1:=congrArg List.length I.o.ents;rw[aq,aq]at h1;have h2:(BO (es.take j) f).length<=(es.take j).length:=bE _ _;rw[au]at h2;omega
  obtain⟨o5,p4,o4⟩:=Yc (show xs.length+1<=maxLen by unfold maxLen;omega) (show(xs.length+1)*104<=140737488355328 by omega) (show w.heap.size+1<=(w4.alloc (.cells (⟨nk,y.v,y.sl,y.so⟩:LE).cells.toArray 65)).heap.size from by have:=I.o.below _ I.o.map.hm;have:=(b6.o.trans e6).size;omega);clear e6 g7 f5;go_wp2_with(at_builtin;refine Bq _ rfl (.tmp 75) (.tmp 86) 22 rfl (w.heap.size+1) 65 i0 _ 7 104 underlying22 hi n6 p5 o1 rfl oN s xs.length (AP xs) rfl o3.o (λb=>b=w4.heap.size) ⟨some w4,1⟩ 1 (⟨nk,y.v,y.sl,y.so⟩:LE).cells rfl (gG n7.o oN rfl) (LE.one _) o5.o p4.o o4.o ?_;intro s7 w9 d8 f2 k4;have p6:=hY d8;have n9:=hY f2;have l9:=hY k4;clear d8 f2 k4);go_roundw
  case measure=>simp[intOf];omega
  obtain⟨G',Z⟩:=I.o.gone (x:=⟨nk,y.v,y.sl,y.so⟩) e0.o HB.o (by show AT (An f t y.k)=0;rw[b5.o];exact i4.o) f6.o (by show(nk,y.v)=(An f t y.k,y.v);rw[b5.o]) ⟨j2.o,f4.o⟩ (b6.o.trans o8.o) p6.o n9.o l9.o;exact⟨j+1,s7,xs++[⟨nk,y.v,y.sl,y.so⟩],G',by rw[aj];rfl,by go_num,b8,hY Z⟩
 obtain rfl:j=xM.length:=oM
 have g1:decide ((xM.length:Int)<(xM.length:Int))=false:=eM oM;have Z:=I.o;have a8:=Z.ents;have b3:=Z.zero;have d7:=Z.map;rw[f8.o,aR]at a8 b3 d7;have j6:∀x∈xs,AT x.k=0/\AY x.v=0/\Ah x.v<=1100000:=λx hx=>by
  have h1:x.ent∈(BO es f).map λe=>(An f t e.1,e.2):=by rw[<-a8];exact dg hx
  obtain⟨e,he,h2⟩:=bX.1 h1;have h3:=L6 b3 e he;have h4:=(HM.o.ok e (bK.1 he).1).2;have e1:An f t e.1=x.k:=congrArg Prod.fst h2;have e2:e.2=x.v:=congrArg Prod.snd h2;rw[e1]at h3;rw[e2]at h4;exact⟨h3,h4.2,an h4.cnt oN⟩
 have f5:xs.length<=100000:=by
  have h1:=congrArg List.length a8;rw[aq,aq]at h1;have h2:(BO es f).length<=es.length:=bE _ _;have:=f8.o;omega
 have g5:(B8 es f).length<=100000:=by
  have h2:(B8 es f).length<=es.length:=bE _ _;have:=f8.o;omega
 have i3:r=(0,A0 (B8 es f) (xs.map LE.ent)):=by
  rw[<-HR.o,a8];unfold CN;rw[eL (by simp[b3])]
 have k9:ES wr (Lt wr) s xs:=⟨(gF Z.own).mono λb N=>N.2,λx hx=>⟨((Z.vals x hx).1.agree (gC Z.nw λb N=>N.1)).mono λb N=>ab N.1 Z.nw.size,(Z.vals x hx).2⟩,oM⟩;obtain⟨k5,j7,n2,p7,e4⟩:=Yf i3 j6 g5 k9 (show(∀b,H b->G b)/\(∀b,G b->H b\/w.heap.size<=b)/\(∀b,G b->b<wr.heap.size)/\MapAt G wr w.heap.size (A0 (B8 es f) ((xs.take 0).map LE.ent))/\Nw wr wr from⟨Z.sub,Z.low,Z.below,d7,gE _ _⟩);clear Z a8 b3 d7 j6 g5 i3 k9;obtain⟨w5,rfl⟩:∃w5,w5=wr:=⟨_,rfl⟩;go_wp2_with fail;go_loopw[8,15,16] (λv8 l5 p1 wq=>∃(j M':Nat) (G':Nat->Prop),v8=.pointer (some M')/\l5=.int .i64 0/\p1=.int .i64 (j:Int)/\j<=xs.length/\Yd ((∀b,H b->G' b)/\(∀b,G' b->H b\/w.heap.size<=b)/\(∀b,G' b->b<wq.heap.size)/\MapAt G' wq M' (A0 (B8 es f) ((xs.take j).map LE.ent))/\Nw w5 wq)) (λ_ _ v _=>xs.length -(intOf v).toNat)
 case atStart=>exact⟨0,w.heap.size,G,rfl,rfl,rfl,aw _,e4⟩
 obtain⟨j,M',G',rfl,rfl,rfl,hj,HQ⟩:=hrel;clear c0 g1;by_cases b8:j<xs.length
 ·have l1:(j:Int)<(xs.length:Int):=oM
  have o2:decide ((j:Int)<(xs.length:Int))=true:=eO l1;have l0:(0:Int)<=(j:Int):=oM
  obtain⟨x,hx⟩:∃x,xs[j]? = some x:=⟨_,ac b8⟩;obtain⟨b0,o0,c7,a9,l4,p3,cK,c9,-,b7⟩:=p7.o.at hx;have k8:=(I.o.vals x (ap hx)).1;obtain⟨g3,f9,i5⟩:=j7.o x (ap hx);obtain⟨q1,q2,q3,q4,q5⟩:=HQ.o;have a0:=hY (show ∀W,Nw wr W->W.cell? ⟨b0,o0+j*7,none⟩=some (.string x.k)/\W.cell? ⟨b0,o0+j*7+1,none⟩=some (.int .i64 x.v.kind)/\W.cell? ⟨b0,o0+j*7+1+1,none⟩=some (.bool x.v.b)/\W.cell? ⟨b0,o0+j*7+1+2,none⟩=some (.int .i64 x.v.i)/\W.cell? ⟨b0,o0+j*7+1+3,none⟩=some (.string x.v.t)/\W.cell? ⟨b0,o0+j*7+1+4,none⟩=some (.slice x.sl.a x.v.l.length x.sl.c)/\W.cell? ⟨b0,o0+j*7+1+5,none⟩=some (.slice x.so.a x.v.ok.length x.so.c)from
   λW hW=>by
    have ha:=gC (q5.trans hW) (F:=Lt w5) λb N=>N
    have h2:=c9.agree ha a9;exact⟨(ha.cell a9).trans cK,h2.c0,h2.c1,h2.c2,h2.c3,h2.c4,h2.c5⟩)
  have e7:Nw w wr:=I.o.nw.trans q5;have f3:setMu (A0 (B8 es f) ((xs.take j).map LE.ent)) x.k x.v=(0,AU (A0 (B8 es f) ((xs.take j).map LE.ent)) x.k x.v):=eJ (Mt.2 ⟨g3,f9⟩) (TN ⟨g3,f9⟩);have b4:∀W,Nw wr W->Calls prog 19 #[.pointer (some M'),.string x.k,AS x.v x.sl x.so] W λe w'=>∃M2,e=.returned (.tuple #[.pointer (some ⟨M2,0,none⟩),.int .i64 0])/\Ed G' W (AU (A0 (B8 es f) ((xs.take j).map LE.ent)) x.k x.v) M2 w':=λW hW=>by
   have h:=JR (GC q4 hW) (λb N=>ab (q3 b N) hW.size) (U' _ (JB HM.o.sorted f)) (by have h1:=FI ((xs.take j).map LE.ent) (B8 es f);rw[aq,au]at h1;have:=n2.o;omega) b7 (v:=x.v) (sl:=x.sl) (so:=x.so) ((k8.agree (gC (e7.trans hW) λb N=>N.1)).mono λb N=>⟨Nat.lt_of_lt_of_le N.1 (e7.trans hW).size,λhg=>(q2 b hg).elim N.2 λh=>by have:=N.1;omega⟩) i5;rw[f3]at h;exact h
  have c8:=hY b4;have d6:A0 (B8 es f) ((xs.take (j+1)).map LE.ent)=AU (A0 (B8 es f) ((xs.take j).map LE.ent)) x.k x.v:=by
   rw[aK,hx,aB];show A0 _ (_++[(x.k,x.v)])=_;rw[I4]
  have g4:=hY d6;have q0:=e7.size;rw[c7];clear hx c7 a9 cK c9 b7 k8 g3 f9 i5 q1 q2 q3 q4 q5 e7 f3 b4 d6;go_wp2_with fail;refine eV (S:=(λw'=>Nw wr w')) kM ((gA ((gz wr).drew))) (λhHeld=>?_);refine AF 0 (some 99) a0 hHeld ?_;refine AF 1 (some 100) a0 hHeld ?_;refine AF 2 (some 101) a0 hHeld ?_;refine AF 3 (some 102) a0 hHeld ?_;refine AF 4 (some 103) a0 hHeld ?_;refine AF 5 (some 104) a0 hHeld ?_;refine AF 6 (some 105) a0 hHeld ?_;refine AF 7 (some 106) a0 hHeld ?_;refine AF 8 (some 107) a0 hHeld ?_;refine AF 9 (some 108) a0 hHeld ?_;refine AF 10 (some 109) a0 hHeld ?_;refine Af (i:=11) kM rfl (by rfl) (λK hK=>?_);go_simp
  (have o9:=hY hHeld;refine(c8.o _ hHeld).mono ?_;rintro e w7 ⟨M2,rfl,f0⟩;have f1:=hY f0;clear f0)
  refine hK.out _ _ (hHeld.trans f1.o.nw) (λhHeld=>?_);clear hK K
  try go_frame
  refine AF 12 (some 98) a0 hHeld ?_;refine AF 13 (some 111) a0 hHeld ?_;refine AF 14 (some 112) a0 hHeld ?_;refine AF 15 (some 8) a0 hHeld ?_;refine AF 16 (some 15) a0 hHeld ?_;refine fa kM ?_ _;go_wp2_with fail;go_roundw
  case measure=>simp[intOf];omega
  obtain⟨q1,q2,q3,q4,q5⟩:=HQ.o;obtain⟨G2,a1,a2,a3,a4,a5,a6⟩:=f1.o;have z6:=o9.o.size;exact⟨j+1,M2,G2,rfl,rfl,by go_num,b8,hY ⟨λb N=>a1 b (q1 b N),λb N=>(a2 b N).elim (q2 b) λh=>.inr oM,a3,by rw[g4.o];exact a5,q5.trans hHeld⟩⟩
 obtain rfl:j=xs.length:=oM
 have g1:decide ((xs.length:Int)<(xs.length:Int))=false:=eM oM;have e3:=hY (show CI H w (A0 (B8 es f) (xs.map LE.ent)) M' wr from by
  obtain⟨q1,q2,q3,q4,q5⟩:=HQ.o;rw[aR]at q4;exact⟨G',q1,q2,q3,q4,I.o.nw.trans q5⟩)
 go_wp2_with fail;go_ret2;exact⟨M',by rw[k5.o]<;>rfl,by rw[k5.o];exact e3.o⟩
def ku{M:Nat}{es:List AD}(h:MapAt H w M es)(hso:Sorted es)(k:AA)(had:Bool){was:Val}(hv:RV w (Lt w.heap.size) was sl so) :
  Calls prog 66 #[.pointer (some M),k,had,AS was sl so] w λe w'=>e=.returned (asM es k had was)/\Ext w w':=by
 obtain⟨r,hr⟩:∃r,asM es k had was=r:=⟨_,rfl⟩;rw[hr];unfold asM at hr;obtain⟨HSO,HV,HR,HM⟩:=Ye hso hv hr h;clear hso h hv hr;go_in;go_upto_region 1 with fail;generalize hW0:World.alloc _ _=W0;obtain⟨hx0,hb0⟩:Ext w W0/\AE W0 w.heap.size 54 (Cl was sl so):=by rw[<-hW0];exact⟨(gz w).alloc _ _,gB w _ _⟩
 obtain⟨HG,HX0,HB0⟩:=Yc (MH (HM.o.ext hx0) HSO.o k) hx0 hb0;clear hW0 hx0 hb0;go_wp2_with fail;refine HG.o.mono ?_;rintro e w1 ⟨s1,s2,rfl,hx1,hv1⟩;obtain⟨HX1,HB1⟩:=Yb (HX0.o.trans hx1) (HB0.o.ext hx1);obtain⟨og,hog⟩:∃og,AH es k=og:=⟨_,rfl⟩;rw[hog]at hv1 HR ⊢;have HV1:=hY (hv1.mono λb hb=>ab hb hx1.size);clear hx1 hv1 hog HG HX0 HB0;cases og with
 | none=>
   have hr:(!had)=r:=HR.o;subst hr;cases had with
   | false=>
     go_wp2_with fail;go_ret;exact⟨rfl,HX1.o.alloc _ _⟩
   | true=>
     go_wp2_with fail;go_ret;exact⟨rfl,HX1.o.alloc _ _⟩
 | some x=>
   have hr:(had&&decide (AW x was=0))=r:=HR.o;cases had with
   | false=>
     have hr:false=r:=hr;subst hr;go_wp2_with fail;go_ret;exact⟨rfl,HX1.o.alloc _ _⟩
   | true=>
     have HR2:=hY hr;have hcall:∀W,Ext w1 W->Calls prog 28 #[AS x s1 s2,AS was sl so] W (DO (AW x was) W):=λW hW=>
      Gf _ x was (ao _) W s1 s2 sl so ((HV1.o.agree (hW.agree λb hb=>hb)).mono λb hb=>ab hb hW.size) ((HV.o.agree ((HX1.o.trans hW).agree λb hb=>hb)).mono λb hb=>ab hb (HX1.o.trans hW).size)
     have HC:=hY hcall;clear hr hcall;go_upto_region 2 with fail;generalize hW2:World.alloc w1 _=w2;obtain⟨hx2,hb2⟩:Ext w1 w2/\AE w2 w1.heap.size 54 (Cl x s1 s2):=by rw[<-hW2];exact⟨(gz w1).alloc _ _,gB w1 _ _⟩
     obtain⟨b0,b1,b2,b3,b4,b5⟩:=(HB1.o.ext hx2).c6;obtain⟨d0,d1,d2,d3,d4,d5⟩:=hb2.c6;have HX2:=hY hx2;clear hW2 hx2 hb2;go_wp2_with fail;refine(HC.o _ HX2.o).mono ?_;rintro e w3 ⟨rfl,hx3⟩;have HX3:=hY ((HX1.o.trans HX2.o).trans hx3);clear hx3;go_wp2_with fail;go_ret;refine⟨?_,HX3.o⟩;rw[<-HR2.o];by_cases hz:AW x was=0<;>simp[hz,Act.put]
def gS(a b c d e f:Prop):¬a\/(a/\¬b)\/(a/\b/\¬c)\/(a/\b/\c/\¬d)\/(a/\b/\c/\d/\¬e)\/(a/\b/\c/\d/\e/\¬f)\/(a/\b/\c/\d/\e/\f):=by
 by_cases a<;>by_cases b<;>by_cases c<;>by_cases d<;>by_cases e<;>by_cases f<;>simp[*]
def pE(w:AB)(v:Val)(sl so:Sl):Calls prog 154 #[AS v sl so,AS zeroV Sl.none Sl.none] w λe w'=>e=.returned (BJ v)/\Ext w w':=by
 obtain⟨k,b,i,t,l,ok,ov⟩:=v;show Calls _ _ #[.agg #[k,b,i,t,.slice sl.a l.length sl.c,.slice so.a ok.length so.c],.agg #[.int .i64 0,false,.int .i64 0,ByteArray.empty,.slice none 0 0,.slice none 0 0]] _ λe w'=>e=.returned (.bool (k==0 && !b&&i==0&&t.size==0&&l.length==0&&ok.length==0))/\Ext w w'
 have hx:=((gz w).alloc #[.int .i64 k,.bool b,.int .i64 i,.string t,.slice sl.a l.length sl.c,.slice so.a ok.length so.c] 54).alloc #[.int .i64 0,.bool false,.int .i64 0,.string ByteArray.empty,.slice none 0 0,.slice none 0 0] 54;have I:=hY hx;clear hx;rcases gS (k=0) (b=false) (i=0) (t.size=0) (l.length=0) (ok.length=0)with h |⟨h1,h⟩ |⟨h1,h2,h⟩ |⟨h1,h2,Z,h⟩ |⟨h1,h2,Z,N,h⟩ |⟨h1,h2,Z,N,h5,h⟩ |⟨h1,h2,Z,N,h5,h6⟩
 ·have g:(k == 0)=false:=eP.2 h
  have g':(k != 0)=true:=fg.2 h;go_in;go_wp2_with fail;go_ret;exact⟨by simp[h],I.o⟩
 ·subst h1
  obtain rfl:b=true:=by simpa using h
  go_in;go_wp2_with fail;go_ret;exact⟨oO,I.o⟩
 ·subst h1 h2
  have g:(i==0)=false:=eP.2 h;have g':(i != 0)=true:=fg.2 h;go_in;go_wp2_with fail;go_ret;exact⟨by simp[h],I.o⟩
 ·subst h1 h2 Z
  have g:=EG h;go_in;go_wp2_with fail;go_ret;exact⟨by simp[h],I.o⟩
 ·subst h1 h2 Z
  have g4:=Dm N;have g:((l.length:Int)==0)=false:=eP.2 oM;have g':((l.length:Int) != 0)=true:=fg.2 oM;go_in;go_wp2_with fail;go_ret;exact⟨by simp[h],I.o⟩
 ·subst h1 h2 Z
  have g4:=Dm N;obtain rfl:=cg.1 h5;have g:((ok.length:Int)==0)=false:=eP.2 oM;have g':((ok.length:Int) != 0)=true:=fg.2 oM;go_in;go_wp2_with fail;go_ret;exact⟨by simp[h],I.o⟩
 subst h1 h2 Z;have g4:=Dm N;obtain rfl:=cg.1 h5;obtain rfl:=cg.1 h6;have HT:=hY N;clear N h5 h6;go_in;go_wp2_with fail;go_loopw[5] (λv5 wr=>v5=.int .i64 0/\Yd (Ext w wr)/\wr=(w.alloc (.cells #[.int .i64 0,false,.int .i64 0,t,.slice sl.a 0 sl.c,.slice so.a 0 so.c] 54)).alloc (.cells #[.int .i64 0,false,.int .i64 0,ByteArray.empty,.slice none 0 0,.slice none 0 0] 54)) (λ_ _=>0)
 case atStart=>exact⟨rfl,I,rfl⟩
 obtain⟨rfl,HY,rfl⟩:=hrel;go_wp2_with fail;go_loopw[6] (λv6 wr=>v6=.int .i64 0/\Yd (Ext w wr)/\wr=(w.alloc (.cells #[.int .i64 0,false,.int .i64 0,t,.slice sl.a 0 sl.c,.slice so.a 0 so.c] 54)).alloc (.cells #[.int .i64 0,false,.int .i64 0,ByteArray.empty,.slice none 0 0,.slice none 0 0] 54)) (λ_ _=>0)
 case atStart=>exact⟨rfl,I,rfl⟩
 obtain⟨rfl,HZ,rfl⟩:=hrel;go_wp2_with fail;go_ret;exact⟨by simp[HT.o],I.o⟩
def TC(w:AB)(v:Val)(sl so:Sl):Calls prog 124 #[AS v sl so] w λe w'=>e=.returned (BJ v)/\Ext w w':=by
 obtain⟨k,b,i,t,l,I,ov⟩:=v;have N:=λW=>pE W (.mk k b i t l I ov) sl so
 obtain⟨HQ,HX⟩:=Yb N ((gz w).alloc #[.int .i64 k,.bool b,.int .i64 i,.string t,.slice sl.a l.length sl.c,.slice so.a I.length so.c] 54);clear N;show Calls _ _ #[.agg #[k,b,i,t,.slice sl.a l.length sl.c,.slice so.a I.length so.c]] _ _;go_in;go_wp2_with fail;refine(HQ.o _).mono ?_;rintro e w' ⟨rfl,Z⟩;have HY:=hY (HX.o.trans Z);clear Z;go_wp2_with fail;go_ret;exact⟨rfl,HY.o⟩
def Zo(t:AA):(t.size==0)=t.toList.isEmpty:=by
 by_cases h:t.size=0
 .rw [Dm h];simp[h]
 rw[EG h];simp[h]
def len_nil(n:Nat):(n==0)=((n:Int)==0):=by
 by_cases h:n=0
 .simp [h]
 rw[eP.2 h,eP.2 oM]
def L'(m:Mu):BB m=(decide (1<=m.kd/\m.kd<=7)&&(m.kd==6||m.tk.toList.isEmpty)&&(m.kd==3||m.i==0)&&(m.kd==4||m.kd==7 || !m.had)&&(m.kd==4 || !m.has)&&(m.had||BJ m.was)&&(BP m.kd m.has||BJ m.v)&&(m.kd==7 ||((m.l.length:Int)==0))):=by
 unfold BB Ct BP;rw[Zo,len_nil]
def CV{p q r:Prop}(h:p\/q)(k:r):q\/(p/\r):=h.elim (λI=>.inr ⟨I,k⟩) .inl
def MU{p q r s:Prop}(h:p\/q)(k:r)(l:s):(p/\r)\/(q/\s):=h.elim (λI=>.inl ⟨I,k⟩) λN=>.inr ⟨N,l⟩
def bt(b:Bool):b=true\/b=false:=by cases b<;>simp
def bf(b:Bool):b=false\/b=true:=by cases b<;>simp
def kinds{k:Int}{s:Bool}(h:1<=k/\k<=7){A B C D E F:Prop}(a:A)(b:B)(c:C)(d:D)(e:E)(f:F) :
  ((k==6)=false/\(k==3)=false/\(k==4)=false/\(k==7)=false/\BP k s=true/\A)\/
  ((k==6)=false/\(k==3)=false/\(k==4)=false/\(k==7)=false/\BP k s=false/\B)\/
  ((k==6)=false/\(k==3)=true/\(k==4)=false/\(k==7)=false/\BP k s=false/\C)\/
  ((k==6)=false/\(k==3)=false/\(k==4)=true/\(k==7)=false/\BP k s=s/\D)\/
  ((k==6)=true/\(k==3)=false/\(k==4)=false/\(k==7)=false/\BP k s=false/\E)\/
  ((k==6)=false/\(k==3)=false/\(k==4)=false/\(k==7)=true/\BP k s=false/\F):=by
 have I:k=1\/k=2\/k=3\/k=4\/k=5\/k=6\/k=7:=oM
 rcases I with rfl|rfl|rfl|rfl|rfl|rfl|rfl<;>simp[BP,a,b,c,d,e,f]
def ki(w:AB)(m:Mu)(c:AR):Calls prog 95 #[Ap m c] w λe w'=>e=.returned (BB m)/\Ext w w':=by
 obtain⟨r,hr⟩:∃r,BB m=r:=⟨_,rfl⟩;rw[hr];obtain⟨vl,b4⟩:∃b,BP m.kd m.has=b:=⟨_,rfl⟩;rw[L',b4]at hr;have HR:=hY hr;have b9:=hY λW=>TC W m.was c.w1 c.w2
 have d3:=hY λW=>TC W m.v c.v1 c.v2
 clear hr;obtain⟨gd,b8⟩:∃b,(m.kd==4||m.kd==7)=b:=⟨_,rfl⟩;obtain⟨HG,HL⟩:=Yb b8 b4;clear b8 b4;go_in;go_upto_region 1 with fail;generalize b7:World.alloc _ _=W0;obtain⟨b6,b5,-⟩:=Bh (m:=m) (c:=c) b7;obtain⟨a0,a2⟩:=Yb b6 b5;have c0:=b5.kind;clear b7 b6 b5;by_cases I:m.kd<1
 ·have g:decide (m.kd<1)=true:=eO I
  have HO:=hY I;clear I;go_wp2_with fail;go_ret;exact⟨by rw[<-HR.o,eM (λh=>by have:=HO.o;omega)]<;>rfl,a0.o⟩
 by_cases a1:7<m.kd
 ·have g:decide (m.kd<1)=false:=eM I
  have g':decide (7<m.kd)=true:=eO a1;have HO:=hY a1;clear I a1;go_wp2_with fail;go_ret;exact⟨by rw[<-HR.o,eM (λh=>by have:=HO.o;omega)]<;>rfl,a0.o⟩
 have g:decide (m.kd<1)=false:=eM I;have g':decide (7<m.kd)=false:=eM a1;have HK:=hY (show 1<=m.kd/\m.kd<=7 by omega);have HD:=hY (eO HK.o);rw[HD.o]at HR;clear I a1 HD;go_upto_region 4 with fail;clear g g' c0;go_cut [4] (λv w'=>v=.bool gd/\w'=W0)
 case first=>
  cases h4:(m.kd==4)with
  |true=>go_wp2_with fail;go_meet;case rel=>exact⟨by rw[<-HG.o];simp[h4],rfl⟩
  |false=>cases h7:(m.kd==7) <;>(go_wp2_with fail;go_meet;case rel=>exact⟨by rw[<-HG.o];simp[h4,h7],rfl⟩)
 obtain⟨hv,hw⟩:=hcut;subst hv;obtain rfl:W0=wc:=hw.symm;have Z:=a2.o.c11;go_upto_region 5 with fail;go_cut [5] (λv w'=>v=.bool vl/\w'=W0)
 case first=>
  cases h1:(m.kd==1)with
  |true=>go_wp2_with fail;go_meet;case rel=>exact⟨by rw[<-HL.o];simp[BP,h1],rfl⟩
  | false=>cases h5:(m.kd == 5) with
    |true=>go_wp2_with fail;go_meet;case rel=>exact⟨by rw[<-HL.o];simp[BP,h1,h5],rfl⟩
    |false=>cases h4:(m.kd==4) <;>(go_wp2_with fail;go_meet;case rel=>exact⟨by rw[<-HL.o];simp[BP,h1,h4,h5],rfl⟩)
 obtain⟨hv,hw⟩:=hcut;subst hv;obtain rfl:W0=wc:=hw.symm;clear Z;obtain⟨c0,c1,c2,c3,c4,c5,c6,c7,c8,c9,a8,Z,b0,a9,a4,a3,a5,a7,a6⟩:=a2.o.c19;simp only[Nat.zero_add]at c0 c1 c2 c3 c4 c5 c6 c7 c8 c9 a8 Z b0 a9 a4 a3 a5 a7 a6;have X:=MU (bt m.has) (bt ((m.l.length:Int)==0)) (CV (bt (BJ m.v)) (bt ((m.l.length:Int)==0)));have zl:=CV (bt (BJ m.was)) (CV (bt (BJ m.v)) (bt ((m.l.length:Int)==0)));have hz:=CV (bf m.had) (CV (bf m.has) zl);have cP:=CV (bt m.tk.toList.isEmpty) (CV (bt (m.i==0)) (CV (bf m.had) (CV (bf m.has) (CV (bt (BJ m.was)) (bt ((m.l.length:Int)==0))))));have cD:=CV (bt m.tk.toList.isEmpty) (CV (bt (m.i==0)) hz);have cI:=CV (bt m.tk.toList.isEmpty) hz;have cM:=CV (bt (m.i==0)) hz;have cC:=CV (bt m.tk.toList.isEmpty) (CV (bt (m.i==0)) (MU (bt m.had) X (CV (bt (BJ m.was)) X)));have cS:=CV (bt m.tk.toList.isEmpty) (CV (bt (m.i==0)) (CV (bf m.has) (MU (bt m.had) (bt (BJ m.v)) (CV (bt (BJ m.was)) (bt (BJ m.v))))));have d0:=kinds (s:=m.has) HK.o cP cD cI cC cM cS;clear X zl hz cP cD cI cM cC cS;rcases d0 with⟨h6,h3,h4,h7,hV,g1 |⟨g1,g2 |⟨g2,g3 |⟨g3,N |⟨N,g5 |⟨g5,g|g⟩⟩⟩⟩⟩⟩ |
  ⟨h6,h3,h4,h7,hV,g1 |⟨g1,g2 |⟨g2,g3 |⟨g3,N |⟨N,g5 |⟨g5,g6 |⟨g6,g|g⟩⟩⟩⟩⟩⟩⟩ |
  ⟨h6,h3,h4,h7,hV,g1 |⟨g1,g3 |⟨g3,N |⟨N,g5 |⟨g5,g6 |⟨g6,g|g⟩⟩⟩⟩⟩⟩ |
  ⟨h6,h3,h4,h7,hV,g1 |⟨g1,g2 |⟨g2,⟨g3,⟨N,g|g⟩ |⟨N,g6 |⟨g6,g|g⟩⟩⟩ |⟨g3,g5 |⟨g5,⟨N,g|g⟩ |⟨N,g6 |⟨g6,g|g⟩⟩⟩⟩⟩⟩⟩ |
  ⟨h6,h3,h4,h7,hV,g2 |⟨g2,g3 |⟨g3,N |⟨N,g5 |⟨g5,g6 |⟨g6,g|g⟩⟩⟩⟩⟩⟩ |
  ⟨h6,h3,h4,h7,hV,g1 |⟨g1,g2 |⟨g2,N |⟨N,⟨g3,g6|g6⟩ |⟨g3,g5 |⟨g5,g6|g6⟩⟩⟩⟩⟩⟩
 all_goals (
  have hG:=HG.o;have hU:=HL.o;rw[h4,h7]at hG;rw[hV]at hU;subst hG hU;go_wp2_with fail
  repeat (
   first|refine(b9.o _).mono ?_|refine(d3.o _).mono ?_
   rintro e W1 ⟨rfl,b3⟩
   replace a0:=hY (a0.o.trans b3)
   replace a2:=hY (a2.o.ext b3)
   clear b3 c0 c1 c2 c3 c4 c5 c6 c7 c8 c9 a8 Z b0 a9 a4 a3 a5 a7 a6;obtain⟨c0,c1,c2,c3,c4,c5,c6,c7,c8,c9,a8,Z,b0,a9,a4,a3,a5,a7,a6⟩:=a2.o.c19;simp only[Nat.zero_add]at c0 c1 c2 c3 c4 c5 c6 c7 c8 c9 a8 Z b0 a9 a4 a3 a5 a7 a6;go_wp2_with fail)
  go_ret;have hR:=HR.o;simp only[h6,h3,h4,h7,hV, *,Bool.and_true,Bool.true_and,Bool.false_and,Bool.and_false,Bool.or_true,Bool.true_or,Bool.false_or,Bool.or_false,Bool.not_true,Bool.not_false]at hR;subst hR;exact⟨by simp[Act.put]<;>rfl,a0.o⟩)
def O6(w:AB)(p:AA):Calls prog 125 #[p] w λe w'=>e=.returned (CU p)/\w'=w:=by
 by_cases h:p.size<=64
 ·have I:CU p=Lib.validD p.data.toList:=by unfold CU;rw [eO h];rfl
  obtain⟨HB,N⟩:=Yb I (IX w p oM);have g:((p.size:Int)<=64):=oM
  clear I h;go_in;go_wp2_with fail;refine N.o.mono ?_;rintro e w' ⟨rfl,rfl⟩;go_wp2_with fail;go_ret;exact⟨by rw[HB.o]<;>rfl,rfl⟩
 have I:CU p=false:=by unfold CU;rw[eM h];rfl
 have HB:=hY I;have g:¬((p.size:Int)<=64):=oM
 clear I h;go_in;go_wp2_with fail;go_ret;exact⟨by rw[HB.o]<;>rfl,rfl⟩
def jO(w:AB)(m:Mu)(c:AR)(hk:m.k.size<=maxLen):Calls prog 96 #[Ap m c] w λe w'=>e=.returned (Bb m.kd m.k m.tk m.had)/\Ext w w':=by
 by_cases h6:m.kd=6
 ·have hr:Bb m.kd m.k m.tk m.had=(CU m.k && CU m.tk):=by unfold Bb;rw [eN h6]
  have HR:=hY hr;have e6:(m.kd==6)=true:=by simp[h6]
  clear hr h6 hk;go_in;go_upto_region 1 with fail;generalize Z:World.alloc _ _=W0;obtain⟨N,I,a2⟩:=Bh (m:=m) (c:=c) Z;have a0:=hY N;have c0:=I.kind;have c1:=I.c1;have c2:=I.c2;clear Z N I a2;go_wp2_with fail;refine(O6 W0 m.k).mono ?_;rintro e w1 ⟨rfl,rfl⟩;rcases be (CU m.k)with hb|hb
  ·have HB:=hY hb
   rw[hb];clear hb;go_wp2_with fail;refine(O6 _ m.tk).mono ?_;rintro e w2 ⟨rfl,rfl⟩;go_wp2_with fail;go_ret;exact⟨by rw[HR.o,HB.o]<;>rfl,a0.o⟩
  have HB:=hY hb;rw[hb];clear hb;go_wp2_with fail;go_ret;exact⟨by rw[HR.o,HB.o]<;>rfl,a0.o⟩
 have e6:(m.kd==6)=false:=by simp[h6]
 by_cases a1:m.kd=7/\m.k.size=0
 ·have e7:(m.kd == 7)=true:=by simp [a1.1]
  have hr:Bb m.kd m.k m.tk m.had=!m.had:=by unfold Bb;rw[eL h6,eN a1]
  have HR:=hY hr;have g0:=Dm a1.2;clear hr h6 hk a1;go_in;go_upto_region 1 with fail;generalize Z:World.alloc _ _=W0;obtain⟨N,I,a2⟩:=Bh (m:=m) (c:=c) Z;have a0:=hY N;have c0:=I.kind;have c1:=I.c1;have c4:=I.c4;clear Z N I a2;go_wp2_with fail;go_ret;exact⟨by rw[HR.o]<;>rfl,a0.o⟩
 have hr:Bb m.kd m.k m.tk m.had=(AT m.k==0):=by unfold Bb;rw[eL h6,eL a1]
 have HR:=hY hr;have HM:=hY λW=>MY W m.k hk
 have a3:(m.kd==7)=false\/(m.kd==7)=true/\¬m.k.size=0:=by
  by_cases h7:m.kd=7
  .exact .inr ⟨by simp[h7],λh=>a1 ⟨h7,h⟩⟩
  exact .inl (by simp[h7])
 clear hr h6 a1 hk;rcases a3 with e7 |⟨e7,h0⟩
 ·go_in
  go_upto_region 1 with fail;generalize Z:World.alloc _ _=W0;obtain⟨N,I,a2⟩:=Bh (m:=m) (c:=c) Z;have a0:=hY N;have c0:=I.kind;have c1:=I.c1;clear Z N I a2;go_wp2_with fail;refine(HM.o _).mono ?_;rintro e w1 ⟨rfl,rfl⟩;go_wp2_with fail;go_ret;exact⟨by rw[HR.o]<;>rfl,a0.o⟩
 have g0:=EG h0;clear h0;go_in;go_upto_region 1 with fail;generalize Z:World.alloc _ _=W0;obtain⟨N,I,a2⟩:=Bh (m:=m) (c:=c) Z;have a0:=hY N;have c0:=I.kind;have c1:=I.c1;clear Z N I a2;go_wp2_with fail;refine(HM.o _).mono ?_;rintro e w1 ⟨rfl,rfl⟩;go_wp2_with fail;go_ret;exact⟨by rw[HR.o]<;>rfl,a0.o⟩
def ZP(n:Nat):∀(m:Mu) (c:AR) (w:AB),SizeOf.sizeOf m<=n->AK w (Lt w) m c->Ag m<=1100000->Calls prog 62 #[Ap m c] w λe w'=>e=.returned (.int .i64 (Ag m:Int))/\Ext w w':=by
 induction n with
 |zero=>intro m c w h;have:=Mu.CM m;omega
 | succ n ih=>
   intro m c w hn hm hs;obtain⟨HI,HM⟩:=Yb ih hm;have d0:=hm.len;obtain⟨b3,HS,HN⟩:=Yc (Gy m) hs hn;clear ih hm hs hn;go_in;go_upto_region 1 with fail;generalize a1:World.alloc _ _=W0;obtain⟨a7,b5,-⟩:=Bh (m:=m) (c:=c) a1;have b7:=hY a7;have c6:w.heap.size<W0.heap.size:=by rw[<-a1,eQ];omega
   have b6:W0.cell? ⟨w,8+10,none⟩=some (.slice c.s.a m.l.length c.s.c):=b5 18 _ rfl;clear a1 a7 b5;go_wp2_with fail;go_loopw[3,4] (λv3 v4 wr=>∃j:Nat,v4=.int .i64 (j:Int)/\v3=.int .i64 ((1+A4 (m.l.take j):Nat):Int)/\j<=m.l.length/\Yd (Ext W0 wr)) (λ_ v _=>m.l.length -(intOf v).toNat)
   case atStart=>exact⟨0,rfl,by simp[A4],aw _,hY (gz W0)⟩
   obtain⟨j,rfl,rfl,hj,a0⟩:=hrel;have a5:wr.cell? ⟨w,8+10,none⟩=some (.slice c.s.a m.l.length c.s.c):=(a0.o.cell c6).trans b6;have HX:=hY (b7.o.trans a0.o);by_cases a4:j<m.l.length
   ·have l1:(j:Int)<(m.l.length:Int):=oM
    have d5:decide ((j:Int)<(m.l.length:Int))=true:=eO l1;have l0:(0:Int)<=(j:Int):=oM
    obtain⟨x,hx⟩:∃x,m.l[j]? = some x:=⟨_,ac a4⟩;obtain⟨b,o,y,c8,a2,d3,d4,a8,b0⟩:=HM.o.at hx;have a2:b<w:=a2;have a9:=hY (a8.agree (HX.o.agree λ_ h=>h) a2);have b8:Ag x<=A4 m.l:=by
     have h1:=GD hx;have h2:=GW m.l (j+1);omega
    have a6:1+A4 m.l<=1100000:=by rw[<-b3.o];exact HS.o
    have I:=HI.o x y wr (by have:=Mu.Gc hx;have:=HN.o;omega) ((b0.agree (HX.o.agree λ_ h=>h)).mono λb hb=>ab hb HX.o.size) oM;obtain⟨Z,b9⟩:=Yb I (GD hx);have N:=GW m.l (j+1);have b4:wrap64 (1+(A4 (m.l.take j):Int)+(Ag x:Int))=((1+A4 (m.l.take (j+1)):Nat):Int):=by
     unfold wrap64;rw[b9.o]at N ⊢;omega
    have c9:=hY b4;rw[c8]at a5;clear b0 a8 b8 a6 I N b4 hx;go_wp2_with(refine A9 rfl (.tmp 16) rfl b (o+j*19) rfl x y a9.o ?_);refine Z.o.mono ?_;rintro e w2 ⟨rfl,a3⟩;have c7:=hY (a0.o.trans a3);clear a3;go_wp2_with fail;go_roundw
    case rel=>exact⟨j+1,by go_num,by rw[c9.o],a4,c7⟩
    simp[intOf];omega
   obtain rfl:j=m.l.length:=oM
   have l1:decide ((m.l.length:Int)<(m.l.length:Int))=false:=eM oM;have HT:=hY (show((1+A4 (m.l.take m.l.length):Nat):Int)=(Ag m:Int)by rw[aR,b3.o]);go_wp2_with fail;go_ret;exact⟨by rw[HT.o]<;>rfl,HX.o⟩
def XG{m:Mu}(h:AK w (Lt w) m c)(hs:Ag m<=1100000):Calls prog 62 #[Ap m c] w λe w'=>e=.returned (.int .i64 (Ag m:Int))/\Ext w w':=ZP _ m c w (ao _) h hs
def pH{m:Mu}(h:BB m=true):(m.has||m.kd==1||m.kd==5)=BP m.kd m.has:=by
 rw[L']at h;simp only[Bool.and_eq_true]at h;obtain⟨⟨⟨⟨-,h⟩,-⟩,-⟩,-⟩:=h;unfold BP;cases hs:m.has
 .simp
 rw[hs]at h;have:m.kd=4:=by simpa using h
 simp[this]
def PI{m:Mu}{d:Nat}(hd:d<=7)(hm:AK w (Lt w) m c)(ht:Av m<=1100000)
  (ih:d<=6->∀(x:Mu) (y:AR) (W:AB),AK W (Lt W) x y->Av x<=1100000->Calls prog 63 #[Ap x y,.int .i64 ((d+1:Nat):Int)] W λe w'=>e=.returned (.int .i64 (Ao x (d+1)))/\Ext W w') :
  Calls prog 63 #[Ap m c,.int .i64 (d:Int)] w λe w'=>e=.returned (Ao m d)/\Ext w w':=by
 obtain⟨HI,HM,HT,HD⟩:=Ye ih hm ht hd;clear ih hm ht hd;go_in;go_upto_region 1 with fail;generalize d8:World.alloc _ _=W0;obtain⟨d3,f3,f9⟩:=Bh (m:=m) (c:=c) d8;obtain⟨f4,e0⟩:=Yb d3 f3;clear d8 d3 f3 f9;go_wp2_with(refine A9 rfl (.tmp 2) rfl w.heap.size 0 rfl m c e0.o ?_);refine(ki _ m c).mono ?_;rintro e w1 ⟨rfl,b7⟩;obtain⟨a8,d9⟩:=Yb (f4.o.trans b7) (e0.o.ext b7);clear b7;rcases be (BB m)with hb|hb
 rotate_left
 ·have Z:=hY (Nh (d:=d) hb)
  rw[hb];clear hb;go_wp2_with fail;go_ret;exact⟨by rw[Z.o]<;>rfl,a8.o⟩
 have a0:=hY hb;rw[hb];clear hb;by_cases h6:6<d
 ·have g:decide ((6:Int)<(d:Int))=true:=eO oM
  have Z:=hY (Pg (d:=d) a0.o h6);clear h6;go_wp2_with fail;go_ret;exact⟨by rw[Z.o]<;>rfl,a8.o⟩
 have H6:=hY h6;have g6:decide ((6:Int)<(d:Int))=false:=eM oM;clear h6;go_wp2_with(refine A9 rfl (.tmp 2) rfl w.heap.size 0 rfl m c d9.o ?_);refine(jO _ m c HM.o.parts.2.2.1).mono ?_;rintro e w3 ⟨rfl,a9⟩;obtain⟨a6,b9⟩:=Yb (a8.o.trans a9) (d9.o.ext a9);clear a9 g6;rcases be (Bb m.kd m.k m.tk m.had)with hk|hk
 rotate_left
 ·have Z:=hY (Rl (d:=d) a0.o H6.o hk)
  rw[hk];clear hk;go_wp2_with fail;go_ret;exact⟨by rw[Z.o]<;>rfl,a6.o⟩
 have HK:=hY hk;rw[hk];clear hk;have d0:∀W,Ext w W->AK W (Lt W) m c:=λW hW=>HM.o.nw (gA hW)
 have f0:=hY d0;clear d0;have c4:=b9.o.c4;obtain⟨c5,c6,c7,c8,c9,i2⟩:=b9.o.Ir;go_upto_if 18 with fail;go_cut [] (λwc=>Ext w3 wc/\(m.had&&AY m.was != 0)=false)
 case first=>
  rcases be m.had with hh|hh
  ·rw [hh]
   go_wp2_with fail;refine(OP (d:=m.was) (f0.o _ a6.o).parts.1 (an (Fl m).2 HT.o)).mono ?_;rintro e w4 ⟨rfl,a5⟩;obtain⟨a3,f5⟩:=Yb (a6.o.trans a5) a5;by_cases N:AY m.was=0
   ·have HF:=hY N
    rw[N];clear N hh a5;go_wp2_with fail;go_meet;exact⟨f5.o,by rw[HF.o];simp⟩
   obtain⟨HF,Z⟩:=Yb N (lookW (d:=d) a0.o H6.o HK.o hh N);have g0:(AY m.was != 0)=true:=by simp[N]
   clear N hh a5;go_wp2_with fail;go_ret;exact⟨by rw[Z.o]<;>rfl,a3.o⟩
  rw[hh];go_wp2_with fail;go_meet;exact⟨gz _,by rw[hh];rfl⟩
 obtain⟨b5,hs⟩:=hcut;obtain⟨a3,HS,a1⟩:=Yc (a6.o.trans b5) hs (b9.o.ext b5);clear b5 hs c4 c5 c6 c7 c8 c9 i2;have c0:=a1.o.kind;have i4:=a1.o.c11;obtain⟨i5,i3,g3,f8,g5,g9⟩:=a1.o.v6;have b0:=pH a0.o;obtain⟨vl,b8⟩:∃b,BP m.kd m.has=b:=⟨_,rfl⟩;have e8:=hY b8;rw[b8]at b0;have i0:=hY b0;clear b0 b8;go_upto_region 11 with fail;go_cut [36] (λv w'=>v=.bool vl/\w'=wc)
 case first=>
  have f6:(m.has=true/\vl=true)\/(m.has=false/\(m.kd==1)=true/\vl=true)\/(m.has=false/\(m.kd==1)=false/\(m.kd==5)=true/\vl=true)\/(m.has=false/\(m.kd==1)=false/\(m.kd==5)=false/\vl=false):=by
   have h:=i0.o;cases h1:m.has<;>cases h2:(m.kd==1)<;>cases h3:(m.kd==5)<;>rw[h1,h2,h3]at h<;>simp_all
  rcases f6 with⟨e1,ev⟩ |⟨e1,e2,ev⟩ |⟨e1,e2,e3,ev⟩ |⟨e1,e2,e3,ev⟩
  all_goals (
   have EV:=hY ev;clear ev;go_wp2_with fail;go_meet;exact⟨by rw[EV.out],rfl⟩)
 obtain⟨hv,hw⟩:=hcut;subst hv;clear c0 i4;rename_i wz;subst hw;go_upto_if 36 with fail;go_cut [] (λw'=>Ext wc w'/\(vl&&AY m.v != 0)=false)
 case first=>
  rcases be vl with ev|ev
  ·rw [ev]
   go_wp2_with fail;refine(OP (d:=m.v) (f0.o _ a3.o).parts.2.1 (an (Fl m).1 HT.o)).mono ?_;rintro e w5 ⟨rfl,a7⟩;obtain⟨b3,i1⟩:=Yb (a3.o.trans a7) a7;by_cases N:AY m.v=0
   ·have HF:=hY N
    rw[N];clear N a7;go_wp2_with fail;go_meet;exact⟨i1.o,by rw[HF.o];simp⟩
   obtain⟨HF,Z⟩:=Yb N (VS (d:=d) a0.o H6.o HK.o HS.o (e8.o.trans ev) N);have g0:(AY m.v != 0)=true:=by simp[N]
   clear N a7;go_wp2_with fail;go_ret;exact⟨by rw[Z.o]<;>rfl,b3.o⟩
  rw[ev];go_wp2_with fail;go_meet;exact⟨gz _,by rw[ev];rfl⟩
 obtain⟨a4,e4⟩:=hcut;have b3:=hY (a3.o.trans a4);have g7:wc.cell? ⟨w,8+10,none⟩=some (.slice c.s.a m.l.length c.s.c):=(a1.o.ext a4) 18 _ rfl;have g4:w.heap.size<wc.heap.size:=(a1.o.ext a4).lt;have HC:=hY (Tc a0.o H6.o HK.o HS.o (by rw[e8.o];exact e4));have i7:=HM.o.len;have d7:wrap64 ((d:Int)+1)=((d+1:Nat):Int):=by
  have:=H6.o;unfold wrap64;omega
 have g8:=hY d7;clear a4 e4 i5 i3 g3 f8 g5 g9 d7;go_wp2_with fail;go_loopw[7] (λv7 wr=>∃j:Nat,v7=.int .i64 (j:Int)/\j<=m.l.length/\Yd (Ext w wr/\Ext wc wr)/\Yd (Cx (m.l.drop j) (d+1)=Cx m.l (d+1))) (λv _=>m.l.length -(intOf v).toNat)
 case atStart=>exact⟨0,rfl,aw _,hY ⟨b3.o,gz _⟩,hY rfl⟩
 obtain⟨j,rfl,hj,HX,HJ⟩:=hrel;have e7:wr.cell? ⟨w,8+10,none⟩=some (.slice c.s.a m.l.length c.s.c):=(HX.o.2.cell g4).trans g7;by_cases e6:j<m.l.length
 ·have l1:(j:Int)<(m.l.length:Int):=oM
  have j0:decide ((j:Int)<(m.l.length:Int))=true:=eO l1;have l0:(0:Int)<=(j:Int):=oM
  obtain⟨x,hx⟩:∃x,m.l[j]? = some x:=⟨_,ac e6⟩;obtain⟨b,o,y,f7,i6,i8,i9,f1,f2⟩:=HM.o.at hx;have d6:=hY (f1.ext HX.o.1);have a2:=HI.o (by have:=H6.o;omega) x y wr (f2.nw (gA HX.o.1)) (an (Gd hx) (an (J3 m) HT.o));have b4:=hY a2;have I:=P9 hx (d+1);rw[HJ.o]at I;have d5:=hY I;clear f2 f1 a2 hx i6 I;rw[f7]at e7;go_wp2_with(refine A9 rfl (.tmp 53) rfl b (o+j*19) rfl x y d6.o ?_);rw[g8.o];refine b4.o.mono ?_;rintro e w2 ⟨rfl,b6⟩;have d4:=hY (And.intro (HX.o.1.trans b6) (HX.o.2.trans b6));clear b6;by_cases N:Ao x (d+1)=0
  ·have I:=d5.o
   rw[eL (λh=>h N)]at I;have HA:=hY I.symm;rw[N];clear N I;go_wp2_with fail;go_roundw
   case rel=>exact⟨j+1,by go_num,e6,d4,HA⟩
   simp[intOf];omega
  have I:=d5.o;rw[eN N]at I;have Z:=hY (HC.o.trans I);have g0:(Ao x (d+1) != 0)=true:=by simp[N]
  clear N I;go_wp2_with fail;go_ret;exact⟨by rw[Z.o]<;>rfl,d4.o.1⟩
 obtain rfl:j=m.l.length:=oM
 have l1:decide ((m.l.length:Int)<(m.l.length:Int))=false:=eM oM;have Z:=hY (show Ao m d=0 by rw[HC.o,<-HJ.o,cT];rfl);go_wp2_with fail;go_ret;exact⟨by rw[Z.o]<;>rfl,HX.o.1⟩
def WK(n:Nat):∀(d:Nat) (m:Mu) (c:AR) (w:AB),d+n=7->AK w (Lt w) m c->Av m<=1100000->Calls prog 63 #[Ap m c,.int .i64 (d:Int)] w λe w'=>e=.returned (Ao m d)/\Ext w w':=by
 induction n with
 |zero=>exactλd m c w hd N I=>PI oM N I λh=>oM
 |succ n ih=>exactλd m c w hd N I=>PI oM N I λh x y W hx Z=>ih (d+1) x y W oM hx Z
def X7{m:Mu}(hm:AK w (Lt w) m c)(ht:Av m<=1100000):Calls prog 36 #[Ap m c] w λe w'=>e=.returned (BQ m)/\Ext w w':=by
 obtain⟨r,hr⟩:∃r,BQ m=r:=⟨_,rfl⟩;have hs:=an (O8 m) ht;rw[hr];unfold BQ at hr;obtain⟨HR,HS,HM,HT⟩:=Ye hr hs hm ht;clear hr hs hm ht;go_in;go_upto_region 1 with fail;generalize a3:World.alloc _ _=W0;obtain⟨a0,a5,-⟩:=Bh (m:=m) (c:=c) a3;obtain⟨a1,a4⟩:=Yb a0 a5;clear a3 a0 a5;go_wp2_with(refine A9 rfl (.tmp 1) rfl w.heap.size 0 rfl m c a4.o ?_);refine(XG (HM.o.nw (gA a1.o)) HS.o).mono ?_;rintro e w1 ⟨rfl,Z⟩;obtain⟨N,a7⟩:=Yb (a1.o.trans Z) (a4.o.ext Z);clear Z;by_cases h:64<Ag m
 ·have g:decide ((64:Int)<(Ag m:Int))=true:=eO oM
  have HH:=hY h;clear h;go_wp2_with fail;go_ret;exact⟨by rw[<-HR.o,eN HH.o]<;>rfl,N.o⟩
 have g:decide ((64:Int)<(Ag m:Int))=false:=eM oM;have HH:=hY h;have I:=WK 6 1 m c w1 rfl (HM.o.nw (gA N.o)) HT.o;have HC:=hY I;clear h I;go_wp2_with(refine A9 rfl (.tmp 1) rfl w.heap.size 0 rfl m c a7.o ?_);refine HC.o.mono ?_;rintro e w2 ⟨rfl,a2⟩;have a6:=hY (N.o.trans a2);clear a2;go_wp2_with fail;go_ret;exact⟨by rw[<-HR.o,eL HH.o]<;>rfl,a6.o⟩
variable{w':AB}
def AK.after{H H':Nat->Prop}{m:Mu}(h:AK w (NH H w) m c)(k:Nw w w')(N:∀b,H' b->H b\/w.heap.size<=b):AK w' (NH H' w') m c:=
 (h.agree (gC k λb I=>I.1)).mono λb I=>⟨Nat.lt_of_lt_of_le I.1 k.size,λe=>(N b e).elim I.2 λe=>by have:=I.1;omega⟩
def MapAt.nw{M:Nat}{es:List AD}(h:MapAt H w M es)(k:Nw w w'):MapAt H w' M es:=h.sb k (λb I=>I.elim) λI=>I.elim
def gU(m:Mu):Prop:=∀(j:Nat) (x:Mu),m.l[j]? = some x->∀(y:AR) (H:Nat->Prop) (W:AB) (M:Nat) (es:List AD),MapAt H W M es->(∀b,H b->b<W.heap.size)->Ae es->es.length+Ag x<=50000->AK W (NH H W) x y->Av x<=1000000->
 Calls prog 37 #[.pointer (some ⟨M,0,none⟩),Ap x y] W (EP H W (stepM x es))
def Vw{m:Mu}{es:List AD}(h:MapAt H w M0 es)(hH:∀b,H b->b<w.heap.size)(hM:Ae es)(hc:es.length+Ag m<=50000)(hm:AK w (NH H w) m c)(ht:Av m<=1000000)(hb:BB m=true)(e2:Bb m.kd m.k m.tk m.had=true)(ih:gU m) :
  Calls prog 37 #[.pointer (some M0),Ap m c] w (EP H w (stepM m es)):=by
 have l4:m.kd=1\/m.kd=2\/m.kd=3\/m.kd=4\/m.kd=5\/m.kd=6\/m.kd=7:=by
  rw[L']at hb;simp only[Bool.and_eq_true,decide_eq_true_eq]at hb;have:=hb.1.1.1.1.1.1.1;omega
 obtain⟨i3,f3,d0,b0,g6⟩:=hm.parts;have j4:=Fl m;have a6:∀{W:AB},Nw w W->MapAt H W M0 es/\(∀b,H b->b<W.heap.size):=λhW=>⟨h.nw hW,λb hb=>ab (hH b hb) hW.size⟩
 have d8:∀{W:AB} {d:Val} {sl so:Sl},Nw w W->RV w (NH H w) d sl so->RV W (NH H W) d sl so:=λhW hd=>(hd.agree (gC hW λb hb=>hb.1)).mono λb hb=>⟨Nat.lt_of_lt_of_le hb.1 hW.size,hb.2⟩
 have b3:=hY (show ∀W,Nw w W->CI H w es M0 W fromλW hW=>CI.self h hH hW);have e4:=hY (show ∀W,Nw w W->Calls prog 19 #[.pointer (some M0),m.k,AS m.v c.v1 c.v2] W (EP H W (setMu es m.k m.v)) fromλW hW=>
  (JR (a6 hW).1 (a6 hW).2 hM.sorted oM d0 (d8 hW f3) oM).mono λe w' ⟨M',a,b⟩=>⟨M',a,b.old⟩)
 obtain⟨g9,g5⟩:=Yb (show ∀W,Nw w W->Calls prog 65 #[.pointer (some M0),m.k,m.i] W (EP H W (A' es m.k m.i)) fromλW hW=>kE (a6 hW).1 (a6 hW).2 hM.sorted oM d0 g6) (show ∀W,Nw w W->Calls prog 67 #[.pointer (some M0),m.k,AS m.v c.v1 c.v2] W (EP H W (DY es m.k m.v)) fromλW hW=>Zf (a6 hW).1 (a6 hW).2 hM oM d0 (d8 hW f3) oM);have i6:=hY (show m.kd=6->∀W,Nw w W->Calls prog 68 #[.pointer (some M0),m.k,m.tk] W (EP H W (CN es m.k m.tk)) fromλh6 W hW=>Wm (a6 hW).1 (a6 hW).2 hM oM d0 (by
  unfold Bb at e2;rw[eN h6]at e2;simp only[Bool.and_eq_true,CU,decide_eq_true_eq]at e2;omega))
 obtain⟨g8,d3⟩:=Yb (show ∀W,Nw w W->Calls prog 66 #[.pointer (some M0),m.k,m.had,AS m.was c.w1 c.w2] W λe w'=>e=.returned (asM es m.k m.had m.was)/\Ext W w' fromλW hW=>ku (a6 hW).1 hM.sorted m.k m.had ((d8 hW i3).mono λb hb=>hb.1)) (show ∀W,Nw w W->Calls prog 59 #[.pointer (some M0)] W (P8 H es W) fromλW hW=>NW (a6 hW).1 (a6 hW).2 oM);have e3:=hY (show ∀W W' M1,Nw w W->W.heap.size<=M1->Ext W W'->MapAt (λb=>H b\/b=M1) W' M1 es->Calls prog 64 #[.pointer (some ⟨M1,0,none⟩),m.k] W' λe w2=>e=.returned (.bool (AH es m.k).isSome)/\CI H w (Ac es m.k) M1 w2 fromλW W' M1 hW b9 hx b5=>by
  have f0:M1<W'.heap.size:=by obtain⟨_,_,k3,_,_⟩:=b5.ex;exact k3.lt
  refine(kJ b5 (λb hb=>hb.elim (λh=>ab ((a6 hW).2 b h) hx.size) λh=>oM) hM.sorted oM m.k).mono ?_;rintro e w2 ⟨rfl,g3,d9⟩;exact⟨rfl,λb=>H b\/b=M1,λb hb=>.inl hb,λb hb=>hb.imp id λe=>by have:=hW.size;omega,λb hb=>by
   have:=d9.size;rcases hb with hb|hb
   .have:=(a6 hW).2 b hb;have:=hx.size;omega
   omega,g3,(hW.trans (gA hx)).comp d9.sb λi hi e=>by have:=hW.size;omega⟩)
 obtain⟨r,hr⟩:∃r,stepM m es=r:=⟨_,rfl⟩;rw[hr];rw[O3]at hr;obtain⟨HR,HI,HM,j5,f7,j8,g7⟩:=Yh hr ih hm hM hc ht h;have HH:=hY hH;clear h hH hM hc hm ht hb e2 ih hr i3 f3 d0 b0 g6 j4 a6 d8;go_in;go_upto_region 1 with fail;generalize f8:World.alloc _ _=W0;obtain⟨i0,a9,j6⟩:=Bh (m:=m) (c:=c) f8;obtain⟨a0,e1⟩:=Yb (gA i0) a9;have c0:=a9.kind;have c1:=a9.c1;have c2:=a9.c2;have c4:=a9.c4;have i8:=a9.c11;have c3:W0.cell? ⟨w,3,none⟩=some (.int .i64 m.i):=a9 3 _ rfl;obtain⟨j0,g4,f9,i2,i4,i5⟩:=a9.v6;obtain⟨c5,c6,c7,c8,c9,i7⟩:=a9.Ir;have l0:=a9.lt;clear f8 i0 a9 j6;rcases l4 with hk|hk|hk|hk|hk|hk|hk
 ·have N:=hY (HR.o.symm.trans (by rw [eN hk]))
  rw[hk]at c0;go_wp2_with fail;refine(e4.o _ a0.o).mono ?_;rintro e w1 ⟨M',rfl,I⟩;have HO:=hY (I.pre a0.o);clear I;go_wp2_with fail;go_ret2;exact⟨M',by rw[N.o]<;>rfl,by rw[N.o];exact HO.o⟩
 ·have N:=hY (HR.o.symm.trans (by rw [eL oM,eN hk]))
  rw[hk]at c0;go_wp2_with fail;refine(d3.o _ a0.o).mono ?_;rintro e w1 ⟨M1,rfl,b9,a7,b5⟩;obtain⟨HD,a8⟩:=Yb (e3.o _ _ _ a0.o b9 a7 b5) (a0.o.trans (gA a7));have c1:w1.cell? ⟨w,1,none⟩=some (.string m.k):=(e1.o.ext a7).c1;have l1:=(e1.o.ext a7).lt;clear b9 a7 b5;go_wp2_with fail;refine HD.o.mono ?_;rintro e w2 ⟨rfl,I⟩;have HO:=hY I;clear I;cases hg:(AH es m.k).isSome with
  | true=>
    have Z:=hY (N.o.trans (eN hg));clear hg;go_wp2_with fail;go_ret2;exact⟨M1,by rw[Z.o]<;>rfl,by rw[Z.o];exact HO.o⟩
  | false=>
    obtain⟨Z,b4⟩:=Yb (N.o.trans (eL (by simp[hg]))) (b3.o w2 (by obtain⟨_,_,_,_,_,k⟩:=HO.o;exact k));clear hg;go_wp2_with fail;go_ret2;exact⟨M0,by rw[Z.o]<;>rfl,by rw[Z.o];exact b4.o⟩
 ·have N:=hY (HR.o.symm.trans (by rw [eL oM,eL oM,eN hk]))
  rw[hk]at c0;go_wp2_with fail;refine(g9.o _ a0.o).mono ?_;rintro e w1 ⟨M',rfl,I⟩;have HO:=hY (I.pre a0.o);clear I;go_wp2_with fail;go_ret2;exact⟨M',by rw[N.o]<;>rfl,by rw[N.o];exact HO.o⟩
 ·have N:=hY (HR.o.symm.trans (by rw [eL oM,eL oM,eL oM,eN hk]))
  rw[hk]at c0;go_wp2_with fail;refine(g8.o _ a0.o).mono ?_;rintro e w1 ⟨rfl,a7⟩;have a8:=hY (a0.o.trans (gA a7));have b8:=e1.o.ext a7;have e0:=hY b8;have d1:=b8.c1;have f4:=b8.c11;obtain⟨k6,j9,k5,j3,l7,l6⟩:=b8.v6;have l1:=b8.lt;clear a7 b8 c0 c1 c2 c3 c4 c5 c6 c7 c8 c9 i7 i8 j0 g4 f9 i2 i4 i5;cases ha:asM es m.k m.had m.was with
  | false=>
    obtain⟨Z,b4⟩:=Yb (N.o.trans (eL (by simp[ha]))) (b3.o w1 a8.o);clear ha;go_wp2_with fail;go_ret2;exact⟨M0,by rw[Z.o]<;>rfl,by rw[Z.o];exact b4.o⟩
  | true=>
    have Z:=hY (N.o.trans (eN ha));clear ha;cases hh:m.has with
    | true=>
      have d5:=hY (Z.o.trans (eN hh));rw[hh]at f4;clear hh;go_wp2_with fail;refine(e4.o _ a8.o).mono ?_;rintro e w2 ⟨M',rfl,I⟩;have HO:=hY (I.pre a8.o);clear I;go_wp2_with fail;go_ret2;exact⟨M',by rw[d5.o]<;>rfl,by rw[d5.o];exact HO.o⟩
    | false=>
      have d5:=hY (Z.o.trans (eL (by simp[hh])));rw[hh]at f4;clear hh;go_wp2_with fail;refine(d3.o _ a8.o).mono ?_;rintro e w2 ⟨M1,rfl,b9,d6,b5⟩;have HD:=hY (e3.o _ _ _ a8.o b9 d6 b5);have c1:w2.cell? ⟨w,1,none⟩=some (.string m.k):=(e0.o.ext d6).c1;have l2:=(e0.o.ext d6).lt;clear b9 d6 b5 d1 f4 k6 j9 k5 j3 l7 l6;go_wp2_with fail;refine HD.o.mono ?_;rintro e w3 ⟨rfl,I⟩;have HO:=hY I;clear I;go_wp2_with fail;go_ret2;exact⟨M1,by rw[d5.o]<;>rfl,by rw[d5.o];exact HO.o⟩
 ·have N:=hY (HR.o.symm.trans (by rw [eL oM,eL oM,eL oM,eL oM,eN hk]))
  rw[hk]at c0;go_wp2_with fail;refine(g5.o _ a0.o).mono ?_;rintro e w1 ⟨M',rfl,I⟩;have HO:=hY (I.pre a0.o);clear I;go_wp2_with fail;go_ret2;exact⟨M',by rw[N.o]<;>rfl,by rw[N.o];exact HO.o⟩
 ·have N:=hY (HR.o.symm.trans (by rw [eL oM,eL oM,eL oM,eL oM,eL oM,eN hk]))
  have j7:=hY (i6.o hk);rw[hk]at c0;go_wp2_with fail;refine(j7.o _ a0.o).mono ?_;rintro e w1 ⟨M',rfl,I⟩;have HO:=hY (I.pre a0.o);clear I;go_wp2_with fail;go_ret2;exact⟨M',by rw[N.o]<;>rfl,by rw[N.o];exact HO.o⟩
 have N:=hY (HR.o.symm.trans (by rw[eL oM,eL oM,eL oM,eL oM,eL oM,eL oM,eN hk]));rw[hk]at c0;go_wp2_with fail;refine(g8.o _ a0.o).mono ?_;rintro e w1 ⟨rfl,a7⟩;obtain⟨a8,e0⟩:=Yb (a0.o.trans (gA a7)) (e1.o.ext a7);have l8:=HM.o.len;clear a7 c0 c1 c2 c3 c4 c5 c6 c7 c8 c9 i7 i8 j0 g4 f9 i2 i4 i5;cases ha:asM es m.k m.had m.was with
 | false=>
   obtain⟨Z,b4⟩:=Yb (N.o.trans (eL (by simp[ha]))) (b3.o w1 a8.o);clear ha;go_wp2_with fail;go_ret2;exact⟨M0,by rw[Z.o]<;>rfl,by rw[Z.o];exact b4.o⟩
 | true=>
   have Z:=hY (N.o.trans (eN ha));clear ha;obtain⟨l5,j1⟩:=Yb (Gy m) (J3 m);have k4:=hY (show((∀b,H b->H b)/\(∀b,H b->H b\/w.heap.size<=b)/\(∀b,H b->b<w1.heap.size)/\MapAt H w1 M0 (Al (m.l.take 0) es).2/\Nw w w1/\Nw w1 w1)/\(Al (m.l.take 0) es).1=0/\Ae (Al (m.l.take 0) es).2/\(Al (m.l.take 0) es).2.length<=es.length+A4 (m.l.take 0)from
    ⟨⟨λ_ h=>h,λ_ h=>.inl h,λb hb=>ab (HH.o b hb) a8.o.size,by rw[cz,Al];exact g7.o.nw a8.o,a8.o,gE _ _⟩,by rw[cz,Al],by rw[cz,Al];exact j5.o,by rw[cz,Al];exact dA _ _⟩)
   go_wp2_with fail;go_loopw[8,9] (λv8 v9 wr=>∃(j M':Nat) (H':Nat->Prop),v8=.pointer (some M')/\v9=.int .i64 (j:Int)/\j<=m.l.length/\Yd (((∀b,H b->H' b)/\(∀b,H' b->H b\/w.heap.size<=b)/\(∀b,H' b->b<wr.heap.size)/\MapAt H' wr M' (Al (m.l.take j) es).2/\Nw w wr/\Nw w1 wr)/\(Al (m.l.take j) es).1=0/\Ae (Al (m.l.take j) es).2/\(Al (m.l.take j) es).2.length<=es.length+A4 (m.l.take j))) (λ_ v _=>m.l.length -(intOf v).toNat)
   case atStart=>exact⟨0,M0,H,rfl,rfl,aw _,k4⟩
   obtain⟨j,M',H',rfl,rfl,hj,HQ⟩:=hrel;have e7:=e0.o.nw HQ.o.1.2.2.2.2.2;have k8:wr.cell? ⟨w,8+10,none⟩=some (.slice c.s.a m.l.length c.s.c):=e7 18 _ rfl;have lb:=e7.lt;clear e7;by_cases f0:j<m.l.length
   ·have l1:(j:Int)<(m.l.length:Int):=oM
    have l9:decide ((j:Int)<(m.l.length:Int))=true:=eO l1;have l0:(0:Int)<=(j:Int):=oM
    obtain⟨x,hx⟩:∃x,m.l[j]? = some x:=⟨_,ac f0⟩;obtain⟨b,o,y,f6,k0,j2,k9,i9,f1⟩:=HM.o.at hx;obtain⟨⟨q1,q2,q3,q4,q5,q6⟩,hz,f2,l3⟩:=HQ.o;have i1:=hY (i9.nw q5);have d9:=GD hx;have k7:=GW m.l (j+1);have k1:=l5.o;have k2:=f7.o;have b6:=HI.o j x hx y H' wr M' (Al (m.l.take j) es).2 q4 q3 f2 oM (f1.after q5 q2) (an (Gd hx) (an j1.o j8.o));obtain⟨e8,e6,f5⟩:=Yc (V5 hx es hz) (Ru f1 f2) (show(stepM x (Al (m.l.take j) es).2).2.length<=es.length+A4 (m.l.take (j+1))by have:=OR x (Al (m.l.take j) es).2;omega);obtain⟨q,hq⟩:∃q,stepM x (Al (m.l.take j) es).2=q:=⟨_,rfl⟩;rw[hq]at b6 e8 e6 f5;have HC:=hY b6;rw[f6]at k8;clear hx f6 k0 j2 k9 i9 f1 q1 q2 q3 q4 q5 q6 hz f2 l3 d9 k7 k1 k2 b6 hq;go_wp2_with(refine A9 rfl (.tmp 117) rfl b (o+j*19) rfl x y i1.o ?_);refine HC.o.mono ?_;rintro e w2 ⟨M2,rfl,I⟩;have HO:=hY I;clear I;by_cases h0:q.1=0
    ·have g0:(q.1 != 0)=false:=by simp [h0]
     have b0:=e8.o;rw[eL (by simp[h0])]at b0;obtain⟨d7,H0⟩:=Yb b0 h0;clear h0 b0;go_wp2_with fail;go_roundw
     case measure=>simp[intOf];omega
     obtain⟨⟨q1,q2,q3,q4,q5,q6⟩,-,-,-⟩:=HQ.o;obtain⟨G,a1,a2,a3,a4,a5⟩:=HO.o;have hz:=q5.size;exact⟨j+1,M2,G,rfl,by go_num,f0,hY ⟨⟨λb hb=>a1 b (q1 b hb),λb hb=>(a2 b hb).elim (q2 b) λe=>.inr (an hz e),a3,by rw[d7.o];exact a4,q5.trans a5,q6.trans a5⟩,by rw[d7.o];exact H0.o,by rw[d7.o];exact e6.o,by rw[d7.o];exact f5.o⟩⟩
    have g0:(q.1 != 0)=true:=by simp[h0]
    have b0:=e8.o;rw[eN h0]at b0;have b7:=jV (l:=m.l) (j:=j+1) (M:=es) (by rw[b0];exact h0);rw[b0]at b7;obtain⟨d4,b4⟩:=Yb (show r=(q.1,es)by rw[Z.o,b7,eN h0]) (b3.o w2 (HQ.o.1.2.2.2.2.1.trans (by obtain⟨_,_,_,_,_,k⟩:=HO.o;exact k)));clear h0 b0 b7;go_wp2_with fail;go_ret2;exact⟨M0,by rw[d4.o]<;>rfl,by rw[d4.o];exact b4.o⟩
   obtain rfl:j=m.l.length:=oM
   have l1:decide ((m.l.length:Int)<(m.l.length:Int))=false:=eM oM;have hq:=HQ.o;rw[aR]at hq;obtain⟨⟨q1,q2,q3,q4,q5,-⟩,hz,-,-⟩:=hq;obtain⟨d4,b4⟩:=Yb (show r=(0,(Al m.l es).2)by rw[Z.o,eL (by simp[hz])];exact eJ hz rfl) (show CI H w (Al m.l es).2 M' wr from⟨H',q1,q2,q3,q4,q5⟩);clear q1 q2 q3 q4 q5 hz;go_wp2_with fail;go_ret2;exact⟨M',by rw[d4.o]<;>rfl,by rw[d4.o];exact b4.o⟩
variable{q:Nat}
def look_bare{m:Mu}(h:Ao m q=0):BB m=true:=by
 rcases be (BB m)with I|I
 .exact I
 rw[Nh I]at h;cases h
def Za(n:Nat):∀(m:Mu) (q:Nat),SizeOf.sizeOf m<=n->Ao m q=0->∀(c:AR) (H:Nat->Prop) (w:AB) (M0:Nat) (es:List AD),MapAt H w M0 es->(∀b,H b->b<w.heap.size)->Ae es->es.length+Ag m<=50000->AK w (NH H w) m c->Av m<=1000000->
  Calls prog 37 #[.pointer (some M0),Ap m c] w (EP H w (stepM m es)):=by
 induction n with
 |zero=>intro m q h;have:=Mu.CM m;omega
 | succ n ih=>
   intro m q hn N c H w M0 es h hH hM hc hm ht;obtain⟨hk,hs⟩:=T9 N;exact Vw h hH hM hc hm ht (look_bare N) hk λj x Z y H' W M I a1 a2 a3 a4 a5 a6=>ih x (q+1) (by have:=Mu.Gc Z;omega) (looks_at hs Z) y H' W M I a1 a2 a3 a4 a5 a6
def YN{m:Mu}{es:List AD}(h:MapAt H w M0 es)(hH:∀b,H b->b<w.heap.size)(hM:Ae es)(hc:es.length<=40000)(hm:AK w (NH H w) m c)(ht:Av m<=1100000) :
  Calls prog 20 #[.pointer (some M0),Ap m c] w (EP H w (runM es m)):=by
 obtain⟨r,hr⟩:∃r,runM es m=r:=⟨_,rfl⟩;rw[hr];unfold runM at hr;obtain⟨HR,Z,a6⟩:=Yc hr (show ∀W,Nw w W->CI H w es M0 W fromλW hW=>CI.self h hH hW) (show ∀W,Nw w W->Calls prog 36 #[Ap m c] W λe w'=>e=.returned (BQ m)/\Ext W w' fromλW hW=>X7 ((hm.mono λb hb=>hb.1).nw hW) ht);have a2:=hY (show BQ m=0->∀W,Nw w W->Calls prog 37 #[.pointer (some M0),Ap m c] W (EP H W (stepM m es)) fromλN W hW=>by
  have hs:Ag m<=64:=by unfold BQ at N;split at N<;>omega
  exact Za _ m 1 (ao _) (Sm N) c H W M0 es (h.nw hW) (λb hb=>ab (hH b hb) hW.size) hM oM (hm.after hW λb hb=>.inl hb) (T5 hm N))
 clear h hH hM hc hm ht hr;go_in;go_upto_region 1 with fail;generalize a8:World.alloc _ _=W0;obtain⟨a7,b0,-⟩:=Bh (m:=m) (c:=c) a8;obtain⟨a5,a9⟩:=Yb (gA a7) b0;clear a8 a7 b0;go_wp2_with(refine A9 rfl (.tmp 3) rfl w.heap.size 0 rfl m c a9.o ?_);refine(a6.o _ a5.o).mono ?_;rintro e w1 ⟨rfl,a3⟩;obtain⟨a1,b4⟩:=Yb (a5.o.trans (gA a3)) (a9.o.ext a3);clear a3;by_cases N:BQ m=0
 ·have g0:(BQ m != 0)=false:=by simp [N]
  obtain⟨HC,I⟩:=Yb (a2.o N _ a1.o) (HR.o.symm.trans (eL (by simp[N])));clear N;obtain⟨q,hq⟩:∃q,stepM m es=q:=⟨_,rfl⟩;have b3:=hY (show q.1≠0->q.2=es fromλh=>by rw[<-hq]at h ⊢;exact Ep h);rw[hq]at HC I;clear hq;go_wp2_with(refine A9 rfl (.tmp 3) rfl w.heap.size 0 rfl m c b4.o ?_);refine HC.o.mono ?_;rintro e w2 ⟨M',rfl,a0⟩;have HO:=hY (a0.pre a1.o);clear a0;by_cases h1:q.1=0
  ·have g1:(q.1 != 0)=false:=by simp [h1]
   have H1:=hY h1;clear h1;go_wp2_with fail;go_ret2;exact⟨M',by rw[I.o,H1.o]<;>rfl,by rw[I.o];exact HO.o⟩
  have g1:(q.1 != 0)=true:=by simp[h1]
  obtain⟨HE,a4⟩:=Yb (b3.o h1) (Z.o w2 (by obtain⟨_,_,_,_,_,k⟩:=HO.o;exact k));clear h1;go_wp2_with fail;go_ret2;exact⟨M0,by rw[I.o]<;>rfl,by rw[I.o,HE.o];exact a4.o⟩
 have g0:(BQ m != 0)=true:=by simp[N]
 obtain⟨I,a4⟩:=Yb (HR.o.symm.trans (eN N)) (Z.o w1 a1.o);clear N;go_wp2_with fail;go_ret2;exact⟨M0,by rw[I.o]<;>rfl,by rw[I.o];exact a4.o⟩
def Tryz.ke:(prog.info? 3).map (λi=>(i.zero,i.size,i.bytes))=some (some (.int .i64 0),1,8):=kM
variable{E:List AD}
def pS(I:Ae E){x:Mu}(N:AK w F x c):Ae (runM E x).2:=by
 unfold runM;split
 .exact I
 exact Ru N I
def CI.nwH{es:List AD}{M:Nat}(h:CI H w es M w'):Nw w w':=by
 obtain⟨_,-,-,-,-,k⟩:=h;exact k
structure Fp(H:Nat->Prop)(w:AB)(l:List Mu)(es:List AD)(wr:AB)(j M:Nat)(s:Sl)(H':Nat->Prop):Prop where
 map:MapAt H' wr M (BA (l.take j) es).2
 own:wr.ownsRow w.heap.size 3 1 (.slice s.a j s.c) j ((BA (l.take j) es).1.map (.int .i64))
 low:∀b,H' b->H b\/w.heap.size<=b
 below:∀b,H' b->b<wr.heap.size
 row:∀b,s.row=some b->H' b
 nw:Nw w wr
section
variable{H H' : Nat -> Prop}{w wr w2 w7 w9 : AB}{l : List Mu}{es : List AD}{j M M' : Nat}{s s7 : Sl}{x : Mu}
def Fp.own'(h:Fp H w l es wr j M s H')(k:Nw wr w7):w7.ownsRow w.heap.size 3 1 (.slice s.a j s.c) j ((BA (l.take j) es).1.map (.int .i64)):=
 AZ h.own (F:=Lt wr) (gC k λb I=>I) λb I=>(AM h.own I).2
def Fp.more(h:Fp H w l es wr j M s H')(hx:l[j]? = some x)(hp:CI H' wr (runM (BA (l.take j) es).2 x).2 M' w2)(k:Nw w2 w7)(N:w9.ownsRow w.heap.size 3 1 (.slice s7.a (j+1) s7.c) (j+1) ((BA (l.take j) es).1.map (.int .i64)++[.int .i64 (runM (BA (l.take j) es).2 x).1]))(hw:Wr w7 w9 s.row)(hs:s7.a=s.a\/s7.a=some ⟨w7,0,none⟩/\Wr w7 w9 none) :
  ∃H2,Fp H w l es w9 (j+1) M' s7 H2:=by
 obtain⟨H2,h1,h2,h3,h5,h6⟩:=hp;have hz:=h.nw.size;have z6:=h6.size;have z7:=k.size;have z9:=hw.grown.size;have a0:MapAt H2 w7 M' (runM (BA (l.take j) es).2 x).2:=GC h5 k;have Z:∀b,s7.row=some b->s.row=some b\/b=w7.heap.size:=λb I=>by
  rcases hs with e |⟨e,-⟩
  .left;unfold Sl.row at I ⊢;rwa[e]at I
  right;unfold Sl.row at I;rw[e]at I;simpa using I.symm
 have a2:s.row≠some M':=λe=>by
  obtain⟨-,sM,xM,I,-,-⟩:=a0;rcases(h.own' (h6.trans k)).2 with⟨hv,-⟩ |⟨g,a5,a4,hv,hg,hh,-⟩
  ·injection hv with hv
   unfold Sl.row at e;rw[hv]at e;cases e
  injection hv with hv;unfold Sl.row at e;rw[hv]at e;injection e with e;subst e;have a1:w7.heap[g]? = _:=I;rw[a1]at hh;injection hh with hh;injection hh with _ hh;exact absurd hh oN
 refine⟨λb=>H2 b\/s7.row=some b,?_,?_,?_,?_,λb I=>.inr I,?_⟩
 ·rw [GF hx]
  have a3:St (λb=>s.row=some b) w7 w9:=hw.st λi hi=>hi
  refine MapAt.st (G:=λb=>s.row=some b) (a0.more (G:=λb=>H2 b\/s7.row=some b) (λb I=>.inl I) λb I hg=>?_) a3 (λb I=>.inl (h1 b (h.row b I))) a2;rcases hg with hg|hg
  .exact hg
  rcases Z b hg with e|e
  .exact h1 b (h.row b e)
  omega
 ·rw [GF hx,aB]
  exact N
 ·rintro b (I | I)
  ·rcases h2 b I with e | e
   .exact h.low b e
   exact .inr oM
  rcases Z b I with e|e
  .exact h.low b (h.row b e)
  exact .inr oM
 ·rintro b (I | I)
  .have:=h3 b I;omega
  exact(AM N I).2
 exact((h.nw.trans h6).trans k).comp ⟨hw.grown.os,hw.grown.tape,hw.grown.output,hw.grown.size,λi hi hn=>hw.grown.block i hi λe=>hn e.symm⟩ λi hi e=>by have:=(AM h.own e).1;omega
end
variable{s0:Sl}
def Vf{es:List AD}{l:List Nm}(h:MapAt H w M0 es)(hH:∀b,H b->b<w.heap.size)(hM:Ae es)(hc:es.length<=1000)(hl:l.length<=40)(hF:∀b,F b->b<w.heap.size/\¬H b)(hr:A7 w F s0 l)(ht:B7 (A8 l)<=1100000) :
  Calls prog 6 #[.pointer (some M0),.slice s0.a l.length s0.c] w λe w'=>∃(M':Nat) (s:Sl) (H':Nat->Prop),e=.returned (.tuple #[.pointer (some M'),.slice s.a l.length s.c])/\Fp H w (A8 l) es w' l.length M' s H':=by
 obtain⟨i0,hi,d3,e1,d7⟩:=eZ Tryz.ke;obtain⟨c8,a6,b9,d4,HT⟩:=Yf (show Fp H w (A8 l) es w 0 M0 Sl.none H from⟨h,e9 _ _ _ _,λb hb=>.inl hb,hH,λb hb=>by simp[Sl.row,Sl.none]at hb,gE _ _⟩) hM hr hF ht;clear h hH hM hr hF ht;go_in;go_wp2_with fail;go_loopw[0,6,7] (λv0 v6 v7 wr=>∃(j M':Nat) (s:Sl) (H':Nat->Prop),v0=.pointer (some M')/\v7=.int .i64 (j:Int)/\v6=.slice s.a j s.c/\j<=l.length/\Yd (Fp H w (A8 l) es wr j M' s H')/\Yd (Ae (BA ((A8 l).take j) es).2)) (λ_ _ v _=>l.length -(intOf v).toNat)
 case atStart=>exact⟨0,M0,Sl.none,H,rfl,rfl,rfl,aw _,c8,a6⟩
 obtain⟨j,M',s,H',rfl,rfl,rfl,hj,Z,b3⟩:=hrel;by_cases b7:j<l.length
 ·have l1:(j:Int)<(l.length:Int):=oM
  have e6:decide ((j:Int)<(l.length:Int))=true:=eO l1;have l0:(0:Int)<=(j:Int):=oM
  obtain⟨x,hx⟩:∃x,l[j]? = some x:=⟨_,ac b7⟩;obtain⟨b,o,cc,a9,c7,c9,a7,b6,a8⟩:=b9.o.at hx;have a4:(A8 l)[j]? = some x.m:=by rw[ar,hx];rfl
  have N:=Z.o;have b5:=Gi (A8 l) es j;have b0:=hY (Ay.nw (Bs.mu b6) N.nw);have a5:AK w (NH H w) x.m cc:=a8.mono λb hb=>d4.o b hb
  obtain⟨HC,a2,b8⟩:=Yc (YN N.map N.below b3.o oM (a5.after N.nw N.low) (an (Gd a4) HT.o)) (pS b3.o a5) a4;obtain⟨q,hq⟩:∃q,runM (BA ((A8 l).take j) es).2 x.m=q:=⟨_,rfl⟩;have HQ:=hY hq;rw[hq]at HC a2;rw[a9];clear hx a9 c7 c9 a7 b6 a8 a4 N b5 a5 hq;go_wp2_with(refine A9 rfl (.tmp 21) rfl b (o+j*20+1) rfl x.m cc b0.o ?_);refine HC.o.mono ?_;rintro e w2 ⟨M2,rfl,I⟩;obtain⟨HO,e4,d9⟩:=Yc I I.nwH (gB w2 3 #[.int .i64 q.1]);have a1:Nw w2 (w2.alloc (.cells #[.int .i64 q.1] 3)):=gA ((gz w2).alloc _ _);obtain⟨c6,d8,e2,d6,e0⟩:=Yf a1 (Z.o.own' (I.nwH.trans a1)) (show j+1<=maxLen by unfold maxLen;omega) (show(j+1)*8<=140737488355328 by omega) (show w.heap.size<=(w2.alloc (.cells #[.int .i64 q.1] 3)).heap.size from((Z.o.nw.trans I.nwH).trans a1).size);clear I a1;go_wp2_with(at_builtin;refine Bq _ rfl (.tmp 26) (.tmp 28) 29 rfl w.heap.size 3 i0 _ 1 8 underlying29 hi d3 e1 d7 rfl oN s j ((BA ((A8 l).take j) es).1.map (.int .i64)) rfl d8.o (λb=>b=w2.heap.size) ⟨some w2,1⟩ 1 [.int .i64 q.1] rfl (gG d9.o oN rfl) (by simp[Value.oneCell']) e2.o d6.o e0.o ?_;intro s7 w9 a0 a3 b4;have e3:=hY a0;have d5:=hY a3;have d0:=hY b4;clear a0 a3 b4);go_roundw
  case measure=>simp[intOf];omega
  obtain⟨H2,N⟩:=Z.o.more b8.o (by rw[HQ.o];exact HO.o) c6.o (by rw[HQ.o];exact e3.o) d5.o d0.o;exact⟨j+1,M2,s7,H2,rfl,by go_num,rfl,b7,hY N,hY (by rw[GF b8.o,HQ.o];exact a2.o)⟩
 obtain rfl:j=l.length:=oM
 have l1:decide ((l.length:Int)<(l.length:Int))=false:=eM oM;go_wp2_with fail;go_ret2;exact⟨M',s,H',rfl,Z.o⟩
def Xn(F:Nat->Prop)(o:Option Val)(w:AB)(e:AC)(w':AB):Prop:=
 ∃sl so,e=.returned (.tuple #[AS (o.getD zeroV) sl so,.bool o.isSome])/\Ext w w'/\RV w' F (o.getD zeroV) sl so
def SX{b:Nat}{t:TypeId}{a0 a1 a2 Z N I c0 c1 c2 c3 c4 c5:Value}(h:AE W b t #[a0,a1,a2,Z,N,I]):AE ((((((W.setCell b c0).setCell ⟨b,1,none⟩ c1).setCell ⟨b,2,none⟩ c2).setCell ⟨b,3,none⟩ c3).setCell ⟨b,4,none⟩ c4).setCell ⟨b,5,none⟩ c5) b t #[c0,c1,c2,c3,c4,c5]:=by
 have h0:AE _ b t #[c0,a1,a2,Z,N,I]:=h.AX 0 c0;have h1:AE _ b t #[c0,c1,a2,Z,N,I]:=h0.AX 1 c1;have h2:AE _ b t #[c0,c1,c2,Z,N,I]:=h1.AX 2 c2;have h3:AE _ b t #[c0,c1,c2,c3,N,I]:=h2.AX 3 c3;have h4:AE _ b t #[c0,c1,c2,c3,c4,I]:=h3.AX 4 c4;have h5:AE _ b t #[c0,c1,c2,c3,c4,c5]:=h4.AX 5 c5;exact h5
def VD{b:Nat}{c0 c1 c2 c3 c4 c5:Value}(h:Ext w W)(I:w<=b):Ext w ((((((W.setCell b c0).setCell ⟨b,1,none⟩ c1).setCell ⟨b,2,none⟩ c2).setCell ⟨b,3,none⟩ c3).setCell ⟨b,4,none⟩ c4).setCell ⟨b,5,none⟩ c5):=by
 have s:∀{X:AB} (i:Nat) (v:Value),Ext w X->Ext w (X.setCell ⟨b,i,none⟩ v):=λi v N=>N.setCell (p:=⟨b,i,none⟩) I v
 exact s 5 _ (s 4 _ (s 3 _ (s 2 _ (s 1 _ (s 0 _ (h))))))
def VM{I:Array Value}{b:Nat}{N:Bool}{c0 c1 c2 c3 c4 c5:Value}(Z:I.getD 4 undef=.pointer (some b))(h5:I.getD 5 undef=.bool N)(hb:AE W b 54 #[c0,c1,c2,c3,c4,c5]) :
  (results Tryz.f30 I).run prog W=.ok (.tuple #[.agg #[c0,c1,c2,c3,c4,c5],.bool N]) W:=by
 obtain⟨r0,r1,r2,r3,r4,r5⟩:=hb.c6;simp only[Array.getD_eq_getD_getElem?]at Z h5;simp[results,results30,go_sem,Z,h5,r0,r1,r2,r3,r4,r5]
variable{xs:List LE}
def Tw(hs:ES w F s xs)(hF:∀b,F b->b<w.heap.size)(k:AA) :
  Calls prog 30 #[.slice s.a xs.length s.c,k] w (Xn F (AH (xs.map LE.ent) k) w):=by
 have hf:=hs.few;have b4:xs.length<=140737488355328:=oM
 obtain⟨HS,HF⟩:=Yb hs hF;clear hs hF hf;go_in;go_wp2_with fail;have a0:Ext w (w.alloc (.cells #[.int .i64 0,false,.int .i64 0,ByteArray.empty,.slice none 0 0,.slice none 0 0] 54)):=(gz w).alloc _ _;obtain⟨a2,a5⟩:=Yb a0 (gB w 54 #[.int .i64 0,.bool false,.int .i64 0,.string ByteArray.empty,.slice none 0 0,.slice none 0 0]);clear a0;go_loopw[6] (λq wr=>∃j:Nat,q=.int .i64 j/\j<=xs.length/\AH (xs.map LE.ent) k=AH ((xs.map LE.ent).drop j) k/\wr=w.alloc (.cells #[.int .i64 0,false,.int .i64 0,ByteArray.empty,.slice none 0 0,.slice none 0 0] 54)) (λq _=>xs.length -(intOf q).toNat)
 case atStart=>exact⟨0,rfl,aw _,rfl,rfl⟩
 obtain⟨j,rfl,b3,hp,hw⟩:=hrel;have Z:=a5.o;have hx:=a2.o;rw[<-hw]at Z hx;obtain⟨HX,HB,HP,HW⟩:=Ye hx Z hp hw;obtain⟨z0,z1,z2,z3,z4,z5⟩:=Z.c6;have lz:=Z.lt;have fz:=λi=>Z.frozen i
 clear hp hw Z hx;by_cases h1:j<xs.length
 ·have g1:(j:Int)<(xs.length:Int):=oM
  obtain⟨x,N⟩:∃x,xs[j]? = some x:=⟨_,ac h1⟩;have hd:(xs.map LE.ent).drop j=x.ent ::(xs.map LE.ent).drop (j+1):=by
   have h2:(xs.map LE.ent)[j]? = some x.ent:=by rw[ar,N];rfl
   obtain⟨h3,h4⟩:=ai.1 h2;rw[aE h3,h4]
  have a1:Agree F w wr:=HX.o.agree HF.o;obtain⟨g,o,hg,lg,hc,a3,kx,⟨v0,v1,v2,v3,v4,v5⟩,rx,a8⟩:=(HS.o.agree a1).at N;obtain⟨sa,sc⟩:=s;dsimp only at hg hc a3;subst hg;have a9:=HF.o g lg;obtain⟨HD,HR⟩:=Yb hd rx;have b0:¬g=w.heap.size:=oM
  have a7:¬w.heap.size=g:=oM
  clear N hd a1 rx;by_cases hk:x.k=k
  ·have a4:(x.k.toList == k.toList)=true:=by rw [hk];simp
   have HK:=hY hk;clear hk;go_wp2_with fail;refine eU (VM rfl rfl (SX HB.o)) rfl ?_;have I:=VD (c0:=.int .i64 x.v.kind) (c1:=.bool x.v.b) (c2:=.int .i64 x.v.i) (c3:=.string x.v.t) (c4:=.slice x.sl.a x.v.l.length x.sl.c) (c5:=.slice x.so.a x.v.ok.length x.so.c) HX.o (ao _);have he:AH (xs.map LE.ent) k=some x.v:=by rw[HP.o,HD.o,AH,eN (show x.ent.1=k from HK.o)];rfl
   rw[he];refine⟨x.sl,x.so,rfl,I,HR.o.agree ?_⟩;have a6:St (λb=>b=w.heap.size) wr _:=(((((((gH (λb=>b=w.heap.size) wr).set (p:=⟨w,0,none⟩) (.inr rfl) (.int .i64 x.v.kind)).set (p:=⟨w,1,none⟩) (.inr rfl) (.bool x.v.b)).set (p:=⟨w,2,none⟩) (.inr rfl) (.int .i64 x.v.i)).set (p:=⟨w,3,none⟩) (.inr rfl) (.string x.v.t)).set (p:=⟨w,4,none⟩) (.inr rfl) (.slice x.sl.a x.v.l.length x.sl.c)).set (p:=⟨w,5,none⟩) (.inr rfl) (.slice x.so.a x.v.ok.length x.so.c));exact a6.agree.mono λi hi=>⟨Nat.lt_of_lt_of_le (HF.o i hi) HX.o.size,λe=>by have:=HF.o i hi;omega⟩
  have a4:(x.k.toList==k.toList)=false:=by rw[beq_toList];exact eM hk
  have HK:=hY hk;clear hk;go_wp2_with fail;go_roundw
  case rel=>exact⟨j+1,by go_num,h1,by rw[HP.o,HD.o,AH,eL (show ¬x.ent.1=k from HK.o)],HW.o⟩
  simp[intOf];omega
 obtain rfl:j=xs.length:=oM
 go_wp2_with fail;refine eU (VM rfl rfl (SX HB.o)) rfl ?_;have I:=VD (c0:=.int .i64 0) (c1:=.bool false) (c2:=.int .i64 0) (c3:=.string ⟨#[]⟩) (c4:=.slice none 0 0) (c5:=.slice none 0 0) HX.o (ao _);have he:AH (xs.map LE.ent) k=none:=by rw[HP.o,bS oO];rfl
 rw[he];exact⟨Sl.none,Sl.none,rfl,I,RV.flat _ _ _ _ _ _ oN oN oN⟩
variable{e:AD}
def UP{l A:List AD}(h:l[j]? = some e):A0 A (CK (l.take (j+1)))=AU (A0 A (CK (l.take j))) e.1 zeroV:=by
 have h2:l.take (j+1)=l.take j++[e]:=by rw[aK,h];rfl
 rw[h2,CK,aB,aW,bB,I4];rfl
variable{s':Sl}{ys:List LE}
def lY(hF:∀b,F b->b<w.heap.size)(hs:ES w F s xs)(n4:ES w F s' ys)(hl:xs.length<=300000)(r7:ys.length<=300000)(sx:Sorted (xs.map LE.ent))(sy:Sorted (ys.map LE.ent)) :
  Calls prog 14 #[.slice s.a xs.length s.c,.slice s'.a ys.length s'.c] w λe w'=>∃(r:Sl) (zs:List CE),e=.returned (.slice r.a zs.length r.c)/\zs.map CE.c=I8 (xs.map LE.ent) (ys.map LE.ent)/\Ext w w'/\CS w' (λb=>F b\/(w<=b/\b<w')) r zs:=by
 obtain⟨i0,hi,l6,o5,l8⟩:=eZ Tryz.PY;obtain⟨HF,HS,l5⟩:=Yc hF hs n4;clear hs n4 sx sy hF;go_in;go_wp2_with fail;have o1:Ext w (w.alloc (.cells #[.slice none 0 0] 44)):=(gz w).alloc _ _;have o2:MapAt (λb=>b=w.heap.size) (w.alloc (.cells #[.slice none 0 0] 44)) w.heap.size (A0 [] (CK ((xs.map LE.ent).take 0))):=⟨rfl,Sl.none,[],gB w _ _,ES.nil _ _,rfl⟩;have l7:w.heap.size<(w.alloc (.cells #[.slice none 0 0] 44)).heap.size:=oO
 obtain⟨p7,p6⟩:=Yb o1 o2;clear o1 o2;generalize w.alloc (.cells #[.slice none 0 0] 44)=W0 at *;go_loopw[6] (λi wr=>∃j:Nat,j<=xs.length/\i=.int .i64 j/\MapAt (λb=>b=w.heap.size) wr w.heap.size (A0 [] (CK ((xs.map LE.ent).take j)))/\Ext w wr/\w.heap.size<wr.heap.size) (λi _=>xs.length -(intOf i).toNat)
 case atStart=>exact⟨0,aw _,rfl,p6.o,p7.o,l7⟩
 obtain⟨j,hj,rfl,hM,hX,e8⟩:=hrel;obtain⟨HM,HX⟩:=Yb hM hX;by_cases l9:j<xs.length
 ·have n2:(j:Int)<(xs.length:Int):=oM
  obtain⟨x,a1⟩:∃x,xs[j]? = some x:=⟨_,ac l9⟩;obtain⟨b,o,ha,b4,c9,f9,k0,-,-,c8⟩:=(HS.o.agree (hX.agree HF.o)).at a1;obtain⟨sa,sc⟩:=s;dsimp only at ha c9 f9;subst ha;have b4:b<w:=HF.o b b4;have f7:(xs.map LE.ent)[j]? = some x.ent:=by rw[ar,a1];rfl
  have k9:=hY f7;have e1:(A0 [] (CK ((xs.map LE.ent).take j))).length<=1000000:=by
   have:=FI (CK ((xs.map LE.ent).take j)) [];simp only[CK,List.length_map,List.length_take,List.length_nil]at this ⊢;omega
  have a8:=LD hM (λb N=>oM) (IM List.Pairwise.nil) e1 c8 (v:=zeroV) (sl:=Sl.none) (so:=Sl.none) (RV.flat _ _ _ _ _ _ oN oN oN);have e2:=hY a8;clear hM hX a1 a8 f7;go_wp2_with fail;refine e2.o.mono ?_;rintro e w2 ⟨⟨r,rfl⟩,f6,a4⟩;obtain⟨i8,d9⟩:=Yb f6 a4;clear f6 a4;go_wp2_with fail;go_roundw
  case rel=>exact⟨j+1,l9,by go_num,by rw[UP k9.o];exact i8.o,HX.o.step d9.o (λb N=>oM),ab e8 d9.o.size⟩
  simp[intOf];omega
 obtain rfl:j=xs.length:=oM
 have g1:¬(xs.length:Int)<(xs.length:Int):=oM
 rw[aM (by rw[aq];exact ao _)]at HM;obtain⟨b9,a5⟩:∃es,A0 [] (CK (xs.map LE.ent))=es:=⟨_,rfl⟩;have o7:Sorted b9:=by rw[<-a5];exact IM List.Pairwise.nil
 have r8:b9.length<=300000:=by
  have:=FI (CK (xs.map LE.ent)) [];rw[a5]at this;simp only[CK,List.length_map,List.length_nil]at this;omega
 rw[a5]at HM;obtain⟨o0,o4⟩:=Yb a5 o7;clear hM hX a5 o7;obtain⟨w4,p8⟩:∃w4,w4=wr:=⟨_,rfl⟩;subst p8;go_wp2_with fail;go_loopw[7] (λi wr=>∃j:Nat,j<=ys.length/\i=.int .i64 j/\MapAt (λb=>b=w.heap.size) wr w.heap.size (A0 b9 (CK ((ys.map LE.ent).take j)))/\Ext w wr/\w.heap.size<wr.heap.size) (λi _=>ys.length -(intOf i).toNat)
 case atStart=>exact⟨0,aw _,rfl,HM.o,HX.o,e8⟩
 obtain⟨j2,r6,rfl,hM,hX,e8⟩:=hrel;obtain⟨HM,HX⟩:=Yb hM hX;by_cases i3:j2<ys.length
 ·have n2:(j2:Int)<(ys.length:Int):=oM
  obtain⟨x,a1⟩:∃x,ys[j2]? = some x:=⟨_,ac i3⟩;obtain⟨b,o,ha,b4,c9,f9,k0,-,-,c8⟩:=(l5.o.agree (hX.agree HF.o)).at a1;obtain⟨sa,sc⟩:=s';dsimp only at ha c9 f9;subst ha;have b4:b<w:=HF.o b b4;have f7:(ys.map LE.ent)[j2]? = some x.ent:=by rw[ar,a1];rfl
  have k9:=hY f7;have e1:(A0 b9 (CK ((ys.map LE.ent).take j2))).length<=1000000:=by
   have:=FI (CK ((ys.map LE.ent).take j2)) b9;simp only[CK,List.length_map,List.length_take]at this ⊢;omega
  have a8:=LD hM (λb N=>oM) (IM o4.o) e1 c8 (v:=zeroV) (sl:=Sl.none) (so:=Sl.none) (RV.flat _ _ _ _ _ _ oN oN oN);have e2:=hY a8;clear hM hX a1 a8 f7;go_wp2_with fail;refine e2.o.mono ?_;rintro e w2 ⟨⟨r,rfl⟩,f6,a4⟩;obtain⟨i8,d9⟩:=Yb f6 a4;clear f6 a4;go_wp2_with fail;go_roundw
  case rel=>exact⟨j2+1,i3,by go_num,by rw[UP k9.o];exact i8.o,HX.o.step d9.o (λb N=>oM),ab e8 d9.o.size⟩
  simp[intOf];omega
 obtain rfl:j2=ys.length:=oM
 have g2:¬(ys.length:Int)<(ys.length:Int):=oM
 rw[aM (by rw[aq];exact ao _)]at HM;obtain⟨-,sm,ms,b3,n7,j6⟩:=HM.o;have t0:ms.length<=600000:=by
  have h1:=congrArg List.length j6;have h2:=FI (CK (ys.map LE.ent)) b9;simp only[CK,List.length_map]at h1 h2;omega
 obtain⟨p1,p0,p2⟩:=Yc b3 n7 j6;clear hM hX b3 n7 j6;obtain⟨w5,p3⟩:∃w5,w5=wr:=⟨_,rfl⟩;subst p3;go_wp2_with fail;have t1:w.heap.size<w5.heap.size:=e8;go_loopw[8,9] (λv8 i wr=>∃(j:Nat) (r:Sl) (zs:List CE),v8=.slice r.a zs.length r.c/\j<=ms.length/\i=.int .i64 j/\wr.ownsRow w5.heap.size 79 15 (.slice r.a zs.length r.c) zs.length (Cp zs)/\(∀x∈zs,CR wr F x)/\zs.map CE.c=((ms.map LE.k).take j).filterMap (Cz (xs.map LE.ent) (ys.map LE.ent))/\zs.length<=j/\Ext w5 wr) (λ_ i _=>ms.length -(intOf i).toNat)
 case atStart=>exact⟨0,Sl.none,[],rfl,aw _,rfl,e9 _ _ _ _,λx hx=>(by cases hx),rfl,ao _,gz _⟩
 obtain⟨j3,r,zs,rfl,s9,rfl,e6,l0,j0,t2,a9⟩:=hrel;obtain⟨a0,g6,g5,b0⟩:=Ye e6 l0 j0 a9;have b3:=p1.o.ext a9;have cm:wr.cell? w=some (.slice sm.a ms.length sm.c):=b3.cell 0;have lm:=b3.lt;by_cases b7:j3<ms.length
 ·have n2:(j3:Int)<(ms.length:Int):=oM
  obtain⟨x,a1⟩:∃x,ms[j3]? = some x:=⟨_,ac b7⟩;obtain⟨b,o,ha,b4,c9,f9,k0,-,-,c8⟩:=(p0.o.agree (a9.agree λb N=>N.1)).at a1;obtain⟨sa,sc⟩:=sm;dsimp only at ha c9 f9 cm;subst ha;have lb:b<wr:=ab b4.1 a9.size;have c7:Ext w wr:=HX.o.trans a9;have n9:=Tw (HS.o.agree (c7.agree HF.o)) (λb N=>ab (HF.o b N) c7.size) x.k;have o6:=λW (hW:Ext wr W)=>Tw (l5.o.agree ((c7.trans hW).agree HF.o)) (λb N=>ab (HF.o b N) (c7.trans hW).size) x.k
  have n6:(ms.map LE.k).take (j3+1)=(ms.map LE.k).take j3++[x.k]:=by rw[aK,ar,a1];rfl
  have i9:=hY n6;obtain⟨Z,g7⟩:∃v,(AH (xs.map LE.ent) x.k).getD zeroV=v:=⟨_,rfl⟩;obtain⟨b1,i7⟩:∃b,(AH (xs.map LE.ent) x.k).isSome=b:=⟨_,rfl⟩;obtain⟨I,g8⟩:∃v,(AH (ys.map LE.ent) x.k).getD zeroV=v:=⟨_,rfl⟩;obtain⟨b2,j5⟩:∃b,(AH (ys.map LE.ent) x.k).isSome=b:=⟨_,rfl⟩;obtain⟨p4,o9,k1,p5,l1⟩:=Yf (show Calls prog 30 #[.slice s.a xs.length s.c,.string x.k] wr (λe w'=>∃sl so,e=.returned (.tuple #[AS Z sl so,b1])/\Ext wr w'/\RV w' F Z sl so)from n9.mono λe w' ⟨sl,so,h1,h2,h3⟩=>⟨sl,so,by rw[h1,g7,i7],h2,by rw[<-g7];exact h3⟩) (show ∀W,Ext wr W->Calls prog 30 #[.slice s'.a ys.length s'.c,.string x.k] W (λe w'=>∃sl so,e=.returned (.tuple #[AS I sl so,b2])/\Ext W w'/\RV w' F I sl so) fromλW hW=>(o6 W hW).mono λe w' ⟨sl,so,h1,h2,h3⟩=>⟨sl,so,by rw[h1,g8,j5],h2,by rw[<-g8];exact h3⟩) (show Cz (xs.map LE.ent) (ys.map LE.ent) x.k=if b1≠b2\/AW Z I≠0 then some ⟨x.k,b1,Z,b2,I⟩else none by unfold Cz;rw[g7,g8,i7,j5]) c7 c8;clear e6 l0 j0 a9 b3 a1 n9 o6 n6 c7 g7 i7 g8 j5 c8;go_wp2_with fail;refine p4.o.mono ?_;rintro e w6 ⟨sl,so,rfl,k5,o3⟩;have r1:=k5.size;have i1:=k5.alloc #[.int .i64 Z.kind,.bool Z.b,.int .i64 Z.i,.string Z.t,.slice sl.a Z.l.length sl.c,.slice so.a Z.ok.length so.c] 54;obtain⟨j8,q7,k2,n8⟩:=Ye i1 o3 (gB w6 54 #[.int .i64 Z.kind,.bool Z.b,.int .i64 Z.i,.string Z.t,.slice sl.a Z.l.length sl.c,.slice so.a Z.ok.length so.c]) ((gz w6).alloc #[.int .i64 Z.kind,.bool Z.b,.int .i64 Z.i,.string Z.t,.slice sl.a Z.l.length sl.c,.slice so.a Z.ok.length so.c] 54);clear k5 i1 o3;go_wp2_with fail;refine(o9.o _ j8.o).mono ?_;rintro e w7 ⟨sl',so',rfl,e4,l3⟩;have k8:=k2.o.ext e4;obtain⟨d0,d1,d2,d3,d4,d5⟩:=k8.c6;have ld:=k8.lt;have r5:=hY (j8.o.trans e4);have s4:=p5.o.size;have e0:=e4.alloc #[.int .i64 I.kind,.bool I.b,.int .i64 I.i,.string I.t,.slice sl'.a I.l.length sl'.c,.slice so'.a I.ok.length so'.c] 54;have r3:=e4.size;have r4:=n8.o.size;have r9:=e0.size;have f8:=q7.o.agree ((n8.o.trans e0).agree λb N=>by have:=HF.o b N;omega);have g3:=l3.agree (((gz w7).alloc #[.int .i64 I.kind,.bool I.b,.int .i64 I.i,.string I.t,.slice sl'.a I.l.length sl'.c,.slice so'.a I.ok.length so'.c] 54).agree λb N=>by have:=HF.o b N;omega);have i5:=Gf _ Z I (ao _) _ _ _ _ _ (f8.mono λi hi=>(show i<_ by have:=HF.o i hi;omega)) (g3.mono λi hi=>(show i<_ by have:=HF.o i hi;omega));obtain⟨l4,k4,i2,i4,i6⟩:=Yf i5 (j8.o.trans e0) e0 f8 g3;clear e4 e0 l3 k8 f8 g3 i5;by_cases g9:b1=b2
  ·subst g9
   have o8:(b1 != b1)=false:=oO
   go_wp2_with fail;refine l4.o.mono ?_;rintro e w9 ⟨rfl,b8⟩;have g4:=hY b8;obtain⟨f0,f1,f2,f3,f4,f5⟩:=((k2.o.ext i2.o).ext b8).c6;have j1:=(gB w7 54 #[.int .i64 I.kind,.bool I.b,.int .i64 I.i,.string I.t,.slice sl'.a I.l.length sl'.c,.slice so'.a I.ok.length so'.c]).ext b8;obtain⟨q0,q1,q2,q3,q4,q5⟩:=j1.c6;have lf:=((k2.o.ext i2.o).ext b8).lt;have lq:=j1.lt;have s8:=b8.size;clear b8 j1 d0 d1 d2 d3 d4 d5 ld;by_cases hc:AW Z I=0
   ·have q6:(AW Z I != 0)=false:=by simp [hc]
    have k3:=hY hc;clear hc;go_wp2_with fail;go_roundw
    case rel=>
     have hE:=k4.o.trans g4.o;refine⟨j3+1,r,zs,rfl,b7,by go_num,AZ a0.o (hE.agree λb (N:b<wr)=>N) (λb N=>(AM a0.o N).2),λy hy=>(g6.o y hy).agree (hE.agree λb N=>by have:=HF.o b N;omega),?_,oM,b0.o.trans hE⟩;rw[g5.o,i9.o,dP,bV,k1.o,eL (by simp[k3.o])];simp
    simp[intOf];omega
   have q6:(AW Z I != 0)=true:=fg.2 hc;have k3:=hY hc;clear hc;have a3:Ext wr w9:=k4.o.trans g4.o;have d6:=hY a3;have b5:Ext w9 (w9.alloc (.cells (⟨⟨x.k,b1,Z,b1,I⟩,sl,so,sl',so'⟩:CE).cells 79)):=(gz _).alloc _ _;obtain⟨j9,k7,g0⟩:=Yc (AZ a0.o ((a3.trans b5).agree λb (N:b<wr)=>N) (λb N=>(AM a0.o N).2)) (gB w9 79 (⟨⟨x.k,b1,Z,b1,I⟩,sl,so,sl',so'⟩:CE).cells) b5;have j4:zs.length+1<=maxLen:=by unfold maxLen;omega
   have k6:(zs.length+1)*208<=140737488355328:=oM
   have l2:=b0.o.size;have q8:=a3.size;have b6:w5.heap.size<=(w9.alloc (.cells (⟨⟨x.k,b1,Z,b1,I⟩,sl,so,sl',so'⟩:CE).cells 79)).heap.size:=by rw[eQ];omega
   have e7:=L8 (⟨⟨x.k,b1,Z,b1,I⟩,sl,so,sl',so'⟩:CE);clear a3 b5;go_wp2_with(at_builtin;refine Bq _ rfl (.tmp 83) (.tmp 90) 39 rfl w5.heap.size 79 i0 _ 15 208 underlying39 hi l6 o5 l8 rfl oN r zs.length (Cp zs) rfl j9.o (λb=>b=w9.heap.size) ⟨some w9,1⟩ 1 (⟨⟨x.k,b1,Z,b1,I⟩,sl,so,sl',so'⟩:CE).cells.toList rfl (gG k7.o oN rfl) e7 j4 k6 b6 ?_;intro r2 wA a2 a7 d7;have j7:=hY a2;have d8:=hY a7;clear a2 a7 d7);go_roundw
   case rel=>
    have a6:∀b,r.row=some b->w5.heap.size<=b:=λb N=>(AM a0.o N).1
    have hE:Ext w5 wA:=((b0.o.trans d6.o).trans g0.o).wr d8.o a6;have q9:∀b,F b->b<w5.heap.size:=λb N=>by have:=HF.o b N;omega
    have e3:∀y:CE,CR w9 F y->CR wA F y:=λy hy=>(hy.agree (g0.o.agree λb N=>by have:=HF.o b N;omega)).agree (d8.o.agree (F:=F) (λi hi=>by have:=HF.o i hi;rw[eQ];omega) (λi hi h=>by have:=a6 i hi;have:=HF.o i h;omega))
    refine⟨j3+1,r2,zs++[(⟨⟨x.k,b1,Z,b1,I⟩,sl,so,sl',so'⟩:CE)],by rw[aj,bg],b7,by go_num,?_,λy hy=>?_,?_,by rw[aj,bg];omega,hE⟩
    .rw [aj,bg,MK];exact j7.o
    ·rcases aL.1 hy with hy | hy
     .exact e3 y ((g6.o y hy).agree (d6.o.agree λb N=>by have:=HF.o b N;omega))
     obtain rfl:=aV.1 hy;exact e3 _ ⟨i4.o.agree (g4.o.agree λb N=>by have:=HF.o b N;omega),i6.o.agree (g4.o.agree λb N=>by have:=HF.o b N;omega),l1.o⟩
    rw[aB,g5.o,i9.o,dP,bV,k1.o,eN (.inr k3.o)];rfl
   simp[intOf];omega
  have o8:(b1 != b2)=true:=fg.2 g9;have p9:=hY g9;clear g9;have a3:Ext wr (w7.alloc (.cells #[I.kind,.bool I.b,I.i,I.t,.slice sl'.a I.l.length sl'.c,.slice so'.a I.ok.length so'.c] 54)):=k4.o;have d6:=hY a3;have b5:Ext (w7.alloc (.cells #[I.kind,.bool I.b,I.i,I.t,.slice sl'.a I.l.length sl'.c,.slice so'.a I.ok.length so'.c] 54)) ((w7.alloc (.cells #[I.kind,.bool I.b,I.i,I.t,.slice sl'.a I.l.length sl'.c,.slice so'.a I.ok.length so'.c] 54)).alloc (.cells (⟨⟨x.k,b1,Z,b2,I⟩,sl,so,sl',so'⟩:CE).cells 79)):=(gz _).alloc _ _;obtain⟨j9,k7,g0⟩:=Yc (AZ a0.o ((a3.trans b5).agree λb (N:b<wr)=>N) (λb N=>(AM a0.o N).2)) (show AE ((w7.alloc (.cells #[I.kind,.bool I.b,I.i,I.t,.slice sl'.a I.l.length sl'.c,.slice so'.a I.ok.length so'.c] 54)).alloc (.cells (⟨⟨x.k,b1,Z,b2,I⟩,sl,so,sl',so'⟩:CE).cells 79)) (w7.heap.size+1) 79 (⟨⟨x.k,b1,Z,b2,I⟩,sl,so,sl',so'⟩:CE).cells by have:=gB (w7.alloc (.cells #[I.kind,.bool I.b,I.i,I.t,.slice sl'.a I.l.length sl'.c,.slice so'.a I.ok.length so'.c] 54)) 79 (⟨⟨x.k,b1,Z,b2,I⟩,sl,so,sl',so'⟩:CE).cells;rwa[eQ]at this) b5;have j4:zs.length+1<=maxLen:=by unfold maxLen;omega
  have k6:(zs.length+1)*208<=140737488355328:=oM
  have l2:=b0.o.size;have q8:=a3.size;have b6:w5.heap.size<=((w7.alloc (.cells #[I.kind,.bool I.b,I.i,I.t,.slice sl'.a I.l.length sl'.c,.slice so'.a I.ok.length so'.c] 54)).alloc (.cells (⟨⟨x.k,b1,Z,b2,I⟩,sl,so,sl',so'⟩:CE).cells 79)).heap.size:=by rw[eQ];omega
  have e7:=L8 (⟨⟨x.k,b1,Z,b2,I⟩,sl,so,sl',so'⟩:CE);clear a3 b5;go_wp2_with(at_builtin;refine Bq _ rfl (.tmp 83) (.tmp 90) 39 rfl w5.heap.size 79 i0 _ 15 208 underlying39 hi l6 o5 l8 rfl oN r zs.length (Cp zs) rfl j9.o (λb=>b=w7.heap.size+1) ⟨some ⟨w7+1,0,none⟩,1⟩ 1 (⟨⟨x.k,b1,Z,b2,I⟩,sl,so,sl',so'⟩:CE).cells.toList rfl (gG k7.o oN rfl) e7 j4 k6 b6 ?_;intro r2 wA a2 a7 d7;have j7:=hY a2;have d8:=hY a7;clear a2 a7 d7);go_roundw
  case rel=>
   have a6:∀b,r.row=some b->w5.heap.size<=b:=λb N=>(AM a0.o N).1
   have hE:Ext w5 wA:=((b0.o.trans d6.o).trans g0.o).wr d8.o a6;have q9:∀b,F b->b<w5.heap.size:=λb N=>by have:=HF.o b N;omega
   have e3:∀y:CE,CR (w7.alloc (.cells #[I.kind,.bool I.b,I.i,I.t,.slice sl'.a I.l.length sl'.c,.slice so'.a I.ok.length so'.c] 54)) F y->CR wA F y:=λy hy=>(hy.agree (g0.o.agree λb N=>by have:=HF.o b N;omega)).agree (d8.o.agree (F:=F) (λi hi=>by have:=HF.o i hi;rw[eQ];omega) (λi hi h=>by have:=a6 i hi;have:=HF.o i h;omega))
   refine⟨j3+1,r2,zs++[(⟨⟨x.k,b1,Z,b2,I⟩,sl,so,sl',so'⟩:CE)],by rw[aj,bg],b7,by go_num,?_,λy hy=>?_,?_,by rw[aj,bg];omega,hE⟩
   .rw [aj,bg,MK];exact j7.o
   ·rcases aL.1 hy with hy | hy
    .exact e3 y ((g6.o y hy).agree (d6.o.agree λb N=>by have:=HF.o b N;omega))
    obtain rfl:=aV.1 hy;exact e3 _ ⟨i4.o,i6.o,l1.o⟩
   rw[aB,g5.o,i9.o,dP,bV,k1.o,eN (.inl p9.o)];rfl
  simp[intOf];omega
 obtain rfl:j3=ms.length:=oM
 have r0:=hY (aM (l:=ms.map LE.k) (i:=ms.length) oO);clear e6 l0 j0 a9 b3;go_wp2_with fail;go_ret;refine⟨r,zs,rfl,?_,HX.o.trans b0.o,?_⟩
 .rw [g5.o,r0.o,I8,o0.o,<-p2.o,ct];rfl
 have:=HX.o.trans b0.o;exact⟨(gF a0.o).mono λi hi=>.inr ⟨by have:=hi.1;omega,hi.2⟩,λx hx=>(g6.o x hx).mono λi hi=>.inl hi,oM⟩
def oo(hs:ES w (Lt w) s xs)(Z:ES w (Lt w) s' ys)(hl:xs.length<=300000)(a0:ys.length<=300000)(sx:Sorted (xs.map LE.ent))(sy:Sorted (ys.map LE.ent)) :
  Calls prog 14 #[.slice s.a xs.length s.c,.slice s'.a ys.length s'.c] w λe w'=>∃(r:Sl) (N:List CE),e=.returned (.slice r.a N.length r.c)/\N.map CE.c=I8 (xs.map LE.ent) (ys.map LE.ent)/\Ext w w'/\CS w' (Lt w') r N:=
 (lY (λb I=>I) hs Z hl a0 sx sy).mono λe w' ⟨r,N,h1,h2,h3,h4⟩=>⟨r,N,h1,h2,h3,⟨h4.rd.mono λb I=>I.elim (λh=>ab h h3.size) λh=>h.2,λx hx=>(h4.vals x hx).mono λb I=>I.elim (λh=>ab h h3.size) λh=>h.2,h4.few⟩⟩
def Gw(tm:Array Value):List (Nat × Value)->Array Value
 |[]=>tm
 |(i,v)::l=>Gw (tm.setIfInBounds i v) l
variable{P:Program}{Q:Exit->Act->AB->Prop}{a:Act}
def jH{c:Code}(Rw:AB->Nat->Nat->Prop)(ds:List Nat)(i6 i7:Nat)
  (h1:c.wp P (Oc λZ w'=>∃N I,Rw w' N I/\Z.defers=a.defers/\Z.tmps=Gw a.tmps ((ds.map λd=>(d,Z.tmps.getD d undef))++[(i6,.pointer (some ⟨N,0,none⟩)),(i7,.pointer (some ⟨I,0,none⟩))])) a w)
  (h2:∀(w':AB) (N I:Nat) (vs:Nat->Value),Rw w' N I->Q .normal { tmps:=Gw a.tmps ((ds.map λd=>(d,vs d))++[(i6,.pointer (some ⟨N,0,none⟩)),(i7,.pointer (some ⟨I,0,none⟩))]),defers:=a.defers } w'):c.wp P Q a w:=
 wp_mono h1 λe Z w' h=>by
  cases e with
  | normal=>
    obtain⟨N,I,hr,hd,ht⟩:=h;have:=h2 w' N I (λd=>Z.tmps.getD d undef) hr;rw[<-ht,<-hd]at this;exact this
  |_=>exact h.elim
def PR(w:AB)(N I:TypeId)(c0 c1:Array Value):AE ((w.alloc (.cells c0 N)).alloc (.cells c1 I)) (w.heap.size+1) I c1:=by
 have:=gB (w.alloc (.cells c0 N)) I c1;rwa[eQ]at this
def CS.at{xs:List CE}(h:CS w F s xs){i:Nat}{x:CE}(N:xs[i]? = some x) :
  ∃b o,s.a=some ⟨b,o,none⟩/\F b/\xs.length<=s.c/\s.c<=maxLen/\CR w F x/\∀c u,x.cells.toList[c]? = some u->w.cell? ⟨b,o+i*15+c,none⟩=some u:=by
 obtain⟨b,o,h1,h2,h3⟩:=h.rd;have hi:i<xs.length:=(ai.1 N).1;obtain⟨e1,e2,e3⟩:=h1.eq oM;refine⟨b,o,e1,h1.fits oM,e2,e3,h.vals x (ap N),λc u hu=>?_⟩;rw[bH];refine h3 _ u ?_;have Z:c<15:=(ai.1 hu).1;have I:Cp xs=Cp (xs.take i)++(x.cells.toList++Cp (xs.drop (i+1))):=by
  have e:xs=xs.take i++x::xs.drop (i+1):=by
   obtain⟨h1,h2⟩:=ai.1 N
   conv=>lhs;rw[<-aX i xs,aE h1,h2]
  conv=>lhs;rw[e]
  simp[Cp]
 have hl:(Cp (xs.take i)).length=i*15:=by rw[kr,au,bL (bY hi)]
 rw[I,aO oM,hl,Nat.add_sub_cancel_left,bu (by simpa using Z)];exact hu
def UW{b p:Nat}{x:CE}(h:∀c u,x.cells.toList[c]? = some u->W.cell? ⟨b,p+c,none⟩=some u) :
  W.cell? ⟨b,p,none⟩=some (.string x.c.k)/\W.cell? ⟨b,p+1,none⟩=some (.bool x.c.had)/\W.cell? ⟨b,p+2,none⟩=some (.int .i64 x.c.was.kind)/\W.cell? ⟨b,p+3,none⟩=some (.bool x.c.was.b)/\W.cell? ⟨b,p+4,none⟩=some (.int .i64 x.c.was.i)/\W.cell? ⟨b,p+5,none⟩=some (.string x.c.was.t)/\W.cell? ⟨b,p+6,none⟩=some (.slice x.slw.a x.c.was.l.length x.slw.c)/\W.cell? ⟨b,p+7,none⟩=some (.slice x.sow.a x.c.was.ok.length x.sow.c)/\
   W.cell? ⟨b,p+8,none⟩=some (.bool x.c.has)/\W.cell? ⟨b,p+9,none⟩=some (.int .i64 x.c.is_.kind)/\W.cell? ⟨b,p+10,none⟩=some (.bool x.c.is_.b)/\W.cell? ⟨b,p+11,none⟩=some (.int .i64 x.c.is_.i)/\W.cell? ⟨b,p+12,none⟩=some (.string x.c.is_.t)/\W.cell? ⟨b,p+13,none⟩=some (.slice x.sli.a x.c.is_.l.length x.sli.c)/\W.cell? ⟨b,p+14,none⟩=some (.slice x.soi.a x.c.is_.ok.length x.soi.c):=
 ⟨h 0 _ rfl,h 1 _ rfl,h 2 _ rfl,h 3 _ rfl,h 4 _ rfl,h 5 _ rfl,h 6 _ rfl,h 7 _ rfl,h 8 _ rfl,h 9 _ rfl,h 10 _ rfl,h 11 _ rfl,h 12 _ rfl,h 13 _ rfl,h 14 _ rfl⟩
def jM{xs ys:List CE}(hs:CS w (Lt w) s xs)(i3:CS w (Lt w) s' ys)(he:xs.map CE.c=ys.map CE.c) :
  Calls prog 13 #[.slice s.a xs.length s.c,.slice s'.a ys.length s'.c] w λe w'=>e=.returned true/\Ext w w':=by
 have hf:=hs.few;have l2:xs.length<=140737488355328:=oM
 have a3:xs.length=ys.length:=by have:=congrArg List.length he;simpa using this
 obtain⟨HS,j8,HE,c8⟩:=Ye hs i3 he a3;rw[<-a3];clear hs i3 he a3 hf;go_in;go_wp2_with fail;go_loopw[5] (λq wr=>∃j:Nat,q=.int .i64 j/\j<=xs.length/\Ext w wr) (λq _=>xs.length -(intOf q).toNat)
 case atStart=>exact⟨0,rfl,aw _,gz w⟩
 obtain⟨j,rfl,l1,hx⟩:=hrel;have a6:=hY hx;by_cases h1:j<xs.length
 ·have g1:(j:Int)<(xs.length:Int):=oM
  obtain⟨x,e1⟩:∃x,xs[j]? = some x:=⟨_,ac h1⟩;obtain⟨y,e6⟩:∃y,ys[j]? = some y:=⟨_,ac (by rw[<-c8.o];exact h1)⟩;have j2:x.c=y.c:=by
   have h1:(xs.map CE.c)[j]? = some x.c:=by rw[ar,e1];rfl
   have h2:(ys.map CE.c)[j]? = some y.c:=by rw[ar,e6];rfl
   rw[HE.o,h2]at h1;exact(Option.some.inj h1).symm
  obtain⟨b,o,hg,lb,hc,k8,g0,j6⟩:=HS.o.at e1;obtain⟨b',o',i5,g3,g6,i6,a7,c9⟩:=j8.o.at e6;rw[<-c8.o]at g6;obtain⟨⟨k,e0,N,b5,I⟩,g5,e4,e2,e7⟩:=x;obtain⟨yc,a5,a9,a1,a8⟩:=y;dsimp only at j2;subst j2;obtain⟨sa,sc⟩:=s;obtain⟨l3,l0⟩:=s';dsimp only at hg i5 hc g6 k8 i6;subst hg i5;have hb:b<w:=lb;have g9:b'<w:=g3;have lb:b<wr:=ab lb hx.size;have g3:b'<wr:=ab g3 hx.size;have g7:Agree (Lt w) w wr:=hx.agree λ_ h=>h
  have a4:∀W,Ext wr W->Agree (Lt w) w W:=λW hW=>g7.trans (hW.agree λb hb=>ab hb hx.size)
  have i8:∀W,Ext wr W->Calls prog 28 #[AS N g5 e4,AS N a5 a9] W (DO 0 W):=λW hW=>by
   have:=Gf _ N N (ao _) W _ _ _ _ ((g0.was.agree (a4 W hW)).mono λi hi=>ab hi (an hx.size hW.size)) ((a7.was.agree (a4 W hW)).mono λi hi=>ab hi (an hx.size hW.size));rwa[FA]at this
  have i7:∀W,Ext wr W->Calls prog 28 #[AS I e2 e7,AS I a1 a8] W (DO 0 W):=λW hW=>by
   have:=Gf _ I I (ao _) W _ _ _ _ ((g0.is_.agree (a4 W hW)).mono λi hi=>ab hi (an hx.size hW.size)) ((a7.is_.agree (a4 W hW)).mono λi hi=>ab hi (an hx.size hW.size));rwa[FA]at this
  obtain⟨e3,g4⟩:=Yb (λW (hW:Ext wr W)=>UW λc u hu=>((hx.trans hW).cell hb).trans (j6 c u hu)) (λW (hW:Ext wr W)=>UW λc u hu=>((hx.trans hW).cell g9).trans (c9 c u hu));dsimp only at e3 g4;obtain⟨b9,b3⟩:=Yb i8 i7;have l4:(k.toList != k.toList)=false:=oO
  clear hx e1 e6 g0 a7 j6 c9 g7 a4 i8 i7 hb g9;go_wp2_with fail;refine jH (λw' b6 b7=>Ext wr w'/\AE w' b6 79 #[.string k,.bool e0,.int .i64 N.kind,.bool N.b,.int .i64 N.i,.string N.t,.slice g5.a N.l.length g5.c,.slice e4.a N.ok.length e4.c,.bool b5,.int .i64 I.kind,.bool I.b,.int .i64 I.i,.string I.t,.slice e2.a I.l.length e2.c,.slice e7.a I.ok.length e7.c]/\AE w' b7 79 #[.string k,.bool e0,.int .i64 N.kind,.bool N.b,.int .i64 N.i,.string N.t,.slice a5.a N.l.length a5.c,.slice a9.a N.ok.length a9.c,.bool b5,.int .i64 I.kind,.bool I.b,.int .i64 I.i,.string I.t,.slice a1.a I.l.length a1.c,.slice a8.a I.ok.length a8.c]) [19,20,21,22,23,24,25,26] 6 7 ?_ ?_
  ·skip
   refine eV (S:=(λw'=>Ext wr w')) kM (((gz wr).drew)) (λhHeld=>?_);refine Au 0 (some 19) hHeld ?_;refine Au 1 (some 20) hHeld ?_;refine Au 2 (some 21) hHeld ?_;refine AF 3 (some 22) e3 hHeld ?_;refine Au 4 (some 23) hHeld ?_;refine Au 5 (some 24) hHeld ?_;refine Au 6 (some 25) hHeld ?_;refine AF 7 (some 26) g4 hHeld ?_;refine JY (i:=8) (j:=9) kM rfl rfl (by rfl) (by rfl) (λK Z=>?_) (λK Z=>?_)
   ·go_simp
    skip
    refine Z.out _ _ ((by first|exact(((gz _).drew).alloc _ _).alloc _ _|exact((gz _).drew).alloc _ _)) (λhHeld=>?_);clear Z K
    try go_frame
    refine Af (i:=9) kM rfl (by rfl) (λK Z=>?_);go_simp
    skip
    refine Z.out _ _ ((by first|exact(((gz _).drew).alloc _ _).alloc _ _|exact((gz _).drew).alloc _ _)) (λhHeld=>?_);clear Z K
    try go_frame
    refine Af (i:=10) kM rfl (by rfl) (λK Z=>?_);go_simp
    skip
    refine Z.out _ _ ((by first|exact(((gz _).drew).alloc _ _).alloc _ _|exact((gz _).drew).alloc _ _)) (λhHeld=>?_);clear Z K
    try go_frame
    refine Af (i:=11) kM rfl (by rfl) (λK Z=>?_);go_simp
    skip
    refine Z.out _ _ ((by first|exact(((gz _).drew).alloc _ _).alloc _ _|exact((gz _).drew).alloc _ _)) (λhHeld=>?_);clear Z K
    try go_frame
    refine fa kM ?_ _;refine NJ ⟨wr,wr.heap.size+1,⟨by first|exact(((gz _).drew).alloc _ _).alloc _ _|exact((gz _).drew).alloc _ _,(gB wr.drew _ _).ext ((gz _).alloc _ _),PR wr.drew _ _ _ _⟩,kM,?_⟩;simp only[Gw,List.map_cons,List.map_nil,List.cons_append,List.nil_append,List.setIfInBounds_toArray,List.set_cons_zero,List.set_cons_succ]
    kernel_rfl
   go_simp
   skip
   refine Z.out _ _ ((by first|exact(((gz _).drew).alloc _ _).alloc _ _|exact((gz _).drew).alloc _ _)) (λhHeld=>?_);clear Z K
   try go_frame
   refine Af (i:=8) kM rfl (by rfl) (λK Z=>?_);go_simp
   skip
   refine Z.out _ _ ((by first|exact(((gz _).drew).alloc _ _).alloc _ _|exact((gz _).drew).alloc _ _)) (λhHeld=>?_);clear Z K
   try go_frame
   refine Af (i:=10) kM rfl (by rfl) (λK Z=>?_);go_simp
   skip
   refine Z.out _ _ ((by first|exact(((gz _).drew).alloc _ _).alloc _ _|exact((gz _).drew).alloc _ _)) (λhHeld=>?_);clear Z K
   try go_frame
   refine Af (i:=11) kM rfl (by rfl) (λK Z=>?_);go_simp
   skip
   refine Z.out _ _ ((by first|exact(((gz _).drew).alloc _ _).alloc _ _|exact((gz _).drew).alloc _ _)) (λhHeld=>?_);clear Z K
   try go_frame
   refine fa kM ?_ _;refine NJ ⟨wr+1,wr.heap.size,⟨by first|exact(((gz _).drew).alloc _ _).alloc _ _|exact((gz _).drew).alloc _ _,PR wr.drew _ _ _ _,(gB wr.drew _ _).ext ((gz _).alloc _ _)⟩,kM,?_⟩;simp only[Gw,List.map_cons,List.map_nil,List.cons_append,List.nil_append,List.setIfInBounds_toArray,List.set_cons_zero,List.set_cons_succ]
   kernel_rfl
  rintro w6 b6 b7 uu ⟨c6,b8,c7⟩;simp only[Gw,List.map_cons,List.map_nil,List.cons_append,List.nil_append,List.setIfInBounds_toArray,List.set_cons_zero,List.set_cons_succ];obtain⟨r0,r1,r2,r3,r4,r5,r6,r7,r8,r9,j3,i1,j1,i2,j7⟩:=b8.c15;obtain⟨q0,q1,q2,q3,q4,q5,q6,q7,q8,q9,j5,j4,i9,j0,i4⟩:=c7.c15;have l6:=b8.lt;have l7:=c7.lt;obtain⟨b4,i0,g8,b9,b3⟩:=Yf c6 b8 c7 (λW (hW:Ext w6 W)=>b9.o W (c6.trans hW)) (λW (hW:Ext w6 W)=>b3.o W (c6.trans hW));clear c6 b8 c7 e3 g4;cases e0
  ·skip
   cases b5
   ·skip
    go_wp2_with fail;go_roundw
    case rel=>exact⟨j+1,by go_num,h1,a6.o.trans b4.o⟩
    simp[intOf];omega
   skip
   go_wp2_with fail;refine(b3.o _ (gz _)).mono ?_;rintro e w8 ⟨rfl,a2⟩;have e8:=hY a2;clear a2;go_wp2_with fail;go_roundw
   case rel=>exact⟨j+1,by go_num,h1,(a6.o.trans b4.o).trans e8.o⟩
   simp[intOf];omega
  skip
  cases b5
  ·skip
   go_wp2_with fail;refine(b9.o _ (gz _)).mono ?_;rintro e w7 ⟨rfl,a0⟩;have b0:=hY a0;obtain⟨d0,d1,d2,d3,d4,d5,d6,d7,d8,d9,k6,k9,k4,k1,k3⟩:=(i0.o.ext a0).c15;obtain⟨f0,f1,f2,f3,f4,f5,f6,f7,f8,f9,k2,j9,k0,k7,k5⟩:=(g8.o.ext a0).c15;clear a0 r0 r1 r2 r3 r4 r5 r6 r7 r8 r9 j3 i1 j1 i2 j7 q0 q1 q2 q3 q4 q5 q6 q7 q8 q9 j5 j4 i9 j0 i4;go_wp2_with fail;go_roundw
   case rel=>exact⟨j+1,by go_num,h1,(a6.o.trans b4.o).trans b0.o⟩
   simp[intOf];omega
  skip
  go_wp2_with fail;refine(b9.o _ (gz _)).mono ?_;rintro e w7 ⟨rfl,a0⟩;have b0:=hY a0;obtain⟨d0,d1,d2,d3,d4,d5,d6,d7,d8,d9,k6,k9,k4,k1,k3⟩:=(i0.o.ext a0).c15;obtain⟨f0,f1,f2,f3,f4,f5,f6,f7,f8,f9,k2,j9,k0,k7,k5⟩:=(g8.o.ext a0).c15;clear a0 r0 r1 r2 r3 r4 r5 r6 r7 r8 r9 j3 i1 j1 i2 j7 q0 q1 q2 q3 q4 q5 q6 q7 q8 q9 j5 j4 i9 j0 i4;go_wp2_with fail;refine(b3.o _ (b0.o)).mono ?_;rintro e w8 ⟨rfl,a2⟩;have e8:=hY a2;clear a2;go_wp2_with fail;go_roundw
  case rel=>exact⟨j+1,by go_num,h1,((a6.o.trans b4.o).trans b0.o).trans e8.o⟩
  simp[intOf];omega
 obtain rfl:j=xs.length:=oM
 clear hx;go_wp2_with fail;go_ret;exact⟨rfl,a6.o⟩
def ontoL{s0 s1 sa:Sl}{la lb:List LE}{ms:List Nm}{last:Int}(hs:ES w (Lt w) s0 la)(hc:∀x∈la,Ah x.v<=1100000)(l9:ES w (Lt w) s1 lb)(k4:∀x∈lb,Ah x.v<=1100000)(hm:A7 w (Lt w) sa ms)(ht:B7 (A8 ms)<=1048576)(hw:(Lit.int .u64 last).wf=true)(hL:Aw w) :
  Calls prog 3 #[.slice s0.a la.length s0.c,.slice s1.a lb.length s1.c,.slice sa.a ms.length sa.c,.int .u64 last] w λe w'=>e=.returned true/\Nw w w':=by
 have t0:=hL.lib.big;obtain⟨o1,HL,HS,HC,HM,HT⟩:=Yg (λW (hW:Nw w W)=>XB (hL.nw hW)) hL (And.intro hs l9) (And.intro hc k4) hm ht;clear hL hs hc l9 k4 hm ht hw;go_in;have i2:(decide ((40:Int)<(la.length:Int))=true\/(decide ((40:Int)<(la.length:Int))=false/\decide ((40:Int)<(lb.length:Int))=true)\/(decide ((40:Int)<(la.length:Int))=false/\decide ((40:Int)<(lb.length:Int))=false/\decide ((30:Int)<(ms.length:Int))=true))\/(¬40<la.length/\¬40<lb.length/\¬30<ms.length):=by
  by_cases h1:40<la.length
  .exact .inl (.inl (eO oM))
  by_cases h2:40<lb.length
  .exact .inl (.inr (.inl ⟨decide_eq_false oM,eO oM⟩))
  by_cases h3:30<ms.length
  .exact .inl (.inr (.inr ⟨decide_eq_false oM,eM oM,eO oM⟩))
  exact .inr ⟨h1,h2,h3⟩
 rcases i2 with i2 |⟨t8,t2,t1⟩
 ·rcases i2 with l1 | ⟨l1,l2⟩ | ⟨l1,l2,l3⟩
  all_goals (
   go_wp2_with fail;refine(o1.o w (gE _ _)).mono ?_;rintro e w1 ⟨rfl,hn⟩;have HN:=hY hn;clear hn;go_wp2_with fail;go_ret;exact⟨rfl,HN.o⟩)
 have l1:decide ((40:Int)<(la.length:Int))=false:=eM oM;have l2:decide ((40:Int)<(lb.length:Int))=false:=eM oM;have l3:decide ((30:Int)<(ms.length:Int))=false:=eM oM;go_wp2_with fail;refine(S8 HS.o.1 oM HC.o.1).mono ?_;rintro e w1 ⟨Ma,sx,xs,Ha,rfl,a5⟩;obtain⟨Ea,g9,r5,b9,a3⟩:=P6 a5 HS.o.1 oM;have f0:=a5.nw;obtain⟨b3,f9,f7,k1,p6,q3⟩:=Yg f0 g9 a3 b9 a5.low a5.below;have g5:=(HS.o.2.agree (gC f0 λb N=>N)).mono (G:=Lt w1) λb N=>ab N f0.size
 have j4:=hY g5;clear a5 g9 a3 b9 f0 g5 l1 l2 l3;go_wp2_with fail;refine(S8 j4.o oM HC.o.2).mono ?_;rintro e w2 ⟨Mb,sy,ys,Hb,rfl,a6⟩;obtain⟨Eb,g8,s4,c7,a8⟩:=P6 a6 j4.o oM;obtain⟨a7,f5,g3⟩:=Yc a6.nw g8 a8;have z1:=b3.o.size;have z2:=a7.o.size;have o4:=a6.low;have j5:=a6.below;have b8:=hY (Vf (w:=w2) (F:=Lt w) (k1.o.nw a7.o) (λb N=>by have:=q3.o b N;omega) f9.o oM oM (λb N=>⟨by have q2:b<w:=N;omega,λe=>by have:=p6.o b e;have q2:b<w:=N;omega⟩) (HM.o.agree (gC (b3.o.trans a7.o) λb N=>N)) (by have:=HT.o;omega));have d4:=hY (show ∀W W' (sl:Sl),Nw w2 W->Nw W W'->A7 W' (λb=>b<w\/In W.heap.size W'.heap.size b) sl (BH last ms)->_ fromλW W' sl k k' hr=>Vf (w:=W') (c7.nw (k.trans k')) (λb N=>by have:=j5 b N;have:=k.size;have:=k'.size;omega) f5.o oM (by have:=JC last ms;omega) (λb N=>⟨N.elim (λe=>by have:=k.size;have:=k'.size;omega) λe=>e.2,λe=>by
  have h1:=o4 b e;have h2:=j5 b e;have h3:=k.size;rcases N with h|h
  .omega
  have:=h.1;omega⟩) hr (by have:=HT.o;have:=MW last ms;omega))
 clear a6 g8 a8 c7 o4 j5 j4 HS HC k1;go_wp2_with fail;refine b8.o.mono ?_;rintro e w3 ⟨M1,t3,H1,rfl,f3⟩;obtain⟨e0,e8⟩:=Yb f3 (Om (last:=last) (HM.o.agree (gC ((b3.o.trans a7.o).trans f3.nw) λb N=>N)) λb N=>ab N ((b3.o.trans a7.o).trans f3.nw).size);clear f3 b8;go_wp2_with fail;refine e8.o.mono ?_;rintro e w4 ⟨sl,rfl,j1,d5⟩;obtain⟨f4,o8⟩:=Yb (d4.o w3 w4 sl e0.o.nw (gA j1) d5) j1;clear j1 d5 e8 d4;go_wp2_with fail;refine f4.o.mono ?_;rintro e w5 ⟨M2,t5,H2,rfl,i7⟩;obtain⟨j2,a2⟩:=Yb i7 (e0.o.nw.trans ((gA o8.o).trans i7.nw));clear i7 f4;go_wp2_with fail;refine(f7.o w5 (a7.o.trans a2.o)).mono ?_;rintro e w6 ⟨T1,p1,rfl,o2,n9,e7,l6,f1⟩;have z5:=a2.o.size;have z6:=f1.size;have n4:=hY ((b3.o.trans a7.o).trans (a2.o.trans (gA f1)));have j8:C7 w6 (In w5.heap.size w6.heap.size) (Lt w6) T1 sa ms:=
  ⟨l6,λb N=>⟨by have:=N.1;omega,N.2⟩,n9,by rw[e7];exact f9.o,HM.o.nw n4.o,λb N=>N,HL.o.nw n4.o,by rw[e7];omega,by have:=HT.o;omega⟩
 have i3:=MR j8;rw[AO,o2,e7]at i3;obtain⟨l0,k9⟩:=Yb i3 f1;clear j8 i3 o2 n9 e7 l6 f1 f7;go_wp2_with fail;refine l0.o.mono ?_;rintro e w7 ⟨T2,rfl,l4,k6,i4,i0,i8,-⟩;obtain⟨p2,i6⟩:=BM T2;rw[AO,i6];have z7:=i8.size;have p0:(AG T2).length<=2000:=by
  have:=Gi (A8 ms) Ea ms.length;rw[aM (by rw[aq];exact ao _),<-i4]at this;omega
 obtain⟨q8,p9,k0,k2,j7,q5⟩:=Yg i6 l4 k6 i4 i0 i8;clear i6 l4 k6 i4 i0 i8 l0;go_upto_region 8 with fail;generalize l5:World.alloc w7 _=w8;obtain⟨d8,o0,t4⟩:=D4 l5;have b0:Nw w5 w8:=(gA k9.o).trans (q5.o.trans (gA d8));have f2:Nw w w8:=(b3.o.trans a7.o).trans (a2.o.trans b0);have z8:=d8.size;have g0:AV w8 (λb=>w5<=b/\b<w7) T2:=(k0.o.agree (d8.agree λb N=>N.elim (λe=>by have:=e.2;omega) λe=>e.2)).mono λb N=>N.elim (λe=>⟨e.1,by have:=e.2;omega⟩) λe=>⟨by have:=e.1;omega,e.2⟩
 obtain⟨f8,k3,i1,n8⟩:=Ye g0 f2 b0 (λW (hW:Nw w8 W)=>g3.o W (a2.o.trans (b0.trans hW)));obtain⟨j9,a1⟩:=Yb (λW (hW:Nw w8 W) (U:RT) (q:Option Addr) (FU:Nat->Prop) (hq:Aa U=.pointer q) (j3:Am U) (d6:AG U=Eb) (hU:AV W FU U) (hF:∀b,FU b->6<=b/\b<W.heap.size)=>WN (last:=last) (s:=sa) (ms:=ms) q8.o p9.o (f8.o.agree (gC hW λb N=>by have:=N.2;omega)) (λb N=>by have:=N.2;have:=hW.size;omega) oM hq (show C7 W FU (Lt W) U sa ms from⟨hU,hF,j3,by rw[d6];exact f5.o,HM.o.nw (f2.trans hW),λb N=>N,HL.o.nw (f2.trans hW),by rw[d6];omega,by have:=HT.o;omega⟩)) (show ∀W,Nw w8 W->W.cell? w7=some (.pointer p2) fromλW hW=>(gK hW o0).cell 0);have r6:w8.heap.size<=w8.drew.heap.size:=ao _;have r9:w8.drew.heap.size<=w8.heap.size:=ao _;clear l5 d8 o0 b0 f2 g0 g3 k9 k0;refine lZ (λw' (x:Nat × Nat × Sl × Sl)=>PO w8.heap.size x.1 x.2.1 w' (AG T2) Eb (BH last ms) x.2.2.1 x.2.2.2/\Nw w8 w') [63,64,65,66,67,68,69,70,71,72] (λx=>[(18,.pointer (some ⟨x.1,0,none⟩)),(19,.slice x.2.2.1.a (BH last ms).length x.2.2.1.c),(20,.slice x.2.2.2.a x.2.1 x.2.2.2.c)]) ?_ ?_
 ·skip
  refine eV (S:=(λw'=>Nw w8 w')) kM ((gA ((gz w8).drew))) (λhHeld=>?_);refine AF 0 (some 64) a1 hHeld ?_;refine AF 1 (some 65) a1 hHeld ?_;refine AF 3 (some 67) a1 hHeld ?_;refine AF 4 (some 68) a1 hHeld ?_;have pm:=Tag.mk 0;have pa:=Tag.mk 1000
  repeat' (first
   |(have:=(pm:Tag 0);have:=(pa:Tag 1000);refine GQ 2 10 (λK tg Z=>?_) (λK tg Z=>?_))
   |(have:=(pm:Tag 0);have:=(pa:Tag 1001);refine Dk 2 (λK tg Z=>?_))
   |(have:=(pm:Tag 1);have:=(pa:Tag 1000);refine GQ 5 10 (λK tg Z=>?_) (λK tg Z=>?_))
   |(have:=(pm:Tag 1);have:=(pa:Tag 1001);refine Dk 5 (λK tg Z=>?_))
   |(have:=(pm:Tag 2);have:=(pa:Tag 1000);refine Dk 10 (λK tg Z=>?_))
   |(have:=(pm:Tag 2);have:=(pa:Tag 1001);refine Dk 11 (λK tg Z=>?_))
   | (have:=(tg:Tag 2)
      clear this tg;clear pm;have pm:=Tag.mk 1;go_simp
      (have s7:=hHeld.size;refine(n8.o _ hHeld).mono ?_;rintro e wc ⟨U,q,rfl,hq,j3,d6,hU,e4⟩;have zc:=e4.size;have HU:=hY hU;(try((first|have a0:=hY (a0.o.ext e4)|have a0:=hY (a0.o.ext (((gz _).drew).trans e4)));have c6:World.cell? _ _=some (.pointer none):=a0.o.cell 0;have f6:=a0.o.frozen 0));clear hU)
      refine Z.out _ _ (hHeld.trans (gA e4)) (λhHeld=>?_);clear Z K
      try go_frame)
   | (have:=(tg:Tag 5)
      clear this tg;clear pm;have pm:=Tag.mk 2;go_simp
      (have s8:=hHeld.size;refine(j9.o _ hHeld U q _ hq j3 d6 (by first|exact HU.o|exact kh HU.o λb N=>N.2) (λb N=>⟨by have:=N.1;omega,by have:=N.2;omega⟩)).mono ?_;rintro e wd ⟨V,p3,sL,sC,cs,rfl,e3,d7,c8,d3,hV,g4,g7,b6,e1⟩;have zd:=e1.size;have HV:=hY hV;have HR:=hY g4;have i5:=hY b6;have q1:=hY g7;(try((first|have a0:=hY (e1.blk a0.o)|have a0:=hY (((gA ((gz _).drew)).trans e1).blk a0.o));have c6:World.cell? _ _=some (.pointer none):=a0.o.cell 0;have f6:=a0.o.frozen 0));clear hV g4 b6 g7)
      refine Z.out _ _ (hHeld.trans e1) (λhHeld=>?_);clear Z K
      try go_frame
      refine AF 6 (some 63) a1 hHeld ?_;refine AF 7 (some 70) a1 hHeld ?_;refine AF 8 (some 71) a1 hHeld ?_;refine AF 9 (some 72) a1 hHeld ?_)
   | (have:=(tg:Tag 10)
      clear this tg;clear pa;have pa:=Tag.mk 1001;go_simp
      (have s9:=hHeld.size;generalize k8:World.alloc _ _=wz;obtain⟨b4,e6,zz⟩:=D4 k8;have t7:wz.heap.size<=wz.drew.heap.size:=ao _;have t6:wz.drew.heap.size<=wz.heap.size:=ao _;have a0:=hY e6;have c6:World.cell? _ _=some (.pointer none):=e6.cell 0;have f6:=e6.frozen 0;(try(have HU:=hY (HU.o.agree (b4.agree λb N=>N.2))));(try(have HV:=hY (HV.o.agree (b4.agree λb N=>N.elim (λe=>by have:=e.2;omega) λe=>e.2));have HR:=hY (HR.o.agree (b4.agree λb N=>N.2));have i5:=hY (i5.o.LU (b4.agree λb N=>N.2))));clear k8 e6)
      refine Z.out _ _ ((by first|exact hHeld.trans (gA b4)|exact(gA b4).trans (gA ((gz wz).drew)))) (λhHeld=>?_);clear Z K
      try go_frame)
   | (have:=(tg:Tag 11)
      clear this tg;clear pm;have pm:=Tag.mk 3;go_simp
      (have HN:=hY hHeld)
      refine Z.out _ _ (Ug hHeld oM _) (λhHeld=>?_);clear Z K
      try go_frame
      refine AF 12 (some 19) a1 hHeld ?_;refine AF 13 (some 20) a1 hHeld ?_)
   | (have:=(pm:Tag 3);have:=(pa:Tag 1001);refine fa kM ?_ _
      simp only[Ei,List.map_cons,List.map_nil,List.cons_append,List.nil_append,List.setIfInBounds_toArray,List.set_cons_zero,List.set_cons_succ];have i9:=λh1 h2=>YH (n:=w8) (E:=AG T2) (U:=Eb) e3 d7 (by rw[c8,d6]) d3 HV.o HR.o q1.o i5.o a0.o oM h1 h2
      have i9:=i9 (λi hi=>hi.elim (λe=>by have:=e.1;have:=e.2;omega) λe=>by have:=e.1;have:=e.2;omega) (λi e=>by have:=e.1;have:=e.2;omega);refine SI ⟨(_,cs.length,sL,sC),⟨i9,hHeld⟩,kM,?_⟩;simp only[Ei,List.map_cons,List.map_nil,List.cons_append,List.nil_append,List.setIfInBounds_toArray,List.set_cons_zero,List.set_cons_succ]
      kernel_rfl))
 rintro w9 ⟨B,m,sL,sC⟩ vs ⟨⟨⟨V,p3,e3,d7,hV,c8,d3,o9,cs,rfl,o5,b6⟩,c9,r0⟩,a4⟩;simp only[Ei,List.map_cons,List.map_nil,List.cons_append,List.nil_append,List.setIfInBounds_toArray,List.set_cons_zero,List.set_cons_succ];have z9:=a4.size;have q7:=JC last ms;have q9:(AG V).length<=2000:=by
  have h1:=Gi (A8 (BH last ms)) Eb ms.length;rw[aM (by rw[aq];exact q7),<-c8]at h1;omega
 have a9:=i1.o.trans a4;have o3:=a2.o.trans a9;have k5:=(e0.o.map.nw ((gA o8.o).trans j2.o.nw)).nw a9;have n2:=j2.o.map.nw a9;rw[aM (by rw[aq];exact ao _),<-k2.o]at k5;rw[aM (by rw[aq];exact ao _),<-c8]at n2;obtain⟨-,e2,x1,j6,o7,d9⟩:=k5;obtain⟨-,b5,x2,k7,j0,b7⟩:=n2;have r7:x1.length<=2000:=by rw[<-aq (f:=LE.ent),d9];exact p0
 have r8:x2.length<=2000:=by rw[<-aq (f:=LE.ent),b7];exact q9
 have d0:I8 (AG T2) (AG V)=cs.map CE.c:=by rw[o5];exact(V6 j7.o.sorted d3.sorted).symm
 have n6:=hY (show ∀W,Nw w9 W->Calls prog 11 #[.agg #[.pointer p3],.slice b5.a x2.length b5.c] W λe w'=>e=.returned true/\Ext W w' fromλW hW=>by
  have h:=Pe (λb (N:w8<=b/\b<w9/\b≠B)=>ab N.2.1 hW.size) (hV.agree (gC hW λb N=>N.2.1)) d7 oM ((j0.agree (gC hW λb N=>N.1)).mono (G:=Lt W) λb N=>ab N.1 hW.size);rw[AO,e3,b7,Md]at h;exact h)
 obtain⟨e8,p4⟩:=Yb (show ∀W,Nw w9 W->Calls prog 7 #[.int .u64 last,.slice sa.a ms.length sa.c] W λe w'=>∃s':Sl,e=.returned (.slice s'.a (BH last ms).length s'.c)/\Ext W w'/\A7 w' (Lt w') s' (BH last ms) fromλW hW=>jk (HM.o.nw (k3.o.trans (a4.trans hW))) λb N=>N) (show ∀W (s':Sl),Nw w9 W->A7 W (Lt W) s' (BH last ms)->Calls prog 12 #[.slice sL.a (BH last ms).length sL.c,.slice s'.a (BH last ms).length s'.c] W λe w'=>e=.returned true/\Ext W w' fromλW s' hW h'=>RI (c9.up (λb N=>N.2.1) hW) h');have r3:=hY (show ∀W,Nw w9 W->Calls prog 14 #[.slice e2.a x1.length e2.c,.slice b5.a x2.length b5.c] W λe w'=>∃(r:Sl) (zs:List CE),e=.returned (.slice r.a zs.length r.c)/\zs.map CE.c=cs.map CE.c/\Ext W w'/\CS w' (Lt w') r zs fromλW hW=>by
  have h:=oo ((o7.agree (gC hW λb N=>N.1)).mono (G:=Lt W) λb N=>ab N.1 hW.size) ((j0.agree (gC hW λb N=>N.1)).mono (G:=Lt W) λb N=>ab N.1 hW.size) oM oM (by rw[d9];exact j7.o.sorted) (by rw[b7];exact d3.sorted);rw[d9,b7,d0]at h;exact h)
 obtain⟨p8,I,n7⟩:=Yc (show ∀W (r:Sl) (zs:List CE),Nw w9 W->zs.map CE.c=cs.map CE.c->CS W (Lt W) r zs->Calls prog 13 #[.slice sC.a cs.length sC.c,.slice r.a zs.length r.c] W λe w'=>e=.returned true/\Ext W w' fromλW r zs hW he h'=>jM ((b6.LU (gC hW λb N=>N.2.1)).Np λb N=>ab N.2.1 hW.size) h' he.symm) (show ∀W,Nw w9 W->W.cell? B=some (.pointer p3)/\W.cell? M1=some (.slice e2.a x1.length e2.c)/\W.cell? M2=some (.slice b5.a x2.length b5.c) fromλW hW=>⟨(gK hW o9).cell 0,(gK hW j6).cell 0,(gK hW k7).cell 0⟩) (k3.o.trans a4);clear e3 d7 hV c8 d3 o9 o5 b6 c9 r0 a4 a9 o3 j6 o7 d9 k7 j0 b7 d0 j9 n8 a1 f8 e0 j2 k2 i1;go_upto_region 9 with fail;refine eV (S:=(λw'=>Nw w9 w')) kM ((gA ((gz w9).drew))) (λhHeld=>?_);refine AF 0 (some 73) I hHeld ?_;refine AF 1 (some 74) I hHeld ?_;refine AF 2 (some 75) I hHeld ?_;refine AF 3 (some 76) I hHeld ?_;refine AF 4 (some 77) I hHeld ?_;refine Af (i:=5) kM rfl (by rfl) (λK Z=>?_);go_simp
 (refine(n6.o _ hHeld).mono ?_;rintro e v1 ⟨rfl,r1⟩)
 refine Z.out _ _ (hHeld.trans (gA r1)) (λhHeld=>?_);clear Z K
 try go_frame
 refine AF 6 (some 79) I hHeld ?_;refine AF 7 (some 80) I hHeld ?_;refine AF 8 (some 81) I hHeld ?_;refine AF 9 (some 82) I hHeld ?_;refine Af (i:=10) kM rfl (by rfl) (λK Z=>?_);go_simp
 (refine(e8.o _ hHeld).mono ?_;rintro e v2 ⟨p7,rfl,q0,g6⟩;have o6:=hY g6;clear g6)
 refine Z.out _ _ (hHeld.trans (gA q0)) (λhHeld=>?_);clear Z K
 try go_frame
 refine Af (i:=11) kM rfl (by rfl) (λK Z=>?_);go_simp
 (refine(p4.o _ p7 hHeld o6.o).mono ?_;rintro e v3 ⟨rfl,r2⟩)
 refine Z.out _ _ (hHeld.trans (gA r2)) (λhHeld=>?_);clear Z K
 try go_frame
 refine AF 12 (some 85) I hHeld ?_;refine AF 13 (some 86) I hHeld ?_;refine AF 14 (some 87) I hHeld ?_;refine AF 15 (some 88) I hHeld ?_;refine AF 16 (some 89) I hHeld ?_;refine AF 17 (some 90) I hHeld ?_;refine AF 18 (some 91) I hHeld ?_;refine AF 19 (some 92) I hHeld ?_;refine AF 20 (some 93) I hHeld ?_;refine AF 21 (some 94) I hHeld ?_;refine AF 22 (some 95) I hHeld ?_;refine Af (i:=23) kM rfl (by rfl) (λK Z=>?_);go_simp
 (refine(r3.o _ hHeld).mono ?_;rintro e v4 ⟨r,zs,rfl,l7,p5,l8⟩;have HZ:=hY (And.intro l7 l8);clear l7 l8)
 refine Z.out _ _ (hHeld.trans (gA p5)) (λhHeld=>?_);clear Z K
 try go_frame
 refine Af (i:=24) kM rfl (by rfl) (λK Z=>?_);go_simp
 (refine(p8.o _ r zs hHeld HZ.o.1 HZ.o.2).mono ?_;rintro e v5 ⟨rfl,q4⟩)
 refine Z.out _ _ (hHeld.trans (gA q4)) (λhHeld=>?_);clear Z K
 try go_frame
 refine AF 25 (some 98) I hHeld ?_;refine AF 26 (some 99) I hHeld ?_;refine Af (i:=27) kM rfl (by rfl) (λK Z=>?_);go_simp
 (refine(o1.o _ (n7.o.trans hHeld)).mono ?_;rintro e v6 ⟨rfl,q6⟩)
 refine Z.out _ _ (hHeld.trans q6) (λhHeld=>?_);clear Z K
 try go_frame
 refine AF 28 (some 101) I hHeld ?_;refine AF 29 (some 8) I hHeld ?_;refine fa kM ?_ _;have r4:=hY (n7.o.trans hHeld);go_wp2_with fail;go_ret;exact⟨rfl,r4.o⟩
section
variable{H : Type}{enc : TypeId × Value -> H}{w : AB}{held : Bool}
def TI:prog.cellsOf 61=20:=kM
def XN:prog.bytesOf 61=272:=kM
def pc{I:Nat}{cs:List Value}{x:DataW H × List MemPlace}(h:tr enc prog w held I 61 cs=some x)(hw:WOk prog 61 x.1) :
  ∃n c,cs=Ce n c/\AK w (Lt w) n.m c/\(Lit.int .u64 n.id).wf=true/\Av n.m<=Rows.uptoBulk x.1:=by
 obtain⟨q,ds,rfl,hl,hx,hf⟩:=Iz underlying61 h hw;rw[TI]at hl;obtain⟨y0,h0,-,d0⟩:=hf 0 _ rfl;obtain⟨y1,h1,w1,d1⟩:=hf 1 _ rfl;obtain⟨id,N,Z⟩:=JO (k:=.u64) kM h0;have g1:tr enc prog w held q 59 ((cs.drop 1).take 19)=some y1:=by
  have:=h1;dsimp only at this;rw[Ls]at this;exact this
 obtain⟨m,c,hm,hr,ht⟩:=Rt q g1 w1;refine⟨⟨id,m⟩,c,?_,hr,Z,?_⟩
 ·have a0:cs[0]? = some (.int .u64 id):=at_of_take N (j:=0) oN
  refine bJ λj=>?_
  cases j with
  |zero=>exact a0
  | succ j=>
    show _=(A5 m c)[j]?;by_cases hj:j<19
    .rw [Nat.add_comm];exact at_of_take hm hj
    rw[aN oM,aN (by rw[F4];omega)]
 rw[hx];exact dM (SN d0 d1 (an ht (Nat.le_add_left _ _)))
def nums_of_trod{a0:Nat}{cs:List Value}{x:DataW H × List MemPlace}(h:tr enc prog w held a0 23 cs=some x)(hw:WOk prog 23 x.1) :
  ∃(s:Sl) (l:List Nm),cs=[.slice s.a l.length s.c]/\A7 w (Lt w) s l/\B7 (l.map Nm.m)<=Rows.uptoBulk x.1:=by
 obtain⟨n,N,s,b,o,es,-,hc,hs,a4,a2,a5,he⟩:=Gp (e:=61) (C:=20) (B:=272) underlying23 TI XN oN h hw;have hE:∀i,i<N->∃a:Nm × AR,(Bs w b (o+i*20) a.1 a.2/\AK w (Lt w) a.1.m a.2/\(Lit.int .u64 a.1.id).wf=true)/\∃d,es[i]? = some d/\Av a.1.m<=Rows.uptoBulk d:=λi hi=>by
  obtain⟨a6,y,a3,hc,ht,hw,hd⟩:=he i hi;obtain⟨m,c,rfl,hr,a1,hm⟩:=pc ht hw;refine⟨(m,c),⟨λj u hu=>?_,hr,a1⟩,_,hd,hm⟩;have Z:j<20:=(ai.1 hu).1;exact(hc j Z).trans hu
 obtain⟨f,I⟩:=skolem hE;refine⟨s,(List.range N).map λj=>(f j).1,by simpa using hc,⟨⟨b,o,λj=>(f j).2,by rw[aq,bD];exact hs,λj m Z=>?_,λj m Z=>?_⟩,λn hn=>?_,by rw[aq,bD];omega⟩,?_⟩
 .obtain ⟨h1,rfl⟩:=Ci Z;exact(I j h1).1.1
 .obtain ⟨h1,rfl⟩:=Ci Z;exact(I j h1).1.2.1
 ·obtain ⟨j,Z⟩:=bA hn
  obtain⟨h1,rfl⟩:=Ci Z;exact(I j h1).1.2.2
 have hL:=Jo (((List.range N).map λj=>(f j).1).map Nm.m) es (by simp[a2]) λi m d hi hd=>by
  rw[ar]at hi;cases hq:((List.range N).map λj=>(f j).1)[i]? with
  |none=>rw[hq]at hi;cases hi
  | some q=>
    rw[hq]at hi;injection hi with hi;subst hi;obtain⟨h1,rfl⟩:=Ci hq;obtain⟨d',h2,h3⟩:=(I i h1).2;rw[hd]at h2;injection h2 with h2;rw[h2];exact h3
 omega
end
section
variable{H : Type}{enc : TypeId × Value -> H}{w : AB}{held : Bool}
def esB_of_trod{a1:Nat}{cs:List Value}{x:DataW H × List MemPlace}(h:tr enc prog w held a1 22 cs=some x)(hw:WOk prog 22 x.1)(hB:Rows.uptoBulk x.1<=1048576):∃(s:Sl) (xs:List LE),cs=[.slice s.a xs.length s.c]/\(ES w (Lt w) s xs/\∀y∈xs,Ah y.v<=1100000):=by
 obtain⟨n,N,s,b,o,es,-,hc,hs,a6,a7,a9,he⟩:=Gp (e:=65) (C:=7) (B:=104) underlying22 WS iX oN h hw;have hE:∀i,i<N->∃a:AA × Val × Sl × Sl,(w.cell? ⟨b,o+i*7,none⟩=some (.string a.1)/\a.1.size<=maxLen)/\BR w b (o+i*7+1) a.2.1 a.2.2.1 a.2.2.2/\RV w (Lt w) a.2.1 a.2.2.1 a.2.2.2/\Ah a.2.1<=1100000:=λi hi=>by
  obtain⟨a3,y,b3,hc,ht,hw,hd⟩:=he i hi;obtain⟨n6,ds,rfl,hl,Z,hf⟩:=Iz underlying65 ht hw;obtain⟨z0,g0,-,-⟩:=hf 0 _ rfl;obtain⟨z1,g1,u1,e1⟩:=hf 1 _ rfl;obtain⟨k,hk,wk⟩:=WH kM g0;have a5:tr enc prog w held n6 54 ((a3.drop 1).take 6)=some z1:=by
   have:=g1;dsimp only at this;rw[G4]at this;exact this
  obtain⟨v,sl,so,hv,hr,b0⟩:=ML n6 a5 u1;have a0:a3[0]? = some (.string k):=at_of_take hk (j:=0) oN;have cj:∀j,j<6->w.cell? ⟨b,o+i*7+1+j,none⟩=(Gs v sl so)[j]?:=λj I=>by
   rw[<-at_of_take hv I,<-hc (1+j) oM,bH (o+i*7)]
  exact⟨(k,v,sl,so),⟨(hc 0 oN).trans a0,wk⟩,⟨cj 0 oN,cj 1 oN,cj 2 oN,cj 3 oN,cj 4 oN,cj 5 oN⟩,hr,by
   have h1:=N4 hd;have h2:=N4 e1;rw[Z]at h1;simp only[Rows.uptoBulk]at h1;show Ah v<=_;omega⟩
 obtain⟨f,hf⟩:=skolem hE;refine⟨s,(List.range N).map λj=>⟨(f j).1,(f j).2.1,(f j).2.2.1,(f j).2.2.2⟩,by rw[aq,bD];exact hc,?_⟩;refine⟨⟨⟨b,o,by rw[aq,bD];exact hs,GA _,λj u I=>?_⟩,λx Z=>?_,by rw[aq,bD];omega⟩,λx Z=>?_⟩
 ·have a8:j<N*7:=by
   have:=(ai.1 I).1;rw[GA,aq,bD]at this;exact this
  obtain⟨i,c,rfl,a4⟩:∃i c,j=i*7+c/\c<7:=⟨j/7,j%7,oM,oM⟩;have hi:i<N:=oM
  have Z:((List.range N).map λj=>(⟨(f j).1,(f j).2.1,(f j).2.2.1,(f j).2.2.2⟩:LE))[i]? = some ⟨(f i).1,(f i).2.1,(f i).2.2.1,(f i).2.2.2⟩:=by
   rw[ar,List.getElem?_range hi];rfl
  rw[Fc Z c a4]at I;obtain⟨⟨a0,-⟩,e,-⟩:=hf i hi;rw[<-bH];have a2:c=0\/c=1\/c=2\/c=3\/c=4\/c=5\/c=6:=oM
  rcases a2 with rfl|rfl|rfl|rfl|rfl|rfl|rfl
  .exact a0.trans I
  .exact e.c0.trans I
  .exact e.c1.trans I
  .exact e.c2.trans I
  .exact e.c3.trans I
  .exact e.c4.trans I
  exact e.c5.trans I
 ·obtain ⟨j,I⟩:=bA Z
  obtain⟨h1,rfl⟩:=Ci I;exact⟨(hf j h1).2.2.1,(hf j h1).1.2⟩
 obtain⟨j,I⟩:=bA Z;obtain⟨h1,rfl⟩:=Ci I;exact(hf j h1).2.2.2
end
def libq_of(h:laidMetH prog ED w):Aw w:=by
 refine⟨kK h,iW h,λW hW n Z h1=>?_⟩;have h':laidMet prog ED w:=h;have I:=Lib.laidMet.reads h' (n:= "internal/strconv.uint64pow10") (d:=Rows.laid_internal_strconv_uint64pow10) (by simp[ED]);rw[Uv]at I;exact(Any.strconv_FormatInt_10 Tryz.Pu n Z h1 W (RN hW (Rx I))).mono λe w' h=>by
  obtain⟨N,k,os,rfl⟩:=h;exact⟨N,(gA ((gz W).drewN k)).trans (Rh _ os)⟩
end Go.Proofs.YtahhllcdbjbpbaaGreatDoor
