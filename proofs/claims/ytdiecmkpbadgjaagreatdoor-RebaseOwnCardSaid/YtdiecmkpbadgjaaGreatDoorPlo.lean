/- What the theorem needs of the texts Same24, Kn24: no condition of its own. -/
import Derived.Test.YtdiecmkpbadgjaaGreatDoorPln
set_option linter.unusedVariables false
set_option linter.unusedSimpArgs false
set_option linter.unnecessarySimpa false
set_option maxRecDepth 100000
set_option maxHeartbeats 4000000
namespace Go.Proofs.YtdiecmkpbadgjaaGreatDoor
open Go.Proofs.Tryz
open Go.RowKit Go.Maps Go.Shelf
variable{w:World}{s s':Sl}
theorem QgX{l:List Nm}(h:Qa7 w (Lt w) s l)(h':Qa7 w (Lt w) s' l):Calls prog 11 #[.slice s.a l.length s.c,.slice s'.a l.length s'.c] w λe w'=>e=.returned (.bool true)/\Ext w w':=by
 have c1:=h.len;obtain⟨H,H'⟩:=Yb h h';clear h h';go_in;go_wp2_with fail;go_loopw[5] (λv wr=>∃j:Nat,v=.int .i64 (j:Int)/\j<=l.length/\Yd (Ext w wr)) (λv _=>l.length -(intOf v).toNat)
 case atStart=>exact⟨0,rfl,aC _,hY (fq _)⟩
 obtain⟨j,rfl,hj,HX⟩:=hrel;by_cases a9:j<l.length
 ·have l1:(j:Int)<(l.length:Int):=oM
  have c4:decide ((j:Int)<(l.length:Int))=true:=dY l1;have l0:(0:Int)<=(j:Int):=oM
  obtain⟨x,hx⟩:∃x,l[j]? = some x:=⟨_,ac a9⟩;obtain⟨b,o,y,b8,hb,c3,c2,b3,a8⟩:=H.o.at hx;obtain⟨b',o',y',a7,a6,c0,b4,a1,a0⟩:=H'.o.at hx;have Z:∀W,Ext wr W->NmC W b (o+j*20) x y:=λW hW=>b3.agree ((HX.o.trans hW).agree λ_ h=>h) hb
  have N:∀W,Ext wr W->NmC W b' (o'+j*20) x y':=λW hW=>a1.agree ((HX.o.trans hW).agree λ_ h=>h) a6
  obtain⟨a5,a3,a2⟩:=Yc (show ∀W,Ext wr W->W.rangeAt b (o+j*20+1) (Qa2 x.m y).toList fromλW hW=>(Z W hW).mu.range) (show ∀W,Ext wr W->W.rangeAt b' (o'+j*20+1) (Qa2 x.m y').toList fromλW hW=>(N W hW).mu.range) (λW (hW:Ext wr W)=>QnS ((a8.agree ((HX.o.trans hW).agree λ_ h=>h)).mono (G:=Lt W) λb hb=>ab hb (HX.o.trans hW).size) ((a0.agree ((HX.o.trans hW).agree λ_ h=>h)).mono (G:=Lt W) λb hb=>ab hb (HX.o.trans hW).size));obtain⟨d,a4⟩:=QiJ x.m y;obtain⟨d',b0⟩:=QiJ x.m y';obtain⟨b9,b5,I⟩:=Yc a4 b0 (show ∀W,Ext wr W->W.cell? ⟨b,o+j*20,none⟩=some (.int .u64 x.id)/\W.cell? ⟨b',o'+j*20,none⟩=some (.int .u64 x.id) fromλW hW=>⟨(Z W hW).id,(N W hW).id⟩);rw[b8,a7];clear b3 a1 a8 a0 Z N hx a4 b0 hb a6;go_upto_region 6 with fail;refine ed (S:=(λw'=>Ext wr w')) kM (((fq wr).drew)) (λhHeld=>?_);refine Qaf 0 (some 17) I hHeld ?_;refine Qaf 1 (some 18) I hHeld ?_;refine Qaf 2 (some 19) I hHeld ?_;refine Qaf 3 (some 20) I hHeld ?_;refine Qaf 4 (some 21) I hHeld ?_;refine Qaf 5 (some 22) I hHeld ?_;refine Qaf 6 (some 23) I hHeld ?_;refine Qaf 7 (some 24) I hHeld ?_;refine Qaf 8 (some 25) I hHeld ?_;refine Qaf 9 (some 26) I hHeld ?_;refine Qaf 10 (some 27) I hHeld ?_;refine Qaf 11 (some 28) I hHeld ?_;refine Qaf 12 (some 29) I hHeld ?_;refine Qaf 13 (some 30) I hHeld ?_;refine Qaf 14 (some 31) I hHeld ?_;refine Qaf 15 (some 32) I hHeld ?_;refine Qrs 16 (some 33) 37 (.tmp 32) a5 hHeld b9.o ?_;refine Qaf 17 (some 34) I hHeld ?_;refine Qaf 18 (some 35) I hHeld ?_;refine Qaf 19 (some 36) I hHeld ?_;refine Qaf 20 (some 37) I hHeld ?_;refine Qrs 21 (some 38) 37 (.tmp 37) a3 hHeld b5.o ?_;refine Qac (i:=22) kM rfl (by rfl) (λK hK=>?_);go_simp
  (refine(a2.o _ hHeld).mono ?_;rintro e wa ⟨rfl,b6⟩)
  refine hK.out _ _ (hHeld.trans b6) (λhHeld=>?_);clear hK K
  try go_frame
  refine Qaf 23 (some 40) I hHeld ?_;refine Qaf 24 (some 41) I hHeld ?_;refine eu kM ?_ _;have b7:=hY hHeld;clear hHeld;go_wp2_with fail;go_roundw
  case measure=>simp[intOf];omega
  exact⟨j+1,by go_num,a9,hY (HX.o.trans b7.o)⟩
 obtain rfl:j=l.length:=oM
 have l1:decide ((l.length:Int)<(l.length:Int))=false:=dV oM;go_wp2_with fail;go_ret;exact⟨rfl,HX.o⟩
variable{F:Nat->Prop}
theorem QAg{l:List Nm}{last:Int}(hr:Qa7 w F s l)(hF:∀b,F b->b<w.heap.size) :
  Calls prog 13 #[.int .u64 last,.slice s.a l.length s.c] w λe w'=>∃s':Sl,e=.returned (.slice s'.a (QbK last l).length s'.c)/\Ext w w'/\Qa7 w' (λb=>F b\/In w.heap.size w'.heap.size b) s' (QbK last l):=by
 obtain⟨i0,hi,b7,a7,d5⟩:=ej Tryz.Qcz;have d7:=hr.len;obtain⟨HR,HF⟩:=Yb hr hF;clear hr hF;go_in;go_wp2_with fail;go_loopw[5,6] (λv5 v6 wr=>∃(j:Nat) (s2:Sl) (ys:List (Nm × MuS)),v6=.int .i64 (j:Int)/\v5=.slice s2.a ys.length s2.c/\j<=l.length/\ys.length<=j/\Yd (ys.map Prod.fst=QbK last (l.take j))/\Yd (Ext w wr)/\Yd (wr.ownsRow w.heap.size 39 20 (.slice s2.a ys.length s2.c) ys.length (Qd6 ys))/\Yd (∀y∈ys,RMu w F y.1.m y.2)) (λ_ v _=>l.length -(intOf v).toNat)
 case atStart=>exact⟨0,Sl.none,[],rfl,rfl,aC _,an _,hY rfl,hY (fq _),hY (ey _ _ _ _),hY λy h=>by cases h⟩
 obtain⟨j,s2,ys,rfl,rfl,hj,b6,HY,HX,a0,a4⟩:=hrel;by_cases a5:j<l.length
 ·have l1:(j:Int)<(l.length:Int):=oM
  have e0:decide ((j:Int)<(l.length:Int))=true:=dY l1;have l0:(0:Int)<=(j:Int):=oM
  obtain⟨x,N⟩:∃x,l[j]? = some x:=⟨_,ac a5⟩;obtain⟨b,o,y,d0,a9,d8,d6,c1,a6⟩:=HR.o.at N;have Z:=c1.agree (HX.o.agree HF.o) a9;have c0:wr.cell? ⟨b,o+j*20,none⟩=some (.int .u64 x.id):=Z.id;have b0:=hY Z;have e3:=Z.lt;obtain⟨c4,b4⟩:=Yb a6 (Qmf (last:=last) N);rw[d0];clear c1 a6 Z N a9;by_cases hk:last<x.id
  ·have g:decide (last<x.id)=true:=dY hk
   have I:=b4.o;rw[dW hk]at I;have HA:=hY I;have a2:=(fq wr).alloc (Qh5 x y) 39;obtain⟨c6,c3,a8,c9,c8,c7⟩:=Yg (ft wr 39 (Qh5 x y)) a2 (Qab (F:=Lt wr) a0.o (a2.agree λb hb=>hb) λb hb=>(Qad a0.o hb).2) (show ys.length+1<=maxLen by unfold maxLen;omega) (show(ys.length+1)*272<=140737488355328 by omega) (show w.heap.size<=(wr.alloc (.cells (Qh5 x y) 39)).heap.size from(HX.o.trans a2).size);clear I a2;go_wp2_with(first |(refine QjZ rfl (.tmp 23) rfl b (o+j*20) rfl x y b0.o ?_) |(refine QbT rfl 23 39 1 #[(0,.tmp 24)] rfl [QqR x y] 20 underlying23 hi a7 b7 oN rfl oN oN (λv hv=>by rw[aR.1 hv];rfl) rfl (Qh5 x y) rfl ?_) |(at_builtin;refine Qak _ rfl (.tmp 20) (.tmp 25) 23 rfl w.heap.size 39 i0 _ 20 272 underlying23 hi b7 a7 d5 rfl oN s2 ys.length (Qd6 ys) rfl a8.o (λb=>b=wr.heap.size) ⟨some ⟨wr,0,none⟩,1⟩ 1 (Qbw x y) rfl (fE c6.o oN rfl) (Qtw (x,y)) c9.o c8.o c7.o ?_;intro s7 w9 a1 a3 b9;have c2:=hY a1;have d3:=hY a3;have e1:=hY b9;clear a1 a3 b9));go_roundw
   case measure=>simp[intOf];omega
   refine⟨j+1,s7,ys++[(x,y)],by go_num,by rw[aj];rfl,a5,by rw[aj];exact Nat.succ_le_succ b6,hY (by rw[aF,HY.o,HA.o];rfl),hY ?_,hY ?_,hY λz hz=>?_⟩
   .exact (HX.o.trans c3.o).wr d3.o λi hi=>(Qad a8.o hi).1
   ·rw [aj,QjD,show Qd6 [(x,y)]=Qbw x y by simp [Qd6]]
    exact c2.o
   rcases aP.1 hz with hz|hz
   .exact a4.o z hz
   rw[aR.1 hz];exact c4.o
  have g:decide (last<x.id)=false:=dV hk;have I:=b4.o;rw[dU hk]at I;have HA:=hY I;clear I;go_wp2_with fail;go_roundw
  case measure=>simp[intOf];omega
  exact⟨j+1,s2,ys,by go_num,rfl,a5,dL b6,hY (by rw[HA.o];exact HY.o),HX,a0,a4⟩
 obtain rfl:j=l.length:=oM
 have l1:decide ((l.length:Int)<(l.length:Int))=false:=dV oM;have hy:=HY.o;rw[aZ]at hy;have b5:=hY hy;clear hy;go_wp2_with fail;go_ret;have b3:ys.length=(QbK last l).length:=by rw[<-b5.o,aq]
 have e2:=QgH last l;obtain⟨bl,fl,b8,d4⟩:=QuK a0.o rfl;have I:∀k x,(QbK last l)[k]? = some x->∃p:Nm × MuS,ys[k]? = some p/\p.1=x:=λk x N=>by
  rw[<-b5.o,au]at N;cases hp:ys[k]? with
  |none=>rw[hp]at N;cases N
  |some p=>rw[hp]at N;injection N with N;exact⟨p,hp,N⟩
 rw[b3]at b8;refine⟨s2,by rw[<-b3]<;>rfl,HX.o,⟨bl,fl,λk=>((ys[k]?).getD default).2,b8.mono λb hb=>.inr hb,λk x N=>?_,λk x N=>?_⟩,λn hn=>HR.o.wf n (bX.1 hn).1,oM⟩
 ·obtain ⟨p,hp,rfl⟩:=I k x N
  simp only[hp];exact d4 k p hp
 obtain⟨p,hp,rfl⟩:=I k x N;simp only[hp];exact((a4.o p (am hp)).agree (HX.o.agree HF.o)).mono λb hb=>.inl hb
theorem Qle{l:List Nm}{last:Int}(N:Qa7 w F s l)(hF:∀b,F b->b<w.heap.size) :
  Calls prog 13 #[.int .u64 last,.slice s.a l.length s.c] w λe w'=>∃s':Sl,e=.returned (.slice s'.a (QbK last l).length s'.c)/\Ext w w'/\Qa7 w' (Lt w') s' (QbK last l):=
 (QAg N hF).mono λe w' ⟨s',h1,h2,h3⟩=>⟨s',h1,h2,h3.mono λb I=>I.elim (λh=>ab (hF b h) h2.size) λh=>h.2⟩
abbrev QvG:List (Nm × MuS):=[(⟨1,Qfg kN 1⟩,zS),(⟨2,Qil kN⟩,zS),(⟨3,Qfg kN 1⟩,zS)]
variable{B:Nat}
theorem Quw{l:List (Nm × MuS)}(Z:Blk w B 39 (Qd6 l).toArray)(hr:∀p∈l,RMu w (Lt w) p.1.m p.2/\(Lit.int .u64 p.1.id).wf=true)(hl:l.length<=1000):Qa7 w (Lt w) ⟨some ⟨B,0,none⟩,l.length⟩ (l.map Prod.fst):=by
 refine⟨⟨B,0,λj=>((l[j]?).getD default).2,?_,λj n I=>?_,λj n I=>?_⟩,λn hn=>?_,by rw[aq];omega⟩
 ·rw [aq]
  exact .some _ _ _ _ (an _) (ak hl oN) Z.lt
 ·rw [au] at I
  cases N:l[j]? with
  |none=>rw[N]at I;cases I
  | some p=>
    rw[N]at I;injection I with I;subst I;intro i u hu;have hu:(Qbw p.1 p.2)[i]? = some u:=by
     have h:=hu;dsimp only at h;rw[N]at h;exact h
    rw[aE,Z.cell,List.getElem?_toArray];exact Qiq (f:=λp:Nm × MuS=>Qbw p.1 p.2) (λ_=>rfl) l j p N i u hu
 ·rw [au] at I
  cases N:l[j]? with
  |none=>rw[N]at I;cases I
  | some p=>
    rw[N]at I;injection I with I;subst I;dsimp only;rw[N];exact(hr p (am N)).1
 obtain⟨p,N,rfl⟩:=ce.1 hn;exact(hr p N).2
theorem Qa7.drop{l:List Nm}(h:Qa7 w F s l){k:Nat}(hk:k<=l.length)(ha:s'.a=if s.c=k then s.a else s.a.map (·.add (k*20)))(hc:s'.c=s.c-k):Qa7 w F s' (l.drop k):=by
 obtain⟨b,o,c,hs,Z,hr⟩:=h.ex;obtain⟨a2,a1⟩:=s';dsimp only at ha hc;subst ha hc;have a0:=h.len;refine⟨⟨b,o+k*20,λj=>c (k+j),?_,λj n N=>?_,λj n N=>?_⟩,λn hn=>h.wf n (aL hn),by rw[az];omega⟩
 ·rw [az]
  generalize l.length=n at hs hk;cases hs with
  | nil=>
    obtain rfl:k=0:=oM
    exact .nil _ _
  | some _ cc _ _ h1 h2 h3=>
    dsimp only;by_cases I:cc=k
    ·subst I
     rw[dW rfl,cp,show n-cc=0 by omega];exact .zero _ _ _
    rw[dU I,bG,Qbc];exact .some _ _ _ _ oM oM h3
  | zero a=>
    obtain rfl:k=0:=oM
    exact .zero _ _ _
 ·rw [aW] at N
  have:=Z (k+j) n N;rwa[show o+(k+j)*20=o+k*20+j*20 by omega]at this
 rw[aW]at N;exact hr (k+j) n N
def QsZ:Array Value:=(Qd6 QvG).toArray
variable{w':World}
theorem Qa7.nw{l:List Nm}(h:Qa7 w (Lt w) s l)(k:Nw w w'):Qa7 w' (Lt w') s l:=(h.agree (fA k λb I=>I)).mono λb I=>ab I k.size
theorem Qa7.up{l:List Nm}(h:Qa7 w F s l)(hF:∀b,F b->b<w.heap.size)(k:Nw w w'):Qa7 w' (Lt w') s l:=(h.mono (G:=Lt w) hF).nw k
variable{cs:List Value}
theorem Rd.nw{k n:Nat}(h:Rd w F k s n cs)(hF:∀b,F b->b<w.heap.size)(e:Nw w w'):Rd w' (Lt w') k s n cs:=(h.agree (fA e hF)).mono λb I=>ab (hF b I) e.size
abbrev l24:List Nm:=[⟨1,Qfg kN 1⟩,⟨2,Qil kN⟩,⟨3,Qfg kN 1⟩]
abbrev muI:Mu:=Qfg kN 1
abbrev muD:Mu:=Qil kN
theorem QoH:prog.built 37 [(0,.int .i64 3),(1,.string kN),(3,.int .i64 1)]=some (Qa2 muI zS):=kM
theorem QoG:prog.built 37 [(0,.int .i64 2),(1,.string kN)]=some (Qa2 muD zS):=kM
theorem QuV:Qcc (Qe6 l24)<=1099000:=by decide +kernel
theorem Qtm:QbK 1 l24=l24.drop 1:=by simp[QbK]
variable{T:RT}
theorem Qvx{l:List Nm}(hT:IsT w F T)(hF:∀b,F b->6<=b/\b<w.heap.size)(ok:OkR T)(N:OkM (Qaa T))(hl:(Qaa T).length<=1)(hr:Qa7 w (Lt w) s l)(hs:l.length<=3)(Z:Qcc (Qe6 l)<=1099000)(hL:Qb4 w):Qey w F (Lt w) T s l:=
 ⟨hT,hF,ok,N,hr,λb I=>I,hL,oM,Z⟩
theorem Qpz(hL:Qb4 w):Calls prog 10 #[] w λe w'=>e=.returned (.bool true)/\Nw w w':=by
 obtain⟨i0,hi,r2,q9,x3⟩:=ej Tryz.Qcz;have t5:=hL.lib.big;have HL:=hY hL;clear hL;go_in;go_upto_region 2 with fail;generalize j5:World.alloc w _=w1;obtain⟨p6,g0,t7⟩:=Qb2 j5;obtain⟨r6,r5⟩:=Yb (fr p6) g0;have t4:w1.heap.size<=w1.drew.heap.size:=an _;have t3:w1.drew.heap.size<=w1.heap.size:=an _;have j9:=hY (show ∀W,Nw w1 W->W.cell? ⟨w,0,none⟩=some (.pointer none) fromλW N=>(N.blk g0).cell 0);clear j5 p6 g0;refine Qss (λw' b _=>QtY (QkP 5) w1.heap.size w' b/\Nw w1 w') [11,12,13] (λb _=>[(2,.pointer (some ⟨b,0,none⟩))]) ?_ ?_
 ·skip
  refine ed (S:=(λw'=>Nw w1 w')) kM ((fr ((fq w1).drew))) (λhHeld=>?_);refine Qaf 0 (some 11) j9 hHeld ?_;have pm:=Tag.mk 0;have pa:=Tag.mk 1000
  repeat' (first
   |(have:=(pm:Tag 0);have:=(pa:Tag 1000);refine Quj 1 3 (λK tg hK=>?_) (λK tg hK=>?_))
   |(have:=(pm:Tag 0);have:=(pa:Tag 1001);refine Qrr 1 (λK tg hK=>?_))
   |(have:=(pm:Tag 1);have:=(pa:Tag 1000);refine Quj 2 3 (λK tg hK=>?_) (λK tg hK=>?_))
   |(have:=(pm:Tag 1);have:=(pa:Tag 1001);refine Qrr 2 (λK tg hK=>?_))
   |(have:=(pm:Tag 2);have:=(pa:Tag 1000);refine Qrr 3 (λK tg hK=>?_))
   |(have:=(pm:Tag 2);have:=(pa:Tag 1001);refine Qrr 4 (λK tg hK=>?_))
   | (have:=(tg:Tag 1)
      clear this tg;clear pm;have pm:=Tag.mk 1;go_simp
      (refine(Qj6 _ 5).mono ?_;rintro e wa ⟨rfl,d4⟩;have za:=d4.size;(first|have a2:=hY (a2.o.ext d4)|have a2:=hY (a2.o.ext (((fq _).drew).trans d4))|skip))
      refine hK.out _ _ (hHeld.trans (fr d4)) (λhHeld=>?_);clear hK K
      try go_frame)
   | (have:=(tg:Tag 2)
      clear this tg;clear pm;have pm:=Tag.mk 2;go_simp
      (have s7:=hHeld.size;refine(Qsb (k:=kN) (n:=5) oN oN).mono ?_;rintro e wc ⟨T,p,rfl,hp,ok,he,hT,a8⟩;have zc:=a8.size;have HT:=hY hT;(try(have a2:=hY (a2.o.ext a8);have c6:World.cell? _ ⟨_,0,none⟩=some (.pointer none):=a2.o.cell 0;have f6:=a2.o.frozen 0));clear hT)
      refine hK.out _ _ (hHeld.trans (fr a8)) (λhHeld=>?_);clear hK K
      try go_frame)
   | (have:=(tg:Tag 3)
      clear this tg;clear pa;have pa:=Tag.mk 1001;go_simp
      (have s8:=hHeld.size;generalize q2:World.alloc _ _=wz;obtain⟨g9,d6,zz⟩:=Qb2 q2;have zd:wz.heap.size<=wz.drew.heap.size:=an _;have a2:=hY d6;have c6:World.cell? _ ⟨_,0,none⟩=some (.pointer none):=d6.cell 0;have f6:=d6.frozen 0;(try(have HT:=hY (HT.o.agree (g9.agree λb I=>I.2))));clear q2 d6)
      refine hK.out _ _ ((by first|exact hHeld.trans (fr g9)|exact(fr g9).trans (fr ((fq wz).drew)))) (λhHeld=>?_);clear hK K
      try go_frame)
   | (have:=(tg:Tag 4)
      clear this tg;clear pm;have pm:=Tag.mk 3;go_simp
      (have HN:=hY hHeld)
      refine hK.out _ _ (QpW hHeld oM _) (λhHeld=>?_);clear hK K
      try go_frame)
   | (have:=(pm:Tag 3);have:=(pa:Tag 1001);refine eu kM ?_ _
      simp only[QnK,List.map_cons,List.map_nil,List.cons_append,List.nil_append,List.setIfInBounds_toArray,List.set_cons_zero,List.set_cons_succ];refine QrX ⟨_,.bool true,⟨Qq6 hp ok he HT.o a2.o oM (λi hi=>⟨by have:=hi.1;omega,by have:=hi.2;omega,by have:=hi.1;have:=hi.2;omega⟩),hHeld⟩,kM,?_⟩;simp only[QnK,List.map_cons,List.map_nil,List.cons_append,List.nil_append,List.setIfInBounds_toArray,List.set_cons_zero,List.set_cons_succ]
      kernel_rfl))
 intro w2 b2 u2 vs t1;simp only[QnK,List.map_cons,List.map_nil,List.cons_append,List.nil_append,List.setIfInBounds_toArray,List.set_cons_zero,List.set_cons_succ];obtain⟨⟨T1,p1,k7,l1,k2,q3,f7,w7⟩,e0⟩:=t1;have z2:=e0.size;obtain⟨o9,q8,d7,n2,i4,s4,e4⟩:=Yh k7 l1 k2 q3 f7 (r6.o.trans e0) e0;clear k7 l1 k2 q3 f7 e0 j9;go_upto_region 4 with(first |(refine Qa4 rfl 37 #[(0,.const (.int .i64 3)),(1,.const (.string kN)),(3,.const (.int .i64 1))] rfl (Qa2 muI zS) QoH ?_) |(refine QaR rfl rfl rfl muI zS (w0:=w2) (b:=w2) rfl ((fq w2).alloc _ _) (ft w2 _ _) rfl rfl rfl ?_;intro w3 b0 a9;have l5:=hY b0;have g7:=hY (fB a9);clear b0 a9));have K0:True:=trivial;go_upto_region 5 with(first |(have _k:=K0;refine Qah rfl (.tmp 3) rfl w2.heap.size 0 rfl muI zS g7.o ?_;clear _k K0;have K1:True:=trivial) |(have _k:=K1;refine Qa4 rfl 39 #[(0,.const (.int .u64 1)),(1,.tmp 15)] rfl (Qh5 ⟨1,muI⟩ zS) (Qh6 1 muI zS) ?_;clear _k K1;have K2:True:=trivial) |(have _k:=K2;refine Qa4 rfl 37 #[(0,.const (.int .i64 2)),(1,.const (.string kN))] rfl (Qa2 muD zS) QoG ?_;clear _k K2;have K3:True:=trivial) |(have _k:=K3;refine Qa4 rfl 39 #[(0,.const (.int .u64 2)),(1,.tmp 17)] rfl (Qh5 ⟨2,muD⟩ zS) (Qh6 2 muD zS) ?_;clear _k K3;have K4:True:=trivial) |(have _k:=K4;refine Qah rfl (.tmp 3) rfl w2.heap.size 0 rfl muI zS g7.o ?_;clear _k K4;have K5:True:=trivial) |(have _k:=K5;refine Qa4 rfl 39 #[(0,.const (.int .u64 3)),(1,.tmp 19)] rfl (Qh5 ⟨3,muI⟩ zS) (Qh6 3 muI zS) ?_;clear _k K5;have K6:True:=trivial) |(have _k:=K6;refine QbT rfl 23 39 3 #[(0,.tmp 16),(1,.tmp 18),(2,.tmp 20)] rfl [QqR ⟨1,muI⟩ zS,QqR ⟨2,muD⟩ zS,QqR ⟨3,muI⟩ zS] 20 underlying23 hi q9 r2 oN rfl oN oN (λv hv=>by simp only[List.mem_cons,List.not_mem_nil,or_false]at hv;rcases hv with rfl|rfl|rfl<;>rfl) rfl QsZ rfl ?_;clear _k K6;have K7:True:=trivial));generalize o3:World.alloc _ _=w4;obtain⟨k0,p9,t9⟩:=Qb2 o3;have Z:Qa7 w4 (Lt w4) ⟨some ⟨w3,0,none⟩,3⟩ l24:=Quw (l:=QvG) p9 (λp hp=>by
  simp only[List.mem_cons,List.not_mem_nil,or_false]at hp;rcases hp with rfl|rfl|rfl
  .exact ⟨QpQ _ _ oN oN,oN⟩
  .exact ⟨Quv _ _ oN,oN⟩
  exact⟨QpQ _ _ oN oN,oN⟩) oN
 have a3:Qa7 w4 (Lt w4) ⟨some ⟨w3,20,none⟩,2⟩ (l24.drop 1):=Z.drop (k:=1) oN (by simp[Qbc]) rfl;have a1:Nw w2 w4:=(fr l5.o).trans (fr k0);have t2:=a1.size;have b6:=a1.blk i4.o;have e6:=n2.o.agree (fA a1 λb I=>I.2.1);obtain⟨s5,d0,c8,k6,e8⟩:=Yf Z a3 (s4.o.trans a1) (e4.o.trans a1) b6;have d3:∀W,Nw w4 W->Qey W (λi=>w1<=i/\i<w2/\i≠b2) (Lt W) T1 ⟨some ⟨w3,0,none⟩,3⟩ l24:=λW N=>
  Qvx (e6.agree (fA N λb I=>by have:=I.2.1;omega)) (λb I=>⟨by have:=I.1;omega,by have:=I.2.1;have:=N.size;omega⟩) q8.o (by rw[d7.o];exact Qty oN oN) (by rw[d7.o];exact an 1) (Z.nw N) oN QuV (HL.o.nw (c8.o.trans N))
 have v9:=hY d3;have c2:w4.cell? ⟨b2,0,none⟩=some (.pointer p1):=b6.cell 0;have b4:=hY (show Calls prog 18 #[.agg #[.pointer p1],.slice (some ⟨w3,0,none⟩) 3 3] w4 λe w'=>∃T' p',e=.returned (.agg #[.pointer p'])/\QaK T'=.pointer p'/\OkR T'/\IsT w' (Up (λi=>w1<=i/\i<w2/\i≠b2) w4 w') T'/\Qaa T'=QkP 1/\Nw w4 w' from by
  have h:=Qhv (d3 w4 (fu _ _));rw[Qao,o9.o,d7.o,show Qe6 l24=lK from rfl,Qui]at h;refine h.mono ?_;rintro e w' ⟨T',rfl,h1,h2,h3,h4,h5,-⟩;obtain⟨p',p8⟩:=Qaj T';exact⟨T',p',by rw[Qao,p8],p8,h1,h2,h3,h5⟩)
 have e1:=hY (show ∀W,Nw w4 W->Calls prog 20 #[.agg #[.pointer p1],.slice (some ⟨w3,0,none⟩) 3 3] W λe w'=>∃sc:Sl,e=.returned (.slice sc.a 3 sc.c)/\Rd w' (In W.heap.size w'.heap.size) 1 sc 3 ([0,0,0].map (.int .i64))/\Nw W w' fromλW N=>by
  have h:=Qgp (d3 W N) oN;rw[Qao,o9.o,d7.o,show Qe6 l24=lK from rfl,Qui]at h;exact h)
 have f0:∀W,Nw w4 W->Qey W (λ_=>False) (Lt W) none ⟨some ⟨w3,20,none⟩,2⟩ (l24.drop 1):=λW N=>
  Qvx trivial (λb I=>I.elim) trivial OkM.nil (aC _) (a3.nw N) oN (by decide +kernel) (HL.o.nw (c8.o.trans N))
 have b3:∀W,Nw w4 W->Qey W (λ_=>False) (Lt W) none ⟨some ⟨w3,0,none⟩,3⟩ l24:=λW N=>
  Qvx trivial (λb I=>I.elim) trivial OkM.nil (aC _) (Z.nw N) oN QuV (HL.o.nw (c8.o.trans N))
 have f4:=hY b3;have b7:=hY (show ∀W,Nw w4 W->Calls prog 20 #[.agg #[.pointer none],.slice (some ⟨w3,20,none⟩) 2 2] W λe w'=>∃sc:Sl,e=.returned (.slice sc.a 2 sc.c)/\Rd w' (In W.heap.size w'.heap.size) 1 sc 2 ([12,0].map (.int .i64))/\Nw W w' fromλW N=>by
  have h:=Qgp (f0 W N) oN;rw[show Qe6 (l24.drop 1)=lK.drop 1 from rfl,show Qaa none=[]from rfl,QsB]at h;exact h)
 clear o3 k0 p9 Z a3 a1 b6 e6 d3 f0 b3 g7 l5 i4 n2 e4;go_wp2_with fail;refine b4.o.mono ?_;rintro e w5 ⟨T2,p2,rfl,i9,i7,k9,k5,p0⟩;obtain⟨n6,j3,g5,r3,l2⟩:=Yf i9 i7 k5 k9 p0;clear i9 i7 k5 k9 p0 c2 b4;go_upto_region 6 with fail;generalize j0:World.alloc _ _=w6;obtain⟨f9,l9,x0⟩:=Qb2 j0;have a7:Nw w4 w6:=l2.o.trans (fr f9);obtain⟨e7,g6⟩:=Yb a7 l9;have x2:=l2.o.size;have f1:=hY (r3.o.agree (f9.agree λb I=>I.elim (λe=>by have:=e.2.1;omega) λe=>e.2));have n9:=(c8.o.trans a7);have a4:=hY (show ∀W,Nw w6 W->W.cell? ⟨w,0,none⟩=some (.pointer none) fromλW N=>(Nw.blk ((k6.o.trans a7).trans N) r5.o).cell 0);clear j0 f9 l9 a7 n9;refine ed (S:=(λw'=>Nw w6 w')) kM ((fr ((fq w6).drew))) (λhHeld=>?_);refine Qaf 0 (some 25) a4 hHeld ?_;refine Qaf 1 (some 26) a4 hHeld ?_;refine Qaf 2 (some 27) a4 hHeld ?_;refine Qac (i:=3) kM rfl (by rfl) (λK hK=>?_);go_simp
 (refine(b7.o _ (e7.o.trans hHeld)).mono ?_;rintro e wa ⟨sc,rfl,j7,o1⟩;have f3:=hY j7;have o0:=hY o1;have t0:=hY hHeld;clear j7 o1)
 refine hK.out _ _ (hHeld.trans o0.o) (λhHeld=>?_);clear hK K
 try go_frame
 refine Qaf 4 (some 6) a4 hHeld ?_;refine eu kM ?_ _;have l6:=hY hHeld;have c3:=e7.o.trans hHeld;have l7:=hY c3;have q5:wa.cell? ⟨w5,0,none⟩=some (.pointer p2):=(Nw.blk hHeld g6.o).cell 0;have q1:wa.cell? ⟨w,0,none⟩=some (.pointer none):=a4.o wa hHeld;have d5:∀b,Up (λi=>w1<=i/\i<w2/\i≠b2) w4 w5 b->b<w6:=λb I=>I.elim (λe=>by have:=e.2.1;omega) λe=>by have:=e.2;omega
 have x4:=hHeld.size;have g4:=f1.o.agree (fA hHeld d5);have c9:=hY (show Calls prog 21 #[.agg #[.pointer p2],.agg #[.pointer none],.int .u64 1,.slice (some ⟨w3,0,none⟩) 3 3] wa λe w'=>∃(V:RT) (p3:Option Addr) (sL sC:Sl),e=.returned (.tuple #[.agg #[.pointer p3],.slice sL.a 2 sL.c,.slice sC.a 0 sC.c])/\QaK V=.pointer p3/\OkR V/\Qaa V=QkP 1/\IsT w' (In wa.heap.size w'.heap.size) V/\Qa7 w' (In wa.heap.size w'.heap.size) sL (l24.drop 1)/\Nw wa w' from by
  have h:=QnA (last:=1) g4 (λb I=>by have:=d5 b I;omega) j3.o (by rw[g5.o];decide) (f4.o wa c3);rw[Qao,n6.o,Qtm]at h;refine h.mono ?_;rintro e w' ⟨V,sL,sC,cs,rfl,ho⟩;obtain⟨p3,c1⟩:=Qaj V;have he:Qaa V=QkP 1:=by rw[ho.ents,show Qe6 (l24.drop 1)=lK.drop 1 from rfl,show Qaa none=[]from rfl,QsB]
  have hc:=ho.chg;rw[he,g5.o,QlV]at hc;obtain rfl:cs=[]:=cY.1 hc;exact⟨V,p3,sL,sC,by rw[Qao,c1]<;>rfl,c1,ho.ok,he,ho.tree.mono λb I=>I.elim (λe=>e.elim) id,ho.row,ho.nw⟩)
 obtain⟨j1,k3⟩:=Yb g4 d5;clear c3 g4 hHeld d5 f4 b7 f1;go_wp2_with fail;refine c9.o.mono ?_;rintro e wb ⟨V,p3,sL,sC,rfl,c1,n7,k4,hV,b5,i5⟩;obtain⟨s1,r7,s0,HV,i3,q7⟩:=Yg c1 n7 k4 hV b5 i5;clear c1 n7 k4 hV b5 i5 q5 q1 c9;go_upto_region 8 with fail;generalize l8:World.alloc _ _=wc;obtain⟨a8,l4,x1⟩:=Qb2 l8;obtain⟨p7,o4⟩:=Yb a8 l4;clear l8 a8 l4;go_wp2_with fail;refine(Qj6 _ 1).mono ?_;rintro e wd ⟨rfl,k1⟩;have g3:=hY k1;clear k1;go_upto_region 9 with fail;generalize l0:World.alloc _ _=we;obtain⟨d8,o2,w8⟩:=Qb2 l0;have a0:Nw wa we:=q7.o.trans ((fr p7.o).trans ((fr g3.o).trans (fr d8)));have a6:Nw wb we:=(fr p7.o).trans ((fr g3.o).trans (fr d8));have f5:Nw wc we:=(fr g3.o).trans (fr d8);have t8:=a6.size;have t6:=a0.size;have o7:ES we (Lt we) ⟨some ⟨wd,0,none⟩,1⟩ [⟨kN,Qi0 1,Sl.none,Sl.none⟩]:=Qud (xs:=[⟨kN,Qi0 1,Sl.none,Sl.none⟩]) o2 (λx hx=>by rw[aR.1 hx];exact⟨QmB _ _ oN,oN⟩) oN;have b8:∀(T:RT) (p:Option Addr) (F:Nat->Prop),QaK T=.pointer p->OkR T->Qaa T=QkP 1->(∀b,F b->b<we.heap.size)->IsT we F T->∀W,Nw we W->Calls prog 17 #[.agg #[.pointer p],.slice (some ⟨wd,0,none⟩) 1 1] W λe w'=>e=.returned (.bool true)/\Ext W w':=λT p F hp ok he hF hT W N=>by
  have h:=Qph (w:=W) (s:=⟨some ⟨wd,0,none⟩,1⟩) (xs:=[⟨kN,Qi0 1,Sl.none,Sl.none⟩]) (λb I=>ab (hF b I) N.size) (hT.agree (fA N hF)) ok (by rw[he];decide) ((o7.agree (fA N λb I=>I)).mono λb I=>ab I N.size);rw[Qao,hp,he,show([⟨kN,Qi0 1,Sl.none,Sl.none⟩]:List LE).map LE.ent=QkP 1 from rfl,QhK]at h;exact h
 obtain⟨b9,c0,a5⟩:=Yc (b8 T2 p2 _ n6.o j3.o g5.o (λb I=>by have:=k3.o b I;omega) (j1.o.agree (fA a0 λb I=>by have:=k3.o b I;omega))) (b8 V p3 _ s1.o r7.o s0.o (λb I=>by have:=I.2;omega) (HV.o.agree (fA a6 λb I=>I.2))) (l7.o.trans a0);have f8:=hY (show ∀W,Nw we W->Calls prog 11 #[.slice sL.a 2 sL.c,.slice (some ⟨w3,20,none⟩) 2 2] W λe w'=>e=.returned (.bool true)/\Ext W w' fromλW N=>
  QgX (s:=sL) (s':=⟨some ⟨w3,20,none⟩,2⟩) (l:=l24.drop 1) (i3.o.up (λb I=>I.2) (a6.trans N)) (d0.o.nw (a5.o.trans N)))
 obtain⟨e3,k8,p5,q6,s9⟩:=Yf (f3.o.nw (λb I=>I.2) a0) (Nw.blk (l6.o.trans a0) g6.o) (Nw.blk a5.o e8.o) (Nw.blk f5 o4.o) (c8.o.trans a5.o);have q5:we.cell? ⟨w5,0,none⟩=some (.pointer p2):=k8.o.cell 0;clear l0 d8 o2 a0 a6 f5 o7 b8 f3 i3 HV j1 o0 t0 g6 e8 o4;go_wp2_with fail;refine(b9.o we (fu _ _)).mono ?_;rintro e v1 ⟨rfl,i1⟩;have j2:=hY (fr i1);have c2:v1.cell? ⟨b2,0,none⟩=some (.pointer p1):=(p5.o.ext i1).cell 0;clear i1 q5 b9;go_wp2_with fail;refine(e1.o v1 (a5.o.trans j2.o)).mono ?_;rintro e v2 ⟨r8,rfl,e2,n4⟩;obtain⟨r4,f2⟩:=Yb (j2.o.trans n4) e2;clear n4 e2 c2 e1;go_wp2_with fail;generalize j8:World.alloc _ _=v3;obtain⟨b0,a9,-⟩:=Qb2 j8;have r0:=hY (r4.o.trans (fr b0));have p4:=QhJ (A:=[0,0,0]) (B:=[0,0,0]) (s:=r8) (s':=⟨some ⟨v2,0,none⟩,3⟩) (f2.o.nw (λb I=>I.2) (fr b0)) ((fE a9 oN rfl).mono λb I=>by rw[I];exact a9.lt) oN;have n8:=hY p4;clear j8 b0 a9 p4 f2;refine n8.o.mono ?_;rintro e v4 ⟨rfl,i8⟩;rw[show decide (([0,0,0]:List Int)=[0,0,0])=true from rfl];have r9:=hY (r0.o.trans (fr i8));clear i8 n8;go_wp2_with fail;generalize q4:World.alloc _ _=v5;obtain⟨i2,g8,-⟩:=Qb2 q4;have o6:=hY (r9.o.trans (fr i2));have l3:=QhJ (A:=[12,0]) (B:=[12,0]) (s:=sc) (s':=⟨some ⟨v4,0,none⟩,2⟩) (e3.o.nw (λb I=>I) o6.o) ((fE g8 oN rfl).mono λb I=>by rw[I];exact g8.lt) oN;have i6:=hY l3;clear q4 i2 g8 l3 e3;refine i6.o.mono ?_;rintro e v6 ⟨rfl,j6⟩;rw[show decide (([12,0]:List Int)=[12,0])=true from rfl];have c4:=o6.o.trans (fr j6);have o5:=hY c4;have c7:v6.cell? ⟨wb,0,none⟩=some (.pointer p3):=(Nw.blk c4 q6.o).cell 0;clear j6 c4 i6;go_wp2_with fail;refine(c0.o v6 o5.o).mono ?_;rintro e v7 ⟨rfl,o8⟩;have j4:=hY (o5.o.trans (fr o8));clear o8 c7 c0;go_wp2_with fail;refine(f8.o v7 j4.o).mono ?_;rintro e v8 ⟨rfl,q0⟩;have r1:=hY (j4.o.trans (fr q0));clear q0 f8;go_wp2_with fail;go_ret;exact⟨rfl,s9.o.trans r1.o⟩
end Go.Proofs.YtdiecmkpbadgjaaGreatDoor
