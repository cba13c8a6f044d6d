/- What the theorem needs of the texts Same24, Kn24: no condition of its own. -/
import Derived.Test.YtdiecmkpbadgjaaGreatDoorPln
set_option linter.unusedVariables false
set_option linter.unusedSimpArgs false
set_option linter.unnecessarySimpa false
set_option maxRecDepth 100000
set_option maxHeartbeats 4000000
namespace Go.Proofs.YtdiecmkpbadgjaaGreatDoor
open Go.Proofs.Tryz
open Go.RowKit Go.Maps Go.Shelf
variable{w:World}{s s':Sl}
theorem QgX{l:List Nm}(h:Qa7 w (Lt w) s l)(h':Qa7 w (Lt w) s' l):Calls prog 11 #[.slice s.a l.length s.c,.slice s'.a l.length s'.c] w λe w'=>e=.returned (.bool true)/\Ext w w':=by
 have c1:=h.len;obtain⟨H,H'⟩:=Yb h h';clear h h';go_in;go_wp2_with fail;go_loopw[5] (λv wr=>∃j:Nat,v=.int .i64 (j:Int)/\j<=l.length/\Yd (Ext w wr)) (λv _=>l.length -(intOf v).toNat)
 case atStart=>exact⟨0,rfl,aH _,hY (fr _)⟩
 obtain⟨j,rfl,hj,HX⟩:=hrel;by_cases a9:j<l.length
 ·have l1:(j:Int)<(l.length:Int):=oM
  have c4:decide ((j:Int)<(l.length:Int))=true:=dZ l1;have l0:(0:Int)<=(j:Int):=oM
  obtain⟨x,hx⟩:∃x,l[j]? = some x:=⟨_,ac a9⟩;obtain⟨b,o,y,b5,hb,c3,c0,a8,b0⟩:=H.o.at hx;obtain⟨b',o',y',a7,b3,c2,b9,a0,a1⟩:=H'.o.at hx;have Z:∀W,Ext wr W->NmC W b (o+j*20) x y:=λW hW=>a8.agree ((HX.o.trans hW).agree λ_ h=>h) hb
  have N:∀W,Ext wr W->NmC W b' (o'+j*20) x y':=λW hW=>a0.agree ((HX.o.trans hW).agree λ_ h=>h) b3
  obtain⟨a4,a2,a3⟩:=Yc (show ∀W,Ext wr W->W.rangeAt b (o+j*20+1) (Qa2 x.m y).toList fromλW hW=>(Z W hW).mu.range) (show ∀W,Ext wr W->W.rangeAt b' (o'+j*20+1) (Qa2 x.m y').toList fromλW hW=>(N W hW).mu.range) (λW (hW:Ext wr W)=>QnS ((b0.agree ((HX.o.trans hW).agree λ_ h=>h)).mono (G:=Lt W) λb hb=>ab hb (HX.o.trans hW).size) ((a1.agree ((HX.o.trans hW).agree λ_ h=>h)).mono (G:=Lt W) λb hb=>ab hb (HX.o.trans hW).size));obtain⟨d,a6⟩:=QiJ x.m y;obtain⟨d',a5⟩:=QiJ x.m y';obtain⟨b8,b7,I⟩:=Yc a6 a5 (show ∀W,Ext wr W->W.cell? ⟨b,o+j*20,none⟩=some (.int .u64 x.id)/\W.cell? ⟨b',o'+j*20,none⟩=some (.int .u64 x.id) fromλW hW=>⟨(Z W hW).id,(N W hW).id⟩);rw[b5,a7];clear a8 a0 b0 a1 Z N hx a6 a5 hb b3;go_upto_region 6 with fail;refine ef (S:=(λw'=>Ext wr w')) kM (((fr wr).drew)) (λhHeld=>?_);refine Qaf 0 (some 17) I hHeld ?_;refine Qaf 1 (some 18) I hHeld ?_;refine Qaf 2 (some 19) I hHeld ?_;refine Qaf 3 (some 20) I hHeld ?_;refine Qaf 4 (some 21) I hHeld ?_;refine Qaf 5 (some 22) I hHeld ?_;refine Qaf 6 (some 23) I hHeld ?_;refine Qaf 7 (some 24) I hHeld ?_;refine Qaf 8 (some 25) I hHeld ?_;refine Qaf 9 (some 26) I hHeld ?_;refine Qaf 10 (some 27) I hHeld ?_;refine Qaf 11 (some 28) I hHeld ?_;refine Qaf 12 (some 29) I hHeld ?_;refine Qaf 13 (some 30) I hHeld ?_;refine Qaf 14 (some 31) I hHeld ?_;refine Qaf 15 (some 32) I hHeld ?_;refine Qrs 16 (some 33) 37 (.tmp 32) a4 hHeld b8.o ?_;refine Qaf 17 (some 34) I hHeld ?_;refine Qaf 18 (some 35) I hHeld ?_;refine Qaf 19 (some 36) I hHeld ?_;refine Qaf 20 (some 37) I hHeld ?_;refine Qrs 21 (some 38) 37 (.tmp 37) a2 hHeld b7.o ?_;refine Qac (i:=22) kM rfl (by rfl) (λK hK=>?_);go_simp
  (refine(a3.o _ hHeld).mono ?_;rintro e wa ⟨rfl,b4⟩)
  refine hK.out _ _ (hHeld.trans b4) (λhHeld=>?_);clear hK K
  try go_frame
  refine Qaf 23 (some 40) I hHeld ?_;refine Qaf 24 (some 41) I hHeld ?_;refine ev kM ?_ _;have b6:=hY hHeld;clear hHeld;go_wp2_with fail;go_roundw
  case measure=>simp[intOf];omega
  exact⟨j+1,by go_num,a9,hY (HX.o.trans b6.o)⟩
 obtain rfl:j=l.length:=oM
 have l1:decide ((l.length:Int)<(l.length:Int))=false:=dX oM;go_wp2_with fail;go_ret;exact⟨rfl,HX.o⟩
variable{F:Nat->Prop}
theorem Qle{l:List Nm}{last:Int}(hr:Qa7 w F s l)(hF:∀b,F b->b<w) :
  Calls prog 13 #[.int .u64 last,.slice s.a l.length s.c] w λe w'=>∃s':Sl,e=.returned (.slice s'.a (QbK last l).length s'.c)/\Ext w w'/\Qa7 w' (Lt w') s' (QbK last l):=by
 obtain⟨i0,hi,b9,a7,c4⟩:=em Tryz.Qcz;have d7:=hr.len;obtain⟨HR,HF⟩:=Yb hr hF;clear hr hF;go_in;go_wp2_with fail;go_loopw[5,6] (λv5 v6 wr=>∃(j:Nat) (s2:Sl) (ys:List (Nm × MuS)),v6=.int .i64 (j:Int)/\v5=.slice s2.a ys.length s2.c/\j<=l.length/\ys.length<=j/\Yd (ys.map Prod.fst=QbK last (l.take j))/\Yd (Ext w wr)/\Yd (wr.ownsRow w.heap.size 39 20 (.slice s2.a ys.length s2.c) ys.length (Qd6 ys))/\Yd (∀y∈ys,RMu w F y.1.m y.2)) (λ_ v _=>l.length -(intOf v).toNat)
 case atStart=>exact⟨0,Sl.none,[],rfl,rfl,aH _,an _,hY rfl,hY (fr _),hY (ez _ _ _ _),hY λy h=>by cases h⟩
 obtain⟨j,s2,ys,rfl,rfl,hj,b7,HY,HX,Z,a5⟩:=hrel;by_cases a4:j<l.length
 ·have l1:(j:Int)<(l.length:Int):=oM
  have d8:decide ((j:Int)<(l.length:Int))=true:=dZ l1;have l0:(0:Int)<=(j:Int):=oM
  obtain⟨x,N⟩:∃x,l[j]? = some x:=⟨_,ac a4⟩;obtain⟨b,o,y,c3,b6,e3,d6,c1,b0⟩:=HR.o.at N;have a0:=c1.agree (HX.o.agree HF.o) b6;have c0:wr.cell? ⟨b,o+j*20,none⟩=some (.int .u64 x.id):=a0.id;have b4:=hY a0;have e2:=a0.lt;obtain⟨c8,b3⟩:=Yb b0 (Qmf (last:=last) N);rw[c3];clear c1 b0 a0 N b6;by_cases hk:last<x.id
  ·have g:decide (last<x.id)=true:=dZ hk
   have I:=b3.o;rw[dY hk]at I;have HA:=hY I;have a2:=(fr wr).alloc (Qh5 x y) 39;obtain⟨c9,d3,a8,d0,c2,d5⟩:=Yg (fu wr 39 (Qh5 x y)) a2 (Qab (F:=Lt wr) Z.o (a2.agree λb hb=>hb) λb hb=>(Qad Z.o hb).2) (show ys.length+1<=maxLen by unfold maxLen;omega) (show(ys.length+1)*272<=140737488355328 by omega) (show w.heap.size<=(wr.alloc (.cells (Qh5 x y) 39)).heap.size from(HX.o.trans a2).size);clear I a2;go_wp2_with(first |(refine QjZ rfl (.tmp 23) rfl b (o+j*20) rfl x y b4.o ?_) |(refine QbT rfl 23 39 1 #[(0,.tmp 24)] rfl [QqR x y] 20 underlying23 hi a7 b9 oN rfl oN oN (λv hv=>by rw[aT.1 hv];rfl) rfl (Qh5 x y) rfl ?_) |(at_builtin;refine Qak _ rfl (.tmp 20) (.tmp 25) 23 rfl w.heap.size 39 i0 _ 20 272 underlying23 hi b9 a7 c4 rfl oN s2 ys.length (Qd6 ys) rfl a8.o (λb=>b=wr.heap.size) ⟨some ⟨wr,0,none⟩,1⟩ 1 (Qbw x y) rfl (fF c9.o oN rfl) (Qtw (x,y)) d0.o c2.o d5.o ?_;intro s7 w9 a1 a3 a6;have c7:=hY a1;have d4:=hY a3;have e0:=hY a6;clear a1 a3 a6));go_roundw
   case measure=>simp[intOf];omega
   refine⟨j+1,s7,ys++[(x,y)],by go_num,by rw[aj];rfl,a4,by rw[aj];exact Nat.succ_le_succ b7,hY (by rw[aI,HY.o,HA.o];rfl),hY ?_,hY ?_,hY λz hz=>?_⟩
   .exact (HX.o.trans d3.o).wr d4.o λi hi=>(Qad a8.o hi).1
   ·rw [aj,QjD,show Qd6 [(x,y)]=Qbw x y by simp [Qd6]]
    exact c7.o
   rcases aB.1 hz with hz|hz
   .exact a5.o z hz
   rw[aT.1 hz];exact c8.o
  have g:decide (last<x.id)=false:=dX hk;have I:=b3.o;rw[dV hk]at I;have HA:=hY I;clear I;go_wp2_with fail;go_roundw
  case measure=>simp[intOf];omega
  exact⟨j+1,s2,ys,by go_num,rfl,a4,dM b7,hY (by rw[HA.o];exact HY.o),HX,Z,a5⟩
 obtain rfl:j=l.length:=oM
 have l1:decide ((l.length:Int)<(l.length:Int))=false:=dX oM;have hy:=HY.o;rw[bc]at hy;have b5:=hY hy;clear hy;go_wp2_with fail;go_ret;have a9:ys.length=(QbK last l).length:=by rw[<-b5.o,ar]
 have e1:=QgH last l;obtain⟨bl,fl,b8,c6⟩:=QuK Z.o rfl;have I:∀k x,(QbK last l)[k]? = some x->∃p:Nm × MuS,ys[k]? = some p/\p.1=x:=λk x N=>by
  rw[<-b5.o,aq]at N;cases hp:ys[k]? with
  |none=>rw[hp]at N;cases N
  |some p=>rw[hp]at N;injection N with N;exact⟨p,hp,N⟩
 rw[a9]at b8;refine⟨s2,by rw[<-a9]<;>rfl,HX.o,⟨bl,fl,λk=>((ys[k]?).getD default).2,b8.mono λb hb=>hb.2,λk x N=>?_,λk x N=>?_⟩,λn hn=>HR.o.wf n (bZ.1 hn).1,oM⟩
 ·obtain ⟨p,hp,rfl⟩:=I k x N
  simp only[hp];exact c6 k p hp
 obtain⟨p,hp,rfl⟩:=I k x N;simp only[hp];exact((a5.o p (ak hp)).agree (HX.o.agree HF.o)).mono λb hb=>ab (HF.o b hb) HX.o.size
abbrev QvG:List (Nm × MuS):=[(⟨1,Qfg kN 1⟩,zS),(⟨2,Qil kN⟩,zS),(⟨3,Qfg kN 1⟩,zS)]
variable{B:Nat}
theorem Quw{l:List (Nm × MuS)}(Z:Blk w B 39 (Qd6 l).toArray)(hr:∀p∈l,RMu w (Lt w) p.1.m p.2/\(Lit.int .u64 p.1.id).wf=true)(hl:l.length<=1000):Qa7 w (Lt w) ⟨some ⟨B,0,none⟩,l.length⟩ (l.map Prod.fst):=by
 refine⟨⟨B,0,λj=>((l[j]?).getD default).2,?_,λj n I=>?_,λj n I=>?_⟩,λn hn=>?_,by rw[ar];omega⟩
 ·rw [ar]
  exact .some _ _ _ _ (an _) (am hl oN) Z.lt
 ·rw [aq] at I
  cases N:l[j]? with
  |none=>rw[N]at I;cases I
  | some p=>
    rw[N]at I;injection I with I;subst I;intro i u hu;have hu:(Qbw p.1 p.2)[i]? = some u:=by
     have h:=hu;dsimp only at h;rw[N]at h;exact h
    rw[aC,Z.cell,List.getElem?_toArray];exact Qiq (f:=λp:Nm × MuS=>Qbw p.1 p.2) (λ_=>rfl) l j p N i u hu
 ·rw [aq] at I
  cases N:l[j]? with
  |none=>rw[N]at I;cases I
  | some p=>
    rw[N]at I;injection I with I;subst I;dsimp only;rw[N];exact(hr p (ak N)).1
 obtain⟨p,N,rfl⟩:=cg.1 hn;exact(hr p N).2
theorem Qa7.drop{l:List Nm}(h:Qa7 w F s l){k:Nat}(hk:k<=l.length)(ha:s'.a=if s.c=k then s.a else s.a.map (·.add (k*20)))(hc:s'.c=s.c-k):Qa7 w F s' (l.drop k):=by
 obtain⟨b,o,c,hs,Z,hr⟩:=h.ex;obtain⟨a1,a2⟩:=s';dsimp only at ha hc;subst ha hc;have a0:=h.len;refine⟨⟨b,o+k*20,λj=>c (k+j),?_,λj n N=>?_,λj n N=>?_⟩,λn hn=>h.wf n (aD hn),by rw[av];omega⟩
 ·rw [av]
  generalize l.length=n at hs hk;cases hs with
  | nil=>
    obtain rfl:k=0:=oM
    exact .nil _ _
  | some _ cc _ _ h1 h2 h3=>
    dsimp only;by_cases I:cc=k
    ·subst I
     rw[dY rfl,cH,show n-cc=0 by omega];exact .zero _ _ _
    rw[dV I,bP,Qbc];exact .some _ _ _ _ oM oM h3
  | zero a=>
    obtain rfl:k=0:=oM
    exact .zero _ _ _
 ·rw [ba] at N
  have:=Z (k+j) n N;rwa[show o+(k+j)*20=o+k*20+j*20 by omega]at this
 rw[ba]at N;exact hr (k+j) n N
def QsZ:Array Value:=(Qd6 QvG).toArray
variable{w':World}
theorem Qa7.nw{l:List Nm}(h:Qa7 w (Lt w) s l)(k:Nw w w'):Qa7 w' (Lt w') s l:=(h.agree (fC k λb I=>I)).mono λb I=>ab I k.size
theorem Qa7.up{l:List Nm}(h:Qa7 w F s l)(hF:∀b,F b->b<w)(k:Nw w w'):Qa7 w' (Lt w') s l:=(h.mono (G:=Lt w) hF).nw k
variable{cs:List Value}
theorem Rd.nw{k n:Nat}(h:Rd w F k s n cs)(hF:∀b,F b->b<w)(e:Nw w w'):Rd w' (Lt w') k s n cs:=(h.agree (fC e hF)).mono λb I=>ab (hF b I) e.size
abbrev l24:List Nm:=[⟨1,Qfg kN 1⟩,⟨2,Qil kN⟩,⟨3,Qfg kN 1⟩]
abbrev muI:Mu:=Qfg kN 1
abbrev muD:Mu:=Qil kN
theorem QoH:prog.built 37 [(0,.int .i64 3),(1,.string kN),(3,.int .i64 1)]=some (Qa2 muI zS):=kM
theorem QoG:prog.built 37 [(0,.int .i64 2),(1,.string kN)]=some (Qa2 muD zS):=kM
theorem QuV:Qcc (Qe6 l24)<=1099000:=by decide +kernel
theorem Qtm:QbK 1 l24=l24.drop 1:=by simp[QbK]
variable{T:RT}
theorem Qvx{l:List Nm}(N:IsT w F T)(hF:∀b,F b->6<=b/\b<w)(ok:OkR T)(I:OkM (Qaa T))(hl:(Qaa T).length<=1)(hr:Qa7 w (Lt w) s l)(hs:l.length<=3)(ht:Qcc (Qe6 l)<=1099000)(Z:Qb4 w):Qey w F (Lt w) T s l:=
 ⟨N,hF,ok,I,hr,λb hb=>hb,Z,oM,ht⟩
theorem Qpz(hL:Qb4 w):Calls prog 10 #[] w λe w'=>e=.returned (.bool true)/\Nw w w':=by
 obtain⟨i0,hi,r5,s0,t8⟩:=em Tryz.Qcz;have t3:=hL.lib.big;have HL:=hY hL;clear hL;go_in;go_upto_region 2 with fail;generalize o9:World.alloc w _=w1;obtain⟨o5,g5,t6⟩:=Qb2 o9;obtain⟨q7,r2⟩:=Yb (ft o5) g5;have t5:w1.heap.size<=w1.drew.heap.size:=an _;have t4:w1.drew.heap.size<=w1.heap.size:=an _;have i9:=hY (show ∀W,Nw w1 W->W.cell? ⟨w,0,none⟩=some (.pointer none) fromλW N=>(N.blk g5).cell 0);clear o9 o5 g5;refine Qss (λw' b _=>QtY (QkP 5) w1.heap.size w' b/\Nw w1 w') [11,12,13] (λb _=>[(2,.pointer (some ⟨b,0,none⟩))]) ?_ ?_
 ·skip
  refine ef (S:=(λw'=>Nw w1 w')) kM ((ft ((fr w1).drew))) (λhHeld=>?_);refine Qaf 0 (some 11) i9 hHeld ?_;have pm:=Tag.mk 0;have pa:=Tag.mk 1000
  repeat' (first
   |(have:=(pm:Tag 0);have:=(pa:Tag 1000);refine Quj 1 3 (λK tg hK=>?_) (λK tg hK=>?_))
   |(have:=(pm:Tag 0);have:=(pa:Tag 1001);refine Qrr 1 (λK tg hK=>?_))
   |(have:=(pm:Tag 1);have:=(pa:Tag 1000);refine Quj 2 3 (λK tg hK=>?_) (λK tg hK=>?_))
   |(have:=(pm:Tag 1);have:=(pa:Tag 1001);refine Qrr 2 (λK tg hK=>?_))
   |(have:=(pm:Tag 2);have:=(pa:Tag 1000);refine Qrr 3 (λK tg hK=>?_))
   |(have:=(pm:Tag 2);have:=(pa:Tag 1001);refine Qrr 4 (λK tg hK=>?_))
   | (have:=(tg:Tag 1)
      clear this tg;clear pm;have pm:=Tag.mk 1;go_simp
      (refine(Qj6 _ 5).mono ?_;rintro e wa ⟨rfl,d6⟩;have za:=d6.size;(first|have a3:=hY (a3.o.ext d6)|have a3:=hY (a3.o.ext (((fr _).drew).trans d6))|skip))
      refine hK.out _ _ (hHeld.trans (ft d6)) (λhHeld=>?_);clear hK K
      try go_frame)
   | (have:=(tg:Tag 2)
      clear this tg;clear pm;have pm:=Tag.mk 2;go_simp
      (have s7:=hHeld.size;refine(Qsb (k:=kN) (n:=5) oN oN).mono ?_;rintro e wc ⟨T,p,rfl,hp,ok,he,hT,a8⟩;have zc:=a8.size;have HT:=hY hT;(try(have a3:=hY (a3.o.ext a8);have c6:World.cell? _ ⟨_,0,none⟩=some (.pointer none):=a3.o.cell 0;have f6:=a3.o.frozen 0));clear hT)
      refine hK.out _ _ (hHeld.trans (ft a8)) (λhHeld=>?_);clear hK K
      try go_frame)
   | (have:=(tg:Tag 3)
      clear this tg;clear pa;have pa:=Tag.mk 1001;go_simp
      (have s8:=hHeld.size;generalize n9:World.alloc _ _=wz;obtain⟨i1,e0,zz⟩:=Qb2 n9;have zd:wz.heap.size<=wz.drew.heap.size:=an _;have a3:=hY e0;have c6:World.cell? _ ⟨_,0,none⟩=some (.pointer none):=e0.cell 0;have f6:=e0.frozen 0;(try(have HT:=hY (HT.o.agree (i1.agree λb I=>I.2))));clear n9 e0)
      refine hK.out _ _ ((by first|exact hHeld.trans (ft i1)|exact(ft i1).trans (ft ((fr wz).drew)))) (λhHeld=>?_);clear hK K
      try go_frame)
   | (have:=(tg:Tag 4)
      clear this tg;clear pm;have pm:=Tag.mk 3;go_simp
      (have HN:=hY hHeld)
      refine hK.out _ _ (QpW hHeld oM _) (λhHeld=>?_);clear hK K
      try go_frame)
   | (have:=(pm:Tag 3);have:=(pa:Tag 1001);refine ev kM ?_ _
      simp only[QnK,List.map_cons,List.map_nil,List.cons_append,List.nil_append,List.setIfInBounds_toArray,List.set_cons_zero,List.set_cons_succ];refine QrX ⟨_,.bool true,⟨Qq6 hp ok he HT.o a3.o oM (λi hi=>⟨by have:=hi.1;omega,by have:=hi.2;omega,by have:=hi.1;have:=hi.2;omega⟩),hHeld⟩,kM,?_⟩;simp only[QnK,List.map_cons,List.map_nil,List.cons_append,List.nil_append,List.setIfInBounds_toArray,List.set_cons_zero,List.set_cons_succ]
      kernel_rfl))
 intro w2 b2 u2 vs t1;simp only[QnK,List.map_cons,List.map_nil,List.cons_append,List.nil_append,List.setIfInBounds_toArray,List.set_cons_zero,List.set_cons_succ];obtain⟨⟨T1,p1,p9,i4,o1,l0,f3,v9⟩,d0⟩:=t1;have z2:=d0.size;obtain⟨j7,r4,d8,k6,i6,r0,e3⟩:=Yh p9 i4 o1 l0 f3 (q7.o.trans d0) d0;clear p9 i4 o1 l0 f3 d0 i9;go_upto_region 4 with(first |(refine Qa4 rfl 37 #[(0,.const (.int .i64 3)),(1,.const (.string kN)),(3,.const (.int .i64 1))] rfl (Qa2 muI zS) QoH ?_) |(refine QaR rfl rfl rfl muI zS (w0:=w2) (b:=w2) rfl ((fr w2).alloc _ _) (fu w2 _ _) rfl rfl rfl ?_;intro w3 a9 b0;have j1:=hY a9;have f9:=hY (fB b0);clear a9 b0));have K0:True:=trivial;go_upto_region 5 with(first |(have _k:=K0;refine Qah rfl (.tmp 3) rfl w2.heap.size 0 rfl muI zS f9.o ?_;clear _k K0;have K1:True:=trivial) |(have _k:=K1;refine Qa4 rfl 39 #[(0,.const (.int .u64 1)),(1,.tmp 15)] rfl (Qh5 ⟨1,muI⟩ zS) (Qh6 1 muI zS) ?_;clear _k K1;have K2:True:=trivial) |(have _k:=K2;refine Qa4 rfl 37 #[(0,.const (.int .i64 2)),(1,.const (.string kN))] rfl (Qa2 muD zS) QoG ?_;clear _k K2;have K3:True:=trivial) |(have _k:=K3;refine Qa4 rfl 39 #[(0,.const (.int .u64 2)),(1,.tmp 17)] rfl (Qh5 ⟨2,muD⟩ zS) (Qh6 2 muD zS) ?_;clear _k K3;have K4:True:=trivial) |(have _k:=K4;refine Qah rfl (.tmp 3) rfl w2.heap.size 0 rfl muI zS f9.o ?_;clear _k K4;have K5:True:=trivial) |(have _k:=K5;refine Qa4 rfl 39 #[(0,.const (.int .u64 3)),(1,.tmp 19)] rfl (Qh5 ⟨3,muI⟩ zS) (Qh6 3 muI zS) ?_;clear _k K5;have K6:True:=trivial) |(have _k:=K6;refine QbT rfl 23 39 3 #[(0,.tmp 16),(1,.tmp 18),(2,.tmp 20)] rfl [QqR ⟨1,muI⟩ zS,QqR ⟨2,muD⟩ zS,QqR ⟨3,muI⟩ zS] 20 underlying23 hi s0 r5 oN rfl oN oN (λv hv=>by simp only[List.mem_cons,List.not_mem_nil,or_false]at hv;rcases hv with rfl|rfl|rfl<;>rfl) rfl QsZ rfl ?_;clear _k K6;have K7:True:=trivial));generalize l8:World.alloc _ _=w4;obtain⟨p5,q3,w8⟩:=Qb2 l8;have Z:Qa7 w4 (Lt w4) ⟨some ⟨w3,0,none⟩,3⟩ l24:=Quw (l:=QvG) q3 (λp hp=>by
  simp only[List.mem_cons,List.not_mem_nil,or_false]at hp;rcases hp with rfl|rfl|rfl
  .exact ⟨QpQ _ _ oN oN,oN⟩
  .exact ⟨Quv _ _ oN,oN⟩
  exact⟨QpQ _ _ oN oN,oN⟩) oN
 have a2:Qa7 w4 (Lt w4) ⟨some ⟨w3,20,none⟩,2⟩ (l24.drop 1):=Z.drop (k:=1) oN (by simp[Qbc]) rfl;have a1:Nw w2 w4:=(ft j1.o).trans (ft p5);have t2:=a1.size;have b3:=a1.blk i6.o;have f0:=k6.o.agree (fC a1 λb I=>I.2.1);obtain⟨s9,d5,b8,p4,e4⟩:=Yf Z a2 (r0.o.trans a1) (e3.o.trans a1) b3;have d3:∀W,Nw w4 W->Qey W (λi=>w1<=i/\i<w2/\i≠b2) (Lt W) T1 ⟨some ⟨w3,0,none⟩,3⟩ l24:=λW N=>
  Qvx (f0.agree (fC N λb I=>by have:=I.2.1;omega)) (λb I=>⟨by have:=I.1;omega,by have:=I.2.1;have:=N.size;omega⟩) r4.o (by rw[d8.o];exact Qty oN oN) (by rw[d8.o];exact an 1) (Z.nw N) oN QuV (HL.o.nw (b8.o.trans N))
 have x2:=hY d3;have c2:w4.cell? ⟨b2,0,none⟩=some (.pointer p1):=b3.cell 0;have b5:=hY (show Calls prog 18 #[.agg #[.pointer p1],.slice (some ⟨w3,0,none⟩) 3 3] w4 λe w'=>∃T' p',e=.returned (.agg #[.pointer p'])/\QaK T'=.pointer p'/\OkR T'/\IsT w' (Up (λi=>w1<=i/\i<w2/\i≠b2) w4 w') T'/\Qaa T'=QkP 1/\Nw w4 w' from by
  have h:=Qhv (d3 w4 (fA _ _));rw[Qao,j7.o,d8.o,show Qe6 l24=lK from rfl,Qui]at h;refine h.mono ?_;rintro e w' ⟨T',rfl,h1,h2,h3,h4,h5,-⟩;obtain⟨p',p0⟩:=Qaj T';exact⟨T',p',by rw[Qao,p0],p0,h1,h2,h3,h5⟩)
 have f4:=hY (show ∀W,Nw w4 W->Calls prog 20 #[.agg #[.pointer p1],.slice (some ⟨w3,0,none⟩) 3 3] W λe w'=>∃sc:Sl,e=.returned (.slice sc.a 3 sc.c)/\Rd w' (In W.heap.size w'.heap.size) 1 sc 3 ([0,0,0].map (.int .i64))/\Nw W w' fromλW N=>by
  have h:=Qgp (d3 W N) oN;rw[Qao,j7.o,d8.o,show Qe6 l24=lK from rfl,Qui]at h;exact h)
 have e1:∀W,Nw w4 W->Qey W (λ_=>False) (Lt W) none ⟨some ⟨w3,20,none⟩,2⟩ (l24.drop 1):=λW N=>
  Qvx trivial (λb I=>I.elim) trivial OkM.nil (aH _) (a2.nw N) oN (by decide +kernel) (HL.o.nw (b8.o.trans N))
 have c0:∀W,Nw w4 W->Qey W (λ_=>False) (Lt W) none ⟨some ⟨w3,0,none⟩,3⟩ l24:=λW N=>
  Qvx trivial (λb I=>I.elim) trivial OkM.nil (aH _) (Z.nw N) oN QuV (HL.o.nw (b8.o.trans N))
 have f7:=hY c0;have b4:=hY (show ∀W,Nw w4 W->Calls prog 20 #[.agg #[.pointer none],.slice (some ⟨w3,20,none⟩) 2 2] W λe w'=>∃sc:Sl,e=.returned (.slice sc.a 2 sc.c)/\Rd w' (In W.heap.size w'.heap.size) 1 sc 2 ([12,0].map (.int .i64))/\Nw W w' fromλW N=>by
  have h:=Qgp (e1 W N) oN;rw[show Qe6 (l24.drop 1)=lK.drop 1 from rfl,show Qaa none=[]from rfl,QsB]at h;exact h)
 clear l8 p5 q3 Z a2 a1 b3 f0 d3 e1 c0 f9 j1 i6 k6 e3;go_wp2_with fail;refine b5.o.mono ?_;rintro e w5 ⟨T2,p2,rfl,n7,o3,o2,l7,k5⟩;obtain⟨k7,k8,g3,q9,n8⟩:=Yf n7 o3 l7 o2 k5;clear n7 o3 l7 o2 k5 c2 b5;go_upto_region 6 with fail;generalize i8:World.alloc _ _=w6;obtain⟨g6,n6,x0⟩:=Qb2 i8;have a6:Nw w4 w6:=n8.o.trans (ft g6);obtain⟨f8,g9⟩:=Yb a6 n6;have x1:=n8.o.size;have e6:=hY (q9.o.agree (g6.agree λb I=>I.elim (λe=>by have:=e.2.1;omega) λe=>e.2));have i2:=(b8.o.trans a6);have a4:=hY (show ∀W,Nw w6 W->W.cell? ⟨w,0,none⟩=some (.pointer none) fromλW N=>(Nw.blk ((p4.o.trans a6).trans N) r2.o).cell 0);clear i8 g6 n6 a6 i2;refine ef (S:=(λw'=>Nw w6 w')) kM ((ft ((fr w6).drew))) (λhHeld=>?_);refine Qaf 0 (some 25) a4 hHeld ?_;refine Qaf 1 (some 26) a4 hHeld ?_;refine Qaf 2 (some 27) a4 hHeld ?_;refine Qac (i:=3) kM rfl (by rfl) (λK hK=>?_);go_simp
 (refine(b4.o _ (f8.o.trans hHeld)).mono ?_;rintro e wa ⟨sc,rfl,j3,j6⟩;have f5:=hY j3;have p6:=hY j6;have r7:=hY hHeld;clear j3 j6)
 refine hK.out _ _ (hHeld.trans p6.o) (λhHeld=>?_);clear hK K
 try go_frame
 refine Qaf 4 (some 6) a4 hHeld ?_;refine ev kM ?_ _;have k1:=hY hHeld;have b9:=f8.o.trans hHeld;have l2:=hY b9;have q5:wa.cell? ⟨w5,0,none⟩=some (.pointer p2):=(Nw.blk hHeld g9.o).cell 0;have q1:wa.cell? ⟨w,0,none⟩=some (.pointer none):=a4.o wa hHeld;have d7:∀b,Up (λi=>w1<=i/\i<w2/\i≠b2) w4 w5 b->b<w6:=λb I=>I.elim (λe=>by have:=e.2.1;omega) λe=>by have:=e.2;omega
 have x4:=hHeld.size;have g0:=e6.o.agree (fC hHeld d7);have b7:=hY (show Calls prog 21 #[.agg #[.pointer p2],.agg #[.pointer none],.int .u64 1,.slice (some ⟨w3,0,none⟩) 3 3] wa λe w'=>∃(V:RT) (p3:Option Addr) (sL sC:Sl),e=.returned (.tuple #[.agg #[.pointer p3],.slice sL.a 2 sL.c,.slice sC.a 0 sC.c])/\QaK V=.pointer p3/\OkR V/\Qaa V=QkP 1/\IsT w' (In wa.heap.size w'.heap.size) V/\Qa7 w' (In wa.heap.size w'.heap.size) sL (l24.drop 1)/\Nw wa w' from by
  have h:=QnA (last:=1) g0 (λb I=>by have:=d7 b I;omega) k8.o (by rw[g3.o];decide) (f7.o wa b9);rw[Qao,k7.o,Qtm]at h;refine h.mono ?_;rintro e w' ⟨V,sL,sC,cs,rfl,ho⟩;obtain⟨p3,c8⟩:=Qaj V;have he:Qaa V=QkP 1:=by rw[ho.ents,show Qe6 (l24.drop 1)=lK.drop 1 from rfl,show Qaa none=[]from rfl,QsB]
  have hc:=ho.chg;rw[he,g3.o,QlV]at hc;obtain rfl:cs=[]:=da.1 hc;exact⟨V,p3,sL,sC,by rw[Qao,c8]<;>rfl,c8,ho.ok,he,ho.tree.mono λb I=>I.elim (λe=>e.elim) id,ho.row,ho.nw⟩)
 obtain⟨o4,o6⟩:=Yb g0 d7;clear b9 g0 hHeld d7 f7 b4 e6;go_wp2_with fail;refine b7.o.mono ?_;rintro e wb ⟨V,p3,sL,sC,rfl,c8,j0,k0,hV,c3,l4⟩;obtain⟨r9,r1,r6,HV,l6,s1⟩:=Yg c8 j0 k0 hV c3 l4;clear c8 j0 k0 hV c3 l4 q5 q1 b7;go_upto_region 8 with fail;generalize k2:World.alloc _ _=wc;obtain⟨a8,n4,t9⟩:=Qb2 k2;obtain⟨p8,n2⟩:=Yb a8 n4;clear k2 a8 n4;go_wp2_with fail;refine(Qj6 _ 1).mono ?_;rintro e wd ⟨rfl,q4⟩;have g8:=hY q4;clear q4;go_upto_region 9 with fail;generalize i3:World.alloc _ _=we;obtain⟨d4,i7,w7⟩:=Qb2 i3;have a0:Nw wa we:=s1.o.trans ((ft p8.o).trans ((ft g8.o).trans (ft d4)));have a5:Nw wb we:=(ft p8.o).trans ((ft g8.o).trans (ft d4));have e7:Nw wc we:=(ft g8.o).trans (ft d4);have x3:=a5.size;have t7:=a0.size;have q6:ES we (Lt we) ⟨some ⟨wd,0,none⟩,1⟩ [⟨kN,Qi0 1,Sl.none,Sl.none⟩]:=Qud (xs:=[⟨kN,Qi0 1,Sl.none,Sl.none⟩]) i7 (λx hx=>by rw[aT.1 hx];exact⟨QmB _ _ oN,oN⟩) oN;have c1:∀(T:RT) (p:Option Addr) (F:Nat->Prop),QaK T=.pointer p->OkR T->Qaa T=QkP 1->(∀b,F b->b<we)->IsT we F T->∀W,Nw we W->Calls prog 17 #[.agg #[.pointer p],.slice (some ⟨wd,0,none⟩) 1 1] W λe w'=>e=.returned (.bool true)/\Ext W w':=λT p F hp ok he hF hT W N=>by
  have h:=Qph (w:=W) (s:=⟨some ⟨wd,0,none⟩,1⟩) (xs:=[⟨kN,Qi0 1,Sl.none,Sl.none⟩]) (λb I=>ab (hF b I) N.size) (hT.agree (fC N hF)) ok (by rw[he];decide) ((q6.agree (fC N λb I=>I)).mono λb I=>ab I N.size);rw[Qao,hp,he,show([⟨kN,Qi0 1,Sl.none,Sl.none⟩]:List LE).map LE.ent=QkP 1 from rfl,QhK]at h;exact h
 obtain⟨b6,c4,a7⟩:=Yc (c1 T2 p2 _ k7.o k8.o g3.o (λb I=>by have:=o6.o b I;omega) (o4.o.agree (fC a0 λb I=>by have:=o6.o b I;omega))) (c1 V p3 _ r9.o r1.o r6.o (λb I=>by have:=I.2;omega) (HV.o.agree (fC a5 λb I=>I.2))) (l2.o.trans a0);have f1:=hY (show ∀W,Nw we W->Calls prog 11 #[.slice sL.a 2 sL.c,.slice (some ⟨w3,20,none⟩) 2 2] W λe w'=>e=.returned (.bool true)/\Ext W w' fromλW N=>
  QgX (s:=sL) (s':=⟨some ⟨w3,20,none⟩,2⟩) (l:=l24.drop 1) (l6.o.up (λb I=>I.2) (a5.trans N)) (d5.o.nw (a7.o.trans N)))
 obtain⟨f2,l1,q0,k9,q8⟩:=Yf (f5.o.nw (λb I=>I.2) a0) (Nw.blk (k1.o.trans a0) g9.o) (Nw.blk a7.o e4.o) (Nw.blk e7 n2.o) (b8.o.trans a7.o);have q5:we.cell? ⟨w5,0,none⟩=some (.pointer p2):=l1.o.cell 0;clear i3 d4 i7 a0 a5 e7 q6 c1 f5 l6 HV o4 p6 r7 g9 e4 n2;go_wp2_with fail;refine(b6.o we (fA _ _)).mono ?_;rintro e v1 ⟨rfl,g4⟩;have l3:=hY (ft g4);have c2:v1.cell? ⟨b2,0,none⟩=some (.pointer p1):=(q0.o.ext g4).cell 0;clear g4 q5 b6;go_wp2_with fail;refine(f4.o v1 (a7.o.trans l3.o)).mono ?_;rintro e v2 ⟨r8,rfl,e8,i5⟩;obtain⟨s5,e2⟩:=Yb (l3.o.trans i5) e8;clear i5 e8 c2 f4;go_wp2_with fail;generalize l9:World.alloc _ _=v3;obtain⟨a9,b0,-⟩:=Qb2 l9;have r3:=hY (s5.o.trans (ft a9));have o7:=QhJ (A:=[0,0,0]) (B:=[0,0,0]) (s:=r8) (s':=⟨some ⟨v2,0,none⟩,3⟩) (e2.o.nw (λb I=>I.2) (ft a9)) ((fF b0 oN rfl).mono λb I=>by rw[I];exact b0.lt) oN;have q2:=hY o7;clear l9 a9 b0 o7 e2;refine q2.o.mono ?_;rintro e v4 ⟨rfl,j8⟩;rw[show decide (([0,0,0]:List Int)=[0,0,0])=true from rfl];have t0:=hY (r3.o.trans (ft j8));clear j8 q2;go_wp2_with fail;generalize j4:World.alloc _ _=v5;obtain⟨o0,g7,-⟩:=Qb2 j4;have k3:=hY (t0.o.trans (ft o0));have j9:=QhJ (A:=[12,0]) (B:=[12,0]) (s:=sc) (s':=⟨some ⟨v4,0,none⟩,2⟩) (f2.o.nw (λb I=>I) k3.o) ((fF g7 oN rfl).mono λb I=>by rw[I];exact g7.lt) oN;have j5:=hY j9;clear j4 o0 g7 j9 f2;refine j5.o.mono ?_;rintro e v6 ⟨rfl,p7⟩;rw[show decide (([12,0]:List Int)=[12,0])=true from rfl];have c9:=k3.o.trans (ft p7);have k4:=hY c9;have c7:v6.cell? ⟨wb,0,none⟩=some (.pointer p3):=(Nw.blk c9 k9.o).cell 0;clear p7 c9 j5;go_wp2_with fail;refine(c4.o v6 k4.o).mono ?_;rintro e v7 ⟨rfl,o8⟩;have l5:=hY (k4.o.trans (ft o8));clear o8 c7 c4;go_wp2_with fail;refine(f1.o v7 l5.o).mono ?_;rintro e v8 ⟨rfl,j2⟩;have s4:=hY (l5.o.trans (ft j2));clear j2 f1;go_wp2_with fail;go_ret;exact⟨rfl,q8.o.trans s4.o⟩
end Go.Proofs.YtdiecmkpbadgjaaGreatDoor
