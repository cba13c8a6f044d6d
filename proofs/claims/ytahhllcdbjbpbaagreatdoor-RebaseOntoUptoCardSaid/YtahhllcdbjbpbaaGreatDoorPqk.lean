/- Steps to the theorem. -/
import Derived.Test.YtahhllcdbjbpbaaGreatDoorPqj
set_option linter.all false
set_option maxRecDepth 100000
set_option maxHeartbeats 4000000
namespace Go.Proofs.YtahhllcdbjbpbaaGreatDoor
open Go.Proofs.Tryz
open Go.RowKit Go.Maps Go.Shelf
variable{w:AB}{s s':Sl}
def RI{l:List Nm}(h:A7 w (Lt w) s l)(h':A7 w (Lt w) s' l):Calls prog 12 #[.slice s.a l.length s.c,.slice s'.a l.length s'.c] w λe w'=>e=.returned true/\Ext w w':=by
 have c9:=h.len;obtain⟨H,H'⟩:=Yb h h';clear h h';go_in;go_wp2_with fail;go_loopw[5] (λv wr=>∃j:Nat,v=.int .i64 (j:Int)/\j<=l.length/\Yd (Ext w wr)) (λv _=>l.length -(intOf v).toNat)
 case atStart=>exact⟨0,rfl,aw _,hY (gz _)⟩
 obtain⟨j,rfl,hj,HX⟩:=hrel;by_cases a6:j<l.length
 ·have l1:(j:Int)<(l.length:Int):=oM
  have d0:decide ((j:Int)<(l.length:Int))=true:=eO l1;have l0:(0:Int)<=(j:Int):=oM
  obtain⟨x,hx⟩:∃x,l[j]? = some x:=⟨_,ac a6⟩;obtain⟨b,o,y,b8,hb,d3,c8,a9,b3⟩:=H.o.at hx;obtain⟨b',o',y',a8,a5,c7,b9,a2,a1⟩:=H'.o.at hx;have a0:∀W,Ext wr W->Bs W b (o+j*20) x y:=λW Z=>a9.agree ((HX.o.trans Z).agree λ_ h=>h) hb
  have N:∀W,Ext wr W->Bs W b' (o'+j*20) x y':=λW Z=>a2.agree ((HX.o.trans Z).agree λ_ h=>h) a5
  obtain⟨b0,a3,a4⟩:=Yc (show ∀W,Ext wr W->W.rangeAt b (o+j*20+1) (BS x.m y).toList fromλW Z=>(a0 W Z).mu.range) (show ∀W,Ext wr W->W.rangeAt b' (o'+j*20+1) (BS x.m y').toList fromλW Z=>(N W Z).mu.range) (λW (Z:Ext wr W)=>iw ((b3.agree ((HX.o.trans Z).agree λ_ h=>h)).mono (G:=Lt W) λb hb=>ab hb (HX.o.trans Z).size) ((a1.agree ((HX.o.trans Z).agree λ_ h=>h)).mono (G:=Lt W) λb hb=>ab hb (HX.o.trans Z).size));obtain⟨d,a7⟩:=Jr x.m y;obtain⟨d',b4⟩:=Jr x.m y';obtain⟨b5,b6,I⟩:=Yc a7 b4 (show ∀W,Ext wr W->W.cell? ⟨b,o+j*20,none⟩=some (.int .u64 x.id)/\W.cell? ⟨b',o'+j*20,none⟩=some (.int .u64 x.id) fromλW Z=>⟨(a0 W Z).id,(N W Z).id⟩);rw[b8,a8];clear a9 a2 b3 a1 a0 N hx a7 b4 hb a5;go_upto_region 6 with fail;refine eV (S:=(λw'=>Ext wr w')) kM (((gz wr).drew)) (λhHeld=>?_);refine AF 0 (some 17) I hHeld ?_;refine AF 1 (some 18) I hHeld ?_;refine AF 2 (some 19) I hHeld ?_;refine AF 3 (some 20) I hHeld ?_;refine AF 4 (some 21) I hHeld ?_;refine AF 5 (some 22) I hHeld ?_;refine AF 6 (some 23) I hHeld ?_;refine AF 7 (some 24) I hHeld ?_;refine AF 8 (some 25) I hHeld ?_;refine AF 9 (some 26) I hHeld ?_;refine AF 10 (some 27) I hHeld ?_;refine AF 11 (some 28) I hHeld ?_;refine AF 12 (some 29) I hHeld ?_;refine AF 13 (some 30) I hHeld ?_;refine AF 14 (some 31) I hHeld ?_;refine AF 15 (some 32) I hHeld ?_;refine Ff 16 (some 33) 59 (.tmp 32) b0 hHeld b5.o ?_;refine AF 17 (some 34) I hHeld ?_;refine AF 18 (some 35) I hHeld ?_;refine AF 19 (some 36) I hHeld ?_;refine AF 20 (some 37) I hHeld ?_;refine Ff 21 (some 38) 59 (.tmp 37) a3 hHeld b6.o ?_;refine Af (i:=22) kM rfl (by rfl) (λK hK=>?_);go_simp
  (refine(a4.o _ hHeld).mono ?_;rintro e wa ⟨rfl,b7⟩)
  refine hK.out _ _ (hHeld.trans b7) (λhHeld=>?_);clear hK K
  try go_frame
  refine AF 23 (some 40) I hHeld ?_;refine AF 24 (some 41) I hHeld ?_;refine fa kM ?_ _;have c6:=hY hHeld;clear hHeld;go_wp2_with fail;go_roundw
  case measure=>simp[intOf];omega
  exact⟨j+1,by go_num,a6,hY (HX.o.trans c6.o)⟩
 obtain rfl:j=l.length:=oM
 have l1:decide ((l.length:Int)<(l.length:Int))=false:=eM oM;go_wp2_with fail;go_ret;exact⟨rfl,HX.o⟩
variable{F:Nat->Prop}
def Om{l:List Nm}{last:Int}(hr:A7 w F s l)(hF:∀b,F b->b<w.heap.size) :
  Calls prog 7 #[.int .u64 last,.slice s.a l.length s.c] w λe w'=>∃s':Sl,e=.returned (.slice s'.a (BH last l).length s'.c)/\Ext w w'/\A7 w' (λb=>F b\/In w.heap.size w'.heap.size b) s' (BH last l):=by
 obtain⟨i0,hi,b5,b9,d4⟩:=eZ Tryz.OV;have e1:=hr.len;obtain⟨HR,HF⟩:=Yb hr hF;clear hr hF;go_in;go_wp2_with fail;go_loopw[5,6] (λv5 v6 wr=>∃(j:Nat) (s2:Sl) (ys:List (Nm × AR)),v6=.int .i64 (j:Int)/\v5=.slice s2.a ys.length s2.c/\j<=l.length/\ys.length<=j/\Yd (ys.map Prod.fst=BH last (l.take j))/\Yd (Ext w wr)/\Yd (wr.ownsRow w.heap.size 61 20 (.slice s2.a ys.length s2.c) ys.length (Dr ys))/\Yd (∀y∈ys,AK w F y.1.m y.2)) (λ_ v _=>l.length -(intOf v).toNat)
 case atStart=>exact⟨0,Sl.none,[],rfl,rfl,aw _,ao _,hY rfl,hY (gz _),hY (e9 _ _ _ _),hY λy h=>by cases h⟩
 obtain⟨j,s2,ys,rfl,rfl,hj,a8,HY,HX,Z,a5⟩:=hrel;by_cases a4:j<l.length
 ·have l1:(j:Int)<(l.length:Int):=oM
  have e6:decide ((j:Int)<(l.length:Int))=true:=eO l1;have l0:(0:Int)<=(j:Int):=oM
  obtain⟨x,N⟩:∃x,l[j]? = some x:=⟨_,ac a4⟩;obtain⟨b,o,y,c8,a6,e3,e0,a7,c6⟩:=HR.o.at N;have a0:=a7.agree (HX.o.agree HF.o) a6;have c0:wr.cell? ⟨b,o+j*20,none⟩=some (.int .u64 x.id):=a0.id;have b0:=hY a0;have e2:=a0.lt;obtain⟨d0,a9⟩:=Yb c6 (Tf (last:=last) N);rw[c8];clear a7 c6 a0 N a6;by_cases hk:last<x.id
  ·have g:decide (last<x.id)=true:=eO hk
   have I:=a9.o;rw[eN hk]at I;have HA:=hY I;have a2:=(gz wr).alloc (DU x y) 61;obtain⟨d5,c7,b7,d8,d3,d6⟩:=Yg (gB wr 61 (DU x y)) a2 (AZ (F:=Lt wr) Z.o (a2.agree λb hb=>hb) λb hb=>(AM Z.o hb).2) (show ys.length+1<=maxLen by unfold maxLen;omega) (show(ys.length+1)*272<=140737488355328 by omega) (show w.heap.size<=(wr.alloc (.cells (DU x y) 61)).heap.size from(HX.o.trans a2).size);clear I a2;go_wp2_with(first |(refine JK rfl (.tmp 23) rfl b (o+j*20) rfl x y b0.o ?_) |(refine LZ rfl 23 61 1 #[(0,.tmp 24)] rfl [FE x y] 20 underlying23 hi b9 b5 oN rfl oN oN (λv hv=>by rw[aV.1 hv];rfl) rfl (DU x y) rfl ?_) |(at_builtin;refine Bq _ rfl (.tmp 20) (.tmp 25) 23 rfl w.heap.size 61 i0 _ 20 272 underlying23 hi b5 b9 d4 rfl oN s2 ys.length (Dr ys) rfl b7.o (λb=>b=wr.heap.size) ⟨some wr,1⟩ 1 (Ce x y) rfl (gG d5.o oN rfl) (Nc (x,y)) d8.o d3.o d6.o ?_;intro s7 w9 a1 a3 b6;have d9:=hY a1;have c9:=hY a3;have e4:=hY b6;clear a1 a3 b6));go_roundw
   case measure=>simp[intOf];omega
   refine⟨j+1,s7,ys++[(x,y)],by go_num,by rw[aj];rfl,a4,by rw[aj];exact ez a8,hY (by rw[aB,HY.o,HA.o];rfl),hY ?_,hY ?_,hY λz hz=>?_⟩
   .exact (HX.o.trans c7.o).wr c9.o λi hi=>(AM b7.o hi).1
   ·rw [aj,UI,show Dr [(x,y)]=Ce x y by simp [Dr]]
    exact d9.o
   rcases aL.1 hz with hz|hz
   .exact a5.o z hz
   rw[aV.1 hz];exact d0.o
  have g:decide (last<x.id)=false:=eM hk;have I:=a9.o;rw[eL hk]at I;have HA:=hY I;clear I;go_wp2_with fail;go_roundw
  case measure=>simp[intOf];omega
  exact⟨j+1,s2,ys,by go_num,rfl,a4,dM a8,hY (by rw[HA.o];exact HY.o),HX,Z,a5⟩
 obtain rfl:j=l.length:=oM
 have l1:decide ((l.length:Int)<(l.length:Int))=false:=eM oM;have hy:=HY.o;rw[aR]at hy;have b3:=hY hy;clear hy;go_wp2_with fail;go_ret;have b8:ys.length=(BH last l).length:=by rw[<-b3.o,aq]
 have e7:=JC last l;obtain⟨bl,fl,b4,d7⟩:=Ph Z.o rfl;have I:∀k x,(BH last l)[k]? = some x->∃p:Nm × AR,ys[k]? = some p/\p.1=x:=λk x N=>by
  rw[<-b3.o,ar]at N;cases hp:ys[k]? with
  |none=>rw[hp]at N;cases N
  |some p=>rw[hp]at N;injection N with N;exact⟨p,hp,N⟩
 rw[b8]at b4;refine⟨s2,by rw[<-b8]<;>rfl,HX.o,⟨bl,fl,λk=>((ys[k]?).getD default).2,b4.mono λb hb=>.inr hb,λk x N=>?_,λk x N=>?_⟩,λn hn=>HR.o.wf n (bK.1 hn).1,oM⟩
 ·obtain ⟨p,hp,rfl⟩:=I k x N
  simp only[hp];exact d7 k p hp
 obtain⟨p,hp,rfl⟩:=I k x N;simp only[hp];exact((a5.o p (ap hp)).agree (HX.o.agree HF.o)).mono λb hb=>.inl hb
def jk{l:List Nm}{last:Int}(N:A7 w F s l)(hF:∀b,F b->b<w.heap.size) :
  Calls prog 7 #[.int .u64 last,.slice s.a l.length s.c] w λe w'=>∃s':Sl,e=.returned (.slice s'.a (BH last l).length s'.c)/\Ext w w'/\A7 w' (Lt w') s' (BH last l):=
 (Om N hF).mono λe w' ⟨s',h1,h2,h3⟩=>⟨s',h1,h2,h3.mono λb I=>I.elim (λh=>ab (hF b h) h2.size) λh=>h.2⟩
abbrev PU:List (Nm × AR):=[(⟨1,EN kN 1⟩,zS),(⟨2,FF kN⟩,zS),(⟨3,EN kN 1⟩,zS)]
variable{B:Nat}
def jt{l:List (Nm × AR)}(Z:AE w B 61 (Dr l).toArray)(hr:∀p∈l,AK w (Lt w) p.1.m p.2/\(Lit.int .u64 p.1.id).wf=true)(hl:l.length<=1000):A7 w (Lt w) ⟨some B,l.length⟩ (l.map Prod.fst):=by
 refine⟨⟨B,0,λj=>((l[j]?).getD default).2,?_,λj n I=>?_,λj n I=>?_⟩,λn hn=>?_,by rw[aq];omega⟩
 ·rw [aq]
  exact .some _ _ _ _ (ao _) (an hl oN) Z.lt
 ·rw [ar] at I
  cases N:l[j]? with
  |none=>rw[N]at I;cases I
  | some p=>
    rw[N]at I;injection I with I;subst I;intro i u hu;have hu:(Ce p.1 p.2)[i]? = some u:=by
     have h:=hu;dsimp only at h;rw[N]at h;exact h
    rw[aF,Z.cell,List.getElem?_toArray];exact Lj (f:=λp:Nm × AR=>Ce p.1 p.2) (λ_=>rfl) l j p N i u hu
 ·rw [ar] at I
  cases N:l[j]? with
  |none=>rw[N]at I;cases I
  | some p=>
    rw[N]at I;injection I with I;subst I;dsimp only;rw[N];exact(hr p (ap N)).1
 obtain⟨p,N,rfl⟩:=bX.1 hn;exact(hr p N).2
def A7.drop{l:List Nm}(h:A7 w F s l){k:Nat}(hk:k<=l.length)(ha:s'.a=if s.c=k then s.a else s.a.map (·.add (k*20)))(hc:s'.c=s.c-k):A7 w F s' (l.drop k):=by
 obtain⟨b,o,c,hs,Z,hr⟩:=h.ex;obtain⟨a1,a2⟩:=s';dsimp only at ha hc;subst ha hc;have a0:=h.len;refine⟨⟨b,o+k*20,λj=>c (k+j),?_,λj n I=>?_,λj n I=>?_⟩,λn hn=>h.wf n (aS hn),by rw[az];omega⟩
 ·rw [az]
  generalize l.length=n at hs hk;cases hs with
  | nil=>
    obtain rfl:k=0:=oM
    exact .nil _ _
  | some _ cc _ _ h1 h2 h3=>
    dsimp only;by_cases N:cc=k
    ·subst N
     rw[eN rfl,cE,show n-cc=0 by omega];exact .zero _ _ _
    rw[eL N,bM,Cb];exact .some _ _ _ _ oM oM h3
  | zero a=>
    obtain rfl:k=0:=oM
    exact .zero _ _ _
 ·rw [bm] at I
  have:=Z (k+j) n I;rwa[show o+(k+j)*20=o+k*20+j*20 by omega]at this
 rw[bm]at I;exact hr (k+j) n I
def na:Array Value:=(Dr PU).toArray
variable{w':AB}
def A7.nw{l:List Nm}(h:A7 w (Lt w) s l)(k:Nw w w'):A7 w' (Lt w') s l:=(h.agree (gC k λb I=>I)).mono λb I=>ab I k.size
def A7.up{l:List Nm}(h:A7 w F s l)(hF:∀b,F b->b<w.heap.size)(k:Nw w w'):A7 w' (Lt w') s l:=(h.mono (G:=Lt w) hF).nw k
variable{cs:List Value}
def Rd.nw{k n:Nat}(h:Rd w F k s n cs)(hF:∀b,F b->b<w.heap.size)(e:Nw w w'):Rd w' (Lt w') k s n cs:=(h.agree (gC e hF)).mono λb I=>ab (hF b I) e.size
abbrev l24:List Nm:=[⟨1,EN kN 1⟩,⟨2,FF kN⟩,⟨3,EN kN 1⟩]
abbrev muI:Mu:=EN kN 1
abbrev muD:Mu:=FF kN
def km:prog.built 59 [(0,.int .i64 3),(1,.string kN),(3,.int .i64 1)]=some (BS muI zS):=kM
def XQ:prog.built 59 [(0,.int .i64 2),(1,.string kN)]=some (BS muD zS):=kM
def TV:B7 (A8 l24)<=1099000:=by decide +kernel
def Wt:BH 1 l24=l24.drop 1:=by simp[BH]
variable{T:RT}
def Ni{l:List Nm}(hT:AV w F T)(hF:∀b,F b->6<=b/\b<w.heap.size)(ok:Am T)(hM:Ae (AG T))(hl:(AG T).length<=1)(hr:A7 w (Lt w) s l)(hs:l.length<=3)(I:B7 (A8 l)<=1099000)(Z:Aw w):C7 w F (Lt w) T s l:=
 ⟨hT,hF,ok,hM,hr,λb N=>N,Z,oM,I⟩
def XB(hL:Aw w):Calls prog 4 #[] w λe w'=>e=.returned true/\Nw w w':=by
 obtain⟨i0,hi,r5,t6,x5⟩:=eZ Tryz.OV;have x1:=hL.lib.big;have HL:=hY hL;clear hL;go_in;go_upto_region 2 with fail;generalize n6:World.alloc w _=w1;obtain⟨k0,g4,w8⟩:=D4 n6;obtain⟨r0,t2⟩:=Yb (gA k0) g4;have t8:w1.heap.size<=w1.drew.heap.size:=ao _;have v9:w1.drew.heap.size<=w1.heap.size:=ao _;have o5:=hY (show ∀W,Nw w1 W->W.cell? w=some (.pointer none) fromλW N=>(N.blk g4).cell 0);clear n6 k0 g4;refine Xk (λw' b _=>Oo (DT 5) w1.heap.size w' b/\Nw w1 w') [11,12,13] (λb _=>[(2,.pointer (some ⟨b,0,none⟩))]) ?_ ?_
 ·skip
  refine eV (S:=(λw'=>Nw w1 w')) kM ((gA ((gz w1).drew))) (λhHeld=>?_);refine AF 0 (some 11) o5 hHeld ?_;have pm:=Tag.mk 0;have pa:=Tag.mk 1000
  repeat' (first
   |(have:=(pm:Tag 0);have:=(pa:Tag 1000);refine GQ 1 3 (λK tg hK=>?_) (λK tg hK=>?_))
   |(have:=(pm:Tag 0);have:=(pa:Tag 1001);refine Dk 1 (λK tg hK=>?_))
   |(have:=(pm:Tag 1);have:=(pa:Tag 1000);refine GQ 2 3 (λK tg hK=>?_) (λK tg hK=>?_))
   |(have:=(pm:Tag 1);have:=(pa:Tag 1001);refine Dk 2 (λK tg hK=>?_))
   |(have:=(pm:Tag 2);have:=(pa:Tag 1000);refine Dk 3 (λK tg hK=>?_))
   |(have:=(pm:Tag 2);have:=(pa:Tag 1001);refine Dk 4 (λK tg hK=>?_))
   | (have:=(tg:Tag 1)
      clear this tg;clear pm;have pm:=Tag.mk 1;go_simp
      (refine(Sr _ 5).mono ?_;rintro e wa ⟨rfl,e3⟩;have za:=e3.size;(first|have a3:=hY (a3.o.ext e3)|have a3:=hY (a3.o.ext (((gz _).drew).trans e3))|skip))
      refine hK.out _ _ (hHeld.trans (gA e3)) (λhHeld=>?_);clear hK K
      try go_frame)
   | (have:=(tg:Tag 2)
      clear this tg;clear pm;have pm:=Tag.mk 2;go_simp
      (have s7:=hHeld.size;refine(qF (k:=kN) (n:=5) oN oN).mono ?_;rintro e wc ⟨T,p,rfl,hp,ok,he,hT,a9⟩;have zc:=a9.size;have HT:=hY hT;(try(have a3:=hY (a3.o.ext a9);have c6:World.cell? _ _=some (.pointer none):=a3.o.cell 0;have f6:=a3.o.frozen 0));clear hT)
      refine hK.out _ _ (hHeld.trans (gA a9)) (λhHeld=>?_);clear hK K
      try go_frame)
   | (have:=(tg:Tag 3)
      clear this tg;clear pa;have pa:=Tag.mk 1001;go_simp
      (have s8:=hHeld.size;generalize k6:World.alloc _ _=wz;obtain⟨g8,d9,zz⟩:=D4 k6;have zd:wz.heap.size<=wz.drew.heap.size:=ao _;have a3:=hY d9;have c6:World.cell? _ _=some (.pointer none):=d9.cell 0;have f6:=d9.frozen 0;(try(have HT:=hY (HT.o.agree (g8.agree λb I=>I.2))));clear k6 d9)
      refine hK.out _ _ ((by first|exact hHeld.trans (gA g8)|exact(gA g8).trans (gA ((gz wz).drew)))) (λhHeld=>?_);clear hK K
      try go_frame)
   | (have:=(tg:Tag 4)
      clear this tg;clear pm;have pm:=Tag.mk 3;go_simp
      (have HN:=hY hHeld)
      refine hK.out _ _ (Ug hHeld oM _) (λhHeld=>?_);clear hK K
      try go_frame)
   | (have:=(pm:Tag 3);have:=(pa:Tag 1001);refine fa kM ?_ _
      simp only[Ei,List.map_cons,List.map_nil,List.cons_append,List.nil_append,List.setIfInBounds_toArray,List.set_cons_zero,List.set_cons_succ];refine SI ⟨_,.bool true,⟨qC hp ok he HT.o a3.o oM (λi hi=>⟨by have:=hi.1;omega,by have:=hi.2;omega,by have:=hi.1;have:=hi.2;omega⟩),hHeld⟩,kM,?_⟩;simp only[Ei,List.map_cons,List.map_nil,List.cons_append,List.nil_append,List.setIfInBounds_toArray,List.set_cons_zero,List.set_cons_succ]
      kernel_rfl))
 intro w2 b2 u2 vs r1;simp only[Ei,List.map_cons,List.map_nil,List.cons_append,List.nil_append,List.setIfInBounds_toArray,List.set_cons_zero,List.set_cons_succ];obtain⟨⟨T1,p1,p4,o6,l8,l2,g3,x3⟩,e2⟩:=r1;have z2:=e2.size;obtain⟨o4,t5,e0,p0,k4,t3,f8⟩:=Yh p4 o6 l8 l2 g3 (r0.o.trans e2) e2;clear p4 o6 l8 l2 g3 e2 o5;go_upto_region 4 with(first |(refine JH rfl 59 #[(0,.const (.int .i64 3)),(1,.const (.string kN)),(3,.const (.int .i64 1))] rfl (BS muI zS) km ?_) |(refine LK rfl rfl rfl muI zS (w0:=w2) (b:=w2) rfl ((gz w2).alloc _ _) (gB w2 _ _) rfl rfl rfl ?_;intro w3 b0 a8;have p5:=hY b0;have i4:=hY (gI a8);clear b0 a8));have K0:True:=trivial;go_upto_region 5 with(first |(have _k:=K0;refine A9 rfl (.tmp 3) rfl w2.heap.size 0 rfl muI zS i4.o ?_;clear _k K0;have K1:True:=trivial) |(have _k:=K1;refine JH rfl 61 #[(0,.const (.int .u64 1)),(1,.tmp 15)] rfl (DU ⟨1,muI⟩ zS) (Mm 1 muI zS) ?_;clear _k K1;have K2:True:=trivial) |(have _k:=K2;refine JH rfl 59 #[(0,.const (.int .i64 2)),(1,.const (.string kN))] rfl (BS muD zS) XQ ?_;clear _k K2;have K3:True:=trivial) |(have _k:=K3;refine JH rfl 61 #[(0,.const (.int .u64 2)),(1,.tmp 17)] rfl (DU ⟨2,muD⟩ zS) (Mm 2 muD zS) ?_;clear _k K3;have K4:True:=trivial) |(have _k:=K4;refine A9 rfl (.tmp 3) rfl w2.heap.size 0 rfl muI zS i4.o ?_;clear _k K4;have K5:True:=trivial) |(have _k:=K5;refine JH rfl 61 #[(0,.const (.int .u64 3)),(1,.tmp 19)] rfl (DU ⟨3,muI⟩ zS) (Mm 3 muI zS) ?_;clear _k K5;have K6:True:=trivial) |(have _k:=K6;refine LZ rfl 23 61 3 #[(0,.tmp 16),(1,.tmp 18),(2,.tmp 20)] rfl [FE ⟨1,muI⟩ zS,FE ⟨2,muD⟩ zS,FE ⟨3,muI⟩ zS] 20 underlying23 hi t6 r5 oN rfl oN oN (λv hv=>by simp only[List.mem_cons,List.not_mem_nil,or_false]at hv;rcases hv with rfl|rfl|rfl<;>rfl) rfl na rfl ?_;clear _k K6;have K7:True:=trivial));generalize o9:World.alloc _ _=w4;obtain⟨n9,q6,y1⟩:=D4 o9;have Z:A7 w4 (Lt w4) ⟨some w3,3⟩ l24:=jt (l:=PU) q6 (λp hp=>by
  simp only[List.mem_cons,List.not_mem_nil,or_false]at hp;rcases hp with rfl|rfl|rfl
  .exact ⟨U5 _ _ oN oN,oN⟩
  .exact ⟨kD _ _ oN,oN⟩
  exact⟨U5 _ _ oN oN,oN⟩) oN
 have a2:A7 w4 (Lt w4) ⟨some ⟨w3,20,none⟩,2⟩ (l24.drop 1):=Z.drop (k:=1) oN (by simp[Cb]) rfl;have a0:Nw w2 w4:=(gA p5.o).trans (gA n9);have t9:=a0.size;have b7:=a0.blk k4.o;have f3:=p0.o.agree (gC a0 λb I=>I.2.1);obtain⟨t7,d7,b3,j8,e6⟩:=Yf Z a2 (t3.o.trans a0) (f8.o.trans a0) b7;have d6:∀W,Nw w4 W->C7 W (λi=>w1<=i/\i<w2/\i≠b2) (Lt W) T1 ⟨some w3,3⟩ l24:=λW N=>
  Ni (f3.agree (gC N λb I=>by have:=I.2.1;omega)) (λb I=>⟨by have:=I.1;omega,by have:=I.2.1;have:=N.size;omega⟩) t5.o (by rw[e0.o];exact X' oN oN) (by rw[e0.o];exact ao 1) (Z.nw N) oN TV (HL.o.nw (b3.o.trans N))
 have x9:=hY d6;have c2:w4.cell? b2=some (.pointer p1):=b7.cell 0;have d5:=hY (show Calls prog 8 #[.agg #[.pointer p1],.slice (some w3) 3 3] w4 λe w'=>∃T' p',e=.returned (.agg #[.pointer p'])/\Aa T'=.pointer p'/\Am T'/\AV w' (Up (λi=>w1<=i/\i<w2/\i≠b2) w4 w') T'/\AG T'=DT 1/\Nw w4 w' from by
  have h:=MR (d6 w4 (gE _ _));rw[AO,o4.o,e0.o,show A8 l24=lK from rfl,US]at h;refine h.mono ?_;rintro e w' ⟨T',rfl,h1,h2,h3,h4,h5,-⟩;obtain⟨p',j4⟩:=BM T';exact⟨T',p',by rw[AO,j4],j4,h1,h2,h3,h5⟩)
 have e7:=hY (show ∀W,Nw w4 W->Calls prog 17 #[.agg #[.pointer p1],.slice (some w3) 3 3] W λe w'=>∃sc:Sl,e=.returned (.slice sc.a 3 sc.c)/\Rd w' (In W.heap.size w'.heap.size) 1 sc 3 ([0,0,0].map (.int .i64))/\Nw W w' fromλW N=>by
  have h:=O0 (d6 W N) oN;rw[AO,o4.o,e0.o,show A8 l24=lK from rfl,US]at h;exact h)
 have g0:∀W,Nw w4 W->C7 W (λ_=>False) (Lt W) none ⟨some ⟨w3,20,none⟩,2⟩ (l24.drop 1):=λW N=>
  Ni trivial (λb I=>I.elim) trivial Ae.nil (aw _) (a2.nw N) oN (by decide +kernel) (HL.o.nw (b3.o.trans N))
 have d0:∀W,Nw w4 W->C7 W (λ_=>False) (Lt W) none ⟨some w3,3⟩ l24:=λW N=>
  Ni trivial (λb I=>I.elim) trivial Ae.nil (aw _) (Z.nw N) oN TV (HL.o.nw (b3.o.trans N))
 have f2:=hY d0;have b4:=hY (show ∀W,Nw w4 W->Calls prog 17 #[.agg #[.pointer none],.slice (some ⟨w3,20,none⟩) 2 2] W λe w'=>∃sc:Sl,e=.returned (.slice sc.a 2 sc.c)/\Rd w' (In W.heap.size w'.heap.size) 1 sc 2 ([12,0].map (.int .i64))/\Nw W w' fromλW N=>by
  have h:=O0 (g0 W N) oN;rw[show A8 (l24.drop 1)=lK.drop 1 from rfl,show AG none=[]from rfl,Tt]at h;exact h)
 clear o9 n9 q6 Z a2 a0 b7 f3 d6 g0 d0 i4 p5 k4 p0 f8;go_wp2_with fail;refine d5.o.mono ?_;rintro e w5 ⟨T2,p2,rfl,l4,l0,j7,k3,q9⟩;obtain⟨n8,j5,g5,r2,p9⟩:=Yf l4 l0 k3 j7 q9;clear l4 l0 k3 j7 q9 c2 d5;go_upto_region 6 with fail;generalize q0:World.alloc _ _=w6;obtain⟨i3,o0,x2⟩:=D4 q0;have a6:Nw w4 w6:=p9.o.trans (gA i3);obtain⟨f7,g7⟩:=Yb a6 o0;have x4:=p9.o.size;have f9:=hY (r2.o.agree (i3.agree λb I=>I.elim (λe=>by have:=e.2.1;omega) λe=>e.2));have k1:=(b3.o.trans a6);have a4:=hY (show ∀W,Nw w6 W->W.cell? w=some (.pointer none) fromλW N=>(gK ((j8.o.trans a6).trans N) t2.o).cell 0);clear q0 i3 o0 a6 k1;refine eV (S:=(λw'=>Nw w6 w')) kM ((gA ((gz w6).drew))) (λhHeld=>?_);refine AF 0 (some 25) a4 hHeld ?_;refine AF 1 (some 26) a4 hHeld ?_;refine AF 2 (some 27) a4 hHeld ?_;refine Af (i:=3) kM rfl (by rfl) (λK hK=>?_);go_simp
 (refine(b4.o _ (f7.o.trans hHeld)).mono ?_;rintro e wa ⟨sc,rfl,q7,i8⟩;have f1:=hY q7;have p6:=hY i8;have s9:=hY hHeld;clear q7 i8)
 refine hK.out _ _ (hHeld.trans p6.o) (λhHeld=>?_);clear hK K
 try go_frame
 refine AF 4 (some 6) a4 hHeld ?_;refine fa kM ?_ _;have k7:=hY hHeld;have d3:=f7.o.trans hHeld;have q3:=hY d3;have q5:wa.cell? w5=some (.pointer p2):=(gK hHeld g7.o).cell 0;have q1:wa.cell? w=some (.pointer none):=a4.o wa hHeld;have d8:∀b,Up (λi=>w1<=i/\i<w2/\i≠b2) w4 w5 b->b<w6:=λb I=>I.elim (λe=>by have:=e.2.1;omega) λe=>by have:=e.2;omega
 have x8:=hHeld.size;have g6:=f9.o.agree (gC hHeld d8);have b9:=hY (show Calls prog 10 #[.agg #[.pointer p2],.agg #[.pointer none],.int .u64 1,.slice (some w3) 3 3] wa λe w'=>∃(V:RT) (p3:Option Addr) (sL sC:Sl),e=.returned (.tuple #[.agg #[.pointer p3],.slice sL.a 2 sL.c,.slice sC.a 0 sC.c])/\Aa V=.pointer p3/\Am V/\AG V=DT 1/\AV w' (In wa.heap.size w'.heap.size) V/\A7 w' (In wa.heap.size w'.heap.size) sL (l24.drop 1)/\Nw wa w' from by
  have h:=Uk (last:=1) g6 (λb I=>by have:=d8 b I;omega) j5.o (by rw[g5.o];decide) (f2.o wa d3);rw[AO,n8.o,Wt]at h;refine h.mono ?_;rintro e w' ⟨V,sL,sC,cs,rfl,ho⟩;obtain⟨p3,b8⟩:=BM V;have he:AG V=DT 1:=by rw[ho.ents,show A8 (l24.drop 1)=lK.drop 1 from rfl,show AG none=[]from rfl,Tt]
  have hc:=ho.chg;rw[he,g5.o,Sv]at hc;obtain rfl:cs=[]:=df.1 hc;exact⟨V,p3,sL,sC,by rw[AO,b8]<;>rfl,b8,ho.ok,he,ho.tree.mono λb I=>I.elim (λe=>e.elim) id,ho.row,ho.nw⟩)
 obtain⟨i6,q2⟩:=Yb g6 d8;clear d3 g6 hHeld d8 f2 b4 f9;go_wp2_with fail;refine b9.o.mono ?_;rintro e wb ⟨V,p3,sL,sC,rfl,b8,j0,k9,hV,b6,l3⟩;obtain⟨r9,s4,r7,HV,k2,r6⟩:=Yg b8 j0 k9 hV b6 l3;clear b8 j0 k9 hV b6 l3 q5 q1 b9;go_upto_region 8 with fail;generalize l5:World.alloc _ _=wc;obtain⟨a9,j2,x6⟩:=D4 l5;obtain⟨l9,o2⟩:=Yb a9 j2;clear l5 a9 j2;go_wp2_with fail;refine(Sr _ 1).mono ?_;rintro e wd ⟨rfl,j3⟩;have g9:=hY j3;clear j3;go_upto_region 9 with fail;generalize n2:World.alloc _ _=we;obtain⟨e1,n4,y0⟩:=D4 n2;have a1:Nw wa we:=r6.o.trans ((gA l9.o).trans ((gA g9.o).trans (gA e1)));have a5:Nw wb we:=(gA l9.o).trans ((gA g9.o).trans (gA e1));have f5:Nw wc we:=(gA g9.o).trans (gA e1);have x7:=a5.size;have x0:=a1.size;have q4:ES we (Lt we) ⟨some wd,1⟩ [⟨kN,C2 1,Sl.none,Sl.none⟩]:=iu (xs:=[⟨kN,C2 1,Sl.none,Sl.none⟩]) n4 (λx hx=>by rw[aV.1 hx];exact⟨TA _ _ oN,oN⟩) oN;have c9:∀(T:RT) (p:Option Addr) (F:Nat->Prop),Aa T=.pointer p->Am T->AG T=DT 1->(∀b,F b->b<we.heap.size)->AV we F T->∀W,Nw we W->Calls prog 11 #[.agg #[.pointer p],.slice (some wd) 1 1] W λe w'=>e=.returned true/\Ext W w':=λT p F hp ok he hF hT W N=>by
  have h:=Pe (w:=W) (s:=⟨some wd,1⟩) (xs:=[⟨kN,C2 1,Sl.none,Sl.none⟩]) (λb I=>ab (hF b I) N.size) (hT.agree (gC N hF)) ok (by rw[he];decide) ((q4.agree (gC N λb I=>I)).mono λb I=>ab I N.size);rw[AO,hp,he,show([⟨kN,C2 1,Sl.none,Sl.none⟩]:List LE).map LE.ent=DT 1 from rfl,Md]at h;exact h
 obtain⟨d4,c8,a7⟩:=Yc (c9 T2 p2 _ n8.o j5.o g5.o (λb I=>by have:=q2.o b I;omega) (i6.o.agree (gC a1 λb I=>by have:=q2.o b I;omega))) (c9 V p3 _ r9.o s4.o r7.o (λb I=>by have:=I.2;omega) (HV.o.agree (gC a5 λb I=>I.2))) (q3.o.trans a1);have e4:=hY (show ∀W,Nw we W->Calls prog 12 #[.slice sL.a 2 sL.c,.slice (some ⟨w3,20,none⟩) 2 2] W λe w'=>e=.returned true/\Ext W w' fromλW N=>
  RI (s:=sL) (s':=⟨some ⟨w3,20,none⟩,2⟩) (l:=l24.drop 1) (k2.o.up (λb I=>I.2) (a5.trans N)) (d7.o.nw (a7.o.trans N)))
 obtain⟨e8,o7,i7,l6,r3⟩:=Yf (f1.o.nw (λb I=>I.2) a1) (gK (k7.o.trans a1) g7.o) (gK a7.o e6.o) (gK f5 o2.o) (b3.o.trans a7.o);have q5:we.cell? w5=some (.pointer p2):=o7.o.cell 0;clear n2 e1 n4 a1 a5 f5 q4 c9 f1 k2 HV i6 p6 s9 g7 e6 o2;go_wp2_with fail;refine(d4.o we (gE _ _)).mono ?_;rintro e v1 ⟨rfl,i1⟩;have l1:=hY (gA i1);have c2:v1.cell? b2=some (.pointer p1):=(i7.o.ext i1).cell 0;clear i1 q5 d4;go_wp2_with fail;refine(e7.o v1 (a7.o.trans l1.o)).mono ?_;rintro e v2 ⟨t0,rfl,f4,j6⟩;obtain⟨r4,f0⟩:=Yb (l1.o.trans j6) f4;clear j6 f4 c2 e7;go_wp2_with fail;generalize o3:World.alloc _ _=v3;obtain⟨b0,a8,-⟩:=D4 o3;have r8:=hY (r4.o.trans (gA b0));have j9:=Uz (A:=[0,0,0]) (B:=[0,0,0]) (s:=t0) (s':=⟨some v2,3⟩) (f0.o.nw (λb I=>I.2) (gA b0)) ((gG a8 oN rfl).mono λb I=>by rw[I];exact a8.lt) oN;have j1:=hY j9;clear o3 b0 a8 j9 f0;refine j1.o.mono ?_;rintro e v4 ⟨rfl,i9⟩;rw[show decide (([0,0,0]:List Int)=[0,0,0])=true from rfl];have t4:=hY (r8.o.trans (gA i9));clear i9 j1;go_wp2_with fail;generalize o8:World.alloc _ _=v5;obtain⟨i5,i2,-⟩:=D4 o8;have q8:=hY (t4.o.trans (gA i5));have p8:=Uz (A:=[12,0]) (B:=[12,0]) (s:=sc) (s':=⟨some v4,2⟩) (e8.o.nw (λb I=>I) q8.o) ((gG i2 oN rfl).mono λb I=>by rw[I];exact i2.lt) oN;have k8:=hY p8;clear o8 i5 i2 p8 e8;refine k8.o.mono ?_;rintro e v6 ⟨rfl,o1⟩;rw[show decide (([12,0]:List Int)=[12,0])=true from rfl];have b5:=q8.o.trans (gA o1);have p7:=hY b5;have c7:v6.cell? wb=some (.pointer p3):=(gK b5 l6.o).cell 0;clear o1 b5 k8;go_wp2_with fail;refine(c8.o v6 p7.o).mono ?_;rintro e v7 ⟨rfl,n7⟩;have l7:=hY (p7.o.trans (gA n7));clear n7 c7 c8;go_wp2_with fail;refine(e4.o v7 l7.o).mono ?_;rintro e v8 ⟨rfl,k5⟩;have t1:=hY (l7.o.trans (gA k5));clear k5 e4;go_wp2_with fail;go_ret;exact⟨rfl,r3.o.trans t1.o⟩
def EZ(s:AA)(i:Nat):Nat->Nat->Nat->Option Nat
 |0,_,r=>some r
 |m+1,j,r=>if(s.get! (i+j)).toNat<128\/192<=(s.get! (i+j)).toNat then none else EZ s i m (j+1) (64*r+(s.get! (i+j)).toNat-128)
def Jj(n least:Nat)(r:Option Nat):Nat × Nat:=match r with
 |none=>(0,0)
 |some r=>if r<least\/1114111<r\/(55296<=r/\r<57344)then(0,0)else(r,n)
def D6(s:AA)(i n base least:Nat):Nat × Nat:=if s.size<i+n then(0,0)else Jj n least (EZ s i (n-1) 1 ((s.get! i).toNat-base))
def Cw(s:AA)(i:Nat):Nat × Nat:=
 if s.size<=i then(0,0)else if(s.get! i).toNat<128 then((s.get! i).toNat,1)
 else if 192<=(s.get! i).toNat/\(s.get! i).toNat<224 then D6 s i 2 192 128
 else if 224<=(s.get! i).toNat/\(s.get! i).toNat<240 then D6 s i 3 224 2048
 else if 240<=(s.get! i).toNat/\(s.get! i).toNat<248 then D6 s i 4 240 65536 else(0,0)
def IH(b:UInt8):b.toNat<256:=b.toNat_lt
def Dz:(if((65533,1):Nat × Nat)=(65533,1)then((0,0):Nat × Nat)else(65533,1))=(0,0):=eN rfl
def Nb{v m:Nat}(h:m≠1):(if((v,m):Nat × Nat)=(65533,1)then((0,0):Nat × Nat)else(v,m))=(v,m):=eL (by intro e;injection e with _ e;exact h e)
def jo(n I b1 b2 N:Nat)(Z:192<=I/\I<224)(h1:b1<256):Lib.decodeN n I b1 b2 N=if n<2\/(b1<128\/192<=b1)\/64*(I-192)+b1-128<128 then(65533,1)else(64*(I-192)+b1-128,2):=by
 unfold Lib.decodeN
 repeat' split
 all_goals first |(exfalso;omega) |(rw[Prod.mk.injEq];omega)
def jD(n I b1 b2 N:Nat)(Z:224<=I/\I<240)(h1:b1<256)(h2:b2<256):Lib.decodeN n I b1 b2 N=if n<3\/(b1<128\/192<=b1)\/(b2<128\/192<=b2)\/(64*(64*(I-224)+b1-128)+b2-128<2048\/(55296<=64*(64*(I-224)+b1-128)+b2-128/\64*(64*(I-224)+b1-128)+b2-128<57344))then(65533,1)else(64*(64*(I-224)+b1-128)+b2-128,3):=by
 unfold Lib.decodeN
 repeat' split
 all_goals first |(exfalso;omega) |(rw[Prod.mk.injEq];omega)
def X0(n N b1 b2 I:Nat)(Z:240<=N/\N<248)(h1:b1<256)(h2:b2<256)(h3:I<256):Lib.decodeN n N b1 b2 I=if n<4\/(b1<128\/192<=b1)\/(b2<128\/192<=b2)\/(I<128\/192<=I)\/(64*(64*(64*(N-240)+b1-128)+b2-128)+I-128<65536\/1114111<64*(64*(64*(N-240)+b1-128)+b2-128)+I-128)then(65533,1)else(64*(64*(64*(N-240)+b1-128)+b2-128)+I-128,4):=by
 unfold Lib.decodeN
 repeat' split
 all_goals first |(exfalso;omega) |(rw[Prod.mk.injEq];omega)
def kI(n I b1 b2 N:Nat)(Z:128<=I)(h2:¬(192<=I/\I<224))(h3:¬(224<=I/\I<240))(h4:¬(240<=I/\I<248)):Lib.decodeN n I b1 b2 N=(65533,1):=by
 unfold Lib.decodeN
 repeat' split
 all_goals first |(exfalso;omega) |(rw[Prod.mk.injEq];omega)
def T7(s:AA)(i:Nat):Cw s i=if s.size<=i\/Utf8.decode s i=(65533,1)then(0,0)else Utf8.decode s i:=by
 unfold Cw;by_cases hi:s.size<=i
 .rw [eN hi,eN (.inl hi)]
 rw[eL hi];simp only[hi,false_or];rw[Lib.decode_at];unfold D6 Jj;have e1:∀m j r,EZ s i (m+1) j r=if(s.get! (i+j)).toNat<128\/192<=(s.get! (i+j)).toNat then none else EZ s i m (j+1) (64*r+(s.get! (i+j)).toNat-128):=λ_ _ _=>rfl
 have e0:∀j r,EZ s i 0 j r=some r:=λ_ _=>rfl
 have h0:=IH (s.get! i);have h1:=IH (s.get! (i+1));have h2:=IH (s.get! (i+2));have h3:=IH (s.get! (i+3));simp only[Nat.reduceSub,e1,e0,Nat.reduceAdd];generalize (s.get! i).toNat=N at *;generalize (s.get! (i+1)).toNat=b1 at *;generalize (s.get! (i+2)).toNat=b2 at *;generalize (s.get! (i+3)).toNat=b3 at *;generalize hn:s.size-i=n;have a1:(s.size<i+2)=(n<2):=propext ⟨λh=>oM,λh=>oM⟩;have a0:(s.size<i+3)=(n<3):=propext ⟨λh=>oM,λh=>oM⟩;have a2:(s.size<i+4)=(n<4):=propext ⟨λh=>oM,λh=>oM⟩;simp only[a1,a0,a2];clear a1 a0 a2 e1 e0 hn hi;by_cases c1:N<128
 .rw [eN c1,Lib.decodeN_ascii n N b1 b2 b3 c1,eL (by intro e;injection e with e;omega)]
 rw[eL c1];by_cases c2:192<=N/\N<224
 ·rw [eN c2]
  have hd:=jo n N b1 b2 b3 c2 h1;by_cases I:n<2
  ·rw [eN (.inl I)] at hd
   rw[eN I,hd,Dz]
  by_cases Z:b1<128\/192<=b1
  ·rw [eN (.inr (.inl Z))] at hd
   rw[eL I,eN Z,hd,Dz]
  by_cases q3:64*(N-192)+b1-128<128
  ·rw [eN (.inr (.inr q3))] at hd
   rw[eL I,eL Z,hd,Dz];show(if _ then _ else _)=_;rw[eN (.inl q3)]
  rw[eL oM]at hd;rw[eL I,eL Z,hd,Nb oN];show(if _ then _ else _)=_;rw[eL oM]
 rw[eL c2];by_cases c3:224<=N/\N<240
 ·rw [eN c3]
  have hd:=jD n N b1 b2 b3 c3 h1 h2;by_cases I:n<3
  ·rw [eN (.inl I)] at hd
   rw[eN I,hd,Dz]
  by_cases Z:b1<128\/192<=b1
  ·rw [eN (.inr (.inl Z))] at hd
   rw[eL I,eN Z,hd,Dz]
  by_cases q3:b2<128\/192<=b2
  ·rw [eN (.inr (.inr (.inl q3)))] at hd
   rw[eL I,eL Z,eN q3,hd,Dz]
  by_cases q4:64*(64*(N-224)+b1-128)+b2-128<2048\/(55296<=64*(64*(N-224)+b1-128)+b2-128/\64*(64*(N-224)+b1-128)+b2-128<57344)
  ·rw [eN (.inr (.inr (.inr q4)))] at hd
   rw[eL I,eL Z,eL q3,hd,Dz];show(if _ then _ else _)=_;rw[eN oM]
  rw[eL oM]at hd;rw[eL I,eL Z,eL q3,hd,Nb oN];show(if _ then _ else _)=_;rw[eL oM]
 rw[eL c3];by_cases c4:240<=N/\N<248
 ·rw [eN c4]
  have hd:=X0 n N b1 b2 b3 c4 h1 h2 h3;by_cases I:n<4
  ·rw [eN (.inl I)] at hd
   rw[eN I,hd,Dz]
  by_cases Z:b1<128\/192<=b1
  ·rw [eN (.inr (.inl Z))] at hd
   rw[eL I,eN Z,hd,Dz]
  by_cases q3:b2<128\/192<=b2
  ·rw [eN (.inr (.inr (.inl q3)))] at hd
   rw[eL I,eL Z,eN q3,hd,Dz]
  by_cases q5:b3<128\/192<=b3
  ·rw [eN (.inr (.inr (.inr (.inl q5))))] at hd
   rw[eL I,eL Z,eL q3,eN q5,hd,Dz]
  by_cases q4:64*(64*(64*(N-240)+b1-128)+b2-128)+b3-128<65536\/1114111<64*(64*(64*(N-240)+b1-128)+b2-128)+b3-128
  ·rw [eN (.inr (.inr (.inr (.inr q4))))] at hd
   rw[eL I,eL Z,eL q3,eL q5,hd,Dz];show(if _ then _ else _)=_;rw[eN oM]
  rw[eL oM]at hd;rw[eL I,eL Z,eL q3,eL q5,hd,Nb oN];show(if _ then _ else _)=_;rw[eL oM]
 rw[eL c4,kI n N b1 b2 b3 oM c2 c3 c4,Dz]
def RR(s:AA)(i:Nat)(h:i<s.size):s.get! i=s[i]'h:=by
 cases s with
 |mk d=>exact getElem!_pos d i h
variable{r j:Nat}
def Wv(I:j<=4)(h:r<64^j):r<16777216:=ab h (an (Nat.pow_le_pow_right oN I) oN)
def Ww{r d j:Nat}(h:r<64^j)(hd:d<192):64*r+d-128<64^(j+1):=by
 rw[Nat.pow_succ];omega
def pJ(s:AA)(i m j r:Nat)(I:0<m):EZ s i m j r=if(s.get! (i+j)).toNat<128\/192<=(s.get! (i+j)).toNat then none else EZ s i (m-1) (j+1) (64*r+(s.get! (i+j)).toNat-128):=by
 cases m with
 |zero=>omega
 |succ m=>rfl
def Uc(w:AB)(s:AA)(i:Nat)(hs:s.size<=1000000000000):Calls prog 119 #[s,.int .i64 (i:Int)] w λe w'=>e=.returned (.tuple #[.int .i64 ((Cw s i).1:Int),.int .i64 ((Cw s i).2:Int)])/\w'=w:=by
 by_cases hi:s.size<=i
 ·have g0:decide ((s.size:Int)≤(i:Int))=true:=eO oM
  have HR:=hY (show Cw s i=(0,0)by unfold Cw;rw[eN hi]);go_in;go_wp2_with fail;go_ret2;exact⟨by rw[HR.o];rfl,rfl⟩
 have g0:decide ((s.size:Int)<=(i:Int))=false:=eM oM;have z0:(0:Int)<=(i:Int):=oM
 have z1:(i:Int)<(s.size:Int):=oM
 obtain⟨c,a1⟩:∃c,(s.get! i).toNat=c:=⟨_,rfl⟩;have hc:(s[i]' oM).toNat=c:=by rw[<-a1,RR s i oM]
 have a4:c<256:=by rw[<-a1];exact IH _
 have hr:Cw s i=if c<128 then(c,1)else if 192<=c/\c<224 then D6 s i 2 192 128 else if 224<=c/\c<240 then D6 s i 3 224 2048 else if 240<=c/\c<248 then D6 s i 4 240 65536 else(0,0):=by
  unfold Cw;rw[eL hi,a1]
 obtain⟨a3,HR⟩:=Yb a1 hr;clear a1 hr;have dT (k:Nat) (h:c<k):decide ((c:Int)<k)=true:=eO oM;have dF (k:Nat) (h:k<=c):decide ((c:Int)<k)=false:=eM oM;have eT (k:Nat) (h:k<=c):decide ((k:Int)<=(c:Int))=true:=eO oM;have eF (k:Nat) (h:c<k):decide ((k:Int)<=(c:Int))=false:=eM oM;by_cases h1:c<128
 ·have d1:decide ((c:Int)<128)=true:=dT 128 h1
  have HV:=hY (HR.o.trans (eN h1));clear h1 dT dF eT eF;go_in;go_wp2_with fail;go_ret2;exact⟨by rw[HV.o];rfl,rfl⟩
 have d1:decide ((c:Int)<128)=false:=dF 128 oM;by_cases h0:c<192\/248<=c
 ·have HV:=hY (show Cw s i=(0,0) by rw [HR.o,eL h1,eL oM,eL oM,eL oM])
  rcases h0 with h0|h0
  ·have d2:decide ((192:Int)≤(c:Int))=false:=eF 192 h0
   have d3:decide ((224:Int)<=(c:Int))=false:=eF 224 oM;have d4:decide ((240:Int)<=(c:Int))=false:=eF 240 oM;clear h0 h1 dT dF eT eF;go_in;go_wp2_with fail;go_ret2;exact⟨by rw[HV.o];rfl,rfl⟩
  have d2:decide ((192:Int)<=(c:Int))=true:=eT 192 oM;have d3:decide ((c:Int)<224)=false:=dF 224 oM;have d4:decide ((224:Int)<=(c:Int))=true:=eT 224 oM;have d5:decide ((c:Int)<240)=false:=dF 240 oM;have d6:decide ((240:Int)<=(c:Int))=true:=eT 240 oM;have d7:decide ((c:Int)<248)=false:=dF 248 h0;clear h0 h1 dT dF eT eF;go_in;go_wp2_with fail;go_ret2;exact⟨by rw[HV.o];rfl,rfl⟩
 have d2:decide ((192:Int)<=(c:Int))=true:=eT 192 oM;go_in;go_upto_block 0 with fail;go_cut [7,8,9] (λv7 v8 v9 wc=>∃n r0 I:Nat,v7=.int .i64 (n:Int)/\v8=.int .i64 (r0:Int)/\v9=.int .i64 (I:Int)/\2<=n/\n<=4/\r0<64/\I<=65536/\Yd (Cw s i=if s.size<i+n then(0,0)else Jj n I (EZ s i (n-1) 1 r0))/\w=wc)
 case first=>
  by_cases h2:c<224
  ·have d3:decide ((c:Int)<224)=true:=dT 224 h2
   have w1:IntKind.i64.wrap ((c:Int)-192)=((c-192:Nat):Int):=by rw[eS];omega
   have HV:=hY (show Cw s i=D6 s i 2 192 128 by rw[HR.o,eL h1,eN oM]);clear h0 h1 dT dF eT eF;go_wp2_with fail;go_meet;exact⟨2,c-192,128,rfl,rfl,rfl,oN,oN,oM,oN,hY (by rw[HV.o,D6,a3.o]),rfl⟩
  have d3:decide ((c:Int)<224)=false:=dF 224 oM;have d4:decide ((224:Int)<=(c:Int))=true:=eT 224 oM;by_cases h3:c<240
  ·have d5:decide ((c:Int)<240)=true:=dT 240 h3
   have w1:IntKind.i64.wrap ((c:Int)-224)=((c-224:Nat):Int):=by rw[eS];omega
   have HV:=hY (show Cw s i=D6 s i 3 224 2048 by rw[HR.o,eL h1,eL oM,eN oM]);clear h0 h1 h2 dT dF eT eF;go_wp2_with fail;go_meet;exact⟨3,c-224,2048,rfl,rfl,rfl,oN,oN,oM,oN,hY (by rw[HV.o,D6,a3.o]),rfl⟩
  have d5:decide ((c:Int)<240)=false:=dF 240 oM;have d6:decide ((240:Int)<=(c:Int))=true:=eT 240 oM;have d7:decide ((c:Int)<248)=true:=dT 248 oM;have w1:IntKind.i64.wrap ((c:Int)-240)=((c-240:Nat):Int):=by rw[eS];omega
  have HV:=hY (show Cw s i=D6 s i 4 240 65536 by rw[HR.o,eL h1,eL oM,eL oM,eN oM]);clear h0 h1 h2 h3 dT dF eT eF;go_wp2_with fail;go_meet;exact⟨4,c-240,65536,rfl,rfl,rfl,oN,oN,oM,oN,hY (by rw[HV.o,D6,a3.o]),rfl⟩
 case rest=>
 obtain⟨n,r0,I,rfl,rfl,rfl,a9,a8,b0,b4,HV,rfl⟩:=hcut;clear dT dF eT eF h0 h1 HR d1 d2;have w0:IntKind.i64.wrap ((i:Int)+(n:Int))=(i:Int)+(n:Int):=by rw[eS];omega
 by_cases hn:s.size<i+n
 ·have p0:decide ((s.size:Int)<(i:Int)+(n:Int))=true:=eO oM
  have HR:=hY (HV.o.trans (eN hn));clear hn;go_wp2_with fail;go_ret2;exact⟨by rw[HR.o];rfl,rfl⟩
 have p0:decide ((s.size:Int)<(i:Int)+(n:Int))=false:=eM oM;obtain⟨X,hX⟩:∃X,EZ s i (n-1) 1 r0=X:=⟨_,rfl⟩;obtain⟨HR,HX⟩:=Yb (show Cw s i=Jj n I X by rw[HV.o,eL hn,hX]) hX;clear hX HV;go_wp2_with fail;go_loopw[8,10] (λrv jv wr=>∃j r:Nat,rv=.int .i64 (r:Int)/\jv=.int .i64 (j:Int)/\1<=j/\j<=n/\Yd (r<64^j/\EZ s i (n-j) j r=X)/\wr=w) (λ_ jv _=>n -(intOf jv).toNat)
 case atStart=>exact⟨1,r0,rfl,rfl,ao _,oM,hY ⟨oM,HX.o⟩,rfl⟩
 obtain⟨j,r,rfl,rfl,b5,a7,HJ,rfl⟩:=hrel;have hr:=Wv (show j<=4 by omega) HJ.o.1;by_cases a6:j<n
 ·have e1:decide ((j:Int)<(n:Int))=true:=eO oM
  have v0:IntKind.i64.wrap ((i:Int)+(j:Int))=(i:Int)+(j:Int):=by rw[eS];omega
  have v1:(0:Int)<=(i:Int)+(j:Int):=oM
  have v2:(i:Int)+(j:Int)<(s.size:Int):=oM
  have v3:((i:Int)+(j:Int)).toNat=i+j:=oM
  obtain⟨d,hd⟩:∃d,(s.get! (i+j)).toNat=d:=⟨_,rfl⟩;have b3:(s[i+j]' oM).toNat=d:=by rw[<-hd,RR s (i+j) oM]
  have a5:d<256:=by rw[<-hd];exact IH _
  have a0:=pJ s i (n-j) j r oM;rw[HJ.o.2,hd]at a0;have a2:=hY a0;clear a0 hd;by_cases q0:d<128\/192<=d
  ·have HE:=hY (show Cw s i=(0,0) by rw [HR.o,a2.o,eN q0];rfl)
   rcases q0 with q1|q2
   ·have e2:decide ((d:Int)<128)=true:=eO oM
    clear q1;go_wp2_with fail;go_ret2;exact⟨by rw[HE.o];rfl,rfl⟩
   have e2:decide ((d:Int)<128)=false:=eM oM;have e3:decide ((192:Int)<=(d:Int))=true:=eO oM;clear q2;go_wp2_with fail;go_ret2;exact⟨by rw[HE.o];rfl,rfl⟩
  have e2:decide ((d:Int)<128)=false:=eM oM;have e3:decide ((192:Int)<=(d:Int))=false:=eM oM;have u0:IntKind.i64.wrap (64*(r:Int))=64*(r:Int):=by rw[eS];omega
  have u1:IntKind.i64.wrap (64*(r:Int)+(d:Int))=64*(r:Int)+(d:Int):=by rw[eS];omega
  have u2:IntKind.i64.wrap (64*(r:Int)+(d:Int)-128)=((64*r+d-128:Nat):Int):=by rw[eS];omega
  have HN:=hY (show 64*r+d-128<64^(j+1)/\EZ s i (n -(j+1)) (j+1) (64*r+d-128)=X from⟨Ww HJ.o.1 oM,by rw[a2.o,eL q0];rfl⟩);clear a2 q0;go_wp2_with fail;go_roundw
  case rel=>exact⟨j+1,64*r+d-128,by rfl,by go_num,oM,oM,HN,trivial⟩
  simp[intOf];omega
 obtain rfl:j=n:=oM
 have HE:=hY (show Cw s i=if r<I\/1114111<r\/(55296<=r/\r<57344)then(0,0)else(r,j)by
  have:X=some r:=by rw[<-HJ.o.2,cE];rfl
  rw[HR.o,this];rfl)
 have e1:decide ((j:Int)<(j:Int))=false:=eM oM;have Z:(r<I\/1114111<r\/(55296<=r/\r<57344))->Yd (Cw s i=(0,0)):=λh=>HE.o.trans (eN h)
 have N:¬(r<I\/1114111<r\/(55296<=r/\r<57344))->Yd (Cw s i=(r,j)):=λh=>HE.o.trans (eL h)
 clear a6 HJ HR HX;by_cases q1:r<I
 ·have e2:decide ((r:Int)<(I:Int))=true:=eO oM
  have HF:=Z (.inl q1);clear Z N;go_wp2_with fail;go_ret2;exact⟨by rw[HF.o];rfl,rfl⟩
 have e2:decide ((r:Int)<(I:Int))=false:=eM oM;by_cases q2:1114111<r
 ·have e3:decide ((1114111:Int)<(r:Int))=true:=eO oM
  have HF:=Z (.inr (.inl q2));clear q2 Z N;go_wp2_with fail;go_ret2;exact⟨by rw[HF.o];rfl,rfl⟩
 have e3:decide ((1114111:Int)<(r:Int))=false:=eM oM;by_cases q3:55296<=r/\r<57344
 ·have e4:decide ((55296:Int)≤(r:Int))=true:=eO oM
  have e5:decide ((r:Int)<57344)=true:=eO oM;have HF:=Z (.inr (.inr q3));clear q2 q3 Z N;go_wp2_with fail;go_ret2;exact⟨by rw[HF.o];rfl,rfl⟩
 have HF:=N oM;by_cases q4:55296<=r
 ·have e4:decide ((55296:Int)≤(r:Int))=true:=eO oM
  have e5:decide ((r:Int)<57344)=false:=eM oM;clear q2 q3 q4 Z N;go_wp2_with fail;go_ret2;exact⟨by rw[HF.o];rfl,rfl⟩
 have e4:decide ((55296:Int)<=(r:Int))=false:=eM oM;clear q2 q3 q4 Z N;go_wp2_with fail;go_ret2;exact⟨by rw[HF.o];rfl,rfl⟩
def gP{s:AA}{p f:Nat}(hp:p<s.size)(hf:s.size<=p+f):Lib.validGoD f (s.data.toList.drop p)=if Utf8.decode s p=(65533,1)then false else Lib.validGoD (f-1) (s.data.toList.drop (p+(Utf8.decode s p).2)):=by
 cases f with
 |zero=>omega
 | succ f=>
   have Z:s.data.toList.length=s.size:=by rw[aQ];rfl
   have N:s.data.toList.drop p≠[]:=by
    intro e;have:=congrArg List.length e;rw[az,Z]at this;simp at this;omega
   rw[Lib.validGoD,eL N,Lib.decodeL_drop,eH];by_cases I:Utf8.decode s p=(65533,1)
   .rw [eN I,eN (by rw[I];exact⟨rfl,rfl⟩)]
   rw[eL I,eL (λh=>I (eJ h.1 h.2))];rfl
def Xh{s:AA}{p f:Nat}(I:s.size<=p):Lib.validGoD f (s.data.toList.drop p)=true:=by
 have N:s.data.toList.length=s.size:=by rw[aQ];rfl
 rw[bS oM];cases f<;>rfl
def IX(w:AB)(s:AA)(hs:s.size<=1000000000000):Calls prog 91 #[s] w λe w'=>e=.returned (Lib.validD s.data.toList)/\w'=w:=by
 obtain⟨V,hV⟩:∃V,Lib.validD s.data.toList=V:=⟨_,rfl⟩;rw[hV];have hl:s.data.toList.length=s.size:=by rw[aQ];rfl
 have a3:=λ(p:Nat)=>Uc w s p hs
 obtain⟨a5,HV,a6⟩:=Yc a3 hV hl;clear a3 hV hl;go_in;go_wp2_with fail;go_loopw[3] (λv wr=>∃p f:Nat,v=.int .i64 (p:Int)/\p<=s.size/\Yd (Lib.validGoD f (s.data.toList.drop p)=V/\s.size<=p+f)/\wr=w) (λv _=>s.size -(intOf v).toNat)
 case atStart=>exact⟨0,s.size,rfl,aw _,hY ⟨by rw[dt,<-a6.o];exact HV.o,oM⟩,rfl⟩
 obtain⟨p,f,rfl,hp,HS,rfl⟩:=hrel;by_cases a4:p<s.size
 ·have e1:decide ((p:Int)<(s.size:Int))=true:=eO oM
  have I:=gP a4 HS.o.2;rw[HS.o.1]at I;obtain⟨Z,a0,hr⟩:=Jt a4;have N:=T7 s p;go_wp2_with fail;refine(a5.o p).mono ?_;rintro e w2 ⟨rfl,rfl⟩;obtain⟨r,z,hd⟩:∃r z,Utf8.decode s p=(r,z):=⟨_,_,rfl⟩;by_cases hb:Utf8.decode s p=(65533,1)
  ·rw [eN (.inr hb)] at N
   rw[eN hb]at I;rw[N];have a1:=hY I;clear N I hb hd Z a0 hr;go_wp2_with fail;go_ret;exact⟨by rw[a1.o];rfl,rfl⟩
  rw[eL (λh=>h.elim (λh=>absurd h oM) hb)]at N;rw[eL hb]at I;rw[N];rw[hd]at I Z a0 ⊢;dsimp only at I Z a0 ⊢;have e2:((z:Int)==0)=false:=eP.2 oM;have e3:IntKind.i64.wrap ((p:Int)+(z:Int))=(p:Int)+(z:Int):=by rw[eS];omega
  have a1:=hY I.symm;have HF:=HS.o.2;have a2:=hY Z;clear N I hb hd hr Z;go_wp2_with fail;go_roundw
  case rel=>exact⟨p+z,f-1,by go_num,a0,hY ⟨a1.o,by have:=a2.o;omega⟩,trivial⟩
  have:=a2.o;simp[intOf];omega
 obtain rfl:p=s.size:=oM
 have e1:decide ((s.size:Int)<(s.size:Int))=false:=eM oM;have HE:=hY (show V=true by rw[<-HS.o.1];exact Xh (ao _));go_wp2_with fail;go_ret;exact⟨by rw[HE.o];rfl,rfl⟩
def MY(w:AB)(k:AA)(hk:k.size<=maxLen):Calls prog 60 #[k] w λe w'=>e=.returned (AT k)/\w'=w:=by
 obtain⟨r,I⟩:∃r,AT k=r:=⟨_,rfl⟩;rw[I];unfold AT at I;by_cases Z:k.size=0
 ·rw [eN Z] at I
  subst I;have e0:((k.size:Int)==0)=true:=by rw[Z];rfl
  clear Z;go_in;go_wp2_with fail;go_ret;exact⟨rfl,rfl⟩
 rw[eL Z]at I;have e0:((k.size:Int)==0)=false:=eP.2 oM;by_cases h1:64<k.size
 ·rw [eN h1] at I
  subst I;have e1:decide ((64:Int)<(k.size:Int))=true:=eO oM;go_in;go_wp2_with fail;go_ret;exact⟨rfl,rfl⟩
 rw[eL h1]at I;have e1:decide ((64:Int)<(k.size:Int))=false:=eM oM;have N:=hY (IX w k oM);cases hv:Lib.validD k.data.toList with
 | true=>
   rw[hv,eN rfl]at I;rw[hv]at N;subst I;go_in;go_wp2_with fail;refine N.o.mono ?_;rintro e w1 ⟨rfl,rfl⟩;go_wp2_with fail;go_ret;exact⟨rfl,rfl⟩
 | false=>
   rw[hv,eL oN]at I;rw[hv]at N;subst I;go_in;go_wp2_with fail;refine N.o.mono ?_;rintro e w1 ⟨rfl,rfl⟩;go_wp2_with fail;go_ret;exact⟨rfl,rfl⟩
def oz(w:AB)(v:Val)(sl so:Sl):Calls prog 150 #[AS v sl so] w λe w'=>e=.returned (.bool (!Ll v))/\Ext w w':=by
 obtain⟨k,b,i,t,l,I,ov⟩:=v;show Calls _ _ #[.agg #[k,b,i,t,.slice sl.a l.length sl.c,.slice so.a I.length so.c]] _ λe w'=>e=.returned (.bool (!Ad k b i t l.length I.length))/\Ext w w'
 by_cases N:I.length=0
 ·have Z:((I.length:Int) == 0)=true:=by rw [N];rfl
  go_in;go_wp2_with fail
  all_goals
   go_ret;refine⟨?_,(gz w).alloc _ _⟩;refine congrArg (λx=>Ending.returned (Value.bool x)) ?_;unfold Ad
   first
    |(simp[*];done)
    |(rw[eL oM];simp[*];done)
    |(rw[eL oM,show k=1 by omega];simp[*])
 have Z:((I.length:Int)==0)=false:=eP.2 oM;go_in;go_wp2_with fail
 all_goals
  go_ret;refine⟨?_,(gz w).alloc _ _⟩;refine congrArg (λx=>Ending.returned (Value.bool x)) ?_;unfold Ad
  first
   |(simp[*];done)
   |(rw[eL oM];simp[*];done)
   |(rw[eL oM,show k=1 by omega];simp[*])
def YP{t:AA}(h:t.size=0):Lib.validD t.data.toList=true:=by
 have I:t.data.toList.length=t.size:=by rw[aQ];rfl
 have:t.data.toList=[]:=av oM;rw[this];rfl
def TB(k:Int)(b:Bool)(i:Int)(t:AA)(l:List Val)(ok:List AA)(ov:List Val)(q:Nat)(N:ov.length=ok.length):Ai (.mk k b i t l ok ov) q =
  if Ad k b i t l.length ok.length=true then 9 else if 64<q then 5 else if Lib.validD t.data.toList=false then 3 else if Bp l (q+1)≠0 then Bp l (q+1)else Bi none ok ov (q+1):=by
 unfold Ai;by_cases ho:Ad k b i t l.length ok.length=true
 .rw [eN ho,eN ho]
 rw[eL ho,eL ho];by_cases hq:64<q
 .rw [eN hq,eN hq]
 rw[eL hq,eL hq];have I:Ad k b i t l.length ok.length=false:=by simpa using ho
 unfold Ad at I;have Z:¬(k<1\/6<k):=by
  intro h;rw[eN h]at I;cases I
 rw[eL Z]at I;simp only[Bool.or_eq_false_iff,Bool.and_eq_false_iff,bne_eq_false_iff_eq]at I;obtain⟨⟨⟨⟨-,-⟩,h4⟩,h5⟩,h6⟩:=I;by_cases k4:k=4
 ·subst k4
  have hl:l=[]:=av (h5.resolve_left oN);have Z:ok=[]:=av (h6.resolve_left oN);subst hl Z;have hv:ov=[]:=av N;subst hv;rw[eN rfl];cases Lib.validD t.data.toList<;>simp[Bp,Bi]
 rw[eL k4];have ht:Lib.validD t.data.toList=true:=YP (h4.resolve_left k4);rw[ht,eL (show ¬(true=false)by decide)];by_cases k5:k=5
 ·subst k5
  have Z:ok=[]:=av (h6.resolve_left oN);subst Z;have hv:ov=[]:=av N;subst hv;rw[eN rfl];by_cases hz:Bp l (q+1)=0
  .rw [eL (by simp[hz]),hz];rfl
  rw[eN hz]
 rw[eL k5];have hl:l=[]:=av (h5.resolve_left k5);subst hl;rw[show(if Bp [] (q+1)≠0 then Bp [] (q+1)else Bi none ok ov (q+1))=Bi none ok ov (q+1)from eL (by simp[Bp])];by_cases k6:k=6
 .rw [eN k6]
 rw[eL k6];have Z:ok=[]:=av (h6.resolve_left k6);subst Z;have hv:ov=[]:=av N;subst hv;rfl
def GO(ok:List AA)(j:Nat):AA:=(prevK ok j).getD ByteArray.empty
def nT(m:Nat):∀(d:Val),SizeOf.sizeOf d<=m->Ah d<=1100000->∀(w:AB) (sl so:Sl) (q:Nat),q<=65->RV w (Lt w) d sl so->
  Calls prog 120 #[AS d sl so,.int .i64 (q:Int)] w λe w'=>e=.returned (.int .i64 (Ai d q))/\Ext w w':=by
 induction m with
 |zero=>intro d hd;have:=Val.CM d;omega
 |succ m ih=>
 intro d hd e8 w sl so q hq h;have HI:=hY ih;clear ih;obtain⟨k,b,i,t,l,N,ov⟩:=d;have d3:=λW=>oz W (.mk k b i t l N ov) sl so
 show Calls _ _ #[.agg #[k,b,.int .i64 i,t,.slice sl.a l.length sl.c,.slice so.a N.length so.c],.int .i64 q] _ _;cases h with
 |mk bl fl bo fo cl co hl ho hov el rl ek eo ro bk bi bt nl no=>
 have e3:∀(j:Nat) (d:Val),l[j]? = some d->SizeOf.sizeOf d<=m:=λj d hj=>bz (ab (Val.Ev hj) hd)
 have d9:∀(j:Nat) (d:Val),ov[j]? = some d->SizeOf.sizeOf d<=m:=λj d hj=>bz (ab (Val.E0 hj) hd)
 unfold Ah at e8;have hu:=λW=>IX W t oM
 obtain⟨f2,f7,f6,f8,f4,f9,f3⟩:=Yh e3 d9 el rl ek eo ro;obtain⟨e0,HU,c7,c8,d0,d8⟩:=Yg hov hu d3 hl ho e8;obtain⟨r,hr⟩:∃r,Ai (.mk k b i t l N ov) q=r:=⟨_,rfl⟩;rw[hr];rw[TB _ _ _ _ _ _ _ _ hov]at hr;clear e3 d9 el rl ek eo ro hov hd hu d3;go_in;go_wp2_with fail;have e2:=(gz w).alloc #[.int .i64 k,.bool b,.int .i64 i,.string t,.slice sl.a l.length sl.c,.slice so.a N.length so.c] 54;have b9:=gB w 54 #[.int .i64 k,.bool b,.int .i64 i,.string t,.slice sl.a l.length sl.c,.slice so.a N.length so.c];refine(c7.o _).mono ?_;rintro e w1 ⟨rfl,b3⟩;obtain⟨q0,q1,q2,q3,q4,q5⟩:=(b9.ext b3).c6;have lq:=(b9.ext b3).lt;obtain⟨HX,HB⟩:=Yb (e2.trans b3) (b9.ext b3);clear e2 b3 b9 c7;unfold Ll;dsimp only[Val.kind,Val.b,Val.i,Val.t,Val.l,Val.ok];by_cases b7:Ad k b i t l.length N.length=true
 ·rw [eN b7] at hr
  subst hr;rw[b7];go_wp2_with fail;go_ret;exact⟨rfl,HX.o⟩
 rw[eL b7]at hr;rw[show Ad k b i t l.length N.length=false by simpa using b7];by_cases c9:64<q
 ·rw [eN c9] at hr
  subst hr;have g0:decide ((64:Int)<(q:Int))=true:=eO oM;go_wp2_with fail;go_ret;exact⟨rfl,HX.o⟩
 rw[eL c9]at hr;have g0:decide ((64:Int)<(q:Int))=false:=eM oM;go_wp2_with fail;refine(HU.o _).mono ?_;rintro e w2 ⟨rfl,rfl⟩;cases hv:Lib.validD t.data.toList with
 | false=>
   rw[hv,eN rfl]at hr;subst hr;go_wp2_with fail;go_ret;exact⟨rfl,HX.o⟩
 |true=>
 rw[hv,eL oN]at hr;obtain⟨b6,d4⟩:∃x,Bp l (q+1)=x:=⟨_,rfl⟩;obtain⟨rm,d6⟩:∃x,Bi none N ov (q+1)=x:=⟨_,rfl⟩;rw[d4,d6]at hr;obtain⟨HR,f0,g5⟩:=Yc hr d4 d6;clear hr d4 d6;go_wp2_with fail;go_loopw[5] (λqq wr=>∃j:Nat,qq=.int .i64 j/\j<=l.length/\Yd (Bp (l.drop j) (q+1)=b6)/\Ext w2 wr) (λqq _=>l.length -(intOf qq).toNat)
 case atStart=>exact⟨0,rfl,aw _,f0,gz _⟩
 obtain⟨j,rfl,hj,HM,hn⟩:=hrel;obtain⟨p0,p1,p2,p3,p4,p5⟩:=(HB.o.ext hn).c6;have lp:=(HB.o.ext hn).lt;by_cases a6:j<l.length
 ·have g1:(j:Int)<(l.length:Int):=oM
  have g8:decide ((j:Int)<(l.length:Int))=true:=eO g1;obtain⟨d,hd⟩:∃d,l[j]? = some d:=⟨_,ac a6⟩;have a2:Ext w wr:=HX.o.trans hn;have a4:Agree (Lt w) w wr:=a2.agree λ_ h=>h
  obtain⟨b0,d5,d7⟩:=c8.o.eq oM;have a3:=c8.o.fits (show 0<l.length by omega);obtain⟨sa,sc⟩:=sl;dsimp only at b0 d5 d7;subst b0;obtain⟨v0,v1,v2,v3,v4,v5⟩:=(f6.o j d hd).agree a4 a3;have lb:bl<wr:=ab a3 a2.size;have b4:Calls prog 120 #[AS d (cl j).1 (cl j).2,.int .i64 ((q:Int)+1)] wr λe w'=>e=.returned (.int .i64 (Ai d (q+1)))/\Ext wr w':=by
   rw[show(q:Int)+1=((q+1:Nat):Int)by omega];exact HI.o d (f2.o j d hd) (by have:=JX hd;have:=d8.o;omega) wr _ _ (q+1) oM (((f8.o j d hd).agree a4).mono λi hi=>ab hi a2.size)
  have I:=UE (j:=q+1) hd;rw[HM.o]at I;have g2:IntKind.i64.wrap ((q:Int)+1)=(q:Int)+1:=by rw[eS];omega
  obtain⟨a7,Z,HN⟩:=Yc b4 I hn;clear hd a2 a4 b4 I hn;go_wp2_with fail;refine a7.o.mono ?_;rintro e w3 ⟨rfl,e1⟩;have e4:=hY (HN.o.trans e1);have I:=Z.o;clear e1 v0 v1 v2 v3 v4 v5 a7 Z HN p0 p1 p2 p3 p4 p5;generalize Ai d (q+1)=c at I;by_cases hc:c=0
  ·subst hc
   rw[eL oO]at I;have Z:=hY I.symm;clear I;go_wp2_with fail;go_roundw
   case rel=>exact⟨j+1,by go_num,a6,Z,e4.o⟩
   simp[intOf];omega
  rw[eN hc]at I;subst I;have g3:(b6 != 0)=true:=by simpa using hc
  obtain⟨HE,a0⟩:=Yb (show r=b6 by rw[<-HR.o,eN hc]) (HX.o.trans e4.o);clear hc;go_wp2_with fail;go_ret;exact⟨by rw[HE.o];rfl,a0.o⟩
 obtain rfl:j=l.length:=oM
 have g1:decide ((l.length:Int)<(l.length:Int))=false:=eM oM;have hz:b6=0:=by rw[<-HM.o,cT,Bp]
 obtain⟨HE,HN⟩:=Yb (show rm=r by rw[<-HR.o,eL (by simp[hz])]) hn;clear hn hz HM;go_wp2_with fail;clear p0 p1 p2 p3 p4 p5 lp;go_loopw[7,8] (λlv qq wr=>∃j:Nat,lv=.string (GO N j)/\qq=.int .i64 j/\j<=N.length/\Yd (Bi (prevK N j) (N.drop j) (ov.drop j) (q+1)=rm)/\Ext w2 wr) (λ_ qq _=>N.length -(intOf qq).toNat)
 case atStart=>exact⟨0,rfl,rfl,aw _,g5,HN.o⟩
 obtain⟨j,rfl,rfl,hj,HM,hn⟩:=hrel;obtain⟨p0,p1,p2,p3,p4,p5⟩:=(HB.o.ext hn).c6;have lp:=(HB.o.ext hn).lt;by_cases a6:j<N.length
 ·have g2:(j:Int)<(N.length:Int):=oM
  have g6:decide ((j:Int)<(N.length:Int))=true:=eO g2;obtain⟨kk,hk⟩:∃kk,N[j]? = some kk:=⟨_,ac a6⟩;obtain⟨d,hd⟩:∃d,ov[j]? = some d:=⟨_,ac (by rw[e0.o];exact a6)⟩;have a2:Ext w wr:=HX.o.trans hn;have a4:Agree (Lt w) w wr:=a2.agree λ_ h=>h
  obtain⟨b0,d5,d7⟩:=d0.o.eq oM;have a3:=d0.o.fits (show 0<N.length by omega);obtain⟨sa,sc⟩:=so;dsimp only at b0 d5 d7;subst b0;obtain⟨v0,v1,v2,v3,v4,v5⟩:=(f9.o j d hd).agree a4 a3;have lb:bo<wr:=ab a3 a2.size;have kc:wr.cell? ⟨bo,fo+j*7,none⟩=some (.string kk):=(a4.cell a3).trans (f4.o j kk hk).1;have b4:Calls prog 120 #[AS d (co j).1 (co j).2,.int .i64 ((q:Int)+1)] wr λe w'=>e=.returned (.int .i64 (Ai d (q+1)))/\Ext wr w':=by
   rw[show(q:Int)+1=((q+1:Nat):Int)by omega];exact HI.o d (f7.o j d hd) (by have:=Fy hd hk;have:=d8.o;omega) wr _ _ (q+1) oM (((f3.o j d hd).agree a4).mono λi hi=>ab hi a2.size)
  have f1:=λW=>IX W kk (by have:=Fy hd hk;have:=d8.o;omega)
  have I:=RX (p:=prevK N j) (Q:=q+1) hd hk;rw[HM.o]at I;have g3:IntKind.i64.wrap ((q:Int)+1)=(q:Int)+1:=by rw[eS];omega
  obtain⟨a7,Z,e7,HN,b5⟩:=Yf b4 I f1 hn hk;clear hd a2 a4 b4 I hn HM f1 hk;go_wp2_with fail;refine(e7.o _).mono ?_;rintro e w9 ⟨rfl,rfl⟩;have I:=Z.o;clear Z e7;cases hv:Lib.validD kk.data.toList with
  | false=>
    rw[hv,eN oN]at I;obtain⟨a1,a0⟩:=Yb (show r=3 by rw[<-HE.o];exact I) (HX.o.trans HN.o);clear I;go_wp2_with fail;go_ret;exact⟨by rw[a1.o];rfl,a0.o⟩
  | true=>
    rw[hv,eL oN]at I;by_cases b8:j=0
    ·subst b8
     rw[show prevK N 0=none from rfl,eE,eL oN]at I;have gg:decide ((0:Int)<((0:Nat):Int))=false:=oN
     have Z:=hY I;clear I;go_wp2_with fail;refine a7.o.mono ?_;rintro e w4 ⟨rfl,a9⟩;have a8:=hY (HN.o.trans a9);have I:=Z.o;clear a9 a7 Z v0 v1 v2 v3 v4 v5 kc p0 p1 p2 p3 p4 p5;generalize Ai d (q+1)=c at I;by_cases hc:c=0
     ·subst hc
      rw[eL oO]at I;have Z:=hY (show Bi (prevK N (0+1)) (N.drop (0+1)) (ov.drop (0+1)) (q+1)=rm by rw[show prevK N (0+1)=some kk from b5.o];exact I.symm);clear I;go_wp2_with fail;go_roundw
      case rel=>exact⟨0+1,by rw[show GO N (0+1)=kk by unfold GO;rw[show prevK N (0+1)=some kk from b5.o];rfl],by go_num,a6,Z,a8.o⟩
      simp[intOf];omega
     rw[eN hc]at I;have a1:=hY (show r=c by rw[<-HE.o];exact I);have g4:(c != 0)=true:=by simpa using hc
     have a0:=hY (HX.o.trans a8.o);clear hc I;go_wp2_with fail;go_ret;exact⟨by rw[a1.o];rfl,a0.o⟩
    obtain⟨i,rfl⟩:∃i,j=i+1:=⟨j-1,oM⟩;obtain⟨y,hy⟩:∃y,N[i]? = some y:=⟨_,ac oM⟩;rw[show prevK N (i+1)=some y from hy,dE]at I;rw[show GO N (i+1)=y by unfold GO;rw[show prevK N (i+1)=some y from hy];rfl];have gg:decide ((0:Int)<((i+1:Nat):Int))=true:=eO oM;have g7:(0:Int)<((i+1:Nat):Int):=oM
    cases a5:klt y kk with
    | false=>
      rw[a5,eN oN]at I;obtain⟨a1,a0⟩:=Yb (show r=8 by rw[<-HE.o];exact I) (HX.o.trans HN.o);cases e6:klt kk y with
      | true=>
        have a3:Op.bytesLess kk.toList y.toList=true:=e6;clear hy b8 I;go_wp2_with fail;go_ret;exact⟨by rw[a1.o];rfl,a0.o⟩
      | false=>
        obtain rfl:y=kk:=E6 a5 e6;have a3:Op.bytesLess y.toList y.toList=false:=a5;have f5:(y.toList==y.toList)=true:=oO
        clear hy b8 I;go_wp2_with fail;go_ret;exact⟨by rw[a1.o];rfl,a0.o⟩
    | true=>
      rw[a5,eL oN]at I;have a3:Op.bytesLess kk.toList y.toList=false:=Pk a5;have f5:(kk.toList==y.toList)=false:=Tk (λe=>by rw[e,BI]at a5;cases a5);have Z:=hY I;clear I hy b8;go_wp2_with fail;refine a7.o.mono ?_;rintro e w4 ⟨rfl,a9⟩;have a8:=hY (HN.o.trans a9);have I:=Z.o;clear a9 a7 Z v0 v1 v2 v3 v4 v5 kc p0 p1 p2 p3 p4 p5;generalize Ai d (q+1)=c at I;by_cases hc:c=0
      ·subst hc
       rw[eL oO]at I;have Z:=hY (show Bi (prevK N ((i+1)+1)) (N.drop ((i+1)+1)) (ov.drop ((i+1)+1)) (q+1)=rm by rw[show prevK N ((i+1)+1)=some kk from b5.o];exact I.symm);clear I;go_wp2_with fail;go_roundw
       case rel=>exact⟨(i+1)+1,by rw[show GO N ((i+1)+1)=kk by unfold GO;rw[show prevK N ((i+1)+1)=some kk from b5.o];rfl],by go_num,a6,Z,a8.o⟩
       simp[intOf];omega
      rw[eN hc]at I;have a1:=hY (show r=c by rw[<-HE.o];exact I);have g4:(c != 0)=true:=by simpa using hc
      have a0:=hY (HX.o.trans a8.o);clear hc I;go_wp2_with fail;go_ret;exact⟨by rw[a1.o];rfl,a0.o⟩
 obtain rfl:j=N.length:=oM
 have g2:decide ((N.length:Int)<(N.length:Int))=false:=eM oM;have hz:rm=0:=by rw[<-HM.o,<-e0.o,cT (l:=ov),Bi]
 obtain⟨a1,a0⟩:=Yb (show r=0 by rw[<-HE.o];exact hz) (HX.o.trans hn);clear hn hz;go_wp2_with fail;go_ret;exact⟨by rw[a1.o];rfl,a0.o⟩
variable{sl so:Sl}
def ZZ{v:Val}(h:RV w (Lt w) v sl so)(hc:Ah v<=1100000):Calls prog 92 #[AS v sl so] w λe w'=>e=.returned (Ai v 1)/\Ext w w':=by
 have I:=(gz w).alloc #[.int .i64 v.kind,.bool v.b,.int .i64 v.i,.string v.t,.slice sl.a v.l.length sl.c,.slice so.a v.ok.length so.c] 54;have ho:=nT _ v (ao _) hc (w.alloc (.cells #[v.kind,v.b,v.i,v.t,.slice sl.a v.l.length sl.c,.slice so.a v.ok.length so.c] 54)) sl so 1 oN ((h.agree (I.agree λ_ h=>h)).mono λi hi=>ab hi I.size);obtain⟨HO,N⟩:=Yb ho I;clear ho h I;go_in;go_wp2_with fail;refine HO.o.mono ?_;rintro e w1 ⟨rfl,Z⟩;have HX:=hY (N.o.trans Z);clear Z N HO;go_wp2_with fail;go_ret;exact⟨rfl,HX.o⟩
def pG{v d:Val}(h:(E7 v)[j]? = some d):SizeOf.sizeOf d<SizeOf.sizeOf v:=by
 obtain⟨k,b,i,t,l,I,N⟩:=v;unfold E7 at h;dsimp only at h;split at h
 .exact Val.Ev h
 split at h
 .exact Val.E0 h
 simp at h
def gT(v:Val)(w:AB)(e:AC)(w':AB):Prop:=
 ∃(s:Sl) (xs:List WV),e=.returned (.slice s.a xs.length s.c)/\xs.map WV.v=E7 v/\Rd w' (Lt w'.heap.size) 6 s xs.length (Ba xs)/\(∀x∈xs,RV w' (Lt w.heap.size) x.v x.sl x.so)/\Ext w w'
def Xe{v:Val}(h:RV w (Lt w) v sl so):Calls prog 121 #[AS v sl so] w (gT v w):=by
 obtain⟨k,b,i,t,l,N,ov⟩:=v;obtain⟨i0,hi,d4,e4,d6⟩:=eZ Tryz.Lq;show Calls _ _ #[.agg #[k,.bool b,i,t,.slice sl.a l.length sl.c,.slice so.a N.length so.c]] _ _;cases h with
 |mk bl fl bo fo cl co hl ho hov el rl ek eo ro bk bi bt nl no=>
 obtain⟨f8,g0,g3,i4,f5,b3,f2⟩:=Yh el rl eo ek ro hov hl;obtain⟨a9,d9,b4⟩:=Yc ho nl no;clear el rl ek eo ro hov hl ho nl no bk bi bt;go_in;by_cases h5:k=5
 ·subst h5
  have a3:=(gz w).alloc #[.int .i64 5,.bool b,.int .i64 i,.string t,.slice sl.a l.length sl.c,.slice so.a N.length so.c] 54;have b9:Rd w (Lt w) 6 sl (wl l cl).length (Ba (wl l cl)):=by
   refine MB (by rw[EO];exact f2.o) λj x hx=>?_
   obtain⟨e1,e2,e3⟩:=Gv hx;rw[e2,e3];exact f8.o j _ e1
  rw[EO]at b9;obtain⟨f9,b0⟩:=Yb ((b9.agree (a3.agree λ_ h=>h)).mono λi (hi:i<w)=>(show i<w.heap.size+1 by omega)) a3;have b5:0+l.length<=maxLen:=by have:=d9.o;unfold maxLen;omega
  have b7:(0+l.length)*88<=140737488355328:=by have:=d9.o;omega
  clear b9 a3;go_wp2_with(at_builtin;refine Bq _ rfl (.tmp 8) (.tmp 10) 51 rfl (w.heap.size+1) 54 i0 _ 6 88 underlying51 hi d4 e4 d6 rfl oN Sl.none 0 [] rfl (e9 _ _ _ _) (Lt (w.heap.size+1)) sl l.length (Ba (wl l cl)) rfl f9.o (PG _) b5 b7 (by rw[eQ];exact ao _) ?_;intro s' w3 I a4 b8;have a2:=(gB w 54 #[.int .i64 5,.bool b,.int .i64 i,.string t,.slice sl.a l.length sl.c,.slice so.a N.length so.c]).agree (a4.agree (F:=λb=>b=w.heap.size) (λi hi=>by rw[eQ];omega) (λk hk _=>by cases hk)) rfl;obtain⟨q0,q1,q2,q3,q4,q5⟩:=a2.c6;have lq:=a2.lt;have a1:=hY I;have a0:=hY a4;clear I a4 b8 a2);go_ret;have e8:Ext w w3:=b0.o.wr a0.o (λi hi=>by cases hi);have I:=a1.o;rw[aF,aG]at I;refine⟨s',wl l cl,by rw[EO];rfl,by rw[Mr];rfl,?_,λx hx=>?_,e8⟩
  ·rw [EO]
   exact(gF I).mono λi hi=>hi.2
  obtain⟨j,hj⟩:=bA hx;obtain⟨e1,e2,e3⟩:=Gv hj;rw[e2,e3];exact(g0.o j _ e1).agree (e8.agree λ_ h=>h)
 have g5:(k==5)=false:=by simpa using h5
 by_cases h6:k=6
 ·subst h6
  have a3:=(gz w).alloc #[.int .i64 6,.bool b,.int .i64 i,.string t,.slice sl.a l.length sl.c,.slice so.a N.length so.c] 54;have f3:=gB w 54 #[.int .i64 6,.bool b,.int .i64 i,.string t,.slice sl.a l.length sl.c,.slice so.a N.length so.c];obtain⟨b0,g4,i3⟩:=Yc a3 f3 (OW.nil (w.alloc (.cells #[.int .i64 6,.bool b,i,t,.slice sl.a l.length sl.c,.slice so.a N.length so.c] 54)) (w.heap.size+1) w.heap.size);have a8:(w.alloc (.cells #[.int .i64 6,.bool b,i,t,.slice sl.a l.length sl.c,.slice so.a N.length so.c] 54)).heap.size=w.heap.size+1:=eQ _ _;have d8:=hY a8;clear a3 f3 a8;go_wp2_with fail;go_loopw[3,4] (λou qq wr=>∃(j:Nat) (s:Sl) (xs:List WV),ou=.slice s.a xs.length s.c/\qq=.int .i64 j/\j<=N.length/\Yd (xs.map WV.v=ov.take j)/\Yd (OW wr (w.heap.size+1) w.heap.size s xs)/\Yd (AE wr w.heap.size 54 #[.int .i64 6,.bool b,.int .i64 i,.string t,.slice sl.a l.length sl.c,.slice so.a N.length so.c])/\Yd (Ext w wr/\w.heap.size+1<=wr.heap.size)) (λ_ qq _=>N.length -(intOf qq).toNat)
  case atStart=>exact⟨0,Sl.none,[],rfl,rfl,aw _,hY rfl,i3,g4,hY ⟨b0.o,Nat.le_of_eq d8.o.symm⟩⟩
  obtain⟨j,s,xs,rfl,rfl,hj,a7,HO,HB,HX⟩:=hrel;obtain⟨p0,p1,p2,p3,p4,p5⟩:=HB.o.c6;have lp:=HB.o.lt;by_cases d7:j<N.length
  ·have g1:(j:Int)<(N.length:Int):=oM
   have i7:decide ((j:Int)<(N.length:Int))=true:=eO g1;obtain⟨d,hd⟩:∃d,ov[j]? = some d:=⟨_,ac (by rw[b3.o];exact d7)⟩;have b6:Agree (Lt w) w wr:=HX.o.1.agree λ_ h=>h
   obtain⟨d3,f4,g8⟩:=a9.o.eq oM;have c7:=a9.o.fits (show 0<N.length by omega);obtain⟨sa,sc⟩:=so;dsimp only at d3 f4 g8;subst d3;obtain⟨v0,v1,v2,v3,v4,v5⟩:=(g3.o j d hd).agree b6 c7;have lb:bo<wr:=ab c7 HX.o.1.size;have d0:xs.length=j:=by rw[<-aq (f:=WV.v),a7.o,au,b3.o];omega
   have a6:Ext wr (wr.alloc (.cells #[.int .i64 d.kind,.bool d.b,.int .i64 d.i,.string d.t,.slice (co j).1.a d.l.length (co j).1.c,.slice (co j).2.a d.ok.length (co j).2.c] 54)):=(gz _).alloc _ _;have e7:RV wr (Lt w) d (co j).1 (co j).2:=(f5.o j d hd).agree b6;obtain⟨g7,e0,i1,d5,HD⟩:=Yf (e7.agree (a6.agree λb (hb:b<w)=>ab hb HX.o.1.size)) (HO.o.ext a6 HX.o.1.size) (gB wr 54 #[.int .i64 d.kind,.bool d.b,.int .i64 d.i,.string d.t,.slice (co j).1.a d.l.length (co j).1.c,.slice (co j).2.a d.ok.length (co j).2.c]) a6 hd;have i6:=b4.o;have b5:xs.length+1<=maxLen:=by have:=b4.o;unfold maxLen;omega
   have b7:(xs.length+1)*88<=140737488355328:=by have:=b4.o;omega
   have Z:w.heap.size+1<=(wr.alloc (.cells #[.int .i64 d.kind,.bool d.b,.int .i64 d.i,.string d.t,.slice (co j).1.a d.l.length (co j).1.c,.slice (co j).2.a d.ok.length (co j).2.c] 54)).heap.size:=by rw[eQ];have:=HX.o.2;omega
   have f0:=(⟨d,(co j).1,(co j).2⟩:WV).one;have i5:=hY d0;clear hd b6 a6 e7 d0 c7;go_wp2_with(at_builtin;refine Bq _ rfl (.tmp 22) (.tmp 29) 51 rfl (w.heap.size+1) 54 i0 _ 6 88 underlying51 hi d4 e4 d6 rfl oN s xs.length (Ba xs) rfl e0.o.own (λb=>b=wr.heap.size) ⟨some wr,1⟩ 1 (⟨d,(co j).1,(co j).2⟩:WV).cells rfl (gG i1.o oN rfl) f0 b5 b7 Z ?_;intro s' w3 I a4 b8;have a1:=hY I;have a0:=hY a4;clear I a4 b8);have a5:∀b,s.row=some b->w.heap.size+1<=b:=λb hb=>(AM HO.o.own hb).1
   have f1:OW w3 (w.heap.size+1) w.heap.size s' (xs++[⟨d,(co j).1,(co j).2⟩]):=OW.append (cN _) Z e0.o (λy hy=>by simp only[List.mem_singleton]at hy;subst hy;exact g7.o) (by rw[show Ba [(⟨d,(co j).1,(co j).2⟩:WV)]=(⟨d,(co j).1,(co j).2⟩:WV).cells by simp[Ba]];exact a1.o) a0.o;have a2:AE w3 w.heap.size 54 #[.int .i64 6,.bool b,.int .i64 i,.string t,.slice sl.a l.length sl.c,.slice (some ⟨bo,fo,none⟩) N.length sc]:=(HB.o.ext d5.o).agree (a0.o.agree (F:=λb=>b=w.heap.size) (λi hi=>by rw[eQ];omega) (λk hk e=>by have:=a5 k hk;omega)) rfl;have c9:Ext w w3:=(HX.o.1.trans d5.o).wr a0.o (λi hi=>by have:=a5 i hi;omega);have e6:w.heap.size+1<=w3.heap.size:=an Z a0.o.grown.size;obtain⟨f6,i2,g9⟩:=Yc f1 a2 (And.intro c9 e6);clear f1 a2 c9 e6 a5 a1 a0;go_roundw
   case rel=>exact⟨j+1,s',xs++[⟨d,(co j).1,(co j).2⟩],by rw[aj];rfl,by go_num,d7,hY (by rw[aB,a7.o,aK,HD.o];rfl),f6,i2,g9⟩
   simp[intOf];omega
  obtain rfl:j=N.length:=oM
  have g1:decide ((N.length:Int)<(N.length:Int))=false:=eM oM;have c8:xs.map WV.v=ov:=by rw[a7.o,<-b3.o,aR]
  have f7:=hY c8;clear c8 a7;go_wp2_with fail;go_ret;refine⟨s,xs,rfl,by rw[f7.o];rfl,(gF HO.o.own).mono λi hi=>hi.2,HO.o.vals,HX.o.1⟩
 have g6:(k==6)=false:=by simpa using h6
 go_wp2_with fail;go_ret;refine⟨Sl.none,[],rfl,?_,Rd.nil _ _ _,λx hx=>by simp at hx,(gz w).alloc _ _⟩;unfold E7;dsimp only;rw[eL h5,eL h6];rfl
def Xj(m:Nat):∀(d:Val),SizeOf.sizeOf d<=m->Bo d<=1000000->∀(w:AB) (sl so:Sl),RV w (Lt w) d sl so->
  Calls prog 93 #[AS d sl so] w λe w'=>e=.returned (.int .i64 (Bo d:Int))/\Ext w w':=by
 induction m with
 |zero=>intro d hd;have:=Val.CM d;omega
 |succ m ih=>
 intro d hd c7 w sl so h;have HI:=hY ih;clear ih;have a4:∀(j:Nat) (x:Val),(E7 d)[j]? = some x->SizeOf.sizeOf x<=m:=λj x hj=>bz (ab (pG hj) hd)
 have d4:=hY a4;rw[js]at c7 ⊢;have N:=(gz w).alloc #[.int .i64 d.kind,.bool d.b,.int .i64 d.i,.string d.t,.slice sl.a d.l.length sl.c,.slice so.a d.ok.length so.c] 54;have ho:=Xe ((h.agree (N.agree λ_ h=>h)).mono λi (hi:i<w)=>ab hi N.size);obtain⟨HO,a5⟩:=Yb ho N;clear ho h N hd a4;go_in;go_wp2_with fail;refine HO.o.mono ?_;rintro e w1 ⟨s,xs,rfl,a0,d5,d0,a2⟩;obtain⟨b,o,b4,c8⟩:=MI d5;have a8:xs.length=(E7 d).length:=by rw[<-a0,aq]
 have c9:∀(j:Nat) (x:WV),xs[j]? = some x->(E7 d)[j]? = some x.v:=λj x hj=>by rw[<-a0,ar,hj];rfl
 obtain⟨HX,e0,b6,a6,d8,b7⟩:=Yg (a5.o.trans a2) (λx hx=>(d0 x hx).mono λi (hi:i<_)=>ab hi a2.size) c9 b4 c8 a8;clear a0 d5 d0 a2 b4 c8 a8 c9 HO a5;obtain⟨W,hW⟩:∃W,E7 d=W:=⟨_,rfl⟩;rw[hW]at d4 b6 b7 c7;have HW:=hY hW;clear hW;go_wp2_with fail;go_loopw[3,5] (λdp qq wr=>∃j:Nat,dp=.int .i64 (BE (W.take j):Int)/\qq=.int .i64 j/\j<=xs.length/\Ext w1 wr) (λ_ qq _=>xs.length -(intOf qq).toNat)
 case atStart=>exact⟨0,rfl,rfl,aw _,gz _⟩
 obtain⟨j,rfl,rfl,hj,Z⟩:=hrel;by_cases a3:j<xs.length
 ·have g1:(j:Int)<(xs.length:Int):=oM
  have e3:decide ((j:Int)<(xs.length:Int))=true:=eO g1;obtain⟨x,hx⟩:∃x,xs[j]? = some x:=⟨_,ac a3⟩;have d9:Ext w wr:=HX.o.trans Z;have a1:Agree (Lt w1) w1 wr:=Z.agree λ_ h=>h
  obtain⟨a9,d7,b8⟩:=a6.o.eq oM;have d6:=a6.o.fits (show 0<xs.length by omega);obtain⟨sa,sc⟩:=s;dsimp only at a9 d7 b8;subst a9;obtain⟨v0,v1,v2,v3,v4,v5⟩:=(d8.o j x hx).agree a1 d6;have lb:b<wr:=ab d6 Z.size;have I:=b6.o j x hx;have e4:=J1 I;have c6:Calls prog 93 #[AS x.v x.sl x.so] wr λe w'=>e=.returned (.int .i64 (Bo x.v:Int))/\Ext wr w':=
   HI.o x.v (d4.o j x.v I) oM wr _ _ (((e0.o x (ap hx)).agree a1).mono λi (hi:i<w1)=>ab hi Z.size)
  have b3:=Lg I;have e1:BE (W.take j)<=1000000:=by have:=iH W j;omega
  have e2:xs.length<=9223372036854775807:=by unfold maxLen at b8;omega
  obtain⟨d3,b9,HN⟩:=Yc c6 b3 Z;clear hx d9 a1 c6 Z b3 I;go_wp2_with fail;refine d3.o.mono ?_;rintro e w3 ⟨rfl,a7⟩;have b5:=hY (HN.o.trans a7);clear a7 v0 v1 v2 v3 v4 v5 d3 HN;by_cases b0:BE (W.take j)<Bo x.v
  ·have g4:decide ((BE (W.take j):Int)<(Bo x.v:Int))=true:=eO oM
   go_wp2_with fail;go_roundw
   case rel=>exact⟨j+1,by rw[b9.o,Nat.max_eq_right (bY b0)],by go_num,a3,b5.o⟩
   simp[intOf];omega
  have g4:decide ((BE (W.take j):Int)<(Bo x.v:Int))=false:=eM oM;go_wp2_with fail;go_roundw
  case rel=>exact⟨j+1,by rw[b9.o,Nat.max_eq_left (Nat.le_of_not_lt b0)],by go_num,a3,b5.o⟩
  simp[intOf];omega
 obtain rfl:j=xs.length:=oM
 have g1:decide ((xs.length:Int)<(xs.length:Int))=false:=eM oM;rw[b7.o,aR];have g2:IntKind.i64.wrap ((BE W:Int)+1)=(BE W:Int)+1:=by rw[eS];omega
 obtain⟨HZ,HN⟩:=Yb (show((1+BE W:Nat):Int)=(BE W:Int)+1 by omega) (HX.o.trans Z);clear Z;go_wp2_with fail;go_ret;exact⟨by rw[HW.o,HZ.o];rfl,HN.o⟩
def Tryz.nu:(prog.info? 3).map (λi=>(i.zero,i.size,i.bytes))=some (some (.int .i64 0),1,8):=kM
def E3(s1 s2:Sl):Prop:=∀b,s1.row=some b->s2.row≠some b
variable{s1 s2:Sl}
def E3.comm(h:E3 s1 s2):E3 s2 s1:=λb I e=>h b e I
variable{W:AB}
def E3.grow{base e size n:Nat}{xs:List Value}(h:E3 s1 s2)(ho:w.ownsRow base e size (.slice s2.a n s2.c) n xs)(hW:w.heap.size<=W.heap.size)(hs:s'.a=s1.a\/s'.a=some ⟨W,0,none⟩):E3 s' s2:=by
 intro b I N;have Z:=(AM ho N).2;rcases hs with hs|hs
 .exact h b (by unfold Sl.row at I ⊢;rw[<-hs];exact I) N
 have:b=W.heap.size:=by unfold Sl.row at I;rw[hs]at I;simpa using I.symm
 omega
def Oh{base e size n:Nat}{xs:List Value}(h:E3 s1 s2)(I:w.ownsRow base e size (.slice s2.a n s2.c) n xs)(hw:Wr w w' s1.row):w'.ownsRow base e size (.slice s2.a n s2.c) n xs:=
 AZ I (hw.agree (F:=λb=>s2.row=some b) (λi hi=>(AM I hi).2) (λk Z e=>h k Z e)) λb N=>N
def GU(D:List (Nat × Nat)):List Value:=D.map λx=>.int .i64 (x.2:Int)
def If(D:List (Nat × Nat)):List Value:=D.map λx=>.int .i64 (x.1:Int)
def ia(s:AA)(w:AB)(e:AC)(w':AB):Prop:=
 ∃(s1:Sl) (v2:Value),e=.returned (.tuple #[.slice s1.a (CW s).length s1.c,v2])/\Rd w' (Lt w'.heap.size) 1 s1 (CW s).length (GU (CW s))/\Ext w w'
def qM(w:AB)(s:AA)(hs:s.size<=1000000000):Calls prog 151 #[s] w (ia s w):=by
 obtain⟨iN,nI,f5,d0,d8⟩:=eZ Tryz.nu;have c6:=λ(W:AB) (p:Nat)=>Uc W s p oM
 have g5:=hY c6;clear c6;go_in;go_wp2_with fail;go_loopw[4,5,6] (λv1 v2 v3 wr=>∃(p f:Nat) (s1 s2:Sl) (D:List (Nat × Nat)),v1=.slice s1.a D.length s1.c/\v2=.slice s2.a D.length s2.c/\v3=.int .i64 (p:Int)/\p<=s.size/\D.length<=p/\Yd (D++Ca s f p=CW s/\s.size<=p+f)/\Yd (wr.ownsRow w.heap.size 3 1 (.slice s1.a D.length s1.c) D.length (GU D))/\Yd (wr.ownsRow w.heap.size 3 1 (.slice s2.a D.length s2.c) D.length (If D))/\Yd (E3 s1 s2)/\Yd (Ext w wr)) (λ_ _ v _=>s.size -(intOf v).toNat)
 case atStart=>exact⟨0,s.size,Sl.none,Sl.none,[],rfl,rfl,rfl,aw _,aw _,hY ⟨rfl,oM⟩,hY (e9 _ _ _ _),hY (e9 _ _ _ _),hY (λb Z=>by cases Z),hY (gz _)⟩
 obtain⟨p,f,s1,s2,D,rfl,rfl,rfl,hp,i0,HD,a0,b6,HA,HX⟩:=hrel;by_cases e6:p<s.size
 ·have e1:decide ((p:Int)<(s.size:Int))=true:=eO oM
  obtain⟨a5,a7,hr⟩:=Jt e6;have a1:=T7 s p;go_wp2_with fail;refine(g5.o _ p).mono ?_;rintro e w2 ⟨rfl,f8⟩;obtain rfl:=f8.symm;obtain⟨r,z,hd⟩:∃r z,Utf8.decode s p=(r,z):=⟨_,_,rfl⟩;by_cases Z:Utf8.decode s p=(65533,1)
  ·rw [eN (.inr Z)] at a1
   rw[a1];have I:=HD.o.1;rw[Ox Z,aY]at I;have HF:=hY I;clear a1 Z hd a5 a7 hr I;go_wp2_with fail;go_ret2;refine⟨s1,_,by rw[<-HF.o];rfl,?_,HX.o⟩;rw[<-HF.o];exact(gF a0.o).mono λi hi=>hi.2
  rw[eL (λh=>h.elim (λh=>absurd h oM) Z)]at a1;rw[a1];have N:=M9 e6 HD.o.2 Z;rw[hd]at a5 a7 N ⊢;dsimp only at a5 a7 N ⊢;have I:=HD.o.1;rw[N]at I;have HF:=hY (show(D++[(p,r)])++Ca s (f-1) (p+z)=CW s by rw[aU];exact I);have e2:((z:Int)==0)=false:=eP.2 oM;have e3:IntKind.i64.wrap ((p:Int)+(z:Int))=(p:Int)+(z:Int):=by rw[eS];omega
  obtain⟨g7,d4⟩:=Yb HD.o.2 a5;have b0:Ext wr (wr.alloc (.cells #[.int .i64 (r:Int)] 3)):=(gz _).alloc _ _;have f0:=hY (gB wr 3 #[.int .i64 (r:Int)]);have c7:=AZ a0.o (b0.agree λb (h:b<wr)=>h) λb Z=>(AM a0.o Z).2
  have d9:=AZ b6.o (b0.agree λb (h:b<wr)=>h) λb Z=>(AM b6.o Z).2
  obtain⟨e8,b5,e0⟩:=Yc c7 d9 (HX.o.trans b0);have c9:D.length+1<=maxLen:=by unfold maxLen;omega
  have e4:(D.length+1)*8<=140737488355328:=oM
  have f6:=HX.o.size;have a3:w.heap.size<=(wr.alloc (.cells #[.int .i64 (r:Int)] 3)).heap.size:=by rw[eQ];omega
  clear a1 Z hd hr a5 N I c7 d9 b0;go_upto_region 7 with(at_builtin;refine Bq _ rfl (.tmp 21) (.tmp 23) 29 rfl w.heap.size 3 iN _ 1 8 underlying29 nI f5 d0 d8 rfl oN s1 D.length (GU D) rfl e8.o (λb=>b=wr.heap.size) ⟨some wr,1⟩ 1 [.int .i64 (r:Int)] rfl (gG f0.o oN rfl) (by simp[Value.oneCell']) c9 e4 a3 ?_;intro b7 w6 a4 b3 d3;have f1:=hY a4;have a6:=hY b3;have f4:=hY d3;clear a4 b3 d3);have f7:=a6.o.grown.size;have d7:E3 b7 s2:=HA.o.grow b5.o (ao _) (f4.o.imp id And.left);have b8:=Oh HA.o b5.o a6.o;have d5:Ext w w6:=e0.o.wr a6.o λi hi=>(AM a0.o hi).1
  have a8:Ext w6 (w6.alloc (.cells #[.int .i64 (p:Int)] 3)):=(gz _).alloc _ _;obtain⟨g4,f3,b9,g3,c8⟩:=Yf (gB w6 3 #[.int .i64 (p:Int)]) (AZ f1.o (a8.agree λb (h:b<w6)=>h) λb Z=>(AM f1.o Z).2) (AZ b8 (a8.agree λb (h:b<w6)=>h) λb Z=>(AM b8 Z).2) (d5.trans a8) d7;have a9:w.heap.size<=(w6.alloc (.cells #[.int .i64 (p:Int)] 3)).heap.size:=by rw[eQ];omega
  clear d7 b8 d5 a8 e8 b5 a6 f4 f0 a0 b6 e0 HX f6 f7 a3;go_wp2_with(at_builtin;refine Bq _ rfl (.tmp 25) (.tmp 27) 29 rfl w.heap.size 3 iN _ 1 8 underlying29 nI f5 d0 d8 rfl oN s2 D.length (If D) rfl b9.o (λb=>b=w6.heap.size) ⟨some w6,1⟩ 1 [.int .i64 (p:Int)] rfl (gG g4.o oN rfl) (by simp[Value.oneCell']) c9 e4 a9 ?_;intro e7 w9 a2 b4 f2;have g9:=hY a2;have d6:=hY b4;have g6:=hY f2;clear a2 b4 f2);go_roundw
  case rel=>
   have g8:E3 e7 b7:=c8.o.comm.grow f3.o (ao _) (g6.o.imp id And.left);have f9:=Oh c8.o.comm f3.o d6.o;have g0:Ext w w9:=g3.o.wr d6.o λi hi=>(AM b9.o hi).1
   have hz:=d4.o;refine⟨p+z,f-1,b7,e7,D++[(p,r)],by rw[aj];rfl,by rw[aj];rfl,by go_num,a7,?_,hY ⟨HF.o,by have:=g7.o;omega⟩,hY ?_,hY ?_,hY g8.comm,hY g0⟩
   .rw [aj];show D.length+1<=_;omega
   .rw [aj,show GU (D++[(p,r)])=GU D++[.int .i64 (r:Int)]by simp[GU]];exact f9
   rw[aj,show If (D++[(p,r)])=If D++[.int .i64 (p:Int)]by simp[If]];exact g9.o
  have:=d4.o;simp[intOf];omega
 obtain rfl:p=s.size:=oM
 have e1:decide ((s.size:Int)<(s.size:Int))=false:=eM oM;have I:=HD.o.1;rw[U6 (ao _),aY]at I;have HF:=hY I;clear I;go_wp2_with fail;go_ret2;refine⟨s1,_,by rw[<-HF.o];rfl,?_,HX.o⟩;rw[<-HF.o];exact(gF a0.o).mono λi hi=>hi.2
def GV:Nat->Nat
 |0=>34
 |1=>92
 |2=>47
 |3=>8
 |4=>12
 |5=>10
 |6=>13
 |_=>9
def Zq(w:AB)(k:Nat)(N:k<8):Calls prog 152 #[.int .i64 (k:Int)] w λe w'=>e=.returned (.int .i64 (GV k:Int))/\Ext w w':=by
 have I:k=0\/k=1\/k=2\/k=3\/k=4\/k=5\/k=6\/k=7:=oM
 clear N;rcases I with rfl|rfl|rfl|rfl|rfl|rfl|rfl|rfl
 all_goals
  go_in;go_wp2_with fail;go_ret;exact⟨rfl,(gz w).alloc _ _⟩
def Dv(r:Nat):Nat:=if r<128 then 1 else if r<2048 then 2 else if r<65536 then 3 else 4
def Xf(h:r<=1114111):(Lib.encodeRune (r:Int)).length=Dv r:=by
 unfold Lib.encodeRune Dv;rw[aq];unfold Lib.encodeRuneZ;by_cases h1:r<128
 .rw [eN oM,eN h1];rfl
 rw[eL oM,eL h1];by_cases h2:r<2048
 .rw [eN oM,eN h2];rfl
 rw[eL oM,eL h2];by_cases I:r<65536
 ·rw [eN I]
  by_cases N:((2048:Int)<=(r:Int)/\(r:Int)<55296)\/((57343:Int)<(r:Int)/\(r:Int)<=65535)
  .rw [eN N];rfl
  rw[eL N,eL oM];rfl
 rw[eL oM,eN oM,eL I];rfl
def TR(q:List UInt8)(W:AB)(b:Nat)(cs:Array Value)(t:TypeId)(I:AE W b t cs)(h:cs.toList=q.map λx=>Value.int .u8 (x.toNat:Int)):(convert 235 9 (.slice (some b) q.length q.length)).run prog W=.ok (.string ⟨q.toArray⟩) W:=
 run_convert_bytes_back (P:=prog) W 235 9 5 b q.length q underlying235 underlying5 underlying9 (λj N=>by
  rw[Cb,aF,I.cell,<-bW,h,ar,ac N];rfl)
variable{n:Nat}
def R4(h:n<256):((UInt8.ofNat n).toNat:Int)=(n:Int):=by
 rw[UInt8.toNat_ofNat',Nat.mod_eq_of_lt oM]
def N9(xs:List Int)(W:AB)(b:Nat)(t:TypeId)(I:AE W b t (xs.map (Value.int .u8)).toArray)(h:∀x∈xs,0<=x/\x<256):∃q:AA,q.size=xs.length/\(convert 235 9 (.slice (some b) xs.length xs.length)).run prog W=.ok (.string q) W:=by
 refine⟨⟨(xs.map λx=>UInt8.ofNat x.toNat).toArray⟩,by simp[ByteArray.size],?_⟩;have:=TR (xs.map λx=>UInt8.ofNat x.toNat) W b _ t I (by
  rw[ct];show xs.map (Value.int .u8)=_;apply List.map_congr_left;intro x N;have:=h x N;show Value.int .u8 x=Value.int .u8 (((UInt8.ofNat x.toNat).toNat:Nat):Int);rw[R4 oM];congr 1;omega)
 rwa[aq]at this
def j'(w:AB)(r:Nat)(hr:r<=1114111):Calls prog 153 #[.int .i64 (r:Int)] w λe w'=>∃t:AA,e=.returned t/\t.size=Dv r/\Ext w w':=by
 go_in;by_cases h1:r<128
 ·have e1:decide ((r:Int)<128)=true:=eO oM
  have e2:IntKind.u8.wrap (r:Int)=(r:Int):=by rw[IntKind.wrap_u8];omega
  have Z:(convert 235 9 (.slice (some w) 1 1)).run prog (w.alloc (.cells #[.int .u8 (r:Int)] 5))=.ok (.string ⟨#[UInt8.ofNat r]⟩) (w.alloc (.cells #[.int .u8 (r:Int)] 5)):=
   TR [UInt8.ofNat r] _ _ _ _ (gB w 5 #[.int .u8 (r:Int)]) (by rw[aW,R4 oM];rfl)
  have HL:=hY (show 1=Dv r by unfold Dv;rw[eN h1]);clear h1 hr;go_wp2_with fail;go_ret;exact⟨_,rfl,HL.o,(gz w).alloc _ _⟩
 have f1:decide ((r:Int)<128)=false:=eM oM;by_cases h2:r<2048
 ·have e1:decide ((r:Int)<2048)=true:=eO oM
  obtain⟨q,I,Z⟩:∃q:AA,q.size=2/\(convert 235 9 (.slice (some w) 2 2)).run prog (w.alloc (.cells #[.int .u8 (192+(r:Int)/64),.int .u8 (128+(r:Int)%64)] 5))=.ok (.string q) (w.alloc (.cells #[.int .u8 (192+(r:Int)/64),.int .u8 (128+(r:Int)%64)] 5)):=
   N9 [192+(r:Int)/64,128+(r:Int)%64] _ _ _ (gB w 5 #[.int .u8 (192+(r:Int)/64),.int .u8 (128+(r:Int)%64)]) (by intro x N;simp only[List.mem_cons,List.not_mem_nil,or_false]at N;rcases N with rfl|rfl<;>omega)
  have HL:=hY (show q.size=Dv r by unfold Dv;rw[I];rw[eL h1,eN h2]);clear I;go_wp2_with fail;go_ret;exact⟨_,rfl,HL.o,(gz w).alloc _ _⟩
 have f2:decide ((r:Int)<2048)=false:=eM oM;by_cases h3:r<65536
 ·have e1:decide ((r:Int)<65536)=true:=eO oM
  obtain⟨q,I,Z⟩:∃q:AA,q.size=3/\(convert 235 9 (.slice (some w) 3 3)).run prog (w.alloc (.cells #[.int .u8 (224+(r:Int)/4096),.int .u8 (128+(r:Int)/64%64),.int .u8 (128+(r:Int)%64)] 5))=.ok (.string q) (w.alloc (.cells #[.int .u8 (224+(r:Int)/4096),.int .u8 (128+(r:Int)/64%64),.int .u8 (128+(r:Int)%64)] 5)):=
   N9 [224+(r:Int)/4096,128+(r:Int)/64%64,128+(r:Int)%64] _ _ _ (gB w 5 #[.int .u8 (224+(r:Int)/4096),.int .u8 (128+(r:Int)/64%64),.int .u8 (128+(r:Int)%64)]) (by intro x N;simp only[List.mem_cons,List.not_mem_nil,or_false]at N;rcases N with rfl|rfl|rfl<;>omega)
  have HL:=hY (show q.size=Dv r by unfold Dv;rw[I];rw[eL h1,eL h2,eN h3]);clear I;go_wp2_with fail;go_ret;exact⟨_,rfl,HL.o,(gz w).alloc _ _⟩
 have e1:decide ((r:Int)<65536)=false:=eM oM;obtain⟨q,I,Z⟩:∃q:AA,q.size=4/\(convert 235 9 (.slice (some w) 4 4)).run prog (w.alloc (.cells #[.int .u8 (240+(r:Int)/262144),.int .u8 (128+(r:Int)/4096%64),.int .u8 (128+(r:Int)/64%64),.int .u8 (128+(r:Int)%64)] 5))=.ok (.string q) (w.alloc (.cells #[.int .u8 (240+(r:Int)/262144),.int .u8 (128+(r:Int)/4096%64),.int .u8 (128+(r:Int)/64%64),.int .u8 (128+(r:Int)%64)] 5)):=
  N9 [240+(r:Int)/262144,128+(r:Int)/4096%64,128+(r:Int)/64%64,128+(r:Int)%64] _ _ _ (gB w 5 #[.int .u8 (240+(r:Int)/262144),.int .u8 (128+(r:Int)/4096%64),.int .u8 (128+(r:Int)/64%64),.int .u8 (128+(r:Int)%64)]) (by intro x N;simp only[List.mem_cons,List.not_mem_nil,or_false]at N;rcases N with rfl|rfl|rfl|rfl<;>omega)
 have HL:=hY (show q.size=Dv r by unfold Dv;rw[I];rw[eL h1,eL h2,eL h3]);clear I;go_wp2_with fail;go_ret;exact⟨_,rfl,HL.o,(gz w).alloc _ _⟩
def gN{r k:Nat}(N:k<8)(h2:k≠2)(h:GV k=r):(DL r).length=2:=by
 have I:k=0\/k=1\/k=3\/k=4\/k=5\/k=6\/k=7:=oM
 subst h;rcases I with rfl|rfl|rfl|rfl|rfl|rfl|rfl<;>rfl
def Wq(h:∀i,i<8->i=2\/GV i≠r)(hr:r<=1114111):(DL r).length=if r<32 then 6 else Dv r:=by
 have N:34≠r:=(h 0 oN).resolve_left oN;have h1:92≠r:=(h 1 oN).resolve_left oN;have h3:8≠r:=(h 3 oN).resolve_left oN;have Z:12≠r:=(h 4 oN).resolve_left oN;have h5:10≠r:=(h 5 oN).resolve_left oN;have I:13≠r:=(h 6 oN).resolve_left oN;have h7:9≠r:=(h 7 oN).resolve_left oN;unfold DL EA;by_cases hs:r<32
 ·rw [eN hs,eL (by simp;omega)]
  unfold DR;rw[eL (Ne.symm N),eL (Ne.symm h1),eL (Ne.symm h3),eL (Ne.symm h7),eL (Ne.symm h5),eL (Ne.symm Z),eL (Ne.symm I)];rfl
 rw[eL hs,eN (by simp;omega),Xf hr]
def Nu(r k:Nat):Prop:=∀i,i<k->i=2\/GV i≠r
def Tx(w:AB)(s:AA)(hs:s.size<=100000000)(hv:Lib.validD s.data.toList=true):Calls prog 123 #[.string s] w λe w'=>∃t:AA,e=.returned (.tuple #[t,.int .i64 0])/\t.size=(C4 s).length/\Ext w w':=by
 have N:=IX w s oM;rw[hv]at N;have a4:=qM w s oM;obtain⟨a2,a5⟩:=Yb N a4;clear N a4 hv;go_in;go_wp2_with fail;refine a2.o.mono ?_;rintro e w1 ⟨rfl,hw⟩;obtain rfl:=hw.symm;go_wp2_with fail;refine a5.o.mono ?_;rintro e w1 ⟨s1,v2,rfl,d4,c8⟩;have a8:∀x∈CW s,x.2<=1114111:=λx hx=>(OL hx).1
 have c7:(CW s).length<=s.size:=an (I7 s s.size 0) (Nat.sub_le _ _);obtain⟨Q,hQ⟩:∃Q,(C4 s).length=Q:=⟨_,rfl⟩;have a9:Q=(CG (CW s)).length+2:=by rw[<-hQ];unfold C4;simp
 have HQ:=hY hQ;generalize CW s=D at a8 c7 a9 d4;obtain⟨b,o,c9,d7,d3⟩:=d4;obtain⟨b5,d8,e2,d6,e4⟩:=Yf c9 d3 a8 c8 a9;clear hQ a9 a8 c9 d7 d3 c8 a2 a5;go_wp2_with fail;go_loopw[4,8] (λou qq wr=>∃(j:Nat) (t:AA),ou=.string t/\qq=.int .i64 (j:Int)/\j<=D.length/\Yd (t.size=1+(CG (D.take j)).length)/\Yd (Ext w1 wr)) (λ_ qq _=>D.length -(intOf qq).toNat)
 case atStart=>exact⟨0,_,rfl,rfl,aw _,hY rfl,hY (gz _)⟩
 obtain⟨j,t,rfl,rfl,hj,HT,HX⟩:=hrel;by_cases a1:j<D.length
 ·have e1:decide ((j:Int)<(D.length:Int))=true:=eO oM
  have e7:(j:Int)<(D.length:Int):=oM
  obtain⟨x,hx⟩:∃x,D[j]? = some x:=⟨_,ac a1⟩;obtain⟨p,r⟩:=x;have e3:t.size<=1000000000:=by
   have h1:=Gu (D.take j);rw[HT.o];rw[au]at h1;omega
  have hr:r<=1114111:=e2.o _ (ap hx);obtain⟨c6,d5,e0⟩:=b5.o.eq oM;have b4:=b5.o.fits (show 0<D.length by omega);obtain⟨sa,sc⟩:=s1;dsimp only at c6 d5 e0;subst c6;have c0:wr.cell? ⟨b,o+j,none⟩=some (.int .i64 (r:Int)):=(HX.o.agree λb (h:Lt w1.heap.size b)=>h).cell b4 |>.trans (d8.o j _ (by unfold GU;rw[ar,hx];rfl))
  have lb:b<wr:=ab b4 HX.o.size;have b0:=hY hx;clear hx;go_wp2_with fail;have a7:=hY (λ(W:AB) (k:Nat) (hk:k<8)=>Zq W k hk);clear c0 lb b4;go_loopw[10] (λkk wr=>∃k:Nat,kk=.int .i64 (k:Int)/\k<=8/\Yd (Nu r k)/\Yd (Ext w1 wr)) (λkk _=>8 -(intOf kk).toNat)
  case atStart=>exact⟨0,rfl,aw _,hY (λi hi=>absurd hi (eD _)),HX⟩
  clear HX;obtain⟨k,rfl,hk,HM,HX⟩:=hrel;by_cases a6:k<8
  ·have f1:decide ((k:Int)<8)=true:=eO oM
   by_cases b6:k=2
   ·subst b6
    have b3:=hY (show Nu r (2+1) fromλi hi=>by by_cases h:i<2;exact HM.o i h;exact .inl oM);go_wp2_with fail;go_roundw
    case rel=>exact⟨2+1,by go_num,oN,b3,HX⟩
    simp[intOf]
   have f2:((k:Int)==2)=false:=eP.2 oM;go_wp2_with fail;refine(a7.o _ k a6).mono ?_;rintro e w2 ⟨rfl,I⟩;have a0:=hY (HX.o.trans I);clear I;by_cases hc:GV k=r
   ·have b8:=hY (gN a6 b6 hc)
    have f3:((GV k:Int) !=(r:Int))=false:=by rw[hc];simp
    have s1:¬9223372036854775807<t.size+1:=oM
    have s2:¬9223372036854775807<t.size+1+(min (k+1) 8-k):=oM
    clear hc;go_wp2_with fail;go_roundw
    case rel=>
     refine⟨j+1,_,rfl,by go_num,a1,hY ?_,a0⟩;rw[aK,b0.o,em,IB,aj,b8.o,aP,aP,cd,HT.o];show _+1+(min (k+1) 8-k)=_;omega
    simp[intOf];omega
   have f3:((GV k:Int) !=(r:Int))=true:=by simp;omega
   have b3:=hY (show Nu r (k+1) fromλi hi=>by by_cases h:i<k;exact HM.o i h;exact .inr (by rw[show i=k by omega];exact hc));clear hc;go_wp2_with fail;go_roundw
   case rel=>exact⟨k+1,by go_num,a6,b3,a0⟩
   simp[intOf];omega
  obtain rfl:k=8:=oM
  have Z:=hY (Wq HM.o hr);by_cases a3:r<32
  ·have f3:decide ((r:Int)<32)=true:=eO oM
   have s1:¬9223372036854775807<t.size+4:=oM
   go_wp2_with fail;go_quiet (fail);go_wp2_with fail;go_roundw
   case rel=>
    refine⟨j+1,_,rfl,by go_num,a1,hY ?_,hY (HX.o.trans ((gz wr).drewN _))⟩;rw[aK,b0.o,em,IB,aj,Z.o,eN a3,aP,aP,aP,cd,cd,HT.o];show _+4+(min (r/16+1) 16-r/16)+(min (r%16+1) 16-r%16)=_;omega
   simp[intOf];omega
  have f3:decide ((r:Int)<32)=false:=eM oM;have b9:=j' wr r hr;have e6:Dv r<=4:=by unfold Dv;split;decide;split;decide;split<;>decide
  have b7:=hY b9;clear b9;go_wp2_with fail;refine b7.o.mono ?_;rintro e w2 ⟨q,rfl,hq,I⟩;have s1:¬9223372036854775807<t.size+q.size:=oM
  obtain⟨d9,a0⟩:=Yb hq (HX.o.trans I);clear I hq b7;go_wp2_with fail;go_roundw
  case rel=>
   refine⟨j+1,_,rfl,by go_num,a1,hY ?_,a0⟩;rw[aK,b0.o,em,IB,aj,Z.o,eL a3,aP,HT.o,d9.o];omega
  simp[intOf];omega
 obtain rfl:j=D.length:=oM
 have e1:decide ((D.length:Int)<(D.length:Int))=false:=eM oM;have e3:t.size<=1000000000:=by
  have h1:=Gu (D.take D.length);rw[HT.o];rw[au]at h1;omega
 have s1:¬9223372036854775807<t.size+1:=oM
 have hT:=HT.o;rw[aR]at hT;have d0:=hY (show t.size+1=(C4 s).length by rw[HQ.o,e4.o,hT];omega);clear hT;go_wp2_with fail;go_ret2;exact⟨_,rfl,by rw[aP];exact d0.o,d6.o.trans HX.o⟩
def nd(u:Nat):Nat:=if u=0 then 0 else Lib.nDigits u
def Rr{u:Nat}(h:u≠0):nd u=nd (u/10)+1:=by
 unfold nd;rw[eL h];by_cases h1:u<10
 .rw [Lib.nDigits_small h1,eN oM]
 rw[Lib.nDigits_big h1,eL oM]
def lV(w:AB)(n:Int)(h0 : -9223372036854775808<=n)(h1:n<=9223372036854775807):Calls prog 122 #[n] w λe w'=>∃t:AA,e=.returned t/\t.size=(Lib.itoa n).length/\Ext w w':=by
 by_cases hz:n=0
 ·subst hz
  go_in;go_wp2_with fail;go_ret;refine⟨_,rfl,?_,gz _⟩;rw[show Lib.itoa 0=Lib.decDigits 0 from rfl,Lib.decDigits_length,Lib.nDigits_small oN];rfl
 have a3:(n==0)=false:=by simpa using hz
 go_in;go_wp2_with fail;have a2:nd n.natAbs<=20:=by unfold nd;rw[eL oM];exact Lib.nDigits_le20 _ oM
 have a0:(Lib.itoa n).length=if n<0 then 1+nd n.natAbs else nd n.natAbs:=by
  rw[show nd n.natAbs=Lib.nDigits n.natAbs by unfold nd;rw[eL oM]];unfold Lib.itoa;by_cases I:n<0
  .rw [eN I,eN I,aC,Lib.decDigits_length];omega
  rw[eL I,eL I,Lib.decDigits_length,show n.toNat=n.natAbs by omega]
 have a1:=hY a0;clear a0;go_loopw[3,4] (λsv mv wr=>∃(t:AA) (m:Int),sv=.string t/\mv=.int .i64 m/\-9223372036854775808<=m/\m<=9223372036854775807/\Yd (t.size+nd m.natAbs=nd n.natAbs)/\Yd (Ext w wr)) (λ_ mv _=>(intOf mv).natAbs)
 case atStart=>exact⟨_,n,rfl,rfl,h0,h1,hY (aF _),hY (gz _)⟩
 obtain⟨t,m,rfl,rfl,a4,a5,HT,HX⟩:=hrel;have a6:t.size<=20:=by have:=HT.o;omega
 by_cases hm:m=0
 ·subst hm
  have N:t.size=nd n.natAbs:=HT.o;by_cases I:n<0
  ·have g1:decide (n<0)=true:=eO I
   have s1:¬9223372036854775807<1+t.size:=oM
   have HS:=hY (show 1+t.size=(Lib.itoa n).length by rw[a1.o,eN I,N]);clear N;go_wp2_with fail;go_ret;exact⟨_,rfl,by rw[aP];exact HS.o,HX.o⟩
  have g1:decide (n<0)=false:=eM I;have HS:=hY (show t.size=(Lib.itoa n).length by rw[a1.o,eL I,N]);clear N;go_wp2_with fail;go_ret;exact⟨_,rfl,HS.o,HX.o⟩
 by_cases I:m<0
 ·obtain ⟨u,rfl⟩:∃ u:Nat,m = -(u:Int):=⟨m.natAbs,oM⟩
  have g0:(-(u:Int) != 0)=true:=by simpa using hm
  have N:t.size+nd u=nd n.natAbs:=by have:=HT.o;rwa[show(-(u:Int)).natAbs=u by omega]at this
  rw[Rr oM]at N;have Z:=hY (show 1+t.size+nd (-((u:Int)/10)).natAbs=nd n.natAbs by rw[show(-((u:Int)/10)).natAbs=u/10 by omega];omega);have s1:¬9223372036854775807<min (u%10+1) 10-u%10+t.size:=oM
  have s2:¬9223372036854775807<1+t.size:=oM
  by_cases hq:u%10=0
  ·have g1:((u:Int) % 10)=0:=oM
   clear N;go_wp2_with fail;go_roundw
   case rel=>
    refine⟨_,_,rfl,rfl,oM,oM,hY ?_,HX⟩;rw[aP];exact Z.o
   simp[intOf];omega
  have g1:decide ((0:Int)<(u:Int)%10)=true:=eO oM;clear N;go_wp2_with fail;go_roundw
  case rel=>
   refine⟨_,_,rfl,rfl,oM,oM,hY ?_,HX⟩;rw[aP,cd];show min (u%10+1) 10-u%10+t.size+_=_;have:=Z.o;omega
  simp[intOf];omega
 obtain⟨u,rfl⟩:∃u:Nat,m=(u:Int):=⟨m.toNat,oM⟩;have g0:((u:Int) != 0)=true:=by simpa using hm
 have N:t.size+nd u=nd n.natAbs:=HT.o;rw[Rr oM]at N;have Z:=hY (show 1+t.size+nd ((u:Int)/10).natAbs=nd n.natAbs by rw[show((u:Int)/10).natAbs=u/10 by omega];omega);have s1:¬9223372036854775807<min (u%10+1) 10-u%10+t.size:=oM
 clear N;go_wp2_with fail;go_roundw
 case rel=>
  refine⟨_,_,rfl,rfl,oM,oM,hY ?_,HX⟩;rw[aP,cd];show min (u%10+1) 10-u%10+t.size+_=_;have:=Z.o;omega
 simp[intOf];omega
def Sj:∀{l:List Val} {q j:Nat} {d:Val},Bp l q=0->l[j]? = some d->Ai d q=0
 |[],q,j,d,_,h=>by simp at h
 | x :: r,q,j,d,h0,h=>by
   rw[Bp]at h0;by_cases I:Ai x q=0
   ·rw [eL (by simp [I])] at h0
    cases j with
    |zero=>simp at h;subst h;exact I
    |succ j=>exact Sj h0 (by simpa using h)
   rw[eN I]at h0;exact absurd h0 I
def Je:∀{p:Option AA} {ks:List AA} {l:List Val} {q j:Nat} {d:Val} {k:AA},Bi p ks l q=0->l[j]? = some d->ks[j]? = some k->Lib.validD k.data.toList=true/\Ai d q=0
 |p,ks,[],q,j,d,k,_,h,_=>by simp at h
 |p,[],x::r,q,j,d,k,_,_,hk=>by simp at hk
 | p,y :: ks,x :: r,q,j,d,k,I,h,hk=>by
   rw[Bi,di,cu]at I;cases Z:Lib.validD y.data.toList with
   |false=>rw[Z,eN oN]at I;cases I
   |true=>
   rw[Z,eL oN]at I;split at I
   .cases I
   by_cases N:Ai x q=0
   ·rw [eL (by simp [N])] at I
    cases j with
    |zero=>simp at h hk;subst h hk;exact⟨Z,N⟩
    |succ j=>exact Je I (by simpa using h) (by simpa using hk)
   rw[eN N]at I;exact absurd I N
variable{q:Nat}
def oT{k:Int}{b:Bool}{i:Int}{t:AA}{l:List Val}{ok:List AA}{ov:List Val}(I:ov.length=ok.length)(h:Ai (.mk k b i t l ok ov) q=0) :
  (1<=k/\k<=6)/\Lib.validD t.data.toList=true/\Bp l (q+1)=0/\Bi none ok ov (q+1)=0:=by
 rw[TB _ _ _ _ _ _ _ _ I]at h;split at h
 .cases h
 rename_i ho;split at h
 .cases h
 split at h
 .cases h
 rename_i hv;split at h
 .rename_i h1;exact absurd h h1
 rename_i h1;refine⟨?_,by simpa using hv,by simpa using h1,h⟩;unfold Ad at ho;by_cases N:k<1\/6<k
 .rw [eN N]at ho;exact absurd rfl ho
 omega
def T3{t:AA}(h:Lib.validD t.data.toList=true):(Bl t).size=(C4 t).length:=by
 unfold Bl;rw[eN h];show(C4 t).toArray.size=_;rw[bp]
def oI(m:Nat):∀(d:Val),SizeOf.sizeOf d<=m->Ah d<=1100000->∀(q:Nat),Ai d q=0->∀(w:AB) (sl so:Sl),RV w (Lt w) d sl so->
  Calls prog 94 #[AS d sl so] w λe w'=>∃t:AA,e=.returned t/\t.size=Be d/\Ext w w':=by
 induction m with
 |zero=>intro d hd;have:=Val.CM d;omega
 |succ m ih=>
 intro d hd f5 q d3 w sl so h;have HI:=hY ih;have b0:=LC _ w d sl so h;clear ih;obtain⟨k,b,i,t,l,Z,ov⟩:=d;show Calls _ _ #[.agg #[k,b,i,t,.slice sl.a l.length sl.c,.slice so.a Z.length so.c]] _ _;cases h with
 |mk bl fl bo fo cl co hl ho hov el rl ek eo ro bk bi bt nl no=>
 have f2:∀(j:Nat) (d:Val),l[j]? = some d->SizeOf.sizeOf d<=m:=λj d hj=>bz (ab (Val.Ev hj) hd)
 have e4:∀(j:Nat) (d:Val),ov[j]? = some d->SizeOf.sizeOf d<=m:=λj d hj=>bz (ab (Val.E0 hj) hd)
 obtain⟨f8,e2,e6,f4⟩:=oT hov d3;have f1:Be (.mk k b i t l Z ov)<=6600000:=oM
 unfold Ah at f5;have i0 : -9223372036854775808<=i:=by simp[Lit.wf,IntKind.min,IntKind.max,IntKind.signed,IntKind.bits]at bi;omega
 have i2:i<=9223372036854775807:=by simp[Lit.wf,IntKind.min,IntKind.max,IntKind.signed,IntKind.bits]at bi;omega
 obtain⟨f9,e8,g4,g5,g3,f3,e3⟩:=Yh f2 e4 el rl ek eo ro;obtain⟨d6,d4,d5,b9,g7,d9⟩:=Yg hov hl ho f5 e6 f4;have e7:=(gz w).alloc #[.int .i64 k,.bool b,.int .i64 i,.string t,.slice sl.a l.length sl.c,.slice so.a Z.length so.c] 54;have f7:=gB w 54 #[.int .i64 k,.bool b,.int .i64 i,.string t,.slice sl.a l.length sl.c,.slice so.a Z.length so.c];obtain⟨a0,a2⟩:=Yb e7 f7;clear f2 e4 el rl ek eo ro hov hl ho e6 f4 d3 hd b0 bi bk e7 f7;obtain⟨n,hn⟩:∃n,Be (.mk k b i t l Z ov)=n:=⟨_,rfl⟩;rw[hn]at f1 ⊢;unfold Be at hn;go_in;have g8:k=1\/k=2\/k=3\/k=4\/k=5\/k=6:=oM
 clear f8;rcases g8 with rfl|rfl|rfl|rfl|rfl|rfl
 ·have HN:=hY (show 4=n from hn)
  clear hn;go_wp2_with fail;go_ret;exact⟨_,rfl,HN.o,a0.o⟩
 ·have HN:=hY (show IS b=n from hn)
  clear hn;cases b
  ·go_wp2_with fail
   go_ret;exact⟨_,rfl,HN.o,a0.o⟩
  go_wp2_with fail;go_ret;exact⟨_,rfl,HN.o,a0.o⟩
 ·have HN:=hY (show (Lib.itoa i).length=n from hn)
  have HD:=hY (lV (w.alloc (.cells #[.int .i64 3,b,i,t,.slice sl.a l.length sl.c,.slice so.a Z.length so.c] 54)) i i0 i2);clear hn;go_wp2_with fail;refine HD.o.mono ?_;rintro e w2 ⟨u,rfl,hu,I⟩;obtain⟨HU,N⟩:=Yb (hu.trans HN.o) (a0.o.trans I);clear hu I;go_wp2_with fail;go_ret;exact⟨_,rfl,HU.o,N.o⟩
 ·have HN:=hY (show (Bl t).size=n from hn)
  obtain⟨HD,HQ⟩:=Yb (Tx (w.alloc (.cells #[.int .i64 4,b,i,t,.slice sl.a l.length sl.c,.slice so.a Z.length so.c] 54)) t (by have:=b9.o;omega) e2) (T3 e2);clear hn e2;go_wp2_with fail;refine HD.o.mono ?_;rintro e w2 ⟨u,rfl,hu,I⟩;obtain⟨HU,N⟩:=Yb (show u.size=n by rw[hu,<-HQ.o,HN.o]) (a0.o.trans I);clear hu I;go_wp2_with fail;go_ret;exact⟨_,rfl,HU.o,N.o⟩
 ·have HN:=hY (show 2+Bm l+(l.length - 1)=n from hn)
  clear hn;go_wp2_with fail;generalize b5:World.alloc w _=w1;rw[b5]at a0 a2;clear b5;go_loopw[5,6] (λsv qq wr=>∃(j:Nat) (u:AA),sv=.string u/\qq=.int .i64 j/\j<=l.length/\Yd (u.size=1+Bm (l.take j)+(j-1))/\Yd (Ext w1 wr)) (λ_ qq _=>l.length -(intOf qq).toNat)
  case atStart=>exact⟨0,_,rfl,rfl,aw _,hY rfl,hY (gz _)⟩
  obtain⟨j,u,rfl,rfl,hj,HU,HX⟩:=hrel;obtain⟨p0,p1,p2,p3,p4,p5⟩:=(a2.o.ext HX.o).c6;have lp:=(a2.o.ext HX.o).lt;have g0:u.size<=7000000:=by have:=HU.o;have:=NM l j;have:=HN.o;omega
  by_cases a6:j<l.length
  ·have g1:(j:Int)<(l.length:Int):=oM
   have i3:decide ((j:Int)<(l.length:Int))=true:=eO g1;obtain⟨d,hd⟩:∃d,l[j]? = some d:=⟨_,ac a6⟩;have a4:Ext w wr:=a0.o.trans HX.o;have a8:Agree (Lt w) w wr:=a4.agree λ_ h=>h
   obtain⟨b3,b0,d7⟩:=d4.o.eq oM;have a7:=d4.o.fits (show 0<l.length by omega);obtain⟨sa,sc⟩:=sl;dsimp only at b3 b0 d7;subst b3;obtain⟨v0,v1,v2,v3,v4,v5⟩:=(g4.o j d hd).agree a8 a7;have lb:bl<wr:=ab a7 a4.size;have a5:Calls prog 94 #[AS d (cl j).1 (cl j).2] wr λe w'=>∃t:AA,e=.returned t/\t.size=Be d/\Ext wr w':=
    HI.o d (f9.o j d hd) (by have:=JX hd;have:=b9.o;omega) _ (Sj g7.o hd) wr _ _ (((g5.o j d hd).agree a8).mono λi hi=>ab hi a4.size)
   have b4:=Ny hd;have i1:Be d<=7000000:=by have:=NM l (j+1);have:=HN.o;omega
   obtain⟨a3,b7⟩:=Yb a5 b4;clear hd a4 a8 a5 b4;by_cases b6:j=0
   ·have gg:decide ((0:Int)<(j:Int))=false:=eM oM
    have e0:=hY b6;have gn:¬0<j:=oM
    have gi:¬(0:Int)<(j:Int):=oM
    clear b6;go_wp2_with fail;refine a3.o.mono ?_;rintro e w2 ⟨x,rfl,hx,I⟩;have s1:¬9223372036854775807<u.size+x.size:=oM
    obtain⟨N,HS⟩:=Yb (HX.o.trans I) (show u.size+x.size=1+Bm (l.take (j+1))+(j+1-1)by have:=e0.o;have:=HU.o;rw[b7.o,hx];omega);clear I hx a3 v0 v1 v2 v3 v4 v5 p0 p1 p2 p3 p4 p5;go_wp2_with fail;go_roundw
    case rel=>exact⟨j+1,_,rfl,by go_num,a6,hY (by rw[aP];exact HS.o),N⟩
    simp[intOf];omega
   have gg:decide ((0:Int)<(j:Int))=true:=eO oM;have s0:¬9223372036854775807<u.size+1:=oM
   go_wp2_with fail;refine a3.o.mono ?_;rintro e w2 ⟨x,rfl,hx,I⟩;have s1:¬9223372036854775807<u.size+1+x.size:=oM
   obtain⟨N,HS⟩:=Yb (HX.o.trans I) (show u.size+1+x.size=1+Bm (l.take (j+1))+(j+1-1)by have:=HU.o;rw[b7.o,hx];omega);clear I hx a3 v0 v1 v2 v3 v4 v5 p0 p1 p2 p3 p4 p5;go_wp2_with fail;go_roundw
   case rel=>exact⟨j+1,_,rfl,by go_num,a6,hY (by rw[aP,aP];exact HS.o),N⟩
   simp[intOf];omega
  obtain rfl:j=l.length:=oM
  have g1:decide ((l.length:Int)<(l.length:Int))=false:=eM oM;have s1:¬9223372036854775807<u.size+1:=oM
  obtain⟨HS,N⟩:=Yb (show u.size+1=n by have:=HU.o;rw[aR]at this;have:=HN.o;omega) (a0.o.trans HX.o);go_wp2_with fail;go_ret;exact⟨_,rfl,by rw[aP];exact HS.o,N.o⟩
 have HN:=hY (show 2+Bf Z ov+(ov.length-1)=n from hn);clear hn;go_wp2_with fail;generalize b5:World.alloc w _=w1;rw[b5]at a0 a2;clear b5;go_loopw[7,8] (λsv qq wr=>∃(j:Nat) (u:AA),sv=.string u/\qq=.int .i64 j/\j<=Z.length/\Yd (u.size=1+Bf Z (ov.take j)+(j-1))/\Yd (Ext w1 wr)) (λ_ qq _=>Z.length -(intOf qq).toNat)
 case atStart=>exact⟨0,_,rfl,rfl,aw _,hY (by rw[cz,Bf];rfl),hY (gz _)⟩
 obtain⟨j,u,rfl,rfl,hj,HU,HX⟩:=hrel;obtain⟨p0,p1,p2,p3,p4,p5⟩:=(a2.o.ext HX.o).c6;have lp:=(a2.o.ext HX.o).lt;have g0:u.size<=7000000:=by have:=HU.o;have:=Lu Z ov j;have:=HN.o;have:=d6.o;omega
 by_cases a6:j<Z.length
 ·have g1:(j:Int)<(Z.length:Int):=oM
  have i3:decide ((j:Int)<(Z.length:Int))=true:=eO g1;obtain⟨kk,hk⟩:∃kk,Z[j]? = some kk:=⟨_,ac a6⟩;obtain⟨d,hd⟩:∃d,ov[j]? = some d:=⟨_,ac (by rw[d6.o];exact a6)⟩;have a4:Ext w wr:=a0.o.trans HX.o;have a8:Agree (Lt w) w wr:=a4.agree λ_ h=>h
  obtain⟨b3,b0,d7⟩:=d5.o.eq oM;have a7:=d5.o.fits (show 0<Z.length by omega);obtain⟨sa,sc⟩:=so;dsimp only at b3 b0 d7;subst b3;have lb:bo<wr:=ab a7 a4.size;have kc:wr.cell? ⟨bo,fo+j*7,none⟩=some (.string kk):=(a8.cell a7).trans (g3.o j kk hk).1;have e1:=(Je d9.o hd hk).1;have f0:=Tx wr kk (by have:=Fy hd hk;have:=b9.o;omega) e1;have b4:=Mx (ks:=Z) hd hk;have i1:(Bl kk).size+1+Be d<=7000000:=by have:=Lu Z ov (j+1);have:=HN.o;omega
  obtain⟨f6,c9,b7,a9,d0,HK,HD⟩:=Yh (T3 e1) f0 b4 a4 a7 hk hd;clear hd hk a4 a8 f0 b4 e1 a7;by_cases b6:j=0
  ·have gg:decide ((0:Int)<(j:Int))=false:=eM oM
   have e0:=hY b6;have gn:¬0<j:=oM
   have gi:¬(0:Int)<(j:Int):=oM
   clear b6;go_wp2_with fail;refine c9.o.mono ?_;rintro e w2 ⟨y,rfl,hy,I⟩;obtain⟨p0,p1,p2,p3,p4,p5⟩:=(a2.o.ext (HX.o.trans I)).c6;have g6:=(a2.o.ext (HX.o.trans I)).lt;have a1:Agree (Lt w) w w2:=(a9.o.trans I).agree λ_ h=>h
   obtain⟨v0,v1,v2,v3,v4,v5⟩:=(f3.o j d HD.o).agree a1 d0.o;have g9:bo<w2:=ab d0.o (a9.o.trans I).size;have a5:Calls prog 94 #[AS d (co j).1 (co j).2] w2 λe w'=>∃t:AA,e=.returned t/\t.size=Be d/\Ext w2 w':=
    HI.o d (e8.o j d HD.o) (by have:=Fy HD.o HK.o;have:=b9.o;omega) _ (Je d9.o HD.o HK.o).2 w2 _ _ (((e3.o j d HD.o).agree a1).mono λi hi=>ab hi (a9.o.trans I).size)
   have a3:=hY a5;have b8:y.size=(Bl kk).size:=by rw[hy,f6.o]
   have s1:¬9223372036854775807<u.size+y.size:=oM
   have s2:¬9223372036854775807<u.size+y.size+1:=oM
   obtain⟨c7,N⟩:=Yb b8 (HX.o.trans I);clear a1 a5 I hy b8 lp lb kc c9;go_wp2_with fail;refine a3.o.mono ?_;rintro e w3 ⟨x,rfl,hx,c8⟩;have s3:¬9223372036854775807<u.size+y.size+1+x.size:=by have:=c7.o;omega
   obtain⟨d8,HS⟩:=Yb (N.o.trans c8) (show u.size+y.size+1+x.size=1+Bf Z (ov.take (j+1))+(j+1-1)by have:=e0.o;have:=HU.o;have:=c7.o;rw[b7.o,hx];omega);clear c8 hx a3 v0 v1 v2 v3 v4 v5 p0 p1 p2 p3 p4 p5;go_wp2_with fail;go_roundw
   case rel=>exact⟨j+1,_,rfl,by go_num,a6,hY (by rw[aP,aP,aP];exact HS.o),d8⟩
   simp[intOf];omega
  skip
  have gg:decide ((0:Int)<(j:Int))=true:=eO oM;have s0:¬9223372036854775807<u.size+1:=oM
  go_wp2_with fail;refine c9.o.mono ?_;rintro e w2 ⟨y,rfl,hy,I⟩;obtain⟨p0,p1,p2,p3,p4,p5⟩:=(a2.o.ext (HX.o.trans I)).c6;have g6:=(a2.o.ext (HX.o.trans I)).lt;have a1:Agree (Lt w) w w2:=(a9.o.trans I).agree λ_ h=>h
  obtain⟨v0,v1,v2,v3,v4,v5⟩:=(f3.o j d HD.o).agree a1 d0.o;have g9:bo<w2:=ab d0.o (a9.o.trans I).size;have a5:Calls prog 94 #[AS d (co j).1 (co j).2] w2 λe w'=>∃t:AA,e=.returned t/\t.size=Be d/\Ext w2 w':=
   HI.o d (e8.o j d HD.o) (by have:=Fy HD.o HK.o;have:=b9.o;omega) _ (Je d9.o HD.o HK.o).2 w2 _ _ (((e3.o j d HD.o).agree a1).mono λi hi=>ab hi (a9.o.trans I).size)
  have a3:=hY a5;have b8:y.size=(Bl kk).size:=by rw[hy,f6.o]
  have s1:¬9223372036854775807<u.size+1+y.size:=oM
  have s2:¬9223372036854775807<u.size+1+y.size+1:=oM
  obtain⟨c7,N⟩:=Yb b8 (HX.o.trans I);clear a1 a5 I hy b8 lp lb kc c9;go_wp2_with fail;refine a3.o.mono ?_;rintro e w3 ⟨x,rfl,hx,c8⟩;have s3:¬9223372036854775807<u.size+1+y.size+1+x.size:=by have:=c7.o;omega
  obtain⟨d8,HS⟩:=Yb (N.o.trans c8) (show u.size+1+y.size+1+x.size=1+Bf Z (ov.take (j+1))+(j+1-1)by have:=HU.o;have:=c7.o;rw[b7.o,hx];omega);clear c8 hx a3 v0 v1 v2 v3 v4 v5 p0 p1 p2 p3 p4 p5;go_wp2_with fail;go_roundw
  case rel=>exact⟨j+1,_,rfl,by go_num,a6,hY (by rw[aP,aP,aP,aP];exact HS.o),d8⟩
  simp[intOf];omega
 obtain rfl:j=Z.length:=oM
 have g1:decide ((Z.length:Int)<(Z.length:Int))=false:=eM oM;have s1:¬9223372036854775807<u.size+1:=oM
 obtain⟨HS,N⟩:=Yb (show u.size+1=n by have:=HU.o;rw[<-d6.o,aR]at this;have:=HN.o;omega) (a0.o.trans HX.o);go_wp2_with fail;go_ret;exact⟨_,rfl,by rw[aP];exact HS.o,N.o⟩
def OP{d:Val}(h:RV w (Lt w) d sl so)(hc:Ah d<=1100000):Calls prog 61 #[AS d sl so] w λe w'=>e=.returned (AY d)/\Ext w w':=by
 have a1:∀W,Ext w W->RV W (Lt W) d sl so:=λW hW=>(h.agree (hW.agree λb hb=>hb)).mono λb hb=>ab hb hW.size
 obtain⟨HM,HD,HT⟩:=Yc (λW (hW:Ext w W)=>ZZ (a1 W hW) hc) (λW (hW:Ext w W) (hq:Bo d<=1000000)=>Xj _ d (ao _) hq W sl so (a1 W hW)) (λW (hW:Ext w W) (Z:Ai d 1=0)=>oI _ d (ao _) hc 1 Z W sl so (a1 W hW));obtain⟨r,I⟩:∃r,AY d=r:=⟨_,rfl⟩;rw[I];have HR:=hY I;clear I a1 h;go_in;go_wp2_with fail;have a3:=(gz w).alloc (Cl d sl so) 54;have a2:=gB w 54 (Cl d sl so);refine(HM.o _ a3).mono ?_;rintro e w1 ⟨rfl,N⟩;have I:=HR.o;unfold AY at I;obtain⟨q0,q1,q2,q3,q4,q5⟩:=(a2.ext N).c6;have lq:=(a2.ext N).lt;obtain⟨HB,HX⟩:=Yb (a2.ext N) (a3.trans N);clear a3 N a2 HM;by_cases Z:Ai d 1=0
 ·rw [eL (by simp [Z])] at I
  have b0:=Jk d 1 Z;have a9:=hY (λW hW=>HT.o W hW Z);rw[Z];have a8:=hY I;clear I Z;go_wp2_with fail;refine(HD.o _ HX.o oM).mono ?_;rintro e w2 ⟨rfl,a0⟩;obtain⟨p0,p1,p2,p3,p4,p5⟩:=(HB.o.ext a0).c6;have lp:=(HB.o.ext a0).lt;have a4:=hY (HX.o.trans a0);have I:=a8.o;clear a0 q0 q1 q2 q3 q4 q5 lq;by_cases hd:16<Bo d
  ·rw [eN hd] at I
   have g1:decide ((16:Int)<(Bo d:Int))=true:=eO oM;have HE:=hY I;clear I;go_wp2_with fail;go_ret;exact⟨by rw[<-HE.o];rfl,a4.o⟩
  rw[eL hd]at I;have g1:decide ((16:Int)<(Bo d:Int))=false:=eM oM;have a7:=hY I;clear I;go_wp2_with fail;refine(a9.o _ a4.o).mono ?_;rintro e w3 ⟨t,rfl,ht,a6⟩;have a5:=hY (a4.o.trans a6);have I:=a7.o;rw[<-ht]at I;clear a6 ht;by_cases hl:1024<t.size
  ·rw [eN hl] at I
   have g2:decide ((1024:Int)<(t.size:Int))=true:=eO oM;have HE:=hY I;clear I;go_wp2_with fail;go_ret;exact⟨by rw[<-HE.o];rfl,a5.o⟩
  rw[eL hl]at I;have g2:decide ((1024:Int)<(t.size:Int))=false:=eM oM;have HE:=hY I;clear I;go_wp2_with fail;go_ret;exact⟨by rw[<-HE.o];rfl,a5.o⟩
 rw[eN Z]at I;have g1:(Ai d 1 != 0)=true:=by simpa using Z
 have HE:=hY I;clear I Z;go_wp2_with fail;go_ret;exact⟨by rw[<-HE.o];rfl,HX.o⟩
def Tryz.ij:(prog.info? 26).map (λi=>(i.zero,i.size,i.bytes))=some (some (.pointer none),1,8):=kM
abbrev C1(m:Nat):Value:=.pointer (some ⟨m,0,none⟩)
structure CJ(H:Nat->Prop)(w:AB)(base R M:Nat)(s:Sl)(es:List AD)(ms:List Nat)(hs:List (List AD)):Prop where
 below:∀b,H b->b<w.heap.size
 old:base<=w.heap.size
 hR:H R
 hrow:∀b,s.row=some b->H b
 blk:AE w R 93 #[C1 M,.slice s.a hs.length s.c]
 own:w.ownsRow base 26 1 (.slice s.a hs.length s.c) hs.length (ms.map C1)
 cur:MapAt H w M es
 len:ms.length=hs.length
 dist:ms.Nodup
 maps:∀(j m:Nat) (es':List AD),ms[j]? = some m->hs[j]? = some es'->MapAt H w m es'/\m≠M
variable{H:Nat->Prop}
def MapAt.Fg{M:Nat}{es:List AD}(h:MapAt H w M es):∃v,AE w M 44 #[v]:=by
 obtain⟨-,s,xs,I,-⟩:=h;exact⟨_,I⟩
def OT{a b:Nat}{t t':TypeId}{cs Z:Array Value}(h:AE w a t cs)(I:AE w b t' Z)(N:t≠t'):a≠b:=by
 rintro rfl;unfold AE at h I;rw[h]at I;injection I with I;injection I with h3 h4;exact N h4
variable{ms:List Nat}{hs:List (List AD)}
def CJ.Uq{base R M:Nat}{es:List AD}(h:CJ H w base R M s es ms hs):R≠M:=by
 obtain⟨v,I⟩:=h.cur.Fg;exact OT h.blk I oN
def CJ.jP{base R M:Nat}{es:List AD}(h:CJ H w base R M s es ms hs):s.row≠some M:=by
 obtain⟨v,I⟩:=h.cur.Fg;exact Lo h.own I oN
def CJ.X1{base R M:Nat}{es:List AD}(h:CJ H w base R M s es ms hs):s.row≠some R:=Lo h.own h.blk oN
def CJ.ext{base R M:Nat}{es:List AD}(h:CJ H w base R M s es ms hs)(k:Ext w w'):CJ H w' base R M s es ms hs:=
 ⟨λb I=>ab (h.below b I) k.size,an h.old k.size,h.hR,h.hrow,h.blk.ext k,AZ h.own (k.agree λb (I:b<w)=>I) (λb I=>(AM h.own I).2),h.cur.ext k,h.len,h.dist,λj m e Z N=>⟨(h.maps j m e Z N).1.ext k,(h.maps j m e Z N).2⟩⟩
variable{s5:Sl}
def CJ.step{w3 Z w5:AB}{base R M M':Nat}{es:List AD}{c:Array Value}{t:TypeId}(h:CJ H w3 base R M s es ms hs)(a8:Ext w3 Z)(d0:w3.heap.size<=M')(a6:MapAt (λb=>H b\/b=M') Z M' es)
  (a0:w5.ownsRow base 26 1 (.slice s5.a (hs.length+1) s5.c) (hs.length+1) (ms.map C1++[C1 M'])) (a9:Wr (Z.alloc (.cells c t)) w5 s.row) (a7:s5.a=s.a\/s5.a=some ⟨(Z.alloc (.cells c t)).heap.size,0,none⟩/\Wr (Z.alloc (.cells c t)) w5 none) (b3:AE w5 R 93 #[C1 M,.slice s.a hs.length s.c]) :
  ∃H':Nat->Prop,(∀b,H b->H' b)/\(∀b,H' b->H b\/w3.heap.size<=b)/\CJ H' (w5.setCell ⟨R,1,none⟩ (.slice s5.a (hs.length+1) s5.c)) base R M s5 es (ms++[M']) (hs++[es])/\St (λb=>b=R\/s.row=some b) w3 (w5.setCell ⟨R,1,none⟩ (.slice s5.a (hs.length+1) s5.c))/\(∀b,s5.row=some b->s.row=some b\/w3.heap.size<=b):=by
 have b5:Ext Z (Z.alloc (.cells c t)):=(gz Z).alloc _ _;have c7:=a8.size;have c9:(Z.alloc (.cells c t)).heap.size=Z.heap.size+1:=eQ _ _;have c6:=a9.grown.size;have b9:M'<Z.heap.size:=by obtain⟨v,hv⟩:=a6.Fg;exact hv.lt
 have c8:=h.blk.lt;have b4:M<w3.heap.size:=by obtain⟨v,hv⟩:=h.cur.Fg;exact hv.lt
 have N:∀b,s5.row=some b->H b\/Z.heap.size<b:=λb I=>by
  rcases a7 with e |⟨e,-⟩
  .exact .inl (h.hrow b (by unfold Sl.row at I ⊢;rw[<-e];exact I))
  right;have:b=(Z.alloc (.cells c t)).heap.size:=by unfold Sl.row at I;rw[e]at I;simpa using I.symm
  omega
 have k4:St (λb=>b=R\/s.row=some b) Z (w5.setCell ⟨R,1,none⟩ (.slice s5.a (hs.length+1) s5.c)):=
  St.set (H:=λb=>b=R\/s.row=some b) ((b5.st _).trans (a9.st λi hi=>.inr hi)) (p:=⟨R,1,none⟩) (.inr (.inl rfl)) _
 have k3:St (λb=>b=R\/s.row=some b) w3 (w5.setCell ⟨R,1,none⟩ (.slice s5.a (hs.length+1) s5.c)):=(a8.st _).trans k4;have a2:St (λb=>b=R) w5 (w5.setCell ⟨R,1,none⟩ (.slice s5.a (hs.length+1) s5.c)):=St.set (H:=λb=>b=R) (gH _ _) (p:=⟨R,1,none⟩) (.inr rfl) _;have b7:s5.row≠some R:=λe=>Lo a0 b3 oN e
 have b0:∀b,(b=R\/s.row=some b)->H b:=λb I=>I.elim (λe=>e▸h.hR) (h.hrow b)
 have b6:∀m,(∃v,AE w3 m 44 #[v])->¬(m=R\/s.row=some m):=λm ⟨v,hv⟩ hh=>hh.elim (λe=>OT h.blk hv oN e.symm) λe=>Lo h.own hv oN e
 have a3:∀m e',MapAt H w3 m e'->MapAt (λb=>H b\/b=M'\/s5.row=some b) (w5.setCell ⟨R,1,none⟩ (.slice s5.a (hs.length+1) s5.c)) m e':=λm e' hm=>
  (hm.more (G:=λb=>H b\/b=M'\/s5.row=some b) (λb I=>.inl I) λb I hg=>by
    rcases hg with hg|hg|hg
    .exact hg
    .omega
    rcases N b hg with h1|h1
    .exact h1
    omega).st k3 (λb I=>.inl (b0 b I)) (b6 m hm.Fg)
 have a5:∀b,s5.row=some b->s.row=some b\/w3.heap.size<=b:=λb I=>by
  rcases a7 with e |⟨e,-⟩
  .exact .inl (by unfold Sl.row at I ⊢;rw[<-e];exact I)
  right;have:b=(Z.alloc (.cells c t)).heap.size:=by unfold Sl.row at I;rw[e]at I;simpa using I.symm
  omega
 refine⟨λb=>H b\/b=M'\/s5.row=some b,λb I=>.inl I,λb I=>?_,?_,k3,a5⟩
 ·rcases I with I | I | I
  .exact .inl I
  .right;omega
  rcases N b I with h1|h1
  .exact .inl h1
  right;omega
 have hz:=a2.size;refine⟨λb I=>?_,?_,.inl h.hR,λb I=>.inr (.inr I),?_,?_,a3 M es h.cur,by rw[aj,aj,h.len];rfl,?_,λj m a4 hj he=>?_⟩
 ·rcases I with I | I | I
  .have:=h.below b I;omega
  .omega
  have:=(AM a0 I).2;omega
 .have:=h.old;omega
 ·have:=b3.AX 1 (.slice s5.a (hs.length+1) s5.c)
  rw[aj];exact this
 ·rw [aj,aB]
  exact AZ a0 (F:=λb=>s5.row=some b) (λb I=>a2.block b (AM a0 I).2 λe=>b7 (e▸I)) λb I=>I
 ·rw [List.nodup_append]
  refine⟨h.dist,oO,λa ha b I e=>?_⟩;rw[aV]at I;obtain⟨j,hj⟩:=bA ha;have a1:=(ai.1 hj).1;obtain⟨x,hx⟩:=(h.maps j a _ hj (ac (by rw[<-h.len];exact a1))).1.Fg;have:=hx.lt;omega
 by_cases a1:j<ms.length
 ·rw [bu a1] at hj
  rw[bu (by rw[<-h.len];exact a1)]at he;exact⟨a3 m a4 (h.maps j m a4 hj he).1,(h.maps j m a4 hj he).2⟩
 rw[aO oM]at hj;rw[aO (by rw[<-h.len];omega)]at he;have b8:j-ms.length=0:=by
  have:=(ai.1 hj).1;simp at this;omega
 rw[<-h.len]at he;rw[b8]at hj he;simp at hj he;subst hj he;refine⟨(a6.more (G:=λb=>H b\/b=M'\/s5.row=some b) (λb I=>I.elim .inl λe=>.inr (.inl e)) λb I hg=>by
  rcases hg with hg|hg|hg
  .exact .inl hg
  .exact .inr hg
  rcases N b hg with h1|h1
  .exact .inl h1
  omega).st k4 (λb I=>.inl (b0 b I)) ?_,oM⟩
 rintro(e|e)
 .omega
 have:=h.below _ (h.hrow _ e);omega
def CJ.turned{base R M:Nat}{es N:List AD}(h:CJ H w base R M s es ms hs)(hm:MapAt H w' M N)(k:St (λb=>b=M) w w'):CJ H w' base R M s N ms hs:=
 ⟨λb I=>ab (h.below b I) k.size,an h.old k.size,h.hR,h.hrow,k.blk h.blk h.Uq,AZ h.own (F:=λb=>s.row=some b) (λb I=>k.block b (AM h.own I).2 λe=>h.jP (e▸I)) (λb I=>I),hm,h.len,h.dist,
   λj m e hj Z=>⟨(h.maps j m e hj Z).1.st k (λb I=>I▸h.cur.hm) (λe'=>(h.maps j m e hj Z).2 e'),(h.maps j m e hj Z).2⟩⟩
def XT(H:Nat->Prop)(w:AB)(base R M:Nat)(s:Sl)(es:List AD)(ms:List Nat)(hs:List (List AD))(k:AA)(v:Val)(e:AC)(w':AB):Prop:=
 (AT k≠0/\e=.returned (.int .i64 8)/\Ext w w')\/(AT k=0/\AY v≠0/\e=.returned (.int .i64 (AY v))/\Ext w w')\/
 (AT k=0/\AY v=0/\e=.returned (.int .i64 0)/\∃(H':Nat->Prop) (s':Sl) (M':Nat),(∀b,H b->H' b)/\(∀b,H' b->H b\/w.heap.size<=b)/\CJ H' w' base R M s' (AU es k v) (ms++[M']) (hs++[es])/\St (λb=>b=R\/b=M\/s.row=some b) w w'/\(∀b,s'.row=some b->s.row=some b\/w.heap.size<=b)/\w.heap.size<=M')
def oL{H H':Nat->Prop}{w w3 W5:AB}{base R M:Nat}{es:List AD}{ms a3:List Nat}{hs a5:List (List AD)}{k:AA}{v:Val}(h:CJ H w base R M s es ms hs)(hv:RV w (NH H w) v sl so)(a0:Ext w w3)(a6:∀b,H b->H' b)(a2:∀b,H' b->H b\/w3.heap.size<=b)
  (Z:CJ H' W5 base R M s5 es a3 a5) (N:St (λb=>b=R\/s.row=some b) w3 W5) (a1:Sorted es) (hc:es.length<=1000000) (hk:k.size<=maxLen) :
  ∀W,Ext W5 W->Calls prog 29 #[.pointer (some M),k,AS v sl so] W (Sc H' M (AU es k v) W):=λW hW=>by
 have h3:=a0.size;have h5:=N.size;have a4:Agree (NH H w) w W5:=λb I=>(N.block b (ab I.1 h3) (λhh=>I.2 (hh.elim (λe=>e▸h.hR) (h.hrow b)))).trans (a0.heap I.1)
 have hw:=hW.size;refine LD (Z.cur.ext hW) (λb I=>ab (Z.below b I) hw) a1 hc hk (((hv.agree a4).agree (hW.agree λb I=>ab I.1 (an h3 h5))).mono λb I=>⟨by have:=I.1;omega,λhh=>?_⟩);rcases a2 b hh with h1|h1
 .exact I.2 h1
 have:=I.1;omega
def kq{base R M:Nat}{es:List AD}(h:CJ H w base R M s es ms hs)(i2:Sorted es)(hc:es.length<=1000000)(hn:hs.length<=1000000){k:AA}(hk:k.size<=maxLen){v:Val}(hv:RV w (NH H w) v sl so)(i9:Ah v<=1100000) :
  Calls prog 35 #[.pointer (some R),k,AS v sl so] w (XT H w base R M s es ms hs k v):=by
 obtain⟨i0,hi,j0,k1,j6⟩:=eZ Tryz.ij;have b7:=(gz w).alloc #[.int .i64 v.kind,.bool v.b,.int .i64 v.i,.string v.t,.slice sl.a v.l.length sl.c,.slice so.a v.ok.length so.c] 54;have c7:=gB w 54 #[.int .i64 v.kind,.bool v.b,.int .i64 v.i,.string v.t,.slice sl.a v.l.length sl.c,.slice so.a v.ok.length so.c];have a6:=MY (w.alloc (.cells #[v.kind,.bool v.b,v.i,v.t,.slice sl.a v.l.length sl.c,.slice so.a v.ok.length so.c] 54)) k hk;have b8:=OP (w:=w.alloc (.cells #[v.kind,.bool v.b,v.i,v.t,.slice sl.a v.l.length sl.c,.slice so.a v.ok.length so.c] 54)) (((hv.mono λb hb=>hb.1).agree (b7.agree λ_ h=>h)).mono λi hi=>ab hi b7.size) i9;generalize i8:w.alloc (.cells #[v.kind,.bool v.b,v.i,v.t,.slice sl.a v.l.length sl.c,.slice so.a v.ok.length so.c] 54)=w1 at b7 c7 a6 b8;obtain⟨b0,b1,b2,b3,b4,b5⟩:=c7.c6;have lb:=c7.lt;obtain⟨e6,f4,d4,c9,HH,HV⟩:=Yg b7 c7 a6 b8 h hv;clear b7 c7 a6 b8 h hv;go_in;go_wp2_with fail;clear i8;refine d4.o.mono ?_;rintro e w2 ⟨rfl,i1⟩;obtain rfl:=i1.symm;clear d4;by_cases hm:AT k=0
 ·have g0:(AT k != 0)=false:=by simpa using hm
  rw[hm];go_wp2_with fail;refine c9.o.mono ?_;rintro e w3 ⟨rfl,e4⟩;obtain⟨a1,j9⟩:=Yb (e6.o.trans e4) (f4.o.ext e4);clear e4 c9 f4 b0 b1 b2 b3 b4 b5 lb;by_cases hf:AY v=0
  ·rw [hf]
   have a2:=HH.o.ext a1.o;have c0:w3.cell? R=some (C1 M):=a2.blk.cell 0;have c1:w3.cell? ⟨R,1,none⟩=some (.slice s.a hs.length s.c):=a2.blk.cell 1;have lR:=a2.blk.lt;have g9:=hY a2;have f2:∀b,H b->b<w3.heap.size:=a2.below;have a9:=NW (w:=w3.drew) (a2.cur.ext ((gz w3).drew)) f2 hc;have e2:=hY a9;have g6:∀M':Nat,∀u∈[C1 M'],u.oneCell'=true:=λM'=>by simp[Value.oneCell']
   have i4:hs.length+1<=maxLen:=by unfold maxLen;omega
   have j8:(hs.length+1)*8<=140737488355328:=oM
   have a0:=hY (show ∀W:AB,True->True fromλ_ h=>h);clear a2 a9;go_wp2_with fail;refine eV (S:=(λ_=>True)) kM (trivial) (λhHeld=>?_);refine AF 0 (some 16) a0 hHeld ?_;refine AF 1 (some 17) a0 hHeld ?_;refine AF 2 (some 18) a0 hHeld ?_;refine AF 3 (some 19) a0 hHeld ?_;refine AF 5 (some 21) a0 hHeld ?_;refine AF 6 (some 22) a0 hHeld ?_;refine AF 7 (some 23) a0 hHeld ?_;have pm:=Tag.mk 0;have pa:=Tag.mk 1000
   repeat' (first
    |(have:=(pm:Tag 0);have:=(pa:Tag 1000);refine GQ 4 8 (λK N I=>?_) (λK N I=>?_))
    |(have:=(pm:Tag 0);have:=(pa:Tag 1001);refine Dk 8 (λK N I=>?_))
    |(have:=(pm:Tag 1);have:=(pa:Tag 1000);refine GQ 4 9 (λK N I=>?_) (λK N I=>?_))
    |(have:=(pm:Tag 1);have:=(pa:Tag 1001);refine Dk 9 (λK N I=>?_))
    |(have:=(pm:Tag 2);have:=(pa:Tag 1000);refine GQ 4 10 (λK N I=>?_) (λK N I=>?_))
    |(have:=(pm:Tag 2);have:=(pa:Tag 1001);refine Dk 10 (λK N I=>?_))
    |(have:=(pm:Tag 3);have:=(pa:Tag 1000);refine Dk 4 (λK N I=>?_))
    |(have:=(pm:Tag 3);have:=(pa:Tag 1001);refine Dk 11 (λK N I=>?_))
    |(have:=(pm:Tag 4);have:=(pa:Tag 1000);refine Dk 4 (λK N I=>?_))
    |(have:=(pm:Tag 4);have:=(pa:Tag 1001);refine Dk 14 (λK N I=>?_))
    | (have:=(N:Tag 4)
       clear this N;clear pa;have pa:=Tag.mk 1001;go_simp
       skip
       refine I.out _ _ (trivial) (λhHeld=>?_);clear I K
       try go_frame)
    | (have:=(N:Tag 8)
       clear this N;clear pm;have pm:=Tag.mk 1;go_simp
       skip
       refine I.out _ _ (trivial) (λhHeld=>?_);clear I K
       try go_frame)
    | (have:=(N:Tag 9)
       clear this N;clear pm;have pm:=Tag.mk 2;go_simp
       (refine e2.o.mono ?_;rintro e w4 ⟨M',rfl,g3,d5,f8⟩;have d8:Ext w3 w4:=((gz w3).drew).trans d5;have a8:=g9.o.ext d8;have c0:w4.cell? R=some (C1 M):=a8.blk.cell 0;have c1:w4.cell? ⟨R,1,none⟩=some (.slice s.a hs.length s.c):=a8.blk.cell 1;have j5:=a8.blk.lt;have e0:Ext w4 (w4.alloc (.cells #[C1 M'] 26)):=(gz w4).alloc _ _;have a5:=hY (a8.ext e0);have d3:=hY (gG (size:=1) (n:=1) (cs:=[C1 M']) (gB w4 26 #[C1 M']) oN rfl);have g4:=hY d8;have i3:=hY e0;have f5:=hY f8;have d9:=hY g3;clear d5 d8 a8 e0 f8 g3)
       refine I.out _ _ (trivial) (λhHeld=>?_);clear I K
       try go_frame)
    | (have:=(N:Tag 10)
       clear this N;clear pm;have pm:=Tag.mk 3;go_simp
       skip
       refine I.out _ _ (trivial) (λhHeld=>?_);clear I K
       try go_frame)
    | (have:=(N:Tag 11)
       clear this N;clear pm;have pm:=Tag.mk 4;refine JE _ (.tmp 20) (.tmp 26) 91 rfl base 26 i0 _ 1 8 underlying91 hi j0 k1 j6 rfl oN s hs.length (ms.map C1) (by rfl) a5.o.own (λb=>b=w4.heap.size) ⟨some w4,1⟩ 1 [C1 M'] (by rfl) d3.o (g6 M') i4 j8 a5.o.old ?_;intro s5 w5 b6 a7 f9;obtain⟨f0,g7,f6⟩:=Yc b6 a7 f9;have b9:AE w5 R 93 #[C1 M,.slice s.a hs.length s.c]:=a5.o.blk.agree (a7.agree (F:=λb=>b=R) (λi hi=>by rw[hi];exact a5.o.blk.lt) (λk hk e=>a5.o.X1 (by rw[hk,e]))) rfl;have i5:w5.cell? ⟨R,1,none⟩=some (.slice s.a hs.length s.c):=b9.cell 1;have j1:=b9.lt;have i6:w5.frozen? ⟨R,1,none⟩=false:=b9.frozen 1;have e8:=hY b9;clear b6 a7 f9 b9;refine I.out _ _ (trivial) (λhHeld=>?_);clear I K
       try go_frame
       refine AF 12 (some 28) a0 hHeld ?_;refine AF 13 (some 29) a0 hHeld ?_)
    | (have:=(N:Tag 14)
       clear this N;clear pm;have pm:=Tag.mk 5;go_simp
       skip
       refine I.out _ _ (trivial) (λhHeld=>?_);clear I K
       try go_frame)
    | (have:=(pm:Tag 5);have:=(pa:Tag 1001);refine fa kM ?_ _
       obtain⟨H',e1,d7,e3,a3,d0⟩:=CJ.step g9.o g4.o d9.o f5.o f0.o g7.o f6.o e8.o;have d6:=oL HH.o HV.o a1.o e1 d7 e3 a3 i2 hc hk;obtain⟨j2,f3,c8,k2,f7,j3,j4⟩:=Yh (a3.blk j9.o (by rintro(e|e);exact absurd (HH.o.below _ (e▸HH.o.hR)) (dd _);exact absurd (HH.o.below _ (HH.o.hrow _ e)) (dd _))) d6 e3 (show(∀b,s5.row=some b->s.row=some b\/w.heap.size<=b)/\w.heap.size<=M' from⟨λb hb=>(d0 b hb).imp id (an a1.o.size),an a1.o.size d9.o⟩) a3 e1 d7;obtain⟨HM,HF⟩:=Yb hm hf;clear d0 d6 e3 a3 e1 d7 hm hf f0 g7 f6 e8 f5 d9 g4 i3 a5 d3 c0 c1 i5 i6 j1 j5 lR;generalize w5.setCell ⟨R,1,none⟩ (.slice s5.a (hs.length+1) s5.c)=W5 at *;have i7:AE W5 R 93 #[C1 M,.slice s5.a (hs++[es]).length s5.c]:=c8.o.blk;have f1:AE W5 w.heap.size 54 (Cl v sl so):=j2.o;obtain⟨e7,a4⟩:=Yb (And.intro c8.o.Uq (show w.heap.size≠M fromλe=>by obtain⟨v',k0⟩:=c8.o.cur.Fg;exact OT f1 k0 oN e)) (show ∀W,(AE W R 93 #[C1 M,.slice s5.a (hs++[es]).length s5.c]/\AE W w.heap.size 54 (Cl v sl so))->_ fromλW h=>(⟨h.1.cell 0,h.1.lt,h.2.c6,h.2.lt⟩:W.cell? R=some (C1 M)/\R<W.heap.size/\_/\w.heap.size<W.heap.size));go_wp2_with fail;refine eV (S:=(λW=>AE W R 93 #[C1 M,.slice s5.a (hs++[es]).length s5.c]/\AE W w.heap.size 54 (Cl v sl so))) kM (⟨i7,f1⟩) (λhHeld=>?_);refine AF 0 (some 30) a4 hHeld ?_;refine AF 1 (some 31) a4 hHeld ?_;refine AF 2 (some 32) a4 hHeld ?_;refine AF 3 (some 33) a4 hHeld ?_;refine AF 4 (some 34) a4 hHeld ?_;refine AF 5 (some 35) a4 hHeld ?_;refine Af (i:=6) kM rfl (by rfl) (λK I=>?_);go_simp
       (refine(f3.o _ ((gz W5).drew)).mono ?_;rintro e w8 ⟨⟨r,rfl⟩,g5,Z⟩)
       refine I.out _ _ (⟨Z.blk hHeld.1 e7.o.1,Z.blk hHeld.2 e7.o.2⟩) (λhHeld=>?_);clear I K
       try go_frame
       refine fa kM ?_ _;obtain⟨j7,g8⟩:=Yb g5 Z;clear g5 Z;go_wp2_with fail;go_ret;have Z:St (λb=>b=M) W5 w8:=(((gz W5).drew).st _).trans g8.o;exact .inr (.inr ⟨HM.o,HF.o,rfl,H',s5,M',j3.o,λb hb=>(j4.o b hb).imp id (an a1.o.size),c8.o.turned j7.o Z,(a1.o.st _).trans ((f7.o.mono λi _ hi=>hi.elim .inl λe=>.inr (.inr e)).trans (Z.mono λi _ hi=>.inr (.inl hi))),k2.o⟩)))
  have g1:(AY v != 0)=true:=by simpa using hf
  obtain⟨HM,HF⟩:=Yb hm hf;clear hm hf;go_wp2_with fail;go_ret;exact .inr (.inl ⟨HM.o,HF.o,rfl,a1.o⟩)
 have g0:(AT k != 0)=true:=by simpa using hm
 have HM:=hY hm;clear hm;go_wp2_with fail;go_ret;exact .inl ⟨HM.o,rfl,e6.o⟩
variable{M0:Nat}
def jG{es:List AD}(h:MapAt H w M0 es)(hH:∀b,H b->b<w.heap.size)(hc:es.length<=1000000):Calls prog 34 #[.pointer (some M0)] w λe w'=>
  ∃R M,e=.returned (.pointer (some ⟨R,0,none⟩))/\w.heap.size<=R/\w.heap.size<=M/\Ext w w'/\CJ (λb=>(H b\/b=M)\/b=R) w' w.heap.size R M Sl.none es [] []:=by
 have a5:=NW h hH hc;obtain⟨a6,HH⟩:=Yb a5 hH;clear a5 h hH;go_in;go_wp2_with fail;refine a6.o.mono ?_;rintro e w1 ⟨M,rfl,hM,a4,a3⟩;have Z:Ext w1 (w1.alloc (.cells #[.pointer (some ⟨M,0,none⟩),.slice none 0 0] 93)):=(gz w1).alloc _ _;have a2:=gB w1 93 #[.pointer (some ⟨M,0,none⟩),.slice none 0 0];obtain⟨a1,a0,a8,N,HM⟩:=Yf a4 Z a2 a3 hM;clear a4 Z a2 a3 hM;go_wp2_with fail;go_ret;have a7:=a1.o.size;have b0:M<w1.heap.size:=by obtain⟨v,hv⟩:=N.o.Fg;exact hv.lt
 refine⟨w1,M,rfl,a7,HM.o,a1.o.trans a0.o,?_⟩;have a9:(w1.alloc (.cells #[.pointer (some ⟨M,0,none⟩),.slice none 0 0] 93)).heap.size=w1.heap.size+1:=eQ _ _;refine⟨λb I=>?_,oM,.inr rfl,λb I=>(by cases I),a8.o,e9 _ _ _ _,?_,rfl,List.nodup_nil,λj m b3 hj=>by simp at hj⟩
 ·rcases I with (I | I) | I
  .have:=HH.o b I;omega
  .omega
  omega
 exact(N.o.more (G:=λb=>(H b\/b=M)\/b=w1.heap.size) (λb I=>.inl I) λb I hg=>hg.elim id λe=>oM).ext a0.o
def Ed(H:Nat->Prop)(w:AB)(es:List AD)(M:Nat)(w':AB):Prop:=
 ∃H':Nat->Prop,(∀b,H b->H' b)/\(∀b,H' b->H b\/w.heap.size<=b)/\(∀b,H' b->b<w'.heap.size)/\w.heap.size<=M/\MapAt H' w' M es/\Nw w w'
def JR{es:List AD}(h:MapAt H w M0 es)(hH:∀b,H b->b<w.heap.size)(e6:Sorted es)(hc:es.length<=1000000){k:AA}(hk:k.size<=maxLen){v:Val}(hv:RV w (NH H w) v sl so)(e8:Ah v<=1100000) :
  Calls prog 19 #[.pointer (some M0),k,AS v sl so] w λe w'=>∃M',e=.returned (.tuple #[.pointer (some ⟨M',0,none⟩),.int .i64 (setMu es k v).1])/\Ed H w (setMu es k v).2 M' w':=by
 have a7:=(gz w).alloc (Cl v sl so) 54;have e4:=gB w 54 (Cl v sl so);have d8:(w.alloc (.cells (Cl v sl so) 54)).heap.size=w.heap.size+1:=eQ _ _;have e2:=jG (h.ext a7) (λb Z=>ab (hH b Z) a7.size) hc;obtain⟨d7,d3,d9,a8,HV,HH⟩:=Yg e2 a7 e4 d8 hv hH;clear e2 a7 e4 d8 hv hH h;go_in;go_wp2_with fail;refine d7.o.mono ?_;rintro e w1 ⟨R,M,rfl,hR,hM,c8,hr⟩;have a0:=d3.o.trans c8;have d5:=d9.o.ext c8;obtain⟨b0,b1,b2,b3,b4,b5⟩:=d5.c6;have hz:=a8.o;have b8:=kq hr e6 hc (aw _) hk (v:=v) (sl:=sl) (so:=so) ((HV.o.agree (a0.agree λb Z=>Z.1)).mono λb Z=>⟨Nat.lt_of_lt_of_le Z.1 a0.size,λe=>by
  rcases e with(e|e)|e
  .exact Z.2 e
  .have:=Z.1;omega
  have:=Z.1;omega⟩) e8
 obtain⟨a9,HR,a6,d0⟩:=Ye b8 hr a0 (And.intro hR hM);clear b8 hr a0 c8 d5 hR hM hz d9 d3 d7;go_wp2_with fail;refine a9.o.mono ?_;rintro e w2 hp;obtain⟨c,rfl,b9,c9,e7,s2,I,N,e3,b7,b6,a5,d6⟩:∃c,e=.returned (.int .i64 c)/\c=(setMu es k v).1/\∃(c9:List AD) (H2:Nat->Prop) (s2:Sl) (I:List Nat) (N:List (List AD)),c9=(setMu es k v).2/\(∀b,H b->H2 b)/\(∀b,H2 b->H b\/w.heap.size<=b)/\CJ H2 w2 (w.heap.size+1) R M s2 c9 I N/\Nw w w2:=by
  have h1:=d0.o;have hz:=a8.o;have e0:∀{W:AB},Ext w1 W->∃(H2:Nat->Prop) (s2:Sl) (I:List Nat) (N:List (List AD)),(∀b,H b->H2 b)/\(∀b,H2 b->H b\/w.heap.size<=b)/\CJ H2 W (w.heap.size+1) R M s2 es I N/\Nw w W:=λ{W} hW=>
   ⟨λb=>(H b\/b=M)\/b=R,Sl.none,[],[],λb Z=>.inl (.inl Z),λb Z=>by
     rcases Z with(e|e)|e
     .exact .inl e
     .right;omega
     right;omega,by have:=HR.o.ext hW;rwa[hz]at this,gA (a6.o.trans hW)⟩
  rcases hp with⟨hm,rfl,hx⟩ |⟨hm,hf,rfl,hx⟩ |⟨hm,hf,rfl,H2,s2,M2,a1,a2,a3,a4,-,-⟩
  ·obtain ⟨H2,s2,I,N,q1,q2,q3,q4⟩:=e0 hx
   have e1:setMu es k v=(8,es):=by unfold setMu;rw[eN hm]
   rw[e1];exact⟨_,rfl,rfl,es,H2,s2,I,N,rfl,q1,q2,q3,q4⟩
  ·obtain ⟨H2,s2,I,N,q1,q2,q3,q4⟩:=e0 hx
   have e1:setMu es k v=(AY v,es):=by unfold setMu;rw[eL (by simp[hm]),eN hf]
   rw[e1];exact⟨_,rfl,rfl,es,H2,s2,I,N,rfl,q1,q2,q3,q4⟩
  have e1:setMu es k v=(0,AU es k v):=by unfold setMu;rw[eL (by simp[hm]),eL (by simp[hf])]
  rw[e1];refine⟨_,rfl,rfl,_,H2,s2,_,_,rfl,λb Z=>a1 b (.inl (.inl Z)),λb Z=>?_,by rwa[hz]at a3,?_⟩
  ·rcases a2 b Z with ((e | e) | e) | e
   .exact .inl e
   .right;omega
   .right;omega
   right;have:=a6.o.size;omega
  refine(gA a6.o).comp (a4.sb) λi hi e=>?_
  rcases e with e|e|e
  .omega
  .omega
  simp[Sl.row,Sl.none]at e
 subst b9;have q0:w2.cell? R=some (.pointer (some M)):=a5.blk.cell 0;obtain⟨f0,HQ⟩:=Yb a5 (show Ed H w (setMu es k v).2 M w2 from⟨e7,b7,b6,a5.below,by have:=d0.o;have:=a8.o;omega,e3▸a5.cur,d6⟩);obtain⟨r,c7⟩:∃r,setMu es k v=r:=⟨_,rfl⟩;have d4:=hY c7;rw[c7]at HQ ⊢;clear hp e3 b7 b6 a5 d6 a9 HR a6 d0 a8 c7;go_wp2_with fail;refine eU (v:=.tuple #[.pointer (some M),.int .i64 r.1]) (by simp[results,results19,go_sem,q0]) rfl ?_;exact⟨M,by rw[d4.o],by rw[d4.o];exact HQ.o⟩
def EW(l:List AD):List AD:=l.filter λe=>AT e.1==0&&AY e.2==0
def RY(l:List AD)(e:AD):EW (l++[e])=if AT e.1=0/\AY e.2=0 then EW l++[e]else EW l:=by
 unfold EW;rw[bT];by_cases h:AT e.1=0/\AY e.2=0
 .rw [eN h];simp[h.1,h.2]
 rw[eL h];have:(AT e.1==0&&AY e.2==0)=false:=by
  cases h1:(AT e.1==0&&AY e.2==0)with
  |false=>rfl
  |true=>simp only[Bool.and_eq_true,beq_iff_eq]at h1;exact absurd h1 h
 simp[this]
def L9:∀{l A:List AD},Ae A->(∀e∈l,AT e.1=0/\okV e.2)->Ae (A0 A l)
 |[],A,h,_=>h
 |a::r,A,h,hl=>L9 (l:=r) (h.put (hl a (aD ..)).1 (hl a (aD ..)).2) λe I=>hl e (aI _ I)
structure Dl(w:AB)(l:List LE)(wr:AB)(j M:Nat)(s:Sl)(xs:List LE)(H:Nat->Prop):Prop where
 ents:xs.map LE.ent=EW ((l.take j).map LE.ent)
 sub:∀x∈xs,x∈l
 map:MapAt H wr M (A0 [] (xs.map LE.ent))
 own:wr.ownsRow w.heap.size 65 7 (.slice s.a xs.length s.c) xs.length (AP xs)
 low:∀b,H b->w.heap.size<=b
 below:∀b,H b->b<wr.heap.size
 row:∀b,s.row=some b->H b
 nw:Nw w wr
 few:xs.length<=j
section
variable{w wr w2 w7 w9 : AB}{l : List LE}{j M M' : Nat}{s s7 : Sl}{xs : List LE}{H : Nat -> Prop}{x : LE}
def GC{es:List AD}(h:MapAt H w M es)(k:Nw w w2):MapAt H w2 M es:=h.sb k (λb I=>I.elim) λI=>I.elim
def Dl.skip(h:Dl w l wr j M s xs H)(hx:l[j]? = some x)(k:Nw wr w2)(hn:¬(AT x.k=0/\AY x.v=0)):Dl w l w2 (j+1) M s xs H where
 ents:=by
  rw[aK,hx,aB];show _=EW (_++[(x.k,x.v)]);rw[RY,eL hn];exact h.ents
 sub:=h.sub
 map:=GC h.map k
 own:=AZ h.own (F:=Lt wr) (gC k λb hb=>hb) λb hb=>(AM h.own hb).2
 low:=h.low
 below:=λb hb=>ab (h.below b hb) k.size
 row:=h.row
 nw:=h.nw.trans k
 few:=dM h.few
def Dl.more(h:Dl w l wr j M s xs H)(hx:l[j]? = some x)(hp:Ed H wr (AU (A0 [] (xs.map LE.ent)) x.k x.v) M' w2)(hy:AT x.k=0/\AY x.v=0)(k:Nw w2 w7)(N:w9.ownsRow w.heap.size 65 7 (.slice s7.a (xs.length+1) s7.c) (xs.length+1) (AP xs++x.cells))(hw:Wr w7 w9 s.row)(hs:s7.a=s.a\/s7.a=some ⟨w7,0,none⟩/\Wr w7 w9 none) :
  ∃H',Dl w l w9 (j+1) M' s7 (xs++[x]) H':=by
 obtain⟨H2,h1,h2,h3,h4,h5,h6⟩:=hp;have hz:=h.nw.size;have z6:=h6.size;have z7:=k.size;have z9:=hw.grown.size;have a1:MapAt H2 w7 M' (AU (A0 [] (xs.map LE.ent)) x.k x.v):=GC h5 k;have Z:∀b,s7.row=some b->s.row=some b\/b=w7.heap.size:=λb I=>by
  rcases hs with e |⟨e,-⟩
  .left;unfold Sl.row at I ⊢;rwa[e]at I
  right;unfold Sl.row at I;rw[e]at I;simpa using I.symm
 have a3:M'<w7.heap.size:=ab (h3 M' h5.hm) z7;have a2:s.row≠some M':=λe=>by have:=(AM h.own e).2;omega
 refine⟨λb=>H2 b\/s7.row=some b,?_,?_,?_,?_,?_,?_,λb I=>.inr I,?_,?_⟩
 ·rw [aB,h.ents,aK,hx,aB]
  show _=EW (_++[(x.k,x.v)]);rw[RY,eN hy];rfl
 ·intro y hy
  rcases aL.1 hy with hy|hy
  .exact h.sub y hy
  rw[aV.1 hy];exact ap hx
 ·rw [aB]
  show MapAt _ _ _ (A0 [] (_++[(x.k,x.v)]));rw[I4];have a0:St (λb=>s.row=some b) w7 w9:=hw.st λi hi=>hi
  refine MapAt.st (G:=λb=>s.row=some b) (a1.more (G:=λb=>H2 b\/s7.row=some b) (λb I=>.inl I) λb I hg=>?_) a0 (λb I=>.inl (h1 b (h.row b I))) a2;rcases hg with hg|hg
  .exact hg
  rcases Z b hg with e|e
  .exact h1 b (h.row b e)
  omega
 ·rw [aj,D5,show AP [x]=x.cells by simp [AP]]
  exact N
 ·rintro b (I | I)
  ·rcases h2 b I with e | e
   .exact h.low b e
   omega
  rcases Z b I with e|e
  .exact h.low b (h.row b e)
  omega
 ·rintro b (I | I)
  .have:=h3 b I;omega
  exact(AM N I).2
 .exact ((h.nw.trans h6).trans k).comp ⟨hw.grown.os,hw.grown.tape,hw.grown.output,hw.grown.size,λi hi hn=>hw.grown.block i hi λe=>hn e.symm⟩ λi hi e=>by have:=h.low i (h.row i e);omega
 rw[aj];exact ez h.few
end
def lu(w:AB)(l:List LE)(e:AC)(w':AB):Prop:=
 ∃(M:Nat) (s:Sl) (xs:List LE) (H:Nat->Prop),e=.returned (.tuple #[.pointer (some ⟨M,0,none⟩),.slice s.a xs.length s.c])/\Dl w l w' l.length M s xs H
variable{M:List AD}
def Mt{k:AA}{v:Val}:(setMu M k v).1=0↔AT k=0/\AY v=0:=by
 unfold setMu;by_cases h:AT k=0
 ·rw [eL (by simp [h])]
  by_cases h2:AY v=0
  .rw [eL (by simp[h2])];simp[h,h2]
  rw[eN h2];simp[h,h2]
 rw[eN h];simp[h]
def TN{k:AA}{v:Val}(h:AT k=0/\AY v=0):(setMu M k v).2=AU M k v:=by
 unfold setMu;rw[eL (by simp[h.1]),eL (by simp[h.2])]
def Ed.nw{es:List AD}{M:Nat}(h:Ed H w es M w'):Nw w w':=by
 obtain⟨N,-,-,-,-,-,I⟩:=h;exact I
variable{xs:List LE}
def Dl.nwS{w wr w2:AB}{l:List LE}{j M:Nat}(h:Dl w l wr j M s xs H)(k:Nw wr w2):Dl w l w2 j M s xs H:=
 ⟨h.ents,h.sub,GC h.map k,AZ h.own (F:=Lt wr) (gC k λb I=>I) (λb I=>(AM h.own I).2),h.low,λb I=>ab (h.below b I) k.size,h.row,h.nw.trans k,h.few⟩
def U'(l:List AD):∀{es:List AD},Sorted es->Sorted (A0 es l):=by
 induction l with
 |nil=>exactλh=>h
 |cons a l ih=>exactλh=>ih (EU h a.1 a.2)
variable{s0:Sl}
def S8{l:List LE}(hs:ES w (Lt w.heap.size) s0 l)(hl:l.length<=1000)(hc:∀x∈l,Ah x.v<=1100000):Calls prog 5 #[.slice s0.a l.length s0.c] w (lu w l):=by
 obtain⟨i0,hi,d9,e7,e2⟩:=eZ Tryz.DK;obtain⟨HS,HC⟩:=Yb hs hc;clear hs hc;go_in;go_wp2_with fail;generalize a4:World.alloc w _=w0;have b9:Ext w w0:=by rw[<-a4];exact(gz w).alloc _ _
 have a1:AE w0 w.heap.size 44 #[.slice none 0 0]:=by rw[<-a4];exact gB w _ _
 have hz:w0.heap.size=w.heap.size+1:=by rw[<-a4];exact eQ _ _
 have c9:=hY (show Dl w l w0 0 w.heap.size Sl.none [] (λb=>b=w.heap.size)from
  ⟨rfl,(λx hx=>by cases hx),⟨rfl,Sl.none,[],a1,⟨Rd.nil _ _ _,λx h=>by simp at h,oN⟩,rfl⟩,e9 _ _ _ _,(λb hb=>oM),(λb hb=>oM),(λb hb=>by simp[Sl.row,Sl.none]at hb),gA b9,ao _⟩)
 clear a4 b9 a1 hz;go_loopw[4,5,6] (λv4 v5 v6 wr=>∃(j M:Nat) (s:Sl) (xs:List LE) (H:Nat->Prop),v4=.pointer (some M)/\v5=.slice s.a xs.length s.c/\v6=.int .i64 (j:Int)/\j<=l.length/\Yd (Dl w l wr j M s xs H)) (λ_ _ v _=>l.length -(intOf v).toNat)
 case atStart=>exact⟨0,w.heap.size,Sl.none,[],_,rfl,rfl,rfl,aw _,c9⟩
 obtain⟨j,M,s,xs,H,rfl,rfl,rfl,hj,N⟩:=hrel;by_cases b6:j<l.length
 ·have l1:(j:Int)<(l.length:Int):=oM
  have f4:decide ((j:Int)<(l.length:Int))=true:=eO l1;have l0:(0:Int)<=(j:Int):=oM
  obtain⟨x,hx⟩:∃x,l[j]? = some x:=⟨_,ac b6⟩;have c7:=ap hx;obtain⟨b0,o0,c6,a1,f1,f3,cK,a5,d4,b4⟩:=HS.o.at hx;have b7:∀W,Nw w W->W.cell? ⟨b0,o0+j*7,none⟩=some (.string x.k)/\BR W b0 (o0+j*7+1) x.v x.sl x.so:=λW hW=>⟨(gC hW (F:=Lt w.heap.size) λb hb=>hb).cell a1 |>.trans cK,a5.agree (gC hW (F:=Lt w.heap.size) λb hb=>hb) a1⟩
  obtain⟨d7,d3,f2⟩:=Yc b7 hx b4;have I:=hY (show ∀W,Nw wr W->W.cell? ⟨b0,o0+j*7,none⟩=some (.string x.k)/\W.cell? ⟨b0,o0+j*7+1,none⟩=some (.int .i64 x.v.kind)/\W.cell? ⟨b0,o0+j*7+1+1,none⟩=some (.bool x.v.b)/\W.cell? ⟨b0,o0+j*7+1+2,none⟩=some (.int .i64 x.v.i)/\W.cell? ⟨b0,o0+j*7+1+3,none⟩=some (.string x.v.t)/\W.cell? ⟨b0,o0+j*7+1+4,none⟩=some (.slice x.sl.a x.v.l.length x.sl.c)/\W.cell? ⟨b0,o0+j*7+1+5,none⟩=some (.slice x.so.a x.v.ok.length x.so.c)from
   λW hW=>by
    obtain⟨h1,h2⟩:=b7 W (N.o.nw.trans hW);exact⟨h1,h2.c0,h2.c1,h2.c2,h2.c3,h2.c4,h2.c5⟩)
  have a7:=hY (show ∀W,Nw wr W->Calls prog 19 #[.pointer (some M),.string x.k,AS x.v x.sl x.so] W λe w'=>∃M',e=.returned (.tuple #[.pointer (some ⟨M',0,none⟩),.int .i64 (setMu (A0 [] (xs.map LE.ent)) x.k x.v).1])/\Ed H W (setMu (A0 [] (xs.map LE.ent)) x.k x.v).2 M' w' fromλW hW=>by
   have a0:=N.o.nwS hW;exact JR a0.map a0.below (U' _ List.Pairwise.nil) (by have h1:=FI (xs.map LE.ent) [];rw[aq]at h1;have h2:=a0.few;simp only[List.length_nil]at h1;omega) b4 ((d4.agree (gC a0.nw λb hb=>hb)).mono λb hb=>⟨Nat.lt_of_lt_of_le hb a0.nw.size,λhh=>by have:=a0.low b hh;have:b<w.heap.size:=hb;omega⟩) (HC.o x c7))
  rw[c6];clear b7 hx c7 c6 a1 cK a5 d4 b4;obtain⟨r,hr⟩:∃r,setMu (A0 [] (xs.map LE.ent)) x.k x.v=r:=⟨_,rfl⟩;rw[hr]at a7;have HR:=hY hr;clear hr;go_wp2_with fail;refine eV (S:=(λw'=>Nw wr w')) kM ((gA ((gz wr).drew))) (λhHeld=>?_);refine AF 0 (some 18) I hHeld ?_;refine AF 1 (some 19) I hHeld ?_;refine AF 2 (some 20) I hHeld ?_;refine AF 3 (some 21) I hHeld ?_;refine AF 4 (some 22) I hHeld ?_;refine AF 5 (some 23) I hHeld ?_;refine AF 6 (some 24) I hHeld ?_;refine AF 7 (some 25) I hHeld ?_;refine AF 8 (some 26) I hHeld ?_;refine AF 9 (some 27) I hHeld ?_;refine AF 10 (some 28) I hHeld ?_;refine Af (i:=11) kM rfl (by rfl) (λK hK=>?_);go_simp
  (have d6:=hY hHeld;refine(a7.o _ hHeld).mono ?_;rintro e w2 ⟨M2,rfl,Z⟩;have a9:=hY Z;clear Z)
  refine hK.out _ _ (hHeld.trans a9.o.nw) (λhHeld=>?_);clear hK K
  try go_frame
  refine AF 12 (some 17) I hHeld ?_;refine AF 13 (some 30) I hHeld ?_;refine AF 14 (some 31) I hHeld ?_;refine AF 15 (some 7) I hHeld ?_;refine AF 16 (some 8) I hHeld ?_;refine fa kM ?_ _;by_cases h0:r.1=0
  ·have g0:(r.1 == 0)=true:=by simp [h0]
   have hy:=Mt.1 (by rw[HR.o];exact h0:(setMu (A0 [] (xs.map LE.ent)) x.k x.v).1=0);obtain⟨HY,a8⟩:=Yb hy hHeld;have Z:=a9.o;rw[<-HR.o,TN hy]at Z;have b5:=hY Z;obtain⟨cK,a5⟩:=d7.o w2 (N.o.nw.trans hHeld);obtain⟨c0,c1,c2,c3,c4,c5⟩:=a5;have e4:=hY (gB w2 65 x.cells.toArray);have a6:Nw w2 (w2.alloc (.cells x.cells.toArray 65)):=gA ((gz w2).alloc _ _);have d5:=hY a6;have e3:=hY (N.o.nwS (hHeld.trans a6)).own;have b8:xs.length+1<=maxLen:=by have:=N.o.few;unfold maxLen;omega
   have d0:(xs.length+1)*104<=140737488355328:=by have:=N.o.few;omega
   have a3:w.heap.size<=(w2.alloc (.cells x.cells.toArray 65)).heap.size:=((N.o.nw.trans hHeld).trans a6).size;obtain⟨e8,e1,e6⟩:=Yc b8 d0 a3;clear h0 hy Z hHeld a6 b8 d0 a3;go_wp2_with(at_builtin;refine Bq _ rfl (.tmp 35) (.tmp 40) 22 rfl w.heap.size 65 i0 _ 7 104 underlying22 hi d9 e7 e2 rfl oN s xs.length (AP xs) rfl e3.o (λb=>b=w2.heap.size) ⟨some w2,1⟩ 1 x.cells rfl (gG e4.o oN rfl) (LE.one _) e8.o e1.o e6.o ?_;intro s7 w9 a2 b3 c8;have f0:=hY a2;have e0:=hY b3;have d8:=hY c8;clear a2 b3 c8);go_roundw
   case measure=>simp[intOf];omega
   obtain⟨H',a0⟩:=(N.o.nwS d6.o).more d3.o b5.o HY.o d5.o f0.o e0.o d8.o;exact⟨j+1,M2,s7,xs++[x],H',rfl,by rw[aj];rfl,by go_num,b6,hY a0⟩
  have g0:(r.1==0)=false:=eP.2 h0;obtain⟨HY,a8⟩:=Yb (show ¬(AT x.k=0/\AY x.v=0) fromλhy=>h0 (by rw[<-HR.o];exact Mt.2 hy)) hHeld;clear h0 hHeld;go_wp2_with fail;go_roundw
  case measure=>simp[intOf];omega
  exact⟨j+1,M,s,xs,H,rfl,rfl,by go_num,b6,hY (N.o.skip d3.o a8.o HY.o)⟩
 obtain rfl:j=l.length:=oM
 have l1:decide ((l.length:Int)<(l.length:Int))=false:=eM oM;go_wp2_with fail;refine eU (v:=.tuple #[.pointer (some M),.slice s.a xs.length s.c]) (by simp[results,results5,go_sem]) rfl ?_;exact⟨M,s,xs,H,rfl,N.o⟩
def qL{l:List LE}(hs:ES w (Lt w) s l):Ae (A0 [] (EW (l.map LE.ent))):=
 L9 Ae.nil λe I=>by
  unfold EW at I;rw[bK]at I;obtain⟨h1,h2⟩:=I;simp only[Bool.and_eq_true,beq_iff_eq]at h2;obtain⟨x,N,rfl⟩:=bX.1 h1;exact⟨h2.1,(hs.vals x N).1.wf,h2.2⟩
def Dl.es{w wr:AB}{l xs:List LE}{j M:Nat}(h:Dl w l wr j M s xs H)(hs:ES w (Lt w) s0 l)(Z:j<=1000):ES wr (Lt wr) s xs:=
 ⟨(gF h.own).mono λb I=>I.2,λx N=>⟨((hs.vals x (h.sub x N)).1.agree (gC h.nw λb I=>I)).mono λb I=>ab I h.nw.size,(hs.vals x (h.sub x N)).2⟩,by have:=h.few;omega⟩
def oS(l:List AD):(A0 [] (EW l)).length<=l.length:=by
 have h:=FI (EW l) [];have h2:(EW l).length<=l.length:=bE _ _;simp at h;omega
variable{P:Program}{Q:Exit->Act->AB->Prop}{a:Act}
def lZ{α:Type}{c:Code}(N:AB->α->Prop)(Z:List Nat)(last:α->List (Nat × Value))
  (h1:c.wp P (M3 λI w'=>∃x,N w' x/\I.defers=a.defers/\I.tmps=Ei a.tmps ((Z.map λd=>(d,I.tmps.getD d undef))++last x)) a w)
  (h2:∀(w':AB) (x:α) (vs:Nat->Value),N w' x->Q .normal { tmps:=Ei a.tmps ((Z.map λd=>(d,vs d))++last x),defers:=a.defers } w'):c.wp P Q a w:=
 wp_mono h1 λe I w' h=>by
  cases e with
  | normal=>
    obtain⟨x,hr,hd,ht⟩:=h;have:=h2 w' x (λd=>I.tmps.getD d undef) hr;rw[<-ht,<-hd]at this;exact this
  |_=>exact h.elim
variable{w1:AB}
def P6{l xs:List LE}{M:Nat}(h:Dl w l w1 l.length M s xs H)(hs:ES w (Lt w) s0 l)(hl:l.length<=60) :
  ∃E:List AD,Ae E/\E.length<=60/\MapAt H w1 M E/\∀W,Nw w1 W->Calls prog 9 #[.slice s.a xs.length s.c] W λe w2=>∃T p,e=.returned (.agg #[.pointer p])/\Aa T=.pointer p/\Am T/\AG T=E/\AV w2 (In W.heap.size w2.heap.size) T/\Ext W w2:=by
 have I:=h.ents;rw[aR]at I;have a0:=qL hs;have Z:=oS (l.map LE.ent);rw[aq]at Z;rw[<-I]at a0 Z;have a1:=h.few;refine⟨_,a0,oM,h.map,λW hW=>(Z0 ((h.nwS hW).es hs oM) oM).mono ?_⟩;rintro e w2 ⟨T,rfl,N,hT,hx⟩;obtain⟨p,hp⟩:=BM T;exact⟨T,p,by rw[AO,hp],hp,N.both.1,N.both.2,hT,hx⟩
structure PO(n B m:Nat)(w:AB)(E U:List AD)(L:List Nm)(sL sC:Sl):Prop where
 ex:∃V p,Aa V=.pointer p/\Am V/\AV w (λi=>n<=i/\i<w.heap.size/\i≠B) V/\AG V=(BA (A8 L) U).2/\Ae (AG V)/\AE w B 36 #[.pointer p]/\∃cs:List CE,cs.length=m/\cs.map CE.c=chg E (AG V)/\CS w (λi=>n<=i/\i<w.heap.size/\i≠B) sC cs
 row:A7 w (λi=>n<=i/\i<w.heap.size/\i≠B) sL L
 low:n<=B
variable{z:Value}{F':Nat->Prop}
def YH{E U:List AD}{L:List Nm}{sL sC:Sl}{V:RT}{p:Option Addr}{cs:List CE}(hp:Aa V=.pointer p)(ok:Am V)(he:AG V=(BA (A8 L) U).2)(hM:Ae (AG V))(hV:AV w F V)(hr:A7 w F' sL L)(hc:cs.map CE.c=chg E (AG V))(hs:CS w F' sC cs)(hb:AE w B 36 #[z])(hl:n<=B)
  (hF:∀i,F i->n<=i/\i<w.heap.size/\i≠B) (I:∀i,F' i->n<=i/\i<w.heap.size/\i≠B):PO n B cs.length (w.setCell B (.pointer p)) E U L sL sC:=by
 have Z (G:Nat->Prop) (hG:∀i,G i->n<=i/\i<w.heap.size/\i≠B):Agree G w (w.setCell B (.pointer p)):=gD w B _ λh=>(hG _ h).2.2 rfl
 have N (G:Nat->Prop) (hG:∀i,G i->n<=i/\i<w.heap.size/\i≠B):∀i,G i->n<=i/\i<(w.setCell B (.pointer p)).heap.size/\i≠B:=by rw[eX];exact hG
 exact⟨⟨V,p,hp,ok,(hV.agree (Z F hF)).mono (N F hF),he,hM,hb.AX 0 _,cs,rfl,hc,(hs.LU (Z F' I)).Np (N F' I)⟩,(hr.agree (Z F' I)).mono (N F' I),hl⟩
variable{U:RT}
def WN{p q:Option Addr}{FT FU G:Nat->Prop}{ms:List Nm}{last:Int}(hp:Aa T=.pointer p)(ok:Am T)(hT:AV W FT T)(hF:∀b,FT b->b<W.heap.size)(hl:(AG T).length<=5000)(hq:Aa U=.pointer q)(h:C7 W FU G U s ms) :
  Calls prog 10 #[.agg #[.pointer p],.agg #[.pointer q],.int .u64 last,.slice s.a ms.length s.c] W λe w'=>∃(V:RT) (p3:Option Addr) (sL Z:Sl) (cs:List CE),e=.returned (.tuple #[.agg #[.pointer p3],.slice sL.a (BH last ms).length sL.c,.slice Z.a cs.length Z.c])/\Aa V=.pointer p3/\Am V/\AG V=(BA (A8 (BH last ms)) (AG U)).2/\Ae (AG V)/\AV w' (Up FU W w') V/\A7 w' (In W.heap.size w'.heap.size) sL (BH last ms)/\cs.map CE.c=chg (AG T) (AG V)/\CS w' (In W.heap.size w'.heap.size) Z cs/\Nw W w':=by
 have h:=Uk (last:=last) hT hF ok hl h;rw[AO,AO,hp,hq]at h;refine h.mono ?_;rintro e w' ⟨V,sL,Z,cs,rfl,I⟩;obtain⟨p3,N⟩:=BM V;exact⟨V,p3,sL,Z,cs,by rw[AO,N],N,I.ok,I.ents,I.okM,I.tree,I.row,I.chg,I.cs,I.nw⟩
def kh(h:AV w F T)(hF:∀b,F b->b<w.heap.size):AV w.drew F T:=h.agree (((gz w).drew).agree hF)
end Go.Proofs.YtahhllcdbjbpbaaGreatDoor
