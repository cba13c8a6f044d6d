/- What the theorem needs of the texts IntA, Law13a, Row13, Kn13, Kn13b, At01, Val01, Bare02, May02, Deep02, Runes01, Bytes01, Quote01, Digits03, Text03, Fits03, RefA12: no condition of its own. -/
import Derived.Test.YtkjkafgnnoidpaaGreatDoorPgj
import Derived.Test.YtkjkafgnnoidpaaGreatDoorPgl
import Derived.Test.YtkjkafgnnoidpaaGreatDoorPgb
set_option linter.unusedVariables false
set_option linter.unusedSimpArgs false
set_option linter.unnecessarySimpa false
set_option maxRecDepth 100000
set_option maxHeartbeats 4000000
namespace Go.Proofs.YtkjkafgnnoidpaaGreatDoor
open Go.Proofs.Tryz
open Go.RowKit Go.Maps Go.Shelf
def foldM(l:List Mu)(M:List Ent):Nat × List Ent:=l.foldl (λp m=>(if(runM p.2 m).1=0 then p.1 else p.1+1,(runM p.2 m).2)) (0,M)
variable{j:Nat}
theorem QlB{l:List Mu}{x:Mu}(h:l[j]? = some x)(M:List Ent):foldM (l.take (j+1)) M=(if(runM (foldM (l.take j) M).2 x).1=0 then(foldM (l.take j) M).1 else(foldM (l.take j) M).1+1,(runM (foldM (l.take j) M).2 x).2):=by
 rw[aZ,h];unfold foldM;show((l.take j)++[x]).foldl _ _=_;rw[List.foldl_append];rfl
theorem QlC(l:List Mu)(M:List Ent):∀j,(foldM (l.take j) M).1<=j
 |0=>an _
 | j+1=>by
   have z:=QlC l M j;cases D:l[j]? with
   |none=>rw[aZ,D];show(foldM (l.take j++[]) M).1<=_;rw[bc];omega
   | some x=>
     rw[QlB D];dsimp only;split
     .exact Nat.le_succ_of_le z
     exact Nat.succ_le_succ z
variable{w:World}{F:Nat->Prop}{T:RT}{s:Sl}
theorem Qqs{l:List Mu}(hT:IsT w F T)(hF:∀b,F b->6<=b/\b<w)(ok:OkR T)(hM:OkM (Qab T))(hr:Qsd w (Lt w) s l)(hL:Qb9 w)
  (hd:∀j m,l[j]? = some m->QbE m=0->(foldM (l.take j) (Qab T)).2.length+Qcd m (foldM (l.take j) (Qab T)).2<=1000000) (f3:∀j,(foldM (l.take j) (Qab T)).2.length<=1000000) (ht:Qdr l<=1100000) :
  Calls prog 35 #[Qau T,.slice s.a l.length s.c] w λe w'=>∃T',e=.returned (.tuple #[Qau T',.int .i64 ((foldM l (Qab T)).1:Int)])/\OkR T'/\IsT w' (Up F w w') T'/\Qab T'=(foldM l (Qab T)).2/\OkM (Qab T')/\Nw w w'/\(l=[]->T'=T):=by
 obtain⟨p,hp⟩:=Qaq T;have HP:=hY hp;have HT:=hY hT;have HF:=hY hF;have i0:=hY ok;have g8:=hY hM;have i8:=hY hr;have HL:=hY hL;have HD:=hY hd;have i2:=hY ht;have g4:=hY f3;have i9:=hr.len;rw[Qau,hp];clear hp hT hF ok hM hr hL hd ht f3;go_in;go_upto_region 1 with fail;generalize e1:World.alloc _ _=W0;obtain⟨e7,f2,f1,f0⟩:=Qap w _ _ _ _ W0 e1;have N:=hY e7;have g9:=hY f1;have g7:=hY f0;have c8:=hY f2;clear e1 e7 f1 f0 f2;go_wp2_with fail;go_loopw[6,13] (λv6 g6 wr=>∃(j:Nat) (L:RT) (Z:Option Addr),g6=.int .i64 (j:Int)/\v6=.int .i64 ((foldM (l.take j) (Qab T)).1:Int)/\j<=l.length/\Yd (Qay L=.pointer Z)/\Yd (Blk wr w.heap.size 41 #[.pointer Z])/\Yd (OkR L)/\
  Yd (IsT wr (λb=>F b\/(W0<=b/\b<wr)) L)/\Yd (Qab L=(foldM (l.take j) (Qab T)).2)/\Yd (OkM (Qab L))/\Yd (Sb (λb=>b=w.heap.size) W0 wr)/\Yd (j=0->L=T)) (λ_ v _=>l.length -(intOf v).toNat)
 case atStart=>exact⟨0,T,p,rfl,rfl,av _,HP,g9,i0,hY ((HT.o.agree (N.o.agree λb D=>(HF.o b D).2)).mono λb D=>.inl D),hY rfl,g8,hY (fB _ _),hY λ_=>rfl⟩
 obtain⟨j,L,Z,rfl,rfl,hj,f5,a9,b6,d6,b0,e0,I,c4⟩:=hrel;obtain⟨nr,b8⟩:∃n,(foldM (l.take j) (Qab T)).1=n:=⟨_,rfl⟩;rw[b8];have c7:=hY b8;clear b8;by_cases d4:j<l.length
 ·have l1:(j:Int)<(l.length:Int):=by omega
  have j3:decide ((j:Int)<(l.length:Int))=true:=ej l1;have l0:(0:Int)<=(j:Int):=by omega
  obtain⟨x,hx⟩:∃x,l[j]? = some x:=⟨_,ac d4⟩;obtain⟨b,o,cc,d0,e4,d7⟩:=i8.o.ex;obtain⟨g3,j1,j0⟩:=d0.eq (by omega);have i6:b<w:=d0.fits (by omega);have hz:=c8.o;have z1:=N.o.size;have z2:=I.o.size;have J:Nw w wr:=(fv N.o).comp I.o λi hi e=>by omega
  have b7:=hY ((e4 j x hx).nw J);have j2:=b7.o.lt;have Y:∀W,Ext wr W->Calls prog 25 #[.agg #[.pointer Z],QaG x (cc j)] W λe w'=>∃T',e=.returned (.tuple #[Qau T',.int .i64 (runM (Qab L) x).1])/\OkR T'/\IsT w' (Up (λb=>F b\/(W0<=b/\b<wr)) W w') T'/\Qab T'=(runM (Qab L) x).2/\OkM (runM (Qab L) x).2/\Nw W w':=λW hW=>by
   have h:=QnZ (w:=W) (F:=λb=>F b\/(W0<=b/\b<wr)) (T:=L) (m:=x) (c:=cc j) (d6.o.agree (hW.agree λb D=>D.elim (λe=>ab (HF.o b e).2 J.size) λe=>e.2)) (λb D=>⟨D.elim (λe=>(HF.o b e).1) λe=>by have:=HL.o.lib.big;omega,ab (D.elim (λe=>ab (HF.o b e).2 J.size) λe=>e.2) hW.size⟩) b6.o e0.o ((d7 j x hx).nw (J.trans (fv hW))) (HL.o.nw (J.trans (fv hW))) (by rw[b0.o];exact HD.o j x hx) (by rw[b0.o];exact g4.o j) (aj (Qgp hx) i2.o);rw[Qau,f5.o]at h;exact h.mono λe w' ⟨T2,a1,a2,a3,a4,a5,a6,_⟩=>⟨T2,a1,a2,a3,a4,a5,a6⟩
  have c3:=hY Y;have i3:=hY (QlB hx (Qab T));have q0:wr.cell? ⟨w,0,none⟩=some (.pointer Z):=a9.o.cell 0;have l2:=a9.o.lt;have i7:=QlC l (Qab T) j;rw[c7.o]at i7;rw[g3];clear d0 e4 d7 i6 Y hx J hz z1 z2;go_wp2_with(first |(refine Qak rfl (.tmp 15) rfl b (o+j*19) rfl x (cc j) b7.o ?_) |(refine Qa0 rfl rfl rfl x (cc j) (w0:=wr) (b:=wr) rfl ((fu wr).alloc _ _) (fx wr _ _) rfl rfl rfl ?_;intro w5 d3 d5;have b3:=hY d3;have q5:=(d3.cell l2).trans q0;have i5:=hY (fD d5);clear d3 d5) |(refine Qak rfl (.tmp 8) rfl wr.heap.size 0 rfl x (cc j) i5.o ?_));refine(c3.o _ b3.o).mono ?_;rintro e w6 ⟨T2,rfl,e6,d8,c1,c2,c9⟩;obtain⟨p2,c0⟩:=Qaq T2;rw[Qau,c0];obtain⟨q,hq⟩:∃q,runM (Qab L) x=q:=⟨_,rfl⟩;rw[hq]at c1 c2 ⊢;have z:=i3.o;rw[<-b0.o,hq,c7.o]at z;have HA:=hY z;have U:=c9.blk (a9.o.ext b3.o);have c6:w6.cell? ⟨w,0,none⟩=some (.pointer Z):=U.cell 0;have f6:=U.frozen 0;have l6:=U.lt;have i1:=hY U;have e8:=hY c0;have f9:=hY e6;have g5:=hY d8;have a8:=hY c1;have f7:=hY c2;have e3:=hY c9;clear z U c0 e6 d8 c1 c2 c9 hq q5 q0 l2;have b5:∀W,(w6.setCell ⟨w,0,none⟩ (.pointer p2)).alloc (.cells #[.pointer p2] 41)=W->Blk W w.heap.size 41 #[.pointer p2]/\IsT W (λb=>F b\/(W0<=b/\b<W)) T2/\Sb (λb=>b=w.heap.size) W0 W:=λW hW=>by
   subst hW;have hz:=c8.o;have s0:Sb (λi=>i=w.heap.size) w6 (w6.setCell ⟨w,0,none⟩ (.pointer p2)):=(fB (λi=>i=w.heap.size) _).set (p:=⟨w,0,none⟩) (.inr rfl) _;have a0:=(fu (w6.setCell ⟨w,0,none⟩ (.pointer p2))).alloc #[.pointer p2] 41;have z0:=I.o.size;have z1:=b3.o.size;have z2:=e3.o.size;have z3:=s0.size;have z4:=a0.size;refine⟨(i1.o.Qdz 0 (.pointer p2)).ext a0,((g5.o.agree λb D=>s0.block b ?_ ?_).agree (a0.agree λb D=>?_)).mono λb D=>?_,((I.o.trans (Nw.any ((fv b3.o).trans e3.o) _)).trans s0).trans (Nw.any (fv a0) _)⟩
   ·rcases D with (e | e) | e
    .have:=(HF.o b e).2;omega
    .omega
    exact e.2
   ·intro e2
    rcases D with(e|e)|e
    .have:=(HF.o b e).2;omega
    .omega
    omega
   ·rcases D with (e | e) | e
    .have:=(HF.o b e).2;omega
    .omega
    have:=e.2;omega
   rcases D with(e|e)|e
   .exact .inl e
   .exact .inr ⟨e.1,by omega⟩
   exact .inr ⟨by omega,by omega⟩
  have b4:=hY b5;clear b5;by_cases h0:q.1=0
  ·have g0:(q.1 == 0)=true:=by simp [h0]
   have z:=HA.o;rw[em h0]at z;have X:=hY z;clear h0 z;go_wp2_with fail;generalize R:World.alloc (World.setCell _ _ _) _=w7;obtain⟨r1,r2,r3⟩:=b4.o _ R;have R1:=hY r1;have R2:=hY r2;have R3:=hY r3;clear r1 r2 r3 R;go_roundw
   case measure=>simp[intOf];omega
   exact⟨j+1,T2,p2,by go_num,by rw[X.o],d4,e8,R1,f9,R2,hY (by rw[X.o];exact a8.o),hY (by rw[a8.o];exact f7.o),R3,hY λh=>absurd h (Nat.succ_ne_zero j)⟩
  have g0:(q.1==0)=false:=eu.2 h0;have z:=HA.o;rw[ef h0]at z;have X:=hY z;clear h0 z;go_wp2_with fail;generalize R:World.alloc (World.setCell _ _ _) _=w7;obtain⟨r1,r2,r3⟩:=b4.o _ R;have R1:=hY r1;have R2:=hY r2;have R3:=hY r3;clear r1 r2 r3 R;go_roundw
  case measure=>simp[intOf];omega
  exact⟨j+1,T2,p2,by go_num,by rw[X.o];go_num,d4,e8,R1,f9,R2,hY (by rw[X.o];exact a8.o),hY (by rw[a8.o];exact f7.o),R3,hY λh=>absurd h (Nat.succ_ne_zero j)⟩
 obtain rfl:j=l.length:=by omega
 have l1:decide ((l.length:Int)<(l.length:Int))=false:=eh (by omega);have hz:=c8.o;have q0:wr.cell? ⟨w,0,none⟩=some (.pointer Z):=a9.o.cell 0;have a7:=I.o.blk g7.o (by omega);have i4:=hY a7;have q4:wr.cell? ⟨w+1,0,none⟩=some _:=a7.cell 0;have f4:=a7.frozen 0;clear a7;have f8:=hY (show foldM (l.take l.length) (Qab T)=foldM l (Qab T)by rw[aP]);go_wp2_with fail;generalize hW:World.setCell _ _ _=W;have hs:Sb (λi=>i=w.heap.size+1) wr W:=by rw[<-hW];exact(fB (λi=>i=w.heap.size+1) wr).set (p:=⟨w+1,0,none⟩) (.inr rfl) _
 have D:Blk W (w.heap.size+1) 41 #[.pointer Z]:=by rw[<-hW];exact i4.o.Qdz 0 (.pointer Z)
 have q5:W.cell? ⟨w+1,0,none⟩=some (.pointer Z):=D.cell 0;clear hW q0 q4 f4;have hn:nr=(foldM l (Qab T)).1:=by rw[<-c7.o,f8.o]
 rw[hn];refine eD (v:=.tuple #[.agg #[.pointer Z],.int .i64 ((foldM l (Qab T)).1:Int)]) (by simp[results,results35,go_sem,q5]) rfl ?_;have z1:=N.o.size;have z2:=I.o.size;have z3:=hs.size;refine⟨L,by rw[Qau,f5.o],b6.o,(d6.o.agree λb D=>hs.block b ?_ ?_).mono λb D=>?_,by rw[b0.o,f8.o],e0.o,((fv N.o).comp I.o λi hi e=>by omega).comp hs λi hi e=>by omega,λh=>c4.o (by rw[h];rfl)⟩
 ·rcases D with e | e
  .have:=(HF.o b e).2;omega
  exact e.2
 ·intro e2
  rcases D with e|e
  .have:=(HF.o b e).2;omega
  omega
 rcases D with e|e
 .exact .inl e
 exact .inr ⟨by omega,by omega⟩
theorem QcB(w:World)(n:Int):Calls prog 15 #[.int .i64 n] w λe w'=>e=.returned (QuH n)/\Ext w w':=by
 go_in;go_wp2_with fail;refine eD (v:=QuH n) (by simp[results,results15,go_sem];rfl) rfl ?_;exact⟨rfl,(fu w).alloc _ _⟩
variable{xs:List LE}
theorem QoJ(hF:∀b,F b->b<w)(hT:IsT w F T)(ok:OkR T)(hl:(Qab T).length<=1000000)(hs:ES w (Lt w) s xs) :
  Calls prog 22 #[Qau T,.slice s.a xs.length s.c] w λe w'=>e=.returned (.bool (QcT (Qab T) (xs.map LE.ent)))/\Ext w w':=by
 obtain⟨p,hp⟩:=Qaq T;have N:∀W,Ext w W->Calls prog 31 #[.agg #[.pointer p]] W (QaQ (Qab T) W):=λW X=>by
  have h:=QcG (w:=W) (λb z=>ab (hF b z) X.size) (hT.agree (X.agree hF)) ok hl;rwa[Qau,hp]at h
 have L:∀(W:World) (D:Sl) (I:List LE),Ext w W->ES W (Lt W) D I->I.map LE.ent=Qab T->Calls prog 30 #[.slice D.a I.length D.c,.slice s.a xs.length s.c] W λe w'=>e=.returned (.bool (QcT (Qab T) (xs.map LE.ent)))/\Ext W w':=λW D I X he hx=>by
  have h9:=Qk9 he ((hs.agree (X.agree λb z=>z)).mono λb z=>ab z X.size);rwa[hx]at h9
 have a0:=hY N;have a1:=hY L;rw[Qau,hp];clear N L hF hT ok hl hs hp;go_in;go_wp2_with fail;refine(a0.o _ ((fu w).alloc _ _)).mono ?_;rintro e w1 ⟨D,I,rfl,Y,R,J⟩;have a3:=hY (R.es.mono (G:=Lt w1) λb z=>z.2);have a2:=hY Y;have Z:=hY (((fu w).alloc #[.pointer p] 41).trans J);clear Y R J;go_wp2_with fail;refine(a1.o _ D I Z.o a3.o a2.o).mono ?_;rintro e w2 ⟨rfl,U⟩;have a4:=hY (Z.o.trans U);clear U;go_wp2_with fail;go_ret;exact⟨rfl,a4.o⟩
theorem Qgl(w:World)(F:Nat->Prop){n:Int}(z:(Lit.int .i64 n).wf=true):RV w F (Qbs n) Sl.none Sl.none:=RV.flat _ _ _ _ _ _ (by decide) z (by decide)
theorem QsY(w:World)(F:Nat->Prop):RV w F (Qf2 []) Sl.none Sl.none:=RV.flat _ _ _ _ _ _ (by decide) (by decide) (by decide)
theorem QsZ{n:Int}{b:Nat}(I:Blk w b 28 #[.int .i64 3,.bool false,.int .i64 n,.string ByteArray.empty,.slice none 0 0,.slice none 0 0])(hF:F b)(D:(Lit.int .i64 n).wf=true):RV w F (Qf2 [Qbs n]) ⟨some ⟨b,0,none⟩,1⟩ Sl.none:=by
 obtain⟨U,L,N,J,R,c5⟩:=I.c6;refine .mk b 0 0 0 (λ_=>(Sl.none,Sl.none)) (λ_=>(Sl.none,Sl.none)) (.some _ _ _ _ (an _) (by decide) hF) (.nil _ _) rfl (λj d z=>?_) (λj d z=>?_) (λj k h=>by simp at h) (λj k h=>by simp at h) (λj k h=>by simp at h) (by decide) (by decide) (by decide) (show 1*88<=140737488355328 by decide) (by decide)
 ·match j,z with
  | 0,z=>
    simp at z;subst z;exact⟨U,L,N,J,R,c5⟩
 match j,z with
 | 0,z=>
   simp at z;subst z;exact RV.flat _ _ _ _ _ _ (by decide) D (by decide)
variable{g:Nat}
theorem QrU(z:Blk w g 70 (Qai xs).toArray)(I:∀x∈xs,RV w (Lt w) x.v x.sl x.so/\x.k.size<=maxLen)(D:xs.length<=1000000):ES w (Lt w) ⟨some ⟨g,0,none⟩,xs.length⟩ xs:=
 ⟨(fG (cs:=Qai xs) (n:=xs.length) (size:=7) z (aj D (by decide)) (Qcy xs)).mono λi hi=>by subst hi;exact z.lt,I,by omega⟩
theorem QgW{U:Int}{k N:ByteArray}{i:Int}{had:Bool}{was:Val}{D:Bool}{v:Val}{L R J I:Sl}(h1:RV w F was L R)(h2:RV w F v J I)(Y:k.size<=maxLen)(bt:N.size<=maxLen)(z:(Lit.int .i64 U).wf=true)(X:(Lit.int .i64 i).wf=true) :
  RMu w F (.mk U k N i had was D v []) ⟨L,R,J,I,Sl.none⟩:=
 .mk 0 0 (λ_=>default) h1 h2 (.nil _ _) (λj m h=>by simp at h) (λj m h=>by simp at h) Y bt z X (by simp)
variable{B:Nat}
theorem Qtx{l:List (Mu × MuS)}(L:Blk w B 31 (l.flatMap λp=>QaE p.1 p.2).toArray)(N:∀p∈l,RMu w (Lt w) p.1 p.2)(R:l.length<=1000)(U:Qdr (l.map Prod.fst)<=1099000) :
  Qsd w (Lt w) ⟨some ⟨B,0,none⟩,l.length⟩ (l.map Prod.fst):=by
 have I:∀(l:List (Mu × MuS)) (j:Nat) (p:Mu × MuS),l[j]? = some p->∀i u,(QaE p.1 p.2)[i]? = some u->(l.flatMap λp=>QaE p.1 p.2)[j*19+i]? = some u:=by
  intro l
  induction l with
  |nil=>intro j p h;simp at h
  | cons a r ih=>
    intro j p h i u hu;have hi:i<19:=(ah.1 hu).1;rw[ba];cases j with
    | zero=>
      have:a=p:=by simpa using h
      subst this;rw[cG,aB,bm (by rw[QgS];exact hi)];exact hu
    | succ j=>
      rw[aU (by rw[QgS];omega),QgS,show(j+1)*19+i-19=j*19+i by omega];exact ih j p (by simpa using h) i u hu
 refine⟨⟨B,0,λj=>((l[j]?).getD default).2,?_,λj m z=>?_,λj m z=>?_⟩,U,by rw[aq];omega⟩
 ·rw [aq]
  exact .some _ _ _ _ (an _) (aj R (by decide)) L.lt
 ·rw [ao] at z
  cases D:l[j]? with
  |none=>rw[D]at z;cases z
  | some p=>
    rw[D]at z;injection z with z;subst z;intro i u hu;rw[aB,L.cell];have J:(QaE p.1 p.2)[i]? = some u:=by
     have h:=hu;dsimp only at h;rw[D]at h;exact h
    rw[List.getElem?_toArray];exact I l j p D i u J
 rw[ao]at z;cases D:l[j]? with
 |none=>rw[D]at z;cases z
 | some p=>
   rw[D]at z;injection z with z;subst z;dsimp only;rw[D];exact N p (al D)
section
variable{P : Program}{c : Code}{Q : Exit -> Act -> World -> Prop}{a : Act}{w : World}
def Qf1(tm:Array Value):List (Nat × Value)->Array Value
 |[]=>tm
 |(i,v)::l=>Qf1 (tm.setIfInBounds i v) l
def QtK(R:Act->World->Prop):Exit->Act->World->Prop
 |.normal,a,w=>R a w
 |_,_,_=>False
theorem QiH{R:Act->World->Prop}(h:R a w):QtK R .normal a w:=h
theorem QiQ(I:World->Nat->Value->Prop)(J:List Nat)(z:Nat->Value->List (Nat × Value))
  (h1:c.wp P (QtK λD w'=>∃b u,I w' b u/\D.defers=a.defers/\D.tmps=Qf1 a.tmps ((J.map λd=>(d,D.tmps.getD d undef))++z b u)) a w)
  (h2:∀(w':World) (b:Nat) (u:Value) (R:Nat->Value),I w' b u->Q .normal { tmps:=Qf1 a.tmps ((J.map λd=>(d,R d))++z b u),defers:=a.defers } w'):c.wp P Q a w:=
 wp_mono h1 λe D w' h=>by
  cases e with
  | normal=>
    obtain⟨b,u,L,hd,N⟩:=h;have:=h2 w' b u (λd=>D.tmps.getD d undef) L;rw[<-N,<-hd]at this;exact this
  |_=>exact h.elim
end
theorem Qcb{X W:World}{c:Array Value}{t:TypeId}(h:X.alloc (.cells c t)=W):Ext X W/\Blk W X.heap.size t c/\X.heap.size<W.heap.size:=by
 rw[<-h];exact⟨(fu X).alloc _ _,fx X _ _,by rw[ew];omega⟩
variable{w0:World}
theorem QkX(h:Nw w0 w){b o:Nat}(z:w0<=b)(v:Value):Nw w0 (w.setCell ⟨b,o,none⟩ v):=
 h.comp ((fB (λi=>i=b) w).set (p:=⟨b,o,none⟩) (.inr rfl) v) λi hi e=>by omega
theorem Qts(h:IsT w F T){b o:Nat}(z:¬F b)(hF:∀b,F b->b<w)(v:Value):IsT (w.setCell ⟨b,o,none⟩ v) F T:=
 h.agree λi hi=>((fB (λi=>i=b) w).set (p:=⟨b,o,none⟩) (.inr rfl) v).block i (hF i hi) λe=>z (e▸hi)
def Qsa(E:List Ent)(n:Nat)(w':World)(b:Nat):Prop:=∃T p,Qay T=.pointer p/\OkR T/\Qab T=E/\IsT w' (λi=>n<=i/\i<w'.heap.size/\i≠b) T/\Blk w' b 41 #[.pointer p]/\n<=b
variable{n:Nat}{E:List Ent}
theorem Qlv{p:Option Addr}{b:Nat}{z:Value}(I:Qay T=.pointer p)(ok:OkR T)(D:Qab T=E)(L:IsT w F T)(N:Blk w b 41 #[z])(J:n<=b)(hF:∀i,F i->n<=i/\i<w/\i≠b) :
  Qsa E n (w.setCell ⟨b,0,none⟩ (.pointer p)) b:=
 ⟨T,p,I,ok,D,(Qts L (λh=>(hF b h).2.2 rfl) (λi hi=>(hF i hi).2.1) _).mono λi hi=>⟨(hF i hi).1,ab (hF i hi).2.1 ((fB (λi=>i=b) w).set (p:=⟨b,0,none⟩) (.inr rfl) (.pointer p)).size,(hF i hi).2.2⟩,N.Qdz 0 (.pointer p),J⟩
abbrev QrF(a b c:ByteArray)(u v x:Val)(sl:Sl):List LE:=[⟨a,u,Sl.none,Sl.none⟩,⟨b,v,sl,Sl.none⟩,⟨c,x,Sl.none,Sl.none⟩]
variable{sl:Sl}
theorem Ql9{a:ByteArray}{v:List Val}{n:Int}(J:a.size<=maxLen)(I:RV w (Lt w) (Qf2 v) sl Sl.none)(D:(Lit.int .i64 n).wf=true):∀x∈QrF a kL1 kX1 (Qbs 5) (Qf2 v) (Qbs n) sl,RV w (Lt w) x.v x.sl x.so/\x.k.size<=maxLen:=λx z=>by
 simp only[List.mem_cons,List.not_mem_nil,or_false]at z;rcases z with rfl|rfl|rfl
 .exact ⟨Qgl _ _ (by decide),J⟩
 .exact ⟨I,(by decide:kL1.size<=maxLen)⟩
 exact⟨Qgl _ _ D,(by decide:kX1.size<=maxLen)⟩
theorem Qsj(N:Blk w g 70 (Qai (QrF kAi kL1 kX1 (Qbs 5) (Qf2 []) (Qbs 1) Sl.none)).toArray) :
  Calls prog 13 #[.slice (some ⟨g,0,none⟩) 3 3] w λe w'=>∃T p,e=.returned (.agg #[.pointer p])/\Qay T=.pointer p/\OkR T/\Qab T=QaY kAi [] 1/\IsT w' (In w.heap.size w'.heap.size) T/\Ext w w':=by
 have I:=QrU N (Ql9 (by decide) (QsY _ _) (by decide)) (by decide);refine(Qi8 I (by decide)).mono ?_;rintro e w' ⟨T,rfl,z,J,L⟩;obtain⟨p,D⟩:=Qaq T;refine⟨T,p,by rw[Qau,D],D,z.both.1,?_,J,L⟩;rw[z.both.2];show QaJ [] (QaY kAi [] 1)=_;simp[QaJ,Qbq,QsC,QsD,QsE]
abbrev zS:MuS:=⟨Sl.none,Sl.none,Sl.none,Sl.none,Sl.none⟩
theorem QrZ(w:World)(F:Nat->Prop){k:ByteArray}{n:Int}(D:k.size<=maxLen)(z:(Lit.int .i64 n).wf=true):RMu w F (Qhr k n) zS:=QgW (Qcj _ _) (Qcj _ _) D (by decide) (by decide) z
theorem Qtz(w:World)(F:Nat->Prop){k:ByteArray}(z:k.size<=maxLen):RMu w F (QqG k) zS:=QgW (Qcj _ _) (Qcj _ _) z (by decide) (by decide) (by decide)
theorem Qty(w:World)(F:Nat->Prop){k:ByteArray}{n:Int}(D:k.size<=maxLen)(z:(Lit.int .i64 n).wf=true):RMu w F (Qoc k (Qbs n)) zS:=QgW (Qgl _ _ z) (Qcj _ _) D (by decide) (by decide) (by decide)
theorem Qtw(w:World)(F:Nat->Prop){k:ByteArray}{n:Int}(D:k.size<=maxLen)(z:(Lit.int .i64 n).wf=true):RMu w F (Qkx k (Qbs n)) zS:=QgW (Qcj _ _) (Qgl _ _ z) D (by decide) (by decide) (by decide)
theorem Qpl(w:World)(F:Nat->Prop){f t:ByteArray}(z:f.size<=maxLen)(D:t.size<=maxLen):RMu w F (Qch f t) zS:=QgW (Qcj _ _) (Qcj _ _) z D (by decide) (by decide)
abbrev Qr0:List (Mu × MuS):=[(Qhr kX1 2,zS),(Qkx kL1 (Qbs 7),zS),(Qch kAs kBs,zS)]
theorem QoH:foldM [Qhr kX1 2,Qkx kL1 (Qbs 7),Qch kAs kBs] (QaY kAi [] 1)=(0,QaY kB1 [Qbs 7] 3):=by
 unfold foldM;simp only[List.foldl_cons,List.foldl_nil];rw[QsT];dsimp only;rw[QtO];dsimp only;rw[Qut];rfl
theorem QgI(j:Nat):(foldM ([Qhr kX1 2,Qkx kL1 (Qbs 7),Qch kAs kBs].take j) (QaY kAi [] 1)).2.length=3:=by
 match j with
 |0=>rfl
 |1=>simp only[List.take_succ_cons,List.take_zero,foldM,List.foldl_cons,List.foldl_nil,QsT];rfl
 |2=>simp only[List.take_succ_cons,List.take_zero,foldM,List.foldl_cons,List.foldl_nil,QsT,QtO];rfl
 |j+3=>rw[bj (by simp),QoH];rfl
theorem Qc9(I:Int)(k D:ByteArray)(i:Int)(had:Bool)(was:Val)(z:Bool)(v:Val):QaT (.mk I k D i had was z v [])=1:=by rw[QaT,QaC]
variable{M:List Ent}{c:MuS}
theorem QuZ{p:Option Addr}{m:Mu}(Z:Qay T=.pointer p)(ok:OkR T)(L:Qab T=M)(U:IsT w F T)(hF:∀b,F b->6<=b/\b<w)(N:OkM M)(hl:M.length<=5000)(X:RMu w (Lt w) m c)(ht:QcF m<=1100000)(J:Qb9 w) :
  Calls prog 25 #[.agg #[.pointer p],QaG m c] w λe w'=>∃T' D,e=.returned (.tuple #[.agg #[.pointer D],.int .i64 (runM M m).1])/\Qay T'=.pointer D/\OkR T'/\IsT w' (Up F w w') T'/\Qab T'=(runM M m).2/\OkM (runM M m).2/\Nw w w'/\((runM M m).2=M->T'=T):=by
 subst L;have h:=QnZ U hF ok N X J (λI=>by
  have hs:QaT m<=64:=by unfold QbE at I;split at I<;>omega
  have:=Nat.mul_le_mul hs (show 2*((Qab T).length+QaT m)+1<=10129 by omega);unfold Qcd;omega) (by omega) ht
 rw[Qau,Z]at h;refine h.mono ?_;rintro e w' ⟨T',rfl,h1,h2,R,h4,Y,h6⟩;obtain⟨D,z⟩:=Qaq T';exact⟨T',D,by rw[Qau,z],z,h1,h2,R,h4,Y,h6⟩
theorem QsX{p:Option Addr}{m:Mu}(L:Qay T=.pointer p)(ok:OkR T)(I:Qab T=M)(R:IsT w F T)(hF:∀b,F b->6<=b/\b<w)(J:OkM M)(X:M.length<=100)(hs:QaT m=1)(U:RMu w (Lt w) m zS)(N:QcF m<=1100000)(D:Qb9 w) :
  Calls prog 25 #[.agg #[.pointer p],QaG m zS] w λe w'=>∃T' z,e=.returned (.tuple #[.agg #[.pointer z],.int .i64 (runM M m).1])/\Qay T'=.pointer z/\OkR T'/\IsT w' (Up F w w') T'/\Qab T'=(runM M m).2/\OkM (runM M m).2/\Nw w w'/\((runM M m).2=M->T'=T):=QuZ L ok I R hF J (by omega) U N D
theorem QmO{p:Option Addr}(J:Qay T=.pointer p)(ok:OkR T)(D:Qab T=QaY kAi [] 1)(X:IsT w F T)(hF:∀b,F b->6<=b/\b<w)(N:Qb9 w)
  (Z:Blk w g 31 (Qr0.flatMap λp=>QaE p.1 p.2).toArray) :
  Calls prog 35 #[.agg #[.pointer p],.slice (some ⟨g,0,none⟩) 3 3] w λe w'=>∃T' I,e=.returned (.tuple #[.agg #[.pointer I],.int .i64 0])/\Qay T'=.pointer I/\OkR T'/\IsT w' (Up F w w') T'/\Qab T'=QaY kB1 [Qbs 7] 3/\Nw w w':=by
 have L:=Qtx Z (λp J=>by
  simp only[List.mem_cons,List.not_mem_nil,or_false]at J;rcases J with rfl|rfl|rfl
  .exact QrZ _ _ (by decide) (by decide)
  .exact Qtw _ _ (by decide) (by decide)
  exact Qpl _ _ (by decide) (by decide)) (by decide) (by decide +kernel)
 have h:=Qqs (s:=⟨some ⟨g,0,none⟩,3⟩) (l:=[Qhr kX1 2,Qkx kL1 (Qbs 7),Qch kAs kBs]) X hF ok (by rw[D];exact QtI) L N (λj m U _=>by
  rw[D,QgI];have hs:QaT m=1:=by
   have:=al U;simp only[List.mem_cons,List.not_mem_nil,or_false]at this;rcases this with rfl|rfl|rfl<;>exact Qc9 _ _ _ _ _ _ _ _
  unfold Qcd;rw[hs,QgI];decide) (λj=>by rw[D,QgI];decide) (by decide +kernel)
 rw[Qau,J,D,QoH]at h;refine h.mono ?_;rintro e w' ⟨T',rfl,h1,h2,R,h4,Y,h6⟩;obtain⟨I,z⟩:=Qaq T';exact⟨T',I,by rw[Qau,z];rfl,z,h1,h2,R,Y⟩
theorem QsF(hL:Qb9 w):Calls prog 10 #[] w λe w'=>e=.returned (.bool true)/\Nw w w':=by
 have k6:=hL.lib.big;have HL:=hY hL;clear hL;go_in;go_wp2_with fail;generalize i8:World.alloc w _=w1;obtain⟨i9,a7,k8⟩:=Qcb i8;have g7:=hY (fv i9);have g6:=hY a7;have k0:w1.heap.size<=w1.drew.heap.size:=an _;have k4:w1.drew.heap.size<=w1.heap.size:=an _;have d0:=hY (show ∀W,Nw w1 W->W.cell? ⟨w.heap.size,0,none⟩=some (.int .i64 5)/\W.cell? ⟨w.heap.size,1,none⟩=some (.bool false)/\W.cell? ⟨w.heap.size,2,none⟩=some (.int .i64 0)/\W.cell? ⟨w.heap.size,3,none⟩=some (.string ByteArray.empty)/\W.cell? ⟨w.heap.size,4,none⟩=some (.slice none 0 0)/\W.cell? ⟨w.heap.size,5,none⟩=some (.slice none 0 0)from
  λW Y=>⟨(Y.blk a7).cell 0,(Y.blk a7).cell 1,(Y.blk a7).cell 2,(Y.blk a7).cell 3,(Y.blk a7).cell 4,(Y.blk a7).cell 5⟩)
 clear i8 i9 a7;refine QiQ (λw' b _=>Qsa (QaY kAi [] 1) w1.heap.size w' b/\Nw w1 w') [12,13,14,15,16,17,18,19] (λb _=>[(2,.pointer (some ⟨b,0,none⟩))]) ?_ ?_
 ·skip
  refine ez (S:=(λw'=>Nw w1 w')) (by kernel_rfl) ((fv ((fu w1).drew))) (λhHeld=>?_);refine Qad 2 (some 14) d0 hHeld ?_;refine Qad 3 (some 15) d0 hHeld ?_;have L:=Tag.mk 0;have U:=Tag.mk 1000
  repeat' (first
   |(have:=(L:Tag 0);have:=(U:Tag 1000);refine QfT 0 8 (λK J D=>?_) (λK J D=>?_))
   |(have:=(L:Tag 0);have:=(U:Tag 1001);refine QcH 0 (λK J D=>?_))
   |(have:=(L:Tag 1);have:=(U:Tag 1000);refine QfT 4 8 (λK J D=>?_) (λK J D=>?_))
   |(have:=(L:Tag 1);have:=(U:Tag 1001);refine QcH 4 (λK J D=>?_))
   |(have:=(L:Tag 2);have:=(U:Tag 1000);refine QfT 6 8 (λK J D=>?_) (λK J D=>?_))
   |(have:=(L:Tag 2);have:=(U:Tag 1001);refine QcH 6 (λK J D=>?_))
   |(have:=(L:Tag 3);have:=(U:Tag 1000);refine QfT 7 8 (λK J D=>?_) (λK J D=>?_))
   |(have:=(L:Tag 3);have:=(U:Tag 1001);refine QcH 7 (λK J D=>?_))
   |(have:=(L:Tag 4);have:=(U:Tag 1000);refine QcH 8 (λK J D=>?_))
   |(have:=(L:Tag 4);have:=(U:Tag 1001);refine QcH 9 (λK J D=>?_))
   | (have:=(J:Tag 0)
      clear this J;clear L;have L:=Tag.mk 1;go_simp
      (refine(QcB _ 5).mono ?_;rintro e wa ⟨rfl,X⟩;have za:=X.size;(first|have I:=hY (I.o.ext X)|have I:=hY (I.o.ext (((fu _).drew).trans X))|skip))
      refine D.out _ _ (hHeld.trans (fv X)) (λhHeld=>?_);clear D K
      try simp only[Act.put,List.setIfInBounds_toArray,List.set_cons_zero,List.set_cons_succ]
      refine Qad 1 (some 13) d0 hHeld ?_)
   | (have:=(J:Tag 4)
      clear this J;clear L;have L:=Tag.mk 2;go_simp
      (refine(QcB _ 1).mono ?_;rintro e wb ⟨rfl,c3⟩;have zb:=c3.size;(try(have I:=hY (I.o.ext c3))))
      refine D.out _ _ (hHeld.trans (fv c3)) (λhHeld=>?_);clear D K
      try simp only[Act.put,List.setIfInBounds_toArray,List.set_cons_zero,List.set_cons_succ]
      refine Qad 5 (some 17) d0 hHeld ?_)
   | (have:=(J:Tag 6)
      clear this J;clear L;have L:=Tag.mk 3;go_simp
      (generalize a4:World.alloc _ _=wr;obtain⟨b4,a6,zr⟩:=Qcb a4;have b0:=hY a6;(try(have I:=hY (I.o.ext b4)));clear a4 a6)
      refine D.out _ _ (hHeld.trans (fv b4)) (λhHeld=>?_);clear D K
      try simp only[Act.put,List.setIfInBounds_toArray,List.set_cons_zero,List.set_cons_succ])
   | (have:=(J:Tag 7)
      clear this J;clear L;have L:=Tag.mk 4;go_simp
      (have s7:=hHeld.size;refine(Qsj (by first|exact b0.o|exact b0.o.ext a0)).mono ?_;rintro e wc ⟨T,p,rfl,hp,ok,he,hT,f7⟩;have zc:=f7.size;have HT:=hY hT;(try(have I:=hY (I.o.ext f7);have c6:World.cell? _ ⟨_,0,none⟩=some (.pointer none):=I.o.cell 0;have f6:=I.o.frozen 0));clear hT)
      refine D.out _ _ (hHeld.trans (fv f7)) (λhHeld=>?_);clear D K
      try simp only[Act.put,List.setIfInBounds_toArray,List.set_cons_zero,List.set_cons_succ])
   | (have:=(J:Tag 8)
      clear this J;clear U;have U:=Tag.mk 1001;go_simp
      (have s8:=hHeld.size;generalize a8:World.alloc _ _=wz;obtain⟨a0,Z,zz⟩:=Qcb a8;have zd:wz.heap.size<=wz.drew.heap.size:=an _;have I:=hY Z;have c6:World.cell? _ ⟨_,0,none⟩=some (.pointer none):=Z.cell 0;have f6:=Z.frozen 0;(try(have HT:=hY (HT.o.agree (a0.agree λb hb=>hb.2))));clear a8 Z)
      refine D.out _ _ ((by first|exact hHeld.trans (fv a0)|exact(fv a0).trans (fv ((fu wz).drew)))) (λhHeld=>?_);clear D K
      try simp only[Act.put,List.setIfInBounds_toArray,List.set_cons_zero,List.set_cons_succ])
   | (have:=(J:Tag 9)
      clear this J;clear L;have L:=Tag.mk 5;go_simp
      (have HN:=hY hHeld)
      refine D.out _ _ (QkX hHeld (by omega) _) (λhHeld=>?_);clear D K
      try simp only[Act.put,List.setIfInBounds_toArray,List.set_cons_zero,List.set_cons_succ])
   | (have:=(L:Tag 5);have:=(U:Tag 1001);refine eE (by kernel_rfl) ?_ _
      simp only[Qf1,List.map_cons,List.map_nil,List.cons_append,List.nil_append,List.setIfInBounds_toArray,List.set_cons_zero,List.set_cons_succ];refine QiH ⟨_,.bool true,⟨Qlv hp ok he HT.o I.o (by omega) (λi hi=>⟨by have:=hi.1;omega,by have:=hi.2;omega,by have:=hi.1;have:=hi.2;omega⟩),hHeld⟩,by kernel_rfl,?_⟩;simp only[Qf1,List.map_cons,List.map_nil,List.cons_append,List.nil_append,List.setIfInBounds_toArray,List.set_cons_zero,List.set_cons_succ]
      kernel_rfl))
 intro w2 b2 u2 vs f1;simp only[Qf1,List.map_cons,List.map_nil,List.cons_append,List.nil_append,List.setIfInBounds_toArray,List.set_cons_zero,List.set_cons_succ];obtain⟨⟨T1,p1,f5,g0,f3,f9,e2,l3⟩,d6⟩:=f1;have z2:=d6.size;have c2:∀W,Nw w2 W->W.cell? ⟨b2,0,none⟩=some (.pointer p1):=λW Y=>(Y.blk e2).cell 0
 have N:=hY c2;have f8:=hY (g7.o.trans d6);have i0:=hY (d6.blk g6.o);have c7:=hY (show ∀W g,Nw w2 W->Blk W g 31 (Qr0.flatMap λp=>QaE p.1 p.2).toArray->Calls prog 35 #[.agg #[.pointer p1],.slice (some ⟨g,0,none⟩) 3 3] W λe w'=>∃T' p',e=.returned (.tuple #[.agg #[.pointer p'],.int .i64 0])/\Qay T'=.pointer p'/\OkR T'/\IsT w' (Up (λi=>w1.heap.size<=i/\i<w2.heap.size/\i≠b2) W w') T'/\Qab T'=QaY kB1 [Qbs 7] 3/\Nw W w' from
  λW g Y hb=>QmO f5 g0 f3 (f9.agree (fC Y λb hb=>hb.2.1)) (λb hb=>⟨by have:=hb.1;omega,ab hb.2.1 Y.size⟩) (HL.o.nw (f8.o.trans Y)) hb)
 have b8:=hY (show ∀W m,Nw w2 W->QaT m=1->RMu W (Lt W.heap.size) m zS->QcF m<=1100000->Calls prog 25 #[.agg #[.pointer p1],QaG m zS] W λe w'=>∃p',e=.returned (.tuple #[.agg #[.pointer p'],.int .i64 (runM (QaY kAi [] 1) m).1])/\Nw W w' from
  λW m Y hs hm ht=>(QsX f5 g0 f3 (f9.agree (fC Y λb hb=>hb.2.1)) (λb hb=>⟨by have:=hb.1;omega,ab hb.2.1 Y.size⟩) QtI (by decide) hs hm ht (HL.o.nw (f8.o.trans Y))).mono λe w' ⟨T',p',h1,h2,h3,h4,h5,h6,h7,h8⟩=>⟨p',h1,h7⟩)
 have k1:w2.heap.size<=w2.drew.heap.size:=an _;have k2:w2.drew.heap.size<=w2.heap.size:=an _;clear f5 g0 f3 f9 e2 d6 c2 g6 g7 d0 HL;go_wp2_with fail;refine QiQ (λw' b _=>Qsa (QaY kB1 [Qbs 7] 3) w1.heap.size w' b/\Nw w2 w') [21,22,23,24,25,26,27,20,28,29] (λb _=>[(3,.pointer (some ⟨b,0,none⟩)),(4,.int .i64 0)]) ?_ ?_
 ·skip
  refine ez (S:=(λw'=>Nw w2 w')) (by kernel_rfl) ((fv ((fu w2).drew))) (λhHeld=>?_);refine Qad 0 (some 21) N hHeld ?_;refine Qad 1 (some 22) N hHeld ?_;refine Qad 4 (some 25) N hHeld ?_;have L:=Tag.mk 0;have U:=Tag.mk 1000
  repeat' (first
   |(have:=(L:Tag 0);have:=(U:Tag 1000);refine QfT 2 10 (λK J D=>?_) (λK J D=>?_))
   |(have:=(L:Tag 0);have:=(U:Tag 1001);refine QcH 2 (λK J D=>?_))
   |(have:=(L:Tag 1);have:=(U:Tag 1000);refine QfT 5 10 (λK J D=>?_) (λK J D=>?_))
   |(have:=(L:Tag 1);have:=(U:Tag 1001);refine QcH 5 (λK J D=>?_))
   |(have:=(L:Tag 2);have:=(U:Tag 1000);refine QfT 6 10 (λK J D=>?_) (λK J D=>?_))
   |(have:=(L:Tag 2);have:=(U:Tag 1001);refine QcH 6 (λK J D=>?_))
   |(have:=(L:Tag 3);have:=(U:Tag 1000);refine QcH 10 (λK J D=>?_))
   |(have:=(L:Tag 3);have:=(U:Tag 1001);refine QcH 11 (λK J D=>?_))
   | (have:=(J:Tag 2)
      clear this J;clear L;have L:=Tag.mk 1;go_simp
      (refine(QcB _ 7).mono ?_;rintro e wa ⟨rfl,X⟩;have za:=X.size;(first|have I:=hY (I.o.ext X)|have I:=hY (I.o.ext (((fu _).drew).trans X))|skip))
      refine D.out _ _ (hHeld.trans (fv X)) (λhHeld=>?_);clear D K
      try simp only[Act.put,List.setIfInBounds_toArray,List.set_cons_zero,List.set_cons_succ]
      refine Qad 3 (some 24) N hHeld ?_)
   | (have:=(J:Tag 5)
      clear this J;clear L;have L:=Tag.mk 2;go_simp
      (generalize a4:World.alloc _ _=wr;obtain⟨b4,a6,zr⟩:=Qcb a4;have b0:=hY a6;(try(have I:=hY (I.o.ext b4)));clear a4 a6)
      refine D.out _ _ (hHeld.trans (fv b4)) (λhHeld=>?_);clear D K
      try simp only[Act.put,List.setIfInBounds_toArray,List.set_cons_zero,List.set_cons_succ])
   | (have:=(J:Tag 6)
      clear this J;clear L;have L:=Tag.mk 3;go_simp
      (have s6:=hHeld.size;refine(c7.o _ _ hHeld (by first|exact b0.o|exact b0.o.ext a0)).mono ?_;rintro e wc ⟨T,p,rfl,hp,ok,hT,he,a9⟩;have zc:=a9.size;have HT:=hY hT;(try(have I:=hY (a9.blk I.o);have c6:World.cell? _ ⟨_,0,none⟩=some (.pointer none):=I.o.cell 0;have f6:=I.o.frozen 0));clear hT)
      refine D.out _ _ (hHeld.trans a9) (λhHeld=>?_);clear D K
      try simp only[Act.put,List.setIfInBounds_toArray,List.set_cons_zero,List.set_cons_succ]
      refine Qad 7 (some 20) N hHeld ?_;refine Qad 8 (some 28) N hHeld ?_;refine Qad 9 (some 29) N hHeld ?_)
   | (have:=(J:Tag 10)
      clear this J;clear U;have U:=Tag.mk 1001;go_simp
      (have s8:=hHeld.size;generalize a8:World.alloc _ _=wz;obtain⟨a0,Z,zz⟩:=Qcb a8;have zd:wz.heap.size<=wz.drew.heap.size:=an _;have I:=hY Z;have c6:World.cell? _ ⟨_,0,none⟩=some (.pointer none):=Z.cell 0;have f6:=Z.frozen 0;(try(have HT:=hY (HT.o.agree (a0.agree λb hb=>hb.elim (λh=>by have:=h.2.1;omega) λh=>h.2))));clear a8 Z)
      refine D.out _ _ ((by first|exact hHeld.trans (fv a0)|exact(fv a0).trans (fv ((fu wz).drew)))) (λhHeld=>?_);clear D K
      try simp only[Act.put,List.setIfInBounds_toArray,List.set_cons_zero,List.set_cons_succ])
   | (have:=(J:Tag 11)
      clear this J;clear L;have L:=Tag.mk 4;go_simp
      skip
      refine D.out _ _ (QkX hHeld (by omega) _) (λhHeld=>?_);clear D K
      try simp only[Act.put,List.setIfInBounds_toArray,List.set_cons_zero,List.set_cons_succ]
      refine Qad 12 (some 4) N hHeld ?_)
   | (have:=(L:Tag 4);have:=(U:Tag 1001);refine eE (by kernel_rfl) ?_ _
      simp only[Qf1,List.map_cons,List.map_nil,List.cons_append,List.nil_append,List.setIfInBounds_toArray,List.set_cons_zero,List.set_cons_succ];refine QiH ⟨_,.bool true,⟨Qlv hp ok he HT.o I.o (by omega) (λi hi=>by rcases hi with h|h<;>exact⟨by have:=h.1;omega,by have:=h.2;omega,by have:=h.1;have:=h.2;omega⟩),hHeld⟩,by kernel_rfl,?_⟩;simp only[Qf1,List.map_cons,List.map_nil,List.cons_append,List.nil_append,List.setIfInBounds_toArray,List.set_cons_zero,List.set_cons_succ]
      kernel_rfl))
 intro w3 b3 u3 l1 f1;simp only[Qf1,List.map_cons,List.map_nil,List.cons_append,List.nil_append,List.setIfInBounds_toArray,List.set_cons_zero,List.set_cons_succ];obtain⟨⟨T3,p3,g3,i6,j0,i1,d7,l2⟩,d5⟩:=f1;have z3:=d5.size;have q2:w3.cell? ⟨b2,0,none⟩=some (.pointer p1):=N.o w3 d5;have a5:=hY d5;have e3:=hY d7;have j5:=hY g3;have j4:=hY i6;have f2:=hY j0;have g4:=hY i1;clear g3 i6 j0 i1 d7 d5 c7;go_wp2_with fail;refine(b8.o w3 (QqG kY1) a5.o (Qc9 ..) (Qtz _ _ (by decide)) (by decide +kernel)).mono ?_;rintro e w4 ⟨p4,rfl,i4⟩;rw[Qud];have g5:=hY i4;clear i4 q2;go_wp2_with fail;generalize j2:World.alloc _ _=w5;obtain⟨j1,j9,k9⟩:=Qcb j2;have k5:w5.heap.size<=w5.drew.heap.size:=an _;have k3:w5.drew.heap.size<=w5.heap.size:=an _;have b5:=hY (g5.o.trans (fv j1));have a2:=hY (show ∀W,Nw w5 W->W.cell? ⟨b2,0,none⟩=some (.pointer p1) fromλW Y=>N.o W ((a5.o.trans b5.o).trans Y));have e7:=hY (show ∀W,Nw w5 W->Calls prog 25 #[.agg #[.pointer p1],QaG (Qoc kX1 (Qbs 2)) zS] W λe w'=>∃p',e=.returned (.tuple #[.agg #[.pointer p'],.int .i64 13])/\Nw W w' fromλW Y=>by
  have h:=b8.o W (Qoc kX1 (Qbs 2)) ((a5.o.trans b5.o).trans Y) (Qc9 ..) (Qty _ _ (by decide) (by decide)) (by decide +kernel);rwa[Quc]at h)
 clear j2 j1 j9 g5;refine QiQ (λw' b u=>Nw w5 w'/\Blk w' b 41 #[u]) [37,38,39,40,36,41,42] (λb _=>[(7,.pointer (some ⟨b,0,none⟩)),(8,.int .i64 13)]) ?_ ?_
 ·skip
  refine ez (S:=(λw'=>Nw w5 w')) (by kernel_rfl) ((fv ((fu w5).drew))) (λhHeld=>?_);refine Qad 0 (some 37) a2 hHeld ?_;have L:=Tag.mk 0;have U:=Tag.mk 1000
  repeat' (first
   |(have:=(L:Tag 0);have:=(U:Tag 1000);refine QfT 1 7 (λK J D=>?_) (λK J D=>?_))
   |(have:=(L:Tag 0);have:=(U:Tag 1001);refine QcH 1 (λK J D=>?_))
   |(have:=(L:Tag 1);have:=(U:Tag 1000);refine QfT 3 7 (λK J D=>?_) (λK J D=>?_))
   |(have:=(L:Tag 1);have:=(U:Tag 1001);refine QcH 3 (λK J D=>?_))
   |(have:=(L:Tag 2);have:=(U:Tag 1000);refine QcH 7 (λK J D=>?_))
   |(have:=(L:Tag 2);have:=(U:Tag 1001);refine QcH 8 (λK J D=>?_))
   | (have:=(J:Tag 1)
      clear this J;clear L;have L:=Tag.mk 1;go_simp
      (refine(QcB _ 2).mono ?_;rintro e wa ⟨rfl,X⟩;have za:=X.size;(first|have I:=hY (I.o.ext X)|have I:=hY (I.o.ext (((fu _).drew).trans X))|skip))
      refine D.out _ _ (hHeld.trans (fv X)) (λhHeld=>?_);clear D K
      try simp only[Act.put,List.setIfInBounds_toArray,List.set_cons_zero,List.set_cons_succ]
      refine Qad 2 (some 39) a2 hHeld ?_)
   | (have:=(J:Tag 3)
      clear this J;clear L;have L:=Tag.mk 2;go_simp
      (refine(e7.o _ hHeld).mono ?_;rintro e wc ⟨p,rfl,a9⟩;have zc:=a9.size;(try(have I:=hY (a9.blk I.o);have c6:World.cell? _ ⟨_,0,none⟩=some (.pointer none):=I.o.cell 0;have f6:=I.o.frozen 0)))
      refine D.out _ _ (hHeld.trans a9) (λhHeld=>?_);clear D K
      try simp only[Act.put,List.setIfInBounds_toArray,List.set_cons_zero,List.set_cons_succ]
      refine Qad 4 (some 36) a2 hHeld ?_;refine Qad 5 (some 41) a2 hHeld ?_;refine Qad 6 (some 42) a2 hHeld ?_)
   | (have:=(J:Tag 7)
      clear this J;clear U;have U:=Tag.mk 1001;go_simp
      (have s8:=hHeld.size;generalize a8:World.alloc _ _=wz;obtain⟨a0,Z,zz⟩:=Qcb a8;have zd:wz.heap.size<=wz.drew.heap.size:=an _;have I:=hY Z;have c6:World.cell? _ ⟨_,0,none⟩=some (.pointer none):=Z.cell 0;have f6:=Z.frozen 0;clear a8 Z)
      refine D.out _ _ ((by first|exact hHeld.trans (fv a0)|exact(fv a0).trans (fv ((fu wz).drew)))) (λhHeld=>?_);clear D K
      try simp only[Act.put,List.setIfInBounds_toArray,List.set_cons_zero,List.set_cons_succ])
   | (have:=(J:Tag 8)
      clear this J;clear L;have L:=Tag.mk 3;go_simp
      (have l5:=I)
      refine D.out _ _ (QkX hHeld (by omega) _) (λhHeld=>?_);clear D K
      try simp only[Act.put,List.setIfInBounds_toArray,List.set_cons_zero,List.set_cons_succ]
      refine Qad 9 (some 8) a2 hHeld ?_)
   | (have:=(L:Tag 3);have:=(U:Tag 1001);refine eE (by kernel_rfl) ?_ _
      simp only[Qf1,List.map_cons,List.map_nil,List.cons_append,List.nil_append,List.setIfInBounds_toArray,List.set_cons_zero,List.set_cons_succ];refine QiH ⟨_,.pointer p,⟨hHeld,I.o.Qdz 0 (.pointer p)⟩,by kernel_rfl,?_⟩;simp only[Qf1,List.map_cons,List.map_nil,List.cons_append,List.nil_append,List.setIfInBounds_toArray,List.set_cons_zero,List.set_cons_succ]
      kernel_rfl))
 rintro w6 b6 u6 l4 ⟨i5,-⟩;simp only[Qf1,List.map_cons,List.map_nil,List.cons_append,List.nil_append,List.setIfInBounds_toArray,List.set_cons_zero,List.set_cons_succ];have c8:=hY (b5.o.trans i5);have q2:w6.cell? ⟨b2,0,none⟩=some (.pointer p1):=N.o w6 (a5.o.trans c8.o);clear i5 e7 a2 b5;go_wp2_with fail;refine(b8.o w6 (Qhr kL1 1) (a5.o.trans c8.o) (Qc9 ..) (QrZ _ _ (by decide) (by decide)) (by decide +kernel)).mono ?_;rintro e w7 ⟨p7,rfl,g8⟩;rw[Qug];have e8:=hY (c8.o.trans g8);clear g8 q2 b8 N;go_wp2_with fail;generalize i2:World.alloc _ _=w8;obtain⟨i7,-,l0⟩:=Qcb i2;have d8:=hY (e8.o.trans (fv i7));clear i2 i7 e8;refine(QcB _ 7).mono ?_;rintro e w9 ⟨rfl,i3⟩;have d4:=d8.o.trans (fv i3);have a3:=Nw.blk (a5.o.trans d4) i0.o;have c4:w9.cell? ⟨w.heap.size,4,none⟩=some (.slice none 0 0):=a3.cell 4;have f4:=a3.frozen 4;have l9:=a3.lt;have e0:=hY a3;have a1:=hY d4;clear a3 d4 i3 d8;go_wp2_with fail;generalize e6:World.alloc (World.setCell _ _ _) _=c1;have c9:=(fu (w9.setCell ⟨w.heap.size,4,none⟩ (.slice (some ⟨w9.heap.size,0,none⟩) 1 1))).alloc #[.int .i64 3,.bool false,.int .i64 7,.string ByteArray.empty,.slice none 0 0,.slice none 0 0] 28;have b7:=fx (w9.setCell ⟨w.heap.size,4,none⟩ (.slice (some ⟨w9.heap.size,0,none⟩) 1 1)) 28 #[.int .i64 3,.bool false,.int .i64 7,.string ByteArray.empty,.slice none 0 0,.slice none 0 0];have f0:=(fB (λi=>i=w.heap.size) w9).set (p:=⟨w.heap.size,4,none⟩) (.inr rfl) (.slice (some ⟨w9.heap.size,0,none⟩) 1 1);have R:=(e0.o.Qdz 4 (.slice (some ⟨w9.heap.size,0,none⟩) 1 1)).ext c9;have c0:=f0.trans (Nw.any (fv c9) _);rw[eA]at b7;rw[e6]at c0 R b7;have g9:=b7;have z9:w2.heap.size<=w9.heap.size:=(a5.o.trans a1.o).size;have j6:=c0.blk (Nw.blk a1.o e3.o) (by omega);have e1:=(g4.o.agree (fC a1.o λb hb=>hb.2.1)).agree λb hb=>c0.block b (ab hb.2.1 a1.o.size) (by have:=hb.1;omega)
 have d3:Nw w c1:=((f8.o.trans a5.o).trans a1.o).comp c0 λi hi e=>by omega
 have k7:w9.heap.size<=c1.heap.size:=c0.size;have z:=hY (show ∀W,Nw c1 W->W.cell? ⟨b3,0,none⟩=some (.pointer p3)/\W.cell? ⟨w.heap.size,0,none⟩=some (.int .i64 5)/\W.cell? ⟨w.heap.size,1,none⟩=some (.bool false)/\W.cell? ⟨w.heap.size,2,none⟩=some (.int .i64 0)/\W.cell? ⟨w.heap.size,3,none⟩=some (.string ByteArray.empty)/\W.cell? ⟨w.heap.size,4,none⟩=some (.slice (some ⟨w9.heap.size,0,none⟩) 1 1)/\W.cell? ⟨w.heap.size,5,none⟩=some (.slice none 0 0)from
  λW Y=>⟨(Y.blk j6).cell 0,(Y.blk R).cell 0,(Y.blk R).cell 1,(Y.blk R).cell 2,(Y.blk R).cell 3,(Y.blk R).cell 4,(Y.blk R).cell 5⟩)
 have j3:=hY (show ∀W g,Nw c1 W->Blk W g 70 (Qai (QrF kB1 kL1 kX1 (Qbs 5) (Qf2 [Qbs 7]) (Qbs 3) ⟨some ⟨w9.heap.size,0,none⟩,1⟩)).toArray->Calls prog 22 #[.agg #[.pointer p3],.slice (some ⟨g,0,none⟩) 3 3] W λe w'=>e=.returned (.bool true)/\Ext W w' fromλW g Y hb=>by
  have e4:=Y.blk g9;have es:=QrU hb (Ql9 (by decide) (QsZ e4 e4.lt (by decide)) (by decide)) (show 3<=1000000 by decide);have h:=QoJ (T:=T3) (F:=λi=>w1.heap.size<=i/\i<w3.heap.size/\i≠b3) (λb hb=>by have:=hb.2.1;have:=Y.size;have:=a1.o.size;omega) (e1.agree (fC Y λb hb=>by have:=hb.2.1;have:=a1.o.size;show b<_;omega)) j4.o (by rw[f2.o];decide) es;rw[Qau,j5.o,f2.o]at h;refine h.mono ?_;rintro e w' ⟨rfl,hx⟩;exact⟨by rw[show(QrF kB1 kL1 kX1 (Qbs 5) (Qf2 [Qbs 7]) (Qbs 3) ⟨some ⟨w9.heap.size,0,none⟩,1⟩).map LE.ent=QaY kB1 [Qbs 7] 3 from rfl,Qec],hx⟩)
 have j7:=hY d3;clear e6 c9 b7 c0 f0 R g9 j6 e1 d3 c4 f4 g4 j4 f2 j5 e3 e0 i0;refine ez (S:=(λw'=>Nw c1 w')) (by kernel_rfl) ((fv ((fu c1).drew))) (λhHeld=>?_);refine Qad 0 (some 52) z hHeld ?_;refine Qad 1 (some 53) z hHeld ?_;refine Qad 2 (some 54) z hHeld ?_;refine Qad 3 (some 55) z hHeld ?_;refine Qad 6 (some 58) z hHeld ?_;refine Qad 7 (some 59) z hHeld ?_;refine Qag (i:=4) (by kernel_rfl) rfl (by rfl) (λK D=>?_);go_simp
 (refine(QcB _ 5).mono ?_;rintro e wa ⟨rfl,X⟩)
 refine D.out _ _ (hHeld.trans (fv X)) (λhHeld=>?_);clear D K
 try simp only[Act.put,List.setIfInBounds_toArray,List.set_cons_zero,List.set_cons_succ]
 refine Qad 5 (some 57) z hHeld ?_;refine Qag (i:=8) (by kernel_rfl) rfl (by rfl) (λK D=>?_);go_simp
 (refine(QcB _ 3).mono ?_;rintro e wb ⟨rfl,c3⟩)
 refine D.out _ _ (hHeld.trans (fv c3)) (λhHeld=>?_);clear D K
 try simp only[Act.put,List.setIfInBounds_toArray,List.set_cons_zero,List.set_cons_succ]
 refine Qad 9 (some 61) z hHeld ?_;refine Qag (i:=10) (by kernel_rfl) rfl (by rfl) (λK D=>?_);go_simp
 (generalize a4:World.alloc _ _=wr;obtain⟨b4,a6,zr⟩:=Qcb a4;have b0:=hY a6;clear a4 a6)
 refine D.out _ _ (hHeld.trans (fv b4)) (λhHeld=>?_);clear D K
 try simp only[Act.put,List.setIfInBounds_toArray,List.set_cons_zero,List.set_cons_succ]
 refine Qag (i:=11) (by kernel_rfl) rfl (by rfl) (λK D=>?_);go_simp
 (refine(j3.o _ _ hHeld b0.o).mono ?_;rintro e wd ⟨rfl,j8⟩)
 refine D.out _ _ (hHeld.trans (fv j8)) (λhHeld=>?_);clear D K
 try simp only[Act.put,List.setIfInBounds_toArray,List.set_cons_zero,List.set_cons_succ]
 refine Qad 12 (some 64) z hHeld ?_;refine Qad 13 (some 65) z hHeld ?_;refine Qad 14 (some 66) z hHeld ?_;refine Qad 15 (some 67) z hHeld ?_;refine Qad 16 (some 68) z hHeld ?_;refine Qad 17 (some 69) z hHeld ?_;refine Qad 18 (some 70) z hHeld ?_;refine Qad 19 (some 71) z hHeld ?_;refine Qad 20 (some 72) z hHeld ?_;refine Qad 21 (some 73) z hHeld ?_;refine Qad 22 (some 74) z hHeld ?_;refine Qad 23 (some 75) z hHeld ?_;refine Qad 24 (some 76) z hHeld ?_;refine Qad 25 (some 0) z hHeld ?_;refine eE (by kernel_rfl) ?_ _;go_wp2_with fail;go_ret;exact⟨rfl,j7.o.trans hHeld⟩
def Qkr(s:ByteArray)(i:Nat):Nat->Nat->Nat->Option Nat
 |0,_,r=>some r
 |m+1,j,r=>if(s.get! (i+j)).toNat<128\/192<=(s.get! (i+j)).toNat then none else Qkr s i m (j+1) (64*r+(s.get! (i+j)).toNat-128)
def Qtl(n least:Nat)(r:Option Nat):Nat × Nat:=match r with
 |none=>(0,0)
 |some r=>if r<least\/1114111<r\/(55296<=r/\r<57344)then(0,0)else(r,n)
def Qfo(s:ByteArray)(i n base least:Nat):Nat × Nat:=if s.size<i+n then(0,0)else Qtl n least (Qkr s i (n-1) 1 ((s.get! i).toNat-base))
def Qcr(s:ByteArray)(i:Nat):Nat × Nat:=
 if s.size<=i then(0,0)else if(s.get! i).toNat<128 then((s.get! i).toNat,1)
 else if 192<=(s.get! i).toNat/\(s.get! i).toNat<224 then Qfo s i 2 192 128
 else if 224<=(s.get! i).toNat/\(s.get! i).toNat<240 then Qfo s i 3 224 2048
 else if 240<=(s.get! i).toNat/\(s.get! i).toNat<248 then Qfo s i 4 240 65536 else(0,0)
theorem QdF(b:UInt8):b.toNat<256:=b.toNat_lt
theorem QbY:(if((65533,1):Nat × Nat)=(65533,1)then((0,0):Nat × Nat)else(65533,1))=(0,0):=em rfl
theorem QoB{v m:Nat}(h:m≠1):(if((v,m):Nat × Nat)=(65533,1)then((0,0):Nat × Nat)else(v,m))=(v,m):=ef (by intro e;injection e with _ e;exact h e)
theorem QuV(n z b1 b2 D:Nat)(I:192<=z/\z<224)(h1:b1<256):Lib.decodeN n z b1 b2 D=if n<2\/(b1<128\/192<=b1)\/64*(z-192)+b1-128<128 then(65533,1)else(64*(z-192)+b1-128,2):=by
 unfold Lib.decodeN
 repeat' split
 all_goals first |(exfalso;omega) |(rw[Prod.mk.injEq];omega)
theorem QuW(n z b1 b2 D:Nat)(I:224<=z/\z<240)(h1:b1<256)(h2:b2<256):Lib.decodeN n z b1 b2 D=if n<3\/(b1<128\/192<=b1)\/(b2<128\/192<=b2)\/(64*(64*(z-224)+b1-128)+b2-128<2048\/(55296<=64*(64*(z-224)+b1-128)+b2-128/\64*(64*(z-224)+b1-128)+b2-128<57344))then(65533,1)else(64*(64*(z-224)+b1-128)+b2-128,3):=by
 unfold Lib.decodeN
 repeat' split
 all_goals first |(exfalso;omega) |(rw[Prod.mk.injEq];omega)
theorem QuX(n D b1 b2 z:Nat)(J:240<=D/\D<248)(h1:b1<256)(h2:b2<256)(I:z<256):Lib.decodeN n D b1 b2 z=if n<4\/(b1<128\/192<=b1)\/(b2<128\/192<=b2)\/(z<128\/192<=z)\/(64*(64*(64*(D-240)+b1-128)+b2-128)+z-128<65536\/1114111<64*(64*(64*(D-240)+b1-128)+b2-128)+z-128)then(65533,1)else(64*(64*(64*(D-240)+b1-128)+b2-128)+z-128,4):=by
 unfold Lib.decodeN
 repeat' split
 all_goals first |(exfalso;omega) |(rw[Prod.mk.injEq];omega)
theorem QuU(n z b1 b2 D:Nat)(L:128<=z)(h2:¬(192<=z/\z<224))(I:¬(224<=z/\z<240))(J:¬(240<=z/\z<248)):Lib.decodeN n z b1 b2 D=(65533,1):=by
 unfold Lib.decodeN
 repeat' split
 all_goals first |(exfalso;omega) |(rw[Prod.mk.injEq];omega)
theorem QpK(s:ByteArray)(i:Nat):Qcr s i=if s.size<=i\/Utf8.decode s i=(65533,1)then(0,0)else Utf8.decode s i:=by
 unfold Qcr;by_cases hi:s.size<=i
 .rw [em hi,em (.inl hi)]
 rw[ef hi];simp only[hi,false_or];rw[Lib.decode_at];unfold Qfo Qtl;have e1:∀m j r,Qkr s i (m+1) j r=if(s.get! (i+j)).toNat<128\/192<=(s.get! (i+j)).toNat then none else Qkr s i m (j+1) (64*r+(s.get! (i+j)).toNat-128):=λ_ _ _=>rfl
 have e0:∀j r,Qkr s i 0 j r=some r:=λ_ _=>rfl
 have h0:=QdF (s.get! i);have h1:=QdF (s.get! (i+1));have h2:=QdF (s.get! (i+2));have h3:=QdF (s.get! (i+3));simp only[Nat.reduceSub,e1,e0,Nat.reduceAdd];generalize (s.get! i).toNat=D at *;generalize (s.get! (i+1)).toNat=b1 at *;generalize (s.get! (i+2)).toNat=b2 at *;generalize (s.get! (i+3)).toNat=L at *;generalize hn:s.size-i=n;have R:(s.size<i+2)=(n<2):=propext ⟨λh=>by omega,λh=>by omega⟩;have U:(s.size<i+3)=(n<3):=propext ⟨λh=>by omega,λh=>by omega⟩;have N:(s.size<i+4)=(n<4):=propext ⟨λh=>by omega,λh=>by omega⟩;simp only[R,U,N];clear R U N e1 e0 hn hi;by_cases c1:D<128
 .rw [em c1,Lib.decodeN_ascii n D b1 b2 L c1,ef (by intro e;injection e with e;omega)]
 rw[ef c1];by_cases Z:192<=D/\D<224
 ·rw [em Z]
  have hd:=QuV n D b1 b2 L Z h1;by_cases z:n<2
  ·rw [em (.inl z)] at hd
   rw[em z,hd,QbY]
  by_cases I:b1<128\/192<=b1
  ·rw [em (.inr (.inl I))] at hd
   rw[ef z,em I,hd,QbY]
  by_cases J:64*(D-192)+b1-128<128
  ·rw [em (.inr (.inr J))] at hd
   rw[ef z,ef I,hd,QbY];show(if _ then _ else _)=_;rw[em (.inl J)]
  rw[ef (by omega)]at hd;rw[ef z,ef I,hd,QoB (by decide)];show(if _ then _ else _)=_;rw[ef (by omega)]
 rw[ef Z];by_cases Y:224<=D/\D<240
 ·rw [em Y]
  have hd:=QuW n D b1 b2 L Y h1 h2;by_cases z:n<3
  ·rw [em (.inl z)] at hd
   rw[em z,hd,QbY]
  by_cases I:b1<128\/192<=b1
  ·rw [em (.inr (.inl I))] at hd
   rw[ef z,em I,hd,QbY]
  by_cases J:b2<128\/192<=b2
  ·rw [em (.inr (.inr (.inl J)))] at hd
   rw[ef z,ef I,em J,hd,QbY]
  by_cases q4:64*(64*(D-224)+b1-128)+b2-128<2048\/(55296<=64*(64*(D-224)+b1-128)+b2-128/\64*(64*(D-224)+b1-128)+b2-128<57344)
  ·rw [em (.inr (.inr (.inr q4)))] at hd
   rw[ef z,ef I,ef J,hd,QbY];show(if _ then _ else _)=_;rw[em (by omega)]
  rw[ef (by omega)]at hd;rw[ef z,ef I,ef J,hd,QoB (by decide)];show(if _ then _ else _)=_;rw[ef (by omega)]
 rw[ef Y];by_cases c4:240<=D/\D<248
 ·rw [em c4]
  have hd:=QuX n D b1 b2 L c4 h1 h2 h3;by_cases z:n<4
  ·rw [em (.inl z)] at hd
   rw[em z,hd,QbY]
  by_cases I:b1<128\/192<=b1
  ·rw [em (.inr (.inl I))] at hd
   rw[ef z,em I,hd,QbY]
  by_cases J:b2<128\/192<=b2
  ·rw [em (.inr (.inr (.inl J)))] at hd
   rw[ef z,ef I,em J,hd,QbY]
  by_cases X:L<128\/192<=L
  ·rw [em (.inr (.inr (.inr (.inl X))))] at hd
   rw[ef z,ef I,ef J,em X,hd,QbY]
  by_cases q4:64*(64*(64*(D-240)+b1-128)+b2-128)+L-128<65536\/1114111<64*(64*(64*(D-240)+b1-128)+b2-128)+L-128
  ·rw [em (.inr (.inr (.inr (.inr q4))))] at hd
   rw[ef z,ef I,ef J,ef X,hd,QbY];show(if _ then _ else _)=_;rw[em (by omega)]
  rw[ef (by omega)]at hd;rw[ef z,ef I,ef J,ef X,hd,QoB (by decide)];show(if _ then _ else _)=_;rw[ef (by omega)]
 rw[ef c4,QuU n D b1 b2 L (by omega) Z Y c4,QbY]
theorem Qgf(s:ByteArray)(i:Nat)(h:i<s.size):s.get! i=s[i]'h:=by
 cases s with
 |mk d=>exact getElem!_pos d i h
variable{r:Nat}
theorem Qg1(z:j<=4)(h:r<64^j):r<16777216:=ab h (aj (Nat.pow_le_pow_right (by decide) z) (by decide))
theorem QiJ{r d j:Nat}(h:r<64^j)(hd:d<192):64*r+d-128<64^(j+1):=by
 rw[Nat.pow_succ];omega
theorem Qg8(s:ByteArray)(i m j r:Nat)(z:0<m):Qkr s i m j r=if(s.get! (i+j)).toNat<128\/192<=(s.get! (i+j)).toNat then none else Qkr s i (m-1) (j+1) (64*r+(s.get! (i+j)).toNat-128):=by
 cases m with
 |zero=>omega
 |succ m=>rfl
theorem Qlp(w:World)(s:ByteArray)(i:Nat)(hs:s.size<=1000000000000):Calls prog 198 #[.string s,.int .i64 (i:Int)] w λe w'=>e=.returned (.tuple #[.int .i64 ((Qcr s i).1:Int),.int .i64 ((Qcr s i).2:Int)])/\w'=w:=by
 by_cases hi:s.size<=i
 ·have g0:decide ((s.size:Int)≤(i:Int))=true:=ej (by omega)
  have U:=hY (show Qcr s i=(0,0)by unfold Qcr;rw[em hi]);go_in;go_wp2_with fail;go_ret2;exact⟨by rw[U.o];rfl,rfl⟩
 have g0:decide ((s.size:Int)<=(i:Int))=false:=eh (by omega);have z0:(0:Int)<=(i:Int):=by omega
 have z1:(i:Int)<(s.size:Int):=by omega
 obtain⟨c,a6⟩:∃c,(s.get! i).toNat=c:=⟨_,rfl⟩;have hc:(s[i]'(by omega)).toNat=c:=by rw[<-a6,Qgf s i (by omega)]
 have c1:c<256:=by rw[<-a6];exact QdF _
 have R:=hY a6;clear a6;by_cases h1:c<128
 ·have a8:decide ((c:Int)<128)=true:=ej (by omega)
  have U:=hY (show Qcr s i=(c,1)by unfold Qcr;rw[ef hi,R.o,em h1]);clear h1;go_in;go_wp2_with fail;go_ret2;exact⟨by rw[U.o];rfl,rfl⟩
 have a8:decide ((c:Int)<128)=false:=eh (by omega);have hg:¬(s.get! i).toNat<128:=by rw[R.o];exact h1
 by_cases c6:c<192
 ·have a2:¬(192≤(s.get! i).toNat∧(s.get! i).toNat<224):=by rw [R.o];omega
  have a5:¬(224<=(s.get! i).toNat/\(s.get! i).toNat<240):=by rw[R.o];omega
  have b3:¬(240<=(s.get! i).toNat/\(s.get! i).toNat<248):=by rw[R.o];omega
  have a9:decide ((192:Int)<=(c:Int))=false:=eh (by omega);have b0:decide ((224:Int)<=(c:Int))=false:=eh (by omega);have b5:decide ((240:Int)<=(c:Int))=false:=eh (by omega);have U:=hY (show Qcr s i=(0,0)by unfold Qcr;rw[ef hi,ef hg,ef a2,ef a5,ef b3]);go_in;go_wp2_with fail;go_ret2;exact⟨by rw[U.o];rfl,rfl⟩
 have a9:decide ((192:Int)<=(c:Int))=true:=ej (by omega);by_cases c2:c<224
 ·have a3:192≤(s.get! i).toNat∧(s.get! i).toNat<224:=by rw [R.o];omega
  have b4:decide ((c:Int)<224)=true:=ej (by omega);go_in;have a0:Qcr s i=Qfo s i 2 192 128:=by
   unfold Qcr;rw[ef hi,ef hg,em a3]
  have Y:=hY a0;clear a0;have w0:IntKind.i64.wrap ((i:Int)+2)=(i:Int)+2:=by rw[ey];omega
  by_cases hn:s.size<i+2
  ·have p0:decide ((s.size:Int)<(i:Int)+2)=true:=ej (by omega)
   have U:=hY (show Qcr s i=(0,0)by rw[Y.o,Qfo,em hn]);clear hn;go_wp2_with fail;go_ret2;exact⟨by rw[U.o];rfl,rfl⟩
  have p0:decide ((s.size:Int)<(i:Int)+2)=false:=eh (by omega);obtain⟨X,hX⟩:∃X,Qkr s i 1 1 (c-192)=X:=⟨_,rfl⟩;have U:=hY (show Qcr s i=Qtl 2 128 X by rw[Y.o,Qfo,ef hn,R.o,hX]);have HX:=hY hX;have w1:IntKind.i64.wrap ((c:Int)-192)=((c-192:Nat):Int):=by rw[ey];omega
  clear hX Y;go_wp2_with fail;go_loopw[8,10] (λrv jv wr=>∃j r:Nat,rv=.int .i64 (r:Int)/\jv=.int .i64 (j:Int)/\1<=j/\j<=2/\Yd (r<64^j/\Qkr s i (2-j) j r=X)/\wr=w) (λ_ jv _=>2 -(intOf jv).toNat)
  case atStart=>exact⟨1,c-192,rfl,rfl,an _,by decide,hY ⟨by omega,HX.o⟩,rfl⟩
  obtain⟨j,r,rfl,rfl,b7,b8,Z,rfl⟩:=hrel;have hr:=Qg1 (show j<=4 by omega) Z.o.1;by_cases a4:j<2
  ·have e1:decide ((j:Int)<2)=true:=ej (by omega)
   have v0:IntKind.i64.wrap ((i:Int)+(j:Int))=(i:Int)+(j:Int):=by rw[ey];omega
   have v1:(0:Int)<=(i:Int)+(j:Int):=by omega
   have v2:(i:Int)+(j:Int)<(s.size:Int):=by omega
   have v3:((i:Int)+(j:Int)).toNat=i+j:=by omega
   obtain⟨d,hd⟩:∃d,(s.get! (i+j)).toNat=d:=⟨_,rfl⟩;have c0:(s[i+j]'(by omega)).toNat=d:=by rw[<-hd,Qgf s (i+j) (by omega)]
   have a1:d<256:=by rw[<-hd];exact QdF _
   have z:=Qg8 s i (2-j) j r (by omega);rw[Z.o.2,hd]at z;have L:=hY z;clear z hd;by_cases D:d<128
   ·have e2:decide ((d:Int)<128)=true:=ej (by omega)
    have N:=hY (show Qcr s i=(0,0)by rw[U.o,L.o,em (.inl D)];rfl);clear D;go_wp2_with fail;go_ret2;exact⟨by rw[N.o];rfl,rfl⟩
   have e2:decide ((d:Int)<128)=false:=eh (by omega);by_cases J:192<=d
   ·have e3:decide ((192:Int)≤(d:Int))=true:=ej (by omega)
    have N:=hY (show Qcr s i=(0,0)by rw[U.o,L.o,em (.inr J)];rfl);clear D J;go_wp2_with fail;go_ret2;exact⟨by rw[N.o];rfl,rfl⟩
   have e3:decide ((192:Int)<=(d:Int))=false:=eh (by omega);have u0:IntKind.i64.wrap (64*(r:Int))=64*(r:Int):=by rw[ey];omega
   have u1:IntKind.i64.wrap (64*(r:Int)+(d:Int))=64*(r:Int)+(d:Int):=by rw[ey];omega
   have u2:IntKind.i64.wrap (64*(r:Int)+(d:Int)-128)=((64*r+d-128:Nat):Int):=by rw[ey];omega
   have HN:=hY (show 64*r+d-128<64^(j+1)/\Qkr s i (2 -(j+1)) (j+1) (64*r+d-128)=X from⟨QiJ Z.o.1 (by omega),by rw[L.o,ef (by omega)];rfl⟩);clear L D J;go_wp2_with fail;go_roundw
   case rel=>exact⟨j+1,64*r+d-128,by rfl,by go_num,by omega,by omega,HN,trivial⟩
   simp[intOf];omega
  obtain rfl:j=2:=by omega
  have N:=hY (show Qcr s i=if r<128\/1114111<r\/(55296<=r/\r<57344)then(0,0)else(r,2)by
   have:X=some r:=by rw[<-Z.o.2];rfl
   rw[U.o,this];rfl)
  have e1:decide ((2:Int)<2)=false:=by decide
  clear a4 Z U HX;by_cases D:r<128
  ·have e2:decide ((r:Int)<128)=true:=ej (by omega)
   have I:=hY (show Qcr s i=(0,0)by rw[N.o,em (.inl D)]);clear D;go_wp2_with fail;go_ret2;exact⟨by rw[I.o];rfl,rfl⟩
  have e2:decide ((r:Int)<128)=false:=eh (by omega);by_cases J:1114111<r
  ·have e3:decide ((1114111:Int)<(r:Int))=true:=ej (by omega)
   have I:=hY (show Qcr s i=(0,0)by rw[N.o,em (.inr (.inl J))]);clear D J;go_wp2_with fail;go_ret2;exact⟨by rw[I.o];rfl,rfl⟩
  have e3:decide ((1114111:Int)<(r:Int))=false:=eh (by omega);by_cases q3:55296<=r
  ·have e4:decide ((55296:Int)≤(r:Int))=true:=ej (by omega)
   by_cases q4:r<57344
   ·have e5:decide ((r:Int)<57344)=true:=ej (by omega)
    have I:=hY (show Qcr s i=(0,0)by rw[N.o,em (.inr (.inr ⟨q3,q4⟩))]);clear D J q3 q4;go_wp2_with fail;go_ret2;exact⟨by rw[I.o];rfl,rfl⟩
   have e5:decide ((r:Int)<57344)=false:=eh (by omega);have I:=hY (show Qcr s i=(r,2)by rw[N.o,ef (by omega)]);clear D J q3 q4;go_wp2_with fail;go_ret2;exact⟨by rw[I.o];rfl,rfl⟩
  have e4:decide ((55296:Int)<=(r:Int))=false:=eh (by omega);have I:=hY (show Qcr s i=(r,2)by rw[N.o,ef (by omega)]);clear D J q3;go_wp2_with fail;go_ret2;exact⟨by rw[I.o];rfl,rfl⟩
 have a2:¬(192<=(s.get! i).toNat/\(s.get! i).toNat<224):=by rw[R.o];omega
 have b4:decide ((c:Int)<224)=false:=eh (by omega);have b0:decide ((224:Int)<=(c:Int))=true:=ej (by omega);by_cases c4:c<240
 ·have a3:224≤(s.get! i).toNat∧(s.get! i).toNat<240:=by rw [R.o];omega
  have a7:decide ((c:Int)<240)=true:=ej (by omega);go_in;have a0:Qcr s i=Qfo s i 3 224 2048:=by
   unfold Qcr;rw[ef hi,ef hg,ef a2,em a3]
  have Y:=hY a0;clear a0;have w0:IntKind.i64.wrap ((i:Int)+3)=(i:Int)+3:=by rw[ey];omega
  by_cases hn:s.size<i+3
  ·have p0:decide ((s.size:Int)<(i:Int)+3)=true:=ej (by omega)
   have U:=hY (show Qcr s i=(0,0)by rw[Y.o,Qfo,em hn]);clear hn;go_wp2_with fail;go_ret2;exact⟨by rw[U.o];rfl,rfl⟩
  have p0:decide ((s.size:Int)<(i:Int)+3)=false:=eh (by omega);obtain⟨X,hX⟩:∃X,Qkr s i 2 1 (c-224)=X:=⟨_,rfl⟩;have U:=hY (show Qcr s i=Qtl 3 2048 X by rw[Y.o,Qfo,ef hn,R.o,hX]);have HX:=hY hX;have w1:IntKind.i64.wrap ((c:Int)-224)=((c-224:Nat):Int):=by rw[ey];omega
  clear hX Y;go_wp2_with fail;go_loopw[8,10] (λrv jv wr=>∃j r:Nat,rv=.int .i64 (r:Int)/\jv=.int .i64 (j:Int)/\1<=j/\j<=3/\Yd (r<64^j/\Qkr s i (3-j) j r=X)/\wr=w) (λ_ jv _=>3 -(intOf jv).toNat)
  case atStart=>exact⟨1,c-224,rfl,rfl,an _,by decide,hY ⟨by omega,HX.o⟩,rfl⟩
  obtain⟨j,r,rfl,rfl,b7,b8,Z,rfl⟩:=hrel;have hr:=Qg1 (show j<=4 by omega) Z.o.1;by_cases a4:j<3
  ·have e1:decide ((j:Int)<3)=true:=ej (by omega)
   have v0:IntKind.i64.wrap ((i:Int)+(j:Int))=(i:Int)+(j:Int):=by rw[ey];omega
   have v1:(0:Int)<=(i:Int)+(j:Int):=by omega
   have v2:(i:Int)+(j:Int)<(s.size:Int):=by omega
   have v3:((i:Int)+(j:Int)).toNat=i+j:=by omega
   obtain⟨d,hd⟩:∃d,(s.get! (i+j)).toNat=d:=⟨_,rfl⟩;have c0:(s[i+j]'(by omega)).toNat=d:=by rw[<-hd,Qgf s (i+j) (by omega)]
   have a1:d<256:=by rw[<-hd];exact QdF _
   have z:=Qg8 s i (3-j) j r (by omega);rw[Z.o.2,hd]at z;have L:=hY z;clear z hd;by_cases D:d<128
   ·have e2:decide ((d:Int)<128)=true:=ej (by omega)
    have N:=hY (show Qcr s i=(0,0)by rw[U.o,L.o,em (.inl D)];rfl);clear D;go_wp2_with fail;go_ret2;exact⟨by rw[N.o];rfl,rfl⟩
   have e2:decide ((d:Int)<128)=false:=eh (by omega);by_cases J:192<=d
   ·have e3:decide ((192:Int)≤(d:Int))=true:=ej (by omega)
    have N:=hY (show Qcr s i=(0,0)by rw[U.o,L.o,em (.inr J)];rfl);clear D J;go_wp2_with fail;go_ret2;exact⟨by rw[N.o];rfl,rfl⟩
   have e3:decide ((192:Int)<=(d:Int))=false:=eh (by omega);have u0:IntKind.i64.wrap (64*(r:Int))=64*(r:Int):=by rw[ey];omega
   have u1:IntKind.i64.wrap (64*(r:Int)+(d:Int))=64*(r:Int)+(d:Int):=by rw[ey];omega
   have u2:IntKind.i64.wrap (64*(r:Int)+(d:Int)-128)=((64*r+d-128:Nat):Int):=by rw[ey];omega
   have HN:=hY (show 64*r+d-128<64^(j+1)/\Qkr s i (3 -(j+1)) (j+1) (64*r+d-128)=X from⟨QiJ Z.o.1 (by omega),by rw[L.o,ef (by omega)];rfl⟩);clear L D J;go_wp2_with fail;go_roundw
   case rel=>exact⟨j+1,64*r+d-128,by rfl,by go_num,by omega,by omega,HN,trivial⟩
   simp[intOf];omega
  obtain rfl:j=3:=by omega
  have N:=hY (show Qcr s i=if r<2048\/1114111<r\/(55296<=r/\r<57344)then(0,0)else(r,3)by
   have:X=some r:=by rw[<-Z.o.2];rfl
   rw[U.o,this];rfl)
  have e1:decide ((3:Int)<3)=false:=by decide
  clear a4 Z U HX;by_cases D:r<2048
  ·have e2:decide ((r:Int)<2048)=true:=ej (by omega)
   have I:=hY (show Qcr s i=(0,0)by rw[N.o,em (.inl D)]);clear D;go_wp2_with fail;go_ret2;exact⟨by rw[I.o];rfl,rfl⟩
  have e2:decide ((r:Int)<2048)=false:=eh (by omega);by_cases J:1114111<r
  ·have e3:decide ((1114111:Int)<(r:Int))=true:=ej (by omega)
   have I:=hY (show Qcr s i=(0,0)by rw[N.o,em (.inr (.inl J))]);clear D J;go_wp2_with fail;go_ret2;exact⟨by rw[I.o];rfl,rfl⟩
  have e3:decide ((1114111:Int)<(r:Int))=false:=eh (by omega);by_cases q3:55296<=r
  ·have e4:decide ((55296:Int)≤(r:Int))=true:=ej (by omega)
   by_cases q4:r<57344
   ·have e5:decide ((r:Int)<57344)=true:=ej (by omega)
    have I:=hY (show Qcr s i=(0,0)by rw[N.o,em (.inr (.inr ⟨q3,q4⟩))]);clear D J q3 q4;go_wp2_with fail;go_ret2;exact⟨by rw[I.o];rfl,rfl⟩
   have e5:decide ((r:Int)<57344)=false:=eh (by omega);have I:=hY (show Qcr s i=(r,3)by rw[N.o,ef (by omega)]);clear D J q3 q4;go_wp2_with fail;go_ret2;exact⟨by rw[I.o];rfl,rfl⟩
  have e4:decide ((55296:Int)<=(r:Int))=false:=eh (by omega);have I:=hY (show Qcr s i=(r,3)by rw[N.o,ef (by omega)]);clear D J q3;go_wp2_with fail;go_ret2;exact⟨by rw[I.o];rfl,rfl⟩
 have a5:¬(224<=(s.get! i).toNat/\(s.get! i).toNat<240):=by rw[R.o];omega
 have a7:decide ((c:Int)<240)=false:=eh (by omega);have b5:decide ((240:Int)<=(c:Int))=true:=ej (by omega);by_cases c3:c<248
 ·have a3:240≤(s.get! i).toNat∧(s.get! i).toNat<248:=by rw [R.o];omega
  have b6:decide ((c:Int)<248)=true:=ej (by omega);go_in;have a0:Qcr s i=Qfo s i 4 240 65536:=by
   unfold Qcr;rw[ef hi,ef hg,ef a2,ef a5,em a3]
  have Y:=hY a0;clear a0;have w0:IntKind.i64.wrap ((i:Int)+4)=(i:Int)+4:=by rw[ey];omega
  by_cases hn:s.size<i+4
  ·have p0:decide ((s.size:Int)<(i:Int)+4)=true:=ej (by omega)
   have U:=hY (show Qcr s i=(0,0)by rw[Y.o,Qfo,em hn]);clear hn;go_wp2_with fail;go_ret2;exact⟨by rw[U.o];rfl,rfl⟩
  have p0:decide ((s.size:Int)<(i:Int)+4)=false:=eh (by omega);obtain⟨X,hX⟩:∃X,Qkr s i 3 1 (c-240)=X:=⟨_,rfl⟩;have U:=hY (show Qcr s i=Qtl 4 65536 X by rw[Y.o,Qfo,ef hn,R.o,hX]);have HX:=hY hX;have w1:IntKind.i64.wrap ((c:Int)-240)=((c-240:Nat):Int):=by rw[ey];omega
  clear hX Y;go_wp2_with fail;go_loopw[8,10] (λrv jv wr=>∃j r:Nat,rv=.int .i64 (r:Int)/\jv=.int .i64 (j:Int)/\1<=j/\j<=4/\Yd (r<64^j/\Qkr s i (4-j) j r=X)/\wr=w) (λ_ jv _=>4 -(intOf jv).toNat)
  case atStart=>exact⟨1,c-240,rfl,rfl,an _,by decide,hY ⟨by omega,HX.o⟩,rfl⟩
  obtain⟨j,r,rfl,rfl,b7,b8,Z,rfl⟩:=hrel;have hr:=Qg1 (show j<=4 by omega) Z.o.1;by_cases a4:j<4
  ·have e1:decide ((j:Int)<4)=true:=ej (by omega)
   have v0:IntKind.i64.wrap ((i:Int)+(j:Int))=(i:Int)+(j:Int):=by rw[ey];omega
   have v1:(0:Int)<=(i:Int)+(j:Int):=by omega
   have v2:(i:Int)+(j:Int)<(s.size:Int):=by omega
   have v3:((i:Int)+(j:Int)).toNat=i+j:=by omega
   obtain⟨d,hd⟩:∃d,(s.get! (i+j)).toNat=d:=⟨_,rfl⟩;have c0:(s[i+j]'(by omega)).toNat=d:=by rw[<-hd,Qgf s (i+j) (by omega)]
   have a1:d<256:=by rw[<-hd];exact QdF _
   have z:=Qg8 s i (4-j) j r (by omega);rw[Z.o.2,hd]at z;have L:=hY z;clear z hd;by_cases D:d<128
   ·have e2:decide ((d:Int)<128)=true:=ej (by omega)
    have N:=hY (show Qcr s i=(0,0)by rw[U.o,L.o,em (.inl D)];rfl);clear D;go_wp2_with fail;go_ret2;exact⟨by rw[N.o];rfl,rfl⟩
   have e2:decide ((d:Int)<128)=false:=eh (by omega);by_cases J:192<=d
   ·have e3:decide ((192:Int)≤(d:Int))=true:=ej (by omega)
    have N:=hY (show Qcr s i=(0,0)by rw[U.o,L.o,em (.inr J)];rfl);clear D J;go_wp2_with fail;go_ret2;exact⟨by rw[N.o];rfl,rfl⟩
   have e3:decide ((192:Int)<=(d:Int))=false:=eh (by omega);have u0:IntKind.i64.wrap (64*(r:Int))=64*(r:Int):=by rw[ey];omega
   have u1:IntKind.i64.wrap (64*(r:Int)+(d:Int))=64*(r:Int)+(d:Int):=by rw[ey];omega
   have u2:IntKind.i64.wrap (64*(r:Int)+(d:Int)-128)=((64*r+d-128:Nat):Int):=by rw[ey];omega
   have HN:=hY (show 64*r+d-128<64^(j+1)/\Qkr s i (4 -(j+1)) (j+1) (64*r+d-128)=X from⟨QiJ Z.o.1 (by omega),by rw[L.o,ef (by omega)];rfl⟩);clear L D J;go_wp2_with fail;go_roundw
   case rel=>exact⟨j+1,64*r+d-128,by rfl,by go_num,by omega,by omega,HN,trivial⟩
   simp[intOf];omega
  obtain rfl:j=4:=by omega
  have N:=hY (show Qcr s i=if r<65536\/1114111<r\/(55296<=r/\r<57344)then(0,0)else(r,4)by
   have:X=some r:=by rw[<-Z.o.2];rfl
   rw[U.o,this];rfl)
  have e1:decide ((4:Int)<4)=false:=by decide
  clear a4 Z U HX;by_cases D:r<65536
  ·have e2:decide ((r:Int)<65536)=true:=ej (by omega)
   have I:=hY (show Qcr s i=(0,0)by rw[N.o,em (.inl D)]);clear D;go_wp2_with fail;go_ret2;exact⟨by rw[I.o];rfl,rfl⟩
  have e2:decide ((r:Int)<65536)=false:=eh (by omega);by_cases J:1114111<r
  ·have e3:decide ((1114111:Int)<(r:Int))=true:=ej (by omega)
   have I:=hY (show Qcr s i=(0,0)by rw[N.o,em (.inr (.inl J))]);clear D J;go_wp2_with fail;go_ret2;exact⟨by rw[I.o];rfl,rfl⟩
  have e3:decide ((1114111:Int)<(r:Int))=false:=eh (by omega);by_cases q3:55296<=r
  ·have e4:decide ((55296:Int)≤(r:Int))=true:=ej (by omega)
   by_cases q4:r<57344
   ·have e5:decide ((r:Int)<57344)=true:=ej (by omega)
    have I:=hY (show Qcr s i=(0,0)by rw[N.o,em (.inr (.inr ⟨q3,q4⟩))]);clear D J q3 q4;go_wp2_with fail;go_ret2;exact⟨by rw[I.o];rfl,rfl⟩
   have e5:decide ((r:Int)<57344)=false:=eh (by omega);have I:=hY (show Qcr s i=(r,4)by rw[N.o,ef (by omega)]);clear D J q3 q4;go_wp2_with fail;go_ret2;exact⟨by rw[I.o];rfl,rfl⟩
  have e4:decide ((55296:Int)<=(r:Int))=false:=eh (by omega);have I:=hY (show Qcr s i=(r,4)by rw[N.o,ef (by omega)]);clear D J q3;go_wp2_with fail;go_ret2;exact⟨by rw[I.o];rfl,rfl⟩
 have b3:¬(240<=(s.get! i).toNat/\(s.get! i).toNat<248):=by rw[R.o];omega
 have b6:decide ((c:Int)<248)=false:=eh (by omega);have U:=hY (show Qcr s i=(0,0)by unfold Qcr;rw[ef hi,ef hg,ef a2,ef a5,ef b3]);go_in;go_wp2_with fail;go_ret2;exact⟨by rw[U.o];rfl,rfl⟩
theorem QnL{s:ByteArray}{p f:Nat}(J:p<s.size)(L:s.size<=p+f):Lib.validGoD f (s.data.toList.drop p)=if Utf8.decode s p=(65533,1)then false else Lib.validGoD (f-1) (s.data.toList.drop (p+(Utf8.decode s p).2)):=by
 cases f with
 |zero=>omega
 | succ f=>
   have I:s.data.toList.length=s.size:=by rw[aH];rfl
   have D:s.data.toList.drop p≠[]:=by
    intro e;have:=congrArg List.length e;rw[au,I]at this;simp at this;omega
   rw[Lib.validGoD,ef D,Lib.decodeL_drop,dY];by_cases z:Utf8.decode s p=(65533,1)
   .rw [em z,em (by rw[z];exact⟨rfl,rfl⟩)]
   rw[ef z,ef (λh=>z (ee h.1 h.2))];rfl
theorem QnM{s:ByteArray}{p f:Nat}(D:s.size<=p):Lib.validGoD f (s.data.toList.drop p)=true:=by
 have z:s.data.toList.length=s.size:=by rw[aH];rfl
 rw[bC (by omega)];cases f<;>rfl
theorem Qds(w:World)(s:ByteArray)(hs:s.size<=1000000000000):Calls prog 145 #[.string s] w λe w'=>e=.returned (.bool (Lib.validD s.data.toList))/\w'=w:=by
 obtain⟨V,hV⟩:∃V,Lib.validD s.data.toList=V:=⟨_,rfl⟩;rw[hV];have hl:s.data.toList.length=s.size:=by rw[aH];rfl
 have U:=λ(p:Nat)=>Qlp w s p hs
 have a1:=hY U;have HV:=hY hV;have a0:=hY hl;clear U hV hl;go_in;go_wp2_with fail;go_loopw[3] (λv wr=>∃p f:Nat,v=.int .i64 (p:Int)/\p<=s.size/\Yd (Lib.validGoD f (s.data.toList.drop p)=V/\s.size<=p+f)/\wr=w) (λv _=>s.size -(intOf v).toNat)
 case atStart=>exact⟨0,s.size,rfl,av _,hY ⟨by rw[dw,<-a0.o];exact HV.o,by omega⟩,rfl⟩
 obtain⟨p,f,rfl,hp,Z,rfl⟩:=hrel;by_cases X:p<s.size
 ·have e1:decide ((p:Int)<(s.size:Int))=true:=ej (by omega)
  have D:=QnL X Z.o.2;rw[Z.o.1]at D;obtain⟨J,L,hr⟩:=Qde X;have I:=QpK s p;go_wp2_with fail;refine(a1.o p).mono ?_;rintro e w2 ⟨rfl,rfl⟩;obtain⟨r,z,hd⟩:∃r z,Utf8.decode s p=(r,z):=⟨_,_,rfl⟩;by_cases R:Utf8.decode s p=(65533,1)
  ·rw [em (.inr R)] at I
   rw[em R]at D;rw[I];have N:=hY D;clear I D R hd J L hr;go_wp2_with fail;go_ret;exact⟨by rw[N.o];rfl,rfl⟩
  rw[ef (λh=>h.elim (λh=>absurd h (by omega)) R)]at I;rw[ef R]at D;rw[I];rw[hd]at D J L ⊢;dsimp only at D J L ⊢;have e2:((z:Int)==0)=false:=eu.2 (by omega);have e3:IntKind.i64.wrap ((p:Int)+(z:Int))=(p:Int)+(z:Int):=by rw[ey];omega
  have N:=hY D.symm;have HF:=Z.o.2;have Y:=hY J;clear I D R hd hr J;go_wp2_with fail;go_roundw
  case rel=>exact⟨p+z,f-1,by go_num,L,hY ⟨N.o,by have:=Y.o;omega⟩,trivial⟩
  have:=Y.o;simp[intOf];omega
 obtain rfl:p=s.size:=by omega
 have e1:decide ((s.size:Int)<(s.size:Int))=false:=eh (by omega);have HE:=hY (show V=true by rw[<-Z.o.1];exact QnM (an _));go_wp2_with fail;go_ret;exact⟨by rw[HE.o];rfl,rfl⟩
theorem Qpd(w:World)(k:ByteArray)(R:k.size<=maxLen):Calls prog 102 #[.string k] w λe w'=>e=.returned (.int .i64 (Qbd k))/\w'=w:=by
 obtain⟨r,z⟩:∃r,Qbd k=r:=⟨_,rfl⟩;rw[z];unfold Qbd at z;by_cases J:k.size=0
 ·rw [em J] at z
  subst z;have N:((k.size:Int)==0)=true:=by rw[J];rfl
  clear J;go_in;go_wp2_with fail;go_ret;exact⟨rfl,rfl⟩
 rw[ef J]at z;have N:((k.size:Int)==0)=false:=eu.2 (by omega);by_cases h1:64<k.size
 ·rw [em h1] at z
  subst z;have L:decide ((64:Int)<(k.size:Int))=true:=ej (by omega);go_in;go_wp2_with fail;go_ret;exact⟨rfl,rfl⟩
 rw[ef h1]at z;have L:decide ((64:Int)<(k.size:Int))=false:=eh (by omega);have D:=hY (Qds w k (by omega));cases I:Lib.validD k.data.toList with
 | true=>
   rw[I,em rfl]at z;rw[I]at D;subst z;go_in;go_wp2_with fail;refine D.o.mono ?_;rintro e w1 ⟨rfl,rfl⟩;go_wp2_with fail;go_ret;exact⟨rfl,rfl⟩
 | false=>
   rw[I,ef (by decide)]at z;rw[I]at D;subst z;go_in;go_wp2_with fail;refine D.o.mono ?_;rintro e w1 ⟨rfl,rfl⟩;go_wp2_with fail;go_ret;exact⟨rfl,rfl⟩
theorem Qqy(w:World)(v:Val)(sl so:Sl):Calls prog 221 #[aggV v sl so] w λe w'=>e=.returned (.bool (!Qt0 v))/\Ext w w':=by
 obtain⟨k,b,i,t,l,z,J⟩:=v;show Calls _ _ #[.agg #[.int .i64 k,.bool b,.int .i64 i,.string t,.slice sl.a l.length sl.c,.slice so.a z.length so.c]] _ λe w'=>e=.returned (.bool (!QbD k b i t l.length z.length))/\Ext w w'
 by_cases I:z.length=0
 ·have D:((z.length:Int) == 0)=true:=by rw [I];rfl
  go_in;go_wp2_with fail
  all_goals
   go_ret;refine⟨?_,(fu w).alloc _ _⟩;refine congrArg (λx=>Ending.returned (Value.bool x)) ?_;unfold QbD
   first
    |(simp[*];done)
    |(rw[ef (by omega)];simp[*];done)
    |(rw[ef (by omega),show k=1 by omega];simp[*])
 have D:((z.length:Int)==0)=false:=eu.2 (by omega);go_in;go_wp2_with fail
 all_goals
  go_ret;refine⟨?_,(fu w).alloc _ _⟩;refine congrArg (λx=>Ending.returned (Value.bool x)) ?_;unfold QbD
  first
   |(simp[*];done)
   |(rw[ef (by omega)];simp[*];done)
   |(rw[ef (by omega),show k=1 by omega];simp[*])
theorem QnK{t:ByteArray}(h:t.size=0):Lib.validD t.data.toList=true:=by
 have z:t.data.toList.length=t.size:=by rw[aH];rfl
 have:t.data.toList=[]:=ar (by omega);rw[this];rfl
theorem Qpj(k:Int)(b:Bool)(i:Int)(t:ByteArray)(l:List Val)(ok:List ByteArray)(ov:List Val)(q:Nat)(D:ov.length=ok.length):QbN (.mk k b i t l ok ov) q =
  if QbD k b i t l.length ok.length=true then 9 else if 64<q then 5 else if Lib.validD t.data.toList=false then 3 else if Qbz l (q+1)≠0 then Qbz l (q+1)else Qer none ok ov (q+1):=by
 unfold QbN;by_cases L:QbD k b i t l.length ok.length=true
 .rw [em L,em L]
 rw[ef L,ef L];by_cases N:64<q
 .rw [em N,em N]
 rw[ef N,ef N];have z:QbD k b i t l.length ok.length=false:=by simpa using L
 unfold QbD at z;have I:¬(k<1\/6<k):=by
  intro h;rw[em h]at z;cases z
 rw[ef I]at z;simp only[Bool.or_eq_false_iff,Bool.and_eq_false_iff,bne_eq_false_iff_eq]at z;obtain⟨⟨⟨⟨-,-⟩,h4⟩,h5⟩,Z⟩:=z;by_cases U:k=4
 ·subst U
  have R:l=[]:=ar (h5.resolve_left (by decide));have I:ok=[]:=ar (Z.resolve_left (by decide));subst R I;have J:ov=[]:=ar D;subst J;rw[em rfl];cases Lib.validD t.data.toList<;>simp[Qbz,Qer]
 rw[ef U];have ht:Lib.validD t.data.toList=true:=QnK (h4.resolve_left U);rw[ht,ef (show ¬(true=false)by decide)];by_cases Y:k=5
 ·subst Y
  have I:ok=[]:=ar (Z.resolve_left (by decide));subst I;have J:ov=[]:=ar D;subst J;rw[em rfl];by_cases hz:Qbz l (q+1)=0
  .rw [ef (by simp[hz]),hz];rfl
  rw[em hz]
 rw[ef Y];have R:l=[]:=ar (h5.resolve_left Y);subst R;rw[show(if Qbz [] (q+1)≠0 then Qbz [] (q+1)else Qer none ok ov (q+1))=Qer none ok ov (q+1)from ef (by simp[Qbz])];by_cases X:k=6
 .rw [em X]
 rw[ef X];have I:ok=[]:=ar (Z.resolve_left X);subst I;have J:ov=[]:=ar D;subst J;rfl
def QkT(ok:List ByteArray)(j:Nat):ByteArray:=(prevK ok j).getD ByteArray.empty
theorem QsJ(m:Nat):∀(d:Val),SizeOf.sizeOf d<=m->cntV d<=1100000->∀(w:World) (sl so:Sl) (q:Nat),q<=65->RV w (Lt w) d sl so->
  Calls prog 194 #[aggV d sl so,.int .i64 (q:Int)] w λe w'=>e=.returned (.int .i64 (QbN d q))/\Ext w w':=by
 induction m with
 |zero=>intro d hd;have:=Val.Qb7 d;omega
 |succ m ih=>
 intro d hd d0 w sl so q hq h;have HI:=hY ih;clear ih;obtain⟨k,b,i,t,l,D,ov⟩:=d;have b7:=λW=>Qqy W (.mk k b i t l D ov) sl so
 show Calls _ _ #[.agg #[.int .i64 k,.bool b,.int .i64 i,.string t,.slice sl.a l.length sl.c,.slice so.a D.length so.c],.int .i64 q] _ _;cases h with
 |mk bl fl bo fo cl co hl ho hov el rl ek eo ro bk bi bt nl no=>
 have d3:∀(j:Nat) (d:Val),l[j]? = some d->SizeOf.sizeOf d<=m:=λj d hj=>bq (ab (Val.Qqm hj) hd)
 have d7:∀(j:Nat) (d:Val),ov[j]? = some d->SizeOf.sizeOf d<=m:=λj d hj=>bq (ab (Val.Qqn hj) hd)
 unfold cntV at d0;have hu:=λW=>Qds W t (by omega)
 have f0:=hY d3;have e0:=hY d7;have e8:=hY el;have e7:=hY rl;have e6:=hY ek;have e2:=hY eo;have e1:=hY ro;have d8:=hY hov;have HU:=hY hu;have b3:=hY b7;have b6:=hY hl;have b5:=hY ho;have c3:=hY d0;obtain⟨r,hr⟩:∃r,QbN (.mk k b i t l D ov) q=r:=⟨_,rfl⟩;rw[hr];rw[Qpj _ _ _ _ _ _ _ _ hov]at hr;clear d3 d7 el rl ek eo ro hov hd hu b7;go_in;go_wp2_with fail;have d4:=(fu w).alloc #[.int .i64 k,.bool b,.int .i64 i,.string t,.slice sl.a l.length sl.c,.slice so.a D.length so.c] 28;have a7:=fx w 28 #[.int .i64 k,.bool b,.int .i64 i,.string t,.slice sl.a l.length sl.c,.slice so.a D.length so.c];refine(b3.o _).mono ?_;rintro e w1 ⟨rfl,a4⟩;obtain⟨q0,q1,q2,q3,q4,q5⟩:=(a7.ext a4).c6;have lq:=(a7.ext a4).lt;have HX:=hY (d4.trans a4);have HB:=hY (a7.ext a4);clear d4 a4 a7 b3;unfold Qt0;dsimp only[Val.kind,Val.b,Val.i,Val.t,Val.l,Val.ok];by_cases a9:QbD k b i t l.length D.length=true
 ·rw [em a9] at hr
  subst hr;rw[a9];go_wp2_with fail;go_ret;exact⟨rfl,HX.o⟩
 rw[ef a9]at hr;rw[show QbD k b i t l.length D.length=false by simpa using a9];by_cases b4:64<q
 ·rw [em b4] at hr
  subst hr;have g0:decide ((64:Int)<(q:Int))=true:=ej (by omega);go_wp2_with fail;go_ret;exact⟨rfl,HX.o⟩
 rw[ef b4]at hr;have g0:decide ((64:Int)<(q:Int))=false:=eh (by omega);go_wp2_with fail;refine(HU.o _).mono ?_;rintro e w2 ⟨rfl,rfl⟩;cases hv:Lib.validD t.data.toList with
 | false=>
   rw[hv,em rfl]at hr;subst hr;go_wp2_with fail;go_ret;exact⟨rfl,HX.o⟩
 |true=>
 rw[hv,ef (by decide)]at hr;obtain⟨a8,c0⟩:∃x,Qbz l (q+1)=x:=⟨_,rfl⟩;obtain⟨rm,b8⟩:∃x,Qer none D ov (q+1)=x:=⟨_,rfl⟩;rw[c0,b8]at hr;have HR:=hY hr;have c9:=hY c0;have e3:=hY b8;clear hr c0 b8;go_wp2_with fail;go_loopw[5] (λqq wr=>∃j:Nat,qq=.int .i64 j/\j<=l.length/\Yd (Qbz (l.drop j) (q+1)=a8)/\Ext w2 wr) (λqq _=>l.length -(intOf qq).toNat)
 case atStart=>exact⟨0,rfl,av _,c9,fu _⟩
 obtain⟨j,rfl,hj,HM,hn⟩:=hrel;obtain⟨p0,p1,p2,p3,p4,p5⟩:=(HB.o.ext hn).c6;have lp:=(HB.o.ext hn).lt;by_cases a0:j<l.length
 ·have g1:(j:Int)<(l.length:Int):=by omega
  have f3:decide ((j:Int)<(l.length:Int))=true:=ej g1;obtain⟨d,hd⟩:∃d,l[j]? = some d:=⟨_,ac a0⟩;have R:Ext w wr:=HX.o.trans hn;have X:Agree (Lt w) w wr:=R.agree λ_ h=>h
  obtain⟨a2,c1,c2⟩:=b6.o.eq (by omega);have N:=b6.o.fits (show 0<l.length by omega);obtain⟨sa,sc⟩:=sl;dsimp only at a2 c1 c2;subst a2;obtain⟨v0,v1,v2,v3,v4,v5⟩:=(e8.o j d hd).agree X N;have lb:bl<wr:=ab N R.size;have a1:Calls prog 194 #[aggV d (cl j).1 (cl j).2,.int .i64 ((q:Int)+1)] wr λe w'=>e=.returned (.int .i64 (QbN d (q+1)))/\Ext wr w':=by
   rw[show(q:Int)+1=((q+1:Nat):Int)by omega];exact HI.o d (f0.o j d hd) (by have:=Qid hd;have:=c3.o;omega) wr _ _ (q+1) (by omega) (((e7.o j d hd).agree X).mono λi hi=>ab hi R.size)
  have z:=Qpf (j:=q+1) hd;rw[HM.o]at z;have g2:IntKind.i64.wrap ((q:Int)+1)=(q:Int)+1:=by rw[ey];omega
  have Y:=hY a1;have I:=hY z;have HN:=hY hn;clear hd R X a1 z hn;go_wp2_with fail;refine Y.o.mono ?_;rintro e w3 ⟨rfl,c4⟩;have d5:=hY (HN.o.trans c4);have z:=I.o;clear c4 v0 v1 v2 v3 v4 v5 Y I HN p0 p1 p2 p3 p4 p5;generalize QbN d (q+1)=c at z;by_cases hc:c=0
  ·subst hc
   rw[ef (by simp)]at z;have I:=hY z.symm;clear z;go_wp2_with fail;go_roundw
   case rel=>exact⟨j+1,by go_num,a0,I,d5.o⟩
   simp[intOf];omega
  rw[em hc]at z;subst z;have g3:(a8 != 0)=true:=by simpa using hc
  have HE:=hY (show r=a8 by rw[<-HR.o,em hc]);have J:=hY (HX.o.trans d5.o);clear hc;go_wp2_with fail;go_ret;exact⟨by rw[HE.o];rfl,J.o⟩
 obtain rfl:j=l.length:=by omega
 have g1:decide ((l.length:Int)<(l.length:Int))=false:=eh (by omega);have hz:a8=0:=by rw[<-HM.o,cq,Qbz]
 have HE:=hY (show rm=r by rw[<-HR.o,ef (by simp[hz])]);have HN:=hY hn;clear hn hz HM;go_wp2_with fail;clear p0 p1 p2 p3 p4 p5 lp;go_loopw[7,8] (λlv qq wr=>∃j:Nat,lv=.string (QkT D j)/\qq=.int .i64 j/\j<=D.length/\Yd (Qer (prevK D j) (D.drop j) (ov.drop j) (q+1)=rm)/\Ext w2 wr) (λ_ qq _=>D.length -(intOf qq).toNat)
 case atStart=>exact⟨0,rfl,rfl,av _,e3,HN.o⟩
 obtain⟨j,rfl,rfl,hj,HM,hn⟩:=hrel;obtain⟨p0,p1,p2,p3,p4,p5⟩:=(HB.o.ext hn).c6;have lp:=(HB.o.ext hn).lt;by_cases a0:j<D.length
 ·have g2:(j:Int)<(D.length:Int):=by omega
  have f2:decide ((j:Int)<(D.length:Int))=true:=ej g2;obtain⟨U,hk⟩:∃U,D[j]? = some U:=⟨_,ac a0⟩;obtain⟨d,hd⟩:∃d,ov[j]? = some d:=⟨_,ac (by rw[d8.o];exact a0)⟩;have R:Ext w wr:=HX.o.trans hn;have X:Agree (Lt w) w wr:=R.agree λ_ h=>h
  obtain⟨a2,c1,c2⟩:=b5.o.eq (by omega);have N:=b5.o.fits (show 0<D.length by omega);obtain⟨sa,sc⟩:=so;dsimp only at a2 c1 c2;subst a2;obtain⟨v0,v1,v2,v3,v4,v5⟩:=(e2.o j d hd).agree X N;have lb:bo<wr:=ab N R.size;have kc:wr.cell? ⟨bo,fo+j*7,none⟩=some (.string U):=(X.cell N).trans (e6.o j U hk).1;have a1:Calls prog 194 #[aggV d (co j).1 (co j).2,.int .i64 ((q:Int)+1)] wr λe w'=>e=.returned (.int .i64 (QbN d (q+1)))/\Ext wr w':=by
   rw[show(q:Int)+1=((q+1:Nat):Int)by omega];exact HI.o d (e0.o j d hd) (by have:=QdG hd hk;have:=c3.o;omega) wr _ _ (q+1) (by omega) (((e1.o j d hd).agree X).mono λi hi=>ab hi R.size)
  have c8:=λW=>Qds W U (by have:=QdG hd hk;have:=c3.o;omega)
  have z:=Qpg (p:=prevK D j) (Q:=q+1) hd hk;rw[HM.o]at z;have g3:IntKind.i64.wrap ((q:Int)+1)=(q:Int)+1:=by rw[ey];omega
  have Y:=hY a1;have I:=hY z;have c7:=hY c8;have HN:=hY hn;have a6:=hY hk;clear hd R X a1 z hn HM c8 hk;go_wp2_with fail;refine(c7.o _).mono ?_;rintro e w9 ⟨rfl,rfl⟩;have z:=I.o;clear I c7;cases hv:Lib.validD U.data.toList with
  | false=>
    rw[hv,em (by decide)]at z;have L:=hY (show r=3 by rw[<-HE.o];exact z);have J:=hY (HX.o.trans HN.o);clear z;go_wp2_with fail;go_ret;exact⟨by rw[L.o];rfl,J.o⟩
  | true=>
    rw[hv,ef (by decide)]at z;by_cases b0:j=0
    ·subst b0
     rw[show prevK D 0=none from rfl,dW,ef (by decide)]at z;have gg:decide ((0:Int)<((0:Nat):Int))=false:=by decide
     have I:=hY z;clear z;go_wp2_with fail;refine Y.o.mono ?_;rintro e w4 ⟨rfl,a5⟩;have a3:=hY (HN.o.trans a5);have z:=I.o;clear a5 Y I v0 v1 v2 v3 v4 v5 kc p0 p1 p2 p3 p4 p5;generalize QbN d (q+1)=c at z;by_cases hc:c=0
     ·subst hc
      rw[ef (by simp)]at z;have I:=hY (show Qer (prevK D (0+1)) (D.drop (0+1)) (ov.drop (0+1)) (q+1)=rm by rw[show prevK D (0+1)=some U from a6.o];exact z.symm);clear z;go_wp2_with fail;go_roundw
      case rel=>exact⟨0+1,by rw[show QkT D (0+1)=U by unfold QkT;rw[show prevK D (0+1)=some U from a6.o];rfl],by go_num,a0,I,a3.o⟩
      simp[intOf];omega
     rw[em hc]at z;have L:=hY (show r=c by rw[<-HE.o];exact z);have g4:(c != 0)=true:=by simpa using hc
     have J:=hY (HX.o.trans a3.o);clear hc z;go_wp2_with fail;go_ret;exact⟨by rw[L.o];rfl,J.o⟩
    obtain⟨i,rfl⟩:∃i,j=i+1:=⟨j-1,by omega⟩;obtain⟨y,hy⟩:∃y,D[i]? = some y:=⟨_,ac (by omega)⟩;rw[show prevK D (i+1)=some y from hy,dn]at z;rw[show QkT D (i+1)=y by unfold QkT;rw[show prevK D (i+1)=some y from hy];rfl];have gg:decide ((0:Int)<((i+1:Nat):Int))=true:=ej (by omega);have f1:(0:Int)<((i+1:Nat):Int):=by omega
    cases Z:klt y U with
    | false=>
      rw[Z,em (by decide)]at z;have L:=hY (show r=8 by rw[<-HE.o];exact z);have J:=hY (HX.o.trans HN.o);cases d6:klt U y with
      | true=>
        have N:Op.bytesLess U.toList y.toList=true:=d6;clear hy b0 z;go_wp2_with fail;go_ret;exact⟨by rw[L.o];rfl,J.o⟩
      | false=>
        obtain rfl:y=U:=QbR Z d6;have N:Op.bytesLess y.toList y.toList=false:=Z;have e4:(y.toList==y.toList)=true:=by simp
        clear hy b0 z;go_wp2_with fail;go_ret;exact⟨by rw[L.o];rfl,J.o⟩
    | true=>
      rw[Z,ef (by decide)]at z;have N:Op.bytesLess U.toList y.toList=false:=QrY Z;have e4:(U.toList==y.toList)=false:=Qp5 (λe=>by rw[e,Qah]at Z;cases Z);have I:=hY z;clear z hy b0;go_wp2_with fail;refine Y.o.mono ?_;rintro e w4 ⟨rfl,a5⟩;have a3:=hY (HN.o.trans a5);have z:=I.o;clear a5 Y I v0 v1 v2 v3 v4 v5 kc p0 p1 p2 p3 p4 p5;generalize QbN d (q+1)=c at z;by_cases hc:c=0
      ·subst hc
       rw[ef (by simp)]at z;have I:=hY (show Qer (prevK D ((i+1)+1)) (D.drop ((i+1)+1)) (ov.drop ((i+1)+1)) (q+1)=rm by rw[show prevK D ((i+1)+1)=some U from a6.o];exact z.symm);clear z;go_wp2_with fail;go_roundw
       case rel=>exact⟨(i+1)+1,by rw[show QkT D ((i+1)+1)=U by unfold QkT;rw[show prevK D ((i+1)+1)=some U from a6.o];rfl],by go_num,a0,I,a3.o⟩
       simp[intOf];omega
      rw[em hc]at z;have L:=hY (show r=c by rw[<-HE.o];exact z);have g4:(c != 0)=true:=by simpa using hc
      have J:=hY (HX.o.trans a3.o);clear hc z;go_wp2_with fail;go_ret;exact⟨by rw[L.o];rfl,J.o⟩
 obtain rfl:j=D.length:=by omega
 have g2:decide ((D.length:Int)<(D.length:Int))=false:=eh (by omega);have hz:rm=0:=by rw[<-HM.o,<-d8.o,cq (l:=ov),Qer]
 have L:=hY (show r=0 by rw[<-HE.o];exact hz);have J:=hY (HX.o.trans hn);clear hn hz;go_wp2_with fail;go_ret;exact⟨by rw[L.o];rfl,J.o⟩
variable{so:Sl}
theorem Qpc{v:Val}(h:RV w (Lt w) v sl so)(R:cntV v<=1100000):Calls prog 138 #[aggV v sl so] w λe w'=>e=.returned (.int .i64 (QbN v 1))/\Ext w w':=by
 have z:=(fu w).alloc #[.int .i64 v.kind,.bool v.b,.int .i64 v.i,.string v.t,.slice sl.a v.l.length sl.c,.slice so.a v.ok.length so.c] 28;have L:=QsJ _ v (an _) R (w.alloc (.cells #[.int .i64 v.kind,.bool v.b,.int .i64 v.i,.string v.t,.slice sl.a v.l.length sl.c,.slice so.a v.ok.length so.c] 28)) sl so 1 (by decide) ((h.agree (z.agree λ_ h=>h)).mono λi hi=>ab hi z.size);have J:=hY L;have I:=hY z;clear L h z;go_in;go_wp2_with fail;refine J.o.mono ?_;rintro e w1 ⟨rfl,D⟩;have N:=hY (I.o.trans D);clear D I J;go_wp2_with fail;go_ret;exact⟨rfl,N.o⟩
theorem Qqi{v d:Val}(h:(QcU v)[j]? = some d):SizeOf.sizeOf d<SizeOf.sizeOf v:=by
 obtain⟨k,b,i,t,l,D,z⟩:=v;unfold QcU at h;dsimp only at h;split at h
 .exact Val.Qqm h
 split at h
 .exact Val.Qqn h
 simp at h
def Qmx(v:Val)(w:World)(e:Ending)(w':World):Prop:=
 ∃(s:Sl) (xs:List WV),e=.returned (.slice s.a xs.length s.c)/\xs.map WV.v=QcU v/\Rd w' (Lt w'.heap.size) 6 s xs.length (QbV xs)/\(∀x∈xs,RV w' (Lt w.heap.size) x.v x.sl x.so)/\Ext w w'
theorem QnO{v:Val}(h:RV w (Lt w) v sl so):Calls prog 195 #[aggV v sl so] w (Qmx v w):=by
 obtain⟨k,b,i,t,l,D,ov⟩:=v;obtain⟨i0,hi,b8,c4,c2⟩:=eG Tryz.QgL;show Calls _ _ #[.agg #[.int .i64 k,.bool b,.int .i64 i,.string t,.slice sl.a l.length sl.c,.slice so.a D.length so.c]] _ _;cases h with
 |mk bl fl bo fo cl co hl ho hov el rl ek eo ro bk bi bt nl no=>
 have f6:=hY el;have f4:=hY rl;have d8:=hY eo;have g0:=hY ek;have d7:=hY ro;have b0:=hY hov;have d5:=hY hl;have a1:=hY ho;have b5:=hY nl;have a2:=hY no;clear el rl ek eo ro hov hl ho nl no bk bi bt;go_in;by_cases h5:k=5
 ·subst h5
  have R:=(fu w).alloc #[.int .i64 5,.bool b,.int .i64 i,.string t,.slice sl.a l.length sl.c,.slice so.a D.length so.c] 28;have a3:Rd w (Lt w) 6 sl (wl l cl).length (QbV (wl l cl)):=by
   refine QtQ (by rw[Qeu];exact d5.o) λj x hx=>?_
   obtain⟨e1,e2,e3⟩:=QrL hx;rw[e2,e3];exact f6.o j _ e1
  rw[Qeu]at a3;have e6:=hY ((a3.agree (R.agree λ_ h=>h)).mono λi (hi:i<w)=>(show i<w.heap.size+1 by omega));have a5:=hY R;have a9:0+l.length<=maxLen:=by have:=b5.o;unfold maxLen;omega
  have a7:(0+l.length)*88<=140737488355328:=by have:=b5.o;omega
  clear a3 R;go_wp2_with(at_builtin;refine Qac _ rfl (.tmp 8) (.tmp 10) 25 rfl (w.heap.size+1) 28 i0 _ 6 88 underlying25 hi b8 c4 c2 rfl (by decide) Sl.none 0 [] rfl (eJ _ _ _ _) (Lt (w.heap.size+1)) sl l.length (QbV (wl l cl)) rfl e6.o (QoG _) a9 a7 (by rw[ew];exact an _) ?_;intro s' w3 z U a8;have N:=(fx w 28 #[.int .i64 5,.bool b,.int .i64 i,.string t,.slice sl.a l.length sl.c,.slice so.a D.length so.c]).agree (U.agree (F:=λb=>b=w.heap.size) (λi hi=>by rw[ew];omega) (λk hk _=>by cases hk)) rfl;obtain⟨q0,q1,q2,q3,q4,q5⟩:=N.c6;have lq:=N.lt;have L:=hY z;have I:=hY U;clear z U a8 N);go_ret;have c7:Ext w w3:=a5.o.wr I.o (λi hi=>by cases hi);have z:=L.o;rw[aB,aL]at z;refine⟨s',wl l cl,by rw[Qeu];rfl,by rw[QuL];rfl,?_,λx hx=>?_,c7⟩
  ·rw [Qeu]
   exact(fE z).mono λi hi=>hi.2
  obtain⟨j,hj⟩:=bx hx;obtain⟨e1,e2,e3⟩:=QrL hj;rw[e2,e3];exact(f4.o j _ e1).agree (c7.agree λ_ h=>h)
 have g5:(k==5)=false:=by simpa using h5
 by_cases h6:k=6
 ·subst h6
  have R:=(fu w).alloc #[.int .i64 6,.bool b,.int .i64 i,.string t,.slice sl.a l.length sl.c,.slice so.a D.length so.c] 28;have b6:=fx w 28 #[.int .i64 6,.bool b,.int .i64 i,.string t,.slice sl.a l.length sl.c,.slice so.a D.length so.c];have a5:=hY R;have f0:=hY b6;have f1:=hY (OW.nil (w.alloc (.cells #[.int .i64 6,.bool b,.int .i64 i,.string t,.slice sl.a l.length sl.c,.slice so.a D.length so.c] 28)) (w.heap.size+1) w.heap.size);have a0:(w.alloc (.cells #[.int .i64 6,.bool b,.int .i64 i,.string t,.slice sl.a l.length sl.c,.slice so.a D.length so.c] 28)).heap.size=w.heap.size+1:=ew _ _;have c1:=hY a0;clear R b6 a0;go_wp2_with fail;go_loopw[3,4] (λou qq wr=>∃(j:Nat) (s:Sl) (xs:List WV),ou=.slice s.a xs.length s.c/\qq=.int .i64 j/\j<=D.length/\Yd (xs.map WV.v=ov.take j)/\Yd (OW wr (w.heap.size+1) w.heap.size s xs)/\Yd (Blk wr w.heap.size 28 #[.int .i64 6,.bool b,.int .i64 i,.string t,.slice sl.a l.length sl.c,.slice so.a D.length so.c])/\Yd (Ext w wr/\w.heap.size+1<=wr.heap.size)) (λ_ qq _=>D.length -(intOf qq).toNat)
  case atStart=>exact⟨0,Sl.none,[],rfl,rfl,av _,hY rfl,f1,f0,hY ⟨a5.o,Nat.le_of_eq c1.o.symm⟩⟩
  obtain⟨j,s,xs,rfl,rfl,hj,Y,HO,HB,HX⟩:=hrel;obtain⟨p0,p1,p2,p3,p4,p5⟩:=HB.o.c6;have lp:=HB.o.lt;by_cases d4:j<D.length
  ·have g1:(j:Int)<(D.length:Int):=by omega
   have g3:decide ((j:Int)<(D.length:Int))=true:=ej g1;obtain⟨d,hd⟩:∃d,ov[j]? = some d:=⟨_,ac (by rw[b0.o];exact d4)⟩;have a6:Agree (Lt w) w wr:=HX.o.1.agree λ_ h=>h
   obtain⟨b7,e8,f3⟩:=a1.o.eq (by omega);have a4:=a1.o.fits (show 0<D.length by omega);obtain⟨sa,sc⟩:=so;dsimp only at b7 e8 f3;subst b7;obtain⟨v0,v1,v2,v3,v4,v5⟩:=(d8.o j d hd).agree a6 a4;have lb:bo<wr:=ab a4 HX.o.1.size;have c9:xs.length=j:=by rw[<-aq (f:=WV.v),Y.o,ap,b0.o];omega
   have Z:Ext wr (wr.alloc (.cells #[.int .i64 d.kind,.bool d.b,.int .i64 d.i,.string d.t,.slice (co j).1.a d.l.length (co j).1.c,.slice (co j).2.a d.ok.length (co j).2.c] 28)):=(fu _).alloc _ _;have c8:RV wr (Lt w) d (co j).1 (co j).2:=(d7.o j d hd).agree a6;have f5:=hY (c8.agree (Z.agree λb (hb:b<w)=>ab hb HX.o.1.size));have c3:=hY (HO.o.ext Z HX.o.1.size);have e0:=hY (fx wr 28 #[.int .i64 d.kind,.bool d.b,.int .i64 d.i,.string d.t,.slice (co j).1.a d.l.length (co j).1.c,.slice (co j).2.a d.ok.length (co j).2.c]);have d6:=hY Z;have HD:=hY hd;have f8:=a2.o;have a9:xs.length+1<=maxLen:=by have:=a2.o;unfold maxLen;omega
   have a7:(xs.length+1)*88<=140737488355328:=by have:=a2.o;omega
   have J:w.heap.size+1<=(wr.alloc (.cells #[.int .i64 d.kind,.bool d.b,.int .i64 d.i,.string d.t,.slice (co j).1.a d.l.length (co j).1.c,.slice (co j).2.a d.ok.length (co j).2.c] 28)).heap.size:=by rw[ew];have:=HX.o.2;omega
   have d3:=(⟨d,(co j).1,(co j).2⟩:WV).one;have f9:=hY c9;clear hd a6 Z c8 c9 a4;go_wp2_with(at_builtin;refine Qac _ rfl (.tmp 22) (.tmp 29) 25 rfl (w.heap.size+1) 28 i0 _ 6 88 underlying25 hi b8 c4 c2 rfl (by decide) s xs.length (QbV xs) rfl c3.o.own (λb=>b=wr.heap.size) ⟨some ⟨wr,0,none⟩,1⟩ 1 (⟨d,(co j).1,(co j).2⟩:WV).cells rfl (fG e0.o (by decide) rfl) d3 a9 a7 J ?_;intro s' w3 z U a8;have L:=hY z;have I:=hY U;clear z U a8);have X:∀b,s.row=some b->w+1<=b:=λb hb=>(Qaa HO.o.own hb).1
   have b3:OW w3 (w.heap.size+1) w.heap.size s' (xs++[⟨d,(co j).1,(co j).2⟩]):=OW.append (cE _) J c3.o (λy hy=>by simp only[List.mem_singleton]at hy;subst hy;exact f5.o) (by rw[show QbV [(⟨d,(co j).1,(co j).2⟩:WV)]=(⟨d,(co j).1,(co j).2⟩:WV).cells by simp[QbV]];exact L.o) I.o;have N:Blk w3 w.heap.size 28 #[.int .i64 6,.bool b,.int .i64 i,.string t,.slice sl.a l.length sl.c,.slice (some ⟨bo,fo,none⟩) D.length sc]:=(HB.o.ext d6.o).agree (I.o.agree (F:=λb=>b=w.heap.size) (λi hi=>by rw[ew];omega) (λk hk e=>by have:=X k hk;omega)) rfl;have b4:Ext w w3:=(HX.o.1.trans d6.o).wr I.o (λi hi=>by have:=X i hi;omega);have c0:w.heap.size+1<=w3.heap.size:=aj J I.o.grown.size;have f7:=hY b3;have e7:=hY N;have e4:=hY (And.intro b4 c0);clear b3 N b4 c0 X L I;go_roundw
   case rel=>exact⟨j+1,s',xs++[⟨d,(co j).1,(co j).2⟩],by rw[ai];rfl,by go_num,d4,hY (by rw[aR,Y.o,aZ,HD.o];rfl),f7,e7,e4⟩
   simp[intOf];omega
  obtain rfl:j=D.length:=by omega
  have g1:decide ((D.length:Int)<(D.length:Int))=false:=eh (by omega);have d0:xs.map WV.v=ov:=by rw[Y.o,<-b0.o,aP]
  have f2:=hY d0;clear d0 Y;go_wp2_with fail;go_ret;refine⟨s,xs,rfl,by rw[f2.o];rfl,(fE HO.o.own).mono λi hi=>hi.2,HO.o.vals,HX.o.1⟩
 have g6:(k==6)=false:=by simpa using h6
 go_wp2_with fail;go_ret;refine⟨Sl.none,[],rfl,?_,Rd.nil _ _ _,λx hx=>by simp at hx,(fu w).alloc _ _⟩;unfold QcU;dsimp only;rw[ef h5,ef h6];rfl
theorem QqD(m:Nat):∀(d:Val),SizeOf.sizeOf d<=m->Qbp d<=1000000->∀(w:World) (sl so:Sl),RV w (Lt w) d sl so->
  Calls prog 139 #[aggV d sl so] w λe w'=>e=.returned (.int .i64 (Qbp d:Int))/\Ext w w':=by
 induction m with
 |zero=>intro d hd;have:=Val.Qb7 d;omega
 |succ m ih=>
 intro d hd a6 w sl so h;have HI:=hY ih;clear ih;have a2:∀(j:Nat) (x:Val),(QcU d)[j]? = some x->SizeOf.sizeOf x<=m:=λj x hj=>bq (ab (Qqi hj) hd)
 have b5:=hY a2;rw[QkH]at a6 ⊢;have z:=(fu w).alloc #[.int .i64 d.kind,.bool d.b,.int .i64 d.i,.string d.t,.slice sl.a d.l.length sl.c,.slice so.a d.ok.length so.c] 28;have ho:=QnO ((h.agree (z.agree λ_ h=>h)).mono λi (hi:i<w)=>ab hi z.size);have HO:=hY ho;have a4:=hY z;clear ho h z hd a2;go_in;go_wp2_with fail;refine HO.o.mono ?_;rintro e w1 ⟨s,xs,rfl,N,Z,b3,J⟩;obtain⟨b,o,b0,b4⟩:=Ql7 Z;have a9:xs.length=(QcU d).length:=by rw[<-N,aq]
 have c2:∀(j:Nat) (x:WV),xs[j]? = some x->(QcU d)[j]? = some x.v:=λj x hj=>by rw[<-N,ao,hj];rfl
 have HX:=hY (a4.o.trans J);have c6:=hY (λx U=>(b3 x U).mono λi (hi:i<_)=>ab hi J.size);have X:=hY c2;have b8:=hY b0;have c7:=hY b4;have a8:=hY a9;clear N Z b3 J b0 b4 a9 c2 HO a4;obtain⟨W,hW⟩:∃W,QcU d=W:=⟨_,rfl⟩;rw[hW]at b5 X a8 a6;have HW:=hY hW;clear hW;go_wp2_with fail;go_loopw[3,5] (λdp qq wr=>∃j:Nat,dp=.int .i64 (Qa8 (W.take j):Int)/\qq=.int .i64 j/\j<=xs.length/\Ext w1 wr) (λ_ qq _=>xs.length -(intOf qq).toNat)
 case atStart=>exact⟨0,rfl,rfl,av _,fu _⟩
 obtain⟨j,rfl,rfl,hj,I⟩:=hrel;by_cases R:j<xs.length
 ·have g1:(j:Int)<(xs.length:Int):=by omega
  have d3:decide ((j:Int)<(xs.length:Int))=true:=ej g1;obtain⟨x,U⟩:∃x,xs[j]? = some x:=⟨_,ac R⟩;have c3:Ext w wr:=HX.o.trans I;have L:Agree (Lt w1) w1 wr:=I.agree λ_ h=>h
  obtain⟨a3,c4,b7⟩:=b8.o.eq (by omega);have a0:=b8.o.fits (show 0<xs.length by omega);obtain⟨sa,sc⟩:=s;dsimp only at a3 c4 b7;subst a3;obtain⟨v0,v1,v2,v3,v4,v5⟩:=(c7.o j x U).agree L a0;have lb:b<wr:=ab a0 I.size;have D:=X.o j x U;have d0:=Qgb D;have a1:Calls prog 139 #[aggV x.v x.sl x.so] wr λe w'=>e=.returned (.int .i64 (Qbp x.v:Int))/\Ext wr w':=
   HI.o x.v (b5.o j x.v D) (by omega) wr _ _ (((c6.o x (al U)).agree L).mono λi (hi:i<w1)=>ab hi I.size)
  have a5:=Qd5 D;have c8:Qa8 (W.take j)<=1000000:=by have:=Qoj W j;omega
  have c9:xs.length<=9223372036854775807:=by unfold maxLen at b7;omega
  have a7:=hY a1;have c0:=hY a5;have HN:=hY I;clear U c3 L a1 I a5 D;go_wp2_with fail;refine a7.o.mono ?_;rintro e w3 ⟨rfl,Y⟩;have b6:=hY (HN.o.trans Y);clear Y v0 v1 v2 v3 v4 v5 a7 HN;by_cases c1:Qa8 (W.take j)<Qbp x.v
  ·have g4:decide ((Qa8 (W.take j):Int)<(Qbp x.v:Int))=true:=ej (by omega)
   go_wp2_with fail;go_roundw
   case rel=>exact⟨j+1,by rw[c0.o,Nat.max_eq_right (cQ c1)],by go_num,R,b6.o⟩
   simp[intOf];omega
  have g4:decide ((Qa8 (W.take j):Int)<(Qbp x.v:Int))=false:=eh (by omega);go_wp2_with fail;go_roundw
  case rel=>exact⟨j+1,by rw[c0.o,Nat.max_eq_left (Nat.le_of_not_lt c1)],by go_num,R,b6.o⟩
  simp[intOf];omega
 obtain rfl:j=xs.length:=by omega
 have g1:decide ((xs.length:Int)<(xs.length:Int))=false:=eh (by omega);rw[a8.o,aP];have g2:IntKind.i64.wrap ((Qa8 W:Int)+1)=(Qa8 W:Int)+1:=by rw[ey];omega
 have HZ:=hY (show((1+Qa8 W:Nat):Int)=(Qa8 W:Int)+1 by omega);have HN:=hY (HX.o.trans I);clear I;go_wp2_with fail;go_ret;exact⟨by rw[HW.o,HZ.o];rfl,HN.o⟩
theorem Tryz.QoO:(prog.info? 3).map (λi=>(i.zero,i.size,i.bytes))=some (some (.int .i64 0),1,8):=by kernel_rfl
def Qem(s1 s2:Sl):Prop:=∀b,s1.row=some b->s2.row≠some b
variable{s1 s2:Sl}
theorem Qem.comm(h:Qem s1 s2):Qem s2 s1:=λb z e=>h b e z
variable{s':Sl}{W:World}
theorem Qem.grow{base e size n:Nat}{xs:List Value}(h:Qem s1 s2)(I:w.ownsRow base e size (.slice s2.a n s2.c) n xs)(L:w.heap.size<=W.heap.size)(hs:s'.a=s1.a\/s'.a=some ⟨W,0,none⟩):Qem s' s2:=by
 intro b z D;have J:=(Qaa I D).2;rcases hs with hs|hs
 .exact h b (by unfold Sl.row at z ⊢;rw[<-hs];exact z) D
 have:b=W.heap.size:=by unfold Sl.row at z;rw[hs]at z;simpa using z.symm
 omega
variable{w':World}
theorem QjP{base e size n:Nat}{xs:List Value}(h:Qem s1 s2)(z:w.ownsRow base e size (.slice s2.a n s2.c) n xs)(D:Wr w w' s1.row):w'.ownsRow base e size (.slice s2.a n s2.c) n xs:=
 Qae z (D.agree (F:=λb=>s2.row=some b) (λi hi=>(Qaa z hi).2) (λk I e=>h k I e)) λb J=>J
def Qhc(D:List (Nat × Nat)):List Value:=D.map λx=>.int .i64 (x.2:Int)
def QgY(D:List (Nat × Nat)):List Value:=D.map λx=>.int .i64 (x.1:Int)
def Qn0(s:ByteArray)(w:World)(e:Ending)(w':World):Prop:=
 ∃(s1:Sl) (v2:Value),e=.returned (.tuple #[.slice s1.a (QbA s).length s1.c,v2])/\Rd w' (Lt w'.heap.size) 1 s1 (QbA s).length (Qhc (QbA s))/\Ext w w'
theorem Qk8(w:World)(s:ByteArray)(hs:s.size<=1000000000):Calls prog 222 #[.string s] w (Qn0 s w):=by
 obtain⟨iN,nI,c1,d6,b8⟩:=eG Tryz.QoO;have b5:=λ(W:World) (p:Nat)=>Qlp W s p (by omega)
 have e7:=hY b5;clear b5;go_in;go_wp2_with fail;go_loopw[4,5,6] (λv1 v2 v3 wr=>∃(p f:Nat) (s1 s2:Sl) (D:List (Nat × Nat)),v1=.slice s1.a D.length s1.c/\v2=.slice s2.a D.length s2.c/\v3=.int .i64 (p:Int)/\p<=s.size/\D.length<=p/\Yd (D++Qa9 s f p=QbA s/\s.size<=p+f)/\Yd (wr.ownsRow w.heap.size 3 1 (.slice s1.a D.length s1.c) D.length (Qhc D))/\Yd (wr.ownsRow w.heap.size 3 1 (.slice s2.a D.length s2.c) D.length (QgY D))/\Yd (Qem s1 s2)/\Yd (Ext w wr)) (λ_ _ v _=>s.size -(intOf v).toNat)
 case atStart=>exact⟨0,s.size,Sl.none,Sl.none,[],rfl,rfl,rfl,av _,av _,hY ⟨rfl,by omega⟩,hY (eJ _ _ _ _),hY (eJ _ _ _ _),hY (λb L=>by cases L),hY (fu _)⟩
 obtain⟨p,f,s1,s2,D,rfl,rfl,rfl,hp,f9,HD,N,b0,HA,HX⟩:=hrel;by_cases c7:p<s.size
 ·have e1:decide ((p:Int)<(s.size:Int))=true:=ej (by omega)
  obtain⟨U,a2,hr⟩:=Qde c7;have R:=QpK s p;go_wp2_with fail;refine(e7.o _ p).mono ?_;rintro e w2 ⟨rfl,f0⟩;obtain rfl:=f0.symm;obtain⟨r,z,hd⟩:∃r z,Utf8.decode s p=(r,z):=⟨_,_,rfl⟩;by_cases L:Utf8.decode s p=(65533,1)
  ·rw [em (.inr L)] at R
   rw[R];have I:=HD.o.1;rw[Qhd L,bc]at I;have HF:=hY I;clear R L hd U a2 hr I;go_wp2_with fail;go_ret2;refine⟨s1,_,by rw[<-HF.o];rfl,?_,HX.o⟩;rw[<-HF.o];exact(fE N.o).mono λi hi=>hi.2
  rw[ef (λh=>h.elim (λh=>absurd h (by omega)) L)]at R;rw[R];have J:=Qfu c7 HD.o.2 L;rw[hd]at U a2 J ⊢;dsimp only at U a2 J ⊢;have I:=HD.o.1;rw[J]at I;have HF:=hY (show(D++[(p,r)])++Qa9 s (f-1) (p+z)=QbA s by rw[aO];exact I);have e2:((z:Int)==0)=false:=eu.2 (by omega);have e3:IntKind.i64.wrap ((p:Int)+(z:Int))=(p:Int)+(z:Int):=by rw[ey];omega
  have f4:=hY HD.o.2;have d4:=hY U;have a3:Ext wr (wr.alloc (.cells #[.int .i64 (r:Int)] 3)):=(fu _).alloc _ _;have b3:=hY (fx wr 3 #[.int .i64 (r:Int)]);have c9:=Qae N.o (a3.agree λb (h:b<wr)=>h) λb L=>(Qaa N.o L).2
  have b4:=Qae b0.o (a3.agree λb (h:b<wr)=>h) λb L=>(Qaa b0.o L).2
  have c0:=hY c9;have a8:=hY b4;have b7:=hY (HX.o.trans a3);have d5:D.length+1<=maxLen:=by unfold maxLen;omega
  have d0:(D.length+1)*8<=140737488355328:=by omega
  have e8:=HX.o.size;have Y:w.heap.size<=(wr.alloc (.cells #[.int .i64 (r:Int)] 3)).heap.size:=by rw[ew];omega
  clear R L hd hr U J I c9 b4 a3;go_upto_region 7 with(at_builtin;refine Qac _ rfl (.tmp 21) (.tmp 23) 251 rfl w.heap.size 3 iN _ 1 8 underlying251 nI c1 d6 b8 rfl (by decide) s1 D.length (Qhc D) rfl c0.o (λb=>b=wr.heap.size) ⟨some ⟨wr,0,none⟩,1⟩ 1 [.int .i64 (r:Int)] rfl (fG b3.o (by decide) rfl) (by simp[Value.oneCell']) d5 d0 Y ?_;intro a7 w6 Z a5 e0;have c8:=hY Z;have a4:=hY a5;have c3:=hY e0;clear Z a5 e0);have f6:=a4.o.grown.size;have c2:Qem a7 s2:=HA.o.grow a8.o (an _) (c3.o.imp id And.left);have a9:=QjP HA.o a8.o a4.o;have c4:Ext w w6:=b7.o.wr a4.o λi hi=>(Qaa N.o hi).1
  have a0:Ext w6 (w6.alloc (.cells #[.int .i64 (p:Int)] 3)):=(fu _).alloc _ _;have f7:=hY (fx w6 3 #[.int .i64 (p:Int)]);have d3:=hY (Qae c8.o (a0.agree λb (h:b<w6)=>h) λb L=>(Qaa c8.o L).2);have e4:=hY (Qae a9 (a0.agree λb (h:b<w6)=>h) λb L=>(Qaa a9 L).2);have f8:=hY (c4.trans a0);have b6:=hY c2;have a1:w.heap.size<=(w6.alloc (.cells #[.int .i64 (p:Int)] 3)).heap.size:=by rw[ew];omega
  clear c2 a9 c4 a0 c0 a8 a4 c3 b3 N b0 b7 HX e8 f6 Y;go_wp2_with(at_builtin;refine Qac _ rfl (.tmp 25) (.tmp 27) 251 rfl w.heap.size 3 iN _ 1 8 underlying251 nI c1 d6 b8 rfl (by decide) s2 D.length (QgY D) rfl e4.o (λb=>b=w6.heap.size) ⟨some ⟨w6,0,none⟩,1⟩ 1 [.int .i64 (p:Int)] rfl (fG f7.o (by decide) rfl) (by simp[Value.oneCell']) d5 d0 a1 ?_;intro d7 w9 X a6 c6;have f5:=hY X;have d8:=hY a6;have f1:=hY c6;clear X a6 c6);go_roundw
  case rel=>
   have e6:Qem d7 a7:=b6.o.comm.grow d3.o (an _) (f1.o.imp id And.left);have f3:=QjP b6.o.comm d3.o d8.o;have f2:Ext w w9:=f8.o.wr d8.o λi hi=>(Qaa e4.o hi).1
   have hz:=d4.o;refine⟨p+z,f-1,a7,d7,D++[(p,r)],by rw[ai];rfl,by rw[ai];rfl,by go_num,a2,?_,hY ⟨HF.o,by have:=f4.o;omega⟩,hY ?_,hY ?_,hY e6.comm,hY f2⟩
   .rw [ai];show D.length+1<=_;omega
   .rw [ai,show Qhc (D++[(p,r)])=Qhc D++[.int .i64 (r:Int)]by simp[Qhc]];exact f3
   rw[ai,show QgY (D++[(p,r)])=QgY D++[.int .i64 (p:Int)]by simp[QgY]];exact f5.o
  have:=d4.o;simp[intOf];omega
 obtain rfl:p=s.size:=by omega
 have e1:decide ((s.size:Int)<(s.size:Int))=false:=eh (by omega);have I:=HD.o.1;rw[QfM (an _),bc]at I;have HF:=hY I;clear I;go_wp2_with fail;go_ret2;refine⟨s1,_,by rw[<-HF.o];rfl,?_,HX.o⟩;rw[<-HF.o];exact(fE N.o).mono λi hi=>hi.2
def QkD:Nat->Nat
 |0=>34
 |1=>92
 |2=>47
 |3=>8
 |4=>12
 |5=>10
 |6=>13
 |_=>9
theorem QmF(w:World)(k:Nat)(D:k<8):Calls prog 223 #[.int .i64 (k:Int)] w λe w'=>e=.returned (.int .i64 (QkD k:Int))/\Ext w w':=by
 have z:k=0\/k=1\/k=2\/k=3\/k=4\/k=5\/k=6\/k=7:=by omega
 clear D;rcases z with rfl|rfl|rfl|rfl|rfl|rfl|rfl|rfl
 all_goals
  go_in;go_wp2_with fail;go_ret;exact⟨rfl,(fu w).alloc _ _⟩
def QlU(r:Nat):Nat:=if r<128 then 1 else if r<2048 then 2 else if r<65536 then 3 else 4
theorem QqY(h:r<=1114111):(Lib.encodeRune (r:Int)).length=QlU r:=by
 unfold Lib.encodeRune QlU;rw[aq];unfold Lib.encodeRuneZ;by_cases h1:r<128
 .rw [em (by omega),em h1];rfl
 rw[ef (by omega),ef h1];by_cases h2:r<2048
 .rw [em (by omega),em h2];rfl
 rw[ef (by omega),ef h2];by_cases z:r<65536
 ·rw [em z]
  by_cases D:((2048:Int)<=(r:Int)/\(r:Int)<55296)\/((57343:Int)<(r:Int)/\(r:Int)<=65535)
  .rw [em D];rfl
  rw[ef D,ef (by omega)];rfl
 rw[ef (by omega),em (by omega),ef z];rfl
theorem QhF(q:List UInt8)(W:World)(b:Nat)(cs:Array Value)(t:TypeId)(D:Blk W b t cs)(h:cs.toList=q.map λx=>Value.int .u8 (x.toNat:Int)):(convert 156 9 (.slice (some ⟨b,0,none⟩) q.length q.length)).run prog W=.ok (.string ⟨q.toArray⟩) W:=
 run_convert_bytes_back (P:=prog) W 156 9 5 ⟨b,0,none⟩ q.length q underlying156 underlying5 underlying9 (λj z=>by
  rw[Qbu,aB,D.cell,<-bN,h,ao,ac z];rfl)
theorem Qr8(h:n<256):((UInt8.ofNat n).toNat:Int)=(n:Int):=by
 rw[UInt8.toNat_ofNat',Nat.mod_eq_of_lt (by omega)]
theorem QgE(xs:List Int)(W:World)(b:Nat)(t:TypeId)(D:Blk W b t (xs.map (Value.int .u8)).toArray)(h:∀x∈xs,0<=x/\x<256):∃q:ByteArray,q.size=xs.length/\(convert 156 9 (.slice (some ⟨b,0,none⟩) xs.length xs.length)).run prog W=.ok (.string q) W:=by
 refine⟨⟨(xs.map λx=>UInt8.ofNat x.toNat).toArray⟩,by simp[ByteArray.size],?_⟩;have:=QhF (xs.map λx=>UInt8.ofNat x.toNat) W b _ t D (by
  rw[cA];show xs.map (Value.int .u8)=_;apply List.map_congr_left;intro x z;have:=h x z;show Value.int .u8 x=Value.int .u8 (((UInt8.ofNat x.toNat).toNat:Nat):Int);rw[Qr8 (by omega)];congr 1;omega)
 rwa[aq]at this
theorem QkA(w:World)(r:Nat)(R:r<=1114111):Calls prog 224 #[.int .i64 (r:Int)] w λe w'=>∃t:ByteArray,e=.returned (.string t)/\t.size=QlU r/\Ext w w':=by
 go_in;by_cases h1:r<128
 ·have L:decide ((r:Int)<128)=true:=ej (by omega)
  have Y:IntKind.u8.wrap (r:Int)=(r:Int):=by rw[IntKind.wrap_u8];omega
  have J:(convert 156 9 (.slice (some ⟨w,0,none⟩) 1 1)).run prog (w.alloc (.cells #[.int .u8 (r:Int)] 5))=.ok (.string ⟨#[UInt8.ofNat r]⟩) (w.alloc (.cells #[.int .u8 (r:Int)] 5)):=
   QhF [UInt8.ofNat r] _ _ _ _ (fx w 5 #[.int .u8 (r:Int)]) (by rw[aS,Qr8 (by omega)];rfl)
  have I:=hY (show 1=QlU r by unfold QlU;rw[em h1]);clear h1 R;go_wp2_with fail;go_ret;exact⟨_,rfl,I.o,(fu w).alloc _ _⟩
 have X:decide ((r:Int)<128)=false:=eh (by omega);by_cases h2:r<2048
 ·have L:decide ((r:Int)<2048)=true:=ej (by omega)
  obtain⟨q,z,J⟩:∃q:ByteArray,q.size=2/\(convert 156 9 (.slice (some ⟨w,0,none⟩) 2 2)).run prog (w.alloc (.cells #[.int .u8 (192+(r:Int)/64),.int .u8 (128+(r:Int)%64)] 5))=.ok (.string q) (w.alloc (.cells #[.int .u8 (192+(r:Int)/64),.int .u8 (128+(r:Int)%64)] 5)):=
   QgE [192+(r:Int)/64,128+(r:Int)%64] _ _ _ (fx w 5 #[.int .u8 (192+(r:Int)/64),.int .u8 (128+(r:Int)%64)]) (by intro x D;simp only[List.mem_cons,List.not_mem_nil,or_false]at D;rcases D with rfl|rfl<;>omega)
  have I:=hY (show q.size=QlU r by unfold QlU;rw[z];rw[ef h1,em h2]);clear z;go_wp2_with fail;go_ret;exact⟨_,rfl,I.o,(fu w).alloc _ _⟩
 have U:decide ((r:Int)<2048)=false:=eh (by omega);by_cases N:r<65536
 ·have L:decide ((r:Int)<65536)=true:=ej (by omega)
  obtain⟨q,z,J⟩:∃q:ByteArray,q.size=3/\(convert 156 9 (.slice (some ⟨w,0,none⟩) 3 3)).run prog (w.alloc (.cells #[.int .u8 (224+(r:Int)/4096),.int .u8 (128+(r:Int)/64%64),.int .u8 (128+(r:Int)%64)] 5))=.ok (.string q) (w.alloc (.cells #[.int .u8 (224+(r:Int)/4096),.int .u8 (128+(r:Int)/64%64),.int .u8 (128+(r:Int)%64)] 5)):=
   QgE [224+(r:Int)/4096,128+(r:Int)/64%64,128+(r:Int)%64] _ _ _ (fx w 5 #[.int .u8 (224+(r:Int)/4096),.int .u8 (128+(r:Int)/64%64),.int .u8 (128+(r:Int)%64)]) (by intro x D;simp only[List.mem_cons,List.not_mem_nil,or_false]at D;rcases D with rfl|rfl|rfl<;>omega)
  have I:=hY (show q.size=QlU r by unfold QlU;rw[z];rw[ef h1,ef h2,em N]);clear z;go_wp2_with fail;go_ret;exact⟨_,rfl,I.o,(fu w).alloc _ _⟩
 have L:decide ((r:Int)<65536)=false:=eh (by omega);obtain⟨q,z,J⟩:∃q:ByteArray,q.size=4/\(convert 156 9 (.slice (some ⟨w,0,none⟩) 4 4)).run prog (w.alloc (.cells #[.int .u8 (240+(r:Int)/262144),.int .u8 (128+(r:Int)/4096%64),.int .u8 (128+(r:Int)/64%64),.int .u8 (128+(r:Int)%64)] 5))=.ok (.string q) (w.alloc (.cells #[.int .u8 (240+(r:Int)/262144),.int .u8 (128+(r:Int)/4096%64),.int .u8 (128+(r:Int)/64%64),.int .u8 (128+(r:Int)%64)] 5)):=
  QgE [240+(r:Int)/262144,128+(r:Int)/4096%64,128+(r:Int)/64%64,128+(r:Int)%64] _ _ _ (fx w 5 #[.int .u8 (240+(r:Int)/262144),.int .u8 (128+(r:Int)/4096%64),.int .u8 (128+(r:Int)/64%64),.int .u8 (128+(r:Int)%64)]) (by intro x D;simp only[List.mem_cons,List.not_mem_nil,or_false]at D;rcases D with rfl|rfl|rfl|rfl<;>omega)
 have I:=hY (show q.size=QlU r by unfold QlU;rw[z];rw[ef h1,ef h2,ef N]);clear z;go_wp2_with fail;go_ret;exact⟨_,rfl,I.o,(fu w).alloc _ _⟩
theorem QpF{r k:Nat}(D:k<8)(h2:k≠2)(h:QkD k=r):(Qcf r).length=2:=by
 have z:k=0\/k=1\/k=3\/k=4\/k=5\/k=6\/k=7:=by omega
 subst h;rcases z with rfl|rfl|rfl|rfl|rfl|rfl|rfl<;>rfl
theorem Qni(h:∀i,i<8->i=2\/QkD i≠r)(z:r<=1114111):(Qcf r).length=if r<32 then 6 else QlU r:=by
 have R:34≠r:=(h 0 (by decide)).resolve_left (by decide);have h1:92≠r:=(h 1 (by decide)).resolve_left (by decide);have D:8≠r:=(h 3 (by decide)).resolve_left (by decide);have J:12≠r:=(h 4 (by decide)).resolve_left (by decide);have I:10≠r:=(h 5 (by decide)).resolve_left (by decide);have L:13≠r:=(h 6 (by decide)).resolve_left (by decide);have N:9≠r:=(h 7 (by decide)).resolve_left (by decide);unfold Qcf Qb1;by_cases hs:r<32
 ·rw [em hs,ef (by simp;omega)]
  unfold Qbr;rw[ef (Ne.symm R),ef (Ne.symm h1),ef (Ne.symm D),ef (Ne.symm N),ef (Ne.symm I),ef (Ne.symm J),ef (Ne.symm L)];rfl
 rw[ef hs,em (by simp;omega),QqY z]
def QnW(r k:Nat):Prop:=∀i,i<k->i=2\/QkD i≠r
theorem Qg5(w:World)(s:ByteArray)(hs:s.size<=100000000)(hv:Lib.validD s.data.toList=true):Calls prog 197 #[.string s] w λe w'=>∃t:ByteArray,e=.returned (.tuple #[.string t,.int .i64 0])/\t.size=(Qb6 s).length/\Ext w w':=by
 have z:=Qds w s (by omega);rw[hv]at z;have Z:=Qk8 w s (by omega);have Y:=hY z;have U:=hY Z;clear z Z hv;go_in;go_wp2_with fail;refine Y.o.mono ?_;rintro e w1 ⟨rfl,hw⟩;obtain rfl:=hw.symm;go_wp2_with fail;refine U.o.mono ?_;rintro e w1 ⟨s1,v2,rfl,a8,b3⟩;have a6:∀x∈QbA s,x.2<=1114111:=λx hx=>(QdV hx).1
 have c2:(QbA s).length<=s.size:=aj (QcD s s.size 0) (Nat.sub_le _ _);obtain⟨Q,hQ⟩:∃Q,(Qb6 s).length=Q:=⟨_,rfl⟩;have a5:Q=(Qbf (QbA s)).length+2:=by rw[<-hQ];unfold Qb6;simp
 have HQ:=hY hQ;generalize QbA s=D at a6 c2 a5 a8;obtain⟨b,o,b4,c4,b5⟩:=a8;have b6:=hY b4;have d3:=hY b5;have c9:=hY a6;have d4:=hY b3;have c6:=hY a5;clear hQ a5 a6 b4 c4 b5 b3 Y U;go_wp2_with fail;go_loopw[4,8] (λou qq wr=>∃(j:Nat) (t:ByteArray),ou=.string t/\qq=.int .i64 (j:Int)/\j<=D.length/\Yd (t.size=1+(Qbf (D.take j)).length)/\Yd (Ext w1 wr)) (λ_ qq _=>D.length -(intOf qq).toNat)
 case atStart=>exact⟨0,_,rfl,rfl,av _,hY rfl,hY (fu _)⟩
 obtain⟨j,t,rfl,rfl,hj,HT,L⟩:=hrel;by_cases R:j<D.length
 ·have e1:decide ((j:Int)<(D.length:Int))=true:=ej (by omega)
  have d5:(j:Int)<(D.length:Int):=by omega
  obtain⟨x,hx⟩:∃x,D[j]? = some x:=⟨_,ac R⟩;obtain⟨p,r⟩:=x;have c3:t.size<=1000000000:=by
   have h1:=Qcq (D.take j);rw[HT.o];rw[ap]at h1;omega
  have hr:r<=1114111:=c9.o _ (al hx);obtain⟨a9,c8,d0⟩:=b6.o.eq (by omega);have a0:=b6.o.fits (show 0<D.length by omega);obtain⟨sa,sc⟩:=s1;dsimp only at a9 c8 d0;subst a9;have c0:wr.cell? ⟨b,o+j,none⟩=some (.int .i64 (r:Int)):=(L.o.agree λb (h:Lt w1.heap.size b)=>h).cell a0 |>.trans (d3.o j _ (by unfold Qhc;rw[ao,hx];rfl))
  have lb:b<wr:=ab a0 L.o.size;have a3:=hY hx;clear hx;go_wp2_with fail;have a4:=hY (λ(W:World) (k:Nat) (hk:k<8)=>QmF W k hk);clear c0 lb a0;go_loopw[10] (λkk wr=>∃k:Nat,kk=.int .i64 (k:Int)/\k<=8/\Yd (QnW r k)/\Yd (Ext w1 wr)) (λkk _=>8 -(intOf kk).toNat)
  case atStart=>exact⟨0,rfl,av _,hY (λi hi=>absurd hi (dV _)),L⟩
  clear L;obtain⟨k,rfl,hk,HM,L⟩:=hrel;by_cases a2:k<8
  ·have f1:decide ((k:Int)<8)=true:=ej (by omega)
   by_cases b8:k=2
   ·subst b8
    have a1:=hY (show QnW r (2+1) fromλi hi=>by by_cases h:i<2;exact HM.o i h;exact .inl (by omega));go_wp2_with fail;go_roundw
    case rel=>exact⟨2+1,by go_num,by decide,a1,L⟩
    simp[intOf]
   have f2:((k:Int)==2)=false:=eu.2 (by omega);go_wp2_with fail;refine(a4.o _ k a2).mono ?_;rintro e w2 ⟨rfl,J⟩;have N:=hY (L.o.trans J);clear J;by_cases hc:QkD k=r
   ·have b0:=hY (QpF a2 b8 hc)
    have f3:((QkD k:Int) !=(r:Int))=false:=by rw[hc];simp
    have s1:¬9223372036854775807<t.size+1:=by omega
    have s2:¬9223372036854775807<t.size+1+(min (k+1) 8-k):=by omega
    clear hc;go_wp2_with fail;go_roundw
    case rel=>
     refine⟨j+1,_,rfl,by go_num,R,hY ?_,N⟩;rw[aZ,a3.o,dL,Qb0,ai,b0.o,aJ,aJ,bT,HT.o];show _+1+(min (k+1) 8-k)=_;omega
    simp[intOf];omega
   have f3:((QkD k:Int) !=(r:Int))=true:=by simp;omega
   have a1:=hY (show QnW r (k+1) fromλi hi=>by by_cases h:i<k;exact HM.o i h;exact .inr (by rw[show i=k by omega];exact hc));clear hc;go_wp2_with fail;go_roundw
   case rel=>exact⟨k+1,by go_num,a2,a1,N⟩
   simp[intOf];omega
  obtain rfl:k=8:=by omega
  have I:=hY (Qni HM.o hr);by_cases X:r<32
  ·have f3:decide ((r:Int)<32)=true:=ej (by omega)
   have s1:¬9223372036854775807<t.size+4:=by omega
   go_wp2_with fail;go_quiet (fail);go_wp2_with fail;go_roundw
   case rel=>
    refine⟨j+1,_,rfl,by go_num,R,hY ?_,hY (L.o.trans ((fu wr).drewN _))⟩;rw[aZ,a3.o,dL,Qb0,ai,I.o,em X,aJ,aJ,aJ,bT,bT,HT.o];show _+4+(min (r/16+1) 16-r/16)+(min (r%16+1) 16-r%16)=_;omega
   simp[intOf];omega
  have f3:decide ((r:Int)<32)=false:=eh (by omega);have b7:=QkA wr r hr;have d6:QlU r<=4:=by unfold QlU;split;decide;split;decide;split<;>decide
  have c1:=hY b7;clear b7;go_wp2_with fail;refine c1.o.mono ?_;rintro e w2 ⟨q,rfl,hq,J⟩;have s1:¬9223372036854775807<t.size+q.size:=by omega
  have c7:=hY hq;have N:=hY (L.o.trans J);clear J hq c1;go_wp2_with fail;go_roundw
  case rel=>
   refine⟨j+1,_,rfl,by go_num,R,hY ?_,N⟩;rw[aZ,a3.o,dL,Qb0,ai,I.o,ef X,aJ,HT.o,c7.o];omega
  simp[intOf];omega
 obtain rfl:j=D.length:=by omega
 have e1:decide ((D.length:Int)<(D.length:Int))=false:=eh (by omega);have c3:t.size<=1000000000:=by
  have h1:=Qcq (D.take D.length);rw[HT.o];rw[ap]at h1;omega
 have s1:¬9223372036854775807<t.size+1:=by omega
 have hT:=HT.o;rw[aP]at hT;have a7:=hY (show t.size+1=(Qb6 s).length by rw[HQ.o,c6.o,hT];omega);clear hT;go_wp2_with fail;go_ret2;exact⟨_,rfl,by rw[aJ];exact a7.o,d4.o.trans L.o⟩
def nd(u:Nat):Nat:=if u=0 then 0 else Lib.nDigits u
theorem Qpm{u:Nat}(h:u≠0):nd u=nd (u/10)+1:=by
 unfold nd;rw[ef h];by_cases h1:u<10
 .rw [Lib.nDigits_small h1,em (by omega)]
 rw[Lib.nDigits_big h1,ef (by omega)]
theorem Qjl(w:World)(n:Int)(h0 : -9223372036854775808<=n)(h1:n<=9223372036854775807):Calls prog 196 #[.int .i64 n] w λe w'=>∃t:ByteArray,e=.returned (.string t)/\t.size=(Lib.itoa n).length/\Ext w w':=by
 by_cases hz:n=0
 ·subst hz
  go_in;go_wp2_with fail;go_ret;refine⟨_,rfl,?_,fu _⟩;rw[show Lib.itoa 0=Lib.decDigits 0 from rfl,Lib.decDigits_length,Lib.nDigits_small (by decide)];rfl
 have a1:(n==0)=false:=by simpa using hz
 go_in;go_wp2_with fail;have Z:nd n.natAbs<=20:=by unfold nd;rw[ef (by omega)];exact Lib.nDigits_le20 _ (by omega)
 have L:(Lib.itoa n).length=if n<0 then 1+nd n.natAbs else nd n.natAbs:=by
  rw[show nd n.natAbs=Lib.nDigits n.natAbs by unfold nd;rw[ef (by omega)]];unfold Lib.itoa;by_cases z:n<0
  .rw [em z,em z,az,Lib.decDigits_length];omega
  rw[ef z,ef z,Lib.decDigits_length,show n.toNat=n.natAbs by omega]
 have J:=hY L;clear L;go_loopw[3,4] (λsv U wr=>∃(t:ByteArray) (m:Int),sv=.string t/\U=.int .i64 m/\-9223372036854775808<=m/\m<=9223372036854775807/\Yd (t.size+nd m.natAbs=nd n.natAbs)/\Yd (Ext w wr)) (λ_ U _=>(intOf U).natAbs)
 case atStart=>exact⟨_,n,rfl,rfl,h0,h1,hY (aB _),hY (fu _)⟩
 obtain⟨t,m,rfl,rfl,a2,a3,R,N⟩:=hrel;have a0:t.size<=20:=by have:=R.o;omega
 by_cases X:m=0
 ·subst X
  have D:t.size=nd n.natAbs:=R.o;by_cases z:n<0
  ·have g1:decide (n<0)=true:=ej z
   have s1:¬9223372036854775807<1+t.size:=by omega
   have Y:=hY (show 1+t.size=(Lib.itoa n).length by rw[J.o,em z,D]);clear D;go_wp2_with fail;go_ret;exact⟨_,rfl,by rw[aJ];exact Y.o,N.o⟩
  have g1:decide (n<0)=false:=eh z;have Y:=hY (show t.size=(Lib.itoa n).length by rw[J.o,ef z,D]);clear D;go_wp2_with fail;go_ret;exact⟨_,rfl,Y.o,N.o⟩
 by_cases z:m<0
 ·obtain ⟨u,rfl⟩:∃ u:Nat,m = -(u:Int):=⟨m.natAbs,by omega⟩
  have g0:(-(u:Int) != 0)=true:=by simpa using X
  have D:t.size+nd u=nd n.natAbs:=by have:=R.o;rwa[show(-(u:Int)).natAbs=u by omega]at this
  rw[Qpm (by omega)]at D;have I:=hY (show 1+t.size+nd (-((u:Int)/10)).natAbs=nd n.natAbs by rw[show(-((u:Int)/10)).natAbs=u/10 by omega];omega);have s1:¬9223372036854775807<min (u%10+1) 10-u%10+t.size:=by omega
  have s2:¬9223372036854775807<1+t.size:=by omega
  by_cases hq:u%10=0
  ·have g1:((u:Int) % 10)=0:=by omega
   clear D;go_wp2_with fail;go_roundw
   case rel=>
    refine⟨_,_,rfl,rfl,by omega,by omega,hY ?_,N⟩;rw[aJ];exact I.o
   simp[intOf];omega
  have g1:decide ((0:Int)<(u:Int)%10)=true:=ej (by omega);clear D;go_wp2_with fail;go_roundw
  case rel=>
   refine⟨_,_,rfl,rfl,by omega,by omega,hY ?_,N⟩;rw[aJ,bT];show min (u%10+1) 10-u%10+t.size+_=_;have:=I.o;omega
  simp[intOf];omega
 obtain⟨u,rfl⟩:∃u:Nat,m=(u:Int):=⟨m.toNat,by omega⟩;have g0:((u:Int) != 0)=true:=by simpa using X
 have D:t.size+nd u=nd n.natAbs:=R.o;rw[Qpm (by omega)]at D;have I:=hY (show 1+t.size+nd ((u:Int)/10).natAbs=nd n.natAbs by rw[show((u:Int)/10).natAbs=u/10 by omega];omega);have s1:¬9223372036854775807<min (u%10+1) 10-u%10+t.size:=by omega
 clear D;go_wp2_with fail;go_roundw
 case rel=>
  refine⟨_,_,rfl,rfl,by omega,by omega,hY ?_,N⟩;rw[aJ,bT];show min (u%10+1) 10-u%10+t.size+_=_;have:=I.o;omega
 simp[intOf];omega
theorem QlV:∀{l:List Val} {q j:Nat} {d:Val},Qbz l q=0->l[j]? = some d->QbN d q=0
 |[],q,j,d,_,h=>by simp at h
 | x :: r,q,j,d,h0,h=>by
   rw[Qbz]at h0;by_cases z:QbN x q=0
   ·rw [ef (by simp [z])] at h0
    cases j with
    |zero=>simp at h;subst h;exact z
    |succ j=>exact QlV h0 (by simpa using h)
   rw[em z]at h0;exact absurd h0 z
theorem Qgi:∀{p:Option ByteArray} {ks:List ByteArray} {l:List Val} {q j:Nat} {d:Val} {k:ByteArray},Qer p ks l q=0->l[j]? = some d->ks[j]? = some k->Lib.validD k.data.toList=true/\QbN d q=0
 |p,ks,[],q,j,d,k,_,h,_=>by simp at h
 |p,[],x::r,q,j,d,k,_,_,hk=>by simp at hk
 | p,y :: ks,x :: r,q,j,d,k,z,h,hk=>by
   rw[Qer,cR,bV]at z;cases I:Lib.validD y.data.toList with
   |false=>rw[I,em (by decide)]at z;cases z
   |true=>
   rw[I,ef (by decide)]at z;split at z
   .cases z
   by_cases D:QbN x q=0
   ·rw [ef (by simp [D])] at z
    cases j with
    |zero=>simp at h hk;subst h hk;exact⟨I,D⟩
    |succ j=>exact Qgi z (by simpa using h) (by simpa using hk)
   rw[em D]at z;exact absurd z D
variable{q:Nat}
theorem Qpi{k:Int}{b:Bool}{i:Int}{t:ByteArray}{l:List Val}{ok:List ByteArray}{ov:List Val}(z:ov.length=ok.length)(h:QbN (.mk k b i t l ok ov) q=0) :
  (1<=k/\k<=6)/\Lib.validD t.data.toList=true/\Qbz l (q+1)=0/\Qer none ok ov (q+1)=0:=by
 rw[Qpj _ _ _ _ _ _ _ _ z]at h;split at h
 .cases h
 rename_i ho;split at h
 .cases h
 split at h
 .cases h
 rename_i hv;split at h
 .rename_i h1;exact absurd h h1
 rename_i h1;refine⟨?_,by simpa using hv,by simpa using h1,h⟩;unfold QbD at ho;by_cases D:k<1\/6<k
 .rw [em D]at ho;exact absurd rfl ho
 omega
theorem QfI{t:ByteArray}(h:Lib.validD t.data.toList=true):(Qa6 t).size=(Qb6 t).length:=by
 unfold Qa6;rw[em h];show(Qb6 t).toArray.size=_;rw[bu]
theorem QrJ(m:Nat):∀(d:Val),SizeOf.sizeOf d<=m->cntV d<=1100000->∀(q:Nat),QbN d q=0->∀(w:World) (sl so:Sl),RV w (Lt w) d sl so->
  Calls prog 140 #[aggV d sl so] w λe w'=>∃t:ByteArray,e=.returned (.string t)/\t.size=Qdy d/\Ext w w':=by
 induction m with
 |zero=>intro d hd;have:=Val.Qb7 d;omega
 |succ m ih=>
 intro d hd e0 q b7 w sl so h;have HI:=hY ih;have a7:=Qgh _ w d sl so h;clear ih;obtain⟨k,b,i,t,l,I,ov⟩:=d;show Calls _ _ #[.agg #[.int .i64 k,.bool b,.int .i64 i,.string t,.slice sl.a l.length sl.c,.slice so.a I.length so.c]] _ _;cases h with
 |mk bl fl bo fo cl co hl ho hov el rl ek eo ro bk bi bt nl no=>
 have e2:∀(j:Nat) (d:Val),l[j]? = some d->SizeOf.sizeOf d<=m:=λj d hj=>bq (ab (Val.Qqm hj) hd)
 have e4:∀(j:Nat) (d:Val),ov[j]? = some d->SizeOf.sizeOf d<=m:=λj d hj=>bq (ab (Val.Qqn hj) hd)
 obtain⟨e6,c7,d5,d6⟩:=Qpi hov b7;have e7:Qdy (.mk k b i t l I ov)<=6600000:=by omega
 unfold cntV at e0;have e8 : -9223372036854775808<=i:=by simp[Lit.wf,IntKind.min,IntKind.max,IntKind.signed,IntKind.bits]at bi;omega
 have f2:i<=9223372036854775807:=by simp[Lit.wf,IntKind.min,IntKind.max,IntKind.signed,IntKind.bits]at bi;omega
 have g0:=hY e2;have d0:=hY e4;have f8:=hY el;have f6:=hY rl;have f5:=hY ek;have d4:=hY eo;have d3:=hY ro;have c9:=hY hov;have c0:=hY hl;have b8:=hY ho;have b0:=hY e0;have f3:=hY d5;have c8:=hY d6;have e3:=(fu w).alloc #[.int .i64 k,.bool b,.int .i64 i,.string t,.slice sl.a l.length sl.c,.slice so.a I.length so.c] 28;have d7:=fx w 28 #[.int .i64 k,.bool b,.int .i64 i,.string t,.slice sl.a l.length sl.c,.slice so.a I.length so.c];have L:=hY e3;have R:=hY d7;clear e2 e4 el rl ek eo ro hov hl ho d5 d6 b7 hd a7 bi bk e3 d7;obtain⟨n,hn⟩:∃n,Qdy (.mk k b i t l I ov)=n:=⟨_,rfl⟩;rw[hn]at e7 ⊢;unfold Qdy at hn;go_in;have f9:k=1\/k=2\/k=3\/k=4\/k=5\/k=6:=by omega
 clear e6;rcases f9 with rfl|rfl|rfl|rfl|rfl|rfl
 ·have HN:=hY (show 4=n from hn)
  clear hn;go_wp2_with fail;go_ret;exact⟨_,rfl,HN.o,L.o⟩
 ·have HN:=hY (show Qs8 b=n from hn)
  clear hn;cases b
  ·go_wp2_with fail
   go_ret;exact⟨_,rfl,HN.o,L.o⟩
  go_wp2_with fail;go_ret;exact⟨_,rfl,HN.o,L.o⟩
 ·have HN:=hY (show (Lib.itoa i).length=n from hn)
  have HD:=hY (Qjl (w.alloc (.cells #[.int .i64 3,.bool b,.int .i64 i,.string t,.slice sl.a l.length sl.c,.slice so.a I.length so.c] 28)) i e8 f2);clear hn;go_wp2_with fail;refine HD.o.mono ?_;rintro e w2 ⟨u,rfl,hu,z⟩;have HU:=hY (hu.trans HN.o);have D:=hY (L.o.trans z);clear hu z;go_wp2_with fail;go_ret;exact⟨_,rfl,HU.o,D.o⟩
 ·have HN:=hY (show (Qa6 t).size=n from hn)
  have HD:=hY (Qg5 (w.alloc (.cells #[.int .i64 4,.bool b,.int .i64 i,.string t,.slice sl.a l.length sl.c,.slice so.a I.length so.c] 28)) t (by have:=b0.o;omega) c7);have HQ:=hY (QfI c7);clear hn c7;go_wp2_with fail;refine HD.o.mono ?_;rintro e w2 ⟨u,rfl,hu,z⟩;have HU:=hY (show u.size=n by rw[hu,<-HQ.o,HN.o]);have D:=hY (L.o.trans z);clear hu z;go_wp2_with fail;go_ret;exact⟨_,rfl,HU.o,D.o⟩
 ·have HN:=hY (show 2+Qek l+(l.length - 1)=n from hn)
  clear hn;go_wp2_with fail;generalize a6:World.alloc w _=w1;rw[a6]at L R;clear a6;go_loopw[5,6] (λsv qq wr=>∃(j:Nat) (u:ByteArray),sv=.string u/\qq=.int .i64 j/\j<=l.length/\Yd (u.size=1+Qek (l.take j)+(j-1))/\Yd (Ext w1 wr)) (λ_ qq _=>l.length -(intOf qq).toNat)
  case atStart=>exact⟨0,_,rfl,rfl,av _,hY rfl,hY (fu _)⟩
  obtain⟨j,u,rfl,rfl,hj,HU,Z⟩:=hrel;obtain⟨p0,p1,p2,p3,p4,p5⟩:=(R.o.ext Z.o).c6;have lp:=(R.o.ext Z.o).lt;have f0:u.size<=7000000:=by have:=HU.o;have:=Qiy l j;have:=HN.o;omega
  by_cases Y:j<l.length
  ·have g1:(j:Int)<(l.length:Int):=by omega
   have g3:decide ((j:Int)<(l.length:Int))=true:=ej g1;obtain⟨d,hd⟩:∃d,l[j]? = some d:=⟨_,ac Y⟩;have U:Ext w wr:=L.o.trans Z.o;have a2:Agree (Lt w) w wr:=U.agree λ_ h=>h
   obtain⟨a3,a7,c4⟩:=c0.o.eq (by omega);have a0:=c0.o.fits (show 0<l.length by omega);obtain⟨sa,sc⟩:=sl;dsimp only at a3 a7 c4;subst a3;obtain⟨v0,v1,v2,v3,v4,v5⟩:=(f8.o j d hd).agree a2 a0;have lb:bl<wr:=ab a0 U.size;have X:Calls prog 140 #[aggV d (cl j).1 (cl j).2] wr λe w'=>∃t:ByteArray,e=.returned (.string t)/\t.size=Qdy d/\Ext wr w':=
    HI.o d (g0.o j d hd) (by have:=Qid hd;have:=b0.o;omega) _ (QlV f3.o hd) wr _ _ (((f6.o j d hd).agree a2).mono λi hi=>ab hi U.size)
   have a4:=QgQ hd;have f1:Qdy d<=7000000:=by have:=Qiy l (j+1);have:=HN.o;omega
   have N:=hY X;have b3:=hY a4;clear hd U a2 X a4;by_cases a9:j=0
   ·have gg:decide ((0:Int)<(j:Int))=false:=eh (by omega)
    have c1:=hY a9;have gn:¬0<j:=by omega
    have gi:¬(0:Int)<(j:Int):=by omega
    clear a9;go_wp2_with fail;refine N.o.mono ?_;rintro e w2 ⟨x,rfl,hx,z⟩;have s1:¬9223372036854775807<u.size+x.size:=by omega
    have D:=hY (Z.o.trans z);have HS:=hY (show u.size+x.size=1+Qek (l.take (j+1))+(j+1-1)by have:=c1.o;have:=HU.o;rw[b3.o,hx];omega);clear z hx N v0 v1 v2 v3 v4 v5 p0 p1 p2 p3 p4 p5;go_wp2_with fail;go_roundw
    case rel=>exact⟨j+1,_,rfl,by go_num,Y,hY (by rw[aJ];exact HS.o),D⟩
    simp[intOf];omega
   have gg:decide ((0:Int)<(j:Int))=true:=ej (by omega);have s0:¬9223372036854775807<u.size+1:=by omega
   go_wp2_with fail;refine N.o.mono ?_;rintro e w2 ⟨x,rfl,hx,z⟩;have s1:¬9223372036854775807<u.size+1+x.size:=by omega
   have D:=hY (Z.o.trans z);have HS:=hY (show u.size+1+x.size=1+Qek (l.take (j+1))+(j+1-1)by have:=HU.o;rw[b3.o,hx];omega);clear z hx N v0 v1 v2 v3 v4 v5 p0 p1 p2 p3 p4 p5;go_wp2_with fail;go_roundw
   case rel=>exact⟨j+1,_,rfl,by go_num,Y,hY (by rw[aJ,aJ];exact HS.o),D⟩
   simp[intOf];omega
  obtain rfl:j=l.length:=by omega
  have g1:decide ((l.length:Int)<(l.length:Int))=false:=eh (by omega);have s1:¬9223372036854775807<u.size+1:=by omega
  have HS:=hY (show u.size+1=n by have:=HU.o;rw[aP]at this;have:=HN.o;omega);have D:=hY (L.o.trans Z.o);go_wp2_with fail;go_ret;exact⟨_,rfl,by rw[aJ];exact HS.o,D.o⟩
 have HN:=hY (show 2+Qeq I ov+(ov.length-1)=n from hn);clear hn;go_wp2_with fail;generalize a6:World.alloc w _=w1;rw[a6]at L R;clear a6;go_loopw[7,8] (λsv qq wr=>∃(j:Nat) (u:ByteArray),sv=.string u/\qq=.int .i64 j/\j<=I.length/\Yd (u.size=1+Qeq I (ov.take j)+(j-1))/\Yd (Ext w1 wr)) (λ_ qq _=>I.length -(intOf qq).toNat)
 case atStart=>exact⟨0,_,rfl,rfl,av _,hY (by rw[cx,Qeq];rfl),hY (fu _)⟩
 obtain⟨j,u,rfl,rfl,hj,HU,Z⟩:=hrel;obtain⟨p0,p1,p2,p3,p4,p5⟩:=(R.o.ext Z.o).c6;have lp:=(R.o.ext Z.o).lt;have f0:u.size<=7000000:=by have:=HU.o;have:=Qgg I ov j;have:=HN.o;have:=c9.o;omega
 by_cases Y:j<I.length
 ·have g1:(j:Int)<(I.length:Int):=by omega
  have g3:decide ((j:Int)<(I.length:Int))=true:=ej g1;obtain⟨kk,hk⟩:∃kk,I[j]? = some kk:=⟨_,ac Y⟩;obtain⟨d,hd⟩:∃d,ov[j]? = some d:=⟨_,ac (by rw[c9.o];exact Y)⟩;have U:Ext w wr:=L.o.trans Z.o;have a2:Agree (Lt w) w wr:=U.agree λ_ h=>h
  obtain⟨a3,a7,c4⟩:=b8.o.eq (by omega);have a0:=b8.o.fits (show 0<I.length by omega);obtain⟨sa,sc⟩:=so;dsimp only at a3 a7 c4;subst a3;have lb:bo<wr:=ab a0 U.size;have kc:wr.cell? ⟨bo,fo+j*7,none⟩=some (.string kk):=(a2.cell a0).trans (f5.o j kk hk).1;have c3:=(Qgi c8.o hd hk).1;have d8:=Qg5 wr kk (by have:=QdG hd hk;have:=b0.o;omega) c3;have a4:=QgR (ks:=I) hd hk;have f1:(Qa6 kk).size+1+Qdy d<=7000000:=by have:=Qgg I ov (j+1);have:=HN.o;omega
  have e1:=hY (QfI c3);have b5:=hY d8;have b3:=hY a4;have a1:=hY U;have b6:=hY a0;have HK:=hY hk;have HD:=hY hd;clear hd hk U a2 d8 a4 c3 a0;by_cases a9:j=0
  ·have gg:decide ((0:Int)<(j:Int))=false:=eh (by omega)
   have c1:=hY a9;have gn:¬0<j:=by omega
   have gi:¬(0:Int)<(j:Int):=by omega
   clear a9;go_wp2_with fail;refine b5.o.mono ?_;rintro e w2 ⟨y,rfl,hy,z⟩;obtain⟨p0,p1,p2,p3,p4,p5⟩:=(R.o.ext (Z.o.trans z)).c6;have f7:=(R.o.ext (Z.o.trans z)).lt;have J:Agree (Lt w) w w2:=(a1.o.trans z).agree λ_ h=>h
   obtain⟨v0,v1,v2,v3,v4,v5⟩:=(d4.o j d HD.o).agree J b6.o;have f4:bo<w2:=ab b6.o (a1.o.trans z).size;have X:Calls prog 140 #[aggV d (co j).1 (co j).2] w2 λe w'=>∃t:ByteArray,e=.returned (.string t)/\t.size=Qdy d/\Ext w2 w':=
    HI.o d (d0.o j d HD.o) (by have:=QdG HD.o HK.o;have:=b0.o;omega) _ (Qgi c8.o HD.o HK.o).2 w2 _ _ (((d3.o j d HD.o).agree J).mono λi hi=>ab hi (a1.o.trans z).size)
   have N:=hY X;have a8:y.size=(Qa6 kk).size:=by rw[hy,e1.o]
   have s1:¬9223372036854775807<u.size+y.size:=by omega
   have s2:¬9223372036854775807<u.size+y.size+1:=by omega
   have b4:=hY a8;have D:=hY (Z.o.trans z);clear J X z hy a8 lp lb kc b5;go_wp2_with fail;refine N.o.mono ?_;rintro e w3 ⟨x,rfl,hx,a5⟩;have s3:¬9223372036854775807<u.size+y.size+1+x.size:=by have:=b4.o;omega
   have c2:=hY (D.o.trans a5);have HS:=hY (show u.size+y.size+1+x.size=1+Qeq I (ov.take (j+1))+(j+1-1)by have:=c1.o;have:=HU.o;have:=b4.o;rw[b3.o,hx];omega);clear a5 hx N v0 v1 v2 v3 v4 v5 p0 p1 p2 p3 p4 p5;go_wp2_with fail;go_roundw
   case rel=>exact⟨j+1,_,rfl,by go_num,Y,hY (by rw[aJ,aJ,aJ];exact HS.o),c2⟩
   simp[intOf];omega
  skip
  have gg:decide ((0:Int)<(j:Int))=true:=ej (by omega);have s0:¬9223372036854775807<u.size+1:=by omega
  go_wp2_with fail;refine b5.o.mono ?_;rintro e w2 ⟨y,rfl,hy,z⟩;obtain⟨p0,p1,p2,p3,p4,p5⟩:=(R.o.ext (Z.o.trans z)).c6;have f7:=(R.o.ext (Z.o.trans z)).lt;have J:Agree (Lt w) w w2:=(a1.o.trans z).agree λ_ h=>h
  obtain⟨v0,v1,v2,v3,v4,v5⟩:=(d4.o j d HD.o).agree J b6.o;have f4:bo<w2:=ab b6.o (a1.o.trans z).size;have X:Calls prog 140 #[aggV d (co j).1 (co j).2] w2 λe w'=>∃t:ByteArray,e=.returned (.string t)/\t.size=Qdy d/\Ext w2 w':=
   HI.o d (d0.o j d HD.o) (by have:=QdG HD.o HK.o;have:=b0.o;omega) _ (Qgi c8.o HD.o HK.o).2 w2 _ _ (((d3.o j d HD.o).agree J).mono λi hi=>ab hi (a1.o.trans z).size)
  have N:=hY X;have a8:y.size=(Qa6 kk).size:=by rw[hy,e1.o]
  have s1:¬9223372036854775807<u.size+1+y.size:=by omega
  have s2:¬9223372036854775807<u.size+1+y.size+1:=by omega
  have b4:=hY a8;have D:=hY (Z.o.trans z);clear J X z hy a8 lp lb kc b5;go_wp2_with fail;refine N.o.mono ?_;rintro e w3 ⟨x,rfl,hx,a5⟩;have s3:¬9223372036854775807<u.size+1+y.size+1+x.size:=by have:=b4.o;omega
  have c2:=hY (D.o.trans a5);have HS:=hY (show u.size+1+y.size+1+x.size=1+Qeq I (ov.take (j+1))+(j+1-1)by have:=HU.o;have:=b4.o;rw[b3.o,hx];omega);clear a5 hx N v0 v1 v2 v3 v4 v5 p0 p1 p2 p3 p4 p5;go_wp2_with fail;go_roundw
  case rel=>exact⟨j+1,_,rfl,by go_num,Y,hY (by rw[aJ,aJ,aJ,aJ];exact HS.o),c2⟩
  simp[intOf];omega
 obtain rfl:j=I.length:=by omega
 have g1:decide ((I.length:Int)<(I.length:Int))=false:=eh (by omega);have s1:¬9223372036854775807<u.size+1:=by omega
 have HS:=hY (show u.size+1=n by have:=HU.o;rw[<-c9.o,aP]at this;have:=HN.o;omega);have D:=hY (L.o.trans Z.o);go_wp2_with fail;go_ret;exact⟨_,rfl,by rw[aJ];exact HS.o,D.o⟩
theorem QmM{d:Val}(h:RV w (Lt w) d sl so)(hc:cntV d<=1100000):Calls prog 91 #[aggV d sl so] w λe w'=>e=.returned (.int .i64 (Qbw d))/\Ext w w':=by
 have L:∀W,Ext w W->RV W (Lt W) d sl so:=λW I=>(h.agree (I.agree λb hb=>hb)).mono λb hb=>ab hb I.size
 have HM:=hY (λW (I:Ext w W)=>Qpc (L W I) hc);have HD:=hY (λW (I:Ext w W) (hq:Qbp d<=1000000)=>QqD _ d (an _) hq W sl so (L W I));have HT:=hY (λW (I:Ext w W) (J:QbN d 1=0)=>QrJ _ d (an _) hc 1 J W sl so (L W I));obtain⟨r,z⟩:∃r,Qbw d=r:=⟨_,rfl⟩;rw[z];have HR:=hY z;clear z L h;go_in;go_wp2_with fail;have X:=(fu w).alloc (Qlj d sl so) 28;have N:=fx w 28 (Qlj d sl so);refine(HM.o _ X).mono ?_;rintro e w1 ⟨rfl,D⟩;have z:=HR.o;unfold Qbw at z;obtain⟨q0,q1,q2,q3,q4,q5⟩:=(N.ext D).c6;have lq:=(N.ext D).lt;have HB:=hY (N.ext D);have HX:=hY (X.trans D);clear X D N HM;by_cases J:QbN d 1=0
 ·rw [ef (by simp [J])] at z
  have a4:=Qgc d 1 J;have a3:=hY (λW I=>HT.o W I J);rw[J];have a2:=hY z;clear z J;go_wp2_with fail;refine(HD.o _ HX.o (by omega)).mono ?_;rintro e w2 ⟨rfl,R⟩;obtain⟨p0,p1,p2,p3,p4,p5⟩:=(HB.o.ext R).c6;have lp:=(HB.o.ext R).lt;have Y:=hY (HX.o.trans R);have z:=a2.o;clear R q0 q1 q2 q3 q4 q5 lq;by_cases hd:16<Qbp d
  ·rw [em hd] at z
   have g1:decide ((16:Int)<(Qbp d:Int))=true:=ej (by omega);have U:=hY z;clear z;go_wp2_with fail;go_ret;exact⟨by rw[<-U.o];rfl,Y.o⟩
  rw[ef hd]at z;have g1:decide ((16:Int)<(Qbp d:Int))=false:=eh (by omega);have a0:=hY z;clear z;go_wp2_with fail;refine(a3.o _ Y.o).mono ?_;rintro e w3 ⟨t,rfl,ht,a1⟩;have Z:=hY (Y.o.trans a1);have z:=a0.o;rw[<-ht]at z;clear a1 ht;by_cases hl:1024<t.size
  ·rw [em hl] at z
   have g2:decide ((1024:Int)<(t.size:Int))=true:=ej (by omega);have U:=hY z;clear z;go_wp2_with fail;go_ret;exact⟨by rw[<-U.o];rfl,Z.o⟩
  rw[ef hl]at z;have g2:decide ((1024:Int)<(t.size:Int))=false:=eh (by omega);have U:=hY z;clear z;go_wp2_with fail;go_ret;exact⟨by rw[<-U.o];rfl,Z.o⟩
 rw[em J]at z;have g1:(QbN d 1 != 0)=true:=by simpa using J
 have U:=hY z;clear z J;go_wp2_with fail;go_ret;exact⟨by rw[<-U.o];rfl,HX.o⟩
theorem Tryz.QoP:(prog.info? 33).map (λi=>(i.zero,i.size,i.bytes))=some (some (.pointer none),1,8):=by kernel_rfl
abbrev Qdx(m:Nat):Value:=.pointer (some ⟨m,0,none⟩)
structure R12(H:Nat->Prop)(w:World)(base R M:Nat)(s:Sl)(es:List Ent)(ms:List Nat)(hs:List (List Ent)):Prop where
 below:∀b,H b->b<w.heap.size
 old:base<=w.heap.size
 hR:H R
 hrow:∀b,s.row=some b->H b
 blk:Blk w R 110 #[Qdx M,.slice s.a hs.length s.c]
 own:w.ownsRow base 33 1 (.slice s.a hs.length s.c) hs.length (ms.map Qdx)
 cur:MapAt H w M es
 len:ms.length=hs.length
 dist:ms.Nodup
 maps:∀(j m:Nat) (es':List Ent),ms[j]? = some m->hs[j]? = some es'->MapAt H w m es'/\m≠M
variable{H:Nat->Prop}
theorem MapAt.QrS{M:Nat}{es:List Ent}(h:MapAt H w M es):∃v,Blk w M 55 #[v]:=by
 obtain⟨-,s,xs,z,-⟩:=h;exact⟨_,z⟩
theorem Qn7{a b:Nat}{t J:TypeId}{cs D:Array Value}(h:Blk w a t cs)(z:Blk w b J D)(I:t≠J):a≠b:=by
 rintro rfl;unfold Blk at h z;rw[h]at z;injection z with z;injection z with h3 h4;exact I h4
variable{ms:List Nat}{hs:List (List Ent)}
theorem R12.QuG{base R M:Nat}{es:List Ent}(h:R12 H w base R M s es ms hs):R≠M:=by
 obtain⟨v,z⟩:=h.cur.QrS;exact Qn7 h.blk z (by decide)
theorem R12.QtA{base R M:Nat}{es:List Ent}(h:R12 H w base R M s es ms hs):s.row≠some M:=by
 obtain⟨v,z⟩:=h.cur.QrS;exact QcP h.own z (by decide)
theorem R12.QsL{base R M:Nat}{es:List Ent}(h:R12 H w base R M s es ms hs):s.row≠some R:=QcP h.own h.blk (by decide)
theorem R12.ext{base R M:Nat}{es:List Ent}(h:R12 H w base R M s es ms hs)(k:Ext w w'):R12 H w' base R M s es ms hs:=
 ⟨λb z=>ab (h.below b z) k.size,aj h.old k.size,h.hR,h.hrow,h.blk.ext k,Qae h.own (k.agree λb (z:b<w)=>z) (λb z=>(Qaa h.own z).2),h.cur.ext k,h.len,h.dist,λj m e I D=>⟨(h.maps j m e I D).1.ext k,(h.maps j m e I D).2⟩⟩
variable{s5:Sl}
theorem R12.step{w3 I w5:World}{base R M M':Nat}{es:List Ent}{c:Array Value}{t:TypeId}(h:R12 H w3 base R M s es ms hs)(a4:Ext w3 I)(c1:w3.heap.size<=M')(a2:MapAt (λb=>H b\/b=M') I M' es)
  (L:w5.ownsRow base 33 1 (.slice s5.a (hs.length+1) s5.c) (hs.length+1) (ms.map Qdx++[Qdx M'])) (a3:Wr (I.alloc (.cells c t)) w5 s.row) (a7:s5.a=s.a\/s5.a=some ⟨(I.alloc (.cells c t)).heap.size,0,none⟩/\Wr (I.alloc (.cells c t)) w5 none) (a5:Blk w5 R 110 #[Qdx M,.slice s.a hs.length s.c]) :
  ∃H':Nat->Prop,(∀b,H b->H' b)/\(∀b,H' b->H b\/w3<=b)/\R12 H' (w5.setCell ⟨R,1,none⟩ (.slice s5.a (hs.length+1) s5.c)) base R M s5 es (ms++[M']) (hs++[es])/\St (λb=>b=R\/s.row=some b) w3 (w5.setCell ⟨R,1,none⟩ (.slice s5.a (hs.length+1) s5.c))/\(∀b,s5.row=some b->s.row=some b\/w3<=b):=by
 have a8:Ext I (I.alloc (.cells c t)):=(fu I).alloc _ _;have b6:=a4.size;have c0:(I.alloc (.cells c t)).heap.size=I.heap.size+1:=ew _ _;have b5:=a3.grown.size;have b8:M'<I.heap.size:=by obtain⟨v,hv⟩:=a2.QrS;exact hv.lt
 have b7:=h.blk.lt;have b3:M<w3.heap.size:=by obtain⟨v,hv⟩:=h.cur.QrS;exact hv.lt
 have D:∀b,s5.row=some b->H b\/I.heap.size<b:=λb z=>by
  rcases a7 with e |⟨e,-⟩
  .exact .inl (h.hrow b (by unfold Sl.row at z ⊢;rw[<-e];exact z))
  right;have:b=(I.alloc (.cells c t)).heap.size:=by unfold Sl.row at z;rw[e]at z;simpa using z.symm
  omega
 have k4:St (λb=>b=R\/s.row=some b) I (w5.setCell ⟨R,1,none⟩ (.slice s5.a (hs.length+1) s5.c)):=
  St.set (H:=λb=>b=R\/s.row=some b) ((a8.st _).trans (a3.st λi hi=>.inr hi)) (p:=⟨R,1,none⟩) (.inr (.inl rfl)) _
 have k3:St (λb=>b=R\/s.row=some b) w3 (w5.setCell ⟨R,1,none⟩ (.slice s5.a (hs.length+1) s5.c)):=(a4.st _).trans k4;have X:St (λb=>b=R) w5 (w5.setCell ⟨R,1,none⟩ (.slice s5.a (hs.length+1) s5.c)):=St.set (H:=λb=>b=R) (St.refl _ _) (p:=⟨R,1,none⟩) (.inr rfl) _;have a9:s5.row≠some R:=λe=>QcP L a5 (by decide) e
 have a6:∀b,(b=R\/s.row=some b)->H b:=λb z=>z.elim (λe=>e▸h.hR) (h.hrow b)
 have b4:∀m,(∃v,Blk w3 m 55 #[v])->¬(m=R\/s.row=some m):=λm ⟨v,hv⟩ hh=>hh.elim (λe=>Qn7 h.blk hv (by decide) e.symm) λe=>QcP h.own hv (by decide) e
 have Z:∀m e',MapAt H w3 m e'->MapAt (λb=>H b\/b=M'\/s5.row=some b) (w5.setCell ⟨R,1,none⟩ (.slice s5.a (hs.length+1) s5.c)) m e':=λm e' hm=>
  (hm.more (G:=λb=>H b\/b=M'\/s5.row=some b) (λb z=>.inl z) λb z J=>by
    rcases J with J|J|J
    .exact J
    .omega
    rcases D b J with h1|h1
    .exact h1
    omega).st k3 (λb z=>.inl (a6 b z)) (b4 m hm.QrS)
 have a0:∀b,s5.row=some b->s.row=some b\/w3<=b:=λb z=>by
  rcases a7 with e |⟨e,-⟩
  .exact .inl (by unfold Sl.row at z ⊢;rw[<-e];exact z)
  right;have:b=(I.alloc (.cells c t)).heap.size:=by unfold Sl.row at z;rw[e]at z;simpa using z.symm
  omega
 refine⟨λb=>H b\/b=M'\/s5.row=some b,λb z=>.inl z,λb z=>?_,?_,k3,a0⟩
 ·rcases z with z | z | z
  .exact .inl z
  .right;omega
  rcases D b z with h1|h1
  .exact .inl h1
  right;omega
 have hz:=X.size;refine⟨λb z=>?_,?_,.inl h.hR,λb z=>.inr (.inr z),?_,?_,Z M es h.cur,by rw[ai,ai,h.len];rfl,?_,λj m a1 N Y=>?_⟩
 ·rcases z with z | z | z
  .have:=h.below b z;omega
  .omega
  have:=(Qaa L z).2;omega
 .have:=h.old;omega
 ·have:=a5.Qdz 1 (.slice s5.a (hs.length+1) s5.c)
  rw[ai];exact this
 ·rw [ai,aR]
  exact Qae L (F:=λb=>s5.row=some b) (λb z=>X.block b (Qaa L z).2 λe=>a9 (e▸z)) λb z=>z
 ·rw [List.nodup_append]
  refine⟨h.dist,by simp,λa ha b z e=>?_⟩;rw[br]at z;obtain⟨j,N⟩:=bx ha;have U:=(ah.1 N).1;obtain⟨x,hx⟩:=(h.maps j a _ N (ac (by rw[<-h.len];exact U))).1.QrS;have:=hx.lt;omega
 by_cases U:j<ms.length
 ·rw [bm U] at N
  rw[bm (by rw[<-h.len];exact U)]at Y;exact⟨Z m a1 (h.maps j m a1 N Y).1,(h.maps j m a1 N Y).2⟩
 rw[aU (by omega)]at N;rw[aU (by rw[<-h.len];omega)]at Y;have b0:j-ms.length=0:=by
  have:=(ah.1 N).1;simp at this;omega
 rw[<-h.len]at Y;rw[b0]at N Y;simp at N Y;subst N Y;refine⟨(a2.more (G:=λb=>H b\/b=M'\/s5.row=some b) (λb z=>z.elim .inl λe=>.inr (.inl e)) λb z J=>by
  rcases J with J|J|J
  .exact .inl J
  .exact .inr J
  rcases D b J with h1|h1
  .exact .inl h1
  omega).st k4 (λb z=>.inl (a6 b z)) ?_,by omega⟩
 rintro(e|e)
 .omega
 have:=h.below _ (h.hrow _ e);omega
theorem R12.turned{base R M:Nat}{es D:List Ent}(h:R12 H w base R M s es ms hs)(N:MapAt H w' M D)(k:St (λb=>b=M) w w'):R12 H w' base R M s D ms hs:=
 ⟨λb z=>ab (h.below b z) k.size,aj h.old k.size,h.hR,h.hrow,k.blk h.blk h.QuG,Qae h.own (F:=λb=>s.row=some b) (λb z=>k.block b (Qaa h.own z).2 λe=>h.QtA (e▸z)) (λb z=>z),N,h.len,h.dist,
   λj m e J I=>⟨(h.maps j m e J I).1.st k (λb z=>z▸h.cur.hm) (λL=>(h.maps j m e J I).2 L),(h.maps j m e J I).2⟩⟩
end Go.Proofs.YtkjkafgnnoidpaaGreatDoor
