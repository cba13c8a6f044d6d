/- What the theorem needs of the texts IntA, Law13a, Row13, Kn13, Kn13b, At01, Val01, Bare02, May02, Deep02, Runes01, Bytes01, Quote01, Digits03, Text03, Fits03, RefA12: no condition of its own. -/
import Derived.Test.YtkjkafgnnoidpaaGreatDoorPhk
import Derived.Test.YtkjkafgnnoidpaaGreatDoorPhm
import Derived.Test.YtkjkafgnnoidpaaGreatDoorPhb
set_option linter.unusedVariables false
set_option linter.unusedSimpArgs false
set_option linter.unnecessarySimpa false
set_option maxRecDepth 100000
set_option maxHeartbeats 4000000
namespace Go.Proofs.YtkjkafgnnoidpaaGreatDoor
open Go.Proofs.Tryz
open Go.RowKit Go.Maps Go.Shelf
def foldM(l:List Mu)(M:List Ent):Nat × List Ent:=l.foldl (λp m=>(if(runM p.2 m).1=0 then p.1 else p.1+1,(runM p.2 m).2)) (0,M)
variable{j:Nat}
theorem QlB{l:List Mu}{x:Mu}(h:l[j]? = some x)(M:List Ent):foldM (l.take (j+1)) M=(if(runM (foldM (l.take j) M).2 x).1=0 then(foldM (l.take j) M).1 else(foldM (l.take j) M).1+1,(runM (foldM (l.take j) M).2 x).2):=by
 rw[aT,h];unfold foldM;show((l.take j)++[x]).foldl _ _=_;rw[List.foldl_append];rfl
theorem QlC(l:List Mu)(M:List Ent):∀j,(foldM (l.take j) M).1<=j
 |0=>an _
 | j+1=>by
   have D:=QlC l M j;cases z:l[j]? with
   |none=>rw[aT,z];show(foldM (l.take j++[]) M).1<=_;rw[aY];omega
   | some x=>
     rw[QlB z];dsimp only;split
     .exact Nat.le_succ_of_le D
     exact Nat.succ_le_succ D
variable{w:World}{F:Nat->Prop}{T:RT}{s:Sl}
theorem Qqs{l:List Mu}(hT:IsT w F T)(hF:∀b,F b->6<=b/\b<w)(ok:OkR T)(hM:OkM (Qab T))(hr:Qsd w (Lt w) s l)(hL:Qb9 w)
  (hd:∀j m,l[j]? = some m->QbE m=0->(foldM (l.take j) (Qab T)).2.length+Qcd m (foldM (l.take j) (Qab T)).2<=1000000) (f8:∀j,(foldM (l.take j) (Qab T)).2.length<=1000000) (ht:Qdr l<=1100000) :
  Calls prog 35 #[Qau T,.slice s.a l.length s.c] w λe w'=>∃T',e=.returned (.tuple #[Qau T',.int .i64 ((foldM l (Qab T)).1:Int)])/\OkR T'/\IsT w' (Up F w w') T'/\Qab T'=(foldM l (Qab T)).2/\OkM (Qab T')/\Nw w w'/\(l=[]->T'=T):=by
 obtain⟨p,hp⟩:=Qaq T;have HP:=hY hp;have HT:=hY hT;have HF:=hY hF;have g5:=hY ok;have i3:=hY hM;have g9:=hY hr;have HL:=hY hL;have HD:=hY hd;have i7:=hY ht;have i1:=hY f8;have j2:=hr.len;rw[Qau,hp];clear hp hT hF ok hM hr hL hd ht f8;go_in;go_upto_region 1 with fail;generalize e3:World.alloc _ _=W0;obtain⟨f9,e0,e6,d8⟩:=Qap w _ _ _ _ W0 e3;have U:=hY f9;have g8:=hY e6;have i2:=hY d8;have c9:=hY e0;clear e3 f9 e6 d8 e0;go_wp2_with fail;go_loopw[6,13] (λv6 g7 wr=>∃(j:Nat) (J:RT) (p1:Option Addr),g7=.int .i64 (j:Int)/\v6=.int .i64 ((foldM (l.take j) (Qab T)).1:Int)/\j<=l.length/\Yd (Qay J=.pointer p1)/\Yd (Blk wr w.heap.size 41 #[.pointer p1])/\Yd (OkR J)/\
  Yd (IsT wr (λb=>F b\/(W0<=b/\b<wr)) J)/\Yd (Qab J=(foldM (l.take j) (Qab T)).2)/\Yd (OkM (Qab J))/\Yd (Sb (λb=>b=w.heap.size) W0 wr)/\Yd (j=0->J=T)) (λ_ v _=>l.length -(intOf v).toNat)
 case atStart=>exact⟨0,T,p,rfl,rfl,aw _,HP,g8,g5,hY ((HT.o.agree (U.o.agree λb D=>(HF.o b D).2)).mono λb D=>.inl D),hY rfl,i3,hY (fD _ _),hY λ_=>rfl⟩
 obtain⟨j,J,p1,rfl,rfl,hj,g3,b0,c0,f2,a0,e1,I,c3⟩:=hrel;obtain⟨nr,c1⟩:∃n,(foldM (l.take j) (Qab T)).1=n:=⟨_,rfl⟩;rw[c1];have c4:=hY c1;clear c1;by_cases d4:j<l.length
 ·have l1:(j:Int)<(l.length:Int):=by omega
  have j5:decide ((j:Int)<(l.length:Int))=true:=ej l1;have l0:(0:Int)<=(j:Int):=by omega
  obtain⟨x,hx⟩:∃x,l[j]? = some x:=⟨_,ac d4⟩;obtain⟨b,o,cc,c8,f3,g4⟩:=g9.o.ex;obtain⟨i6,j4,j1⟩:=c8.eq (by omega);have i5:b<w:=c8.fits (by omega);have hz:=c9.o;have z1:=U.o.size;have z2:=I.o.size;have N:Nw w wr:=(fx U.o).comp I.o λi hi e=>by omega
  have b8:=hY ((f3 j x hx).nw N);have j3:=b8.o.lt;have X:∀W,Ext wr W->Calls prog 25 #[.agg #[.pointer p1],QaG x (cc j)] W λe w'=>∃T',e=.returned (.tuple #[Qau T',.int .i64 (runM (Qab J) x).1])/\OkR T'/\IsT w' (Up (λb=>F b\/(W0<=b/\b<wr)) W w') T'/\Qab T'=(runM (Qab J) x).2/\OkM (runM (Qab J) x).2/\Nw W w':=λW hW=>by
   have h:=QnZ (w:=W) (F:=λb=>F b\/(W0<=b/\b<wr)) (T:=J) (m:=x) (c:=cc j) (f2.o.agree (hW.agree λb D=>D.elim (λe=>ab (HF.o b e).2 N.size) λe=>e.2)) (λb D=>⟨D.elim (λe=>(HF.o b e).1) λe=>by have:=HL.o.lib.big;omega,ab (D.elim (λe=>ab (HF.o b e).2 N.size) λe=>e.2) hW.size⟩) c0.o e1.o ((g4 j x hx).nw (N.trans (fx hW))) (HL.o.nw (N.trans (fx hW))) (by rw[a0.o];exact HD.o j x hx) (by rw[a0.o];exact i1.o j) (al (Qgp hx) i7.o);rw[Qau,g3.o]at h;exact h.mono λe w' ⟨T2,a1,a2,a3,a4,a5,a6,_⟩=>⟨T2,a1,a2,a3,a4,a5,a6⟩
  have d5:=hY X;have i9:=hY (QlB hx (Qab T));have q0:wr.cell? ⟨w,0,none⟩=some (.pointer p1):=b0.o.cell 0;have l2:=b0.o.lt;have j0:=QlC l (Qab T) j;rw[c4.o]at j0;rw[i6];clear c8 f3 g4 i5 X hx N hz z1 z2;go_wp2_with(first |(refine Qak rfl (.tmp 15) rfl b (o+j*19) rfl x (cc j) b8.o ?_) |(refine Qa0 rfl rfl rfl x (cc j) (w0:=wr) (b:=wr) rfl ((fv wr).alloc _ _) (fA wr _ _) rfl rfl rfl ?_;intro w5 d6 f7;have b4:=hY d6;have q5:=(d6.cell l2).trans q0;have g6:=hY (fG f7);clear d6 f7) |(refine Qak rfl (.tmp 8) rfl wr.heap.size 0 rfl x (cc j) g6.o ?_));refine(d5.o _ b4.o).mono ?_;rintro e w6 ⟨T2,rfl,e4,e8,c7,d0,c2⟩;obtain⟨p2,d3⟩:=Qaq T2;rw[Qau,d3];obtain⟨q,hq⟩:∃q,runM (Qab J) x=q:=⟨_,rfl⟩;rw[hq]at c7 d0 ⊢;have z:=i9.o;rw[<-a0.o,hq,c4.o]at z;have HA:=hY z;have Y:=c2.blk (b0.o.ext b4.o);have c6:w6.cell? ⟨w,0,none⟩=some (.pointer p1):=Y.cell 0;have f6:=Y.frozen 0;have l6:=Y.lt;have i0:=hY Y;have e7:=hY d3;have d7:=hY e4;have i4:=hY e8;have b5:=hY c7;have f5:=hY d0;have f0:=hY c2;clear z Y d3 e4 e8 c7 d0 c2 hq q5 q0 l2;have b7:∀W,(w6.setCell ⟨w,0,none⟩ (.pointer p2)).alloc (.cells #[.pointer p2] 41)=W->Blk W w.heap.size 41 #[.pointer p2]/\IsT W (λb=>F b\/(W0<=b/\b<W)) T2/\Sb (λb=>b=w.heap.size) W0 W:=λW hW=>by
   subst hW;have hz:=c9.o;have s0:Sb (λi=>i=w.heap.size) w6 (w6.setCell ⟨w,0,none⟩ (.pointer p2)):=(fD (λi=>i=w.heap.size) _).set (p:=⟨w,0,none⟩) (.inr rfl) _;have a9:=(fv (w6.setCell ⟨w,0,none⟩ (.pointer p2))).alloc #[.pointer p2] 41;have z0:=I.o.size;have z1:=b4.o.size;have z2:=f0.o.size;have z3:=s0.size;have z4:=a9.size;refine⟨(i0.o.Qdz 0 (.pointer p2)).ext a9,((i4.o.agree λb D=>s0.block b ?_ ?_).agree (a9.agree λb D=>?_)).mono λb D=>?_,((I.o.trans (Nw.any ((fx b4.o).trans f0.o) _)).trans s0).trans (Nw.any (fx a9) _)⟩
   ·rcases D with (e | e) | e
    .have:=(HF.o b e).2;omega
    .omega
    exact e.2
   ·intro e2
    rcases D with(e|e)|e
    .have:=(HF.o b e).2;omega
    .omega
    omega
   ·rcases D with (e | e) | e
    .have:=(HF.o b e).2;omega
    .omega
    have:=e.2;omega
   rcases D with(e|e)|e
   .exact .inl e
   .exact .inr ⟨e.1,by omega⟩
   exact .inr ⟨by omega,by omega⟩
  have b6:=hY b7;clear b7;by_cases h0:q.1=0
  ·have g0:(q.1 == 0)=true:=by simp [h0]
   have z:=HA.o;rw[em h0]at z;have R:=hY z;clear h0 z;go_wp2_with fail;generalize Z:World.alloc (World.setCell _ _ _) _=w7;obtain⟨r1,r2,r3⟩:=b6.o _ Z;have R1:=hY r1;have R2:=hY r2;have R3:=hY r3;clear r1 r2 r3 Z;go_roundw
   case measure=>simp[intOf];omega
   exact⟨j+1,T2,p2,by go_num,by rw[R.o],d4,e7,R1,d7,R2,hY (by rw[R.o];exact b5.o),hY (by rw[b5.o];exact f5.o),R3,hY λh=>absurd h (Nat.succ_ne_zero j)⟩
  have g0:(q.1==0)=false:=eu.2 h0;have z:=HA.o;rw[ef h0]at z;have R:=hY z;clear h0 z;go_wp2_with fail;generalize Z:World.alloc (World.setCell _ _ _) _=w7;obtain⟨r1,r2,r3⟩:=b6.o _ Z;have R1:=hY r1;have R2:=hY r2;have R3:=hY r3;clear r1 r2 r3 Z;go_roundw
  case measure=>simp[intOf];omega
  exact⟨j+1,T2,p2,by go_num,by rw[R.o];go_num,d4,e7,R1,d7,R2,hY (by rw[R.o];exact b5.o),hY (by rw[b5.o];exact f5.o),R3,hY λh=>absurd h (Nat.succ_ne_zero j)⟩
 obtain rfl:j=l.length:=by omega
 have l1:decide ((l.length:Int)<(l.length:Int))=false:=eh (by omega);have hz:=c9.o;have q0:wr.cell? ⟨w,0,none⟩=some (.pointer p1):=b0.o.cell 0;have b3:=I.o.blk i2.o (by omega);have i8:=hY b3;have q4:wr.cell? ⟨w+1,0,none⟩=some _:=b3.cell 0;have f4:=b3.frozen 0;clear b3;have f1:=hY (show foldM (l.take l.length) (Qab T)=foldM l (Qab T)by rw[aM]);go_wp2_with fail;generalize hW:World.setCell _ _ _=W;have hs:Sb (λi=>i=w.heap.size+1) wr W:=by rw[<-hW];exact(fD (λi=>i=w.heap.size+1) wr).set (p:=⟨w+1,0,none⟩) (.inr rfl) _
 have D:Blk W (w.heap.size+1) 41 #[.pointer p1]:=by rw[<-hW];exact i8.o.Qdz 0 (.pointer p1)
 have q5:W.cell? ⟨w+1,0,none⟩=some (.pointer p1):=D.cell 0;clear hW q0 q4 f4;have hn:nr=(foldM l (Qab T)).1:=by rw[<-c4.o,f1.o]
 rw[hn];refine eD (v:=.tuple #[.agg #[.pointer p1],.int .i64 ((foldM l (Qab T)).1:Int)]) (by simp[results,results35,go_sem,q5]) rfl ?_;have z1:=U.o.size;have z2:=I.o.size;have z3:=hs.size;refine⟨J,by rw[Qau,g3.o],c0.o,(f2.o.agree λb D=>hs.block b ?_ ?_).mono λb D=>?_,by rw[a0.o,f1.o],e1.o,((fx U.o).comp I.o λi hi e=>by omega).comp hs λi hi e=>by omega,λh=>c3.o (by rw[h];rfl)⟩
 ·rcases D with e | e
  .have:=(HF.o b e).2;omega
  exact e.2
 ·intro e2
  rcases D with e|e
  .have:=(HF.o b e).2;omega
  omega
 rcases D with e|e
 .exact .inl e
 exact .inr ⟨by omega,by omega⟩
theorem QcB(w:World)(n:Int):Calls prog 15 #[.int .i64 n] w λe w'=>e=.returned (QuH n)/\Ext w w':=by
 go_in;go_wp2_with fail;refine eD (v:=QuH n) (by simp[results,results15,go_sem];rfl) rfl ?_;exact⟨rfl,(fv w).alloc _ _⟩
variable{xs:List LE}
theorem QoJ(hF:∀b,F b->b<w)(hT:IsT w F T)(ok:OkR T)(hl:(Qab T).length<=1000000)(hs:ES w (Lt w) s xs) :
  Calls prog 22 #[Qau T,.slice s.a xs.length s.c] w λe w'=>e=.returned (.bool (QcT (Qab T) (xs.map LE.ent)))/\Ext w w':=by
 obtain⟨p,hp⟩:=Qaq T;have N:∀W,Ext w W->Calls prog 31 #[.agg #[.pointer p]] W (QaQ (Qab T) W):=λW hW=>by
  have h:=QcG (w:=W) (λb z=>ab (hF b z) hW.size) (hT.agree (hW.agree hF)) ok hl;rwa[Qau,hp]at h
 have U:∀(W:World) (I:Sl) (D:List LE),Ext w W->ES W (Lt W) I D->D.map LE.ent=Qab T->Calls prog 30 #[.slice I.a D.length I.c,.slice s.a xs.length s.c] W λe w'=>e=.returned (.bool (QcT (Qab T) (xs.map LE.ent)))/\Ext W w':=λW I D hW he hx=>by
  have h9:=Qk9 he ((hs.agree (hW.agree λb z=>z)).mono λb z=>ab z hW.size);rwa[hx]at h9
 have a0:=hY N;have a2:=hY U;rw[Qau,hp];clear N U hF hT ok hl hs hp;go_in;go_wp2_with fail;refine(a0.o _ ((fv w).alloc _ _)).mono ?_;rintro e w1 ⟨I,D,rfl,Y,J,X⟩;have a1:=hY (J.es.mono (G:=Lt w1) λb z=>z.2);have a3:=hY Y;have Z:=hY (((fv w).alloc #[.pointer p] 41).trans X);clear Y J X;go_wp2_with fail;refine(a2.o _ I D Z.o a1.o a3.o).mono ?_;rintro e w2 ⟨rfl,R⟩;have a4:=hY (Z.o.trans R);clear R;go_wp2_with fail;go_ret;exact⟨rfl,a4.o⟩
theorem Qgl(w:World)(F:Nat->Prop){n:Int}(z:(Lit.int .i64 n).wf=true):RV w F (Qbs n) Sl.none Sl.none:=RV.flat _ _ _ _ _ _ (by decide) z (by decide)
theorem QsY(w:World)(F:Nat->Prop):RV w F (Qf2 []) Sl.none Sl.none:=RV.flat _ _ _ _ _ _ (by decide) (by decide) (by decide)
theorem QsZ{n:Int}{b:Nat}(U:Blk w b 28 #[.int .i64 3,.bool false,.int .i64 n,.string ByteArray.empty,.slice none 0 0,.slice none 0 0])(hF:F b)(R:(Lit.int .i64 n).wf=true):RV w F (Qf2 [Qbs n]) ⟨some ⟨b,0,none⟩,1⟩ Sl.none:=by
 obtain⟨N,D,X,I,J,c5⟩:=U.c6;refine .mk b 0 0 0 (λ_=>(Sl.none,Sl.none)) (λ_=>(Sl.none,Sl.none)) (.some _ _ _ _ (an _) (by decide) hF) (.nil _ _) rfl (λj d z=>?_) (λj d z=>?_) (λj k h=>by simp at h) (λj k h=>by simp at h) (λj k h=>by simp at h) (by decide) (by decide) (by decide) (show 1*88<=140737488355328 by decide) (by decide)
 ·match j,z with
  | 0,z=>
    simp at z;subst z;exact⟨N,D,X,I,J,c5⟩
 match j,z with
 | 0,z=>
   simp at z;subst z;exact RV.flat _ _ _ _ _ _ (by decide) R (by decide)
variable{g:Nat}
theorem QrU(z:Blk w g 70 (Qai xs).toArray)(I:∀x∈xs,RV w (Lt w) x.v x.sl x.so/\x.k.size<=maxLen)(D:xs.length<=1000000):ES w (Lt w) ⟨some ⟨g,0,none⟩,xs.length⟩ xs:=
 ⟨(fH (cs:=Qai xs) (n:=xs.length) (size:=7) z (al D (by decide)) (Qcy xs)).mono λi hi=>by subst hi;exact z.lt,I,by omega⟩
theorem QgW{Z:Int}{k N:ByteArray}{i:Int}{D:Bool}{z:Val}{J:Bool}{v:Val}{R X U Y:Sl}(h1:RV w F z R X)(h2:RV w F v U Y)(bk:k.size<=maxLen)(bt:N.size<=maxLen)(I:(Lit.int .i64 Z).wf=true)(bi:(Lit.int .i64 i).wf=true) :
  RMu w F (.mk Z k N i D z J v []) ⟨R,X,U,Y,Sl.none⟩:=
 .mk 0 0 (λ_=>default) h1 h2 (.nil _ _) (λj m h=>by simp at h) (λj m h=>by simp at h) bk bt I bi (by simp)
variable{B:Nat}
theorem Qtx{l:List (Mu × MuS)}(N:Blk w B 31 (l.flatMap λp=>QaE p.1 p.2).toArray)(X:∀p∈l,RMu w (Lt w) p.1 p.2)(U:l.length<=1000)(R:Qdr (l.map Prod.fst)<=1099000) :
  Qsd w (Lt w) ⟨some ⟨B,0,none⟩,l.length⟩ (l.map Prod.fst):=by
 have I:∀(l:List (Mu × MuS)) (j:Nat) (p:Mu × MuS),l[j]? = some p->∀i u,(QaE p.1 p.2)[i]? = some u->(l.flatMap λp=>QaE p.1 p.2)[j*19+i]? = some u:=by
  intro l
  induction l with
  |nil=>intro j p h;simp at h
  | cons a r ih=>
    intro j p h i u hu;have hi:i<19:=(ah.1 hu).1;rw[bc];cases j with
    | zero=>
      have:a=p:=by simpa using h
      subst this;rw[cN,aA,bp (by rw[QgS];exact hi)];exact hu
    | succ j=>
      rw[aU (by rw[QgS];omega),QgS,show(j+1)*19+i-19=j*19+i by omega];exact ih j p (by simpa using h) i u hu
 refine⟨⟨B,0,λj=>((l[j]?).getD default).2,?_,λj m z=>?_,λj m z=>?_⟩,R,by rw[ao];omega⟩
 ·rw [ao]
  exact .some _ _ _ _ (an _) (al U (by decide)) N.lt
 ·rw [aq] at z
  cases D:l[j]? with
  |none=>rw[D]at z;cases z
  | some p=>
    rw[D]at z;injection z with z;subst z;intro i u hu;rw[aA,N.cell];have J:(QaE p.1 p.2)[i]? = some u:=by
     have h:=hu;dsimp only at h;rw[D]at h;exact h
    rw[List.getElem?_toArray];exact I l j p D i u J
 rw[aq]at z;cases D:l[j]? with
 |none=>rw[D]at z;cases z
 | some p=>
   rw[D]at z;injection z with z;subst z;dsimp only;rw[D];exact X p (am D)
section
variable{P : Program}{c : Code}{Q : Exit -> Act -> World -> Prop}{a : Act}{w : World}
def Qf1(tm:Array Value):List (Nat × Value)->Array Value
 |[]=>tm
 |(i,v)::l=>Qf1 (tm.setIfInBounds i v) l
def QtK(R:Act->World->Prop):Exit->Act->World->Prop
 |.normal,a,w=>R a w
 |_,_,_=>False
theorem QiH{R:Act->World->Prop}(h:R a w):QtK R .normal a w:=h
theorem QiQ(I:World->Nat->Value->Prop)(J:List Nat)(z:Nat->Value->List (Nat × Value))
  (h1:c.wp P (QtK λD w'=>∃b u,I w' b u/\D.defers=a.defers/\D.tmps=Qf1 a.tmps ((J.map λd=>(d,D.tmps.getD d undef))++z b u)) a w)
  (h2:∀(w':World) (b:Nat) (u:Value) (N:Nat->Value),I w' b u->Q .normal { tmps:=Qf1 a.tmps ((J.map λd=>(d,N d))++z b u),defers:=a.defers } w'):c.wp P Q a w:=
 wp_mono h1 λe D w' h=>by
  cases e with
  | normal=>
    obtain⟨b,u,U,hd,R⟩:=h;have:=h2 w' b u (λd=>D.tmps.getD d undef) U;rw[<-R,<-hd]at this;exact this
  |_=>exact h.elim
end
theorem Qcb{X W:World}{c:Array Value}{t:TypeId}(h:X.alloc (.cells c t)=W):Ext X W/\Blk W X.heap.size t c/\X.heap.size<W.heap.size:=by
 rw[<-h];exact⟨(fv X).alloc _ _,fA X _ _,by rw[ey];omega⟩
variable{w0:World}
theorem QkX(h:Nw w0 w){b o:Nat}(z:w0<=b)(v:Value):Nw w0 (w.setCell ⟨b,o,none⟩ v):=
 h.comp ((fD (λi=>i=b) w).set (p:=⟨b,o,none⟩) (.inr rfl) v) λi hi e=>by omega
theorem Qts(h:IsT w F T){b o:Nat}(z:¬F b)(hF:∀b,F b->b<w)(v:Value):IsT (w.setCell ⟨b,o,none⟩ v) F T:=
 h.agree λi hi=>((fD (λi=>i=b) w).set (p:=⟨b,o,none⟩) (.inr rfl) v).block i (hF i hi) λe=>z (e▸hi)
def Qsa(E:List Ent)(n:Nat)(w':World)(b:Nat):Prop:=∃T p,Qay T=.pointer p/\OkR T/\Qab T=E/\IsT w' (λi=>n<=i/\i<w'.heap.size/\i≠b) T/\Blk w' b 41 #[.pointer p]/\n<=b
variable{n:Nat}{E:List Ent}
theorem Qlv{p:Option Addr}{b:Nat}{z:Value}(R:Qay T=.pointer p)(ok:OkR T)(I:Qab T=E)(N:IsT w F T)(J:Blk w b 41 #[z])(D:n<=b)(hF:∀i,F i->n<=i/\i<w/\i≠b) :
  Qsa E n (w.setCell ⟨b,0,none⟩ (.pointer p)) b:=
 ⟨T,p,R,ok,I,(Qts N (λh=>(hF b h).2.2 rfl) (λi hi=>(hF i hi).2.1) _).mono λi hi=>⟨(hF i hi).1,ab (hF i hi).2.1 ((fD (λi=>i=b) w).set (p:=⟨b,0,none⟩) (.inr rfl) (.pointer p)).size,(hF i hi).2.2⟩,J.Qdz 0 (.pointer p),D⟩
abbrev QrF(a b c:ByteArray)(u v x:Val)(sl:Sl):List LE:=[⟨a,u,Sl.none,Sl.none⟩,⟨b,v,sl,Sl.none⟩,⟨c,x,Sl.none,Sl.none⟩]
variable{sl:Sl}
theorem Ql9{a:ByteArray}{v:List Val}{n:Int}(J:a.size<=maxLen)(I:RV w (Lt w) (Qf2 v) sl Sl.none)(D:(Lit.int .i64 n).wf=true):∀x∈QrF a kL1 kX1 (Qbs 5) (Qf2 v) (Qbs n) sl,RV w (Lt w) x.v x.sl x.so/\x.k.size<=maxLen:=λx z=>by
 simp only[List.mem_cons,List.not_mem_nil,or_false]at z;rcases z with rfl|rfl|rfl
 .exact ⟨Qgl _ _ (by decide),J⟩
 .exact ⟨I,(by decide:kL1.size<=maxLen)⟩
 exact⟨Qgl _ _ D,(by decide:kX1.size<=maxLen)⟩
theorem Qsj(J:Blk w g 70 (Qai (QrF kAi kL1 kX1 (Qbs 5) (Qf2 []) (Qbs 1) Sl.none)).toArray) :
  Calls prog 13 #[.slice (some ⟨g,0,none⟩) 3 3] w λe w'=>∃T p,e=.returned (.agg #[.pointer p])/\Qay T=.pointer p/\OkR T/\Qab T=QaY kAi [] 1/\IsT w' (In w.heap.size w'.heap.size) T/\Ext w w':=by
 have es:=QrU J (Ql9 (by decide) (QsY _ _) (by decide)) (by decide);refine(Qi8 es (by decide)).mono ?_;rintro e w' ⟨T,rfl,z,N,I⟩;obtain⟨p,D⟩:=Qaq T;refine⟨T,p,by rw[Qau,D],D,z.both.1,?_,N,I⟩;rw[z.both.2];show QaJ [] (QaY kAi [] 1)=_;simp[QaJ,Qbq,QsC,QsD,QsE]
abbrev zS:MuS:=⟨Sl.none,Sl.none,Sl.none,Sl.none,Sl.none⟩
theorem QrZ(w:World)(F:Nat->Prop){k:ByteArray}{n:Int}(z:k.size<=maxLen)(D:(Lit.int .i64 n).wf=true):RMu w F (Qhr k n) zS:=QgW (Qcj _ _) (Qcj _ _) z (by decide) (by decide) D
theorem Qtz(w:World)(F:Nat->Prop){k:ByteArray}(z:k.size<=maxLen):RMu w F (QqG k) zS:=QgW (Qcj _ _) (Qcj _ _) z (by decide) (by decide) (by decide)
theorem Qty(w:World)(F:Nat->Prop){k:ByteArray}{n:Int}(z:k.size<=maxLen)(D:(Lit.int .i64 n).wf=true):RMu w F (Qoc k (Qbs n)) zS:=QgW (Qgl _ _ D) (Qcj _ _) z (by decide) (by decide) (by decide)
theorem Qtw(w:World)(F:Nat->Prop){k:ByteArray}{n:Int}(z:k.size<=maxLen)(D:(Lit.int .i64 n).wf=true):RMu w F (Qkx k (Qbs n)) zS:=QgW (Qcj _ _) (Qgl _ _ D) z (by decide) (by decide) (by decide)
theorem Qpl(w:World)(F:Nat->Prop){f t:ByteArray}(D:f.size<=maxLen)(z:t.size<=maxLen):RMu w F (Qch f t) zS:=QgW (Qcj _ _) (Qcj _ _) D z (by decide) (by decide)
abbrev Qr0:List (Mu × MuS):=[(Qhr kX1 2,zS),(Qkx kL1 (Qbs 7),zS),(Qch kAs kBs,zS)]
theorem QoH:foldM [Qhr kX1 2,Qkx kL1 (Qbs 7),Qch kAs kBs] (QaY kAi [] 1)=(0,QaY kB1 [Qbs 7] 3):=by
 unfold foldM;simp only[List.foldl_cons,List.foldl_nil];rw[QsT];dsimp only;rw[QtO];dsimp only;rw[Qut];rfl
theorem QgI(j:Nat):(foldM ([Qhr kX1 2,Qkx kL1 (Qbs 7),Qch kAs kBs].take j) (QaY kAi [] 1)).2.length=3:=by
 match j with
 |0=>rfl
 |1=>simp only[List.take_succ_cons,List.take_zero,foldM,List.foldl_cons,List.foldl_nil,QsT];rfl
 |2=>simp only[List.take_succ_cons,List.take_zero,foldM,List.foldl_cons,List.foldl_nil,QsT,QtO];rfl
 |j+3=>rw[a7 (by simp),QoH];rfl
theorem Qc9(N:Int)(k J:ByteArray)(i:Int)(z:Bool)(D:Val)(I:Bool)(v:Val):QaT (.mk N k J i z D I v [])=1:=by rw[QaT,QaC]
variable{M:List Ent}{c:MuS}
theorem QuZ{p:Option Addr}{m:Mu}(J:Qay T=.pointer p)(ok:OkR T)(Z:Qab T=M)(hT:IsT w F T)(hF:∀b,F b->6<=b/\b<w)(hM:OkM M)(hl:M.length<=5000)(hm:RMu w (Lt w) m c)(N:QcF m<=1100000)(U:Qb9 w) :
  Calls prog 25 #[.agg #[.pointer p],QaG m c] w λe w'=>∃T' D,e=.returned (.tuple #[.agg #[.pointer D],.int .i64 (runM M m).1])/\Qay T'=.pointer D/\OkR T'/\IsT w' (Up F w w') T'/\Qab T'=(runM M m).2/\OkM (runM M m).2/\Nw w w'/\((runM M m).2=M->T'=T):=by
 subst Z;have h:=QnZ hT hF ok hM hm U (λI=>by
  have hs:QaT m<=64:=by unfold QbE at I;split at I<;>omega
  have:=Nat.mul_le_mul hs (show 2*((Qab T).length+QaT m)+1<=10129 by omega);unfold Qcd;omega) (by omega) N
 rw[Qau,J]at h;refine h.mono ?_;rintro e w' ⟨T',rfl,h1,h2,X,h4,Y,R⟩;obtain⟨D,z⟩:=Qaq T';exact⟨T',D,by rw[Qau,z],z,h1,h2,X,h4,Y,R⟩
theorem QsX{p:Option Addr}{m:Mu}(X:Qay T=.pointer p)(ok:OkR T)(N:Qab T=M)(U:IsT w F T)(hF:∀b,F b->6<=b/\b<w)(R:OkM M)(Y:M.length<=100)(hs:QaT m=1)(I:RMu w (Lt w) m zS)(D:QcF m<=1100000)(J:Qb9 w) :
  Calls prog 25 #[.agg #[.pointer p],QaG m zS] w λe w'=>∃T' z,e=.returned (.tuple #[.agg #[.pointer z],.int .i64 (runM M m).1])/\Qay T'=.pointer z/\OkR T'/\IsT w' (Up F w w') T'/\Qab T'=(runM M m).2/\OkM (runM M m).2/\Nw w w'/\((runM M m).2=M->T'=T):=QuZ X ok N U hF R (by omega) I D J
theorem QmO{p:Option Addr}(I:Qay T=.pointer p)(ok:OkR T)(J:Qab T=QaY kAi [] 1)(Z:IsT w F T)(hF:∀b,F b->6<=b/\b<w)(R:Qb9 w)
  (Y:Blk w g 31 (Qr0.flatMap λp=>QaE p.1 p.2).toArray) :
  Calls prog 35 #[.agg #[.pointer p],.slice (some ⟨g,0,none⟩) 3 3] w λe w'=>∃T' D,e=.returned (.tuple #[.agg #[.pointer D],.int .i64 0])/\Qay T'=.pointer D/\OkR T'/\IsT w' (Up F w w') T'/\Qab T'=QaY kB1 [Qbs 7] 3/\Nw w w':=by
 have hr:=Qtx Y (λp I=>by
  simp only[List.mem_cons,List.not_mem_nil,or_false]at I;rcases I with rfl|rfl|rfl
  .exact QrZ _ _ (by decide) (by decide)
  .exact Qtw _ _ (by decide) (by decide)
  exact Qpl _ _ (by decide) (by decide)) (by decide) (by decide +kernel)
 have h:=Qqs (s:=⟨some ⟨g,0,none⟩,3⟩) (l:=[Qhr kX1 2,Qkx kL1 (Qbs 7),Qch kAs kBs]) Z hF ok (by rw[J];exact QtI) hr R (λj m N _=>by
  rw[J,QgI];have hs:QaT m=1:=by
   have:=am N;simp only[List.mem_cons,List.not_mem_nil,or_false]at this;rcases this with rfl|rfl|rfl<;>exact Qc9 _ _ _ _ _ _ _ _
  unfold Qcd;rw[hs,QgI];decide) (λj=>by rw[J,QgI];decide) (by decide +kernel)
 rw[Qau,I,J,QoH]at h;refine h.mono ?_;rintro e w' ⟨T',rfl,h1,h2,U,h4,X,h6⟩;obtain⟨D,z⟩:=Qaq T';exact⟨T',D,by rw[Qau,z];rfl,z,h1,h2,U,X⟩
theorem QsF(hL:Qb9 w):Calls prog 10 #[] w λe w'=>e=.returned (.bool true)/\Nw w w':=by
 have k4:=hL.lib.big;have HL:=hY hL;clear hL;go_in;go_wp2_with fail;generalize i5:World.alloc w _=w1;obtain⟨i3,a4,l3⟩:=Qcb i5;have j2:=hY (fx i3);have j1:=hY a4;have k9:w1.heap.size<=w1.drew.heap.size:=an _;have k8:w1.drew.heap.size<=w1.heap.size:=an _;have d3:=hY (show ∀W,Nw w1 W->W.cell? ⟨w.heap.size,0,none⟩=some (.int .i64 5)/\W.cell? ⟨w.heap.size,1,none⟩=some (.bool false)/\W.cell? ⟨w.heap.size,2,none⟩=some (.int .i64 0)/\W.cell? ⟨w.heap.size,3,none⟩=some (.string ByteArray.empty)/\W.cell? ⟨w.heap.size,4,none⟩=some (.slice none 0 0)/\W.cell? ⟨w.heap.size,5,none⟩=some (.slice none 0 0)from
  λW Z=>⟨(Z.blk a4).cell 0,(Z.blk a4).cell 1,(Z.blk a4).cell 2,(Z.blk a4).cell 3,(Z.blk a4).cell 4,(Z.blk a4).cell 5⟩)
 clear i5 i3 a4;refine QiQ (λw' b _=>Qsa (QaY kAi [] 1) w1.heap.size w' b/\Nw w1 w') [12,13,14,15,16,17,18,19] (λb _=>[(2,.pointer (some ⟨b,0,none⟩))]) ?_ ?_
 ·skip
  refine ez (S:=(λw'=>Nw w1 w')) (by kernel_rfl) ((fx ((fv w1).drew))) (λhHeld=>?_);refine Qad 2 (some 14) d3 hHeld ?_;refine Qad 3 (some 15) d3 hHeld ?_;have N:=Tag.mk 0;have X:=Tag.mk 1000
  repeat' (first
   |(have:=(N:Tag 0);have:=(X:Tag 1000);refine QfT 0 8 (λK J D=>?_) (λK J D=>?_))
   |(have:=(N:Tag 0);have:=(X:Tag 1001);refine QcH 0 (λK J D=>?_))
   |(have:=(N:Tag 1);have:=(X:Tag 1000);refine QfT 4 8 (λK J D=>?_) (λK J D=>?_))
   |(have:=(N:Tag 1);have:=(X:Tag 1001);refine QcH 4 (λK J D=>?_))
   |(have:=(N:Tag 2);have:=(X:Tag 1000);refine QfT 6 8 (λK J D=>?_) (λK J D=>?_))
   |(have:=(N:Tag 2);have:=(X:Tag 1001);refine QcH 6 (λK J D=>?_))
   |(have:=(N:Tag 3);have:=(X:Tag 1000);refine QfT 7 8 (λK J D=>?_) (λK J D=>?_))
   |(have:=(N:Tag 3);have:=(X:Tag 1001);refine QcH 7 (λK J D=>?_))
   |(have:=(N:Tag 4);have:=(X:Tag 1000);refine QcH 8 (λK J D=>?_))
   |(have:=(N:Tag 4);have:=(X:Tag 1001);refine QcH 9 (λK J D=>?_))
   | (have:=(J:Tag 0)
      clear this J;clear N;have N:=Tag.mk 1;go_simp
      (refine(QcB _ 5).mono ?_;rintro e wa ⟨rfl,Y⟩;have za:=Y.size;(first|have I:=hY (I.o.ext Y)|have I:=hY (I.o.ext (((fv _).drew).trans Y))|skip))
      refine D.out _ _ (hHeld.trans (fx Y)) (λhHeld=>?_);clear D K
      try simp only[Act.put,List.setIfInBounds_toArray,List.set_cons_zero,List.set_cons_succ]
      refine Qad 1 (some 13) d3 hHeld ?_)
   | (have:=(J:Tag 4)
      clear this J;clear N;have N:=Tag.mk 2;go_simp
      (refine(QcB _ 1).mono ?_;rintro e wb ⟨rfl,c9⟩;have zb:=c9.size;(try(have I:=hY (I.o.ext c9))))
      refine D.out _ _ (hHeld.trans (fx c9)) (λhHeld=>?_);clear D K
      try simp only[Act.put,List.setIfInBounds_toArray,List.set_cons_zero,List.set_cons_succ]
      refine Qad 5 (some 17) d3 hHeld ?_)
   | (have:=(J:Tag 6)
      clear this J;clear N;have N:=Tag.mk 3;go_simp
      (generalize b4:World.alloc _ _=wr;obtain⟨b7,a6,zr⟩:=Qcb b4;have b5:=hY a6;(try(have I:=hY (I.o.ext b7)));clear b4 a6)
      refine D.out _ _ (hHeld.trans (fx b7)) (λhHeld=>?_);clear D K
      try simp only[Act.put,List.setIfInBounds_toArray,List.set_cons_zero,List.set_cons_succ])
   | (have:=(J:Tag 7)
      clear this J;clear N;have N:=Tag.mk 4;go_simp
      (have s7:=hHeld.size;refine(Qsj (by first|exact b5.o|exact b5.o.ext a1)).mono ?_;rintro e wc ⟨T,p,rfl,hp,ok,he,hT,f5⟩;have zc:=f5.size;have HT:=hY hT;(try(have I:=hY (I.o.ext f5);have c6:World.cell? _ ⟨_,0,none⟩=some (.pointer none):=I.o.cell 0;have f6:=I.o.frozen 0));clear hT)
      refine D.out _ _ (hHeld.trans (fx f5)) (λhHeld=>?_);clear D K
      try simp only[Act.put,List.setIfInBounds_toArray,List.set_cons_zero,List.set_cons_succ])
   | (have:=(J:Tag 8)
      clear this J;clear X;have X:=Tag.mk 1001;go_simp
      (have s8:=hHeld.size;generalize b0:World.alloc _ _=wz;obtain⟨a1,a0,zz⟩:=Qcb b0;have zd:wz.heap.size<=wz.drew.heap.size:=an _;have I:=hY a0;have c6:World.cell? _ ⟨_,0,none⟩=some (.pointer none):=a0.cell 0;have f6:=a0.frozen 0;(try(have HT:=hY (HT.o.agree (a1.agree λb hb=>hb.2))));clear b0 a0)
      refine D.out _ _ ((by first|exact hHeld.trans (fx a1)|exact(fx a1).trans (fx ((fv wz).drew)))) (λhHeld=>?_);clear D K
      try simp only[Act.put,List.setIfInBounds_toArray,List.set_cons_zero,List.set_cons_succ])
   | (have:=(J:Tag 9)
      clear this J;clear N;have N:=Tag.mk 5;go_simp
      (have HN:=hY hHeld)
      refine D.out _ _ (QkX hHeld (by omega) _) (λhHeld=>?_);clear D K
      try simp only[Act.put,List.setIfInBounds_toArray,List.set_cons_zero,List.set_cons_succ])
   | (have:=(N:Tag 5);have:=(X:Tag 1001);refine eE (by kernel_rfl) ?_ _
      simp only[Qf1,List.map_cons,List.map_nil,List.cons_append,List.nil_append,List.setIfInBounds_toArray,List.set_cons_zero,List.set_cons_succ];refine QiH ⟨_,.bool true,⟨Qlv hp ok he HT.o I.o (by omega) (λi hi=>⟨by have:=hi.1;omega,by have:=hi.2;omega,by have:=hi.1;have:=hi.2;omega⟩),hHeld⟩,by kernel_rfl,?_⟩;simp only[Qf1,List.map_cons,List.map_nil,List.cons_append,List.nil_append,List.setIfInBounds_toArray,List.set_cons_zero,List.set_cons_succ]
      kernel_rfl))
 intro w2 b2 u2 vs g5;simp only[Qf1,List.map_cons,List.map_nil,List.cons_append,List.nil_append,List.setIfInBounds_toArray,List.set_cons_zero,List.set_cons_succ];obtain⟨⟨T1,p1,f9,f7,g0,g4,e6,l5⟩,d8⟩:=g5;have z2:=d8.size;have c2:∀W,Nw w2 W->W.cell? ⟨b2,0,none⟩=some (.pointer p1):=λW Z=>(Z.blk e6).cell 0
 have R:=hY c2;have f8:=hY (j2.o.trans d8);have i2:=hY (d8.blk j1.o);have d6:=hY (show ∀W g,Nw w2 W->Blk W g 31 (Qr0.flatMap λp=>QaE p.1 p.2).toArray->Calls prog 35 #[.agg #[.pointer p1],.slice (some ⟨g,0,none⟩) 3 3] W λe w'=>∃T' p',e=.returned (.tuple #[.agg #[.pointer p'],.int .i64 0])/\Qay T'=.pointer p'/\OkR T'/\IsT w' (Up (λi=>w1.heap.size<=i/\i<w2.heap.size/\i≠b2) W w') T'/\Qab T'=QaY kB1 [Qbs 7] 3/\Nw W w' from
  λW g Z hb=>QmO f9 f7 g0 (g4.agree (fB Z λb hb=>hb.2.1)) (λb hb=>⟨by have:=hb.1;omega,ab hb.2.1 Z.size⟩) (HL.o.nw (f8.o.trans Z)) hb)
 have c1:=hY (show ∀W m,Nw w2 W->QaT m=1->RMu W (Lt W.heap.size) m zS->QcF m<=1100000->Calls prog 25 #[.agg #[.pointer p1],QaG m zS] W λe w'=>∃p',e=.returned (.tuple #[.agg #[.pointer p'],.int .i64 (runM (QaY kAi [] 1) m).1])/\Nw W w' from
  λW m Z hs hm ht=>(QsX f9 f7 g0 (g4.agree (fB Z λb hb=>hb.2.1)) (λb hb=>⟨by have:=hb.1;omega,ab hb.2.1 Z.size⟩) QtI (by decide) hs hm ht (HL.o.nw (f8.o.trans Z))).mono λe w' ⟨T',p',h1,h2,h3,h4,h5,h6,h7,h8⟩=>⟨p',h1,h7⟩)
 have k3:w2.heap.size<=w2.drew.heap.size:=an _;have k6:w2.drew.heap.size<=w2.heap.size:=an _;clear f9 f7 g0 g4 e6 d8 c2 j1 j2 d3 HL;go_wp2_with fail;refine QiQ (λw' b _=>Qsa (QaY kB1 [Qbs 7] 3) w1.heap.size w' b/\Nw w2 w') [21,22,23,24,25,26,27,20,28,29] (λb _=>[(3,.pointer (some ⟨b,0,none⟩)),(4,.int .i64 0)]) ?_ ?_
 ·skip
  refine ez (S:=(λw'=>Nw w2 w')) (by kernel_rfl) ((fx ((fv w2).drew))) (λhHeld=>?_);refine Qad 0 (some 21) R hHeld ?_;refine Qad 1 (some 22) R hHeld ?_;refine Qad 4 (some 25) R hHeld ?_;have N:=Tag.mk 0;have X:=Tag.mk 1000
  repeat' (first
   |(have:=(N:Tag 0);have:=(X:Tag 1000);refine QfT 2 10 (λK J D=>?_) (λK J D=>?_))
   |(have:=(N:Tag 0);have:=(X:Tag 1001);refine QcH 2 (λK J D=>?_))
   |(have:=(N:Tag 1);have:=(X:Tag 1000);refine QfT 5 10 (λK J D=>?_) (λK J D=>?_))
   |(have:=(N:Tag 1);have:=(X:Tag 1001);refine QcH 5 (λK J D=>?_))
   |(have:=(N:Tag 2);have:=(X:Tag 1000);refine QfT 6 10 (λK J D=>?_) (λK J D=>?_))
   |(have:=(N:Tag 2);have:=(X:Tag 1001);refine QcH 6 (λK J D=>?_))
   |(have:=(N:Tag 3);have:=(X:Tag 1000);refine QcH 10 (λK J D=>?_))
   |(have:=(N:Tag 3);have:=(X:Tag 1001);refine QcH 11 (λK J D=>?_))
   | (have:=(J:Tag 2)
      clear this J;clear N;have N:=Tag.mk 1;go_simp
      (refine(QcB _ 7).mono ?_;rintro e wa ⟨rfl,Y⟩;have za:=Y.size;(first|have I:=hY (I.o.ext Y)|have I:=hY (I.o.ext (((fv _).drew).trans Y))|skip))
      refine D.out _ _ (hHeld.trans (fx Y)) (λhHeld=>?_);clear D K
      try simp only[Act.put,List.setIfInBounds_toArray,List.set_cons_zero,List.set_cons_succ]
      refine Qad 3 (some 24) R hHeld ?_)
   | (have:=(J:Tag 5)
      clear this J;clear N;have N:=Tag.mk 2;go_simp
      (generalize b4:World.alloc _ _=wr;obtain⟨b7,a6,zr⟩:=Qcb b4;have b5:=hY a6;(try(have I:=hY (I.o.ext b7)));clear b4 a6)
      refine D.out _ _ (hHeld.trans (fx b7)) (λhHeld=>?_);clear D K
      try simp only[Act.put,List.setIfInBounds_toArray,List.set_cons_zero,List.set_cons_succ])
   | (have:=(J:Tag 6)
      clear this J;clear N;have N:=Tag.mk 3;go_simp
      (have s6:=hHeld.size;refine(d6.o _ _ hHeld (by first|exact b5.o|exact b5.o.ext a1)).mono ?_;rintro e wc ⟨T,p,rfl,hp,ok,hT,he,b8⟩;have zc:=b8.size;have HT:=hY hT;(try(have I:=hY (b8.blk I.o);have c6:World.cell? _ ⟨_,0,none⟩=some (.pointer none):=I.o.cell 0;have f6:=I.o.frozen 0));clear hT)
      refine D.out _ _ (hHeld.trans b8) (λhHeld=>?_);clear D K
      try simp only[Act.put,List.setIfInBounds_toArray,List.set_cons_zero,List.set_cons_succ]
      refine Qad 7 (some 20) R hHeld ?_;refine Qad 8 (some 28) R hHeld ?_;refine Qad 9 (some 29) R hHeld ?_)
   | (have:=(J:Tag 10)
      clear this J;clear X;have X:=Tag.mk 1001;go_simp
      (have s8:=hHeld.size;generalize b0:World.alloc _ _=wz;obtain⟨a1,a0,zz⟩:=Qcb b0;have zd:wz.heap.size<=wz.drew.heap.size:=an _;have I:=hY a0;have c6:World.cell? _ ⟨_,0,none⟩=some (.pointer none):=a0.cell 0;have f6:=a0.frozen 0;(try(have HT:=hY (HT.o.agree (a1.agree λb hb=>hb.elim (λh=>by have:=h.2.1;omega) λh=>h.2))));clear b0 a0)
      refine D.out _ _ ((by first|exact hHeld.trans (fx a1)|exact(fx a1).trans (fx ((fv wz).drew)))) (λhHeld=>?_);clear D K
      try simp only[Act.put,List.setIfInBounds_toArray,List.set_cons_zero,List.set_cons_succ])
   | (have:=(J:Tag 11)
      clear this J;clear N;have N:=Tag.mk 4;go_simp
      skip
      refine D.out _ _ (QkX hHeld (by omega) _) (λhHeld=>?_);clear D K
      try simp only[Act.put,List.setIfInBounds_toArray,List.set_cons_zero,List.set_cons_succ]
      refine Qad 12 (some 4) R hHeld ?_)
   | (have:=(N:Tag 4);have:=(X:Tag 1001);refine eE (by kernel_rfl) ?_ _
      simp only[Qf1,List.map_cons,List.map_nil,List.cons_append,List.nil_append,List.setIfInBounds_toArray,List.set_cons_zero,List.set_cons_succ];refine QiH ⟨_,.bool true,⟨Qlv hp ok he HT.o I.o (by omega) (λi hi=>by rcases hi with h|h<;>exact⟨by have:=h.1;omega,by have:=h.2;omega,by have:=h.1;have:=h.2;omega⟩),hHeld⟩,by kernel_rfl,?_⟩;simp only[Qf1,List.map_cons,List.map_nil,List.cons_append,List.nil_append,List.setIfInBounds_toArray,List.set_cons_zero,List.set_cons_succ]
      kernel_rfl))
 intro w3 b3 u3 l0 g5;simp only[Qf1,List.map_cons,List.map_nil,List.cons_append,List.nil_append,List.setIfInBounds_toArray,List.set_cons_zero,List.set_cons_succ];obtain⟨⟨T3,p3,g6,i4,j3,j0,e3,l6⟩,e0⟩:=g5;have z3:=e0.size;have q2:w3.cell? ⟨b2,0,none⟩=some (.pointer p1):=R.o w3 e0;have a5:=hY e0;have f0:=hY e3;have i7:=hY g6;have j7:=hY i4;have g3:=hY j3;have i6:=hY j0;clear g6 i4 j3 j0 e3 e0 d6;go_wp2_with fail;refine(c1.o w3 (QqG kY1) a5.o (Qc9 ..) (Qtz _ _ (by decide)) (by decide +kernel)).mono ?_;rintro e w4 ⟨p4,rfl,j5⟩;rw[Qud];have i9:=hY j5;clear j5 q2;go_wp2_with fail;generalize g8:World.alloc _ _=w5;obtain⟨j8,k0,l7⟩:=Qcb g8;have k5:w5.heap.size<=w5.drew.heap.size:=an _;have k7:w5.drew.heap.size<=w5.heap.size:=an _;have c0:=hY (i9.o.trans (fx j8));have a3:=hY (show ∀W,Nw w5 W->W.cell? ⟨b2,0,none⟩=some (.pointer p1) fromλW Z=>R.o W ((a5.o.trans c0.o).trans Z));have e8:=hY (show ∀W,Nw w5 W->Calls prog 25 #[.agg #[.pointer p1],QaG (Qoc kX1 (Qbs 2)) zS] W λe w'=>∃p',e=.returned (.tuple #[.agg #[.pointer p'],.int .i64 13])/\Nw W w' fromλW Z=>by
  have h:=c1.o W (Qoc kX1 (Qbs 2)) ((a5.o.trans c0.o).trans Z) (Qc9 ..) (Qty _ _ (by decide) (by decide)) (by decide +kernel);rwa[Quc]at h)
 clear g8 j8 k0 i9;refine QiQ (λw' b u=>Nw w5 w'/\Blk w' b 41 #[u]) [37,38,39,40,36,41,42] (λb _=>[(7,.pointer (some ⟨b,0,none⟩)),(8,.int .i64 13)]) ?_ ?_
 ·skip
  refine ez (S:=(λw'=>Nw w5 w')) (by kernel_rfl) ((fx ((fv w5).drew))) (λhHeld=>?_);refine Qad 0 (some 37) a3 hHeld ?_;have N:=Tag.mk 0;have X:=Tag.mk 1000
  repeat' (first
   |(have:=(N:Tag 0);have:=(X:Tag 1000);refine QfT 1 7 (λK J D=>?_) (λK J D=>?_))
   |(have:=(N:Tag 0);have:=(X:Tag 1001);refine QcH 1 (λK J D=>?_))
   |(have:=(N:Tag 1);have:=(X:Tag 1000);refine QfT 3 7 (λK J D=>?_) (λK J D=>?_))
   |(have:=(N:Tag 1);have:=(X:Tag 1001);refine QcH 3 (λK J D=>?_))
   |(have:=(N:Tag 2);have:=(X:Tag 1000);refine QcH 7 (λK J D=>?_))
   |(have:=(N:Tag 2);have:=(X:Tag 1001);refine QcH 8 (λK J D=>?_))
   | (have:=(J:Tag 1)
      clear this J;clear N;have N:=Tag.mk 1;go_simp
      (refine(QcB _ 2).mono ?_;rintro e wa ⟨rfl,Y⟩;have za:=Y.size;(first|have I:=hY (I.o.ext Y)|have I:=hY (I.o.ext (((fv _).drew).trans Y))|skip))
      refine D.out _ _ (hHeld.trans (fx Y)) (λhHeld=>?_);clear D K
      try simp only[Act.put,List.setIfInBounds_toArray,List.set_cons_zero,List.set_cons_succ]
      refine Qad 2 (some 39) a3 hHeld ?_)
   | (have:=(J:Tag 3)
      clear this J;clear N;have N:=Tag.mk 2;go_simp
      (refine(e8.o _ hHeld).mono ?_;rintro e wc ⟨p,rfl,b8⟩;have zc:=b8.size;(try(have I:=hY (b8.blk I.o);have c6:World.cell? _ ⟨_,0,none⟩=some (.pointer none):=I.o.cell 0;have f6:=I.o.frozen 0)))
      refine D.out _ _ (hHeld.trans b8) (λhHeld=>?_);clear D K
      try simp only[Act.put,List.setIfInBounds_toArray,List.set_cons_zero,List.set_cons_succ]
      refine Qad 4 (some 36) a3 hHeld ?_;refine Qad 5 (some 41) a3 hHeld ?_;refine Qad 6 (some 42) a3 hHeld ?_)
   | (have:=(J:Tag 7)
      clear this J;clear X;have X:=Tag.mk 1001;go_simp
      (have s8:=hHeld.size;generalize b0:World.alloc _ _=wz;obtain⟨a1,a0,zz⟩:=Qcb b0;have zd:wz.heap.size<=wz.drew.heap.size:=an _;have I:=hY a0;have c6:World.cell? _ ⟨_,0,none⟩=some (.pointer none):=a0.cell 0;have f6:=a0.frozen 0;clear b0 a0)
      refine D.out _ _ ((by first|exact hHeld.trans (fx a1)|exact(fx a1).trans (fx ((fv wz).drew)))) (λhHeld=>?_);clear D K
      try simp only[Act.put,List.setIfInBounds_toArray,List.set_cons_zero,List.set_cons_succ])
   | (have:=(J:Tag 8)
      clear this J;clear N;have N:=Tag.mk 3;go_simp
      (have l4:=I)
      refine D.out _ _ (QkX hHeld (by omega) _) (λhHeld=>?_);clear D K
      try simp only[Act.put,List.setIfInBounds_toArray,List.set_cons_zero,List.set_cons_succ]
      refine Qad 9 (some 8) a3 hHeld ?_)
   | (have:=(N:Tag 3);have:=(X:Tag 1001);refine eE (by kernel_rfl) ?_ _
      simp only[Qf1,List.map_cons,List.map_nil,List.cons_append,List.nil_append,List.setIfInBounds_toArray,List.set_cons_zero,List.set_cons_succ];refine QiH ⟨_,.pointer p,⟨hHeld,I.o.Qdz 0 (.pointer p)⟩,by kernel_rfl,?_⟩;simp only[Qf1,List.map_cons,List.map_nil,List.cons_append,List.nil_append,List.setIfInBounds_toArray,List.set_cons_zero,List.set_cons_succ]
      kernel_rfl))
 rintro w6 b6 u6 l2 ⟨j9,-⟩;simp only[Qf1,List.map_cons,List.map_nil,List.cons_append,List.nil_append,List.setIfInBounds_toArray,List.set_cons_zero,List.set_cons_succ];have d4:=hY (c0.o.trans j9);have q2:w6.cell? ⟨b2,0,none⟩=some (.pointer p1):=R.o w6 (a5.o.trans d4.o);clear j9 e8 a3 c0;go_wp2_with fail;refine(c1.o w6 (Qhr kL1 1) (a5.o.trans d4.o) (Qc9 ..) (QrZ _ _ (by decide) (by decide)) (by decide +kernel)).mono ?_;rintro e w7 ⟨p7,rfl,j6⟩;rw[Qug];have f1:=hY (d4.o.trans j6);clear j6 q2 c1 R;go_wp2_with fail;generalize i1:World.alloc _ _=w8;obtain⟨i0,-,l1⟩:=Qcb i1;have e7:=hY (f1.o.trans (fx i0));clear i1 i0 f1;refine(QcB _ 7).mono ?_;rintro e w9 ⟨rfl,g9⟩;have d5:=e7.o.trans (fx g9);have a9:=fF (a5.o.trans d5) i2.o;have c4:w9.cell? ⟨w.heap.size,4,none⟩=some (.slice none 0 0):=a9.cell 4;have f4:=a9.frozen 4;have l9:=a9.lt;have e1:=hY a9;have a2:=hY d5;clear a9 d5 g9 e7;go_wp2_with fail;generalize f3:World.alloc (World.setCell _ _ _) _=c7;have d7:=(fv (w9.setCell ⟨w.heap.size,4,none⟩ (.slice (some ⟨w9.heap.size,0,none⟩) 1 1))).alloc #[.int .i64 3,.bool false,.int .i64 7,.string ByteArray.empty,.slice none 0 0,.slice none 0 0] 28;have c3:=fA (w9.setCell ⟨w.heap.size,4,none⟩ (.slice (some ⟨w9.heap.size,0,none⟩) 1 1)) 28 #[.int .i64 3,.bool false,.int .i64 7,.string ByteArray.empty,.slice none 0 0,.slice none 0 0];have e2:=(fD (λi=>i=w.heap.size) w9).set (p:=⟨w.heap.size,4,none⟩) (.inr rfl) (.slice (some ⟨w9.heap.size,0,none⟩) 1 1);have U:=(e1.o.Qdz 4 (.slice (some ⟨w9.heap.size,0,none⟩) 1 1)).ext d7;have c8:=e2.trans (Nw.any (fx d7) _);rw[eA]at c3;rw[f3]at c8 U c3;have i8:=c3;have z9:w2.heap.size<=w9.heap.size:=(a5.o.trans a2.o).size;have g7:=c8.blk (fF a2.o f0.o) (by omega);have e4:=(i6.o.agree (fB a2.o λb hb=>hb.2.1)).agree λb hb=>c8.block b (ab hb.2.1 a2.o.size) (by have:=hb.1;omega)
 have d0:Nw w c7:=((f8.o.trans a5.o).trans a2.o).comp c8 λi hi e=>by omega
 have l8:w9.heap.size<=c7.heap.size:=c8.size;have z:=hY (show ∀W,Nw c7 W->W.cell? ⟨b3,0,none⟩=some (.pointer p3)/\W.cell? ⟨w.heap.size,0,none⟩=some (.int .i64 5)/\W.cell? ⟨w.heap.size,1,none⟩=some (.bool false)/\W.cell? ⟨w.heap.size,2,none⟩=some (.int .i64 0)/\W.cell? ⟨w.heap.size,3,none⟩=some (.string ByteArray.empty)/\W.cell? ⟨w.heap.size,4,none⟩=some (.slice (some ⟨w9.heap.size,0,none⟩) 1 1)/\W.cell? ⟨w.heap.size,5,none⟩=some (.slice none 0 0)from
  λW Z=>⟨(Z.blk g7).cell 0,(Z.blk U).cell 0,(Z.blk U).cell 1,(Z.blk U).cell 2,(Z.blk U).cell 3,(Z.blk U).cell 4,(Z.blk U).cell 5⟩)
 have j4:=hY (show ∀W g,Nw c7 W->Blk W g 70 (Qai (QrF kB1 kL1 kX1 (Qbs 5) (Qf2 [Qbs 7]) (Qbs 3) ⟨some ⟨w9.heap.size,0,none⟩,1⟩)).toArray->Calls prog 22 #[.agg #[.pointer p3],.slice (some ⟨g,0,none⟩) 3 3] W λe w'=>e=.returned (.bool true)/\Ext W w' fromλW g Z hb=>by
  have f2:=Z.blk i8;have es:=QrU hb (Ql9 (by decide) (QsZ f2 f2.lt (by decide)) (by decide)) (show 3<=1000000 by decide);have h:=QoJ (T:=T3) (F:=λi=>w1.heap.size<=i/\i<w3.heap.size/\i≠b3) (λb hb=>by have:=hb.2.1;have:=Z.size;have:=a2.o.size;omega) (e4.agree (fB Z λb hb=>by have:=hb.2.1;have:=a2.o.size;show b<_;omega)) j7.o (by rw[g3.o];decide) es;rw[Qau,i7.o,g3.o]at h;refine h.mono ?_;rintro e w' ⟨rfl,hx⟩;exact⟨by rw[show(QrF kB1 kL1 kX1 (Qbs 5) (Qf2 [Qbs 7]) (Qbs 3) ⟨some ⟨w9.heap.size,0,none⟩,1⟩).map LE.ent=QaY kB1 [Qbs 7] 3 from rfl,Qec],hx⟩)
 have k2:=hY d0;clear f3 d7 c3 c8 e2 U i8 g7 e4 d0 c4 f4 i6 j7 g3 i7 f0 e1 i2;refine ez (S:=(λw'=>Nw c7 w')) (by kernel_rfl) ((fx ((fv c7).drew))) (λhHeld=>?_);refine Qad 0 (some 52) z hHeld ?_;refine Qad 1 (some 53) z hHeld ?_;refine Qad 2 (some 54) z hHeld ?_;refine Qad 3 (some 55) z hHeld ?_;refine Qad 6 (some 58) z hHeld ?_;refine Qad 7 (some 59) z hHeld ?_;refine Qag (i:=4) (by kernel_rfl) rfl (by rfl) (λK D=>?_);go_simp
 (refine(QcB _ 5).mono ?_;rintro e wa ⟨rfl,Y⟩)
 refine D.out _ _ (hHeld.trans (fx Y)) (λhHeld=>?_);clear D K
 try simp only[Act.put,List.setIfInBounds_toArray,List.set_cons_zero,List.set_cons_succ]
 refine Qad 5 (some 57) z hHeld ?_;refine Qag (i:=8) (by kernel_rfl) rfl (by rfl) (λK D=>?_);go_simp
 (refine(QcB _ 3).mono ?_;rintro e wb ⟨rfl,c9⟩)
 refine D.out _ _ (hHeld.trans (fx c9)) (λhHeld=>?_);clear D K
 try simp only[Act.put,List.setIfInBounds_toArray,List.set_cons_zero,List.set_cons_succ]
 refine Qad 9 (some 61) z hHeld ?_;refine Qag (i:=10) (by kernel_rfl) rfl (by rfl) (λK D=>?_);go_simp
 (generalize b4:World.alloc _ _=wr;obtain⟨b7,a6,zr⟩:=Qcb b4;have b5:=hY a6;clear b4 a6)
 refine D.out _ _ (hHeld.trans (fx b7)) (λhHeld=>?_);clear D K
 try simp only[Act.put,List.setIfInBounds_toArray,List.set_cons_zero,List.set_cons_succ]
 refine Qag (i:=11) (by kernel_rfl) rfl (by rfl) (λK D=>?_);go_simp
 (refine(j4.o _ _ hHeld b5.o).mono ?_;rintro e wd ⟨rfl,k1⟩)
 refine D.out _ _ (hHeld.trans (fx k1)) (λhHeld=>?_);clear D K
 try simp only[Act.put,List.setIfInBounds_toArray,List.set_cons_zero,List.set_cons_succ]
 refine Qad 12 (some 64) z hHeld ?_;refine Qad 13 (some 65) z hHeld ?_;refine Qad 14 (some 66) z hHeld ?_;refine Qad 15 (some 67) z hHeld ?_;refine Qad 16 (some 68) z hHeld ?_;refine Qad 17 (some 69) z hHeld ?_;refine Qad 18 (some 70) z hHeld ?_;refine Qad 19 (some 71) z hHeld ?_;refine Qad 20 (some 72) z hHeld ?_;refine Qad 21 (some 73) z hHeld ?_;refine Qad 22 (some 74) z hHeld ?_;refine Qad 23 (some 75) z hHeld ?_;refine Qad 24 (some 76) z hHeld ?_;refine Qad 25 (some 0) z hHeld ?_;refine eE (by kernel_rfl) ?_ _;go_wp2_with fail;go_ret;exact⟨rfl,k2.o.trans hHeld⟩
def Qkr(s:ByteArray)(i:Nat):Nat->Nat->Nat->Option Nat
 |0,_,r=>some r
 |m+1,j,r=>if(s.get! (i+j)).toNat<128\/192<=(s.get! (i+j)).toNat then none else Qkr s i m (j+1) (64*r+(s.get! (i+j)).toNat-128)
def Qtl(n least:Nat)(r:Option Nat):Nat × Nat:=match r with
 |none=>(0,0)
 |some r=>if r<least\/1114111<r\/(55296<=r/\r<57344)then(0,0)else(r,n)
def Qfo(s:ByteArray)(i n base least:Nat):Nat × Nat:=if s.size<i+n then(0,0)else Qtl n least (Qkr s i (n-1) 1 ((s.get! i).toNat-base))
def Qcr(s:ByteArray)(i:Nat):Nat × Nat:=
 if s.size<=i then(0,0)else if(s.get! i).toNat<128 then((s.get! i).toNat,1)
 else if 192<=(s.get! i).toNat/\(s.get! i).toNat<224 then Qfo s i 2 192 128
 else if 224<=(s.get! i).toNat/\(s.get! i).toNat<240 then Qfo s i 3 224 2048
 else if 240<=(s.get! i).toNat/\(s.get! i).toNat<248 then Qfo s i 4 240 65536 else(0,0)
theorem QdF(b:UInt8):b.toNat<256:=b.toNat_lt
theorem QbY:(if((65533,1):Nat × Nat)=(65533,1)then((0,0):Nat × Nat)else(65533,1))=(0,0):=em rfl
theorem QoB{v m:Nat}(h:m≠1):(if((v,m):Nat × Nat)=(65533,1)then((0,0):Nat × Nat)else(v,m))=(v,m):=ef (by intro e;injection e with _ e;exact h e)
theorem QuV(n z b1 b2 D:Nat)(I:192<=z/\z<224)(h1:b1<256):Lib.decodeN n z b1 b2 D=if n<2\/(b1<128\/192<=b1)\/64*(z-192)+b1-128<128 then(65533,1)else(64*(z-192)+b1-128,2):=by
 unfold Lib.decodeN
 repeat' split
 all_goals first |(exfalso;omega) |(rw[Prod.mk.injEq];omega)
theorem QuW(n z b1 b2 D:Nat)(I:224<=z/\z<240)(h1:b1<256)(h2:b2<256):Lib.decodeN n z b1 b2 D=if n<3\/(b1<128\/192<=b1)\/(b2<128\/192<=b2)\/(64*(64*(z-224)+b1-128)+b2-128<2048\/(55296<=64*(64*(z-224)+b1-128)+b2-128/\64*(64*(z-224)+b1-128)+b2-128<57344))then(65533,1)else(64*(64*(z-224)+b1-128)+b2-128,3):=by
 unfold Lib.decodeN
 repeat' split
 all_goals first |(exfalso;omega) |(rw[Prod.mk.injEq];omega)
theorem QuX(n D b1 b2 z:Nat)(J:240<=D/\D<248)(h1:b1<256)(h2:b2<256)(I:z<256):Lib.decodeN n D b1 b2 z=if n<4\/(b1<128\/192<=b1)\/(b2<128\/192<=b2)\/(z<128\/192<=z)\/(64*(64*(64*(D-240)+b1-128)+b2-128)+z-128<65536\/1114111<64*(64*(64*(D-240)+b1-128)+b2-128)+z-128)then(65533,1)else(64*(64*(64*(D-240)+b1-128)+b2-128)+z-128,4):=by
 unfold Lib.decodeN
 repeat' split
 all_goals first |(exfalso;omega) |(rw[Prod.mk.injEq];omega)
theorem QuU(n z b1 b2 D:Nat)(J:128<=z)(h2:¬(192<=z/\z<224))(I:¬(224<=z/\z<240))(N:¬(240<=z/\z<248)):Lib.decodeN n z b1 b2 D=(65533,1):=by
 unfold Lib.decodeN
 repeat' split
 all_goals first |(exfalso;omega) |(rw[Prod.mk.injEq];omega)
theorem QpK(s:ByteArray)(i:Nat):Qcr s i=if s.size<=i\/Utf8.decode s i=(65533,1)then(0,0)else Utf8.decode s i:=by
 unfold Qcr;by_cases hi:s.size<=i
 .rw [em hi,em (.inl hi)]
 rw[ef hi];simp only[hi,false_or];rw[Lib.decode_at];unfold Qfo Qtl;have e1:∀m j r,Qkr s i (m+1) j r=if(s.get! (i+j)).toNat<128\/192<=(s.get! (i+j)).toNat then none else Qkr s i m (j+1) (64*r+(s.get! (i+j)).toNat-128):=λ_ _ _=>rfl
 have e0:∀j r,Qkr s i 0 j r=some r:=λ_ _=>rfl
 have h0:=QdF (s.get! i);have h1:=QdF (s.get! (i+1));have h2:=QdF (s.get! (i+2));have h3:=QdF (s.get! (i+3));simp only[Nat.reduceSub,e1,e0,Nat.reduceAdd];generalize (s.get! i).toNat=D at *;generalize (s.get! (i+1)).toNat=b1 at *;generalize (s.get! (i+2)).toNat=b2 at *;generalize (s.get! (i+3)).toNat=N at *;generalize hn:s.size-i=n;have U:(s.size<i+2)=(n<2):=propext ⟨λh=>by omega,λh=>by omega⟩;have X:(s.size<i+3)=(n<3):=propext ⟨λh=>by omega,λh=>by omega⟩;have R:(s.size<i+4)=(n<4):=propext ⟨λh=>by omega,λh=>by omega⟩;simp only[U,X,R];clear U X R e1 e0 hn hi;by_cases c1:D<128
 .rw [em c1,Lib.decodeN_ascii n D b1 b2 N c1,ef (by intro e;injection e with e;omega)]
 rw[ef c1];by_cases Z:192<=D/\D<224
 ·rw [em Z]
  have hd:=QuV n D b1 b2 N Z h1;by_cases z:n<2
  ·rw [em (.inl z)] at hd
   rw[em z,hd,QbY]
  by_cases I:b1<128\/192<=b1
  ·rw [em (.inr (.inl I))] at hd
   rw[ef z,em I,hd,QbY]
  by_cases J:64*(D-192)+b1-128<128
  ·rw [em (.inr (.inr J))] at hd
   rw[ef z,ef I,hd,QbY];show(if _ then _ else _)=_;rw[em (.inl J)]
  rw[ef (by omega)]at hd;rw[ef z,ef I,hd,QoB (by decide)];show(if _ then _ else _)=_;rw[ef (by omega)]
 rw[ef Z];by_cases c3:224<=D/\D<240
 ·rw [em c3]
  have hd:=QuW n D b1 b2 N c3 h1 h2;by_cases z:n<3
  ·rw [em (.inl z)] at hd
   rw[em z,hd,QbY]
  by_cases I:b1<128\/192<=b1
  ·rw [em (.inr (.inl I))] at hd
   rw[ef z,em I,hd,QbY]
  by_cases J:b2<128\/192<=b2
  ·rw [em (.inr (.inr (.inl J)))] at hd
   rw[ef z,ef I,em J,hd,QbY]
  by_cases q4:64*(64*(D-224)+b1-128)+b2-128<2048\/(55296<=64*(64*(D-224)+b1-128)+b2-128/\64*(64*(D-224)+b1-128)+b2-128<57344)
  ·rw [em (.inr (.inr (.inr q4)))] at hd
   rw[ef z,ef I,ef J,hd,QbY];show(if _ then _ else _)=_;rw[em (by omega)]
  rw[ef (by omega)]at hd;rw[ef z,ef I,ef J,hd,QoB (by decide)];show(if _ then _ else _)=_;rw[ef (by omega)]
 rw[ef c3];by_cases Y:240<=D/\D<248
 ·rw [em Y]
  have hd:=QuX n D b1 b2 N Y h1 h2 h3;by_cases z:n<4
  ·rw [em (.inl z)] at hd
   rw[em z,hd,QbY]
  by_cases I:b1<128\/192<=b1
  ·rw [em (.inr (.inl I))] at hd
   rw[ef z,em I,hd,QbY]
  by_cases J:b2<128\/192<=b2
  ·rw [em (.inr (.inr (.inl J)))] at hd
   rw[ef z,ef I,em J,hd,QbY]
  by_cases q5:N<128\/192<=N
  ·rw [em (.inr (.inr (.inr (.inl q5))))] at hd
   rw[ef z,ef I,ef J,em q5,hd,QbY]
  by_cases q4:64*(64*(64*(D-240)+b1-128)+b2-128)+N-128<65536\/1114111<64*(64*(64*(D-240)+b1-128)+b2-128)+N-128
  ·rw [em (.inr (.inr (.inr (.inr q4))))] at hd
   rw[ef z,ef I,ef J,ef q5,hd,QbY];show(if _ then _ else _)=_;rw[em (by omega)]
  rw[ef (by omega)]at hd;rw[ef z,ef I,ef J,ef q5,hd,QoB (by decide)];show(if _ then _ else _)=_;rw[ef (by omega)]
 rw[ef Y,QuU n D b1 b2 N (by omega) Z c3 Y,QbY]
theorem Qgf(s:ByteArray)(i:Nat)(h:i<s.size):s.get! i=s[i]'h:=by
 cases s with
 |mk d=>exact getElem!_pos d i h
variable{r:Nat}
theorem Qg1(z:j<=4)(h:r<64^j):r<16777216:=ab h (al (Nat.pow_le_pow_right (by decide) z) (by decide))
theorem QiJ{r d j:Nat}(h:r<64^j)(hd:d<192):64*r+d-128<64^(j+1):=by
 rw[Nat.pow_succ];omega
theorem Qg8(s:ByteArray)(i m j r:Nat)(z:0<m):Qkr s i m j r=if(s.get! (i+j)).toNat<128\/192<=(s.get! (i+j)).toNat then none else Qkr s i (m-1) (j+1) (64*r+(s.get! (i+j)).toNat-128):=by
 cases m with
 |zero=>omega
 |succ m=>rfl
theorem Qlp(w:World)(s:ByteArray)(i:Nat)(hs:s.size<=1000000000000):Calls prog 198 #[.string s,.int .i64 (i:Int)] w λe w'=>e=.returned (.tuple #[.int .i64 ((Qcr s i).1:Int),.int .i64 ((Qcr s i).2:Int)])/\w'=w:=by
 by_cases hi:s.size<=i
 ·have g0:decide ((s.size:Int)≤(i:Int))=true:=ej (by omega)
  have Y:=hY (show Qcr s i=(0,0)by unfold Qcr;rw[em hi]);go_in;go_wp2_with fail;go_ret2;exact⟨by rw[Y.o];rfl,rfl⟩
 have g0:decide ((s.size:Int)<=(i:Int))=false:=eh (by omega);have z0:(0:Int)<=(i:Int):=by omega
 have z1:(i:Int)<(s.size:Int):=by omega
 obtain⟨c,a5⟩:∃c,(s.get! i).toNat=c:=⟨_,rfl⟩;have hc:(s[i]'(by omega)).toNat=c:=by rw[<-a5,Qgf s i (by omega)]
 have c3:c<256:=by rw[<-a5];exact QdF _
 have U:=hY a5;clear a5;by_cases h1:c<128
 ·have b5:decide ((c:Int)<128)=true:=ej (by omega)
  have Y:=hY (show Qcr s i=(c,1)by unfold Qcr;rw[ef hi,U.o,em h1]);clear h1;go_in;go_wp2_with fail;go_ret2;exact⟨by rw[Y.o];rfl,rfl⟩
 have b5:decide ((c:Int)<128)=false:=eh (by omega);have hg:¬(s.get! i).toNat<128:=by rw[U.o];exact h1
 by_cases c6:c<192
 ·have a4:¬(192≤(s.get! i).toNat∧(s.get! i).toNat<224):=by rw [U.o];omega
  have a6:¬(224<=(s.get! i).toNat/\(s.get! i).toNat<240):=by rw[U.o];omega
  have b0:¬(240<=(s.get! i).toNat/\(s.get! i).toNat<248):=by rw[U.o];omega
  have b7:decide ((192:Int)<=(c:Int))=false:=eh (by omega);have b3:decide ((224:Int)<=(c:Int))=false:=eh (by omega);have a9:decide ((240:Int)<=(c:Int))=false:=eh (by omega);have Y:=hY (show Qcr s i=(0,0)by unfold Qcr;rw[ef hi,ef hg,ef a4,ef a6,ef b0]);go_in;go_wp2_with fail;go_ret2;exact⟨by rw[Y.o];rfl,rfl⟩
 have b7:decide ((192:Int)<=(c:Int))=true:=ej (by omega);by_cases c4:c<224
 ·have a2:192≤(s.get! i).toNat∧(s.get! i).toNat<224:=by rw [U.o];omega
  have b8:decide ((c:Int)<224)=true:=ej (by omega);go_in;have a0:Qcr s i=Qfo s i 2 192 128:=by
   unfold Qcr;rw[ef hi,ef hg,em a2]
  have Z:=hY a0;clear a0;have w0:IntKind.i64.wrap ((i:Int)+2)=(i:Int)+2:=by rw[ew];omega
  by_cases hn:s.size<i+2
  ·have p0:decide ((s.size:Int)<(i:Int)+2)=true:=ej (by omega)
   have Y:=hY (show Qcr s i=(0,0)by rw[Z.o,Qfo,em hn]);clear hn;go_wp2_with fail;go_ret2;exact⟨by rw[Y.o];rfl,rfl⟩
  have p0:decide ((s.size:Int)<(i:Int)+2)=false:=eh (by omega);obtain⟨X,hX⟩:∃X,Qkr s i 1 1 (c-192)=X:=⟨_,rfl⟩;have Y:=hY (show Qcr s i=Qtl 2 128 X by rw[Z.o,Qfo,ef hn,U.o,hX]);have HX:=hY hX;have w1:IntKind.i64.wrap ((c:Int)-192)=((c-192:Nat):Int):=by rw[ew];omega
  clear hX Z;go_wp2_with fail;go_loopw[8,10] (λrv jv wr=>∃j r:Nat,rv=.int .i64 (r:Int)/\jv=.int .i64 (j:Int)/\1<=j/\j<=2/\Yd (r<64^j/\Qkr s i (2-j) j r=X)/\wr=w) (λ_ jv _=>2 -(intOf jv).toNat)
  case atStart=>exact⟨1,c-192,rfl,rfl,an _,by decide,hY ⟨by omega,HX.o⟩,rfl⟩
  obtain⟨j,r,rfl,rfl,c0,c1,HJ,rfl⟩:=hrel;have hr:=Qg1 (show j<=4 by omega) HJ.o.1;by_cases a3:j<2
  ·have e1:decide ((j:Int)<2)=true:=ej (by omega)
   have v0:IntKind.i64.wrap ((i:Int)+(j:Int))=(i:Int)+(j:Int):=by rw[ew];omega
   have v1:(0:Int)<=(i:Int)+(j:Int):=by omega
   have v2:(i:Int)+(j:Int)<(s.size:Int):=by omega
   have v3:((i:Int)+(j:Int)).toNat=i+j:=by omega
   obtain⟨d,hd⟩:∃d,(s.get! (i+j)).toNat=d:=⟨_,rfl⟩;have c2:(s[i+j]'(by omega)).toNat=d:=by rw[<-hd,Qgf s (i+j) (by omega)]
   have a1:d<256:=by rw[<-hd];exact QdF _
   have z:=Qg8 s i (2-j) j r (by omega);rw[HJ.o.2,hd]at z;have R:=hY z;clear z hd;by_cases D:d<128
   ·have e2:decide ((d:Int)<128)=true:=ej (by omega)
    have N:=hY (show Qcr s i=(0,0)by rw[Y.o,R.o,em (.inl D)];rfl);clear D;go_wp2_with fail;go_ret2;exact⟨by rw[N.o];rfl,rfl⟩
   have e2:decide ((d:Int)<128)=false:=eh (by omega);by_cases I:192<=d
   ·have e3:decide ((192:Int)≤(d:Int))=true:=ej (by omega)
    have N:=hY (show Qcr s i=(0,0)by rw[Y.o,R.o,em (.inr I)];rfl);clear D I;go_wp2_with fail;go_ret2;exact⟨by rw[N.o];rfl,rfl⟩
   have e3:decide ((192:Int)<=(d:Int))=false:=eh (by omega);have u0:IntKind.i64.wrap (64*(r:Int))=64*(r:Int):=by rw[ew];omega
   have u1:IntKind.i64.wrap (64*(r:Int)+(d:Int))=64*(r:Int)+(d:Int):=by rw[ew];omega
   have u2:IntKind.i64.wrap (64*(r:Int)+(d:Int)-128)=((64*r+d-128:Nat):Int):=by rw[ew];omega
   have HN:=hY (show 64*r+d-128<64^(j+1)/\Qkr s i (2 -(j+1)) (j+1) (64*r+d-128)=X from⟨QiJ HJ.o.1 (by omega),by rw[R.o,ef (by omega)];rfl⟩);clear R D I;go_wp2_with fail;go_roundw
   case rel=>exact⟨j+1,64*r+d-128,by rfl,by go_num,by omega,by omega,HN,trivial⟩
   simp[intOf];omega
  obtain rfl:j=2:=by omega
  have N:=hY (show Qcr s i=if r<128\/1114111<r\/(55296<=r/\r<57344)then(0,0)else(r,2)by
   have:X=some r:=by rw[<-HJ.o.2];rfl
   rw[Y.o,this];rfl)
  have e1:decide ((2:Int)<2)=false:=by decide
  clear a3 HJ Y HX;by_cases D:r<128
  ·have e2:decide ((r:Int)<128)=true:=ej (by omega)
   have J:=hY (show Qcr s i=(0,0)by rw[N.o,em (.inl D)]);clear D;go_wp2_with fail;go_ret2;exact⟨by rw[J.o];rfl,rfl⟩
  have e2:decide ((r:Int)<128)=false:=eh (by omega);by_cases I:1114111<r
  ·have e3:decide ((1114111:Int)<(r:Int))=true:=ej (by omega)
   have J:=hY (show Qcr s i=(0,0)by rw[N.o,em (.inr (.inl I))]);clear D I;go_wp2_with fail;go_ret2;exact⟨by rw[J.o];rfl,rfl⟩
  have e3:decide ((1114111:Int)<(r:Int))=false:=eh (by omega);by_cases q3:55296<=r
  ·have e4:decide ((55296:Int)≤(r:Int))=true:=ej (by omega)
   by_cases q4:r<57344
   ·have e5:decide ((r:Int)<57344)=true:=ej (by omega)
    have J:=hY (show Qcr s i=(0,0)by rw[N.o,em (.inr (.inr ⟨q3,q4⟩))]);clear D I q3 q4;go_wp2_with fail;go_ret2;exact⟨by rw[J.o];rfl,rfl⟩
   have e5:decide ((r:Int)<57344)=false:=eh (by omega);have J:=hY (show Qcr s i=(r,2)by rw[N.o,ef (by omega)]);clear D I q3 q4;go_wp2_with fail;go_ret2;exact⟨by rw[J.o];rfl,rfl⟩
  have e4:decide ((55296:Int)<=(r:Int))=false:=eh (by omega);have J:=hY (show Qcr s i=(r,2)by rw[N.o,ef (by omega)]);clear D I q3;go_wp2_with fail;go_ret2;exact⟨by rw[J.o];rfl,rfl⟩
 have a4:¬(192<=(s.get! i).toNat/\(s.get! i).toNat<224):=by rw[U.o];omega
 have b8:decide ((c:Int)<224)=false:=eh (by omega);have b3:decide ((224:Int)<=(c:Int))=true:=ej (by omega);by_cases c7:c<240
 ·have a2:224≤(s.get! i).toNat∧(s.get! i).toNat<240:=by rw [U.o];omega
  have b6:decide ((c:Int)<240)=true:=ej (by omega);go_in;have a0:Qcr s i=Qfo s i 3 224 2048:=by
   unfold Qcr;rw[ef hi,ef hg,ef a4,em a2]
  have Z:=hY a0;clear a0;have w0:IntKind.i64.wrap ((i:Int)+3)=(i:Int)+3:=by rw[ew];omega
  by_cases hn:s.size<i+3
  ·have p0:decide ((s.size:Int)<(i:Int)+3)=true:=ej (by omega)
   have Y:=hY (show Qcr s i=(0,0)by rw[Z.o,Qfo,em hn]);clear hn;go_wp2_with fail;go_ret2;exact⟨by rw[Y.o];rfl,rfl⟩
  have p0:decide ((s.size:Int)<(i:Int)+3)=false:=eh (by omega);obtain⟨X,hX⟩:∃X,Qkr s i 2 1 (c-224)=X:=⟨_,rfl⟩;have Y:=hY (show Qcr s i=Qtl 3 2048 X by rw[Z.o,Qfo,ef hn,U.o,hX]);have HX:=hY hX;have w1:IntKind.i64.wrap ((c:Int)-224)=((c-224:Nat):Int):=by rw[ew];omega
  clear hX Z;go_wp2_with fail;go_loopw[8,10] (λrv jv wr=>∃j r:Nat,rv=.int .i64 (r:Int)/\jv=.int .i64 (j:Int)/\1<=j/\j<=3/\Yd (r<64^j/\Qkr s i (3-j) j r=X)/\wr=w) (λ_ jv _=>3 -(intOf jv).toNat)
  case atStart=>exact⟨1,c-224,rfl,rfl,an _,by decide,hY ⟨by omega,HX.o⟩,rfl⟩
  obtain⟨j,r,rfl,rfl,c0,c1,HJ,rfl⟩:=hrel;have hr:=Qg1 (show j<=4 by omega) HJ.o.1;by_cases a3:j<3
  ·have e1:decide ((j:Int)<3)=true:=ej (by omega)
   have v0:IntKind.i64.wrap ((i:Int)+(j:Int))=(i:Int)+(j:Int):=by rw[ew];omega
   have v1:(0:Int)<=(i:Int)+(j:Int):=by omega
   have v2:(i:Int)+(j:Int)<(s.size:Int):=by omega
   have v3:((i:Int)+(j:Int)).toNat=i+j:=by omega
   obtain⟨d,hd⟩:∃d,(s.get! (i+j)).toNat=d:=⟨_,rfl⟩;have c2:(s[i+j]'(by omega)).toNat=d:=by rw[<-hd,Qgf s (i+j) (by omega)]
   have a1:d<256:=by rw[<-hd];exact QdF _
   have z:=Qg8 s i (3-j) j r (by omega);rw[HJ.o.2,hd]at z;have R:=hY z;clear z hd;by_cases D:d<128
   ·have e2:decide ((d:Int)<128)=true:=ej (by omega)
    have N:=hY (show Qcr s i=(0,0)by rw[Y.o,R.o,em (.inl D)];rfl);clear D;go_wp2_with fail;go_ret2;exact⟨by rw[N.o];rfl,rfl⟩
   have e2:decide ((d:Int)<128)=false:=eh (by omega);by_cases I:192<=d
   ·have e3:decide ((192:Int)≤(d:Int))=true:=ej (by omega)
    have N:=hY (show Qcr s i=(0,0)by rw[Y.o,R.o,em (.inr I)];rfl);clear D I;go_wp2_with fail;go_ret2;exact⟨by rw[N.o];rfl,rfl⟩
   have e3:decide ((192:Int)<=(d:Int))=false:=eh (by omega);have u0:IntKind.i64.wrap (64*(r:Int))=64*(r:Int):=by rw[ew];omega
   have u1:IntKind.i64.wrap (64*(r:Int)+(d:Int))=64*(r:Int)+(d:Int):=by rw[ew];omega
   have u2:IntKind.i64.wrap (64*(r:Int)+(d:Int)-128)=((64*r+d-128:Nat):Int):=by rw[ew];omega
   have HN:=hY (show 64*r+d-128<64^(j+1)/\Qkr s i (3 -(j+1)) (j+1) (64*r+d-128)=X from⟨QiJ HJ.o.1 (by omega),by rw[R.o,ef (by omega)];rfl⟩);clear R D I;go_wp2_with fail;go_roundw
   case rel=>exact⟨j+1,64*r+d-128,by rfl,by go_num,by omega,by omega,HN,trivial⟩
   simp[intOf];omega
  obtain rfl:j=3:=by omega
  have N:=hY (show Qcr s i=if r<2048\/1114111<r\/(55296<=r/\r<57344)then(0,0)else(r,3)by
   have:X=some r:=by rw[<-HJ.o.2];rfl
   rw[Y.o,this];rfl)
  have e1:decide ((3:Int)<3)=false:=by decide
  clear a3 HJ Y HX;by_cases D:r<2048
  ·have e2:decide ((r:Int)<2048)=true:=ej (by omega)
   have J:=hY (show Qcr s i=(0,0)by rw[N.o,em (.inl D)]);clear D;go_wp2_with fail;go_ret2;exact⟨by rw[J.o];rfl,rfl⟩
  have e2:decide ((r:Int)<2048)=false:=eh (by omega);by_cases I:1114111<r
  ·have e3:decide ((1114111:Int)<(r:Int))=true:=ej (by omega)
   have J:=hY (show Qcr s i=(0,0)by rw[N.o,em (.inr (.inl I))]);clear D I;go_wp2_with fail;go_ret2;exact⟨by rw[J.o];rfl,rfl⟩
  have e3:decide ((1114111:Int)<(r:Int))=false:=eh (by omega);by_cases q3:55296<=r
  ·have e4:decide ((55296:Int)≤(r:Int))=true:=ej (by omega)
   by_cases q4:r<57344
   ·have e5:decide ((r:Int)<57344)=true:=ej (by omega)
    have J:=hY (show Qcr s i=(0,0)by rw[N.o,em (.inr (.inr ⟨q3,q4⟩))]);clear D I q3 q4;go_wp2_with fail;go_ret2;exact⟨by rw[J.o];rfl,rfl⟩
   have e5:decide ((r:Int)<57344)=false:=eh (by omega);have J:=hY (show Qcr s i=(r,3)by rw[N.o,ef (by omega)]);clear D I q3 q4;go_wp2_with fail;go_ret2;exact⟨by rw[J.o];rfl,rfl⟩
  have e4:decide ((55296:Int)<=(r:Int))=false:=eh (by omega);have J:=hY (show Qcr s i=(r,3)by rw[N.o,ef (by omega)]);clear D I q3;go_wp2_with fail;go_ret2;exact⟨by rw[J.o];rfl,rfl⟩
 have a6:¬(224<=(s.get! i).toNat/\(s.get! i).toNat<240):=by rw[U.o];omega
 have b6:decide ((c:Int)<240)=false:=eh (by omega);have a9:decide ((240:Int)<=(c:Int))=true:=ej (by omega);by_cases c8:c<248
 ·have a2:240≤(s.get! i).toNat∧(s.get! i).toNat<248:=by rw [U.o];omega
  have b4:decide ((c:Int)<248)=true:=ej (by omega);go_in;have a0:Qcr s i=Qfo s i 4 240 65536:=by
   unfold Qcr;rw[ef hi,ef hg,ef a4,ef a6,em a2]
  have Z:=hY a0;clear a0;have w0:IntKind.i64.wrap ((i:Int)+4)=(i:Int)+4:=by rw[ew];omega
  by_cases hn:s.size<i+4
  ·have p0:decide ((s.size:Int)<(i:Int)+4)=true:=ej (by omega)
   have Y:=hY (show Qcr s i=(0,0)by rw[Z.o,Qfo,em hn]);clear hn;go_wp2_with fail;go_ret2;exact⟨by rw[Y.o];rfl,rfl⟩
  have p0:decide ((s.size:Int)<(i:Int)+4)=false:=eh (by omega);obtain⟨X,hX⟩:∃X,Qkr s i 3 1 (c-240)=X:=⟨_,rfl⟩;have Y:=hY (show Qcr s i=Qtl 4 65536 X by rw[Z.o,Qfo,ef hn,U.o,hX]);have HX:=hY hX;have w1:IntKind.i64.wrap ((c:Int)-240)=((c-240:Nat):Int):=by rw[ew];omega
  clear hX Z;go_wp2_with fail;go_loopw[8,10] (λrv jv wr=>∃j r:Nat,rv=.int .i64 (r:Int)/\jv=.int .i64 (j:Int)/\1<=j/\j<=4/\Yd (r<64^j/\Qkr s i (4-j) j r=X)/\wr=w) (λ_ jv _=>4 -(intOf jv).toNat)
  case atStart=>exact⟨1,c-240,rfl,rfl,an _,by decide,hY ⟨by omega,HX.o⟩,rfl⟩
  obtain⟨j,r,rfl,rfl,c0,c1,HJ,rfl⟩:=hrel;have hr:=Qg1 (show j<=4 by omega) HJ.o.1;by_cases a3:j<4
  ·have e1:decide ((j:Int)<4)=true:=ej (by omega)
   have v0:IntKind.i64.wrap ((i:Int)+(j:Int))=(i:Int)+(j:Int):=by rw[ew];omega
   have v1:(0:Int)<=(i:Int)+(j:Int):=by omega
   have v2:(i:Int)+(j:Int)<(s.size:Int):=by omega
   have v3:((i:Int)+(j:Int)).toNat=i+j:=by omega
   obtain⟨d,hd⟩:∃d,(s.get! (i+j)).toNat=d:=⟨_,rfl⟩;have c2:(s[i+j]'(by omega)).toNat=d:=by rw[<-hd,Qgf s (i+j) (by omega)]
   have a1:d<256:=by rw[<-hd];exact QdF _
   have z:=Qg8 s i (4-j) j r (by omega);rw[HJ.o.2,hd]at z;have R:=hY z;clear z hd;by_cases D:d<128
   ·have e2:decide ((d:Int)<128)=true:=ej (by omega)
    have N:=hY (show Qcr s i=(0,0)by rw[Y.o,R.o,em (.inl D)];rfl);clear D;go_wp2_with fail;go_ret2;exact⟨by rw[N.o];rfl,rfl⟩
   have e2:decide ((d:Int)<128)=false:=eh (by omega);by_cases I:192<=d
   ·have e3:decide ((192:Int)≤(d:Int))=true:=ej (by omega)
    have N:=hY (show Qcr s i=(0,0)by rw[Y.o,R.o,em (.inr I)];rfl);clear D I;go_wp2_with fail;go_ret2;exact⟨by rw[N.o];rfl,rfl⟩
   have e3:decide ((192:Int)<=(d:Int))=false:=eh (by omega);have u0:IntKind.i64.wrap (64*(r:Int))=64*(r:Int):=by rw[ew];omega
   have u1:IntKind.i64.wrap (64*(r:Int)+(d:Int))=64*(r:Int)+(d:Int):=by rw[ew];omega
   have u2:IntKind.i64.wrap (64*(r:Int)+(d:Int)-128)=((64*r+d-128:Nat):Int):=by rw[ew];omega
   have HN:=hY (show 64*r+d-128<64^(j+1)/\Qkr s i (4 -(j+1)) (j+1) (64*r+d-128)=X from⟨QiJ HJ.o.1 (by omega),by rw[R.o,ef (by omega)];rfl⟩);clear R D I;go_wp2_with fail;go_roundw
   case rel=>exact⟨j+1,64*r+d-128,by rfl,by go_num,by omega,by omega,HN,trivial⟩
   simp[intOf];omega
  obtain rfl:j=4:=by omega
  have N:=hY (show Qcr s i=if r<65536\/1114111<r\/(55296<=r/\r<57344)then(0,0)else(r,4)by
   have:X=some r:=by rw[<-HJ.o.2];rfl
   rw[Y.o,this];rfl)
  have e1:decide ((4:Int)<4)=false:=by decide
  clear a3 HJ Y HX;by_cases D:r<65536
  ·have e2:decide ((r:Int)<65536)=true:=ej (by omega)
   have J:=hY (show Qcr s i=(0,0)by rw[N.o,em (.inl D)]);clear D;go_wp2_with fail;go_ret2;exact⟨by rw[J.o];rfl,rfl⟩
  have e2:decide ((r:Int)<65536)=false:=eh (by omega);by_cases I:1114111<r
  ·have e3:decide ((1114111:Int)<(r:Int))=true:=ej (by omega)
   have J:=hY (show Qcr s i=(0,0)by rw[N.o,em (.inr (.inl I))]);clear D I;go_wp2_with fail;go_ret2;exact⟨by rw[J.o];rfl,rfl⟩
  have e3:decide ((1114111:Int)<(r:Int))=false:=eh (by omega);by_cases q3:55296<=r
  ·have e4:decide ((55296:Int)≤(r:Int))=true:=ej (by omega)
   by_cases q4:r<57344
   ·have e5:decide ((r:Int)<57344)=true:=ej (by omega)
    have J:=hY (show Qcr s i=(0,0)by rw[N.o,em (.inr (.inr ⟨q3,q4⟩))]);clear D I q3 q4;go_wp2_with fail;go_ret2;exact⟨by rw[J.o];rfl,rfl⟩
   have e5:decide ((r:Int)<57344)=false:=eh (by omega);have J:=hY (show Qcr s i=(r,4)by rw[N.o,ef (by omega)]);clear D I q3 q4;go_wp2_with fail;go_ret2;exact⟨by rw[J.o];rfl,rfl⟩
  have e4:decide ((55296:Int)<=(r:Int))=false:=eh (by omega);have J:=hY (show Qcr s i=(r,4)by rw[N.o,ef (by omega)]);clear D I q3;go_wp2_with fail;go_ret2;exact⟨by rw[J.o];rfl,rfl⟩
 have b0:¬(240<=(s.get! i).toNat/\(s.get! i).toNat<248):=by rw[U.o];omega
 have b4:decide ((c:Int)<248)=false:=eh (by omega);have Y:=hY (show Qcr s i=(0,0)by unfold Qcr;rw[ef hi,ef hg,ef a4,ef a6,ef b0]);go_in;go_wp2_with fail;go_ret2;exact⟨by rw[Y.o];rfl,rfl⟩
theorem QnL{s:ByteArray}{p f:Nat}(N:p<s.size)(J:s.size<=p+f):Lib.validGoD f (s.data.toList.drop p)=if Utf8.decode s p=(65533,1)then false else Lib.validGoD (f-1) (s.data.toList.drop (p+(Utf8.decode s p).2)):=by
 cases f with
 |zero=>omega
 | succ f=>
   have I:s.data.toList.length=s.size:=by rw[aH];rfl
   have D:s.data.toList.drop p≠[]:=by
    intro e;have:=congrArg List.length e;rw[au,I]at this;simp at this;omega
   rw[Lib.validGoD,ef D,Lib.decodeL_drop,dY];by_cases z:Utf8.decode s p=(65533,1)
   .rw [em z,em (by rw[z];exact⟨rfl,rfl⟩)]
   rw[ef z,ef (λh=>z (ed h.1 h.2))];rfl
theorem QnM{s:ByteArray}{p f:Nat}(D:s.size<=p):Lib.validGoD f (s.data.toList.drop p)=true:=by
 have z:s.data.toList.length=s.size:=by rw[aH];rfl
 rw[bC (by omega)];cases f<;>rfl
theorem Qds(w:World)(s:ByteArray)(hs:s.size<=1000000000000):Calls prog 145 #[.string s] w λe w'=>e=.returned (.bool (Lib.validD s.data.toList))/\w'=w:=by
 obtain⟨V,hV⟩:∃V,Lib.validD s.data.toList=V:=⟨_,rfl⟩;rw[hV];have hl:s.data.toList.length=s.size:=by rw[aH];rfl
 have Y:=λ(p:Nat)=>Qlp w s p hs
 have a0:=hY Y;have HV:=hY hV;have a1:=hY hl;clear Y hV hl;go_in;go_wp2_with fail;go_loopw[3] (λv wr=>∃p f:Nat,v=.int .i64 (p:Int)/\p<=s.size/\Yd (Lib.validGoD f (s.data.toList.drop p)=V/\s.size<=p+f)/\wr=w) (λv _=>s.size -(intOf v).toNat)
 case atStart=>exact⟨0,s.size,rfl,aw _,hY ⟨by rw[dz,<-a1.o];exact HV.o,by omega⟩,rfl⟩
 obtain⟨p,f,rfl,hp,HS,rfl⟩:=hrel;by_cases X:p<s.size
 ·have e1:decide ((p:Int)<(s.size:Int))=true:=ej (by omega)
  have D:=QnL X HS.o.2;rw[HS.o.1]at D;obtain⟨J,N,hr⟩:=Qde X;have I:=QpK s p;go_wp2_with fail;refine(a0.o p).mono ?_;rintro e w2 ⟨rfl,rfl⟩;obtain⟨r,z,hd⟩:∃r z,Utf8.decode s p=(r,z):=⟨_,_,rfl⟩;by_cases U:Utf8.decode s p=(65533,1)
  ·rw [em (.inr U)] at I
   rw[em U]at D;rw[I];have R:=hY D;clear I D U hd J N hr;go_wp2_with fail;go_ret;exact⟨by rw[R.o];rfl,rfl⟩
  rw[ef (λh=>h.elim (λh=>absurd h (by omega)) U)]at I;rw[ef U]at D;rw[I];rw[hd]at D J N ⊢;dsimp only at D J N ⊢;have e2:((z:Int)==0)=false:=eu.2 (by omega);have e3:IntKind.i64.wrap ((p:Int)+(z:Int))=(p:Int)+(z:Int):=by rw[ew];omega
  have R:=hY D.symm;have HF:=HS.o.2;have Z:=hY J;clear I D U hd hr J;go_wp2_with fail;go_roundw
  case rel=>exact⟨p+z,f-1,by go_num,N,hY ⟨R.o,by have:=Z.o;omega⟩,trivial⟩
  have:=Z.o;simp[intOf];omega
 obtain rfl:p=s.size:=by omega
 have e1:decide ((s.size:Int)<(s.size:Int))=false:=eh (by omega);have HE:=hY (show V=true by rw[<-HS.o.1];exact QnM (an _));go_wp2_with fail;go_ret;exact⟨by rw[HE.o];rfl,rfl⟩
theorem Qpd(w:World)(k:ByteArray)(U:k.size<=maxLen):Calls prog 102 #[.string k] w λe w'=>e=.returned (.int .i64 (Qbd k))/\w'=w:=by
 obtain⟨r,z⟩:∃r,Qbd k=r:=⟨_,rfl⟩;rw[z];unfold Qbd at z;by_cases J:k.size=0
 ·rw [em J] at z
  subst z;have R:((k.size:Int)==0)=true:=by rw[J];rfl
  clear J;go_in;go_wp2_with fail;go_ret;exact⟨rfl,rfl⟩
 rw[ef J]at z;have R:((k.size:Int)==0)=false:=eu.2 (by omega);by_cases h1:64<k.size
 ·rw [em h1] at z
  subst z;have N:decide ((64:Int)<(k.size:Int))=true:=ej (by omega);go_in;go_wp2_with fail;go_ret;exact⟨rfl,rfl⟩
 rw[ef h1]at z;have N:decide ((64:Int)<(k.size:Int))=false:=eh (by omega);have I:=hY (Qds w k (by omega));cases D:Lib.validD k.data.toList with
 | true=>
   rw[D,em rfl]at z;rw[D]at I;subst z;go_in;go_wp2_with fail;refine I.o.mono ?_;rintro e w1 ⟨rfl,rfl⟩;go_wp2_with fail;go_ret;exact⟨rfl,rfl⟩
 | false=>
   rw[D,ef (by decide)]at z;rw[D]at I;subst z;go_in;go_wp2_with fail;refine I.o.mono ?_;rintro e w1 ⟨rfl,rfl⟩;go_wp2_with fail;go_ret;exact⟨rfl,rfl⟩
theorem Qqy(w:World)(v:Val)(sl so:Sl):Calls prog 221 #[Qbg v sl so] w λe w'=>e=.returned (.bool (!Qt0 v))/\Ext w w':=by
 obtain⟨k,b,i,t,l,z,J⟩:=v;show Calls _ _ #[.agg #[.int .i64 k,.bool b,.int .i64 i,.string t,.slice sl.a l.length sl.c,.slice so.a z.length so.c]] _ λe w'=>e=.returned (.bool (!QbD k b i t l.length z.length))/\Ext w w'
 by_cases I:z.length=0
 ·have D:((z.length:Int) == 0)=true:=by rw [I];rfl
  go_in;go_wp2_with fail
  all_goals
   go_ret;refine⟨?_,(fv w).alloc _ _⟩;refine congrArg (λx=>Ending.returned (Value.bool x)) ?_;unfold QbD
   first
    |(simp[*];done)
    |(rw[ef (by omega)];simp[*];done)
    |(rw[ef (by omega),show k=1 by omega];simp[*])
 have D:((z.length:Int)==0)=false:=eu.2 (by omega);go_in;go_wp2_with fail
 all_goals
  go_ret;refine⟨?_,(fv w).alloc _ _⟩;refine congrArg (λx=>Ending.returned (Value.bool x)) ?_;unfold QbD
  first
   |(simp[*];done)
   |(rw[ef (by omega)];simp[*];done)
   |(rw[ef (by omega),show k=1 by omega];simp[*])
theorem QnK{t:ByteArray}(h:t.size=0):Lib.validD t.data.toList=true:=by
 have z:t.data.toList.length=t.size:=by rw[aH];rfl
 have:t.data.toList=[]:=ar (by omega);rw[this];rfl
theorem Qpj(k:Int)(b:Bool)(i:Int)(t:ByteArray)(l:List Val)(ok:List ByteArray)(ov:List Val)(q:Nat)(D:ov.length=ok.length):QbN (.mk k b i t l ok ov) q =
  if QbD k b i t l.length ok.length=true then 9 else if 64<q then 5 else if Lib.validD t.data.toList=false then 3 else if Qbz l (q+1)≠0 then Qbz l (q+1)else Qer none ok ov (q+1):=by
 unfold QbN;by_cases J:QbD k b i t l.length ok.length=true
 .rw [em J,em J]
 rw[ef J,ef J];by_cases R:64<q
 .rw [em R,em R]
 rw[ef R,ef R];have z:QbD k b i t l.length ok.length=false:=by simpa using J
 unfold QbD at z;have I:¬(k<1\/6<k):=by
  intro h;rw[em h]at z;cases z
 rw[ef I]at z;simp only[Bool.or_eq_false_iff,Bool.and_eq_false_iff,bne_eq_false_iff_eq]at z;obtain⟨⟨⟨⟨-,-⟩,h4⟩,h5⟩,h6⟩:=z;by_cases X:k=4
 ·subst X
  have hl:l=[]:=ar (h5.resolve_left (by decide));have I:ok=[]:=ar (h6.resolve_left (by decide));subst hl I;have N:ov=[]:=ar D;subst N;rw[em rfl];cases Lib.validD t.data.toList<;>simp[Qbz,Qer]
 rw[ef X];have ht:Lib.validD t.data.toList=true:=QnK (h4.resolve_left X);rw[ht,ef (show ¬(true=false)by decide)];by_cases U:k=5
 ·subst U
  have I:ok=[]:=ar (h6.resolve_left (by decide));subst I;have N:ov=[]:=ar D;subst N;rw[em rfl];by_cases Y:Qbz l (q+1)=0
  .rw [ef (by simp[Y]),Y];rfl
  rw[em Y]
 rw[ef U];have hl:l=[]:=ar (h5.resolve_left U);subst hl;rw[show(if Qbz [] (q+1)≠0 then Qbz [] (q+1)else Qer none ok ov (q+1))=Qer none ok ov (q+1)from ef (by simp[Qbz])];by_cases Z:k=6
 .rw [em Z]
 rw[ef Z];have I:ok=[]:=ar (h6.resolve_left Z);subst I;have N:ov=[]:=ar D;subst N;rfl
def QkT(ok:List ByteArray)(j:Nat):ByteArray:=(prevK ok j).getD ByteArray.empty
theorem QsJ(m:Nat):∀(d:Val),SizeOf.sizeOf d<=m->Qb4 d<=1100000->∀(w:World) (sl so:Sl) (q:Nat),q<=65->RV w (Lt w) d sl so->
  Calls prog 194 #[Qbg d sl so,.int .i64 (q:Int)] w λe w'=>e=.returned (.int .i64 (QbN d q))/\Ext w w':=by
 induction m with
 |zero=>intro d hd;have:=Val.Qb7 d;omega
 |succ m ih=>
 intro d hd d7 w sl so q hq h;have HI:=hY ih;clear ih;obtain⟨k,b,i,t,l,D,ov⟩:=d;have c0:=λW=>Qqy W (.mk k b i t l D ov) sl so
 show Calls _ _ #[.agg #[.int .i64 k,.bool b,.int .i64 i,.string t,.slice sl.a l.length sl.c,.slice so.a D.length so.c],.int .i64 q] _ _;cases h with
 |mk bl fl bo fo cl co hl ho hov el rl ek eo ro bk bi bt nl no=>
 have e3:∀(j:Nat) (d:Val),l[j]? = some d->SizeOf.sizeOf d<=m:=λj d hj=>bq (ab (Val.Qqm hj) hd)
 have e0:∀(j:Nat) (d:Val),ov[j]? = some d->SizeOf.sizeOf d<=m:=λj d hj=>bq (ab (Val.Qqn hj) hd)
 unfold Qb4 at d7;have hu:=λW=>Qds W t (by omega)
 have f4:=hY e3;have e8:=hY e0;have f0:=hY el;have e4:=hY rl;have e6:=hY ek;have f1:=hY eo;have f2:=hY ro;have d8:=hY hov;have HU:=hY hu;have b7:=hY c0;have c1:=hY hl;have c2:=hY ho;have c9:=hY d7;obtain⟨r,hr⟩:∃r,QbN (.mk k b i t l D ov) q=r:=⟨_,rfl⟩;rw[hr];rw[Qpj _ _ _ _ _ _ _ _ hov]at hr;clear e3 e0 el rl ek eo ro hov hd hu c0;go_in;go_wp2_with fail;have e1:=(fv w).alloc #[.int .i64 k,.bool b,.int .i64 i,.string t,.slice sl.a l.length sl.c,.slice so.a D.length so.c] 28;have b6:=fA w 28 #[.int .i64 k,.bool b,.int .i64 i,.string t,.slice sl.a l.length sl.c,.slice so.a D.length so.c];refine(b7.o _).mono ?_;rintro e w1 ⟨rfl,a9⟩;obtain⟨q0,q1,q2,q3,q4,q5⟩:=(b6.ext a9).c6;have lq:=(b6.ext a9).lt;have HX:=hY (e1.trans a9);have HB:=hY (b6.ext a9);clear e1 a9 b6 b7;unfold Qt0;dsimp only[Val.kind,Val.b,Val.i,Val.t,Val.l,Val.ok];by_cases b5:QbD k b i t l.length D.length=true
 ·rw [em b5] at hr
  subst hr;rw[b5];go_wp2_with fail;go_ret;exact⟨rfl,HX.o⟩
 rw[ef b5]at hr;rw[show QbD k b i t l.length D.length=false by simpa using b5];by_cases b8:64<q
 ·rw [em b8] at hr
  subst hr;have g0:decide ((64:Int)<(q:Int))=true:=ej (by omega);go_wp2_with fail;go_ret;exact⟨rfl,HX.o⟩
 rw[ef b8]at hr;have g0:decide ((64:Int)<(q:Int))=false:=eh (by omega);go_wp2_with fail;refine(HU.o _).mono ?_;rintro e w2 ⟨rfl,rfl⟩;cases hv:Lib.validD t.data.toList with
 | false=>
   rw[hv,em rfl]at hr;subst hr;go_wp2_with fail;go_ret;exact⟨rfl,HX.o⟩
 |true=>
 rw[hv,ef (by decide)]at hr;obtain⟨b3,c4⟩:∃x,Qbz l (q+1)=x:=⟨_,rfl⟩;obtain⟨rm,c7⟩:∃x,Qer none D ov (q+1)=x:=⟨_,rfl⟩;rw[c4,c7]at hr;have HR:=hY hr;have d6:=hY c4;have f3:=hY c7;clear hr c4 c7;go_wp2_with fail;go_loopw[5] (λqq wr=>∃j:Nat,qq=.int .i64 j/\j<=l.length/\Yd (Qbz (l.drop j) (q+1)=b3)/\Ext w2 wr) (λqq _=>l.length -(intOf qq).toNat)
 case atStart=>exact⟨0,rfl,aw _,d6,fv _⟩
 obtain⟨j,rfl,hj,HM,Z⟩:=hrel;obtain⟨p0,p1,p2,p3,p4,p5⟩:=(HB.o.ext Z).c6;have lp:=(HB.o.ext Z).lt;by_cases a1:j<l.length
 ·have g1:(j:Int)<(l.length:Int):=by omega
  have f5:decide ((j:Int)<(l.length:Int))=true:=ej g1;obtain⟨d,hd⟩:∃d,l[j]? = some d:=⟨_,ac a1⟩;have U:Ext w wr:=HX.o.trans Z;have Y:Agree (Lt w) w wr:=U.agree λ_ h=>h
  obtain⟨a6,c8,c3⟩:=c1.o.eq (by omega);have R:=c1.o.fits (show 0<l.length by omega);obtain⟨sa,sc⟩:=sl;dsimp only at a6 c8 c3;subst a6;obtain⟨v0,v1,v2,v3,v4,v5⟩:=(f0.o j d hd).agree Y R;have lb:bl<wr:=ab R U.size;have a4:Calls prog 194 #[Qbg d (cl j).1 (cl j).2,.int .i64 ((q:Int)+1)] wr λe w'=>e=.returned (.int .i64 (QbN d (q+1)))/\Ext wr w':=by
   rw[show(q:Int)+1=((q+1:Nat):Int)by omega];exact HI.o d (f4.o j d hd) (by have:=Qid hd;have:=c9.o;omega) wr _ _ (q+1) (by omega) (((e4.o j d hd).agree Y).mono λi hi=>ab hi U.size)
  have z:=Qpf (j:=q+1) hd;rw[HM.o]at z;have g2:IntKind.i64.wrap ((q:Int)+1)=(q:Int)+1:=by rw[ew];omega
  have a2:=hY a4;have I:=hY z;have HN:=hY Z;clear hd U Y a4 z Z;go_wp2_with fail;refine a2.o.mono ?_;rintro e w3 ⟨rfl,d0⟩;have d3:=hY (HN.o.trans d0);have z:=I.o;clear d0 v0 v1 v2 v3 v4 v5 a2 I HN p0 p1 p2 p3 p4 p5;generalize QbN d (q+1)=c at z;by_cases hc:c=0
  ·subst hc
   rw[ef (by simp)]at z;have I:=hY z.symm;clear z;go_wp2_with fail;go_roundw
   case rel=>exact⟨j+1,by go_num,a1,I,d3.o⟩
   simp[intOf];omega
  rw[em hc]at z;subst z;have g3:(b3 != 0)=true:=by simpa using hc
  have HE:=hY (show r=b3 by rw[<-HR.o,em hc]);have J:=hY (HX.o.trans d3.o);clear hc;go_wp2_with fail;go_ret;exact⟨by rw[HE.o];rfl,J.o⟩
 obtain rfl:j=l.length:=by omega
 have g1:decide ((l.length:Int)<(l.length:Int))=false:=eh (by omega);have hz:b3=0:=by rw[<-HM.o,cz,Qbz]
 have HE:=hY (show rm=r by rw[<-HR.o,ef (by simp[hz])]);have HN:=hY Z;clear Z hz HM;go_wp2_with fail;clear p0 p1 p2 p3 p4 p5 lp;go_loopw[7,8] (λlv qq wr=>∃j:Nat,lv=.string (QkT D j)/\qq=.int .i64 j/\j<=D.length/\Yd (Qer (prevK D j) (D.drop j) (ov.drop j) (q+1)=rm)/\Ext w2 wr) (λ_ qq _=>D.length -(intOf qq).toNat)
 case atStart=>exact⟨0,rfl,rfl,aw _,f3,HN.o⟩
 obtain⟨j,rfl,rfl,hj,HM,Z⟩:=hrel;obtain⟨p0,p1,p2,p3,p4,p5⟩:=(HB.o.ext Z).c6;have lp:=(HB.o.ext Z).lt;by_cases a1:j<D.length
 ·have g2:(j:Int)<(D.length:Int):=by omega
  have f6:decide ((j:Int)<(D.length:Int))=true:=ej g2;obtain⟨X,hk⟩:∃X,D[j]? = some X:=⟨_,ac a1⟩;obtain⟨d,hd⟩:∃d,ov[j]? = some d:=⟨_,ac (by rw[d8.o];exact a1)⟩;have U:Ext w wr:=HX.o.trans Z;have Y:Agree (Lt w) w wr:=U.agree λ_ h=>h
  obtain⟨a6,c8,c3⟩:=c2.o.eq (by omega);have R:=c2.o.fits (show 0<D.length by omega);obtain⟨sa,sc⟩:=so;dsimp only at a6 c8 c3;subst a6;obtain⟨v0,v1,v2,v3,v4,v5⟩:=(f1.o j d hd).agree Y R;have lb:bo<wr:=ab R U.size;have kc:wr.cell? ⟨bo,fo+j*7,none⟩=some (.string X):=(Y.cell R).trans (e6.o j X hk).1;have a4:Calls prog 194 #[Qbg d (co j).1 (co j).2,.int .i64 ((q:Int)+1)] wr λe w'=>e=.returned (.int .i64 (QbN d (q+1)))/\Ext wr w':=by
   rw[show(q:Int)+1=((q+1:Nat):Int)by omega];exact HI.o d (e8.o j d hd) (by have:=QdG hd hk;have:=c9.o;omega) wr _ _ (q+1) (by omega) (((f2.o j d hd).agree Y).mono λi hi=>ab hi U.size)
  have e2:=λW=>Qds W X (by have:=QdG hd hk;have:=c9.o;omega)
  have z:=Qpg (p:=prevK D j) (Q:=q+1) hd hk;rw[HM.o]at z;have g3:IntKind.i64.wrap ((q:Int)+1)=(q:Int)+1:=by rw[ew];omega
  have a2:=hY a4;have I:=hY z;have d4:=hY e2;have HN:=hY Z;have b0:=hY hk;clear hd U Y a4 z Z HM e2 hk;go_wp2_with fail;refine(d4.o _).mono ?_;rintro e w9 ⟨rfl,rfl⟩;have z:=I.o;clear I d4;cases hv:Lib.validD X.data.toList with
  | false=>
    rw[hv,em (by decide)]at z;have N:=hY (show r=3 by rw[<-HE.o];exact z);have J:=hY (HX.o.trans HN.o);clear z;go_wp2_with fail;go_ret;exact⟨by rw[N.o];rfl,J.o⟩
  | true=>
    rw[hv,ef (by decide)]at z;by_cases b4:j=0
    ·subst b4
     rw[show prevK D 0=none from rfl,dW,ef (by decide)]at z;have gg:decide ((0:Int)<((0:Nat):Int))=false:=by decide
     have I:=hY z;clear z;go_wp2_with fail;refine a2.o.mono ?_;rintro e w4 ⟨rfl,a5⟩;have a3:=hY (HN.o.trans a5);have z:=I.o;clear a5 a2 I v0 v1 v2 v3 v4 v5 kc p0 p1 p2 p3 p4 p5;generalize QbN d (q+1)=c at z;by_cases hc:c=0
     ·subst hc
      rw[ef (by simp)]at z;have I:=hY (show Qer (prevK D (0+1)) (D.drop (0+1)) (ov.drop (0+1)) (q+1)=rm by rw[show prevK D (0+1)=some X from b0.o];exact z.symm);clear z;go_wp2_with fail;go_roundw
      case rel=>exact⟨0+1,by rw[show QkT D (0+1)=X by unfold QkT;rw[show prevK D (0+1)=some X from b0.o];rfl],by go_num,a1,I,a3.o⟩
      simp[intOf];omega
     rw[em hc]at z;have N:=hY (show r=c by rw[<-HE.o];exact z);have g4:(c != 0)=true:=by simpa using hc
     have J:=hY (HX.o.trans a3.o);clear hc z;go_wp2_with fail;go_ret;exact⟨by rw[N.o];rfl,J.o⟩
    obtain⟨i,rfl⟩:∃i,j=i+1:=⟨j-1,by omega⟩;obtain⟨y,hy⟩:∃y,D[i]? = some y:=⟨_,ac (by omega)⟩;rw[show prevK D (i+1)=some y from hy,dt]at z;rw[show QkT D (i+1)=y by unfold QkT;rw[show prevK D (i+1)=some y from hy];rfl];have gg:decide ((0:Int)<((i+1:Nat):Int))=true:=ej (by omega);have f7:(0:Int)<((i+1:Nat):Int):=by omega
    cases a0:klt y X with
    | false=>
      rw[a0,em (by decide)]at z;have N:=hY (show r=8 by rw[<-HE.o];exact z);have J:=hY (HX.o.trans HN.o);cases d5:klt X y with
      | true=>
        have R:Op.bytesLess X.toList y.toList=true:=d5;clear hy b4 z;go_wp2_with fail;go_ret;exact⟨by rw[N.o];rfl,J.o⟩
      | false=>
        obtain rfl:y=X:=QbR a0 d5;have R:Op.bytesLess y.toList y.toList=false:=a0;have e7:(y.toList==y.toList)=true:=by simp
        clear hy b4 z;go_wp2_with fail;go_ret;exact⟨by rw[N.o];rfl,J.o⟩
    | true=>
      rw[a0,ef (by decide)]at z;have R:Op.bytesLess X.toList y.toList=false:=QrY a0;have e7:(X.toList==y.toList)=false:=Qp5 (λe=>by rw[e,Qah]at a0;cases a0);have I:=hY z;clear z hy b4;go_wp2_with fail;refine a2.o.mono ?_;rintro e w4 ⟨rfl,a5⟩;have a3:=hY (HN.o.trans a5);have z:=I.o;clear a5 a2 I v0 v1 v2 v3 v4 v5 kc p0 p1 p2 p3 p4 p5;generalize QbN d (q+1)=c at z;by_cases hc:c=0
      ·subst hc
       rw[ef (by simp)]at z;have I:=hY (show Qer (prevK D ((i+1)+1)) (D.drop ((i+1)+1)) (ov.drop ((i+1)+1)) (q+1)=rm by rw[show prevK D ((i+1)+1)=some X from b0.o];exact z.symm);clear z;go_wp2_with fail;go_roundw
       case rel=>exact⟨(i+1)+1,by rw[show QkT D ((i+1)+1)=X by unfold QkT;rw[show prevK D ((i+1)+1)=some X from b0.o];rfl],by go_num,a1,I,a3.o⟩
       simp[intOf];omega
      rw[em hc]at z;have N:=hY (show r=c by rw[<-HE.o];exact z);have g4:(c != 0)=true:=by simpa using hc
      have J:=hY (HX.o.trans a3.o);clear hc z;go_wp2_with fail;go_ret;exact⟨by rw[N.o];rfl,J.o⟩
 obtain rfl:j=D.length:=by omega
 have g2:decide ((D.length:Int)<(D.length:Int))=false:=eh (by omega);have hz:rm=0:=by rw[<-HM.o,<-d8.o,cz (l:=ov),Qer]
 have N:=hY (show r=0 by rw[<-HE.o];exact hz);have J:=hY (HX.o.trans Z);clear Z hz;go_wp2_with fail;go_ret;exact⟨by rw[N.o];rfl,J.o⟩
variable{so:Sl}
theorem Qpc{v:Val}(h:RV w (Lt w) v sl so)(U:Qb4 v<=1100000):Calls prog 138 #[Qbg v sl so] w λe w'=>e=.returned (.int .i64 (QbN v 1))/\Ext w w':=by
 have z:=(fv w).alloc #[.int .i64 v.kind,.bool v.b,.int .i64 v.i,.string v.t,.slice sl.a v.l.length sl.c,.slice so.a v.ok.length so.c] 28;have J:=QsJ _ v (an _) U (w.alloc (.cells #[.int .i64 v.kind,.bool v.b,.int .i64 v.i,.string v.t,.slice sl.a v.l.length sl.c,.slice so.a v.ok.length so.c] 28)) sl so 1 (by decide) ((h.agree (z.agree λ_ h=>h)).mono λi hi=>ab hi z.size);have N:=hY J;have D:=hY z;clear J h z;go_in;go_wp2_with fail;refine N.o.mono ?_;rintro e w1 ⟨rfl,I⟩;have R:=hY (D.o.trans I);clear I D N;go_wp2_with fail;go_ret;exact⟨rfl,R.o⟩
theorem Qqi{v d:Val}(h:(QcU v)[j]? = some d):SizeOf.sizeOf d<SizeOf.sizeOf v:=by
 obtain⟨k,b,i,t,l,z,D⟩:=v;unfold QcU at h;dsimp only at h;split at h
 .exact Val.Qqm h
 split at h
 .exact Val.Qqn h
 simp at h
def Qmx(v:Val)(w:World)(e:Ending)(w':World):Prop:=
 ∃(s:Sl) (xs:List WV),e=.returned (.slice s.a xs.length s.c)/\xs.map WV.v=QcU v/\Rd w' (Lt w'.heap.size) 6 s xs.length (QbV xs)/\(∀x∈xs,RV w' (Lt w.heap.size) x.v x.sl x.so)/\Ext w w'
theorem QnO{v:Val}(h:RV w (Lt w) v sl so):Calls prog 195 #[Qbg v sl so] w (Qmx v w):=by
 obtain⟨k,b,i,t,l,D,ov⟩:=v;obtain⟨i0,hi,b8,d7,e0⟩:=eG Tryz.QgL;show Calls _ _ #[.agg #[.int .i64 k,.bool b,.int .i64 i,.string t,.slice sl.a l.length sl.c,.slice so.a D.length so.c]] _ _;cases h with
 |mk bl fl bo fo cl co hl ho hov el rl ek eo ro bk bi bt nl no=>
 have f2:=hY el;have e4:=hY rl;have f3:=hY eo;have g3:=hY ek;have f8:=hY ro;have b0:=hY hov;have d4:=hY hl;have a2:=hY ho;have d8:=hY nl;have b3:=hY no;clear el rl ek eo ro hov hl ho nl no bk bi bt;go_in;by_cases h5:k=5
 ·subst h5
  have X:=(fv w).alloc #[.int .i64 5,.bool b,.int .i64 i,.string t,.slice sl.a l.length sl.c,.slice so.a D.length so.c] 28;have b4:Rd w (Lt w) 6 sl (wl l cl).length (QbV (wl l cl)):=by
   refine QtQ (by rw[Qeu];exact d4.o) λj x hx=>?_
   obtain⟨e1,e2,e3⟩:=QrL hx;rw[e2,e3];exact f2.o j _ e1
  rw[Qeu]at b4;have e7:=hY ((b4.agree (X.agree λ_ h=>h)).mono λi (hi:i<w)=>(show i<w.heap.size+1 by omega));have a6:=hY X;have a9:0+l.length<=maxLen:=by have:=d8.o;unfold maxLen;omega
  have a5:(0+l.length)*88<=140737488355328:=by have:=d8.o;omega
  clear b4 X;go_wp2_with(at_builtin;refine Qac _ rfl (.tmp 8) (.tmp 10) 25 rfl (w.heap.size+1) 28 i0 _ 6 88 underlying25 hi b8 d7 e0 rfl (by decide) Sl.none 0 [] rfl (eI _ _ _ _) (Lt (w.heap.size+1)) sl l.length (QbV (wl l cl)) rfl e7.o (QoG _) a9 a5 (by rw[ey];exact an _) ?_;intro s' w3 z U a3;have R:=(fA w 28 #[.int .i64 5,.bool b,.int .i64 i,.string t,.slice sl.a l.length sl.c,.slice so.a D.length so.c]).agree (U.agree (F:=λb=>b=w.heap.size) (λi hi=>by rw[ey];omega) (λk hk _=>by cases hk)) rfl;obtain⟨q0,q1,q2,q3,q4,q5⟩:=R.c6;have lq:=R.lt;have N:=hY z;have I:=hY U;clear z U a3 R);go_ret;have d3:Ext w w3:=a6.o.wr I.o (λi hi=>by cases hi);have z:=N.o;rw[aA,aJ]at z;refine⟨s',wl l cl,by rw[Qeu];rfl,by rw[QuL];rfl,?_,λx hx=>?_,d3⟩
  ·rw [Qeu]
   exact(fE z).mono λi hi=>hi.2
  obtain⟨j,hj⟩:=bv hx;obtain⟨e1,e2,e3⟩:=QrL hj;rw[e2,e3];exact(e4.o j _ e1).agree (d3.agree λ_ h=>h)
 have g5:(k==5)=false:=by simpa using h5
 by_cases h6:k=6
 ·subst h6
  have X:=(fv w).alloc #[.int .i64 6,.bool b,.int .i64 i,.string t,.slice sl.a l.length sl.c,.slice so.a D.length so.c] 28;have c7:=fA w 28 #[.int .i64 6,.bool b,.int .i64 i,.string t,.slice sl.a l.length sl.c,.slice so.a D.length so.c];have a6:=hY X;have f6:=hY c7;have f5:=hY (OW.nil (w.alloc (.cells #[.int .i64 6,.bool b,.int .i64 i,.string t,.slice sl.a l.length sl.c,.slice so.a D.length so.c] 28)) (w.heap.size+1) w.heap.size);have a1:(w.alloc (.cells #[.int .i64 6,.bool b,.int .i64 i,.string t,.slice sl.a l.length sl.c,.slice so.a D.length so.c] 28)).heap.size=w.heap.size+1:=ey _ _;have d6:=hY a1;clear X c7 a1;go_wp2_with fail;go_loopw[3,4] (λou qq wr=>∃(j:Nat) (s:Sl) (xs:List WV),ou=.slice s.a xs.length s.c/\qq=.int .i64 j/\j<=D.length/\Yd (xs.map WV.v=ov.take j)/\Yd (OW wr (w.heap.size+1) w.heap.size s xs)/\Yd (Blk wr w.heap.size 28 #[.int .i64 6,.bool b,.int .i64 i,.string t,.slice sl.a l.length sl.c,.slice so.a D.length so.c])/\Yd (Ext w wr/\w.heap.size+1<=wr.heap.size)) (λ_ qq _=>D.length -(intOf qq).toNat)
  case atStart=>exact⟨0,Sl.none,[],rfl,rfl,aw _,hY rfl,f5,f6,hY ⟨a6.o,Nat.le_of_eq d6.o.symm⟩⟩
  obtain⟨j,s,xs,rfl,rfl,hj,Z,HO,HB,HX⟩:=hrel;obtain⟨p0,p1,p2,p3,p4,p5⟩:=HB.o.c6;have lp:=HB.o.lt;by_cases c9:j<D.length
  ·have g1:(j:Int)<(D.length:Int):=by omega
   have g4:decide ((j:Int)<(D.length:Int))=true:=ej g1;obtain⟨d,hd⟩:∃d,ov[j]? = some d:=⟨_,ac (by rw[b0.o];exact c9)⟩;have b5:Agree (Lt w) w wr:=HX.o.1.agree λ_ h=>h
   obtain⟨d0,f9,e6⟩:=a2.o.eq (by omega);have a4:=a2.o.fits (show 0<D.length by omega);obtain⟨sa,sc⟩:=so;dsimp only at d0 f9 e6;subst d0;obtain⟨v0,v1,v2,v3,v4,v5⟩:=(f3.o j d hd).agree b5 a4;have lb:bo<wr:=ab a4 HX.o.1.size;have b7:xs.length=j:=by rw[<-ao (f:=WV.v),Z.o,ap,b0.o];omega
   have a0:Ext wr (wr.alloc (.cells #[.int .i64 d.kind,.bool d.b,.int .i64 d.i,.string d.t,.slice (co j).1.a d.l.length (co j).1.c,.slice (co j).2.a d.ok.length (co j).2.c] 28)):=(fv _).alloc _ _;have b6:RV wr (Lt w) d (co j).1 (co j).2:=(f8.o j d hd).agree b5;have g0:=hY (b6.agree (a0.agree λb (hb:b<w)=>ab hb HX.o.1.size));have c8:=hY (HO.o.ext a0 HX.o.1.size);have f0:=hY (fA wr 28 #[.int .i64 d.kind,.bool d.b,.int .i64 d.i,.string d.t,.slice (co j).1.a d.l.length (co j).1.c,.slice (co j).2.a d.ok.length (co j).2.c]);have c0:=hY a0;have HD:=hY hd;have g7:=b3.o;have a9:xs.length+1<=maxLen:=by have:=b3.o;unfold maxLen;omega
   have a5:(xs.length+1)*88<=140737488355328:=by have:=b3.o;omega
   have J:w.heap.size+1<=(wr.alloc (.cells #[.int .i64 d.kind,.bool d.b,.int .i64 d.i,.string d.t,.slice (co j).1.a d.l.length (co j).1.c,.slice (co j).2.a d.ok.length (co j).2.c] 28)).heap.size:=by rw[ey];have:=HX.o.2;omega
   have c1:=(⟨d,(co j).1,(co j).2⟩:WV).one;have g8:=hY b7;clear hd b5 a0 b6 b7 a4;go_wp2_with(at_builtin;refine Qac _ rfl (.tmp 22) (.tmp 29) 25 rfl (w.heap.size+1) 28 i0 _ 6 88 underlying25 hi b8 d7 e0 rfl (by decide) s xs.length (QbV xs) rfl c8.o.own (λb=>b=wr.heap.size) ⟨some ⟨wr,0,none⟩,1⟩ 1 (⟨d,(co j).1,(co j).2⟩:WV).cells rfl (fH f0.o (by decide) rfl) c1 a9 a5 J ?_;intro s' w3 z U a3;have N:=hY z;have I:=hY U;clear z U a3);have Y:∀b,s.row=some b->w+1<=b:=λb hb=>(Qaa HO.o.own hb).1
   have c4:OW w3 (w.heap.size+1) w.heap.size s' (xs++[⟨d,(co j).1,(co j).2⟩]):=OW.append (cH _) J c8.o (λy hy=>by simp only[List.mem_singleton]at hy;subst hy;exact g0.o) (by rw[show QbV [(⟨d,(co j).1,(co j).2⟩:WV)]=(⟨d,(co j).1,(co j).2⟩:WV).cells by simp[QbV]];exact N.o) I.o;have R:Blk w3 w.heap.size 28 #[.int .i64 6,.bool b,.int .i64 i,.string t,.slice sl.a l.length sl.c,.slice (some ⟨bo,fo,none⟩) D.length sc]:=(HB.o.ext c0.o).agree (I.o.agree (F:=λb=>b=w.heap.size) (λi hi=>by rw[ey];omega) (λk hk e=>by have:=Y k hk;omega)) rfl;have c2:Ext w w3:=(HX.o.1.trans c0.o).wr I.o (λi hi=>by have:=Y i hi;omega);have d5:w.heap.size+1<=w3.heap.size:=al J I.o.grown.size;have f7:=hY c4;have e8:=hY R;have f4:=hY (And.intro c2 d5);clear c4 R c2 d5 Y N I;go_roundw
   case rel=>exact⟨j+1,s',xs++[⟨d,(co j).1,(co j).2⟩],by rw[ak];rfl,by go_num,c9,hY (by rw[aL,Z.o,aT,HD.o];rfl),f7,e8,f4⟩
   simp[intOf];omega
  obtain rfl:j=D.length:=by omega
  have g1:decide ((D.length:Int)<(D.length:Int))=false:=eh (by omega);have c3:xs.map WV.v=ov:=by rw[Z.o,<-b0.o,aM]
  have f1:=hY c3;clear c3 Z;go_wp2_with fail;go_ret;refine⟨s,xs,rfl,by rw[f1.o];rfl,(fE HO.o.own).mono λi hi=>hi.2,HO.o.vals,HX.o.1⟩
 have g6:(k==6)=false:=by simpa using h6
 go_wp2_with fail;go_ret;refine⟨Sl.none,[],rfl,?_,Rd.nil _ _ _,λx hx=>by simp at hx,(fv w).alloc _ _⟩;unfold QcU;dsimp only;rw[ef h5,ef h6];rfl
theorem QqD(m:Nat):∀(d:Val),SizeOf.sizeOf d<=m->Qbp d<=1000000->∀(w:World) (sl so:Sl),RV w (Lt w) d sl so->
  Calls prog 139 #[Qbg d sl so] w λe w'=>e=.returned (.int .i64 (Qbp d:Int))/\Ext w w':=by
 induction m with
 |zero=>intro d hd;have:=Val.Qb7 d;omega
 |succ m ih=>
 intro d hd c2 w sl so h;have HI:=hY ih;clear ih;have c0:∀(j:Nat) (x:Val),(QcU d)[j]? = some x->SizeOf.sizeOf x<=m:=λj x hj=>bq (ab (Qqi hj) hd)
 have a2:=hY c0;rw[QkH]at c2 ⊢;have D:=(fv w).alloc #[.int .i64 d.kind,.bool d.b,.int .i64 d.i,.string d.t,.slice sl.a d.l.length sl.c,.slice so.a d.ok.length so.c] 28;have ho:=QnO ((h.agree (D.agree λ_ h=>h)).mono λi (hi:i<w)=>ab hi D.size);have HO:=hY ho;have a4:=hY D;clear ho h D hd c0;go_in;go_wp2_with fail;refine HO.o.mono ?_;rintro e w1 ⟨s,xs,rfl,J,b7,b4,R⟩;obtain⟨b,o,c6,a6⟩:=Ql7 b7;have a0:xs.length=(QcU d).length:=by rw[<-J,ao]
 have c1:∀(j:Nat) (x:WV),xs[j]? = some x->(QcU d)[j]? = some x.v:=λj x hj=>by rw[<-J,aq,hj];rfl
 have HX:=hY (a4.o.trans R);have c9:=hY (λx X=>(b4 x X).mono λi (hi:i<_)=>ab hi R.size);have b3:=hY c1;have c4:=hY c6;have c7:=hY a6;have c3:=hY a0;clear J b7 b4 R c6 a6 a0 c1 HO a4;obtain⟨W,hW⟩:∃W,QcU d=W:=⟨_,rfl⟩;rw[hW]at a2 b3 c3 c2;have HW:=hY hW;clear hW;go_wp2_with fail;go_loopw[3,5] (λdp qq wr=>∃j:Nat,dp=.int .i64 (Qa8 (W.take j):Int)/\qq=.int .i64 j/\j<=xs.length/\Ext w1 wr) (λ_ qq _=>xs.length -(intOf qq).toNat)
 case atStart=>exact⟨0,rfl,rfl,aw _,fv _⟩
 obtain⟨j,rfl,rfl,hj,I⟩:=hrel;by_cases N:j<xs.length
 ·have g1:(j:Int)<(xs.length:Int):=by omega
  have d4:decide ((j:Int)<(xs.length:Int))=true:=ej g1;obtain⟨x,X⟩:∃x,xs[j]? = some x:=⟨_,ac N⟩;have c8:Ext w wr:=HX.o.trans I;have U:Agree (Lt w1) w1 wr:=I.agree λ_ h=>h
  obtain⟨b5,d0,Z⟩:=c4.o.eq (by omega);have a1:=c4.o.fits (show 0<xs.length by omega);obtain⟨sa,sc⟩:=s;dsimp only at b5 d0 Z;subst b5;obtain⟨v0,v1,v2,v3,v4,v5⟩:=(c7.o j x X).agree U a1;have lb:b<wr:=ab a1 I.size;have z:=b3.o j x X;have d5:=Qgb z;have a5:Calls prog 139 #[Qbg x.v x.sl x.so] wr λe w'=>e=.returned (.int .i64 (Qbp x.v:Int))/\Ext wr w':=
   HI.o x.v (a2.o j x.v z) (by omega) wr _ _ (((c9.o x (am X)).agree U).mono λi (hi:i<w1)=>ab hi I.size)
  have b6:=Qd5 z;have d3:Qa8 (W.take j)<=1000000:=by have:=Qoj W j;omega
  have d6:xs.length<=9223372036854775807:=by unfold maxLen at Z;omega
  have b8:=hY a5;have a9:=hY b6;have HN:=hY I;clear X c8 U a5 I b6 z;go_wp2_with fail;refine b8.o.mono ?_;rintro e w3 ⟨rfl,Y⟩;have a3:=hY (HN.o.trans Y);clear Y v0 v1 v2 v3 v4 v5 b8 HN;by_cases b0:Qa8 (W.take j)<Qbp x.v
  ·have g4:decide ((Qa8 (W.take j):Int)<(Qbp x.v:Int))=true:=ej (by omega)
   go_wp2_with fail;go_roundw
   case rel=>exact⟨j+1,by rw[a9.o,Nat.max_eq_right (b9 b0)],by go_num,N,a3.o⟩
   simp[intOf];omega
  have g4:decide ((Qa8 (W.take j):Int)<(Qbp x.v:Int))=false:=eh (by omega);go_wp2_with fail;go_roundw
  case rel=>exact⟨j+1,by rw[a9.o,Nat.max_eq_left (Nat.le_of_not_lt b0)],by go_num,N,a3.o⟩
  simp[intOf];omega
 obtain rfl:j=xs.length:=by omega
 have g1:decide ((xs.length:Int)<(xs.length:Int))=false:=eh (by omega);rw[c3.o,aM];have g2:IntKind.i64.wrap ((Qa8 W:Int)+1)=(Qa8 W:Int)+1:=by rw[ew];omega
 have HZ:=hY (show((1+Qa8 W:Nat):Int)=(Qa8 W:Int)+1 by omega);have HN:=hY (HX.o.trans I);clear I;go_wp2_with fail;go_ret;exact⟨by rw[HW.o,HZ.o];rfl,HN.o⟩
theorem Tryz.QoO:(prog.info? 3).map (λi=>(i.zero,i.size,i.bytes))=some (some (.int .i64 0),1,8):=by kernel_rfl
def Qem(s1 s2:Sl):Prop:=∀b,s1.row=some b->s2.row≠some b
variable{s1 s2:Sl}
theorem Qem.comm(h:Qem s1 s2):Qem s2 s1:=λb z e=>h b e z
variable{s':Sl}{W:World}
theorem Qem.grow{base e size n:Nat}{xs:List Value}(h:Qem s1 s2)(I:w.ownsRow base e size (.slice s2.a n s2.c) n xs)(N:w.heap.size<=W.heap.size)(hs:s'.a=s1.a\/s'.a=some ⟨W,0,none⟩):Qem s' s2:=by
 intro b z D;have J:=(Qaa I D).2;rcases hs with hs|hs
 .exact h b (by unfold Sl.row at z ⊢;rw[<-hs];exact z) D
 have:b=W.heap.size:=by unfold Sl.row at z;rw[hs]at z;simpa using z.symm
 omega
variable{w':World}
theorem QjP{base e size n:Nat}{xs:List Value}(h:Qem s1 s2)(z:w.ownsRow base e size (.slice s2.a n s2.c) n xs)(I:Wr w w' s1.row):w'.ownsRow base e size (.slice s2.a n s2.c) n xs:=
 Qae z (I.agree (F:=λb=>s2.row=some b) (λi hi=>(Qaa z hi).2) (λk D e=>h k D e)) λb J=>J
def Qhc(D:List (Nat × Nat)):List Value:=D.map λx=>.int .i64 (x.2:Int)
def QgY(D:List (Nat × Nat)):List Value:=D.map λx=>.int .i64 (x.1:Int)
def Qn0(s:ByteArray)(w:World)(e:Ending)(w':World):Prop:=
 ∃(s1:Sl) (v2:Value),e=.returned (.tuple #[.slice s1.a (QbA s).length s1.c,v2])/\Rd w' (Lt w'.heap.size) 1 s1 (QbA s).length (Qhc (QbA s))/\Ext w w'
theorem Qk8(w:World)(s:ByteArray)(hs:s.size<=1000000000):Calls prog 222 #[.string s] w (Qn0 s w):=by
 obtain⟨iN,nI,b8,d0,c8⟩:=eG Tryz.QoO;have c6:=λ(W:World) (p:Nat)=>Qlp W s p (by omega)
 have f8:=hY c6;clear c6;go_in;go_wp2_with fail;go_loopw[4,5,6] (λv1 v2 v3 wr=>∃(p f:Nat) (s1 s2:Sl) (D:List (Nat × Nat)),v1=.slice s1.a D.length s1.c/\v2=.slice s2.a D.length s2.c/\v3=.int .i64 (p:Int)/\p<=s.size/\D.length<=p/\Yd (D++Qa9 s f p=QbA s/\s.size<=p+f)/\Yd (wr.ownsRow w.heap.size 3 1 (.slice s1.a D.length s1.c) D.length (Qhc D))/\Yd (wr.ownsRow w.heap.size 3 1 (.slice s2.a D.length s2.c) D.length (QgY D))/\Yd (Qem s1 s2)/\Yd (Ext w wr)) (λ_ _ v _=>s.size -(intOf v).toNat)
 case atStart=>exact⟨0,s.size,Sl.none,Sl.none,[],rfl,rfl,rfl,aw _,aw _,hY ⟨rfl,by omega⟩,hY (eI _ _ _ _),hY (eI _ _ _ _),hY (λb N=>by cases N),hY (fv _)⟩
 obtain⟨p,f,s1,s2,D,rfl,rfl,rfl,hp,g4,HD,R,b0,HA,HX⟩:=hrel;by_cases d4:p<s.size
 ·have e1:decide ((p:Int)<(s.size:Int))=true:=ej (by omega)
  obtain⟨a0,a5,hr⟩:=Qde d4;have U:=QpK s p;go_wp2_with fail;refine(f8.o _ p).mono ?_;rintro e w2 ⟨rfl,f9⟩;obtain rfl:=f9.symm;obtain⟨r,z,hd⟩:∃r z,Utf8.decode s p=(r,z):=⟨_,_,rfl⟩;by_cases N:Utf8.decode s p=(65533,1)
  ·rw [em (.inr N)] at U
   rw[U];have I:=HD.o.1;rw[Qhd N,aY]at I;have HF:=hY I;clear U N hd a0 a5 hr I;go_wp2_with fail;go_ret2;refine⟨s1,_,by rw[<-HF.o];rfl,?_,HX.o⟩;rw[<-HF.o];exact(fE R.o).mono λi hi=>hi.2
  rw[ef (λh=>h.elim (λh=>absurd h (by omega)) N)]at U;rw[U];have J:=Qfu d4 HD.o.2 N;rw[hd]at a0 a5 J ⊢;dsimp only at a0 a5 J ⊢;have I:=HD.o.1;rw[J]at I;have HF:=hY (show(D++[(p,r)])++Qa9 s (f-1) (p+z)=QbA s by rw[aS];exact I);have e2:((z:Int)==0)=false:=eu.2 (by omega);have e3:IntKind.i64.wrap ((p:Int)+(z:Int))=(p:Int)+(z:Int):=by rw[ew];omega
  have f5:=hY HD.o.2;have e8:=hY a0;have a2:Ext wr (wr.alloc (.cells #[.int .i64 (r:Int)] 3)):=(fv _).alloc _ _;have c3:=hY (fA wr 3 #[.int .i64 (r:Int)]);have b6:=Qae R.o (a2.agree λb (h:b<wr)=>h) λb N=>(Qaa R.o N).2
  have c4:=Qae b0.o (a2.agree λb (h:b<wr)=>h) λb N=>(Qaa b0.o N).2
  have d3:=hY b6;have b5:=hY c4;have c9:=hY (HX.o.trans a2);have c2:D.length+1<=maxLen:=by unfold maxLen;omega
  have c0:(D.length+1)*8<=140737488355328:=by omega
  have f7:=HX.o.size;have Y:w.heap.size<=(wr.alloc (.cells #[.int .i64 (r:Int)] 3)).heap.size:=by rw[ey];omega
  clear U N hd hr a0 J I b6 c4 a2;go_upto_region 7 with(at_builtin;refine Qac _ rfl (.tmp 21) (.tmp 23) 251 rfl w.heap.size 3 iN _ 1 8 underlying251 nI b8 d0 c8 rfl (by decide) s1 D.length (Qhc D) rfl d3.o (λb=>b=wr.heap.size) ⟨some ⟨wr,0,none⟩,1⟩ 1 [.int .i64 (r:Int)] rfl (fH c3.o (by decide) rfl) (by simp[Value.oneCell']) c2 c0 Y ?_;intro b3 w6 Z a9 e0;have e4:=hY Z;have a3:=hY a9;have d5:=hY e0;clear Z a9 e0);have f1:=a3.o.grown.size;have c1:Qem b3 s2:=HA.o.grow b5.o (an _) (d5.o.imp id And.left);have b4:=QjP HA.o b5.o a3.o;have e7:Ext w w6:=c9.o.wr a3.o λi hi=>(Qaa R.o hi).1
  have a1:Ext w6 (w6.alloc (.cells #[.int .i64 (p:Int)] 3)):=(fv _).alloc _ _;have g3:=hY (fA w6 3 #[.int .i64 (p:Int)]);have e6:=hY (Qae e4.o (a1.agree λb (h:b<w6)=>h) λb N=>(Qaa e4.o N).2);have c7:=hY (Qae b4 (a1.agree λb (h:b<w6)=>h) λb N=>(Qaa b4 N).2);have f3:=hY (e7.trans a1);have b7:=hY c1;have a4:w.heap.size<=(w6.alloc (.cells #[.int .i64 (p:Int)] 3)).heap.size:=by rw[ey];omega
  clear c1 b4 e7 a1 d3 b5 a3 d5 c3 R b0 c9 HX f7 f1 Y;go_wp2_with(at_builtin;refine Qac _ rfl (.tmp 25) (.tmp 27) 251 rfl w.heap.size 3 iN _ 1 8 underlying251 nI b8 d0 c8 rfl (by decide) s2 D.length (QgY D) rfl c7.o (λb=>b=w6.heap.size) ⟨some ⟨w6,0,none⟩,1⟩ 1 [.int .i64 (p:Int)] rfl (fH g3.o (by decide) rfl) (by simp[Value.oneCell']) c2 c0 a4 ?_;intro d8 w9 X a6 d7;have f2:=hY X;have d6:=hY a6;have f6:=hY d7;clear X a6 d7);go_roundw
  case rel=>
   have g0:Qem d8 b3:=b7.o.comm.grow e6.o (an _) (f6.o.imp id And.left);have f4:=QjP b7.o.comm e6.o d6.o;have f0:Ext w w9:=f3.o.wr d6.o λi hi=>(Qaa c7.o hi).1
   have hz:=e8.o;refine⟨p+z,f-1,b3,d8,D++[(p,r)],by rw[ak];rfl,by rw[ak];rfl,by go_num,a5,?_,hY ⟨HF.o,by have:=f5.o;omega⟩,hY ?_,hY ?_,hY g0.comm,hY f0⟩
   .rw [ak];show D.length+1<=_;omega
   .rw [ak,show Qhc (D++[(p,r)])=Qhc D++[.int .i64 (r:Int)]by simp[Qhc]];exact f4
   rw[ak,show QgY (D++[(p,r)])=QgY D++[.int .i64 (p:Int)]by simp[QgY]];exact f2.o
  have:=e8.o;simp[intOf];omega
 obtain rfl:p=s.size:=by omega
 have e1:decide ((s.size:Int)<(s.size:Int))=false:=eh (by omega);have I:=HD.o.1;rw[QfM (an _),aY]at I;have HF:=hY I;clear I;go_wp2_with fail;go_ret2;refine⟨s1,_,by rw[<-HF.o];rfl,?_,HX.o⟩;rw[<-HF.o];exact(fE R.o).mono λi hi=>hi.2
def QkD:Nat->Nat
 |0=>34
 |1=>92
 |2=>47
 |3=>8
 |4=>12
 |5=>10
 |6=>13
 |_=>9
theorem QmF(w:World)(k:Nat)(D:k<8):Calls prog 223 #[.int .i64 (k:Int)] w λe w'=>e=.returned (.int .i64 (QkD k:Int))/\Ext w w':=by
 have z:k=0\/k=1\/k=2\/k=3\/k=4\/k=5\/k=6\/k=7:=by omega
 clear D;rcases z with rfl|rfl|rfl|rfl|rfl|rfl|rfl|rfl
 all_goals
  go_in;go_wp2_with fail;go_ret;exact⟨rfl,(fv w).alloc _ _⟩
def QlU(r:Nat):Nat:=if r<128 then 1 else if r<2048 then 2 else if r<65536 then 3 else 4
theorem QqY(h:r<=1114111):(Lib.encodeRune (r:Int)).length=QlU r:=by
 unfold Lib.encodeRune QlU;rw[ao];unfold Lib.encodeRuneZ;by_cases h1:r<128
 .rw [em (by omega),em h1];rfl
 rw[ef (by omega),ef h1];by_cases h2:r<2048
 .rw [em (by omega),em h2];rfl
 rw[ef (by omega),ef h2];by_cases z:r<65536
 ·rw [em z]
  by_cases D:((2048:Int)<=(r:Int)/\(r:Int)<55296)\/((57343:Int)<(r:Int)/\(r:Int)<=65535)
  .rw [em D];rfl
  rw[ef D,ef (by omega)];rfl
 rw[ef (by omega),em (by omega),ef z];rfl
theorem QhF(q:List UInt8)(W:World)(b:Nat)(cs:Array Value)(t:TypeId)(z:Blk W b t cs)(h:cs.toList=q.map λx=>Value.int .u8 (x.toNat:Int)):(convert 156 9 (.slice (some ⟨b,0,none⟩) q.length q.length)).run prog W=.ok (.string ⟨q.toArray⟩) W:=
 run_convert_bytes_back (P:=prog) W 156 9 5 ⟨b,0,none⟩ q.length q underlying156 underlying5 underlying9 (λj D=>by
  rw[Qbu,aA,z.cell,<-bR,h,aq,ac D];rfl)
theorem Qr8(h:n<256):((UInt8.ofNat n).toNat:Int)=(n:Int):=by
 rw[UInt8.toNat_ofNat',Nat.mod_eq_of_lt (by omega)]
theorem QgE(xs:List Int)(W:World)(b:Nat)(t:TypeId)(D:Blk W b t (xs.map (Value.int .u8)).toArray)(h:∀x∈xs,0<=x/\x<256):∃q:ByteArray,q.size=xs.length/\(convert 156 9 (.slice (some ⟨b,0,none⟩) xs.length xs.length)).run prog W=.ok (.string q) W:=by
 refine⟨⟨(xs.map λx=>UInt8.ofNat x.toNat).toArray⟩,by simp[ByteArray.size],?_⟩;have:=QhF (xs.map λx=>UInt8.ofNat x.toNat) W b _ t D (by
  rw[cG];show xs.map (Value.int .u8)=_;apply List.map_congr_left;intro x z;have:=h x z;show Value.int .u8 x=Value.int .u8 (((UInt8.ofNat x.toNat).toNat:Nat):Int);rw[Qr8 (by omega)];congr 1;omega)
 rwa[ao]at this
theorem QkA(w:World)(r:Nat)(U:r<=1114111):Calls prog 224 #[.int .i64 (r:Int)] w λe w'=>∃t:ByteArray,e=.returned (.string t)/\t.size=QlU r/\Ext w w':=by
 go_in;by_cases h1:r<128
 ·have N:decide ((r:Int)<128)=true:=ej (by omega)
  have X:IntKind.u8.wrap (r:Int)=(r:Int):=by rw[IntKind.wrap_u8];omega
  have I:(convert 156 9 (.slice (some ⟨w,0,none⟩) 1 1)).run prog (w.alloc (.cells #[.int .u8 (r:Int)] 5))=.ok (.string ⟨#[UInt8.ofNat r]⟩) (w.alloc (.cells #[.int .u8 (r:Int)] 5)):=
   QhF [UInt8.ofNat r] _ _ _ _ (fA w 5 #[.int .u8 (r:Int)]) (by rw[aR,Qr8 (by omega)];rfl)
  have J:=hY (show 1=QlU r by unfold QlU;rw[em h1]);clear h1 U;go_wp2_with fail;go_ret;exact⟨_,rfl,J.o,(fv w).alloc _ _⟩
 have Y:decide ((r:Int)<128)=false:=eh (by omega);by_cases h2:r<2048
 ·have N:decide ((r:Int)<2048)=true:=ej (by omega)
  obtain⟨q,D,I⟩:∃q:ByteArray,q.size=2/\(convert 156 9 (.slice (some ⟨w,0,none⟩) 2 2)).run prog (w.alloc (.cells #[.int .u8 (192+(r:Int)/64),.int .u8 (128+(r:Int)%64)] 5))=.ok (.string q) (w.alloc (.cells #[.int .u8 (192+(r:Int)/64),.int .u8 (128+(r:Int)%64)] 5)):=
   QgE [192+(r:Int)/64,128+(r:Int)%64] _ _ _ (fA w 5 #[.int .u8 (192+(r:Int)/64),.int .u8 (128+(r:Int)%64)]) (by intro x z;simp only[List.mem_cons,List.not_mem_nil,or_false]at z;rcases z with rfl|rfl<;>omega)
  have J:=hY (show q.size=QlU r by unfold QlU;rw[D];rw[ef h1,em h2]);clear D;go_wp2_with fail;go_ret;exact⟨_,rfl,J.o,(fv w).alloc _ _⟩
 have Z:decide ((r:Int)<2048)=false:=eh (by omega);by_cases R:r<65536
 ·have N:decide ((r:Int)<65536)=true:=ej (by omega)
  obtain⟨q,D,I⟩:∃q:ByteArray,q.size=3/\(convert 156 9 (.slice (some ⟨w,0,none⟩) 3 3)).run prog (w.alloc (.cells #[.int .u8 (224+(r:Int)/4096),.int .u8 (128+(r:Int)/64%64),.int .u8 (128+(r:Int)%64)] 5))=.ok (.string q) (w.alloc (.cells #[.int .u8 (224+(r:Int)/4096),.int .u8 (128+(r:Int)/64%64),.int .u8 (128+(r:Int)%64)] 5)):=
   QgE [224+(r:Int)/4096,128+(r:Int)/64%64,128+(r:Int)%64] _ _ _ (fA w 5 #[.int .u8 (224+(r:Int)/4096),.int .u8 (128+(r:Int)/64%64),.int .u8 (128+(r:Int)%64)]) (by intro x z;simp only[List.mem_cons,List.not_mem_nil,or_false]at z;rcases z with rfl|rfl|rfl<;>omega)
  have J:=hY (show q.size=QlU r by unfold QlU;rw[D];rw[ef h1,ef h2,em R]);clear D;go_wp2_with fail;go_ret;exact⟨_,rfl,J.o,(fv w).alloc _ _⟩
 have N:decide ((r:Int)<65536)=false:=eh (by omega);obtain⟨q,D,I⟩:∃q:ByteArray,q.size=4/\(convert 156 9 (.slice (some ⟨w,0,none⟩) 4 4)).run prog (w.alloc (.cells #[.int .u8 (240+(r:Int)/262144),.int .u8 (128+(r:Int)/4096%64),.int .u8 (128+(r:Int)/64%64),.int .u8 (128+(r:Int)%64)] 5))=.ok (.string q) (w.alloc (.cells #[.int .u8 (240+(r:Int)/262144),.int .u8 (128+(r:Int)/4096%64),.int .u8 (128+(r:Int)/64%64),.int .u8 (128+(r:Int)%64)] 5)):=
  QgE [240+(r:Int)/262144,128+(r:Int)/4096%64,128+(r:Int)/64%64,128+(r:Int)%64] _ _ _ (fA w 5 #[.int .u8 (240+(r:Int)/262144),.int .u8 (128+(r:Int)/4096%64),.int .u8 (128+(r:Int)/64%64),.int .u8 (128+(r:Int)%64)]) (by intro x z;simp only[List.mem_cons,List.not_mem_nil,or_false]at z;rcases z with rfl|rfl|rfl|rfl<;>omega)
 have J:=hY (show q.size=QlU r by unfold QlU;rw[D];rw[ef h1,ef h2,ef R]);clear D;go_wp2_with fail;go_ret;exact⟨_,rfl,J.o,(fv w).alloc _ _⟩
theorem QpF{r k:Nat}(D:k<8)(h2:k≠2)(h:QkD k=r):(Qcf r).length=2:=by
 have z:k=0\/k=1\/k=3\/k=4\/k=5\/k=6\/k=7:=by omega
 subst h;rcases z with rfl|rfl|rfl|rfl|rfl|rfl|rfl<;>rfl
theorem Qni(h:∀i,i<8->i=2\/QkD i≠r)(N:r<=1114111):(Qcf r).length=if r<32 then 6 else QlU r:=by
 have R:34≠r:=(h 0 (by decide)).resolve_left (by decide);have h1:92≠r:=(h 1 (by decide)).resolve_left (by decide);have D:8≠r:=(h 3 (by decide)).resolve_left (by decide);have U:12≠r:=(h 4 (by decide)).resolve_left (by decide);have I:10≠r:=(h 5 (by decide)).resolve_left (by decide);have z:13≠r:=(h 6 (by decide)).resolve_left (by decide);have J:9≠r:=(h 7 (by decide)).resolve_left (by decide);unfold Qcf Qb1;by_cases hs:r<32
 ·rw [em hs,ef (by simp;omega)]
  unfold Qbr;rw[ef (Ne.symm R),ef (Ne.symm h1),ef (Ne.symm D),ef (Ne.symm J),ef (Ne.symm I),ef (Ne.symm U),ef (Ne.symm z)];rfl
 rw[ef hs,em (by simp;omega),QqY N]
def QnW(r k:Nat):Prop:=∀i,i<k->i=2\/QkD i≠r
theorem Qg5(w:World)(s:ByteArray)(hs:s.size<=100000000)(hv:Lib.validD s.data.toList=true):Calls prog 197 #[.string s] w λe w'=>∃t:ByteArray,e=.returned (.tuple #[.string t,.int .i64 0])/\t.size=(Qb6 s).length/\Ext w w':=by
 have I:=Qds w s (by omega);rw[hv]at I;have X:=Qk8 w s (by omega);have a0:=hY I;have Z:=hY X;clear I X hv;go_in;go_wp2_with fail;refine a0.o.mono ?_;rintro e w1 ⟨rfl,hw⟩;obtain rfl:=hw.symm;go_wp2_with fail;refine Z.o.mono ?_;rintro e w1 ⟨s1,v2,rfl,c1,c2⟩;have a6:∀x∈QbA s,x.2<=1114111:=λx hx=>(QdV hx).1
 have b8:(QbA s).length<=s.size:=al (QcD s s.size 0) (Nat.sub_le _ _);obtain⟨Q,hQ⟩:∃Q,(Qb6 s).length=Q:=⟨_,rfl⟩;have a5:Q=(Qbf (QbA s)).length+2:=by rw[<-hQ];unfold Qb6;simp
 have HQ:=hY hQ;generalize QbA s=D at a6 b8 a5 c1;obtain⟨b,o,c4,d0,b5⟩:=c1;have c3:=hY c4;have c9:=hY b5;have c8:=hY a6;have d6:=hY c2;have d5:=hY a5;clear hQ a5 a6 c4 d0 b5 c2 a0 Z;go_wp2_with fail;go_loopw[4,8] (λou qq wr=>∃(j:Nat) (t:ByteArray),ou=.string t/\qq=.int .i64 (j:Int)/\j<=D.length/\Yd (t.size=1+(Qbf (D.take j)).length)/\Yd (Ext w1 wr)) (λ_ qq _=>D.length -(intOf qq).toNat)
 case atStart=>exact⟨0,_,rfl,rfl,aw _,hY rfl,hY (fv _)⟩
 obtain⟨j,t,rfl,rfl,hj,HT,N⟩:=hrel;by_cases U:j<D.length
 ·have e1:decide ((j:Int)<(D.length:Int))=true:=ej (by omega)
  have d8:(j:Int)<(D.length:Int):=by omega
  obtain⟨x,hx⟩:∃x,D[j]? = some x:=⟨_,ac U⟩;obtain⟨p,r⟩:=x;have d3:t.size<=1000000000:=by
   have h1:=Qcq (D.take j);rw[HT.o];rw[ap]at h1;omega
  have hr:r<=1114111:=c8.o _ (am hx);obtain⟨b7,d7,c7⟩:=c3.o.eq (by omega);have a2:=c3.o.fits (show 0<D.length by omega);obtain⟨sa,sc⟩:=s1;dsimp only at b7 d7 c7;subst b7;have c0:wr.cell? ⟨b,o+j,none⟩=some (.int .i64 (r:Int)):=(N.o.agree λb (h:Lt w1.heap.size b)=>h).cell a2 |>.trans (c9.o j _ (by unfold Qhc;rw[aq,hx];rfl))
  have lb:b<wr:=ab a2 N.o.size;have a9:=hY hx;clear hx;go_wp2_with fail;have a3:=hY (λ(W:World) (k:Nat) (hk:k<8)=>QmF W k hk);clear c0 lb a2;go_loopw[10] (λkk wr=>∃k:Nat,kk=.int .i64 (k:Int)/\k<=8/\Yd (QnW r k)/\Yd (Ext w1 wr)) (λkk _=>8 -(intOf kk).toNat)
  case atStart=>exact⟨0,rfl,aw _,hY (λi hi=>absurd hi (Nat.not_lt_zero _)),N⟩
  clear N;obtain⟨k,rfl,hk,HM,N⟩:=hrel;by_cases a1:k<8
  ·have f1:decide ((k:Int)<8)=true:=ej (by omega)
   by_cases b3:k=2
   ·subst b3
    have a4:=hY (show QnW r (2+1) fromλi hi=>by by_cases h:i<2;exact HM.o i h;exact .inl (by omega));go_wp2_with fail;go_roundw
    case rel=>exact⟨2+1,by go_num,by decide,a4,N⟩
    simp[intOf]
   have f2:((k:Int)==2)=false:=eu.2 (by omega);go_wp2_with fail;refine(a3.o _ k a1).mono ?_;rintro e w2 ⟨rfl,z⟩;have R:=hY (N.o.trans z);clear z;by_cases hc:QkD k=r
   ·have c6:=hY (QpF a1 b3 hc)
    have f3:((QkD k:Int) !=(r:Int))=false:=by rw[hc];simp
    have s1:¬9223372036854775807<t.size+1:=by omega
    have s2:¬9223372036854775807<t.size+1+(min (k+1) 8-k):=by omega
    clear hc;go_wp2_with fail;go_roundw
    case rel=>
     refine⟨j+1,_,rfl,by go_num,U,hY ?_,R⟩;rw[aT,a9.o,dO,Qb0,ak,c6.o,aK,aK,bQ,HT.o];show _+1+(min (k+1) 8-k)=_;omega
    simp[intOf];omega
   have f3:((QkD k:Int) !=(r:Int))=true:=by simp;omega
   have a4:=hY (show QnW r (k+1) fromλi hi=>by by_cases h:i<k;exact HM.o i h;exact .inr (by rw[show i=k by omega];exact hc));clear hc;go_wp2_with fail;go_roundw
   case rel=>exact⟨k+1,by go_num,a1,a4,R⟩
   simp[intOf];omega
  obtain rfl:k=8:=by omega
  have J:=hY (Qni HM.o hr);by_cases Y:r<32
  ·have f3:decide ((r:Int)<32)=true:=ej (by omega)
   have s1:¬9223372036854775807<t.size+4:=by omega
   go_wp2_with fail;go_quiet (fail);go_wp2_with fail;go_roundw
   case rel=>
    refine⟨j+1,_,rfl,by go_num,U,hY ?_,hY (N.o.trans ((fv wr).drewN _))⟩;rw[aT,a9.o,dO,Qb0,ak,J.o,em Y,aK,aK,aK,bQ,bQ,HT.o];show _+4+(min (r/16+1) 16-r/16)+(min (r%16+1) 16-r%16)=_;omega
   simp[intOf];omega
  have f3:decide ((r:Int)<32)=false:=eh (by omega);have b4:=QkA wr r hr;have e0:QlU r<=4:=by unfold QlU;split;decide;split;decide;split<;>decide
  have b6:=hY b4;clear b4;go_wp2_with fail;refine b6.o.mono ?_;rintro e w2 ⟨q,rfl,hq,z⟩;have s1:¬9223372036854775807<t.size+q.size:=by omega
  have d4:=hY hq;have R:=hY (N.o.trans z);clear z hq b6;go_wp2_with fail;go_roundw
  case rel=>
   refine⟨j+1,_,rfl,by go_num,U,hY ?_,R⟩;rw[aT,a9.o,dO,Qb0,ak,J.o,ef Y,aK,HT.o,d4.o];omega
  simp[intOf];omega
 obtain rfl:j=D.length:=by omega
 have e1:decide ((D.length:Int)<(D.length:Int))=false:=eh (by omega);have d3:t.size<=1000000000:=by
  have h1:=Qcq (D.take D.length);rw[HT.o];rw[ap]at h1;omega
 have s1:¬9223372036854775807<t.size+1:=by omega
 have hT:=HT.o;rw[aM]at hT;have b0:=hY (show t.size+1=(Qb6 s).length by rw[HQ.o,d5.o,hT];omega);clear hT;go_wp2_with fail;go_ret2;exact⟨_,rfl,by rw[aK];exact b0.o,d6.o.trans N.o⟩
def nd(u:Nat):Nat:=if u=0 then 0 else Lib.nDigits u
theorem Qpm{u:Nat}(h:u≠0):nd u=nd (u/10)+1:=by
 unfold nd;rw[ef h];by_cases h1:u<10
 .rw [Lib.nDigits_small h1,em (by omega)]
 rw[Lib.nDigits_big h1,ef (by omega)]
theorem Qjl(w:World)(n:Int)(h0 : -9223372036854775808<=n)(h1:n<=9223372036854775807):Calls prog 196 #[.int .i64 n] w λe w'=>∃t:ByteArray,e=.returned (.string t)/\t.size=(Lib.itoa n).length/\Ext w w':=by
 by_cases hz:n=0
 ·subst hz
  go_in;go_wp2_with fail;go_ret;refine⟨_,rfl,?_,fv _⟩;rw[show Lib.itoa 0=Lib.decDigits 0 from rfl,Lib.decDigits_length,Lib.nDigits_small (by decide)];rfl
 have a2:(n==0)=false:=by simpa using hz
 go_in;go_wp2_with fail;have a0:nd n.natAbs<=20:=by unfold nd;rw[ef (by omega)];exact Lib.nDigits_le20 _ (by omega)
 have N:(Lib.itoa n).length=if n<0 then 1+nd n.natAbs else nd n.natAbs:=by
  rw[show nd n.natAbs=Lib.nDigits n.natAbs by unfold nd;rw[ef (by omega)]];unfold Lib.itoa;by_cases z:n<0
  .rw [em z,em z,av,Lib.decDigits_length];omega
  rw[ef z,ef z,Lib.decDigits_length,show n.toNat=n.natAbs by omega]
 have J:=hY N;clear N;go_loopw[3,4] (λsv Y wr=>∃(t:ByteArray) (m:Int),sv=.string t/\Y=.int .i64 m/\-9223372036854775808<=m/\m<=9223372036854775807/\Yd (t.size+nd m.natAbs=nd n.natAbs)/\Yd (Ext w wr)) (λ_ Y _=>(intOf Y).natAbs)
 case atStart=>exact⟨_,n,rfl,rfl,h0,h1,hY (aA _),hY (fv _)⟩
 obtain⟨t,m,rfl,rfl,a4,a3,U,R⟩:=hrel;have a1:t.size<=20:=by have:=U.o;omega
 by_cases Z:m=0
 ·subst Z
  have D:t.size=nd n.natAbs:=U.o;by_cases z:n<0
  ·have g1:decide (n<0)=true:=ej z
   have s1:¬9223372036854775807<1+t.size:=by omega
   have X:=hY (show 1+t.size=(Lib.itoa n).length by rw[J.o,em z,D]);clear D;go_wp2_with fail;go_ret;exact⟨_,rfl,by rw[aK];exact X.o,R.o⟩
  have g1:decide (n<0)=false:=eh z;have X:=hY (show t.size=(Lib.itoa n).length by rw[J.o,ef z,D]);clear D;go_wp2_with fail;go_ret;exact⟨_,rfl,X.o,R.o⟩
 by_cases z:m<0
 ·obtain ⟨u,rfl⟩:∃ u:Nat,m = -(u:Int):=⟨m.natAbs,by omega⟩
  have g0:(-(u:Int) != 0)=true:=by simpa using Z
  have D:t.size+nd u=nd n.natAbs:=by have:=U.o;rwa[show(-(u:Int)).natAbs=u by omega]at this
  rw[Qpm (by omega)]at D;have I:=hY (show 1+t.size+nd (-((u:Int)/10)).natAbs=nd n.natAbs by rw[show(-((u:Int)/10)).natAbs=u/10 by omega];omega);have s1:¬9223372036854775807<min (u%10+1) 10-u%10+t.size:=by omega
  have s2:¬9223372036854775807<1+t.size:=by omega
  by_cases hq:u%10=0
  ·have g1:((u:Int) % 10)=0:=by omega
   clear D;go_wp2_with fail;go_roundw
   case rel=>
    refine⟨_,_,rfl,rfl,by omega,by omega,hY ?_,R⟩;rw[aK];exact I.o
   simp[intOf];omega
  have g1:decide ((0:Int)<(u:Int)%10)=true:=ej (by omega);clear D;go_wp2_with fail;go_roundw
  case rel=>
   refine⟨_,_,rfl,rfl,by omega,by omega,hY ?_,R⟩;rw[aK,bQ];show min (u%10+1) 10-u%10+t.size+_=_;have:=I.o;omega
  simp[intOf];omega
 obtain⟨u,rfl⟩:∃u:Nat,m=(u:Int):=⟨m.toNat,by omega⟩;have g0:((u:Int) != 0)=true:=by simpa using Z
 have D:t.size+nd u=nd n.natAbs:=U.o;rw[Qpm (by omega)]at D;have I:=hY (show 1+t.size+nd ((u:Int)/10).natAbs=nd n.natAbs by rw[show((u:Int)/10).natAbs=u/10 by omega];omega);have s1:¬9223372036854775807<min (u%10+1) 10-u%10+t.size:=by omega
 clear D;go_wp2_with fail;go_roundw
 case rel=>
  refine⟨_,_,rfl,rfl,by omega,by omega,hY ?_,R⟩;rw[aK,bQ];show min (u%10+1) 10-u%10+t.size+_=_;have:=I.o;omega
 simp[intOf];omega
theorem QlV:∀{l:List Val} {q j:Nat} {d:Val},Qbz l q=0->l[j]? = some d->QbN d q=0
 |[],q,j,d,_,h=>by simp at h
 | x :: r,q,j,d,h0,h=>by
   rw[Qbz]at h0;by_cases z:QbN x q=0
   ·rw [ef (by simp [z])] at h0
    cases j with
    |zero=>simp at h;subst h;exact z
    |succ j=>exact QlV h0 (by simpa using h)
   rw[em z]at h0;exact absurd h0 z
theorem Qgi:∀{p:Option ByteArray} {ks:List ByteArray} {l:List Val} {q j:Nat} {d:Val} {k:ByteArray},Qer p ks l q=0->l[j]? = some d->ks[j]? = some k->Lib.validD k.data.toList=true/\QbN d q=0
 |p,ks,[],q,j,d,k,_,h,_=>by simp at h
 |p,[],x::r,q,j,d,k,_,_,hk=>by simp at hk
 | p,y :: ks,x :: r,q,j,d,k,z,h,hk=>by
   rw[Qer,cX,bZ]at z;cases I:Lib.validD y.data.toList with
   |false=>rw[I,em (by decide)]at z;cases z
   |true=>
   rw[I,ef (by decide)]at z;split at z
   .cases z
   by_cases D:QbN x q=0
   ·rw [ef (by simp [D])] at z
    cases j with
    |zero=>simp at h hk;subst h hk;exact⟨I,D⟩
    |succ j=>exact Qgi z (by simpa using h) (by simpa using hk)
   rw[em D]at z;exact absurd z D
variable{q:Nat}
theorem Qpi{k:Int}{b:Bool}{i:Int}{t:ByteArray}{l:List Val}{ok:List ByteArray}{ov:List Val}(z:ov.length=ok.length)(h:QbN (.mk k b i t l ok ov) q=0) :
  (1<=k/\k<=6)/\Lib.validD t.data.toList=true/\Qbz l (q+1)=0/\Qer none ok ov (q+1)=0:=by
 rw[Qpj _ _ _ _ _ _ _ _ z]at h;split at h
 .cases h
 rename_i ho;split at h
 .cases h
 split at h
 .cases h
 rename_i hv;split at h
 .rename_i h1;exact absurd h h1
 rename_i h1;refine⟨?_,by simpa using hv,by simpa using h1,h⟩;unfold QbD at ho;by_cases D:k<1\/6<k
 .rw [em D]at ho;exact absurd rfl ho
 omega
theorem QfI{t:ByteArray}(h:Lib.validD t.data.toList=true):(Qa6 t).size=(Qb6 t).length:=by
 unfold Qa6;rw[em h];show(Qb6 t).toArray.size=_;rw[br]
theorem QrJ(m:Nat):∀(d:Val),SizeOf.sizeOf d<=m->Qb4 d<=1100000->∀(q:Nat),QbN d q=0->∀(w:World) (sl so:Sl),RV w (Lt w) d sl so->
  Calls prog 140 #[Qbg d sl so] w λe w'=>∃t:ByteArray,e=.returned (.string t)/\t.size=Qdy d/\Ext w w':=by
 induction m with
 |zero=>intro d hd;have:=Val.Qb7 d;omega
 |succ m ih=>
 intro d hd d8 q c1 w sl so h;have HI:=hY ih;have b6:=Qgh _ w d sl so h;clear ih;obtain⟨k,b,i,t,l,I,ov⟩:=d;show Calls _ _ #[.agg #[.int .i64 k,.bool b,.int .i64 i,.string t,.slice sl.a l.length sl.c,.slice so.a I.length so.c]] _ _;cases h with
 |mk bl fl bo fo cl co hl ho hov el rl ek eo ro bk bi bt nl no=>
 have f1:∀(j:Nat) (d:Val),l[j]? = some d->SizeOf.sizeOf d<=m:=λj d hj=>bq (ab (Val.Qqm hj) hd)
 have e3:∀(j:Nat) (d:Val),ov[j]? = some d->SizeOf.sizeOf d<=m:=λj d hj=>bq (ab (Val.Qqn hj) hd)
 obtain⟨d7,c8,f0,e2⟩:=Qpi hov c1;have e4:Qdy (.mk k b i t l I ov)<=6600000:=by omega
 unfold Qb4 at d8;have g5 : -9223372036854775808<=i:=by simp[Lit.wf,IntKind.min,IntKind.max,IntKind.signed,IntKind.bits]at bi;omega
 have f7:i<=9223372036854775807:=by simp[Lit.wf,IntKind.min,IntKind.max,IntKind.signed,IntKind.bits]at bi;omega
 have g4:=hY f1;have d6:=hY e3;have f8:=hY el;have f2:=hY rl;have f4:=hY ek;have e1:=hY eo;have e8:=hY ro;have d0:=hY hov;have c2:=hY hl;have c3:=hY ho;have b7:=hY d8;have f6:=hY f0;have c7:=hY e2;have e7:=(fv w).alloc #[.int .i64 k,.bool b,.int .i64 i,.string t,.slice sl.a l.length sl.c,.slice so.a I.length so.c] 28;have e0:=fA w 28 #[.int .i64 k,.bool b,.int .i64 i,.string t,.slice sl.a l.length sl.c,.slice so.a I.length so.c];have J:=hY e7;have R:=hY e0;clear f1 e3 el rl ek eo ro hov hl ho f0 e2 c1 hd b6 bi bk e7 e0;obtain⟨n,hn⟩:∃n,Qdy (.mk k b i t l I ov)=n:=⟨_,rfl⟩;rw[hn]at e4 ⊢;unfold Qdy at hn;go_in;have g0:k=1\/k=2\/k=3\/k=4\/k=5\/k=6:=by omega
 clear d7;rcases g0 with rfl|rfl|rfl|rfl|rfl|rfl
 ·have HN:=hY (show 4=n from hn)
  clear hn;go_wp2_with fail;go_ret;exact⟨_,rfl,HN.o,J.o⟩
 ·have HN:=hY (show Qs8 b=n from hn)
  clear hn;cases b
  ·go_wp2_with fail
   go_ret;exact⟨_,rfl,HN.o,J.o⟩
  go_wp2_with fail;go_ret;exact⟨_,rfl,HN.o,J.o⟩
 ·have HN:=hY (show (Lib.itoa i).length=n from hn)
  have HD:=hY (Qjl (w.alloc (.cells #[.int .i64 3,.bool b,.int .i64 i,.string t,.slice sl.a l.length sl.c,.slice so.a I.length so.c] 28)) i g5 f7);clear hn;go_wp2_with fail;refine HD.o.mono ?_;rintro e w2 ⟨u,rfl,hu,z⟩;have HU:=hY (hu.trans HN.o);have D:=hY (J.o.trans z);clear hu z;go_wp2_with fail;go_ret;exact⟨_,rfl,HU.o,D.o⟩
 ·have HN:=hY (show (Qa6 t).size=n from hn)
  have HD:=hY (Qg5 (w.alloc (.cells #[.int .i64 4,.bool b,.int .i64 i,.string t,.slice sl.a l.length sl.c,.slice so.a I.length so.c] 28)) t (by have:=b7.o;omega) c8);have HQ:=hY (QfI c8);clear hn c8;go_wp2_with fail;refine HD.o.mono ?_;rintro e w2 ⟨u,rfl,hu,z⟩;have HU:=hY (show u.size=n by rw[hu,<-HQ.o,HN.o]);have D:=hY (J.o.trans z);clear hu z;go_wp2_with fail;go_ret;exact⟨_,rfl,HU.o,D.o⟩
 ·have HN:=hY (show 2+Qek l+(l.length - 1)=n from hn)
  clear hn;go_wp2_with fail;generalize a6:World.alloc w _=w1;rw[a6]at J R;clear a6;go_loopw[5,6] (λsv qq wr=>∃(j:Nat) (u:ByteArray),sv=.string u/\qq=.int .i64 j/\j<=l.length/\Yd (u.size=1+Qek (l.take j)+(j-1))/\Yd (Ext w1 wr)) (λ_ qq _=>l.length -(intOf qq).toNat)
  case atStart=>exact⟨0,_,rfl,rfl,aw _,hY rfl,hY (fv _)⟩
  obtain⟨j,u,rfl,rfl,hj,HU,Y⟩:=hrel;obtain⟨p0,p1,p2,p3,p4,p5⟩:=(R.o.ext Y.o).c6;have lp:=(R.o.ext Y.o).lt;have f3:u.size<=7000000:=by have:=HU.o;have:=Qiy l j;have:=HN.o;omega
  by_cases a0:j<l.length
  ·have g1:(j:Int)<(l.length:Int):=by omega
   have f5:decide ((j:Int)<(l.length:Int))=true:=ej g1;obtain⟨d,hd⟩:∃d,l[j]? = some d:=⟨_,ac a0⟩;have X:Ext w wr:=J.o.trans Y.o;have a3:Agree (Lt w) w wr:=X.agree λ_ h=>h
   obtain⟨b0,b6,c4⟩:=c2.o.eq (by omega);have a1:=c2.o.fits (show 0<l.length by omega);obtain⟨sa,sc⟩:=sl;dsimp only at b0 b6 c4;subst b0;obtain⟨v0,v1,v2,v3,v4,v5⟩:=(f8.o j d hd).agree a3 a1;have lb:bl<wr:=ab a1 X.size;have Z:Calls prog 140 #[Qbg d (cl j).1 (cl j).2] wr λe w'=>∃t:ByteArray,e=.returned (.string t)/\t.size=Qdy d/\Ext wr w':=
    HI.o d (g4.o j d hd) (by have:=Qid hd;have:=b7.o;omega) _ (QlV f6.o hd) wr _ _ (((f2.o j d hd).agree a3).mono λi hi=>ab hi X.size)
   have b3:=QgQ hd;have g6:Qdy d<=7000000:=by have:=Qiy l (j+1);have:=HN.o;omega
   have U:=hY Z;have a9:=hY b3;clear hd X a3 Z b3;by_cases a5:j=0
   ·have gg:decide ((0:Int)<(j:Int))=false:=eh (by omega)
    have c9:=hY a5;have gn:¬0<j:=by omega
    have gi:¬(0:Int)<(j:Int):=by omega
    clear a5;go_wp2_with fail;refine U.o.mono ?_;rintro e w2 ⟨x,rfl,hx,z⟩;have s1:¬9223372036854775807<u.size+x.size:=by omega
    have D:=hY (Y.o.trans z);have HS:=hY (show u.size+x.size=1+Qek (l.take (j+1))+(j+1-1)by have:=c9.o;have:=HU.o;rw[a9.o,hx];omega);clear z hx U v0 v1 v2 v3 v4 v5 p0 p1 p2 p3 p4 p5;go_wp2_with fail;go_roundw
    case rel=>exact⟨j+1,_,rfl,by go_num,a0,hY (by rw[aK];exact HS.o),D⟩
    simp[intOf];omega
   have gg:decide ((0:Int)<(j:Int))=true:=ej (by omega);have s0:¬9223372036854775807<u.size+1:=by omega
   go_wp2_with fail;refine U.o.mono ?_;rintro e w2 ⟨x,rfl,hx,z⟩;have s1:¬9223372036854775807<u.size+1+x.size:=by omega
   have D:=hY (Y.o.trans z);have HS:=hY (show u.size+1+x.size=1+Qek (l.take (j+1))+(j+1-1)by have:=HU.o;rw[a9.o,hx];omega);clear z hx U v0 v1 v2 v3 v4 v5 p0 p1 p2 p3 p4 p5;go_wp2_with fail;go_roundw
   case rel=>exact⟨j+1,_,rfl,by go_num,a0,hY (by rw[aK,aK];exact HS.o),D⟩
   simp[intOf];omega
  obtain rfl:j=l.length:=by omega
  have g1:decide ((l.length:Int)<(l.length:Int))=false:=eh (by omega);have s1:¬9223372036854775807<u.size+1:=by omega
  have HS:=hY (show u.size+1=n by have:=HU.o;rw[aM]at this;have:=HN.o;omega);have D:=hY (J.o.trans Y.o);go_wp2_with fail;go_ret;exact⟨_,rfl,by rw[aK];exact HS.o,D.o⟩
 have HN:=hY (show 2+Qeq I ov+(ov.length-1)=n from hn);clear hn;go_wp2_with fail;generalize a6:World.alloc w _=w1;rw[a6]at J R;clear a6;go_loopw[7,8] (λsv qq wr=>∃(j:Nat) (u:ByteArray),sv=.string u/\qq=.int .i64 j/\j<=I.length/\Yd (u.size=1+Qeq I (ov.take j)+(j-1))/\Yd (Ext w1 wr)) (λ_ qq _=>I.length -(intOf qq).toNat)
 case atStart=>exact⟨0,_,rfl,rfl,aw _,hY (by rw[bO,Qeq];rfl),hY (fv _)⟩
 obtain⟨j,u,rfl,rfl,hj,HU,Y⟩:=hrel;obtain⟨p0,p1,p2,p3,p4,p5⟩:=(R.o.ext Y.o).c6;have lp:=(R.o.ext Y.o).lt;have f3:u.size<=7000000:=by have:=HU.o;have:=Qgg I ov j;have:=HN.o;have:=d0.o;omega
 by_cases a0:j<I.length
 ·have g1:(j:Int)<(I.length:Int):=by omega
  have f5:decide ((j:Int)<(I.length:Int))=true:=ej g1;obtain⟨kk,hk⟩:∃kk,I[j]? = some kk:=⟨_,ac a0⟩;obtain⟨d,hd⟩:∃d,ov[j]? = some d:=⟨_,ac (by rw[d0.o];exact a0)⟩;have X:Ext w wr:=J.o.trans Y.o;have a3:Agree (Lt w) w wr:=X.agree λ_ h=>h
  obtain⟨b0,b6,c4⟩:=c3.o.eq (by omega);have a1:=c3.o.fits (show 0<I.length by omega);obtain⟨sa,sc⟩:=so;dsimp only at b0 b6 c4;subst b0;have lb:bo<wr:=ab a1 X.size;have kc:wr.cell? ⟨bo,fo+j*7,none⟩=some (.string kk):=(a3.cell a1).trans (f4.o j kk hk).1;have d4:=(Qgi c7.o hd hk).1;have e6:=Qg5 wr kk (by have:=QdG hd hk;have:=b7.o;omega) d4;have b3:=QgR (ks:=I) hd hk;have g6:(Qa6 kk).size+1+Qdy d<=7000000:=by have:=Qgg I ov (j+1);have:=HN.o;omega
  have d5:=hY (QfI d4);have b8:=hY e6;have a9:=hY b3;have a2:=hY X;have c0:=hY a1;have HK:=hY hk;have HD:=hY hd;clear hd hk X a3 e6 b3 d4 a1;by_cases a5:j=0
  ·have gg:decide ((0:Int)<(j:Int))=false:=eh (by omega)
   have c9:=hY a5;have gn:¬0<j:=by omega
   have gi:¬(0:Int)<(j:Int):=by omega
   clear a5;go_wp2_with fail;refine b8.o.mono ?_;rintro e w2 ⟨y,rfl,hy,z⟩;obtain⟨p0,p1,p2,p3,p4,p5⟩:=(R.o.ext (Y.o.trans z)).c6;have g3:=(R.o.ext (Y.o.trans z)).lt;have N:Agree (Lt w) w w2:=(a2.o.trans z).agree λ_ h=>h
   obtain⟨v0,v1,v2,v3,v4,v5⟩:=(e1.o j d HD.o).agree N c0.o;have f9:bo<w2:=ab c0.o (a2.o.trans z).size;have Z:Calls prog 140 #[Qbg d (co j).1 (co j).2] w2 λe w'=>∃t:ByteArray,e=.returned (.string t)/\t.size=Qdy d/\Ext w2 w':=
    HI.o d (d6.o j d HD.o) (by have:=QdG HD.o HK.o;have:=b7.o;omega) _ (Qgi c7.o HD.o HK.o).2 w2 _ _ (((e8.o j d HD.o).agree N).mono λi hi=>ab hi (a2.o.trans z).size)
   have U:=hY Z;have a4:y.size=(Qa6 kk).size:=by rw[hy,d5.o]
   have s1:¬9223372036854775807<u.size+y.size:=by omega
   have s2:¬9223372036854775807<u.size+y.size+1:=by omega
   have b5:=hY a4;have D:=hY (Y.o.trans z);clear N Z z hy a4 lp lb kc b8;go_wp2_with fail;refine U.o.mono ?_;rintro e w3 ⟨x,rfl,hx,b4⟩;have s3:¬9223372036854775807<u.size+y.size+1+x.size:=by have:=b5.o;omega
   have d3:=hY (D.o.trans b4);have HS:=hY (show u.size+y.size+1+x.size=1+Qeq I (ov.take (j+1))+(j+1-1)by have:=c9.o;have:=HU.o;have:=b5.o;rw[a9.o,hx];omega);clear b4 hx U v0 v1 v2 v3 v4 v5 p0 p1 p2 p3 p4 p5;go_wp2_with fail;go_roundw
   case rel=>exact⟨j+1,_,rfl,by go_num,a0,hY (by rw[aK,aK,aK];exact HS.o),d3⟩
   simp[intOf];omega
  skip
  have gg:decide ((0:Int)<(j:Int))=true:=ej (by omega);have s0:¬9223372036854775807<u.size+1:=by omega
  go_wp2_with fail;refine b8.o.mono ?_;rintro e w2 ⟨y,rfl,hy,z⟩;obtain⟨p0,p1,p2,p3,p4,p5⟩:=(R.o.ext (Y.o.trans z)).c6;have g3:=(R.o.ext (Y.o.trans z)).lt;have N:Agree (Lt w) w w2:=(a2.o.trans z).agree λ_ h=>h
  obtain⟨v0,v1,v2,v3,v4,v5⟩:=(e1.o j d HD.o).agree N c0.o;have f9:bo<w2:=ab c0.o (a2.o.trans z).size;have Z:Calls prog 140 #[Qbg d (co j).1 (co j).2] w2 λe w'=>∃t:ByteArray,e=.returned (.string t)/\t.size=Qdy d/\Ext w2 w':=
   HI.o d (d6.o j d HD.o) (by have:=QdG HD.o HK.o;have:=b7.o;omega) _ (Qgi c7.o HD.o HK.o).2 w2 _ _ (((e8.o j d HD.o).agree N).mono λi hi=>ab hi (a2.o.trans z).size)
  have U:=hY Z;have a4:y.size=(Qa6 kk).size:=by rw[hy,d5.o]
  have s1:¬9223372036854775807<u.size+1+y.size:=by omega
  have s2:¬9223372036854775807<u.size+1+y.size+1:=by omega
  have b5:=hY a4;have D:=hY (Y.o.trans z);clear N Z z hy a4 lp lb kc b8;go_wp2_with fail;refine U.o.mono ?_;rintro e w3 ⟨x,rfl,hx,b4⟩;have s3:¬9223372036854775807<u.size+1+y.size+1+x.size:=by have:=b5.o;omega
  have d3:=hY (D.o.trans b4);have HS:=hY (show u.size+1+y.size+1+x.size=1+Qeq I (ov.take (j+1))+(j+1-1)by have:=HU.o;have:=b5.o;rw[a9.o,hx];omega);clear b4 hx U v0 v1 v2 v3 v4 v5 p0 p1 p2 p3 p4 p5;go_wp2_with fail;go_roundw
  case rel=>exact⟨j+1,_,rfl,by go_num,a0,hY (by rw[aK,aK,aK,aK];exact HS.o),d3⟩
  simp[intOf];omega
 obtain rfl:j=I.length:=by omega
 have g1:decide ((I.length:Int)<(I.length:Int))=false:=eh (by omega);have s1:¬9223372036854775807<u.size+1:=by omega
 have HS:=hY (show u.size+1=n by have:=HU.o;rw[<-d0.o,aM]at this;have:=HN.o;omega);have D:=hY (J.o.trans Y.o);go_wp2_with fail;go_ret;exact⟨_,rfl,by rw[aK];exact HS.o,D.o⟩
theorem QmM{d:Val}(h:RV w (Lt w) d sl so)(hc:Qb4 d<=1100000):Calls prog 91 #[Qbg d sl so] w λe w'=>e=.returned (.int .i64 (Qbw d))/\Ext w w':=by
 have R:∀W,Ext w W->RV W (Lt W) d sl so:=λW J=>(h.agree (J.agree λb hb=>hb)).mono λb hb=>ab hb J.size
 have HM:=hY (λW (J:Ext w W)=>Qpc (R W J) hc);have HD:=hY (λW (J:Ext w W) (hq:Qbp d<=1000000)=>QqD _ d (an _) hq W sl so (R W J));have HT:=hY (λW (J:Ext w W) (I:QbN d 1=0)=>QrJ _ d (an _) hc 1 I W sl so (R W J));obtain⟨r,z⟩:∃r,Qbw d=r:=⟨_,rfl⟩;rw[z];have HR:=hY z;clear z R h;go_in;go_wp2_with fail;have Y:=(fv w).alloc (Qlj d sl so) 28;have U:=fA w 28 (Qlj d sl so);refine(HM.o _ Y).mono ?_;rintro e w1 ⟨rfl,D⟩;have z:=HR.o;unfold Qbw at z;obtain⟨q0,q1,q2,q3,q4,q5⟩:=(U.ext D).c6;have lq:=(U.ext D).lt;have HB:=hY (U.ext D);have HX:=hY (Y.trans D);clear Y D U HM;by_cases I:QbN d 1=0
 ·rw [ef (by simp [I])] at z
  have a5:=Qgc d 1 I;have a4:=hY (λW J=>HT.o W J I);rw[I];have a3:=hY z;clear z I;go_wp2_with fail;refine(HD.o _ HX.o (by omega)).mono ?_;rintro e w2 ⟨rfl,N⟩;obtain⟨p0,p1,p2,p3,p4,p5⟩:=(HB.o.ext N).c6;have lp:=(HB.o.ext N).lt;have Z:=hY (HX.o.trans N);have z:=a3.o;clear N q0 q1 q2 q3 q4 q5 lq;by_cases hd:16<Qbp d
  ·rw [em hd] at z
   have g1:decide ((16:Int)<(Qbp d:Int))=true:=ej (by omega);have X:=hY z;clear z;go_wp2_with fail;go_ret;exact⟨by rw[<-X.o];rfl,Z.o⟩
  rw[ef hd]at z;have g1:decide ((16:Int)<(Qbp d:Int))=false:=eh (by omega);have a2:=hY z;clear z;go_wp2_with fail;refine(a4.o _ Z.o).mono ?_;rintro e w3 ⟨t,rfl,ht,a1⟩;have a0:=hY (Z.o.trans a1);have z:=a2.o;rw[<-ht]at z;clear a1 ht;by_cases hl:1024<t.size
  ·rw [em hl] at z
   have g2:decide ((1024:Int)<(t.size:Int))=true:=ej (by omega);have X:=hY z;clear z;go_wp2_with fail;go_ret;exact⟨by rw[<-X.o];rfl,a0.o⟩
  rw[ef hl]at z;have g2:decide ((1024:Int)<(t.size:Int))=false:=eh (by omega);have X:=hY z;clear z;go_wp2_with fail;go_ret;exact⟨by rw[<-X.o];rfl,a0.o⟩
 rw[em I]at z;have g1:(QbN d 1 != 0)=true:=by simpa using I
 have X:=hY z;clear z I;go_wp2_with fail;go_ret;exact⟨by rw[<-X.o];rfl,HX.o⟩
theorem Tryz.QoP:(prog.info? 33).map (λi=>(i.zero,i.size,i.bytes))=some (some (.pointer none),1,8):=by kernel_rfl
abbrev Qdx(m:Nat):Value:=.pointer (some ⟨m,0,none⟩)
structure R12(H:Nat->Prop)(w:World)(base R M:Nat)(s:Sl)(es:List Ent)(ms:List Nat)(hs:List (List Ent)):Prop where
 below:∀b,H b->b<w.heap.size
 old:base<=w.heap.size
 hR:H R
 hrow:∀b,s.row=some b->H b
 blk:Blk w R 110 #[Qdx M,.slice s.a hs.length s.c]
 own:w.ownsRow base 33 1 (.slice s.a hs.length s.c) hs.length (ms.map Qdx)
 cur:MapAt H w M es
 len:ms.length=hs.length
 dist:ms.Nodup
 maps:∀(j m:Nat) (es':List Ent),ms[j]? = some m->hs[j]? = some es'->MapAt H w m es'/\m≠M
variable{H:Nat->Prop}
theorem MapAt.QrS{M:Nat}{es:List Ent}(h:MapAt H w M es):∃v,Blk w M 55 #[v]:=by
 obtain⟨-,s,xs,z,-⟩:=h;exact⟨_,z⟩
theorem Qn7{a b:Nat}{t J:TypeId}{cs I:Array Value}(h:Blk w a t cs)(z:Blk w b J I)(D:t≠J):a≠b:=by
 rintro rfl;unfold Blk at h z;rw[h]at z;injection z with z;injection z with h3 h4;exact D h4
variable{ms:List Nat}{hs:List (List Ent)}
theorem R12.QuG{base R M:Nat}{es:List Ent}(h:R12 H w base R M s es ms hs):R≠M:=by
 obtain⟨v,z⟩:=h.cur.QrS;exact Qn7 h.blk z (by decide)
theorem R12.QtA{base R M:Nat}{es:List Ent}(h:R12 H w base R M s es ms hs):s.row≠some M:=by
 obtain⟨v,z⟩:=h.cur.QrS;exact QcP h.own z (by decide)
theorem R12.QsL{base R M:Nat}{es:List Ent}(h:R12 H w base R M s es ms hs):s.row≠some R:=QcP h.own h.blk (by decide)
theorem R12.ext{base R M:Nat}{es:List Ent}(h:R12 H w base R M s es ms hs)(k:Ext w w'):R12 H w' base R M s es ms hs:=
 ⟨λb z=>ab (h.below b z) k.size,al h.old k.size,h.hR,h.hrow,h.blk.ext k,Qae h.own (k.agree λb (z:b<w)=>z) (λb z=>(Qaa h.own z).2),h.cur.ext k,h.len,h.dist,λj m e I D=>⟨(h.maps j m e I D).1.ext k,(h.maps j m e I D).2⟩⟩
variable{s5:Sl}
theorem R12.step{w3 D w5:World}{base R M M':Nat}{es:List Ent}{c:Array Value}{t:TypeId}(h:R12 H w3 base R M s es ms hs)(a3:Ext w3 D)(c4:w3.heap.size<=M')(a6:MapAt (λb=>H b\/b=M') D M' es)
  (N:w5.ownsRow base 33 1 (.slice s5.a (hs.length+1) s5.c) (hs.length+1) (ms.map Qdx++[Qdx M'])) (a4:Wr (D.alloc (.cells c t)) w5 s.row) (a5:s5.a=s.a\/s5.a=some ⟨(D.alloc (.cells c t)).heap.size,0,none⟩/\Wr (D.alloc (.cells c t)) w5 none) (b0:Blk w5 R 110 #[Qdx M,.slice s.a hs.length s.c]) :
  ∃H':Nat->Prop,(∀b,H b->H' b)/\(∀b,H' b->H b\/w3<=b)/\R12 H' (w5.setCell ⟨R,1,none⟩ (.slice s5.a (hs.length+1) s5.c)) base R M s5 es (ms++[M']) (hs++[es])/\St (λb=>b=R\/s.row=some b) w3 (w5.setCell ⟨R,1,none⟩ (.slice s5.a (hs.length+1) s5.c))/\(∀b,s5.row=some b->s.row=some b\/w3<=b):=by
 have b5:Ext D (D.alloc (.cells c t)):=(fv D).alloc _ _;have b8:=a3.size;have c2:(D.alloc (.cells c t)).heap.size=D.heap.size+1:=ey _ _;have c0:=a4.grown.size;have c1:M'<D.heap.size:=by obtain⟨v,hv⟩:=a6.QrS;exact hv.lt
 have c3:=h.blk.lt;have b7:M<w3.heap.size:=by obtain⟨v,hv⟩:=h.cur.QrS;exact hv.lt
 have I:∀b,s5.row=some b->H b\/D.heap.size<b:=λb z=>by
  rcases a5 with e |⟨e,-⟩
  .exact .inl (h.hrow b (by unfold Sl.row at z ⊢;rw[<-e];exact z))
  right;have:b=(D.alloc (.cells c t)).heap.size:=by unfold Sl.row at z;rw[e]at z;simpa using z.symm
  omega
 have k4:St (λb=>b=R\/s.row=some b) D (w5.setCell ⟨R,1,none⟩ (.slice s5.a (hs.length+1) s5.c)):=
  St.set (H:=λb=>b=R\/s.row=some b) ((b5.st _).trans (a4.st λi hi=>.inr hi)) (p:=⟨R,1,none⟩) (.inr (.inl rfl)) _
 have k3:St (λb=>b=R\/s.row=some b) w3 (w5.setCell ⟨R,1,none⟩ (.slice s5.a (hs.length+1) s5.c)):=(a3.st _).trans k4;have Y:St (λb=>b=R) w5 (w5.setCell ⟨R,1,none⟩ (.slice s5.a (hs.length+1) s5.c)):=St.set (H:=λb=>b=R) (St.refl _ _) (p:=⟨R,1,none⟩) (.inr rfl) _;have b6:s5.row≠some R:=λe=>QcP N b0 (by decide) e
 have a9:∀b,(b=R\/s.row=some b)->H b:=λb z=>z.elim (λe=>e▸h.hR) (h.hrow b)
 have b3:∀m,(∃v,Blk w3 m 55 #[v])->¬(m=R\/s.row=some m):=λm ⟨v,hv⟩ hh=>hh.elim (λe=>Qn7 h.blk hv (by decide) e.symm) λe=>QcP h.own hv (by decide) e
 have a0:∀m e',MapAt H w3 m e'->MapAt (λb=>H b\/b=M'\/s5.row=some b) (w5.setCell ⟨R,1,none⟩ (.slice s5.a (hs.length+1) s5.c)) m e':=λm e' hm=>
  (hm.more (G:=λb=>H b\/b=M'\/s5.row=some b) (λb z=>.inl z) λb z J=>by
    rcases J with J|J|J
    .exact J
    .omega
    rcases I b J with h1|h1
    .exact h1
    omega).st k3 (λb z=>.inl (a9 b z)) (b3 m hm.QrS)
 have a1:∀b,s5.row=some b->s.row=some b\/w3<=b:=λb z=>by
  rcases a5 with e |⟨e,-⟩
  .exact .inl (by unfold Sl.row at z ⊢;rw[<-e];exact z)
  right;have:b=(D.alloc (.cells c t)).heap.size:=by unfold Sl.row at z;rw[e]at z;simpa using z.symm
  omega
 refine⟨λb=>H b\/b=M'\/s5.row=some b,λb z=>.inl z,λb z=>?_,?_,k3,a1⟩
 ·rcases z with z | z | z
  .exact .inl z
  .right;omega
  rcases I b z with h1|h1
  .exact .inl h1
  right;omega
 have hz:=Y.size;refine⟨λb z=>?_,?_,.inl h.hR,λb z=>.inr (.inr z),?_,?_,a0 M es h.cur,by rw[ak,ak,h.len];rfl,?_,λj m a2 U Z=>?_⟩
 ·rcases z with z | z | z
  .have:=h.below b z;omega
  .omega
  have:=(Qaa N z).2;omega
 .have:=h.old;omega
 ·have:=b0.Qdz 1 (.slice s5.a (hs.length+1) s5.c)
  rw[ak];exact this
 ·rw [ak,aL]
  exact Qae N (F:=λb=>s5.row=some b) (λb z=>Y.block b (Qaa N z).2 λe=>b6 (e▸z)) λb z=>z
 ·rw [List.nodup_append]
  refine⟨h.dist,by simp,λa ha b z e=>?_⟩;rw[bn]at z;obtain⟨j,U⟩:=bv ha;have X:=(ah.1 U).1;obtain⟨x,hx⟩:=(h.maps j a _ U (ac (by rw[<-h.len];exact X))).1.QrS;have:=hx.lt;omega
 by_cases X:j<ms.length
 ·rw [bp X] at U
  rw[bp (by rw[<-h.len];exact X)]at Z;exact⟨a0 m a2 (h.maps j m a2 U Z).1,(h.maps j m a2 U Z).2⟩
 rw[aU (by omega)]at U;rw[aU (by rw[<-h.len];omega)]at Z;have b4:j-ms.length=0:=by
  have:=(ah.1 U).1;simp at this;omega
 rw[<-h.len]at Z;rw[b4]at U Z;simp at U Z;subst U Z;refine⟨(a6.more (G:=λb=>H b\/b=M'\/s5.row=some b) (λb z=>z.elim .inl λe=>.inr (.inl e)) λb z J=>by
  rcases J with J|J|J
  .exact .inl J
  .exact .inr J
  rcases I b J with h1|h1
  .exact .inl h1
  omega).st k4 (λb z=>.inl (a9 b z)) ?_,by omega⟩
 rintro(e|e)
 .omega
 have:=h.below _ (h.hrow _ e);omega
theorem R12.turned{base R M:Nat}{es D:List Ent}(h:R12 H w base R M s es ms hs)(U:MapAt H w' M D)(k:St (λb=>b=M) w w'):R12 H w' base R M s D ms hs:=
 ⟨λb z=>ab (h.below b z) k.size,al h.old k.size,h.hR,h.hrow,k.blk h.blk h.QuG,Qae h.own (F:=λb=>s.row=some b) (λb z=>k.block b (Qaa h.own z).2 λe=>h.QtA (e▸z)) (λb z=>z),U,h.len,h.dist,
   λj m e J I=>⟨(h.maps j m e J I).1.st k (λb z=>z▸h.cur.hm) (λN=>(h.maps j m e J I).2 N),(h.maps j m e J I).2⟩⟩
end Go.Proofs.YtkjkafgnnoidpaaGreatDoor
