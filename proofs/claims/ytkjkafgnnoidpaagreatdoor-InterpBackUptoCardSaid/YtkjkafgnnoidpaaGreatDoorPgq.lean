/- What the theorem needs of the texts Back13: no condition of its own. -/
import Derived.Test.YtkjkafgnnoidpaaGreatDoorPgn
import Derived.Test.YtkjkafgnnoidpaaGreatDoorPgo
import Derived.Test.YtkjkafgnnoidpaaGreatDoorPgp
set_option linter.unusedVariables false
set_option linter.unusedSimpArgs false
set_option linter.unnecessarySimpa false
set_option maxRecDepth 100000
set_option maxHeartbeats 4000000
namespace Go.Proofs.YtkjkafgnnoidpaaGreatDoor
open Go.Proofs.Tryz
open Go.RowKit Go.Maps Go.Shelf
variable{w:World}{s0:Sl}
theorem back13_w{l:List LE}{f t:ByteArray}(hs:ES w (Lt w) s0 l)(hc:∀x∈l,cntV x.v<=1100000)(j3:f.size+t.size<=1048576)(hL:Qb9 w) :
  Calls prog 8 #[.slice s0.a l.length s0.c,.string f,.string t] w λe w'=>e=.returned (.bool true)/\Nw w w':=by
 have k6:=hL.lib.big;have c8:=hY (λW (L:Nw w W)=>QsF (hL.nw L));have HL:=hY hL;have HS:=hY hs;have HC:=hY hc;have i7:f.size<=maxLen:=by unfold maxLen;omega
 have e7:t.size<=maxLen:=by unfold maxLen;omega
 clear hL hs hc;go_in;by_cases l8:60<l.length
 ·have l1:decide ((60:Int)<(l.length:Int))=true:=ej (by omega)
  go_wp2_with fail;refine(c8.o w (fv (fu _))).mono ?_;rintro e w1 ⟨rfl,hn⟩;have HN:=hY hn;clear hn;go_wp2_with fail;go_ret;exact⟨rfl,HN.o⟩
 have l1:decide ((60:Int)<(l.length:Int))=false:=eh (by omega);go_wp2_with fail;refine(Qla HS.o (by omega) HC.o).mono ?_;rintro e w1 ⟨M,s,xs,H,rfl,D⟩;obtain⟨E,hE⟩:∃E,QaJ [] (Qda (l.map LE.ent))=E:=⟨_,rfl⟩;have I:=D.ents;rw[aP]at I;have d4:=D.map;rw[I,hE]at d4;obtain⟨-,sM,xM,i4,i0,e3⟩:=d4;have l9:E.length<=60:=by rw[<-hE];have:=Qnr (l.map LE.ent);rw[aq]at this;omega
 have k9:xM.length=E.length:=by rw[<-e3,aq]
 have g4:OkM E:=by rw[<-hE];exact Qp1 HS.o
 have d3:=D.es HS.o (by omega);have Y:=hY D.nw;have j8:=hY d3;have j9:=hY (show QaJ [] (xs.map LE.ent)=E by rw[I];exact hE);have g5:=hY g4;have f8:=hY i0;have j0:=hY e3;have l2:xs.length<=60:=by have:=D.few;omega
 have c0:w1.cell? ⟨M,0,none⟩=some (.slice sM.a xM.length sM.c):=i4.cell 0;clear D I hE i4 i0 e3 g4 d3;go_wp2_with fail;go_loopw[9] (λv9 wr=>∃j:Nat,v9=.int .i64 (j:Int)/\j<=xM.length/\wr=w1/\Yd (∀i e,i<j->E[i]? = some e->Qaj t e.1=false)) (λv _=>xM.length -(intOf v).toNat)
 case atStart=>exact⟨0,rfl,av _,rfl,hY λi e h=>absurd h (dV i)⟩
 obtain⟨j,rfl,hj,rfl,d6⟩:=hrel;by_cases b8:j<xM.length
 ·have g1:(j:Int)<(xM.length:Int):=by omega
  have n2:decide ((j:Int)<(xM.length:Int))=true:=ej g1;have g0:(0:Int)<=(j:Int):=by omega
  obtain⟨x,hx⟩:∃x,xM[j]? = some x:=⟨_,ac b8⟩;obtain⟨b0,o0,j2,-,l0,l5,cK,-,-,i6⟩:=f8.o.at hx;have g3:=Qi4 wr x.k t i6 e7;have k4:=hY (show Calls prog 32 #[.string x.k,.string t] wr λe w'=>e=.returned (.bool (Qaj t x.k))/\wr=w' from g3);have j6:=hY (show E[j]? = some (x.k,x.v)by rw[<-j0.o,ao,hx];rfl);rw[j2]at c0;clear hx i6 g3;go_wp2_with fail;refine k4.o.mono ?_;rintro e w2 ⟨rfl,rfl⟩;cases z:Qaj t x.k with
  | true=>
    go_wp2_with fail;refine(c8.o _ Y.o).mono ?_;rintro e w3 ⟨rfl,hn⟩;have HN:=hY (Y.o.trans hn);clear hn;go_wp2_with fail;go_ret;exact⟨rfl,HN.o⟩
  | false=>
    have HB:=hY z;clear z;go_wp2_with fail;go_roundw
    case measure=>simp[intOf];omega
    refine⟨j+1,by go_num,b8,(by first|rfl|trivial),hY λi e hi he=>?_⟩;by_cases j7:i=j
    ·subst j7
     rw[j6.o]at he;injection he with he;rw[<-he];exact HB.o
    exact d6.o i e (by omega) he
 obtain rfl:j=xM.length:=by omega
 have g1:decide ((xM.length:Int)<(xM.length:Int))=false:=eh (by omega);have i9:=hY (show ∀e∈E,Qaj t e.1=false fromλe he=>by
  obtain⟨i,hi⟩:=bx he;exact d6.o i e (by have:=(ah.1 hi).1;omega) hi)
 clear d6 f8 j0;go_wp2_with fail;refine(Qi8 j8.o (by omega)).mono ?_;rintro e w2 ⟨T1,rfl,c2,f0,d8⟩;obtain⟨p1,d0⟩:=Qaq T1;rw[Qau,d0];have e6:Qab T1=E:=by rw[c2.both.2];exact j9.o
 have N:=(fu w2).alloc #[.pointer p1] 41;have i5:=hY (fx w2 41 #[.pointer p1]);have a0:=hY ((Y.o.trans (fv d8)).trans (fv N));have X:∀f' t':ByteArray,f'.size+t'.size<=1048576->QcF (Qch f' t')<=1100000:=λf' t' h=>by
  rw[QcF,Qdr,show cntV zeroV=7 by decide +kernel];omega
 have b4:=hY (show ∀W,Nw (w2.alloc (.cells #[.pointer p1] 41)) W->Calls prog 25 #[.agg #[.pointer p1],QaG (Qch f t) zS] W λe w'=>∃T' p',e=.returned (.tuple #[.agg #[.pointer p'],.int .i64 (runM E (Qch f t)).1])/\Qay T'=.pointer p'/\OkR T'/\IsT w' (Up (In wr.heap.size w2.heap.size) W w') T'/\Qab T'=(runM E (Qch f t)).2/\OkM (runM E (Qch f t)).2/\Nw W w'/\((runM E (Qch f t)).2=E->T'=T1) fromλW L=>
  QsX d0 c2.both.1 e6 ((f0.agree (N.agree λb z=>z.2)).agree (fC L λb z=>ab z.2 N.size)) (λb z=>⟨by have:=z.1;have:=Y.o.size;omega,ab z.2 (aj N.size L.size)⟩) g5.o (by omega) (Qc9 ..) (Qpl _ _ i7 e7) (X f t j3) (HL.o.nw (a0.o.trans L)))
 have f7:=hY (show ∀W,Nw (w2.alloc (.cells #[.pointer p1] 41)) W->IsT W (In wr.heap.size w2.heap.size) T1 fromλW L=>(f0.agree (N.agree λb z=>z.2)).agree (fC L λb z=>ab z.2 N.size));have i2:=hY d0;have j4:=hY c2.both.1;have g9:=hY e6;have k0:w2.heap.size<(w2.alloc (.cells #[.pointer p1] 41)).heap.size:=by rw[ew];omega
 have k8:=d8.size;obtain⟨r,hr⟩:∃r,runM E (Qch f t)=r:=⟨_,rfl⟩;rw[hr]at b4;have HR:=hY hr;have k1:r.2.length<=100:=by
  rw[<-hr,Qg9];split
  .show E.length<=_;omega
  have:=QjK E f t;omega
 clear c2 f0 d8 N d0 e6 hr c0;go_wp2_with fail;generalize l7:World.alloc w2 _=w3 at i5 a0 b4 f7 k0 ⊢;refine(b4.o _ (fv (fu _))).mono ?_;rintro e w4 ⟨T2,p2,rfl,J,e2,e1,d7,b5,b3,R⟩;have e4:=hY (b3.blk i5.o);have c1:=hY b3;have z4:=b3.size;by_cases h0:r.1=0
 ·have g0:(r.1 == 0)=true:=by simp [h0]
  have g1:(r.1 != 0)=false:=by simp[h0]
  have U:=Qth g5.o i9.o (by rw[HR.o];exact h0);rw[HR.o]at U;have a9:=hY (show ∀W,Nw w4 W->Calls prog 25 #[.agg #[.pointer p2],QaG (Qch t f) zS] W λe w'=>∃T' p',e=.returned (.tuple #[.agg #[.pointer p'],.int .i64 0])/\Qay T'=.pointer p'/\OkR T'/\IsT w' (Up (Up (In wr.heap.size w2.heap.size) w3 w4) W w') T'/\Qab T'=E/\Nw W w' fromλW L=>by
   have h:=QsX J e2 d7 (e1.agree (fC L λb z=>z.elim (λh=>by have:=h.2;omega) λh=>h.2)) (λb z=>⟨z.elim (λh=>by have:=h.1;have:=Y.o.size;omega) λh=>by have:=h.1;have:=Y.o.size;omega,ab (z.elim (λh=>by have:=h.2;omega) λh=>h.2) L.size⟩) b5 k1 (m:=Qch t f) (Qc9 ..) (Qpl _ _ e7 i7) (X t f (by omega)) (HL.o.nw ((a0.o.trans c1.o).trans L));rw[U]at h;exact h.mono λe w' ⟨T',p',a1,a2,a3,a4,a5,a6,a7,a8⟩=>⟨T',p',a1,a2,a3,a4,a5,a7⟩)
  clear J e2 e1 d7 b5 b3 R h0 U X;go_wp2_with fail;generalize b7:World.alloc w4 _=w5;obtain⟨b6,f1,j5⟩:=Qcb b7;have c3:=hY (fv b6);clear b7 b6 f1;refine(a9.o w5 c3.o).mono ?_;rintro e w6 ⟨T3,p3,rfl,f3,i1,g7,e8,c7⟩;have Z:=c3.o.trans c7;have c9:=Nw.blk Z e4.o;have z6:=c7.size;have e0:=hY c7;have d5:=hY Z;have l3:=hY c9;have f4:=hY (show ∀W,Ext w6 W->Calls prog 34 #[.agg #[.pointer p3],.agg #[.pointer p1]] W λe w'=>e=.returned (.bool true)/\Ext W w' fromλW L=>by
   have hz:=L.size;have b8:∀b,Up (Up (In wr.heap.size w2.heap.size) w3 w4) w5 w6 b->b<w6:=λb z=>z.elim (λh=>h.elim (λh=>by have:=h.2;omega) λh=>by have:=h.2;omega) λh=>h.2
   have h:=Qkc (F:=Up (Up (In wr.heap.size w2.heap.size) w3 w4) w5 w6) (F':=In wr.heap.size w2.heap.size) (λb z=>ab (b8 b z) hz) (λb z=>by have:=z.2;omega) (g7.agree (L.agree b8)) (f7.o W ((c1.o.trans d5.o).trans (fv L))) i1 j4.o (by rw[e8];omega) (by rw[g9.o];omega);rw[Qau,Qau,f3,i2.o,e8,g9.o,Qec]at h;exact h)
  have c6:w6.cell? ⟨w2,0,none⟩=some (.pointer p1):=c9.cell 0;have l6:=c9.lt;clear f3 i1 g7 e8 c7 Z c9 a9;go_wp2_with fail;generalize g6:World.alloc w6 _=w7;obtain⟨f2,k3,k7⟩:=Qcb g6;have i8:=hY f2;clear g6 f2 k3 c6;refine(f4.o w7 i8.o).mono ?_;rintro e w8 ⟨rfl,i3⟩;have g8:=hY ((((a0.o.trans c1.o).trans d5.o).trans (fv i8.o)).trans (fv i3));clear i3 f4;go_wp2_with fail;refine(c8.o w8 g8.o).mono ?_;rintro e w9 ⟨rfl,f6⟩;have j1:=hY (g8.o.trans f6);clear f6;go_wp2_with fail;go_ret;exact⟨rfl,j1.o⟩
 have g0:(r.1==0)=false:=eu.2 h0;have g1:(r.1 != 0)=true:=by simp[h0]
 have k5:p2=p1:=by
  have h1:=R (by rw[<-HR.o]at h0 ⊢;exact QpN h0);rw[h1,i2.o]at J;injection J with J;exact J.symm
 subst k5;have c4:w4.cell? ⟨w2,0,none⟩=some (.pointer p2):=e4.o.cell 0;have l4:=e4.o.lt;clear J e2 e1 d7 b5 b3 R h0 X;go_wp2_with fail;generalize b7:World.alloc w4 _=w5;obtain⟨b6,f1,j5⟩:=Qcb b7;have c3:=hY (fv b6);clear b7 b6 f1 c4;refine(QkQ w5 p2).mono ?_;rintro e w6 ⟨rfl,f5⟩;have e0:=hY (((a0.o.trans c1.o).trans c3.o).trans (fv f5));clear f5;go_wp2_with fail;refine(c8.o w6 e0.o).mono ?_;rintro e w7 ⟨rfl,f9⟩;have k2:=hY (e0.o.trans f9);clear f9;go_wp2_with fail;go_ret;exact⟨rfl,k2.o⟩
end Go.Proofs.YtkjkafgnnoidpaaGreatDoor
