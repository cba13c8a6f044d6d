/- What the theorem needs of the texts TSame: no condition of its own. -/
import Derived.Test.YtkjkafgnnoidpaaGreatDoorPhi
set_option linter.unusedVariables false
set_option linter.unusedSimpArgs false
set_option linter.unnecessarySimpa false
set_option maxRecDepth 100000
set_option maxHeartbeats 2000000
namespace Go.Proofs.YtkjkafgnnoidpaaGreatDoor
open Go.Proofs.Tryz
open Go.RowKit
variable{w:World}{F F':Nat->Prop}
theorem Qkc{T U:RT}(hF:∀b,F b->b<w.heap.size)(N:∀b,F' b->b<w.heap.size)(hT:IsT w F T)(hU:IsT w F' U)(ok:OkR T)(c8:OkR U)(hl:(Qab T).length<=1000000)(d0:(Qab U).length<=1000000) :
  Calls prog 34 #[Qau T,Qau U] w λe w'=>e=.returned (.bool (QcT (Qab T) (Qab U)))/\Ext w w':=by
 obtain⟨p,hp⟩:=Qaq T;obtain⟨q,hq⟩:=Qaq U;have c0:∀W,Ext w W->Calls prog 29 #[.agg #[.pointer p],.agg #[.pointer q]] W λe w'=>e=.returned (.bool (decide (p=q)))/\Ext W w':=λW I=>Qtr W p q ((hT.leads hp).ext I) ((hU.leads hq).ext I)
 have b5:∀W,Ext w W->Calls prog 33 #[.agg #[.pointer p]] W λe w'=>e=.returned (.int .i64 (Qab T).length)/\Ext W w':=λW I=>by
  have:=QeF (λb hb=>ab (hF b hb) I.size) (hT.agree (I.agree hF));rwa[Qau,hp]at this
 have c7:∀W,Ext w W->Calls prog 33 #[.agg #[.pointer q]] W λe w'=>e=.returned (.int .i64 (Qab U).length)/\Ext W w':=λW I=>by
  have:=QeF (λb hb=>ab (N b hb) I.size) (hU.agree (I.agree N));rwa[Qau,hq]at this
 have c3:∀W,Ext w W->Calls prog 31 #[.agg #[.pointer p]] W (QaQ (Qab T) W):=λW I=>by
  have:=QcG (λb hb=>ab (hF b hb) I.size) (hT.agree (I.agree hF)) ok hl;rwa[Qau,hp]at this
 have b4:∀W,Ext w W->Calls prog 31 #[.agg #[.pointer q]] W (QaQ (Qab U) W):=λW I=>by
  have:=QcG (λb hb=>ab (N b hb) I.size) (hU.agree (I.agree N)) c8 d0;rwa[Qau,hq]at this
 have a0:p=q->QcT (Qab T) (Qab U)=true:=λe=>by
  rw[hT.det hU (by rw[hp,hq,e]),Qec]
 rw[Qau,Qau,hp,hq];have b0:=hY c0;have a3:=hY b5;have b3:=hY c7;have e1:=hY c3;have d8:=hY b4;have c2:=hY a0;clear c0 b5 c7 c3 b4 a0 hp hq hF N hT hU ok c8 hl d0;obtain⟨r,hr⟩:∃r,QcT (Qab T) (Qab U)=r:=⟨_,rfl⟩;have HR:=hY hr;rw[hr];clear hr;by_cases a6:p=q
 ·obtain rfl:r=true:=by rw [←HR.o];exact c2.o a6
  subst a6;clear b0;go_in;go_wp2_with fail;generalize R:World.alloc (World.alloc _ _) _=W0;obtain⟨Y,d4,a5,a2⟩:=Qap w _ _ _ _ W0 R;clear R;refine(QkQ W0 p).mono ?_;rintro e w1 ⟨rfl,hx⟩;go_wp2_with fail;go_ret;exact⟨rfl,Y.trans hx⟩
 have hd:decide (p=q)=false:=eh a6;rw[hd]at b0;clear hd;go_in;go_wp2_with fail;generalize R:World.alloc (World.alloc _ _) _=W0;obtain⟨Y,d4,a5,a2⟩:=Qap w _ _ _ _ W0 R;clear R;refine(b0.o _ Y).mono ?_;rintro e w1 ⟨rfl,Z⟩;have J:=hY (Y.trans Z);have b7:=a5.ext Z;have b6:=a2.ext Z;have z:=hY (show ∀W,Ext w1 W->W.cell? ⟨w.heap.size,0,none⟩=some (.pointer p)/\W.cell? ⟨w.heap.size+1,0,none⟩=some (.pointer q) fromλW I=>⟨(b7.ext I).cell 0,(b6.ext I).cell 0⟩);clear Y Z a5 a2 b7 b6;by_cases X:(Qab T).length=(Qab U).length
 ·have d6:((Qab U).length:Int)=((Qab U).length:Int):=rfl
  rw[X]at a3;go_wp2_with fail;refine ez (S:=(λw'=>Ext w1 w')) (by kernel_rfl) (((fv w1).drew)) (λhHeld=>?_);refine Qad 0 (some 8) z hHeld ?_;refine Qad 2 (some 10) z hHeld ?_;refine Qag (i:=1) (by kernel_rfl) rfl (by rfl) (λK D=>?_);go_simp
  (refine(a3.o _ (J.o.trans hHeld)).mono ?_;rintro e wa ⟨rfl,a4⟩)
  refine D.out _ _ (hHeld.trans a4) (λhHeld=>?_);clear D K
  try simp only[Act.put,List.setIfInBounds_toArray,List.set_cons_zero,List.set_cons_succ]
  refine Qag (i:=3) (by kernel_rfl) rfl (by rfl) (λK D=>?_);go_simp
  (refine(b3.o _ (J.o.trans hHeld)).mono ?_;rintro e wb ⟨rfl,a1⟩)
  refine D.out _ _ (hHeld.trans a1) (λhHeld=>?_);clear D K
  try simp only[Act.put,List.setIfInBounds_toArray,List.set_cons_zero,List.set_cons_succ]
  refine Qad 4 (some 12) z hHeld ?_;refine Qad 5 (some 13) z hHeld ?_;refine Qad 6 (some 14) z hHeld ?_;refine Qad 8 (some 16) z hHeld ?_;refine Qag (i:=7) (by kernel_rfl) rfl (by rfl) (λK D=>?_);go_simp
  (refine(e1.o _ (J.o.trans hHeld)).mono ?_;rintro e wc ⟨sc,yc,rfl,c9,b8,d3⟩;have d5:=hY c9;have e2:=hY b8;clear c9 b8)
  refine D.out _ _ (hHeld.trans d3) (λhHeld=>?_);clear D K
  try simp only[Act.put,List.setIfInBounds_toArray,List.set_cons_zero,List.set_cons_succ]
  refine Qag (i:=9) (by kernel_rfl) rfl (by rfl) (λK D=>?_);go_simp
  (refine(d8.o _ (J.o.trans hHeld)).mono ?_;rintro e we ⟨se,ye,rfl,c4,c6,c1⟩;have a9:=Qij ((e2.o.es.mono (G:=Lt wc.heap.size) λi hi=>hi.2).ext c1) (c6.es.mono (G:=Lt we.heap.size) λi hi=>hi.2);rw[c4,d5.o,HR.o]at a9;have e0:=hY a9;clear c4 c6 a9)
  refine D.out _ _ (hHeld.trans c1) (λhHeld=>?_);clear D K
  try simp only[Act.put,List.setIfInBounds_toArray,List.set_cons_zero,List.set_cons_succ]
  refine Qag (i:=10) (by kernel_rfl) rfl (by rfl) (λK D=>?_);go_simp
  (refine e0.o.mono ?_;rintro e wf ⟨rfl,d7⟩)
  refine D.out _ _ (hHeld.trans d7) (λhHeld=>?_);clear D K
  try simp only[Act.put,List.setIfInBounds_toArray,List.set_cons_zero,List.set_cons_succ]
  refine Qad 11 (some 19) z hHeld ?_;refine Qad 12 (some 4) z hHeld ?_;refine eE (by kernel_rfl) ?_ _;have HX:=hY (J.o.trans hHeld);clear hHeld;go_wp2_with fail;go_ret;exact⟨rfl,HX.o⟩
 obtain rfl:r=false:=by rw[<-HR.o];exact QiM X
 have d6:(((Qab T).length:Int) ==((Qab U).length:Int))=false:=eu.2 (by omega);clear X;go_wp2_with fail;refine ez (S:=(λw'=>Ext w1 w')) (by kernel_rfl) (((fv w1).drew)) (λhHeld=>?_);refine Qad 0 (some 8) z hHeld ?_;refine Qad 2 (some 10) z hHeld ?_;refine Qag (i:=1) (by kernel_rfl) rfl (by rfl) (λK D=>?_);go_simp
 (refine(a3.o _ (J.o.trans hHeld)).mono ?_;rintro e wa ⟨rfl,a4⟩)
 refine D.out _ _ (hHeld.trans a4) (λhHeld=>?_);clear D K
 try simp only[Act.put,List.setIfInBounds_toArray,List.set_cons_zero,List.set_cons_succ]
 refine Qag (i:=3) (by kernel_rfl) rfl (by rfl) (λK D=>?_);go_simp
 (refine(b3.o _ (J.o.trans hHeld)).mono ?_;rintro e wb ⟨rfl,a1⟩)
 refine D.out _ _ (hHeld.trans a1) (λhHeld=>?_);clear D K
 try simp only[Act.put,List.setIfInBounds_toArray,List.set_cons_zero,List.set_cons_succ]
 refine Qad 4 (some 12) z hHeld ?_;refine Qad 5 (some 13) z hHeld ?_;refine QdI 6 (some 14) hHeld ?_;refine QdI 7 (some 15) hHeld ?_;refine QdI 8 (some 16) hHeld ?_;refine QdI 9 (some 17) hHeld ?_;refine QdI 10 (some 18) hHeld ?_;refine Qad 11 (some 19) z hHeld ?_;refine Qad 12 (some 4) z hHeld ?_;refine eE (by kernel_rfl) ?_ _;have HX:=hY (J.o.trans hHeld);clear hHeld;go_wp2_with fail;go_ret;exact⟨rfl,HX.o⟩
end Go.Proofs.YtkjkafgnnoidpaaGreatDoor
