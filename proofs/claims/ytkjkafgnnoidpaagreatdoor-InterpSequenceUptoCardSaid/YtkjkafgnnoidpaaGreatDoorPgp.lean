/- What the theorem needs of the texts TSame: no condition of its own. -/
import Derived.Test.YtkjkafgnnoidpaaGreatDoorPgh
set_option linter.unusedVariables false
set_option linter.unusedSimpArgs false
set_option linter.unnecessarySimpa false
set_option maxRecDepth 100000
set_option maxHeartbeats 2000000
namespace Go.Proofs.YtkjkafgnnoidpaaGreatDoor
open Go.Proofs.Tryz
open Go.RowKit
variable{w:World}{F F':Nat->Prop}
theorem Qkc{T U:RT}(hF:∀b,F b->b<w.heap.size)(N:∀b,F' b->b<w.heap.size)(hT:IsT w F T)(hU:IsT w F' U)(ok:OkR T)(b8:OkR U)(hl:(Qab T).length<=1000000)(c4:(Qab U).length<=1000000) :
  Calls prog 34 #[Qau T,Qau U] w λe w'=>e=.returned (.bool (QcT (Qab T) (Qab U)))/\Ext w w':=by
 obtain⟨p,hp⟩:=Qaq T;obtain⟨q,hq⟩:=Qaq U;have b0:∀W,Ext w W->Calls prog 29 #[.agg #[.pointer p],.agg #[.pointer q]] W λe w'=>e=.returned (.bool (decide (p=q)))/\Ext W w':=λW I=>Qtr W p q ((hT.leads hp).ext I) ((hU.leads hq).ext I)
 have c3:∀W,Ext w W->Calls prog 33 #[.agg #[.pointer p]] W λe w'=>e=.returned (.int .i64 (Qab T).length)/\Ext W w':=λW I=>by
  have:=QeF (λb hb=>ab (hF b hb) I.size) (hT.agree (I.agree hF));rwa[Qau,hp]at this
 have a8:∀W,Ext w W->Calls prog 33 #[.agg #[.pointer q]] W λe w'=>e=.returned (.int .i64 (Qab U).length)/\Ext W w':=λW I=>by
  have:=QeF (λb hb=>ab (N b hb) I.size) (hU.agree (I.agree N));rwa[Qau,hq]at this
 have b5:∀W,Ext w W->Calls prog 31 #[.agg #[.pointer p]] W (QaQ (Qab T) W):=λW I=>by
  have:=QcG (λb hb=>ab (hF b hb) I.size) (hT.agree (I.agree hF)) ok hl;rwa[Qau,hp]at this
 have c7:∀W,Ext w W->Calls prog 31 #[.agg #[.pointer q]] W (QaQ (Qab U) W):=λW I=>by
  have:=QcG (λb hb=>ab (N b hb) I.size) (hU.agree (I.agree N)) b8 c4;rwa[Qau,hq]at this
 have Z:p=q->QcT (Qab T) (Qab U)=true:=λe=>by
  rw[hT.det hU (by rw[hp,hq,e]),Qec]
 rw[Qau,Qau,hp,hq];have a5:=hY b0;have a7:=hY c3;have a9:=hY a8;have d7:=hY b5;have d5:=hY c7;have c6:=hY Z;clear b0 c3 a8 b5 c7 Z hp hq hF N hT hU ok b8 hl c4;obtain⟨r,hr⟩:∃r,QcT (Qab T) (Qab U)=r:=⟨_,rfl⟩;have HR:=hY hr;rw[hr];clear hr;by_cases a6:p=q
 ·obtain rfl:r=true:=by rw [←HR.o];exact c6.o a6
  subst a6;clear a5;go_in;go_wp2_with fail;generalize L:World.alloc (World.alloc _ _) _=W0;obtain⟨R,c9,a3,a2⟩:=Qap w _ _ _ _ W0 L;clear L;refine(QkQ W0 p).mono ?_;rintro e w1 ⟨rfl,hx⟩;go_wp2_with fail;go_ret;exact⟨rfl,R.trans hx⟩
 have hd:decide (p=q)=false:=eh a6;rw[hd]at a5;clear hd;go_in;go_wp2_with fail;generalize L:World.alloc (World.alloc _ _) _=W0;obtain⟨R,c9,a3,a2⟩:=Qap w _ _ _ _ W0 L;clear L;refine(a5.o _ R).mono ?_;rintro e w1 ⟨rfl,Y⟩;have J:=hY (R.trans Y);have c1:=a3.ext Y;have c0:=a2.ext Y;have z:=hY (show ∀W,Ext w1 W->W.cell? ⟨w.heap.size,0,none⟩=some (.pointer p)/\W.cell? ⟨w.heap.size+1,0,none⟩=some (.pointer q) fromλW I=>⟨(c1.ext I).cell 0,(c0.ext I).cell 0⟩);clear R Y a3 a2 c1 c0;by_cases X:(Qab T).length=(Qab U).length
 ·have c8:((Qab U).length:Int)=((Qab U).length:Int):=rfl
  rw[X]at a7;go_wp2_with fail;refine ez (S:=(λw'=>Ext w1 w')) (by kernel_rfl) (((fu w1).drew)) (λhHeld=>?_);refine Qad 0 (some 8) z hHeld ?_;refine Qad 2 (some 10) z hHeld ?_;refine Qag (i:=1) (by kernel_rfl) rfl (by rfl) (λK D=>?_);go_simp
  (refine(a7.o _ (J.o.trans hHeld)).mono ?_;rintro e wa ⟨rfl,a0⟩)
  refine D.out _ _ (hHeld.trans a0) (λhHeld=>?_);clear D K
  try simp only[Act.put,List.setIfInBounds_toArray,List.set_cons_zero,List.set_cons_succ]
  refine Qag (i:=3) (by kernel_rfl) rfl (by rfl) (λK D=>?_);go_simp
  (refine(a9.o _ (J.o.trans hHeld)).mono ?_;rintro e wb ⟨rfl,a4⟩)
  refine D.out _ _ (hHeld.trans a4) (λhHeld=>?_);clear D K
  try simp only[Act.put,List.setIfInBounds_toArray,List.set_cons_zero,List.set_cons_succ]
  refine Qad 4 (some 12) z hHeld ?_;refine Qad 5 (some 13) z hHeld ?_;refine Qad 6 (some 14) z hHeld ?_;refine Qad 8 (some 16) z hHeld ?_;refine Qag (i:=7) (by kernel_rfl) rfl (by rfl) (λK D=>?_);go_simp
  (refine(d7.o _ (J.o.trans hHeld)).mono ?_;rintro e wc ⟨sc,yc,rfl,c2,b3,d6⟩;have d8:=hY c2;have d0:=hY b3;clear c2 b3)
  refine D.out _ _ (hHeld.trans d6) (λhHeld=>?_);clear D K
  try simp only[Act.put,List.setIfInBounds_toArray,List.set_cons_zero,List.set_cons_succ]
  refine Qag (i:=9) (by kernel_rfl) rfl (by rfl) (λK D=>?_);go_simp
  (refine(d5.o _ (J.o.trans hHeld)).mono ?_;rintro e we ⟨se,ye,rfl,b6,b4,b7⟩;have a1:=Qij ((d0.o.es.mono (G:=Lt wc.heap.size) λi hi=>hi.2).ext b7) (b4.es.mono (G:=Lt we.heap.size) λi hi=>hi.2);rw[b6,d8.o,HR.o]at a1;have d3:=hY a1;clear b6 b4 a1)
  refine D.out _ _ (hHeld.trans b7) (λhHeld=>?_);clear D K
  try simp only[Act.put,List.setIfInBounds_toArray,List.set_cons_zero,List.set_cons_succ]
  refine Qag (i:=10) (by kernel_rfl) rfl (by rfl) (λK D=>?_);go_simp
  (refine d3.o.mono ?_;rintro e wf ⟨rfl,d4⟩)
  refine D.out _ _ (hHeld.trans d4) (λhHeld=>?_);clear D K
  try simp only[Act.put,List.setIfInBounds_toArray,List.set_cons_zero,List.set_cons_succ]
  refine Qad 11 (some 19) z hHeld ?_;refine Qad 12 (some 4) z hHeld ?_;refine eE (by kernel_rfl) ?_ _;have HX:=hY (J.o.trans hHeld);clear hHeld;go_wp2_with fail;go_ret;exact⟨rfl,HX.o⟩
 obtain rfl:r=false:=by rw[<-HR.o];exact QiM X
 have c8:(((Qab T).length:Int) ==((Qab U).length:Int))=false:=eu.2 (by omega);clear X;go_wp2_with fail;refine ez (S:=(λw'=>Ext w1 w')) (by kernel_rfl) (((fu w1).drew)) (λhHeld=>?_);refine Qad 0 (some 8) z hHeld ?_;refine Qad 2 (some 10) z hHeld ?_;refine Qag (i:=1) (by kernel_rfl) rfl (by rfl) (λK D=>?_);go_simp
 (refine(a7.o _ (J.o.trans hHeld)).mono ?_;rintro e wa ⟨rfl,a0⟩)
 refine D.out _ _ (hHeld.trans a0) (λhHeld=>?_);clear D K
 try simp only[Act.put,List.setIfInBounds_toArray,List.set_cons_zero,List.set_cons_succ]
 refine Qag (i:=3) (by kernel_rfl) rfl (by rfl) (λK D=>?_);go_simp
 (refine(a9.o _ (J.o.trans hHeld)).mono ?_;rintro e wb ⟨rfl,a4⟩)
 refine D.out _ _ (hHeld.trans a4) (λhHeld=>?_);clear D K
 try simp only[Act.put,List.setIfInBounds_toArray,List.set_cons_zero,List.set_cons_succ]
 refine Qad 4 (some 12) z hHeld ?_;refine Qad 5 (some 13) z hHeld ?_;refine QdI 6 (some 14) hHeld ?_;refine QdI 7 (some 15) hHeld ?_;refine QdI 8 (some 16) hHeld ?_;refine QdI 9 (some 17) hHeld ?_;refine QdI 10 (some 18) hHeld ?_;refine Qad 11 (some 19) z hHeld ?_;refine Qad 12 (some 4) z hHeld ?_;refine eE (by kernel_rfl) ?_ _;have HX:=hY (J.o.trans hHeld);clear hHeld;go_wp2_with fail;go_ret;exact⟨rfl,HX.o⟩
end Go.Proofs.YtkjkafgnnoidpaaGreatDoor
