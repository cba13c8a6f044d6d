/- What the theorem needs of the texts As13, GrdP: no condition of its own. -/
import Derived.Test.YtkjkafgnnoidpaaGreatDoorPgh
set_option linter.unusedVariables false
set_option linter.unusedSimpArgs false
set_option linter.unnecessarySimpa false
set_option maxRecDepth 100000
set_option maxHeartbeats 1000000
namespace Go.Proofs.YtkjkafgnnoidpaaGreatDoor
open Go.Proofs.Tryz
open Go.RowKit Go.Maps Go.Shelf
variable{H:Nat->Prop}{w:World}{sl so:Sl}
theorem Qvj{M:Nat}{es:List Ent}(h:MapAt H w M es)(hso:Sorted es)(k:ByteArray)(had:Bool){was:Val}(hv:RV w (Lt w.heap.size) was sl so) :
  Calls prog 27 #[.pointer (some ⟨M,0,none⟩),.string k,.bool had,aggV was sl so] w λe w'=>e=.returned (.bool (asM es k had was))/\Ext w w':=by
 obtain⟨r,hr⟩:∃r,asM es k had was=r:=⟨_,rfl⟩;rw[hr];unfold asM at hr;have HSO:=hY hso;have HV:=hY hv;have HR:=hY hr;have HM:=hY h;clear hso h hv hr;go_in;go_upto_region 1 with fail;generalize hW0:World.alloc _ _=W0;obtain⟨hx0,hb0⟩:Ext w W0/\Blk W0 w.heap.size 28 (Qlj was sl so):=by rw[<-hW0];exact⟨(fu w).alloc _ _,fx w _ _⟩
 have HG:=hY (Qvu (HM.o.ext hx0) HSO.o k);have HX0:=hY hx0;have HB0:=hY hb0;clear hW0 hx0 hb0;go_wp2_with fail;refine HG.o.mono ?_;rintro e w1 ⟨s1,s2,rfl,hx1,hv1⟩;have HX1:=hY (HX0.o.trans hx1);have HB1:=hY (HB0.o.ext hx1);obtain⟨og,hog⟩:∃og,Qam es k=og:=⟨_,rfl⟩;rw[hog]at hv1 HR ⊢;have HV1:=hY (hv1.mono λb hb=>ab hb hx1.size);clear hx1 hv1 hog HG HX0 HB0;cases og with
 | none=>
   have hr:(!had)=r:=HR.o;subst hr;cases had with
   | false=>
     go_wp2_with fail;go_ret;exact⟨rfl,HX1.o.alloc _ _⟩
   | true=>
     go_wp2_with fail;go_ret;exact⟨rfl,HX1.o.alloc _ _⟩
 | some x=>
   have hr:(had&&decide (Qbo x was=0))=r:=HR.o;cases had with
   | false=>
     have hr:false=r:=hr;subst hr;go_wp2_with fail;go_ret;exact⟨rfl,HX1.o.alloc _ _⟩
   | true=>
     have HR2:=hY hr;have hcall:∀W,Ext w1 W->Calls prog 55 #[aggV x s1 s2,aggV was sl so] W (QbX (Qbo x was) W):=λW hW=>
      Qof _ x was (an _) W s1 s2 sl so ((HV1.o.agree (hW.agree λb hb=>hb)).mono λb hb=>ab hb hW.size) ((HV.o.agree ((HX1.o.trans hW).agree λb hb=>hb)).mono λb hb=>ab hb (HX1.o.trans hW).size)
     have HC:=hY hcall;clear hr hcall;go_upto_region 2 with fail;generalize hW2:World.alloc w1 _=w2;obtain⟨hx2,hb2⟩:Ext w1 w2/\Blk w2 w1.heap.size 28 (Qlj x s1 s2):=by rw[<-hW2];exact⟨(fu w1).alloc _ _,fx w1 _ _⟩
     obtain⟨b0,b1,b2,b3,b4,b5⟩:=(HB1.o.ext hx2).c6;obtain⟨d0,d1,d2,d3,d4,d5⟩:=hb2.c6;have HX2:=hY hx2;clear hW2 hx2 hb2;go_wp2_with fail;refine(HC.o _ HX2.o).mono ?_;rintro e w3 ⟨rfl,hx3⟩;have HX3:=hY ((HX1.o.trans HX2.o).trans hx3);clear hx3;go_wp2_with fail;go_ret;refine⟨?_,HX3.o⟩;rw[<-HR2.o];by_cases hz:Qbo x was=0<;>simp[hz,Act.put]
abbrev Qu1(kd:Int)(k:ByteArray)(had:Bool)(was:Val):Mu:=.mk kd k ByteArray.empty 0 had was false zeroV []
def Qvh(x:Mu)(is:Bool):Int:=if QbE x=0 then(if is then 0 else 13)else QbE x
theorem Qvn(E:List Ent)(k:ByteArray)(had:Bool)(was:Val):(runM E (Qu1 7 k had was)).1=Qvh (Qu1 7 k had was) (asM E k had was):=by
 unfold runM Qvh;by_cases h:QbE (Qu1 7 k had was)=0
 ·rw [ef (by simp [h]),em h,stepM]
  cases asM E k had was<;>simp[Qks]
 rw[em h,ef h]
theorem Qvm(E:List Ent)(k:ByteArray)(had:Bool)(was:Val):(runM E (Qu1 4 k had was)).1=Qvh (Qu1 4 k had was) (asM E k had was):=by
 unfold runM Qvh;by_cases h:QbE (Qu1 4 k had was)=0
 ·rw [ef (by simp [h]),em h,stepM]
  cases asM E k had was<;>simp
 rw[em h,ef h]
variable{E:List Ent}
theorem Qvl(D:Sorted E){k:ByteArray}{had:Bool}{was:Val}(h:(runM E (Qu1 4 k had was)).1=0):Qam (runM E (Qu1 4 k had was)).2 k=none:=by
 unfold runM at h ⊢;by_cases z:QbE (Qu1 4 k had was)=0
 ·rw [ef (by simp [z])] at h ⊢
  rw[stepM]at h ⊢;cases I:asM E k had was
  .rw [I]at h;simp at h
  simp;rw[QcL _ _ _ D,em rfl]
 rw[em z]at h;exact absurd h z
end Go.Proofs.YtkjkafgnnoidpaaGreatDoor
