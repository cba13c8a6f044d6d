/- What the theorem needs of the texts Guard13: no condition of its own. -/
import Derived.Test.YtkjkafgnnoidpaaGreatDoorPgn
import Derived.Test.YtkjkafgnnoidpaaGreatDoorPgr
import Derived.Test.YtkjkafgnnoidpaaGreatDoorPgs
set_option linter.unusedVariables false
set_option linter.unusedSimpArgs false
set_option linter.unnecessarySimpa false
set_option maxRecDepth 100000
set_option maxHeartbeats 4000000
namespace Go.Proofs.YtkjkafgnnoidpaaGreatDoor
open Go.Proofs.Tryz
open Go.RowKit Go.Maps Go.Shelf
variable{w:World}{s0 sl so:Sl}
theorem guard13{l:List LE}{k:ByteArray}{had:Bool}{was:Val}(hs:ES w (Lt w) s0 l)(hc:∀x∈l,cntV x.v<=1100000)(hv:RV w (Lt w) was sl so)(o0:cntV was<=1100000)(o8:k.size+cntV was<=1048576)(hL:Qb9 w) :
  Calls prog 4 #[.slice s0.a l.length s0.c,.string k,.bool had,aggV was sl so] w λe w'=>e=.returned (.bool true)/\Nw w w':=by
 have p4:=hL.lib.big;have l5:=hY (λW (I:Nw w W)=>QsF (hL.nw I));have HL:=hY hL;have HS:=hY hs;have HC:=hY hc;have HV:=hY hv;have o3:k.size<=maxLen:=by unfold maxLen;omega
 have d0:∀D,QcF (Qu1 D k had was)<=1100000:=λD=>by
  rw[QcF,Qdr,show cntV zeroV=7 by decide +kernel,show(ByteArray.empty).size=0 from rfl];omega
 have b6:=hY d0;have e2:=hY (show ∀W D,Nw w W->(Lit.int .i64 D).wf=true->RMu W (Lt W) (Qu1 D k had was) ⟨sl,so,Sl.none,Sl.none,Sl.none⟩ fromλW D I wk=>
  QgW ((hv.agree (fC I λb z=>z)).mono λb z=>ab z I.size) (Qcj _ _) o3 (by decide) wk (by decide))
 clear hL hs hc hv d0 o0 o8;go_in;go_upto_region 1 with fail;generalize i1:World.alloc _ _=w0;obtain⟨j2,k9⟩:Ext w w0/\Blk w0 w.heap.size 28 (Qlj was sl so):=by rw[<-i1];exact⟨(fu w).alloc _ _,fx w _ _⟩
 have X:=hY j2;have j1:=hY k9;clear i1 j2 k9;by_cases q0:60<l.length
 ·have l1:decide ((60:Int)<(l.length:Int))=true:=ej (by omega)
  go_wp2_with fail;refine(l5.o _ (fv X.o)).mono ?_;rintro e w1 ⟨rfl,hn⟩;have HN:=hY ((fv X.o).trans hn);clear hn;go_wp2_with fail;go_ret;exact⟨rfl,HN.o⟩
 have l1:decide ((60:Int)<(l.length:Int))=false:=eh (by omega);go_wp2_with fail;have a8:ES w0 (Lt w0) s0 l:=(HS.o.agree (X.o.agree λb z=>z)).mono λb z=>ab z X.o.size
 refine(Qla a8 (by omega) HC.o).mono ?_;rintro e w1 ⟨M,s,xs,H,rfl,L⟩;obtain⟨E,j3,q3,c8,p7,U⟩:=Qvp L a8 (by omega);have c1:=hY ((fv X.o).trans L.nw);have i6:=hY (L.nw.blk j1.o);have e3:=hY j3;have d8:=hY c8;have k5:=hY U;have p5:=hY L.below;clear L j3 c8 U a8;go_wp2_with fail;refine k5.o.mono ?_;rintro e w2 ⟨T1,p1,rfl,l8,n6,l6,n2,e1⟩;go_upto_region 5 with fail;generalize k7:World.alloc w2 _=w3;obtain⟨a5,n4,p9⟩:=Qcb k7;have a0:Nw w1 w3:=(fv e1).trans (fv a5);have f0:=a0.blk i6.o;have z2:=e1.size;have z1:=c1.o.size;have a9:=hY (show ∀D W,(Lit.int .i64 D).wf=true->Nw w3 W->Calls prog 25 #[.agg #[.pointer p1],QaG (Qu1 D k had was) ⟨sl,so,Sl.none,Sl.none,Sl.none⟩] W λe w'=>∃T' p',e=.returned (.tuple #[.agg #[.pointer p'],.int .i64 (runM E (Qu1 D k had was)).1])/\Qay T'=.pointer p'/\OkR T'/\IsT w' (Up (In w1.heap.size w2.heap.size) W w') T'/\Qab T'=(runM E (Qu1 D k had was)).2/\OkM (runM E (Qu1 D k had was)).2/\Nw W w'/\((runM E (Qu1 D k had was)).2=E->T'=T1) fromλD W wk I=>
  QuZ l8 n6 l6 ((n2.agree (a5.agree λb z=>z.2)).agree (fC I λb z=>ab z.2 a5.size)) (λb z=>⟨by have:=z.1;omega,ab z.2 (aj a5.size I.size)⟩) e3.o (by omega) (e2.o W D ((c1.o.trans a0).trans I) wk) (b6.o D) (HL.o.nw ((c1.o.trans a0).trans I)))
 have j6:=hY (c1.o.trans a0);have b8:=hY (Qpp d8.o a0);have f5:=hY f0;obtain⟨b0,b1,b2,b3,b4,b5⟩:=f0.c6;clear k7 e1 a5 a0 l8 n6 l6 n2 f0 z2 i6 k5 d8 X j1 HS HC;go_upto_region 6 with(refine Qa0 rfl rfl rfl (Qu1 7 k had was) ⟨sl,so,Sl.none,Sl.none,Sl.none⟩ (w0:=w3) (b:=w3) rfl ((fu w3).alloc _ _) (fx w3 _ _) rfl rfl rfl ?_;intro w4 c2 j4);have b7:=hY (f5.o.ext c2);have a4:=hY (n4.ext c2);have g5:=hY (fD j4);have g8:=hY c2;clear b0 b1 b2 b3 b4 b5 n4 j4 c2;obtain⟨b0,b1,b2,b3,b4,b5⟩:=b7.o.c6;go_upto_region 7 with(refine Qa0 rfl rfl rfl (Qu1 4 k had was) ⟨sl,so,Sl.none,Sl.none,Sl.none⟩ (w0:=w4) (b:=w4) rfl ((fu w4).alloc _ _) (fx w4 _ _) rfl rfl rfl ?_;intro w5 a2 g6);have e4:=hY ((fv g8.o).trans (fv a2));have d6:=hY (b7.o.ext a2);have c3:=hY (a4.o.ext a2);have e7:=hY (g5.o.ext a2);have i3:=hY (fD g6);have n7:w5.cell? ⟨w2,0,none⟩=some (.pointer p1):=(a4.o.ext a2).cell 0;clear b0 b1 b2 b3 b4 b5 a2 g6 g5 g8 b7 a4 f5;go_wp2_with(refine Qak rfl (.tmp 12) rfl w3.heap.size 0 rfl (Qu1 7 k had was) ⟨sl,so,Sl.none,Sl.none,Sl.none⟩ e7.o ?_);refine(a9.o 7 w5 (by decide) e4.o).mono ?_;rintro e w6 ⟨T2,p2,rfl,-,-,-,-,-,k6,-⟩;have h7:=Qvn E k had was;obtain⟨r7,l2⟩:∃r,(runM E (Qu1 7 k had was)).1=r:=⟨_,rfl⟩;rw[l2]at h7 ⊢;have H7:=hY h7;clear h7 l2;go_upto_region 8 with fail;generalize j8:World.alloc w6 _=w7;obtain⟨f6,-,-⟩:=Qcb j8;have Z:Nw w5 w7:=k6.trans (fv f6);have a1:=hY (e4.o.trans Z);have d7:=hY (Z.blk d6.o);have j0:w7.cell? ⟨w2,0,none⟩=some (.pointer p1):=(Z.blk c3.o).cell 0;have d3:=hY (e7.o.nw Z);have a3:=hY (i3.o.nw Z);clear j8 f6 k6 Z n7 d6 c3 e7 i3;go_wp2_with(refine Qak rfl (.tmp 13) rfl w4.heap.size 0 rfl (Qu1 4 k had was) ⟨sl,so,Sl.none,Sl.none,Sl.none⟩ a3.o ?_);refine(a9.o 4 w7 (by decide) a1.o).mono ?_;rintro e w8 ⟨T3,p3,rfl,f9,k8,k0,e8,g0,f1,-⟩;have R:=Qvm E k had was;have Y:=Qvl (k:=k) (had:=had) (was:=was) e3.o.sorted;have a6:(runM E (Qu1 4 k had was)).2.length<=1000:=by
  unfold runM;split
  .show E.length<=_;omega
  have:=Qp2 (Qu1 4 k had was) E;rw[Qc9]at this;omega
 obtain⟨r4,g9⟩:∃r,runM E (Qu1 4 k had was)=r:=⟨_,rfl⟩;rw[g9]at R Y a6 e8 g0 ⊢;have H4:=hY R;have i9:=hY Y;have k3:=hY e8;have p0:=hY f9;clear R Y g9 e8 f9;go_upto_region 9 with fail;generalize l4:World.alloc w8 _=w9;obtain⟨e6,i5,o1⟩:=Qcb l4;have N:Nw w7 w9:=f1.trans (fv e6);have J:=(j6.o.trans a1.o).trans N;have n8:=hY (show Nw w w9 from J);have c9:=hY (N.blk d7.o);have k1:=hY (show ∀W,Nw w9 W->W.rangeAt w3.heap.size 0 (QfQ (Qu1 7 k had was) ⟨sl,so,Sl.none,Sl.none,Sl.none⟩).toList fromλW I=>(d3.o.nw (N.trans I)).range);have k2:=hY (show ∀W,Nw w9 W->W.rangeAt w4.heap.size 0 (QfQ (Qu1 4 k had was) ⟨sl,so,Sl.none,Sl.none,Sl.none⟩).toList fromλW I=>(a3.o.nw (N.trans I)).range);obtain⟨da,j7⟩:=Qvg (Qu1 7 k had was) ⟨sl,so,Sl.none,Sl.none,Sl.none⟩;have i2:=hY j7;obtain⟨db,j9⟩:=Qvg (Qu1 4 k had was) ⟨sl,so,Sl.none,Sl.none,Sl.none⟩;have k4:=hY j9;have a7:=hY (show ∀D W,(Lit.int .i64 D).wf=true->Nw w9 W->Calls prog 26 #[QaG (Qu1 D k had was) ⟨sl,so,Sl.none,Sl.none,Sl.none⟩] W λe w'=>e=.returned (.int .i64 (QbE (Qu1 D k had was)))/\Ext W w' fromλD W wk I=>Qve (e2.o W D (J.trans I) wk) (b6.o D));have j5:w8.heap.size<w9.heap.size:=o1;have d5:=hY (show ∀W,Nw w9 W->Calls prog 28 #[.agg #[.pointer p3],.string k] W (QbO (Qam r4.2 k) W) fromλW I=>by
  have hF:∀b,Up (In w1.heap.size w2.heap.size) w7 w8 b->b<w9:=λb z=>z.elim (λh=>by have:=h.2;have:=a1.o.size;have:=N.size;omega) λh=>by have:=h.2;omega
  have h:=Qhj (λb z=>ab (hF b z) I.size) ((k0.agree (e6.agree λb z=>z.elim (λh=>by have:=h.2;have:=a1.o.size;have:=f1.size;omega) λh=>h.2)).agree (fC I λb z=>hF b z)) k8 (by rw[k3.o];omega) k;rw[Qau,p0.o,k3.o]at h;exact h)
 have i8:=hY i5;have l3:=hY (show ∀W,Nw w9 W->Calls prog 27 #[.pointer (some ⟨M,0,none⟩),.string k,.bool had,aggV was sl so] W λe w'=>e=.returned (.bool (asM E k had was))/\Ext W w' fromλW I=>
  Qvj (Qpp b8.o ((a1.o.trans N).trans I)) e3.o.sorted k had ((HV.o.agree (fC (J.trans I) λb z=>z)).mono λb z=>ab z (J.trans I).size))
 clear j7 j9 l4 e6 f1 N J i5 a6 k8 k0 g0 j0 d7 d3 a3 a9 j5 b8 e2 b6 HV j6 e4 a1;refine ez (S:=(λw'=>Nw w9 w')) (by kernel_rfl) ((fv ((fu w9).drew))) (λhHeld=>?_);refine Qvs 0 (some 54) 31 (.tmp 12) k1 hHeld i2.o ?_;refine Qvs 2 (some 56) 31 (.tmp 13) k2 hHeld k4.o ?_;refine Qag (i:=1) (by kernel_rfl) rfl (by rfl) (λK hK=>?_);go_simp
 (refine(a7.o 7 _ (by decide) hHeld).mono ?_;rintro e wa ⟨rfl,o4⟩)
 refine hK.out _ _ (hHeld.trans (fv o4)) (λhHeld=>?_);clear hK K
 try simp only[Act.put,List.setIfInBounds_toArray,List.set_cons_zero,List.set_cons_succ]
 refine Qag (i:=3) (by kernel_rfl) rfl (by rfl) (λK hK=>?_);go_simp
 (refine(a7.o 4 _ (by decide) hHeld).mono ?_;rintro e wb ⟨rfl,o2⟩)
 refine hK.out _ _ (hHeld.trans (fv o2)) (λhHeld=>?_);clear hK K
 try simp only[Act.put,List.setIfInBounds_toArray,List.set_cons_zero,List.set_cons_succ]
 refine Qar 4 (some 18) hHeld ?_;refine Qar 5 (some 19) hHeld ?_;refine eE (by kernel_rfl) ?_ _;obtain⟨b0,b1,b2,b3,b4,b5⟩:=(hHeld.blk c9.o).c6;have l7:=hY hHeld;have d4:=hY (l3.o _ hHeld);clear hHeld;go_wp2_with fail;refine d4.o.mono ?_;rintro e wc ⟨rfl,l9⟩;have f3:=hY (show Nw w9 wc from l7.o.trans (fv l9));clear l9 b0 b1 b2 b3 b4 b5;obtain⟨is,c0⟩:∃b,asM E k had was=b:=⟨_,rfl⟩;obtain⟨f7,e0⟩:∃f,QbE (Qu1 7 k had was)=f:=⟨_,rfl⟩;obtain⟨f4,f2⟩:∃f,QbE (Qu1 4 k had was)=f:=⟨_,rfl⟩;have h7:=H7.o;have R:=H4.o;unfold Qvh at h7 R;rw[c0,e0]at h7;rw[c0,f2]at R;obtain⟨q4,E4⟩:=r4;have Y:q4=0->Qam E4 k=none:=i9.o
 replace R:q4=if f4=0 then(if is then 0 else 13)else f4:=R
 rw[c0,e0,f2];have c7:(f7=0/\is=true/\r7=0)\/(f7=0/\is=false/\r7=13)\/((f7==0)=false/\(f7 != f7)=false/\r7=f7):=by
  by_cases h:f7=0
  .rw [em h]at h7;cases is<;>simp_all
  rw[ef h]at h7;exact .inr (.inr ⟨by simp[h],by simp,h7⟩)
 have c4:(f4=0/\is=true/\q4=0/\(Qam E4 k).isSome=false)\/(f4=0/\is=false/\q4=13)\/((f4==0)=false/\(f4 != 0)=true/\(f4 != f4)=false/\q4=f4):=by
  by_cases h:f4=0
  ·rw [em h] at R
   cases is
   .exact .inr (.inl ⟨h,rfl,R⟩)
   exact .inl ⟨h,rfl,R,by rw[Y R];rfl⟩
  rw[ef h]at R;exact .inr (.inr ⟨by simp[h],by simp[h],by simp,R⟩)
 have o6:=hY (show Calls prog 28 #[.agg #[.pointer p3],.string k] wc (QbO (Qam E4 k) wc)from d5.o wc f3.o);have p6:wc.cell? ⟨w8,0,none⟩=some (.pointer p3):=(Nw.blk f3.o i8.o).cell 0;have o9:=hY (n8.o.trans f3.o);clear h7 R Y c0 e0 f2 H7 H4 i9 d4 l7 l3 d5 a7 k1 k2 i2 k4 c9 i8;rcases c7 with⟨z7,i7,rfl⟩ |⟨z7,i7,rfl⟩ |⟨g7,p8,rfl⟩<;>rcases c4 with⟨z4,i4,rfl,o7⟩ |⟨z4,i4,rfl⟩ |⟨g4,q2,q1,rfl⟩
 all_goals (
  first
  |(rw[i7]at i4;cases i4;done)
  | (try subst z7
     try subst z4
     try(first|subst i7|subst i4)
     go_wp2_with fail;refine o6.o.mono ?_;rintro e wd ⟨s1,s2,rfl,l0,-⟩;have o5:=hY (o9.o.trans (fv l0))
     (try rw[o7])
     clear l0;go_upto_region 18 with fail;generalize g3:World.alloc wd _=we;obtain⟨i0,-,-⟩:=Qcb g3;have f8:=hY (o5.o.trans (fv i0));clear g3 i0;go_wp2_with fail;refine(l5.o we f8.o).mono ?_;rintro e wf ⟨rfl,hn⟩;have n9:=hY (f8.o.trans hn);clear hn;go_wp2_with fail;go_ret;exact⟨rfl,n9.o⟩))
end Go.Proofs.YtkjkafgnnoidpaaGreatDoor
