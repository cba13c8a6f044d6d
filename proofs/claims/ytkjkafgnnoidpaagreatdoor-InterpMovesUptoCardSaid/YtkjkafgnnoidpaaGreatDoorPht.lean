/- What the theorem needs of the texts Moves13: no condition of its own. -/
import Derived.Test.YtkjkafgnnoidpaaGreatDoorPhs
set_option linter.unusedVariables false
set_option linter.unusedSimpArgs false
set_option linter.unnecessarySimpa false
set_option maxRecDepth 100000
set_option maxHeartbeats 4000000
namespace Go.Proofs.YtkjkafgnnoidpaaGreatDoor
open Go.Proofs.Tryz
open Go.RowKit Go.Maps Go.Shelf
variable{W:World}
theorem Qwp{J D:Nat}{v:Val}{s1 s2 s3 z:Sl}(h1:Blk W J 70 (⟨ByteArray.empty,v,s1,s2⟩:LE).cells.toArray)(h2:Blk W D 70 (⟨ByteArray.empty,v,s3,z⟩:LE).cells.toArray)(X:RV W (Lt W) v s1 s2)(U:RV W (Lt W) v s3 z) :
  Calls prog 30 #[.slice (some ⟨J,0,none⟩) 1 1,.slice (some ⟨D,0,none⟩) 1 1] W λe w'=>e=.returned (.bool true)/\Ext W w':=by
 have N:ES W (Lt W) ⟨some ⟨J,0,none⟩,1⟩ [⟨ByteArray.empty,v,s1,s2⟩]:=QrU (xs:=[⟨ByteArray.empty,v,s1,s2⟩]) (by rw[show Qai [(⟨ByteArray.empty,v,s1,s2⟩:LE)]=(⟨ByteArray.empty,v,s1,s2⟩:LE).cells by simp[Qai]];exact h1) (λx I=>by rw[bn.1 I];exact⟨X,(by decide:ByteArray.empty.size<=maxLen)⟩) (by simp);have R:ES W (Lt W) ⟨some ⟨D,0,none⟩,1⟩ [⟨ByteArray.empty,v,s3,z⟩]:=QrU (xs:=[⟨ByteArray.empty,v,s3,z⟩]) (by rw[show Qai [(⟨ByteArray.empty,v,s3,z⟩:LE)]=(⟨ByteArray.empty,v,s3,z⟩:LE).cells by simp[Qai]];exact h2) (λx I=>by rw[bn.1 I];exact⟨U,(by decide:ByteArray.empty.size<=maxLen)⟩) (by simp);have h:=Qk9 N R;rw[show([(⟨ByteArray.empty,v,s1,s2⟩:LE)]).map LE.ent=[(ByteArray.empty,v)]from rfl,show([(⟨ByteArray.empty,v,s3,z⟩:LE)]).map LE.ent=[(ByteArray.empty,v)]from rfl,Qec]at h;exact h
variable{w:World}{s0:Sl}
theorem moves13{l:List LE}{f t:ByteArray}(hs:ES w (Lt w) s0 l)(hc:∀x∈l,Qb4 x.v<=1100000)(r3:f.size+t.size<=1048576)(hL:Qb9 w) :
  Calls prog 6 #[.slice s0.a l.length s0.c,.string f,.string t] w λe w'=>e=.returned (.bool true)/\Nw w w':=by
 have q1:=hL.lib.big;have g5:=hY (λW (I:Nw w W)=>QsF (hL.nw I));have HL:=hY hL;have HS:=hY hs;have HC:=hY hc;have f6:f.size<=maxLen:=by unfold maxLen;omega
 have i6:t.size<=maxLen:=by unfold maxLen;omega
 clear hL hs hc;go_in;by_cases r0:60<l.length
 ·have l1:decide ((60:Int)<(l.length:Int))=true:=ej (by omega)
  go_wp2_with fail;refine(g5.o w (fx (fv _))).mono ?_;rintro e w1 ⟨rfl,hn⟩;have HN:=hY hn;clear hn;go_wp2_with fail;go_ret;exact⟨rfl,HN.o⟩
 have l1:decide ((60:Int)<(l.length:Int))=false:=eh (by omega);go_wp2_with fail;refine(Qla HS.o (by omega) HC.o).mono ?_;rintro e w1 ⟨M,s,xs,H,rfl,a1⟩;obtain⟨E,j9,r2,e2,r5,a0⟩:=Qvp a1 HS.o (by omega);have k7:=hY a1.nw;have a5:=hY j9;have j2:=hY a0;have c9:=hY e2;have e7:=hY a1.below;clear a1 j9 a0 e2 l1;go_wp2_with fail;refine j2.o.mono ?_;rintro e w2 ⟨T1,p1,rfl,f0,i4,f5,j6,e8⟩;have z2:=e8.size;have z1:=k7.o.size;go_upto_region 5 with fail;generalize i7:World.alloc w2 _=w3;obtain⟨i1,g7,r6⟩:=Qcb i7;have X:Nw w1 w3:=(fx e8).trans (fx i1);have f8:Nw w w3:=k7.o.trans X;have c8:QcF (Qch f t)<=1100000:=by rw[QcF,Qdr,show Qb4 zeroV=7 by decide +kernel];omega
 have f9:IsT w3 (In w1.heap.size w2.heap.size) T1:=j6.agree (i1.agree λb D=>D.2);have a9:=hY (QsX f0 i4 f5 f9 (λb D=>⟨by have:=D.1;omega,by have:=D.2;omega⟩) a5.o (by omega) (Qc9 ..) (Qpl _ _ f6 i6) c8 (HL.o.nw f8));have b6:=hY (show ∀W,Nw w3 W->Calls prog 21 #[.pointer (some ⟨M,0,none⟩),QaG (Qch f t) zS] W (QvJ H W (runM E (Qch f t))) fromλW I=>QvN ((c9.o.nw X).nw I) (λb D=>by have:=e7.o b D;have:=X.size;have:=I.size;omega) a5.o (by omega) (Qpl _ _ f6 i6) c8);have o7:=hY f9;have n2:=hY f8;have k2:=hY g7;have l2:=hY f0;have n9:=hY f5;have g4:=hY (c9.o.nw X);have q9:w3.cell? ⟨w2,0,none⟩=some (.pointer p1):=g7.cell 0;obtain⟨r,hr⟩:∃r,runM E (Qch f t)=r:=⟨_,rfl⟩;rw[hr]at a9 b6;have HR:=hY hr;clear i7 e8 i1 g7 X f8 f0 i4 f5 j6 f9 c8 hr j2 HS HC c9;go_wp2_with fail;refine a9.o.mono ?_;rintro e w4 ⟨T2,p2,rfl,k1,i8,j3,j7,-,g8,b7⟩;have f4:=hY k1;have l6:=hY i8;have i0:=hY j7;have n6:=hY b7;clear k1 i8 j7 b7 q9;go_upto_region 6 with fail;generalize i5:World.alloc w4 _=w5;obtain⟨i2,d0,r4⟩:=Qcb i5;have c7:Nw w3 w5:=g8.trans (fx i2);have z4:=g8.size;have d6:=hY c7;have Y:=hY (fF c7 k2.o);have e0:=hY d0;have f1:=hY (n2.o.trans c7);have b5:∀b,Up (In w1.heap.size w2.heap.size) w3 w4 b->b<w4:=λb D=>D.elim (λh=>by have:=h.2;omega) λh=>h.2
 have k4:=hY (show IsT w5 (λb=>b<w4) T2 from(j3.agree (i2.agree b5)).mono b5);have q9:w5.cell? ⟨w2,0,none⟩=some (.pointer p1):=(fF c7 k2.o).cell 0;have f7:w5.cell? ⟨w4,0,none⟩=some (.pointer p2):=d0.cell 0;have l9:=Y.o.lt;have o9:=d0.lt;clear i5 i2 d0 g8 c7 j3 b5;by_cases h0:r.1=0
 rotate_left
 ·have g6:(r.1 != 0)=true:=by simp [h0]
  have q0:p2=p1:=by
   have h2:=f4.o;rw[n6.o (by have:=HR.o;rw[<-this]at h0 ⊢;exact QpN h0),l2.o]at h2;injection h2 with h2;exact h2.symm
  subst q0;have l8:=hY (b6.o w5 d6.o);clear h0;go_wp2_with fail;refine l8.o.mono ?_;rintro e w6 ⟨M2,rfl,e6⟩;have a4:Nw w5 w6:=by obtain⟨_,_,_,_,_,k⟩:=e6;exact k
  have o6:=hY (f1.o.trans a4);have q9:w6.cell? ⟨w2,0,none⟩=some (.pointer p2):=(fF a4 Y.o).cell 0;have f7:w6.cell? ⟨w4,0,none⟩=some (.pointer p2):=(fF a4 e0.o).cell 0;have l9:=(fF a4 Y.o).lt;have o9:=(fF a4 e0.o).lt;have gq:(r.1==r.1)=true:=by simp
  clear e6 a4;go_wp2_with fail;refine(QkQ w6 p2).mono ?_;rintro e w7 ⟨rfl,b4⟩;have k0:=hY (o6.o.trans (fx b4));clear b4;go_wp2_with fail;refine(g5.o w7 k0.o).mono ?_;rintro e w8 ⟨rfl,R⟩;have d3:=hY (k0.o.trans R);clear R;go_wp2_with fail;go_ret;exact⟨rfl,d3.o⟩
 have g6:(r.1 != 0)=false:=by simp[h0]
 have c6:r=QcA E f t:=by
  have h1:=HR.o;rw[Qg9]at h1;by_cases hk:QbE (Qch f t)=0
  .rw [ef (by simp[hk])]at h1;exact h1.symm
  rw[em hk]at h1;rw[<-h1]at h0;exact absurd h0 hk
 have k3:=hY (show ∀e∈E,Qam r.2 (if Qaj f e.1 then QaF f t e.1 else e.1)=some e.2 fromλe he=>by rw[c6];exact Qwe a5.o (by rw[<-c6];exact h0) he);have e4:=hY (show r.2.length=E.length by rw[c6];exact Qwf a5.o (by rw[<-c6];exact h0));obtain⟨sM,Z,i3,j4,g3⟩:=(g4.o.nw d6.o).ex;have q5:Z.length<=60:=by have:=congrArg List.length g3;rw[ao]at this;omega
 have e1:=hY i3;have o2:=hY j4;have p0:=hY g3;have c0:w5.cell? ⟨M,0,none⟩=some (.slice sM.a Z.length sM.c):=i3.cell 0;have o5:=hY (show Nw w5 w5 from fD _ _);clear h0 c6 i3 j4 g3 b6 a9 e7;go_wp2_with fail;go_loopw[14] (λo1 wr=>∃j:Nat,o1=.int .i64 (j:Int)/\j<=Z.length/\Yd (Nw w5 wr)) (λv _=>Z.length -(intOf v).toNat)
 case atStart=>exact⟨0,rfl,aw _,o5⟩
 obtain⟨j,rfl,hj,HQ⟩:=hrel;have c0:wr.cell? ⟨M,0,none⟩=some (.slice sM.a Z.length sM.c):=(fF HQ.o e1.o).cell 0;have q9:wr.cell? ⟨w2,0,none⟩=some (.pointer p1):=(fF HQ.o Y.o).cell 0;have f7:wr.cell? ⟨w4,0,none⟩=some (.pointer p2):=(fF HQ.o e0.o).cell 0;have zq:=HQ.o.size;by_cases k9:j<Z.length
 ·have g1:(j:Int)<(Z.length:Int):=by omega
  have q6:decide ((j:Int)<(Z.length:Int))=true:=ej g1;have g0:(0:Int)<=(j:Int):=by omega
  obtain⟨y,hy⟩:∃y,Z[j]? = some y:=⟨_,ac k9⟩;obtain⟨b0,o0,g9,f2,q8,q4,cK,l3,j0,k5⟩:=o2.o.at hy;have f3:(y.k,y.v)∈E:=by rw[<-p0.o];exact bE.2 ⟨y,am hy,rfl⟩
  have k6:=k3.o _ f3;have q3:y.k.size<=64:=Qe4 (a5.o.ok _ f3).1;have p4:=hY (show Calls prog 32 #[.string y.k,.string f] wr λe w'=>e=.returned (.bool (Qaj f y.k))/\wr=w' from Qi4 wr y.k f k5 f6);have k8:=hY (show ∀W,Nw w5 W->W.cell? ⟨b0,o0+j*7,none⟩=some (.string y.k)/\QaL W b0 (o0+j*7+1) y.v y.sl y.so fromλW I=>⟨(fB I (F:=Lt w5) λb D=>D).cell f2.1 |>.trans cK,l3.agree (fB I (F:=Lt w5) λb D=>D) f2.1⟩);have n8:=hY (show ∀W,Nw w5 W->RV W (Lt W) y.v y.sl y.so fromλW I=>(j0.agree (fB I λb D=>D.1)).mono λb D=>ab D.1 I.size);obtain⟨nk,J⟩:∃nk,(if Qaj f y.k then QaF f t y.k else y.k)=nk:=⟨_,rfl⟩;have e3:Qam r.2 nk=some y.v:=by rw[<-J];exact k6
  have p3:=hY (show Calls prog 28 #[.agg #[.pointer p2],.string nk] wr (QbO (some y.v) wr)from by
   have h:=Qhj (w:=wr) (F:=λb=>b<w4) (λb D=>by omega) (k4.o.agree (fB HQ.o λb D=>by omega)) l6.o (by rw[i0.o,e4.o];omega) nk;rwa[Qau,f4.o,i0.o,e3]at h)
  obtain⟨o4,-⟩:=k8.o wr HQ.o;rw[g9]at c0;clear hy f3 k6 e3 f2 cK l3 j0 k5;go_wp2_with fail;refine p4.o.mono ?_;rintro e w6 ⟨rfl,rfl⟩;clear o4;obtain⟨bg,d4⟩:∃b,Qaj f y.k=b:=⟨_,rfl⟩;rw[d4];rw[d4]at J;have l4:=hY J;have p6:=hY d4;clear d4 J;go_upto_if 77 with fail;go_cut [15] (λv w'=>v=.string nk/\w'=wr)
  case first=>
   cases bg with
   | true=>
     have J:QaF f t y.k=nk:=l4.o;have p5:=QvQ p6.o;have s1:((f.size:Nat):Int)<=(y.k.size:Int):=by omega
     have s0:(0:Int)<=((f.size:Nat):Int):=by omega
     have s2:¬9223372036854775807<t.size+(y.k.size-f.size):=by omega
     have q2:t++y.k.extract f.size y.k.size=nk:=J;clear p5 J;go_wp2_with fail;go_meet;exact⟨rfl,rfl⟩
   | false=>
     have J:y.k=nk:=l4.o;have o8:=hY J;clear J;go_wp2_with fail;go_meet;exact⟨by rw[o8.o],rfl⟩
  obtain⟨rfl,hw⟩:=hcut;obtain rfl:wr=wc:=hw.symm;go_wp2_with fail;refine p3.o.mono ?_;rintro e w7 ⟨s1,s2,rfl,b4,d5⟩;rw[dm,dN];have d5:=d5.rv;go_upto_region 16 with fail;generalize j5:World.alloc w7 _=w8;obtain⟨b3,j1⟩:Ext w7 w8/\Blk w8 w7.heap.size 28 (Qlj y.v s1 s2):=by rw[<-j5];exact⟨(fv w7).alloc _ _,fA w7 _ _⟩
  have R:Nw w5 w8:=(HQ.o.trans (fx b4)).trans (fx b3);have p7:=hY (show ∀W,Nw w8 W->RV W (Lt W) y.v s1 s2 fromλW I=>((d5.agree (b3.agree λb D=>D.2)).agree (fB I λb D=>ab D.2 b3.size)).mono λb D=>ab D.2 (al b3.size I.size));have d3:=hY R;have m0:w8.cell? ⟨M,0,none⟩=some (.slice (some ⟨b0,o0,none⟩) Z.length sM.c):=by
   have:=(fF R e1.o).cell 0;rw[g9]at this;exact this
  have l0:=fF R e1.o;have z:=hY (show ∀W,Nw w8 W->(W.cell? ⟨M,0,none⟩=some (.slice (some ⟨b0,o0,none⟩) Z.length sM.c)/\W.cell? ⟨b0,o0+j*7+1,none⟩=some (.int .i64 y.v.kind)/\W.cell? ⟨b0,o0+j*7+1+1,none⟩=some (.bool y.v.b)/\W.cell? ⟨b0,o0+j*7+1+2,none⟩=some (.int .i64 y.v.i)/\W.cell? ⟨b0,o0+j*7+1+3,none⟩=some (.string y.v.t)/\W.cell? ⟨b0,o0+j*7+1+4,none⟩=some (.slice y.sl.a y.v.l.length y.sl.c)/\W.cell? ⟨b0,o0+j*7+1+5,none⟩=some (.slice y.so.a y.v.ok.length y.so.c))/\W.cell? ⟨w7,0,none⟩=some (.int .i64 y.v.kind)/\W.cell? ⟨w7,1,none⟩=some (.bool y.v.b)/\W.cell? ⟨w7,2,none⟩=some (.int .i64 y.v.i)/\W.cell? ⟨w7,3,none⟩=some (.string y.v.t)/\W.cell? ⟨w7,4,none⟩=some (.slice s1.a y.v.l.length s1.c)/\W.cell? ⟨w7,5,none⟩=some (.slice s2.a y.v.ok.length s2.c)from
   λW I=>by
    obtain⟨-,h2⟩:=k8.o W (R.trans I);have hm:=(fF I l0).cell 0;have h8:=(fF I j1);rw[g9]at hm;exact⟨⟨hm,h2.c0,h2.c1,h2.c2,h2.c3,h2.c4,h2.c5⟩,h8.cell 0,h8.cell 1,h8.cell 2,h8.cell 3,h8.cell 4,h8.cell 5⟩)
  clear j5 b4 d5 b3 j1 R m0 l0;go_cut [108] (λv w'=>v=.bool false/\Nw w8 w')
  case first=>
   refine ez (S:=(λw'=>Nw w8 w')) (by kernel_rfl) ((fx ((fv w8).drew))) (λhHeld=>?_);refine Qad 0 (some 90) z hHeld ?_;refine Qad 1 (some 91) z hHeld ?_;refine Qad 2 (some 92) z hHeld ?_;refine Qad 3 (some 93) z hHeld ?_;refine Qad 4 (some 94) z hHeld ?_;refine Qad 6 (some 96) z hHeld ?_;refine Qad 7 (some 97) z hHeld ?_;refine Qad 8 (some 98) z hHeld ?_;refine Qad 9 (some 99) z hHeld ?_;refine Qad 10 (some 100) z hHeld ?_;refine Qad 11 (some 101) z hHeld ?_;refine Qad 12 (some 102) z hHeld ?_;refine Qad 13 (some 103) z hHeld ?_;refine Qad 14 (some 104) z hHeld ?_;have pm:=Tag.mk 0;have pa:=Tag.mk 1000
   repeat' (first
    |(have:=(pm:Tag 0);have:=(pa:Tag 1000);refine QfT 5 15 (λK tg N=>?_) (λK tg N=>?_))
    |(have:=(pm:Tag 0);have:=(pa:Tag 1001);refine QcH 15 (λK tg N=>?_))
    |(have:=(pm:Tag 1);have:=(pa:Tag 1000);refine QcH 5 (λK tg N=>?_))
    |(have:=(pm:Tag 1);have:=(pa:Tag 1001);refine QcH 16 (λK tg N=>?_))
    | (have:=(tg:Tag 5)
       clear this tg;clear pa;have pa:=Tag.mk 1001;go_simp
       (generalize b8:World.alloc _ _=wa;obtain⟨a3,i9,q7⟩:=Qcb b8;have a6:=hY (show Blk wa _ 70 (⟨ByteArray.empty,y.v,s1,s2⟩:LE).cells.toArray from i9);have d7:=hY a3;(try(have U:=hY (by first|exact U.o.ext a3|exact U.o.ext (((fv _).drew).trans a3))));clear b8 i9 a3)
       refine N.out _ _ ((by first|exact hHeld.trans (fx d7.o)|exact(fx d7.o).trans (fx ((fv wa).drew))|exact((fx d8.o).trans (fx d7.o)).trans (fx ((fv wa).drew)))) (λhHeld=>?_);clear N K
       try simp only[Act.put,List.setIfInBounds_toArray,List.set_cons_zero,List.set_cons_succ])
    | (have:=(tg:Tag 15)
       clear this tg;clear pm;have pm:=Tag.mk 1;go_simp
       (generalize b8:World.alloc _ _=wb;obtain⟨a2,j8,r1⟩:=Qcb b8;have U:=hY (show Blk wb _ 70 (⟨ByteArray.empty,y.v,y.sl,y.so⟩:LE).cells.toArray from j8);have d8:=hY a2;(try(have a6:=hY (by first|exact a6.o.ext a2|exact a6.o.ext (((fv _).drew).trans a2))));clear b8 j8 a2)
       refine N.out _ _ ((by first|exact hHeld.trans (fx d8.o)|exact(fx d8.o).trans (fx ((fv wb).drew))|exact((fx d7.o).trans (fx d8.o)).trans (fx ((fv wb).drew)))) (λhHeld=>?_);clear N K
       try simp only[Act.put,List.setIfInBounds_toArray,List.set_cons_zero,List.set_cons_succ])
    | (have:=(tg:Tag 16)
       clear this tg;clear pm;have pm:=Tag.mk 2;go_simp
       (refine(Qwp (by first|exact a6.o|exact a6.o.ext ((fv _).drew)) (by first|exact U.o|exact U.o.ext ((fv _).drew)) (p7.o _ hHeld) (n8.o _ (d3.o.trans hHeld))).mono ?_;rintro e wd ⟨rfl,n4⟩)
       refine N.out _ _ (hHeld.trans (fx n4)) (λhHeld=>?_);clear N K
       try simp only[Act.put,List.setIfInBounds_toArray,List.set_cons_zero,List.set_cons_succ]
       refine Qad 17 (some 107) z hHeld ?_;refine Qad 18 (some 108) z hHeld ?_)
    | (have:=(pm:Tag 2);have:=(pa:Tag 1001);refine eE (by kernel_rfl) ?_ _
       go_wp2_with fail;go_meet;exact⟨rfl,hHeld⟩))
  obtain⟨rfl,l5⟩:=hcut;have p8:=hY (d3.o.trans l5);clear l5;go_wp2_with fail;go_roundw
  case measure=>simp[intOf];omega
  exact⟨j+1,by go_num,k9,p8⟩
 obtain rfl:j=Z.length:=by omega
 have g1:decide ((Z.length:Int)<(Z.length:Int))=false:=eh (by omega);have z:=hY (show ∀W,Nw wr W->W.cell? ⟨w2,0,none⟩=some (.pointer p1)/\W.cell? ⟨w4,0,none⟩=some (.pointer p2) fromλW I=>⟨(fF (HQ.o.trans I) Y.o).cell 0,(fF (HQ.o.trans I) e0.o).cell 0⟩);have o3:=hY (show ∀W,Nw wr W->Calls prog 33 #[.agg #[.pointer p2]] W λe w'=>e=.returned (.int .i64 (E.length:Int))/\Ext W w' fromλW I=>by
  have hz:=I.size;have h:=QeF (w:=W) (F:=λb=>b<w4) (λb D=>by omega) (k4.o.agree (fB (HQ.o.trans I) λb D=>by omega));rwa[Qau,f4.o,i0.o,e4.o]at h)
 have n7:=hY (show ∀W,Nw wr W->Calls prog 33 #[.agg #[.pointer p1]] W λe w'=>e=.returned (.int .i64 (E.length:Int))/\Ext W w' fromλW I=>by
  have hz:=I.size;have z5:=d6.o.size;have h:=QeF (w:=W) (F:=In w1.heap.size w2.heap.size) (λb D=>by have:=D.2;omega) (o7.o.agree (fB ((d6.o.trans HQ.o).trans I) λb D=>by have:=D.2;omega));rwa[Qau,l2.o,n9.o]at h)
 have gl:((E.length:Int) ==(E.length:Int))=true:=by simp
 clear c0 q9 f7;have c0:wr.cell? ⟨M,0,none⟩=some (.slice sM.a Z.length sM.c):=(fF HQ.o e1.o).cell 0;go_upto_region 18 with fail;refine ez (S:=(λw'=>Nw wr w')) (by kernel_rfl) ((fx ((fv wr).drew))) (λhHeld=>?_);refine Qad 0 (some 109) z hHeld ?_;refine Qad 2 (some 111) z hHeld ?_;refine Qag (i:=1) (by kernel_rfl) rfl (by rfl) (λK N=>?_);go_simp
 (refine(o3.o _ hHeld).mono ?_;rintro e wa ⟨rfl,a3⟩)
 refine N.out _ _ (hHeld.trans (fx a3)) (λhHeld=>?_);clear N K
 try simp only[Act.put,List.setIfInBounds_toArray,List.set_cons_zero,List.set_cons_succ]
 refine Qag (i:=3) (by kernel_rfl) rfl (by rfl) (λK N=>?_);go_simp
 (refine(n7.o _ hHeld).mono ?_;rintro e wb ⟨rfl,a2⟩)
 refine N.out _ _ (hHeld.trans (fx a2)) (λhHeld=>?_);clear N K
 try simp only[Act.put,List.setIfInBounds_toArray,List.set_cons_zero,List.set_cons_succ]
 refine Qad 4 (some 113) z hHeld ?_;refine Qad 5 (some 114) z hHeld ?_;refine Qag (i:=6) (by kernel_rfl) rfl (by rfl) (λK N=>?_);go_simp
 (refine(g5.o _ ((f1.o.trans HQ.o).trans hHeld)).mono ?_;rintro e wd ⟨rfl,l7⟩)
 refine N.out _ _ (hHeld.trans l7) (λhHeld=>?_);clear N K
 try simp only[Act.put,List.setIfInBounds_toArray,List.set_cons_zero,List.set_cons_succ]
 refine Qad 7 (some 116) z hHeld ?_;refine Qad 8 (some 6) z hHeld ?_;refine eE (by kernel_rfl) ?_ _;have p9:=hY ((f1.o.trans HQ.o).trans hHeld);go_wp2_with fail;go_ret;exact⟨rfl,p9.o⟩
end Go.Proofs.YtkjkafgnnoidpaaGreatDoor
