/- What the theorem needs of the texts SubsCalm: no condition of its own. -/
import Derived.Laws.IdiomStrings
import Derived.WalkArith
import Derived.Test.YtohajcflklejjaaGreatPqa
import Derived.Test.YtohajcflklejjaaGreatPqb
import Derived.Test.YtohajcflklejjaaGreatPqc
import Derived.Test.YtohajcflklejjaaGreatPqd
import Derived.Test.YtohajcflklejjaaGreatPqe
import Derived.Test.YtohajcflklejjaaGreatPqf
import Derived.Test.YtohajcflklejjaaGreatPqg
import Derived.Test.YtohajcflklejjaaGreatPqh
import Derived.Test.YtohajcflklejjaaGreatPqi
import Derived.Test.YtohajcflklejjaaGreatPqj
import Derived.Test.YtohajcflklejjaaGreatPqk
namespace Go.Proofs.YtohajcflklejjaaGreat
open Go.RowKit
set_option linter.unusedVariables false
set_option linter.unusedSimpArgs false
theorem Qe8:∀ l:List Ent,QdB l l=true
 | []=>rfl
 | a :: l=>by simp [QdB,Qb4,Qe8 l]
theorem QgT (es:List Ent) (a:L27):(Qhx es a).length≤es.length+a.es.length:=by
 have h0:=QfC a.gs (QaB es (a.es.map LE.ent))
 have h1:=QcK (a.es.map LE.ent) es
 simp only [List.length_map] at h1
 unfold Qhx;omega
theorem Qhe {k:ByteArray} {v:Val}:∀ {A:List Ent},(∀ x∈A,klt x.1 k=true)→Qbs A k v=A++[(k,v)]
 | [],_=>rfl
 | e :: A,h=>by
   have h1:=h e (List.mem_cons_self ..)
   rw [Qbs,if_pos h1,Qhe fun x hx=>h x (List.mem_cons_of_mem _ hx)]
   rfl
theorem QeN:∀ {l A:List Ent},Sorted (A++l)→QaB A l=A++l
 | [],A,_=>by simp [QaB]
 | e :: l,A,h=>by
   have h1:∀ x∈A,klt x.1 e.1=true:=fun x hx=>(List.pairwise_append.1 h).2.2 x hx e (List.mem_cons_self ..)
   show QaB (Qbs A e.1 e.2) l=_
   rw [Qhe h1,QeN (by simpa using h)]
   simp
theorem TI.new {w:World} {H:Nat→Prop} {M:Nat} (hb:Blk w M 76 #[.slice none 0 0]) (hm:H M):TI H M [] none w:=⟨⟨hm,Sl.none,[],hb,ES.nil _ _,rfl⟩,trivial,trivial,rfl⟩
set_option maxRecDepth 100000 in
set_option maxHeartbeats 8000000 in
theorem subscalm_w (q:Qy) (a:L27) (w:World) (hq:q.short) (ha:A27 w (Lt w.heap.size) a∧a.es.length*3+a.gs.length≤1048576) :
  Calls Tryz.prog 10 #[q.v,a.v] w fun e w'=>e=.returned (.bool true)∧Below w.heap.size w w':=by
 have hrm:=fun W=>Qg2 q W
 obtain ⟨m,hmq⟩:∃ m,Qdb q=m:=⟨_,rfl⟩
 rw [hmq] at hrm
 have HRM:=Lib.hid hrm
 have HA:=Lib.hid ha.1
 have HAN:=Lib.hid ha.2
 have HQ:=Lib.hid hq
 have HM:=Lib.hid hmq
 clear hrm ha hq hmq
 obtain ⟨kd,lo,hi,op⟩:=q
 obtain ⟨akd,aq,aid,ps,es,gp,gs⟩:=a
 dsimp only [L27.v]
 by_cases hm0:m=0
 ·subst hm0
  go_enter Tryz.func10,Tryz.ntmps10
  go_wp2_with fail
  generalize hW0:World.alloc (World.alloc w _) _=w0
  obtain ⟨hx0,hz0,hbq,hba⟩:=Qaw w _ _ _ _ w0 hW0
  clear hW0
  have HX0:=Lib.hid hx0
  have HBQ:=Lib.hid hbq
  have HBA:=Lib.hid hba
  clear hx0 hbq hba
  refine (HRM.out w0).mono ?_
  rintro e w1 ⟨rfl,hx1⟩
  have HX1:=Lib.hid (HX0.out.trans hx1)
  have HBQ1:=Lib.hid (HBQ.out.ext hx1)
  have HBA1:=Lib.hid (HBA.out.ext hx1)
  clear hx1
  have q0:w1.cell? ⟨w.heap.size,0,none⟩=some (.int .i64 kd):=HBQ1.out.cell 0
  have q1:w1.cell? ⟨w.heap.size,1,none⟩=some (.string lo):=HBQ1.out.cell 1
  have q2:w1.cell? ⟨w.heap.size,2,none⟩=some (.string hi):=HBQ1.out.cell 2
  have q3:w1.cell? ⟨w.heap.size,3,none⟩=some (.bool op):=HBQ1.out.cell 3
  have lq:=HBQ1.out.lt
  go_wp2_with fail
  generalize hW2:World.alloc w1 _=w2
  have hreg0:QaU w2 w1.heap.size none 0 none []:=by rw [←hW2];exact QaU.new (Blk.new _ _ _)
  have hx12:Ext w1 w2:=by rw [←hW2];exact (Ext.refl w1).alloc _ _
  clear hW2 q0 q1 q2 q3
  refine (QdH hreg0 (by omega) ⟨kd,lo,hi,op⟩ HQ.out HM.out).mono ?_
  rintro e w3 ⟨s1,mb1,rfl,hiv1,hreg1,hmb1,hsb1⟩
  have hz1:=HX1.out.size
  have hz12:=hx12.size
  have hlb1:=HBA1.out.lt
  have hb3:Below w.heap.size w w3:=Sb.step (Sb.step HX1.out.below (hx12.sb fun _=>False) fun b hb=>hb.elim) hsb1 fun b hb=>by
   rcases hb with rfl | hb
   ·exact hz1
   ·cases hb
  have hrlo:∀ b,Qdg w1.heap.size mb1 b→w1.heap.size≤b:=fun b hb=>by
   rcases hb with rfl | hb
   ·exact Nat.le_refl _
   ·rcases hmb1 with h | ⟨c,h,hc⟩
    ·rw [h] at hb;cases hb
    ·rw [h] at hb;injection hb with hb;omega
  have hne0:∀ b,b<w1.heap.size→¬Qdg w1.heap.size none b:=fun b hb h=>by
   rcases h with rfl | h
   ·omega
   ·cases h
  have hba3:Blk w3 (w.heap.size+1) 71 _:=hsb1.blk (HBA1.out.ext hx12) (hne0 _ hlb1)
  have hbq3:Blk w3 w.heap.size 24 _:=hsb1.blk (HBQ1.out.ext hx12) (hne0 _ lq)
  have a0:w3.cell? ⟨w.heap.size+1,0,none⟩=some (.int .i64 akd):=hba3.cell 0
  have a1:w3.cell? ⟨w.heap.size+1,1,none⟩=some (.int .i64 aq.kind):=hba3.cell 1
  have a2:w3.cell? ⟨w.heap.size+1,2,none⟩=some (.string aq.lo):=hba3.cell 2
  have a3:w3.cell? ⟨w.heap.size+1,3,none⟩=some (.string aq.hi):=hba3.cell 3
  have a4:w3.cell? ⟨w.heap.size+1,4,none⟩=some (.bool aq.op):=hba3.cell 4
  have a5:w3.cell? ⟨w.heap.size+1,5,none⟩=some (.int .u64 aid):=hba3.cell 5
  have a6:w3.cell? ⟨w.heap.size+1,6,none⟩=some (.slice ps.a es.length ps.c):=hba3.cell 6
  have a7:w3.cell? ⟨w.heap.size+1,7,none⟩=some (.slice gp.a gs.length gp.c):=hba3.cell 7
  have la:=hba3.lt
  have HB3:=Lib.hid hb3
  have HRLO:=Lib.hid hrlo
  have HREG1:=Lib.hid hreg1
  have HBQ3:=Lib.hid hbq3
  have HIV1:=Lib.hid hiv1
  clear hreg0 hiv1 hreg1 hmb1 hsb1 hb3 hrlo hne0 hba3 hbq3 hx12
  go_wp2_with fail
  generalize hW4:World.alloc w3 _=w4
  have hbm:Blk w4 w3.heap.size 76 #[.slice none 0 0]:=by rw [←hW4];exact Blk.new w3 _ _
  have hx34:Ext w3 w4:=by rw [←hW4];exact (Ext.refl w3).alloc _ _
  clear hW4 a0 a1 a2 a3 a4 a5 a6 a7
  obtain ⟨H0,hH0⟩:∃ H0:Nat→Prop,H0=fun b=>b=w3.heap.size∨Qdg w1.heap.size mb1 b:=⟨_,rfl⟩
  have hz3:=HB3.out.size
  have hz34:=hx34.size
  have hH0l:∀ b,H0 b→b<w4.heap.size:=fun b hb=>by
   rw [hH0] at hb
   rcases hb with rfl | hb
   ·exact hbm.lt
   ·have:=QbP HREG1.out b hb;omega
  have hA4:A27 w4 (NH H0 w4) ⟨akd,aq,aid,ps,es,gp,gs⟩:=(HA.out.agree fun b hb=>(hx34.heap (Nat.lt_of_lt_of_le hb hz3)).trans (HB3.out.block b hb)).mono fun b hb=>⟨by have:b<w.heap.size:=hb;omega,fun h=>by
   have hb':b<w.heap.size:=hb
   rw [hH0] at h
   rcases h with rfl | h
   ·omega
   ·have:=HRLO.out b h;omega⟩
  have han:es.length*3+gs.length≤1048576:=HAN.out
  have htu:=Qik (TI.new hbm (by rw [hH0];exact .inl rfl)) hH0l hA4 (show 0+es.length≤900000 by omega) (show gs.length≤100000000 by omega) rfl
  have hlE:=QgT [] ⟨akd,aq,aid,ps,es,gp,gs⟩
  obtain ⟨E,hE⟩:∃ E,Qhx [] ⟨akd,aq,aid,ps,es,gp,gs⟩=E:=⟨_,rfl⟩
  rw [hE] at htu hlE
  have hEl:E.length≤349525:=by simp only [List.length_nil] at hlE;omega
  have HTU:=Lib.hid htu
  have HX34:=Lib.hid hx34
  have HREGH:=Lib.hid (show ∀ b,Qdg w1.heap.size mb1 b→H0 b from fun b hb=>by rw [hH0];exact .inr hb)
  clear htu hA4 hH0l hE hlE han hbm hx34 hH0
  refine HTU.out.mono ?_
  rintro e w5 ⟨T,pt,H,M,rfl,hpt,hTI,hH,hHH,hx5⟩
  have HPT:=Lib.hid hpt
  have HTI:=Lib.hid hTI
  have HH:=Lib.hid hH
  have HRH:=Lib.hid (show ∀ b,Qdg w1.heap.size mb1 b→H b from fun b hb=>hHH b (HREGH.out b hb))
  have HX5:=Lib.hid (HX34.out.trans hx5)
  clear hpt hTI hH hHH hx5 HTU
  go_wp2_with fail
  generalize hW6:World.alloc w5 _=w6
  have hx56:Ext w5 w6:=by rw [←hW6];exact (Ext.refl _).alloc _ _
  have hbt:Blk w6 w5.heap.size 33 #[.pointer pt]:=by rw [←hW6];exact Blk.new w5 _ _
  clear hW6
  have hz5:=HX5.out.size
  have hz56:=hx56.size
  have hreg6:=HREG1.out.ext (HX5.out.trans hx56)
  have hT6:IsT w6 (NH H w5) T:=HTI.out.tree.agree (hx56.agree fun b hb=>hb.1)
  have hFB:∀ b,NH H w5 b→¬Qdg w1.heap.size mb1 b:=fun b hb h=>hb.2 (HRH.out b h)
  have haf:=QbH hreg6 (T:=none) (F:=fun _=>False) (U:=T) trivial hT6 (fun b hb=>hb.elim) (fun b hb=>⟨by have:=hb.1;omega,hFB b hb⟩) trivial HTI.out.ok (by simp [Qaj]) (by rw [HTI.out.ents];omega) (by simp) (QfF (by simp))
  rw [Qau,HPT.out] at haf
  have HAF:=Lib.hid haf
  have HX56:=Lib.hid hx56
  have HBT:=Lib.hid hbt
  have HT6:=Lib.hid hT6
  have HFB:=Lib.hid hFB
  clear haf hx56 hbt hT6 hFB hreg6
  refine HAF.out.mono ?_
  rintro e w7 ⟨sl1,evs1,rfl,-,hreg7,hst7,-⟩
  have hR5:w1.heap.size<w3.heap.size:=HREG1.out.blk.lt
  have hbt7:Blk w7 w5.heap.size 33 #[.pointer pt]:=hst7.blk HBT.out (by omega)
  have t7:w7.cell? ⟨w5.heap.size,0,none⟩=some (.pointer pt):=hbt7.cell 0
  have l7:=hbt7.lt
  have hz67:=hst7.size
  have hT7:IsT w7 (NH H w5) T:=HT6.out.agree fun b hb=>hst7.block b (by have:=hb.1;omega) fun e=>HFB.out b hb (.inl e)
  have hen:=QeS (fun b hb=>by have:=hb.1;omega) hT7 HTI.out.ok (by rw [HTI.out.ents];omega)
  rw [Qau,HPT.out,HTI.out.ents] at hen
  have HEN:=Lib.hid hen
  have HREG7:=Lib.hid hreg7
  have HST7:=Lib.hid hst7
  have HT7:=Lib.hid hT7
  clear hen hreg7 hst7 hT7 hbt7 HAF
  go_wp2_with fail
  refine HEN.out.mono ?_
  rintro e w8 ⟨se,xe,rfl,hxe,hoe,hx8⟩
  have hbu:=QgI (hoe.es.mono (G:=Lt w8.heap.size) fun b hb=>hb.2) (by have:=congrArg List.length hxe;simp only [List.length_map] at this;omega)
  rw [hxe] at hbu
  have HBU:=Lib.hid hbu
  have HX8:=Lib.hid hx8
  clear hxe hoe hbu hx8 t7
  go_wp2_with fail
  refine HBU.out.mono ?_
  rintro e w9 ⟨T2,rfl,hb2,hT2,hx9⟩
  obtain ⟨p2,hp2⟩:=Qap T2
  have hsE:Sorted E:=by rw [←HTI.out.ents];exact HTI.out.ok.sorted
  have he2:Qaj T2=E:=hb2.both.2.trans (QeN (A:=[]) (l:=E) hsE)
  have hz8:=HX8.out.size
  have hz9:=hx9.size
  have hT9:IsT w9 (NH H w5) T:=HT7.out.agree ((HX8.out.trans hx9).agree fun b hb=>by have:=hb.1;omega)
  have haf:=QbH (HREG7.out.ext (HX8.out.trans hx9)) (T:=T) (F:=NH H w5) (U:=T2) hT9 hT2 (fun b hb=>⟨by have:=hb.1;omega,HFB.out b hb⟩) (fun b hb=>⟨hb.2,fun h=>by have:=QbP HREG1.out b h;have:=hb.1;omega⟩) HTI.out.ok hb2.both.1 (by rw [HTI.out.ents];omega) (by rw [he2];omega) (by simp) (QfF (by simp))
  rw [HTI.out.ents,he2,Qib,Qau,hp2] at haf
  have HAF2:=Lib.hid haf
  have HX9:=Lib.hid (HX8.out.trans hx9)
  rw [Qau,hp2]
  clear hb2 hT2 hx9 hp2 hsE he2 hT9 haf HBU HEN
  go_wp2_with fail
  refine HAF2.out.mono ?_
  rintro e w10 ⟨sl2,evs2,rfl,hmap2,hreg10,hst10,-⟩
  obtain rfl:evs2=[]:=List.map_eq_nil_iff.1 (hmap2.trans (QkE _))
  have HREG10:=Lib.hid hreg10
  have HST10:=Lib.hid hst10
  clear hmap2 hreg10 hst10 HAF2
  go_wp2_with fail
  refine (QkW HREG10.out (i:=1) (p:=(1,s1)) (by decide) rfl).mono ?_
  rintro e w11 ⟨rfl,hreg11,hsb11⟩
  have HREG11:=Lib.hid (show QaU w11 w1.heap.size T2 1 mb1 [] from hreg11)
  have HSB11:=Lib.hid hsb11
  clear hreg11 hsb11
  go_wp2_with fail
  refine (Qkq HREG11.out (i:=1) (by decide) rfl).mono ?_
  rintro e w12 ⟨rfl,hx12⟩
  have hreg12:=HREG11.out.ext hx12
  have hbq12:Blk w12 w.heap.size 24 _:=(HSB11.out.blk (HST10.out.blk ((HST7.out.blk (HBQ3.out.ext (HX5.out.trans HX56.out)) (by omega)).ext HX9.out) (by omega)) (fun h=>by have:=HRLO.out _ h;omega)).ext hx12
  have q0:w12.cell? ⟨w.heap.size,0,none⟩=some (.int .i64 kd):=hbq12.cell 0
  have q1:w12.cell? ⟨w.heap.size,1,none⟩=some (.string lo):=hbq12.cell 1
  have q2:w12.cell? ⟨w.heap.size,2,none⟩=some (.string hi):=hbq12.cell 2
  have q3:w12.cell? ⟨w.heap.size,3,none⟩=some (.bool op):=hbq12.cell 3
  have l12:=hbq12.lt
  have HX12:=Lib.hid hx12
  have HREG12:=Lib.hid hreg12
  clear hx12 hreg12 hbq12
  go_wp2_with fail
  refine (QdH HREG12.out (by omega) ⟨kd,lo,hi,op⟩ HQ.out HM.out).mono ?_
  rintro e w13 ⟨s2,mb2,rfl,hiv2,hreg13,hmb2,hsb13⟩
  have HREG13:=Lib.hid (show QaU w13 w1.heap.size T2 2 mb2 [(2,s2)] from hreg13)
  have HSB13:=Lib.hid hsb13
  clear hiv2 hreg13 hmb2 hsb13 q0 q1 q2 q3
  go_wp2_with fail
  refine (QhY HREG13.out (i:=1) (by decide) rfl).mono ?_
  rintro e w14 ⟨rfl,hx14⟩
  have HREG14:=Lib.hid (HREG13.out.ext hx14)
  have HX14:=Lib.hid hx14
  clear hx14
  go_wp2_with fail
  refine (QfF (L:=[(2,s2)]) (by simp) w14 HREG14.out (by simp)).mono ?_
  rintro e w15 ⟨sv,rfl,hov,hx15⟩
  have HOV:=Lib.hid hov
  have HX15:=Lib.hid (HX14.out.trans hx15)
  clear hov hx15
  go_wp2_with fail
  generalize hW16:World.alloc w15 _=w16
  have hx16:Ext w15 w16:=by rw [←hW16];exact (Ext.refl _).alloc _ _
  have hb16:Blk w16 w15.heap.size 34 #[.int .u64 2]:=by rw [←hW16];exact Blk.new w15 _ _
  clear hW16
  have hz16:=hx16.size
  refine (QgH (s:=sv) (s':=⟨some ⟨w15.heap.size,0,none⟩,1⟩) (xs:=[2]) (F:=In w14.heap.size w15.heap.size) (F':=fun b=>b=w15.heap.size) ((Rd.QaC HOV.out).agree (hx16.agree fun b hb=>hb.2)) (fun b hb=>by have:=hb.2;omega) (Rd.block (cs:=[2].map Qei) (n:=1) (size:=1) hb16 (by decide) (by simp)) (fun b hb=>by rw [hb];exact hb16.lt) (by simp)).mono ?_
  rintro e w17 ⟨rfl,hx17⟩
  have HX17:=Lib.hid (HX15.out.trans (hx16.trans hx17))
  clear hx16 hx17 hb16
  go_wp2_with fail
  refine (Qhy _).mono ?_
  rintro e w18 ⟨rfl,hb18⟩
  have HB18:=Lib.hid hb18
  clear hb18
  go_wp2_with fail
  go_ret
  refine ⟨rfl,?_⟩
  have k1:Below w.heap.size w w6:=Sb.step HB3.out ((HX5.out.trans HX56.out).sb fun _=>False) fun b hb=>hb.elim
  have k2:Below w.heap.size w w7:=Sb.step k1 HST7.out.sb fun b hb=>by rw [hb];exact hz1
  have k3:Below w.heap.size w w9:=Sb.step k2 (HX9.out.sb fun _=>False) fun b hb=>hb.elim
  have k4:Below w.heap.size w w10:=Sb.step k3 HST10.out.sb fun b hb=>by rw [hb];exact hz1
  have k5:Below w.heap.size w w11:=Sb.step k4 HSB11.out fun b hb=>by have:=HRLO.out b hb;omega
  have k6:Below w.heap.size w w12:=Sb.step k5 (HX12.out.sb fun _=>False) fun b hb=>hb.elim
  have k7:Below w.heap.size w w13:=Sb.step k6 HSB13.out fun b hb=>by have:=HRLO.out b hb;omega
  have k8:Below w.heap.size w w17:=Sb.step k7 (HX17.out.sb fun _=>False) fun b hb=>hb.elim
  exact Sb.step k8 (Sb.new (H:=fun _=>False) HB18.out) fun b hb=>hb.elim
 ·have g0:(m != 0)=true:=by simp [hm0]
  go_enter Tryz.func10,Tryz.ntmps10
  go_wp2_with fail
  generalize hW0:World.alloc (World.alloc w _) _=w0
  obtain ⟨hx0,hz0,hbq,hba⟩:=Qaw w _ _ _ _ w0 hW0
  clear hW0
  have HX0:=Lib.hid hx0
  clear hx0 hbq hba
  refine (HRM.out w0).mono ?_
  rintro e w1 ⟨rfl,hx1⟩
  have HX1:=Lib.hid (HX0.out.trans hx1)
  clear hx1
  go_wp2_with fail
  refine (Qhy _).mono ?_
  rintro e w2 ⟨rfl,hb2⟩
  have HB2:=Lib.hid hb2
  clear hb2
  go_wp2_with fail
  go_ret
  exact ⟨rfl,Sb.step HX1.out.below (Sb.new (H:=fun _=>False) HB2.out) fun b hb=>hb.elim⟩
end Go.Proofs.YtohajcflklejjaaGreat
