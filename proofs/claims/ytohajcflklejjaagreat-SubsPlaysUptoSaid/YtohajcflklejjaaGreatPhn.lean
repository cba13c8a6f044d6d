/- What the theorem needs of the texts Plays27: no condition of its own. -/
import Derived.Deep.CutRange
import Derived.Deep.DeepCutAuto
import Derived.Deep.CutBlock
import Derived.Laws.IdiomStrings
import Derived.WalkArith
import Derived.Test.YtohajcflklejjaaGreatPha
import Derived.Test.YtohajcflklejjaaGreatPhb
import Derived.Test.YtohajcflklejjaaGreatPhc
import Derived.Test.YtohajcflklejjaaGreatPhd
import Derived.Test.YtohajcflklejjaaGreatPhe
import Derived.Test.YtohajcflklejjaaGreatPhf
import Derived.Test.YtohajcflklejjaaGreatPhg
import Derived.Test.YtohajcflklejjaaGreatPhh
import Derived.Test.YtohajcflklejjaaGreatPhi
import Derived.Test.YtohajcflklejjaaGreatPhj
import Derived.Test.YtohajcflklejjaaGreatPhk
import Derived.Test.YtohajcflklejjaaGreatPhl
import Derived.Test.YtohajcflklejjaaGreatPhm
set_option maxRecDepth 100000
set_option maxHeartbeats 8000000
namespace Go.Proofs.YtohajcflklejjaaGreat
open Go.RowKit
set_option linter.unusedVariables false
set_option linter.unusedSimpArgs false
theorem Qi2 (s:Sl) (acts:List L27) (idn:Nat) (w:World) (hidn:idn≤18446744073709551615) (hA:AS27 w (Lt w.heap.size) s acts) (htot:totA acts acts.length≤1048576) :
  Calls Tryz.prog 9 #[.slice s.a acts.length s.c,.int .u64 (idn:Int)] w fun e w'=>e=.returned (.bool true)∧Below w.heap.size w w':=by
 have HA:=Lib.hid hA
 clear hA
 by_cases h60:60<acts.length
 ·have g60:(60:Int)<(acts.length:Int):=by omega
  go_enter Tryz.func9,Tryz.ntmps9
  go_wp2_with fail
  refine (QlN _).mono ?_
  rintro e w2 ⟨rfl,hb2⟩
  have HB2:=Lib.hid hb2
  clear hb2
  go_wp2_with fail
  go_ret
  exact ⟨rfl,HB2.out⟩
 have g60:¬(60:Int)<(acts.length:Int):=by omega
 have hn60:acts.length≤60:=by omega
 go_enter Tryz.func9,Tryz.ntmps9
 go_wp2_with fail
 generalize hW1:World.alloc w _=w1
 have hb1:Blk w1 w.heap.size 37 #[.pointer none,.int .u64 0,.map none]:=by rw [←hW1];exact Blk.new w _ _
 have hx1:Ext w w1:=by rw [←hW1];exact (Ext.refl w).alloc _ _
 have hz1:w1.heap.size=w.heap.size+1:=by rw [←hW1];simp
 clear hW1
 have HB1:=Lib.hid hb1
 have HX1:=Lib.hid hx1
 have HZ1:=Lib.hid hz1
 clear hb1 hx1 hz1
 refine (Qib w1).mono ?_
 rintro e w2 ⟨rfl,hrf,hmb,hx2,hz2⟩
 have HRF:=Lib.hid hrf
 have HMB:=Lib.hid hmb
 have HX2:=Lib.hid hx2
 have HZ2:=Lib.hid hz2
 clear hrf hmb hx2 hz2
 go_wp2_with fail
 generalize hW3:World.alloc w2 _=w3
 have hb3:Blk w3 w2.heap.size 33 #[.pointer none]:=by rw [←hW3];exact Blk.new w2 _ _
 have hx3:Ext w2 w3:=by rw [←hW3];exact (Ext.refl w2).alloc _ _
 have hz3:w3.heap.size=w2.heap.size+1:=by rw [←hW3];simp
 clear hW3
 obtain ⟨R,hR⟩:∃ R,R=w.heap.size:=⟨_,rfl⟩
 obtain ⟨TB,hTB⟩:∃ TB,TB=w2.heap.size:=⟨_,rfl⟩
 obtain ⟨base,hbase⟩:∃ base,base=w1.heap.size:=⟨_,rfl⟩
 obtain ⟨Q,hQ⟩:∃ Q,Q=w1.heap.size+1:=⟨_,rfl⟩
 have hz1:=HZ1.out
 have hz2:=HZ2.out
 have hps:PS w R Q TB base none none none [] Sl.none [] w1.heap.size [] (fun b=>w.heap.size≤b∧b<w3.heap.size) w3:=by
  subst hR hTB hbase hQ
  have hx13:=HX2.out.trans hx3
  exact ⟨QaR.new (HB1.out.ext hx13),HRF.out.ext hx3,⟨⟨⟨by omega,by omega⟩,Sl.none,[],HMB.out.ext hx3,ES.nil _ _,rfl⟩,trivial,trivial,rfl⟩,rfl,hb3,rfl,⟨by omega,by omega⟩,fun b hb=>(by cases hb),⟨by omega,by omega⟩,fun b hb=>(by cases hb),⟨by omega,by omega⟩,fun b hb=>hb.1,fun b hb=>hb.2,((HX1.out.trans HX2.out).trans hx3).below⟩
 have HPS0:=Lib.hid hps
 have hbw:base≤w3.heap.size:=by omega
 rw [←hR,←hTB,←hQ]
 clear hps hb3 hx3 hz1 hz2 hz3 hR hTB hQ hbase
 go_loopg [8] (acts.length+1) (fun gk i wr=>∃ (j:Nat) (T:RT) (p:Option Addr) (mb:Option Nat) (L:Qbc) (sB:Sl) (B:QBs) (M:Nat) (E:List Ent) (H:Nat→Prop),i=.int .i64 j∧j≤acts.length∧acts.length<gk+j∧B.length≤j∧Hid (PS w R Q TB base T p mb L sB B M E H wr)∧Hid (E.length*9≤totA acts j)∧base≤wr.heap.size)
 case atStart=>exact ⟨0,none,none,none,[],Sl.none,[],w1.heap.size,[],_,rfl,Nat.zero_le _,by omega,Nat.zero_le _,HPS0,Lib.hid (Nat.zero_le _),hbw⟩
 obtain ⟨j,T,p,mb,L,sB,B,M,E,H,rfl,hj,hgk,hBj,HPS,HEL,hbr⟩:=hrel
 by_cases hlt:j<acts.length
 ·obtain ⟨g',rfl⟩:∃ g',gk=g'+1:=⟨gk - 1,by omega⟩
  have g1:(j:Int)<(acts.length:Int):=by omega
  obtain ⟨a,ha⟩:∃ a,acts[j]? = some a:=⟨_,List.getElem?_eq_getElem hlt⟩
  have htj:=Qmi ha
  have htl:=Qoo acts (j+1)
  obtain ⟨b,o,hsa,hFb,hlc,hlm,hcc,hA27,hi0,hi1⟩:=HA.out.at ha
  obtain ⟨sa,sc⟩:=s
  dsimp only at hsa hlc hlm
  subst hsa
  have hwz:=HPS.out.bel.size
  have lb0:b<w.heap.size:=hFb
  have lb:b<wr.heap.size:=by omega
  have hcr:∀ c u,(a8 a)[c]? = some u→wr.cell? ⟨b,o+j*8+c,none⟩=some u:=fun c u hu=>((Agree.of_below HPS.out.bel (F:=Lt w.heap.size) fun b hb=>hb).cell lb0).trans (hcc c u hu)
  have HA27:=Lib.hid hA27
  obtain ⟨akd,aq,aid,ps,es,gp,gs⟩:=a
  obtain ⟨ai,hai⟩:∃ ai:Nat,(ai:Int)=aid:=⟨aid.toNat,Int.toNat_of_nonneg hi0⟩
  subst hai
  have hai64:ai≤18446744073709551615:=by have:((ai:Nat):Int)≤18446744073709551615:=hi1;omega
  have a0:wr.cell? ⟨b,o+j*8,none⟩=some (.int .i64 akd):=hcr 0 _ rfl
  have a1:wr.cell? ⟨b,o+j*8+1,none⟩=some (.int .i64 aq.kind):=hcr 1 _ rfl
  have a2:wr.cell? ⟨b,o+j*8+2,none⟩=some (.string aq.lo):=hcr 2 _ rfl
  have a3:wr.cell? ⟨b,o+j*8+3,none⟩=some (.string aq.hi):=hcr 3 _ rfl
  have a4:wr.cell? ⟨b,o+j*8+4,none⟩=some (.bool aq.op):=hcr 4 _ rfl
  have a5:wr.cell? ⟨b,o+j*8+5,none⟩=some (.int .u64 (ai:Int)):=hcr 5 _ rfl
  have a6:wr.cell? ⟨b,o+j*8+6,none⟩=some (.slice ps.a es.length ps.c):=hcr 6 _ rfl
  have a7:wr.cell? ⟨b,o+j*8+7,none⟩=some (.slice gp.a gs.length gp.c):=hcr 7 _ rfl
  have HTJ:=Lib.hid htj
  have HTL:=Lib.hid htl
  clear hcc hcr hA27 hi0 hi1 ha htj htl
  go_upto_region 10 with fail
  generalize hW4:World.alloc wr _=w4
  have hb4:Blk w4 wr.heap.size 71 #[.int .i64 akd,.int .i64 aq.kind,.string aq.lo,.string aq.hi,.bool aq.op,.int .u64 (ai:Int),.slice ps.a es.length ps.c,.slice gp.a gs.length gp.c]:=by rw [←hW4];exact Blk.new wr _ _
  have hx4:Ext wr w4:=by rw [←hW4];exact (Ext.refl wr).alloc _ _
  clear hW4 a0 a1 a2 a3 a4 a5 a6 a7 lb lb0
  have hz4:=hx4.size
  have hps4:=HPS.out.ext hx4
  have HPS4:=Lib.hid hps4
  have HB4:=Lib.hid hb4
  have hk0:w4.cell? ⟨wr.heap.size,0,none⟩=some (.int .i64 akd):=hb4.cell 0
  have hlt4:=hb4.lt
  clear hb4 hx4 hps4
  go_upto_block 2 with fail
  go_cut [10,11,12,13,14,15,16] (fun s10 s11 s12 s13 s14 s15 s16 wc=>∃ (T:RT) (p:Option Addr) (mb:Option Nat) (L:Qbc) (sB:Sl) (B:QBs) (M:Nat) (E:List Ent) (H:Nat→Prop),Hid (PS w R Q TB base T p mb L sB B M E H wc)∧B.length≤j+1∧Hid (E.length*9≤totA acts (j+1))∧base≤wc.heap.size)
  case first=>
   have hq:=HA27.out.q
   have hB6:B.length≤1000000:=by omega
   by_cases hk1:akd=1
   ·have e1:(akd == 1)=true:=by rw [hk1];rfl
    clear hk1
    have hadd:=Qhr HPS4.out.reg hB6 aq hq
    obtain ⟨m,hm⟩:∃ m,Qd4 aq=m:=⟨_,rfl⟩
    unfold QkR at hadd
    rw [hm] at hadd
    have HM:=Lib.hid hm
    have HADD:=Lib.hid hadd
    have c1:w4.cell? ⟨wr.heap.size,1,none⟩=some (.int .i64 aq.kind):=HB4.out.cell 1
    have c2:w4.cell? ⟨wr.heap.size,2,none⟩=some (.string aq.lo):=HB4.out.cell 2
    have c3:w4.cell? ⟨wr.heap.size,3,none⟩=some (.string aq.hi):=HB4.out.cell 3
    have c4:w4.cell? ⟨wr.heap.size,4,none⟩=some (.bool aq.op):=HB4.out.cell 4
    clear hadd hm hk0
    go_wp2_with fail
    refine HADD.out.mono ?_
    rintro e w5 (⟨hm0,rfl,hx5⟩ | ⟨hm0,s1,mb',rfl,hiv,hreg,hmb,hsb⟩)
    ·have hps5:=HPS4.out.ext hx5
     have hb5:=HB4.out.ext hx5
     have d1:w5.cell? ⟨wr.heap.size,1,none⟩=some (.int .i64 aq.kind):=hb5.cell 1
     have d2:w5.cell? ⟨wr.heap.size,2,none⟩=some (.string aq.lo):=hb5.cell 2
     have d3:w5.cell? ⟨wr.heap.size,3,none⟩=some (.string aq.hi):=hb5.cell 3
     have d4:w5.cell? ⟨wr.heap.size,4,none⟩=some (.bool aq.op):=hb5.cell 4
     have hz5:=hx5.size
     have l5:=hb5.lt
     have hra:=Qex hps5.rf hB6 (by omega) aq hq
     rw [HM.out] at hra
     have HPS5:=Lib.hid hps5
     have HRA:=Lib.hid hra
     have hmm:(m != m)=false:=by simp
     have hmu:((0:Int) != 0)=false:=rfl
     clear hra hps5 hb5 hx5 c1 c2 c3 c4 HADD
     go_wp2_with fail
     refine HRA.out.mono ?_
     rintro e w6 (⟨-,rfl,hx6⟩ | ⟨hm1,-⟩)
     ·have HPS6:=Lib.hid (HPS5.out.ext hx6)
      have hz6:=hx6.size
      clear hx6 d1 d2 d3 d4
      go_wp2_with fail
      go_meet
      exact ⟨T,p,mb,L,sB,B,M,E,H,HPS6,by omega,Lib.hid (by have:=HEL.out;have:=HTJ.out;omega),by omega⟩
     exact absurd hm1 hm0
    have hz5:=hsb.size
    have hb5:Blk w5 wr.heap.size 71 _:=hsb.blk HB4.out fun h=>by have:=QbV HPS.out.reg _ h;omega
    have d1:w5.cell? ⟨wr.heap.size,1,none⟩=some (.int .i64 aq.kind):=hb5.cell 1
    have d2:w5.cell? ⟨wr.heap.size,2,none⟩=some (.string aq.lo):=hb5.cell 2
    have d3:w5.cell? ⟨wr.heap.size,3,none⟩=some (.string aq.hi):=hb5.cell 3
    have d4:w5.cell? ⟨wr.heap.size,4,none⟩=some (.bool aq.op):=hb5.cell 4
    have l5:=hb5.lt
    have hra:=Qex (HPS4.out.rf1 hsb) hB6 (by omega) aq hq
    rw [HM.out] at hra
    have HRA:=Lib.hid hra
    have HREG:=Lib.hid hreg
    have HMB5:=Lib.hid hmb
    have HSB:=Lib.hid hsb
    have HIV:=Lib.hid hiv
    have hne:(((B.length+1:Nat):Int) != ((B.length:Int)+1))=false:=by simp
    have hne2:(((B.length:Int)+1) != ((B.length:Int)+1))=false:=by simp
    have hmu:((0:Int) != 0)=false:=rfl
    clear hra hb5 hreg hmb hsb hiv c1 c2 c3 c4 HADD
    go_wp2_with fail
    refine HRA.out.mono ?_
    rintro e w6 (⟨hm1,-⟩ | ⟨-,s',rfl,hrf,hst,hs'⟩)
    ·exact absurd hm0 hm1
    have hz6:=hst.size
    have HPS6:=Lib.hid (HPS4.out.added HREG.out HMB5.out HSB.out HIV.out (by rw [HM.out];exact hm0) hrf hst hs')
    clear hrf hst hs' d1 d2 d3 d4
    go_wp2_with fail
    go_meet
    exact ⟨T,p,_,_,s',_,M,E,_,HPS6,by simp;omega,Lib.hid (by have:=HEL.out;have:=HTJ.out;omega),by omega⟩
   have e1:(akd == 1)=false:=beq_eq_false_iff_ne.2 hk1
   clear hk1
   by_cases hk2:akd=2
   ·have e2:(akd == 2)=true:=by rw [hk2];rfl
    clear hk2
    have hmu:((0:Int) != 0)=false:=rfl
    have hmv:((12:Int) != 12)=false:=rfl
    have hpsd:=HPS4.out.ext ((Ext.refl w4).drew)
    have HPSD:=Lib.hid hpsd
    have HSS:=Lib.hid (show ∀ W,Blk W wr.heap.size 71 #[.int .i64 akd,.int .i64 aq.kind,.string aq.lo,.string aq.hi,.bool aq.op,.int .u64 (ai:Int),.slice ps.a es.length ps.c,.slice gp.a gs.length gp.c]→W.cell? ⟨wr.heap.size,5,none⟩=some (.int .u64 (ai:Int)) from fun W hW=>hW.cell 5)
    have HBD:=Lib.hid (HB4.out.ext ((Ext.refl w4).drew))
    have hnr:∀ b,Qdp R mb b→¬wr.heap.size=b:=fun b hb e=>by have:=QbV HPS.out.reg b hb;omega
    have hns:¬sB.row=some wr.heap.size:=fun e=>by have:=(Qac HPS.out.rf.own e).2;omega
    have HNR:=Lib.hid hnr
    have HNS:=Lib.hid hns
    clear hnr hns
    rcases hpsd.hb.look ai with ⟨i,q,iv,hie,hbi,hhas,hfind,hk⟩ | ⟨hhas,hfind⟩
    ·have hdr:=Qlo hpsd.reg hai64 hfind
     have HDR:=Lib.hid hdr
     have HRD:=Lib.hid (show ∀ W,Sb (Qdp R mb) w4.drew W→Calls Tryz.prog 34 #[.pointer (some ⟨Q,0,none⟩),.int .u64 (ai:Int)] W fun e w'=>e=.returned (.int .i64 0)∧Qdv w' base Q M sB (Qd1 B ai)∧St (fun b=>sB.row=some b) W w' from fun W hW=>
      (QdL (HPSD.out.rf1 hW) hB6 hai64).mono fun e w' h=>by
        rcases h with ⟨h,-⟩ | ⟨-,h⟩
        ·rw [hhas] at h;cases h
        exact h)
     have HIE:=Lib.hid hie
     clear hdr hbi hhas hfind hk hpsd hie
     go_wp2_with fail
     refine wp_region_held_drew (S:=(fun w'=>Blk w' wr.heap.size 71 #[.int .i64 akd,.int .i64 aq.kind,.string aq.lo,.string aq.hi,.bool aq.op,.int .u64 (ai:Int),.slice ps.a es.length ps.c,.slice gp.a gs.length gp.c])) (by kernel_rfl) (HBD.out) (fun hHeld=>?_)
     refine Qab 0 (some 82) HSS hHeld ?_
     refine Qab 1 (some 83) HSS hHeld ?_
     refine Qab 3 (some 85) HSS hHeld ?_
     refine Qab 4 (some 86) HSS hHeld ?_
     refine Qab 5 (some 87) HSS hHeld ?_
     refine Qaa (i:=2) (by kernel_rfl) rfl (by rfl) (fun K hK=>?_)
     go_simp
     (refine HDR.out.mono ?_;rintro e w5 ⟨rfl,hreg,hsb⟩;have HREG:=Lib.hid hreg;have HSB:=Lib.hid hsb;clear hreg hsb)
     refine hK.out _ _ ((HSB.out.blk HBD.out fun h=>HNR.out _ h rfl)) (fun hHeld=>?_)
     clear hK K
     try simp only [Act.put,List.setIfInBounds_toArray,List.set_cons_zero,List.set_cons_succ]
     refine Qaa (i:=6) (by kernel_rfl) rfl (by rfl) (fun K hK=>?_)
     go_simp
     (refine (HRD.out _ HSB.out).mono ?_;rintro e w6 ⟨rfl,hrf,hst⟩;have HRF6:=Lib.hid hrf;have HST6:=Lib.hid hst;clear hrf hst)
     refine hK.out _ _ ((HST6.out.blk hHeld fun h=>HNS.out h)) (fun hHeld=>?_)
     clear hK K
     try simp only [Act.put,List.setIfInBounds_toArray,List.set_cons_zero,List.set_cons_succ]
     refine Qab 7 (some 89) HSS hHeld ?_
     refine wpAnyH_done (by kernel_rfl) ?_ _
     clear hHeld
     have hz5:=HSB.out.size
     have hz6:=HST6.out.size
     have hzd:w4.drew.heap.size=w4.heap.size:=rfl
     go_wp2_with fail
     go_meet
     have hps6:=HPSD.out.dropped (i:=i) (by rw [←HIE.out];exact HREG.out) HSB.out (by rw [←HIE.out];exact HRF6.out) HST6.out
     exact ⟨T,p,mb,_,sB,_,M,E,H,Lib.hid hps6,by rw [QdC];omega,Lib.hid (by have:=HEL.out;have:=HTJ.out;omega),by omega⟩
    have hdr:=Qln hpsd.reg hai64 hfind
    have HDR:=Lib.hid hdr
    have HRD:=Lib.hid (show ∀ W,Ext w4.drew W→Calls Tryz.prog 34 #[.pointer (some ⟨Q,0,none⟩),.int .u64 (ai:Int)] W fun e w'=>e=.returned (.int .i64 12)∧Ext W w' from fun W hW=>
     (QdL (HPSD.out.rf.ext hW) hB6 hai64).mono fun e w' h=>by
       rcases h with ⟨-,h⟩ | ⟨h,-⟩
       ·exact h
       rw [hhas] at h;cases h)
    clear hdr hhas hfind hpsd
    go_wp2_with fail
    refine wp_region_held_drew (S:=(fun w'=>Blk w' wr.heap.size 71 #[.int .i64 akd,.int .i64 aq.kind,.string aq.lo,.string aq.hi,.bool aq.op,.int .u64 (ai:Int),.slice ps.a es.length ps.c,.slice gp.a gs.length gp.c])) (by kernel_rfl) (HBD.out) (fun hHeld=>?_)
    refine Qab 0 (some 82) HSS hHeld ?_
    refine Qab 1 (some 83) HSS hHeld ?_
    refine Qab 3 (some 85) HSS hHeld ?_
    refine Qab 4 (some 86) HSS hHeld ?_
    refine Qab 5 (some 87) HSS hHeld ?_
    refine Qaa (i:=2) (by kernel_rfl) rfl (by rfl) (fun K hK=>?_)
    go_simp
    (refine HDR.out.mono ?_;rintro e w5 ⟨rfl,hx5⟩;have HX5:=Lib.hid hx5;clear hx5)
    refine hK.out _ _ ((HBD.out.ext HX5.out)) (fun hHeld=>?_)
    clear hK K
    try simp only [Act.put,List.setIfInBounds_toArray,List.set_cons_zero,List.set_cons_succ]
    refine Qaa (i:=6) (by kernel_rfl) rfl (by rfl) (fun K hK=>?_)
    go_simp
    (refine (HRD.out _ HX5.out).mono ?_;rintro e w6 ⟨rfl,hx6⟩;have HX6:=Lib.hid (HX5.out.trans hx6);clear hx6)
    refine hK.out _ _ ((HBD.out.ext HX6.out)) (fun hHeld=>?_)
    clear hK K
    try simp only [Act.put,List.setIfInBounds_toArray,List.set_cons_zero,List.set_cons_succ]
    refine Qab 7 (some 89) HSS hHeld ?_
    refine wpAnyH_done (by kernel_rfl) ?_ _
    clear hHeld
    have hz6:=HX6.out.size
    have hzd:w4.drew.heap.size=w4.heap.size:=rfl
    go_wp2_with fail
    go_meet
    exact ⟨T,p,mb,L,sB,B,M,E,H,Lib.hid (HPSD.out.ext HX6.out),by omega,Lib.hid (by have:=HEL.out;have:=HTJ.out;omega),by omega⟩
   have e2:(akd == 2)=false:=beq_eq_false_iff_ne.2 hk2
   clear hk2
   have hel:=HEL.out
   have htj:=HTJ.out
   have htl:=HTL.out
   dsimp only at htj
   have hbel:=HPS4.out.bel
   have HTU:=Lib.hid (show ∀ W,Ext w4 W→Calls Tryz.prog 27 #[.agg #[.pointer p],.pointer (some ⟨M,0,none⟩),(⟨akd,aq,ai,ps,es,gp,gs⟩:L27).v] W (Qhn (fun b=>H b∨(w4.heap.size≤b∧b<W.heap.size)) (Qi3 E ⟨akd,aq,ai,ps,es,gp,gs⟩) W) from fun W hW=>by
    have hzw:=hW.size
    have hbz:=hbel.size
    exact Qmk ((HPS4.out.ti.wide W.heap.size).ext hW) (fun b hb=>by
     rcases hb with hb | hb
     ·have:=HPS4.out.hi b hb;omega
     ·exact hb.2) ((HA27.out.agree ((Agree.of_below hbel (F:=Lt w.heap.size) fun b hb=>hb).trans (hW.agree fun b (hb:b<w.heap.size)=>by omega))).mono fun b (hb:b<w.heap.size)=>⟨by omega,fun h=>by
     rcases h with h | h
     ·have:=HPS4.out.lo b h;omega
     omega⟩) (show E.length+es.length≤900000 by omega) (show gs.length≤100000000 by omega) HPS4.out.hp)
   clear hel htj htl hbel
   have hbx:=HPS4.out.box
   have t0:w4.cell? ⟨TB,0,none⟩=some (.pointer p):=hbx.cell 0
   have lTB:=hbx.lt
   have q0:w4.cell? ⟨Q,0,none⟩=some (.pointer (some ⟨M,0,none⟩)):=HPS4.out.rf.blk.cell 0
   have lQ:=HPS4.out.rf.blk.lt
   have HSS:=Lib.hid (show ∀ W,Ext w4 W→W.cell? ⟨TB,0,none⟩=some (.pointer p)∧W.cell? ⟨Q,0,none⟩=some (.pointer (some ⟨M,0,none⟩))∧W.cell? ⟨wr.heap.size,0,none⟩=some (.int .i64 akd)∧W.cell? ⟨wr.heap.size,1,none⟩=some (.int .i64 aq.kind)∧W.cell? ⟨wr.heap.size,2,none⟩=some (.string aq.lo)∧W.cell? ⟨wr.heap.size,3,none⟩=some (.string aq.hi)∧W.cell? ⟨wr.heap.size,4,none⟩=some (.bool aq.op)∧W.cell? ⟨wr.heap.size,5,none⟩=some (.int .u64 (ai:Int))∧W.cell? ⟨wr.heap.size,6,none⟩=some (.slice ps.a es.length ps.c)∧W.cell? ⟨wr.heap.size,7,none⟩=some (.slice gp.a gs.length gp.c) from fun W hW=>
    ⟨(hW.cell lTB).trans t0,(hW.cell lQ).trans q0,(HB4.out.ext hW).cell 0,(HB4.out.ext hW).cell 1,(HB4.out.ext hW).cell 2,(HB4.out.ext hW).cell 3,(HB4.out.ext hW).cell 4,(HB4.out.ext hW).cell 5,(HB4.out.ext hW).cell 6,(HB4.out.ext hW).cell 7⟩)
   clear hbx t0 q0 hk0
   go_upto_region 11 with fail
   go_cut [14,15] (fun s14 s15 wx=>∃ (T':RT) (p':Option Addr) (H':Nat→Prop) (M' tb:Nat),s14=.pointer (some ⟨tb,0,none⟩)∧s15=.pointer (some ⟨M',0,none⟩)∧Hid (QaQ T'=.pointer p')∧Hid (TI H' M' (Qi3 E ⟨akd,aq,ai,ps,es,gp,gs⟩) T' wx)∧Hid (∀ b,H b→H' b)∧Hid (∀ b,H' b→b<wx.heap.size)∧Hid (∀ b,H' b→H b∨w4.heap.size≤b)∧w4.heap.size≤M'∧Hid (Ext w4 wx)∧Hid (Blk wx tb 33 #[.pointer p'])∧w4.heap.size≤tb)
   case first=>
    refine wp_region_held_drew (S:=(fun w'=>Ext w4 w')) (by kernel_rfl) (((Ext.refl w4).drew)) (fun hHeld=>?_)
    refine Qab 0 (some 39) HSS hHeld ?_
    refine Qab 1 (some 40) HSS hHeld ?_
    refine Qab 2 (some 41) HSS hHeld ?_
    refine Qab 3 (some 42) HSS hHeld ?_
    refine Qab 4 (some 43) HSS hHeld ?_
    refine Qab 5 (some 44) HSS hHeld ?_
    refine QaL (i:=6) (j:=10) (by kernel_rfl) rfl rfl (by rfl) (by rfl) (fun K hK=>?_) (fun K hK=>?_)
    ·go_simp
     (refine (HTU.out _ hHeld).mono ?_;rintro e w5 ⟨T',p',H',M',rfl,hpt,hTI,hH,hHH,hx5,hup,hMlo⟩;have H5:=Lib.hid (hHeld.trans hx5);have HPT:=Lib.hid hpt;have HTI:=Lib.hid hTI;have HH:=Lib.hid hH;have HHH:=Lib.hid hHH;have HUP:=Lib.hid hup;have HML:=Lib.hid hMlo;clear hpt hTI hH hHH hup hMlo hx5)
     refine hK.out _ _ (H5.out) (fun hHeld=>?_)
     clear hK K
     try simp only [Act.put,List.setIfInBounds_toArray,List.set_cons_zero,List.set_cons_succ]
     refine Qab 7 (some 38) HSS hHeld ?_
     refine Qab 8 (some 46) HSS hHeld ?_
     refine Qab 9 (some 47) HSS hHeld ?_
     refine Qaa (i:=10) (by kernel_rfl) rfl (by rfl) (fun K hK=>?_)
     go_simp
     skip
     refine hK.out _ _ ((by first|exact (Ext.refl w4).drew.alloc _ _|exact ((Ext.refl w4).alloc _ _).drew|exact H5.out.alloc _ _)) (fun hHeld=>?_)
     clear hK K
     try simp only [Act.put,List.setIfInBounds_toArray,List.set_cons_zero,List.set_cons_succ]
     refine Qaa (i:=11) (by kernel_rfl) rfl (by rfl) (fun K hK=>?_)
     go_simp
     skip
     refine hK.out _ _ ((by first|exact H5.out.alloc _ _|exact H5.out.setCell (p:=⟨w4.heap.size,0,none⟩) (Nat.le_refl _) _)) (fun hHeld=>?_)
     clear hK K
     try simp only [Act.put,List.setIfInBounds_toArray,List.set_cons_zero,List.set_cons_succ]
     refine Qab 12 (some 15) HSS hHeld ?_
     refine wpAnyH_done (by kernel_rfl) ?_ _
     clear hHeld
     go_wp2_with fail
     go_meet
     have hx:Ext w5 (w5.alloc (.cells #[.pointer p'] 33)):=(Ext.refl _).alloc _ _
     have hz:=H5.out.size
     exact ⟨T',p',H',M',w5.heap.size,rfl,rfl,HPT,Lib.hid (HTI.out.ext hx),Lib.hid (fun b hb=>HHH.out b (.inl hb)),Lib.hid (fun b hb=>Nat.lt_of_lt_of_le (HH.out b hb) hx.size),Lib.hid (fun b hb=>by
      rcases HUP.out b hb with (h | h) | h
      ·exact .inl h
      ·exact .inr h.1
      exact .inr h),HML.out,Lib.hid (H5.out.trans hx),Lib.hid (Blk.new w5 _ _),hz⟩
    go_simp
    skip
    refine hK.out _ _ ((by first|exact (Ext.refl w4).drew.alloc _ _|exact ((Ext.refl w4).alloc _ _).drew|exact H5.out.alloc _ _)) (fun hHeld=>?_)
    clear hK K
    try simp only [Act.put,List.setIfInBounds_toArray,List.set_cons_zero,List.set_cons_succ]
    refine Qaa (i:=6) (by kernel_rfl) rfl (by rfl) (fun K hK=>?_)
    go_simp
    (refine (HTU.out _ hHeld).mono ?_;rintro e w5 ⟨T',p',H',M',rfl,hpt,hTI,hH,hHH,hx5,hup,hMlo⟩;have hbt:Blk w5 w4.heap.size 33 #[.pointer none]:=Blk.ext ((Blk.new w4 _ _).ext ((Ext.refl _).drew)) hx5;have tbc:w5.cell? ⟨w4.heap.size,0,none⟩=some (.pointer none):=hbt.cell 0;have tbf:=hbt.frozen 0;have tbl:=hbt.lt;have HBT:=Lib.hid hbt;have H5:=Lib.hid (hHeld.trans hx5);have HPT:=Lib.hid hpt;have HTI:=Lib.hid hTI;have HH:=Lib.hid hH;have HHH:=Lib.hid hHH;have HUP:=Lib.hid hup;have HML:=Lib.hid hMlo;clear hpt hTI hH hHH hup hMlo hx5 hbt)
    refine hK.out _ _ (H5.out) (fun hHeld=>?_)
    clear hK K
    try simp only [Act.put,List.setIfInBounds_toArray,List.set_cons_zero,List.set_cons_succ]
    refine Qab 7 (some 38) HSS hHeld ?_
    refine Qab 8 (some 46) HSS hHeld ?_
    refine Qab 9 (some 47) HSS hHeld ?_
    refine Qaa (i:=11) (by kernel_rfl) rfl (by rfl) (fun K hK=>?_)
    go_simp
    skip
    refine hK.out _ _ ((by first|exact H5.out.alloc _ _|exact H5.out.setCell (p:=⟨w4.heap.size,0,none⟩) (Nat.le_refl _) _)) (fun hHeld=>?_)
    clear hK K
    try simp only [Act.put,List.setIfInBounds_toArray,List.set_cons_zero,List.set_cons_succ]
    refine Qab 12 (some 15) HSS hHeld ?_
    refine wpAnyH_done (by kernel_rfl) ?_ _
    clear hHeld
    go_wp2_with fail
    go_meet
    have hst:St (fun b=>b=w4.heap.size) w5 (w5.setCell ⟨w4.heap.size,0,none⟩ (.pointer p')):=(St.refl (fun b=>b=w4.heap.size) w5).set (p:=⟨w4.heap.size,0,none⟩) (.inr rfl) _
    have hz0:(w4.alloc (.cells #[.pointer none] 33)).drew.heap.size=w4.heap.size+1:=by show (w4.alloc _).heap.size=_;rw [World.size_alloc]
    have hml:=HML.out
    rw [hz0] at hml
    have htb:H' w4.heap.size:=HHH.out _ (.inr ⟨Nat.le_refl _,by rw [hz0];exact Nat.lt_succ_self _⟩)
    exact ⟨T',p',H',M',w4.heap.size,rfl,rfl,HPT,Lib.hid (HTI.out.st hst (fun b hb=>by rw [hb];exact htb) (by omega)),Lib.hid (fun b hb=>HHH.out b (.inl hb)),Lib.hid (fun b hb=>Nat.lt_of_lt_of_le (HH.out b hb) hst.size),Lib.hid (fun b hb=>by
     rcases HUP.out b hb with (h | h) | h
     ·exact .inl h
     ·exact .inr h.1
     rw [hz0] at h;exact .inr (by omega)),by omega,Lib.hid (H5.out.setCell (p:=⟨w4.heap.size,0,none⟩) (Nat.le_refl _) _),Lib.hid (HBT.out.QaN 0 _),Nat.le_refl _⟩
   obtain ⟨T',p',H',M',tb,rfl,rfl,HPT,HTI,HHH,HHL,HUP,hMl,HXX,HBTB,htbl⟩:=hcut
   have hzx:=HXX.out.size
   have tb0:wc.cell? ⟨tb,0,none⟩=some (.pointer p'):=HBTB.out.cell 0
   have ltb:=HBTB.out.lt
   have hbx:=HPS4.out.box.ext HXX.out
   have t0:wc.cell? ⟨TB,0,none⟩=some (.pointer p):=hbx.cell 0
   have f0:=hbx.frozen 0
   have lTc:=hbx.lt
   have HBX:=Lib.hid hbx
   clear hbx HSS HTU
   go_upto_region 13 with fail
   generalize hW3:World.setCell wc ⟨TB,0,none⟩ (.pointer p')=w7
   have hst7:St (fun b=>b=TB) wc w7:=by rw [←hW3];exact (St.refl (fun b=>b=TB) wc).set (p:=⟨TB,0,none⟩) (.inr rfl) _
   have hb7:Blk w7 TB 33 #[.pointer p']:=by rw [←hW3];exact HBX.out.QaN 0 _
   obtain ⟨hr3,hT3,hT3',hF3,hF3'⟩:=HPS4.out.Qpw HXX.out HTI.out HHH.out hst7
   have hel:=HEL.out
   have htj:=HTJ.out
   have htl:=HTL.out
   dsimp only at htj
   have hlE:=Qmj E ⟨akd,aq,ai,ps,es,gp,gs⟩
   obtain ⟨E',hE'⟩:∃ E',Qi3 E ⟨akd,aq,ai,ps,es,gp,gs⟩=E':=⟨_,rfl⟩
   rw [hE'] at hlE HTI
   have hlE2:E'.length≤E.length+es.length:=hlE
   have hLl:L.length≤60:=by
    have h1:=congrArg List.length HPS4.out.hb.live
    have h2:=Qcc B 0
    rw [List.length_map] at h1
    omega
   have haf:=Qdh hr3 (T:=T) (F:=NH H w4) (U:=T') (F':=NH H' wc) hT3 hT3' hF3 hF3' HPS4.out.ti.ok HTI.out.ok (by rw [HPS4.out.ti.ents];omega) (by rw [HTI.out.ents];omega) (by omega) (fun W h h0=>Qfx h (by omega))
   rw [QaC,HPT.out,HPS4.out.ti.ents,HTI.out.ents] at haf
   have HAF:=Lib.hid haf
   have HST7:=Lib.hid hst7
   have HB7:=Lib.hid hb7
   have hsE:Sorted E:=by have:=HPS4.out.ti.ok.sorted;rwa [HPS4.out.ti.ents] at this
   have hsE':Sorted E':=by have:=HTI.out.ok.sorted;rwa [HTI.out.ents] at this
   have HSE:=Lib.hid hsE
   have HSE':=Lib.hid hsE'
   have t7:w7.cell? ⟨TB,0,none⟩=some (.pointer p'):=hb7.cell 0
   have lT7:=hb7.lt
   have hE30:E.length≤300000:=by omega
   have hE31:E'.length≤300000:=by omega
   have hEt:E'.length*9≤totA acts (j+1):=by omega
   have HET:=Lib.hid hEt
   clear haf hst7 hb7 hr3 hT3 hT3' hF3 hF3' hsE hsE' hel htj htl hlE hlE2 hEt hE' tb0 t0 f0 hW3
   go_wp2_with fail
   refine HAF.out.mono ?_
   rintro e w8 ⟨sl,evs,rfl,hmap,hreg8,hst8,hevs⟩
   have hz7:=HST7.out.size
   have hz8:=hst8.size
   obtain ⟨hrf8,hM8,hM8'⟩:=HPS4.out.Qpx HXX.out HTI.out HHH.out (by omega) HST7.out hst8
   have hra:=Qf4 hrf8 (by omega) hM8 hM8' hE30 hE31 HSE.out HSE'.out HPS4.out.ownQ (HHH.out _ HPS4.out.ownQ)
   have HRA:=Lib.hid hra
   have HMAP:=Lib.hid hmap
   have HREG8:=Lib.hid hreg8
   have HST8:=Lib.hid hst8
   have HEV:=Lib.hid hevs
   clear hra hmap hreg8 hst8 hevs hrf8 hM8 hM8' t7 HAF
   go_wp2_with fail
   refine HRA.out.mono ?_
   rintro e w9 ⟨r,ev2,rfl,hmap2,hrf9,hst9,hev2⟩
   have hz9:=hst9.size
   have lQ4:=HPS4.out.hi Q HPS4.out.ownQ
   have hsm:=Qcy (w:=w9) (s:=sl) (s':=r) (xs:=evs) (ys:=ev2) ((HEV.out.agree fun b hb=>hst9.block b hb.2 (by have:=hb.1;omega)).mono fun b hb=>by have:=hb.2;show b<_;omega) hev2 (by rw [HMAP.out,hmap2,HPS4.out.hb.ev,Qiz HSE.out HSE'.out])
   have HSM:=Lib.hid hsm
   have HRF9:=Lib.hid hrf9
   have HST9:=Lib.hid hst9
   clear hsm hmap2 hrf9 hst9 hev2 HRA
   go_wp2_with fail
   refine HSM.out.mono ?_
   rintro e w10 ⟨rfl,hx10⟩
   have HX10:=Lib.hid hx10
   have hz10:=hx10.size
   clear hx10
   go_wp2_with fail
   go_meet
   exact ⟨T',p',mb,L,sB,B,M',E',H',Lib.hid ((HPS4.out.turned HXX.out HTI.out HPT.out HHH.out HHL.out HUP.out (by omega) HST7.out HB7.out HREG8.out HST8.out HRF9.out HST9.out).ext HX10.out),by omega,HET,by omega⟩
  obtain ⟨T',p',mb',L',sB',B',M',E',H',HPC,hBc,HEC,hbc⟩:=hcut
  have hB60:B'.length≤60:=by omega
  have hE1:E'.length≤200000:=by have:=HEC.out;have:=HTL.out;omega
  clear HB4 HPS4 hz4 hlt4 HA27 HPS HEL HTJ
  have hrr:=fun W (hW:Ext wc W)=>QfJ (HPC.out.ext hW).rf (by omega) (HPC.out.ext hW).ti.map (by omega) hidn
  rcases HPC.out.hb.look idn with ⟨i,q,iv,hie,hbi,hhas,hfind,hk⟩ | ⟨hhas,hfind⟩
  ·have hre:=Qid HPC.out.reg HPC.out.ti.tree (fun b hb=>hb.1) HPC.out.ti.ok (by rw [HPC.out.ti.ents];omega) hfind hidn
   rw [HPC.out.ti.ents] at hre
   have HRE:=Lib.hid hre
   have HRR:=Lib.hid hrr
   have HHAS:=Lib.hid hhas
   have HBI:=Lib.hid (show B'[idn - 1]? = some (q,true) by rw [hie,Nat.add_sub_cancel];exact hbi)
   have HK:=Lib.hid hk
   clear hre hrr hhas hbi hfind hk hie
   go_wp2_with fail
   refine HRE.out.mono ?_
   rintro e w11 ⟨sx,xs,rfl,hxs,hx11,hexs⟩
   have HRR1:=Lib.hid (HRR.out w11 hx11)
   have HX11:=Lib.hid hx11
   have HXS:=Lib.hid hxs
   have HEX:=Lib.hid hexs
   clear hx11 hxs hexs HRR HRE
   go_wp2_with fail
   refine (HRR1.out.mono (fun e w' h=>(show ∃ (q':Qy) (s':Sl) (ys:List LE),B'[idn - 1]? = some (q',true)∧e=.returned (.tuple #[.slice s'.a ys.length s'.c,.int .i64 0])∧ys.map LE.ent=Qol q' E'∧ES w' (Lt w'.heap.size) s' ys∧Ext w11 w' by
    rcases h with ⟨h,-⟩ | ⟨-,h⟩
    ·rw [HHAS.out] at h;cases h
    exact h))).mono ?_
   rintro e w12 ⟨q',sy,ys,hq',rfl,hys,heys,hx1112⟩
   have hqq:q'=q:=by rw [HBI.out] at hq';injection hq' with hq';injection hq' with hq' _;exact hq'.symm
   have hx12:=HX11.out.trans hx1112
   have hxy:QdN (xs.map LE.ent) (ys.map LE.ent)=true:=by
    rw [HXS.out,hys,hqq,show ∀ E:List Ent,QaB iv.lo iv.hi iv.op E=E.filter (fun e=>Qbv e.1 iv.lo iv.hi iv.op) from fun _=>rfl,Qol]
    rw [List.filter_congr fun e _=>HK.out e.1]
    exact QeB _
   have HSM:=Lib.hid (show ∀ W,Ext w12 W→Calls Tryz.prog 29 #[.slice sx.a xs.length sx.c,.slice sy.a ys.length sy.c] W fun e w'=>e=.returned (.bool true)∧Ext W w' from fun W hW=>by
    have h:=QfM (w:=W) ((HEX.out.agree ((hx1112.trans hW).agree fun b hb=>hb.2)).mono (G:=Lt W.heap.size) fun b hb=>by have:=hb.2;have:=(hx1112.trans hW).size;show b<_;omega) ((heys.agree (hW.agree fun b hb=>hb)).mono (G:=Lt W.heap.size) fun b hb=>Nat.lt_of_lt_of_le hb hW.size)
    rwa [hxy] at h)
   have HX12:=Lib.hid hx12
   have hps12:=HPC.out.ext hx12
   have HSS:=Lib.hid (show ∀ W,Ext w12 W→W.cell? ⟨TB,0,none⟩=some (.pointer p') from fun W hW=>(hps12.ext hW).box.cell 0)
   have HLV:=Lib.hid (show ∀ W,Ext w12 W→Calls Tryz.prog 23 #[.pointer (some ⟨R,0,none⟩)] W fun e w'=>∃ s1:Sl,e=.returned (.slice s1.a (Qa6 0 B').length s1.c)∧w'.ownsRow W.heap.size 34 1 (.slice s1.a (Qa6 0 B').length s1.c) (Qa6 0 B').length ((Qa6 0 B').map Qcj)∧Ext W w' from fun W hW=>
    (Qfx (hps12.ext hW).reg (by have:=hps12.hb.live;have h1:=congrArg List.length this;rw [List.length_map] at h1;have h2:=Qcc B' 0;omega)).mono fun e w' ⟨s1,h1,h2,h3⟩=>by
      have hl:=hps12.hb.live
      have hl2:L'.length=(Qa6 0 B').length:=by rw [←hl,List.length_map]
      have hl3:(L'.map fun p=>Qcj p.1)=(Qa6 0 B').map Qcj:=by rw [←hl,List.map_map];rfl
      rw [hl2] at h1 h2
      rw [hl3] at h2
      exact ⟨s1,h1,h2,h3⟩)
   have HRL:=Lib.hid (show ∀ W,Ext w12 W→_ from fun W hW=>QdM (hps12.ext hW).rf (by omega))
   have HLN:=Lib.hid (show (Qa6 0 B').length≤1000000000 by have:=Qcc B' 0;omega)
   have HHD:=Lib.hid (show ∀ W,Ext w12 W→_ from fun W hW=>Qgk (hps12.ext hW).reg hps12.hp)
   have bx12:w12.cell? ⟨TB,0,none⟩=some (.pointer p'):=hps12.box.cell 0
   have lT12:=hps12.box.lt
   have hmu:((0:Int) != 0)=false:=rfl
   have hmv:((12:Int) != 12)=false:=rfl
   have hz12:=hx12.size
   clear hx12 hps12 hxy hqq hq' hys heys hx1112 HRR1
   go_wp2_with fail
   refine wp_region_held_drew (S:=(fun w'=>Ext w12 w')) (by kernel_rfl) (((Ext.refl w12).drew)) (fun hHeld=>?_)
   refine Qab 0 (some 101) HSS hHeld ?_
   refine Qab 1 (some 102) HSS hHeld ?_
   refine Qab 2 (some 103) HSS hHeld ?_
   refine Qab 3 (some 104) HSS hHeld ?_
   refine Qab 4 (some 105) HSS hHeld ?_
   refine Qab 5 (some 106) HSS hHeld ?_
   refine Qaa (i:=6) (by kernel_rfl) rfl (by rfl) (fun K hK=>?_)
   go_simp
   (refine (HSM.out _ hHeld).mono ?_;rintro e w13 ⟨rfl,hx⟩;have X13:=Lib.hid (hHeld.trans hx);clear hx)
   refine hK.out _ _ (X13.out) (fun hHeld=>?_)
   clear hK K
   try simp only [Act.put,List.setIfInBounds_toArray,List.set_cons_zero,List.set_cons_succ]
   refine Qab 7 (some 108) HSS hHeld ?_
   refine Qab 8 (some 109) HSS hHeld ?_
   refine Qab 9 (some 110) HSS hHeld ?_
   refine Qab 11 (some 112) HSS hHeld ?_
   refine Qaa (i:=10) (by kernel_rfl) rfl (by rfl) (fun K hK=>?_)
   go_simp
   (refine (HLV.out _ X13.out).mono ?_;rintro e w14 ⟨s1,rfl,ho1,hx⟩;have X14:=Lib.hid (X13.out.trans hx);have O14:=Lib.hid ho1;clear hx ho1)
   refine hK.out _ _ (X14.out) (fun hHeld=>?_)
   clear hK K
   try simp only [Act.put,List.setIfInBounds_toArray,List.set_cons_zero,List.set_cons_succ]
   refine Qaa (i:=12) (by kernel_rfl) rfl (by rfl) (fun K hK=>?_)
   go_simp
   (refine (HRL.out _ X14.out).mono ?_;rintro e w15 ⟨s2,rfl,ho2,hx⟩;have Y15:=Lib.hid hx;have X15:=Lib.hid (X14.out.trans hx);have O15:=Lib.hid ho2;clear hx ho2)
   refine hK.out _ _ (X15.out) (fun hHeld=>?_)
   clear hK K
   try simp only [Act.put,List.setIfInBounds_toArray,List.set_cons_zero,List.set_cons_succ]
   refine Qaa (i:=13) (by kernel_rfl) rfl (by rfl) (fun K hK=>?_)
   go_simp
   (refine (Qeu (w:=w15) (s:=s1) (s':=s2) (xs:=Qa6 0 B') ((Rd.Qav O14.out).agree (Y15.out.agree fun b hb=>hb.2)) (fun b hb=>Nat.lt_of_lt_of_le hb.2 Y15.out.size) (Rd.Qav O15.out) (fun b hb=>hb.2) HLN.out).mono ?_;rintro e w16 ⟨rfl,hx⟩;have X16:=Lib.hid (X15.out.trans hx);clear hx)
   refine hK.out _ _ (X16.out) (fun hHeld=>?_)
   clear hK K
   try simp only [Act.put,List.setIfInBounds_toArray,List.set_cons_zero,List.set_cons_succ]
   refine Qab 14 (some 115) HSS hHeld ?_
   refine Qab 15 (some 116) HSS hHeld ?_
   refine Qab 16 (some 117) HSS hHeld ?_
   refine Qab 18 (some 119) HSS hHeld ?_
   refine Qaa (i:=17) (by kernel_rfl) rfl (by rfl) (fun K hK=>?_)
   go_simp
   (refine (HHD.out _ X16.out).mono ?_;rintro e w17 ⟨rfl,hx⟩;have X17:=Lib.hid (X16.out.trans hx);clear hx)
   refine hK.out _ _ (X17.out) (fun hHeld=>?_)
   clear hK K
   try simp only [Act.put,List.setIfInBounds_toArray,List.set_cons_zero,List.set_cons_succ]
   refine Qaa (i:=19) (by kernel_rfl) rfl (by rfl) (fun K hK=>?_)
   go_simp
   (refine (QlJ _ p').mono ?_;rintro e w18 ⟨rfl,hx⟩;have X18:=Lib.hid (X17.out.trans hx);clear hx)
   refine hK.out _ _ (X18.out) (fun hHeld=>?_)
   clear hK K
   try simp only [Act.put,List.setIfInBounds_toArray,List.set_cons_zero,List.set_cons_succ]
   refine Qab 20 (some 121) HSS hHeld ?_
   refine Qab 21 (some 122) HSS hHeld ?_
   refine wpAnyH_done (by kernel_rfl) ?_ _
   clear hHeld
   have hz18:=X18.out.size
   go_wp2_with fail
   go_roundg g'
   case measure=>omega
   exact ⟨j+1,T',p',mb',L',sB',B',M',E',H',by go_num,hlt,by omega,hBc,Lib.hid (HPC.out.ext (HX12.out.trans X18.out)),HEC,by omega⟩
  have hre:=QiY HPC.out.reg hidn hfind
  have HRE:=Lib.hid hre
  have HRR:=Lib.hid hrr
  have HHAS:=Lib.hid hhas
  clear hre hrr hhas hfind
  go_wp2_with fail
  refine HRE.out.mono ?_
  rintro e w11 ⟨rfl,hx11⟩
  have HRR1:=Lib.hid (HRR.out w11 hx11)
  have HX11:=Lib.hid hx11
  clear hx11 HRR HRE
  go_wp2_with fail
  refine (HRR1.out.mono (fun e w' h=>(show e=.returned (.tuple #[.slice none 0 0,.int .i64 12])∧Ext w11 w' by
   rcases h with ⟨-,h⟩ | ⟨h,-⟩
   ·exact h
   rw [HHAS.out] at h;cases h))).mono ?_
  rintro e w12 ⟨rfl,hx1112⟩
  have hx12:=HX11.out.trans hx1112
  have HSM:=Lib.hid (show ∀ W,Ext w12 W→Calls Tryz.prog 29 #[.slice none 0 0,.slice none 0 0] W fun e w'=>e=.returned (.bool true)∧Ext W w' from fun W hW=>QfM (w:=W) (s:=Sl.none) (s':=Sl.none) (xs:=[]) (ys:=[]) (ES.nil _ _) (ES.nil _ _))
  have HX12:=Lib.hid hx12
  have hps12:=HPC.out.ext hx12
  have HSS:=Lib.hid (show ∀ W,Ext w12 W→W.cell? ⟨TB,0,none⟩=some (.pointer p') from fun W hW=>(hps12.ext hW).box.cell 0)
  have HLV:=Lib.hid (show ∀ W,Ext w12 W→Calls Tryz.prog 23 #[.pointer (some ⟨R,0,none⟩)] W fun e w'=>∃ s1:Sl,e=.returned (.slice s1.a (Qa6 0 B').length s1.c)∧w'.ownsRow W.heap.size 34 1 (.slice s1.a (Qa6 0 B').length s1.c) (Qa6 0 B').length ((Qa6 0 B').map Qcj)∧Ext W w' from fun W hW=>
   (Qfx (hps12.ext hW).reg (by have:=hps12.hb.live;have h1:=congrArg List.length this;rw [List.length_map] at h1;have h2:=Qcc B' 0;omega)).mono fun e w' ⟨s1,h1,h2,h3⟩=>by
     have hl:=hps12.hb.live
     have hl2:L'.length=(Qa6 0 B').length:=by rw [←hl,List.length_map]
     have hl3:(L'.map fun p=>Qcj p.1)=(Qa6 0 B').map Qcj:=by rw [←hl,List.map_map];rfl
     rw [hl2] at h1 h2
     rw [hl3] at h2
     exact ⟨s1,h1,h2,h3⟩)
  have HRL:=Lib.hid (show ∀ W,Ext w12 W→_ from fun W hW=>QdM (hps12.ext hW).rf (by omega))
  have HLN:=Lib.hid (show (Qa6 0 B').length≤1000000000 by have:=Qcc B' 0;omega)
  have HHD:=Lib.hid (show ∀ W,Ext w12 W→_ from fun W hW=>Qgk (hps12.ext hW).reg hps12.hp)
  have bx12:w12.cell? ⟨TB,0,none⟩=some (.pointer p'):=hps12.box.cell 0
  have lT12:=hps12.box.lt
  have hmu:((0:Int) != 0)=false:=rfl
  have hmv:((12:Int) != 12)=false:=rfl
  have hz12:=hx12.size
  clear hx12 hps12 hx1112 HRR1
  go_wp2_with fail
  refine wp_region_held_drew (S:=(fun w'=>Ext w12 w')) (by kernel_rfl) (((Ext.refl w12).drew)) (fun hHeld=>?_)
  refine Qab 0 (some 101) HSS hHeld ?_
  refine Qab 1 (some 102) HSS hHeld ?_
  refine Qab 2 (some 103) HSS hHeld ?_
  refine Qab 3 (some 104) HSS hHeld ?_
  refine Qab 4 (some 105) HSS hHeld ?_
  refine Qab 5 (some 106) HSS hHeld ?_
  refine Qaa (i:=6) (by kernel_rfl) rfl (by rfl) (fun K hK=>?_)
  go_simp
  (refine (HSM.out _ hHeld).mono ?_;rintro e w13 ⟨rfl,hx⟩;have X13:=Lib.hid (hHeld.trans hx);clear hx)
  refine hK.out _ _ (X13.out) (fun hHeld=>?_)
  clear hK K
  try simp only [Act.put,List.setIfInBounds_toArray,List.set_cons_zero,List.set_cons_succ]
  refine Qab 7 (some 108) HSS hHeld ?_
  refine Qab 8 (some 109) HSS hHeld ?_
  refine Qab 9 (some 110) HSS hHeld ?_
  refine Qab 11 (some 112) HSS hHeld ?_
  refine Qaa (i:=10) (by kernel_rfl) rfl (by rfl) (fun K hK=>?_)
  go_simp
  (refine (HLV.out _ X13.out).mono ?_;rintro e w14 ⟨s1,rfl,ho1,hx⟩;have X14:=Lib.hid (X13.out.trans hx);have O14:=Lib.hid ho1;clear hx ho1)
  refine hK.out _ _ (X14.out) (fun hHeld=>?_)
  clear hK K
  try simp only [Act.put,List.setIfInBounds_toArray,List.set_cons_zero,List.set_cons_succ]
  refine Qaa (i:=12) (by kernel_rfl) rfl (by rfl) (fun K hK=>?_)
  go_simp
  (refine (HRL.out _ X14.out).mono ?_;rintro e w15 ⟨s2,rfl,ho2,hx⟩;have Y15:=Lib.hid hx;have X15:=Lib.hid (X14.out.trans hx);have O15:=Lib.hid ho2;clear hx ho2)
  refine hK.out _ _ (X15.out) (fun hHeld=>?_)
  clear hK K
  try simp only [Act.put,List.setIfInBounds_toArray,List.set_cons_zero,List.set_cons_succ]
  refine Qaa (i:=13) (by kernel_rfl) rfl (by rfl) (fun K hK=>?_)
  go_simp
  (refine (Qeu (w:=w15) (s:=s1) (s':=s2) (xs:=Qa6 0 B') ((Rd.Qav O14.out).agree (Y15.out.agree fun b hb=>hb.2)) (fun b hb=>Nat.lt_of_lt_of_le hb.2 Y15.out.size) (Rd.Qav O15.out) (fun b hb=>hb.2) HLN.out).mono ?_;rintro e w16 ⟨rfl,hx⟩;have X16:=Lib.hid (X15.out.trans hx);clear hx)
  refine hK.out _ _ (X16.out) (fun hHeld=>?_)
  clear hK K
  try simp only [Act.put,List.setIfInBounds_toArray,List.set_cons_zero,List.set_cons_succ]
  refine Qab 14 (some 115) HSS hHeld ?_
  refine Qab 15 (some 116) HSS hHeld ?_
  refine Qab 16 (some 117) HSS hHeld ?_
  refine Qab 18 (some 119) HSS hHeld ?_
  refine Qaa (i:=17) (by kernel_rfl) rfl (by rfl) (fun K hK=>?_)
  go_simp
  (refine (HHD.out _ X16.out).mono ?_;rintro e w17 ⟨rfl,hx⟩;have X17:=Lib.hid (X16.out.trans hx);clear hx)
  refine hK.out _ _ (X17.out) (fun hHeld=>?_)
  clear hK K
  try simp only [Act.put,List.setIfInBounds_toArray,List.set_cons_zero,List.set_cons_succ]
  refine Qaa (i:=19) (by kernel_rfl) rfl (by rfl) (fun K hK=>?_)
  go_simp
  (refine (QlJ _ p').mono ?_;rintro e w18 ⟨rfl,hx⟩;have X18:=Lib.hid (X17.out.trans hx);clear hx)
  refine hK.out _ _ (X18.out) (fun hHeld=>?_)
  clear hK K
  try simp only [Act.put,List.setIfInBounds_toArray,List.set_cons_zero,List.set_cons_succ]
  refine Qab 20 (some 121) HSS hHeld ?_
  refine Qab 21 (some 122) HSS hHeld ?_
  refine wpAnyH_done (by kernel_rfl) ?_ _
  clear hHeld
  have hz18:=X18.out.size
  go_wp2_with fail
  go_roundg g'
  case measure=>omega
  exact ⟨j+1,T',p',mb',L',sB',B',M',E',H',by go_num,hlt,by omega,hBc,Lib.hid (HPC.out.ext (HX12.out.trans X18.out)),HEC,by omega⟩
 obtain rfl:j=acts.length:=by omega
 have g1:¬(acts.length:Int)<(acts.length:Int):=by omega
 go_wp2_with fail
 refine (QlN _).mono ?_
 rintro e w19 ⟨rfl,hb19⟩
 have HB19:=Lib.hid hb19
 clear hb19
 go_wp2_with fail
 go_ret
 exact ⟨rfl,Sb.step HPS.out.bel (Sb.new (H:=fun _=>False) HB19.out) fun b hb=>hb.elim⟩
theorem subsplays_r (s:Sl) (acts:List L27) (idn:Int) (w:World) (hA:AS27 w (Lt w.heap.size) s acts∧totA acts acts.length≤1048576) (hid:(Lit.int .u64 idn).wf=true) :
  Calls Tryz.prog 9 #[.slice s.a acts.length s.c,.int .u64 idn] w fun e w'=>e=.returned (.bool true)∧Below w.heap.size w w':=by
 have h2:IntKind.u64.min=0:=by decide
 have h3:IntKind.u64.max=18446744073709551615:=by decide
 have h0:0≤idn∧idn≤18446744073709551615:=by simp [Lit.wf,h2,h3] at hid;omega
 obtain ⟨n,hn⟩:∃ n:Nat,(n:Int)=idn:=⟨idn.toNat,Int.toNat_of_nonneg h0.1⟩
 subst hn
 exact Qi2 s acts n w (by omega) hA.1 hA.2
end Go.Proofs.YtohajcflklejjaaGreat
