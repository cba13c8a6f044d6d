/- What the theorem needs of the texts Apart: no condition of its own. -/
import Derived.Laws.IdiomStrings
import Derived.WalkArith
import Derived.Test.YtohajcflklejjaaGreatPqa
import Derived.Test.YtohajcflklejjaaGreatPqb
import Derived.Test.YtohajcflklejjaaGreatPqc
import Derived.Test.YtohajcflklejjaaGreatPqd
import Derived.Test.YtohajcflklejjaaGreatPqe
import Derived.Test.YtohajcflklejjaaGreatPqf
import Derived.Test.YtohajcflklejjaaGreatPqg
import Derived.Test.YtohajcflklejjaaGreatPqh
import Derived.Test.YtohajcflklejjaaGreatPqi
import Derived.Test.YtohajcflklejjaaGreatPqj
import Derived.Test.YtohajcflklejjaaGreatPqk
import Derived.Test.YtohajcflklejjaaGreatPql
import Derived.Test.YtohajcflklejjaaGreatPqn
import Derived.Test.YtohajcflklejjaaGreatPqo
namespace Go.Proofs.YtohajcflklejjaaGreat
open Go.RowKit
set_option linter.unusedVariables false
set_option linter.unusedSimpArgs false
theorem Qo9 (L L':QbJ) (l:List Chg):evL (L++L') l=evL L l++evL L' l:=by simp [evL]
theorem Qpb {L:QbJ} {l:List Chg} {x:Nat × Chg} (h:x∈evL L l):∃ p∈L,x.1=p.1:=by
 simp only [evL,List.mem_flatMap,List.mem_map] at h
 obtain ⟨p,hp,c,-,rfl⟩:=h
 exact ⟨p,hp,rfl⟩
def Qow (n:Nat) (evs:List EV):List EV:=(evs.filter fun v=>v.id == n).map fun v=>⟨1,v.x⟩
theorem Qpa {L:QbJ} {n:Nat} {s s':Iv} {c:List Chg} {evs:List EV} (h:evs.map EV.p=evL (L++[(n,s)]) c) (hL:∀ p∈L,p.1<n) (hs:∀ k,Qbw k s.lo s.hi s.op=Qbw k s'.lo s'.hi s'.op):(Qow n evs).map EV.p=evL [(1,s')] c:=by
 have e1:(Qow n evs).map EV.p=((evs.map EV.p).filter fun x=>x.1 == n).map fun x=>(1,x.2):=by
  simp only [Qow,List.filter_map,List.map_map]
  rfl
 have e2:(evL L c).filter (fun x=>x.1 == n)=[]:=List.filter_eq_nil_iff.2 fun x hx=>by
  obtain ⟨p,hp,he⟩:=Qpb hx
  have:=hL p hp
  simp [he];omega
 rw [e1,h,Qo9,List.filter_append,e2,List.nil_append]
 simp only [evL,List.flatMap_cons,List.flatMap_nil,List.append_nil,List.filter_map,List.map_map]
 have e3:(c.filter fun c=>Qbw c.k s.lo s.hi s.op)=c.filter fun c=>Qbw c.k s'.lo s'.hi s'.op:=List.filter_congr fun c _=>hs c.k
 rw [e3]
 have e4:((c.filter fun c=>Qbw c.k s'.lo s'.hi s'.op).filter ((fun x:Nat × Chg=>x.1 == n)∘fun c=>(n,c)))=c.filter fun c=>Qbw c.k s'.lo s'.hi s'.op:=List.filter_eq_self.2 fun x _=>by simp
 rw [e4]
 rfl
theorem QoM (n:Nat) (evs:List EV) (v:EV):Qow n (evs++[v])=Qow n evs++if v.id=n then [⟨1,v.x⟩] else []:=by
 simp only [Qow,List.filter_append,List.map_append]
 congr 1
 by_cases h:v.id=n
 ·simp [h]
 ·simp [h]
theorem QoT (n:Nat) (evs:List EV):(Qow n evs).length≤evs.length:=by
 simp only [Qow,List.length_map];exact List.length_filter_le ..
set_option maxRecDepth 100000 in
set_option maxHeartbeats 8000000 in
theorem subsapart_w (s:Sl) (qs:List Qy) (q:Qy) (a b:L27) (w:World) (hqs:QS w (Lt w.heap.size) s qs) (hq:q.short) (ha:A27 w (Lt w.heap.size) a∧a.es.length*3+a.gs.length≤1048576) (hb:A27 w (Lt w.heap.size) b∧(a.es.length+b.es.length)*3+b.gs.length≤1048576) :
  Calls Tryz.prog 7 #[.slice s.a qs.length s.c,q.v,a.v,b.v] w fun e w'=>e=.returned (.bool true)∧Below w.heap.size w w':=by
 have hrm:=fun W=>Qg2 q W
 obtain ⟨m,hmq⟩:∃ m,Qdb q=m:=⟨_,rfl⟩
 rw [hmq] at hrm
 have HRM:=Lib.hid hrm
 have HA:=Lib.hid ha.1
 have HAN:=Lib.hid ha.2
 have HBA:=Lib.hid hb.1
 have HBN:=Lib.hid hb.2
 have HQ:=Lib.hid hq
 have HQS:=Lib.hid hqs
 have HM:=Lib.hid hmq
 clear hrm ha hb hq hmq hqs
 obtain ⟨i0,hI,hI0,hI1,hI2⟩:=info_parts Tryz.QkM
 obtain ⟨kd,lo,hi',op⟩:=q
 obtain ⟨akd,aq,aid,ps,es,gp,gs⟩:=a
 obtain ⟨bkd,bq,bid,pt,ft,gq,gt⟩:=b
 dsimp only [L27.v]
 by_cases h20:20<qs.length
 ·have g20:(20:Int)<(qs.length:Int):=by omega
  go_enter Tryz.func7,Tryz.ntmps7
  go_wp2_with fail
  generalize hW0:World.alloc (World.alloc (World.alloc w _) _) _=w0
  have hx0:Ext w w0:=by rw [←hW0];exact (((Ext.refl w).alloc _ _).alloc _ _).alloc _ _
  clear hW0
  refine (Qhy _).mono ?_
  rintro e w2 ⟨rfl,hb2⟩
  have HB2:=Lib.hid (Sb.step hx0.below (Sb.new (H:=fun _=>False) hb2) fun b hb=>hb.elim)
  clear hb2 hx0
  go_wp2_with fail
  go_ret
  exact ⟨rfl,HB2.out⟩
 ·have g20:¬(20:Int)<(qs.length:Int):=by omega
  by_cases hm0:m=0
  ·subst hm0
   go_enter Tryz.func7,Tryz.ntmps7
   go_wp2_with fail
   generalize hW0:World.alloc (World.alloc (World.alloc w _) _) _=w0
   obtain ⟨hx0,hz0,hbq,hba,hbb⟩:=QaJ w _ _ _ _ _ _ w0 hW0
   clear hW0
   refine (HRM.out w0).mono ?_
   rintro e w1 ⟨rfl,hx1⟩
   have HX1:=Lib.hid (hx0.trans hx1)
   have HBQ:=Lib.hid (hbq.ext hx1)
   have HBA1:=Lib.hid (hba.ext hx1)
   have HBB1:=Lib.hid (hbb.ext hx1)
   have hz1:w.heap.size+3≤w1.heap.size:=by have:=hx1.size;omega
   clear hx0 hz0 hbq hba hbb hx1 HRM
   go_wp2_with fail
   generalize hW2:World.alloc (World.alloc w1 _) _=w2
   obtain ⟨hx2,hz2,hr1,hr2⟩:=Qaw w1 _ _ _ _ w2 hW2
   clear hW2
   obtain ⟨R,hR⟩:∃ R,R=w1.heap.size:=⟨_,rfl⟩
   have HX2:=Lib.hid hx2
   have HRA:=Lib.hid (QaU.new hr2)
   have hreg0:QaU w2 w1.heap.size none 0 none []:=QaU.new hr1
   have HREG0:=Lib.hid hreg0
   have HZ2:=Lib.hid hz2
   clear hx2 hr1 hr2 hreg0 hR R hz2
   have hn20:qs.length≤20:=by omega
   go_loopw [11] (fun i wr=>∃ (j g:Nat) (mb:Option Nat) (L:QbJ),i=.int .i64 j∧j≤qs.length∧Hid (QaU wr w1.heap.size none g mb L)∧g≤j∧L.length≤j∧Hid (∀ b,mb=some b→w2.heap.size≤b)∧Hid (Sb (fun b=>b=w1.heap.size) w2 wr)) (fun i _=>qs.length - (intOf i).toNat)
   case atStart=>exact ⟨0,0,none,[],rfl,Nat.zero_le _,HREG0,Nat.le_refl _,Nat.le_refl _,Lib.hid (fun b hb=>by cases hb),Lib.hid (Sb.refl _ _)⟩
   case round=>
    obtain ⟨j,g,mb,L,rfl,hj,HREG,hg,hL,HMB,HSB⟩:=hrel
    by_cases hlt:j<qs.length
    ·have g1:(j:Int)<(qs.length:Int):=by omega
     obtain ⟨x,hx⟩:∃ x,qs[j]? = some x:=⟨_,List.getElem?_eq_getElem hlt⟩
     have hz12:=HX2.out.size
     have hzr:=HSB.out.size
     have hqr:QS wr (Lt w.heap.size) s qs:=HQS.out.agree fun b (hb:b<w.heap.size)=>(HSB.out.block b (by omega) (by omega)).trans ((HX1.out.trans HX2.out).heap hb)
     obtain ⟨b,o,hsa,hFb,hcc,hcm,hq4,hqx⟩:=hqr.at hx
     obtain ⟨sa,sc⟩:=s
     dsimp only at hsa hcc hcm
     subst hsa
     obtain ⟨d0,d1,d2,d3⟩:=hq4
     have lb:b<wr.heap.size:=by have:b<w.heap.size:=hFb;omega
     have hadd:=QjQ HREG.out (by omega) x hqx
     have HADD:=Lib.hid hadd
     clear hx hqr hadd hFb
     go_wp2_with fail
     refine HADD.out.mono ?_
     rintro e w3 hpost
     rcases hpost with ⟨-,rfl,hx3⟩ | ⟨-,s1,mb',rfl,hiv,hreg3,hmb3,hsb3⟩
     ·have HR3:=Lib.hid (HREG.out.ext hx3)
      have HS3:=Lib.hid (HSB.out.ext hx3)
      clear hx3 HADD
      go_wp2_with fail
      go_roundw
      case rel=>exact ⟨j+1,g,mb,L,by go_num,hlt,HR3,by omega,by omega,HMB,HS3⟩
      case measure=>simp [intOf];omega
     ·have HR3:=Lib.hid hreg3
      have HS3:=Lib.hid (HSB.out.comp hsb3 fun i hi h=>by
       rcases h with h | h
       ·exact h
       ·have:=HMB.out i h;omega)
      have HM3:=Lib.hid (show ∀ b,mb'=some b→w2.heap.size≤b from fun b hb=>by
       rcases hmb3 with h | ⟨c,h,hc⟩
       ·exact HMB.out b (by rw [←h];exact hb)
       ·rw [h] at hb;injection hb with hb;omega)
      have hl3:(L++[(g+1,s1)]).length≤j+1:=by simp;omega
      clear hiv hreg3 hmb3 hsb3 HADD
      go_wp2_with fail
      go_roundw
      case rel=>exact ⟨j+1,g+1,mb',L++[(g+1,s1)],by go_num,hlt,HR3,by omega,hl3,HM3,HS3⟩
      case measure=>simp [intOf];omega
    ·obtain rfl:j=qs.length:=by omega
     obtain ⟨w3,hw3⟩:∃ w3,w3=wr:=⟨_,rfl⟩
     subst hw3
     have hz12:=HX2.out.size
     have hzr:=HSB.out.size
     have hz2:=HZ2.out
     have h13:∀ b,b<w1.heap.size→w3.heap[b]? = w1.heap[b]?:=fun b hb=>(HSB.out.block b (by omega) (by omega)).trans (HX2.out.heap hb)
     have hb13:Below w.heap.size w w3:=Sb.step (HX1.out.trans HX2.out).below HSB.out fun b hb=>by omega
     have hbq3:Blk w3 w.heap.size 24 _:=(h13 _ HBQ.out.lt).trans HBQ.out
     have q0:w3.cell? ⟨w.heap.size,0,none⟩=some (.int .i64 kd):=hbq3.cell 0
     have q1:w3.cell? ⟨w.heap.size,1,none⟩=some (.string lo):=hbq3.cell 1
     have q2:w3.cell? ⟨w.heap.size,2,none⟩=some (.string hi'):=hbq3.cell 2
     have q3:w3.cell? ⟨w.heap.size,3,none⟩=some (.bool op):=hbq3.cell 3
     have lq:=hbq3.lt
     have HRA3:=Lib.hid (HRA.out.sb HSB.out fun b hb h=>by
      rcases hb with rfl | hb
      ·omega
      ·cases hb)
     have H13:=Lib.hid h13
     have HB13:=Lib.hid hb13
     have HBQ3:=Lib.hid hbq3
     clear h13 hb13 hbq3 g20
     go_wp2_with fail
     refine (QdH HREG.out (by omega) ⟨kd,lo,hi',op⟩ HQ.out HM.out).mono ?_
     rintro e w4 ⟨s1,mb1,rfl,hiv1,hreg4,hmb4,hsb4⟩
     have hz4:=hsb4.size
     have hlo:∀ b,Qdg w1.heap.size mb b→b=w1.heap.size∨w2.heap.size≤b:=fun b hb=>by
      rcases hb with rfl | hb
      ·exact .inl rfl
      ·exact .inr (HMB.out b hb)
     have hlo1:∀ b,Qdg w1.heap.size mb1 b→b=w1.heap.size∨w2.heap.size≤b:=fun b hb=>by
      rcases hb with rfl | hb
      ·exact .inl rfl
      ·rcases hmb4 with h | ⟨c,h,hc⟩
       ·exact .inr (HMB.out b (by rw [←h];exact hb))
       ·rw [h] at hb;injection hb with hb;exact .inr (by omega)
     have hbq4:Blk w4 w.heap.size 24 _:=hsb4.blk HBQ3.out fun h=>by have:=hlo _ h;omega
     have e0:w4.cell? ⟨w.heap.size,0,none⟩=some (.int .i64 kd):=hbq4.cell 0
     have e1:w4.cell? ⟨w.heap.size,1,none⟩=some (.string lo):=hbq4.cell 1
     have e2:w4.cell? ⟨w.heap.size,2,none⟩=some (.string hi'):=hbq4.cell 2
     have e3:w4.cell? ⟨w.heap.size,3,none⟩=some (.bool op):=hbq4.cell 3
     have lq4:=hbq4.lt
     have HREG4:=Lib.hid hreg4
     have HIV1:=Lib.hid hiv1
     have HLO1:=Lib.hid hlo1
     have HRA4:=Lib.hid (HRA3.out.sb hsb4 fun b hb h=>by
      have:=hlo _ h
      rcases hb with rfl | hb
      ·omega
      ·cases hb)
     have H14:=Lib.hid (show ∀ b,b<w1.heap.size→w4.heap[b]? = w1.heap[b]? from fun b hb=>(hsb4.block b (by omega) fun h=>by have:=hlo _ h;omega).trans (H13.out b hb))
     have HB14:=Lib.hid (Sb.step HB13.out hsb4 fun b hb=>by have:=hlo _ hb;omega)
     clear hreg4 hiv1 hlo hlo1 hmb4 hsb4 hbq4 q0 q1 q2 q3
     go_wp2_with fail
     refine (QdH HRA4.out (by omega) ⟨kd,lo,hi',op⟩ HQ.out HM.out).mono ?_
     rintro e w5 ⟨s2,mb2,rfl,hiv2,hregA5,hmb5,hsb5⟩
     have hz5:=hsb5.size
     have hRA:∀ b,Qdg (w1.heap.size+1) none b→b=w1.heap.size+1:=fun b hb=>by
      rcases hb with rfl | hb
      ·rfl
      ·cases hb
     have hloA:∀ b,Qdg (w1.heap.size+1) mb2 b→b=w1.heap.size+1∨w4.heap.size≤b:=fun b hb=>by
      rcases hb with rfl | hb
      ·exact .inl rfl
      ·rcases hmb5 with h | ⟨c,h,hc⟩
       ·rw [h] at hb;cases hb
       ·rw [h] at hb;injection hb with hb;exact .inr (by omega)
     have hreg5:QaU w5 w1.heap.size none (g+1) mb1 (L++[(g+1,s1)]):=HREG4.out.sb hsb5 fun b hb h=>by have:=HLO1.out b hb;have:=hRA b h;omega
     have h15:∀ b,b<w1.heap.size→w5.heap[b]? = w1.heap[b]?:=fun b hb=>(hsb5.block b (by omega) fun h=>by have:=hRA _ h;omega).trans (H14.out b hb)
     have hba5:Blk w5 (w.heap.size+1) 71 _:=(h15 _ HBA1.out.lt).trans HBA1.out
     have hbb5:Blk w5 (w.heap.size+1+1) 71 _:=(h15 _ HBB1.out.lt).trans HBB1.out
     have a0:w5.cell? ⟨w.heap.size+1,0,none⟩=some (.int .i64 akd):=hba5.cell 0
     have a1:w5.cell? ⟨w.heap.size+1,1,none⟩=some (.int .i64 aq.kind):=hba5.cell 1
     have a2:w5.cell? ⟨w.heap.size+1,2,none⟩=some (.string aq.lo):=hba5.cell 2
     have a3:w5.cell? ⟨w.heap.size+1,3,none⟩=some (.string aq.hi):=hba5.cell 3
     have a4:w5.cell? ⟨w.heap.size+1,4,none⟩=some (.bool aq.op):=hba5.cell 4
     have a5:w5.cell? ⟨w.heap.size+1,5,none⟩=some (.int .u64 aid):=hba5.cell 5
     have a6:w5.cell? ⟨w.heap.size+1,6,none⟩=some (.slice ps.a es.length ps.c):=hba5.cell 6
     have a7:w5.cell? ⟨w.heap.size+1,7,none⟩=some (.slice gp.a gs.length gp.c):=hba5.cell 7
     have la:=hba5.lt
     have HREG5:=Lib.hid hreg5
     have HREGA5:=Lib.hid (show QaU w5 (w1.heap.size+1) none 1 mb2 [(1,s2)] from hregA5)
     have HIV2:=Lib.hid hiv2
     have HLOA:=Lib.hid hloA
     have HBB5:=Lib.hid hbb5
     have H15:=Lib.hid h15
     have HB15:=Lib.hid (Sb.step HB14.out hsb5 fun b hb=>by have:=hRA _ hb;omega)
     clear hreg5 hregA5 hiv2 hloA hba5 hbb5 h15 hmb5 hsb5 hRA e0 e1 e2 e3
     go_wp2_with fail
     generalize hW6:World.alloc w5 _=w6
     have hbm:Blk w6 w5.heap.size 76 #[.slice none 0 0]:=by rw [←hW6];exact Blk.new w5 _ _
     have hx56:Ext w5 w6:=by rw [←hW6];exact (Ext.refl w5).alloc _ _
     clear hW6 a0 a1 a2 a3 a4 a5 a6 a7
     obtain ⟨H0,hH0⟩:∃ H0:Nat→Prop,H0=fun b=>b=w5.heap.size∨Qdg w1.heap.size mb1 b∨Qdg (w1.heap.size+1) mb2 b:=⟨_,rfl⟩
     have hz56:=hx56.size
     have hH0l:∀ b,H0 b→b<w6.heap.size:=fun b hb=>by
      rw [hH0] at hb
      rcases hb with rfl | hb | hb
      ·exact hbm.lt
      ·have:=QbP HREG5.out b hb;omega
      ·have:=QbP HREGA5.out b hb;omega
     have hH0o:∀ b,H0 b→w1.heap.size≤b:=fun b hb=>by
      rw [hH0] at hb
      rcases hb with rfl | hb | hb
      ·omega
      ·have:=HLO1.out b hb;omega
      ·have:=HLOA.out b hb;omega
     have hA6:A27 w6 (NH H0 w6) ⟨akd,aq,aid,ps,es,gp,gs⟩:=(HA.out.agree fun b (hb:b<w.heap.size)=>(hx56.heap (by omega)).trans ((H15.out b (by omega)).trans (HX1.out.heap hb))).mono fun b (hb:b<w.heap.size)=>⟨by omega,fun h=>by have:=hH0o b h;omega⟩
     have han:es.length*3+gs.length≤1048576:=HAN.out
     have htu:=Qk0 (TI.new hbm (by rw [hH0];exact .inl rfl)) hH0l hA6 (show 0+es.length≤900000 by omega) (show gs.length≤100000000 by omega) rfl
     have hlE:=QgT [] ⟨akd,aq,aid,ps,es,gp,gs⟩
     obtain ⟨E,hE⟩:∃ E,Qhx [] ⟨akd,aq,aid,ps,es,gp,gs⟩=E:=⟨_,rfl⟩
     rw [hE] at htu hlE
     have hEl:E.length≤es.length:=by simp only [List.length_nil] at hlE;omega
     have hesl:es.length≤349525:=by omega
     have HTU:=Lib.hid htu
     have HX56:=Lib.hid hx56
     have HR0:=Lib.hid (show ∀ b,Qdg w1.heap.size mb1 b→H0 b from fun b hb=>by rw [hH0];exact .inr (.inl hb))
     have HRA0:=Lib.hid (show ∀ b,Qdg (w1.heap.size+1) mb2 b→H0 b from fun b hb=>by rw [hH0];exact .inr (.inr hb))
     have HH0O:=Lib.hid hH0o
     clear htu hA6 hH0l hE hlE han hbm hx56 hH0 hH0o
     refine HTU.out.mono ?_
     rintro e w7 ⟨T,pt',H,M,rfl,hpt,hTI,hH,hHH,hx7,hHup,hMlo⟩
     have HPT:=Lib.hid hpt
     have HTI:=Lib.hid hTI
     have HH:=Lib.hid hH
     have HRH:=Lib.hid (show ∀ b,Qdg w1.heap.size mb1 b→H b from fun b hb=>hHH b (HR0.out b hb))
     have HRAH:=Lib.hid (show ∀ b,Qdg (w1.heap.size+1) mb2 b→H b from fun b hb=>hHH b (HRA0.out b hb))
     have HHO:=Lib.hid (show ∀ b,H b→w1.heap.size≤b from fun b hb=>by
      rcases hHup b hb with h | h
      ·exact HH0O.out b h
      ·omega)
     have HX7:=Lib.hid (HX56.out.trans hx7)
     have hMR:w5.heap.size≤M:=by omega
     clear hpt hTI hH hHH hx7 hHup hMlo HTU HR0 HRA0 HH0O
     go_wp2_with fail
     generalize hW8:World.alloc w7 _=w8
     have hx78:Ext w7 w8:=by rw [←hW8];exact (Ext.refl _).alloc _ _
     have hbt:Blk w8 w7.heap.size 33 #[.pointer pt']:=by rw [←hW8];exact Blk.new w7 _ _
     clear hW8
     have hz7:=HX7.out.size
     have hz78:=hx78.size
     have hR1:w1.heap.size<w5.heap.size:=by omega
     have hR2:w1.heap.size+1<w5.heap.size:=by omega
     have hT8:IsT w8 (NH H w7) T:=HTI.out.tree.agree (hx78.agree fun b hb=>hb.1)
     have hFB:∀ b,NH H w7 b→¬Qdg w1.heap.size mb1 b:=fun b hb h=>hb.2 (HRH.out b h)
     have hFA:∀ b,NH H w7 b→¬Qdg (w1.heap.size+1) mb2 b:=fun b hb h=>hb.2 (HRAH.out b h)
     have hll:(L++[(g+1,s1)]).length≤21:=by simp;omega
     have haf:=QbH (HREG5.out.ext (HX7.out.trans hx78)) (T:=none) (F:=fun _=>False) (U:=T) trivial hT8 (fun b hb=>hb.elim) (fun b hb=>⟨by have:=hb.1;omega,hFB b hb⟩) trivial HTI.out.ok (by simp [Qaj]) (by rw [HTI.out.ents];omega) (by omega) (fun W h h0=>Qov h h0 (by omega))
     rw [Qau,HPT.out] at haf
     have HAF:=Lib.hid haf
     have HX78:=Lib.hid hx78
     have HBT:=Lib.hid hbt
     have HT8:=Lib.hid hT8
     have HFB:=Lib.hid hFB
     have HFA:=Lib.hid hFA
     have HLL:=Lib.hid hll
     clear haf hx78 hbt hT8 hFB hFA hll
     refine HAF.out.mono ?_
     rintro e w9 ⟨sl0,evs0,rfl,-,hreg9,hst9,-⟩
     have hz89:=hst9.size
     have hbt9:Blk w9 w7.heap.size 33 #[.pointer pt']:=hst9.blk HBT.out (by omega)
     have t9:w9.cell? ⟨w7.heap.size,0,none⟩=some (.pointer pt'):=hbt9.cell 0
     have lt9:=hbt9.lt
     have hT9:IsT w9 (NH H w7) T:=HT8.out.agree fun b hb=>hst9.block b (by have:=hb.1;omega) fun e=>HFB.out b hb (.inl e)
     have hne12:∀ b,Qdg (w1.heap.size+1) mb2 b→¬b=w1.heap.size:=fun b hb h=>by have:=HLOA.out b hb;omega
     have haf:=QbH ((HREGA5.out.ext (HX7.out.trans HX78.out)).sb hst9.sb hne12) (T:=none) (F:=fun _=>False) (U:=T) trivial hT9 (fun b hb=>hb.elim) (fun b hb=>⟨by have:=hb.1;omega,HFA.out b hb⟩) trivial HTI.out.ok (by simp [Qaj]) (by rw [HTI.out.ents];omega) (by simp) (fun W h h0=>Qov h h0 (by simp))
     rw [Qau,HPT.out] at haf
     have HAF2:=Lib.hid haf
     have HREG9:=Lib.hid hreg9
     have HST9:=Lib.hid hst9
     have HBT9:=Lib.hid hbt9
     have HT9:=Lib.hid hT9
     clear haf hreg9 hst9 hbt9 hT9 hne12 HAF
     go_wp2_with fail
     refine HAF2.out.mono ?_
     rintro e w10 ⟨sl0',evs0',rfl,-,hregA10,hst10,-⟩
     have hz910:=hst10.size
     have hbt10:Blk w10 w7.heap.size 33 #[.pointer pt']:=hst10.blk HBT9.out (by omega)
     have t10:w10.cell? ⟨w7.heap.size,0,none⟩=some (.pointer pt'):=hbt10.cell 0
     have lt10:=hbt10.lt
     have hX5':∀ b,b<w5.heap.size→¬b=w1.heap.size→¬b=w1.heap.size+1→w10.heap[b]? = w5.heap[b]?:=fun b hb h1 h2=>(hst10.block b (by omega) h2).trans ((HST9.out.block b (by omega) h1).trans ((HX7.out.trans HX78.out).heap hb))
     have hbb10:Blk w10 (w.heap.size+1+1) 71 _:=(hX5' _ HBB5.out.lt (by omega) (by omega)).trans HBB5.out
     have b0:w10.cell? ⟨w.heap.size+1+1,0,none⟩=some (.int .i64 bkd):=hbb10.cell 0
     have b1:w10.cell? ⟨w.heap.size+1+1,1,none⟩=some (.int .i64 bq.kind):=hbb10.cell 1
     have b2:w10.cell? ⟨w.heap.size+1+1,2,none⟩=some (.string bq.lo):=hbb10.cell 2
     have b3:w10.cell? ⟨w.heap.size+1+1,3,none⟩=some (.string bq.hi):=hbb10.cell 3
     have b4:w10.cell? ⟨w.heap.size+1+1,4,none⟩=some (.bool bq.op):=hbb10.cell 4
     have b5:w10.cell? ⟨w.heap.size+1+1,5,none⟩=some (.int .u64 bid):=hbb10.cell 5
     have b6:w10.cell? ⟨w.heap.size+1+1,6,none⟩=some (.slice pt.a ft.length pt.c):=hbb10.cell 6
     have b7:w10.cell? ⟨w.heap.size+1+1,7,none⟩=some (.slice gq.a gt.length gq.c):=hbb10.cell 7
     have lb10:=hbb10.lt
     have hTI10:TI H M E T w10:=((HTI.out.ext HX78.out).st HST9.out (fun b hb=>by rw [hb];exact HRH.out _ (.inl rfl)) (by omega)).st hst10 (fun b hb=>by rw [hb];exact HRAH.out _ (.inl rfl)) (by omega)
     have hB10:A27 w10 (NH H w10) ⟨bkd,bq,bid,pt,ft,gq,gt⟩:=(HBA.out.agree fun b (hb:b<w.heap.size)=>(hX5' b (by omega) (by omega) (by omega)).trans ((H15.out b (by omega)).trans (HX1.out.heap hb))).mono fun b (hb:b<w.heap.size)=>⟨by omega,fun h=>by have:=HHO.out b h;omega⟩
     have hbn:(es.length+ft.length)*3+gt.length≤1048576:=HBN.out
     have htu:=Qk0 hTI10 (fun b hb=>by have:=HH.out b hb;omega) hB10 (show E.length+ft.length≤900000 by omega) (show gt.length≤100000000 by omega) HPT.out
     have hlF:=QgT E ⟨bkd,bq,bid,pt,ft,gq,gt⟩
     obtain ⟨F2,hF2⟩:∃ F2,Qhx E ⟨bkd,bq,bid,pt,ft,gq,gt⟩=F2:=⟨_,rfl⟩
     rw [hF2] at htu hlF
     have hFl:F2.length≤349525:=by
      have h1:F2.length≤E.length+ft.length:=hlF
      omega
     have HTU2:=Lib.hid htu
     have HREGA10:=Lib.hid hregA10
     have HST10:=Lib.hid hst10
     have HT10:=Lib.hid (HT9.out.agree fun b hb=>hst10.block b (by have:=hb.1;omega) fun e=>HFA.out b hb (.inl e))
     clear htu hlF hF2 hbn hB10 hTI10 hX5' hbb10 hbt10 hst10 hregA10 HAF2
     go_wp2_with fail
     refine HTU2.out.mono ?_
     rintro e w11 ⟨U,pu,H',M',rfl,hpu,hTU,hH',hHH',hx11,-,-⟩
     have HPU:=Lib.hid hpu
     have HTU3:=Lib.hid hTU
     have HRH':=Lib.hid (show ∀ b,Qdg w1.heap.size mb1 b→H' b from fun b hb=>hHH' b (HRH.out b hb))
     have HRAH':=Lib.hid (show ∀ b,Qdg (w1.heap.size+1) mb2 b→H' b from fun b hb=>hHH' b (HRAH.out b hb))
     have HX11:=Lib.hid hx11
     have hz11:=hx11.size
     clear hpu hTU hH' hHH' hx11 HTU2 b0 b1 b2 b3 b4 b5 b6 b7 t9 t10
     go_wp2_with fail
     generalize hW12:World.alloc w11 _=w12
     have hx12:Ext w11 w12:=by rw [←hW12];exact (Ext.refl _).alloc _ _
     have hbu:Blk w12 w11.heap.size 33 #[.pointer pu]:=by rw [←hW12];exact Blk.new w11 _ _
     clear hW12
     have hz112:=hx12.size
     have hx1012:=HX11.out.trans hx12
     have hreg12:=(HREG9.out.sb HST10.out.sb fun b hb h=>by have:=HLO1.out b hb;omega).ext hx1012
     have hregA12:=HREGA10.out.ext hx1012
     have hT12:IsT w12 (NH H w7) T:=HT10.out.agree (hx1012.agree fun b hb=>by have:=hb.1;omega)
     have hU12:IsT w12 (NH H' w11) U:=HTU3.out.tree.agree (hx12.agree fun b hb=>hb.1)
     have hGB:∀ b,NH H' w11 b→¬Qdg w1.heap.size mb1 b:=fun b hb h=>hb.2 (HRH'.out b h)
     have hGA:∀ b,NH H' w11 b→¬Qdg (w1.heap.size+1) mb2 b:=fun b hb h=>hb.2 (HRAH'.out b h)
     have hll:=HLL.out
     have haf:=QbH (hreg12.ext ((Ext.refl w12).drew)) (T:=T) (F:=NH H w7) (U:=U) (F':=NH H' w11) (hT12.agree fun b hb=>rfl) (hU12.agree fun b hb=>rfl) (fun b hb=>⟨by have:=hb.1;show b<w12.heap.size;omega,HFB.out b hb⟩) (fun b hb=>⟨by have:=hb.1;show b<w12.heap.size;omega,hGB b hb⟩) HTI.out.ok HTU3.out.ok (by rw [HTI.out.ents];omega) (by rw [HTU3.out.ents];omega) (by omega) (fun W h h0=>Qov h h0 (by omega))
     have hne12:∀ b,Qdg (w1.heap.size+1) mb2 b→¬b=w1.heap.size:=fun b hb h=>by have:=HLOA.out b hb;omega
     have haf2:∀ W,St (fun b=>b=w1.heap.size) w12 W→Calls Tryz.prog 18 #[.pointer (some ⟨w1.heap.size+1,0,none⟩),Qau U] W (QkT (w1.heap.size+1) U 1 mb2 [(1,s2)] (chg (Qaj T) (Qaj U)) W):=fun W hW=>
      QbH (hregA12.sb hW.sb hne12) (T:=T) (F:=NH H w7) (U:=U) (F':=NH H' w11) (hT12.agree fun b hb=>hW.block b (by have:=hb.1;omega) fun e=>HFB.out b hb (.inl e)) (hU12.agree fun b hb=>hW.block b (by have:=hb.1;omega) fun e=>hGB b hb (.inl e)) (fun b hb=>⟨by have:=hb.1;have:=hW.size;omega,HFA.out b hb⟩) (fun b hb=>⟨by have:=hb.1;have:=hW.size;omega,hGA b hb⟩) HTI.out.ok HTU3.out.ok (by rw [HTI.out.ents];omega) (by rw [HTU3.out.ents];omega) (by simp) (fun W h h0=>Qov h h0 (by simp))
     rw [Qau,HPU.out,HTI.out.ents,HTU3.out.ents] at haf haf2
     obtain ⟨C,hC⟩:∃ C,chg E F2=C:=⟨_,rfl⟩
     rw [hC] at haf haf2
     have lu:=hbu.lt
     have HSS:=Lib.hid (show ∀ W,St (fun b=>b=w1.heap.size∨b=w1.heap.size+1) w12 W→W.cell? ⟨w11.heap.size,0,none⟩=some (.pointer pu) from fun W hW=>(hW.blk hbu (by omega)).cell 0)
     have HAF3:=Lib.hid haf
     have HAF4:=Lib.hid haf2
     have HX12:=Lib.hid hx12
     have HU12:=Lib.hid hU12
     have HGB:=Lib.hid hGB
     have HGA:=Lib.hid hGA
     clear haf haf2 hx12 hbu hreg12 hregA12 hT12 hU12 hGB hGA hne12 hC
     go_wp2_with fail
     refine wp_region_held_drew (S:=(fun w'=>St (fun b=>b=w1.heap.size∨b=w1.heap.size+1) w12 w')) (by kernel_rfl) (((St.refl _ w12).drew)) (fun hHeld=>?_)
     refine Qac 0 (some 77) ?_ HSS hHeld ?_ ?_
     rotate_left
     focus (intro w hSc;go_simp;first | done | with_reducible rfl)
     refine Qac 2 (some 79) ?_ HSS hHeld ?_ ?_
     rotate_left
     focus (intro w hSc;go_simp;first | done | with_reducible rfl)
     refine Qaa (i:=1) (by kernel_rfl) rfl (by rfl) (fun K hK=>?_)
     go_simp
     (refine HAF3.out.mono ?_;rintro e w13 ⟨sl1,evs1,rfl,hmap1,hreg13,hst13,hevs1⟩;have HMP1:=Lib.hid hmap1;have HREG13:=Lib.hid hreg13;have HEV1:=Lib.hid hevs1;have HS13:=Lib.hid (((St.refl (fun b=>b=w1.heap.size) w12).drew).trans hst13);clear hmap1 hreg13 hevs1 hst13)
     refine hK.out _ _ (HS13.out.mono fun i _ hi=>.inl hi) (fun hHeld=>?_)
     clear hK K
     try simp only [Act.put,List.setIfInBounds_toArray,List.set_cons_zero,List.set_cons_succ]
     refine Qaa (i:=3) (by kernel_rfl) rfl (by rfl) (fun K hK=>?_)
     go_simp
     (refine (HAF4.out _ HS13.out).mono ?_;rintro e w14 ⟨sl2,evs2,rfl,hmap2,hregA14,hst14,hevs2⟩;have HMP2:=Lib.hid hmap2;have HREGA14:=Lib.hid hregA14;have HEV2:=Lib.hid hevs2;have HS14:=Lib.hid hst14;clear hmap2 hregA14 hevs2 hst14)
     refine hK.out _ _ (hHeld.trans (HS14.out.mono fun i _ hi=>.inr hi)) (fun hHeld=>?_)
     clear hK K
     try simp only [Act.put,List.setIfInBounds_toArray,List.set_cons_zero,List.set_cons_succ]
     refine Qac 4 (some 20) ?_ HSS hHeld ?_ ?_
     rotate_left
     focus (intro w hSc;go_simp;first | done | with_reducible rfl)
     refine Qac 5 (some 21) ?_ HSS hHeld ?_ ?_
     rotate_left
     focus (intro w hSc;go_simp;first | done | with_reducible rfl)
     refine wpAnyH_done (by kernel_rfl) ?_ _
     have HH14:=Lib.hid hHeld
     clear hHeld
     have hz1213:w12.heap.size≤w13.heap.size:=HS13.out.size
     have hz1314:=HS14.out.size
     have hev1:EVS w14 (In w12.heap.size w13.heap.size) sl1 evs1:=HEV1.out.agree fun b hb=>HS14.out.block b hb.2 (by have h1:w12.heap.size≤b:=hb.1;omega)
     have HE1:=Lib.hid hev1
     have HREG14:=Lib.hid (HREG13.out.sb HS14.out.sb fun b hb h=>by have:=HLO1.out b hb;omega)
     have hfew:=hev1.few
     clear hev1
     obtain ⟨n1,hn1⟩:∃ n1,evs1.length=n1:=⟨_,rfl⟩
     have HN1:=Lib.hid hn1
     rw [hn1] at hfew ⊢
     clear hn1
     go_wp2_with fail
     go_loopw [22,23] (fun v i wr=>∃ (j:Nat) (sm:Sl) (ms:List EV),v=.slice sm.a ms.length sm.c∧i=.int .i64 j∧j≤n1∧Hid (ms=Qow (g+1) (evs1.take j))∧Hid (wr.ownsRow w14.heap.size 56 16 (.slice sm.a ms.length sm.c) ms.length (QbX ms))∧Hid (Ext w14 wr)) (fun _ i _=>n1 - (intOf i).toNat)
     case atStart=>exact ⟨0,Sl.none,[],rfl,rfl,Nat.zero_le _,Lib.hid (by simp [Qow]),Lib.hid (World.ownsRow_nil _ _ _ _),Lib.hid (Ext.refl _)⟩
     case round=>
      obtain ⟨j,sm,ms,rfl,rfl,hj,HMS,HOW,HXR⟩:=hrel
      have hzr14:=HXR.out.size
      by_cases hlt:j<n1
      ·have g1:(j:Int)<(n1:Int):=by omega
       obtain ⟨v,hv⟩:∃ v,evs1[j]? = some v:=⟨_,List.getElem?_eq_getElem (by have:=HN1.out;omega)⟩
       have hevr:EVS wr (In w12.heap.size w13.heap.size) sl1 evs1:=HE1.out.agree (HXR.out.agree fun b hb=>by have:=hb.2;omega)
       obtain ⟨eb,eo,hsa,hFe,he1,he2,-,hcl⟩:=hevr.at hv
       rw [HN1.out] at he1
       obtain ⟨sla,slc⟩:=sl1
       dsimp only at hsa he1 he2
       subst hsa
       have leb:eb<wr.heap.size:=by have:=hFe.2;omega
       have hmsl:ms.length≤j:=by
        rw [HMS.out]
        have h1:=QoT (g+1) (evs1.take j)
        have h2:(evs1.take j).length≤j:=by rw [List.length_take];omega
        omega
       have HV:=Lib.hid hv
       by_cases hid:v.id=g+1
       ·have hb0:(((v.id:Nat):Int) == ((g+1:Nat):Int))=true:=by rw [hid];simp
        have hb1:(((v.id:Nat):Int) == ((g:Int)+1))=true:=by rw [hid];simp
        obtain ⟨d0,d1,d2,d3,d4,d5,d6,d7,d8,d9,d10,d11,d12,d13,d14,d15⟩:=Qma hcl
        have hnA:Ext wr (wr.alloc (.cells (⟨1,v.x⟩:EV).cells 56)):=(Ext.refl _).alloc _ _
        have HOX:=Lib.hid (Qad HOW.out (hnA.agree fun b (hb:b<wr.heap.size)=>hb) (fun b hb=>(Qab HOW.out hb).2))
        have HBNW:=Lib.hid (Blk.new wr 56 (⟨1,v.x⟩:EV).cells)
        have HNA:=Lib.hid hnA
        have h63:ms.length+1≤maxLen:=by unfold maxLen;omega
        have hby:(ms.length+1)*216≤140737488355328:=by omega
        have hbase:w14.heap.size≤(wr.alloc (.cells (⟨1,v.x⟩:EV).cells 56)).heap.size:=by rw [World.size_alloc];omega
        have hone:=Qj5 (⟨1,v.x⟩:EV)
        clear hevr hcl hv hnA
        go_wp2_with (at_builtin;refine Qaf _ rfl (.tmp 94) (.tmp 102) 48 rfl w14.heap.size 56 i0 _ 16 216 Tryz.underlying48 hI hI0 hI1 hI2 rfl (by decide) sm ms.length (QbX ms) rfl HOX.out (fun b=>b=wr.heap.size) ⟨some ⟨wr.heap.size,0,none⟩,1⟩ 1 (⟨1,v.x⟩:EV).cells.toList rfl (Rd.block HBNW.out (by decide) rfl) hone h63 hby hbase ?_;intro r2 wA hownA hwrA hsA2;have HOA:=Lib.hid hownA;have HWA:=Lib.hid hwrA;clear hownA hwrA hsA2)
        go_roundw
        case rel=>
         have hrow:∀ b,sm.row=some b→w14.heap.size≤b:=fun b hb=>(Qab HOW.out hb).1
         refine ⟨j+1,r2,ms++[(⟨1,v.x⟩:EV)],by rw [List.length_append,List.length_singleton],by go_num,hlt,Lib.hid ?_,Lib.hid ?_,Lib.hid ((HXR.out.trans HNA.out).wr HWA.out hrow)⟩
         ·rw [List.take_add_one,HV.out,HMS.out]
          show _=Qow (g+1) (evs1.take j++[v])
          rw [QoM,if_pos hid]
         ·rw [List.length_append,List.length_singleton,Qjo];exact HOA.out
        case measure=>simp [intOf];omega
       ·have hb0:(((v.id:Nat):Int) == ((g+1:Nat):Int))=false:=beq_eq_false_iff_ne.2 (by omega)
        have hb1:(((v.id:Nat):Int) == ((g:Int)+1))=false:=beq_eq_false_iff_ne.2 (by omega)
        have d0:wr.cell? ⟨eb,eo+j*16,none⟩=some (.int .u64 (v.id:Int)):=hcl 0 _ rfl
        clear hevr hcl hv
        go_wp2_with fail
        go_roundw
        case rel=>
         refine ⟨j+1,sm,ms,rfl,by go_num,hlt,Lib.hid ?_,HOW,HXR⟩
         rw [List.take_add_one,HV.out,HMS.out]
         show _=Qow (g+1) (evs1.take j++[v])
         rw [QoM,if_neg hid,List.append_nil]
        case measure=>simp [intOf];omega
      ·obtain rfl:j=n1:=by omega
       have hms:ms=Qow (g+1) evs1:=by rw [HMS.out,←HN1.out,List.take_length]
       have hLn:∀ p∈L,p.1<g+1:=fun p hp=>by have:=(HREG.out.up p hp).2;omega
       have hss:∀ k,Qbw k s1.lo s1.hi s1.op=Qbw k s2.lo s2.hi s2.op:=fun k=>(HIV1.out.has HM.out k).trans (HIV2.out.has HM.out k).symm
       have hmm:ms.map EV.p=evs2.map EV.p:=by rw [hms];exact (Qpa HMP1.out hLn hss).trans HMP2.out.symm
       have hmv:EVS wr (Lt wr.heap.size) sm ms:=⟨(Rd.QaC HOW.out).mono fun b hb=>hb.2,fun x hx=>by
         rw [hms] at hx
         simp only [Qow,List.mem_map,List.mem_filter] at hx
         obtain ⟨v,⟨hv,-⟩,rfl⟩:=hx
         exact ((HE1.out.vals v hv).agree (HXR.out.agree fun b hb=>by have:=hb.2;omega)).mono fun b hb=>by have:=hb.2;show b<_;omega,by
         have h1:=QoT (g+1) evs1
         rw [←hms,HN1.out] at h1
         omega⟩
       have hU14:IsT wr (NH H' w11) U:=(HU12.out.agree fun b hb=>HH14.out.block b (by have:=hb.1;omega) (by
         rintro (h | h)
         ·exact HGB.out b hb (.inl h)
         ·exact HGA.out b hb (.inl h))).agree (HXR.out.agree fun b hb=>by have:=hb.1;omega)
       have hfd:(L++[(g+1,s1)]).find? (fun p=>p.1 == g+1)=some (g+1,s1):=by
        rw [List.find?_append,List.find?_eq_none.2 fun p hp=>by have:=hLn p hp;simp;omega]
        simp
       have hre:=QdV (HREG14.out.ext HXR.out) hU14 (fun b hb=>by have:=hb.1;omega) HTU3.out.ok (by rw [HTU3.out.ents];omega) hfd (by omega)
       rw [HTU3.out.ents] at hre
       have HRE:=Lib.hid hre
       have HMV:=Lib.hid hmv
       have HMM:=Lib.hid hmm
       have HSSV:=Lib.hid hss
       have HU14:=Lib.hid hU14
       clear hre hmv hmm hss hms hLn hU14 hfd
       go_wp2_with fail
       refine HRE.out.mono ?_
       rintro e w15 ⟨sx,xs,rfl,hxs,hx15,hexs⟩
       have hz15:=hx15.size
       have hre:=QdV (HREGA14.out.ext (HXR.out.trans hx15)) (HU14.out.agree (hx15.agree fun b hb=>by have:=hb.1;omega)) (fun b hb=>by have:=hb.1;omega) HTU3.out.ok (by rw [HTU3.out.ents];omega) (i:=1) (iv:=s2) rfl (by decide)
       rw [HTU3.out.ents,show Qaq s2.lo s2.hi s2.op F2=Qaq s1.lo s1.hi s1.op F2 from List.filter_congr fun e _=>(HSSV.out e.1).symm] at hre
       have HRE2:=Lib.hid hre
       have HXS:=Lib.hid hxs
       have HEXS:=Lib.hid hexs
       have HX15:=Lib.hid hx15
       clear hre hxs hexs hx15 HRE
       go_wp2_with fail
       refine HRE2.out.mono ?_
       rintro e w16 ⟨sy,ys,rfl,hys,hx16,heys⟩
       have hz16:=hx16.size
       have hx1516:=HX15.out.trans hx16
       have hsm27:=Qdd (w:=w16) (s:=sm) (s':=sl2) (xs:=ms) (ys:=evs2) ((HMV.out.agree (hx1516.agree fun b hb=>hb)).mono fun b (hb:b<wr.heap.size)=>by show b<_;omega) ((HEV2.out.agree ((HXR.out.trans hx1516).agree fun b hb=>hb.2)).mono fun b hb=>by have:=hb.2;show b<_;omega) HMM.out
       have hse:∀ W,Ext w16 W→Calls Tryz.prog 29 #[.slice sx.a xs.length sx.c,.slice sy.a ys.length sy.c] W fun e w'=>e=.returned (.bool true)∧Ext W w':=fun W hW=>by
        have h1:=Qh0 (w:=W) (((HEXS.out.agree (hx16.agree fun b hb=>hb.2)).agree (hW.agree fun b hb=>by have:=hb.2;omega)).mono (G:=Lt W.heap.size) fun b hb=>by have:=hb.2;have:=hW.size;show b<_;omega) ((heys.agree (hW.agree fun b hb=>hb.2)).mono (G:=Lt W.heap.size) fun b hb=>by have:=hb.2;have:=hW.size;show b<_;omega)
        rwa [HXS.out,hys,Qe8] at h1
       have HSM:=Lib.hid hsm27
       have HSE:=Lib.hid hse
       have HX16:=Lib.hid hx1516
       clear hsm27 hse hx1516 hx16 hys heys HRE2
       go_wp2_with fail
       refine HSM.out.mono ?_
       rintro e w17 ⟨rfl,hx17⟩
       have HSE2:=Lib.hid (HSE.out w17 hx17)
       have HX17:=Lib.hid hx17
       clear hx17 HSM HSE
       go_wp2_with fail
       refine HSE2.out.mono ?_
       rintro e w18 ⟨rfl,hx18⟩
       have HX18:=Lib.hid hx18
       clear hx18 HSE2
       go_wp2_with fail
       refine (Qhy _).mono ?_
       rintro e w19 ⟨rfl,hb19⟩
       have HB19:=Lib.hid hb19
       clear hb19
       go_wp2_with fail
       go_ret
       have k1:Below w.heap.size w w8:=Sb.step HB15.out ((HX7.out.trans HX78.out).sb fun _=>False) fun b hb=>hb.elim
       have k2:Below w.heap.size w w9:=Sb.step k1 HST9.out.sb fun b hb=>by rw [hb];omega
       have k3:Below w.heap.size w w10:=Sb.step k2 HST10.out.sb fun b hb=>by rw [hb];omega
       have k4:Below w.heap.size w w12:=Sb.step k3 ((HX11.out.trans HX12.out).sb fun _=>False) fun b hb=>hb.elim
       have k5:Below w.heap.size w w14:=Sb.step k4 HH14.out.sb fun b hb=>by omega
       have k6:Below w.heap.size w w18:=Sb.step k5 ((HXR.out.trans (HX16.out.trans (HX17.out.trans HX18.out))).sb fun _=>False) fun b hb=>hb.elim
       exact ⟨rfl,Sb.step k6 (Sb.new (H:=fun _=>False) HB19.out) fun b hb=>hb.elim⟩
  ·have g0:(m != 0)=true:=by simp [hm0]
   go_enter Tryz.func7,Tryz.ntmps7
   go_wp2_with fail
   generalize hW0:World.alloc (World.alloc (World.alloc w _) _) _=w0
   have hx0:Ext w w0:=by rw [←hW0];exact (((Ext.refl w).alloc _ _).alloc _ _).alloc _ _
   clear hW0
   refine (HRM.out w0).mono ?_
   rintro e w1 ⟨rfl,hx1⟩
   have HX1:=Lib.hid (hx0.trans hx1)
   clear hx1 hx0
   go_wp2_with fail
   refine (Qhy _).mono ?_
   rintro e w2 ⟨rfl,hb2⟩
   have HB2:=Lib.hid hb2
   clear hb2
   go_wp2_with fail
   go_ret
   exact ⟨rfl,Sb.step HX1.out.below (Sb.new (H:=fun _=>False) HB2.out) fun b hb=>hb.elim⟩
end Go.Proofs.YtohajcflklejjaaGreat
