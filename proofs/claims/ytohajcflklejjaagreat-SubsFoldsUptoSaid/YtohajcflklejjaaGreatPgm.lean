/- What the theorem needs of the texts Folds: no condition of its own. -/
import Derived.Laws.IdiomStrings
import Derived.WalkArith
import Derived.Test.YtohajcflklejjaaGreatPga
import Derived.Test.YtohajcflklejjaaGreatPgb
import Derived.Test.YtohajcflklejjaaGreatPgc
import Derived.Test.YtohajcflklejjaaGreatPgd
import Derived.Test.YtohajcflklejjaaGreatPge
import Derived.Test.YtohajcflklejjaaGreatPgf
import Derived.Test.YtohajcflklejjaaGreatPgg
import Derived.Test.YtohajcflklejjaaGreatPgh
import Derived.Test.YtohajcflklejjaaGreatPgi
import Derived.Test.YtohajcflklejjaaGreatPgj
import Derived.Test.YtohajcflklejjaaGreatPgk
import Derived.Test.YtohajcflklejjaaGreatPgl
set_option maxRecDepth 100000
set_option maxHeartbeats 8000000
namespace Go.Proofs.YtohajcflklejjaaGreat
open Go.RowKit
set_option linter.unusedVariables false
set_option linter.unusedSimpArgs false
theorem Tryz.QlY:(Tryz.prog.info? 72).map (fun i=>(i.zero,i.size,i.bytes))=some (some (.pointer none),1,8):=by kernel_rfl
theorem Qku (x:Nat):∀ u∈[Qc4 x],u.oneCell'=true:=by simp [Qc4,Value.oneCell']
abbrev Qnf (m:Nat):Value:=.pointer (some ⟨m,0,none⟩)
theorem Qkt (m:Nat):∀ u∈[Qnf m],u.oneCell'=true:=by simp [Qnf,Value.oneCell']
theorem QlN {L:Qbx} {p:Nat × Iv} (hr:L.Pairwise fun p q=>p.1<q.1) (hp:p∈L):L.find? (fun q=>q.1 == p.1)=some (p.1,p.2):=by
 obtain ⟨A,B,rfl⟩:=List.append_of_mem hp
 have hA:∀ q∈A,q.1<p.1:=fun q hq=>(List.pairwise_append.1 hr).2.2 q hq p (List.mem_cons_self ..)
 rw [List.find?_append,List.find?_eq_none.2 fun q hq=>by have:=hA q hq;simp;omega]
 simp
def QnR (L:Qbx) (E:List Ent) (base R:Nat) (ms:List Nat) (rw_:Option Nat) (W:World):Prop:=
 ms.Nodup∧(∀ m∈ms,base≤m∧m<W.heap.size)∧∀ i m:Nat,ms[i]? = some m→∃ p:Nat × Iv,L[i]? = some p∧MapAt (fun b=>(b∈ms∨rw_=some b)∨b=R) W m (Qau p.2.lo p.2.hi p.2.op E)
theorem Qju {w:World} {base e size n m:Nat} {s:Sl} {xs:List Value} {t:TypeId} {cs:Array Value} (ho:w.ownsRow base e size (.slice s.a n s.c) n xs) (hb:Blk w m t cs) (hne:e≠t):¬s.row=some m:=fun hr=>by
 rcases ho.2 with ⟨hv,-⟩ | ⟨gg,cap,cur,hv,-,hc,-⟩
 ·injection hv with e1
  rw [Sl.row,e1] at hr
  cases hr
 ·injection hv with e1
  rw [Sl.row,e1] at hr
  have:gg=m:=by simpa using hr
  subst this
  have h2:w.heap[gg]? = some (.cells cs t (0,0)):=hb
  rw [hc] at h2
  injection h2 with h2
  injection h2 with h3 h4
  exact hne h4
theorem QfU {w:World} {R:Nat} {T:RT} {g:Nat} {mb:Option Nat} {L:Qbx} {base e size n:Nat} {s:Sl} {xs:List Value} (h:Qbf w R T g mb L) (ho:w.ownsRow base e size (.slice s.a n s.c) n xs):∀ b,mb=some b→¬s.row=some b:=fun b hb hr=>by
 subst hb
 obtain ⟨es,clock,h1,-⟩:w.ownsMap Tryz.prog 34 ivR b g (mapD L):=h.map
 rcases ho.2 with ⟨hv,-⟩ | ⟨gg,cap,cur,hv,-,hc,-⟩
 ·injection hv with e1
  rw [Sl.row,e1] at hr
  cases hr
 ·injection hv with e1
  rw [Sl.row,e1] at hr
  have:gg=b:=by simpa using hr
  subst this
  rw [h1] at hc
  cases hc
theorem Qlp {L:Qbx} {E:List Ent} {base R:Nat} (hR:R<base) {ms:List Nat} {sw r2 sx:Sl} {xs:List LE} {wr w10 W2 wA:World} {p:Nat × Iv} (h:QnR L E base R ms sw.row wr) (ho:wr.ownsRow base 72 1 (.slice sw.a ms.length sw.c) ms.length (ms.map Qnf)) (hbs:base≤wr.heap.size) (hz:wr.heap.size≤w10.heap.size) (hz2:W2.heap.size=w10.heap.size+2) (hx:Ext wr W2) (hw:Wr W2 wA sw.row)
  (ha:r2.a=sw.a∨r2.a=some ⟨W2.heap.size,0,none⟩∧Wr W2 wA none) (hb:Blk W2 w10.heap.size 76 #[.slice sx.a xs.length sx.c]) (he:ES W2 (In wr.heap.size w10.heap.size) sx xs) (hxs:xs.map LE.ent=Qau p.2.lo p.2.hi p.2.op E) (hp:L[ms.length]? = some p):QnR L E base R (ms++[w10.heap.size]) r2.row wA:=by
 obtain ⟨hn,hl,hm⟩:=h
 have hzx:=hx.size
 have hst:St (fun b=>sw.row=some b) W2 wA:=hw.st fun i hi=>hi
 have hzw:=hst.size
 have hrow:∀ b,sw.row=some b→base≤b∧b<wr.heap.size:=fun b hb=>Qab ho hb
 have hr2:∀ b,r2.row=some b→sw.row=some b∨b=W2.heap.size:=fun b hb=>by
  rcases ha with h | ⟨h,-⟩
  ·rw [Sl.row,h] at hb
   exact .inl hb
  ·rw [Sl.row,h] at hb
   exact .inr (by simpa using hb.symm)
 refine ⟨List.nodup_append.2 ⟨hn,by simp,fun a ha b hb=>by have:=(hl a ha).2;rw [List.mem_singleton] at hb;omega⟩,fun m hmm=>?_,fun i m hi=>?_⟩
 ·rcases List.mem_append.1 hmm with h | h
  ·have:=hl m h;omega
  ·rw [List.mem_singleton] at h;omega
 ·by_cases hlt:i<ms.length
  ·rw [List.getElem?_append_left hlt] at hi
   obtain ⟨p',hp',hM⟩:=hm i m hi
   have hmm:=List.mem_of_getElem? hi
   have h1:MapAt (fun b=>((b∈ms∨sw.row=some b)∨b=R)∨wr.heap.size≤b) wr m _:=hM.more (fun b hb=>.inl hb) fun b hb hg=>hg.elim id fun h=>by omega
   have hbk:Blk wr m 76 _:=hM.ex.choose_spec.choose_spec.1
   have h2:=h1.st ((hx.st _).trans hst) (fun b hb=>.inl (.inl (.inr hb))) (Qju ho hbk (by decide))
   obtain ⟨-,s2,xs2,hb2,hs2,hx2⟩:=h2
   refine ⟨p',hp',.inl (.inl (List.mem_append_left _ hmm)),s2,xs2,hb2,hs2.mono fun b hi=>⟨hi.1,fun hb=>hi.2 ?_⟩,hx2⟩
   rcases hb with (hb | hb) | hb
   ·rcases List.mem_append.1 hb with hb | hb
    ·exact .inl (.inl (.inl hb))
    ·rw [List.mem_singleton] at hb;exact .inr (by omega)
   ·rcases hr2 b hb with hb | hb
    ·exact .inl (.inl (.inr hb))
    ·exact .inr (by omega)
   ·exact .inl (.inr hb)
  ·obtain rfl:i=ms.length:=by
    have:=(List.getElem?_eq_some_iff.1 hi).1
    rw [List.length_append,List.length_singleton] at this
    omega
   rw [List.getElem?_append_right (Nat.le_refl _),Nat.sub_self] at hi
   obtain rfl:w10.heap.size=m:=by simpa using hi
   refine ⟨p,hp,.inl (.inl (List.mem_append_right _ (List.mem_singleton.2 rfl))),sx,xs,hst.blk hb fun h=>by have:=hrow _ h;omega,(he.agree fun b hb=>hst.block b (by have:=hb.2;omega) fun h=>by have:=(hrow _ h).2;have:=hb.1;omega).mono fun b hb=>⟨by have:=hb.2;omega,fun h=>?_⟩,hxs⟩
   have h1:=hb.1
   have h2:=hb.2
   rcases h with (h | h) | h
   ·rcases List.mem_append.1 h with h | h
    ·have:=hl b h;omega
    ·rw [List.mem_singleton] at h;omega
   ·rcases hr2 b h with h | h
    ·have:=hrow b h;omega
    ·omega
   ·omega
theorem QmV {L:Qbx} {C:List Chg} {evs:List EV} (hm:evs.map EV.p=evL L C) (hr:(evL L C).Pairwise fun x y=>x.1<y.1∨x.1=y.1∧klt x.2.k y.2.k=true) {i:Nat} {x y:EV} (h1:evs[i]? = some x) (h2:evs[i+1]? = some y):x.id<y.id∨x.id=y.id∧klt x.x.c.k y.x.c.k=true:=by
 rw [←hm,List.pairwise_map,List.pairwise_iff_getElem] at hr
 obtain ⟨l1,rfl⟩:=List.getElem?_eq_some_iff.1 h1
 obtain ⟨l2,rfl⟩:=List.getElem?_eq_some_iff.1 h2
 exact hr i (i+1) l1 l2 (by omega)
theorem Wr.Qon {w w':World} {row:Option Nat} (h:Wr w w' row):Sb (fun b=>row=some b) w w':=⟨h.grown.os,h.grown.tape,h.grown.output,h.grown.size,fun b hb hn=>h.grown.block b hb fun e=>hn e.symm⟩
theorem QoU (cx:Array Value) (h:cx.size=16):∃ ds,Tryz.prog.underlying 56=some ds∧ds.isRow=true∧(Tryz.prog.info? 56).map (·.size)=some cx.size:=by
 obtain ⟨i0,hI,hI0,hI1,hI2⟩:=info_parts Tryz.QkA
 exact ⟨_,Tryz.underlying56,rfl,by rw [hI,h];simp [hI1]⟩
theorem subsfolds_w (s:Sl) (qs:List Qy) (a b:L27) (w:World) (hqs:QS w (Lt w.heap.size) s qs) (ha:A27 w (Lt w.heap.size) a∧a.es.length*9+a.gs.length≤1048576) (hb:A27 w (Lt w.heap.size) b∧(a.es.length+b.es.length)*9+b.gs.length≤1048576) :
  Calls Tryz.prog 6 #[.slice s.a qs.length s.c,a.v,b.v] w fun e w'=>e=.returned (.bool true)∧Below w.heap.size w w':=by
 have HA:=Lib.hid ha.1
 have HAN:=Lib.hid ha.2
 have HBA:=Lib.hid hb.1
 have HBN:=Lib.hid hb.2
 have HQS:=Lib.hid hqs
 clear ha hb hqs
 obtain ⟨iu,uI,uI0,uI1,uI2⟩:=info_parts Tryz.QkB
 obtain ⟨im,mI,mI0,mI1,mI2⟩:=info_parts Tryz.QlY
 obtain ⟨ic,cI,cI0,cI1,cI2⟩:=info_parts Tryz.QfP
 obtain ⟨akd,aq,aid,ps,es,gp,gs⟩:=a
 obtain ⟨bkd,bq,bid,pt,ft,gq,gt⟩:=b
 dsimp only [L27.v]
 by_cases h20:20<qs.length
 ·have g20:(20:Int)<(qs.length:Int):=by omega
  go_enter Tryz.func6,Tryz.ntmps6
  go_wp2_with fail
  generalize hW0:World.alloc (World.alloc w _) _=w0
  have hx0:Ext w w0:=by rw [←hW0];exact ((Ext.refl w).alloc _ _).alloc _ _
  clear hW0
  refine (QkK _).mono ?_
  rintro e w2 ⟨rfl,hb2⟩
  have HB2:=Lib.hid (Sb.step hx0.below (Sb.new (H:=fun _=>False) hb2) fun b hb=>hb.elim)
  clear hb2 hx0
  go_wp2_with fail
  go_ret
  exact ⟨rfl,HB2.out⟩
 ·have g20:¬(20:Int)<(qs.length:Int):=by omega
  have hn20:qs.length≤20:=by omega
  go_enter Tryz.func6,Tryz.ntmps6
  go_wp2_with fail
  generalize hW2:World.alloc (World.alloc (World.alloc w _) _) _=w2
  obtain ⟨hx2,hz2,hba,hbb,hr1⟩:=QaJ w _ _ _ _ _ _ w2 hW2
  clear hW2
  obtain ⟨R,hR⟩:∃ R,R=w.heap.size+1+1:=⟨_,rfl⟩
  rw [←hR] at hr1 ⊢
  have HBA1:=Lib.hid hba
  have HBB1:=Lib.hid hbb
  have HX2:=Lib.hid hx2
  have HREG0:=Lib.hid (Qbf.new hr1)
  have hR2:R<w2.heap.size:=hr1.lt
  have hRlo:w.heap.size+2≤R:=by omega
  have hRhi:R≤w.heap.size+2:=by omega
  clear hx2 hba hbb hr1 hz2 hR
  go_loopw [8,9] (fun v i wr=>∃ (j g:Nat) (mb:Option Nat) (L:Qbx) (si:Sl),v=.slice si.a L.length si.c∧i=.int .i64 j∧j≤qs.length∧Hid (Qbf wr R none g mb L)∧g≤j∧L.length≤j∧Hid (∀ b,mb=some b→w2.heap.size≤b)∧Hid (Sb (fun b=>b=R) w2 wr)∧Hid (wr.ownsRow w2.heap.size 34 1 (.slice si.a L.length si.c) L.length (L.map fun p=>Qc4 p.1))) (fun _ i _=>qs.length - (intOf i).toNat)
  case atStart=>exact ⟨0,0,none,[],Sl.none,rfl,rfl,Nat.zero_le _,HREG0,Nat.le_refl _,Nat.le_refl _,Lib.hid (fun b hb=>by cases hb),Lib.hid (Sb.refl _ _),Lib.hid (World.ownsRow_nil _ _ _ _)⟩
  case round=>
   obtain ⟨j,g,mb,L,si,rfl,rfl,hj,HREG,hg,hL,HMB,HSB,HOW⟩:=hrel
   by_cases hlt:j<qs.length
   ·have g1:(j:Int)<(qs.length:Int):=by omega
    obtain ⟨x,hx⟩:∃ x,qs[j]? = some x:=⟨_,List.getElem?_eq_getElem hlt⟩
    have hzr:=HSB.out.size
    have hqr:QS wr (Lt w.heap.size) s qs:=HQS.out.agree fun b (hb:b<w.heap.size)=>(HSB.out.block b (by omega) (by omega)).trans (HX2.out.heap hb)
    obtain ⟨b,o,hsa,hFb,hcc,hcm,hq4,hqx⟩:=hqr.at hx
    obtain ⟨sa,sc⟩:=s
    dsimp only at hsa hcc hcm
    subst hsa
    have hqc:∀ W,(∀ b,b<w.heap.size→W.heap[b]? = wr.heap[b]?)→QfD W b (o+j*4) x:=fun W hW=>hq4.agree (F:=Lt w.heap.size) (fun c hc=>hW c hc) hFb
    obtain ⟨d0,d1,d2,d3⟩:=hq4
    have lbw:b<w.heap.size:=hFb
    have lb:b<wr.heap.size:=by omega
    have hadd:=QgM HREG.out (by omega) x hqx
    have hrm:=fun W=>Qhl x W
    obtain ⟨m,hmq⟩:∃ m,Qfx x=m:=⟨_,rfl⟩
    rw [hmq] at hrm
    have HADD:=Lib.hid hadd
    have HRM:=Lib.hid hrm
    have HM:=Lib.hid hmq
    have HQC:=Lib.hid hqc
    clear hx hqr hadd hFb hrm hmq hqc
    go_wp2_with fail
    refine HADD.out.mono ?_
    rintro e w3 hpost
    rcases hpost with ⟨hm0,rfl,hx3⟩ | ⟨hm0,s1,mb',rfl,hiv,hreg3,hmb3,hsb3⟩
    ·rw [HM.out] at hm0 ⊢
     obtain ⟨e0,e1,e2,e3⟩:=HQC.out w3 fun c hc=>hx3.heap (by omega)
     have lb3:b<w3.heap.size:=by have:=hx3.size;omega
     have g3:(m != m)=false:=by simp
     have g4:(m == 0)=false:=beq_eq_false_iff_ne.2 hm0
     have HX3:=Lib.hid hx3
     clear hx3 HADD hm0
     go_wp2_with fail
     refine (HRM.out _).mono ?_
     rintro e w4 ⟨rfl,hx4⟩
     have HX4:=Lib.hid (HX3.out.trans hx4)
     clear hx4 e0 e1 e2 e3
     go_wp2_with fail
     go_roundw
     case rel=>exact ⟨j+1,g,mb,L,si,rfl,by go_num,hlt,Lib.hid (HREG.out.ext HX4.out),by omega,by omega,HMB,Lib.hid (HSB.out.ext HX4.out),Lib.hid (Qac HOW.out (HX4.out.agree fun b (hb:b<wr.heap.size)=>hb) (fun b hb=>(Qab HOW.out hb).2))⟩
     case measure=>simp [intOf];omega
    ·rw [HM.out] at hm0
     subst hm0
     obtain ⟨G,hG⟩:∃ G,g+1=G:=⟨_,rfl⟩
     rw [hG] at hreg3 ⊢
     have hG1:g<G:=by omega
     have hG2:G≤j+1:=by omega
     clear hG
     have hz3:=hsb3.size
     have hne:∀ b,b<w.heap.size→¬QfE R mb b:=fun b hb h=>by
      rcases h with h | h
      ·omega
      ·have:=HMB.out b h;omega
     obtain ⟨e0,e1,e2,e3⟩:=HQC.out w3 fun c hc=>hsb3.block c (by omega) (hne c hc)
     have lb3:b<w3.heap.size:=by omega
     have hM3:∀ b,mb'=some b→w2.heap.size≤b:=fun b hb=>by
      rcases hmb3 with h | ⟨c,h,hc⟩
      ·exact HMB.out b (by rw [←h];exact hb)
      ·rw [h] at hb;injection hb with hb;omega
     have how3:w3.ownsRow w2.heap.size 34 1 (.slice si.a L.length si.c) L.length (L.map fun p=>Qc4 p.1):=Qac (F:=fun b=>si.row=some b) HOW.out (fun b hb=>hsb3.block b (Qab HOW.out hb).2 fun h=>by
      rcases h with h | h
      ·have:=(Qab HOW.out hb).1;omega
      ·exact QfU HREG.out HOW.out b h hb) fun b hb=>hb
     have HR3:=Lib.hid hreg3
     have HOW3:=Lib.hid how3
     have HM3:=Lib.hid hM3
     have HS3:=Lib.hid (HSB.out.comp hsb3 fun i hi h=>by
      rcases h with h | h
      ·exact h
      ·have:=HMB.out i h;omega)
     have hl3:L.length+1≤j+1:=by omega
     clear hiv hreg3 hmb3 hsb3 HADD how3 hM3 hne
     go_wp2_with fail
     refine (HRM.out _).mono ?_
     rintro e w4 ⟨rfl,hx4⟩
     have HX4:=Lib.hid hx4
     have hz4:=hx4.size
     clear hx4 e0 e1 e2 e3
     have hnA:Ext w4 (w4.alloc (.cells #[Qc4 G] 34)):=(Ext.refl _).alloc _ _
     have hx34:=HX4.out.trans hnA
     have HOX:=Lib.hid (Qac HOW3.out (hx34.agree fun b (hb:b<w3.heap.size)=>hb) (fun b hb=>(Qab HOW3.out hb).2))
     have HBNW:=Lib.hid (Blk.new w4 34 #[Qc4 G])
     have HRX:=Lib.hid (HR3.out.ext hx34)
     have HSX:=Lib.hid (HS3.out.ext hx34)
     have h63:L.length+1≤maxLen:=by unfold maxLen;omega
     have hby:(L.length+1)*8≤140737488355328:=by omega
     have hbase:w2.heap.size≤(w4.alloc (.cells #[Qc4 G] 34)).heap.size:=by rw [World.size_alloc];omega
     have hone:=Qku G
     clear hnA hx34
     go_wp2_with (at_builtin;refine Qag _ rfl (.tmp 57) (.tmp 59) 63 rfl w2.heap.size 34 iu _ 1 8 Tryz.underlying63 uI uI0 uI1 uI2 rfl (by decide) si L.length (L.map fun p=>Qc4 p.1) rfl HOX.out (fun b=>b=w4.heap.size) ⟨some ⟨w4.heap.size,0,none⟩,1⟩ 1 [Qc4 G] rfl (Rd.block HBNW.out (by decide) rfl) hone h63 hby hbase ?_;intro r2 wA hownA hwrA hsA2;have HOA:=Lib.hid hownA;have HWA:=Lib.hid hwrA;clear hownA hwrA hsA2)
     go_roundw
     case rel=>
      have hsb:=HWA.out.Qon
      have hrow:∀ b,si.row=some b→w2.heap.size≤b:=fun b hb=>(Qab HOX.out hb).1
      refine ⟨j+1,G,mb',L++[(G,s1)],r2,by rw [List.length_append,List.length_singleton],by go_num,hlt,Lib.hid (HRX.out.sb hsb fun b hb h=>?_),hG2,by rw [List.length_append,List.length_singleton];omega,HM3,Lib.hid (HSX.out.comp hsb fun i hi h=>by have:=hrow i h;omega),Lib.hid ?_⟩
      ·rcases hb with hb | hb
       ·have:=hrow b h;omega
       ·exact QfU HRX.out HOX.out b hb h
      ·rw [List.length_append,List.length_singleton,List.map_append];exact HOA.out
     case measure=>simp [intOf];omega
   ·obtain rfl:j=qs.length:=by omega
    obtain ⟨w3,hw3⟩:∃ w3,w3=wr:=⟨_,rfl⟩
    subst hw3
    have hzr:=HSB.out.size
    have h13:∀ b,b<R→w3.heap[b]? = w2.heap[b]?:=fun b hb=>HSB.out.block b (by omega) (by omega)
    have hba5:Blk w3 w.heap.size 71 _:=(h13 _ (by omega)).trans HBA1.out
    have hbb5:Blk w3 (w.heap.size+1) 71 _:=(h13 _ (by omega)).trans HBB1.out
    have a0:w3.cell? ⟨w.heap.size,0,none⟩=some (.int .i64 akd):=hba5.cell 0
    have a1:w3.cell? ⟨w.heap.size,1,none⟩=some (.int .i64 aq.kind):=hba5.cell 1
    have a2:w3.cell? ⟨w.heap.size,2,none⟩=some (.string aq.lo):=hba5.cell 2
    have a3:w3.cell? ⟨w.heap.size,3,none⟩=some (.string aq.hi):=hba5.cell 3
    have a4:w3.cell? ⟨w.heap.size,4,none⟩=some (.bool aq.op):=hba5.cell 4
    have a5:w3.cell? ⟨w.heap.size,5,none⟩=some (.int .u64 aid):=hba5.cell 5
    have a6:w3.cell? ⟨w.heap.size,6,none⟩=some (.slice ps.a es.length ps.c):=hba5.cell 6
    have a7:w3.cell? ⟨w.heap.size,7,none⟩=some (.slice gp.a gs.length gp.c):=hba5.cell 7
    have la:=hba5.lt
    have hlo:∀ b,QfE R mb b→b=R∨w2.heap.size≤b:=fun b hb=>by
     rcases hb with rfl | hb
     ·exact .inl rfl
     ·exact .inr (HMB.out b hb)
    have HLO:=Lib.hid hlo
    have HBB5:=Lib.hid hbb5
    have H13:=Lib.hid h13
    have HB13:=Lib.hid (Sb.step HX2.out.below HSB.out fun b hb=>by omega)
    clear hba5 hbb5 h13 g20 hlo
    go_wp2_with fail
    generalize hW6:World.alloc w3 _=w6
    have hbm:Blk w6 w3.heap.size 76 #[.slice none 0 0]:=by rw [←hW6];exact Blk.new w3 _ _
    have hx36:Ext w3 w6:=by rw [←hW6];exact (Ext.refl w3).alloc _ _
    clear hW6 a0 a1 a2 a3 a4 a5 a6 a7
    obtain ⟨H0,hH0⟩:∃ H0:Nat→Prop,H0=fun b=>b=w3.heap.size∨QfE R mb b:=⟨_,rfl⟩
    have hz36:=hx36.size
    have hH0l:∀ b,H0 b→b<w6.heap.size:=fun b hb=>by
     rw [hH0] at hb
     rcases hb with rfl | hb
     ·exact hbm.lt
     ·have:=QcW HREG.out b hb;omega
    have hH0o:∀ b,H0 b→R≤b:=fun b hb=>by
     rw [hH0] at hb
     rcases hb with rfl | hb
     ·omega
     ·have:=HLO.out b hb;omega
    have hA6:A27 w6 (NH H0 w6) ⟨akd,aq,aid,ps,es,gp,gs⟩:=(HA.out.agree fun b (hb:b<w.heap.size)=>(hx36.heap (by omega)).trans ((H13.out b (by omega)).trans (HX2.out.heap hb))).mono fun b (hb:b<w.heap.size)=>⟨by omega,fun h=>by have:=hH0o b h;omega⟩
    have han:es.length*9+gs.length≤1048576:=HAN.out
    have htu:=Qhu (TI.new hbm (by rw [hH0];exact .inl rfl)) hH0l hA6 (show 0+es.length≤900000 by omega) (show gs.length≤100000000 by omega) rfl
    have hlE:=Qht [] ⟨akd,aq,aid,ps,es,gp,gs⟩
    obtain ⟨E,hE⟩:∃ E,QjL [] ⟨akd,aq,aid,ps,es,gp,gs⟩=E:=⟨_,rfl⟩
    rw [hE] at htu hlE
    have hEl:E.length≤es.length:=by simp only [List.length_nil] at hlE;omega
    have hesl:es.length≤116508:=by omega
    have HTU:=Lib.hid htu
    have HX36:=Lib.hid hx36
    have HR0:=Lib.hid (show ∀ b,QfE R mb b→H0 b from fun b hb=>by rw [hH0];exact .inr hb)
    have HH0O:=Lib.hid hH0o
    clear htu hA6 hH0l hE hlE han hbm hx36 hH0 hH0o
    refine HTU.out.mono ?_
    rintro e w7 ⟨T,pt',H,M,rfl,hpt,hTI,hH,hHH,hx7,hHup,hMlo⟩
    have HPT:=Lib.hid hpt
    have HTI:=Lib.hid hTI
    have HH:=Lib.hid hH
    have HRH:=Lib.hid (show ∀ b,QfE R mb b→H b from fun b hb=>hHH b (HR0.out b hb))
    have HHO:=Lib.hid (show ∀ b,H b→R≤b from fun b hb=>by
     rcases hHup b hb with h | h
     ·exact HH0O.out b h
     ·omega)
    have HX7:=Lib.hid (HX36.out.trans hx7)
    have hMR:w3.heap.size≤M:=by omega
    clear hpt hTI hH hHH hx7 hHup hMlo HTU HR0 HH0O
    go_wp2_with fail
    generalize hW8:World.alloc w7 _=w8
    have hx78:Ext w7 w8:=by rw [←hW8];exact (Ext.refl _).alloc _ _
    have hbt:Blk w8 w7.heap.size 33 #[.pointer pt']:=by rw [←hW8];exact Blk.new w7 _ _
    clear hW8
    have hz7:=HX7.out.size
    have hz78:=hx78.size
    have hT8:IsT w8 (NH H w7) T:=HTI.out.tree.agree (hx78.agree fun b hb=>hb.1)
    have hFB:∀ b,NH H w7 b→¬QfE R mb b:=fun b hb h=>hb.2 (HRH.out b h)
    have haf:=Qce (HREG.out.ext (HX7.out.trans hx78)) (T:=none) (F:=fun _=>False) (U:=T) trivial hT8 (fun b hb=>hb.elim) (fun b hb=>⟨by have:=hb.1;omega,hFB b hb⟩) trivial HTI.out.ok (by simp [Qak]) (by rw [HTI.out.ents];omega) (by omega) (fun W h h0=>Qg8 h h0 (by omega))
    rw [Qaz,HPT.out] at haf
    have HAF:=Lib.hid haf
    have HX78:=Lib.hid hx78
    have HBT:=Lib.hid hbt
    have HT8:=Lib.hid hT8
    have HFB:=Lib.hid hFB
    clear haf hx78 hbt hT8 hFB
    refine HAF.out.mono ?_
    rintro e w9 ⟨sl0,evs0,rfl,-,hreg9,hst9,-⟩
    have hz89:=hst9.size
    have HT9:=Lib.hid (HT8.out.agree fun b hb=>hst9.block b (by have:=hb.1;omega) fun e=>HFB.out b hb (.inl e))
    have HBT9:=Lib.hid (hst9.blk HBT.out (by omega))
    have HREG9:=Lib.hid hreg9
    have HST9:=Lib.hid hst9
    have HOW9:=Lib.hid (Qac (F:=fun b=>si.row=some b) HOW.out (fun b hb=>(hst9.block b (by have:=(Qab HOW.out hb).2;omega) (by have:=(Qab HOW.out hb).1;omega)).trans ((HX7.out.trans HX78.out).heap (Qab HOW.out hb).2)) fun b hb=>hb)
    clear hreg9 hst9 HAF
    go_wp2_with fail
    go_loopw [14,15] (fun v i wr=>∃ (j:Nat) (sw:Sl) (ms:List Nat),v=.slice sw.a ms.length sw.c∧i=.int .i64 j∧j≤L.length∧Hid (ms.length=j)∧Hid (wr.ownsRow w9.heap.size 72 1 (.slice sw.a ms.length sw.c) ms.length (ms.map Qnf))∧Hid (QnR L E w9.heap.size R ms sw.row wr)∧Hid (Ext w9 wr)) (fun _ i _=>L.length - (intOf i).toNat)
    case atStart=>exact ⟨0,Sl.none,[],rfl,rfl,Nat.zero_le _,Lib.hid rfl,Lib.hid (World.ownsRow_nil _ _ _ _),Lib.hid ⟨List.nodup_nil,(fun m hm=>by cases hm),fun i m hm=>by simp at hm⟩,Lib.hid (Ext.refl _)⟩
    case round=>
     obtain ⟨j,sw,ms,rfl,rfl,hj,HML,HOM,HWI,HXR⟩:=hrel
     have hml:ms.length≤j:=Nat.le_of_eq HML.out
     have hzr9:=HXR.out.size
     by_cases hlt:j<L.length
     ·have g1:(j:Int)<(L.length:Int):=by omega
      obtain ⟨p,hp⟩:∃ p,L[j]? = some p:=⟨_,List.getElem?_eq_getElem hlt⟩
      have hpm:p∈L:=List.mem_of_getElem? hp
      have hpg:=(HREG.out.up p hpm).2
      obtain ⟨bi,oi,h1i,-,h3i⟩:=Rd.QaA HOW9.out
      obtain ⟨ei,eci,ecm⟩:=h1i.eq (by omega)
      have hFi:=h1i.fits (by omega)
      obtain ⟨sia,sic⟩:=si
      dsimp only at ei eci ecm
      subst ei
      have lbi:bi<wr.heap.size:=by have:=hFi.2;omega
      have ci:wr.cell? ⟨bi,oi+j,none⟩=some (.int .u64 (p.1:Int)):=(HXR.out.cell hFi.2).trans (h3i j _ (by rw [List.getElem?_map,hp];rfl))
      have hfd:=QlN HREG.out.rise hpm
      have hre:=Qhm (HREG9.out.ext HXR.out) (HT9.out.agree (HXR.out.agree fun b hb=>by have:=hb.1;omega)) (fun b hb=>by have:=hb.1;omega) HTI.out.ok (by rw [HTI.out.ents];omega) (i:=p.1) (iv:=p.2) hfd (by omega)
      rw [HTI.out.ents] at hre
      have HRE:=Lib.hid hre
      have HPJ:=Lib.hid hp
      clear hre hp hfd h1i h3i hFi
      go_wp2_with fail
      refine HRE.out.mono ?_
      rintro e w10 ⟨sx,xs,rfl,hxs,hx10,hexs⟩
      have hz10:=hx10.size
      obtain ⟨W2,hW2⟩:∃ W2,(w10.alloc (.cells #[.slice sx.a xs.length sx.c] 76)).alloc (.cells #[.pointer (some ⟨w10.heap.size,0,none⟩)] 72)=W2:=⟨_,rfl⟩
      obtain ⟨hxw,hzw,hbm2,hbp2⟩:=Qax w10 _ _ _ _ W2 hW2
      have hxr2:=hx10.trans hxw
      have HOX:=Lib.hid (Qac HOM.out (hxr2.agree fun b (hb:b<wr.heap.size)=>hb) (fun b hb=>(Qab HOM.out hb).2))
      have HBNW:=Lib.hid hbp2
      have HBM2:=Lib.hid hbm2
      have HXS:=Lib.hid hxs
      have HES:=Lib.hid (hexs.agree (hxw.agree fun b hb=>hb.2))
      have HXR2:=Lib.hid hxr2
      have HW2:=Lib.hid hW2
      have hzw2:W2.heap.size=w10.heap.size+2:=hzw
      have h63:ms.length+1≤maxLen:=by unfold maxLen;omega
      have hby:(ms.length+1)*8≤140737488355328:=by omega
      have hbase:w9.heap.size≤W2.heap.size:=by omega
      have hone:=Qkt w10.heap.size
      have HZW2:=Lib.hid hzw2
      clear hx10 hxw hzw hbm2 hbp2 hxr2 hxs hexs hzw2 HRE ci
      go_wp2_with (at_builtin;refine Qag _ rfl (.tmp 87) (.tmp 91) 77 rfl w9.heap.size 72 im _ 1 8 Tryz.underlying77 mI mI0 mI1 mI2 rfl (by decide) sw ms.length (ms.map Qnf) rfl HOX.out (fun b=>b=w10.heap.size+1) ⟨some ⟨w10.heap.size+1,0,none⟩,1⟩ 1 [Qnf w10.heap.size] rfl (Rd.block HBNW.out (by decide) rfl) hone h63 hby hbase ?_;intro r2 wA hownA hwrA hsA2;have HOA:=Lib.hid hownA;have HWA:=Lib.hid hwrA;have HSA:=Lib.hid hsA2;clear hownA hwrA hsA2)
      go_roundw
      case rel=>
       have hrow:∀ b,sw.row=some b→w9.heap.size≤b:=fun b hb=>(Qab HOX.out hb).1
       exact ⟨j+1,r2,ms++[w10.heap.size],by rw [List.length_append,List.length_singleton],by go_num,hlt,Lib.hid (by rw [List.length_append,List.length_singleton,HML.out]),Lib.hid (by rw [List.length_append,List.length_singleton,List.map_append];exact HOA.out),Lib.hid (Qlp (by omega) HWI.out HOM.out (by omega) (by omega) HZW2.out HXR2.out HWA.out HSA.out HBM2.out HES.out HXS.out (by rw [HML.out];exact HPJ.out)),Lib.hid ((HXR.out.trans HXR2.out).wr HWA.out hrow)⟩
      case measure=>simp [intOf];omega
     ·obtain rfl:j=L.length:=by omega
      obtain ⟨w10,hw10⟩:∃ w10,w10=wr:=⟨_,rfl⟩
      subst hw10
      have hX9:∀ b,b<R→w10.heap[b]? = w3.heap[b]?:=fun b hb=>(HXR.out.heap (by omega)).trans ((HST9.out.block b (by omega) (by omega)).trans ((HX7.out.trans HX78.out).heap (by omega)))
      have hbb10:Blk w10 (w.heap.size+1) 71 _:=(hX9 _ (by omega)).trans HBB5.out
      have b0:w10.cell? ⟨w.heap.size+1,0,none⟩=some (.int .i64 bkd):=hbb10.cell 0
      have b1:w10.cell? ⟨w.heap.size+1,1,none⟩=some (.int .i64 bq.kind):=hbb10.cell 1
      have b2:w10.cell? ⟨w.heap.size+1,2,none⟩=some (.string bq.lo):=hbb10.cell 2
      have b3:w10.cell? ⟨w.heap.size+1,3,none⟩=some (.string bq.hi):=hbb10.cell 3
      have b4:w10.cell? ⟨w.heap.size+1,4,none⟩=some (.bool bq.op):=hbb10.cell 4
      have b5:w10.cell? ⟨w.heap.size+1,5,none⟩=some (.int .u64 bid):=hbb10.cell 5
      have b6:w10.cell? ⟨w.heap.size+1,6,none⟩=some (.slice pt.a ft.length pt.c):=hbb10.cell 6
      have b7:w10.cell? ⟨w.heap.size+1,7,none⟩=some (.slice gq.a gt.length gq.c):=hbb10.cell 7
      have lb10:=hbb10.lt
      have hbt10:Blk w10 w7.heap.size 33 #[.pointer pt']:=HBT9.out.ext HXR.out
      have t0:w10.cell? ⟨w7.heap.size,0,none⟩=some (.pointer pt'):=hbt10.cell 0
      have lt10:=hbt10.lt
      have hTIG:TI (fun b=>H b∨(w7.heap.size≤b∧b<w10.heap.size)) M E T w7:=⟨HTI.out.map.more (fun b h=>.inl h) (fun b hb h=>h.elim id fun h=>by omega),HTI.out.tree.mono fun b hb=>⟨hb.1,fun h=>h.elim hb.2 fun h=>by have:=hb.1;omega⟩,HTI.out.ok,HTI.out.ents⟩
      have hTI10:=((hTIG.ext HX78.out).st HST9.out (fun b hb=>by rw [hb];exact .inl (HRH.out _ (.inl rfl))) (by omega)).ext HXR.out
      have hB10:A27 w10 (NH (fun b=>H b∨(w7.heap.size≤b∧b<w10.heap.size)) w10) ⟨bkd,bq,bid,pt,ft,gq,gt⟩:=(HBA.out.agree fun b (hb:b<w.heap.size)=>(hX9 b (by omega)).trans ((H13.out b (by omega)).trans (HX2.out.heap hb))).mono fun b (hb:b<w.heap.size)=>⟨by omega,fun h=>by
       rcases h with h | h
       ·have:=HHO.out b h;omega
       ·omega⟩
      have hbn:(es.length+ft.length)*9+gt.length≤1048576:=HBN.out
      have htu:=Qhu hTI10 (fun b hb=>by
       rcases hb with hb | hb
       ·have:=HH.out b hb;omega
       ·exact hb.2) hB10 (show E.length+ft.length≤900000 by omega) (show gt.length≤100000000 by omega) HPT.out
      have hlF:=Qht E ⟨bkd,bq,bid,pt,ft,gq,gt⟩
      obtain ⟨F2,hF2⟩:∃ F2,QjL E ⟨bkd,bq,bid,pt,ft,gq,gt⟩=F2:=⟨_,rfl⟩
      rw [hF2] at htu hlF
      have hFl:F2.length≤116508:=by
       have h1:F2.length≤E.length+ft.length:=hlF
       omega
      have HTU2:=Lib.hid htu
      have HT10:=Lib.hid (HT9.out.agree (HXR.out.agree fun b hb=>by have:=hb.1;omega))
      clear htu hlF hF2 hbn hB10 hTI10 hTIG hX9 hbb10 hbt10
      go_wp2_with fail
      refine HTU2.out.mono ?_
      rintro e w11 ⟨U,pu,H',M',rfl,hpu,hTU,hH',hHH',hx11,-,-⟩
      have HPU:=Lib.hid hpu
      have HTU3:=Lib.hid hTU
      have HRH':=Lib.hid (show ∀ b,QfE R mb b→H' b from fun b hb=>hHH' b (.inl (HRH.out b hb)))
      have HMH':=Lib.hid (show ∀ b,w7.heap.size≤b→b<w10.heap.size→H' b from fun b h1 h2=>hHH' b (.inr ⟨h1,h2⟩))
      have HX11:=Lib.hid hx11
      have hz11:=hx11.size
      clear hpu hTU hH' hHH' hx11 HTU2 b0 b1 b2 b3 b4 b5 b6 b7 t0
      go_wp2_with fail
      generalize hW12:World.alloc w11 _=w12
      have hx12:Ext w11 w12:=by rw [←hW12];exact (Ext.refl _).alloc _ _
      clear hW12
      have hz112:=hx12.size
      have hx1012:=HX11.out.trans hx12
      have hreg12:=(HREG9.out.ext HXR.out).ext hx1012
      have hT12:IsT w12 (NH H w7) T:=HT10.out.agree (hx1012.agree fun b hb=>by have:=hb.1;omega)
      have hU12:IsT w12 (NH H' w11) U:=HTU3.out.tree.agree (hx12.agree fun b hb=>hb.1)
      have hGB:∀ b,NH H' w11 b→¬QfE R mb b:=fun b hb h=>hb.2 (HRH'.out b h)
      have haf:=Qce hreg12 (T:=T) (F:=NH H w7) (U:=U) (F':=NH H' w11) hT12 hU12 (fun b hb=>⟨by have:=hb.1;omega,HFB.out b hb⟩) (fun b hb=>⟨by have:=hb.1;omega,hGB b hb⟩) HTI.out.ok HTU3.out.ok (by rw [HTI.out.ents];omega) (by rw [HTU3.out.ents];omega) (by omega) (fun W h h0=>Qg8 h h0 (by omega))
      rw [Qaz,HPU.out,HTI.out.ents,HTU3.out.ents] at haf
      have HAF3:=Lib.hid haf
      have HX12:=Lib.hid hx12
      have HU12:=Lib.hid hU12
      have HGB:=Lib.hid hGB
      clear haf hx12 hreg12 hT12 hU12 hGB hx1012
      refine HAF3.out.mono ?_
      rintro e w13 ⟨sl1,evs,rfl,hmap,hreg13,hst13,hevs⟩
      have hz1213:=hst13.size
      have hsE:Sorted E:=by have:=HTI.out.ok.sorted;rwa [HTI.out.ents] at this
      have hsF:Sorted F2:=by have:=HTU3.out.ok.sorted;rwa [HTU3.out.ents] at this
      have hrs:∀ (i:Nat) (x y:EV),evs[i]? = some x→evs[i+1]? = some y→x.id<y.id∨x.id=y.id∧klt x.x.c.k y.x.c.k=true:=fun i x y h1 h2=>QmV hmap (QlL HREG.out.rise (Qif hsE hsF)) h1 h2
      have hfew:=hevs.few
      obtain ⟨n,hn⟩:∃ n,evs.length=n:=⟨_,rfl⟩
      have HN:=Lib.hid hn
      rw [hn] at hfew ⊢
      have HMAP:=Lib.hid hmap
      have HREG13:=Lib.hid hreg13
      have HST13:=Lib.hid hst13
      have HEV:=Lib.hid hevs
      have HSE:=Lib.hid hsE
      have HSF:=Lib.hid hsF
      have HRS:=Lib.hid hrs
      clear hmap hreg13 hst13 hevs hsE hsF hrs hn HAF3
      go_wp2_with fail
      go_loopw [21] (fun i wr=>∃ k:Nat,i=.int .i64 ((k:Int)+1)∧k≤n∧Hid (Ext w13 wr)) (fun i _=>n - (intOf i).toNat)
      case atStart=>exact ⟨0,rfl,Nat.zero_le _,Lib.hid (Ext.refl _)⟩
      case round=>
       obtain ⟨k,rfl,hk,HXL⟩:=hrel
       have hzl:=HXL.out.size
       by_cases hlt:k+1<n
       ·have g1:(k:Int)+1<(n:Int):=by omega
        obtain ⟨x,hx⟩:∃ x,evs[k]? = some x:=⟨_,List.getElem?_eq_getElem (by have:=HN.out;omega)⟩
        obtain ⟨y,hy⟩:∃ y,evs[k+1]? = some y:=⟨_,List.getElem?_eq_getElem (by have:=HN.out;omega)⟩
        have hrs:=HRS.out k x y hx hy
        obtain ⟨eb,eo,hsa,hFe,he1,he2,-,hcl⟩:=HEV.out.at hx
        obtain ⟨eb',eo',hsa',-,-,-,-,hcl'⟩:=HEV.out.at hy
        rw [HN.out] at he1
        obtain ⟨sla,slc⟩:=sl1
        dsimp only at hsa hsa' he1 he2
        subst hsa
        injection hsa' with hsa'
        injection hsa' with e1 e2
        subst e1
        subst e2
        have leb:eb<w13.heap.size:=hFe.2
        obtain ⟨cx,hcx⟩:∃ cx:Array Value,x.cells=cx:=⟨_,rfl⟩
        obtain ⟨cy,hcy⟩:∃ cy:Array Value,y.cells=cy:=⟨_,rfl⟩
        have HSX:=Lib.hid (show ∀ W,Ext wr W→W.rangeAt eb (eo+k*16) cx.toList from fun W hW c u hu=>((HXL.out.trans hW).cell leb).trans (hcl c u (by rw [hcx];exact hu)))
        have HSY:=Lib.hid (show ∀ W,Ext wr W→W.rangeAt eb (eo+(k+1)*16) cy.toList from fun W hW c u hu=>((HXL.out.trans hW).cell leb).trans (hcl' c u (by rw [hcy];exact hu)))
        have nx:cx.size=16:=by rw [←hcx];rfl
        have ny:cy.size=16:=by rw [←hcy];rfl
        obtain ⟨dx,hdx⟩:=QoU cx nx
        obtain ⟨dy,hdy⟩:=QoU cy ny
        have HTX:=Lib.hid hdx
        have HTY:=Lib.hid hdy
        have HCX:=Lib.hid (show cx[0]? = some (.int .u64 (x.id:Int))∧cx[1]? = some (.string x.x.c.k) by rw [←hcx];exact ⟨rfl,rfl⟩)
        have HCY:=Lib.hid (show cy[0]? = some (.int .u64 (y.id:Int))∧cy[1]? = some (.string y.x.c.k) by rw [←hcy];exact ⟨rfl,rfl⟩)
        have HOX:=Lib.hid (show cx.all (·.oneCell')=true by rw [←hcx];exact all_oneCell_toArray (Qkn x))
        have HOY:=Lib.hid (show cy.all (·.oneCell')=true by rw [←hcy];exact all_oneCell_toArray (Qkn y))
        have HNX:=Lib.hid nx
        have HNY:=Lib.hid ny
        clear hcx hcy nx ny hdx hdy
        have hwk1:IntKind.i64.wrap (k:Int)=(k:Int):=by rw [IntKind.wrap_i64];omega
        have hk01:(0:Int)≤(k:Int):=by omega
        have hk02:(k:Int)<(n:Int):=by omega
        have hk11:(0:Int)≤(k:Int)+1:=by omega
        clear hcl hcl' hx hy
        go_wp2_with fail
        refine wp_region_held_drew (S:=(fun w'=>Ext wr w')) (by kernel_rfl) (((Ext.refl wr).drew)) (fun hHeld=>?_)
        refine Qaj 0 (some 108) ?_ hHeld ?_ ?_
        rotate_left
        focus (intro w hSw;(try dsimp only at hSw);go_simp;first | done | with_reducible rfl)
        refine Qaj 1 (some 109) ?_ hHeld ?_ ?_
        rotate_left
        focus (intro w hSw;(try dsimp only at hSw);go_simp;first | done | with_reducible rfl)
        refine Qaj 2 (some 110) ?_ hHeld ?_ ?_
        rotate_left
        focus (intro w hSw;(try dsimp only at hSw);go_simp;first | done | with_reducible rfl)
        refine Qaj 3 (some 111) ?_ hHeld ?_ ?_
        rotate_left
        focus (intro w hSw;(try dsimp only at hSw);go_simp;first | done | with_reducible rfl)
        refine Qpn 4 (some 112) 56 (.tmp 111) HSX hHeld HTX.out ?_
        refine Qaj 5 (some 113) ?_ hHeld ?_ ?_
        rotate_left
        focus (intro w hSw;(try dsimp only at hSw);go_simp;first | done | with_reducible rfl)
        refine Qaj 6 (some 114) ?_ hHeld ?_ ?_
        rotate_left
        focus (intro w hSw;(try dsimp only at hSw);go_simp;first | done | with_reducible rfl)
        refine Qaj 7 (some 115) ?_ hHeld ?_ ?_
        rotate_left
        focus (intro w hSw;(try dsimp only at hSw);go_simp;first | done | with_reducible rfl)
        refine Qpn 8 (some 116) 56 (.tmp 115) HSY hHeld HTY.out ?_
        refine QaI (i:=9) (j:=10) (by kernel_rfl) rfl rfl (by rfl) (by rfl) (fun K hK=>?_) (fun K hK=>?_)
        ·go_simp
         skip
         refine hK.out _ _ ((by first|exact (((Ext.refl _).drew).alloc _ _).alloc _ _|exact ((Ext.refl _).drew).alloc _ _)) (fun hHeld=>?_)
         clear hK K
         try simp only [Act.put,List.setIfInBounds_toArray,List.set_cons_zero,List.set_cons_succ]
         refine Qaa (i:=10) (by kernel_rfl) rfl (by rfl) (fun K hK=>?_)
         go_simp
         skip
         refine hK.out _ _ ((by first|exact (((Ext.refl _).drew).alloc _ _).alloc _ _|exact ((Ext.refl _).drew).alloc _ _)) (fun hHeld=>?_)
         clear hK K
         try simp only [Act.put,List.setIfInBounds_toArray,List.set_cons_zero,List.set_cons_succ]
         refine Qaa (i:=11) (by kernel_rfl) rfl (by rfl) (fun K hK=>?_)
         skip
         refine wp_store_mid 56 (.tmp 22) (.tmp 112) rfl (wr.heap.size) 0 cx rfl rfl (Qos (QoO wr _ _ _) (by rw [HNX.out];simp)) HTX.out.2.2 HOX.out ?_
         refine hK.out _ _ ((Ext.setCells (Nat.le_refl _) _ _ hHeld)) (fun hHeld=>?_)
         clear hK K
         try simp only [Act.put,List.setIfInBounds_toArray,List.set_cons_zero,List.set_cons_succ]
         refine Qaa (i:=12) (by kernel_rfl) rfl (by rfl) (fun K hK=>?_)
         skip
         refine wp_store_mid 56 (.tmp 23) (.tmp 116) rfl (wr.heap.size+1) 0 cy rfl rfl (World.there_setCells (Qos (QoP wr _ _ _ _) (by rw [HNY.out];simp)) _ _ _) HTY.out.2.2 HOY.out ?_
         refine hK.out _ _ ((Ext.setCells (Nat.le_succ _) _ _ hHeld)) (fun hHeld=>?_)
         clear hK K
         try simp only [Act.put,List.setIfInBounds_toArray,List.set_cons_zero,List.set_cons_succ]
         refine wpAnyH_done (by kernel_rfl) ?_ _
         generalize hWm:World.setCells (World.setCells _ _ _ _) _ _ _=wm
         obtain ⟨hxm,hzm,hcx,hcy⟩:=Qpk rfl rfl HNX.out HNY.out wm hWm
         have r0:wm.cell? ⟨wr.heap.size,0,none⟩=some (.int .u64 (x.id:Int)):=hcx 0 _ HCX.out.1
         have r1:wm.cell? ⟨wr.heap.size,1,none⟩=some (.string x.x.c.k):=hcx 1 _ HCX.out.2
         have q0:wm.cell? ⟨wr.heap.size+1,0,none⟩=some (.int .u64 (y.id:Int)):=hcy 0 _ HCY.out.1
         have q1:wm.cell? ⟨wr.heap.size+1,1,none⟩=some (.string y.x.c.k):=hcy 1 _ HCY.out.2
         have l6:wr.heap.size<wm.heap.size:=by omega
         have l7:wr.heap.size+1<wm.heap.size:=by omega
         have HXM:=Lib.hid (HXL.out.trans hxm)
         clear hxm hzm hcx hcy hWm HSX HSY HTX HTY HCX HCY HOX HOY HNX HNY
         rcases hrs with hlt2 | ⟨heq,hkk⟩
         ·have g2:¬(y.id:Int)<(x.id:Int):=by omega
          have g3:((x.id:Int) == (y.id:Int))=false:=beq_eq_false_iff_ne.2 (by omega)
          go_wp2_with fail
          go_roundw
          case rel=>exact ⟨k+1,by go_num,by omega,HXM⟩
          case measure=>simp [intOf];omega
         ·have g2:¬(y.id:Int)<(x.id:Int):=by omega
          have g3:((x.id:Int) == (y.id:Int))=true:=by rw [heq];simp
          have g4:Op.bytesLess x.x.c.k.toList y.x.c.k.toList=true:=hkk
          go_wp2_with fail
          go_roundw
          case rel=>exact ⟨k+1,by go_num,by omega,HXM⟩
          case measure=>simp [intOf];omega
        ·go_simp
         skip
         refine hK.out _ _ ((by first|exact (((Ext.refl _).drew).alloc _ _).alloc _ _|exact ((Ext.refl _).drew).alloc _ _)) (fun hHeld=>?_)
         clear hK K
         try simp only [Act.put,List.setIfInBounds_toArray,List.set_cons_zero,List.set_cons_succ]
         refine Qaa (i:=9) (by kernel_rfl) rfl (by rfl) (fun K hK=>?_)
         go_simp
         skip
         refine hK.out _ _ ((by first|exact (((Ext.refl _).drew).alloc _ _).alloc _ _|exact ((Ext.refl _).drew).alloc _ _)) (fun hHeld=>?_)
         clear hK K
         try simp only [Act.put,List.setIfInBounds_toArray,List.set_cons_zero,List.set_cons_succ]
         refine Qaa (i:=11) (by kernel_rfl) rfl (by rfl) (fun K hK=>?_)
         skip
         refine wp_store_mid 56 (.tmp 22) (.tmp 112) rfl (wr.heap.size+1) 0 cx rfl rfl (Qos (QoP wr _ _ _ _) (by rw [HNX.out];simp)) HTX.out.2.2 HOX.out ?_
         refine hK.out _ _ ((Ext.setCells (Nat.le_succ _) _ _ hHeld)) (fun hHeld=>?_)
         clear hK K
         try simp only [Act.put,List.setIfInBounds_toArray,List.set_cons_zero,List.set_cons_succ]
         refine Qaa (i:=12) (by kernel_rfl) rfl (by rfl) (fun K hK=>?_)
         skip
         refine wp_store_mid 56 (.tmp 23) (.tmp 116) rfl (wr.heap.size) 0 cy rfl rfl (World.there_setCells (Qos (QoO wr _ _ _) (by rw [HNY.out];simp)) _ _ _) HTY.out.2.2 HOY.out ?_
         refine hK.out _ _ ((Ext.setCells (Nat.le_refl _) _ _ hHeld)) (fun hHeld=>?_)
         clear hK K
         try simp only [Act.put,List.setIfInBounds_toArray,List.set_cons_zero,List.set_cons_succ]
         refine wpAnyH_done (by kernel_rfl) ?_ _
         generalize hWm:World.setCells (World.setCells _ _ _ _) _ _ _=wm
         obtain ⟨hxm,hzm,hcx,hcy⟩:=Qpl rfl rfl HNX.out HNY.out wm hWm
         have r0:wm.cell? ⟨wr.heap.size+1,0,none⟩=some (.int .u64 (x.id:Int)):=hcx 0 _ HCX.out.1
         have r1:wm.cell? ⟨wr.heap.size+1,1,none⟩=some (.string x.x.c.k):=hcx 1 _ HCX.out.2
         have q0:wm.cell? ⟨wr.heap.size,0,none⟩=some (.int .u64 (y.id:Int)):=hcy 0 _ HCY.out.1
         have q1:wm.cell? ⟨wr.heap.size,1,none⟩=some (.string y.x.c.k):=hcy 1 _ HCY.out.2
         have l6:wr.heap.size<wm.heap.size:=by omega
         have l7:wr.heap.size+1<wm.heap.size:=by omega
         have HXM:=Lib.hid (HXL.out.trans hxm)
         clear hxm hzm hcx hcy hWm HSX HSY HTX HTY HCX HCY HOX HOY HNX HNY
         rcases hrs with hlt2 | ⟨heq,hkk⟩
         ·have g2:¬(y.id:Int)<(x.id:Int):=by omega
          have g3:((x.id:Int) == (y.id:Int))=false:=beq_eq_false_iff_ne.2 (by omega)
          go_wp2_with fail
          go_roundw
          case rel=>exact ⟨k+1,by go_num,by omega,HXM⟩
          case measure=>simp [intOf];omega
         ·have g2:¬(y.id:Int)<(x.id:Int):=by omega
          have g3:((x.id:Int) == (y.id:Int))=true:=by rw [heq];simp
          have g4:Op.bytesLess x.x.c.k.toList y.x.c.k.toList=true:=hkk
          go_wp2_with fail
          go_roundw
          case rel=>exact ⟨k+1,by go_num,by omega,HXM⟩
          case measure=>simp [intOf];omega
       ·obtain ⟨w14,hw14⟩:∃ w14,w14=wr:=⟨_,rfl⟩
        subst hw14
        have g1:¬((k:Int)+1<(n:Int)):=by omega
        go_wp2_with fail
        go_loopw [24,25] (fun tv iv wr=>∃ j:Nat,tv=.int .i64 ((QjJ L (chg E F2) j:Nat):Int)∧iv=.int .i64 j∧j≤L.length∧Hid (St (fun b=>∃ i,i<j∧ms[i]? = some b) w14 wr)) (fun _ i _=>L.length - (intOf i).toNat)
        case atStart=>exact ⟨0,by rw [QjK];rfl,rfl,Nat.zero_le _,Lib.hid (St.refl _ _)⟩
        case round=>
         obtain ⟨j,rfl,rfl,hj,HSJ⟩:=hrel
         have hz14:=HSJ.out.size
         by_cases hlt:j<L.length
         ·have hltj:=hlt
          have g1:(j:Int)<(L.length:Int):=by omega
          obtain ⟨wJ,hwJ⟩:∃ wJ,wJ=wr:=⟨_,rfl⟩
          subst hwJ
          obtain ⟨p,hp⟩:∃ p,L[j]? = some p:=⟨_,List.getElem?_eq_getElem hlt⟩
          obtain ⟨m,hm⟩:∃ m,ms[j]? = some m:=⟨_,List.getElem?_eq_getElem (by have:=HML.out;omega)⟩
          have hpm:p∈L:=List.mem_of_getElem? hp
          have hmm:m∈ms:=List.mem_of_getElem? hm
          have hpg:=(HREG.out.up p hpm).2
          have hml:=HWI.out.2.1 m hmm
          have hzl:=HXL.out.size
          have hmd:∀ b,(∃ i,i<j∧ms[i]? = some b)→w9.heap.size≤b∧b<w10.heap.size∧b≠m:=fun b ⟨i,hij,hi⟩=>by
           have h1:=HWI.out.2.1 b (List.mem_of_getElem? hi)
           refine ⟨h1.1,h1.2,fun e=>?_⟩
           subst e
           obtain ⟨l1,e1⟩:=List.getElem?_eq_some_iff.1 hi
           obtain ⟨l2,e2⟩:=List.getElem?_eq_some_iff.1 hm
           exact (List.pairwise_iff_getElem.1 HWI.out.1) i j l1 l2 hij (e1.trans e2.symm)
          have hRm:¬m=R:=by omega
          have h9J:∀ b,b<w10.heap.size→b≠R→(∀ i,i<j→ms[i]?≠some b)→wJ.heap[b]? = w10.heap[b]?:=fun b hb hn hi=>(HSJ.out.block b (by omega) fun ⟨i,h1,h2⟩=>hi i h1 h2).trans ((HXL.out.heap (by omega)).trans ((HST13.out.block b (by omega) hn).trans ((HX11.out.trans HX12.out).heap hb)))
          obtain ⟨bi,oi,h1i,-,h3i⟩:=Rd.QaA HOW9.out
          obtain ⟨ei,eci,ecm⟩:=h1i.eq (by omega)
          have hFi:=h1i.fits (by omega)
          obtain ⟨sia,sic⟩:=si
          dsimp only at ei eci ecm
          subst ei
          have ci9:w9.cell? ⟨bi,oi+j,none⟩=some (.int .u64 (p.1:Int)):=h3i j _ (by rw [List.getElem?_map,hp];rfl)
          have hciJ:Agree (fun b=>b=bi) w9 wJ:=fun b hb=>by
           subst hb
           exact (h9J b (by have:=hFi.2;omega) (by have:=hFi.1;omega) fun i h1 h2=>by have:=(hmd b ⟨i,h1,h2⟩).1;have:=hFi.2;omega).trans (HXR.out.heap hFi.2)
          have lbJ:bi<wJ.heap.size:=by have:=hFi.2;omega
          have HCI:=Lib.hid (show ∀ W,Ext wJ W→W.cell? ⟨bi,oi+j,none⟩=some (.int .u64 (p.1:Int)) from fun W hW=>(hW.cell lbJ).trans ((hciJ.cell rfl).trans ci9))
          obtain ⟨bw,ow,h1w,-,h3w⟩:=Rd.QaA HOM.out
          obtain ⟨ew,ecw,ecn⟩:=h1w.eq (by have:=HML.out;omega)
          have hFw:=h1w.fits (by have:=HML.out;omega)
          have hbw:∀ m'∈ms,¬bw=m':=fun m' hm' e=>by
           obtain ⟨i,hi⟩:=List.getElem?_of_mem hm'
           obtain ⟨p',-,hM⟩:=HWI.out.2.2 i m' hi
           obtain ⟨s',xs',hb',-,-⟩:=hM.ex
           exact Qju HOM.out hb' (by decide) (by rw [Sl.row,ew,←e];rfl)
          have cw10:w10.cell? ⟨bw,ow+j,none⟩=some (Qnf m):=h3w j _ (by rw [List.getElem?_map,hm];rfl)
          have hcwJ:Agree (fun b=>b=bw) w10 wJ:=fun b hb=>by
           subst hb
           exact h9J b hFw.2 (by have:=hFw.1;omega) fun i h1 h2=>hbw b (List.mem_of_getElem? h2) rfl
          have lwJ:bw<wJ.heap.size:=by have:=hFw.2;omega
          have HCW:=Lib.hid (show ∀ W W',Ext wJ W→St (fun b=>b=m) W W'→W'.cell? ⟨bw,ow+j,none⟩=some (Qnf m) from fun W W' hW hW'=>
           ((show Agree (fun b=>b=bw) W W' from fun b hb=>hW'.block b (by subst hb;have:=hW.size;omega) (by subst hb;exact hbw m hmm)).cell rfl).trans ((hW.cell lwJ).trans ((hcwJ.cell rfl).trans cw10)))
          have HRE:=Lib.hid (show ∀ W,Ext wJ W→Calls Tryz.prog 19 #[.pointer (some ⟨R,0,none⟩),.int .u64 (p.1:Int)] W (QfF (Qau p.2.lo p.2.hi p.2.op F2) W) from fun W hW=>by
           have hzW:=hW.size
           have h:=Qhm (F:=NH H' w11) (((HREG13.out.ext HXL.out).sb HSJ.out.sb fun b hb h=>by
             have h3:=QcW HREG.out b hb
             have:=(hmd b h).1
             omega).ext hW) (HU12.out.agree fun b hb=>(hW.heap (by have:=hb.1;omega)).trans ((HSJ.out.block b (by have:=hb.1;omega) fun h=>hb.2 (HMH'.out b (by have:=(hmd b h).1;omega) (hmd b h).2.1)).trans ((HXL.out.heap (by have:=hb.1;omega)).trans (HST13.out.block b (by have:=hb.1;omega) fun e=>HGB.out b hb (.inl e))))) (fun b hb=>by have:=hb.1;omega) HTU3.out.ok (by rw [HTU3.out.ents];omega) (i:=p.1) (iv:=p.2) (QlN HREG.out.rise hpm) (by omega)
           rwa [HTU3.out.ents] at h)
          have HMA:=Lib.hid (show ∀ W,Ext wJ W→MapAt (fun b=>(b∈ms∨sw.row=some b)∨b=R) W m (Qau p.2.lo p.2.hi p.2.op E) from fun W hW=>by
           obtain ⟨p',hp',hM⟩:=HWI.out.2.2 j m hm
           obtain rfl:p'=p:=by rw [hp] at hp';injection hp' with hp';exact hp'.symm
           exact ((((hM.ext (HX11.out.trans HX12.out)).st HST13.out (fun b hb=>.inr hb) hRm).ext HXL.out).st HSJ.out (fun b ⟨i,h1,h2⟩=>.inl (.inl (List.mem_of_getElem? h2))) fun ⟨i,h1,h2⟩=>(hmd m ⟨i,h1,h2⟩).2.2 rfl).ext hW)
          have HEJ:=Lib.hid (show EVS wJ (In w12.heap.size w13.heap.size) sl1 evs from (HEV.out.agree (HXL.out.agree fun b hb=>hb.2)).agree fun b hb=>HSJ.out.block b (by have:=hb.2;omega) fun h=>by have:=(hmd b h).2.1;have:=hb.1;omega)
          have HMD:=Lib.hid hmd
          have HBW:=Lib.hid hFw
          have HMM:=Lib.hid hmm
          have HPJ:=Lib.hid hp
          have HMJ:=Lib.hid hm
          obtain ⟨swa,swc⟩:=sw
          dsimp only at ew ecw ecn
          subst ew
          obtain ⟨T0,hT0⟩:∃ T0,QjJ L (chg E F2) j=T0:=⟨_,rfl⟩
          have hT0n:T0≤n:=by rw [←hT0,←HN.out];have:=QoK HMAP.out HREG.out.rise hp (k:=0);omega
          rw [hT0]
          have HT0:=Lib.hid hT0
          have hmsj:(j:Int)<(ms.length:Int):=by have:=HML.out;omega
          clear hciJ hcwJ ci9 cw10 h1i h3i h1w h3w hbw h9J hmd hFi hFw hp hm hmm hT0
          go_wp2_with fail
          go_loopw [24,26,27] (fun tv mv iv wk=>∃ (k q:Nat) (sm:Sl) (cs:List CE),tv=.int .i64 q∧mv=.slice sm.a cs.length sm.c∧iv=.int .i64 k∧k≤n∧q≤n∧Hid (q=T0+cs.length)∧cs.length≤n∧Hid (cs=Qoy p.1 (evs.take k))∧Hid (wk.ownsRow wJ.heap.size 54 15 (.slice sm.a cs.length sm.c) cs.length (QbT cs))∧Hid (Ext wJ wk)) (fun _ _ i _=>n - (intOf i).toNat)
          case atStart=>exact ⟨0,T0,Sl.none,[],rfl,rfl,rfl,Nat.zero_le _,hT0n,Lib.hid rfl,Nat.zero_le _,Lib.hid (by simp [Qoy]),Lib.hid (World.ownsRow_nil _ _ _ _),Lib.hid (Ext.refl _)⟩
          case round=>
           obtain ⟨k,q,sm,cs,rfl,rfl,rfl,hk,hq,HQ,hcsn,HCS,HOC,HXK⟩:=hrel
           have hzk:=HXK.out.size
           by_cases hltk:k<n
           ·have g2:(k:Int)<(n:Int):=by omega
            obtain ⟨v,hv⟩:∃ v,evs[k]? = some v:=⟨_,List.getElem?_eq_getElem (by have:=HN.out;omega)⟩
            have hevr:EVS wr (In w12.heap.size w13.heap.size) sl1 evs:=HEJ.out.agree (HXK.out.agree fun b hb=>by have:=hb.2;omega)
            obtain ⟨eb,eo,hsa,hFe,he1,he2,-,hcl⟩:=hevr.at hv
            rw [HN.out] at he1
            obtain ⟨sla,slc⟩:=sl1
            dsimp only at hsa he1 he2
            subst hsa
            have leb:eb<wr.heap.size:=by have:=hFe.2;omega
            have hci:=HCI.out wr HXK.out
            have lbk:bi<wr.heap.size:=by omega
            have hnext:T0+(Qoy p.1 (evs.take (k+1))).length≤n:=by rw [←HT0.out,←HN.out];exact QoK HMAP.out HREG.out.rise HPJ.out
            have htk:evs.take (k+1)=evs.take k++[v]:=by rw [List.take_add_one,hv];rfl
            rw [htk,QoB,←HCS.out] at hnext
            have HTK:=Lib.hid htk
            have HNX:=Lib.hid hnext
            by_cases hid:v.id=p.1
            ·have hb0:(((v.id:Nat):Int) == ((p.1:Nat):Int))=true:=by rw [hid];simp
             have d0:wr.cell? ⟨eb,eo+k*16,none⟩=some (.int .u64 (v.id:Int)):=hcl 0 _ rfl
             have HCL:=Lib.hid hcl
             clear hevr hcl hv hnext htk
             go_wp2_with fail
             go_quiet (fail)
             have hxq:Ext wr (wr.drewN nq):=(Ext.refl wr).drewN _
             generalize wr.drewN nq=wq at hxq ⊢
             have hzq:=hxq.size
             obtain ⟨-,d1,d2,d3,d4,d5,d6,d7,d8,d9,d10,d11,d12,d13,d14,d15⟩:=Qik fun c u hu=>(hxq.cell leb).trans (HCL.out c u hu)
             have lebq:eb<wq.heap.size:=by omega
             have hnA:Ext wr (wq.alloc (.cells v.x.cells 54)):=hxq.alloc _ _
             have HOX:=Lib.hid (Qac HOC.out (hnA.agree fun b (hb:b<wr.heap.size)=>hb) (fun b hb=>(Qab HOC.out hb).2))
             have HBNW:=Lib.hid (Blk.new wq 54 v.x.cells)
             have HNA:=Lib.hid hnA
             have h63:cs.length+1≤maxLen:=by unfold maxLen;omega
             have hby:(cs.length+1)*208≤140737488355328:=by omega
             have hbase:wJ.heap.size≤(wq.alloc (.cells v.x.cells 54)).heap.size:=by rw [World.size_alloc];omega
             have hone:=Qno v.x
             clear hnA hxq d0
             go_wp2_with (at_builtin;refine Qag _ rfl (.tmp 160) (.tmp 166) 78 rfl wJ.heap.size 54 ic _ 15 208 Tryz.underlying78 cI cI0 cI1 cI2 rfl (by decide) sm cs.length (QbT cs) rfl HOX.out (fun b=>b=wq.heap.size) ⟨some ⟨wq.heap.size,0,none⟩,1⟩ 1 v.x.cells.toList rfl (Rd.block HBNW.out (by decide) rfl) hone h63 hby hbase ?_;intro r2 wA hownA hwrA hsA2;have HOA:=Lib.hid hownA;have HWA:=Lib.hid hwrA;clear hownA hwrA hsA2)
             go_roundw
             case rel=>
              have hrow:∀ b,sm.row=some b→wJ.heap.size≤b:=fun b hb=>(Qab HOC.out hb).1
              have hq2:q+1=T0+(cs++[v.x]).length:=by rw [HQ.out,List.length_append,List.length_singleton];omega
              have hn2:=HNX.out
              rw [if_pos hid,←hq2] at hn2
              refine ⟨k+1,q+1,r2,cs++[v.x],by go_num,by rw [List.length_append,List.length_singleton],by go_num,hltk,hn2,Lib.hid hq2,by omega,Lib.hid ?_,Lib.hid ?_,Lib.hid ((HXK.out.trans HNA.out).wr HWA.out hrow)⟩
              ·rw [HTK.out,QoB,if_pos hid,←HCS.out]
              ·rw [List.length_append,List.length_singleton,Qi3];exact HOA.out
             case measure=>simp [intOf];omega
            ·have hb0:(((v.id:Nat):Int) == ((p.1:Nat):Int))=false:=beq_eq_false_iff_ne.2 (by omega)
             have d0:wr.cell? ⟨eb,eo+k*16,none⟩=some (.int .u64 (v.id:Int)):=hcl 0 _ rfl
             clear hevr hcl hv hnext htk
             go_wp2_with fail
             go_quiet (fail)
             have HXQ:=Lib.hid ((Ext.refl wr).drewN nq)
             go_wp2_with fail
             go_roundw
             case rel=>
              refine ⟨k+1,q,sm,cs,rfl,rfl,by go_num,hltk,hq,HQ,hcsn,Lib.hid ?_,Lib.hid (Qac HOC.out (HXQ.out.agree fun b (hb:b<wr.heap.size)=>hb) (fun b hb=>(Qab HOC.out hb).2)),Lib.hid (HXK.out.trans HXQ.out)⟩
              rw [HTK.out,QoB,if_neg hid,List.append_nil,←HCS.out]
             case measure=>simp [intOf];omega
           ·obtain rfl:k=n:=by omega
            obtain ⟨w15,hw15⟩:∃ w15,w15=wr:=⟨_,rfl⟩
            subst hw15
            have hcs:cs=Qoy p.1 evs:=by rw [HCS.out,←HN.out,List.take_length]
            have hcm:cs.map CE.c=Qmo p (chg E F2):=by rw [hcs];exact QoL HMAP.out HREG.out.rise (List.mem_of_getElem? HPJ.out)
            obtain ⟨x,hax,hsx⟩:=Qo3 HSE.out HSF.out p
            have hlc:cs.length≤E.length+F2.length:=by
             rw [←List.length_map (f:=CE.c),hcm]
             exact Nat.le_trans (List.length_filter_le ..) (QeO E F2)
            have hrl:(Qau p.2.lo p.2.hi p.2.op E).length≤E.length:=by rw [Qou];exact List.length_filter_le ..
            have happ:∀ W,Ext w15 W→Calls Tryz.prog 28 #[.pointer (some ⟨m,0,none⟩),.slice sm.a cs.length sm.c] W (Qlu (fun b=>(b∈ms∨Sl.row ⟨some ⟨bw,ow,none⟩,swc⟩=some b)∨b=R) m (some x) W):=fun W hW=>by
             have hzW:=hW.size
             have hcsW:CS W (fun b=>w12.heap.size≤b∧b<W.heap.size) sm cs:=⟨((Rd.QaA HOC.out).agree (hW.agree fun b hb=>hb.2)).mono fun b hb=>⟨by have:=hb.1;omega,by have:=hb.2;omega⟩,fun y hy=>by
              rw [hcs] at hy
              simp only [Qoy,List.mem_map,List.mem_filter] at hy
              obtain ⟨v,⟨hv,-⟩,rfl⟩:=hy
              exact ((HEJ.out.vals v hv).agree ((HXK.out.trans hW).agree fun b hb=>by have:=hb.2;omega)).mono fun b hb=>⟨hb.1,by have:=hb.2;omega⟩,by omega⟩
             have h:=QnK (HMA.out W (HXK.out.trans hW)) (fun b hb=>by
              rcases hb with (hb | hb) | hb
              ·have:=(HWI.out.2.1 b hb).2;omega
              ·have:=(Qab HOM.out hb).2;omega
              ·omega) (HSE.out.sublist (List.filter_sublist ..)) hcsW (fun b hb=>⟨hb.2,fun h=>by
              have h12:=hb.1
              rcases h with (h | h) | h
              ·have:=(HWI.out.2.1 b h).2;omega
              ·have:=(Qab HOM.out h).2;omega
              ·omega⟩) (by omega)
             rwa [hcm,hax] at h
            have HAP:=Lib.hid happ
            have HSX:=Lib.hid hsx
            have hci:=HCI.out w15 HXK.out
            have lbk:bi<w15.heap.size:=by omega
            have HTL:=Lib.hid (show q=QjJ L (chg E F2) (j+1) by rw [QoM HPJ.out,HT0.out,HQ.out,←hcm,List.length_map])
            clear happ hsx hcs hcm hax hlc hrl
            go_wp2_with fail
            refine (HRE.out w15 HXK.out).mono ?_
            rintro e w16 ⟨sy,ys,rfl,hys,hx16,heys⟩
            have hz16:=hx16.size
            have hcw:=HCW.out w16 w16 (HXK.out.trans hx16) (St.refl _ _)
            have lwk:bw<w16.heap.size:=by omega
            have HYS:=Lib.hid hys
            have HEY:=Lib.hid heys
            have HX16:=Lib.hid hx16
            clear hys heys hx16 hci
            go_wp2_with fail
            refine (HAP.out w16 HX16.out).mono ?_
            rintro e w17 ⟨es',rfl,hes,-,hM17,hst17⟩
            obtain rfl:=hes x rfl
            have hz17:=hst17.size
            obtain ⟨s7,xs7,hb7,hs7,hx7⟩:=hM17.ex
            have q7:w17.cell? ⟨m,0,none⟩=some (.slice s7.a xs7.length s7.c):=hb7.cell 0
            have l7:=hb7.lt
            have hcw7:=HCW.out w16 w17 (HXK.out.trans HX16.out) hst17
            have lw7:bw<w17.heap.size:=by omega
            have hse:=QoW (w:=w17) (hs7.mono (G:=Lt w17.heap.size) fun b hb=>hb.1) ((HEY.out.agree fun b hb=>hst17.block b hb.2 (by have:=hb.1;omega)).mono (G:=Lt w17.heap.size) fun b hb=>by have:=hb.2;show b<_;omega)
            rw [hx7,HYS.out,HSX.out] at hse
            have HSEN:=Lib.hid hse
            have HST17:=Lib.hid hst17
            clear hse hst17 hM17 hb7 hs7 hx7 hcw hes
            go_wp2_with fail
            refine HSEN.out.mono ?_
            rintro e w18 ⟨rfl,hx18⟩
            have HX18:=Lib.hid hx18
            clear hx18 q7 hcw7
            go_wp2_with fail
            go_roundw
            case rel=>
             refine ⟨j+1,by rw [HTL.out],by go_num,hltj,Lib.hid ?_⟩
             have h1:St (fun b=>∃ i,i<j+1∧ms[i]? = some b) w14 wJ:=HSJ.out.mono fun b _ ⟨i,h1,h2⟩=>⟨i,by omega,h2⟩
             exact ((h1.trans ((HXK.out.trans HX16.out).st _)).trans (HST17.out.mono fun b _ hb=>by subst hb;exact ⟨j,by omega,HMJ.out⟩)).trans (HX18.out.st _)
            case measure=>simp [intOf];omega
         ·obtain rfl:j=L.length:=by omega
          have htold:QjJ L (chg E F2) L.length=n:=by rw [Qlj,←HMAP.out,List.length_map,HN.out]
          rw [htold]
          have hmsl:∀ m∈ms,w9.heap.size≤m:=fun m hm=>(HWI.out.2.1 m hm).1
          have HMSL:=Lib.hid hmsl
          clear hmsl htold
          go_wp2_with fail
          refine (QkK _).mono ?_
          rintro e w19 ⟨rfl,hb19⟩
          have HB19:=Lib.hid hb19
          clear hb19
          go_wp2_with fail
          go_ret
          have k1:Below w.heap.size w w8:=Sb.step HB13.out ((HX7.out.trans HX78.out).sb fun _=>False) fun b hb=>hb.elim
          have k2:Below w.heap.size w w9:=Sb.step k1 HST9.out.sb fun b hb=>by rw [hb];omega
          have k3:Below w.heap.size w w12:=Sb.step k2 ((HXR.out.trans (HX11.out.trans HX12.out)).sb fun _=>False) fun b hb=>hb.elim
          have k4:Below w.heap.size w w13:=Sb.step k3 HST13.out.sb fun b hb=>by rw [hb];omega
          have k5:Below w.heap.size w w14:=Sb.step k4 (HXL.out.sb fun _=>False) fun b hb=>hb.elim
          have k6:Below w.heap.size w wr:=Sb.step k5 HSJ.out.sb fun b hb=>by
           obtain ⟨i,-,hi⟩:=hb
           have:=HMSL.out b (List.mem_of_getElem? hi)
           omega
          exact ⟨rfl,Sb.step k6 (Sb.new (H:=fun _=>False) HB19.out) fun b hb=>hb.elim⟩
end Go.Proofs.YtohajcflklejjaaGreat
