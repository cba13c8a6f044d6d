/- What the theorem needs of the texts IntA, Law13a, Row13, Kn13, Kn13b, AppP13: no condition of its own. -/
import Derived.Laws.IdiomStrings
import Derived.WalkArith
import Derived.OrdersIn
import Derived.Test.YtkhdiakpdafcdaaGreatDoorPna
import Derived.Test.YtkhdiakpdafcdaaGreatDoorPnc
import Derived.Test.YtkhdiakpdafcdaaGreatDoorPnd
import Derived.Test.YtkhdiakpdafcdaaGreatDoorPne
import Derived.Test.YtkhdiakpdafcdaaGreatDoorPnf
import Derived.Test.YtkhdiakpdafcdaaGreatDoorPng
import Derived.Test.YtkhdiakpdafcdaaGreatDoorPnh
import Derived.Test.YtkhdiakpdafcdaaGreatDoorPni
import Derived.Test.YtkhdiakpdafcdaaGreatDoorPnj
import Derived.Test.YtkhdiakpdafcdaaGreatDoorPnk
import Derived.Test.YtkhdiakpdafcdaaGreatDoorPnl
import Derived.Test.YtkhdiakpdafcdaaGreatDoorPnm
import Derived.Test.YtkhdiakpdafcdaaGreatDoorPnn
import Derived.Test.YtkhdiakpdafcdaaGreatDoorPno
import Derived.Test.YtkhdiakpdafcdaaGreatDoorPnp
import Derived.Test.YtkhdiakpdafcdaaGreatDoorPnb
set_option maxRecDepth 100000
set_option maxHeartbeats 4000000
namespace Go.Proofs.YtkhdiakpdafcdaaGreatDoor
open Go.RowKit Go.Maps Go.Shelf
set_option linter.unusedVariables false
set_option linter.unusedSimpArgs false
def foldM (l:List Mu) (M:List Ent):Nat × List Ent:=l.foldl (fun p m=>(if (runM p.2 m).1=0 then p.1 else p.1+1,(runM p.2 m).2)) (0,M)
theorem foldM_at {l:List Mu} {j:Nat} {x:Mu} (h:l[j]? = some x) (M:List Ent):foldM (l.take (j+1)) M=(if (runM (foldM (l.take j) M).2 x).1=0 then (foldM (l.take j) M).1 else (foldM (l.take j) M).1+1,(runM (foldM (l.take j) M).2 x).2):=by
 rw [List.take_add_one,h]
 unfold foldM
 show ((l.take j)++[x]).foldl _ _=_
 rw [List.foldl_append]
 rfl
theorem foldM_le (l:List Mu) (M:List Ent):∀ j,(foldM (l.take j) M).1≤j
 | 0=>Nat.le_refl _
 | j+1=>by
   have ih:=foldM_le l M j
   cases hx:l[j]? with
   | none=>rw [List.take_add_one,hx];show (foldM (l.take j++[]) M).1≤_;rw [List.append_nil];omega
   | some x=>
     rw [foldM_at hx]
     dsimp only
     split
     ·exact Nat.le_succ_of_le ih
     exact Nat.succ_le_succ ih
theorem Fold_any {w:World} {F:Nat→Prop} {T:RT} {s:Sl} {l:List Mu} (hT:IsT w F T) (hF:∀ b,F b→6≤b∧b<w.heap.size) (ok:OkR T) (hM:OkM (entsT T)) (hr:MuRow w (Lt w.heap.size) s l) (hL:LibQ w)
  (hd:∀ j m,l[j]? = some m→mayMu m=0→(foldM (l.take j) (entsT T)).2.length+budM m (foldM (l.take j) (entsT T)).2≤1000000) (hle:∀ j,(foldM (l.take j) (entsT T)).2.length≤1000000) (ht:totMs l≤1100000) :
  Calls Tryz.prog 38 #[treeV T,.slice s.a l.length s.c] w fun e w'=>∃ T',e=.returned (.tuple #[treeV T',.int .i64 ((foldM l (entsT T)).1:Int)])∧OkR T'∧IsT w' (Up F w w') T'∧entsT T'=(foldM l (entsT T)).2∧OkM (entsT T')∧Nw w w'∧(l=[]→T'=T):=by
 obtain ⟨p,hp⟩:=rootV_ptr T
 have HP:=Lib.hid hp
 have HT:=Lib.hid hT
 have HF:=Lib.hid hF
 have HOK:=Lib.hid ok
 have HOM:=Lib.hid hM
 have HRW:=Lib.hid hr
 have HL:=Lib.hid hL
 have HD:=Lib.hid hd
 have HTT:=Lib.hid ht
 have HLE:=Lib.hid hle
 have hlen:=hr.len
 rw [treeV,hp]
 clear hp hT hF ok hM hr hL hd ht hle
 go_enter Tryz.func38,Tryz.ntmps38
 go_upto_region 1 with fail
 generalize hW0:World.alloc _ _=W0
 obtain ⟨hx0,hz0,hb0,hb1⟩:=two_blocks w _ _ _ _ W0 hW0
 have HX0:=Lib.hid hx0
 have HB0:=Lib.hid hb0
 have HB1:=Lib.hid hb1
 have HZ0:=Lib.hid hz0
 clear hW0 hx0 hb0 hb1 hz0
 go_wp2_with fail
 go_loopw [6,13] (fun v6 v13 wr=>∃ (j:Nat) (T1:RT) (p1:Option Addr),v13=.int .i64 (j:Int)∧v6=.int .i64 ((foldM (l.take j) (entsT T)).1:Int)∧j≤l.length∧Hid (rootV T1=.pointer p1)∧Hid (Blk wr w.heap.size 41 #[.pointer p1])∧Hid (OkR T1)∧
  Hid (IsT wr (fun b=>F b∨(W0.heap.size≤b∧b<wr.heap.size)) T1)∧Hid (entsT T1=(foldM (l.take j) (entsT T)).2)∧Hid (OkM (entsT T1))∧Hid (Sb (fun b=>b=w.heap.size) W0 wr)∧Hid (j=0→T1=T)) (fun _ v _=>l.length - (intOf v).toNat)
 case atStart=>exact ⟨0,T,p,rfl,rfl,Nat.zero_le _,HP,HB0,HOK,Lib.hid ((HT.out.agree (HX0.out.agree fun b hb=>(HF.out b hb).2)).mono fun b hb=>.inl hb),Lib.hid rfl,HOM,Lib.hid (Sb.refl _ _),Lib.hid fun _=>rfl⟩
 obtain ⟨j,T1,p1,rfl,rfl,hj,HP1,HBT,HOK1,HT1,HE1,HM1,HSB,HSAME⟩:=hrel
 obtain ⟨nr,hnr⟩:∃ n,(foldM (l.take j) (entsT T)).1=n:=⟨_,rfl⟩
 rw [hnr]
 have HNR:=Lib.hid hnr
 clear hnr
 by_cases hlt:j<l.length
 ·have l1:(j:Int)<(l.length:Int):=by omega
  have l1':decide ((j:Int)<(l.length:Int))=true:=decide_eq_true l1
  have l0:(0:Int)≤(j:Int):=by omega
  obtain ⟨x,hx⟩:∃ x,l[j]? = some x:=⟨_,List.getElem?_eq_getElem hlt⟩
  obtain ⟨b,o,cc,hsl,hmc,hrm⟩:=HRW.out.ex
  obtain ⟨hsa,hsc,hscm⟩:=hsl.eq (by omega)
  have hbF:b<w.heap.size:=hsl.fits (by omega)
  have hz:=HZ0.out
  have z1:=HX0.out.size
  have z2:=HSB.out.size
  have hnw:Nw w wr:=(Nw.of HX0.out).comp HSB.out fun i hi e=>by omega
  have HROW:=Lib.hid ((hmc j x hx).nw hnw)
  have hbr:=HROW.out.lt
  have hcall:∀ W,Ext wr W→Calls Tryz.prog 28 #[.agg #[.pointer p1],aggMu x (cc j)] W fun e w'=>∃ T',e=.returned (.tuple #[treeV T',.int .i64 (runM (entsT T1) x).1])∧OkR T'∧IsT w' (Up (fun b=>F b∨(W0.heap.size≤b∧b<wr.heap.size)) W w') T'∧entsT T'=(runM (entsT T1) x).2∧OkM (runM (entsT T1) x).2∧Nw W w':=fun W hW=>by
   have h:=Run_any (w:=W) (F:=fun b=>F b∨(W0.heap.size≤b∧b<wr.heap.size)) (T:=T1) (m:=x) (c:=cc j) (HT1.out.agree (hW.agree fun b hb=>hb.elim (fun e=>Nat.lt_of_lt_of_le (HF.out b e).2 hnw.size) fun e=>e.2)) (fun b hb=>⟨hb.elim (fun e=>(HF.out b e).1) fun e=>by have:=HL.out.lib.big;omega,Nat.lt_of_lt_of_le (hb.elim (fun e=>Nat.lt_of_lt_of_le (HF.out b e).2 hnw.size) fun e=>e.2) hW.size⟩) HOK1.out HM1.out ((hrm j x hx).nw (hnw.trans (Nw.of hW))) (HL.out.nw (hnw.trans (Nw.of hW))) (by rw [HE1.out];exact HD.out j x hx) (by rw [HE1.out];exact HLE.out j) (Nat.le_trans (totMs_at hx) HTT.out)
   rw [treeV,HP1.out] at h
   exact h.mono fun e w' ⟨T2,a1,a2,a3,a4,a5,a6,_⟩=>⟨T2,a1,a2,a3,a4,a5,a6⟩
  have HCALL:=Lib.hid hcall
  have HAT:=Lib.hid (foldM_at hx (entsT T))
  have q0:wr.cell? ⟨w.heap.size,0,none⟩=some (.pointer p1):=HBT.out.cell 0
  have l2:=HBT.out.lt
  have hfl:=foldM_le l (entsT T) j
  rw [HNR.out] at hfl
  rw [hsa]
  clear hsl hmc hrm hbF hcall hx hnw hz z1 z2
  go_wp2_with (first | (refine load_mu rfl (.tmp 15) rfl b (o+j*19) rfl x (cc j) HROW.out ?_) | (refine fill_mu rfl rfl rfl x (cc j) (w0:=wr) (b:=wr.heap.size) rfl ((Ext.refl wr).alloc _ _) (Blk.new wr _ _) rfl rfl rfl ?_;intro w5 hx5 hm5;have HX5:=Lib.hid hx5;have q5:=(hx5.cell l2).trans q0;have HM5:=Lib.hid (MuC.of_blk hm5);clear hx5 hm5) | (refine load_mu rfl (.tmp 8) rfl wr.heap.size 0 rfl x (cc j) HM5.out ?_))
  refine (HCALL.out _ HX5.out).mono ?_
  rintro e w6 ⟨T2,rfl,ok2,hT2,he2,hm2,hn2⟩
  obtain ⟨p2,hp2⟩:=rootV_ptr T2
  rw [treeV,hp2]
  obtain ⟨q,hq⟩:∃ q,runM (entsT T1) x=q:=⟨_,rfl⟩
  rw [hq] at he2 hm2 ⊢
  have hat:=HAT.out
  rw [←HE1.out,hq,HNR.out] at hat
  have HA:=Lib.hid hat
  have hk6:=hn2.blk (HBT.out.ext HX5.out)
  have c6:w6.cell? ⟨w.heap.size,0,none⟩=some (.pointer p1):=hk6.cell 0
  have f6:=hk6.frozen 0
  have l6:=hk6.lt
  have HK6:=Lib.hid hk6
  have HP2:=Lib.hid hp2
  have HO2:=Lib.hid ok2
  have HT2:=Lib.hid hT2
  have HE2:=Lib.hid he2
  have HM2:=Lib.hid hm2
  have HN2:=Lib.hid hn2
  clear hat hk6 hp2 ok2 hT2 he2 hm2 hn2 hq q5 q0 l2
  have hfin:∀ W,(w6.setCell ⟨w.heap.size,0,none⟩ (.pointer p2)).alloc (.cells #[.pointer p2] 41)=W→Blk W w.heap.size 41 #[.pointer p2]∧IsT W (fun b=>F b∨(W0.heap.size≤b∧b<W.heap.size)) T2∧Sb (fun b=>b=w.heap.size) W0 W:=fun W hW=>by
   subst hW
   have hz:=HZ0.out
   have s0:Sb (fun i=>i=w.heap.size) w6 (w6.setCell ⟨w.heap.size,0,none⟩ (.pointer p2)):=(Sb.refl (fun i=>i=w.heap.size) _).set (p:=⟨w.heap.size,0,none⟩) (.inr rfl) _
   have hx7:=(Ext.refl (w6.setCell ⟨w.heap.size,0,none⟩ (.pointer p2))).alloc #[.pointer p2] 41
   have z0:=HSB.out.size
   have z1:=HX5.out.size
   have z2:=HN2.out.size
   have z3:=s0.size
   have z4:=hx7.size
   refine ⟨(HK6.out.set_ 0 (.pointer p2)).ext hx7,((HT2.out.agree fun b hb=>s0.block b ?_ ?_).agree (hx7.agree fun b hb=>?_)).mono fun b hb=>?_,((HSB.out.trans (Nw.any ((Nw.of HX5.out).trans HN2.out) _)).trans s0).trans (Nw.any (Nw.of hx7) _)⟩
   ·rcases hb with (e | e) | e
    ·have:=(HF.out b e).2;omega
    ·omega
    exact e.2
   ·intro e2
    rcases hb with (e | e) | e
    ·have:=(HF.out b e).2;omega
    ·omega
    omega
   ·rcases hb with (e | e) | e
    ·have:=(HF.out b e).2;omega
    ·omega
    have:=e.2;omega
   rcases hb with (e | e) | e
   ·exact .inl e
   ·exact .inr ⟨e.1,by omega⟩
   exact .inr ⟨by omega,by omega⟩
  have HFIN:=Lib.hid hfin
  clear hfin
  by_cases h0:q.1=0
  ·have g0:(q.1 == 0)=true:=by simp [h0]
   have hat:=HA.out
   rw [if_pos h0] at hat
   have HA2:=Lib.hid hat
   clear h0 hat
   go_wp2_with fail
   generalize hW7:World.alloc (World.setCell _ _ _) _=w7
   obtain ⟨r1,r2,r3⟩:=HFIN.out _ hW7
   have R1:=Lib.hid r1
   have R2:=Lib.hid r2
   have R3:=Lib.hid r3
   clear r1 r2 r3 hW7
   go_roundw
   case measure=>simp [intOf];omega
   exact ⟨j+1,T2,p2,by go_num,by rw [HA2.out],hlt,HP2,R1,HO2,R2,Lib.hid (by rw [HA2.out];exact HE2.out),Lib.hid (by rw [HE2.out];exact HM2.out),R3,Lib.hid fun h=>absurd h (Nat.succ_ne_zero j)⟩
  have g0:(q.1 == 0)=false:=beq_eq_false_iff_ne.2 h0
  have hat:=HA.out
  rw [if_neg h0] at hat
  have HA2:=Lib.hid hat
  clear h0 hat
  go_wp2_with fail
  generalize hW7:World.alloc (World.setCell _ _ _) _=w7
  obtain ⟨r1,r2,r3⟩:=HFIN.out _ hW7
  have R1:=Lib.hid r1
  have R2:=Lib.hid r2
  have R3:=Lib.hid r3
  clear r1 r2 r3 hW7
  go_roundw
  case measure=>simp [intOf];omega
  exact ⟨j+1,T2,p2,by go_num,by rw [HA2.out];go_num,hlt,HP2,R1,HO2,R2,Lib.hid (by rw [HA2.out];exact HE2.out),Lib.hid (by rw [HE2.out];exact HM2.out),R3,Lib.hid fun h=>absurd h (Nat.succ_ne_zero j)⟩
 obtain rfl:j=l.length:=by omega
 have l1:decide ((l.length:Int)<(l.length:Int))=false:=decide_eq_false (by omega)
 have hz:=HZ0.out
 have q0:wr.cell? ⟨w.heap.size,0,none⟩=some (.pointer p1):=HBT.out.cell 0
 have hb4:=HSB.out.blk HB1.out (by omega)
 have HB4:=Lib.hid hb4
 have q4:wr.cell? ⟨w.heap.size+1,0,none⟩=some _:=hb4.cell 0
 have f4:=hb4.frozen 0
 clear hb4
 have HTL:=Lib.hid (show foldM (l.take l.length) (entsT T)=foldM l (entsT T) by rw [List.take_length])
 go_wp2_with fail
 generalize hW:World.setCell _ _ _=W
 have hs:Sb (fun i=>i=w.heap.size+1) wr W:=by rw [←hW];exact (Sb.refl (fun i=>i=w.heap.size+1) wr).set (p:=⟨w.heap.size+1,0,none⟩) (.inr rfl) _
 have hb:Blk W (w.heap.size+1) 41 #[.pointer p1]:=by rw [←hW];exact HB4.out.set_ 0 (.pointer p1)
 have q5:W.cell? ⟨w.heap.size+1,0,none⟩=some (.pointer p1):=hb.cell 0
 clear hW q0 q4 f4
 have hn:nr=(foldM l (entsT T)).1:=by rw [←HNR.out,HTL.out]
 rw [hn]
 refine bodyPost_ret (v:=.tuple #[.agg #[.pointer p1],.int .i64 ((foldM l (entsT T)).1:Int)]) (by simp [results,Tryz.results38,go_sem,q5]) rfl ?_
 have z1:=HX0.out.size
 have z2:=HSB.out.size
 have z3:=hs.size
 refine ⟨T1,by rw [treeV,HP1.out],HOK1.out,(HT1.out.agree fun b hb=>hs.block b ?_ ?_).mono fun b hb=>?_,by rw [HE1.out,HTL.out],HM1.out,((Nw.of HX0.out).comp HSB.out fun i hi e=>by omega).comp hs fun i hi e=>by omega,fun h=>HSAME.out (by rw [h];rfl)⟩
 ·rcases hb with e | e
  ·have:=(HF.out b e).2;omega
  exact e.2
 ·intro e2
  rcases hb with e | e
  ·have:=(HF.out b e).2;omega
  omega
 rcases hb with e | e
 ·exact .inl e
 exact .inr ⟨by omega,by omega⟩
theorem num13_any (w:World) (n:Int):Calls Tryz.prog 18 #[.int .i64 n] w fun e w'=>e=.returned (numA n)∧Ext w w':=by
 go_enter Tryz.func18,Tryz.ntmps18
 go_wp2_with fail
 refine bodyPost_ret (v:=numA n) (by simp [results,Tryz.results18,go_sem];rfl) rfl ?_
 exact ⟨rfl,(Ext.refl w).alloc _ _⟩
/-- Has a tree just these entries? -/
theorem has13_any {w:World} {F:Nat→Prop} {T:RT} {s:Sl} {xs:List LE} (hF:∀ b,F b→b<w.heap.size) (hT:IsT w F T) (ok:OkR T) (hl:(entsT T).length≤1000000) (hs:ES w (Lt w.heap.size) s xs) :
  Calls Tryz.prog 25 #[treeV T,.slice s.a xs.length s.c] w fun e w'=>e=.returned (.bool (sameE (entsT T) (xs.map LE.ent)))∧Ext w w':=by
 obtain ⟨p,hp⟩:=rootV_ptr T
 have hen:∀ W,Ext w W→Calls Tryz.prog 34 #[.agg #[.pointer p]] W (EntriesPost (entsT T) W):=fun W hW=>by
  have h:=treeEntries_any (w:=W) (fun b hb=>Nat.lt_of_lt_of_le (hF b hb) hW.size) (hT.agree (hW.agree hF)) ok hl
  rwa [treeV,hp] at h
 have hse:∀ (W:World) (se:Sl) (xe:List LE),Ext w W→ES W (Lt W.heap.size) se xe→xe.map LE.ent=entsT T→Calls Tryz.prog 33 #[.slice se.a xe.length se.c,.slice s.a xs.length s.c] W fun e w'=>e=.returned (.bool (sameE (entsT T) (xs.map LE.ent)))∧Ext W w':=fun W se xe hW he hx=>by
  have h9:=sameEnt_any he ((hs.agree (hW.agree fun b hb=>hb)).mono fun b hb=>Nat.lt_of_lt_of_le hb hW.size)
  rwa [hx] at h9
 have HEN:=Lib.hid hen
 have HSE:=Lib.hid hse
 rw [treeV,hp]
 clear hen hse hF hT ok hl hs hp
 go_enter Tryz.func25,Tryz.ntmps25
 go_wp2_with fail
 refine (HEN.out _ ((Ext.refl w).alloc _ _)).mono ?_
 rintro e w1 ⟨se,xe,rfl,hxe,hoe,hx1⟩
 have HOE:=Lib.hid (hoe.es.mono (G:=Lt w1.heap.size) fun b hb=>hb.2)
 have HXE:=Lib.hid hxe
 have HX1:=Lib.hid (((Ext.refl w).alloc #[.pointer p] 41).trans hx1)
 clear hxe hoe hx1
 go_wp2_with fail
 refine (HSE.out _ se xe HX1.out HOE.out HXE.out).mono ?_
 rintro e w2 ⟨rfl,hx2⟩
 have HX2:=Lib.hid (HX1.out.trans hx2)
 clear hx2
 go_wp2_with fail
 go_ret
 exact ⟨rfl,HX2.out⟩
theorem rv_num13 (w:World) (F:Nat→Prop) {n:Int} (wn:(Lit.int .i64 n).wf=true):RV w F (numV n) Sl.none Sl.none:=RV.flat _ _ _ _ _ _ (by decide) wn (by decide)
theorem rv_row0 (w:World) (F:Nat→Prop):RV w F (rowV []) Sl.none Sl.none:=RV.flat _ _ _ _ _ _ (by decide) (by decide) (by decide)
theorem rv_row1 {w:World} {F:Nat→Prop} {n:Int} {b:Nat} (hb:Blk w b 28 #[.int .i64 3,.bool false,.int .i64 n,.string ByteArray.empty,.slice none 0 0,.slice none 0 0]) (hF:F b) (wn:(Lit.int .i64 n).wf=true):RV w F (rowV [numV n]) ⟨some ⟨b,0,none⟩,1⟩ Sl.none:=by
 obtain ⟨c0,c1,c2,c3,c4,c5⟩:=hb.c6
 refine .mk b 0 0 0 (fun _=>(Sl.none,Sl.none)) (fun _=>(Sl.none,Sl.none)) (.some _ _ _ _ (Nat.le_refl _) (by decide) hF) (.nil _ _) rfl (fun j d hj=>?_) (fun j d hj=>?_) (fun j k h=>by simp at h) (fun j k h=>by simp at h) (fun j k h=>by simp at h) (by decide) (by decide) (by decide) (show 1*88≤140737488355328 by decide) (by decide)
 ·match j,hj with
  | 0,hj=>
    simp at hj;subst hj
    exact ⟨c0,c1,c2,c3,c4,c5⟩
 match j,hj with
 | 0,hj=>
   simp at hj;subst hj
   exact RV.flat _ _ _ _ _ _ (by decide) wn (by decide)
theorem es_blk {w:World} {g:Nat} {xs:List LE} (hb:Blk w g 71 (flatE xs).toArray) (hv:∀ x∈xs,RV w (Lt w.heap.size) x.v x.sl x.so∧x.k.size≤maxLen) (hl:xs.length≤1000000):ES w (Lt w.heap.size) ⟨some ⟨g,0,none⟩,xs.length⟩ xs:=
 ⟨(Rd.block (cs:=flatE xs) (n:=xs.length) (size:=7) hb (Nat.le_trans hl (by decide)) (flatE_len xs)).mono fun i hi=>by subst hi;exact hb.lt,hv,by omega⟩
theorem mu_flat {w:World} {F:Nat→Prop} {kd:Int} {k tk:ByteArray} {i:Int} {had:Bool} {was:Val} {has:Bool} {v:Val} {a1 a2 a3 a4:Sl} (h1:RV w F was a1 a2) (h2:RV w F v a3 a4) (bk:k.size≤maxLen) (bt:tk.size≤maxLen) (bkd:(Lit.int .i64 kd).wf=true) (bi:(Lit.int .i64 i).wf=true) :
  RMu w F (.mk kd k tk i had was has v []) ⟨a1,a2,a3,a4,Sl.none⟩:=
 .mk 0 0 (fun _=>default) h1 h2 (.nil _ _) (fun j m h=>by simp at h) (fun j m h=>by simp at h) bk bt bkd bi (by simp)
theorem mu_blk {w:World} {B:Nat} {l:List (Mu × MuS)} (hb:Blk w B 31 (l.flatMap fun p=>cellsMu p.1 p.2).toArray) (hr:∀ p∈l,RMu w (Lt w.heap.size) p.1 p.2) (hl:l.length≤1000) (ht:totMs (l.map Prod.fst)≤1100000) :
  MuRow w (Lt w.heap.size) ⟨some ⟨B,0,none⟩,l.length⟩ (l.map Prod.fst):=by
 have hcell:∀ (l:List (Mu × MuS)) (j:Nat) (p:Mu × MuS),l[j]? = some p→∀ i u,(cellsMu p.1 p.2)[i]? = some u→(l.flatMap fun p=>cellsMu p.1 p.2)[j*19+i]? = some u:=by
  intro l
  induction l with
  | nil=>intro j p h;simp at h
  | cons a r ih=>
    intro j p h i u hu
    have hi:i<19:=(List.getElem?_eq_some_iff.1 hu).1
    rw [List.flatMap_cons]
    cases j with
    | zero=>
      have:a=p:=by simpa using h
      subst this
      rw [Nat.zero_mul,Nat.zero_add,List.getElem?_append_left (by rw [len_mu];exact hi)]
      exact hu
    | succ j=>
      rw [List.getElem?_append_right (by rw [len_mu];omega),len_mu,show (j+1)*19+i - 19=j*19+i by omega]
      exact ih j p (by simpa using h) i u hu
 refine ⟨⟨B,0,fun j=>((l[j]?).getD default).2,?_,fun j m hj=>?_,fun j m hj=>?_⟩,ht,by rw [List.length_map];omega⟩
 ·rw [List.length_map]
  exact .some _ _ _ _ (Nat.le_refl _) (Nat.le_trans hl (by decide)) hb.lt
 ·rw [List.getElem?_map] at hj
  cases hp:l[j]? with
  | none=>rw [hp] at hj;cases hj
  | some p=>
    rw [hp] at hj
    injection hj with hj
    subst hj
    intro i u hu
    rw [Nat.zero_add,hb.cell]
    have hu2:(cellsMu p.1 p.2)[i]? = some u:=by
     have h:=hu
     dsimp only at h
     rw [hp] at h
     exact h
    rw [List.getElem?_toArray]
    exact hcell l j p hp i u hu2
 rw [List.getElem?_map] at hj
 cases hp:l[j]? with
 | none=>rw [hp] at hj;cases hj
 | some p=>
   rw [hp] at hj
   injection hj with hj
   subst hj
   dsimp only
   rw [hp]
   exact hr p (List.mem_of_getElem? hp)
section
variable {P : Program} {c : Code} {Q : Exit → Act → World → Prop} {a : Act} {w : World}
def putXs (tm:Array Value):List (Nat × Value)→Array Value
 | []=>tm
 | (i,v) :: l=>putXs (tm.setIfInBounds i v) l
def onlyX (R:Act→World→Prop):Exit→Act→World→Prop
 | .normal,a,w=>R a w
 | _,_,_=>False
theorem onlyX_mk {R:Act→World→Prop} (h:R a w):onlyX R .normal a w:=h
theorem wp_meetX (Rw:World→Nat→Value→Prop) (ds:List Nat) (last:Nat→Value→List (Nat × Value))
  (h1:c.wp P (onlyX fun a' w'=>∃ b u,Rw w' b u∧a'.defers=a.defers∧a'.tmps=putXs a.tmps ((ds.map fun d=>(d,a'.tmps.getD d undef))++last b u)) a w)
  (h2:∀ (w':World) (b:Nat) (u:Value) (vs:Nat→Value),Rw w' b u→Q .normal { tmps:=putXs a.tmps ((ds.map fun d=>(d,vs d))++last b u),defers:=a.defers } w'):c.wp P Q a w:=
 wp_mono h1 fun e a' w' h=>by
  cases e with
  | normal=>
    obtain ⟨b,u,hr,hd,ht⟩:=h
    have:=h2 w' b u (fun d=>a'.tmps.getD d undef) hr
    rw [←ht,←hd] at this
    exact this
  | _=>exact h.elim
end
theorem new_box {X W:World} {c:Array Value} {t:TypeId} (h:X.alloc (.cells c t)=W):Ext X W∧Blk W X.heap.size t c∧X.heap.size<W.heap.size:=by
 rw [←h];exact ⟨(Ext.refl X).alloc _ _,Blk.new X _ _,by rw [World.size_alloc];omega⟩
theorem nw_setB {w0 w:World} (h:Nw w0 w) {b o:Nat} (hb:w0.heap.size≤b) (v:Value):Nw w0 (w.setCell ⟨b,o,none⟩ v):=
 h.comp ((Sb.refl (fun i=>i=b) w).set (p:=⟨b,o,none⟩) (.inr rfl) v) fun i hi e=>by omega
theorem is_set {w:World} {F:Nat→Prop} {T:RT} (h:IsT w F T) {b o:Nat} (hb:¬F b) (hF:∀ b,F b→b<w.heap.size) (v:Value):IsT (w.setCell ⟨b,o,none⟩ v) F T:=
 h.agree fun i hi=>((Sb.refl (fun i=>i=b) w).set (p:=⟨b,o,none⟩) (.inr rfl) v).block i (hF i hi) fun e=>hb (e▸hi)
def Box13 (E:List Ent) (n:Nat) (w':World) (b:Nat):Prop:=∃ T p,rootV T=.pointer p∧OkR T∧entsT T=E∧IsT w' (fun i=>n≤i∧i<w'.heap.size∧i≠b) T∧Blk w' b 41 #[.pointer p]∧n≤b
theorem box13_mk {w:World} {n:Nat} {F:Nat→Prop} {E:List Ent} {T:RT} {p:Option Addr} {b:Nat} {z:Value} (hp:rootV T=.pointer p) (ok:OkR T) (he:entsT T=E) (hT:IsT w F T) (hb:Blk w b 41 #[z]) (hl:n≤b) (hF:∀ i,F i→n≤i∧i<w.heap.size∧i≠b) :
  Box13 E n (w.setCell ⟨b,0,none⟩ (.pointer p)) b:=
 ⟨T,p,hp,ok,he,(is_set hT (fun h=>(hF b h).2.2 rfl) (fun i hi=>(hF i hi).2.1) _).mono fun i hi=>⟨(hF i hi).1,Nat.lt_of_lt_of_le (hF i hi).2.1 ((Sb.refl (fun i=>i=b) w).set (p:=⟨b,0,none⟩) (.inr rfl) (.pointer p)).size,(hF i hi).2.2⟩,hb.set_ 0 (.pointer p),hl⟩
abbrev rowE3 (a b c:ByteArray) (u v x:Val) (sl:Sl):List LE:=[⟨a,u,Sl.none,Sl.none⟩,⟨b,v,sl,Sl.none⟩,⟨c,x,Sl.none,Sl.none⟩]
theorem rowE3_ok {w:World} {a:ByteArray} {v:List Val} {n:Int} {sl:Sl} (ha:a.size≤maxLen) (hv:RV w (Lt w.heap.size) (rowV v) sl Sl.none) (wn:(Lit.int .i64 n).wf=true):∀ x∈rowE3 a kL1 kX1 (numV 5) (rowV v) (numV n) sl,RV w (Lt w.heap.size) x.v x.sl x.so∧x.k.size≤maxLen:=fun x hx=>by
 simp only [List.mem_cons,List.not_mem_nil,or_false] at hx
 rcases hx with rfl | rfl | rfl
 ·exact ⟨rv_num13 _ _ (by decide),ha⟩
 ·exact ⟨hv,(by decide:kL1.size≤maxLen)⟩
 exact ⟨rv_num13 _ _ wn,(by decide:kX1.size≤maxLen)⟩
theorem build13 {w:World} {g:Nat} (hb:Blk w g 71 (flatE (rowE3 kAi kL1 kX1 (numV 5) (rowV []) (numV 1) Sl.none)).toArray) :
  Calls Tryz.prog 16 #[.slice (some ⟨g,0,none⟩) 3 3] w fun e w'=>∃ T p,e=.returned (.agg #[.pointer p])∧rootV T=.pointer p∧OkR T∧entsT T=rows13 kAi [] 1∧IsT w' (In w.heap.size w'.heap.size) T∧Ext w w':=by
 have es:=es_blk hb (rowE3_ok (by decide) (rv_row0 _ _) (by decide)) (by decide)
 refine (build_any es (by decide)).mono ?_
 rintro e w' ⟨T,rfl,hbt,hT,hx⟩
 obtain ⟨p,hp⟩:=rootV_ptr T
 refine ⟨T,p,by rw [treeV,hp],hp,hbt.both.1,?_,hT,hx⟩
 rw [hbt.both.2]
 show putAll [] (rows13 kAi [] 1)=_
 simp [putAll,insE,kltAL,kltAX,kltLX]
abbrev zS:MuS:=⟨Sl.none,Sl.none,Sl.none,Sl.none,Sl.none⟩
theorem mu_inc (w:World) (F:Nat→Prop) {k:ByteArray} {n:Int} (hk:k.size≤maxLen) (wn:(Lit.int .i64 n).wf=true):RMu w F (incMu k n) zS:=mu_flat (rv_zeroO _ _) (rv_zeroO _ _) hk (by decide) (by decide) wn
theorem mu_del (w:World) (F:Nat→Prop) {k:ByteArray} (hk:k.size≤maxLen):RMu w F (delMu k) zS:=mu_flat (rv_zeroO _ _) (rv_zeroO _ _) hk (by decide) (by decide) (by decide)
theorem mu_cas (w:World) (F:Nat→Prop) {k:ByteArray} {n:Int} (hk:k.size≤maxLen) (wn:(Lit.int .i64 n).wf=true):RMu w F (casMu k (numV n)) zS:=mu_flat (rv_num13 _ _ wn) (rv_zeroO _ _) hk (by decide) (by decide) (by decide)
theorem mu_add (w:World) (F:Nat→Prop) {k:ByteArray} {n:Int} (hk:k.size≤maxLen) (wn:(Lit.int .i64 n).wf=true):RMu w F (addMu k (numV n)) zS:=mu_flat (rv_zeroO _ _) (rv_num13 _ _ wn) hk (by decide) (by decide) (by decide)
theorem mu_mov (w:World) (F:Nat→Prop) {f t:ByteArray} (hf:f.size≤maxLen) (ht:t.size≤maxLen):RMu w F (movMu f t) zS:=mu_flat (rv_zeroO _ _) (rv_zeroO _ _) hf ht (by decide) (by decide)
abbrev muts13:List (Mu × MuS):=[(incMu kX1 2,zS),(addMu kL1 (numV 7),zS),(movMu kAs kBs,zS)]
theorem foldM13:foldM [incMu kX1 2,addMu kL1 (numV 7),movMu kAs kBs] (rows13 kAi [] 1)=(0,rows13 kB1 [numV 7] 3):=by
 unfold foldM
 simp only [List.foldl_cons,List.foldl_nil]
 rw [r1_13]
 dsimp only
 rw [r2_13]
 dsimp only
 rw [r3_13]
 rfl
theorem foldLen13 (j:Nat):(foldM ([incMu kX1 2,addMu kL1 (numV 7),movMu kAs kBs].take j) (rows13 kAi [] 1)).2.length=3:=by
 match j with
 | 0=>rfl
 | 1=>simp only [List.take_succ_cons,List.take_zero,foldM,List.foldl_cons,List.foldl_nil,r1_13];rfl
 | 2=>simp only [List.take_succ_cons,List.take_zero,foldM,List.foldl_cons,List.foldl_nil,r1_13,r2_13];rfl
 | j+3=>rw [List.take_of_length_le (by simp),foldM13];rfl
theorem size_flat (kd:Int) (k tk:ByteArray) (i:Int) (had:Bool) (was:Val) (has:Bool) (v:Val):sizeM (.mk kd k tk i had was has v [])=1:=by rw [sizeM,sizeMs]
theorem run13 {w:World} {F:Nat→Prop} {T:RT} {p:Option Addr} {M:List Ent} {m:Mu} (hp:rootV T=.pointer p) (ok:OkR T) (he:entsT T=M) (hT:IsT w F T) (hF:∀ b,F b→6≤b∧b<w.heap.size) (hM:OkM M) (hl:M.length≤100) (hs:sizeM m=1) (hm:RMu w (Lt w.heap.size) m zS) (ht:totM m≤1100000) (hL:LibQ w) :
  Calls Tryz.prog 28 #[.agg #[.pointer p],aggMu m zS] w fun e w'=>∃ T' p',e=.returned (.tuple #[.agg #[.pointer p'],.int .i64 (runM M m).1])∧rootV T'=.pointer p'∧OkR T'∧IsT w' (Up F w w') T'∧entsT T'=(runM M m).2∧OkM (runM M m).2∧Nw w w'∧((runM M m).2=M→T'=T):=by
 subst he
 have h:=Run_any hT hF ok hM hm hL (fun _=>by unfold budM;rw [hs];omega) (by omega) ht
 rw [treeV,hp] at h
 refine h.mono ?_
 rintro e w' ⟨T',rfl,h1,h2,h3,h4,h5,h6⟩
 obtain ⟨p',hp'⟩:=rootV_ptr T'
 exact ⟨T',p',by rw [treeV,hp'],hp',h1,h2,h3,h4,h5,h6⟩
theorem fold13_any {w:World} {F:Nat→Prop} {T:RT} {p:Option Addr} {g:Nat} (hp:rootV T=.pointer p) (ok:OkR T) (he:entsT T=rows13 kAi [] 1) (hT:IsT w F T) (hF:∀ b,F b→6≤b∧b<w.heap.size) (hL:LibQ w)
  (hb:Blk w g 31 (muts13.flatMap fun p=>cellsMu p.1 p.2).toArray) :
  Calls Tryz.prog 38 #[.agg #[.pointer p],.slice (some ⟨g,0,none⟩) 3 3] w fun e w'=>∃ T' p',e=.returned (.tuple #[.agg #[.pointer p'],.int .i64 0])∧rootV T'=.pointer p'∧OkR T'∧IsT w' (Up F w w') T'∧entsT T'=rows13 kB1 [numV 7] 3∧Nw w w':=by
 have hr:=mu_blk hb (fun p hp=>by
  simp only [List.mem_cons,List.not_mem_nil,or_false] at hp
  rcases hp with rfl | rfl | rfl
  ·exact mu_inc _ _ (by decide) (by decide)
  ·exact mu_add _ _ (by decide) (by decide)
  exact mu_mov _ _ (by decide) (by decide)) (by decide) (by decide +kernel)
 have h:=Fold_any (s:=⟨some ⟨g,0,none⟩,3⟩) (l:=[incMu kX1 2,addMu kL1 (numV 7),movMu kAs kBs]) hT hF ok (by rw [he];exact okM13) hr hL (fun j m hj _=>by
  rw [he,foldLen13]
  have hs:sizeM m=1:=by
   have:=List.mem_of_getElem? hj
   simp only [List.mem_cons,List.not_mem_nil,or_false] at this
   rcases this with rfl | rfl | rfl <;> exact size_flat _ _ _ _ _ _ _ _
  unfold budM
  rw [hs,foldLen13];decide) (fun j=>by rw [he,foldLen13];decide) (by decide +kernel)
 rw [treeV,hp,he,foldM13] at h
 refine h.mono ?_
 rintro e w' ⟨T',rfl,h1,h2,h3,h4,h5,h6⟩
 obtain ⟨p',hp'⟩:=rootV_ptr T'
 exact ⟨T',p',by rw [treeV,hp'];rfl,hp',h1,h2,h3,h5⟩
theorem known13 {w:World} (hL:LibQ w):Calls Tryz.prog 13 #[] w fun e w'=>e=.returned (.bool true)∧Nw w w':=by
 have hbig:=hL.lib.big
 have HL:=Lib.hid hL
 clear hL
 go_enter Tryz.func13,Tryz.ntmps13
 go_wp2_with fail
 generalize hW1:World.alloc w _=w1
 obtain ⟨hx1,hb1,hz1⟩:=new_box hW1
 have HN1:=Lib.hid (Nw.of hx1)
 have HB1:=Lib.hid hb1
 have hz1d:w1.heap.size≤w1.drew.heap.size:=Nat.le_refl _
 have hz1e:w1.drew.heap.size≤w1.heap.size:=Nat.le_refl _
 have HSS:=Lib.hid (show ∀ W,Nw w1 W→W.cell? ⟨w.heap.size,0,none⟩=some (.int .i64 5)∧W.cell? ⟨w.heap.size,1,none⟩=some (.bool false)∧W.cell? ⟨w.heap.size,2,none⟩=some (.int .i64 0)∧W.cell? ⟨w.heap.size,3,none⟩=some (.string ByteArray.empty)∧W.cell? ⟨w.heap.size,4,none⟩=some (.slice none 0 0)∧W.cell? ⟨w.heap.size,5,none⟩=some (.slice none 0 0) from
  fun W hW=>⟨(hW.blk hb1).cell 0,(hW.blk hb1).cell 1,(hW.blk hb1).cell 2,(hW.blk hb1).cell 3,(hW.blk hb1).cell 4,(hW.blk hb1).cell 5⟩)
 clear hW1 hx1 hb1
 refine wp_meetX (fun w' b _=>Box13 (rows13 kAi [] 1) w1.heap.size w' b∧Nw w1 w') [12,13,14,15,16,17,18,19] (fun b _=>[(2,.pointer (some ⟨b,0,none⟩))]) ?_ ?_
 ·skip
  refine wp_region_held_drew (S:=(fun w'=>Nw w1 w')) (by kernel_rfl) ((Nw.of ((Ext.refl w1).drew))) (fun hHeld=>?_)
  refine heldT 2 (some 14) HSS hHeld ?_
  refine heldT 3 (some 15) HSS hHeld ?_
  have pm:=Tag.mk 0
  have pa:=Tag.mk 1000
  repeat' (first
   | (have:=(pm:Tag 0);have:=(pa:Tag 1000);refine heldW 0 8 (fun K tg hK=>?_) (fun K tg hK=>?_))
   | (have:=(pm:Tag 0);have:=(pa:Tag 1001);refine heldC 0 (fun K tg hK=>?_))
   | (have:=(pm:Tag 1);have:=(pa:Tag 1000);refine heldW 4 8 (fun K tg hK=>?_) (fun K tg hK=>?_))
   | (have:=(pm:Tag 1);have:=(pa:Tag 1001);refine heldC 4 (fun K tg hK=>?_))
   | (have:=(pm:Tag 2);have:=(pa:Tag 1000);refine heldW 6 8 (fun K tg hK=>?_) (fun K tg hK=>?_))
   | (have:=(pm:Tag 2);have:=(pa:Tag 1001);refine heldC 6 (fun K tg hK=>?_))
   | (have:=(pm:Tag 3);have:=(pa:Tag 1000);refine heldW 7 8 (fun K tg hK=>?_) (fun K tg hK=>?_))
   | (have:=(pm:Tag 3);have:=(pa:Tag 1001);refine heldC 7 (fun K tg hK=>?_))
   | (have:=(pm:Tag 4);have:=(pa:Tag 1000);refine heldC 8 (fun K tg hK=>?_))
   | (have:=(pm:Tag 4);have:=(pa:Tag 1001);refine heldC 9 (fun K tg hK=>?_))
   | (have:=(tg:Tag 0)
      clear this tg
      clear pm
      have pm:=Tag.mk 1
      go_simp
      (refine (num13_any _ 5).mono ?_;rintro e wa ⟨rfl,hxa⟩;have za:=hxa.size;(first|have HBZ:=Lib.hid (HBZ.out.ext hxa)|have HBZ:=Lib.hid (HBZ.out.ext (((Ext.refl _).drew).trans hxa))|skip))
      refine hK.out _ _ (hHeld.trans (Nw.of hxa)) (fun hHeld=>?_)
      clear hK K
      try simp only [Act.put,List.setIfInBounds_toArray,List.set_cons_zero,List.set_cons_succ]
      refine heldT 1 (some 13) HSS hHeld ?_)
   | (have:=(tg:Tag 4)
      clear this tg
      clear pm
      have pm:=Tag.mk 2
      go_simp
      (refine (num13_any _ 1).mono ?_;rintro e wb ⟨rfl,hxb⟩;have zb:=hxb.size;(try (have HBZ:=Lib.hid (HBZ.out.ext hxb))))
      refine hK.out _ _ (hHeld.trans (Nw.of hxb)) (fun hHeld=>?_)
      clear hK K
      try simp only [Act.put,List.setIfInBounds_toArray,List.set_cons_zero,List.set_cons_succ]
      refine heldT 5 (some 17) HSS hHeld ?_)
   | (have:=(tg:Tag 6)
      clear this tg
      clear pm
      have pm:=Tag.mk 3
      go_simp
      (generalize hwr:World.alloc _ _=wr;obtain ⟨hxr,hbr,zr⟩:=new_box hwr;have HBR:=Lib.hid hbr;(try (have HBZ:=Lib.hid (HBZ.out.ext hxr)));clear hwr hbr)
      refine hK.out _ _ (hHeld.trans (Nw.of hxr)) (fun hHeld=>?_)
      clear hK K
      try simp only [Act.put,List.setIfInBounds_toArray,List.set_cons_zero,List.set_cons_succ])
   | (have:=(tg:Tag 7)
      clear this tg
      clear pm
      have pm:=Tag.mk 4
      go_simp
      (have s7:=hHeld.size;refine (build13 (by first|exact HBR.out|exact HBR.out.ext hxz)).mono ?_;rintro e wc ⟨T,p,rfl,hp,ok,he,hT,hxc⟩;have zc:=hxc.size;have HT:=Lib.hid hT;(try (have HBZ:=Lib.hid (HBZ.out.ext hxc);have c6:World.cell? _ ⟨_,0,none⟩=some (.pointer none):=HBZ.out.cell 0;have f6:=HBZ.out.frozen 0));clear hT)
      refine hK.out _ _ (hHeld.trans (Nw.of hxc)) (fun hHeld=>?_)
      clear hK K
      try simp only [Act.put,List.setIfInBounds_toArray,List.set_cons_zero,List.set_cons_succ])
   | (have:=(tg:Tag 8)
      clear this tg
      clear pa
      have pa:=Tag.mk 1001
      go_simp
      (have s8:=hHeld.size;generalize hwz:World.alloc _ _=wz;obtain ⟨hxz,hbz,zz⟩:=new_box hwz;have zd:wz.heap.size≤wz.drew.heap.size:=Nat.le_refl _;have HBZ:=Lib.hid hbz;have c6:World.cell? _ ⟨_,0,none⟩=some (.pointer none):=hbz.cell 0;have f6:=hbz.frozen 0;(try (have HT:=Lib.hid (HT.out.agree (hxz.agree fun b hb=>hb.2))));clear hwz hbz)
      refine hK.out _ _ ((by first|exact hHeld.trans (Nw.of hxz)|exact (Nw.of hxz).trans (Nw.of ((Ext.refl wz).drew)))) (fun hHeld=>?_)
      clear hK K
      try simp only [Act.put,List.setIfInBounds_toArray,List.set_cons_zero,List.set_cons_succ])
   | (have:=(tg:Tag 9)
      clear this tg
      clear pm
      have pm:=Tag.mk 5
      go_simp
      (have HN:=Lib.hid hHeld)
      refine hK.out _ _ (nw_setB hHeld (by omega) _) (fun hHeld=>?_)
      clear hK K
      try simp only [Act.put,List.setIfInBounds_toArray,List.set_cons_zero,List.set_cons_succ])
   | (have:=(pm:Tag 5);have:=(pa:Tag 1001);refine wpAnyH_done (by kernel_rfl) ?_ _
      simp only [putXs,List.map_cons,List.map_nil,List.cons_append,List.nil_append,List.setIfInBounds_toArray,List.set_cons_zero,List.set_cons_succ]
      refine onlyX_mk ⟨_,.bool true,⟨box13_mk hp ok he HT.out HBZ.out (by omega) (fun i hi=>⟨by have:=hi.1;omega,by have:=hi.2;omega,by have:=hi.1;have:=hi.2;omega⟩),hHeld⟩,by kernel_rfl,?_⟩
      simp only [putXs,List.map_cons,List.map_nil,List.cons_append,List.nil_append,List.setIfInBounds_toArray,List.set_cons_zero,List.set_cons_succ]
      kernel_rfl))
 intro w2 b2 u2 vs hin
 simp only [putXs,List.map_cons,List.map_nil,List.cons_append,List.nil_append,List.setIfInBounds_toArray,List.set_cons_zero,List.set_cons_succ]
 obtain ⟨⟨T1,p1,hp1,ok1,he1,hT1,hbx2,hl2⟩,hn2⟩:=hin
 have z2:=hn2.size
 have c2:∀ W,Nw w2 W→W.cell? ⟨b2,0,none⟩=some (.pointer p1):=fun W hW=>(hW.blk hbx2).cell 0
 have HSS2:=Lib.hid c2
 have HNA:=Lib.hid (HN1.out.trans hn2)
 have HBL:=Lib.hid (hn2.blk HB1.out)
 have HFOLD:=Lib.hid (show ∀ W g,Nw w2 W→Blk W g 31 (muts13.flatMap fun p=>cellsMu p.1 p.2).toArray→Calls Tryz.prog 38 #[.agg #[.pointer p1],.slice (some ⟨g,0,none⟩) 3 3] W fun e w'=>∃ T' p',e=.returned (.tuple #[.agg #[.pointer p'],.int .i64 0])∧rootV T'=.pointer p'∧OkR T'∧IsT w' (Up (fun i=>w1.heap.size≤i∧i<w2.heap.size∧i≠b2) W w') T'∧entsT T'=rows13 kB1 [numV 7] 3∧Nw W w' from
  fun W g hW hb=>fold13_any hp1 ok1 he1 (hT1.agree (Nw.agree hW fun b hb=>hb.2.1)) (fun b hb=>⟨by have:=hb.1;omega,Nat.lt_of_lt_of_le hb.2.1 hW.size⟩) (HL.out.nw (HNA.out.trans hW)) hb)
 have HRUN:=Lib.hid (show ∀ W m,Nw w2 W→sizeM m=1→RMu W (Lt W.heap.size) m zS→totM m≤1100000→Calls Tryz.prog 28 #[.agg #[.pointer p1],aggMu m zS] W fun e w'=>∃ p',e=.returned (.tuple #[.agg #[.pointer p'],.int .i64 (runM (rows13 kAi [] 1) m).1])∧Nw W w' from
  fun W m hW hs hm ht=>(run13 hp1 ok1 he1 (hT1.agree (Nw.agree hW fun b hb=>hb.2.1)) (fun b hb=>⟨by have:=hb.1;omega,Nat.lt_of_lt_of_le hb.2.1 hW.size⟩) okM13 (by decide) hs hm ht (HL.out.nw (HNA.out.trans hW))).mono fun e w' ⟨T',p',h1,h2,h3,h4,h5,h6,h7,h8⟩=>⟨p',h1,h7⟩)
 have hz2d:w2.heap.size≤w2.drew.heap.size:=Nat.le_refl _
 have hz2e:w2.drew.heap.size≤w2.heap.size:=Nat.le_refl _
 clear hp1 ok1 he1 hT1 hbx2 hn2 c2 HB1 HN1 HSS HL
 go_wp2_with fail
 refine wp_meetX (fun w' b _=>Box13 (rows13 kB1 [numV 7] 3) w1.heap.size w' b∧Nw w2 w') [21,22,23,24,25,26,27,20,28,29] (fun b _=>[(3,.pointer (some ⟨b,0,none⟩)),(4,.int .i64 0)]) ?_ ?_
 ·skip
  refine wp_region_held_drew (S:=(fun w'=>Nw w2 w')) (by kernel_rfl) ((Nw.of ((Ext.refl w2).drew))) (fun hHeld=>?_)
  refine heldT 0 (some 21) HSS2 hHeld ?_
  refine heldT 1 (some 22) HSS2 hHeld ?_
  refine heldT 4 (some 25) HSS2 hHeld ?_
  have pm:=Tag.mk 0
  have pa:=Tag.mk 1000
  repeat' (first
   | (have:=(pm:Tag 0);have:=(pa:Tag 1000);refine heldW 2 10 (fun K tg hK=>?_) (fun K tg hK=>?_))
   | (have:=(pm:Tag 0);have:=(pa:Tag 1001);refine heldC 2 (fun K tg hK=>?_))
   | (have:=(pm:Tag 1);have:=(pa:Tag 1000);refine heldW 5 10 (fun K tg hK=>?_) (fun K tg hK=>?_))
   | (have:=(pm:Tag 1);have:=(pa:Tag 1001);refine heldC 5 (fun K tg hK=>?_))
   | (have:=(pm:Tag 2);have:=(pa:Tag 1000);refine heldW 6 10 (fun K tg hK=>?_) (fun K tg hK=>?_))
   | (have:=(pm:Tag 2);have:=(pa:Tag 1001);refine heldC 6 (fun K tg hK=>?_))
   | (have:=(pm:Tag 3);have:=(pa:Tag 1000);refine heldC 10 (fun K tg hK=>?_))
   | (have:=(pm:Tag 3);have:=(pa:Tag 1001);refine heldC 11 (fun K tg hK=>?_))
   | (have:=(tg:Tag 2)
      clear this tg
      clear pm
      have pm:=Tag.mk 1
      go_simp
      (refine (num13_any _ 7).mono ?_;rintro e wa ⟨rfl,hxa⟩;have za:=hxa.size;(first|have HBZ:=Lib.hid (HBZ.out.ext hxa)|have HBZ:=Lib.hid (HBZ.out.ext (((Ext.refl _).drew).trans hxa))|skip))
      refine hK.out _ _ (hHeld.trans (Nw.of hxa)) (fun hHeld=>?_)
      clear hK K
      try simp only [Act.put,List.setIfInBounds_toArray,List.set_cons_zero,List.set_cons_succ]
      refine heldT 3 (some 24) HSS2 hHeld ?_)
   | (have:=(tg:Tag 5)
      clear this tg
      clear pm
      have pm:=Tag.mk 2
      go_simp
      (generalize hwr:World.alloc _ _=wr;obtain ⟨hxr,hbr,zr⟩:=new_box hwr;have HBR:=Lib.hid hbr;(try (have HBZ:=Lib.hid (HBZ.out.ext hxr)));clear hwr hbr)
      refine hK.out _ _ (hHeld.trans (Nw.of hxr)) (fun hHeld=>?_)
      clear hK K
      try simp only [Act.put,List.setIfInBounds_toArray,List.set_cons_zero,List.set_cons_succ])
   | (have:=(tg:Tag 6)
      clear this tg
      clear pm
      have pm:=Tag.mk 3
      go_simp
      (have s6:=hHeld.size;refine (HFOLD.out _ _ hHeld (by first|exact HBR.out|exact HBR.out.ext hxz)).mono ?_;rintro e wc ⟨T,p,rfl,hp,ok,hT,he,hnc⟩;have zc:=hnc.size;have HT:=Lib.hid hT;(try (have HBZ:=Lib.hid (hnc.blk HBZ.out);have c6:World.cell? _ ⟨_,0,none⟩=some (.pointer none):=HBZ.out.cell 0;have f6:=HBZ.out.frozen 0));clear hT)
      refine hK.out _ _ (hHeld.trans hnc) (fun hHeld=>?_)
      clear hK K
      try simp only [Act.put,List.setIfInBounds_toArray,List.set_cons_zero,List.set_cons_succ]
      refine heldT 7 (some 20) HSS2 hHeld ?_
      refine heldT 8 (some 28) HSS2 hHeld ?_
      refine heldT 9 (some 29) HSS2 hHeld ?_)
   | (have:=(tg:Tag 10)
      clear this tg
      clear pa
      have pa:=Tag.mk 1001
      go_simp
      (have s8:=hHeld.size;generalize hwz:World.alloc _ _=wz;obtain ⟨hxz,hbz,zz⟩:=new_box hwz;have zd:wz.heap.size≤wz.drew.heap.size:=Nat.le_refl _;have HBZ:=Lib.hid hbz;have c6:World.cell? _ ⟨_,0,none⟩=some (.pointer none):=hbz.cell 0;have f6:=hbz.frozen 0;(try (have HT:=Lib.hid (HT.out.agree (hxz.agree fun b hb=>hb.elim (fun h=>by have:=h.2.1;omega) fun h=>h.2))));clear hwz hbz)
      refine hK.out _ _ ((by first|exact hHeld.trans (Nw.of hxz)|exact (Nw.of hxz).trans (Nw.of ((Ext.refl wz).drew)))) (fun hHeld=>?_)
      clear hK K
      try simp only [Act.put,List.setIfInBounds_toArray,List.set_cons_zero,List.set_cons_succ])
   | (have:=(tg:Tag 11)
      clear this tg
      clear pm
      have pm:=Tag.mk 4
      go_simp
      skip
      refine hK.out _ _ (nw_setB hHeld (by omega) _) (fun hHeld=>?_)
      clear hK K
      try simp only [Act.put,List.setIfInBounds_toArray,List.set_cons_zero,List.set_cons_succ]
      refine heldT 12 (some 4) HSS2 hHeld ?_)
   | (have:=(pm:Tag 4);have:=(pa:Tag 1001);refine wpAnyH_done (by kernel_rfl) ?_ _
      simp only [putXs,List.map_cons,List.map_nil,List.cons_append,List.nil_append,List.setIfInBounds_toArray,List.set_cons_zero,List.set_cons_succ]
      refine onlyX_mk ⟨_,.bool true,⟨box13_mk hp ok he HT.out HBZ.out (by omega) (fun i hi=>by rcases hi with h | h <;> exact ⟨by have:=h.1;omega,by have:=h.2;omega,by have:=h.1;have:=h.2;omega⟩),hHeld⟩,by kernel_rfl,?_⟩
      simp only [putXs,List.map_cons,List.map_nil,List.cons_append,List.nil_append,List.setIfInBounds_toArray,List.set_cons_zero,List.set_cons_succ]
      kernel_rfl))
 intro w3 b3 u3 vs3 hin
 simp only [putXs,List.map_cons,List.map_nil,List.cons_append,List.nil_append,List.setIfInBounds_toArray,List.set_cons_zero,List.set_cons_succ]
 obtain ⟨⟨T3,p3,hp3,ok3,he3,hT3,hbx3,hl3⟩,hn3⟩:=hin
 have z3:=hn3.size
 have q2:w3.cell? ⟨b2,0,none⟩=some (.pointer p1):=HSS2.out w3 hn3
 have HN3:=Lib.hid hn3
 have HBX3:=Lib.hid hbx3
 have HP3:=Lib.hid hp3
 have HO3:=Lib.hid ok3
 have HE3:=Lib.hid he3
 have HT3:=Lib.hid hT3
 clear hp3 ok3 he3 hT3 hbx3 hn3 HFOLD
 go_wp2_with fail
 refine (HRUN.out w3 (delMu kY1) HN3.out (size_flat ..) (mu_del _ _ (by decide)) (by decide +kernel)).mono ?_
 rintro e w4 ⟨p4,rfl,hn4⟩
 rw [del13]
 have HN4:=Lib.hid hn4
 clear hn4 q2
 go_wp2_with fail
 generalize hW5:World.alloc _ _=w5
 obtain ⟨hx5,hb5,hz5⟩:=new_box hW5
 have hz5d:w5.heap.size≤w5.drew.heap.size:=Nat.le_refl _
 have hz5e:w5.drew.heap.size≤w5.heap.size:=Nat.le_refl _
 have HN35:=Lib.hid (HN4.out.trans (Nw.of hx5))
 have HSS5:=Lib.hid (show ∀ W,Nw w5 W→W.cell? ⟨b2,0,none⟩=some (.pointer p1) from fun W hW=>HSS2.out W ((HN3.out.trans HN35.out).trans hW))
 have HCAS:=Lib.hid (show ∀ W,Nw w5 W→Calls Tryz.prog 28 #[.agg #[.pointer p1],aggMu (casMu kX1 (numV 2)) zS] W fun e w'=>∃ p',e=.returned (.tuple #[.agg #[.pointer p'],.int .i64 13])∧Nw W w' from fun W hW=>by
  have h:=HRUN.out W (casMu kX1 (numV 2)) ((HN3.out.trans HN35.out).trans hW) (size_flat ..) (mu_cas _ _ (by decide) (by decide)) (by decide +kernel)
  rwa [cas13] at h)
 clear hW5 hx5 hb5 HN4
 refine wp_meetX (fun w' b u=>Nw w5 w'∧Blk w' b 41 #[u]) [37,38,39,40,36,41,42] (fun b _=>[(7,.pointer (some ⟨b,0,none⟩)),(8,.int .i64 13)]) ?_ ?_
 ·skip
  refine wp_region_held_drew (S:=(fun w'=>Nw w5 w')) (by kernel_rfl) ((Nw.of ((Ext.refl w5).drew))) (fun hHeld=>?_)
  refine heldT 0 (some 37) HSS5 hHeld ?_
  have pm:=Tag.mk 0
  have pa:=Tag.mk 1000
  repeat' (first
   | (have:=(pm:Tag 0);have:=(pa:Tag 1000);refine heldW 1 7 (fun K tg hK=>?_) (fun K tg hK=>?_))
   | (have:=(pm:Tag 0);have:=(pa:Tag 1001);refine heldC 1 (fun K tg hK=>?_))
   | (have:=(pm:Tag 1);have:=(pa:Tag 1000);refine heldW 3 7 (fun K tg hK=>?_) (fun K tg hK=>?_))
   | (have:=(pm:Tag 1);have:=(pa:Tag 1001);refine heldC 3 (fun K tg hK=>?_))
   | (have:=(pm:Tag 2);have:=(pa:Tag 1000);refine heldC 7 (fun K tg hK=>?_))
   | (have:=(pm:Tag 2);have:=(pa:Tag 1001);refine heldC 8 (fun K tg hK=>?_))
   | (have:=(tg:Tag 1)
      clear this tg
      clear pm
      have pm:=Tag.mk 1
      go_simp
      (refine (num13_any _ 2).mono ?_;rintro e wa ⟨rfl,hxa⟩;have za:=hxa.size;(first|have HBZ:=Lib.hid (HBZ.out.ext hxa)|have HBZ:=Lib.hid (HBZ.out.ext (((Ext.refl _).drew).trans hxa))|skip))
      refine hK.out _ _ (hHeld.trans (Nw.of hxa)) (fun hHeld=>?_)
      clear hK K
      try simp only [Act.put,List.setIfInBounds_toArray,List.set_cons_zero,List.set_cons_succ]
      refine heldT 2 (some 39) HSS5 hHeld ?_)
   | (have:=(tg:Tag 3)
      clear this tg
      clear pm
      have pm:=Tag.mk 2
      go_simp
      (refine (HCAS.out _ hHeld).mono ?_;rintro e wc ⟨p,rfl,hnc⟩;have zc:=hnc.size;(try (have HBZ:=Lib.hid (hnc.blk HBZ.out);have c6:World.cell? _ ⟨_,0,none⟩=some (.pointer none):=HBZ.out.cell 0;have f6:=HBZ.out.frozen 0)))
      refine hK.out _ _ (hHeld.trans hnc) (fun hHeld=>?_)
      clear hK K
      try simp only [Act.put,List.setIfInBounds_toArray,List.set_cons_zero,List.set_cons_succ]
      refine heldT 4 (some 36) HSS5 hHeld ?_
      refine heldT 5 (some 41) HSS5 hHeld ?_
      refine heldT 6 (some 42) HSS5 hHeld ?_)
   | (have:=(tg:Tag 7)
      clear this tg
      clear pa
      have pa:=Tag.mk 1001
      go_simp
      (have s8:=hHeld.size;generalize hwz:World.alloc _ _=wz;obtain ⟨hxz,hbz,zz⟩:=new_box hwz;have zd:wz.heap.size≤wz.drew.heap.size:=Nat.le_refl _;have HBZ:=Lib.hid hbz;have c6:World.cell? _ ⟨_,0,none⟩=some (.pointer none):=hbz.cell 0;have f6:=hbz.frozen 0;clear hwz hbz)
      refine hK.out _ _ ((by first|exact hHeld.trans (Nw.of hxz)|exact (Nw.of hxz).trans (Nw.of ((Ext.refl wz).drew)))) (fun hHeld=>?_)
      clear hK K
      try simp only [Act.put,List.setIfInBounds_toArray,List.set_cons_zero,List.set_cons_succ])
   | (have:=(tg:Tag 8)
      clear this tg
      clear pm
      have pm:=Tag.mk 3
      go_simp
      (have HB8:=HBZ)
      refine hK.out _ _ (nw_setB hHeld (by omega) _) (fun hHeld=>?_)
      clear hK K
      try simp only [Act.put,List.setIfInBounds_toArray,List.set_cons_zero,List.set_cons_succ]
      refine heldT 9 (some 8) HSS5 hHeld ?_)
   | (have:=(pm:Tag 3);have:=(pa:Tag 1001);refine wpAnyH_done (by kernel_rfl) ?_ _
      simp only [putXs,List.map_cons,List.map_nil,List.cons_append,List.nil_append,List.setIfInBounds_toArray,List.set_cons_zero,List.set_cons_succ]
      refine onlyX_mk ⟨_,.pointer p,⟨hHeld,HBZ.out.set_ 0 (.pointer p)⟩,by kernel_rfl,?_⟩
      simp only [putXs,List.map_cons,List.map_nil,List.cons_append,List.nil_append,List.setIfInBounds_toArray,List.set_cons_zero,List.set_cons_succ]
      kernel_rfl))
 rintro w6 b6 u6 vs6 ⟨hn6,-⟩
 simp only [putXs,List.map_cons,List.map_nil,List.cons_append,List.nil_append,List.setIfInBounds_toArray,List.set_cons_zero,List.set_cons_succ]
 have HN36:=Lib.hid (HN35.out.trans hn6)
 have q2:w6.cell? ⟨b2,0,none⟩=some (.pointer p1):=HSS2.out w6 (HN3.out.trans HN36.out)
 clear hn6 HCAS HSS5 HN35
 go_wp2_with fail
 refine (HRUN.out w6 (incMu kL1 1) (HN3.out.trans HN36.out) (size_flat ..) (mu_inc _ _ (by decide) (by decide)) (by decide +kernel)).mono ?_
 rintro e w7 ⟨p7,rfl,hn7⟩
 rw [ink13]
 have HN37:=Lib.hid (HN36.out.trans hn7)
 clear hn7 q2 HRUN HSS2
 go_wp2_with fail
 generalize hW8:World.alloc _ _=w8
 obtain ⟨hx8,-,hz8⟩:=new_box hW8
 have HN38:=Lib.hid (HN37.out.trans (Nw.of hx8))
 clear hW8 hx8 HN37
 refine (num13_any _ 7).mono ?_
 rintro e w9 ⟨rfl,hx9⟩
 have hn39:=HN38.out.trans (Nw.of hx9)
 have hbl9:=Nw.blk (HN3.out.trans hn39) HBL.out
 have c4:w9.cell? ⟨w.heap.size,4,none⟩=some (.slice none 0 0):=hbl9.cell 4
 have f4:=hbl9.frozen 4
 have l9:=hbl9.lt
 have HBL9:=Lib.hid hbl9
 have HN39:=Lib.hid hn39
 clear hbl9 hn39 hx9 HN38
 go_wp2_with fail
 generalize hW10:World.alloc (World.setCell _ _ _) _=w10
 have hx10:=(Ext.refl (w9.setCell ⟨w.heap.size,4,none⟩ (.slice (some ⟨w9.heap.size,0,none⟩) 1 1))).alloc #[.int .i64 3,.bool false,.int .i64 7,.string ByteArray.empty,.slice none 0 0,.slice none 0 0] 28
 have hb10:=Blk.new (w9.setCell ⟨w.heap.size,4,none⟩ (.slice (some ⟨w9.heap.size,0,none⟩) 1 1)) 28 #[.int .i64 3,.bool false,.int .i64 7,.string ByteArray.empty,.slice none 0 0,.slice none 0 0]
 have hsb0:=(Sb.refl (fun i=>i=w.heap.size) w9).set (p:=⟨w.heap.size,4,none⟩) (.inr rfl) (.slice (some ⟨w9.heap.size,0,none⟩) 1 1)
 have hbl10:=(HBL9.out.set_ 4 (.slice (some ⟨w9.heap.size,0,none⟩) 1 1)).ext hx10
 have hsb:=hsb0.trans (Nw.any (Nw.of hx10) _)
 rw [World.size_setCell] at hb10
 rw [hW10] at hsb hbl10 hb10
 have hbg:=hb10
 have z9:w2.heap.size≤w9.heap.size:=(HN3.out.trans HN39.out).size
 have hbx:=hsb.blk (Nw.blk HN39.out HBX3.out) (by omega)
 have hT10:=(HT3.out.agree (Nw.agree HN39.out fun b hb=>hb.2.1)).agree fun b hb=>hsb.block b (Nat.lt_of_lt_of_le hb.2.1 HN39.out.size) (by have:=hb.1;omega)
 have hnw10:Nw w w10:=((HNA.out.trans HN3.out).trans HN39.out).comp hsb fun i hi e=>by omega
 have z10:w9.heap.size≤w10.heap.size:=hsb.size
 have HSS10:=Lib.hid (show ∀ W,Nw w10 W→W.cell? ⟨b3,0,none⟩=some (.pointer p3)∧W.cell? ⟨w.heap.size,0,none⟩=some (.int .i64 5)∧W.cell? ⟨w.heap.size,1,none⟩=some (.bool false)∧W.cell? ⟨w.heap.size,2,none⟩=some (.int .i64 0)∧W.cell? ⟨w.heap.size,3,none⟩=some (.string ByteArray.empty)∧W.cell? ⟨w.heap.size,4,none⟩=some (.slice (some ⟨w9.heap.size,0,none⟩) 1 1)∧W.cell? ⟨w.heap.size,5,none⟩=some (.slice none 0 0) from
  fun W hW=>⟨(hW.blk hbx).cell 0,(hW.blk hbl10).cell 0,(hW.blk hbl10).cell 1,(hW.blk hbl10).cell 2,(hW.blk hbl10).cell 3,(hW.blk hbl10).cell 4,(hW.blk hbl10).cell 5⟩)
 have HHAS:=Lib.hid (show ∀ W g,Nw w10 W→Blk W g 71 (flatE (rowE3 kB1 kL1 kX1 (numV 5) (rowV [numV 7]) (numV 3) ⟨some ⟨w9.heap.size,0,none⟩,1⟩)).toArray→Calls Tryz.prog 25 #[.agg #[.pointer p3],.slice (some ⟨g,0,none⟩) 3 3] W fun e w'=>e=.returned (.bool true)∧Ext W w' from fun W g hW hb=>by
  have hbg':=hW.blk hbg
  have es:=es_blk hb (rowE3_ok (by decide) (rv_row1 hbg' hbg'.lt (by decide)) (by decide)) (show 3≤1000000 by decide)
  have h:=has13_any (T:=T3) (F:=fun i=>w1.heap.size≤i∧i<w3.heap.size∧i≠b3) (fun b hb=>by have:=hb.2.1;have:=hW.size;have:=HN39.out.size;omega) (hT10.agree (Nw.agree hW fun b hb=>by have:=hb.2.1;have:=HN39.out.size;show b<_;omega)) HO3.out (by rw [HE3.out];decide) es
  rw [treeV,HP3.out,HE3.out] at h
  refine h.mono ?_
  rintro e w' ⟨rfl,hx⟩
  exact ⟨by rw [show (rowE3 kB1 kL1 kX1 (numV 5) (rowV [numV 7]) (numV 3) ⟨some ⟨w9.heap.size,0,none⟩,1⟩).map LE.ent=rows13 kB1 [numV 7] 3 from rfl,sameE_refl],hx⟩)
 have HNF:=Lib.hid hnw10
 clear hW10 hx10 hb10 hsb hsb0 hbl10 hbg hbx hT10 hnw10 c4 f4 HT3 HO3 HE3 HP3 HBX3 HBL9 HBL
 refine wp_region_held_drew (S:=(fun w'=>Nw w10 w')) (by kernel_rfl) ((Nw.of ((Ext.refl w10).drew))) (fun hHeld=>?_)
 refine heldT 0 (some 52) HSS10 hHeld ?_
 refine heldT 1 (some 53) HSS10 hHeld ?_
 refine heldT 2 (some 54) HSS10 hHeld ?_
 refine heldT 3 (some 55) HSS10 hHeld ?_
 refine heldT 6 (some 58) HSS10 hHeld ?_
 refine heldT 7 (some 59) HSS10 hHeld ?_
 refine held_call (i:=4) (by kernel_rfl) rfl (by rfl) (fun K hK=>?_)
 go_simp
 (refine (num13_any _ 5).mono ?_;rintro e wa ⟨rfl,hxa⟩)
 refine hK.out _ _ (hHeld.trans (Nw.of hxa)) (fun hHeld=>?_)
 clear hK K
 try simp only [Act.put,List.setIfInBounds_toArray,List.set_cons_zero,List.set_cons_succ]
 refine heldT 5 (some 57) HSS10 hHeld ?_
 refine held_call (i:=8) (by kernel_rfl) rfl (by rfl) (fun K hK=>?_)
 go_simp
 (refine (num13_any _ 3).mono ?_;rintro e wb ⟨rfl,hxb⟩)
 refine hK.out _ _ (hHeld.trans (Nw.of hxb)) (fun hHeld=>?_)
 clear hK K
 try simp only [Act.put,List.setIfInBounds_toArray,List.set_cons_zero,List.set_cons_succ]
 refine heldT 9 (some 61) HSS10 hHeld ?_
 refine held_call (i:=10) (by kernel_rfl) rfl (by rfl) (fun K hK=>?_)
 go_simp
 (generalize hwr:World.alloc _ _=wr;obtain ⟨hxr,hbr,zr⟩:=new_box hwr;have HBR:=Lib.hid hbr;clear hwr hbr)
 refine hK.out _ _ (hHeld.trans (Nw.of hxr)) (fun hHeld=>?_)
 clear hK K
 try simp only [Act.put,List.setIfInBounds_toArray,List.set_cons_zero,List.set_cons_succ]
 refine held_call (i:=11) (by kernel_rfl) rfl (by rfl) (fun K hK=>?_)
 go_simp
 (refine (HHAS.out _ _ hHeld HBR.out).mono ?_;rintro e wd ⟨rfl,hxd⟩)
 refine hK.out _ _ (hHeld.trans (Nw.of hxd)) (fun hHeld=>?_)
 clear hK K
 try simp only [Act.put,List.setIfInBounds_toArray,List.set_cons_zero,List.set_cons_succ]
 refine heldT 12 (some 64) HSS10 hHeld ?_
 refine heldT 13 (some 65) HSS10 hHeld ?_
 refine heldT 14 (some 66) HSS10 hHeld ?_
 refine heldT 15 (some 67) HSS10 hHeld ?_
 refine heldT 16 (some 68) HSS10 hHeld ?_
 refine heldT 17 (some 69) HSS10 hHeld ?_
 refine heldT 18 (some 70) HSS10 hHeld ?_
 refine heldT 19 (some 71) HSS10 hHeld ?_
 refine heldT 20 (some 72) HSS10 hHeld ?_
 refine heldT 21 (some 73) HSS10 hHeld ?_
 refine heldT 22 (some 74) HSS10 hHeld ?_
 refine heldT 23 (some 75) HSS10 hHeld ?_
 refine heldT 24 (some 76) HSS10 hHeld ?_
 refine heldT 25 (some 0) HSS10 hHeld ?_
 refine wpAnyH_done (by kernel_rfl) ?_ _
 go_wp2_with fail
 go_ret
 exact ⟨rfl,HNF.out.trans hHeld⟩
end Go.Proofs.YtkhdiakpdafcdaaGreatDoor
namespace Go.Proofs.YtkhdiakpdafcdaaGreatDoor
open Go.RowKit
set_option linter.unusedVariables false
set_option linter.unusedSimpArgs false
abbrev word13:ByteArray:=⟨#[97,98,99,100,101,102,103,104,105,106]⟩
abbrev wordV13:Val:=.mk 4 false 0 word13 [] [] []
abbrev digV13 (n:Nat):Val:=numV ((n % 10:Nat):Int)
def listL (few words:Nat):List Val:=(List.range few).map digV13++(List.range words).map fun _=>wordV13
theorem listL_len (few words:Nat):(listL few words).length=few+words:=by simp [listL]
theorem mayLV_all:∀ {l:List Val} {q:Nat},(∀ d∈l,mayV d q=0)→mayLV l q=0
 | [],q,_=>by rw [mayLV]
 | x :: r,q,h=>by
   rw [mayLV,if_neg (fun e=>e (h x (List.mem_cons_self ..)))]
   exact mayLV_all fun d hd=>h d (List.mem_cons_of_mem _ hd)
theorem deepL_all:∀ {l:List Val},(∀ d∈l,deepV d=1)→deepL l≤1
 | [],_=>by rw [deepL];omega
 | x :: r,h=>by
   have h1:=h x (List.mem_cons_self ..)
   have h2:=deepL_all fun d hd=>h d (List.mem_cons_of_mem _ hd)
   rw [deepL];omega
theorem lenL_app:∀ a b:List Val,lenL (a++b)=lenL a+lenL b
 | [],b=>by simp [lenL]
 | x :: r,b=>by rw [List.cons_append,lenL,lenL,lenL_app r b];omega
theorem lenL_all {n:Nat}:∀ {l:List Val},(∀ d∈l,lenV d=n)→lenL l=l.length*n
 | [],_=>by simp [lenL]
 | x :: r,h=>by
   rw [lenL,h x (List.mem_cons_self ..),lenL_all fun d hd=>h d (List.mem_cons_of_mem _ hd),List.length_cons,Nat.add_mul];omega
theorem valid_word:Lib.validD word13.data.toList=true:=by decide +kernel
theorem len_word:(quoteA word13).size=12:=by decide +kernel
theorem itoa_dig (n:Nat) (h:n<10):(Lib.itoa (n:Int)).length=1:=by
 match n,h with
 | 0,_=>decide +kernel
 | 1,_=>decide +kernel
 | 2,_=>decide +kernel
 | 3,_=>decide +kernel
 | 4,_=>decide +kernel
 | 5,_=>decide +kernel
 | 6,_=>decide +kernel
 | 7,_=>decide +kernel
 | 8,_=>decide +kernel
 | 9,_=>decide +kernel
 | n+10,h=>omega
theorem dig_ok (n q:Nat) (hq:q≤64):mayV (digV13 n) q=0∧deepV (digV13 n)=1∧lenV (digV13 n)=1:=by
 refine ⟨?_,?_,?_⟩
 ·rw [mayV]
  rw [show oddS 3 false ((n % 10:Nat):Int) ByteArray.empty ([]:List Val).length ([]:List ByteArray).length=false by simp [oddS]]
  rw [if_neg (by simp),if_neg (by omega)]
  rfl
 ·rw [deepV];rfl
 rw [lenV,if_neg (by decide),if_pos rfl]
 exact itoa_dig _ (Nat.mod_lt _ (by decide))
theorem word_ok (q:Nat) (hq:q≤64):mayV wordV13 q=0∧deepV wordV13=1∧lenV wordV13=12:=by
 refine ⟨?_,?_,?_⟩
 ·rw [mayV]
  rw [show oddS 4 false 0 word13 ([]:List Val).length ([]:List ByteArray).length=false by simp [oddS]]
  rw [if_neg (by simp),if_neg (by omega),if_pos rfl,if_pos valid_word]
 ·rw [deepV];rfl
 rw [lenV,if_neg (by decide),if_neg (by decide),if_pos rfl]
 exact len_word
theorem listL_mem {few words:Nat} {d:Val} (h:d∈listL few words):(∃ n,d=digV13 n)∨d=wordV13:=by
 rcases List.mem_append.1 h with h | h
 ·obtain ⟨n,-,rfl⟩:=List.mem_map.1 h;exact .inl ⟨n,rfl⟩
 obtain ⟨n,-,rfl⟩:=List.mem_map.1 h;exact .inr rfl
theorem listL_lenL (few words:Nat):lenL (listL few words)=few+12*words:=by
 unfold listL
 have h1:∀ d∈(List.range few).map digV13,lenV d=1:=fun d hd=>by obtain ⟨n,-,rfl⟩:=List.mem_map.1 hd;exact (dig_ok n 2 (by decide)).2.2
 have h2:∀ d∈(List.range words).map (fun _=>wordV13),lenV d=12:=fun d hd=>by obtain ⟨n,-,rfl⟩:=List.mem_map.1 hd;exact (word_ok 2 (by decide)).2.2
 rw [lenL_app,lenL_all h1,lenL_all h2]
 simp;omega
theorem row_fit {l:List Val} (h:∀ d∈l,(∃ n,d=digV13 n)∨d=wordV13):mayV (rowV l) 1=0∧deepV (rowV l)≤2∧lenV (rowV l)=2+lenL l+(l.length - 1)∧wfV (rowV l):=by
 refine ⟨?_,?_,?_,?_⟩
 ·rw [rowV,mayV]
  rw [show oddS 5 false 0 ByteArray.empty l.length ([]:List ByteArray).length=false by simp [oddS]]
  rw [if_neg (by simp),if_neg (by omega),if_neg (by decide),if_pos rfl]
  exact mayLV_all fun d hd=>(h d hd).elim (fun ⟨n,e⟩=>e▸(dig_ok n 2 (by decide)).1) fun e=>e▸(word_ok 2 (by decide)).1
 ·rw [rowV,deepV,if_pos rfl]
  have:=deepL_all (l:=l) fun d hd=>(h d hd).elim (fun ⟨n,e⟩=>e▸(dig_ok n 2 (by decide)).2.1) fun e=>e▸(word_ok 2 (by decide)).2.1
  omega
 ·rw [rowV,lenV,if_neg (by decide),if_neg (by decide),if_neg (by decide),if_pos rfl]
 unfold rowV wfV
 refine ⟨rfl,wfLV_of fun j d hj=>?_,by unfold wfLV;trivial⟩
 rcases h d (List.mem_of_getElem? hj) with ⟨n,rfl⟩ | rfl <;> (unfold wfV;exact ⟨rfl,by unfold wfLV;trivial,by unfold wfLV;trivial⟩)
theorem row_fitV {l:List Val} (h:∀ d∈l,(∃ n,d=digV13 n)∨d=wordV13):fitV (rowV l)=if 1024<2+lenL l+(l.length - 1) then 6 else 0:=by
 obtain ⟨h1,h2,h3,-⟩:=row_fit h
 unfold fitV
 rw [if_neg (by simp [h1]),if_neg (by omega),h3]
theorem app13 {few words:Nat} (hb:2+(few+12*words)+(few+words - 1)≤1024):OkM [(kL1,rowV (listL few words))]∧runM [(kL1,rowV (listL few words))] (addMu kL1 (numV 7)) =
  if 256≤few+words∨1024<2+(few+12*words+1)+(few+words) then (6,[(kL1,rowV (listL few words))]) else (0,[(kL1,rowV (listL few words++[numV 7]))]):=by
 have hm:∀ d∈listL few words,(∃ n,d=digV13 n)∨d=wordV13:=fun d hd=>listL_mem hd
 have hm2:∀ d∈listL few words++[numV 7],(∃ n,d=digV13 n)∨d=wordV13:=fun d hd=>(List.mem_append.1 hd).elim (hm d) fun h=>.inl ⟨7,(List.mem_singleton.1 h).trans rfl⟩
 have f1:=row_fitV hm
 rw [listL_lenL,listL_len,if_neg (by omega)] at f1
 have f2:=row_fitV hm2
 rw [lenL_app,listL_lenL,List.length_append,listL_len,show lenL [numV 7]=1 by rw [lenL,lenL,show lenV (numV 7)=1 from (dig_ok 7 2 (by decide)).2.2]] at f2
 refine ⟨⟨List.pairwise_singleton _ _,fun e he=>by rw [List.mem_singleton.1 he];exact ⟨mL,(row_fit hm).2.2.2,f1⟩⟩,?_⟩
 unfold runM
 rw [if_neg (by simp [may_addM mL (by decide) (fit_num (n:=7) (by decide) (by decide))]),stepM,if_neg (by decide),if_neg (by decide),if_neg (by decide),if_neg (by decide),if_pos rfl]
 unfold appM
 rw [show getE [(kL1,rowV (listL few words))] kL1=some (rowV (listL few words)) by simp [getE]]
 show (if (5:Int)≠5 then _ else rowM _ kL1 (listL few words) (numV 7))=_
 rw [if_neg (by simp)]
 unfold rowM
 rw [listL_len]
 by_cases h1:256≤few+words
 ·rw [if_pos h1,if_pos (.inl h1)]
 rw [if_neg h1]
 unfold setMu
 rw [if_neg (by simp [mL])]
 rw [show few+words+[numV 7].length - 1=few+words by simp] at f2
 by_cases h2:1024<2+(few+12*words+1)+(few+words)
 ·rw [if_pos h2] at f2
  rw [if_pos (show 256≤few+words∨1024<2+(few+12*words+1)+(few+words) from .inr h2),f2]
  rfl
 rw [if_neg h2] at f2
 rw [if_neg (show ¬(256≤few+words∨1024<2+(few+12*words+1)+(few+words)) from fun h=>h.elim h1 h2),f2,if_neg (by simp)]
 simp [insE,kltLL]
theorem i64_wfA {q:Int} (h0 : -9223372036854775808≤q) (h1:q≤9223372036854775807):(Lit.int .i64 q).wf=true:=by
 have a1:IntKind.i64.min = -9223372036854775808:=by decide
 have a2:IntKind.i64.max=9223372036854775807:=by decide
 simp [Lit.wf,a1,a2];omega
end Go.Proofs.YtkhdiakpdafcdaaGreatDoor
