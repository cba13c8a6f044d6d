/- What the theorem needs of the texts Below12: no condition of its own. -/
import Derived.Laws.IdiomStrings
import Derived.WalkArith
import Derived.OrdersIn
import Derived.Test.YtechahocffcbpaaGreatDoorPwa
import Derived.Test.YtechahocffcbpaaGreatDoorPwb
import Derived.Test.YtechahocffcbpaaGreatDoorPwc
import Derived.Test.YtechahocffcbpaaGreatDoorPwd
import Derived.Test.YtechahocffcbpaaGreatDoorPwe
import Derived.Test.YtechahocffcbpaaGreatDoorPwf
import Derived.Test.YtechahocffcbpaaGreatDoorPwg
import Derived.Test.YtechahocffcbpaaGreatDoorPwh
import Derived.Test.YtechahocffcbpaaGreatDoorPwi
import Derived.Test.YtechahocffcbpaaGreatDoorPwj
import Derived.Test.YtechahocffcbpaaGreatDoorPwk
import Derived.Test.YtechahocffcbpaaGreatDoorPwl
import Derived.Test.YtechahocffcbpaaGreatDoorPwm
set_option maxRecDepth 100000
set_option maxHeartbeats 2000000
namespace Go.Proofs.YtechahocffcbpaaGreatDoor
open Go.RowKit Go.Maps Go.Shelf
set_option linter.unusedVariables false
set_option linter.unusedSimpArgs false
theorem below_end {w3 wr w9 w10:World} {HR HV:Nat→Prop} {base O R M:Nat} {s:Sl} {d:OD} {es:List Ent} {ms:List Nat} {hs:List (List Ent)} (h:J12 HR HV wr base O R M s d es ms hs) (hN:Nw w3 wr) (hnew:∀ b,HR b∨HV b→w3.heap.size≤b∧¬False) (hx:Nw wr w9) (ho:OvTo HR w9 O d ⟨d.T,d.mb,d.s,d.us.take 0,d.Hs.take (0+1),backA d.us d.C 0⟩ w10) (hl:(entsT d.T).length≤1000000) :
  Nw w3 w10∧∀ W,Nw w10 W→Calls Tryz.prog 12 #[.pointer (some ⟨O,0,none⟩)] W fun e w'=>e=.returned (treeV d.T)∧Nw W w':=by
 have hC:backA d.us d.C 0=[]:=by
  have h1:=h.ov.hist.back h.ov.last d.us.length 0 (by omega)
  rw [h.ov.h0] at h1
  injection h1 with h1
  exact h1.symm
 rw [hC] at ho
 refine ⟨(hN.trans hx).comp ho.sb fun i hi e=>by have:=(hnew i (.inr (h.sub i e))).1;omega,fun W hW=>?_⟩
 refine (commit_ov (ho.at_.nw hW) (by simpa using hl)).mono fun e w' hp=>?_
 obtain ⟨T',rfl,-,-,-,hn,hid⟩:=hp
 have:=hid fun k s hk=>by cases hk
 exact ⟨by rw [this],hn⟩
theorem below12 {s:Sl} {xs:List LE} {sa:Sl} {acs:List LB12} {w:World} (hE:ES w (Lt w.heap.size) s xs) (hA:AS12 w (Lt w.heap.size) sa acs) (hL:LibQ w) :
  Calls Tryz.prog 7 #[.slice s.a xs.length s.c,.slice sa.a acs.length sa.c] w fun e w'=>e=.returned (.bool true)∧Nw w w':=by
 have hkn:=fun W (hW:Nw w W)=>known12 (hL.lib.nw hW)
 have HKN:=Lib.hid hkn
 have HE:=Lib.hid hE
 have HA:=Lib.hid hA
 have HL:=Lib.hid hL
 clear hkn hE hA hL
 by_cases hx60:100<xs.length
 ·have g1:decide ((100:Int)<(xs.length:Int))=true:=decide_eq_true (by omega)
  go_enter Tryz.func7,Tryz.ntmps7
  go_wp2_with fail
  refine (HKN.out _ (Sb.refl _ w)).mono ?_
  rintro e w1 ⟨rfl,hn⟩
  have HN:=Lib.hid hn
  clear hn
  go_wp2_with fail
  go_ret
  exact ⟨rfl,HN.out⟩
 have g1:decide ((100:Int)<(xs.length:Int))=false:=decide_eq_false (by omega)
 by_cases ha60:60<acs.length
 ·have g2:decide ((60:Int)<(acs.length:Int))=true:=decide_eq_true (by omega)
  go_enter Tryz.func7,Tryz.ntmps7
  go_wp2_with fail
  refine (HKN.out _ (Sb.refl _ w)).mono ?_
  rintro e w1 ⟨rfl,hn⟩
  have HN:=Lib.hid hn
  clear hn
  go_wp2_with fail
  go_ret
  exact ⟨rfl,HN.out⟩
 have g2:decide ((60:Int)<(acs.length:Int))=false:=decide_eq_false (by omega)
 go_enter Tryz.func7,Tryz.ntmps7
 go_wp2_with fail
 refine (build_any HE.out (by omega)).mono ?_
 rintro e w1 ⟨T,rfl,hbr,hT,hx1⟩
 obtain ⟨okT,heT⟩:=hbr.both
 have hTl:(entsT T).length≤100:=by
  rw [heT];have:=putAll_len (xs.map LE.ent) [];simp only [List.length_nil,List.length_map] at this;omega
 obtain ⟨p,hp⟩:=rootV_ptr T
 rw [treeV,hp]
 have hx2:Ext w1 (w1.alloc (.cells #[.pointer p] 25)):=(Ext.refl w1).alloc _ _
 have hbt:=Blk.new w1 25 #[.pointer p]
 have hFT:∀ b,In w.heap.size w1.heap.size b→b<w1.heap.size:=fun b hb=>hb.2
 have HX1:=Lib.hid hx1
 have HX2:=Lib.hid hx2
 have HBT:=Lib.hid hbt
 have HT:=Lib.hid hT
 have HP:=Lib.hid hp
 have HSO:=Lib.hid okT.sorted
 clear hx1 hx2 hbt hbr hT hp heT hFT
 have hsz2:(w1.alloc (.cells #[.pointer p] 25)).heap.size=w1.heap.size+1:=World.size_alloc _ _
 have HSZ2:=Lib.hid hsz2
 clear hsz2
 go_wp2_with fail
 generalize w1.alloc (.cells #[.pointer p] 25)=w2 at *
 have hTr:∀ W,Nw w1 W→IsT W (In w.heap.size w1.heap.size) T:=fun W hW=>HT.out.agree (Nw.agree hW fun b hb=>hb.2)
 have hen:∀ W,Nw w1 W→Calls Tryz.prog 30 #[.agg #[.pointer p]] W (EntriesPost (entsT T) W):=fun W hW=>by
  have h9:=treeEntries_any (fun b hb=>Nat.lt_of_lt_of_le hb.2 hW.size) (hTr W hW) okT (by omega)
  rw [treeV,HP.out] at h9
  exact h9
 have HEN:=Lib.hid hen
 have HTR:=Lib.hid hTr
 clear hen hTr
 refine (HEN.out _ (Nw.of HX2.out)).mono ?_
 rintro e w3 ⟨se,xe,rfl,hxe,hoe,hx3⟩
 have hes:ES w3 (In w2.heap.size w3.heap.size) se xe:=hoe.es
 have hbg:=begin_ov (w:=w3) (H:=fun _=>False) (HTR.out w3 (Nw.of (HX2.out.trans hx3))) okT (fun b hb=>⟨by have:=hb.2;have:=HSZ2.out;have:=hx3.size;omega,id⟩) (fun b h=>h.elim)
 rw [treeV,HP.out] at hbg
 have HBG:=Lib.hid hbg
 have HXE:=Lib.hid hxe
 have HES:=Lib.hid hes
 have HX3:=Lib.hid hx3
 have q5:w3.cell? ⟨w1.heap.size,0,none⟩=some (.pointer p):=(HBT.out.ext hx3).cell 0
 clear hxe hoe hes hbg hx3
 go_wp2_with fail
 refine HBG.out.mono ?_
 rintro e w4 ⟨O,rfl,hO,ho,hx4⟩
 have hOl:O<w4.heap.size:=ho.blk.lt
 have hx5:=(Ext.refl w4).alloc #[.slice se.a xe.length se.c] 50
 have hb5:=Blk.new w4 50 #[.slice se.a xe.length se.c]
 have hz5:(w4.alloc (.cells #[.slice se.a xe.length se.c] 50)).heap.size=w4.heap.size+1:=World.size_alloc _ _
 have hz4:=hx4.size
 have hm0:MapAt (fun b=>b=w4.heap.size∨b=O) (w4.alloc (.cells #[.slice se.a xe.length se.c] 50)) w4.heap.size (entsT T):=
  ⟨.inl rfl,se,xe,hb5,(HES.out.agree ((hx4.trans hx5).agree fun b hb=>hb.2)).mono fun b hb=>⟨by have:=hb.2;omega,fun hh=>by have:=hb.2;rcases hh with rfl | rfl <;> omega⟩,HXE.out⟩
 have hbe:=begin12_any hm0 (fun b hb=>by rcases hb with rfl | rfl <;> omega) (by omega)
 have HBE:=Lib.hid hbe
 have HOV:=Lib.hid ho
 have HX4:=Lib.hid hx4
 have HX5:=Lib.hid hx5
 have HZ5:=Lib.hid hz5
 have HO:=Lib.hid hO
 clear hbe ho hx4 hx5 hb5 hm0 hz5 hO HBG
 go_wp2_with fail
 refine HBE.out.mono ?_
 rintro e w6 ⟨R,M,rfl,hR,hM,hx6,hr⟩
 rw [HZ5.out] at hR hM
 have hO:=HO.out
 have hst:J12 _ _ w6 _ O R M Sl.none (od0 T) (entsT T) [] []:=J12.start (G:=fun _=>False) (V:=fun _=>False) HOV.out (Nw.of (HX5.out.trans hx6)) hr (.inr rfl) (fun b hb=>hb.elim) (fun b hb=>by
  rcases hb with ((rfl | rfl) | rfl) | rfl
  ·exact .inr (.inr (.inr (Nat.le_refl _)))
  ·exact .inl rfl
  ·exact .inr (.inr (.inr (by omega)))
  exact .inr (.inr (.inr (by omega)))) (fun h=>h) (fun h=>h) (RelO.start HSO.out fun k=>simO_refl _)
 have hst6:St12 (fun _=>False) w3 w6 (100+0) T O R:=⟨_,_,_,M,Sl.none,_,entsT T,[],[],hst,rfl,Nw.of ((HX4.out.trans HX5.out).trans hx6),fun b hb=>by
  rcases hb with ⟨((rfl | rfl) | rfl) | rfl,-⟩ | rfl | hb
  all_goals first | exact ⟨by omega,id⟩ | exact hb.elim,by simpa using hTl⟩
 have HST:=Lib.hid hst6
 have q55:Blk w3 w1.heap.size 25 #[.pointer p]:=HBT.out.ext HX3.out
 have HB3:=Lib.hid q55
 have HN3:=Lib.hid (show Nw w w3 from Nw.of ((HX1.out.trans HX2.out).trans HX3.out))
 clear hst hst6 hr hx6 hR hM hO q55 HBE HOV HX4 HX5 HZ5 HO HBT q5 hz4 hOl
 go_wp2_with fail
 go_loopw [7,8,9] (fun v7 v8 v9 wr=>∃ i:Nat,v7=.pointer (some ⟨O,0,none⟩)∧v8=.pointer (some ⟨R,0,none⟩)∧v9=.int .i64 (i:Int)∧i≤acs.length∧Hid (St12 (fun _=>False) w3 wr (100+i) T O R)) (fun _ _ v _=>acs.length - (intOf v).toNat)
 case atStart=>exact ⟨0,rfl,rfl,rfl,Nat.zero_le _,HST⟩
 obtain ⟨i,rfl,rfl,rfl,hi,HS⟩:=hrel
 have hnr:=HN3.out.trans HS.out.old
 by_cases hlt:i<acs.length
 ·have l1:(i:Int)<(acs.length:Int):=by omega
  have l1':decide ((i:Int)<(acs.length:Int))=true:=decide_eq_true l1
  have l0:(0:Int)≤(i:Int):=by omega
  obtain ⟨x,hxi⟩:∃ x,acs[i]? = some x:=⟨_,List.getElem?_eq_getElem hlt⟩
  obtain ⟨b,o,hsa,lb,hcc,hcm,hcell,hrv,hkm,hcv,-,-⟩:=HA.out.at hxi
  have hlb:b<wr.heap.size:=Nat.lt_of_lt_of_le lb hnr.size
  obtain ⟨saa,sac⟩:=sa
  dsimp only at hsa hcc hcm
  subst hsa
  have hc:=hcell.agree (Nw.agree hnr fun _ h=>h) lb
  have a0:=hc.c0
  have hrv3:RV w3 (Lt w3.heap.size) x.v x.sl x.so:=(hrv.agree (Nw.agree HN3.out fun _ h=>h)).mono fun b hb=>Nat.lt_of_lt_of_le hb HN3.out.size
  have HC:=Lib.hid hc
  have HRV:=Lib.hid hrv3
  have HKM:=Lib.hid hkm
  have HCV:=Lib.hid hcv
  clear hcell hrv hkm hcv hxi hc hrv3 hnr
  by_cases h4:x.kd=4
  ·have e4:(x.kd != 4)=false:=by simp [h4]
   clear h4
   go_wp2_with fail
   go_roundw
   case rel=>exact ⟨i+1,by simp,by simp,by go_num,hlt,Lib.hid (HS.out.more (by omega))⟩
   simp [intOf];omega
  have e4:(x.kd != 4)=true:=by simp [h4]
  have a1:=HC.out.c1
  have a2:=HC.out.cv.c0
  have a3:=HC.out.cv.c1
  have a4:=HC.out.cv.c2
  have a5:=HC.out.cv.c3
  have a6:=HC.out.cv.c4
  have a7:=HC.out.cv.c5
  have a8:=HC.out.c8
  have HDO:=Lib.hid (do12_low (nn:=x.n) HS.out (fun b hb=>hb.elim) (by omega) h4 HKM.out HRV.out HCV.out (HL.out.nw HN3.out))
  clear h4
  go_wp2_with fail
  refine HDO.out.mono ?_
  rintro e w7 ⟨rfl,hs7,-⟩
  have HS7:=Lib.hid hs7
  clear hs7
  go_wp2_with fail
  go_roundw
  case rel=>exact ⟨i+1,by simp,by simp,by go_num,hlt,Lib.hid (HS7.out.more (by omega))⟩
  simp [intOf];omega
 obtain rfl:i=acs.length:=by omega
 have l1:decide ((acs.length:Int)<(acs.length:Int))=false:=decide_eq_false (by omega)
 obtain ⟨HR,HV,base,M',sm,d,es,ms,hs,hJ,hd,hN,hnew,hle⟩:=HS.out
 have hfw:=hJ.few
 have hC:=hJ.ov.few
 have hlen:=hJ.len
 have hcom:=commit_ov hJ.ov (by rw [hd];omega)
 have HCOM:=Lib.hid hcom
 have HJ:=Lib.hid hJ
 have HN:=Lib.hid hN
 have HNEW:=Lib.hid hnew
 have hes:es.length≤1000000:=by rw [hd] at hfw;omega
 have hdl:(entsT d.T).length≤1000000:=by rw [hd];omega
 have hul:d.us.length≤1000000:=by omega
 have HD:=Lib.hid hd
 clear hcom hJ hN hnew hfw hC hlen hle hd HS
 go_wp2_with fail
 refine HCOM.out.mono ?_
 rintro e w7 ⟨T',rfl,-,-,-,hn7,hid⟩
 obtain ⟨p',hp'⟩:=rootV_ptr T'
 rw [treeV,hp']
 have hx8:Ext w7 (w7.alloc (.cells #[.pointer p'] 25)):=(Ext.refl w7).alloc _ _
 have hb8:=Blk.new w7 25 #[.pointer p']
 have hn8:=hn7.trans (Nw.of hx8)
 have hj8:=HJ.out.nw hn8
 have hn38:=HN.out.trans hn8
 have k5:=Nw.blk hn38 HB3.out
 have hj7:=HJ.out.nw hn7
 obtain ⟨-,sM,xM,hbM,hsM,hxM⟩:=hj7.rf.cur
 have hbR:=hj7.rf.blk
 have k57:=Nw.blk (HN.out.trans hn7) HB3.out
 have q5:w7.cell? ⟨w1.heap.size,0,none⟩=some (.pointer p):=k57.cell 0
 have l5:=k57.lt
 have qR:w7.cell? ⟨R,0,none⟩=some (.pointer (some ⟨M',0,none⟩)):=hbR.cell 0
 have lR:=hbR.lt
 have qM:w7.cell? ⟨M',0,none⟩=some (.slice sM.a xM.length sM.c):=hbM.cell 0
 have lM:=hbM.lt
 have hsM8:=(hsM.agree (hx8.agree fun b hb=>hb.1)).mono (G:=Lt (w7.alloc (.cells #[.pointer p'] 25)).heap.size) fun b hb=>Nat.lt_of_lt_of_le hb.1 hx8.size
 have hes8:ES (w7.alloc (.cells #[.pointer p'] 25)) (Lt (w7.alloc (.cells #[.pointer p'] 25)).heap.size) se xe:=(HES.out.agree (Nw.agree hn38 fun b hb=>hb.2)).mono fun b hb=>Nat.lt_of_lt_of_le hb.2 hn38.size
 have hse:=sameEnt_any hsM8 hes8
 rw [hxM,HXE.out] at hse
 have HSE:=Lib.hid hse
 have HN8:=Lib.hid hn8
 have HN38:=Lib.hid hn38
 have HB8:=Lib.hid hb8
 have HK5:=Lib.hid k5
 have HID:=Lib.hid hid
 have HP':=Lib.hid hp'
 clear hn7 hx8 hb8 hn8 hj8 hn38 k5 hj7 k57 hsM8 hsM hxM hbM hbR hes8 hse hid hp' HCOM
 cases hb:sameE es (entsT T) with
 | true=>
   rw [hb] at HSE
   have hTT:T'=d.T:=HID.out (by rw [HD.out];have:=HJ.out.last;rw [HD.out] at this;exact RelO.idle this hb)
   have hpp:p=p':=by
    have h1:=HP'.out
    rw [hTT,HD.out,HP.out] at h1
    exact Value.pointer.inj h1
   subst hpp
   clear hTT hb
   go_wp2_with fail
   refine HSE.out.mono ?_
   rintro e w9' ⟨rfl,hx9'⟩
   have k10:w9'.cell? ⟨w7.heap.size,0,none⟩=some (.pointer p):=(HB8.out.ext hx9').cell 0
   have k5:w9'.cell? ⟨w1.heap.size,0,none⟩=some (.pointer p):=(HK5.out.ext hx9').cell 0
   have HX9':=Lib.hid hx9'
   clear q5 qR qM l5 lR lM hx9'
   go_wp2_with fail
   refine (is_same w9' p).mono ?_
   rintro e w9 ⟨rfl,hx9⟩
   have HX9:=Lib.hid (HX9'.out.trans hx9)
   clear k10 k5 hx9
   have hn9:=HN8.out.trans (Nw.of HX9.out)
   have hbk:=back_ov (m:=0) (HJ.out.nw hn9).ov hul (Nat.zero_le _)
   have HBK:=Lib.hid hbk
   have HN9:=Lib.hid hn9
   clear hbk hn9
   go_wp2_with fail
   refine HBK.out.mono ?_
   rintro e w10 ⟨rfl,ho10⟩
   obtain ⟨hn310,hcm10⟩:=below_end HJ.out HN.out HNEW.out HN9.out ho10 hdl
   rw [HD.out,treeV,HP.out] at hcm10
   have HNW10:=Lib.hid (HN3.out.trans hn310)
   have hn110:Nw w1 w10:=(Nw.of (HX2.out.trans HX3.out)).trans hn310
   have hse2:∀ (W:World) (s13:Sl) (x13:List LE),Nw w10 W→ES W (Lt W.heap.size) s13 x13→x13.map LE.ent=entsT T→Calls Tryz.prog 27 #[.slice s13.a x13.length s13.c,.slice se.a xe.length se.c] W fun e w'=>e=.returned (.bool true)∧Ext W w':=fun W s13 x13 hW he hx=>by
    have hk:=hn310.trans hW
    have h9:=sameEnt_any he ((HES.out.agree (Nw.agree hk fun b hb=>hb.2)).mono fun b hb=>Nat.lt_of_lt_of_le hb.2 hk.size)
    rw [hx,HXE.out,sameE_refl] at h9
    exact h9
   have hb10:=Nw.blk hn310 HB3.out
   have HSS:=Lib.hid (show ∀ W,Nw w10 W→W.cell? ⟨w1.heap.size,0,none⟩=some (.pointer p) from fun W hW=>(Nw.blk hW hb10).cell 0)
   have HCM10:=Lib.hid hcm10
   have HN110:=Lib.hid hn110
   have HSE2:=Lib.hid hse2
   clear hcm10 hn110 hse2 hn310 ho10 hb10 HBK
   go_wp2_with fail
   refine wp_region_held_drew (S:=(fun W=>Nw w10 W)) (by kernel_rfl) ((Nw.of (Ext.refl w10).drew)) (fun hHeld=>?_)
   refine heldT 0 (some 74) HSS hHeld ?_
   refine heldT 2 (some 76) HSS hHeld ?_
   refine held_call (i:=1) (by kernel_rfl) rfl (by rfl) (fun K hK=>?_)
   go_simp
   (refine (HCM10.out _ hHeld).mono ?_;rintro e w11 ⟨rfl,hn11⟩)
   refine hK.out _ _ (hHeld.trans hn11) (fun hHeld=>?_)
   clear hK K
   try simp only [Act.put,List.setIfInBounds_toArray,List.set_cons_zero,List.set_cons_succ]
   refine held_call (i:=3) (by kernel_rfl) rfl (by rfl) (fun K hK=>?_)
   go_simp
   (refine (is_same _ p).mono ?_;rintro e w12 ⟨rfl,hx12⟩)
   refine hK.out _ _ (hHeld.trans (Nw.of hx12)) (fun hHeld=>?_)
   clear hK K
   try simp only [Act.put,List.setIfInBounds_toArray,List.set_cons_zero,List.set_cons_succ]
   refine heldT 4 (some 78) HSS hHeld ?_
   refine heldT 5 (some 79) HSS hHeld ?_
   refine heldT 7 (some 81) HSS hHeld ?_
   refine held_call (i:=6) (by kernel_rfl) rfl (by rfl) (fun K hK=>?_)
   go_simp
   (refine (HEN.out _ (HN110.out.trans hHeld)).mono ?_;rintro e w13 ⟨s13,x13,rfl,hxe13,hoe13,hx13⟩;have HOE:=Lib.hid (hoe13.es.mono (G:=Lt w13.heap.size) fun b hb=>hb.2);have HXE13:=Lib.hid hxe13;clear hoe13 hxe13)
   refine hK.out _ _ (hHeld.trans (Nw.of hx13)) (fun hHeld=>?_)
   clear hK K
   try simp only [Act.put,List.setIfInBounds_toArray,List.set_cons_zero,List.set_cons_succ]
   refine held_call (i:=8) (by kernel_rfl) rfl (by rfl) (fun K hK=>?_)
   go_simp
   (refine (HSE2.out _ s13 x13 hHeld HOE.out HXE13.out).mono ?_;rintro e w14 ⟨rfl,hx14⟩)
   refine hK.out _ _ (hHeld.trans (Nw.of hx14)) (fun hHeld=>?_)
   clear hK K
   try simp only [Act.put,List.setIfInBounds_toArray,List.set_cons_zero,List.set_cons_succ]
   refine heldT 9 (some 83) HSS hHeld ?_
   refine heldT 10 (some 84) HSS hHeld ?_
   refine held_call (i:=11) (by kernel_rfl) rfl (by rfl) (fun K hK=>?_)
   go_simp
   (refine (HKN.out _ (HNW10.out.trans hHeld)).mono ?_;rintro e w15 ⟨rfl,hn15⟩)
   refine hK.out _ _ (hHeld.trans hn15) (fun hHeld=>?_)
   clear hK K
   try simp only [Act.put,List.setIfInBounds_toArray,List.set_cons_zero,List.set_cons_succ]
   refine heldT 12 (some 86) HSS hHeld ?_
   refine heldT 13 (some 4) HSS hHeld ?_
   refine wpAnyH_done (by kernel_rfl) ?_ _
   go_wp2_with fail
   go_ret
   exact ⟨rfl,HNW10.out.trans hHeld⟩
 | false=>
   rw [hb] at HSE
   go_wp2_with fail
   refine HSE.out.mono ?_
   rintro e w9 ⟨rfl,hx9⟩
   have HX9:=Lib.hid hx9
   clear q5 qR qM l5 lR lM hx9 hb
   have hn9:=HN8.out.trans (Nw.of HX9.out)
   have hbk:=back_ov (m:=0) (HJ.out.nw hn9).ov hul (Nat.zero_le _)
   have HBK:=Lib.hid hbk
   have HN9:=Lib.hid hn9
   clear hbk hn9
   go_wp2_with fail
   refine HBK.out.mono ?_
   rintro e w10 ⟨rfl,ho10⟩
   obtain ⟨hn310,hcm10⟩:=below_end HJ.out HN.out HNEW.out HN9.out ho10 hdl
   rw [HD.out,treeV,HP.out] at hcm10
   have HNW10:=Lib.hid (HN3.out.trans hn310)
   have hn110:Nw w1 w10:=(Nw.of (HX2.out.trans HX3.out)).trans hn310
   have hse2:∀ (W:World) (s13:Sl) (x13:List LE),Nw w10 W→ES W (Lt W.heap.size) s13 x13→x13.map LE.ent=entsT T→Calls Tryz.prog 27 #[.slice s13.a x13.length s13.c,.slice se.a xe.length se.c] W fun e w'=>e=.returned (.bool true)∧Ext W w':=fun W s13 x13 hW he hx=>by
    have hk:=hn310.trans hW
    have h9:=sameEnt_any he ((HES.out.agree (Nw.agree hk fun b hb=>hb.2)).mono fun b hb=>Nat.lt_of_lt_of_le hb.2 hk.size)
    rw [hx,HXE.out,sameE_refl] at h9
    exact h9
   have hb10:=Nw.blk hn310 HB3.out
   have HSS:=Lib.hid (show ∀ W,Nw w10 W→W.cell? ⟨w1.heap.size,0,none⟩=some (.pointer p) from fun W hW=>(Nw.blk hW hb10).cell 0)
   have HCM10:=Lib.hid hcm10
   have HN110:=Lib.hid hn110
   have HSE2:=Lib.hid hse2
   clear hcm10 hn110 hse2 hn310 ho10 hb10 HBK
   go_wp2_with fail
   refine wp_region_held_drew (S:=(fun W=>Nw w10 W)) (by kernel_rfl) ((Nw.of (Ext.refl w10).drew)) (fun hHeld=>?_)
   refine heldT 0 (some 74) HSS hHeld ?_
   refine heldT 2 (some 76) HSS hHeld ?_
   refine held_call (i:=1) (by kernel_rfl) rfl (by rfl) (fun K hK=>?_)
   go_simp
   (refine (HCM10.out _ hHeld).mono ?_;rintro e w11 ⟨rfl,hn11⟩)
   refine hK.out _ _ (hHeld.trans hn11) (fun hHeld=>?_)
   clear hK K
   try simp only [Act.put,List.setIfInBounds_toArray,List.set_cons_zero,List.set_cons_succ]
   refine held_call (i:=3) (by kernel_rfl) rfl (by rfl) (fun K hK=>?_)
   go_simp
   (refine (is_same _ p).mono ?_;rintro e w12 ⟨rfl,hx12⟩)
   refine hK.out _ _ (hHeld.trans (Nw.of hx12)) (fun hHeld=>?_)
   clear hK K
   try simp only [Act.put,List.setIfInBounds_toArray,List.set_cons_zero,List.set_cons_succ]
   refine heldT 4 (some 78) HSS hHeld ?_
   refine heldT 5 (some 79) HSS hHeld ?_
   refine heldT 7 (some 81) HSS hHeld ?_
   refine held_call (i:=6) (by kernel_rfl) rfl (by rfl) (fun K hK=>?_)
   go_simp
   (refine (HEN.out _ (HN110.out.trans hHeld)).mono ?_;rintro e w13 ⟨s13,x13,rfl,hxe13,hoe13,hx13⟩;have HOE:=Lib.hid (hoe13.es.mono (G:=Lt w13.heap.size) fun b hb=>hb.2);have HXE13:=Lib.hid hxe13;clear hoe13 hxe13)
   refine hK.out _ _ (hHeld.trans (Nw.of hx13)) (fun hHeld=>?_)
   clear hK K
   try simp only [Act.put,List.setIfInBounds_toArray,List.set_cons_zero,List.set_cons_succ]
   refine held_call (i:=8) (by kernel_rfl) rfl (by rfl) (fun K hK=>?_)
   go_simp
   (refine (HSE2.out _ s13 x13 hHeld HOE.out HXE13.out).mono ?_;rintro e w14 ⟨rfl,hx14⟩)
   refine hK.out _ _ (hHeld.trans (Nw.of hx14)) (fun hHeld=>?_)
   clear hK K
   try simp only [Act.put,List.setIfInBounds_toArray,List.set_cons_zero,List.set_cons_succ]
   refine heldT 9 (some 83) HSS hHeld ?_
   refine heldT 10 (some 84) HSS hHeld ?_
   refine held_call (i:=11) (by kernel_rfl) rfl (by rfl) (fun K hK=>?_)
   go_simp
   (refine (HKN.out _ (HNW10.out.trans hHeld)).mono ?_;rintro e w15 ⟨rfl,hn15⟩)
   refine hK.out _ _ (hHeld.trans hn15) (fun hHeld=>?_)
   clear hK K
   try simp only [Act.put,List.setIfInBounds_toArray,List.set_cons_zero,List.set_cons_succ]
   refine heldT 12 (some 86) HSS hHeld ?_
   refine heldT 13 (some 4) HSS hHeld ?_
   refine wpAnyH_done (by kernel_rfl) ?_ _
   go_wp2_with fail
   go_ret
   exact ⟨rfl,HNW10.out.trans hHeld⟩
end Go.Proofs.YtechahocffcbpaaGreatDoor
