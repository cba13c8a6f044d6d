/- What the theorem needs of the texts Plays12: no condition of its own. -/
import Derived.Laws.IdiomStrings
import Derived.WalkArith
import Derived.OrdersIn
import Derived.Test.YtechahocffcbpaaGreatDoorPwa
import Derived.Test.YtechahocffcbpaaGreatDoorPwb
import Derived.Test.YtechahocffcbpaaGreatDoorPwc
import Derived.Test.YtechahocffcbpaaGreatDoorPwd
import Derived.Test.YtechahocffcbpaaGreatDoorPwe
import Derived.Test.YtechahocffcbpaaGreatDoorPwf
import Derived.Test.YtechahocffcbpaaGreatDoorPwg
import Derived.Test.YtechahocffcbpaaGreatDoorPwh
import Derived.Test.YtechahocffcbpaaGreatDoorPwi
import Derived.Test.YtechahocffcbpaaGreatDoorPwj
import Derived.Test.YtechahocffcbpaaGreatDoorPwk
import Derived.Test.YtechahocffcbpaaGreatDoorPwl
import Derived.Test.YtechahocffcbpaaGreatDoorPwm
import Derived.Test.YtechahocffcbpaaGreatDoorPwo
set_option maxRecDepth 100000
set_option maxHeartbeats 4000000
namespace Go.Proofs.YtechahocffcbpaaGreatDoor
open Go.RowKit Go.Maps Go.Shelf
set_option linter.unusedVariables false
set_option linter.unusedSimpArgs false
theorem blk_twoP (w:World) (t0 t1:TypeId) (c0 c1:Array Value):Blk ((w.alloc (.cells c0 t0)).alloc (.cells c1 t1)) (w.heap.size+1) t1 c1:=by
 have:=Blk.new (w.alloc (.cells c0 t0)) t1 c1
 rwa [World.size_alloc] at this
structure Ask12 (w:World) (O R M:Nat) (s:Sl) (n:Nat) (k p:ByteArray) (es:List Ent) (v u:Val) (bb:Bool):Prop where
 get:Calls Tryz.prog 11 #[.pointer (some ⟨O,0,none⟩),.string k] w fun e w'=>∃ sl so,e=.returned (.tuple #[aggV v sl so,.bool bb])∧Ext w w'∧RV w' (Lt w'.heap.size) v sl so
 get7:∀ W,Ext w W→Calls Tryz.prog 26 #[.pointer (some ⟨M,0,none⟩),.string k] W fun e w'=>∃ sl so,e=.returned (.tuple #[aggV u sl so,.bool bb])∧Ext W w'∧RV w' (Lt w.heap.size) u sl so
 cmp:bb=true→cmpV v u=0
 c0:w.cell? ⟨R,0,none⟩=some (.pointer (some ⟨M,0,none⟩))
 c1:w.cell? ⟨R,1,none⟩=some (.slice s.a n s.c)
 lt:R<w.heap.size
 mark:∀ W,Nw w W→Calls Tryz.prog 18 #[.pointer (some ⟨O,0,none⟩)] W fun e w'=>e=.returned (.int .i64 (n:Int))∧Ext W w'
 pre:∀ W,Nw w W→Calls Tryz.prog 22 #[.pointer (some ⟨O,0,none⟩),.string p] W fun e w'=>∃ s:Sl,e=.returned (.slice s.a (keysE (beginsO p) es).length s.c)∧Nw W w'∧Rd w' (Lt w'.heap.size) 1 s (keysE (beginsO p) es).length ((keysE (beginsO p) es).map .string)
 pre12:∀ W,Nw w W→Calls Tryz.prog 29 #[.pointer (some ⟨R,0,none⟩),.string p] W (Pre12 es p W)
 few:(keysE (beginsO p) es).length≤1000000000
theorem ask12 {Q:Nat→Prop} {w0 w:World} {n:Nat} {T:RT} {O R:Nat} (h:St12 Q w0 w n T O R) (hn:n≤100000) {k p:ByteArray} (hk:k.size≤maxLen) (hp:p.size≤maxLen):∃ (M:Nat) (s:Sl) (m:Nat) (es:List Ent) (v u:Val) (bb:Bool),Ask12 w O R M s m k p es v u bb:=by
 obtain ⟨HR,HV,base,M,s,d,es,ms,hs,hJ,rfl,hN,hnew,hle⟩:=h
 have hfw:=hJ.few
 have hlen:=hJ.len
 have hnow:=hJ.last.now k
 have hso:Sorted es:=hJ.last.sorted
 have hsm:=simO_isB hnow
 refine ⟨M,s,hs.length,es,(d.now k).getD zeroV,(getE es k).getD zeroV,(d.now k).isSome,?_,fun W hW=>?_,fun hb=>?_,hJ.rf.blk.cell 0,hJ.rf.blk.cell 1,hJ.rf.blk.lt,fun W hW=>?_,fun W hW=>?_,fun W hW=>?_,?_⟩
 ·exact (get_ov hJ.ov (by omega) hk).mono fun e w' ⟨sl,so,h1,h2,h3⟩=>⟨sl,so,h1,h2,h3.mono fun i hi=>hi.2⟩
 ·have hm:=(hJ.rf.cur.more (G:=fun b=>(HR b∨HV b)∨w.heap.size≤b) (fun b hb=>.inl hb) fun b hb hg=>hg.elim id fun e=>by omega).ext hW
  refine (get7F hm hso k).mono fun e w' ⟨sl,so,h1,h2,h3⟩=>⟨sl,so,by rw [h1];show _=Ending.returned (.tuple #[_,.bool (nowE (entsT d.T) (optA d.C) k).isSome]);rw [hsm],h2,h3.mono fun i hi=>?_⟩
  have h4:¬((HR i∨HV i)∨w.heap.size≤i):=hi.2
  show i<w.heap.size
  exact Nat.lt_of_not_le fun hh=>h4 (.inr hh)
 ·have h1:simO (d.now k) (getE es k)=true:=hnow
  cases ha:d.now k with
  | none=>rw [ha] at hb;cases hb
  | some a=>
    cases hg:getE es k with
    | none=>rw [ha,hg] at h1;cases h1
    | some g=>
      rw [ha,hg] at h1
      simpa [simO] using h1
 ·have:=mark_ov (hJ.ov.nw hW)
  rw [hlen] at this
  exact this
 ·refine (prefix_ov (hJ.ov.nw hW) (by omega) (by omega) hp).mono fun e w' ⟨s1,ks,h1,h2,h3,h4,h5⟩=>?_
  obtain rfl:ks=keysE (beginsO p) es:=keys_both hJ.last h4 h5
  exact ⟨s1,h1,h2,h3.mono fun i hi=>hi.2⟩
 ·exact prefix12_any (hJ.nw hW).rf (by omega) p hp
 have:=keysE_len (beginsO p) es;omega
theorem plays12 {s:Sl} {xs:List LE} {sa:Sl} {acs:List LB12} {pf:ByteArray} {w:World} (hE:ES w (Lt w.heap.size) s xs) (hA:AS12 w (Lt w.heap.size) sa acs) (hpf:pf.size≤maxLen) (hL:LibQ w) :
  Calls Tryz.prog 6 #[.slice s.a xs.length s.c,.slice sa.a acs.length sa.c,.string pf] w fun e w'=>e=.returned (.bool true)∧Nw w w':=by
 have hkn:=fun W (hW:Nw w W)=>known12 (hL.lib.nw hW)
 have HKN:=Lib.hid hkn
 have HE:=Lib.hid hE
 have HA:=Lib.hid hA
 have HL:=Lib.hid hL
 have HPF:=Lib.hid hpf
 clear hkn hE hA hL hpf
 by_cases hx60:100<xs.length
 ·have g1:decide ((100:Int)<(xs.length:Int))=true:=decide_eq_true (by omega)
  go_enter Tryz.func6,Tryz.ntmps6
  go_wp2_with fail
  refine (HKN.out _ (Sb.refl _ w)).mono ?_
  rintro e w1 ⟨rfl,hn⟩
  have HN:=Lib.hid hn
  clear hn
  go_wp2_with fail
  go_ret
  exact ⟨rfl,HN.out⟩
 have g1:decide ((100:Int)<(xs.length:Int))=false:=decide_eq_false (by omega)
 by_cases ha60:150<acs.length
 ·have g2:decide ((150:Int)<(acs.length:Int))=true:=decide_eq_true (by omega)
  go_enter Tryz.func6,Tryz.ntmps6
  go_wp2_with fail
  refine (HKN.out _ (Sb.refl _ w)).mono ?_
  rintro e w1 ⟨rfl,hn⟩
  have HN:=Lib.hid hn
  clear hn
  go_wp2_with fail
  go_ret
  exact ⟨rfl,HN.out⟩
 have g2:decide ((150:Int)<(acs.length:Int))=false:=decide_eq_false (by omega)
 have hx0:=(Ext.refl w).alloc #[.slice none 0 0] 50
 have hb0:=Blk.new w 50 #[.slice none 0 0]
 have hm0:MapAt (fun b=>b=w.heap.size) (w.alloc (.cells #[.slice none 0 0] 50)) w.heap.size (putAll [] ((xs.map LE.ent).take 0)):=⟨rfl,Sl.none,[],hb0,ES.nil _ _,rfl⟩
 have HX0:=Lib.hid (Nw.of hx0)
 have HM0:=Lib.hid hm0
 clear hx0 hb0 hm0
 go_enter Tryz.func6,Tryz.ntmps6
 go_wp2_with fail
 go_loopw [8] (fun v8 wr=>∃ j:Nat,j≤xs.length∧v8=.int .i64 (j:Int)∧Hid (MapAt (fun b=>b=w.heap.size) wr w.heap.size (putAll [] ((xs.map LE.ent).take j)))∧Hid (Nw w wr)) (fun v _=>xs.length - (intOf v).toNat)
 case atStart=>exact ⟨0,Nat.zero_le _,rfl,HM0,HX0⟩
 obtain ⟨j,hj,rfl,HM,HX⟩:=hrel
 by_cases hlt:j<xs.length
 ·have hjl:(j:Int)<(xs.length:Int):=by omega
  obtain ⟨x,hxj⟩:∃ x,xs[j]? = some x:=⟨_,List.getElem?_eq_getElem hlt⟩
  obtain ⟨b,o,ha,hbl,hlc,hcm,k0,hv,hrv,hks⟩:=HE.out.at hxj
  obtain ⟨v0,v1,v2,v3,v4,v5⟩:=hv.m
  obtain ⟨sa',sc⟩:=s
  dsimp only at ha hlc hcm
  subst ha
  have hbl:b<w.heap.size:=hbl
  have hXe:(xs.map LE.ent)[j]? = some x.ent:=by rw [List.getElem?_map,hxj];rfl
  have HXE:=Lib.hid hXe
  have hlen:(putAll [] ((xs.map LE.ent).take j)).length≤1000000:=by
   have:=putAll_len ((xs.map LE.ent).take j) []
   rw [List.length_take,List.length_map] at this
   simp only [List.length_nil] at this
   omega
  have hput:=fun (W:World) (hW:Ext wr W)=>put7_any (HM.out.ext hW) (fun b hb=>by have h1:=HX.out.size;have h2:=hW.size;have h3:=HM.out.blk0;obtain ⟨y,hy⟩:=h3;have:=hy.lt;omega) (putAll_sortedP _ List.Pairwise.nil) hlen hks ((hrv.agree (Nw.agree (HX.out.trans (Nw.of hW)) fun b hb=>hb)).mono fun b hb=>⟨by have:=hW.size;have:=HX.out.size;have hb:b<w.heap.size:=hb;omega,fun e=>by have hb:b<w.heap.size:=hb;omega⟩)
  have HPUT:=Lib.hid hput
  have HSS:=Lib.hid (show ∀ W,Sb (fun b=>b=w.heap.size) wr W→W.cell? ⟨b,o+j*7,none⟩=some (.string x.k)∧W.cell? ⟨b,o+j*7+1,none⟩=some (.int .i64 x.v.kind)∧W.cell? ⟨b,o+j*7+2,none⟩=some (.bool x.v.b)∧W.cell? ⟨b,o+j*7+3,none⟩=some (.int .i64 x.v.i)∧W.cell? ⟨b,o+j*7+4,none⟩=some (.string x.v.t)∧W.cell? ⟨b,o+j*7+5,none⟩=some (.slice x.sl.a x.v.l.length x.sl.c)∧W.cell? ⟨b,o+j*7+6,none⟩=some (.slice x.so.a x.v.ok.length x.so.c) from fun W hW=>by
   have e:∀ i u,w.cell? ⟨b,i,none⟩=some u→W.cell? ⟨b,i,none⟩=some u:=fun i u hu=>(hW.cell (Nat.lt_of_lt_of_le hbl HX.out.size) (by omega)).trans ((Sb.cell HX.out hbl id).trans hu)
   exact ⟨e _ _ k0,e _ _ v0,e _ _ v1,e _ _ v2,e _ _ v3,e _ _ v4,e _ _ v5⟩)
  clear hxj hv hrv hput k0 v0 v1 v2 v3 v4 v5 hXe
  go_wp2_with fail
  refine wp_region_held_drew (S:=(fun w'=>Sb (fun b=>b=w.heap.size) wr w')) (by kernel_rfl) (((Nw.of (Ext.refl wr).drew).any _)) (fun hHeld=>?_)
  refine heldT 0 (some 37) HSS hHeld ?_
  refine heldT 1 (some 38) HSS hHeld ?_
  refine heldT 2 (some 39) HSS hHeld ?_
  refine heldT 3 (some 40) HSS hHeld ?_
  refine heldT 4 (some 41) HSS hHeld ?_
  refine heldT 5 (some 42) HSS hHeld ?_
  refine heldT 6 (some 43) HSS hHeld ?_
  refine heldT 7 (some 44) HSS hHeld ?_
  refine heldT 8 (some 45) HSS hHeld ?_
  refine heldT 9 (some 46) HSS hHeld ?_
  refine heldT 10 (some 47) HSS hHeld ?_
  refine held_call (i:=11) (by kernel_rfl) rfl (by rfl) (fun K hK=>?_)
  go_simp
  (refine (HPUT.out _ ((Ext.refl wr).drew)).mono ?_;rintro e w2 ⟨⟨r,rfl⟩,hm2,hst2⟩)
  refine hK.out _ _ (((Nw.of (Ext.refl wr).drew).any _).trans hst2.sb) (fun hHeld=>?_)
  clear hK K
  try simp only [Act.put,List.setIfInBounds_toArray,List.set_cons_zero,List.set_cons_succ]
  refine wpAnyH_done (by kernel_rfl) ?_ _
  have HM2:=Lib.hid hm2
  have HN2:=Lib.hid (show Nw w w2 from HX.out.comp hHeld fun i hi e=>by omega)
  clear hm2 hst2 hHeld
  go_wp2_with fail
  go_roundw
  case rel=>exact ⟨j+1,hlt,by go_num,by rw [putAll_takeP HXE.out];exact HM2,HN2⟩
  simp [intOf];omega
 obtain rfl:j=xs.length:=by omega
 rw [List.take_of_length_le (by rw [List.length_map];exact Nat.le_refl _)] at HM
 have hEr:ES wr (Lt wr.heap.size) s xs:=(HE.out.agree (Nw.agree HX.out fun _ h=>h)).mono fun b hb=>Nat.lt_of_lt_of_le hb HX.out.size
 have hML:w.heap.size<wr.heap.size:=by obtain ⟨y,hy⟩:=HM.out.blk0;exact hy.lt
 have HER:=Lib.hid hEr
 clear hEr
 go_wp2_with fail
 refine (build_any HER.out (by omega)).mono ?_
 rintro e w1 ⟨T,rfl,hbr,hT,hx1⟩
 obtain ⟨okT,heT⟩:=hbr.both
 have hTl:(entsT T).length≤100:=by
  rw [heT];have:=putAll_len (xs.map LE.ent) [];simp only [List.length_nil,List.length_map] at this;omega
 have hz1:=hx1.size
 have hbg:=begin_ov (H:=fun b=>b=w.heap.size) hT okT (fun b hb=>⟨hb.2,fun e=>by have:=hb.1;omega⟩) (fun b hb=>by omega)
 have HM1:=Lib.hid (HM.out.ext hx1)
 obtain ⟨p,hp⟩:=rootV_ptr T
 rw [treeV,hp] at hbg
 rw [treeV,hp]
 have HBG:=Lib.hid hbg
 have HSO:=Lib.hid okT.sorted
 have HET:=Lib.hid heT
 have HN1:=Lib.hid (HX.out.trans (Nw.of hx1))
 clear hbr hT hp heT hbg hx1 okT
 go_wp2_with fail
 refine HBG.out.mono ?_
 rintro e w2 ⟨O,rfl,hO,ho,hx2⟩
 have hOl:O<w2.heap.size:=ho.blk.lt
 have hm2:MapAt (fun b=>b=w.heap.size∨b=O) w2 w.heap.size (entsT T):=by
  rw [HET.out]
  exact (HM1.out.more (G:=fun b=>b=w.heap.size∨b=O) (fun b hb=>.inl hb) fun b hb hg=>hg.elim id fun e=>by omega).ext hx2
 have hbe:=begin12_any hm2 (fun b hb=>by rcases hb with rfl | rfl <;> omega) (by omega)
 have HBE:=Lib.hid hbe
 have HOV:=Lib.hid ho
 have HX2:=Lib.hid hx2
 clear hbe ho hx2 hm2 HBG
 go_wp2_with fail
 refine HBE.out.mono ?_
 rintro e w3 ⟨R,M,rfl,hR,hM,hx3,hr⟩
 have hst:J12 _ _ w3 _ O R M Sl.none (od0 T) (entsT T) [] []:=J12.start (G:=fun b=>b=w.heap.size) (V:=fun _=>False) HOV.out (Nw.of hx3) hr (.inr rfl) (fun b hb=>hb.elim) (fun b hb=>by
  rcases hb with ((rfl | rfl) | rfl) | rfl
  ·exact .inr (.inr (.inl rfl))
  ·exact .inl rfl
  ·exact .inr (.inr (.inr hM))
  exact .inr (.inr (.inr hR))) (fun h=>h) (fun h=>h) (RelO.start HSO.out fun k=>simO_refl _)
 have hz2:=HX2.out.size
 have hst6:St12 (fun _=>False) w w3 (100+0) T O R:=⟨_,_,_,M,Sl.none,_,entsT T,[],[],hst,rfl,HN1.out.trans (Nw.of (HX2.out.trans hx3)),fun b hb=>by
  rcases hb with ⟨((rfl | rfl) | rfl) | rfl,-⟩ | rfl | hb
  all_goals first | exact ⟨by omega,id⟩ | exact hb.elim,by simpa using hTl⟩
 have HST:=Lib.hid hst6
 clear hst hst6 hr hx3 hR hM hO HBE HOV HX2 hz2 hOl HM1 HM HX HN1 HSO HET HER
 go_wp2_with fail
 go_loopw [9,10,11] (fun v9 v10 v11 wr=>∃ (i:Nat) (T:RT) (O R:Nat),v9=.pointer (some ⟨O,0,none⟩)∧v10=.pointer (some ⟨R,0,none⟩)∧v11=.int .i64 (i:Int)∧i≤acs.length∧Hid (St12 (fun _=>False) w wr (100+i) T O R)) (fun _ _ v _=>acs.length - (intOf v).toNat)
 case atStart=>exact ⟨0,T,O,R,rfl,rfl,rfl,Nat.zero_le _,HST⟩
 clear HST
 obtain ⟨i,T,O,R,rfl,rfl,rfl,hi,HS⟩:=hrel
 have hnr:=HS.out.old
 by_cases hlt:i<acs.length
 ·have l1:(i:Int)<(acs.length:Int):=by omega
  have l1':decide ((i:Int)<(acs.length:Int))=true:=decide_eq_true l1
  have l0:(0:Int)≤(i:Int):=by omega
  obtain ⟨x,hxi⟩:∃ x,acs[i]? = some x:=⟨_,List.getElem?_eq_getElem hlt⟩
  obtain ⟨b,o,hsa,lb,hcc,hcm,hcell,hrv,hkm,hcv,-,-⟩:=HA.out.at hxi
  have hlb:b<wr.heap.size:=Nat.lt_of_lt_of_le lb hnr.size
  obtain ⟨saa,sac⟩:=sa
  dsimp only at hsa hcc hcm
  subst hsa
  have hc:=hcell.agree (Nw.agree hnr fun _ h=>h) lb
  have a0:=hc.c0
  have a1:=hc.c1
  have a2:=hc.cv.c0
  have a3:=hc.cv.c1
  have a4:=hc.cv.c2
  have a5:=hc.cv.c3
  have a6:=hc.cv.c4
  have a7:=hc.cv.c5
  have a8:=hc.c8
  have hxa:=(Ext.refl wr).alloc (actC x.kd x.k x.v x.sl x.so x.n) 67
  have hba:=Blk.new wr 67 (actC x.kd x.k x.v x.sl x.so x.n)
  have hza:(wr.alloc (.cells (actC x.kd x.k x.v x.sl x.so x.n) 67)).heap.size=wr.heap.size+1:=World.size_alloc _ _
  have HDO:=Lib.hid (do12_any (nn:=x.n) (HS.out.apart (Nw.of hxa)) (fun b hb=>by omega) (by omega) (kd:=x.kd) hkm hrv hcv HL.out)
  have HBA:=Lib.hid hba
  have HKM:=Lib.hid hkm
  clear hcell hrv hkm hcv hxi hc hnr hxa hba hza
  go_wp2_with fail
  refine HDO.out.mono ?_
  rintro e w7 ⟨T',O',R',rfl,hs7,hq7⟩
  have hb7:=hq7.blk HBA.out (fun h=>h rfl)
  obtain ⟨M,sr,m,es,v,u,bb,hask⟩:=ask12 hs7 (by omega) HKM.out HPF.out
  have q1:w7.cell? ⟨wr.heap.size,1,none⟩=some (.string x.k):=hb7.cell 1
  have l7:=hb7.lt
  have HB7:=Lib.hid hb7
  have HS7:=Lib.hid hs7
  have HASK:=Lib.hid hask
  clear hs7 hq7 hb7 hask a0 a1 a2 a3 a4 a5 a6 a7 a8 HDO HBA
  go_wp2_with fail
  refine HASK.out.get.mono ?_
  rintro e w8 ⟨sl,so,rfl,hx8,hr8⟩
  have hx9:Ext w8 (w8.alloc (.cells (valB v sl so) 34)):=(Ext.refl w8).alloc _ _
  have HB9:=Lib.hid (Blk.new w8 34 (valB v sl so))
  have HX9:=Lib.hid (hx8.trans hx9)
  have HR9:=Lib.hid ((hr8.ext hx9 fun _ h=>h).mono (G:=Lt (w8.alloc (.cells (valB v sl so) 34)).heap.size) fun i hi=>Nat.lt_of_lt_of_le hi hx9.size)
  have hz8:=hx8.size
  clear hx8 hr8 hx9
  go_wp2_with fail
  generalize hW9:w8.alloc (.cells _ _)=w9 at *
  have lz9:w9.heap.size=w8.heap.size+1:=by rw [←hW9];exact World.size_alloc _ _
  have HZ9:=Lib.hid lz9
  have HSS:=Lib.hid (show ∀ W,Ext w9 W→W.cell? ⟨R',0,none⟩=some (.pointer (some ⟨M,0,none⟩))∧W.cell? ⟨wr.heap.size,1,none⟩=some (.string x.k) from
   fun W hW=>⟨((HX9.out.trans hW).cell HASK.out.lt).trans HASK.out.c0,(HB7.out.ext (HX9.out.trans hW)).cell 1⟩)
  clear hW9 lz9 q1
  refine wp_meetB (fun w' g=>Ext w9 w'∧∃ slu sou,Blk w' g 34 (valB u slu sou)∧RV w' (Lt w7.heap.size) u slu sou) [89,90,91,92,93,94,95,96,97,98] (fun g=>[(18,.pointer (some ⟨g,0,none⟩)),(19,.bool bb)]) ?_ ?_
  ·skip
   refine wp_region_held_drew (S:=(fun W=>Ext w9 W)) (by kernel_rfl) (((Ext.refl w9).drew)) (fun hHeld=>?_)
   refine heldT 0 (some 90) HSS hHeld ?_
   refine heldT 1 (some 91) HSS hHeld ?_
   refine heldT 2 (some 92) HSS hHeld ?_
   refine heldT 3 (some 93) HSS hHeld ?_
   refine heldT 4 (some 94) HSS hHeld ?_
   refine heldT 5 (some 95) HSS hHeld ?_
   refine held_two (i:=6) (j:=10) (by kernel_rfl) rfl rfl (by rfl) (by rfl) (fun K hK=>?_) (fun K hK=>?_)
   ·go_simp
    (refine (HASK.out.get7 _ (HX9.out.trans hHeld)).mono ?_;rintro e wc ⟨slu,sou,rfl,hxc,hrc⟩;have HXC:=Lib.hid (hHeld.trans hxc);have HRC:=Lib.hid hrc;clear hrc)
    refine hK.out _ _ (HXC.out) (fun hHeld=>?_)
    clear hK K
    try simp only [Act.put,List.setIfInBounds_toArray,List.set_cons_zero,List.set_cons_succ]
    refine heldT 7 (some 89) HSS hHeld ?_
    refine heldT 8 (some 97) HSS hHeld ?_
    refine heldT 9 (some 98) HSS hHeld ?_
    refine held_call (i:=10) (by kernel_rfl) rfl (by rfl) (fun K hK=>?_)
    go_simp
    skip
    refine hK.out _ _ ((HXC.out.alloc _ _)) (fun hHeld=>?_)
    clear hK K
    try simp only [Act.put,List.setIfInBounds_toArray,List.set_cons_zero,List.set_cons_succ]
    refine held_call (i:=11) (by kernel_rfl) rfl (by rfl) (fun K hK=>?_)
    go_simp
    skip
    refine hK.out _ _ ((HXC.out.alloc _ _)) (fun hHeld=>?_)
    clear hK K
    try simp only [Act.put,List.setIfInBounds_toArray,List.set_cons_zero,List.set_cons_succ]
    refine heldT 12 (some 19) HSS hHeld ?_
    refine wpAnyH_done (by kernel_rfl) ?_ _
    refine onlyP_mk ⟨wc.heap.size,⟨HXC.out.alloc _ _,slu,sou,Blk.new wc _ _,HRC.out.ext ((Ext.refl wc).alloc _ _) (fun b hb=>Nat.lt_of_lt_of_le hb (HX9.out.trans HXC.out).size)⟩,by kernel_rfl,?_⟩
    simp only [putB,List.map_cons,List.map_nil,List.cons_append,List.nil_append,List.setIfInBounds_toArray,List.set_cons_zero,List.set_cons_succ]
    kernel_rfl
   go_simp
   skip
   refine hK.out _ _ ((((Ext.refl w9).drew).alloc _ _)) (fun hHeld=>?_)
   clear hK K
   try simp only [Act.put,List.setIfInBounds_toArray,List.set_cons_zero,List.set_cons_succ]
   refine held_call (i:=6) (by kernel_rfl) rfl (by rfl) (fun K hK=>?_)
   go_simp
   (refine (HASK.out.get7 _ (HX9.out.trans hHeld)).mono ?_;rintro e wc ⟨slu,sou,rfl,hxc,hrc⟩;have HXC:=Lib.hid (hHeld.trans hxc);have HRC:=Lib.hid hrc;have hbz:Blk wc w9.heap.size 34 (valB zeroV Sl.none Sl.none):=(Blk.new w9.drew 34 (valB zeroV Sl.none Sl.none)).ext hxc;obtain ⟨z0,z1,z2,z3,z4,z5⟩:=hbz.c6;have lz:=hbz.lt;have fz:=fun i=>hbz.frozen i;have HBZ:=Lib.hid hbz;clear hrc hbz)
   refine hK.out _ _ (HXC.out) (fun hHeld=>?_)
   clear hK K
   try simp only [Act.put,List.setIfInBounds_toArray,List.set_cons_zero,List.set_cons_succ]
   refine heldT 7 (some 89) HSS hHeld ?_
   refine heldT 8 (some 97) HSS hHeld ?_
   refine heldT 9 (some 98) HSS hHeld ?_
   refine held_call (i:=11) (by kernel_rfl) rfl (by rfl) (fun K hK=>?_)
   go_simp
   skip
   refine hK.out _ _ ((ext6P HXC.out (Nat.le_refl _))) (fun hHeld=>?_)
   clear hK K
   try simp only [Act.put,List.setIfInBounds_toArray,List.set_cons_zero,List.set_cons_succ]
   refine heldT 12 (some 19) HSS hHeld ?_
   refine wpAnyH_done (by kernel_rfl) ?_ _
   refine onlyP_mk ⟨w9.heap.size,⟨ext6P HXC.out (Nat.le_refl _),slu,sou,blk6P HBZ.out,?_⟩,by kernel_rfl,?_⟩
   ·have:=HX9.out.size
    have hst:St (fun b=>b=w9.heap.size) wc _:=(((((((St.refl (fun b=>b=w9.heap.size) wc).set (p:=⟨w9.heap.size,0,none⟩) (.inr rfl) (.int .i64 u.kind)).set (p:=⟨w9.heap.size,1,none⟩) (.inr rfl) (.bool u.b)).set (p:=⟨w9.heap.size,2,none⟩) (.inr rfl) (.int .i64 u.i)).set (p:=⟨w9.heap.size,3,none⟩) (.inr rfl) (.string u.t)).set (p:=⟨w9.heap.size,4,none⟩) (.inr rfl) (.slice slu.a u.l.length slu.c)).set (p:=⟨w9.heap.size,5,none⟩) (.inr rfl) (.slice sou.a u.ok.length sou.c))
    exact HRC.out.agree (hst.agree.mono fun i (hi:i<w7.heap.size)=>⟨Nat.lt_of_lt_of_le hi (HX9.out.trans HXC.out).size,fun e=>by omega⟩)
   simp only [putB,List.map_cons,List.map_nil,List.cons_append,List.nil_append,List.setIfInBounds_toArray,List.set_cons_zero,List.set_cons_succ]
   kernel_rfl
  rintro w10 g uu ⟨hx10,slu,sou,hb10,hr10⟩
  simp only [putB,List.map_cons,List.map_nil,List.cons_append,List.nil_append,List.setIfInBounds_toArray,List.set_cons_zero,List.set_cons_succ]
  have hb9:=HB9.out.ext hx10
  have hx710:=HX9.out.trans hx10
  have HN10:=Lib.hid (Nw.of hx710)
  have HR10:=Lib.hid (hr10.mono (G:=Lt w10.heap.size) fun b hb=>Nat.lt_of_lt_of_le hb hx710.size)
  have HRV:=Lib.hid ((HR9.out.ext hx10 fun _ h=>h).mono (G:=Lt w10.heap.size) fun i hi=>Nat.lt_of_lt_of_le hi hx10.size)
  have HSS:=Lib.hid (show ∀ W,Nw w10 W→W.cell? ⟨R',1,none⟩=some (.slice sr.a m sr.c)∧W.cell? ⟨w8.heap.size,0,none⟩=some (.int .i64 v.kind)∧W.cell? ⟨w8.heap.size,1,none⟩=some (.bool v.b)∧W.cell? ⟨w8.heap.size,2,none⟩=some (.int .i64 v.i)∧W.cell? ⟨w8.heap.size,3,none⟩=some (.string v.t)∧W.cell? ⟨w8.heap.size,4,none⟩=some (.slice sl.a v.l.length sl.c)∧W.cell? ⟨w8.heap.size,5,none⟩=some (.slice so.a v.ok.length so.c)∧W.cell? ⟨g,0,none⟩=some (.int .i64 u.kind)∧W.cell? ⟨g,1,none⟩=some (.bool u.b)∧W.cell? ⟨g,2,none⟩=some (.int .i64 u.i)∧W.cell? ⟨g,3,none⟩=some (.string u.t)∧W.cell? ⟨g,4,none⟩=some (.slice slu.a u.l.length slu.c)∧W.cell? ⟨g,5,none⟩=some (.slice sou.a u.ok.length sou.c) from
   fun W hW=>⟨(hW.cell (Nat.lt_of_lt_of_le HASK.out.lt hx710.size) id).trans ((hx710.cell HASK.out.lt).trans HASK.out.c1),(Nw.blk hW hb9).cell 0,(Nw.blk hW hb9).cell 1,(Nw.blk hW hb9).cell 2,(Nw.blk hW hb9).cell 3,(Nw.blk hW hb9).cell 4,(Nw.blk hW hb9).cell 5,(Nw.blk hW hb10).cell 0,(Nw.blk hW hb10).cell 1,(Nw.blk hW hb10).cell 2,(Nw.blk hW hb10).cell 3,(Nw.blk hW hb10).cell 4,(Nw.blk hW hb10).cell 5⟩)
  have HMK:=Lib.hid (fun W (hW:Nw w10 W)=>HASK.out.mark W (HN10.out.trans hW))
  have HPR:=Lib.hid (fun W (hW:Nw w10 W)=>HASK.out.pre W (HN10.out.trans hW))
  have HPD:=Lib.hid (fun W (hW:Nw w10 W)=>HASK.out.pre12 W (HN10.out.trans hW))
  have HFEW:=Lib.hid HASK.out.few
  have HCMP:=Lib.hid HASK.out.cmp
  have HSE:=Lib.hid (fun (hb:bb=true) (W:World) (p q:Nat) (h1:Blk W p 64 (entB v sl so)) (h2:Blk W q 64 (entB u slu sou)) (hW:Ext w10 W)=>same_boxes h1 h2 ((HRV.out.agree (hW.agree fun _ h=>h)).mono fun i hi=>Nat.lt_of_lt_of_le hi hW.size) ((HR10.out.agree (hW.agree fun _ h=>h)).mono fun i hi=>Nat.lt_of_lt_of_le hi hW.size) (HCMP.out hb))
  have mm:(((m:Int)) != (m:Int))=false:=by simp
  obtain ⟨ks,hks⟩:∃ ks,keysE (beginsO pf) es=ks:=⟨_,rfl⟩
  unfold Pre12 at HPD
  rw [hks] at HPR HPD HFEW
  have HS10:=Lib.hid (HS7.out.free.nw HN10.out)
  clear hb9 hx710 hb10 hr10 hx10 hks HASK HB9 HR9 HX9 HB7 HS7 HZ9
  cases bb with
  | false=>
    go_wp2_with fail
    refine wp_region_held_drew (S:=(fun W=>Nw w10 W)) (by kernel_rfl) ((Nw.of (Ext.refl w10).drew)) (fun hHeld=>?_)
    refine heldT 0 (some 99) HSS hHeld ?_
    refine heldT 1 (some 100) HSS hHeld ?_
    refine heldT 2 (some 101) HSS hHeld ?_
    refine heldT 3 (some 102) HSS hHeld ?_
    refine heldT 4 (some 103) HSS hHeld ?_
    refine heldT 5 (some 104) HSS hHeld ?_
    refine heldO 6 (some 105) hHeld ?_
    refine heldO 7 (some 106) hHeld ?_
    refine heldO 8 (some 107) hHeld ?_
    refine heldO 9 (some 108) hHeld ?_
    refine heldO 10 (some 109) hHeld ?_
    refine heldO 11 (some 110) hHeld ?_
    refine heldO 12 (some 111) hHeld ?_
    refine heldO 13 (some 112) hHeld ?_
    refine heldT 14 (some 113) HSS hHeld ?_
    refine heldT 15 (some 114) HSS hHeld ?_
    refine heldT 16 (some 115) HSS hHeld ?_
    refine heldT 17 (some 116) HSS hHeld ?_
    refine heldT 19 (some 118) HSS hHeld ?_
    refine heldT 20 (some 119) HSS hHeld ?_
    refine heldT 21 (some 120) HSS hHeld ?_
    refine heldT 22 (some 121) HSS hHeld ?_
    refine heldT 23 (some 122) HSS hHeld ?_
    refine held_call (i:=18) (by kernel_rfl) rfl (by rfl) (fun K hK=>?_)
    go_simp
    (refine (HMK.out _ hHeld).mono ?_;rintro e wa ⟨rfl,hxa⟩)
    refine hK.out _ _ (hHeld.trans (Nw.of hxa)) (fun hHeld=>?_)
    clear hK K
    try simp only [Act.put,List.setIfInBounds_toArray,List.set_cons_zero,List.set_cons_succ]
    refine heldT 24 (some 123) HSS hHeld ?_
    refine heldT 25 (some 124) HSS hHeld ?_
    refine heldT 26 (some 125) HSS hHeld ?_
    refine heldT 27 (some 126) HSS hHeld ?_
    refine heldT 28 (some 127) HSS hHeld ?_
    refine heldT 30 (some 129) HSS hHeld ?_
    refine heldT 31 (some 130) HSS hHeld ?_
    refine held_call (i:=29) (by kernel_rfl) rfl (by rfl) (fun K hK=>?_)
    go_simp
    (refine (HPR.out _ hHeld).mono ?_;rintro e wb ⟨sp,rfl,hnb,hrb⟩;have HRB:=Lib.hid hrb;clear hrb)
    refine hK.out _ _ (hHeld.trans hnb) (fun hHeld=>?_)
    clear hK K
    try simp only [Act.put,List.setIfInBounds_toArray,List.set_cons_zero,List.set_cons_succ]
    refine held_call (i:=32) (by kernel_rfl) rfl (by rfl) (fun K hK=>?_)
    go_simp
    (refine (HPD.out _ hHeld).mono ?_;rintro e wd ⟨sq,rfl,hrd,hxd⟩;have HRD:=Lib.hid hrd;have HRB2:=Lib.hid ((HRB.out.agree (hxd.agree fun _ h=>h)).mono (G:=Lt wd.heap.size) fun i hi=>Nat.lt_of_lt_of_le hi hxd.size);clear hrd)
    refine hK.out _ _ (hHeld.trans (Nw.of hxd)) (fun hHeld=>?_)
    clear hK K
    try simp only [Act.put,List.setIfInBounds_toArray,List.set_cons_zero,List.set_cons_succ]
    refine held_call (i:=33) (by kernel_rfl) rfl (by rfl) (fun K hK=>?_)
    go_simp
    (refine (same12_refl HRB2.out (fun _ h=>h) HRD.out (fun _ h=>h) HFEW.out).mono ?_;rintro e we ⟨rfl,hxe⟩)
    refine hK.out _ _ (hHeld.trans (Nw.of hxe)) (fun hHeld=>?_)
    clear hK K
    try simp only [Act.put,List.setIfInBounds_toArray,List.set_cons_zero,List.set_cons_succ]
    refine heldT 34 (some 133) HSS hHeld ?_
    refine heldT 35 (some 134) HSS hHeld ?_
    refine wpAnyH_done (by kernel_rfl) ?_ _
    have HN11:=Lib.hid hHeld
    clear hHeld
    go_wp2_with fail
    go_roundw
    case rel=>exact ⟨i+1,T',O',R',by simp,by simp,by go_num,hlt,Lib.hid ((HS10.out.nw HN11.out).more (by omega))⟩
    simp [intOf];omega
  | true=>
    go_wp2_with fail
    refine wp_region_held_drew (S:=(fun W=>Nw w10 W)) (by kernel_rfl) ((Nw.of (Ext.refl w10).drew)) (fun hHeld=>?_)
    refine heldT 0 (some 99) HSS hHeld ?_
    refine heldT 1 (some 100) HSS hHeld ?_
    refine heldT 2 (some 101) HSS hHeld ?_
    refine heldT 3 (some 102) HSS hHeld ?_
    refine heldT 4 (some 103) HSS hHeld ?_
    refine heldT 5 (some 104) HSS hHeld ?_
    refine heldT 6 (some 105) HSS hHeld ?_
    refine heldT 7 (some 106) HSS hHeld ?_
    refine heldT 9 (some 108) HSS hHeld ?_
    refine heldT 10 (some 109) HSS hHeld ?_
    refine held_two (i:=8) (j:=11) (by kernel_rfl) rfl rfl (by rfl) (by rfl) (fun K hK=>?_) (fun K hK=>?_)
    ·go_simp
     skip
     refine hK.out _ _ ((by first|exact Nw.of ((((Ext.refl w10).drew).alloc _ _).alloc _ _)|exact Nw.of (((Ext.refl w10).drew).alloc _ _))) (fun hHeld=>?_)
     clear hK K
     try simp only [Act.put,List.setIfInBounds_toArray,List.set_cons_zero,List.set_cons_succ]
     refine held_call (i:=11) (by kernel_rfl) rfl (by rfl) (fun K hK=>?_)
     go_simp
     skip
     refine hK.out _ _ ((by first|exact Nw.of ((((Ext.refl w10).drew).alloc _ _).alloc _ _)|exact Nw.of (((Ext.refl w10).drew).alloc _ _))) (fun hHeld=>?_)
     clear hK K
     try simp only [Act.put,List.setIfInBounds_toArray,List.set_cons_zero,List.set_cons_succ]
     refine held_call (i:=12) (by kernel_rfl) rfl (by rfl) (fun K hK=>?_)
     go_simp
     (refine (HSE.out (by trivial) _ _ _ ((Blk.new w10.drew _ _).ext ((Ext.refl _).alloc _ _)) (blk_twoP w10.drew _ _ _ _) ((((Ext.refl w10).drew).alloc _ _).alloc _ _)).mono ?_;rintro e w11 ⟨rfl,hx11⟩)
     refine hK.out _ _ (hHeld.trans (Nw.of hx11)) (fun hHeld=>?_)
     clear hK K
     try simp only [Act.put,List.setIfInBounds_toArray,List.set_cons_zero,List.set_cons_succ]
     refine heldT 13 (some 112) HSS hHeld ?_
     refine heldT 14 (some 113) HSS hHeld ?_
     refine heldT 15 (some 114) HSS hHeld ?_
     refine heldT 16 (some 115) HSS hHeld ?_
     refine heldT 17 (some 116) HSS hHeld ?_
     refine heldT 19 (some 118) HSS hHeld ?_
     refine heldT 20 (some 119) HSS hHeld ?_
     refine heldT 21 (some 120) HSS hHeld ?_
     refine heldT 22 (some 121) HSS hHeld ?_
     refine heldT 23 (some 122) HSS hHeld ?_
     refine held_call (i:=18) (by kernel_rfl) rfl (by rfl) (fun K hK=>?_)
     go_simp
     (refine (HMK.out _ hHeld).mono ?_;rintro e wa ⟨rfl,hxa⟩)
     refine hK.out _ _ (hHeld.trans (Nw.of hxa)) (fun hHeld=>?_)
     clear hK K
     try simp only [Act.put,List.setIfInBounds_toArray,List.set_cons_zero,List.set_cons_succ]
     refine heldT 24 (some 123) HSS hHeld ?_
     refine heldT 25 (some 124) HSS hHeld ?_
     refine heldT 26 (some 125) HSS hHeld ?_
     refine heldT 27 (some 126) HSS hHeld ?_
     refine heldT 28 (some 127) HSS hHeld ?_
     refine heldT 30 (some 129) HSS hHeld ?_
     refine heldT 31 (some 130) HSS hHeld ?_
     refine held_call (i:=29) (by kernel_rfl) rfl (by rfl) (fun K hK=>?_)
     go_simp
     (refine (HPR.out _ hHeld).mono ?_;rintro e wb ⟨sp,rfl,hnb,hrb⟩;have HRB:=Lib.hid hrb;clear hrb)
     refine hK.out _ _ (hHeld.trans hnb) (fun hHeld=>?_)
     clear hK K
     try simp only [Act.put,List.setIfInBounds_toArray,List.set_cons_zero,List.set_cons_succ]
     refine held_call (i:=32) (by kernel_rfl) rfl (by rfl) (fun K hK=>?_)
     go_simp
     (refine (HPD.out _ hHeld).mono ?_;rintro e wd ⟨sq,rfl,hrd,hxd⟩;have HRD:=Lib.hid hrd;have HRB2:=Lib.hid ((HRB.out.agree (hxd.agree fun _ h=>h)).mono (G:=Lt wd.heap.size) fun i hi=>Nat.lt_of_lt_of_le hi hxd.size);clear hrd)
     refine hK.out _ _ (hHeld.trans (Nw.of hxd)) (fun hHeld=>?_)
     clear hK K
     try simp only [Act.put,List.setIfInBounds_toArray,List.set_cons_zero,List.set_cons_succ]
     refine held_call (i:=33) (by kernel_rfl) rfl (by rfl) (fun K hK=>?_)
     go_simp
     (refine (same12_refl HRB2.out (fun _ h=>h) HRD.out (fun _ h=>h) HFEW.out).mono ?_;rintro e we ⟨rfl,hxe⟩)
     refine hK.out _ _ (hHeld.trans (Nw.of hxe)) (fun hHeld=>?_)
     clear hK K
     try simp only [Act.put,List.setIfInBounds_toArray,List.set_cons_zero,List.set_cons_succ]
     refine heldT 34 (some 133) HSS hHeld ?_
     refine heldT 35 (some 134) HSS hHeld ?_
     refine wpAnyH_done (by kernel_rfl) ?_ _
     have HN11:=Lib.hid hHeld
     clear hHeld
     go_wp2_with fail
     go_roundw
     case rel=>exact ⟨i+1,T',O',R',by simp,by simp,by go_num,hlt,Lib.hid ((HS10.out.nw HN11.out).more (by omega))⟩
     simp [intOf];omega
    go_simp
    skip
    refine hK.out _ _ ((by first|exact Nw.of ((((Ext.refl w10).drew).alloc _ _).alloc _ _)|exact Nw.of (((Ext.refl w10).drew).alloc _ _))) (fun hHeld=>?_)
    clear hK K
    try simp only [Act.put,List.setIfInBounds_toArray,List.set_cons_zero,List.set_cons_succ]
    refine held_call (i:=8) (by kernel_rfl) rfl (by rfl) (fun K hK=>?_)
    go_simp
    skip
    refine hK.out _ _ ((by first|exact Nw.of ((((Ext.refl w10).drew).alloc _ _).alloc _ _)|exact Nw.of (((Ext.refl w10).drew).alloc _ _))) (fun hHeld=>?_)
    clear hK K
    try simp only [Act.put,List.setIfInBounds_toArray,List.set_cons_zero,List.set_cons_succ]
    refine held_call (i:=12) (by kernel_rfl) rfl (by rfl) (fun K hK=>?_)
    go_simp
    (refine (HSE.out (by trivial) _ _ _ (blk_twoP w10.drew _ _ _ _) ((Blk.new w10.drew _ _).ext ((Ext.refl _).alloc _ _)) ((((Ext.refl w10).drew).alloc _ _).alloc _ _)).mono ?_;rintro e w11 ⟨rfl,hx11⟩)
    refine hK.out _ _ (hHeld.trans (Nw.of hx11)) (fun hHeld=>?_)
    clear hK K
    try simp only [Act.put,List.setIfInBounds_toArray,List.set_cons_zero,List.set_cons_succ]
    refine heldT 13 (some 112) HSS hHeld ?_
    refine heldT 14 (some 113) HSS hHeld ?_
    refine heldT 15 (some 114) HSS hHeld ?_
    refine heldT 16 (some 115) HSS hHeld ?_
    refine heldT 17 (some 116) HSS hHeld ?_
    refine heldT 19 (some 118) HSS hHeld ?_
    refine heldT 20 (some 119) HSS hHeld ?_
    refine heldT 21 (some 120) HSS hHeld ?_
    refine heldT 22 (some 121) HSS hHeld ?_
    refine heldT 23 (some 122) HSS hHeld ?_
    refine held_call (i:=18) (by kernel_rfl) rfl (by rfl) (fun K hK=>?_)
    go_simp
    (refine (HMK.out _ hHeld).mono ?_;rintro e wa ⟨rfl,hxa⟩)
    refine hK.out _ _ (hHeld.trans (Nw.of hxa)) (fun hHeld=>?_)
    clear hK K
    try simp only [Act.put,List.setIfInBounds_toArray,List.set_cons_zero,List.set_cons_succ]
    refine heldT 24 (some 123) HSS hHeld ?_
    refine heldT 25 (some 124) HSS hHeld ?_
    refine heldT 26 (some 125) HSS hHeld ?_
    refine heldT 27 (some 126) HSS hHeld ?_
    refine heldT 28 (some 127) HSS hHeld ?_
    refine heldT 30 (some 129) HSS hHeld ?_
    refine heldT 31 (some 130) HSS hHeld ?_
    refine held_call (i:=29) (by kernel_rfl) rfl (by rfl) (fun K hK=>?_)
    go_simp
    (refine (HPR.out _ hHeld).mono ?_;rintro e wb ⟨sp,rfl,hnb,hrb⟩;have HRB:=Lib.hid hrb;clear hrb)
    refine hK.out _ _ (hHeld.trans hnb) (fun hHeld=>?_)
    clear hK K
    try simp only [Act.put,List.setIfInBounds_toArray,List.set_cons_zero,List.set_cons_succ]
    refine held_call (i:=32) (by kernel_rfl) rfl (by rfl) (fun K hK=>?_)
    go_simp
    (refine (HPD.out _ hHeld).mono ?_;rintro e wd ⟨sq,rfl,hrd,hxd⟩;have HRD:=Lib.hid hrd;have HRB2:=Lib.hid ((HRB.out.agree (hxd.agree fun _ h=>h)).mono (G:=Lt wd.heap.size) fun i hi=>Nat.lt_of_lt_of_le hi hxd.size);clear hrd)
    refine hK.out _ _ (hHeld.trans (Nw.of hxd)) (fun hHeld=>?_)
    clear hK K
    try simp only [Act.put,List.setIfInBounds_toArray,List.set_cons_zero,List.set_cons_succ]
    refine held_call (i:=33) (by kernel_rfl) rfl (by rfl) (fun K hK=>?_)
    go_simp
    (refine (same12_refl HRB2.out (fun _ h=>h) HRD.out (fun _ h=>h) HFEW.out).mono ?_;rintro e we ⟨rfl,hxe⟩)
    refine hK.out _ _ (hHeld.trans (Nw.of hxe)) (fun hHeld=>?_)
    clear hK K
    try simp only [Act.put,List.setIfInBounds_toArray,List.set_cons_zero,List.set_cons_succ]
    refine heldT 34 (some 133) HSS hHeld ?_
    refine heldT 35 (some 134) HSS hHeld ?_
    refine wpAnyH_done (by kernel_rfl) ?_ _
    have HN11:=Lib.hid hHeld
    clear hHeld
    go_wp2_with fail
    go_roundw
    case rel=>exact ⟨i+1,T',O',R',by simp,by simp,by go_num,hlt,Lib.hid ((HS10.out.nw HN11.out).more (by omega))⟩
    simp [intOf];omega
 obtain rfl:i=acs.length:=by omega
 have l1:decide ((acs.length:Int)<(acs.length:Int))=false:=decide_eq_false (by omega)
 obtain ⟨HR,HV,base,M,sm,d,es,ms,hs,hJ,hd,hN,hnew,hle⟩:=HS.out
 have hfw:=hJ.few
 have hC:=hJ.ov.few
 have hlen:=hJ.len
 have hB:Sorted (entsT d.T):=entsT_sorted hJ.ov.ok
 have hcom:=fun W (hW:Nw wr W)=>commit_ov (hJ.ov.nw hW) (by rw [hd];omega)
 obtain ⟨-,sM,xM,hbM,hsM,hxM⟩:=hJ.rf.cur
 have hbR:=hJ.rf.blk
 have hsame:sameE (comE (entsT d.T) (optA d.C) (entsT d.T)) es=true:=RelO.same hB (sorted_opt hJ.ov.sorted) hJ.last
 have hcl:(comE (entsT d.T) (optA d.C) (entsT d.T)).length≤1000000:=by
  have h1:=comE_len (entsT d.T) (optA d.C) (entsT d.T)
  have h2:(optA d.C).length=d.C.length:=by unfold optA;rw [List.length_map]
  rw [hd] at h1 ⊢
  omega
 have hse:∀ (W:World) (se:Sl) (xe:List LE),Nw wr W→ES W (Lt W.heap.size) se xe→xe.map LE.ent=comE (entsT d.T) (optA d.C) (entsT d.T)→Calls Tryz.prog 27 #[.slice se.a xe.length se.c,.slice sM.a xM.length sM.c] W fun e w'=>e=.returned (.bool true)∧Ext W w':=fun W se xe hW he hx=>by
  have h9:=sameEnt_any he ((hsM.agree (Nw.agree hW fun b hb=>hb.1)).mono fun b hb=>Nat.lt_of_lt_of_le hb.1 hW.size)
  rw [hx,hxM,hsame] at h9
  exact h9
 have HSS:=Lib.hid (show ∀ W,Nw wr W→W.cell? ⟨R,0,none⟩=some (.pointer (some ⟨M,0,none⟩))∧W.cell? ⟨M,0,none⟩=some (.slice sM.a xM.length sM.c) from
  fun W hW=>⟨(Nw.blk hW hbR).cell 0,(Nw.blk hW hbM).cell 0⟩)
 have HCOM:=Lib.hid hcom
 have HSE:=Lib.hid hse
 have HCL:=Lib.hid hcl
 clear hcom hse hcl hsame hbR hbM hsM hxM hB hlen hC hfw hle hnew hN hd hJ HS
 go_wp2_with fail
 refine wp_region_held_drew (S:=(fun W=>Nw wr W)) (by kernel_rfl) ((Nw.of (Ext.refl wr).drew)) (fun hHeld=>?_)
 refine heldT 0 (some 135) HSS hHeld ?_
 refine heldT 3 (some 138) HSS hHeld ?_
 refine heldT 4 (some 139) HSS hHeld ?_
 refine heldT 5 (some 140) HSS hHeld ?_
 refine heldT 6 (some 141) HSS hHeld ?_
 refine heldT 7 (some 142) HSS hHeld ?_
 refine heldT 8 (some 143) HSS hHeld ?_
 refine heldT 9 (some 144) HSS hHeld ?_
 refine held_call (i:=1) (by kernel_rfl) rfl (by rfl) (fun K hK=>?_)
 go_simp
 (refine (HCOM.out _ hHeld).mono ?_;rintro e w4 ⟨T',rfl,okT,hT,heT,hn4,-⟩;obtain ⟨p,hp⟩:=rootV_ptr T';have hen:=treeEntries_any (w:=w4) (up_ltO hn4) hT okT (by rw [heT];exact HCL.out);rw [treeV,hp,heT] at hen;rw [treeV,hp];have HEN:=Lib.hid hen;clear hen hT heT hp)
 refine hK.out _ _ (hHeld.trans hn4) (fun hHeld=>?_)
 clear hK K
 try simp only [Act.put,List.setIfInBounds_toArray,List.set_cons_zero,List.set_cons_succ]
 refine held_call (i:=2) (by kernel_rfl) rfl (by rfl) (fun K hK=>?_)
 go_simp
 (refine HEN.out.mono ?_;rintro e w5 ⟨se,xe,rfl,hxe,hoe,hx5⟩;have HOE:=Lib.hid (hoe.es.mono (G:=Lt w5.heap.size) fun b hb=>hb.2);have HXE:=Lib.hid hxe;clear hxe hoe)
 refine hK.out _ _ (hHeld.trans (Nw.of hx5)) (fun hHeld=>?_)
 clear hK K
 try simp only [Act.put,List.setIfInBounds_toArray,List.set_cons_zero,List.set_cons_succ]
 refine held_call (i:=10) (by kernel_rfl) rfl (by rfl) (fun K hK=>?_)
 go_simp
 (refine (HSE.out _ se xe hHeld HOE.out HXE.out).mono ?_;rintro e w6 ⟨rfl,hx6⟩)
 refine hK.out _ _ (hHeld.trans (Nw.of hx6)) (fun hHeld=>?_)
 clear hK K
 try simp only [Act.put,List.setIfInBounds_toArray,List.set_cons_zero,List.set_cons_succ]
 refine heldT 11 (some 146) HSS hHeld ?_
 refine held_call (i:=12) (by kernel_rfl) rfl (by rfl) (fun K hK=>?_)
 go_simp
 (refine (HKN.out _ (hnr.trans hHeld)).mono ?_;rintro e w7 ⟨rfl,hn7⟩)
 refine hK.out _ _ (hHeld.trans hn7) (fun hHeld=>?_)
 clear hK K
 try simp only [Act.put,List.setIfInBounds_toArray,List.set_cons_zero,List.set_cons_succ]
 refine heldT 13 (some 148) HSS hHeld ?_
 refine heldT 14 (some 6) HSS hHeld ?_
 refine wpAnyH_done (by kernel_rfl) ?_ _
 go_wp2_with fail
 go_ret
 exact ⟨rfl,hnr.trans hHeld⟩
end Go.Proofs.YtechahocffcbpaaGreatDoor
