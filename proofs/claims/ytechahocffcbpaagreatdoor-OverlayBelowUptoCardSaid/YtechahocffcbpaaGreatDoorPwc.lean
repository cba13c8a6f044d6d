/- What the theorem needs of the texts With2, Put, Log, Trees, Get, Gather, Map7, Step, Put7, Text02, Held: no condition of its own. -/
import Derived.Deep.RegionLaw
import Derived.Deep.RegionHeld3
import Derived.Lib.Hide
import Derived.Below
import Derived.Test.YtechahocffcbpaaGreatDoorPwa
import Derived.Test.YtechahocffcbpaaGreatDoorPwb
set_option maxRecDepth 100000
set_option maxHeartbeats 2000000
namespace Go.Proofs.YtechahocffcbpaaGreatDoor
open Go.RowKit
set_option linter.unusedVariables false
set_option linter.unusedSimpArgs false
theorem own_row {w:World} {base e size n:Nat} {s:Sl} {xs:List Value} (h:w.ownsRow base e size (.slice s.a n s.c) n xs) {b:Nat} (hb:s.row=some b):base≤b∧b<w.heap.size:=
 h.lt b (by obtain ⟨a,c⟩:=s;cases a <;> simp_all [Value.ownBlock,Sl.row])
theorem own_block {w:World} {base e size n:Nat} {s:Sl} {xs:List Value} (h:w.ownsRow base e size (.slice s.a n s.c) n xs) (hn:0<n):∃ g cap,s=⟨some ⟨g,0,none⟩,cap⟩∧base≤g∧n≤cap∧cap≤maxLen∧Filling w g e size cap:=by
 rcases h.2 with ⟨hv,h0⟩ | ⟨g,cap,cur,hv,hbg,hg,hnc,hcm,hcs,-⟩
 ·omega
 simp only [Value.slice.injEq] at hv
 exact ⟨g,cap,by obtain ⟨a,c⟩:=s;simp_all,hbg,hnc,hcm,cur,hg,hcs⟩
theorem own_set {w:World} {base e n g cap:Nat} {xs:List Value} (h:w.ownsRow base e 1 (.slice (some ⟨g,0,none⟩) n cap) n xs) {i:Nat} (hi:i<n) (u:Value):(w.setCell ⟨g,i,none⟩ u).ownsRow base e 1 (.slice (some ⟨g,0,none⟩) n cap) n (xs.set i u):=by
 rcases h.2 with ⟨hv,h0⟩ | ⟨g',cap',cur,hv,hbg,hg,hnc,hcm,hcs,ht⟩
 ·omega
 simp only [Value.slice.injEq,Option.some.injEq,Addr.mk.injEq,and_true,true_and] at hv
 obtain ⟨rfl,rfl⟩:=hv
 refine ⟨by rw [List.length_set];exact h.1,.inr ⟨g,cap,cur.setIfInBounds i u,rfl,hbg,Blk.set_ (show Blk w g e cur from hg) i u,hnc,hcm,by rw [Array.size_setIfInBounds];exact hcs,?_⟩⟩
 rw [Array.toList_setIfInBounds,List.take_set,ht]
theorem size_le8:∀ {h:Nat} {t:PT h},OkT h t→size h t≤8
 | 0,_,ok=>ok
 | _+1,_,ok=>ok.2.1
theorem kids_ents {B:Nat} {k:ByteArray} {v:Val} {h:Nat} {t:PT (h+1)} {kid:PT h} {rs:List (PT h)} (hk:t.2[whichK h t.2 k]? = some kid) (hr:WithR B k v h kid rs) (ok:OkT (h+1) t) (hs:Sorted (ents (h+1) t)) :
  (t.2.take (whichK h t.2 k)++rs++t.2.drop (whichK h t.2 k+1)).flatMap (ents h)=insE (ents (h+1) t) k v:=by
 have hp:=kids_pos ok
 obtain ⟨kid',hk',hA,hC⟩:=which_split (h:=h) (ks:=t.2) hs hp (by have:=ok.1;omega) k
 rw [hk] at hk'
 simp only [Option.some.injEq] at hk'
 subst hk'
 have hm:=List.mem_of_getElem? hk
 have ih:=WithR.ents hr (ok.2.2 kid hm).1 (kid_sorted hs kid hm)
 rw [List.flatMap_append,List.flatMap_append,ih]
 show _=insE (t.2.flatMap (Proofs.YtechahocffcbpaaGreatDoor.ents h)) k v
 conv=>rhs;rw [take_mid hk]
 rw [List.flatMap_append,List.flatMap_cons,insE_app hA,insE_stop hC,List.append_assoc]
theorem kids_ok {B:Nat} {k:ByteArray} {v:Val} {h:Nat} {t:PT (h+1)} {kid:PT h} {rs:List (PT h)} (hk:t.2[whichK h t.2 k]? = some kid) (hr:WithR B k v h kid rs) (ok:OkT (h+1) t) :
  ∀ u∈t.2.take (whichK h t.2 k)++rs++t.2.drop (whichK h t.2 k+1),OkT h u∧4≤size h u:=by
 have hm:=List.mem_of_getElem? hk
 obtain ⟨i1,i2⟩:=WithR.ok hr (ok.2.2 kid hm).1
 have hk4:=(ok.2.2 kid hm).2
 intro u hu
 rcases List.mem_append.1 hu with hu | hu
 ·rcases List.mem_append.1 hu with hu | hu
  ·exact ok.2.2 u (List.mem_of_mem_take hu)
  exact ⟨(i1 u hu).1,(i1 u hu).2.2 hk4⟩
 exact ok.2.2 u (List.mem_of_mem_drop hu)
def WithPost (F:Nat→Prop) (h:Nat) (t:PT h) (k:ByteArray) (v:Val) (w:World) (e:Ending) (w':World):Prop:=
 ∃ ts:List (PT h),e=two h ts∧WithR w.heap.size k v h t ts∧(∀ u∈ts,IsN w' (Up F w w') h u)∧Ext w w'
def WithPost' (F:Nat→Prop) (h:Nat) (t:PT h) (k:ByteArray) (v:Val) (w:World) (e:Ending) (w':World):Prop:=
 ∃ (a:PT h) (r:Value) (rs:List (PT h)),e=.returned (.tuple #[ptr h a,r])∧((r=.pointer none∧rs=[a])∨∃ b,r=ptr h b∧rs=[a,b])∧WithR w.heap.size k v h t rs∧(∀ u∈rs,IsN w' (Up F w w') h u)∧Ext w w'
theorem WithPost.apart {F:Nat→Prop} {h:Nat} {t:PT h} {k:ByteArray} {v:Val} {w:World} {e:Ending} {w':World} (p:WithPost F h t k v w e w'):WithPost' F h t k v w e w':=by
 obtain ⟨ts,rfl,h1,h2,h3⟩:=p
 rcases h1.two with ⟨a,rfl⟩ | ⟨a,b,rfl⟩
 ·exact ⟨a,_,_,rfl,.inl ⟨rfl,rfl⟩,h1,h2,h3⟩
 exact ⟨a,_,_,rfl,.inr ⟨b,rfl,rfl⟩,h1,h2,h3⟩
theorem with_zero {w:World} {F:Nat→Prop} (hF:∀ b,F b→b<w.heap.size) {t:PT 0} (hn:IsN w F 0 t) (ok:OkT 0 t) (hs:Sorted (ents 0 t)) {k:ByteArray} {v:Val} {sl so:Sl} (hv:RV w (Lt w.heap.size) v sl so) (hkm:k.size≤maxLen) :
  Calls Tryz.prog 66 #[ptr 0 t,aggE k v sl so] w (WithPost F 0 t k v w):=by
 have hn':IsN w (Lt w.heap.size) 0 t:=hn.mono hF
 refine (with_leaf (fun W hW=>height_any (hn'.ext hW)) (fun W hW=>entries_any (hn'.ext hW)) hs ok hv hkm).mono ?_
 rintro e w' ⟨ts,rfl,h1,h2,h3⟩
 exact ⟨ts,rfl,⟨h1,fun u hu=>(h2 u hu).1⟩,fun u hu=>(h2 u hu).2.mono fun i hi=>.inr hi,h3⟩
theorem two_cases1 {n:Nat} {L:List (PT n)} {ts:List (PT (n+1))} (h:ts.map Prod.snd=chunk L):(∃ a,ts=[a])∨∃ a b,ts=[a,b]:=by
 rcases chunk_two L with ⟨a,ha⟩ | ⟨a,b,ha⟩ <;> rw [ha] at h
 ·obtain ⟨x,hx,-⟩:=one1 h;exact .inl ⟨x,hx⟩
 obtain ⟨x,y,hx,-⟩:=two1 h;exact .inr ⟨x,y,hx⟩
theorem with_end {w w3 w':World} {F:Nat→Prop} {h:Nat} {t:PT (h+1)} {k:ByteArray} {v:Val} {i:Nat} {kid:PT h} {rs:List (PT h)} {B:Nat} (hE:Ext w w3) (hi:whichK h t.2 k=i) (hkid:t.2[whichK h t.2 k]? = some kid) (hB:w.heap.size≤B) (hwr:WithR B k v h kid rs)
  {ts:List (PT (h+1))} (h1:ts.map Prod.snd=chunk (t.2.take i++rs++t.2.drop (i+1))) (h2:∀ u∈ts,w3.heap.size≤addr (h+1) u∧IsN w' (Up (Up F w w3) w3 w') (h+1) u) (h3:Ext w3 w'):WithPost F (h+1) t k v w (two (h+1) ts) w':=by
 subst hi
 refine ⟨ts,rfl,⟨kid,rs,hkid,hwr.mono hB,h1,fun u hu=>Nat.le_trans hE.size (h2 u hu).1⟩,fun u hu=>(h2 u hu).2.mono fun i hi=>?_,hE.trans h3⟩
 rcases hi with (hi | hi) | hi
 ·exact .inl hi
 ·exact .inr ⟨hi.1,Nat.lt_of_lt_of_le hi.2 h3.size⟩
 exact .inr ⟨Nat.le_trans hE.size hi.1,hi.2⟩
theorem ptrs_set {h:Nat} {ks:List (PT h)} {i:Nat} (hi:i<ks.length) (a:PT h):(ptrs h ks).set i (ptr h a)=ptrs h (ks.take i++[a]++ks.drop (i+1)):=by
 rw [ptrs,←List.map_set,List.set_eq_take_append_cons_drop,if_pos hi,List.append_assoc];rfl
theorem ptrs_ins {h:Nat} {ks:List (PT h)} {i:Nat} (hi:i<ks.length) (a b:PT h):(ptrs h (ks.take i++[a]++ks.drop (i+1))).take ((i+1)*1)++[ptr h b]++(ptrs h (ks.take i++[a]++ks.drop (i+1))).drop ((i+1)*1)=ptrs h (ks.take i++[a,b]++ks.drop (i+1)):=by
 have hl:(ptrs h (ks.take i++[a])).length=i+1:=by simp [ptrs];omega
 have e:ptrs h (ks.take i++[a]++ks.drop (i+1))=ptrs h (ks.take i++[a])++ptrs h (ks.drop (i+1)):=by simp [ptrs]
 rw [e,Nat.mul_one,←hl,List.take_left,List.drop_left,hl]
 simp [ptrs]
theorem with_succ {h:Nat} {k:ByteArray} {v:Val} {sl so:Sl} (hkm:k.size≤maxLen)
  (ih:∀ (w:World) (F:Nat→Prop) (t:PT h),(∀ b,F b→b<w.heap.size)→IsN w F h t→OkT h t→Sorted (ents h t)→(ents h t).length≤1000000→RV w (Lt w.heap.size) v sl so→Calls Tryz.prog 66 #[ptr h t,aggE k v sl so] w (WithPost F h t k v w))
  {w:World} {F:Nat→Prop} {t:PT (h+1)} (hF:∀ b,F b→b<w.heap.size) (hn:IsN w F (h+1) t) (ok:OkT (h+1) t) (hs:Sorted (ents (h+1) t)) (hc:(ents (h+1) t).length≤1000000) (hv:RV w (Lt w.heap.size) v sl so) :
  Calls Tryz.prog 66 #[ptr (h+1) t,aggE k v sl so] w (WithPost F (h+1) t k v w):=by
 have hpos:=kids_pos ok
 have hh:h+1<1000000:=Nat.lt_of_lt_of_le (height_lt (h+1) t ok (by have:=ok.1;show 1≤t.2.length;omega)) hc
 obtain ⟨kid,hkid,hA,hC⟩:=which_split (h:=h) (ks:=t.2) hs hpos (by have:=ok.1;omega) k
 have hkm':=List.mem_of_getElem? hkid
 have hil:=(List.getElem?_eq_some_iff.1 hkid).1
 have hlen2:=ok.1
 have hlen8:=ok.2.1
 have hks:∀ x∈t.2,IsN w F h x:=hn.2.choose_spec.2.2
 have hkc:(ents h kid).length≤1000000:=Nat.le_trans (by
  show _≤(t.2.flatMap (ents h)).length
  rw [take_mid hkid];simp only [List.flatMap_append,List.flatMap_cons,List.length_append];omega) hc
 have hih:∀ W,Ext w W→Calls Tryz.prog 66 #[ptr h kid,aggE k v sl so] W (WithPost' F h kid k v W):=fun W hW=>
  (ih W F kid (fun b hb=>Nat.lt_of_lt_of_le (hF b hb) hW.size) ((hks kid hkm').agree (hW.agree hF)) (ok.2.2 kid hkm').1 (kid_sorted hs kid hkm') hkc ((hv.agree (hW.agree fun _ h=>h)).mono fun i hi=>Nat.lt_of_lt_of_le hi hW.size)).mono fun _ _ p=>p.apart
 have HF:=Lib.hid hF
 have HN:=Lib.hid hn
 have HOK:=Lib.hid ok
 have HS:=Lib.hid hs
 have HC:=Lib.hid hc
 have HP:=Lib.hid hpos
 have HIH:=Lib.hid hih
 have HKS:=Lib.hid hks
 have HKID:=Lib.hid hkid
 have hnz:(((h:Int)+1) == 0)=false:=beq_eq_false_iff_ne.2 (by omega)
 clear hF hn ok hs hc hpos hih hks hkid hA hC hv ih hkc
 go_enter Tryz.func66,Tryz.ntmps66
 go_wp2_with fail
 have hx0:Ext w (w.alloc (.cells #[.string k,.int .i64 v.kind,.bool v.b,.int .i64 v.i,.string v.t,.slice sl.a v.l.length sl.c,.slice so.a v.ok.length so.c] 64)):=(Ext.refl w).alloc _ _
 have hb0:=Blk.new w 64 #[.string k,.int .i64 v.kind,.bool v.b,.int .i64 v.i,.string v.t,.slice sl.a v.l.length sl.c,.slice so.a v.ok.length so.c]
 generalize hW0:World.alloc _ _=W0 at *
 have hz0:W0.heap.size=w.heap.size+1:=by rw [←hW0];simp
 clear hW0
 have hnW:IsN W0 F (h+1) t:=HN.out.agree (hx0.agree HF.out)
 refine (height_any hnW).mono ?_
 rintro e w1 ⟨rfl,rfl⟩
 have hkc:=kids_any hnW (by omega)
 clear hnW
 go_wp2_with fail
 refine hkc.mono ?_
 rintro e w1 ⟨s',rfl,hown,hx1⟩
 have hX1:=hx0.trans hx1
 have hb1:=hb0.ext hx1
 obtain ⟨c0,c1,c2,c3,c4,c5,c6⟩:=hb1.c7
 have hrd:Rd w1 (Lt w1.heap.size) 1 s' t.2.length (ptrs h t.2):=(Rd.of_own hown).mono fun i hi=>hi.2
 have hwh:=which_any hrd (fun x hx=>(HKS.out x hx).agree (hX1.agree HF.out)) (fun b hb=>Nat.lt_of_lt_of_le (HF.out b hb) hX1.size) HP.out k HS.out (by omega)
 obtain ⟨i,hi⟩:∃ i,whichK h t.2 k=i:=⟨_,rfl⟩
 rw [hi] at hwh hil
 have HI:=Lib.hid hi
 have HWH:=Lib.hid hwh
 have HO1:=Lib.hid hown
 have HB1:=Lib.hid hb1
 have HX1:=Lib.hid hX1
 have HX01:=Lib.hid hx1
 clear hi hwh hown hb1 hX1 hrd hkc hb0 hx0 hx1
 go_wp2_with fail
 refine HWH.out.mono ?_
 rintro e w2 ⟨rfl,hx2⟩
 clear c0 c1 c2 c3 c4 c5 c6
 obtain ⟨d0,d1,d2,d3,d4,d5,d6⟩:=(HB1.out.ext hx2).c7
 have hbl:=HB1.out.lt
 have hbl2:=(HB1.out.ext hx2).lt
 have hX2:=HX1.out.trans hx2
 obtain ⟨g,cap,rfl,hbg,hnc,hcm,hfil⟩:=own_block HO1.out (by omega)
 have ho2:w2.ownsRow W0.heap.size 23 1 (.slice (some ⟨g,0,none⟩) t.2.length cap) t.2.length (ptrs h t.2):=own_agree HO1.out (hx2.agree (F:=Lt w1.heap.size) fun _ h=>h) fun b hb=>(own_row HO1.out hb).2
 have hkp:w2.cell? ⟨g,i,none⟩=some (ptr h kid):=by
  have:=ho2.cells (g:=g) rfl i (ptr h kid) (by rw [ptrs,List.getElem?_map,←HI.out,HKID.out];rfl)
  rwa [add_at,Nat.zero_add] at this
 have hil':(i:Int)<(t.2.length:Int):=by omega
 have HO2:=Lib.hid ho2
 have HX2:=Lib.hid hX2
 have hg2:g<w2.heap.size:=(own_row (s:=⟨some ⟨g,0,none⟩,cap⟩) ho2 rfl).2
 have hfz:∀ o,w2.frozen? ⟨g,o,none⟩=false:=fun o=>by rw [hx2.frozen hfil.lt];exact hfil.frozen o
 clear hx2 ho2 hX2 hfil
 go_wp2_with fail
 go_region_held3 (fun w'=>w'.cell? ⟨g,i,none⟩=some (ptr h kid)∧w'.cell? ⟨w.heap.size,0,none⟩=some (.string k)∧w'.cell? ⟨w.heap.size,1,none⟩=some (.int .i64 v.kind)∧w'.cell? ⟨w.heap.size,2,none⟩=some (.bool v.b)∧w'.cell? ⟨w.heap.size,3,none⟩=some (.int .i64 v.i)∧w'.cell? ⟨w.heap.size,4,none⟩=some (.string v.t)∧w'.cell? ⟨w.heap.size,5,none⟩=some (.slice sl.a v.l.length sl.c)∧w'.cell? ⟨w.heap.size,6,none⟩=some (.slice so.a v.ok.length so.c)) (go_keep)
  ((go_at_call 66;refine (HIH.out _ HX2.out.drew).mono ?_;rintro e w3 ⟨a,r,rs,rfl,hr,hwr,hwn,hx3⟩;have HR:=Lib.hid hr;have HWR:=Lib.hid hwr;have HWN:=Lib.hid hwn;clear hr hwr hwn;have ho3:(∀ b o,b<w2.heap.size→w3.cell? ⟨b,o,none⟩=w2.cell? ⟨b,o,none⟩):=fun b o hb=>hx3.cell (show b<w2.drew.heap.size from hb)))
 have hX23:Ext w2 w3:=((Ext.refl w2).drew).trans hx3
 have hg3:g<w3.heap.size:=Nat.lt_of_lt_of_le hg2 hX23.size
 have hkp3:=(hX23.cell (o:=i) hg2).trans hkp
 have hfz3:w3.frozen? ⟨g,i,none⟩=false:=(hX23.frozen hg2).trans (hfz i)
 have HX23:=Lib.hid hX23
 have HX2D:=Lib.hid hx3
 clear hX23 hx3 hkp hfz ho3 d0 d1 d2 d3 d4 d5 d6
 have ho3:w3.ownsRow W0.heap.size 23 1 (.slice (some ⟨g,0,none⟩) t.2.length cap) t.2.length (ptrs h t.2):=own_agree (s:=⟨some ⟨g,0,none⟩,cap⟩) HO2.out (HX23.out.agree (F:=Lt w2.heap.size) fun _ h=>h) fun b hb=>(own_row (s:=⟨some ⟨g,0,none⟩,cap⟩) HO2.out hb).2
 have ho4:=own_set ho3 hil (ptr h a)
 rw [ptrs_set hil] at ho4
 have hX4:Ext w (w3.setCell ⟨g,i,none⟩ (ptr h a)):=(HX2.out.trans HX23.out).setCell (p:=⟨g,i,none⟩) (by show w.heap.size≤g;omega) _
 have hag4:Agree (Up F w2.drew w3) w3 (w3.setCell ⟨g,i,none⟩ (ptr h a)):=Agree.setCell w3 ⟨g,i,none⟩ _ (by
  rintro (hf | hf)
  ·have:g<w.heap.size:=HF.out g hf
   omega
  have:w2.heap.size≤g:=hf.1
  omega)
 have hkids:∀ W,Ext w W→Agree (Up F w2.drew w3) w3 W→w3.heap.size≤W.heap.size→Kids W (Up F w W) h (t.2.take i++rs++t.2.drop (i+1)):=fun W hW hag hsz=>by
  have hke:=kids_ents HKID.out HWR.out HOK.out HS.out
  have hko:=kids_ok HKID.out HWR.out HOK.out
  rw [HI.out] at hke hko
  have hso:Sorted ((t.2.take i++rs++t.2.drop (i+1)).flatMap (ents h)):=by rw [hke];exact insE_sorted HS.out k v
  have hps:∀ x∈t.2.take i++rs++t.2.drop (i+1),0<(ents h x).length:=fun x hx=>ents_pos h x (hko x hx).1 (by have:=(hko x hx).2;omega)
  refine ⟨fun b hb=>hb.elim (fun h=>Nat.lt_of_lt_of_le (HF.out b h) hW.size) fun h=>h.2,fun x hx=>?_,rising_of hso hps,hps,fun x hx=>by have:=size_le8 (hko x hx).1;omega,by
   have:=insE_len (ents (h+1) t) k v
   have hcc:=HC.out
   unfold cnt;rw [hke];omega,by omega⟩
  rcases List.mem_append.1 hx with hx | hx
  ·rcases List.mem_append.1 hx with hx | hx
   ·exact ((HKS.out x (List.mem_of_mem_take hx)).agree (hW.agree HF.out)).mono fun _ h=>.inl h
   exact ((HWN.out x hx).agree hag).mono fun b hb=>hb.elim .inl fun h=>.inr ⟨Nat.le_trans HX2.out.size h.1,Nat.lt_of_lt_of_le h.2 hsz⟩
  exact ((HKS.out x (List.mem_of_mem_drop hx)).agree (hW.agree HF.out)).mono fun _ h=>.inl h
 have HK:=Lib.hid hkids
 have HO4:=Lib.hid ho4
 have HX4:=Lib.hid hX4
 have HA4:=Lib.hid hag4
 have hB2:w.heap.size≤w2.drew.heap.size:=HX2.out.size
 have hgw:W0.heap.size≤w3.heap.size:=by omega
 have HB2:=Lib.hid hB2
 clear ho3 ho4 hX4 hag4 hkids hB2
 rcases HR.out with ⟨rfl,rfl⟩ | ⟨b,rfl,rfl⟩
 ·have hlen:(t.2.take i++[a]++t.2.drop (i+1)).length=t.2.length:=by simp;omega
  have hsp:=splitP_any (w:=w3.setCell ⟨g,i,none⟩ (ptr h a)) (s:=⟨some ⟨g,0,none⟩,cap⟩) (by rw [hlen];exact (Rd.of_own HO4.out).mono fun i hi=>hi.2) (HK.out _ HX4.out HA4.out (by simp)) (by omega) (by omega)
  rw [hlen] at hsp
  have HSP:=Lib.hid hsp
  clear hsp hlen
  go_wp2_with fail
  refine HSP.out.mono ?_
  rintro e w5 ⟨ts,rfl,h1,h2,h3⟩
  have H2:=Lib.hid h2
  have H1:=Lib.hid h1
  clear h2
  rcases two_cases1 h1 with ⟨a',rfl⟩ | ⟨a',b',rfl⟩
  all_goals
   clear h1
   simp only [two]
   go_wp2_with fail
   go_ret2
   exact with_end HX4.out HI.out HKID.out HB2.out HWR.out H1.out H2.out h3
 have hw1:IntKind.i64.wrap ((i:Int)+1)=(i:Int)+1:=by rw [IntKind.wrap_i64];omega
 have hlen:(t.2.take i++[a]++t.2.drop (i+1)).length=t.2.length:=by simp;omega
 have hlen2':(t.2.take i++[a,b]++t.2.drop (i+1)).length=t.2.length+1:=by simp;omega
 have hE5:Ext (w3.setCell ⟨g,i,none⟩ (ptr h a)) ((w3.setCell ⟨g,i,none⟩ (ptr h a)).alloc (.cells #[ptr h b] 23)):=(Ext.refl _).alloc _ _
 have hb5:Blk ((w3.setCell ⟨g,i,none⟩ (ptr h a)).alloc (.cells #[ptr h b] 23)) w3.heap.size 23 [ptr h b].toArray:=by
  have:=Blk.new (w3.setCell ⟨g,i,none⟩ (ptr h a)) 23 #[ptr h b]
  rwa [World.size_setCell] at this
 go_wp2_with fail
 change Calls _ _ _ ((w3.setCell ⟨g,i,none⟩ (ptr h a)).alloc (.cells #[ptr h b] 23)) _
 have ho5:((w3.setCell ⟨g,i,none⟩ (ptr h a)).alloc (.cells #[ptr h b] 23)).ownsRow W0.heap.size 23 1 (.slice (some ⟨g,0,none⟩) t.2.length cap) t.2.length (ptrs h (t.2.take i++[a]++t.2.drop (i+1))):=own_agree (s:=⟨some ⟨g,0,none⟩,cap⟩) HO4.out (hE5.agree (F:=Lt w3.heap.size) fun i hi=>by rw [World.size_setCell];exact hi) fun b hb=>by
  have:=(own_row (s:=⟨some ⟨g,0,none⟩,cap⟩) HO4.out hb).2
  rwa [World.size_setCell] at this
 have hag5:Agree (Up F w2.drew w3) w3 ((w3.setCell ⟨g,i,none⟩ (ptr h a)).alloc (.cells #[ptr h b] 23)):=HA4.out.trans (hE5.agree fun j hj=>by rw [World.size_setCell];exact hj.elim (fun hh=>Nat.lt_of_lt_of_le (HF.out j hh) (by have:=HX2.out.size;have:=HX23.out.size;omega)) fun hh=>hh.2)
 have hX5:=HX4.out.trans hE5
 have hz5:((w3.setCell ⟨g,i,none⟩ (ptr h a)).alloc (.cells #[ptr h b] 23)).heap.size=w3.heap.size+1:=by simp
 generalize (w3.setCell ⟨g,i,none⟩ (ptr h a)).alloc (.cells #[ptr h b] 23)=W5 at *
 have hins:=insN_any (w:=W5) (base:=W0.heap.size) (n:=t.2.length) (i:=i+1) (s:=⟨some ⟨g,0,none⟩,cap⟩) (xs:=ptrs h (t.2.take i++[a]++t.2.drop (i+1))) (ys:=[ptr h b]) (vb:=w3.heap.size) ho5 (by omega) (by omega) (by omega) rfl hb5 (by simp [Sl.row];omega) (by simp [Value.oneCell']) (ptrs_one _ _)
 have H5:=Lib.hid hX5
 have HG5:=Lib.hid hag5
 clear hX5 hag5 hb5 ho5 hE5
 refine hins.mono ?_
 rintro e w6 ⟨s6,rfl,hown6,hwr6,-⟩
 rw [ptrs_ins hil] at hown6
 have hX6:Ext w w6:=H5.out.wr hwr6 fun j hj=>by simp [Sl.row] at hj;omega
 have hag6:Agree (Up F w2.drew w3) w3 w6:=HG5.out.trans (hwr6.agree (fun j hj=>by rw [hz5];exact hj.elim (fun hh=>Nat.lt_of_lt_of_le (HF.out j hh) (by have:=HX2.out.size;have:=HX23.out.size;omega)) fun hh=>Nat.lt_succ_of_lt hh.2) (fun j hj=>by
  simp [Sl.row] at hj;subst hj
  rintro (hf | hf)
  ·have:g<w.heap.size:=HF.out g hf
   omega
  have:w2.heap.size≤g:=hf.1
  omega))
 have hsp:=splitP_any (w:=w6) (s:=s6) (by rw [hlen2'];exact (Rd.of_own hown6).mono fun i hi=>hi.2) (HK.out _ hX6 hag6 (by have:=hwr6.grown.size;omega)) (by omega) (by omega)
 rw [hlen2'] at hsp
 have HSP:=Lib.hid hsp
 have HX6:=Lib.hid hX6
 clear hsp hlen hlen2' hX6 hag6 hown6 hwr6 hins
 go_wp2_with fail
 refine HSP.out.mono ?_
 rintro e w7 ⟨ts,rfl,h1,h2,h3⟩
 have H2:=Lib.hid h2
 have H1:=Lib.hid h1
 clear h2
 rcases two_cases1 h1 with ⟨a',rfl⟩ | ⟨a',b',rfl⟩
 all_goals
  clear h1
  simp only [two]
  go_wp2_with fail
  go_ret2
  exact with_end HX6.out HI.out HKID.out HB2.out HWR.out H1.out H2.out h3
theorem with_any {k:ByteArray} {v:Val} {sl so:Sl} (hkm:k.size≤maxLen):∀ (h:Nat) (w:World) (F:Nat→Prop) (t:PT h),(∀ b,F b→b<w.heap.size)→IsN w F h t→OkT h t→Sorted (ents h t)→(ents h t).length≤1000000→RV w (Lt w.heap.size) v sl so→
  Calls Tryz.prog 66 #[ptr h t,aggE k v sl so] w (WithPost F h t k v w)
 | 0,w,F,t,hF,hn,ok,hs,hc,hv=>with_zero hF hn ok hs hv hkm
 | h+1,w,F,t,hF,hn,ok,hs,hc,hv=>with_succ hkm (with_any hkm h) hF hn ok hs hc hv
abbrev RT:=Option (Σ h,PT h)
def rootV:RT→Value
 | none=>.pointer none
 | some ⟨h,t⟩=>ptr h t
abbrev treeV (T:RT):Value:=.agg #[rootV T]
def entsT:RT→List Ent
 | none=>[]
 | some ⟨h,t⟩=>ents h t
def OkR:RT→Prop
 | none=>True
 | some ⟨h,t⟩=>OkT h t∧1≤size h t∧Sorted (ents h t)
def IsT (w:World) (F:Nat→Prop):RT→Prop
 | none=>True
 | some ⟨h,t⟩=>IsN w F h t
theorem IsT.agree {w w':World} {F:Nat→Prop} {T:RT} (h:IsT w F T) (ha:Agree F w w'):IsT w' F T:=by
 match T,h with
 | none,_=>trivial
 | some ⟨n,t⟩,h=>exact IsN.agree ha h
theorem IsT.mono {w:World} {F G:Nat→Prop} {T:RT} (h:IsT w F T) (hG:∀ i,F i→G i):IsT w G T:=by
 match T,h with
 | none,_=>trivial
 | some ⟨n,t⟩,h=>exact IsN.mono hG h
theorem OkR.sorted {T:RT} (h:OkR T):Sorted (entsT T):=by
 match T,h with
 | none,_=>exact List.Pairwise.nil
 | some ⟨n,t⟩,h=>exact h.2.2
inductive WithRT (B:Nat) (k:ByteArray) (v:Val):RT→(h:Nat)→List (PT h)→Prop
 | none (u:PT 0) (h:u.2=[(k,v)]) (hb:B≤u.1):WithRT B k v none 0 [u]
 | some {h:Nat} {t:PT h} {ts:List (PT h)} (hw:WithR B k v h t ts):WithRT B k v (some ⟨h,t⟩) h ts
theorem WithRT.mono {A B:Nat} (hAB:A≤B) {k:ByteArray} {v:Val} {T:RT} {h:Nat} {ts:List (PT h)} (hw:WithRT B k v T h ts):WithRT A k v T h ts:=by
 cases hw with
 | none u hu hb=>exact .none u hu (Nat.le_trans hAB hb)
 | some hw=>exact .some (hw.mono hAB)
theorem WithRT.height {B:Nat} {k:ByteArray} {v:Val} {T:RT} {h:Nat} {ts:List (PT h)} (hw:WithRT B k v T h ts) (ok:OkR T):h≤(entsT T).length:=by
 cases hw with
 | none u hu hb=>exact Nat.zero_le _
 | some hw=>exact Nat.le_of_lt (height_lt _ _ ok.1 ok.2.1)
inductive PutR (B:Nat) (k:ByteArray) (v:Val):RT→RT→Prop
 | one {T:RT} {h:Nat} {a:PT h} (hw:WithRT B k v T h [a]):PutR B k v T (some ⟨h,a⟩)
 | two {T:RT} {h:Nat} {a b:PT h} {c:PT (h+1)} (hw:WithRT B k v T h [a,b]) (hc:c.2=[a,b]) (hb:B≤addr (h+1) c):PutR B k v T (some ⟨h+1,c⟩)
theorem WithRT.ents {B:Nat} {k:ByteArray} {v:Val} {T:RT} {h:Nat} {ts:List (PT h)} (hw:WithRT B k v T h ts) (ok:OkR T):ts.flatMap (Proofs.YtechahocffcbpaaGreatDoor.ents h)=insE (entsT T) k v:=by
 cases hw with
 | none u hu hb=>
   show u.2++[]=_
   rw [hu];rfl
 | some hw=>exact hw.ents ok.1 ok.2.2
theorem WithRT.ok {B:Nat} {k:ByteArray} {v:Val} {T:RT} {h:Nat} {ts:List (PT h)} (hw:WithRT B k v T h ts) (ok:OkR T):(∀ u∈ts,OkT h u∧1≤size h u)∧(2≤ts.length→∀ u∈ts,4≤size h u):=by
 cases hw with
 | none u hu hb=>
   refine ⟨fun x hx=>?_,fun h=>by simp at h⟩
   obtain rfl:x=u:=by simpa using hx
   exact ⟨show x.2.length≤8 by rw [hu];simp,show 1≤x.2.length by rw [hu];simp⟩
 | some hw=>exact ⟨fun u hu=>⟨(hw.ok ok.1).1 u hu |>.1,((hw.ok ok.1).1 u hu).2.1⟩,(hw.ok ok.1).2⟩
theorem PutR.ents {B:Nat} {k:ByteArray} {v:Val} {T T':RT} (hp:PutR B k v T T') (ok:OkR T):entsT T'=insE (entsT T) k v:=by
 cases hp with
 | one hw=>have:=hw.ents ok;simpa [entsT] using this
 | two hw hc hb=>
   rename_i h a b c
   have:=hw.ents ok
   rw [←this,←hc];rfl
theorem PutR.ok {B:Nat} {k:ByteArray} {v:Val} {T T':RT} (hp:PutR B k v T T') (ok:OkR T):OkR T':=by
 have hs:Sorted (entsT T'):=by rw [hp.ents ok];exact insE_sorted ok.sorted k v
 cases hp with
 | one hw=>rename_i h a;exact ⟨((hw.ok ok).1 a (by simp)).1,((hw.ok ok).1 a (by simp)).2,hs⟩
 | two hw hc hb=>
   rename_i h a b c
   have h1:=hw.ok ok
   refine ⟨⟨by rw [hc];simp,by rw [hc];simp,fun x hx=>?_⟩,show 1≤c.2.length by rw [hc];simp,hs⟩
   rw [hc] at hx
   exact ⟨(h1.1 x hx).1,h1.2 (by simp) x hx⟩
theorem Rd.of_blk {w:World} {g:Nat} {t:TypeId} {cs:List Value} (hb:Blk w g t cs.toArray) (hm:cs.length≤maxLen):Rd w (fun b=>b=g) 1 ⟨some ⟨g,0,none⟩,cs.length⟩ cs.length cs:=
 ⟨g,0,.some _ _ _ _ (Nat.le_refl _) hm rfl,(Nat.mul_one _).symm,fun j u hj=>by rw [Nat.zero_add,hb.cell];simpa using hj⟩
def WithPostT (F:Nat→Prop) (T:RT) (k:ByteArray) (v:Val) (w:World) (e:Ending) (w':World):Prop:=
 ∃ (h:Nat) (a:PT h) (r:Value) (rs:List (PT h)),e=.returned (.tuple #[ptr h a,r])∧((r=.pointer none∧rs=[a])∨∃ b,r=ptr h b∧rs=[a,b])∧WithRT w.heap.size k v T h rs∧(∀ u∈rs,IsN w' (Up F w w') h u)∧Ext w w'
theorem withT_any {w:World} {F:Nat→Prop} {T:RT} (hF:∀ b,F b→b<w.heap.size) (hT:IsT w F T) (ok:OkR T) (hc:(entsT T).length≤1000000) {k:ByteArray} {v:Val} {sl so:Sl} (hkm:k.size≤maxLen) (hv:RV w (Lt w.heap.size) v sl so) :
  Calls Tryz.prog 66 #[rootV T,aggE k v sl so] w (WithPostT F T k v w):=by
 match T,hT,ok,hc with
 | none,_,_,_=>
   refine (with_leaf (nv:=.pointer none) (es:=[]) (fun W hW=>(height_nil W)) (fun W hW=>(entries_nil W).mono ?_) List.Pairwise.nil (by simp) hv hkm).mono ?_
   ·rintro e w' ⟨rfl,rfl⟩
    exact ⟨Sl.none,[],rfl,rfl,OE.nil _ _,Ext.refl _⟩
   rintro e w' ⟨ts,rfl,h1,h2,h3⟩
   obtain ⟨u,rfl,hu⟩:=one0 (h1.trans (show chunk (insE [] k v)=[[(k,v)]] from rfl))
   exact ⟨0,u,_,_,rfl,.inl ⟨rfl,rfl⟩,.none u hu (h2 u (by simp)).1,fun x hx=>(h2 x hx).2.mono fun i hi=>.inr hi,h3⟩
 | some ⟨h,t⟩,hT,ok,hc=>
   refine (with_any hkm h w F t hF hT ok.1 ok.2.2 hc hv).mono ?_
   intro e w' p
   obtain ⟨a,r,rs,rfl,h1,h2,h3,h4⟩:=p.apart
   exact ⟨h,a,r,rs,rfl,h1,.some h2,h3,h4⟩
def PutPost (F:Nat→Prop) (T:RT) (k:ByteArray) (v:Val) (w:World) (e:Ending) (w':World):Prop:=
 ∃ T',e=.returned (treeV T')∧PutR w.heap.size k v T T'∧IsT w' (Up F w w') T'∧Ext w w'
theorem put_any {w:World} {F:Nat→Prop} {T:RT} (hF:∀ b,F b→b<w.heap.size) (hT:IsT w F T) (ok:OkR T) (hc:(entsT T).length≤1000000) {k:ByteArray} {v:Val} {sl so:Sl} (hkm:k.size≤maxLen) (hv:RV w (Lt w.heap.size) v sl so) :
  Calls Tryz.prog 40 #[treeV T,.string k,aggV v sl so] w (PutPost F T k v w):=by
 have hcw:∀ W,Ext w W→Calls Tryz.prog 66 #[rootV T,aggE k v sl so] W (WithPostT F T k v W):=fun W hW=>
  withT_any (fun b hb=>Nat.lt_of_lt_of_le (hF b hb) hW.size) (hT.agree (hW.agree hF)) ok hc hkm ((hv.agree (hW.agree fun _ h=>h)).mono fun i hi=>Nat.lt_of_lt_of_le hi hW.size)
 have HW:=Lib.hid hcw
 have HF:=Lib.hid hF
 have HOK:=Lib.hid ok
 clear hF hT ok hv hcw
 go_enter Tryz.func40,Tryz.ntmps40
 go_wp2_with fail
 have hx3:Ext w (((w.alloc (.cells #[rootV T] 25)).alloc (.cells #[.int .i64 v.kind,.bool v.b,.int .i64 v.i,.string v.t,.slice sl.a v.l.length sl.c,.slice so.a v.ok.length so.c] 34)).alloc (.cells #[.pointer none] 25)):=(((Ext.refl w).alloc _ _).alloc _ _).alloc _ _
 have hb3:Blk (((w.alloc (.cells #[rootV T] 25)).alloc (.cells #[.int .i64 v.kind,.bool v.b,.int .i64 v.i,.string v.t,.slice sl.a v.l.length sl.c,.slice so.a v.ok.length so.c] 34)).alloc (.cells #[.pointer none] 25)) (w.heap.size+1+1) 25 #[.pointer none]:=by
  have:=Blk.new ((w.alloc (.cells #[rootV T] 25)).alloc (.cells #[.int .i64 v.kind,.bool v.b,.int .i64 v.i,.string v.t,.slice sl.a v.l.length sl.c,.slice so.a v.ok.length so.c] 34)) 25 #[.pointer none]
  simpa using this
 generalize hW3:World.alloc _ _=W3 at *
 have hz3:W3.heap.size=w.heap.size+1+1+1:=by rw [←hW3];simp
 clear hW3
 refine (HW.out _ hx3).mono ?_
 rintro e w4 ⟨h,a,r,rs,rfl,hr,hwr,hwn,hx4⟩
 have hb4:=hb3.ext hx4
 have hX4:=hx3.trans hx4
 have q4:w4.cell? ⟨w.heap.size+1+1,0,none⟩=some (.pointer none):=hb4.cell 0
 have f4:=hb4.frozen 0
 have hl4:=hb4.lt
 have HWR:=Lib.hid hwr
 have HWN:=Lib.hid hwn
 have HX:=Lib.hid hX4
 have HXX:=Lib.hid hx4
 have HB4:=Lib.hid hb4
 have hnF:∀ W',¬Up F W3 W' (w.heap.size+1+1):=fun W' hf=>by
  rcases hf with hf | hf
  ·have:=HF.out _ hf;omega
  have:=hf.1;omega
 have HNF:=Lib.hid hnF
 have hwW:w.heap.size≤W3.heap.size:=by omega
 clear hb3 hb4 hwr hwn hX4 hx3 hx4 hnF
 rcases hr with ⟨rfl,rfl⟩ | ⟨b,rfl,rfl⟩
 ·go_wp2_with fail
  have q0:(w4.setCell ⟨w.heap.size+1+1,0,none⟩ (ptr h a)).cell? ⟨w.heap.size+1+1,0,none⟩=some (ptr h a):=World.cell?_setCell_same w4 _ _ q4
  refine bodyPost_ret (v:=treeV (some ⟨h,a⟩)) (by simp [results,Tryz.results40,go_sem,q0];rfl) rfl ?_
  refine ⟨some ⟨h,a⟩,rfl,.one ?_,?_,HX.out.setCell (p:=⟨w.heap.size+1+1,0,none⟩) (by show w.heap.size≤w.heap.size+1+1;omega) _⟩
  ·exact HWR.out.mono hwW
  show IsN _ _ h a
  refine ((HWN.out a (by simp)).agree (Agree.setCell w4 ⟨w.heap.size+1+1,0,none⟩ _ (HNF.out w4))).mono fun i hi=>hi.elim .inl fun hi=>.inr ⟨Nat.le_trans hwW hi.1,by rw [World.size_setCell];exact hi.2⟩
 have hE5:Ext w4 (w4.alloc (.cells #[ptr h a,ptr h b] 23)):=(Ext.refl _).alloc _ _
 have hb5:Blk (w4.alloc (.cells #[ptr h a,ptr h b] 23)) w4.heap.size 23 (ptrs h [a,b]).toArray:=Blk.new w4 23 #[ptr h a,ptr h b]
 have hz5:(w4.alloc (.cells #[ptr h a,ptr h b] 23)).heap.size=w4.heap.size+1:=by simp
 go_wp2_with fail
 change Calls _ _ _ (w4.alloc (.cells #[ptr h a,ptr h b] 23)) _
 generalize w4.alloc (.cells #[ptr h a,ptr h b] 23)=W5 at *
 have he:=HWR.out.ents HOK.out
 have hko:=HWR.out.ok HOK.out
 have hps:∀ x∈[a,b],0<(ents h x).length:=fun x hx=>ents_pos h x (hko.1 x hx).1 (hko.1 x hx).2
 have hso:Sorted ([a,b].flatMap (ents h)):=by rw [he];exact insE_sorted HOK.out.sorted k v
 have hkids:Kids W5 (Up F W3 W5) h [a,b]:=by
  refine ⟨fun b hb=>hb.elim (fun h=>Nat.lt_of_lt_of_le (HF.out b h) (by have:=HX.out.size;omega)) fun h=>h.2,fun x hx=>?_,rising_of hso hps,hps,fun x hx=>by have:=size_le8 (hko.1 x hx).1;omega,by
   have:=insE_len (entsT T) k v
   unfold cnt;rw [he];omega,by have:=HWR.out.height HOK.out;omega⟩
  exact ((HWN.out x hx).agree (hE5.agree fun i hi=>hi.elim (fun h=>Nat.lt_of_lt_of_le (HF.out i h) HX.out.size) fun h=>h.2)).mono fun i hi=>hi.elim .inl fun hi=>.inr ⟨hi.1,by omega⟩
 have hin:=tinner_any (w:=W5) (n:=2) (s:=⟨some ⟨w4.heap.size,0,none⟩,2⟩) ((Rd.of_blk hb5 (by simp [ptrs];decide)).mono fun i hi=>by subst hi;omega) rfl hkids (by simp) (by simp)
 have HE5:=Lib.hid hE5
 clear hE5 hb5 he hko hps hso hkids
 refine hin.mono ?_
 rintro e w6 ⟨c,rfl,hc2,hca,hcn,hx6⟩
 have HCN:=Lib.hid hcn
 have q6:w6.cell? ⟨w.heap.size+1+1,0,none⟩=some (.pointer none):=((HE5.out.trans hx6).cell hl4).trans q4
 have f6:w6.frozen? ⟨w.heap.size+1+1,0,none⟩=false:=((HE5.out.trans hx6).frozen hl4).trans f4
 have HX6:=Lib.hid hx6
 clear hin hcn q4 f4 hx6
 go_wp2_with fail
 have q0:(w6.setCell ⟨w.heap.size+1+1,0,none⟩ (ptr (h+1) c)).cell? ⟨w.heap.size+1+1,0,none⟩=some (ptr (h+1) c):=World.cell?_setCell_same w6 _ _ q6
 refine bodyPost_ret (v:=treeV (some ⟨h+1,c⟩)) (by simp [results,Tryz.results40,go_sem,q0];rfl) rfl ?_
 have hw5:w.heap.size≤W5.heap.size:=by have:=HX.out.size;omega
 refine ⟨some ⟨h+1,c⟩,rfl,.two (HWR.out.mono hwW) hc2 (Nat.le_trans hw5 hca),?_,((HX.out.trans HE5.out).trans HX6.out).setCell (p:=⟨w.heap.size+1+1,0,none⟩) (by show w.heap.size≤w.heap.size+1+1;omega) _⟩
 show IsN _ _ (h+1) c
 refine (HCN.out.agree (Agree.setCell w6 ⟨w.heap.size+1+1,0,none⟩ _ ?_)).mono fun i hi=>?_
 ·rintro (hf | hf)
  ·exact HNF.out W5 hf
  have:W5.heap.size≤w.heap.size+1+1:=hf.1
  omega
 rcases hi with (hi | hi) | hi
 ·exact .inl hi
 ·exact .inr ⟨Nat.le_trans hwW hi.1,by rw [World.size_setCell];exact Nat.lt_of_lt_of_le hi.2 HX6.out.size⟩
 exact .inr ⟨Nat.le_trans hw5 hi.1,by rw [World.size_setCell];exact hi.2⟩
theorem Blk.c3 {w:World} {g:Nat} {t:TypeId} {v0 v1 v2:Value} (h:Blk w g t #[v0,v1,v2]):w.cell? ⟨g,0,none⟩=some v0∧w.cell? ⟨g,1,none⟩=some v1∧w.cell? ⟨g,2,none⟩=some v2:=⟨h.cell 0,h.cell 1,h.cell 2⟩
theorem RV.flat (w:World) (F:Nat→Prop) (kind:Int) (b:Bool) (i:Int) (t:ByteArray) (hk:(Lit.int .i64 kind).wf=true) (hi:(Lit.int .i64 i).wf=true) (ht:t.size≤maxLen):RV w F (.mk kind b i t [] [] []) Sl.none Sl.none:=
 .mk 0 0 0 0 (fun _=>(Sl.none,Sl.none)) (fun _=>(Sl.none,Sl.none)) (.nil _ _) (.nil _ _) rfl (fun _ _ h=>by simp at h) (fun _ _ h=>by simp at h) (fun _ _ h=>by simp at h) (fun _ _ h=>by simp at h) (fun _ _ h=>by simp at h) hk hi ht (by simp) (by simp)
theorem IsT.lt {w:World} {F:Nat→Prop} {T:RT} (h:IsT w F T) {a:Nat} (ha:rootV T=.pointer (some ⟨a,0,none⟩)):a<w.heap.size:=by
 match T,h with
 | none,_=>cases ha
 | some ⟨n,t⟩,h=>
   simp only [rootV,ptr,Value.pointer.injEq,Option.some.injEq,Addr.mk.injEq,and_true] at ha
   subst ha
   obtain ⟨-,_,_,_,_,-,hb⟩:=IsN.cells h
   exact hb.lt
theorem pos_split (es:List Ent) (k:ByteArray) (hs:Sorted es):(∀ e∈es.take (posE es k),klt e.1 k=true)∧(∀ e∈es.drop (posE es k),klt e.1 k=false):=by
 have e1:es.take (posE es k)=es.takeWhile fun e=>klt e.1 k:=(List.prefix_iff_eq_take.1 (List.takeWhile_prefix (l:=es) (fun e:Ent=>klt e.1 k))).symm
 have e2:es.drop (posE es k)=es.dropWhile fun e=>klt e.1 k:=by
  have h1:=List.take_append_drop (posE es k) es
  rw [e1] at h1
  have h2:=List.takeWhile_append_dropWhile (p:=fun e:Ent=>klt e.1 k) (l:=es)
  exact List.append_cancel_left (h1.trans h2.symm)
 refine ⟨fun e he=>?_,fun e he=>?_⟩
 ·rw [e1] at he
  exact List.all_eq_true.1 (List.all_takeWhile (l:=es) (p:=fun e:Ent=>klt e.1 k)) e he
 have hsd:Sorted (es.drop (posE es k)):=List.Pairwise.sublist (List.drop_sublist _ _) hs
 rw [e2] at he hsd
 cases hd:es.dropWhile fun e=>klt e.1 k with
 | nil=>rw [hd] at he;cases he
 | cons x xs=>
   rw [hd] at he hsd
   have hx:klt x.1 k=false:=by
    have:=List.head?_dropWhile_not (fun e:Ent=>klt e.1 k) es
    rw [hd] at this
    simpa using this
   rcases List.mem_cons.1 he with rfl | he
   ·exact hx
   have:=(List.pairwise_cons.1 hsd).1 e he
   cases hc:klt e.1 k
   ·rfl
   rw [klt_trans this hc] at hx;cases hx
theorem getE_pos {es:List Ent} (hs:Sorted es) (k:ByteArray):getE es k=(es[posE es k]?).bind fun e=>if e.1=k then some e.2 else none:=by
 obtain ⟨hA,hB⟩:=pos_split es k hs
 have hsd:Sorted (es.drop (posE es k)):=List.Pairwise.sublist (List.drop_sublist _ _) hs
 conv=>lhs;rw [←List.take_append_drop (posE es k) es]
 rw [getE_app hA,←Nat.add_zero (posE es k),←List.getElem?_drop,Nat.add_zero]
 cases hd:es.drop (posE es k) with
 | nil=>rfl
 | cons x xs=>
   rw [hd] at hsd hB
   simp only [List.getElem?_cons_zero,Option.bind_some,getE]
   by_cases hx:x.1=k
   ·simp [hx]
   simp only [hx,if_false]
   refine getE_none fun e he=>?_
   have h1:=klt_of_not (hB x (List.mem_cons_self ..)) hx
   have h2:=klt_trans h1 ((List.pairwise_cons.1 hsd).1 e he)
   rintro rfl
   rw [klt_irrefl] at h2;cases h2
theorem delE_pos {es:List Ent} (hs:Sorted es) (k:ByteArray):delE es k=if (es[posE es k]?).map Prod.fst=some k then es.take (posE es k)++es.drop (posE es k+1) else es:=by
 obtain ⟨hA,hB⟩:=pos_split es k hs
 conv=>lhs;rw [←List.take_append_drop (posE es k) es]
 rw [delE_app hA,delE_at hB,List.head?_drop,List.tail_drop]
 split
 ·rfl
 rw [List.take_append_drop]
def GetPost (o:Option Val) (w:World) (e:Ending) (w':World):Prop:=
 ∃ sl so,e=.returned (.tuple #[aggV (o.getD zeroV) sl so,.bool o.isSome])∧Ext w w'∧RV w' (In w.heap.size w'.heap.size) (o.getD zeroV) sl so
/-- The closure of get. -/
theorem get1_any {W:World} {nv:Value} {b1 b2:Nat} {k k':ByteArray} {v:Val} {i:Nat} (h1:W.cell? ⟨b1,0,none⟩=some nv) (h2:W.cell? ⟨b2,0,none⟩=some (.string k))
  (hp:∃ p,nv=.pointer p) (hc:Calls Tryz.prog 75 #[nv,.int .i64 i] W (EntryPost k' v W)) :
  Calls Tryz.prog 74 #[.int .i64 i,.pointer (some ⟨b1,0,none⟩),.pointer (some ⟨b2,0,none⟩)] W fun e w'=>e=.returned (.bool !(klt k' k))∧Ext W w':=by
 obtain ⟨p,rfl⟩:=hp
 have hb2:=World.block_lt_of_cell? W _ h2
 go_enter Tryz.func74,Tryz.ntmps74
 go_wp2_with fail
 refine hc.mono ?_
 rintro e w1 ⟨sl,so,rfl,hx,-⟩
 have q2:=(hx.cell hb2).trans h2
 have l2:b2<w1.heap.size:=Nat.lt_of_lt_of_le hb2 hx.size
 have HX:=Lib.hid hx
 clear hc hx h2
 go_wp2
 go_ret
 exact ⟨rfl,HX.out.alloc _ _⟩
structure GetS (w:World) (nv:Value) (k:ByteArray) (W:World):Prop where
 ext:Ext w W
 b0:Blk W w.heap.size 23 #[nv]
 b1:Blk W (w.heap.size+1) 9 #[.string k]
 b2:Blk W (w.heap.size+1+1) 34 #[.int .i64 0,.bool false,.int .i64 0,.string ByteArray.empty,.slice none 0 0,.slice none 0 0]
theorem GetS.step {w W W':World} {nv:Value} {k:ByteArray} (h:GetS w nv k W) (he:Ext W W'):GetS w nv k W':=⟨h.ext.trans he,h.b0.ext he,h.b1.ext he,h.b2.ext he⟩
theorem entry_nil (w:World) (i:Int):Calls Tryz.prog 75 #[.pointer none,.int .i64 i] w fun e w'=>e=.returned (.tuple #[aggE ByteArray.empty zeroV Sl.none Sl.none,.bool false])∧Ext w w':=by
 go_enter Tryz.func75,Tryz.ntmps75
 go_wp2_with fail
 refine bodyPost_ret (v:=.tuple #[aggE ByteArray.empty zeroV Sl.none Sl.none,.bool false]) (by simp [results,Tryz.results75,go_sem];exact ⟨rfl,rfl,rfl,rfl,rfl,rfl,rfl⟩) rfl ⟨rfl,(Ext.refl w).alloc _ _⟩
theorem get_leaf {w:World} {nv:Value} {es:List Ent} (hp:∃ p,nv=.pointer p) (hh:∀ W,Ext w W→Calls Tryz.prog 69 #[nv] W fun e w'=>e=.returned (.int .i64 0)∧W=w')
  (hz:∀ W,Ext w W→Calls Tryz.prog 73 #[nv] W fun e w'=>e=.returned (.int .i64 es.length)∧∃ q,w'=W.drewN q)
  (he:∀ W,Ext w W→∀ (i:Nat) (e:Ent),es[i]? = some e→Calls Tryz.prog 75 #[nv,.int .i64 i] W (EntryPost e.1 e.2 W))
  (hno:∀ W,Ext w W→∀ i:Nat,es.length≤i→Calls Tryz.prog 75 #[nv,.int .i64 i] W fun e w'=>e=.returned (.tuple #[aggE ByteArray.empty zeroV Sl.none Sl.none,.bool false])∧Ext W w')
  (hs:Sorted es) (hl:es.length≤1000) (k:ByteArray):Calls Tryz.prog 42 #[nv,.string k] w (GetPost (getE es k) w):=by
 have HH:=Lib.hid hh
 have HZ:=Lib.hid hz
 have HE:=Lib.hid he
 have HNO:=Lib.hid hno
 have HS:=Lib.hid hs
 obtain ⟨pp,rfl⟩:=hp
 clear hh hz he hno hs
 have hsr:∀ W,GetS w (.pointer pp) k W→Calls Tryz.prog 72 #[.int .i64 es.length,.func (.func 74) #[] #[.pointer (some ⟨w.heap.size,0,none⟩),.pointer (some ⟨w.heap.size+1,0,none⟩)]] W (SearchPost es.length (fun i=>!(klt ((es[i]?.map Prod.fst).getD ByteArray.empty) k)) W):=by
  intro W hW
  refine search_any 74 _ _ es.length _ W (enters_of Tryz.func74 (by kernel_rfl) rfl) (by omega) ?_ ?_
  ·intro i W' hi hW'
   obtain ⟨x,hx⟩:∃ x,es[i]? = some x:=⟨_,List.getElem?_eq_getElem hi⟩
   rw [hx]
   have hS:=hW.step hW'
   exact get1_any (hS.b0.cell 0) (hS.b1.cell 0) ⟨_,rfl⟩ (HE.out W' hS.ext i x hx)
  intro i j hij hj hpi
  by_cases hij':i=j
  ·subst hij';exact hpi
  obtain ⟨x,hx⟩:∃ x,es[i]? = some x:=⟨_,List.getElem?_eq_getElem (by omega)⟩
  obtain ⟨y,hy⟩:∃ y,es[j]? = some y:=⟨_,List.getElem?_eq_getElem hj⟩
  have hxy:=sorted_lt HS.out (i:=i) (j:=j) (by omega) hx hy
  rw [hx] at hpi;rw [hy]
  simp only [Option.map_some,Option.getD_some,Bool.not_eq_true'] at hpi ⊢
  cases hyk:klt y.1 k
  ·rfl
  have:=klt_trans hxy hyk
  rw [hpi] at this;cases this
 go_enter Tryz.func42,Tryz.ntmps42
 go_wp2_with fail
 generalize hW0:World.alloc _ _=W0
 obtain ⟨hx0,hz0,hb0,hb1,hb2⟩:=three_blocks w _ _ _ _ _ _ W0 hW0
 have hS0:GetS w (.pointer pp) k W0:=⟨hx0,hb0,hb1,hb2⟩
 have HS0:=Lib.hid hS0
 have q0:W0.cell? ⟨w.heap.size,0,none⟩=some (.pointer pp):=hb0.cell 0
 clear hW0 hb0 hb1 hb2 hS0
 refine (HH.out W0 hx0).mono ?_
 rintro e w1 ⟨rfl,rfl⟩
 go_wp2_with fail
 refine (HZ.out W0 hx0).mono ?_
 rintro e w1 ⟨rfl,q,rfl⟩
 go_wp2_with fail
 refine (hsr _ (HS0.out.step ((Ext.refl _).drewN q))).mono ?_
 rintro e w1 ⟨p,rfl,hp,hlo,hhi,he1⟩
 have hS1:=HS0.out.step (((Ext.refl _).drewN q).trans he1)
 have HS1:=Lib.hid hS1
 have r0:w1.cell? ⟨w.heap.size,0,none⟩=some (.pointer pp):=hS1.b0.cell 0
 have hpos:posE es k=p:=posE_of hp (fun i e hi he=>by
   have:(!(klt ((es[i]?.map Prod.fst).getD ByteArray.empty) k))=false:=hlo i hi
   rw [he] at this
   simpa using this) (fun e he=>by
   have:(!(klt ((es[p]?.map Prod.fst).getD ByteArray.empty) k))=true:=hhi p (Nat.le_refl _) (List.getElem?_eq_some_iff.1 he).1
   rw [he] at this
   simpa using this)
 have hget:getE es k=(es[p]?).bind fun e=>if e.1=k then some e.2 else none:=by rw [getE_pos HS.out,hpos]
 have HG:=Lib.hid hget
 clear hlo hhi hpos hsr he1 hS1 q0 hget hx0 hz0
 go_wp2_with fail
 by_cases hlt:p<es.length
 ·obtain ⟨x,hx⟩:∃ x,es[p]? = some x:=⟨_,List.getElem?_eq_getElem hlt⟩
  have hc:=HE.out w1 HS1.out.ext p x hx
  have HX:=Lib.hid hx
  clear hx
  refine hc.mono ?_
  rintro e w2 ⟨sl,so,rfl,hx2,hrv⟩
  have hS2:=HS1.out.step hx2
  have HS2:=Lib.hid hS2
  have q1:w2.cell? ⟨w.heap.size+1,0,none⟩=some (.string k):=hS2.b1.cell 0
  obtain ⟨c0,c1,c2,c3,c4,c5⟩:=hS2.b2.c6
  have f2:=hS2.b2.frozen
  have l2:=hS2.b2.lt
  have l1:w.heap.size+1<w2.heap.size:=by omega
  have HRV:=Lib.hid hrv
  clear hS2 hx2 hrv hc
  by_cases hk:x.1=k
  ·have hkb:(x.1.toList == k.toList)=true:=by rw [beq_toList];simpa using hk
   have hg:getE es k=some x.2:=by rw [HG.out,HX.out];simp [hk]
   have HGG:=Lib.hid hg
   clear hk hg
   go_wp2_with fail
   refine bodyPost_ret (v:=.tuple #[aggV x.2 sl so,.bool true]) (by simp [results,Tryz.results42,go_sem,c0,c1,c2,c3,c4,c5,l2]) rfl ?_
   have hE:=HS2.out.ext.putV (b:=w.heap.size+1+1) (by omega) 0 x.2 sl so
   have hr:=(HRV.out.mono (G:=In w.heap.size w2.heap.size) fun i hi=>⟨Nat.le_trans HS1.out.ext.size hi.1,hi.2⟩)
   have hr2:RV w2 (fun b=>In w.heap.size w2.heap.size b∧b≠w.heap.size+1+1) x.2 sl so:=HRV.out.mono fun i hi=>⟨⟨Nat.le_trans HS1.out.ext.size hi.1,hi.2⟩,by have:=HS1.out.b2.lt;have:=hi.1;omega⟩
   have hr3:=hr2.agree (putV_agree w2 (w.heap.size+1+1) 0 x.2 sl so (F:=fun b=>In w.heap.size w2.heap.size b∧b≠w.heap.size+1+1) (fun h=>h.2 rfl))
   refine ⟨sl,so,by rw [HGG.out];rfl,hE.alloc _ _,?_⟩
   rw [HGG.out]
   refine (hr3.agree (Agree.alloc _ _ (fun b hb=>by rw [putV_size];exact hb.1.2))).mono fun i hi=>⟨hi.1.1,?_⟩
   have:=hi.1.2
   simp;omega
  have hkb:(x.1.toList == k.toList)=false:=by rw [beq_toList];simpa using hk
  have hg:getE es k=none:=by rw [HG.out,HX.out];simp [hk]
  have HGG:=Lib.hid hg
  clear hk hg
  go_wp2_with fail
  refine bodyPost_ret (v:=.tuple #[aggV zeroV Sl.none Sl.none,.bool false]) (by simp [results,Tryz.results42,go_sem,c0,c1,c2,c3,c4,c5,l2];exact ⟨rfl,rfl,rfl,rfl,rfl,rfl⟩) rfl ?_
  have hE:=HS2.out.ext.putV (b:=w.heap.size+1+1) (by omega) 0 zeroV Sl.none Sl.none
  exact ⟨Sl.none,Sl.none,by rw [HGG.out];rfl,hE.alloc _ _,by rw [HGG.out];exact RV.flat _ _ _ _ _ _ rfl rfl (by decide)⟩
 have hnn:es[p]? = none:=List.getElem?_eq_none (by omega)
 have hg:getE es k=none:=by rw [HG.out,hnn];rfl
 have hc:=HNO.out w1 HS1.out.ext p (by omega)
 have HGG:=Lib.hid hg
 clear hg hnn
 refine hc.mono ?_
 rintro e w2 ⟨rfl,hx2⟩
 have hS2:=HS1.out.step hx2
 have HS2:=Lib.hid hS2
 obtain ⟨c0,c1,c2,c3,c4,c5⟩:=hS2.b2.c6
 have f2:=hS2.b2.frozen
 have l2:=hS2.b2.lt
 clear hS2 hx2 hc
 go_wp2_with fail
 refine bodyPost_ret (v:=.tuple #[aggV zeroV Sl.none Sl.none,.bool false]) (by simp [results,Tryz.results42,go_sem,c0,c1,c2,c3,c4,c5,l2];exact ⟨rfl,rfl,rfl,rfl,rfl,rfl⟩) rfl ?_
 have hE:=HS2.out.ext.putV (b:=w.heap.size+1+1) (by omega) 0 zeroV Sl.none Sl.none
 exact ⟨Sl.none,Sl.none,by rw [HGG.out];rfl,hE.alloc _ _,by rw [HGG.out];exact RV.flat _ _ _ _ _ _ rfl rfl (by decide)⟩
theorem get_nil (w:World) (k:ByteArray):Calls Tryz.prog 42 #[.pointer none,.string k] w (GetPost none w):=
 get_leaf (es:=[]) ⟨_,rfl⟩ (fun W _=>height_nil W) (fun W _=>(size_nil W).mono fun e w' ⟨h1,h2⟩=>⟨h1,0,h2.symm⟩) (fun W _ i e h=>by simp at h) (fun W _ i _=>entry_nil W i) List.Pairwise.nil (by simp) k
theorem get_zero {w:World} {t:PT 0} (hn:IsN w (Lt w.heap.size) 0 t) (ok:OkT 0 t) (hs:Sorted (ents 0 t)) (k:ByteArray):Calls Tryz.prog 42 #[ptr 0 t,.string k] w (GetPost (getE (ents 0 t) k) w):=by
 have ok8:(ents 0 t).length≤8:=ok
 exact get_leaf ⟨_,rfl⟩ (fun W hW=>height_any (hn.ext hW)) (fun W hW=>size_any (hn.ext hW) (Nat.le_trans ok8 (by decide))) (fun W hW i e h=>entry_any (hn.ext hW) h) (fun W hW i h=>entry_none (hn.ext hW) (.inr (Int.ofNat_le.2 h))) hs (Nat.le_trans ok8 (by decide)) k
theorem get_succ {h:Nat} {k:ByteArray}
  (ih:∀ (w:World) (F:Nat→Prop) (t:PT h),(∀ b,F b→b<w.heap.size)→IsN w F h t→OkT h t→Sorted (ents h t)→(ents h t).length≤1000000→Calls Tryz.prog 42 #[ptr h t,.string k] w (GetPost (getE (ents h t) k) w))
  {w:World} {F:Nat→Prop} {t:PT (h+1)} (hF:∀ b,F b→b<w.heap.size) (hn:IsN w F (h+1) t) (ok:OkT (h+1) t) (hs:Sorted (ents (h+1) t)) (hc:(ents (h+1) t).length≤1000000) :
  Calls Tryz.prog 42 #[ptr (h+1) t,.string k] w (GetPost (getE (ents (h+1) t) k) w):=by
 have hpos:=kids_pos ok
 have hh:h+1<1000000:=Nat.lt_of_lt_of_le (height_lt (h+1) t ok (by have:=ok.1;show 1≤t.2.length;omega)) hc
 obtain ⟨kid,hkid,hA,hC⟩:=which_split (h:=h) (ks:=t.2) hs hpos (by have:=ok.1;omega) k
 have hkm':=List.mem_of_getElem? hkid
 have hil:=(List.getElem?_eq_some_iff.1 hkid).1
 have hlen8:=ok.2.1
 have hks:∀ x∈t.2,IsN w F h x:=hn.2.choose_spec.2.2
 have hkc:(ents h kid).length≤1000000:=Nat.le_trans (by
  show _≤(t.2.flatMap (ents h)).length
  rw [take_mid hkid];simp only [List.flatMap_append,List.flatMap_cons,List.length_append];omega) hc
 have hge:getE (ents (h+1) t) k=getE (ents h kid) k:=getE_kid hkid hA hC
 rw [hge]
 have hih:∀ W,Ext w W→Calls Tryz.prog 42 #[ptr h kid,.string k] W (GetPost (getE (ents h kid) k) W):=fun W hW=>
  ih W F kid (fun b hb=>Nat.lt_of_lt_of_le (hF b hb) hW.size) ((hks kid hkm').agree (hW.agree hF)) (ok.2.2 kid hkm').1 (kid_sorted hs kid hkm') hkc
 generalize getE (ents h kid) k=og at *
 clear hge
 have HF:=Lib.hid hF
 have HN:=Lib.hid hn
 have HS:=Lib.hid hs
 have HP:=Lib.hid hpos
 have HIH:=Lib.hid hih
 have HKS:=Lib.hid hks
 have HKID:=Lib.hid hkid
 have hgt:(0:Int)<(h:Int)+1:=by omega
 clear hF hn ok hs hc hpos hih hks hkid hA hC ih hkc
 go_enter Tryz.func42,Tryz.ntmps42
 go_wp2_with fail
 generalize hW0:World.alloc _ _=W0
 obtain ⟨hx0,hz0,hb0,hb1,hb2⟩:=three_blocks w _ _ _ _ _ _ W0 hW0
 have hS0:GetS w (ptr (h+1) t) k W0:=⟨hx0,hb0,hb1,hb2⟩
 have HS0:=Lib.hid hS0
 have q0:W0.cell? ⟨w.heap.size,0,none⟩=some (ptr (h+1) t):=hb0.cell 0
 clear hW0 hb0 hb1 hb2 hS0
 have hnW:IsN W0 F (h+1) t:=HN.out.agree (hx0.agree HF.out)
 refine (height_any hnW).mono ?_
 rintro e w1 ⟨rfl,rfl⟩
 have hkc:=kids_any hnW (by omega)
 clear hnW
 go_wp2_with fail
 refine hkc.mono ?_
 rintro e w1 ⟨s',rfl,hown,hx1⟩
 have hS1:=HS0.out.step hx1
 have HS1:=Lib.hid hS1
 have hrd:Rd w1 (Lt w1.heap.size) 1 s' t.2.length (ptrs h t.2):=(Rd.of_own hown).mono fun i hi=>hi.2
 obtain ⟨g,cap,rfl,hbg,hnc,hcm,hfil⟩:=own_block hown (by omega)
 obtain ⟨i,hi⟩:∃ i,whichK h t.2 k=i:=⟨_,rfl⟩
 have hwh:∀ W,Ext w1 W→Calls Tryz.prog 71 #[.slice (some ⟨g,0,none⟩) t.2.length cap,.string k] W fun e w'=>e=.returned (.int .i64 i)∧Ext W w':=fun W hW=>by
  rw [←hi]
  exact which_any (s:=⟨some ⟨g,0,none⟩,cap⟩) ((hrd.agree (hW.agree fun _ h=>h)).mono fun i hi=>Nat.lt_of_lt_of_le hi hW.size) (fun x hx=>(HKS.out x hx).agree ((hS1.ext.trans hW).agree HF.out)) (fun b hb=>Nat.lt_of_lt_of_le (HF.out b hb) (hS1.ext.trans hW).size) HP.out k HS.out (by omega)
 have hkid:=HKID.out
 rw [hi] at hkid hil
 obtain ⟨b,o,hba,hbl,-,-,hbc⟩:=hrd.ptr_at hkid
 obtain ⟨rfl,rfl⟩:g=b∧0=o:=by simpa using hba
 have kc:w1.cell? ⟨g,i,none⟩=some (ptr h kid):=by simpa using hbc
 have k1:w1.cell? ⟨w.heap.size+1,0,none⟩=some (.string k):=hS1.b1.cell 0
 have hg1:g<w1.heap.size:=hbl
 have hgn:¬g=w.heap.size+1+1:=by omega
 have hgn':¬w.heap.size+1+1=g:=by omega
 clear hz0
 have l1:w.heap.size+1<w1.heap.size:=hS1.b1.lt
 have hii:(i:Int)<(t.2.length:Int):=by omega
 have hi0:(0:Int)≤(i:Int):=by omega
 have HWH:=Lib.hid hwh
 have HHI:=Lib.hid hi
 clear hwh hi hkid hbc hba hfil hown hrd hx1 hx0 hS1 hkc q0
 go_wp2_with fail
 go_region_held3 (fun w'=>w'.cell? ⟨g,i,none⟩=some (ptr h kid)∧w'.cell? ⟨w.heap.size+1,0,none⟩=some (.string k)) (first | (with_reducible exact ⟨g3,k3⟩) | (with_reducible exact ⟨g2,k2⟩) | go_keep)
  (first
    | (go_at_call 71;refine (HWH.out _ ?_).mono ?_;(exact ((Ext.refl _).drew));rintro e w2 ⟨rfl,hx2⟩;have g2:=(hx2.cell (o:=i) hg1).trans kc;have k2:=(hx2.cell (o:=0) l1).trans k1;have hg2:=Nat.lt_of_lt_of_le hg1 hx2.size;have l2:=Nat.lt_of_lt_of_le l1 hx2.size)
    | (go_at_call 42;refine (HIH.out _ ?_).mono ?_;(exact HS1.out.ext.trans (((Ext.refl _).drew).trans hx2));rintro e w3 ⟨sl,so,rfl,hx3,hrv⟩;have g3:=(hx3.cell (o:=i) hg2).trans g2;have k3:=(hx3.cell (o:=0) l2).trans k2;have hS3:=HS1.out.step ((((Ext.refl _).drew).trans hx2).trans hx3);obtain ⟨c0,c1,c2,c3,c4,c5⟩:=hS3.b2.c6;have f3:=hS3.b2.frozen;have HS3:=Lib.hid hS3;have HX3:=Lib.hid hx3;have HRV:=Lib.hid hrv;have HX2:=Lib.hid hx2;clear hS3 hx3 hrv hx2))
 go_wp2_with fail
 refine bodyPost_ret (v:=.tuple #[aggV (og.getD zeroV) sl so,.bool og.isSome]) (by simp [results,Tryz.results42,go_sem,c0,c1,c2,c3,c4,c5]) rfl ?_
 have hE:=HS3.out.ext.putV (b:=w.heap.size+1+1) (by omega) 0 (og.getD zeroV) sl so
 have hb2:=HS1.out.b2.lt
 have hX2:=HX2.out.size
 have hX3:=HX3.out.size
 have hE1:=HS1.out.ext.size
 rw [World.size_drew] at hX2
 have hr2:RV w3 (fun b=>In w.heap.size w3.heap.size b∧b≠w.heap.size+1+1) (og.getD zeroV) sl so:=HRV.out.mono fun i hi=>⟨⟨by have:=hi.1;omega,hi.2⟩,by have:=hi.1;omega⟩
 have hr3:=hr2.agree (putV_agree w3 (w.heap.size+1+1) 0 (og.getD zeroV) sl so (F:=fun b=>In w.heap.size w3.heap.size b∧b≠w.heap.size+1+1) (fun h=>h.2 rfl))
 exact ⟨sl,so,rfl,hE,hr3.mono fun i hi=>⟨hi.1.1,by have:=hi.1.2;simpa using this⟩⟩
theorem get_any {k:ByteArray}:∀ (h:Nat) (w:World) (F:Nat→Prop) (t:PT h),(∀ b,F b→b<w.heap.size)→IsN w F h t→OkT h t→Sorted (ents h t)→(ents h t).length≤1000000→Calls Tryz.prog 42 #[ptr h t,.string k] w (GetPost (getE (ents h t) k) w)
 | 0,w,F,t,hF,hn,ok,hs,_=>get_zero (hn.mono hF) ok hs k
 | h+1,w,F,t,hF,hn,ok,hs,hc=>get_succ (fun w F t a b c d e=>get_any h w F t a b c d e) hF hn ok hs hc
theorem getPost_end {w w3:World} {b lo:Nat} {og:Option Val} {sl so:Sl} (hE:Ext w w3) (hb:w.heap.size≤b) (hlt:b<lo) (hr:RV w3 (In lo w3.heap.size) (og.getD zeroV) sl so) :
  GetPost og w (.returned (.tuple #[aggV (og.getD zeroV) sl so,.bool og.isSome])) (putV w3 b 0 (og.getD zeroV) sl so):=by
 refine ⟨sl,so,rfl,hE.putV hb _ _ _ _,?_⟩
 rw [putV_size]
 exact (hr.agree (putV_agree w3 b 0 (og.getD zeroV) sl so (by omega))).mono fun i hi=>⟨by omega,hi.2⟩
theorem two_blocks (w:World) (t0 t1:TypeId) (c0 c1:Array Value):∀ W,(w.alloc (.cells c0 t0)).alloc (.cells c1 t1)=W→
  Ext w W∧W.heap.size=w.heap.size+2∧Blk W w.heap.size t0 c0∧Blk W (w.heap.size+1) t1 c1:=by
 rintro W rfl
 refine ⟨((Ext.refl w).alloc _ _).alloc _ _,by simp,(Blk.new w t0 c0).alloc _,?_⟩
 have h:=Blk.new (w.alloc (.cells c0 t0)) t1 c1
 rw [World.size_alloc] at h;exact h
theorem getR_any {w:World} {F:Nat→Prop} {T:RT} (hF:∀ b,F b→b<w.heap.size) (hT:IsT w F T) (ok:OkR T) (hc:(entsT T).length≤1000000) (k:ByteArray) :
  Calls Tryz.prog 42 #[rootV T,.string k] w (GetPost (getE (entsT T) k) w):=by
 match T,hT,ok,hc with
 | none,_,_,_=>exact get_nil w k
 | some ⟨h,t⟩,hT,ok,hc=>exact get_any h w F t hF hT ok.1 ok.2.2 hc
theorem treeGet_any {w:World} {F:Nat→Prop} {T:RT} (hF:∀ b,F b→b<w.heap.size) (hT:IsT w F T) (ok:OkR T) (hc:(entsT T).length≤1000000) (k:ByteArray) :
  Calls Tryz.prog 13 #[treeV T,.string k] w (GetPost (getE (entsT T) k) w):=by
 have hcw:∀ W,Ext w W→Calls Tryz.prog 42 #[rootV T,.string k] W (GetPost (getE (entsT T) k) W):=fun W hW=>
  getR_any (fun b hb=>Nat.lt_of_lt_of_le (hF b hb) hW.size) (hT.agree (hW.agree hF)) ok hc k
 generalize getE (entsT T) k=og at *
 have HW:=Lib.hid hcw
 clear hF hT ok hcw
 go_enter Tryz.func13,Tryz.ntmps13
 go_wp2_with fail
 generalize hW0:World.alloc _ _=W0
 obtain ⟨hx0,hz0,-,hb1⟩:=two_blocks w _ _ _ _ W0 hW0
 have HZ:=Lib.hid hz0
 have HX0:=Lib.hid hx0
 clear hW0 hz0
 refine (HW.out W0 hx0).mono ?_
 rintro e w1 ⟨sl,so,rfl,hx1,hrv⟩
 have hb:=hb1.ext hx1
 obtain ⟨c0,c1,c2,c3,c4,c5⟩:=hb.c6
 have f2:=hb.frozen
 have HX1:=Lib.hid hx1
 have HRV:=Lib.hid hrv
 clear hb hb1 hx1 hrv hx0
 go_wp2_with fail
 refine bodyPost_ret (v:=.tuple #[aggV (og.getD zeroV) sl so,.bool og.isSome]) (by simp [results,Tryz.results13,go_sem,c0,c1,c2,c3,c4,c5]) rfl ?_
 exact getPost_end (HX0.out.trans HX1.out) (b:=w.heap.size+1) (lo:=W0.heap.size) (by omega) (by rw [HZ.out];omega) HRV.out
def GatherPost (base:Nat) (s:Sl) (xs:List LE) (es:List Ent) (w:World) (e:Ending) (w':World):Prop:=
 ∃ (s':Sl) (ys:List LE),e=.returned (.slice s'.a (xs.length+ys.length) s'.c)∧OE w' base s' (xs++ys)∧ys.map LE.ent=es∧Wr w w' s.row∧(s'.row=s.row∨∃ b,s'.row=some b∧w.heap.size≤b)
theorem OE.append {w w':World} {base:Nat} {s s':Sl} {xs ys:List LE} {F:Nat→Prop} (ho:OE w base s xs) (hv:Vals w F ys) (hF:∀ b,F b→base≤b∧b<w.heap.size∧s.row≠some b) (hf:(xs.length+ys.length)*104≤140737488355328)
  (hown:w'.ownsRow base 64 7 (.slice s'.a (xs.length+ys.length) s'.c) (xs.length+ys.length) (flatE xs++flatE ys)) (hwr:Wr w w' s.row) (hs':s'.row=s.row∨∃ b,s'.row=some b∧w.heap.size≤b):OE w' base s' (xs++ys):=by
 have hnew:∀ b,b<w.heap.size→s.row≠some b→s'.row≠some b:=fun b hb hn he=>by
  rcases hs' with h | ⟨g,h,hg⟩
  ·exact hn (h▸he)
  rw [h] at he;simp at he;omega
 have hag:Agree (fun b=>(base≤b∧b<w.heap.size)∧s.row≠some b) w w':=hwr.agree (fun i hi=>hi.1.2) (fun k hk h=>h.2 hk)
 refine ⟨by rw [List.length_append,flatE_app];exact hown,fun x hx=>?_,by rw [List.length_append];exact hf⟩
 have hup:∀ i,((base≤i∧i<w.heap.size)∧s.row≠some i)→(base≤i∧i<w'.heap.size)∧s'.row≠some i:=fun i hi=>⟨⟨hi.1.1,Nat.lt_of_lt_of_le hi.1.2 hwr.grown.size⟩,hnew i hi.1.2 hi.2⟩
 rcases List.mem_append.1 hx with hx | hx
 ·exact ⟨((ho.vals x hx).1.agree hag).mono hup,(ho.vals x hx).2⟩
 exact ⟨(((hv x hx).1.mono fun i hi=>⟨⟨(hF i hi).1,(hF i hi).2.1⟩,(hF i hi).2.2⟩).agree hag).mono hup,(hv x hx).2⟩
theorem EntriesPost.base {es:List Ent} {w:World} {e:Ending} {w':World} (h:EntriesPost es w e w'):∃ (s:Sl) (ys:List LE),e=.returned (.slice s.a ys.length s.c)∧ys.map LE.ent=es∧OE w' w.heap.size s ys∧Ext w w':=h
theorem ext_wr {w w':World} (h:Ext w w') (r:Option Nat):Wr w w' r:=⟨⟨h.below.os,h.below.tape,h.below.output,h.size,fun k hk _=>h.heap hk⟩,h.fz⟩
theorem gather_zero {w:World} {nv:Value} {es:List Ent} {base:Nat} {s:Sl} {xs:List LE} (he:Calls Tryz.prog 88 #[nv] w (EntriesPost es w)) (hk:∀ W,Wr w W s.row→Calls Tryz.prog 70 #[nv] W fun e w'=>e=.returned (.slice none 0 0)∧W=w')
  (hb:base≤w.heap.size) (ho:OE w base s xs) (hl:xs.length+es.length≤1000000):Calls Tryz.prog 55 #[.slice s.a xs.length s.c,nv] w (GatherPost base s xs es w):=by
 obtain ⟨i0,hi,hz0,hz1,hz2⟩:=info_parts Tryz.infoEntry
 have HK:=Lib.hid hk
 have HO:=Lib.hid ho
 clear hk ho
 go_enter Tryz.func55,Tryz.ntmps55
 go_wp2_with fail
 refine he.mono ?_
 intro e w1 hp
 obtain ⟨sy,ys,rfl,hys,hoy,hx1⟩:=hp.base
 have hyl:ys.length=es.length:=by rw [←hys,List.length_map]
 have ho1:=HO.out.ext hx1
 have HO1:=Lib.hid ho1
 have HX1:=Lib.hid hx1
 have HOY:=Lib.hid hoy
 have HYS:=Lib.hid hys
 have h63:xs.length+ys.length≤maxLen:=by unfold maxLen;omega
 have hb1:base≤w1.heap.size:=Nat.le_trans hb hx1.size
 have hby:(xs.length+ys.length)*104≤140737488355328:=by omega
 clear hp hys hoy hx1 ho1 hyl
 go_wp2_with (at_builtin;refine wpList_append_x _ rfl (.tmp 7) (.tmp 9) 48 rfl base 64 i0 _ 7 104 Tryz.underlying48 hi hz0 hz1 hz2 rfl (by decide) s xs.length (flatE xs) rfl HO1.out.own (In w.heap.size w1.heap.size) sy ys.length (flatE ys) rfl HOY.out.es.rd (flatE_one ys) h63 hby hb1 ?_;intro s' w2 hown hwr hs')
 have hs2:s'.row=s.row∨∃ b,s'.row=some b∧w1.heap.size≤b:=by
  rcases hs' with h | ⟨h,-⟩
  ·exact .inl (by simp [Sl.row,h])
  exact .inr ⟨w1.heap.size,by simp [Sl.row,h],Nat.le_refl _⟩
 have hrow:∀ b,s.row=some b→b<w.heap.size:=fun b hb=>(own_row HO.out.own hb).2
 have ho2:=OE.append HO1.out HOY.out.es.vals (fun b hb=>⟨Nat.le_trans ‹base≤w.heap.size› hb.1,hb.2,fun e=>by have:=hrow b e;omega⟩) hby hown hwr hs2
 have HO2:=Lib.hid ho2
 have HW:=Lib.hid ((ext_wr HX1.out s.row).trans hwr (fun i hi=>.inl hi))
 have HS2:=Lib.hid hs2
 have hx1s:=HX1.out.size
 clear ho2 hown hwr hs' hs2 hrow
 refine (HK.out w2 HW.out).mono ?_
 rintro e w3 ⟨rfl,rfl⟩
 go_wp2_with fail
 go_loopw [0,14] (fun v i wr=>v=.slice s'.a (xs.length+ys.length) s'.c∧i=.int .i64 0∧wr=w2) (fun _ _ _=>0)
 case atStart=>exact ⟨rfl,rfl,rfl⟩
 obtain ⟨rfl,rfl,rfl⟩:=hrel
 go_wp2_with fail
 go_ret
 exact ⟨s',ys,rfl,HO2.out,HYS.out,HW.out,HS2.out.imp_right fun ⟨b,h1,h2⟩=>⟨b,h1,Nat.le_trans hx1s h2⟩⟩
structure GathS (base:Nat) (s:Sl) (xs:List LE) (w wr:World) (s':Sl) (ys:List LE):Prop where
 own:OE wr base s' (xs++ys)
 wr:Wr w wr s.row
 row:s'.row=s.row∨∃ b,s'.row=some b∧w.heap.size≤b
theorem gather_succ {h:Nat} (ih:∀ (t:PT h) (w:World) (F:Nat→Prop) (base:Nat) (s:Sl) (xs:List LE),IsN w F h t→(∀ b,F b→b<w.heap.size∧s.row≠some b)→base≤w.heap.size→OE w base s xs→OkT h t→xs.length+(ents h t).length≤1000000→Calls Tryz.prog 55 #[.slice s.a xs.length s.c,ptr h t] w (GatherPost base s xs (ents h t) w))
  {t:PT (h+1)} {w:World} {F:Nat→Prop} {base:Nat} {s:Sl} {xs:List LE} (hn:IsN w F (h+1) t) (hF:∀ b,F b→b<w.heap.size∧s.row≠some b) (hb:base≤w.heap.size) (ho:OE w base s xs) (ok:OkT (h+1) t) (hl:xs.length+(ents (h+1) t).length≤1000000) :
  Calls Tryz.prog 55 #[.slice s.a xs.length s.c,ptr (h+1) t] w (GatherPost base s xs (ents (h+1) t) w):=by
 obtain ⟨i0,hi,hz0,hz1,hz2⟩:=info_parts Tryz.infoEntry
 have hlen8:=ok.2.1
 have hlen2:=ok.1
 have hc:=kids_any hn (by omega)
 have hks:∀ x∈t.2,IsN w F h x:=hn.2.choose_spec.2.2
 have he:=entries_inner hn
 have HIH:=Lib.hid ih
 have HO:=Lib.hid ho
 have HF:=Lib.hid hF
 have HKS:=Lib.hid hks
 have HOK:=Lib.hid ok
 have HL:=Lib.hid hl
 have h63:xs.length+0≤maxLen:=by unfold maxLen;omega
 have hby:(xs.length+0)*104≤140737488355328:=by omega
 have hn0:=Lib.hid hn
 clear ih ho hF hks ok hl hn hc
 go_enter Tryz.func55,Tryz.ntmps55
 go_wp2_with fail
 refine he.mono ?_
 rintro e w1 ⟨rfl,rfl⟩
 go_wp2_with (at_builtin;refine wpList_append_x _ rfl (.tmp 7) (.tmp 9) 48 rfl base 64 i0 _ 7 104 Tryz.underlying48 hi hz0 hz1 hz2 rfl (by decide) s xs.length (flatE xs) rfl HO.out.own (fun _=>True) Sl.none 0 [] rfl (Rd.nil _ _ _) (by simp) h63 hby hb ?_;intro s' w2 hown hwr hs')
 have hs2:s'.row=s.row∨∃ b,s'.row=some b∧w.heap.size≤b:=by
  rcases hs' with h | ⟨h,-⟩
  ·exact .inl (by simp [Sl.row,h])
  exact .inr ⟨w.heap.size,by simp [Sl.row,h],Nat.le_refl _⟩
 have ho2:OE w2 base s' (xs++[]):=OE.append (F:=fun _=>False) HO.out (fun x hx=>by simp at hx) (fun b hb=>hb.elim) hby (by simpa [flatE_nil] using hown) hwr hs2
 rw [List.append_nil] at ho2
 have hrow2:∀ b,s'.row=some b→b<w2.heap.size:=fun b hb=>(own_row ho2.own hb).2
 have hnW:IsN w2 F (h+1) t:=hn0.out.agree (hwr.agree (fun i hi=>(HF.out i hi).1) (fun k hk h=>(HF.out k h).2 hk))
 have hkc:=kids_any hnW (by omega)
 have HG0:=Lib.hid (show GathS base s xs w w2 s' [] from ⟨by rw [List.append_nil];exact ho2,hwr,hs2⟩)
 clear hs' hown ho2 hwr hs2 hnW
 refine hkc.mono ?_
 rintro e w3 ⟨sk,rfl,hown,hx3⟩
 obtain ⟨g,cap,rfl,hbg,hnc,hcm,hfil⟩:=own_block hown (by omega)
 have hrd:Rd w3 (fun b=>b=g) 1 ⟨some ⟨g,0,none⟩,cap⟩ t.2.length (ptrs h t.2):=by
  obtain ⟨b,o,h1,h2,h3⟩:=Rd.of_own hown
  obtain ⟨e1,hnc,hcm⟩:=h1.eq (by omega)
  obtain ⟨rfl,rfl⟩:g=b∧0=o:=by simpa using e1
  exact ⟨g,0,.some _ _ _ _ hnc hcm rfl,h2,h3⟩
 have hgr:s'.row≠some g:=fun e=>by have:=hrow2 g e;omega
 have hgl:g<w3.heap.size:=hfil.lt
 have HG3:=Lib.hid (show GathS base s xs w w3 s' [] from ⟨HG0.out.own.ext hx3,HG0.out.wr.trans (ext_wr hx3 none) (fun i hi=>by cases hi),HG0.out.row⟩)
 have HRD:=Lib.hid hrd
 clear hfil hown hx3 hrd hkc hrow2 HG0
 go_wp2_with fail
 go_loopw [0,14] (fun v i wr=>∃ (j:Nat) (s'':Sl) (ys:List LE),j≤t.2.length∧i=.int .i64 j∧v=.slice s''.a (xs.length+ys.length) s''.c∧ys.map LE.ent=(t.2.take j).flatMap (ents h)∧GathS base s xs w wr s'' ys∧Rd wr (fun b=>b=g) 1 ⟨some ⟨g,0,none⟩,cap⟩ t.2.length (ptrs h t.2)∧s''.row≠some g∧g<wr.heap.size)
  (fun _ i _=>t.2.length - (intOf i).toNat)
 case atStart=>exact ⟨0,s',[],Nat.zero_le _,rfl,rfl,rfl,HG3.out,HRD.out,hgr,hgl⟩
 obtain ⟨j,s'',ys,hj,rfl,rfl,hys,hG,hrd,hgr',hgl'⟩:=hrel
 have HYS:=Lib.hid hys
 have HG:=Lib.hid hG
 have HR:=Lib.hid hrd
 by_cases hlt:j<t.2.length
 ·obtain ⟨kid,hkid⟩:∃ kid,t.2[j]? = some kid:=⟨_,List.getElem?_eq_getElem hlt⟩
  obtain ⟨b,o,hba,-,-,-,hbc⟩:=hrd.ptr_at hkid
  obtain ⟨rfl,rfl⟩:g=b∧0=o:=by simpa using hba
  have kc:wr.cell? ⟨g,j,none⟩=some (ptr h kid):=by simpa using hbc
  have hjl:(j:Int)<(t.2.length:Int):=by omega
  have hkm:=List.mem_of_getElem? hkid
  have hlen:ys.length+(ents h kid).length≤(ents (h+1) t).length:=by
   have e1:ys.length=((t.2.take j).flatMap (ents h)).length:=by rw [←hys,List.length_map]
   show _≤(t.2.flatMap (ents h)).length
   rw [e1]
   conv=>rhs;rw [take_mid hkid]
   simp only [List.flatMap_append,List.flatMap_cons,List.length_append];omega
  have hic:=HIH.out kid wr F base s'' (xs++ys) ((HKS.out kid hkm).agree (hG.wr.agree (fun i hi=>(HF.out i hi).1) (fun k hk h=>(HF.out k h).2 hk)))
   (fun b hb=>⟨Nat.lt_of_lt_of_le (HF.out b hb).1 hG.wr.grown.size,fun e=>by
     rcases hG.row with h | ⟨b',h,hb'⟩
     ·exact (HF.out b hb).2 (h▸e)
     rw [h] at e;simp at e;have:=(HF.out b hb).1;omega⟩)
   (Nat.le_trans hb hG.wr.grown.size) hG.own (HOK.out.2.2 kid hkm).1 (by have:=HL.out;rw [List.length_append];omega)
  rw [List.length_append] at hic
  have HK:=Lib.hid hkid
  clear hys hG hrd hkid hba hbc hkm hlen
  go_wp2_with fail
  refine hic.mono ?_
  rintro e w4 ⟨s4,zs,rfl,ho4,hz4,hw4,hr4⟩
  have HZ:=Lib.hid hz4
  have hg4:s4.row≠some g:=fun e=>by
   rcases hr4 with h | ⟨b',h,hb'⟩
   ·exact hgr' (h▸e)
   rw [h] at e;simp at e;omega
  have hG4:GathS base s xs w w4 s4 (ys++zs):=by
   refine ⟨by rw [←List.append_assoc];exact ho4,HG.out.wr.trans hw4 (fun i hi=>?_),?_⟩
   ·rcases HG.out.row with h | ⟨b',h,hb'⟩
    ·exact .inl (h▸hi)
    rw [h] at hi;simp at hi;exact .inr (by omega)
   rcases hr4 with h | ⟨b',h,hb'⟩
   ·rw [h];exact HG.out.row
   exact .inr ⟨b',h,Nat.le_trans HG.out.wr.grown.size hb'⟩
  have hR4:=HR.out.agree (hw4.agree (F:=fun b=>b=g) (fun i hi=>by omega) (fun k hk e=>hgr' (e▸hk)))
  have hgl4:g<w4.heap.size:=Nat.lt_of_lt_of_le hgl' hw4.grown.size
  have HG4:=Lib.hid hG4
  have HR4:=Lib.hid hR4
  have hw1:(xs++ys).length+zs.length=xs.length+(ys++zs).length:=by simp [Nat.add_assoc]
  have HW1:=Lib.hid hw1
  clear hz4 ho4 hw4 hr4 hG4 hR4 hw1 hic
  go_wp2_with fail
  go_roundw
  case rel=>exact ⟨j+1,s4,ys++zs,hlt,by go_num,by rw [←HW1.out];simp,by rw [List.map_append,HYS.out,HZ.out,List.take_add_one,HK.out];simp,HG4.out,HR4.out,hg4,hgl4⟩
  simp [intOf];omega
 obtain rfl:j=t.2.length:=by omega
 clear hys hG hrd
 go_wp2_with fail
 go_ret
 exact ⟨s'',ys,rfl,HG.out.own,by rw [HYS.out,List.take_length];rfl,HG.out.wr,HG.out.row⟩
theorem gather_any:∀ (h:Nat) (t:PT h) (w:World) (F:Nat→Prop) (base:Nat) (s:Sl) (xs:List LE),IsN w F h t→(∀ b,F b→b<w.heap.size∧s.row≠some b)→base≤w.heap.size→OE w base s xs→OkT h t→xs.length+(ents h t).length≤1000000→Calls Tryz.prog 55 #[.slice s.a xs.length s.c,ptr h t] w (GatherPost base s xs (ents h t) w)
 | 0,t,w,F,base,s,xs,hn,hF,hb,ho,_,hl=>
   gather_zero (entries_any (hn.mono fun b hb=>(hF b hb).1)) (fun W hW=>kids_leaf (hn.agree (hW.agree (fun i hi=>(hF i hi).1) (fun k hk h=>(hF k h).2 hk)))) hb ho hl
 | h+1,t,w,F,base,s,xs,hn,hF,hb,ho,ok,hl=>gather_succ (gather_any h) hn hF hb ho ok hl
theorem kids_nil (w:World):Calls Tryz.prog 70 #[.pointer none] w fun e w'=>e=.returned (.slice none 0 0)∧w=w':=by
 go_enter Tryz.func70,Tryz.ntmps70
 go_wp2_with fail
 go_ret
 exact ⟨rfl,rfl⟩
theorem gatherR_any {T:RT} {w:World} {F:Nat→Prop} {base:Nat} {s:Sl} {xs:List LE} (hT:IsT w F T) (hF:∀ b,F b→b<w.heap.size∧s.row≠some b) (hb:base≤w.heap.size) (ho:OE w base s xs) (ok:OkR T) (hl:xs.length+(entsT T).length≤1000000) :
  Calls Tryz.prog 55 #[.slice s.a xs.length s.c,rootV T] w (GatherPost base s xs (entsT T) w):=by
 match T,hT,ok,hl with
 | none,_,_,hl=>exact gather_zero ((entries_nil w).mono fun e w' ⟨h1,h2⟩=>⟨Sl.none,[],h1,rfl,OE.nil _ _,h2▸Ext.refl w⟩) (fun W _=>kids_nil W) hb ho hl
 | some ⟨h,t⟩,hT,ok,hl=>exact gather_any h t w F base s xs hT hF hb ho ok.1 hl
theorem countR_any {w:World} {F:Nat→Prop} {T:RT} (hT:IsT w F T):Calls Tryz.prog 46 #[rootV T] w fun e w'=>e=.returned (.int .i64 (entsT T).length)∧w=w':=by
 match T,hT with
 | none,_=>exact count_nil w
 | some ⟨h,t⟩,hT=>exact count_any hT
theorem treeLen_any {w:World} {F:Nat→Prop} {T:RT} (hF:∀ b,F b→b<w.heap.size) (hT:IsT w F T):Calls Tryz.prog 19 #[treeV T] w fun e w'=>e=.returned (.int .i64 (entsT T).length)∧Ext w w':=by
 have hx:Ext w (w.alloc (.cells #[rootV T] 25)):=(Ext.refl w).alloc _ _
 have hc:=countR_any (hT.agree (hx.agree hF))
 clear hF hT
 go_enter Tryz.func19,Tryz.ntmps19
 go_wp2_with fail
 refine hc.mono ?_
 rintro e w' ⟨rfl,rfl⟩
 go_wp2_with fail
 go_ret
 exact ⟨rfl,hx⟩
theorem treeRoot_any (w:World) (v:Value):Calls Tryz.prog 122 #[.agg #[v]] w fun e w'=>e=.returned v∧Ext w w':=by
 go_enter Tryz.func122,Tryz.ntmps122
 go_wp2_with fail
 go_ret
 exact ⟨rfl,(Ext.refl w).alloc _ _⟩
theorem treeEntries_any {w:World} {F:Nat→Prop} {T:RT} (hF:∀ b,F b→b<w.heap.size) (hT:IsT w F T) (ok:OkR T) (hl:(entsT T).length≤1000000):Calls Tryz.prog 30 #[treeV T] w (EntriesPost (entsT T) w):=by
 obtain ⟨i0,hi,hz0,hz1,hz2⟩:=info_parts Tryz.infoEntry
 have hln:∀ W,Ext w W→Calls Tryz.prog 19 #[treeV T] W fun e w'=>e=.returned (.int .i64 (entsT T).length)∧Ext W w':=fun W hW=>
  treeLen_any (fun b hb=>Nat.lt_of_lt_of_le (hF b hb) hW.size) (hT.agree (hW.agree hF))
 have hga:∀ (W:World) (s:Sl),Ext w W→OE W w.heap.size s []→Calls Tryz.prog 55 #[.slice s.a 0 s.c,rootV T] W (GatherPost w.heap.size s [] (entsT T) W):=fun W s hW ho=>
  gatherR_any (xs:=[]) (hT.agree (hW.agree hF)) (fun b hb=>⟨Nat.lt_of_lt_of_le (hF b hb) hW.size,fun e=>by have:=(own_row ho.own e).1;have:=hF b hb;omega⟩) hW.size ho ok (by simpa using hl)
 generalize entsT T=es at *
 obtain ⟨MC,hms,hmk⟩:∃ MC:Array Value,MC.size=es.length*7∧∀ W,(Instr.makeSlice 48 (.int .i64 0) (.int .i64 (es.length:Int))).run Tryz.prog W=.ok (.slice (some ⟨W.heap.size,0,none⟩) 0 es.length) (W.alloc (.cells MC 64)):=by
  refine ⟨madeCells (Value.cells (.agg #[.string ByteArray.empty,.int .i64 0,.bool false,.int .i64 0,.string ByteArray.empty,.slice none 0 0,.slice none 0 0])) (es.length*7),size_madeCells _ _,fun W=>?_⟩
  have h:=run_make_rowN (P:=Tryz.prog) 48 64 i0 _ Tryz.underlying48 hi hz0 .i64 .i64 0 es.length (Nat.zero_le _) (by rw [hz2];omega) (by omega) W
  rw [hz1] at h
  exact h
 have HMS:=Lib.hid hms
 have HLN:=Lib.hid hln
 have HGA:=Lib.hid hga
 clear hF hT ok hln hga hi hz0 hz1 hz2 hms
 go_enter Tryz.func30,Tryz.ntmps30
 go_wp2_with fail
 have hx0:Ext w (w.alloc (.cells #[rootV T] 25)):=(Ext.refl w).alloc _ _
 have hb0:=Blk.new w 25 #[rootV T]
 generalize hW0:World.alloc _ _=W0 at *
 have r0:W0.cell? ⟨w.heap.size,0,none⟩=some (rootV T):=hb0.cell 0
 have l0:=hb0.lt
 clear hW0
 go_region_held3 (fun w'=>w'.cell? ⟨w.heap.size,0,none⟩=some (rootV T)) (first | (with_reducible exact r1) | (with_reducible exact r3) | go_keep)
  (first
    | (go_at_call 19;refine (HLN.out _ ?_).mono ?_;(exact hx0.drew);rintro e w1 ⟨rfl,hx1⟩;have r1:=(hx1.cell (o:=0) l0).trans r0;have l1:=Nat.lt_of_lt_of_le l0 hx1.size)
    | (go_at_call 55;refine (HGA.out _ ⟨some ⟨w1.heap.size,0,none⟩,es.length⟩ ?_ ?_).mono ?_;(exact ((hx0.drew).trans hx1).alloc _ _);(exact ⟨World.ownsRow_made w1 MC es.length ((hx0.drew).trans hx1).size (by unfold maxLen;omega) HMS.out,fun x hx=>by simp at hx,by simp⟩);rintro e w3 ⟨s3,ys,rfl,ho3,hy3,hw3,hr3⟩;have r3:w3.cell? ⟨w.heap.size,0,none⟩=some (rootV T):=(World.cell?_of_block (w:=w1.alloc (.cells MC 64)) (a:=⟨w.heap.size,0,none⟩) (hw3.grown.block w.heap.size (by rw [World.size_alloc];omega) (fun e=>by simp [Sl.row] at e;omega))).trans ((World.cell?_alloc_lt _ _ _ l1).trans r1))
    )
 go_wp2_with fail
 go_ret
 have hX:=((hx0.drew).trans hx1).alloc MC 64
 exact ⟨s3,ys,rfl,hy3,by simpa using ho3,hX.wr hw3 (fun i hi=>by simp [Sl.row] at hi;have:=((hx0.drew).trans hx1).size;omega)⟩
structure MapAt (H:Nat→Prop) (w:World) (M:Nat) (es:List Ent):Prop where
 hm:H M
 ex:∃ s xs,Blk w M 50 #[.slice s.a xs.length s.c]∧ES w (NH H w) s xs∧xs.map LE.ent=es
theorem MapAt.st {H G:Nat→Prop} {w w':World} {M:Nat} {es:List Ent} (h:MapAt H w M es) (k:St G w w') (hG:∀ b,G b→H b) (hM:¬G M):MapAt H w' M es:=by
 obtain ⟨hm,s,xs,hb,hs,hx⟩:=h
 exact ⟨hm,s,xs,k.blk hb hM,(hs.agree (fun b hb=>k.block b hb.1 fun hh=>hb.2 (hG b hh))).mono fun i hi=>⟨Nat.lt_of_lt_of_le hi.1 k.size,hi.2⟩,hx⟩
theorem MapAt.ext {H:Nat→Prop} {w w':World} {M:Nat} {es:List Ent} (h:MapAt H w M es) (k:Ext w w'):MapAt H w' M es:=
 h.st (k.st fun _=>False) (fun _ hb=>hb.elim) (fun hb=>hb)
theorem MapAt.more {H G:Nat→Prop} {w:World} {M:Nat} {es:List Ent} (h:MapAt H w M es) (hH:∀ b,H b→G b) (hG:∀ b,b<w.heap.size→G b→H b):MapAt G w M es:=by
 obtain ⟨hm,s,xs,hb,hs,hx⟩:=h
 exact ⟨hH M hm,s,xs,hb,hs.mono fun i hi=>⟨hi.1,fun hg=>hi.2 (hG i hi.1 hg)⟩,hx⟩
theorem at07 {H:Nat→Prop} {w:World} {M:Nat} {es:List Ent} (h:MapAt H w M es) (k:ByteArray):Calls Tryz.prog 50 #[.pointer (some ⟨M,0,none⟩),.string k] w fun e w'=>
  e=.returned (.tuple #[.int .i64 (posE es k),.bool (decide ((es[posE es k]?).map Prod.fst=some k))])∧∃ q,w'=w.drewN q:=by
 obtain ⟨-,s,xs,hb,hs,rfl⟩:=h
 have h0:w.cell? ⟨M,0,none⟩=some (.slice s.a xs.length s.c):=hb.cell 0
 have hfew:=hs.few
 have HS:=Lib.hid hs
 clear hb hs
 go_enter Tryz.func50,Tryz.ntmps50
 go_wp2_with fail
 have hnl:xs.length≤140737488355328:=by omega
 go_loopw [6] (fun q wr=>∃ j:Nat,q=.int .i64 j∧j≤xs.length∧(∀ i x,i<j→xs[i]? = some x→klt x.k k=true)∧wr=w) (fun q _=>xs.length - (intOf q).toNat)
 case atStart=>exact ⟨0,rfl,Nat.zero_le _,fun i x hi=>absurd hi (Nat.not_lt_zero _),rfl⟩
 obtain ⟨j,rfl,hj,hp,rfl⟩:=hrel
 have HP:=Lib.hid hp
 clear hp
 by_cases h1:j<xs.length
 ·have g1:(j:Int)<(xs.length:Int):=by omega
  obtain ⟨x,hx⟩:∃ x,xs[j]? = some x:=⟨_,List.getElem?_eq_getElem h1⟩
  obtain ⟨g,o,hg,lg,hc,hcm,kx,-,-,-⟩:=HS.out.at hx
  obtain ⟨sa,sc⟩:=s
  dsimp only at hg hc hcm
  subst hg
  have HXX:=Lib.hid hx
  clear hx
  cases hkl:klt x.k k with
  | true=>
    have hb1:Op.bytesLess x.k.toList k.toList=true:=hkl
    go_wp2_with fail
    go_roundw
    case rel=>
     refine ⟨j+1,by go_num,h1,fun i y hi hy=>?_,by trivial⟩
     rcases Nat.lt_or_eq_of_le (Nat.le_of_lt_succ hi) with h | rfl
     ·exact HP.out i y h hy
     rw [HXX.out] at hy;cases hy;exact hkl
    simp [intOf];omega
  | false=>
    have hb1:Op.bytesLess x.k.toList k.toList=false:=hkl
    have hpos:posE (xs.map LE.ent) k=j:=posE_of (by rw [List.length_map];exact hj) (fun i e hi he=>by
     rw [List.getElem?_map] at he
     cases hy:xs[i]? with
     | none=>rw [hy] at he;cases he
     | some y=>rw [hy] at he;cases he;exact HP.out i y hi hy) (fun e he=>by
     rw [List.getElem?_map,HXX.out] at he;cases he;exact hkl)
    have HPOS:=Lib.hid hpos
    clear hpos
    go_wp2_with fail
    go_quiet (fail)
    go_wp2_with fail
    refine bodyPost_ret (v:=.tuple #[.int .i64 j,.bool (x.k.toList == k.toList)]) (by simp [results,Tryz.results50,go_sem]) rfl ?_
    rw [HPOS.out,List.getElem?_map,HXX.out]
    refine ⟨?_,_,rfl⟩
    rw [beq_toList]
    simp [LE.ent]
 have g1:¬(j:Int)<(xs.length:Int):=by omega
 obtain rfl:j=xs.length:=by omega
 have hpos:posE (xs.map LE.ent) k=xs.length:=posE_of (by rw [List.length_map];exact Nat.le_refl _) (fun i e hi he=>by
  rw [List.getElem?_map] at he
  cases hy:xs[i]? with
  | none=>rw [hy] at he;cases he
  | some y=>rw [hy] at he;cases he;exact HP.out i y hi hy) (fun e he=>by
  rw [List.getElem?_map,List.getElem?_eq_none (Nat.le_refl _)] at he;cases he)
 have HPOS:=Lib.hid hpos
 clear hpos
 go_wp2_with fail
 refine bodyPost_ret (v:=.tuple #[.int .i64 xs.length,.bool false]) (by simp [results,Tryz.results50,go_sem]) rfl ?_
 rw [HPOS.out]
 exact ⟨by simp,0,rfl⟩
theorem at_get {es:List Ent} (hs:Sorted es) (k:ByteArray):decide ((es[posE es k]?).map Prod.fst=some k)=(getE es k).isSome:=by
 rw [getE_pos hs]
 cases hx:es[posE es k]? with
 | none=>simp
 | some e=>by_cases hk:e.1=k <;> simp [hk]
def Get7Post (o:Option Val) (w:World) (e:Ending) (w':World):Prop:=
 ∃ sl so,e=.returned (.tuple #[aggV (o.getD zeroV) sl so,.bool o.isSome])∧Ext w w'∧RV w' (Lt w.heap.size) (o.getD zeroV) sl so
def Get7PostF (F:Nat→Prop) (o:Option Val) (w:World) (e:Ending) (w':World):Prop:=
 ∃ sl so,e=.returned (.tuple #[aggV (o.getD zeroV) sl so,.bool o.isSome])∧Ext w w'∧RV w' F (o.getD zeroV) sl so
theorem get7F {H:Nat→Prop} {w:World} {M:Nat} {es:List Ent} (h:MapAt H w M es) (hso:Sorted es) (k:ByteArray):Calls Tryz.prog 26 #[.pointer (some ⟨M,0,none⟩),.string k] w (Get7PostF (NH H w) (getE es k) w):=by
 have hb4:=Blk.new w 34 #[.int .i64 0,.bool false,.int .i64 0,.string ByteArray.empty,.slice none 0 0,.slice none 0 0]
 have hx1:Ext w (w.alloc (.cells #[.int .i64 0,.bool false,.int .i64 0,.string ByteArray.empty,.slice none 0 0,.slice none 0 0] 34)):=(Ext.refl w).alloc _ _
 have hat:=at07 (h.ext hx1) k
 rw [at_get hso] at hat
 have hge:=getE_pos hso k
 obtain ⟨-,s,xs,hb,hs,rfl⟩:=h
 have HS:=Lib.hid hs
 have HB:=Lib.hid hb
 have HX1:=Lib.hid hx1
 have HAT:=Lib.hid hat
 obtain ⟨p,hp⟩:∃ p,posE (xs.map LE.ent) k=p:=⟨_,rfl⟩
 rw [hp] at hge
 have HP:=Lib.hid hp
 have hfew:=hs.few
 clear hb hs hat hx1 hp
 cases hg:getE (xs.map LE.ent) k with
 | none=>
   rw [hg] at HAT
   clear hge hg
   go_enter Tryz.func26,Tryz.ntmps26
   go_wp2_with fail
   refine HAT.out.mono ?_
   rintro e w2 ⟨rfl,q,rfl⟩
   go_wp2_with fail
   have hbq:=hb4.ext ((Ext.refl _).drewN q)
   obtain ⟨c0,c1,c2,c3,c4,c5⟩:=hbq.c6
   have HXQ:=Lib.hid (HX1.out.drewN q)
   generalize World.drewN _ q=W2 at *
   clear HAT hbq
   refine bodyPost_ret (v:=.tuple #[.agg #[.int .i64 0,.bool false,.int .i64 0,.string ⟨#[]⟩,.slice none 0 0,.slice none 0 0],.bool false]) (by simp [results,Tryz.results26,go_sem,c0,c1,c2,c3,c4,c5]) rfl ?_
   exact ⟨Sl.none,Sl.none,rfl,HXQ.out.putV (b:=w.heap.size) (Nat.le_refl _) 0 zeroV Sl.none Sl.none,RV.flat _ _ _ _ _ _ (by decide) (by decide) (by decide)⟩
 | some v=>
   have hpx:∃ x,xs[p]? = some x∧x.v=v:=by
    rw [hg,List.getElem?_map] at hge
    cases hx:xs[p]? with
    | none=>rw [hx] at hge;cases hge
    | some x=>
      rw [hx] at hge
      simp only [Option.map_some,Option.bind_some] at hge
      by_cases hk:x.ent.1=k
      ·rw [if_pos hk] at hge;cases hge;exact ⟨x,rfl,rfl⟩
      rw [if_neg hk] at hge;cases hge
   obtain ⟨x,hx,rfl⟩:=hpx
   rw [hg,HP.out] at HAT
   have hpl:p<xs.length:=(List.getElem?_eq_some_iff.1 hx).1
   have hpi:(p:Int)<(xs.length:Int):=by omega
   have hbM:=HB.out.ext HX1.out
   obtain ⟨g,o,hsg,lg,hcc,hcm,-,⟨v0,v1,v2,v3,v4,v5⟩,rx,-⟩:=HS.out.at hx
   obtain ⟨sa,sc⟩:=s
   dsimp only at hsg hcc hcm
   subst hsg
   have HRX:=Lib.hid rx
   have lg:g<w.heap.size:=lg.1
   have lM:=HB.out.lt
   have m0:w.cell? ⟨M,0,none⟩=some (.slice (some ⟨g,o,none⟩) xs.length sc):=HB.out.cell 0
   clear hge hg hx hbM rx
   go_enter Tryz.func26,Tryz.ntmps26
   go_wp2_with fail
   refine HAT.out.mono ?_
   rintro e w2 ⟨rfl,q,rfl⟩
   have hbq:=hb4.ext ((Ext.refl _).drewN q)
   obtain ⟨c0,c1,c2,c3,c4,c5⟩:=hbq.c6
   have hxq:=HX1.out.drewN q
   replace m0:=(hxq.cell lM).trans m0
   replace v0:=(hxq.cell lg).trans v0
   replace v1:=(hxq.cell lg).trans v1
   replace v2:=(hxq.cell lg).trans v2
   replace v3:=(hxq.cell lg).trans v3
   replace v4:=(hxq.cell lg).trans v4
   replace v5:=(hxq.cell lg).trans v5
   have l2:=hbq.lt
   have f4:=hbq.frozen
   have HXQ:=Lib.hid hxq
   generalize World.drewN _ q=W2 at *
   clear HAT hbq hxq
   go_wp2_with fail
   refine bodyPost_ret (v:=.tuple #[aggV x.v x.sl x.so,.bool true]) (by simp [results,Tryz.results26,go_sem,c0,c1,c2,c3,c4,c5]) rfl ?_
   exact ⟨x.sl,x.so,rfl,HXQ.out.putV (b:=w.heap.size) (Nat.le_refl _) 0 x.v x.sl x.so,(HRX.out.agree (HXQ.out.agree fun _ h=>h.1)).agree (putV_agree W2 w.heap.size 0 x.v x.sl x.so (F:=NH H w) fun h=>Nat.lt_irrefl _ h.1)⟩
theorem get7 {H:Nat→Prop} {w:World} {M:Nat} {es:List Ent} (h:MapAt H w M es) (hso:Sorted es) (k:ByteArray):Calls Tryz.prog 26 #[.pointer (some ⟨M,0,none⟩),.string k] w (Get7Post (getE es k) w):=
 (get7F h hso k).mono fun e w' ⟨sl,so,h1,h2,h3⟩=>⟨sl,so,h1,h2,h3.mono fun i hi=>hi.1⟩
section
variable {P : Program} (w : World)
theorem step_append_x {ops:Array Oper} {o:Oper} {a:Act} {K:Act→World→Prop} {Q:Exit→Act→World→Prop} {E:Prop} (hgd:o.guard=none) (s' x:Operand) (t:TypeId)
  (ho:o.op=.call { callee:=.builtin .append,args:=#[s',x],argTypes:=#[t,t] })
  (base:Nat) (e:TypeId) (i:TypeInfo) (z:Value) (size bytes:Nat) (ht:P.underlying t=some (.slice e)) (hi:P.info? e=some i) (hz:i.zero=some z)
  (hsize:i.size=size) (hby:i.bytes=bytes) (hzs:z.cells.size=size) (hsz:0<size)
  (s:Sl) (n:Nat) (xs:List Value) (hs:a.eval s'=.slice s.a n s.c) (hown:w.ownsRow base e size (.slice s.a n s.c) n xs)
  (F:Nat→Prop) (sx:Sl) (m:Nat) (news:List Value) (hx:a.eval x=.slice sx.a m sx.c) (hsrc:Rd w F size sx m news) (h1:∀ u∈news,u.oneCell'=true)
  (h63:n+m≤maxLen) (hbytes:(n+m)*bytes≤140737488355328) (hbase:base≤w.heap.size)
  (h:∀ (s':Sl) (w':World),w'.ownsRow base e size (.slice s'.a (n+m) s'.c) (n+m) (xs++news)→Wr w w' s.row→(s'.a=s.a∨s'.a=some ⟨w.heap.size,0,none⟩∧Wr w w' none)→K (a.put o.dst (.slice s'.a (n+m) s'.c)) w') :
  if Region.wanted o (yielded ops a.tmps)=true then Oper.wp P o a w K Q else E:=by
 have hw:Region.wanted o (yielded ops a.tmps)=true:=by simp [Region.wanted,hgd]
 rw [if_pos hw]
 exact wp_append_x w s' x t ho base e i z size bytes ht hi hz hsize hby hzs hsz s n xs hs hown F sx m news hx hsrc h1 h63 hbytes hbase h
theorem Rd.block {w:World} {g:Nat} {t:TypeId} {cs:List Value} {size n:Nat} (hb:Blk w g t cs.toArray) (hm:n≤maxLen) (hl:cs.length=n*size):Rd w (fun b=>b=g) size ⟨some ⟨g,0,none⟩,n⟩ n cs:=
 ⟨g,0,.some _ _ _ _ (Nat.le_refl _) hm rfl,hl,fun j u hj=>by rw [Nat.zero_add,hb.cell];simpa using hj⟩
end
def Put7Post (H:Nat→Prop) (M:Nat) (es:List Ent) (w:World) (e:Ending) (w':World):Prop:=
 (∃ r,e=.returned r)∧MapAt H w' M es∧St (fun b=>b=M) w w'
theorem Wr.cell0 {w w' w'':World} {row:Option Nat} (h:Wr w' w'' row) (hx:Ext w w') {M:Nat} {o:Nat} (hn:row≠some M) (hl:M<w.heap.size):w''.cell? ⟨M,o,none⟩=w.cell? ⟨M,o,none⟩∧M<w''.heap.size:=
 ⟨((h.agree (F:=fun b=>b=M) (fun i hi=>by subst hi;exact Nat.lt_of_lt_of_le hl hx.size) (fun k hk e=>hn (e▸hk))).cell rfl).trans (hx.cell hl),Nat.lt_of_lt_of_le hl (Nat.le_trans hx.size h.grown.size)⟩
def put7L (xs:List LE) (p q:Nat) (x:LE):List LE:=(xs.take p++[x])++xs.drop q
theorem put7L_es {xs:List LE} {k:ByteArray} (hs:Sorted (xs.map LE.ent)) (x:LE) (hx:x.k=k) {p q:Nat} (hp:posE (xs.map LE.ent) k=p) (hq:q=if (((xs.map LE.ent)[p]?).map Prod.fst=some k) then p+1 else p):(put7L xs p q x).map LE.ent=insE (xs.map LE.ent) k x.v:=by
 rw [insE_pos hs,hp,put7L]
 subst hx hq
 simp only [List.map_append,List.map_take,List.map_drop,List.map_cons,List.map_nil,List.append_assoc,List.singleton_append]
 congr 2
 split <;> rfl
theorem put7_end {H:Nat→Prop} {w w3:World} {M:Nat} {s s3:Sl} {xs:List LE} {p q:Nat} {x:LE} {es:List Ent} (hm:H M) (hH:∀ b,H b→b<w.heap.size) (hb:Blk w M 50 #[.slice s.a xs.length s.c]) (hs:ES w (NH H w) s xs) (hv:RV w (NH H w) x.v x.sl x.so) (hk:x.k.size≤maxLen)
  (hx:Ext w w3) (hown:w3.ownsRow w.heap.size 64 7 (.slice s3.a (put7L xs p q x).length s3.c) (put7L xs p q x).length (flatE (put7L xs p q x))) (hf:(put7L xs p q x).length*104≤140737488355328) (he:(put7L xs p q x).map LE.ent=es) :
  MapAt H (w3.setCell ⟨M,0,none⟩ (.slice s3.a (put7L xs p q x).length s3.c)) M es∧St (fun b=>b=M) w (w3.setCell ⟨M,0,none⟩ (.slice s3.a (put7L xs p q x).length s3.c)):=by
 have hMw:=hb.lt
 have hst:St (fun b=>b=M) w (w3.setCell ⟨M,0,none⟩ (.slice s3.a (put7L xs p q x).length s3.c)):=(hx.st (fun b=>b=M)).set (p:=⟨M,0,none⟩) (.inr rfl) _
 have hag:Agree (NH H w) w (w3.setCell ⟨M,0,none⟩ (.slice s3.a (put7L xs p q x).length s3.c)):=hst.agree.mono fun i hi=>⟨hi.1,fun e=>hi.2 (e▸hm)⟩
 have hup:∀ i,NH H w i→NH H (w3.setCell ⟨M,0,none⟩ (.slice s3.a (put7L xs p q x).length s3.c)) i:=fun i hi=>⟨Nat.lt_of_lt_of_le hi.1 hst.size,hi.2⟩
 have hag3:Agree (In w.heap.size w3.heap.size) w3 (w3.setCell ⟨M,0,none⟩ (.slice s3.a (put7L xs p q x).length s3.c)):=Agree.setCell w3 ⟨M,0,none⟩ _ (fun h=>by have h1:w.heap.size≤M:=h.1;omega)
 refine ⟨⟨hm,s3,put7L xs p q x,?_,⟨?_,?_,hf⟩,he⟩,hst⟩
 ·exact (hb.ext hx).set_ 0 _
 ·exact ((Rd.of_own hown).agree hag3).mono fun i hi=>⟨by rw [World.size_setCell];exact hi.2,fun h=>by have:=hH i h;have:=hi.1;omega⟩
 intro y hy
 have hy:y∈(xs.take p++[x])++xs.drop q:=hy
 have hor:y∈xs∨y=x:=by
  rcases List.mem_append.1 hy with hy | hy
  ·rcases List.mem_append.1 hy with hy | hy
   ·exact .inl (List.mem_of_mem_take hy)
   exact .inr (List.mem_singleton.1 hy)
  exact .inl (List.mem_of_mem_drop hy)
 rcases hor with hy | rfl
 ·exact ⟨((hs.vals y hy).1.agree hag).mono hup,(hs.vals y hy).2⟩
 exact ⟨(hv.agree hag).mono hup,hk⟩
section
variable {P : Program} {w : World}
theorem wpList_append_0 {ops:Array Oper} {rest:List Oper} {o:Oper} {a:Act} {Q:Exit→Act→World→Prop} (hgd:o.guard=none) (s' x:Operand) (t:TypeId)
  (ho:o.op=.call { callee:=.builtin .append,args:=#[s',x],argTypes:=#[t,t] })
  (base:Nat) (e:TypeId) (i:TypeInfo) (z:Value) (size bytes:Nat) (ht:P.underlying t=some (.slice e)) (hi:P.info? e=some i) (hz:i.zero=some z)
  (hsize:i.size=size) (hby:i.bytes=bytes) (hzs:z.cells.size=size) (hsz:0<size) (hs:a.eval s'=.slice none 0 0)
  (F:Nat→Prop) (sx:Sl) (m:Nat) (news:List Value) (hx:a.eval x=.slice sx.a m sx.c) (hsrc:Rd w F size sx m news) (h1:∀ u∈news,u.oneCell'=true)
  (h63:m≤maxLen) (hbytes:m*bytes≤140737488355328) (hbase:base≤w.heap.size)
  (h:∀ (s':Sl) (w':World),w'.ownsRow base e size (.slice s'.a m s'.c) m news→Ext w w'→wpList P ops Q rest (a.put o.dst (.slice s'.a m s'.c)) w'):wpList P ops Q (o :: rest) a w:=
 wpList_append_x w hgd s' x t ho base e i z size bytes ht hi hz hsize hby hzs hsz Sl.none 0 [] hs (World.ownsRow_nil _ _ _ _) F sx m news hx hsrc h1 (by omega) (by rw [Nat.zero_add];exact hbytes) hbase fun s2 w2 h2 h3 _=>by
  rw [Nat.zero_add,List.nil_append] at h2
  rw [Nat.zero_add]
  exact h s2 w2 h2 ((Ext.refl w).wr h3 (fun i hi=>by cases hi))
end
theorem put7_any {H:Nat→Prop} {w:World} {M:Nat} {es:List Ent} (h:MapAt H w M es) (hH:∀ b,H b→b<w.heap.size) (hso:Sorted es) (hc:es.length≤1000000) {k:ByteArray} (hk:k.size≤maxLen) {v:Val} {sl so:Sl} (hv:RV w (NH H w) v sl so) :
  Calls Tryz.prog 23 #[.pointer (some ⟨M,0,none⟩),.string k,aggV v sl so] w (Put7Post H M (insE es k v) w):=by
 obtain ⟨i0,hi,hz0,hz1,hz2⟩:=info_parts Tryz.infoEntry
 have hx1:Ext w (w.alloc (.cells #[.int .i64 v.kind,.bool v.b,.int .i64 v.i,.string v.t,.slice sl.a v.l.length sl.c,.slice so.a v.ok.length so.c] 34)):=(Ext.refl w).alloc _ _
 have hb5:=Blk.new w 34 #[.int .i64 v.kind,.bool v.b,.int .i64 v.i,.string v.t,.slice sl.a v.l.length sl.c,.slice so.a v.ok.length so.c]
 have hat:=at07 (h.ext hx1) k
 have hle:=posE_le es k
 obtain ⟨hm,s,xs,hb,hs,hxs⟩:=h
 obtain ⟨p,hp⟩:∃ p,posE es k=p:=⟨_,rfl⟩
 obtain ⟨f,hf⟩:∃ f,decide ((es[p]?).map Prod.fst=some k)=f:=⟨_,rfl⟩
 rw [hp,hf] at hat
 have hlen:xs.length=es.length:=by rw [←hxs,List.length_map]
 obtain ⟨q,hq⟩:∃ q,(if f=true then p+1 else p)=q:=⟨_,rfl⟩
 have hqe:q=if ((es[p]?).map Prod.fst=some k) then p+1 else p:=by
  rw [←hq,←hf];simp only [decide_eq_true_eq]
 have hql:q≤xs.length:=by
  rw [hqe]
  split
  ·rename_i he
   have:p<es.length:=by
    rcases Nat.lt_or_ge p es.length with h | h
    ·exact h
    rw [List.getElem?_eq_none h] at he;cases he
   omega
  omega
 have hpl:p≤xs.length:=by omega
 have hins:∀ x:LE,x.k=k→x.v=v→(put7L xs p q x).map LE.ent=insE es k v:=fun x h1 h2=>by
  have:=put7L_es (xs:=xs) (k:=k) (by rw [hxs];exact hso) x h1 (p:=p) (q:=q) (by rw [hxs];exact hp) (by rw [hxs];exact hqe)
  rw [this,hxs,h2]
 have hput:∀ x:LE,(put7L xs p q x).length=p+1+(xs.length - q):=fun x=>by
  simp only [put7L,List.length_append,List.length_take,List.length_drop,List.length_cons,List.length_nil];omega
 obtain ⟨x,hxk,hxv,hxl,hxo⟩:∃ x:LE,x.k=k∧x.v=v∧x.sl=sl∧x.so=so:=⟨⟨k,v,sl,so⟩,rfl,rfl,rfl,rfl⟩
 have he:=hins x hxk hxv
 have hend:=fun (w3:World) (s3:Sl)=>put7_end (w3:=w3) (s3:=s3) (p:=p) (q:=q) (x:=x) (es:=insE es k v) hm hH hb hs (by rw [hxv,hxl,hxo];exact hv) (by rw [hxk];exact hk)
 have hrd:=fun (W:World) (hW:Ext w W)=>(hs.mono (G:=Lt w.heap.size) fun i hi=>hi.1).agree (hW.agree fun _ h=>h)
 have h0:w.cell? ⟨M,0,none⟩=some (.slice s.a xs.length s.c):=hb.cell 0
 have lM:=hb.lt
 have hfz:=hb.frozen 0
 have HEND:=Lib.hid hend
 have HRD:=Lib.hid hrd
 have HE:=Lib.hid he
 have HPUT:=Lib.hid (hput x)
 have HAT:=Lib.hid hat
 have HX1:=Lib.hid hx1
 have HQ:=Lib.hid hq
 have hl1:xs.length≤1000000:=by omega
 have hcs:LE.cells x=[.string k,.int .i64 v.kind,.bool v.b,.int .i64 v.i,.string v.t,.slice sl.a v.l.length sl.c,.slice so.a v.ok.length so.c]:=by
  rw [LE.cells,hxk,hxv,hxl,hxo]
 have HCS:=Lib.hid hcs
 have hrd1:∀ W:World,Rd (W.alloc (.cells #[.string k,.int .i64 v.kind,.bool v.b,.int .i64 v.i,.string v.t,.slice sl.a v.l.length sl.c,.slice so.a v.ok.length so.c] 64)) (fun b=>b=W.heap.size) 7 ⟨some ⟨W.heap.size,0,none⟩,1⟩ 1 [.string k,.int .i64 v.kind,.bool v.b,.int .i64 v.i,.string v.t,.slice sl.a v.l.length sl.c,.slice so.a v.ok.length so.c]:=fun W=>Rd.block (Blk.new W 64 #[.string k,.int .i64 v.kind,.bool v.b,.int .i64 v.i,.string v.t,.slice sl.a v.l.length sl.c,.slice so.a v.ok.length so.c]) (by decide) rfl
 have hone1:∀ u∈[Value.string k,.int .i64 v.kind,.bool v.b,.int .i64 v.i,.string v.t,.slice sl.a v.l.length sl.c,.slice so.a v.ok.length so.c],u.oneCell'=true:=by rw [←hcs];exact LE.one x
 have HRD1:=Lib.hid hrd1
 have HONE1:=Lib.hid hone1
 clear hrd1 hone1
 have hsp:=hs.rd
 obtain ⟨gs,os,hsa,-,-⟩:=hsp
 clear hend hrd he hins hput hat hx1 hq hqe hf hxs hlen hs hb hcs hv
 generalize hn:xs.length=n at hsa
 cases hsa with
 | nil=>
   obtain rfl:p=0:=by omega
   obtain rfl:xs=[]:=List.eq_nil_of_length_eq_zero hn
   cases f with
   | true=>
     exfalso
     have h1:0+1=q:=by have:=HQ.out;simpa using this
     simp at hql;omega
   | false=>
     obtain rfl:0=q:=by have:=HQ.out;simpa using this
     go_enter Tryz.func23,Tryz.ntmps23
     go_wp2_with fail
     refine HAT.out.mono ?_
     rintro e w2 ⟨rfl,nq,rfl⟩
     have hx2:=HX1.out.drewN nq
     replace h0:=(hx2.cell lM).trans h0
     have hb5':=hb5.ext ((Ext.refl _).drewN nq)
     obtain ⟨c0,c1,c2,c3,c4,c5⟩:=hb5'.c6
     have l5:=hb5'.lt
     have lMW:M<(World.drewN (w.alloc (.cells #[.int .i64 v.kind,.bool v.b,.int .i64 v.i,.string v.t,.slice sl.a v.l.length sl.c,.slice so.a v.ok.length so.c] 34)) nq).heap.size:=Nat.lt_of_lt_of_le lM hx2.size
     generalize World.drewN _ nq=W2 at *
     have hw2:=hx2.size
     have hrp:Rd W2 (Lt w.heap.size) 7 Sl.none 0 (flatE (([]:List LE).take 0)):=by have:=((HRD.out W2 hx2).take hpl).rd;rwa [List.length_take,Nat.min_eq_left hpl] at this
     have HRP:=Lib.hid hrp
     have HX2:=Lib.hid hx2
     have h63a:0≤maxLen:=by unfold maxLen;omega
     have hbya:0*104≤140737488355328:=by omega
     have h63b:0+1≤maxLen:=by unfold maxLen;omega
     have hbyb:(0+1)*104≤140737488355328:=by omega
     have hrq:∀ W,Ext w W→Rd W (Lt w.heap.size) 7 Sl.none 0 []:=fun W hW=>Rd.nil _ _ _
     have HRQ:=Lib.hid hrq
     have h63c:0+1+0≤maxLen:=by unfold maxLen;omega
     have hbyc:(0+1+0)*104≤140737488355328:=by omega
     have hqi:((0:Nat):Int)≤(([]:List LE).length:Int):=by omega
     have hpi:(0:Int)≤(([]:List LE).length:Int):=by omega
     clear hrp hx2 HAT hb5 hb5' HX1 hrq
     go_wp2_with (first
      | (at_builtin;refine wpList_append_0 rfl (.tmp 15) (.tmp 21) 48 rfl w.heap.size 64 i0 _ 7 104 Tryz.underlying48 hi hz0 hz1 hz2 rfl (by decide) rfl (Lt w.heap.size) Sl.none 0 (flatE (([]:List LE).take 0)) rfl HRP.out (flatE_one _) h63a hbya hw2 ?_;intro s1 w3 hown1 hx3;have c0:=(hx3.cell l5).trans c0;have c1:=(hx3.cell l5).trans c1;have c2:=(hx3.cell l5).trans c2;have c3:=(hx3.cell l5).trans c3;have c4:=(hx3.cell l5).trans c4;have c5:=(hx3.cell l5).trans c5;have h0:=(hx3.cell lMW).trans h0;have l5:=Nat.lt_of_lt_of_le l5 hx3.size;have lMW:=Nat.lt_of_lt_of_le lMW hx3.size;have HO1:=Lib.hid hown1;have HX3:=Lib.hid (HX2.out.trans hx3);have hw3:=HX3.out.size;have HO1A:=Lib.hid (own_agree (w':=w3.alloc (.cells #[.string k,.int .i64 v.kind,.bool v.b,.int .i64 v.i,.string v.t,.slice sl.a v.l.length sl.c,.slice so.a v.ok.length so.c] 64)) (s:=s1) hown1 (F:=Lt w3.heap.size) (((Ext.refl w3).alloc _ _).agree fun _ h=>h) fun b hb=>(own_row (s:=s1) hown1 hb).2);clear hown1 hx3)
      | (at_builtin;refine wpList_append_x _ rfl (.tmp 23) (.tmp 27) 48 rfl w.heap.size 64 i0 _ 7 104 Tryz.underlying48 hi hz0 hz1 hz2 rfl (by decide) s1 0 (flatE (([]:List LE).take 0)) rfl HO1A.out (fun b=>b=w3.heap.size) ⟨some ⟨w3.heap.size,0,none⟩,1⟩ 1 [.string k,.int .i64 v.kind,.bool v.b,.int .i64 v.i,.string v.t,.slice sl.a v.l.length sl.c,.slice so.a v.ok.length so.c] rfl (HRD1.out w3) HONE1.out h63b hbyb (Nat.le_trans hw3 ((Ext.refl w3).alloc _ _).size) ?_;intro s2 w4 hown2 hwr2 hs2;have hx4:=((Ext.refl w3).alloc #[.string k,.int .i64 v.kind,.bool v.b,.int .i64 v.i,.string v.t,.slice sl.a v.l.length sl.c,.slice so.a v.ok.length so.c] 64);have hn4:=hwr2.cell0 (o:=0) hx4 (fun e=>by have:=(own_row (s:=s1) HO1.out e).1;omega) lMW;have h0:=hn4.1.trans h0;have lMW:=hn4.2;have HO2:=Lib.hid hown2;have HX4:=Lib.hid ((HX3.out.trans hx4).wr hwr2 (fun i hi=>(own_row (s:=s1) HO1.out hi).1));have hw4:=HX4.out.size;clear hown2 hwr2 hs2 hx4 hn4)
      | (at_builtin;refine wpList_append_x _ rfl (.tmp 33) (.tmp 39) 48 rfl w.heap.size 64 i0 _ 7 104 Tryz.underlying48 hi hz0 hz1 hz2 rfl (by decide) s2 (0+1) (flatE (([]:List LE).take 0)++[.string k,.int .i64 v.kind,.bool v.b,.int .i64 v.i,.string v.t,.slice sl.a v.l.length sl.c,.slice so.a v.ok.length so.c]) rfl HO2.out (Lt w.heap.size) Sl.none 0 [] rfl (HRQ.out w4 HX4.out) (by simp) h63c hbyc hw4 ?_;intro s3 w5 hown3 hwr3 hs3;have hn5:=hwr3.cell0 (o:=0) (Ext.refl w4) (fun e=>by have:=(own_row (s:=s2) HO2.out e).1;omega) lMW;have h0:=hn5.1.trans h0;have lMW:=hn5.2;have f0:=(HX4.out.wr hwr3 (fun i hi=>(own_row (s:=s2) HO2.out hi).1)).frozen (o:=0) lM;rw [hfz] at f0;have HO3:=Lib.hid hown3;have HX5:=Lib.hid (HX4.out.wr hwr3 (fun i hi=>(own_row (s:=s2) HO2.out hi).1));clear hown3 hwr3 hs3 hn5))
     have hfl:flatE (put7L ([]:List LE) 0 (0) x)=(flatE (([]:List LE).take 0)++[.string k,.int .i64 v.kind,.bool v.b,.int .i64 v.i,.string v.t,.slice sl.a v.l.length sl.c,.slice so.a v.ok.length so.c])++flatE (([]:List LE).drop (0)):=by rw [put7L,flatE_app,flatE_app,show flatE [x]=LE.cells x from by simp [flatE],HCS.out]
     have hpu:(put7L ([]:List LE) 0 (0) x).length=0+1+(([]:List LE).length - (0)):=HPUT.out
     have hzz:([]:List LE).length - (0)=0:=by omega
     have hdd:([]:List LE).drop (0)=[]:=List.drop_eq_nil_iff.2 (by omega)
     rw [hzz] at hpu
     rw [hdd] at hfl
     have hfin:=HEND.out w5 s3 HX5.out (by rw [hpu,hfl];exact HO3.out) (by rw [hpu];omega) HE.out
     rw [hpu] at hfin
     go_end0
     exact ⟨⟨_,rfl⟩,hfin⟩
 | zero ad=>
   obtain rfl:p=0:=by omega
   obtain rfl:xs=[]:=List.eq_nil_of_length_eq_zero hn
   cases f with
   | true=>
     exfalso
     have h1:0+1=q:=by have:=HQ.out;simpa using this
     simp at hql;omega
   | false=>
     obtain rfl:0=q:=by have:=HQ.out;simpa using this
     go_enter Tryz.func23,Tryz.ntmps23
     go_wp2_with fail
     refine HAT.out.mono ?_
     rintro e w2 ⟨rfl,nq,rfl⟩
     have hx2:=HX1.out.drewN nq
     replace h0:=(hx2.cell lM).trans h0
     have hb5':=hb5.ext ((Ext.refl _).drewN nq)
     obtain ⟨c0,c1,c2,c3,c4,c5⟩:=hb5'.c6
     have l5:=hb5'.lt
     have lMW:M<(World.drewN (w.alloc (.cells #[.int .i64 v.kind,.bool v.b,.int .i64 v.i,.string v.t,.slice sl.a v.l.length sl.c,.slice so.a v.ok.length so.c] 34)) nq).heap.size:=Nat.lt_of_lt_of_le lM hx2.size
     generalize World.drewN _ nq=W2 at *
     have hw2:=hx2.size
     have hrp:Rd W2 (Lt w.heap.size) 7 ⟨some ad,0⟩ 0 (flatE (([]:List LE).take 0)):=by have:=((HRD.out W2 hx2).take hpl).rd;rwa [List.length_take,Nat.min_eq_left hpl] at this
     have HRP:=Lib.hid hrp
     have HX2:=Lib.hid hx2
     have h63a:0≤maxLen:=by unfold maxLen;omega
     have hbya:0*104≤140737488355328:=by omega
     have h63b:0+1≤maxLen:=by unfold maxLen;omega
     have hbyb:(0+1)*104≤140737488355328:=by omega
     have hrq:∀ W,Ext w W→Rd W (Lt w.heap.size) 7 ⟨some ad,0⟩ 0 []:=fun W hW=>⟨0,0,.zero _ _ _,rfl,fun j u hj=>by simp at hj⟩
     have HRQ:=Lib.hid hrq
     have h63c:0+1+0≤maxLen:=by unfold maxLen;omega
     have hbyc:(0+1+0)*104≤140737488355328:=by omega
     have hqi:((0:Nat):Int)≤(([]:List LE).length:Int):=by omega
     have hpi:(0:Int)≤(([]:List LE).length:Int):=by omega
     clear hrp hx2 HAT hb5 hb5' HX1 hrq
     go_wp2_with (first
      | (at_builtin;refine wpList_append_0 rfl (.tmp 15) (.tmp 21) 48 rfl w.heap.size 64 i0 _ 7 104 Tryz.underlying48 hi hz0 hz1 hz2 rfl (by decide) rfl (Lt w.heap.size) ⟨some ad,0⟩ 0 (flatE (([]:List LE).take 0)) rfl HRP.out (flatE_one _) h63a hbya hw2 ?_;intro s1 w3 hown1 hx3;have c0:=(hx3.cell l5).trans c0;have c1:=(hx3.cell l5).trans c1;have c2:=(hx3.cell l5).trans c2;have c3:=(hx3.cell l5).trans c3;have c4:=(hx3.cell l5).trans c4;have c5:=(hx3.cell l5).trans c5;have h0:=(hx3.cell lMW).trans h0;have l5:=Nat.lt_of_lt_of_le l5 hx3.size;have lMW:=Nat.lt_of_lt_of_le lMW hx3.size;have HO1:=Lib.hid hown1;have HX3:=Lib.hid (HX2.out.trans hx3);have hw3:=HX3.out.size;have HO1A:=Lib.hid (own_agree (w':=w3.alloc (.cells #[.string k,.int .i64 v.kind,.bool v.b,.int .i64 v.i,.string v.t,.slice sl.a v.l.length sl.c,.slice so.a v.ok.length so.c] 64)) (s:=s1) hown1 (F:=Lt w3.heap.size) (((Ext.refl w3).alloc _ _).agree fun _ h=>h) fun b hb=>(own_row (s:=s1) hown1 hb).2);clear hown1 hx3)
      | (at_builtin;refine wpList_append_x _ rfl (.tmp 23) (.tmp 27) 48 rfl w.heap.size 64 i0 _ 7 104 Tryz.underlying48 hi hz0 hz1 hz2 rfl (by decide) s1 0 (flatE (([]:List LE).take 0)) rfl HO1A.out (fun b=>b=w3.heap.size) ⟨some ⟨w3.heap.size,0,none⟩,1⟩ 1 [.string k,.int .i64 v.kind,.bool v.b,.int .i64 v.i,.string v.t,.slice sl.a v.l.length sl.c,.slice so.a v.ok.length so.c] rfl (HRD1.out w3) HONE1.out h63b hbyb (Nat.le_trans hw3 ((Ext.refl w3).alloc _ _).size) ?_;intro s2 w4 hown2 hwr2 hs2;have hx4:=((Ext.refl w3).alloc #[.string k,.int .i64 v.kind,.bool v.b,.int .i64 v.i,.string v.t,.slice sl.a v.l.length sl.c,.slice so.a v.ok.length so.c] 64);have hn4:=hwr2.cell0 (o:=0) hx4 (fun e=>by have:=(own_row (s:=s1) HO1.out e).1;omega) lMW;have h0:=hn4.1.trans h0;have lMW:=hn4.2;have HO2:=Lib.hid hown2;have HX4:=Lib.hid ((HX3.out.trans hx4).wr hwr2 (fun i hi=>(own_row (s:=s1) HO1.out hi).1));have hw4:=HX4.out.size;clear hown2 hwr2 hs2 hx4 hn4)
      | (at_builtin;refine wpList_append_x _ rfl (.tmp 33) (.tmp 39) 48 rfl w.heap.size 64 i0 _ 7 104 Tryz.underlying48 hi hz0 hz1 hz2 rfl (by decide) s2 (0+1) (flatE (([]:List LE).take 0)++[.string k,.int .i64 v.kind,.bool v.b,.int .i64 v.i,.string v.t,.slice sl.a v.l.length sl.c,.slice so.a v.ok.length so.c]) rfl HO2.out (Lt w.heap.size) ⟨some ad,0⟩ 0 [] rfl (HRQ.out w4 HX4.out) (by simp) h63c hbyc hw4 ?_;intro s3 w5 hown3 hwr3 hs3;have hn5:=hwr3.cell0 (o:=0) (Ext.refl w4) (fun e=>by have:=(own_row (s:=s2) HO2.out e).1;omega) lMW;have h0:=hn5.1.trans h0;have lMW:=hn5.2;have f0:=(HX4.out.wr hwr3 (fun i hi=>(own_row (s:=s2) HO2.out hi).1)).frozen (o:=0) lM;rw [hfz] at f0;have HO3:=Lib.hid hown3;have HX5:=Lib.hid (HX4.out.wr hwr3 (fun i hi=>(own_row (s:=s2) HO2.out hi).1));clear hown3 hwr3 hs3 hn5))
     have hfl:flatE (put7L ([]:List LE) 0 (0) x)=(flatE (([]:List LE).take 0)++[.string k,.int .i64 v.kind,.bool v.b,.int .i64 v.i,.string v.t,.slice sl.a v.l.length sl.c,.slice so.a v.ok.length so.c])++flatE (([]:List LE).drop (0)):=by rw [put7L,flatE_app,flatE_app,show flatE [x]=LE.cells x from by simp [flatE],HCS.out]
     have hpu:(put7L ([]:List LE) 0 (0) x).length=0+1+(([]:List LE).length - (0)):=HPUT.out
     have hzz:([]:List LE).length - (0)=0:=by omega
     have hdd:([]:List LE).drop (0)=[]:=List.drop_eq_nil_iff.2 (by omega)
     rw [hzz] at hpu
     rw [hdd] at hfl
     have hfin:=HEND.out w5 s3 HX5.out (by rw [hpu,hfl];exact HO3.out) (by rw [hpu];omega) HE.out
     rw [hpu] at hfin
     go_end0
     exact ⟨⟨_,rfl⟩,hfin⟩
 | some _ sc _ _ hsc hscm hsF=>
   subst hn
   cases f with
   | true=>
     obtain rfl:p+1=q:=by have:=HQ.out;simpa using this
     by_cases hcap:sc=p+1
     ·have hcap2:=hcap.symm
      subst hcap2
      go_enter Tryz.func23,Tryz.ntmps23
      go_wp2_with fail
      refine HAT.out.mono ?_
      rintro e w2 ⟨rfl,nq,rfl⟩
      have hx2:=HX1.out.drewN nq
      replace h0:=(hx2.cell lM).trans h0
      have hb5':=hb5.ext ((Ext.refl _).drewN nq)
      obtain ⟨c0,c1,c2,c3,c4,c5⟩:=hb5'.c6
      have l5:=hb5'.lt
      have lMW:M<(World.drewN (w.alloc (.cells #[.int .i64 v.kind,.bool v.b,.int .i64 v.i,.string v.t,.slice sl.a v.l.length sl.c,.slice so.a v.ok.length so.c] 34)) nq).heap.size:=Nat.lt_of_lt_of_le lM hx2.size
      generalize World.drewN _ nq=W2 at *
      have hw2:=hx2.size
      have hrp:Rd W2 (Lt w.heap.size) 7 ⟨some ⟨gs,os,none⟩,p+1⟩ p (flatE (xs.take p)):=by have:=((HRD.out W2 hx2).take hpl).rd;rwa [List.length_take,Nat.min_eq_left hpl] at this
      have HRP:=Lib.hid hrp
      have HX2:=Lib.hid hx2
      have h63a:p≤maxLen:=by unfold maxLen;omega
      have hbya:p*104≤140737488355328:=by omega
      have h63b:p+1≤maxLen:=by unfold maxLen;omega
      have hbyb:(p+1)*104≤140737488355328:=by omega
      have hrq:∀ W,Ext w W→Rd W (Lt w.heap.size) 7 ⟨some ⟨gs,os,none⟩,0⟩ 0 []:=fun W hW=>⟨gs,os,.some _ _ _ _ (Nat.zero_le _) (Nat.zero_le _) hsF.1,rfl,fun j u hj=>by simp at hj⟩
      have HRQ:=Lib.hid hrq
      have h63c:p+1+0≤maxLen:=by unfold maxLen;omega
      have hbyc:(p+1+0)*104≤140737488355328:=by omega
      have hqi:((p+1:Nat):Int)≤(xs.length:Int):=by omega
      have hpi:(p:Int)≤(xs.length:Int):=by omega
      clear hrp hx2 HAT hb5 hb5' HX1 hrq
      go_wp2_with (first
       | (at_builtin;refine wpList_append_0 rfl (.tmp 15) (.tmp 21) 48 rfl w.heap.size 64 i0 _ 7 104 Tryz.underlying48 hi hz0 hz1 hz2 rfl (by decide) rfl (Lt w.heap.size) ⟨some ⟨gs,os,none⟩,p+1⟩ p (flatE (xs.take p)) rfl HRP.out (flatE_one _) h63a hbya hw2 ?_;intro s1 w3 hown1 hx3;have c0:=(hx3.cell l5).trans c0;have c1:=(hx3.cell l5).trans c1;have c2:=(hx3.cell l5).trans c2;have c3:=(hx3.cell l5).trans c3;have c4:=(hx3.cell l5).trans c4;have c5:=(hx3.cell l5).trans c5;have h0:=(hx3.cell lMW).trans h0;have l5:=Nat.lt_of_lt_of_le l5 hx3.size;have lMW:=Nat.lt_of_lt_of_le lMW hx3.size;have HO1:=Lib.hid hown1;have HX3:=Lib.hid (HX2.out.trans hx3);have hw3:=HX3.out.size;have HO1A:=Lib.hid (own_agree (w':=w3.alloc (.cells #[.string k,.int .i64 v.kind,.bool v.b,.int .i64 v.i,.string v.t,.slice sl.a v.l.length sl.c,.slice so.a v.ok.length so.c] 64)) (s:=s1) hown1 (F:=Lt w3.heap.size) (((Ext.refl w3).alloc _ _).agree fun _ h=>h) fun b hb=>(own_row (s:=s1) hown1 hb).2);clear hown1 hx3)
       | (at_builtin;refine wpList_append_x _ rfl (.tmp 23) (.tmp 27) 48 rfl w.heap.size 64 i0 _ 7 104 Tryz.underlying48 hi hz0 hz1 hz2 rfl (by decide) s1 p (flatE (xs.take p)) rfl HO1A.out (fun b=>b=w3.heap.size) ⟨some ⟨w3.heap.size,0,none⟩,1⟩ 1 [.string k,.int .i64 v.kind,.bool v.b,.int .i64 v.i,.string v.t,.slice sl.a v.l.length sl.c,.slice so.a v.ok.length so.c] rfl (HRD1.out w3) HONE1.out h63b hbyb (Nat.le_trans hw3 ((Ext.refl w3).alloc _ _).size) ?_;intro s2 w4 hown2 hwr2 hs2;have hx4:=((Ext.refl w3).alloc #[.string k,.int .i64 v.kind,.bool v.b,.int .i64 v.i,.string v.t,.slice sl.a v.l.length sl.c,.slice so.a v.ok.length so.c] 64);have hn4:=hwr2.cell0 (o:=0) hx4 (fun e=>by have:=(own_row (s:=s1) HO1.out e).1;omega) lMW;have h0:=hn4.1.trans h0;have lMW:=hn4.2;have HO2:=Lib.hid hown2;have HX4:=Lib.hid ((HX3.out.trans hx4).wr hwr2 (fun i hi=>(own_row (s:=s1) HO1.out hi).1));have hw4:=HX4.out.size;clear hown2 hwr2 hs2 hx4 hn4)
       | (at_builtin;refine wpList_append_x _ rfl (.tmp 33) (.tmp 39) 48 rfl w.heap.size 64 i0 _ 7 104 Tryz.underlying48 hi hz0 hz1 hz2 rfl (by decide) s2 (p+1) (flatE (xs.take p)++[.string k,.int .i64 v.kind,.bool v.b,.int .i64 v.i,.string v.t,.slice sl.a v.l.length sl.c,.slice so.a v.ok.length so.c]) rfl HO2.out (Lt w.heap.size) ⟨some ⟨gs,os,none⟩,0⟩ 0 [] rfl (HRQ.out w4 HX4.out) (by simp) h63c hbyc hw4 ?_;intro s3 w5 hown3 hwr3 hs3;have hn5:=hwr3.cell0 (o:=0) (Ext.refl w4) (fun e=>by have:=(own_row (s:=s2) HO2.out e).1;omega) lMW;have h0:=hn5.1.trans h0;have lMW:=hn5.2;have f0:=(HX4.out.wr hwr3 (fun i hi=>(own_row (s:=s2) HO2.out hi).1)).frozen (o:=0) lM;rw [hfz] at f0;have HO3:=Lib.hid hown3;have HX5:=Lib.hid (HX4.out.wr hwr3 (fun i hi=>(own_row (s:=s2) HO2.out hi).1));clear hown3 hwr3 hs3 hn5))
      have hfl:flatE (put7L xs p (p+1) x)=(flatE (xs.take p)++[.string k,.int .i64 v.kind,.bool v.b,.int .i64 v.i,.string v.t,.slice sl.a v.l.length sl.c,.slice so.a v.ok.length so.c])++flatE (xs.drop (p+1)):=by rw [put7L,flatE_app,flatE_app,show flatE [x]=LE.cells x from by simp [flatE],HCS.out]
      have hpu:(put7L xs p (p+1) x).length=p+1+(xs.length - (p+1)):=HPUT.out
      have hzz:xs.length - (p+1)=0:=by omega
      have hdd:xs.drop (p+1)=[]:=List.drop_eq_nil_iff.2 (by omega)
      rw [hzz] at hpu
      rw [hdd] at hfl
      have hfin:=HEND.out w5 s3 HX5.out (by rw [hpu,hfl];exact HO3.out) (by rw [hpu];omega) HE.out
      rw [hpu] at hfin
      go_end0
      exact ⟨⟨_,rfl⟩,hfin⟩
     have hcap':¬p+1=sc:=fun e=>hcap e.symm
     go_enter Tryz.func23,Tryz.ntmps23
     go_wp2_with fail
     refine HAT.out.mono ?_
     rintro e w2 ⟨rfl,nq,rfl⟩
     have hx2:=HX1.out.drewN nq
     replace h0:=(hx2.cell lM).trans h0
     have hb5':=hb5.ext ((Ext.refl _).drewN nq)
     obtain ⟨c0,c1,c2,c3,c4,c5⟩:=hb5'.c6
     have l5:=hb5'.lt
     have lMW:M<(World.drewN (w.alloc (.cells #[.int .i64 v.kind,.bool v.b,.int .i64 v.i,.string v.t,.slice sl.a v.l.length sl.c,.slice so.a v.ok.length so.c] 34)) nq).heap.size:=Nat.lt_of_lt_of_le lM hx2.size
     generalize World.drewN _ nq=W2 at *
     have hw2:=hx2.size
     have hrp:Rd W2 (Lt w.heap.size) 7 ⟨some ⟨gs,os,none⟩,sc⟩ p (flatE (xs.take p)):=by have:=((HRD.out W2 hx2).take hpl).rd;rwa [List.length_take,Nat.min_eq_left hpl] at this
     have HRP:=Lib.hid hrp
     have HX2:=Lib.hid hx2
     have h63a:p≤maxLen:=by unfold maxLen;omega
     have hbya:p*104≤140737488355328:=by omega
     have h63b:p+1≤maxLen:=by unfold maxLen;omega
     have hbyb:(p+1)*104≤140737488355328:=by omega
     have hrq:∀ W,Ext w W→Rd W (Lt w.heap.size) 7 ⟨some ⟨gs,os+(p+1)*7,none⟩,sc - (p+1)⟩ (xs.length - (p+1)) (flatE (xs.drop (p+1))):=fun W hW=>by have:=((HRD.out W hW).drop hql).rd;rwa [List.length_drop] at this
     have HRQ:=Lib.hid hrq
     have h63c:p+1+(xs.length - (p+1))≤maxLen:=by unfold maxLen;omega
     have hbyc:(p+1+(xs.length - (p+1)))*104≤140737488355328:=by omega
     have hqi:((p+1:Nat):Int)≤(xs.length:Int):=by omega
     have hpi:(p:Int)≤(xs.length:Int):=by omega
     clear hrp hx2 HAT hb5 hb5' HX1 hrq
     go_wp2_with (first
      | (at_builtin;refine wpList_append_0 rfl (.tmp 15) (.tmp 21) 48 rfl w.heap.size 64 i0 _ 7 104 Tryz.underlying48 hi hz0 hz1 hz2 rfl (by decide) rfl (Lt w.heap.size) ⟨some ⟨gs,os,none⟩,sc⟩ p (flatE (xs.take p)) rfl HRP.out (flatE_one _) h63a hbya hw2 ?_;intro s1 w3 hown1 hx3;have c0:=(hx3.cell l5).trans c0;have c1:=(hx3.cell l5).trans c1;have c2:=(hx3.cell l5).trans c2;have c3:=(hx3.cell l5).trans c3;have c4:=(hx3.cell l5).trans c4;have c5:=(hx3.cell l5).trans c5;have h0:=(hx3.cell lMW).trans h0;have l5:=Nat.lt_of_lt_of_le l5 hx3.size;have lMW:=Nat.lt_of_lt_of_le lMW hx3.size;have HO1:=Lib.hid hown1;have HX3:=Lib.hid (HX2.out.trans hx3);have hw3:=HX3.out.size;have HO1A:=Lib.hid (own_agree (w':=w3.alloc (.cells #[.string k,.int .i64 v.kind,.bool v.b,.int .i64 v.i,.string v.t,.slice sl.a v.l.length sl.c,.slice so.a v.ok.length so.c] 64)) (s:=s1) hown1 (F:=Lt w3.heap.size) (((Ext.refl w3).alloc _ _).agree fun _ h=>h) fun b hb=>(own_row (s:=s1) hown1 hb).2);clear hown1 hx3)
      | (at_builtin;refine wpList_append_x _ rfl (.tmp 23) (.tmp 27) 48 rfl w.heap.size 64 i0 _ 7 104 Tryz.underlying48 hi hz0 hz1 hz2 rfl (by decide) s1 p (flatE (xs.take p)) rfl HO1A.out (fun b=>b=w3.heap.size) ⟨some ⟨w3.heap.size,0,none⟩,1⟩ 1 [.string k,.int .i64 v.kind,.bool v.b,.int .i64 v.i,.string v.t,.slice sl.a v.l.length sl.c,.slice so.a v.ok.length so.c] rfl (HRD1.out w3) HONE1.out h63b hbyb (Nat.le_trans hw3 ((Ext.refl w3).alloc _ _).size) ?_;intro s2 w4 hown2 hwr2 hs2;have hx4:=((Ext.refl w3).alloc #[.string k,.int .i64 v.kind,.bool v.b,.int .i64 v.i,.string v.t,.slice sl.a v.l.length sl.c,.slice so.a v.ok.length so.c] 64);have hn4:=hwr2.cell0 (o:=0) hx4 (fun e=>by have:=(own_row (s:=s1) HO1.out e).1;omega) lMW;have h0:=hn4.1.trans h0;have lMW:=hn4.2;have HO2:=Lib.hid hown2;have HX4:=Lib.hid ((HX3.out.trans hx4).wr hwr2 (fun i hi=>(own_row (s:=s1) HO1.out hi).1));have hw4:=HX4.out.size;clear hown2 hwr2 hs2 hx4 hn4)
      | (at_builtin;refine wpList_append_x _ rfl (.tmp 33) (.tmp 39) 48 rfl w.heap.size 64 i0 _ 7 104 Tryz.underlying48 hi hz0 hz1 hz2 rfl (by decide) s2 (p+1) (flatE (xs.take p)++[.string k,.int .i64 v.kind,.bool v.b,.int .i64 v.i,.string v.t,.slice sl.a v.l.length sl.c,.slice so.a v.ok.length so.c]) rfl HO2.out (Lt w.heap.size) ⟨some ⟨gs,os+(p+1)*7,none⟩,sc - (p+1)⟩ (xs.length - (p+1)) (flatE (xs.drop (p+1))) rfl (HRQ.out w4 HX4.out) (flatE_one _) h63c hbyc hw4 ?_;intro s3 w5 hown3 hwr3 hs3;have hn5:=hwr3.cell0 (o:=0) (Ext.refl w4) (fun e=>by have:=(own_row (s:=s2) HO2.out e).1;omega) lMW;have h0:=hn5.1.trans h0;have lMW:=hn5.2;have f0:=(HX4.out.wr hwr3 (fun i hi=>(own_row (s:=s2) HO2.out hi).1)).frozen (o:=0) lM;rw [hfz] at f0;have HO3:=Lib.hid hown3;have HX5:=Lib.hid (HX4.out.wr hwr3 (fun i hi=>(own_row (s:=s2) HO2.out hi).1));clear hown3 hwr3 hs3 hn5))
     have hfl:flatE (put7L xs p (p+1) x)=(flatE (xs.take p)++[.string k,.int .i64 v.kind,.bool v.b,.int .i64 v.i,.string v.t,.slice sl.a v.l.length sl.c,.slice so.a v.ok.length so.c])++flatE (xs.drop (p+1)):=by rw [put7L,flatE_app,flatE_app,show flatE [x]=LE.cells x from by simp [flatE],HCS.out]
     have hpu:(put7L xs p (p+1) x).length=p+1+(xs.length - (p+1)):=HPUT.out
     have hfin:=HEND.out w5 s3 HX5.out (by rw [hpu,hfl];exact HO3.out) (by rw [hpu];omega) HE.out
     rw [hpu,show p+1+(xs.length - (p+1))=xs.length from by omega] at hfin
     go_end0
     exact ⟨⟨_,rfl⟩,hfin⟩
   | false=>
     obtain rfl:p=q:=by have:=HQ.out;simpa using this
     by_cases hcap:sc=p
     ·have hcap2:=hcap.symm
      subst hcap2
      go_enter Tryz.func23,Tryz.ntmps23
      go_wp2_with fail
      refine HAT.out.mono ?_
      rintro e w2 ⟨rfl,nq,rfl⟩
      have hx2:=HX1.out.drewN nq
      replace h0:=(hx2.cell lM).trans h0
      have hb5':=hb5.ext ((Ext.refl _).drewN nq)
      obtain ⟨c0,c1,c2,c3,c4,c5⟩:=hb5'.c6
      have l5:=hb5'.lt
      have lMW:M<(World.drewN (w.alloc (.cells #[.int .i64 v.kind,.bool v.b,.int .i64 v.i,.string v.t,.slice sl.a v.l.length sl.c,.slice so.a v.ok.length so.c] 34)) nq).heap.size:=Nat.lt_of_lt_of_le lM hx2.size
      generalize World.drewN _ nq=W2 at *
      have hw2:=hx2.size
      have hrp:Rd W2 (Lt w.heap.size) 7 ⟨some ⟨gs,os,none⟩,p⟩ p (flatE (xs.take p)):=by have:=((HRD.out W2 hx2).take hpl).rd;rwa [List.length_take,Nat.min_eq_left hpl] at this
      have HRP:=Lib.hid hrp
      have HX2:=Lib.hid hx2
      have h63a:p≤maxLen:=by unfold maxLen;omega
      have hbya:p*104≤140737488355328:=by omega
      have h63b:p+1≤maxLen:=by unfold maxLen;omega
      have hbyb:(p+1)*104≤140737488355328:=by omega
      have hrq:∀ W,Ext w W→Rd W (Lt w.heap.size) 7 ⟨some ⟨gs,os,none⟩,0⟩ 0 []:=fun W hW=>⟨gs,os,.some _ _ _ _ (Nat.zero_le _) (Nat.zero_le _) hsF.1,rfl,fun j u hj=>by simp at hj⟩
      have HRQ:=Lib.hid hrq
      have h63c:p+1+0≤maxLen:=by unfold maxLen;omega
      have hbyc:(p+1+0)*104≤140737488355328:=by omega
      have hqi:((p:Nat):Int)≤(xs.length:Int):=by omega
      have hpi:(p:Int)≤(xs.length:Int):=by omega
      clear hrp hx2 HAT hb5 hb5' HX1 hrq
      go_wp2_with (first
       | (at_builtin;refine wpList_append_0 rfl (.tmp 15) (.tmp 21) 48 rfl w.heap.size 64 i0 _ 7 104 Tryz.underlying48 hi hz0 hz1 hz2 rfl (by decide) rfl (Lt w.heap.size) ⟨some ⟨gs,os,none⟩,p⟩ p (flatE (xs.take p)) rfl HRP.out (flatE_one _) h63a hbya hw2 ?_;intro s1 w3 hown1 hx3;have c0:=(hx3.cell l5).trans c0;have c1:=(hx3.cell l5).trans c1;have c2:=(hx3.cell l5).trans c2;have c3:=(hx3.cell l5).trans c3;have c4:=(hx3.cell l5).trans c4;have c5:=(hx3.cell l5).trans c5;have h0:=(hx3.cell lMW).trans h0;have l5:=Nat.lt_of_lt_of_le l5 hx3.size;have lMW:=Nat.lt_of_lt_of_le lMW hx3.size;have HO1:=Lib.hid hown1;have HX3:=Lib.hid (HX2.out.trans hx3);have hw3:=HX3.out.size;have HO1A:=Lib.hid (own_agree (w':=w3.alloc (.cells #[.string k,.int .i64 v.kind,.bool v.b,.int .i64 v.i,.string v.t,.slice sl.a v.l.length sl.c,.slice so.a v.ok.length so.c] 64)) (s:=s1) hown1 (F:=Lt w3.heap.size) (((Ext.refl w3).alloc _ _).agree fun _ h=>h) fun b hb=>(own_row (s:=s1) hown1 hb).2);clear hown1 hx3)
       | (at_builtin;refine wpList_append_x _ rfl (.tmp 23) (.tmp 27) 48 rfl w.heap.size 64 i0 _ 7 104 Tryz.underlying48 hi hz0 hz1 hz2 rfl (by decide) s1 p (flatE (xs.take p)) rfl HO1A.out (fun b=>b=w3.heap.size) ⟨some ⟨w3.heap.size,0,none⟩,1⟩ 1 [.string k,.int .i64 v.kind,.bool v.b,.int .i64 v.i,.string v.t,.slice sl.a v.l.length sl.c,.slice so.a v.ok.length so.c] rfl (HRD1.out w3) HONE1.out h63b hbyb (Nat.le_trans hw3 ((Ext.refl w3).alloc _ _).size) ?_;intro s2 w4 hown2 hwr2 hs2;have hx4:=((Ext.refl w3).alloc #[.string k,.int .i64 v.kind,.bool v.b,.int .i64 v.i,.string v.t,.slice sl.a v.l.length sl.c,.slice so.a v.ok.length so.c] 64);have hn4:=hwr2.cell0 (o:=0) hx4 (fun e=>by have:=(own_row (s:=s1) HO1.out e).1;omega) lMW;have h0:=hn4.1.trans h0;have lMW:=hn4.2;have HO2:=Lib.hid hown2;have HX4:=Lib.hid ((HX3.out.trans hx4).wr hwr2 (fun i hi=>(own_row (s:=s1) HO1.out hi).1));have hw4:=HX4.out.size;clear hown2 hwr2 hs2 hx4 hn4)
       | (at_builtin;refine wpList_append_x _ rfl (.tmp 33) (.tmp 39) 48 rfl w.heap.size 64 i0 _ 7 104 Tryz.underlying48 hi hz0 hz1 hz2 rfl (by decide) s2 (p+1) (flatE (xs.take p)++[.string k,.int .i64 v.kind,.bool v.b,.int .i64 v.i,.string v.t,.slice sl.a v.l.length sl.c,.slice so.a v.ok.length so.c]) rfl HO2.out (Lt w.heap.size) ⟨some ⟨gs,os,none⟩,0⟩ 0 [] rfl (HRQ.out w4 HX4.out) (by simp) h63c hbyc hw4 ?_;intro s3 w5 hown3 hwr3 hs3;have hn5:=hwr3.cell0 (o:=0) (Ext.refl w4) (fun e=>by have:=(own_row (s:=s2) HO2.out e).1;omega) lMW;have h0:=hn5.1.trans h0;have lMW:=hn5.2;have f0:=(HX4.out.wr hwr3 (fun i hi=>(own_row (s:=s2) HO2.out hi).1)).frozen (o:=0) lM;rw [hfz] at f0;have HO3:=Lib.hid hown3;have HX5:=Lib.hid (HX4.out.wr hwr3 (fun i hi=>(own_row (s:=s2) HO2.out hi).1));clear hown3 hwr3 hs3 hn5))
      have hfl:flatE (put7L xs p (p) x)=(flatE (xs.take p)++[.string k,.int .i64 v.kind,.bool v.b,.int .i64 v.i,.string v.t,.slice sl.a v.l.length sl.c,.slice so.a v.ok.length so.c])++flatE (xs.drop (p)):=by rw [put7L,flatE_app,flatE_app,show flatE [x]=LE.cells x from by simp [flatE],HCS.out]
      have hpu:(put7L xs p (p) x).length=p+1+(xs.length - (p)):=HPUT.out
      have hzz:xs.length - (p)=0:=by omega
      have hdd:xs.drop (p)=[]:=List.drop_eq_nil_iff.2 (by omega)
      rw [hzz] at hpu
      rw [hdd] at hfl
      have hfin:=HEND.out w5 s3 HX5.out (by rw [hpu,hfl];exact HO3.out) (by rw [hpu];omega) HE.out
      rw [hpu] at hfin
      go_end0
      exact ⟨⟨_,rfl⟩,hfin⟩
     have hcap':¬p=sc:=fun e=>hcap e.symm
     go_enter Tryz.func23,Tryz.ntmps23
     go_wp2_with fail
     refine HAT.out.mono ?_
     rintro e w2 ⟨rfl,nq,rfl⟩
     have hx2:=HX1.out.drewN nq
     replace h0:=(hx2.cell lM).trans h0
     have hb5':=hb5.ext ((Ext.refl _).drewN nq)
     obtain ⟨c0,c1,c2,c3,c4,c5⟩:=hb5'.c6
     have l5:=hb5'.lt
     have lMW:M<(World.drewN (w.alloc (.cells #[.int .i64 v.kind,.bool v.b,.int .i64 v.i,.string v.t,.slice sl.a v.l.length sl.c,.slice so.a v.ok.length so.c] 34)) nq).heap.size:=Nat.lt_of_lt_of_le lM hx2.size
     generalize World.drewN _ nq=W2 at *
     have hw2:=hx2.size
     have hrp:Rd W2 (Lt w.heap.size) 7 ⟨some ⟨gs,os,none⟩,sc⟩ p (flatE (xs.take p)):=by have:=((HRD.out W2 hx2).take hpl).rd;rwa [List.length_take,Nat.min_eq_left hpl] at this
     have HRP:=Lib.hid hrp
     have HX2:=Lib.hid hx2
     have h63a:p≤maxLen:=by unfold maxLen;omega
     have hbya:p*104≤140737488355328:=by omega
     have h63b:p+1≤maxLen:=by unfold maxLen;omega
     have hbyb:(p+1)*104≤140737488355328:=by omega
     have hrq:∀ W,Ext w W→Rd W (Lt w.heap.size) 7 ⟨some ⟨gs,os+(p)*7,none⟩,sc - (p)⟩ (xs.length - (p)) (flatE (xs.drop (p))):=fun W hW=>by have:=((HRD.out W hW).drop hql).rd;rwa [List.length_drop] at this
     have HRQ:=Lib.hid hrq
     have h63c:p+1+(xs.length - (p))≤maxLen:=by unfold maxLen;omega
     have hbyc:(p+1+(xs.length - (p)))*104≤140737488355328:=by omega
     have hqi:((p:Nat):Int)≤(xs.length:Int):=by omega
     have hpi:(p:Int)≤(xs.length:Int):=by omega
     clear hrp hx2 HAT hb5 hb5' HX1 hrq
     go_wp2_with (first
      | (at_builtin;refine wpList_append_0 rfl (.tmp 15) (.tmp 21) 48 rfl w.heap.size 64 i0 _ 7 104 Tryz.underlying48 hi hz0 hz1 hz2 rfl (by decide) rfl (Lt w.heap.size) ⟨some ⟨gs,os,none⟩,sc⟩ p (flatE (xs.take p)) rfl HRP.out (flatE_one _) h63a hbya hw2 ?_;intro s1 w3 hown1 hx3;have c0:=(hx3.cell l5).trans c0;have c1:=(hx3.cell l5).trans c1;have c2:=(hx3.cell l5).trans c2;have c3:=(hx3.cell l5).trans c3;have c4:=(hx3.cell l5).trans c4;have c5:=(hx3.cell l5).trans c5;have h0:=(hx3.cell lMW).trans h0;have l5:=Nat.lt_of_lt_of_le l5 hx3.size;have lMW:=Nat.lt_of_lt_of_le lMW hx3.size;have HO1:=Lib.hid hown1;have HX3:=Lib.hid (HX2.out.trans hx3);have hw3:=HX3.out.size;have HO1A:=Lib.hid (own_agree (w':=w3.alloc (.cells #[.string k,.int .i64 v.kind,.bool v.b,.int .i64 v.i,.string v.t,.slice sl.a v.l.length sl.c,.slice so.a v.ok.length so.c] 64)) (s:=s1) hown1 (F:=Lt w3.heap.size) (((Ext.refl w3).alloc _ _).agree fun _ h=>h) fun b hb=>(own_row (s:=s1) hown1 hb).2);clear hown1 hx3)
      | (at_builtin;refine wpList_append_x _ rfl (.tmp 23) (.tmp 27) 48 rfl w.heap.size 64 i0 _ 7 104 Tryz.underlying48 hi hz0 hz1 hz2 rfl (by decide) s1 p (flatE (xs.take p)) rfl HO1A.out (fun b=>b=w3.heap.size) ⟨some ⟨w3.heap.size,0,none⟩,1⟩ 1 [.string k,.int .i64 v.kind,.bool v.b,.int .i64 v.i,.string v.t,.slice sl.a v.l.length sl.c,.slice so.a v.ok.length so.c] rfl (HRD1.out w3) HONE1.out h63b hbyb (Nat.le_trans hw3 ((Ext.refl w3).alloc _ _).size) ?_;intro s2 w4 hown2 hwr2 hs2;have hx4:=((Ext.refl w3).alloc #[.string k,.int .i64 v.kind,.bool v.b,.int .i64 v.i,.string v.t,.slice sl.a v.l.length sl.c,.slice so.a v.ok.length so.c] 64);have hn4:=hwr2.cell0 (o:=0) hx4 (fun e=>by have:=(own_row (s:=s1) HO1.out e).1;omega) lMW;have h0:=hn4.1.trans h0;have lMW:=hn4.2;have HO2:=Lib.hid hown2;have HX4:=Lib.hid ((HX3.out.trans hx4).wr hwr2 (fun i hi=>(own_row (s:=s1) HO1.out hi).1));have hw4:=HX4.out.size;clear hown2 hwr2 hs2 hx4 hn4)
      | (at_builtin;refine wpList_append_x _ rfl (.tmp 33) (.tmp 39) 48 rfl w.heap.size 64 i0 _ 7 104 Tryz.underlying48 hi hz0 hz1 hz2 rfl (by decide) s2 (p+1) (flatE (xs.take p)++[.string k,.int .i64 v.kind,.bool v.b,.int .i64 v.i,.string v.t,.slice sl.a v.l.length sl.c,.slice so.a v.ok.length so.c]) rfl HO2.out (Lt w.heap.size) ⟨some ⟨gs,os+(p)*7,none⟩,sc - (p)⟩ (xs.length - (p)) (flatE (xs.drop (p))) rfl (HRQ.out w4 HX4.out) (flatE_one _) h63c hbyc hw4 ?_;intro s3 w5 hown3 hwr3 hs3;have hn5:=hwr3.cell0 (o:=0) (Ext.refl w4) (fun e=>by have:=(own_row (s:=s2) HO2.out e).1;omega) lMW;have h0:=hn5.1.trans h0;have lMW:=hn5.2;have f0:=(HX4.out.wr hwr3 (fun i hi=>(own_row (s:=s2) HO2.out hi).1)).frozen (o:=0) lM;rw [hfz] at f0;have HO3:=Lib.hid hown3;have HX5:=Lib.hid (HX4.out.wr hwr3 (fun i hi=>(own_row (s:=s2) HO2.out hi).1));clear hown3 hwr3 hs3 hn5))
     have hfl:flatE (put7L xs p (p) x)=(flatE (xs.take p)++[.string k,.int .i64 v.kind,.bool v.b,.int .i64 v.i,.string v.t,.slice sl.a v.l.length sl.c,.slice so.a v.ok.length so.c])++flatE (xs.drop (p)):=by rw [put7L,flatE_app,flatE_app,show flatE [x]=LE.cells x from by simp [flatE],HCS.out]
     have hpu:(put7L xs p (p) x).length=p+1+(xs.length - (p)):=HPUT.out
     have hfin:=HEND.out w5 s3 HX5.out (by rw [hpu,hfl];exact HO3.out) (by rw [hpu];omega) HE.out
     rw [hpu] at hfin
     go_end0
     exact ⟨⟨_,rfl⟩,hfin⟩
theorem numbers_any (w:World) (a b:Int):Calls Tryz.prog 86 #[.int .i64 a,.int .i64 b] w fun e w'=>e=.returned (.int .i64 (numI a b))∧w=w':=by
 by_cases h:a<b
 ·have hn:numI a b = -1:=by simp [numI,h]
  rw [hn]
  go_enter Tryz.func86,Tryz.ntmps86
  go_wp2_with fail
  go_ret
  exact ⟨rfl,rfl⟩
 by_cases h':b<a
 ·have hn:numI a b=1:=by simp [numI,h,h']
  rw [hn]
  go_enter Tryz.func86,Tryz.ntmps86
  go_wp2_with fail
  go_ret
  exact ⟨rfl,rfl⟩
 have hn:numI a b=0:=by simp [numI,h,h']
 rw [hn]
 go_enter Tryz.func86,Tryz.ntmps86
 go_wp2_with fail
 go_ret
 exact ⟨rfl,rfl⟩
theorem bl_same (p x y:List UInt8):Op.bytesLess (p++x) (p++y)=Op.bytesLess x y:=by
 induction p with
 | nil=>rfl
 | cons a p ih=>simp [Op.bytesLess,ih]
theorem byte_get {a:ByteArray} {i:Nat} (h:i<a.size):a.toList[i]? = some a[i]:=by
 rw [ByteArray.toList_eq]
 obtain ⟨d⟩:=a
 have h:i<d.size:=h
 show d.toList[i]? = some d[i]
 simp [h]
theorem toList_len (a:ByteArray):a.toList.length=a.size:=by
 rw [ByteArray.toList_eq];rfl
theorem textI_diff {a b:ByteArray} {i:Nat} (ha:i<a.size) (hb:i<b.size) (hp:a.toList.take i=b.toList.take i) (hne:a[i]≠b[i]):textI a b=numI (a[i].toNat:Int) (b[i].toNat:Int):=by
 have e1:a.toList=a.toList.take i++a[i] :: a.toList.drop (i+1):=by
  have h:=byte_get ha
  obtain ⟨h1,h2⟩:=List.getElem?_eq_some_iff.1 h
  conv=>lhs;rw [←List.take_append_drop i a.toList,List.drop_eq_getElem_cons h1,h2]
 have e2:b.toList=a.toList.take i++b[i] :: b.toList.drop (i+1):=by
  have h:=byte_get hb
  obtain ⟨h1,h2⟩:=List.getElem?_eq_some_iff.1 h
  conv=>lhs;rw [←List.take_append_drop i b.toList,List.drop_eq_getElem_cons h1,h2]
  rw [hp]
 unfold textI klt
 generalize a[i]=x at *
 generalize b[i]=y at *
 have key:∀ (P u v A B:List UInt8),A=P++x :: u→B=P++y :: v→Op.bytesLess A B=decide (x<y)∧Op.bytesLess B A=decide (y<x):=by
  rintro P u v A B rfl rfl
  have hne':¬x=y:=hne
  have hne2:¬y=x:=fun h=>hne h.symm
  rw [bl_same,bl_same]
  exact ⟨by simp [Op.bytesLess,hne'],by simp [Op.bytesLess,hne2]⟩
 obtain ⟨k1,k2⟩:=key _ _ _ _ _ e1 e2
 rw [k1,k2]
 unfold numI
 have h1:(x<y)↔((x.toNat:Int)<(y.toNat:Int)):=by rw [UInt8.lt_iff_toNat_lt];omega
 have h2:(y<x)↔((y.toNat:Int)<(x.toNat:Int)):=by rw [UInt8.lt_iff_toNat_lt];omega
 simp only [decide_eq_true_eq,h1,h2]
theorem textI_pre {a b:ByteArray} (hp:a.toList.take (min a.size b.size)=b.toList.take (min a.size b.size)):textI a b=numI (a.size:Int) (b.size:Int):=by
 have la:=toList_len a
 have lb:=toList_len b
 rcases Nat.lt_trichotomy a.size b.size with h | h | h
 ·have e:b.toList=a.toList++b.toList.drop a.size:=by
   rw [Nat.min_eq_left (Nat.le_of_lt h),←la,List.take_length,la] at hp
   conv=>lhs;rw [←List.take_append_drop a.size b.toList,←hp]
  obtain ⟨c,r,hr⟩:∃ c r,b.toList.drop a.size=c :: r:=by
   cases hd:b.toList.drop a.size with
   | nil=>have:=congrArg List.length hd;rw [List.length_drop,lb] at this;simp at this;omega
   | cons c r=>exact ⟨c,r,rfl⟩
  have k1:klt a b=true:=by
   unfold klt
   rw [e,hr]
   conv=>lhs;arg 1;rw [←List.append_nil a.toList]
   rw [bl_same];rfl
  unfold textI numI
  rw [if_pos k1,if_pos (by omega)]
 ·have e:a=b:=toList_inj (by rw [h,Nat.min_self,←lb] at hp;rw [List.take_length] at hp;rw [←hp,lb,←h,←la,List.take_length])
  subst e
  rw [textI_self,numI_self]
 have e:a.toList=b.toList++a.toList.drop b.size:=by
  rw [Nat.min_eq_right (Nat.le_of_lt h)] at hp
  conv=>lhs;rw [←List.take_append_drop b.size a.toList,hp,←lb,List.take_length]
  rw [lb]
 obtain ⟨c,r,hr⟩:∃ c r,a.toList.drop b.size=c :: r:=by
  cases hd:a.toList.drop b.size with
  | nil=>have:=congrArg List.length hd;rw [List.length_drop,la] at this;simp at this;omega
  | cons c r=>exact ⟨c,r,rfl⟩
 have k1:klt b a=true:=by
  unfold klt
  rw [e,hr]
  conv=>lhs;arg 1;rw [←List.append_nil b.toList]
  rw [bl_same];rfl
 unfold textI numI
 rw [if_neg (by rw [klt_asymm k1];simp),if_pos k1,if_neg (by omega),if_pos (by omega)]
theorem texts_any (w:World) (a b:ByteArray) (ha:a.size≤maxLen) (hb:b.size≤maxLen):Calls Tryz.prog 87 #[.string a,.string b] w fun e w'=>e=.returned (.int .i64 (textI a b))∧Ext w w':=by
 have hn:∀ W x y,Calls Tryz.prog 86 #[.int .i64 x,.int .i64 y] W fun e w'=>e=.returned (.int .i64 (numI x y))∧W=w':=numbers_any
 unfold maxLen at ha hb
 have HN:=Lib.hid hn
 clear hn
 go_enter Tryz.func87,Tryz.ntmps87
 go_wp2_with fail
 go_loopw [5] (fun q wr=>∃ i:Nat,q=.int .i64 i∧i≤a.size∧i≤b.size∧a.toList.take i=b.toList.take i∧Ext w wr) (fun q _=>a.size - (intOf q).toNat)
 case atStart=>exact ⟨0,rfl,Nat.zero_le _,Nat.zero_le _,rfl,Ext.refl w⟩
 obtain ⟨i,rfl,hia,hib,hp,hx⟩:=hrel
 by_cases h1:i<a.size
 ·by_cases h2:i<b.size
  ·have g1:(i:Int)<(a.size:Int):=by omega
   have g2:(i:Int)<(b.size:Int):=by omega
   have HP:=Lib.hid hp
   have HX:=Lib.hid hx
   clear hp hx
   go_wp2_with fail
   go_quiet (fail)
   go_wp2_with fail
   case _=>
    have hne:(((a[i].toNat:Nat):Int) != ((b[i].toNat:Nat):Int))=true:=by assumption
    have hne':a[i]≠b[i]:=fun e=>by rw [e] at hne;simp at hne
    have HT:=Lib.hid (textI_diff h1 h2 HP.out hne')
    have hwa:wrap64 ((a[i].toNat:Nat):Int)=((a[i].toNat:Nat):Int):=by have:=a[i].toNat_lt;unfold wrap64;omega
    have hwb:wrap64 ((b[i].toNat:Nat):Int)=((b[i].toNat:Nat):Int):=by have:=b[i].toNat_lt;unfold wrap64;omega
    have HWA:=Lib.hid hwa
    have HWB:=Lib.hid hwb
    clear hne' hwa hwb
    go_quiet ((go_at_call 86;refine (HN.out _ _ _).mono ?_;rintro e w2 ⟨rfl,rfl⟩;exact ⟨rfl,_,rfl⟩))
    go_wp2_with fail
    go_ret
    rw [HT.out,HWA.out,HWB.out]
    exact ⟨rfl,(HX.out.drewN _).drewN _⟩
   case roundEnd=>
    have hne:(((a[i].toNat:Nat):Int) != ((b[i].toNat:Nat):Int))=false:=by assumption
    have he:a[i]=b[i]:=UInt8.toNat_inj.1 (by have h:=bne_eq_false_iff_eq.1 hne;omega)
    refine ⟨⟨i+1,by simp,by omega,by omega,?_,HX.out.drewN _⟩,?_⟩
    ·rw [List.take_add_one,List.take_add_one,byte_get h1,byte_get h2,HP.out,he]
    simp [intOf];omega
  have g1:(i:Int)<(a.size:Int):=by omega
  have g2:¬(i:Int)<(b.size:Int):=by omega
  obtain rfl:i=b.size:=by omega
  have HT:=Lib.hid (textI_pre (a:=a) (b:=b) (by rw [Nat.min_eq_right hia];exact hp))
  have HX:=Lib.hid hx
  clear hp hx
  go_wp2_with fail
  refine (HN.out _ _ _).mono ?_
  rintro e w2 ⟨rfl,rfl⟩
  go_wp2_with fail
  go_ret
  rw [HT.out]
  exact ⟨rfl,HX.out⟩
 have g1:¬(i:Int)<(a.size:Int):=by omega
 obtain rfl:i=a.size:=by omega
 have HT:=Lib.hid (textI_pre (a:=a) (b:=b) (by rw [Nat.min_eq_left hib];exact hp))
 have HX:=Lib.hid hx
 clear hp hx
 go_wp2_with fail
 refine (HN.out _ _ _).mono ?_
 rintro e w2 ⟨rfl,rfl⟩
 go_wp2_with fail
 go_ret
 rw [HT.out]
 exact ⟨rfl,HX.out⟩
section
variable {P : Program} {ops : Array Oper} {Q : Exit → Act → World → Prop} {md : Region.Mode} {S : World → Prop}
theorem held_on {i:Nat} {oi:Oper} {d:Option Tmp} {v:Value} {fuel:Nat} {listed:Array Bool} {a:Act} {w:World} (hi:ops[i]? = some oi) (hd:oi.dst=d)
  (hs:Region.noSelect ops=true) (hf:Region.free md ops listed i=true) (hr:(Region.ready md ops listed).contains i=true)
  (hQ:∀ c a w,Q (.panic c) (a.put d v) w→Q (.panic c) a w) (hw:Region.wanted oi (yielded ops a.tmps)=true) (hS:S w) (hy:∀ w,S w→(execOp a.eval oi).run P w=.ok (.value v) w)
  (h:wpAnyH P md ops Q S fuel (listed.setIfInBounds i true) (a.put d v) w):wpAnyH P md ops Q S (fuel+1) listed a w:=by
 subst hd
 exact wpAnyH_take hi hs hf hr hQ (.inl ⟨hw,hy⟩) hS h
theorem held_off {i:Nat} {oi:Oper} {d:Option Tmp} {fuel:Nat} {listed:Array Bool} {a:Act} {w:World} (hi:ops[i]? = some oi) (hd:oi.dst=d)
  (hs:Region.noSelect ops=true) (hf:Region.free md ops listed i=true) (hr:(Region.ready md ops listed).contains i=true)
  (hQ:∀ c a w,Q (.panic c) (a.put d undef) w→Q (.panic c) a w) (hw:Region.wanted oi (yielded ops a.tmps)=false) (hS:S w)
  (h:wpAnyH P md ops Q S fuel (listed.setIfInBounds i true) (a.put d undef) w):wpAnyH P md ops Q S (fuel+1) listed a w:=by
 subst hd
 exact wpAnyH_take hi hs hf hr hQ (.inr ⟨hw,rfl⟩) hS h
theorem held_call {i:Nat} {oi:Oper} {fuel:Nat} {listed:Array Bool} {a:Act} {w:World} (hr:Region.ready md ops listed=[i]) (hi:ops[i]? = some oi) (hw:Region.wanted oi (yielded ops a.tmps)=true)
  (h:∀ K':Act→World→Prop,Shut (∀ a w,S w→(S w→wpAnyH P md ops Q S fuel (listed.setIfInBounds i true) a w)→K' a w)→Oper.wp P oi a w K' Q):wpAnyH P md ops Q S (fuel+1) listed a w:=
 wpAnyH_ready hr (by simp) (AllReadyH.cons hi (fun K' hK=>by rw [if_pos hw];exact h K' hK) AllReadyH.nil)
end
section
variable {P : Program} {ops : Array Oper} {Q : Exit → Act → World → Prop} {md : Region.Mode} {S C : World → Prop}
theorem heldO (i:Nat) (d:Option Tmp) {oi:Oper} {fuel:Nat} {listed l':Array Bool} {a a':Act} {w:World} (hS:S w) (h:wpAnyH P md ops Q S fuel l' a' w)
  (hi:ops[i]? = some oi:=by rfl) (hd:oi.dst=d:=by rfl) (hs:Region.noSelect ops=true:=by kernel_rfl) (hf:Region.free md ops listed i=true:=by kernel_rfl) (hr:(Region.ready md ops listed).contains i=true:=by kernel_rfl)
  (hQ:∀ c a w,Q (.panic c) (a.put d undef) w→Q (.panic c) a w:=by exact fun _ _ _ h=>h) (hw:Region.wanted oi (yielded ops a.tmps)=false:=by rfl)
  (hl:listed.setIfInBounds i true=l':=by first | (simp only [List.setIfInBounds_toArray,List.set_cons_zero,List.set_cons_succ];rfl) | rfl)
  (hp:a.put d undef=a':=by first | (simp only [Act.put,List.setIfInBounds_toArray,List.set_cons_zero,List.set_cons_succ];rfl) | rfl):wpAnyH P md ops Q S (fuel+1) listed a w:=by
 subst hl hp
 exact held_off hi hd hs hf hr hQ hw hS h
theorem heldT (i:Nat) (d:Option Tmp) {v:Value} {oi:Oper} {fuel:Nat} {listed l':Array Bool} {a a':Act} {w:World} (hC:Hid (∀ W,S W→C W)) (hS:S w) (h:wpAnyH P md ops Q S fuel l' a' w)
  (hi:ops[i]? = some oi:=by rfl) (hd:oi.dst=d:=by rfl) (hs:Region.noSelect ops=true:=by kernel_rfl) (hf:Region.free md ops listed i=true:=by kernel_rfl) (hr:(Region.ready md ops listed).contains i=true:=by kernel_rfl)
  (hy:∀ w,C w→(execOp a.eval oi).run P w=.ok (.value v) w:=by (intro w hSc;go_simp;first | done | with_reducible rfl))
  (hQ:∀ c a w,Q (.panic c) (a.put d v) w→Q (.panic c) a w:=by exact fun _ _ _ h=>h) (hw:Region.wanted oi (yielded ops a.tmps)=true:=by rfl)
  (hl:listed.setIfInBounds i true=l':=by first | (simp only [List.setIfInBounds_toArray,List.set_cons_zero,List.set_cons_succ];rfl) | rfl)
  (hp:a.put d v=a':=by first | (simp only [Act.put,List.setIfInBounds_toArray,List.set_cons_zero,List.set_cons_succ];rfl) | rfl):wpAnyH P md ops Q S (fuel+1) listed a w:=by
 subst hl hp
 exact held_on hi hd hs hf hr hQ hw hS (fun w hw=>hy w (hC.out w hw)) h
theorem heldU (i:Nat) (d:Option Tmp) {v:Value} {oi:Oper} {fuel:Nat} {listed l':Array Bool} {a a':Act} {w:World} (hS:S w) (h:wpAnyH P md ops Q S fuel l' a' w)
  (hi:ops[i]? = some oi:=by rfl) (hd:oi.dst=d:=by rfl) (hs:Region.noSelect ops=true:=by kernel_rfl) (hf:Region.free md ops listed i=true:=by kernel_rfl) (hr:(Region.ready md ops listed).contains i=true:=by kernel_rfl)
  (hy:∀ w,S w→(execOp a.eval oi).run P w=.ok (.value v) w:=by (intro w hSw;(try dsimp only at hSw);go_simp;first | done | with_reducible rfl))
  (hQ:∀ c a w,Q (.panic c) (a.put d v) w→Q (.panic c) a w:=by exact fun _ _ _ h=>h) (hw:Region.wanted oi (yielded ops a.tmps)=true:=by rfl)
  (hl:listed.setIfInBounds i true=l':=by first | (simp only [List.setIfInBounds_toArray,List.set_cons_zero,List.set_cons_succ];rfl) | rfl)
  (hp:a.put d v=a':=by first | (simp only [Act.put,List.setIfInBounds_toArray,List.set_cons_zero,List.set_cons_succ];rfl) | rfl):wpAnyH P md ops Q S (fuel+1) listed a w:=by
 subst hl hp
 exact held_on hi hd hs hf hr hQ hw hS hy h
end
end Go.Proofs.YtechahocffcbpaaGreatDoor
