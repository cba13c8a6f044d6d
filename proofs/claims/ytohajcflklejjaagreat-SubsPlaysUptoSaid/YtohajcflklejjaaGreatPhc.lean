/- What the theorem needs of the texts With2, Put, Trees, Get, Gather, Map7, Step, Put7, Text02, Held, Cmp02, BuiltP: no condition of its own. -/
import Derived.Deep.RegionLaw
import Derived.Deep.RegionHeld3
import Derived.Lib.Hide
import Derived.Below
import Derived.Test.YtohajcflklejjaaGreatPha
import Derived.Test.YtohajcflklejjaaGreatPhb
set_option maxRecDepth 100000
set_option maxHeartbeats 2000000
namespace Go.Proofs.YtohajcflklejjaaGreat
open Go.RowKit
set_option linter.unusedVariables false
set_option linter.unusedSimpArgs false
theorem Qac {w:World} {base e size n:Nat} {s:Sl} {xs:List Value} (h:w.ownsRow base e size (.slice s.a n s.c) n xs) {b:Nat} (hb:s.row=some b):base≤b∧b<w.heap.size:=
 h.lt b (by obtain ⟨a,c⟩:=s;cases a <;> simp_all [Value.ownBlock,Sl.row])
theorem Qat {w:World} {base e size n:Nat} {s:Sl} {xs:List Value} (h:w.ownsRow base e size (.slice s.a n s.c) n xs) (hn:0<n):∃ g cap,s=⟨some ⟨g,0,none⟩,cap⟩∧base≤g∧n≤cap∧cap≤maxLen∧Qal w g e size cap:=by
 rcases h.2 with ⟨hv,h0⟩ | ⟨g,cap,cur,hv,hbg,hg,hnc,hcm,hcs,-⟩
 ·omega
 simp only [Value.slice.injEq] at hv
 exact ⟨g,cap,by obtain ⟨a,c⟩:=s;simp_all,hbg,hnc,hcm,cur,hg,hcs⟩
theorem Qbm {w:World} {base e n g cap:Nat} {xs:List Value} (h:w.ownsRow base e 1 (.slice (some ⟨g,0,none⟩) n cap) n xs) {i:Nat} (hi:i<n) (u:Value):(w.setCell ⟨g,i,none⟩ u).ownsRow base e 1 (.slice (some ⟨g,0,none⟩) n cap) n (xs.set i u):=by
 rcases h.2 with ⟨hv,h0⟩ | ⟨g',cap',cur,hv,hbg,hg,hnc,hcm,hcs,ht⟩
 ·omega
 simp only [Value.slice.injEq,Option.some.injEq,Addr.mk.injEq,and_true,true_and] at hv
 obtain ⟨rfl,rfl⟩:=hv
 refine ⟨by rw [List.length_set];exact h.1,.inr ⟨g,cap,cur.setIfInBounds i u,rfl,hbg,Blk.QaN (show Blk w g e cur from hg) i u,hnc,hcm,by rw [Array.size_setIfInBounds];exact hcs,?_⟩⟩
 rw [Array.toList_setIfInBounds,List.take_set,ht]
theorem QcB:∀ {h:Nat} {t:PT h},OkT h t→size h t≤8
 | 0,_,ok=>ok
 | _+1,_,ok=>ok.2.1
theorem QlL {B:Nat} {k:ByteArray} {v:Val} {h:Nat} {t:PT (h+1)} {kid:PT h} {rs:List (PT h)} (hk:t.2[Qao h t.2 k]? = some kid) (hr:Qb4 B k v h kid rs) (ok:OkT (h+1) t) (hs:Sorted (ents (h+1) t)) :
  (t.2.take (Qao h t.2 k)++rs++t.2.drop (Qao h t.2 k+1)).flatMap (ents h)=QbH (ents (h+1) t) k v:=by
 have hp:=Qbw ok
 obtain ⟨kid',hk',hA,hC⟩:=QaT (h:=h) (ks:=t.2) hs hp (by have:=ok.1;omega) k
 rw [hk] at hk'
 simp only [Option.some.injEq] at hk'
 subst hk'
 have hm:=List.mem_of_getElem? hk
 have ih:=Qb4.ents hr (ok.2.2 kid hm).1 (Qax hs kid hm)
 rw [List.flatMap_append,List.flatMap_append,ih]
 show _=QbH (t.2.flatMap (Proofs.YtohajcflklejjaaGreat.ents h)) k v
 conv=>rhs;rw [Qbz hk]
 rw [List.flatMap_append,List.flatMap_cons,Qg1 hA,Qfv hC,List.append_assoc]
theorem Qod {B:Nat} {k:ByteArray} {v:Val} {h:Nat} {t:PT (h+1)} {kid:PT h} {rs:List (PT h)} (hk:t.2[Qao h t.2 k]? = some kid) (hr:Qb4 B k v h kid rs) (ok:OkT (h+1) t) :
  ∀ u∈t.2.take (Qao h t.2 k)++rs++t.2.drop (Qao h t.2 k+1),OkT h u∧4≤size h u:=by
 have hm:=List.mem_of_getElem? hk
 obtain ⟨i1,i2⟩:=Qb4.ok hr (ok.2.2 kid hm).1
 have hk4:=(ok.2.2 kid hm).2
 intro u hu
 rcases List.mem_append.1 hu with hu | hu
 ·rcases List.mem_append.1 hu with hu | hu
  ·exact ok.2.2 u (List.mem_of_mem_take hu)
  exact ⟨(i1 u hu).1,(i1 u hu).2.2 hk4⟩
 exact ok.2.2 u (List.mem_of_mem_drop hu)
def Qco (F:Nat→Prop) (h:Nat) (t:PT h) (k:ByteArray) (v:Val) (w:World) (e:Ending) (w':World):Prop:=
 ∃ ts:List (PT h),e=two h ts∧Qb4 w.heap.size k v h t ts∧(∀ u∈ts,IsN w' (Up F w w') h u)∧Ext w w'
def Qho (F:Nat→Prop) (h:Nat) (t:PT h) (k:ByteArray) (v:Val) (w:World) (e:Ending) (w':World):Prop:=
 ∃ (a:PT h) (r:Value) (rs:List (PT h)),e=.returned (.tuple #[ptr h a,r])∧((r=.pointer none∧rs=[a])∨∃ b,r=ptr h b∧rs=[a,b])∧Qb4 w.heap.size k v h t rs∧(∀ u∈rs,IsN w' (Up F w w') h u)∧Ext w w'
theorem Qco.apart {F:Nat→Prop} {h:Nat} {t:PT h} {k:ByteArray} {v:Val} {w:World} {e:Ending} {w':World} (p:Qco F h t k v w e w'):Qho F h t k v w e w':=by
 obtain ⟨ts,rfl,h1,h2,h3⟩:=p
 rcases h1.two with ⟨a,rfl⟩ | ⟨a,b,rfl⟩
 ·exact ⟨a,_,_,rfl,.inl ⟨rfl,rfl⟩,h1,h2,h3⟩
 exact ⟨a,_,_,rfl,.inr ⟨b,rfl,rfl⟩,h1,h2,h3⟩
theorem Qms {w:World} {F:Nat→Prop} (hF:∀ b,F b→b<w.heap.size) {t:PT 0} (hn:IsN w F 0 t) (ok:OkT 0 t) (hs:Sorted (ents 0 t)) {k:ByteArray} {v:Val} {sl so:Sl} (hv:RV w (Lt w.heap.size) v sl so) (hkm:k.size≤maxLen) :
  Calls Tryz.prog 66 #[ptr 0 t,Qem k v sl so] w (Qco F 0 t k v w):=by
 have hn':IsN w (Lt w.heap.size) 0 t:=hn.mono hF
 refine (Qis (fun W hW=>Qas (hn'.ext hW)) (fun W hW=>QaY (hn'.ext hW)) hs ok hv hkm).mono ?_
 rintro e w' ⟨ts,rfl,h1,h2,h3⟩
 exact ⟨ts,rfl,⟨h1,fun u hu=>(h2 u hu).1⟩,fun u hu=>(h2 u hu).2.mono fun i hi=>.inr hi,h3⟩
theorem QgE {n:Nat} {L:List (PT n)} {ts:List (PT (n+1))} (h:ts.map Prod.snd=chunk L):(∃ a,ts=[a])∨∃ a b,ts=[a,b]:=by
 rcases Qfg L with ⟨a,ha⟩ | ⟨a,b,ha⟩ <;> rw [ha] at h
 ·obtain ⟨x,hx,-⟩:=Qpn h;exact .inl ⟨x,hx⟩
 obtain ⟨x,y,hx,-⟩:=Qpq h;exact .inr ⟨x,y,hx⟩
theorem QjR {w w3 w':World} {F:Nat→Prop} {h:Nat} {t:PT (h+1)} {k:ByteArray} {v:Val} {i:Nat} {kid:PT h} {rs:List (PT h)} {B:Nat} (hE:Ext w w3) (hi:Qao h t.2 k=i) (hkid:t.2[Qao h t.2 k]? = some kid) (hB:w.heap.size≤B) (hwr:Qb4 B k v h kid rs)
  {ts:List (PT (h+1))} (h1:ts.map Prod.snd=chunk (t.2.take i++rs++t.2.drop (i+1))) (h2:∀ u∈ts,w3.heap.size≤addr (h+1) u∧IsN w' (Up (Up F w w3) w3 w') (h+1) u) (h3:Ext w3 w'):Qco F (h+1) t k v w (two (h+1) ts) w':=by
 subst hi
 refine ⟨ts,rfl,⟨kid,rs,hkid,hwr.mono hB,h1,fun u hu=>Nat.le_trans hE.size (h2 u hu).1⟩,fun u hu=>(h2 u hu).2.mono fun i hi=>?_,hE.trans h3⟩
 rcases hi with (hi | hi) | hi
 ·exact .inl hi
 ·exact .inr ⟨hi.1,Nat.lt_of_lt_of_le hi.2 h3.size⟩
 exact .inr ⟨Nat.le_trans hE.size hi.1,hi.2⟩
theorem Qng {h:Nat} {ks:List (PT h)} {i:Nat} (hi:i<ks.length) (a:PT h):(ptrs h ks).set i (ptr h a)=ptrs h (ks.take i++[a]++ks.drop (i+1)):=by
 rw [ptrs,←List.map_set,List.set_eq_take_append_cons_drop,if_pos hi,List.append_assoc];rfl
theorem Qnf {h:Nat} {ks:List (PT h)} {i:Nat} (hi:i<ks.length) (a b:PT h):(ptrs h (ks.take i++[a]++ks.drop (i+1))).take ((i+1)*1)++[ptr h b]++(ptrs h (ks.take i++[a]++ks.drop (i+1))).drop ((i+1)*1)=ptrs h (ks.take i++[a,b]++ks.drop (i+1)):=by
 have hl:(ptrs h (ks.take i++[a])).length=i+1:=by simp [ptrs];omega
 have e:ptrs h (ks.take i++[a]++ks.drop (i+1))=ptrs h (ks.take i++[a])++ptrs h (ks.drop (i+1)):=by simp [ptrs]
 rw [e,Nat.mul_one,←hl,List.take_left,List.drop_left,hl]
 simp [ptrs]
theorem Qmr {h:Nat} {k:ByteArray} {v:Val} {sl so:Sl} (hkm:k.size≤maxLen)
  (ih:∀ (w:World) (F:Nat→Prop) (t:PT h),(∀ b,F b→b<w.heap.size)→IsN w F h t→OkT h t→Sorted (ents h t)→(ents h t).length≤1000000→RV w (Lt w.heap.size) v sl so→Calls Tryz.prog 66 #[ptr h t,Qem k v sl so] w (Qco F h t k v w))
  {w:World} {F:Nat→Prop} {t:PT (h+1)} (hF:∀ b,F b→b<w.heap.size) (hn:IsN w F (h+1) t) (ok:OkT (h+1) t) (hs:Sorted (ents (h+1) t)) (hc:(ents (h+1) t).length≤1000000) (hv:RV w (Lt w.heap.size) v sl so) :
  Calls Tryz.prog 66 #[ptr (h+1) t,Qem k v sl so] w (Qco F (h+1) t k v w):=by
 have hpos:=Qbw ok
 have hh:h+1<1000000:=Nat.lt_of_lt_of_le (Qcb (h+1) t ok (by have:=ok.1;show 1≤t.2.length;omega)) hc
 obtain ⟨kid,hkid,hA,hC⟩:=QaT (h:=h) (ks:=t.2) hs hpos (by have:=ok.1;omega) k
 have hkm':=List.mem_of_getElem? hkid
 have hil:=(List.getElem?_eq_some_iff.1 hkid).1
 have hlen2:=ok.1
 have hlen8:=ok.2.1
 have hks:∀ x∈t.2,IsN w F h x:=hn.2.choose_spec.2.2
 have hkc:(ents h kid).length≤1000000:=Nat.le_trans (by
  show _≤(t.2.flatMap (ents h)).length
  rw [Qbz hkid];simp only [List.flatMap_append,List.flatMap_cons,List.length_append];omega) hc
 have hih:∀ W,Ext w W→Calls Tryz.prog 66 #[ptr h kid,Qem k v sl so] W (Qho F h kid k v W):=fun W hW=>
  (ih W F kid (fun b hb=>Nat.lt_of_lt_of_le (hF b hb) hW.size) ((hks kid hkm').agree (hW.agree hF)) (ok.2.2 kid hkm').1 (Qax hs kid hkm') hkc ((hv.agree (hW.agree fun _ h=>h)).mono fun i hi=>Nat.lt_of_lt_of_le hi hW.size)).mono fun _ _ p=>p.apart
 have HF:=Lib.hid hF
 have HN:=Lib.hid hn
 have HOK:=Lib.hid ok
 have HS:=Lib.hid hs
 have HC:=Lib.hid hc
 have HP:=Lib.hid hpos
 have HIH:=Lib.hid hih
 have HKS:=Lib.hid hks
 have HKID:=Lib.hid hkid
 have hnz:(((h:Int)+1) == 0)=false:=beq_eq_false_iff_ne.2 (by omega)
 clear hF hn ok hs hc hpos hih hks hkid hA hC hv ih hkc
 go_enter Tryz.func66,Tryz.ntmps66
 go_wp2_with fail
 have hx0:Ext w (w.alloc (.cells #[.string k,.int .i64 v.kind,.bool v.b,.int .i64 v.i,.string v.t,.slice sl.a v.l.length sl.c,.slice so.a v.ok.length so.c] 47)):=(Ext.refl w).alloc _ _
 have hb0:=Blk.new w 47 #[.string k,.int .i64 v.kind,.bool v.b,.int .i64 v.i,.string v.t,.slice sl.a v.l.length sl.c,.slice so.a v.ok.length so.c]
 generalize hW0:World.alloc _ _=W0 at *
 have hz0:W0.heap.size=w.heap.size+1:=by rw [←hW0];simp
 clear hW0
 have hnW:IsN W0 F (h+1) t:=HN.out.agree (hx0.agree HF.out)
 refine (Qas hnW).mono ?_
 rintro e w1 ⟨rfl,rfl⟩
 have hkc:=Qcu hnW (by omega)
 clear hnW
 go_wp2_with fail
 refine hkc.mono ?_
 rintro e w1 ⟨s',rfl,hown,hx1⟩
 have hX1:=hx0.trans hx1
 have hb1:=hb0.ext hx1
 obtain ⟨c0,c1,c2,c3,c4,c5,c6⟩:=hb1.c7
 have hrd:Rd w1 (Lt w1.heap.size) 1 s' t.2.length (ptrs h t.2):=(Rd.Qav hown).mono fun i hi=>hi.2
 have hwh:=QfQ hrd (fun x hx=>(HKS.out x hx).agree (hX1.agree HF.out)) (fun b hb=>Nat.lt_of_lt_of_le (HF.out b hb) hX1.size) HP.out k HS.out (by omega)
 obtain ⟨i,hi⟩:∃ i,Qao h t.2 k=i:=⟨_,rfl⟩
 rw [hi] at hwh hil
 have HI:=Lib.hid hi
 have HWH:=Lib.hid hwh
 have HO1:=Lib.hid hown
 have HB1:=Lib.hid hb1
 have HX1:=Lib.hid hX1
 have HX01:=Lib.hid hx1
 clear hi hwh hown hb1 hX1 hrd hkc hb0 hx0 hx1
 go_wp2_with fail
 refine HWH.out.mono ?_
 rintro e w2 ⟨rfl,hx2⟩
 clear c0 c1 c2 c3 c4 c5 c6
 obtain ⟨d0,d1,d2,d3,d4,d5,d6⟩:=(HB1.out.ext hx2).c7
 have hbl:=HB1.out.lt
 have hbl2:=(HB1.out.ext hx2).lt
 have hX2:=HX1.out.trans hx2
 obtain ⟨g,cap,rfl,hbg,hnc,hcm,hfil⟩:=Qat HO1.out (by omega)
 have ho2:w2.ownsRow W0.heap.size 31 1 (.slice (some ⟨g,0,none⟩) t.2.length cap) t.2.length (ptrs h t.2):=Qad HO1.out (hx2.agree (F:=Lt w1.heap.size) fun _ h=>h) fun b hb=>(Qac HO1.out hb).2
 have hkp:w2.cell? ⟨g,i,none⟩=some (ptr h kid):=by
  have:=ho2.cells (g:=g) rfl i (ptr h kid) (by rw [ptrs,List.getElem?_map,←HI.out,HKID.out];rfl)
  rwa [Qbb,Nat.zero_add] at this
 have hil':(i:Int)<(t.2.length:Int):=by omega
 have HO2:=Lib.hid ho2
 have HX2:=Lib.hid hX2
 have hg2:g<w2.heap.size:=(Qac (s:=⟨some ⟨g,0,none⟩,cap⟩) ho2 rfl).2
 have hfz:∀ o,w2.frozen? ⟨g,o,none⟩=false:=fun o=>by rw [hx2.frozen hfil.lt];exact hfil.frozen o
 clear hx2 ho2 hX2 hfil
 go_wp2_with fail
 go_region_held3 (fun w'=>w'.cell? ⟨g,i,none⟩=some (ptr h kid)∧w'.cell? ⟨w.heap.size,0,none⟩=some (.string k)∧w'.cell? ⟨w.heap.size,1,none⟩=some (.int .i64 v.kind)∧w'.cell? ⟨w.heap.size,2,none⟩=some (.bool v.b)∧w'.cell? ⟨w.heap.size,3,none⟩=some (.int .i64 v.i)∧w'.cell? ⟨w.heap.size,4,none⟩=some (.string v.t)∧w'.cell? ⟨w.heap.size,5,none⟩=some (.slice sl.a v.l.length sl.c)∧w'.cell? ⟨w.heap.size,6,none⟩=some (.slice so.a v.ok.length so.c)) (go_keep)
  ((go_at_call 66;refine (HIH.out _ HX2.out.drew).mono ?_;rintro e w3 ⟨a,r,rs,rfl,hr,hwr,hwn,hx3⟩;have HR:=Lib.hid hr;have HWR:=Lib.hid hwr;have HWN:=Lib.hid hwn;clear hr hwr hwn;have ho3:(∀ b o,b<w2.heap.size→w3.cell? ⟨b,o,none⟩=w2.cell? ⟨b,o,none⟩):=fun b o hb=>hx3.cell (show b<w2.drew.heap.size from hb)))
 have hX23:Ext w2 w3:=((Ext.refl w2).drew).trans hx3
 have hg3:g<w3.heap.size:=Nat.lt_of_lt_of_le hg2 hX23.size
 have hkp3:=(hX23.cell (o:=i) hg2).trans hkp
 have hfz3:w3.frozen? ⟨g,i,none⟩=false:=(hX23.frozen hg2).trans (hfz i)
 have HX23:=Lib.hid hX23
 have HX2D:=Lib.hid hx3
 clear hX23 hx3 hkp hfz ho3 d0 d1 d2 d3 d4 d5 d6
 have ho3:w3.ownsRow W0.heap.size 31 1 (.slice (some ⟨g,0,none⟩) t.2.length cap) t.2.length (ptrs h t.2):=Qad (s:=⟨some ⟨g,0,none⟩,cap⟩) HO2.out (HX23.out.agree (F:=Lt w2.heap.size) fun _ h=>h) fun b hb=>(Qac (s:=⟨some ⟨g,0,none⟩,cap⟩) HO2.out hb).2
 have ho4:=Qbm ho3 hil (ptr h a)
 rw [Qng hil] at ho4
 have hX4:Ext w (w3.setCell ⟨g,i,none⟩ (ptr h a)):=(HX2.out.trans HX23.out).setCell (p:=⟨g,i,none⟩) (by show w.heap.size≤g;omega) _
 have hag4:Agree (Up F w2.drew w3) w3 (w3.setCell ⟨g,i,none⟩ (ptr h a)):=Agree.setCell w3 ⟨g,i,none⟩ _ (by
  rintro (hf | hf)
  ·have:g<w.heap.size:=HF.out g hf
   omega
  have:w2.heap.size≤g:=hf.1
  omega)
 have hkids:∀ W,Ext w W→Agree (Up F w2.drew w3) w3 W→w3.heap.size≤W.heap.size→Kids W (Up F w W) h (t.2.take i++rs++t.2.drop (i+1)):=fun W hW hag hsz=>by
  have hke:=QlL HKID.out HWR.out HOK.out HS.out
  have hko:=Qod HKID.out HWR.out HOK.out
  rw [HI.out] at hke hko
  have hso:Sorted ((t.2.take i++rs++t.2.drop (i+1)).flatMap (ents h)):=by rw [hke];exact Qbt HS.out k v
  have hps:∀ x∈t.2.take i++rs++t.2.drop (i+1),0<(ents h x).length:=fun x hx=>Qa4 h x (hko x hx).1 (by have:=(hko x hx).2;omega)
  refine ⟨fun b hb=>hb.elim (fun h=>Nat.lt_of_lt_of_le (HF.out b h) hW.size) fun h=>h.2,fun x hx=>?_,QcT hso hps,hps,fun x hx=>by have:=QcB (hko x hx).1;omega,by
   have:=QdF (ents (h+1) t) k v
   have hcc:=HC.out
   unfold cnt;rw [hke];omega,by omega⟩
  rcases List.mem_append.1 hx with hx | hx
  ·rcases List.mem_append.1 hx with hx | hx
   ·exact ((HKS.out x (List.mem_of_mem_take hx)).agree (hW.agree HF.out)).mono fun _ h=>.inl h
   exact ((HWN.out x hx).agree hag).mono fun b hb=>hb.elim .inl fun h=>.inr ⟨Nat.le_trans HX2.out.size h.1,Nat.lt_of_lt_of_le h.2 hsz⟩
  exact ((HKS.out x (List.mem_of_mem_drop hx)).agree (hW.agree HF.out)).mono fun _ h=>.inl h
 have HK:=Lib.hid hkids
 have HO4:=Lib.hid ho4
 have HX4:=Lib.hid hX4
 have HA4:=Lib.hid hag4
 have hB2:w.heap.size≤w2.drew.heap.size:=HX2.out.size
 have hgw:W0.heap.size≤w3.heap.size:=by omega
 have HB2:=Lib.hid hB2
 clear ho3 ho4 hX4 hag4 hkids hB2
 rcases HR.out with ⟨rfl,rfl⟩ | ⟨b,rfl,rfl⟩
 ·have hlen:(t.2.take i++[a]++t.2.drop (i+1)).length=t.2.length:=by simp;omega
  have hsp:=QgA (w:=w3.setCell ⟨g,i,none⟩ (ptr h a)) (s:=⟨some ⟨g,0,none⟩,cap⟩) (by rw [hlen];exact (Rd.Qav HO4.out).mono fun i hi=>hi.2) (HK.out _ HX4.out HA4.out (by simp)) (by omega) (by omega)
  rw [hlen] at hsp
  have HSP:=Lib.hid hsp
  clear hsp hlen
  go_wp2_with fail
  refine HSP.out.mono ?_
  rintro e w5 ⟨ts,rfl,h1,h2,h3⟩
  have H2:=Lib.hid h2
  have H1:=Lib.hid h1
  clear h2
  rcases QgE h1 with ⟨a',rfl⟩ | ⟨a',b',rfl⟩
  all_goals
   clear h1
   simp only [two]
   go_wp2_with fail
   go_ret2
   exact QjR HX4.out HI.out HKID.out HB2.out HWR.out H1.out H2.out h3
 have hw1:IntKind.i64.wrap ((i:Int)+1)=(i:Int)+1:=by rw [IntKind.wrap_i64];omega
 have hlen:(t.2.take i++[a]++t.2.drop (i+1)).length=t.2.length:=by simp;omega
 have hlen2':(t.2.take i++[a,b]++t.2.drop (i+1)).length=t.2.length+1:=by simp;omega
 have hE5:Ext (w3.setCell ⟨g,i,none⟩ (ptr h a)) ((w3.setCell ⟨g,i,none⟩ (ptr h a)).alloc (.cells #[ptr h b] 31)):=(Ext.refl _).alloc _ _
 have hb5:Blk ((w3.setCell ⟨g,i,none⟩ (ptr h a)).alloc (.cells #[ptr h b] 31)) w3.heap.size 31 [ptr h b].toArray:=by
  have:=Blk.new (w3.setCell ⟨g,i,none⟩ (ptr h a)) 31 #[ptr h b]
  rwa [World.size_setCell] at this
 go_wp2_with fail
 change Calls _ _ _ ((w3.setCell ⟨g,i,none⟩ (ptr h a)).alloc (.cells #[ptr h b] 31)) _
 have ho5:((w3.setCell ⟨g,i,none⟩ (ptr h a)).alloc (.cells #[ptr h b] 31)).ownsRow W0.heap.size 31 1 (.slice (some ⟨g,0,none⟩) t.2.length cap) t.2.length (ptrs h (t.2.take i++[a]++t.2.drop (i+1))):=Qad (s:=⟨some ⟨g,0,none⟩,cap⟩) HO4.out (hE5.agree (F:=Lt w3.heap.size) fun i hi=>by rw [World.size_setCell];exact hi) fun b hb=>by
  have:=(Qac (s:=⟨some ⟨g,0,none⟩,cap⟩) HO4.out hb).2
  rwa [World.size_setCell] at this
 have hag5:Agree (Up F w2.drew w3) w3 ((w3.setCell ⟨g,i,none⟩ (ptr h a)).alloc (.cells #[ptr h b] 31)):=HA4.out.trans (hE5.agree fun j hj=>by rw [World.size_setCell];exact hj.elim (fun hh=>Nat.lt_of_lt_of_le (HF.out j hh) (by have:=HX2.out.size;have:=HX23.out.size;omega)) fun hh=>hh.2)
 have hX5:=HX4.out.trans hE5
 have hz5:((w3.setCell ⟨g,i,none⟩ (ptr h a)).alloc (.cells #[ptr h b] 31)).heap.size=w3.heap.size+1:=by simp
 generalize (w3.setCell ⟨g,i,none⟩ (ptr h a)).alloc (.cells #[ptr h b] 31)=W5 at *
 have hins:=Qjy (w:=W5) (base:=W0.heap.size) (n:=t.2.length) (i:=i+1) (s:=⟨some ⟨g,0,none⟩,cap⟩) (xs:=ptrs h (t.2.take i++[a]++t.2.drop (i+1))) (ys:=[ptr h b]) (vb:=w3.heap.size) ho5 (by omega) (by omega) (by omega) rfl hb5 (by simp [Sl.row];omega) (by simp [Value.oneCell']) (Qbn _ _)
 have H5:=Lib.hid hX5
 have HG5:=Lib.hid hag5
 clear hX5 hag5 hb5 ho5 hE5
 refine hins.mono ?_
 rintro e w6 ⟨s6,rfl,hown6,hwr6,-⟩
 rw [Qnf hil] at hown6
 have hX6:Ext w w6:=H5.out.wr hwr6 fun j hj=>by simp [Sl.row] at hj;omega
 have hag6:Agree (Up F w2.drew w3) w3 w6:=HG5.out.trans (hwr6.agree (fun j hj=>by rw [hz5];exact hj.elim (fun hh=>Nat.lt_of_lt_of_le (HF.out j hh) (by have:=HX2.out.size;have:=HX23.out.size;omega)) fun hh=>Nat.lt_succ_of_lt hh.2) (fun j hj=>by
  simp [Sl.row] at hj;subst hj
  rintro (hf | hf)
  ·have:g<w.heap.size:=HF.out g hf
   omega
  have:w2.heap.size≤g:=hf.1
  omega))
 have hsp:=QgA (w:=w6) (s:=s6) (by rw [hlen2'];exact (Rd.Qav hown6).mono fun i hi=>hi.2) (HK.out _ hX6 hag6 (by have:=hwr6.grown.size;omega)) (by omega) (by omega)
 rw [hlen2'] at hsp
 have HSP:=Lib.hid hsp
 have HX6:=Lib.hid hX6
 clear hsp hlen hlen2' hX6 hag6 hown6 hwr6 hins
 go_wp2_with fail
 refine HSP.out.mono ?_
 rintro e w7 ⟨ts,rfl,h1,h2,h3⟩
 have H2:=Lib.hid h2
 have H1:=Lib.hid h1
 clear h2
 rcases QgE h1 with ⟨a',rfl⟩ | ⟨a',b',rfl⟩
 all_goals
  clear h1
  simp only [two]
  go_wp2_with fail
  go_ret2
  exact QjR HX6.out HI.out HKID.out HB2.out HWR.out H1.out H2.out h3
theorem QjQ {k:ByteArray} {v:Val} {sl so:Sl} (hkm:k.size≤maxLen):∀ (h:Nat) (w:World) (F:Nat→Prop) (t:PT h),(∀ b,F b→b<w.heap.size)→IsN w F h t→OkT h t→Sorted (ents h t)→(ents h t).length≤1000000→RV w (Lt w.heap.size) v sl so→
  Calls Tryz.prog 66 #[ptr h t,Qem k v sl so] w (Qco F h t k v w)
 | 0,w,F,t,hF,hn,ok,hs,hc,hv=>Qms hF hn ok hs hv hkm
 | h+1,w,F,t,hF,hn,ok,hs,hc,hv=>Qmr hkm (QjQ hkm h) hF hn ok hs hc hv
abbrev RT:=Option (Σ h,PT h)
def QaQ:RT→Value
 | none=>.pointer none
 | some ⟨h,t⟩=>ptr h t
abbrev QaC (T:RT):Value:=.agg #[QaQ T]
def Qak:RT→List Ent
 | none=>[]
 | some ⟨h,t⟩=>ents h t
def OkR:RT→Prop
 | none=>True
 | some ⟨h,t⟩=>OkT h t∧1≤size h t∧Sorted (ents h t)
def IsT (w:World) (F:Nat→Prop):RT→Prop
 | none=>True
 | some ⟨h,t⟩=>IsN w F h t
theorem IsT.agree {w w':World} {F:Nat→Prop} {T:RT} (h:IsT w F T) (ha:Agree F w w'):IsT w' F T:=by
 match T,h with
 | none,_=>trivial
 | some ⟨n,t⟩,h=>exact IsN.agree ha h
theorem IsT.mono {w:World} {F G:Nat→Prop} {T:RT} (h:IsT w F T) (hG:∀ i,F i→G i):IsT w G T:=by
 match T,h with
 | none,_=>trivial
 | some ⟨n,t⟩,h=>exact IsN.mono hG h
theorem OkR.sorted {T:RT} (h:OkR T):Sorted (Qak T):=by
 match T,h with
 | none,_=>exact List.Pairwise.nil
 | some ⟨n,t⟩,h=>exact h.2.2
inductive QbS (B:Nat) (k:ByteArray) (v:Val):RT→(h:Nat)→List (PT h)→Prop
 | none (u:PT 0) (h:u.2=[(k,v)]) (hb:B≤u.1):QbS B k v none 0 [u]
 | some {h:Nat} {t:PT h} {ts:List (PT h)} (hw:Qb4 B k v h t ts):QbS B k v (some ⟨h,t⟩) h ts
theorem QbS.mono {A B:Nat} (hAB:A≤B) {k:ByteArray} {v:Val} {T:RT} {h:Nat} {ts:List (PT h)} (hw:QbS B k v T h ts):QbS A k v T h ts:=by
 cases hw with
 | none u hu hb=>exact .none u hu (Nat.le_trans hAB hb)
 | some hw=>exact .some (hw.mono hAB)
theorem QbS.height {B:Nat} {k:ByteArray} {v:Val} {T:RT} {h:Nat} {ts:List (PT h)} (hw:QbS B k v T h ts) (ok:OkR T):h≤(Qak T).length:=by
 cases hw with
 | none u hu hb=>exact Nat.zero_le _
 | some hw=>exact Nat.le_of_lt (Qcb _ _ ok.1 ok.2.1)
inductive QnA (B:Nat) (k:ByteArray) (v:Val):RT→RT→Prop
 | one {T:RT} {h:Nat} {a:PT h} (hw:QbS B k v T h [a]):QnA B k v T (some ⟨h,a⟩)
 | two {T:RT} {h:Nat} {a b:PT h} {c:PT (h+1)} (hw:QbS B k v T h [a,b]) (hc:c.2=[a,b]) (hb:B≤addr (h+1) c):QnA B k v T (some ⟨h+1,c⟩)
theorem QbS.ents {B:Nat} {k:ByteArray} {v:Val} {T:RT} {h:Nat} {ts:List (PT h)} (hw:QbS B k v T h ts) (ok:OkR T):ts.flatMap (Proofs.YtohajcflklejjaaGreat.ents h)=QbH (Qak T) k v:=by
 cases hw with
 | none u hu hb=>
   show u.2++[]=_
   rw [hu];rfl
 | some hw=>exact hw.ents ok.1 ok.2.2
theorem QbS.ok {B:Nat} {k:ByteArray} {v:Val} {T:RT} {h:Nat} {ts:List (PT h)} (hw:QbS B k v T h ts) (ok:OkR T):(∀ u∈ts,OkT h u∧1≤size h u)∧(2≤ts.length→∀ u∈ts,4≤size h u):=by
 cases hw with
 | none u hu hb=>
   refine ⟨fun x hx=>?_,fun h=>by simp at h⟩
   obtain rfl:x=u:=by simpa using hx
   exact ⟨show x.2.length≤8 by rw [hu];simp,show 1≤x.2.length by rw [hu];simp⟩
 | some hw=>exact ⟨fun u hu=>⟨(hw.ok ok.1).1 u hu |>.1,((hw.ok ok.1).1 u hu).2.1⟩,(hw.ok ok.1).2⟩
theorem QnA.ents {B:Nat} {k:ByteArray} {v:Val} {T T':RT} (hp:QnA B k v T T') (ok:OkR T):Qak T'=QbH (Qak T) k v:=by
 cases hp with
 | one hw=>have:=hw.ents ok;simpa [Qak] using this
 | two hw hc hb=>
   rename_i h a b c
   have:=hw.ents ok
   rw [←this,←hc];rfl
theorem QnA.ok {B:Nat} {k:ByteArray} {v:Val} {T T':RT} (hp:QnA B k v T T') (ok:OkR T):OkR T':=by
 have hs:Sorted (Qak T'):=by rw [hp.ents ok];exact Qbt ok.sorted k v
 cases hp with
 | one hw=>rename_i h a;exact ⟨((hw.ok ok).1 a (by simp)).1,((hw.ok ok).1 a (by simp)).2,hs⟩
 | two hw hc hb=>
   rename_i h a b c
   have h1:=hw.ok ok
   refine ⟨⟨by rw [hc];simp,by rw [hc];simp,fun x hx=>?_⟩,show 1≤c.2.length by rw [hc];simp,hs⟩
   rw [hc] at hx
   exact ⟨(h1.1 x hx).1,h1.2 (by simp) x hx⟩
theorem Rd.QoN {w:World} {g:Nat} {t:TypeId} {cs:List Value} (hb:Blk w g t cs.toArray) (hm:cs.length≤maxLen):Rd w (fun b=>b=g) 1 ⟨some ⟨g,0,none⟩,cs.length⟩ cs.length cs:=
 ⟨g,0,.some _ _ _ _ (Nat.le_refl _) hm rfl,(Nat.mul_one _).symm,fun j u hj=>by rw [Nat.zero_add,hb.cell];simpa using hj⟩
def Qhq (F:Nat→Prop) (T:RT) (k:ByteArray) (v:Val) (w:World) (e:Ending) (w':World):Prop:=
 ∃ (h:Nat) (a:PT h) (r:Value) (rs:List (PT h)),e=.returned (.tuple #[ptr h a,r])∧((r=.pointer none∧rs=[a])∨∃ b,r=ptr h b∧rs=[a,b])∧QbS w.heap.size k v T h rs∧(∀ u∈rs,IsN w' (Up F w w') h u)∧Ext w w'
theorem Qmq {w:World} {F:Nat→Prop} {T:RT} (hF:∀ b,F b→b<w.heap.size) (hT:IsT w F T) (ok:OkR T) (hc:(Qak T).length≤1000000) {k:ByteArray} {v:Val} {sl so:Sl} (hkm:k.size≤maxLen) (hv:RV w (Lt w.heap.size) v sl so) :
  Calls Tryz.prog 66 #[QaQ T,Qem k v sl so] w (Qhq F T k v w):=by
 match T,hT,ok,hc with
 | none,_,_,_=>
   refine (Qis (nv:=.pointer none) (es:=[]) (fun W hW=>(Qc2 W)) (fun W hW=>(Qfo W).mono ?_) List.Pairwise.nil (by simp) hv hkm).mono ?_
   ·rintro e w' ⟨rfl,rfl⟩
    exact ⟨Sl.none,[],rfl,rfl,OE.nil _ _,Ext.refl _⟩
   rintro e w' ⟨ts,rfl,h1,h2,h3⟩
   obtain ⟨u,rfl,hu⟩:=Qo9 (h1.trans (show chunk (QbH [] k v)=[[(k,v)]] from rfl))
   exact ⟨0,u,_,_,rfl,.inl ⟨rfl,rfl⟩,.none u hu (h2 u (by simp)).1,fun x hx=>(h2 x hx).2.mono fun i hi=>.inr hi,h3⟩
 | some ⟨h,t⟩,hT,ok,hc=>
   refine (QjQ hkm h w F t hF hT ok.1 ok.2.2 hc hv).mono ?_
   intro e w' p
   obtain ⟨a,r,rs,rfl,h1,h2,h3,h4⟩:=p.apart
   exact ⟨h,a,r,rs,rfl,h1,.some h2,h3,h4⟩
def Qiv (F:Nat→Prop) (T:RT) (k:ByteArray) (v:Val) (w:World) (e:Ending) (w':World):Prop:=
 ∃ T',e=.returned (QaC T')∧QnA w.heap.size k v T T'∧IsT w' (Up F w w') T'∧Ext w w'
theorem Ql7 {w:World} {F:Nat→Prop} {T:RT} (hF:∀ b,F b→b<w.heap.size) (hT:IsT w F T) (ok:OkR T) (hc:(Qak T).length≤1000000) {k:ByteArray} {v:Val} {sl so:Sl} (hkm:k.size≤maxLen) (hv:RV w (Lt w.heap.size) v sl so) :
  Calls Tryz.prog 46 #[QaC T,.string k,Qb5 v sl so] w (Qiv F T k v w):=by
 have hcw:∀ W,Ext w W→Calls Tryz.prog 66 #[QaQ T,Qem k v sl so] W (Qhq F T k v W):=fun W hW=>
  Qmq (fun b hb=>Nat.lt_of_lt_of_le (hF b hb) hW.size) (hT.agree (hW.agree hF)) ok hc hkm ((hv.agree (hW.agree fun _ h=>h)).mono fun i hi=>Nat.lt_of_lt_of_le hi hW.size)
 have HW:=Lib.hid hcw
 have HF:=Lib.hid hF
 have HOK:=Lib.hid ok
 clear hF hT ok hv hcw
 go_enter Tryz.func46,Tryz.ntmps46
 go_wp2_with fail
 have hx3:Ext w (((w.alloc (.cells #[QaQ T] 33)).alloc (.cells #[.int .i64 v.kind,.bool v.b,.int .i64 v.i,.string v.t,.slice sl.a v.l.length sl.c,.slice so.a v.ok.length so.c] 44)).alloc (.cells #[.pointer none] 33)):=(((Ext.refl w).alloc _ _).alloc _ _).alloc _ _
 have hb3:Blk (((w.alloc (.cells #[QaQ T] 33)).alloc (.cells #[.int .i64 v.kind,.bool v.b,.int .i64 v.i,.string v.t,.slice sl.a v.l.length sl.c,.slice so.a v.ok.length so.c] 44)).alloc (.cells #[.pointer none] 33)) (w.heap.size+1+1) 33 #[.pointer none]:=by
  have:=Blk.new ((w.alloc (.cells #[QaQ T] 33)).alloc (.cells #[.int .i64 v.kind,.bool v.b,.int .i64 v.i,.string v.t,.slice sl.a v.l.length sl.c,.slice so.a v.ok.length so.c] 44)) 33 #[.pointer none]
  simpa using this
 generalize hW3:World.alloc _ _=W3 at *
 have hz3:W3.heap.size=w.heap.size+1+1+1:=by rw [←hW3];simp
 clear hW3
 refine (HW.out _ hx3).mono ?_
 rintro e w4 ⟨h,a,r,rs,rfl,hr,hwr,hwn,hx4⟩
 have hb4:=hb3.ext hx4
 have hX4:=hx3.trans hx4
 have q4:w4.cell? ⟨w.heap.size+1+1,0,none⟩=some (.pointer none):=hb4.cell 0
 have f4:=hb4.frozen 0
 have hl4:=hb4.lt
 have HWR:=Lib.hid hwr
 have HWN:=Lib.hid hwn
 have HX:=Lib.hid hX4
 have HXX:=Lib.hid hx4
 have HB4:=Lib.hid hb4
 have hnF:∀ W',¬Up F W3 W' (w.heap.size+1+1):=fun W' hf=>by
  rcases hf with hf | hf
  ·have:=HF.out _ hf;omega
  have:=hf.1;omega
 have HNF:=Lib.hid hnF
 have hwW:w.heap.size≤W3.heap.size:=by omega
 clear hb3 hb4 hwr hwn hX4 hx3 hx4 hnF
 rcases hr with ⟨rfl,rfl⟩ | ⟨b,rfl,rfl⟩
 ·go_wp2_with fail
  have q0:(w4.setCell ⟨w.heap.size+1+1,0,none⟩ (ptr h a)).cell? ⟨w.heap.size+1+1,0,none⟩=some (ptr h a):=World.cell?_setCell_same w4 _ _ q4
  refine bodyPost_ret (v:=QaC (some ⟨h,a⟩)) (by simp [results,Tryz.results46,go_sem,q0];rfl) rfl ?_
  refine ⟨some ⟨h,a⟩,rfl,.one ?_,?_,HX.out.setCell (p:=⟨w.heap.size+1+1,0,none⟩) (by show w.heap.size≤w.heap.size+1+1;omega) _⟩
  ·exact HWR.out.mono hwW
  show IsN _ _ h a
  refine ((HWN.out a (by simp)).agree (Agree.setCell w4 ⟨w.heap.size+1+1,0,none⟩ _ (HNF.out w4))).mono fun i hi=>hi.elim .inl fun hi=>.inr ⟨Nat.le_trans hwW hi.1,by rw [World.size_setCell];exact hi.2⟩
 have hE5:Ext w4 (w4.alloc (.cells #[ptr h a,ptr h b] 31)):=(Ext.refl _).alloc _ _
 have hb5:Blk (w4.alloc (.cells #[ptr h a,ptr h b] 31)) w4.heap.size 31 (ptrs h [a,b]).toArray:=Blk.new w4 31 #[ptr h a,ptr h b]
 have hz5:(w4.alloc (.cells #[ptr h a,ptr h b] 31)).heap.size=w4.heap.size+1:=by simp
 go_wp2_with fail
 change Calls _ _ _ (w4.alloc (.cells #[ptr h a,ptr h b] 31)) _
 generalize w4.alloc (.cells #[ptr h a,ptr h b] 31)=W5 at *
 have he:=HWR.out.ents HOK.out
 have hko:=HWR.out.ok HOK.out
 have hps:∀ x∈[a,b],0<(ents h x).length:=fun x hx=>Qa4 h x (hko.1 x hx).1 (hko.1 x hx).2
 have hso:Sorted ([a,b].flatMap (ents h)):=by rw [he];exact Qbt HOK.out.sorted k v
 have hkids:Kids W5 (Up F W3 W5) h [a,b]:=by
  refine ⟨fun b hb=>hb.elim (fun h=>Nat.lt_of_lt_of_le (HF.out b h) (by have:=HX.out.size;omega)) fun h=>h.2,fun x hx=>?_,QcT hso hps,hps,fun x hx=>by have:=QcB (hko.1 x hx).1;omega,by
   have:=QdF (Qak T) k v
   unfold cnt;rw [he];omega,by have:=HWR.out.height HOK.out;omega⟩
  exact ((HWN.out x hx).agree (hE5.agree fun i hi=>hi.elim (fun h=>Nat.lt_of_lt_of_le (HF.out i h) HX.out.size) fun h=>h.2)).mono fun i hi=>hi.elim .inl fun hi=>.inr ⟨hi.1,by omega⟩
 have hin:=QbM (w:=W5) (n:=2) (s:=⟨some ⟨w4.heap.size,0,none⟩,2⟩) ((Rd.QoN hb5 (by simp [ptrs];decide)).mono fun i hi=>by subst hi;omega) rfl hkids (by simp) (by simp)
 have HE5:=Lib.hid hE5
 clear hE5 hb5 he hko hps hso hkids
 refine hin.mono ?_
 rintro e w6 ⟨c,rfl,hc2,hca,hcn,hx6⟩
 have HCN:=Lib.hid hcn
 have q6:w6.cell? ⟨w.heap.size+1+1,0,none⟩=some (.pointer none):=((HE5.out.trans hx6).cell hl4).trans q4
 have f6:w6.frozen? ⟨w.heap.size+1+1,0,none⟩=false:=((HE5.out.trans hx6).frozen hl4).trans f4
 have HX6:=Lib.hid hx6
 clear hin hcn q4 f4 hx6
 go_wp2_with fail
 have q0:(w6.setCell ⟨w.heap.size+1+1,0,none⟩ (ptr (h+1) c)).cell? ⟨w.heap.size+1+1,0,none⟩=some (ptr (h+1) c):=World.cell?_setCell_same w6 _ _ q6
 refine bodyPost_ret (v:=QaC (some ⟨h+1,c⟩)) (by simp [results,Tryz.results46,go_sem,q0];rfl) rfl ?_
 have hw5:w.heap.size≤W5.heap.size:=by have:=HX.out.size;omega
 refine ⟨some ⟨h+1,c⟩,rfl,.two (HWR.out.mono hwW) hc2 (Nat.le_trans hw5 hca),?_,((HX.out.trans HE5.out).trans HX6.out).setCell (p:=⟨w.heap.size+1+1,0,none⟩) (by show w.heap.size≤w.heap.size+1+1;omega) _⟩
 show IsN _ _ (h+1) c
 refine (HCN.out.agree (Agree.setCell w6 ⟨w.heap.size+1+1,0,none⟩ _ ?_)).mono fun i hi=>?_
 ·rintro (hf | hf)
  ·exact HNF.out W5 hf
  have:W5.heap.size≤w.heap.size+1+1:=hf.1
  omega
 rcases hi with (hi | hi) | hi
 ·exact .inl hi
 ·exact .inr ⟨Nat.le_trans hwW hi.1,by rw [World.size_setCell];exact Nat.lt_of_lt_of_le hi.2 HX6.out.size⟩
 exact .inr ⟨Nat.le_trans hw5 hi.1,by rw [World.size_setCell];exact hi.2⟩
theorem RV.flat (w:World) (F:Nat→Prop) (kind:Int) (b:Bool) (i:Int) (t:ByteArray) (hk:(Lit.int .i64 kind).wf=true) (hi:(Lit.int .i64 i).wf=true) (ht:t.size≤maxLen):RV w F (.mk kind b i t [] [] []) Sl.none Sl.none:=
 .mk 0 0 0 0 (fun _=>(Sl.none,Sl.none)) (fun _=>(Sl.none,Sl.none)) (.nil _ _) (.nil _ _) rfl (fun _ _ h=>by simp at h) (fun _ _ h=>by simp at h) (fun _ _ h=>by simp at h) (fun _ _ h=>by simp at h) (fun _ _ h=>by simp at h) hk hi ht (by simp) (by simp)
theorem QfG (es:List Ent) (k:ByteArray) (hs:Sorted es):(∀ e∈es.take (Qby es k),klt e.1 k=true)∧(∀ e∈es.drop (Qby es k),klt e.1 k=false):=by
 have e1:es.take (Qby es k)=es.takeWhile fun e=>klt e.1 k:=(List.prefix_iff_eq_take.1 (List.takeWhile_prefix (l:=es) (fun e:Ent=>klt e.1 k))).symm
 have e2:es.drop (Qby es k)=es.dropWhile fun e=>klt e.1 k:=by
  have h1:=List.take_append_drop (Qby es k) es
  rw [e1] at h1
  have h2:=List.takeWhile_append_dropWhile (p:=fun e:Ent=>klt e.1 k) (l:=es)
  exact List.append_cancel_left (h1.trans h2.symm)
 refine ⟨fun e he=>?_,fun e he=>?_⟩
 ·rw [e1] at he
  exact List.all_eq_true.1 (List.all_takeWhile (l:=es) (p:=fun e:Ent=>klt e.1 k)) e he
 have hsd:Sorted (es.drop (Qby es k)):=List.Pairwise.sublist (List.drop_sublist _ _) hs
 rw [e2] at he hsd
 cases hd:es.dropWhile fun e=>klt e.1 k with
 | nil=>rw [hd] at he;cases he
 | cons x xs=>
   rw [hd] at he hsd
   have hx:klt x.1 k=false:=by
    have:=List.head?_dropWhile_not (fun e:Ent=>klt e.1 k) es
    rw [hd] at this
    simpa using this
   rcases List.mem_cons.1 he with rfl | he
   ·exact hx
   have:=(List.pairwise_cons.1 hsd).1 e he
   cases hc:klt e.1 k
   ·rfl
   rw [QaG this hc] at hx;cases hx
theorem Qe3 {es:List Ent} (hs:Sorted es) (k:ByteArray):QaD es k=(es[Qby es k]?).bind fun e=>if e.1=k then some e.2 else none:=by
 obtain ⟨hA,hB⟩:=QfG es k hs
 have hsd:Sorted (es.drop (Qby es k)):=List.Pairwise.sublist (List.drop_sublist _ _) hs
 conv=>lhs;rw [←List.take_append_drop (Qby es k) es]
 rw [Qjt hA,←Nat.add_zero (Qby es k),←List.getElem?_drop,Nat.add_zero]
 cases hd:es.drop (Qby es k) with
 | nil=>rfl
 | cons x xs=>
   rw [hd] at hsd hB
   simp only [List.getElem?_cons_zero,Option.bind_some,QaD]
   by_cases hx:x.1=k
   ·simp [hx]
   simp only [hx,if_false]
   refine Qfs fun e he=>?_
   have h1:=Qgp (hB x (List.mem_cons_self ..)) hx
   have h2:=QaG h1 ((List.pairwise_cons.1 hsd).1 e he)
   rintro rfl
   rw [Qap] at h2;cases h2
theorem Qjj {es:List Ent} (hs:Sorted es) (k:ByteArray):Qcl es k=if (es[Qby es k]?).map Prod.fst=some k then es.take (Qby es k)++es.drop (Qby es k+1) else es:=by
 obtain ⟨hA,hB⟩:=QfG es k hs
 conv=>lhs;rw [←List.take_append_drop (Qby es k) es]
 rw [QgX hA,Qn0 hB,List.head?_drop,List.tail_drop]
 split
 ·rfl
 rw [List.take_append_drop]
def QbB (o:Option Val) (w:World) (e:Ending) (w':World):Prop:=
 ∃ sl so,e=.returned (.tuple #[Qb5 (o.getD zeroV) sl so,.bool o.isSome])∧Ext w w'∧RV w' (In w.heap.size w'.heap.size) (o.getD zeroV) sl so
/-- The closure of get. -/
theorem QmV {W:World} {nv:Value} {b1 b2:Nat} {k k':ByteArray} {v:Val} {i:Nat} (h1:W.cell? ⟨b1,0,none⟩=some nv) (h2:W.cell? ⟨b2,0,none⟩=some (.string k))
  (hp:∃ p,nv=.pointer p) (hc:Calls Tryz.prog 80 #[nv,.int .i64 i] W (QcI k' v W)) :
  Calls Tryz.prog 79 #[.int .i64 i,.pointer (some ⟨b1,0,none⟩),.pointer (some ⟨b2,0,none⟩)] W fun e w'=>e=.returned (.bool !(klt k' k))∧Ext W w':=by
 obtain ⟨p,rfl⟩:=hp
 have hb2:=World.block_lt_of_cell? W _ h2
 go_enter Tryz.func79,Tryz.ntmps79
 go_wp2_with fail
 refine hc.mono ?_
 rintro e w1 ⟨sl,so,rfl,hx,-⟩
 have q2:=(hx.cell hb2).trans h2
 have l2:b2<w1.heap.size:=Nat.lt_of_lt_of_le hb2 hx.size
 have HX:=Lib.hid hx
 clear hc hx h2
 go_wp2
 go_ret
 exact ⟨rfl,HX.out.alloc _ _⟩
structure Qor (w:World) (nv:Value) (k:ByteArray) (W:World):Prop where
 ext:Ext w W
 b0:Blk W w.heap.size 31 #[nv]
 b1:Blk W (w.heap.size+1) 9 #[.string k]
 b2:Blk W (w.heap.size+1+1) 44 #[.int .i64 0,.bool false,.int .i64 0,.string ByteArray.empty,.slice none 0 0,.slice none 0 0]
theorem Qor.step {w W W':World} {nv:Value} {k:ByteArray} (h:Qor w nv k W) (he:Ext W W'):Qor w nv k W':=⟨h.ext.trans he,h.b0.ext he,h.b1.ext he,h.b2.ext he⟩
theorem QhE (w:World) (i:Int):Calls Tryz.prog 80 #[.pointer none,.int .i64 i] w fun e w'=>e=.returned (.tuple #[Qem ByteArray.empty zeroV Sl.none Sl.none,.bool false])∧Ext w w':=by
 go_enter Tryz.func80,Tryz.ntmps80
 go_wp2_with fail
 refine bodyPost_ret (v:=.tuple #[Qem ByteArray.empty zeroV Sl.none Sl.none,.bool false]) (by simp [results,Tryz.results80,go_sem];exact ⟨rfl,rfl,rfl,rfl,rfl,rfl,rfl⟩) rfl ⟨rfl,(Ext.refl w).alloc _ _⟩
theorem Qju {w:World} {nv:Value} {es:List Ent} (hp:∃ p,nv=.pointer p) (hh:∀ W,Ext w W→Calls Tryz.prog 75 #[nv] W fun e w'=>e=.returned (.int .i64 0)∧W=w')
  (hz:∀ W,Ext w W→Calls Tryz.prog 78 #[nv] W fun e w'=>e=.returned (.int .i64 es.length)∧∃ q,w'=W.drewN q)
  (he:∀ W,Ext w W→∀ (i:Nat) (e:Ent),es[i]? = some e→Calls Tryz.prog 80 #[nv,.int .i64 i] W (QcI e.1 e.2 W))
  (hno:∀ W,Ext w W→∀ i:Nat,es.length≤i→Calls Tryz.prog 80 #[nv,.int .i64 i] W fun e w'=>e=.returned (.tuple #[Qem ByteArray.empty zeroV Sl.none Sl.none,.bool false])∧Ext W w')
  (hs:Sorted es) (hl:es.length≤1000) (k:ByteArray):Calls Tryz.prog 51 #[nv,.string k] w (QbB (QaD es k) w):=by
 have HH:=Lib.hid hh
 have HZ:=Lib.hid hz
 have HE:=Lib.hid he
 have HNO:=Lib.hid hno
 have HS:=Lib.hid hs
 obtain ⟨pp,rfl⟩:=hp
 clear hh hz he hno hs
 have hsr:∀ W,Qor w (.pointer pp) k W→Calls Tryz.prog 70 #[.int .i64 es.length,.func (.func 79) #[] #[.pointer (some ⟨w.heap.size,0,none⟩),.pointer (some ⟨w.heap.size+1,0,none⟩)]] W (QbJ es.length (fun i=>!(klt ((es[i]?.map Prod.fst).getD ByteArray.empty) k)) W):=by
  intro W hW
  refine Qch 79 _ _ es.length _ W (enters_of Tryz.func79 (by kernel_rfl) rfl) (by omega) ?_ ?_
  ·intro i W' hi hW'
   obtain ⟨x,hx⟩:∃ x,es[i]? = some x:=⟨_,List.getElem?_eq_getElem hi⟩
   rw [hx]
   have hS:=hW.step hW'
   exact QmV (hS.b0.cell 0) (hS.b1.cell 0) ⟨_,rfl⟩ (HE.out W' hS.ext i x hx)
  intro i j hij hj hpi
  by_cases hij':i=j
  ·subst hij';exact hpi
  obtain ⟨x,hx⟩:∃ x,es[i]? = some x:=⟨_,List.getElem?_eq_getElem (by omega)⟩
  obtain ⟨y,hy⟩:∃ y,es[j]? = some y:=⟨_,List.getElem?_eq_getElem hj⟩
  have hxy:=QcV HS.out (i:=i) (j:=j) (by omega) hx hy
  rw [hx] at hpi;rw [hy]
  simp only [Option.map_some,Option.getD_some,Bool.not_eq_true'] at hpi ⊢
  cases hyk:klt y.1 k
  ·rfl
  have:=QaG hxy hyk
  rw [hpi] at this;cases this
 go_enter Tryz.func51,Tryz.ntmps51
 go_wp2_with fail
 generalize hW0:World.alloc _ _=W0
 obtain ⟨hx0,hz0,hb0,hb1,hb2⟩:=QaS w _ _ _ _ _ _ W0 hW0
 have hS0:Qor w (.pointer pp) k W0:=⟨hx0,hb0,hb1,hb2⟩
 have HS0:=Lib.hid hS0
 have q0:W0.cell? ⟨w.heap.size,0,none⟩=some (.pointer pp):=hb0.cell 0
 clear hW0 hb0 hb1 hb2 hS0
 refine (HH.out W0 hx0).mono ?_
 rintro e w1 ⟨rfl,rfl⟩
 go_wp2_with fail
 refine (HZ.out W0 hx0).mono ?_
 rintro e w1 ⟨rfl,q,rfl⟩
 go_wp2_with fail
 refine (hsr _ (HS0.out.step ((Ext.refl _).drewN q))).mono ?_
 rintro e w1 ⟨p,rfl,hp,hlo,hhi,he1⟩
 have hS1:=HS0.out.step (((Ext.refl _).drewN q).trans he1)
 have HS1:=Lib.hid hS1
 have r0:w1.cell? ⟨w.heap.size,0,none⟩=some (.pointer pp):=hS1.b0.cell 0
 have hpos:Qby es k=p:=QfF hp (fun i e hi he=>by
   have:(!(klt ((es[i]?.map Prod.fst).getD ByteArray.empty) k))=false:=hlo i hi
   rw [he] at this
   simpa using this) (fun e he=>by
   have:(!(klt ((es[p]?.map Prod.fst).getD ByteArray.empty) k))=true:=hhi p (Nat.le_refl _) (List.getElem?_eq_some_iff.1 he).1
   rw [he] at this
   simpa using this)
 have hget:QaD es k=(es[p]?).bind fun e=>if e.1=k then some e.2 else none:=by rw [Qe3 HS.out,hpos]
 have HG:=Lib.hid hget
 clear hlo hhi hpos hsr he1 hS1 q0 hget hx0 hz0
 go_wp2_with fail
 by_cases hlt:p<es.length
 ·obtain ⟨x,hx⟩:∃ x,es[p]? = some x:=⟨_,List.getElem?_eq_getElem hlt⟩
  have hc:=HE.out w1 HS1.out.ext p x hx
  have HX:=Lib.hid hx
  clear hx
  refine hc.mono ?_
  rintro e w2 ⟨sl,so,rfl,hx2,hrv⟩
  have hS2:=HS1.out.step hx2
  have HS2:=Lib.hid hS2
  have q1:w2.cell? ⟨w.heap.size+1,0,none⟩=some (.string k):=hS2.b1.cell 0
  obtain ⟨c0,c1,c2,c3,c4,c5⟩:=hS2.b2.c6
  have f2:=hS2.b2.frozen
  have l2:=hS2.b2.lt
  have l1:w.heap.size+1<w2.heap.size:=by omega
  have HRV:=Lib.hid hrv
  clear hS2 hx2 hrv hc
  by_cases hk:x.1=k
  ·have hkb:(x.1.toList == k.toList)=true:=by rw [beq_toList];simpa using hk
   have hg:QaD es k=some x.2:=by rw [HG.out,HX.out];simp [hk]
   have HGG:=Lib.hid hg
   clear hk hg
   go_wp2_with fail
   refine bodyPost_ret (v:=.tuple #[Qb5 x.2 sl so,.bool true]) (by simp [results,Tryz.results51,go_sem,c0,c1,c2,c3,c4,c5,l2]) rfl ?_
   have hE:=HS2.out.ext.QcQ (b:=w.heap.size+1+1) (by omega) 0 x.2 sl so
   have hr:=(HRV.out.mono (G:=In w.heap.size w2.heap.size) fun i hi=>⟨Nat.le_trans HS1.out.ext.size hi.1,hi.2⟩)
   have hr2:RV w2 (fun b=>In w.heap.size w2.heap.size b∧b≠w.heap.size+1+1) x.2 sl so:=HRV.out.mono fun i hi=>⟨⟨Nat.le_trans HS1.out.ext.size hi.1,hi.2⟩,by have:=HS1.out.b2.lt;have:=hi.1;omega⟩
   have hr3:=hr2.agree (Qa9 w2 (w.heap.size+1+1) 0 x.2 sl so (F:=fun b=>In w.heap.size w2.heap.size b∧b≠w.heap.size+1+1) (fun h=>h.2 rfl))
   refine ⟨sl,so,by rw [HGG.out];rfl,hE.alloc _ _,?_⟩
   rw [HGG.out]
   refine (hr3.agree (Agree.alloc _ _ (fun b hb=>by rw [QcR];exact hb.1.2))).mono fun i hi=>⟨hi.1.1,?_⟩
   have:=hi.1.2
   simp;omega
  have hkb:(x.1.toList == k.toList)=false:=by rw [beq_toList];simpa using hk
  have hg:QaD es k=none:=by rw [HG.out,HX.out];simp [hk]
  have HGG:=Lib.hid hg
  clear hk hg
  go_wp2_with fail
  refine bodyPost_ret (v:=.tuple #[Qb5 zeroV Sl.none Sl.none,.bool false]) (by simp [results,Tryz.results51,go_sem,c0,c1,c2,c3,c4,c5,l2];exact ⟨rfl,rfl,rfl,rfl,rfl,rfl⟩) rfl ?_
  have hE:=HS2.out.ext.QcQ (b:=w.heap.size+1+1) (by omega) 0 zeroV Sl.none Sl.none
  exact ⟨Sl.none,Sl.none,by rw [HGG.out];rfl,hE.alloc _ _,by rw [HGG.out];exact RV.flat _ _ _ _ _ _ rfl rfl (by decide)⟩
 have hnn:es[p]? = none:=List.getElem?_eq_none (by omega)
 have hg:QaD es k=none:=by rw [HG.out,hnn];rfl
 have hc:=HNO.out w1 HS1.out.ext p (by omega)
 have HGG:=Lib.hid hg
 clear hg hnn
 refine hc.mono ?_
 rintro e w2 ⟨rfl,hx2⟩
 have hS2:=HS1.out.step hx2
 have HS2:=Lib.hid hS2
 obtain ⟨c0,c1,c2,c3,c4,c5⟩:=hS2.b2.c6
 have f2:=hS2.b2.frozen
 have l2:=hS2.b2.lt
 clear hS2 hx2 hc
 go_wp2_with fail
 refine bodyPost_ret (v:=.tuple #[Qb5 zeroV Sl.none Sl.none,.bool false]) (by simp [results,Tryz.results51,go_sem,c0,c1,c2,c3,c4,c5,l2];exact ⟨rfl,rfl,rfl,rfl,rfl,rfl⟩) rfl ?_
 have hE:=HS2.out.ext.QcQ (b:=w.heap.size+1+1) (by omega) 0 zeroV Sl.none Sl.none
 exact ⟨Sl.none,Sl.none,by rw [HGG.out];rfl,hE.alloc _ _,by rw [HGG.out];exact RV.flat _ _ _ _ _ _ rfl rfl (by decide)⟩
theorem get_nil (w:World) (k:ByteArray):Calls Tryz.prog 51 #[.pointer none,.string k] w (QbB none w):=
 Qju (es:=[]) ⟨_,rfl⟩ (fun W _=>Qc2 W) (fun W _=>(QjN W).mono fun e w' ⟨h1,h2⟩=>⟨h1,0,h2.symm⟩) (fun W _ i e h=>by simp at h) (fun W _ i _=>QhE W i) List.Pairwise.nil (by simp) k
theorem QmY {w:World} {t:PT 0} (hn:IsN w (Lt w.heap.size) 0 t) (ok:OkT 0 t) (hs:Sorted (ents 0 t)) (k:ByteArray):Calls Tryz.prog 51 #[ptr 0 t,.string k] w (QbB (QaD (ents 0 t) k) w):=by
 have ok8:(ents 0 t).length≤8:=ok
 exact Qju ⟨_,rfl⟩ (fun W hW=>Qas (hn.ext hW)) (fun W hW=>Qe6 (hn.ext hW) (Nat.le_trans ok8 (by decide))) (fun W hW i e h=>QhD (hn.ext hW) h) (fun W hW i h=>Qgh (hn.ext hW) (.inr (Int.ofNat_le.2 h))) hs (Nat.le_trans ok8 (by decide)) k
theorem QmX {h:Nat} {k:ByteArray}
  (ih:∀ (w:World) (F:Nat→Prop) (t:PT h),(∀ b,F b→b<w.heap.size)→IsN w F h t→OkT h t→Sorted (ents h t)→(ents h t).length≤1000000→Calls Tryz.prog 51 #[ptr h t,.string k] w (QbB (QaD (ents h t) k) w))
  {w:World} {F:Nat→Prop} {t:PT (h+1)} (hF:∀ b,F b→b<w.heap.size) (hn:IsN w F (h+1) t) (ok:OkT (h+1) t) (hs:Sorted (ents (h+1) t)) (hc:(ents (h+1) t).length≤1000000) :
  Calls Tryz.prog 51 #[ptr (h+1) t,.string k] w (QbB (QaD (ents (h+1) t) k) w):=by
 have hpos:=Qbw ok
 have hh:h+1<1000000:=Nat.lt_of_lt_of_le (Qcb (h+1) t ok (by have:=ok.1;show 1≤t.2.length;omega)) hc
 obtain ⟨kid,hkid,hA,hC⟩:=QaT (h:=h) (ks:=t.2) hs hpos (by have:=ok.1;omega) k
 have hkm':=List.mem_of_getElem? hkid
 have hil:=(List.getElem?_eq_some_iff.1 hkid).1
 have hlen8:=ok.2.1
 have hks:∀ x∈t.2,IsN w F h x:=hn.2.choose_spec.2.2
 have hkc:(ents h kid).length≤1000000:=Nat.le_trans (by
  show _≤(t.2.flatMap (ents h)).length
  rw [Qbz hkid];simp only [List.flatMap_append,List.flatMap_cons,List.length_append];omega) hc
 have hge:QaD (ents (h+1) t) k=QaD (ents h kid) k:=Qe2 hkid hA hC
 rw [hge]
 have hih:∀ W,Ext w W→Calls Tryz.prog 51 #[ptr h kid,.string k] W (QbB (QaD (ents h kid) k) W):=fun W hW=>
  ih W F kid (fun b hb=>Nat.lt_of_lt_of_le (hF b hb) hW.size) ((hks kid hkm').agree (hW.agree hF)) (ok.2.2 kid hkm').1 (Qax hs kid hkm') hkc
 generalize QaD (ents h kid) k=og at *
 clear hge
 have HF:=Lib.hid hF
 have HN:=Lib.hid hn
 have HS:=Lib.hid hs
 have HP:=Lib.hid hpos
 have HIH:=Lib.hid hih
 have HKS:=Lib.hid hks
 have HKID:=Lib.hid hkid
 have hgt:(0:Int)<(h:Int)+1:=by omega
 clear hF hn ok hs hc hpos hih hks hkid hA hC ih hkc
 go_enter Tryz.func51,Tryz.ntmps51
 go_wp2_with fail
 generalize hW0:World.alloc _ _=W0
 obtain ⟨hx0,hz0,hb0,hb1,hb2⟩:=QaS w _ _ _ _ _ _ W0 hW0
 have hS0:Qor w (ptr (h+1) t) k W0:=⟨hx0,hb0,hb1,hb2⟩
 have HS0:=Lib.hid hS0
 have q0:W0.cell? ⟨w.heap.size,0,none⟩=some (ptr (h+1) t):=hb0.cell 0
 clear hW0 hb0 hb1 hb2 hS0
 have hnW:IsN W0 F (h+1) t:=HN.out.agree (hx0.agree HF.out)
 refine (Qas hnW).mono ?_
 rintro e w1 ⟨rfl,rfl⟩
 have hkc:=Qcu hnW (by omega)
 clear hnW
 go_wp2_with fail
 refine hkc.mono ?_
 rintro e w1 ⟨s',rfl,hown,hx1⟩
 have hS1:=HS0.out.step hx1
 have HS1:=Lib.hid hS1
 have hrd:Rd w1 (Lt w1.heap.size) 1 s' t.2.length (ptrs h t.2):=(Rd.Qav hown).mono fun i hi=>hi.2
 obtain ⟨g,cap,rfl,hbg,hnc,hcm,hfil⟩:=Qat hown (by omega)
 obtain ⟨i,hi⟩:∃ i,Qao h t.2 k=i:=⟨_,rfl⟩
 have hwh:∀ W,Ext w1 W→Calls Tryz.prog 77 #[.slice (some ⟨g,0,none⟩) t.2.length cap,.string k] W fun e w'=>e=.returned (.int .i64 i)∧Ext W w':=fun W hW=>by
  rw [←hi]
  exact QfQ (s:=⟨some ⟨g,0,none⟩,cap⟩) ((hrd.agree (hW.agree fun _ h=>h)).mono fun i hi=>Nat.lt_of_lt_of_le hi hW.size) (fun x hx=>(HKS.out x hx).agree ((hS1.ext.trans hW).agree HF.out)) (fun b hb=>Nat.lt_of_lt_of_le (HF.out b hb) (hS1.ext.trans hW).size) HP.out k HS.out (by omega)
 have hkid:=HKID.out
 rw [hi] at hkid hil
 obtain ⟨b,o,hba,hbl,-,-,hbc⟩:=hrd.QcH hkid
 obtain ⟨rfl,rfl⟩:g=b∧0=o:=by simpa using hba
 have kc:w1.cell? ⟨g,i,none⟩=some (ptr h kid):=by simpa using hbc
 have k1:w1.cell? ⟨w.heap.size+1,0,none⟩=some (.string k):=hS1.b1.cell 0
 have hg1:g<w1.heap.size:=hbl
 have hgn:¬g=w.heap.size+1+1:=by omega
 have hgn':¬w.heap.size+1+1=g:=by omega
 clear hz0
 have l1:w.heap.size+1<w1.heap.size:=hS1.b1.lt
 have hii:(i:Int)<(t.2.length:Int):=by omega
 have hi0:(0:Int)≤(i:Int):=by omega
 have HWH:=Lib.hid hwh
 have HHI:=Lib.hid hi
 clear hwh hi hkid hbc hba hfil hown hrd hx1 hx0 hS1 hkc q0
 go_wp2_with fail
 go_region_held3 (fun w'=>w'.cell? ⟨g,i,none⟩=some (ptr h kid)∧w'.cell? ⟨w.heap.size+1,0,none⟩=some (.string k)) (first | (with_reducible exact ⟨g3,k3⟩) | (with_reducible exact ⟨g2,k2⟩) | go_keep)
  (first
    | (go_at_call 77;refine (HWH.out _ ?_).mono ?_;(exact ((Ext.refl _).drew));rintro e w2 ⟨rfl,hx2⟩;have g2:=(hx2.cell (o:=i) hg1).trans kc;have k2:=(hx2.cell (o:=0) l1).trans k1;have hg2:=Nat.lt_of_lt_of_le hg1 hx2.size;have l2:=Nat.lt_of_lt_of_le l1 hx2.size)
    | (go_at_call 51;refine (HIH.out _ ?_).mono ?_;(exact HS1.out.ext.trans (((Ext.refl _).drew).trans hx2));rintro e w3 ⟨sl,so,rfl,hx3,hrv⟩;have g3:=(hx3.cell (o:=i) hg2).trans g2;have k3:=(hx3.cell (o:=0) l2).trans k2;have hS3:=HS1.out.step ((((Ext.refl _).drew).trans hx2).trans hx3);obtain ⟨c0,c1,c2,c3,c4,c5⟩:=hS3.b2.c6;have f3:=hS3.b2.frozen;have HS3:=Lib.hid hS3;have HX3:=Lib.hid hx3;have HRV:=Lib.hid hrv;have HX2:=Lib.hid hx2;clear hS3 hx3 hrv hx2))
 go_wp2_with fail
 refine bodyPost_ret (v:=.tuple #[Qb5 (og.getD zeroV) sl so,.bool og.isSome]) (by simp [results,Tryz.results51,go_sem,c0,c1,c2,c3,c4,c5]) rfl ?_
 have hE:=HS3.out.ext.QcQ (b:=w.heap.size+1+1) (by omega) 0 (og.getD zeroV) sl so
 have hb2:=HS1.out.b2.lt
 have hX2:=HX2.out.size
 have hX3:=HX3.out.size
 have hE1:=HS1.out.ext.size
 rw [World.size_drew] at hX2
 have hr2:RV w3 (fun b=>In w.heap.size w3.heap.size b∧b≠w.heap.size+1+1) (og.getD zeroV) sl so:=HRV.out.mono fun i hi=>⟨⟨by have:=hi.1;omega,hi.2⟩,by have:=hi.1;omega⟩
 have hr3:=hr2.agree (Qa9 w3 (w.heap.size+1+1) 0 (og.getD zeroV) sl so (F:=fun b=>In w.heap.size w3.heap.size b∧b≠w.heap.size+1+1) (fun h=>h.2 rfl))
 exact ⟨sl,so,rfl,hE,hr3.mono fun i hi=>⟨hi.1.1,by have:=hi.1.2;simpa using this⟩⟩
theorem Qlz {k:ByteArray}:∀ (h:Nat) (w:World) (F:Nat→Prop) (t:PT h),(∀ b,F b→b<w.heap.size)→IsN w F h t→OkT h t→Sorted (ents h t)→(ents h t).length≤1000000→Calls Tryz.prog 51 #[ptr h t,.string k] w (QbB (QaD (ents h t) k) w)
 | 0,w,F,t,hF,hn,ok,hs,_=>QmY (hn.mono hF) ok hs k
 | h+1,w,F,t,hF,hn,ok,hs,hc=>QmX (fun w F t a b c d e=>Qlz h w F t a b c d e) hF hn ok hs hc
theorem QiH {w w3:World} {b lo:Nat} {og:Option Val} {sl so:Sl} (hE:Ext w w3) (hb:w.heap.size≤b) (hlt:b<lo) (hr:RV w3 (In lo w3.heap.size) (og.getD zeroV) sl so) :
  QbB og w (.returned (.tuple #[Qb5 (og.getD zeroV) sl so,.bool og.isSome])) (QcQ w3 b 0 (og.getD zeroV) sl so):=by
 refine ⟨sl,so,rfl,hE.QcQ hb _ _ _ _,?_⟩
 rw [QcR]
 exact (hr.agree (Qa9 w3 b 0 (og.getD zeroV) sl so (by omega))).mono fun i hi=>⟨by omega,hi.2⟩
theorem Qaz (w:World) (t0 t1:TypeId) (c0 c1:Array Value):∀ W,(w.alloc (.cells c0 t0)).alloc (.cells c1 t1)=W→
  Ext w W∧W.heap.size=w.heap.size+2∧Blk W w.heap.size t0 c0∧Blk W (w.heap.size+1) t1 c1:=by
 rintro W rfl
 refine ⟨((Ext.refl w).alloc _ _).alloc _ _,by simp,(Blk.new w t0 c0).alloc _,?_⟩
 have h:=Blk.new (w.alloc (.cells c0 t0)) t1 c1
 rw [World.size_alloc] at h;exact h
theorem QmW {w:World} {F:Nat→Prop} {T:RT} (hF:∀ b,F b→b<w.heap.size) (hT:IsT w F T) (ok:OkR T) (hc:(Qak T).length≤1000000) (k:ByteArray) :
  Calls Tryz.prog 51 #[QaQ T,.string k] w (QbB (QaD (Qak T) k) w):=by
 match T,hT,ok,hc with
 | none,_,_,_=>exact get_nil w k
 | some ⟨h,t⟩,hT,ok,hc=>exact Qlz h w F t hF hT ok.1 ok.2.2 hc
theorem QfN {w:World} {F:Nat→Prop} {T:RT} (hF:∀ b,F b→b<w.heap.size) (hT:IsT w F T) (ok:OkR T) (hc:(Qak T).length≤1000000) (k:ByteArray) :
  Calls Tryz.prog 20 #[QaC T,.string k] w (QbB (QaD (Qak T) k) w):=by
 have hcw:∀ W,Ext w W→Calls Tryz.prog 51 #[QaQ T,.string k] W (QbB (QaD (Qak T) k) W):=fun W hW=>
  QmW (fun b hb=>Nat.lt_of_lt_of_le (hF b hb) hW.size) (hT.agree (hW.agree hF)) ok hc k
 generalize QaD (Qak T) k=og at *
 have HW:=Lib.hid hcw
 clear hF hT ok hcw
 go_enter Tryz.func20,Tryz.ntmps20
 go_wp2_with fail
 generalize hW0:World.alloc _ _=W0
 obtain ⟨hx0,hz0,-,hb1⟩:=Qaz w _ _ _ _ W0 hW0
 have HZ:=Lib.hid hz0
 have HX0:=Lib.hid hx0
 clear hW0 hz0
 refine (HW.out W0 hx0).mono ?_
 rintro e w1 ⟨sl,so,rfl,hx1,hrv⟩
 have hb:=hb1.ext hx1
 obtain ⟨c0,c1,c2,c3,c4,c5⟩:=hb.c6
 have f2:=hb.frozen
 have HX1:=Lib.hid hx1
 have HRV:=Lib.hid hrv
 clear hb hb1 hx1 hrv hx0
 go_wp2_with fail
 refine bodyPost_ret (v:=.tuple #[Qb5 (og.getD zeroV) sl so,.bool og.isSome]) (by simp [results,Tryz.results20,go_sem,c0,c1,c2,c3,c4,c5]) rfl ?_
 exact QiH (HX0.out.trans HX1.out) (b:=w.heap.size+1) (lo:=W0.heap.size) (by omega) (by rw [HZ.out];omega) HRV.out
theorem OE.append {w w':World} {base:Nat} {s s':Sl} {xs ys:List LE} {F:Nat→Prop} (ho:OE w base s xs) (hv:QjZ w F ys) (hF:∀ b,F b→base≤b∧b<w.heap.size∧s.row≠some b) (hf:(xs.length+ys.length)*104≤140737488355328)
  (hown:w'.ownsRow base 47 7 (.slice s'.a (xs.length+ys.length) s'.c) (xs.length+ys.length) (Qaf xs++Qaf ys)) (hwr:Wr w w' s.row) (hs':s'.row=s.row∨∃ b,s'.row=some b∧w.heap.size≤b):OE w' base s' (xs++ys):=by
 have hnew:∀ b,b<w.heap.size→s.row≠some b→s'.row≠some b:=fun b hb hn he=>by
  rcases hs' with h | ⟨g,h,hg⟩
  ·exact hn (h▸he)
  rw [h] at he;simp at he;omega
 have hag:Agree (fun b=>(base≤b∧b<w.heap.size)∧s.row≠some b) w w':=hwr.agree (fun i hi=>hi.1.2) (fun k hk h=>h.2 hk)
 refine ⟨by rw [List.length_append,Qaq];exact hown,fun x hx=>?_,by rw [List.length_append];exact hf⟩
 have hup:∀ i,((base≤i∧i<w.heap.size)∧s.row≠some i)→(base≤i∧i<w'.heap.size)∧s'.row≠some i:=fun i hi=>⟨⟨hi.1.1,Nat.lt_of_lt_of_le hi.1.2 hwr.grown.size⟩,hnew i hi.1.2 hi.2⟩
 rcases List.mem_append.1 hx with hx | hx
 ·exact ⟨((ho.vals x hx).1.agree hag).mono hup,(ho.vals x hx).2⟩
 exact ⟨(((hv x hx).1.mono fun i hi=>⟨⟨(hF i hi).1,(hF i hi).2.1⟩,(hF i hi).2.2⟩).agree hag).mono hup,(hv x hx).2⟩
theorem Qm5 (w:World):Calls Tryz.prog 76 #[.pointer none] w fun e w'=>e=.returned (.slice none 0 0)∧w=w':=by
 go_enter Tryz.func76,Tryz.ntmps76
 go_wp2_with fail
 go_ret
 exact ⟨rfl,rfl⟩
theorem Qgf {w:World} {F:Nat→Prop} {T:RT} (hT:IsT w F T):Calls Tryz.prog 54 #[QaQ T] w fun e w'=>e=.returned (.int .i64 (Qak T).length)∧w=w':=by
 match T,hT with
 | none,_=>exact count_nil w
 | some ⟨h,t⟩,hT=>exact Qhz hT
theorem QcX (w:World) (v:Value):Calls Tryz.prog 74 #[.agg #[v]] w fun e w'=>e=.returned v∧Ext w w':=by
 go_enter Tryz.func74,Tryz.ntmps74
 go_wp2_with fail
 go_ret
 exact ⟨rfl,(Ext.refl w).alloc _ _⟩
structure MapAt (H:Nat→Prop) (w:World) (M:Nat) (es:List Ent):Prop where
 hm:H M
 ex:∃ s xs,Blk w M 76 #[.slice s.a xs.length s.c]∧ES w (NH H w) s xs∧xs.map LE.ent=es
theorem MapAt.st {H G:Nat→Prop} {w w':World} {M:Nat} {es:List Ent} (h:MapAt H w M es) (k:St G w w') (hG:∀ b,G b→H b) (hM:¬G M):MapAt H w' M es:=by
 obtain ⟨hm,s,xs,hb,hs,hx⟩:=h
 exact ⟨hm,s,xs,k.blk hb hM,(hs.agree (fun b hb=>k.block b hb.1 fun hh=>hb.2 (hG b hh))).mono fun i hi=>⟨Nat.lt_of_lt_of_le hi.1 k.size,hi.2⟩,hx⟩
theorem MapAt.ext {H:Nat→Prop} {w w':World} {M:Nat} {es:List Ent} (h:MapAt H w M es) (k:Ext w w'):MapAt H w' M es:=
 h.st (k.st fun _=>False) (fun _ hb=>hb.elim) (fun hb=>hb)
theorem MapAt.more {H G:Nat→Prop} {w:World} {M:Nat} {es:List Ent} (h:MapAt H w M es) (hH:∀ b,H b→G b) (hG:∀ b,b<w.heap.size→G b→H b):MapAt G w M es:=by
 obtain ⟨hm,s,xs,hb,hs,hx⟩:=h
 exact ⟨hH M hm,s,xs,hb,hs.mono fun i hi=>⟨hi.1,fun hg=>hi.2 (hG i hi.1 hg)⟩,hx⟩
theorem Qpi {H:Nat→Prop} {w:World} {M:Nat} {es:List Ent} (h:MapAt H w M es) (k:ByteArray):Calls Tryz.prog 84 #[.pointer (some ⟨M,0,none⟩),.string k] w fun e w'=>
  e=.returned (.tuple #[.int .i64 (Qby es k),.bool (decide ((es[Qby es k]?).map Prod.fst=some k))])∧∃ q,w'=w.drewN q:=by
 obtain ⟨-,s,xs,hb,hs,rfl⟩:=h
 have h0:w.cell? ⟨M,0,none⟩=some (.slice s.a xs.length s.c):=hb.cell 0
 have hfew:=hs.few
 have HS:=Lib.hid hs
 clear hb hs
 go_enter Tryz.func84,Tryz.ntmps84
 go_wp2_with fail
 have hnl:xs.length≤140737488355328:=by omega
 go_loopw [6] (fun q wr=>∃ j:Nat,q=.int .i64 j∧j≤xs.length∧(∀ i x,i<j→xs[i]? = some x→klt x.k k=true)∧wr=w) (fun q _=>xs.length - (intOf q).toNat)
 case atStart=>exact ⟨0,rfl,Nat.zero_le _,fun i x hi=>absurd hi (Nat.not_lt_zero _),rfl⟩
 obtain ⟨j,rfl,hj,hp,rfl⟩:=hrel
 have HP:=Lib.hid hp
 clear hp
 by_cases h1:j<xs.length
 ·have g1:(j:Int)<(xs.length:Int):=by omega
  obtain ⟨x,hx⟩:∃ x,xs[j]? = some x:=⟨_,List.getElem?_eq_getElem h1⟩
  obtain ⟨g,o,hg,lg,hc,hcm,kx,-,-,-⟩:=HS.out.at hx
  obtain ⟨sa,sc⟩:=s
  dsimp only at hg hc hcm
  subst hg
  have HXX:=Lib.hid hx
  clear hx
  cases hkl:klt x.k k with
  | true=>
    have hb1:Op.bytesLess x.k.toList k.toList=true:=hkl
    go_wp2_with fail
    go_roundw
    case rel=>
     refine ⟨j+1,by go_num,h1,fun i y hi hy=>?_,by trivial⟩
     rcases Nat.lt_or_eq_of_le (Nat.le_of_lt_succ hi) with h | rfl
     ·exact HP.out i y h hy
     rw [HXX.out] at hy;cases hy;exact hkl
    simp [intOf];omega
  | false=>
    have hb1:Op.bytesLess x.k.toList k.toList=false:=hkl
    have hpos:Qby (xs.map LE.ent) k=j:=QfF (by rw [List.length_map];exact hj) (fun i e hi he=>by
     rw [List.getElem?_map] at he
     cases hy:xs[i]? with
     | none=>rw [hy] at he;cases he
     | some y=>rw [hy] at he;cases he;exact HP.out i y hi hy) (fun e he=>by
     rw [List.getElem?_map,HXX.out] at he;cases he;exact hkl)
    have HPOS:=Lib.hid hpos
    clear hpos
    go_wp2_with fail
    go_quiet (fail)
    go_wp2_with fail
    refine bodyPost_ret (v:=.tuple #[.int .i64 j,.bool (x.k.toList == k.toList)]) (by simp [results,Tryz.results84,go_sem]) rfl ?_
    rw [HPOS.out,List.getElem?_map,HXX.out]
    refine ⟨?_,_,rfl⟩
    rw [beq_toList]
    simp [LE.ent]
 have g1:¬(j:Int)<(xs.length:Int):=by omega
 obtain rfl:j=xs.length:=by omega
 have hpos:Qby (xs.map LE.ent) k=xs.length:=QfF (by rw [List.length_map];exact Nat.le_refl _) (fun i e hi he=>by
  rw [List.getElem?_map] at he
  cases hy:xs[i]? with
  | none=>rw [hy] at he;cases he
  | some y=>rw [hy] at he;cases he;exact HP.out i y hi hy) (fun e he=>by
  rw [List.getElem?_map,List.getElem?_eq_none (Nat.le_refl _)] at he;cases he)
 have HPOS:=Lib.hid hpos
 clear hpos
 go_wp2_with fail
 refine bodyPost_ret (v:=.tuple #[.int .i64 xs.length,.bool false]) (by simp [results,Tryz.results84,go_sem]) rfl ?_
 rw [HPOS.out]
 exact ⟨by simp,0,rfl⟩
theorem QnB {es:List Ent} (hs:Sorted es) (k:ByteArray):decide ((es[Qby es k]?).map Prod.fst=some k)=(QaD es k).isSome:=by
 rw [Qe3 hs]
 cases hx:es[Qby es k]? with
 | none=>simp
 | some e=>by_cases hk:e.1=k <;> simp [hk]
section
variable {P : Program} (w : World)
theorem Qba {ops:Array Oper} {o:Oper} {a:Act} {K:Act→World→Prop} {Q:Exit→Act→World→Prop} {E:Prop} (hgd:o.guard=none) (s' x:Operand) (t:TypeId)
  (ho:o.op=.call { callee:=.builtin .append,args:=#[s',x],argTypes:=#[t,t] })
  (base:Nat) (e:TypeId) (i:TypeInfo) (z:Value) (size bytes:Nat) (ht:P.underlying t=some (.slice e)) (hi:P.info? e=some i) (hz:i.zero=some z)
  (hsize:i.size=size) (hby:i.bytes=bytes) (hzs:z.cells.size=size) (hsz:0<size)
  (s:Sl) (n:Nat) (xs:List Value) (hs:a.eval s'=.slice s.a n s.c) (hown:w.ownsRow base e size (.slice s.a n s.c) n xs)
  (F:Nat→Prop) (sx:Sl) (m:Nat) (news:List Value) (hx:a.eval x=.slice sx.a m sx.c) (hsrc:Rd w F size sx m news) (h1:∀ u∈news,u.oneCell'=true)
  (h63:n+m≤maxLen) (hbytes:(n+m)*bytes≤140737488355328) (hbase:base≤w.heap.size)
  (h:∀ (s':Sl) (w':World),w'.ownsRow base e size (.slice s'.a (n+m) s'.c) (n+m) (xs++news)→Wr w w' s.row→(s'.a=s.a∨s'.a=some ⟨w.heap.size,0,none⟩∧Wr w w' none)→K (a.put o.dst (.slice s'.a (n+m) s'.c)) w') :
  if Region.wanted o (yielded ops a.tmps)=true then Oper.wp P o a w K Q else E:=by
 have hw:Region.wanted o (yielded ops a.tmps)=true:=by simp [Region.wanted,hgd]
 rw [if_pos hw]
 exact QaA w s' x t ho base e i z size bytes ht hi hz hsize hby hzs hsz s n xs hs hown F sx m news hx hsrc h1 h63 hbytes hbase h
theorem Rd.block {w:World} {g:Nat} {t:TypeId} {cs:List Value} {size n:Nat} (hb:Blk w g t cs.toArray) (hm:n≤maxLen) (hl:cs.length=n*size):Rd w (fun b=>b=g) size ⟨some ⟨g,0,none⟩,n⟩ n cs:=
 ⟨g,0,.some _ _ _ _ (Nat.le_refl _) hm rfl,hl,fun j u hj=>by rw [Nat.zero_add,hb.cell];simpa using hj⟩
end
def QmB (H:Nat→Prop) (M:Nat) (es:List Ent) (w:World) (e:Ending) (w':World):Prop:=
 (∃ r,e=.returned r)∧MapAt H w' M es∧St (fun b=>b=M) w w'
theorem Wr.cell0 {w w' w'':World} {row:Option Nat} (h:Wr w' w'' row) (hx:Ext w w') {M:Nat} {o:Nat} (hn:row≠some M) (hl:M<w.heap.size):w''.cell? ⟨M,o,none⟩=w.cell? ⟨M,o,none⟩∧M<w''.heap.size:=
 ⟨((h.agree (F:=fun b=>b=M) (fun i hi=>by subst hi;exact Nat.lt_of_lt_of_le hl hx.size) (fun k hk e=>hn (e▸hk))).cell rfl).trans (hx.cell hl),Nat.lt_of_lt_of_le hl (Nat.le_trans hx.size h.grown.size)⟩
def Qa0 (xs:List LE) (p q:Nat) (x:LE):List LE:=(xs.take p++[x])++xs.drop q
theorem Qnh {xs:List LE} {k:ByteArray} (hs:Sorted (xs.map LE.ent)) (x:LE) (hx:x.k=k) {p q:Nat} (hp:Qby (xs.map LE.ent) k=p) (hq:q=if (((xs.map LE.ent)[p]?).map Prod.fst=some k) then p+1 else p):(Qa0 xs p q x).map LE.ent=QbH (xs.map LE.ent) k x.v:=by
 rw [Qjx hs,hp,Qa0]
 subst hx hq
 simp only [List.map_append,List.map_take,List.map_drop,List.map_cons,List.map_nil,List.append_assoc,List.singleton_append]
 congr 2
 split <;> rfl
theorem Qni {H:Nat→Prop} {w w3:World} {M:Nat} {s s3:Sl} {xs:List LE} {p q:Nat} {x:LE} {es:List Ent} (hm:H M) (hH:∀ b,H b→b<w.heap.size) (hb:Blk w M 76 #[.slice s.a xs.length s.c]) (hs:ES w (NH H w) s xs) (hv:RV w (NH H w) x.v x.sl x.so) (hk:x.k.size≤maxLen)
  (hx:Ext w w3) (hown:w3.ownsRow w.heap.size 47 7 (.slice s3.a (Qa0 xs p q x).length s3.c) (Qa0 xs p q x).length (Qaf (Qa0 xs p q x))) (hf:(Qa0 xs p q x).length*104≤140737488355328) (he:(Qa0 xs p q x).map LE.ent=es) :
  MapAt H (w3.setCell ⟨M,0,none⟩ (.slice s3.a (Qa0 xs p q x).length s3.c)) M es∧St (fun b=>b=M) w (w3.setCell ⟨M,0,none⟩ (.slice s3.a (Qa0 xs p q x).length s3.c)):=by
 have hMw:=hb.lt
 have hst:St (fun b=>b=M) w (w3.setCell ⟨M,0,none⟩ (.slice s3.a (Qa0 xs p q x).length s3.c)):=(hx.st (fun b=>b=M)).set (p:=⟨M,0,none⟩) (.inr rfl) _
 have hag:Agree (NH H w) w (w3.setCell ⟨M,0,none⟩ (.slice s3.a (Qa0 xs p q x).length s3.c)):=hst.agree.mono fun i hi=>⟨hi.1,fun e=>hi.2 (e▸hm)⟩
 have hup:∀ i,NH H w i→NH H (w3.setCell ⟨M,0,none⟩ (.slice s3.a (Qa0 xs p q x).length s3.c)) i:=fun i hi=>⟨Nat.lt_of_lt_of_le hi.1 hst.size,hi.2⟩
 have hag3:Agree (In w.heap.size w3.heap.size) w3 (w3.setCell ⟨M,0,none⟩ (.slice s3.a (Qa0 xs p q x).length s3.c)):=Agree.setCell w3 ⟨M,0,none⟩ _ (fun h=>by have h1:w.heap.size≤M:=h.1;omega)
 refine ⟨⟨hm,s3,Qa0 xs p q x,?_,⟨?_,?_,hf⟩,he⟩,hst⟩
 ·exact (hb.ext hx).QaN 0 _
 ·exact ((Rd.Qav hown).agree hag3).mono fun i hi=>⟨by rw [World.size_setCell];exact hi.2,fun h=>by have:=hH i h;have:=hi.1;omega⟩
 intro y hy
 have hy:y∈(xs.take p++[x])++xs.drop q:=hy
 have hor:y∈xs∨y=x:=by
  rcases List.mem_append.1 hy with hy | hy
  ·rcases List.mem_append.1 hy with hy | hy
   ·exact .inl (List.mem_of_mem_take hy)
   exact .inr (List.mem_singleton.1 hy)
  exact .inl (List.mem_of_mem_drop hy)
 rcases hor with hy | rfl
 ·exact ⟨((hs.vals y hy).1.agree hag).mono hup,(hs.vals y hy).2⟩
 exact ⟨(hv.agree hag).mono hup,hk⟩
section
variable {P : Program} {w : World}
theorem QaH {ops:Array Oper} {rest:List Oper} {o:Oper} {a:Act} {Q:Exit→Act→World→Prop} (hgd:o.guard=none) (s' x:Operand) (t:TypeId)
  (ho:o.op=.call { callee:=.builtin .append,args:=#[s',x],argTypes:=#[t,t] })
  (base:Nat) (e:TypeId) (i:TypeInfo) (z:Value) (size bytes:Nat) (ht:P.underlying t=some (.slice e)) (hi:P.info? e=some i) (hz:i.zero=some z)
  (hsize:i.size=size) (hby:i.bytes=bytes) (hzs:z.cells.size=size) (hsz:0<size) (hs:a.eval s'=.slice none 0 0)
  (F:Nat→Prop) (sx:Sl) (m:Nat) (news:List Value) (hx:a.eval x=.slice sx.a m sx.c) (hsrc:Rd w F size sx m news) (h1:∀ u∈news,u.oneCell'=true)
  (h63:m≤maxLen) (hbytes:m*bytes≤140737488355328) (hbase:base≤w.heap.size)
  (h:∀ (s':Sl) (w':World),w'.ownsRow base e size (.slice s'.a m s'.c) m news→Ext w w'→wpList P ops Q rest (a.put o.dst (.slice s'.a m s'.c)) w'):wpList P ops Q (o :: rest) a w:=
 Qae w hgd s' x t ho base e i z size bytes ht hi hz hsize hby hzs hsz Sl.none 0 [] hs (World.ownsRow_nil _ _ _ _) F sx m news hx hsrc h1 (by omega) (by rw [Nat.zero_add];exact hbytes) hbase fun s2 w2 h2 h3 _=>by
  rw [Nat.zero_add,List.nil_append] at h2
  rw [Nat.zero_add]
  exact h s2 w2 h2 ((Ext.refl w).wr h3 (fun i hi=>by cases hi))
end
theorem Qg9 {H:Nat→Prop} {w:World} {M:Nat} {es:List Ent} (h:MapAt H w M es) (hH:∀ b,H b→b<w.heap.size) (hso:Sorted es) (hc:es.length≤1000000) {k:ByteArray} (hk:k.size≤maxLen) {v:Val} {sl so:Sl} (hv:RV w (NH H w) v sl so) :
  Calls Tryz.prog 56 #[.pointer (some ⟨M,0,none⟩),.string k,Qb5 v sl so] w (QmB H M (QbH es k v) w):=by
 obtain ⟨i0,hi,hz0,hz1,hz2⟩:=info_parts Tryz.QaP
 have hx1:Ext w (w.alloc (.cells #[.int .i64 v.kind,.bool v.b,.int .i64 v.i,.string v.t,.slice sl.a v.l.length sl.c,.slice so.a v.ok.length so.c] 44)):=(Ext.refl w).alloc _ _
 have hb5:=Blk.new w 44 #[.int .i64 v.kind,.bool v.b,.int .i64 v.i,.string v.t,.slice sl.a v.l.length sl.c,.slice so.a v.ok.length so.c]
 have hat:=Qpi (h.ext hx1) k
 have hle:=QiW es k
 obtain ⟨hm,s,xs,hb,hs,hxs⟩:=h
 obtain ⟨p,hp⟩:∃ p,Qby es k=p:=⟨_,rfl⟩
 obtain ⟨f,hf⟩:∃ f,decide ((es[p]?).map Prod.fst=some k)=f:=⟨_,rfl⟩
 rw [hp,hf] at hat
 have hlen:xs.length=es.length:=by rw [←hxs,List.length_map]
 obtain ⟨q,hq⟩:∃ q,(if f=true then p+1 else p)=q:=⟨_,rfl⟩
 have hqe:q=if ((es[p]?).map Prod.fst=some k) then p+1 else p:=by
  rw [←hq,←hf];simp only [decide_eq_true_eq]
 have hql:q≤xs.length:=by
  rw [hqe]
  split
  ·rename_i he
   have:p<es.length:=by
    rcases Nat.lt_or_ge p es.length with h | h
    ·exact h
    rw [List.getElem?_eq_none h] at he;cases he
   omega
  omega
 have hpl:p≤xs.length:=by omega
 have hins:∀ x:LE,x.k=k→x.v=v→(Qa0 xs p q x).map LE.ent=QbH es k v:=fun x h1 h2=>by
  have:=Qnh (xs:=xs) (k:=k) (by rw [hxs];exact hso) x h1 (p:=p) (q:=q) (by rw [hxs];exact hp) (by rw [hxs];exact hqe)
  rw [this,hxs,h2]
 have hput:∀ x:LE,(Qa0 xs p q x).length=p+1+(xs.length - q):=fun x=>by
  simp only [Qa0,List.length_append,List.length_take,List.length_drop,List.length_cons,List.length_nil];omega
 obtain ⟨x,hxk,hxv,hxl,hxo⟩:∃ x:LE,x.k=k∧x.v=v∧x.sl=sl∧x.so=so:=⟨⟨k,v,sl,so⟩,rfl,rfl,rfl,rfl⟩
 have he:=hins x hxk hxv
 have hend:=fun (w3:World) (s3:Sl)=>Qni (w3:=w3) (s3:=s3) (p:=p) (q:=q) (x:=x) (es:=QbH es k v) hm hH hb hs (by rw [hxv,hxl,hxo];exact hv) (by rw [hxk];exact hk)
 have hrd:=fun (W:World) (hW:Ext w W)=>(hs.mono (G:=Lt w.heap.size) fun i hi=>hi.1).agree (hW.agree fun _ h=>h)
 have h0:w.cell? ⟨M,0,none⟩=some (.slice s.a xs.length s.c):=hb.cell 0
 have lM:=hb.lt
 have hfz:=hb.frozen 0
 have HEND:=Lib.hid hend
 have HRD:=Lib.hid hrd
 have HE:=Lib.hid he
 have HPUT:=Lib.hid (hput x)
 have HAT:=Lib.hid hat
 have HX1:=Lib.hid hx1
 have HQ:=Lib.hid hq
 have hl1:xs.length≤1000000:=by omega
 have hcs:LE.cells x=[.string k,.int .i64 v.kind,.bool v.b,.int .i64 v.i,.string v.t,.slice sl.a v.l.length sl.c,.slice so.a v.ok.length so.c]:=by
  rw [LE.cells,hxk,hxv,hxl,hxo]
 have HCS:=Lib.hid hcs
 have hrd1:∀ W:World,Rd (W.alloc (.cells #[.string k,.int .i64 v.kind,.bool v.b,.int .i64 v.i,.string v.t,.slice sl.a v.l.length sl.c,.slice so.a v.ok.length so.c] 47)) (fun b=>b=W.heap.size) 7 ⟨some ⟨W.heap.size,0,none⟩,1⟩ 1 [.string k,.int .i64 v.kind,.bool v.b,.int .i64 v.i,.string v.t,.slice sl.a v.l.length sl.c,.slice so.a v.ok.length so.c]:=fun W=>Rd.block (Blk.new W 47 #[.string k,.int .i64 v.kind,.bool v.b,.int .i64 v.i,.string v.t,.slice sl.a v.l.length sl.c,.slice so.a v.ok.length so.c]) (by decide) rfl
 have hone1:∀ u∈[Value.string k,.int .i64 v.kind,.bool v.b,.int .i64 v.i,.string v.t,.slice sl.a v.l.length sl.c,.slice so.a v.ok.length so.c],u.oneCell'=true:=by rw [←hcs];exact LE.one x
 have HRD1:=Lib.hid hrd1
 have HONE1:=Lib.hid hone1
 clear hrd1 hone1
 have hsp:=hs.rd
 obtain ⟨gs,os,hsa,-,-⟩:=hsp
 clear hend hrd he hins hput hat hx1 hq hqe hf hxs hlen hs hb hcs hv
 generalize hn:xs.length=n at hsa
 cases hsa with
 | nil=>
   obtain rfl:p=0:=by omega
   obtain rfl:xs=[]:=List.eq_nil_of_length_eq_zero hn
   cases f with
   | true=>
     exfalso
     have h1:0+1=q:=by have:=HQ.out;simpa using this
     simp at hql;omega
   | false=>
     obtain rfl:0=q:=by have:=HQ.out;simpa using this
     go_enter Tryz.func56,Tryz.ntmps56
     go_wp2_with fail
     refine HAT.out.mono ?_
     rintro e w2 ⟨rfl,nq,rfl⟩
     have hx2:=HX1.out.drewN nq
     replace h0:=(hx2.cell lM).trans h0
     have hb5':=hb5.ext ((Ext.refl _).drewN nq)
     obtain ⟨c0,c1,c2,c3,c4,c5⟩:=hb5'.c6
     have l5:=hb5'.lt
     have lMW:M<(World.drewN (w.alloc (.cells #[.int .i64 v.kind,.bool v.b,.int .i64 v.i,.string v.t,.slice sl.a v.l.length sl.c,.slice so.a v.ok.length so.c] 44)) nq).heap.size:=Nat.lt_of_lt_of_le lM hx2.size
     generalize World.drewN _ nq=W2 at *
     have hw2:=hx2.size
     have hrp:Rd W2 (Lt w.heap.size) 7 Sl.none 0 (Qaf (([]:List LE).take 0)):=by have:=((HRD.out W2 hx2).take hpl).rd;rwa [List.length_take,Nat.min_eq_left hpl] at this
     have HRP:=Lib.hid hrp
     have HX2:=Lib.hid hx2
     have h63a:0≤maxLen:=by unfold maxLen;omega
     have hbya:0*104≤140737488355328:=by omega
     have h63b:0+1≤maxLen:=by unfold maxLen;omega
     have hbyb:(0+1)*104≤140737488355328:=by omega
     have hrq:∀ W,Ext w W→Rd W (Lt w.heap.size) 7 Sl.none 0 []:=fun W hW=>Rd.nil _ _ _
     have HRQ:=Lib.hid hrq
     have h63c:0+1+0≤maxLen:=by unfold maxLen;omega
     have hbyc:(0+1+0)*104≤140737488355328:=by omega
     have hqi:((0:Nat):Int)≤(([]:List LE).length:Int):=by omega
     have hpi:(0:Int)≤(([]:List LE).length:Int):=by omega
     clear hrp hx2 HAT hb5 hb5' HX1 hrq
     go_wp2_with (first
      | (at_builtin;refine QaH rfl (.tmp 15) (.tmp 21) 50 rfl w.heap.size 47 i0 _ 7 104 Tryz.underlying50 hi hz0 hz1 hz2 rfl (by decide) rfl (Lt w.heap.size) Sl.none 0 (Qaf (([]:List LE).take 0)) rfl HRP.out (Qaw _) h63a hbya hw2 ?_;intro s1 w3 hown1 hx3;have c0:=(hx3.cell l5).trans c0;have c1:=(hx3.cell l5).trans c1;have c2:=(hx3.cell l5).trans c2;have c3:=(hx3.cell l5).trans c3;have c4:=(hx3.cell l5).trans c4;have c5:=(hx3.cell l5).trans c5;have h0:=(hx3.cell lMW).trans h0;have l5:=Nat.lt_of_lt_of_le l5 hx3.size;have lMW:=Nat.lt_of_lt_of_le lMW hx3.size;have HO1:=Lib.hid hown1;have HX3:=Lib.hid (HX2.out.trans hx3);have hw3:=HX3.out.size;have HO1A:=Lib.hid (Qad (w':=w3.alloc (.cells #[.string k,.int .i64 v.kind,.bool v.b,.int .i64 v.i,.string v.t,.slice sl.a v.l.length sl.c,.slice so.a v.ok.length so.c] 47)) (s:=s1) hown1 (F:=Lt w3.heap.size) (((Ext.refl w3).alloc _ _).agree fun _ h=>h) fun b hb=>(Qac (s:=s1) hown1 hb).2);clear hown1 hx3)
      | (at_builtin;refine Qae _ rfl (.tmp 23) (.tmp 27) 50 rfl w.heap.size 47 i0 _ 7 104 Tryz.underlying50 hi hz0 hz1 hz2 rfl (by decide) s1 0 (Qaf (([]:List LE).take 0)) rfl HO1A.out (fun b=>b=w3.heap.size) ⟨some ⟨w3.heap.size,0,none⟩,1⟩ 1 [.string k,.int .i64 v.kind,.bool v.b,.int .i64 v.i,.string v.t,.slice sl.a v.l.length sl.c,.slice so.a v.ok.length so.c] rfl (HRD1.out w3) HONE1.out h63b hbyb (Nat.le_trans hw3 ((Ext.refl w3).alloc _ _).size) ?_;intro s2 w4 hown2 hwr2 hs2;have hx4:=((Ext.refl w3).alloc #[.string k,.int .i64 v.kind,.bool v.b,.int .i64 v.i,.string v.t,.slice sl.a v.l.length sl.c,.slice so.a v.ok.length so.c] 47);have hn4:=hwr2.cell0 (o:=0) hx4 (fun e=>by have:=(Qac (s:=s1) HO1.out e).1;omega) lMW;have h0:=hn4.1.trans h0;have lMW:=hn4.2;have HO2:=Lib.hid hown2;have HX4:=Lib.hid ((HX3.out.trans hx4).wr hwr2 (fun i hi=>(Qac (s:=s1) HO1.out hi).1));have hw4:=HX4.out.size;clear hown2 hwr2 hs2 hx4 hn4)
      | (at_builtin;refine Qae _ rfl (.tmp 33) (.tmp 39) 50 rfl w.heap.size 47 i0 _ 7 104 Tryz.underlying50 hi hz0 hz1 hz2 rfl (by decide) s2 (0+1) (Qaf (([]:List LE).take 0)++[.string k,.int .i64 v.kind,.bool v.b,.int .i64 v.i,.string v.t,.slice sl.a v.l.length sl.c,.slice so.a v.ok.length so.c]) rfl HO2.out (Lt w.heap.size) Sl.none 0 [] rfl (HRQ.out w4 HX4.out) (by simp) h63c hbyc hw4 ?_;intro s3 w5 hown3 hwr3 hs3;have hn5:=hwr3.cell0 (o:=0) (Ext.refl w4) (fun e=>by have:=(Qac (s:=s2) HO2.out e).1;omega) lMW;have h0:=hn5.1.trans h0;have lMW:=hn5.2;have f0:=(HX4.out.wr hwr3 (fun i hi=>(Qac (s:=s2) HO2.out hi).1)).frozen (o:=0) lM;rw [hfz] at f0;have HO3:=Lib.hid hown3;have HX5:=Lib.hid (HX4.out.wr hwr3 (fun i hi=>(Qac (s:=s2) HO2.out hi).1));clear hown3 hwr3 hs3 hn5))
     have hfl:Qaf (Qa0 ([]:List LE) 0 (0) x)=(Qaf (([]:List LE).take 0)++[.string k,.int .i64 v.kind,.bool v.b,.int .i64 v.i,.string v.t,.slice sl.a v.l.length sl.c,.slice so.a v.ok.length so.c])++Qaf (([]:List LE).drop (0)):=by rw [Qa0,Qaq,Qaq,show Qaf [x]=LE.cells x from by simp [Qaf],HCS.out]
     have hpu:(Qa0 ([]:List LE) 0 (0) x).length=0+1+(([]:List LE).length - (0)):=HPUT.out
     have hzz:([]:List LE).length - (0)=0:=by omega
     have hdd:([]:List LE).drop (0)=[]:=List.drop_eq_nil_iff.2 (by omega)
     rw [hzz] at hpu
     rw [hdd] at hfl
     have hfin:=HEND.out w5 s3 HX5.out (by rw [hpu,hfl];exact HO3.out) (by rw [hpu];omega) HE.out
     rw [hpu] at hfin
     go_end0
     exact ⟨⟨_,rfl⟩,hfin⟩
 | zero ad=>
   obtain rfl:p=0:=by omega
   obtain rfl:xs=[]:=List.eq_nil_of_length_eq_zero hn
   cases f with
   | true=>
     exfalso
     have h1:0+1=q:=by have:=HQ.out;simpa using this
     simp at hql;omega
   | false=>
     obtain rfl:0=q:=by have:=HQ.out;simpa using this
     go_enter Tryz.func56,Tryz.ntmps56
     go_wp2_with fail
     refine HAT.out.mono ?_
     rintro e w2 ⟨rfl,nq,rfl⟩
     have hx2:=HX1.out.drewN nq
     replace h0:=(hx2.cell lM).trans h0
     have hb5':=hb5.ext ((Ext.refl _).drewN nq)
     obtain ⟨c0,c1,c2,c3,c4,c5⟩:=hb5'.c6
     have l5:=hb5'.lt
     have lMW:M<(World.drewN (w.alloc (.cells #[.int .i64 v.kind,.bool v.b,.int .i64 v.i,.string v.t,.slice sl.a v.l.length sl.c,.slice so.a v.ok.length so.c] 44)) nq).heap.size:=Nat.lt_of_lt_of_le lM hx2.size
     generalize World.drewN _ nq=W2 at *
     have hw2:=hx2.size
     have hrp:Rd W2 (Lt w.heap.size) 7 ⟨some ad,0⟩ 0 (Qaf (([]:List LE).take 0)):=by have:=((HRD.out W2 hx2).take hpl).rd;rwa [List.length_take,Nat.min_eq_left hpl] at this
     have HRP:=Lib.hid hrp
     have HX2:=Lib.hid hx2
     have h63a:0≤maxLen:=by unfold maxLen;omega
     have hbya:0*104≤140737488355328:=by omega
     have h63b:0+1≤maxLen:=by unfold maxLen;omega
     have hbyb:(0+1)*104≤140737488355328:=by omega
     have hrq:∀ W,Ext w W→Rd W (Lt w.heap.size) 7 ⟨some ad,0⟩ 0 []:=fun W hW=>⟨0,0,.zero _ _ _,rfl,fun j u hj=>by simp at hj⟩
     have HRQ:=Lib.hid hrq
     have h63c:0+1+0≤maxLen:=by unfold maxLen;omega
     have hbyc:(0+1+0)*104≤140737488355328:=by omega
     have hqi:((0:Nat):Int)≤(([]:List LE).length:Int):=by omega
     have hpi:(0:Int)≤(([]:List LE).length:Int):=by omega
     clear hrp hx2 HAT hb5 hb5' HX1 hrq
     go_wp2_with (first
      | (at_builtin;refine QaH rfl (.tmp 15) (.tmp 21) 50 rfl w.heap.size 47 i0 _ 7 104 Tryz.underlying50 hi hz0 hz1 hz2 rfl (by decide) rfl (Lt w.heap.size) ⟨some ad,0⟩ 0 (Qaf (([]:List LE).take 0)) rfl HRP.out (Qaw _) h63a hbya hw2 ?_;intro s1 w3 hown1 hx3;have c0:=(hx3.cell l5).trans c0;have c1:=(hx3.cell l5).trans c1;have c2:=(hx3.cell l5).trans c2;have c3:=(hx3.cell l5).trans c3;have c4:=(hx3.cell l5).trans c4;have c5:=(hx3.cell l5).trans c5;have h0:=(hx3.cell lMW).trans h0;have l5:=Nat.lt_of_lt_of_le l5 hx3.size;have lMW:=Nat.lt_of_lt_of_le lMW hx3.size;have HO1:=Lib.hid hown1;have HX3:=Lib.hid (HX2.out.trans hx3);have hw3:=HX3.out.size;have HO1A:=Lib.hid (Qad (w':=w3.alloc (.cells #[.string k,.int .i64 v.kind,.bool v.b,.int .i64 v.i,.string v.t,.slice sl.a v.l.length sl.c,.slice so.a v.ok.length so.c] 47)) (s:=s1) hown1 (F:=Lt w3.heap.size) (((Ext.refl w3).alloc _ _).agree fun _ h=>h) fun b hb=>(Qac (s:=s1) hown1 hb).2);clear hown1 hx3)
      | (at_builtin;refine Qae _ rfl (.tmp 23) (.tmp 27) 50 rfl w.heap.size 47 i0 _ 7 104 Tryz.underlying50 hi hz0 hz1 hz2 rfl (by decide) s1 0 (Qaf (([]:List LE).take 0)) rfl HO1A.out (fun b=>b=w3.heap.size) ⟨some ⟨w3.heap.size,0,none⟩,1⟩ 1 [.string k,.int .i64 v.kind,.bool v.b,.int .i64 v.i,.string v.t,.slice sl.a v.l.length sl.c,.slice so.a v.ok.length so.c] rfl (HRD1.out w3) HONE1.out h63b hbyb (Nat.le_trans hw3 ((Ext.refl w3).alloc _ _).size) ?_;intro s2 w4 hown2 hwr2 hs2;have hx4:=((Ext.refl w3).alloc #[.string k,.int .i64 v.kind,.bool v.b,.int .i64 v.i,.string v.t,.slice sl.a v.l.length sl.c,.slice so.a v.ok.length so.c] 47);have hn4:=hwr2.cell0 (o:=0) hx4 (fun e=>by have:=(Qac (s:=s1) HO1.out e).1;omega) lMW;have h0:=hn4.1.trans h0;have lMW:=hn4.2;have HO2:=Lib.hid hown2;have HX4:=Lib.hid ((HX3.out.trans hx4).wr hwr2 (fun i hi=>(Qac (s:=s1) HO1.out hi).1));have hw4:=HX4.out.size;clear hown2 hwr2 hs2 hx4 hn4)
      | (at_builtin;refine Qae _ rfl (.tmp 33) (.tmp 39) 50 rfl w.heap.size 47 i0 _ 7 104 Tryz.underlying50 hi hz0 hz1 hz2 rfl (by decide) s2 (0+1) (Qaf (([]:List LE).take 0)++[.string k,.int .i64 v.kind,.bool v.b,.int .i64 v.i,.string v.t,.slice sl.a v.l.length sl.c,.slice so.a v.ok.length so.c]) rfl HO2.out (Lt w.heap.size) ⟨some ad,0⟩ 0 [] rfl (HRQ.out w4 HX4.out) (by simp) h63c hbyc hw4 ?_;intro s3 w5 hown3 hwr3 hs3;have hn5:=hwr3.cell0 (o:=0) (Ext.refl w4) (fun e=>by have:=(Qac (s:=s2) HO2.out e).1;omega) lMW;have h0:=hn5.1.trans h0;have lMW:=hn5.2;have f0:=(HX4.out.wr hwr3 (fun i hi=>(Qac (s:=s2) HO2.out hi).1)).frozen (o:=0) lM;rw [hfz] at f0;have HO3:=Lib.hid hown3;have HX5:=Lib.hid (HX4.out.wr hwr3 (fun i hi=>(Qac (s:=s2) HO2.out hi).1));clear hown3 hwr3 hs3 hn5))
     have hfl:Qaf (Qa0 ([]:List LE) 0 (0) x)=(Qaf (([]:List LE).take 0)++[.string k,.int .i64 v.kind,.bool v.b,.int .i64 v.i,.string v.t,.slice sl.a v.l.length sl.c,.slice so.a v.ok.length so.c])++Qaf (([]:List LE).drop (0)):=by rw [Qa0,Qaq,Qaq,show Qaf [x]=LE.cells x from by simp [Qaf],HCS.out]
     have hpu:(Qa0 ([]:List LE) 0 (0) x).length=0+1+(([]:List LE).length - (0)):=HPUT.out
     have hzz:([]:List LE).length - (0)=0:=by omega
     have hdd:([]:List LE).drop (0)=[]:=List.drop_eq_nil_iff.2 (by omega)
     rw [hzz] at hpu
     rw [hdd] at hfl
     have hfin:=HEND.out w5 s3 HX5.out (by rw [hpu,hfl];exact HO3.out) (by rw [hpu];omega) HE.out
     rw [hpu] at hfin
     go_end0
     exact ⟨⟨_,rfl⟩,hfin⟩
 | some _ sc _ _ hsc hscm hsF=>
   subst hn
   cases f with
   | true=>
     obtain rfl:p+1=q:=by have:=HQ.out;simpa using this
     by_cases hcap:sc=p+1
     ·have hcap2:=hcap.symm
      subst hcap2
      go_enter Tryz.func56,Tryz.ntmps56
      go_wp2_with fail
      refine HAT.out.mono ?_
      rintro e w2 ⟨rfl,nq,rfl⟩
      have hx2:=HX1.out.drewN nq
      replace h0:=(hx2.cell lM).trans h0
      have hb5':=hb5.ext ((Ext.refl _).drewN nq)
      obtain ⟨c0,c1,c2,c3,c4,c5⟩:=hb5'.c6
      have l5:=hb5'.lt
      have lMW:M<(World.drewN (w.alloc (.cells #[.int .i64 v.kind,.bool v.b,.int .i64 v.i,.string v.t,.slice sl.a v.l.length sl.c,.slice so.a v.ok.length so.c] 44)) nq).heap.size:=Nat.lt_of_lt_of_le lM hx2.size
      generalize World.drewN _ nq=W2 at *
      have hw2:=hx2.size
      have hrp:Rd W2 (Lt w.heap.size) 7 ⟨some ⟨gs,os,none⟩,p+1⟩ p (Qaf (xs.take p)):=by have:=((HRD.out W2 hx2).take hpl).rd;rwa [List.length_take,Nat.min_eq_left hpl] at this
      have HRP:=Lib.hid hrp
      have HX2:=Lib.hid hx2
      have h63a:p≤maxLen:=by unfold maxLen;omega
      have hbya:p*104≤140737488355328:=by omega
      have h63b:p+1≤maxLen:=by unfold maxLen;omega
      have hbyb:(p+1)*104≤140737488355328:=by omega
      have hrq:∀ W,Ext w W→Rd W (Lt w.heap.size) 7 ⟨some ⟨gs,os,none⟩,0⟩ 0 []:=fun W hW=>⟨gs,os,.some _ _ _ _ (Nat.zero_le _) (Nat.zero_le _) hsF.1,rfl,fun j u hj=>by simp at hj⟩
      have HRQ:=Lib.hid hrq
      have h63c:p+1+0≤maxLen:=by unfold maxLen;omega
      have hbyc:(p+1+0)*104≤140737488355328:=by omega
      have hqi:((p+1:Nat):Int)≤(xs.length:Int):=by omega
      have hpi:(p:Int)≤(xs.length:Int):=by omega
      clear hrp hx2 HAT hb5 hb5' HX1 hrq
      go_wp2_with (first
       | (at_builtin;refine QaH rfl (.tmp 15) (.tmp 21) 50 rfl w.heap.size 47 i0 _ 7 104 Tryz.underlying50 hi hz0 hz1 hz2 rfl (by decide) rfl (Lt w.heap.size) ⟨some ⟨gs,os,none⟩,p+1⟩ p (Qaf (xs.take p)) rfl HRP.out (Qaw _) h63a hbya hw2 ?_;intro s1 w3 hown1 hx3;have c0:=(hx3.cell l5).trans c0;have c1:=(hx3.cell l5).trans c1;have c2:=(hx3.cell l5).trans c2;have c3:=(hx3.cell l5).trans c3;have c4:=(hx3.cell l5).trans c4;have c5:=(hx3.cell l5).trans c5;have h0:=(hx3.cell lMW).trans h0;have l5:=Nat.lt_of_lt_of_le l5 hx3.size;have lMW:=Nat.lt_of_lt_of_le lMW hx3.size;have HO1:=Lib.hid hown1;have HX3:=Lib.hid (HX2.out.trans hx3);have hw3:=HX3.out.size;have HO1A:=Lib.hid (Qad (w':=w3.alloc (.cells #[.string k,.int .i64 v.kind,.bool v.b,.int .i64 v.i,.string v.t,.slice sl.a v.l.length sl.c,.slice so.a v.ok.length so.c] 47)) (s:=s1) hown1 (F:=Lt w3.heap.size) (((Ext.refl w3).alloc _ _).agree fun _ h=>h) fun b hb=>(Qac (s:=s1) hown1 hb).2);clear hown1 hx3)
       | (at_builtin;refine Qae _ rfl (.tmp 23) (.tmp 27) 50 rfl w.heap.size 47 i0 _ 7 104 Tryz.underlying50 hi hz0 hz1 hz2 rfl (by decide) s1 p (Qaf (xs.take p)) rfl HO1A.out (fun b=>b=w3.heap.size) ⟨some ⟨w3.heap.size,0,none⟩,1⟩ 1 [.string k,.int .i64 v.kind,.bool v.b,.int .i64 v.i,.string v.t,.slice sl.a v.l.length sl.c,.slice so.a v.ok.length so.c] rfl (HRD1.out w3) HONE1.out h63b hbyb (Nat.le_trans hw3 ((Ext.refl w3).alloc _ _).size) ?_;intro s2 w4 hown2 hwr2 hs2;have hx4:=((Ext.refl w3).alloc #[.string k,.int .i64 v.kind,.bool v.b,.int .i64 v.i,.string v.t,.slice sl.a v.l.length sl.c,.slice so.a v.ok.length so.c] 47);have hn4:=hwr2.cell0 (o:=0) hx4 (fun e=>by have:=(Qac (s:=s1) HO1.out e).1;omega) lMW;have h0:=hn4.1.trans h0;have lMW:=hn4.2;have HO2:=Lib.hid hown2;have HX4:=Lib.hid ((HX3.out.trans hx4).wr hwr2 (fun i hi=>(Qac (s:=s1) HO1.out hi).1));have hw4:=HX4.out.size;clear hown2 hwr2 hs2 hx4 hn4)
       | (at_builtin;refine Qae _ rfl (.tmp 33) (.tmp 39) 50 rfl w.heap.size 47 i0 _ 7 104 Tryz.underlying50 hi hz0 hz1 hz2 rfl (by decide) s2 (p+1) (Qaf (xs.take p)++[.string k,.int .i64 v.kind,.bool v.b,.int .i64 v.i,.string v.t,.slice sl.a v.l.length sl.c,.slice so.a v.ok.length so.c]) rfl HO2.out (Lt w.heap.size) ⟨some ⟨gs,os,none⟩,0⟩ 0 [] rfl (HRQ.out w4 HX4.out) (by simp) h63c hbyc hw4 ?_;intro s3 w5 hown3 hwr3 hs3;have hn5:=hwr3.cell0 (o:=0) (Ext.refl w4) (fun e=>by have:=(Qac (s:=s2) HO2.out e).1;omega) lMW;have h0:=hn5.1.trans h0;have lMW:=hn5.2;have f0:=(HX4.out.wr hwr3 (fun i hi=>(Qac (s:=s2) HO2.out hi).1)).frozen (o:=0) lM;rw [hfz] at f0;have HO3:=Lib.hid hown3;have HX5:=Lib.hid (HX4.out.wr hwr3 (fun i hi=>(Qac (s:=s2) HO2.out hi).1));clear hown3 hwr3 hs3 hn5))
      have hfl:Qaf (Qa0 xs p (p+1) x)=(Qaf (xs.take p)++[.string k,.int .i64 v.kind,.bool v.b,.int .i64 v.i,.string v.t,.slice sl.a v.l.length sl.c,.slice so.a v.ok.length so.c])++Qaf (xs.drop (p+1)):=by rw [Qa0,Qaq,Qaq,show Qaf [x]=LE.cells x from by simp [Qaf],HCS.out]
      have hpu:(Qa0 xs p (p+1) x).length=p+1+(xs.length - (p+1)):=HPUT.out
      have hzz:xs.length - (p+1)=0:=by omega
      have hdd:xs.drop (p+1)=[]:=List.drop_eq_nil_iff.2 (by omega)
      rw [hzz] at hpu
      rw [hdd] at hfl
      have hfin:=HEND.out w5 s3 HX5.out (by rw [hpu,hfl];exact HO3.out) (by rw [hpu];omega) HE.out
      rw [hpu] at hfin
      go_end0
      exact ⟨⟨_,rfl⟩,hfin⟩
     have hcap':¬p+1=sc:=fun e=>hcap e.symm
     go_enter Tryz.func56,Tryz.ntmps56
     go_wp2_with fail
     refine HAT.out.mono ?_
     rintro e w2 ⟨rfl,nq,rfl⟩
     have hx2:=HX1.out.drewN nq
     replace h0:=(hx2.cell lM).trans h0
     have hb5':=hb5.ext ((Ext.refl _).drewN nq)
     obtain ⟨c0,c1,c2,c3,c4,c5⟩:=hb5'.c6
     have l5:=hb5'.lt
     have lMW:M<(World.drewN (w.alloc (.cells #[.int .i64 v.kind,.bool v.b,.int .i64 v.i,.string v.t,.slice sl.a v.l.length sl.c,.slice so.a v.ok.length so.c] 44)) nq).heap.size:=Nat.lt_of_lt_of_le lM hx2.size
     generalize World.drewN _ nq=W2 at *
     have hw2:=hx2.size
     have hrp:Rd W2 (Lt w.heap.size) 7 ⟨some ⟨gs,os,none⟩,sc⟩ p (Qaf (xs.take p)):=by have:=((HRD.out W2 hx2).take hpl).rd;rwa [List.length_take,Nat.min_eq_left hpl] at this
     have HRP:=Lib.hid hrp
     have HX2:=Lib.hid hx2
     have h63a:p≤maxLen:=by unfold maxLen;omega
     have hbya:p*104≤140737488355328:=by omega
     have h63b:p+1≤maxLen:=by unfold maxLen;omega
     have hbyb:(p+1)*104≤140737488355328:=by omega
     have hrq:∀ W,Ext w W→Rd W (Lt w.heap.size) 7 ⟨some ⟨gs,os+(p+1)*7,none⟩,sc - (p+1)⟩ (xs.length - (p+1)) (Qaf (xs.drop (p+1))):=fun W hW=>by have:=((HRD.out W hW).drop hql).rd;rwa [List.length_drop] at this
     have HRQ:=Lib.hid hrq
     have h63c:p+1+(xs.length - (p+1))≤maxLen:=by unfold maxLen;omega
     have hbyc:(p+1+(xs.length - (p+1)))*104≤140737488355328:=by omega
     have hqi:((p+1:Nat):Int)≤(xs.length:Int):=by omega
     have hpi:(p:Int)≤(xs.length:Int):=by omega
     clear hrp hx2 HAT hb5 hb5' HX1 hrq
     go_wp2_with (first
      | (at_builtin;refine QaH rfl (.tmp 15) (.tmp 21) 50 rfl w.heap.size 47 i0 _ 7 104 Tryz.underlying50 hi hz0 hz1 hz2 rfl (by decide) rfl (Lt w.heap.size) ⟨some ⟨gs,os,none⟩,sc⟩ p (Qaf (xs.take p)) rfl HRP.out (Qaw _) h63a hbya hw2 ?_;intro s1 w3 hown1 hx3;have c0:=(hx3.cell l5).trans c0;have c1:=(hx3.cell l5).trans c1;have c2:=(hx3.cell l5).trans c2;have c3:=(hx3.cell l5).trans c3;have c4:=(hx3.cell l5).trans c4;have c5:=(hx3.cell l5).trans c5;have h0:=(hx3.cell lMW).trans h0;have l5:=Nat.lt_of_lt_of_le l5 hx3.size;have lMW:=Nat.lt_of_lt_of_le lMW hx3.size;have HO1:=Lib.hid hown1;have HX3:=Lib.hid (HX2.out.trans hx3);have hw3:=HX3.out.size;have HO1A:=Lib.hid (Qad (w':=w3.alloc (.cells #[.string k,.int .i64 v.kind,.bool v.b,.int .i64 v.i,.string v.t,.slice sl.a v.l.length sl.c,.slice so.a v.ok.length so.c] 47)) (s:=s1) hown1 (F:=Lt w3.heap.size) (((Ext.refl w3).alloc _ _).agree fun _ h=>h) fun b hb=>(Qac (s:=s1) hown1 hb).2);clear hown1 hx3)
      | (at_builtin;refine Qae _ rfl (.tmp 23) (.tmp 27) 50 rfl w.heap.size 47 i0 _ 7 104 Tryz.underlying50 hi hz0 hz1 hz2 rfl (by decide) s1 p (Qaf (xs.take p)) rfl HO1A.out (fun b=>b=w3.heap.size) ⟨some ⟨w3.heap.size,0,none⟩,1⟩ 1 [.string k,.int .i64 v.kind,.bool v.b,.int .i64 v.i,.string v.t,.slice sl.a v.l.length sl.c,.slice so.a v.ok.length so.c] rfl (HRD1.out w3) HONE1.out h63b hbyb (Nat.le_trans hw3 ((Ext.refl w3).alloc _ _).size) ?_;intro s2 w4 hown2 hwr2 hs2;have hx4:=((Ext.refl w3).alloc #[.string k,.int .i64 v.kind,.bool v.b,.int .i64 v.i,.string v.t,.slice sl.a v.l.length sl.c,.slice so.a v.ok.length so.c] 47);have hn4:=hwr2.cell0 (o:=0) hx4 (fun e=>by have:=(Qac (s:=s1) HO1.out e).1;omega) lMW;have h0:=hn4.1.trans h0;have lMW:=hn4.2;have HO2:=Lib.hid hown2;have HX4:=Lib.hid ((HX3.out.trans hx4).wr hwr2 (fun i hi=>(Qac (s:=s1) HO1.out hi).1));have hw4:=HX4.out.size;clear hown2 hwr2 hs2 hx4 hn4)
      | (at_builtin;refine Qae _ rfl (.tmp 33) (.tmp 39) 50 rfl w.heap.size 47 i0 _ 7 104 Tryz.underlying50 hi hz0 hz1 hz2 rfl (by decide) s2 (p+1) (Qaf (xs.take p)++[.string k,.int .i64 v.kind,.bool v.b,.int .i64 v.i,.string v.t,.slice sl.a v.l.length sl.c,.slice so.a v.ok.length so.c]) rfl HO2.out (Lt w.heap.size) ⟨some ⟨gs,os+(p+1)*7,none⟩,sc - (p+1)⟩ (xs.length - (p+1)) (Qaf (xs.drop (p+1))) rfl (HRQ.out w4 HX4.out) (Qaw _) h63c hbyc hw4 ?_;intro s3 w5 hown3 hwr3 hs3;have hn5:=hwr3.cell0 (o:=0) (Ext.refl w4) (fun e=>by have:=(Qac (s:=s2) HO2.out e).1;omega) lMW;have h0:=hn5.1.trans h0;have lMW:=hn5.2;have f0:=(HX4.out.wr hwr3 (fun i hi=>(Qac (s:=s2) HO2.out hi).1)).frozen (o:=0) lM;rw [hfz] at f0;have HO3:=Lib.hid hown3;have HX5:=Lib.hid (HX4.out.wr hwr3 (fun i hi=>(Qac (s:=s2) HO2.out hi).1));clear hown3 hwr3 hs3 hn5))
     have hfl:Qaf (Qa0 xs p (p+1) x)=(Qaf (xs.take p)++[.string k,.int .i64 v.kind,.bool v.b,.int .i64 v.i,.string v.t,.slice sl.a v.l.length sl.c,.slice so.a v.ok.length so.c])++Qaf (xs.drop (p+1)):=by rw [Qa0,Qaq,Qaq,show Qaf [x]=LE.cells x from by simp [Qaf],HCS.out]
     have hpu:(Qa0 xs p (p+1) x).length=p+1+(xs.length - (p+1)):=HPUT.out
     have hfin:=HEND.out w5 s3 HX5.out (by rw [hpu,hfl];exact HO3.out) (by rw [hpu];omega) HE.out
     rw [hpu,show p+1+(xs.length - (p+1))=xs.length from by omega] at hfin
     go_end0
     exact ⟨⟨_,rfl⟩,hfin⟩
   | false=>
     obtain rfl:p=q:=by have:=HQ.out;simpa using this
     by_cases hcap:sc=p
     ·have hcap2:=hcap.symm
      subst hcap2
      go_enter Tryz.func56,Tryz.ntmps56
      go_wp2_with fail
      refine HAT.out.mono ?_
      rintro e w2 ⟨rfl,nq,rfl⟩
      have hx2:=HX1.out.drewN nq
      replace h0:=(hx2.cell lM).trans h0
      have hb5':=hb5.ext ((Ext.refl _).drewN nq)
      obtain ⟨c0,c1,c2,c3,c4,c5⟩:=hb5'.c6
      have l5:=hb5'.lt
      have lMW:M<(World.drewN (w.alloc (.cells #[.int .i64 v.kind,.bool v.b,.int .i64 v.i,.string v.t,.slice sl.a v.l.length sl.c,.slice so.a v.ok.length so.c] 44)) nq).heap.size:=Nat.lt_of_lt_of_le lM hx2.size
      generalize World.drewN _ nq=W2 at *
      have hw2:=hx2.size
      have hrp:Rd W2 (Lt w.heap.size) 7 ⟨some ⟨gs,os,none⟩,p⟩ p (Qaf (xs.take p)):=by have:=((HRD.out W2 hx2).take hpl).rd;rwa [List.length_take,Nat.min_eq_left hpl] at this
      have HRP:=Lib.hid hrp
      have HX2:=Lib.hid hx2
      have h63a:p≤maxLen:=by unfold maxLen;omega
      have hbya:p*104≤140737488355328:=by omega
      have h63b:p+1≤maxLen:=by unfold maxLen;omega
      have hbyb:(p+1)*104≤140737488355328:=by omega
      have hrq:∀ W,Ext w W→Rd W (Lt w.heap.size) 7 ⟨some ⟨gs,os,none⟩,0⟩ 0 []:=fun W hW=>⟨gs,os,.some _ _ _ _ (Nat.zero_le _) (Nat.zero_le _) hsF.1,rfl,fun j u hj=>by simp at hj⟩
      have HRQ:=Lib.hid hrq
      have h63c:p+1+0≤maxLen:=by unfold maxLen;omega
      have hbyc:(p+1+0)*104≤140737488355328:=by omega
      have hqi:((p:Nat):Int)≤(xs.length:Int):=by omega
      have hpi:(p:Int)≤(xs.length:Int):=by omega
      clear hrp hx2 HAT hb5 hb5' HX1 hrq
      go_wp2_with (first
       | (at_builtin;refine QaH rfl (.tmp 15) (.tmp 21) 50 rfl w.heap.size 47 i0 _ 7 104 Tryz.underlying50 hi hz0 hz1 hz2 rfl (by decide) rfl (Lt w.heap.size) ⟨some ⟨gs,os,none⟩,p⟩ p (Qaf (xs.take p)) rfl HRP.out (Qaw _) h63a hbya hw2 ?_;intro s1 w3 hown1 hx3;have c0:=(hx3.cell l5).trans c0;have c1:=(hx3.cell l5).trans c1;have c2:=(hx3.cell l5).trans c2;have c3:=(hx3.cell l5).trans c3;have c4:=(hx3.cell l5).trans c4;have c5:=(hx3.cell l5).trans c5;have h0:=(hx3.cell lMW).trans h0;have l5:=Nat.lt_of_lt_of_le l5 hx3.size;have lMW:=Nat.lt_of_lt_of_le lMW hx3.size;have HO1:=Lib.hid hown1;have HX3:=Lib.hid (HX2.out.trans hx3);have hw3:=HX3.out.size;have HO1A:=Lib.hid (Qad (w':=w3.alloc (.cells #[.string k,.int .i64 v.kind,.bool v.b,.int .i64 v.i,.string v.t,.slice sl.a v.l.length sl.c,.slice so.a v.ok.length so.c] 47)) (s:=s1) hown1 (F:=Lt w3.heap.size) (((Ext.refl w3).alloc _ _).agree fun _ h=>h) fun b hb=>(Qac (s:=s1) hown1 hb).2);clear hown1 hx3)
       | (at_builtin;refine Qae _ rfl (.tmp 23) (.tmp 27) 50 rfl w.heap.size 47 i0 _ 7 104 Tryz.underlying50 hi hz0 hz1 hz2 rfl (by decide) s1 p (Qaf (xs.take p)) rfl HO1A.out (fun b=>b=w3.heap.size) ⟨some ⟨w3.heap.size,0,none⟩,1⟩ 1 [.string k,.int .i64 v.kind,.bool v.b,.int .i64 v.i,.string v.t,.slice sl.a v.l.length sl.c,.slice so.a v.ok.length so.c] rfl (HRD1.out w3) HONE1.out h63b hbyb (Nat.le_trans hw3 ((Ext.refl w3).alloc _ _).size) ?_;intro s2 w4 hown2 hwr2 hs2;have hx4:=((Ext.refl w3).alloc #[.string k,.int .i64 v.kind,.bool v.b,.int .i64 v.i,.string v.t,.slice sl.a v.l.length sl.c,.slice so.a v.ok.length so.c] 47);have hn4:=hwr2.cell0 (o:=0) hx4 (fun e=>by have:=(Qac (s:=s1) HO1.out e).1;omega) lMW;have h0:=hn4.1.trans h0;have lMW:=hn4.2;have HO2:=Lib.hid hown2;have HX4:=Lib.hid ((HX3.out.trans hx4).wr hwr2 (fun i hi=>(Qac (s:=s1) HO1.out hi).1));have hw4:=HX4.out.size;clear hown2 hwr2 hs2 hx4 hn4)
       | (at_builtin;refine Qae _ rfl (.tmp 33) (.tmp 39) 50 rfl w.heap.size 47 i0 _ 7 104 Tryz.underlying50 hi hz0 hz1 hz2 rfl (by decide) s2 (p+1) (Qaf (xs.take p)++[.string k,.int .i64 v.kind,.bool v.b,.int .i64 v.i,.string v.t,.slice sl.a v.l.length sl.c,.slice so.a v.ok.length so.c]) rfl HO2.out (Lt w.heap.size) ⟨some ⟨gs,os,none⟩,0⟩ 0 [] rfl (HRQ.out w4 HX4.out) (by simp) h63c hbyc hw4 ?_;intro s3 w5 hown3 hwr3 hs3;have hn5:=hwr3.cell0 (o:=0) (Ext.refl w4) (fun e=>by have:=(Qac (s:=s2) HO2.out e).1;omega) lMW;have h0:=hn5.1.trans h0;have lMW:=hn5.2;have f0:=(HX4.out.wr hwr3 (fun i hi=>(Qac (s:=s2) HO2.out hi).1)).frozen (o:=0) lM;rw [hfz] at f0;have HO3:=Lib.hid hown3;have HX5:=Lib.hid (HX4.out.wr hwr3 (fun i hi=>(Qac (s:=s2) HO2.out hi).1));clear hown3 hwr3 hs3 hn5))
      have hfl:Qaf (Qa0 xs p (p) x)=(Qaf (xs.take p)++[.string k,.int .i64 v.kind,.bool v.b,.int .i64 v.i,.string v.t,.slice sl.a v.l.length sl.c,.slice so.a v.ok.length so.c])++Qaf (xs.drop (p)):=by rw [Qa0,Qaq,Qaq,show Qaf [x]=LE.cells x from by simp [Qaf],HCS.out]
      have hpu:(Qa0 xs p (p) x).length=p+1+(xs.length - (p)):=HPUT.out
      have hzz:xs.length - (p)=0:=by omega
      have hdd:xs.drop (p)=[]:=List.drop_eq_nil_iff.2 (by omega)
      rw [hzz] at hpu
      rw [hdd] at hfl
      have hfin:=HEND.out w5 s3 HX5.out (by rw [hpu,hfl];exact HO3.out) (by rw [hpu];omega) HE.out
      rw [hpu] at hfin
      go_end0
      exact ⟨⟨_,rfl⟩,hfin⟩
     have hcap':¬p=sc:=fun e=>hcap e.symm
     go_enter Tryz.func56,Tryz.ntmps56
     go_wp2_with fail
     refine HAT.out.mono ?_
     rintro e w2 ⟨rfl,nq,rfl⟩
     have hx2:=HX1.out.drewN nq
     replace h0:=(hx2.cell lM).trans h0
     have hb5':=hb5.ext ((Ext.refl _).drewN nq)
     obtain ⟨c0,c1,c2,c3,c4,c5⟩:=hb5'.c6
     have l5:=hb5'.lt
     have lMW:M<(World.drewN (w.alloc (.cells #[.int .i64 v.kind,.bool v.b,.int .i64 v.i,.string v.t,.slice sl.a v.l.length sl.c,.slice so.a v.ok.length so.c] 44)) nq).heap.size:=Nat.lt_of_lt_of_le lM hx2.size
     generalize World.drewN _ nq=W2 at *
     have hw2:=hx2.size
     have hrp:Rd W2 (Lt w.heap.size) 7 ⟨some ⟨gs,os,none⟩,sc⟩ p (Qaf (xs.take p)):=by have:=((HRD.out W2 hx2).take hpl).rd;rwa [List.length_take,Nat.min_eq_left hpl] at this
     have HRP:=Lib.hid hrp
     have HX2:=Lib.hid hx2
     have h63a:p≤maxLen:=by unfold maxLen;omega
     have hbya:p*104≤140737488355328:=by omega
     have h63b:p+1≤maxLen:=by unfold maxLen;omega
     have hbyb:(p+1)*104≤140737488355328:=by omega
     have hrq:∀ W,Ext w W→Rd W (Lt w.heap.size) 7 ⟨some ⟨gs,os+(p)*7,none⟩,sc - (p)⟩ (xs.length - (p)) (Qaf (xs.drop (p))):=fun W hW=>by have:=((HRD.out W hW).drop hql).rd;rwa [List.length_drop] at this
     have HRQ:=Lib.hid hrq
     have h63c:p+1+(xs.length - (p))≤maxLen:=by unfold maxLen;omega
     have hbyc:(p+1+(xs.length - (p)))*104≤140737488355328:=by omega
     have hqi:((p:Nat):Int)≤(xs.length:Int):=by omega
     have hpi:(p:Int)≤(xs.length:Int):=by omega
     clear hrp hx2 HAT hb5 hb5' HX1 hrq
     go_wp2_with (first
      | (at_builtin;refine QaH rfl (.tmp 15) (.tmp 21) 50 rfl w.heap.size 47 i0 _ 7 104 Tryz.underlying50 hi hz0 hz1 hz2 rfl (by decide) rfl (Lt w.heap.size) ⟨some ⟨gs,os,none⟩,sc⟩ p (Qaf (xs.take p)) rfl HRP.out (Qaw _) h63a hbya hw2 ?_;intro s1 w3 hown1 hx3;have c0:=(hx3.cell l5).trans c0;have c1:=(hx3.cell l5).trans c1;have c2:=(hx3.cell l5).trans c2;have c3:=(hx3.cell l5).trans c3;have c4:=(hx3.cell l5).trans c4;have c5:=(hx3.cell l5).trans c5;have h0:=(hx3.cell lMW).trans h0;have l5:=Nat.lt_of_lt_of_le l5 hx3.size;have lMW:=Nat.lt_of_lt_of_le lMW hx3.size;have HO1:=Lib.hid hown1;have HX3:=Lib.hid (HX2.out.trans hx3);have hw3:=HX3.out.size;have HO1A:=Lib.hid (Qad (w':=w3.alloc (.cells #[.string k,.int .i64 v.kind,.bool v.b,.int .i64 v.i,.string v.t,.slice sl.a v.l.length sl.c,.slice so.a v.ok.length so.c] 47)) (s:=s1) hown1 (F:=Lt w3.heap.size) (((Ext.refl w3).alloc _ _).agree fun _ h=>h) fun b hb=>(Qac (s:=s1) hown1 hb).2);clear hown1 hx3)
      | (at_builtin;refine Qae _ rfl (.tmp 23) (.tmp 27) 50 rfl w.heap.size 47 i0 _ 7 104 Tryz.underlying50 hi hz0 hz1 hz2 rfl (by decide) s1 p (Qaf (xs.take p)) rfl HO1A.out (fun b=>b=w3.heap.size) ⟨some ⟨w3.heap.size,0,none⟩,1⟩ 1 [.string k,.int .i64 v.kind,.bool v.b,.int .i64 v.i,.string v.t,.slice sl.a v.l.length sl.c,.slice so.a v.ok.length so.c] rfl (HRD1.out w3) HONE1.out h63b hbyb (Nat.le_trans hw3 ((Ext.refl w3).alloc _ _).size) ?_;intro s2 w4 hown2 hwr2 hs2;have hx4:=((Ext.refl w3).alloc #[.string k,.int .i64 v.kind,.bool v.b,.int .i64 v.i,.string v.t,.slice sl.a v.l.length sl.c,.slice so.a v.ok.length so.c] 47);have hn4:=hwr2.cell0 (o:=0) hx4 (fun e=>by have:=(Qac (s:=s1) HO1.out e).1;omega) lMW;have h0:=hn4.1.trans h0;have lMW:=hn4.2;have HO2:=Lib.hid hown2;have HX4:=Lib.hid ((HX3.out.trans hx4).wr hwr2 (fun i hi=>(Qac (s:=s1) HO1.out hi).1));have hw4:=HX4.out.size;clear hown2 hwr2 hs2 hx4 hn4)
      | (at_builtin;refine Qae _ rfl (.tmp 33) (.tmp 39) 50 rfl w.heap.size 47 i0 _ 7 104 Tryz.underlying50 hi hz0 hz1 hz2 rfl (by decide) s2 (p+1) (Qaf (xs.take p)++[.string k,.int .i64 v.kind,.bool v.b,.int .i64 v.i,.string v.t,.slice sl.a v.l.length sl.c,.slice so.a v.ok.length so.c]) rfl HO2.out (Lt w.heap.size) ⟨some ⟨gs,os+(p)*7,none⟩,sc - (p)⟩ (xs.length - (p)) (Qaf (xs.drop (p))) rfl (HRQ.out w4 HX4.out) (Qaw _) h63c hbyc hw4 ?_;intro s3 w5 hown3 hwr3 hs3;have hn5:=hwr3.cell0 (o:=0) (Ext.refl w4) (fun e=>by have:=(Qac (s:=s2) HO2.out e).1;omega) lMW;have h0:=hn5.1.trans h0;have lMW:=hn5.2;have f0:=(HX4.out.wr hwr3 (fun i hi=>(Qac (s:=s2) HO2.out hi).1)).frozen (o:=0) lM;rw [hfz] at f0;have HO3:=Lib.hid hown3;have HX5:=Lib.hid (HX4.out.wr hwr3 (fun i hi=>(Qac (s:=s2) HO2.out hi).1));clear hown3 hwr3 hs3 hn5))
     have hfl:Qaf (Qa0 xs p (p) x)=(Qaf (xs.take p)++[.string k,.int .i64 v.kind,.bool v.b,.int .i64 v.i,.string v.t,.slice sl.a v.l.length sl.c,.slice so.a v.ok.length so.c])++Qaf (xs.drop (p)):=by rw [Qa0,Qaq,Qaq,show Qaf [x]=LE.cells x from by simp [Qaf],HCS.out]
     have hpu:(Qa0 xs p (p) x).length=p+1+(xs.length - (p)):=HPUT.out
     have hfin:=HEND.out w5 s3 HX5.out (by rw [hpu,hfl];exact HO3.out) (by rw [hpu];omega) HE.out
     rw [hpu] at hfin
     go_end0
     exact ⟨⟨_,rfl⟩,hfin⟩
theorem QfB (w:World) (a b:Int):Calls Tryz.prog 86 #[.int .i64 a,.int .i64 b] w fun e w'=>e=.returned (.int .i64 (QbR a b))∧w=w':=by
 by_cases h:a<b
 ·have hn:QbR a b = -1:=by simp [QbR,h]
  rw [hn]
  go_enter Tryz.func86,Tryz.ntmps86
  go_wp2_with fail
  go_ret
  exact ⟨rfl,rfl⟩
 by_cases h':b<a
 ·have hn:QbR a b=1:=by simp [QbR,h,h']
  rw [hn]
  go_enter Tryz.func86,Tryz.ntmps86
  go_wp2_with fail
  go_ret
  exact ⟨rfl,rfl⟩
 have hn:QbR a b=0:=by simp [QbR,h,h']
 rw [hn]
 go_enter Tryz.func86,Tryz.ntmps86
 go_wp2_with fail
 go_ret
 exact ⟨rfl,rfl⟩
theorem QgM (p x y:List UInt8):Op.bytesLess (p++x) (p++y)=Op.bytesLess x y:=by
 induction p with
 | nil=>rfl
 | cons a p ih=>simp [Op.bytesLess,ih]
theorem QeY {a:ByteArray} {i:Nat} (h:i<a.size):a.toList[i]? = some a[i]:=by
 rw [ByteArray.toList_eq]
 obtain ⟨d⟩:=a
 have h:i<d.size:=h
 show d.toList[i]? = some d[i]
 simp [h]
theorem QgC (a:ByteArray):a.toList.length=a.size:=by
 rw [ByteArray.toList_eq];rfl
theorem QkM {a b:ByteArray} {i:Nat} (ha:i<a.size) (hb:i<b.size) (hp:a.toList.take i=b.toList.take i) (hne:a[i]≠b[i]):Qbp a b=QbR (a[i].toNat:Int) (b[i].toNat:Int):=by
 have e1:a.toList=a.toList.take i++a[i] :: a.toList.drop (i+1):=by
  have h:=QeY ha
  obtain ⟨h1,h2⟩:=List.getElem?_eq_some_iff.1 h
  conv=>lhs;rw [←List.take_append_drop i a.toList,List.drop_eq_getElem_cons h1,h2]
 have e2:b.toList=a.toList.take i++b[i] :: b.toList.drop (i+1):=by
  have h:=QeY hb
  obtain ⟨h1,h2⟩:=List.getElem?_eq_some_iff.1 h
  conv=>lhs;rw [←List.take_append_drop i b.toList,List.drop_eq_getElem_cons h1,h2]
  rw [hp]
 unfold Qbp klt
 generalize a[i]=x at *
 generalize b[i]=y at *
 have key:∀ (P u v A B:List UInt8),A=P++x :: u→B=P++y :: v→Op.bytesLess A B=decide (x<y)∧Op.bytesLess B A=decide (y<x):=by
  rintro P u v A B rfl rfl
  have hne':¬x=y:=hne
  have hne2:¬y=x:=fun h=>hne h.symm
  rw [QgM,QgM]
  exact ⟨by simp [Op.bytesLess,hne'],by simp [Op.bytesLess,hne2]⟩
 obtain ⟨k1,k2⟩:=key _ _ _ _ _ e1 e2
 rw [k1,k2]
 unfold QbR
 have h1:(x<y)↔((x.toNat:Int)<(y.toNat:Int)):=by rw [UInt8.lt_iff_toNat_lt];omega
 have h2:(y<x)↔((y.toNat:Int)<(x.toNat:Int)):=by rw [UInt8.lt_iff_toNat_lt];omega
 simp only [decide_eq_true_eq,h1,h2]
theorem Qik {a b:ByteArray} (hp:a.toList.take (min a.size b.size)=b.toList.take (min a.size b.size)):Qbp a b=QbR (a.size:Int) (b.size:Int):=by
 have la:=QgC a
 have lb:=QgC b
 rcases Nat.lt_trichotomy a.size b.size with h | h | h
 ·have e:b.toList=a.toList++b.toList.drop a.size:=by
   rw [Nat.min_eq_left (Nat.le_of_lt h),←la,List.take_length,la] at hp
   conv=>lhs;rw [←List.take_append_drop a.size b.toList,←hp]
  obtain ⟨c,r,hr⟩:∃ c r,b.toList.drop a.size=c :: r:=by
   cases hd:b.toList.drop a.size with
   | nil=>have:=congrArg List.length hd;rw [List.length_drop,lb] at this;simp at this;omega
   | cons c r=>exact ⟨c,r,rfl⟩
  have k1:klt a b=true:=by
   unfold klt
   rw [e,hr]
   conv=>lhs;arg 1;rw [←List.append_nil a.toList]
   rw [QgM];rfl
  unfold Qbp QbR
  rw [if_pos k1,if_pos (by omega)]
 ·have e:a=b:=toList_inj (by rw [h,Nat.min_self,←lb] at hp;rw [List.take_length] at hp;rw [←hp,lb,←h,←la,List.take_length])
  subst e
  rw [Qd8,Qh2]
 have e:a.toList=b.toList++a.toList.drop b.size:=by
  rw [Nat.min_eq_right (Nat.le_of_lt h)] at hp
  conv=>lhs;rw [←List.take_append_drop b.size a.toList,hp,←lb,List.take_length]
  rw [lb]
 obtain ⟨c,r,hr⟩:∃ c r,a.toList.drop b.size=c :: r:=by
  cases hd:a.toList.drop b.size with
  | nil=>have:=congrArg List.length hd;rw [List.length_drop,la] at this;simp at this;omega
  | cons c r=>exact ⟨c,r,rfl⟩
 have k1:klt b a=true:=by
  unfold klt
  rw [e,hr]
  conv=>lhs;arg 1;rw [←List.append_nil b.toList]
  rw [QgM];rfl
 unfold Qbp QbR
 rw [if_neg (by rw [Qbk k1];simp),if_pos k1,if_neg (by omega),if_pos (by omega)]
theorem Qil (w:World) (a b:ByteArray) (ha:a.size≤maxLen) (hb:b.size≤maxLen):Calls Tryz.prog 87 #[.string a,.string b] w fun e w'=>e=.returned (.int .i64 (Qbp a b))∧Ext w w':=by
 have hn:∀ W x y,Calls Tryz.prog 86 #[.int .i64 x,.int .i64 y] W fun e w'=>e=.returned (.int .i64 (QbR x y))∧W=w':=QfB
 unfold maxLen at ha hb
 have HN:=Lib.hid hn
 clear hn
 go_enter Tryz.func87,Tryz.ntmps87
 go_wp2_with fail
 go_loopw [5] (fun q wr=>∃ i:Nat,q=.int .i64 i∧i≤a.size∧i≤b.size∧a.toList.take i=b.toList.take i∧Ext w wr) (fun q _=>a.size - (intOf q).toNat)
 case atStart=>exact ⟨0,rfl,Nat.zero_le _,Nat.zero_le _,rfl,Ext.refl w⟩
 obtain ⟨i,rfl,hia,hib,hp,hx⟩:=hrel
 by_cases h1:i<a.size
 ·by_cases h2:i<b.size
  ·have g1:(i:Int)<(a.size:Int):=by omega
   have g2:(i:Int)<(b.size:Int):=by omega
   have HP:=Lib.hid hp
   have HX:=Lib.hid hx
   clear hp hx
   go_wp2_with fail
   go_quiet (fail)
   go_wp2_with fail
   case _=>
    have hne:(((a[i].toNat:Nat):Int) != ((b[i].toNat:Nat):Int))=true:=by assumption
    have hne':a[i]≠b[i]:=fun e=>by rw [e] at hne;simp at hne
    have HT:=Lib.hid (QkM h1 h2 HP.out hne')
    have hwa:wrap64 ((a[i].toNat:Nat):Int)=((a[i].toNat:Nat):Int):=by have:=a[i].toNat_lt;unfold wrap64;omega
    have hwb:wrap64 ((b[i].toNat:Nat):Int)=((b[i].toNat:Nat):Int):=by have:=b[i].toNat_lt;unfold wrap64;omega
    have HWA:=Lib.hid hwa
    have HWB:=Lib.hid hwb
    clear hne' hwa hwb
    go_quiet ((go_at_call 86;refine (HN.out _ _ _).mono ?_;rintro e w2 ⟨rfl,rfl⟩;exact ⟨rfl,_,rfl⟩))
    go_wp2_with fail
    go_ret
    rw [HT.out,HWA.out,HWB.out]
    exact ⟨rfl,(HX.out.drewN _).drewN _⟩
   case roundEnd=>
    have hne:(((a[i].toNat:Nat):Int) != ((b[i].toNat:Nat):Int))=false:=by assumption
    have he:a[i]=b[i]:=UInt8.toNat_inj.1 (by have h:=bne_eq_false_iff_eq.1 hne;omega)
    refine ⟨⟨i+1,by simp,by omega,by omega,?_,HX.out.drewN _⟩,?_⟩
    ·rw [List.take_add_one,List.take_add_one,QeY h1,QeY h2,HP.out,he]
    simp [intOf];omega
  have g1:(i:Int)<(a.size:Int):=by omega
  have g2:¬(i:Int)<(b.size:Int):=by omega
  obtain rfl:i=b.size:=by omega
  have HT:=Lib.hid (Qik (a:=a) (b:=b) (by rw [Nat.min_eq_right hia];exact hp))
  have HX:=Lib.hid hx
  clear hp hx
  go_wp2_with fail
  refine (HN.out _ _ _).mono ?_
  rintro e w2 ⟨rfl,rfl⟩
  go_wp2_with fail
  go_ret
  rw [HT.out]
  exact ⟨rfl,HX.out⟩
 have g1:¬(i:Int)<(a.size:Int):=by omega
 obtain rfl:i=a.size:=by omega
 have HT:=Lib.hid (Qik (a:=a) (b:=b) (by rw [Nat.min_eq_left hib];exact hp))
 have HX:=Lib.hid hx
 clear hp hx
 go_wp2_with fail
 refine (HN.out _ _ _).mono ?_
 rintro e w2 ⟨rfl,rfl⟩
 go_wp2_with fail
 go_ret
 rw [HT.out]
 exact ⟨rfl,HX.out⟩
section
variable {P : Program} {ops : Array Oper} {Q : Exit → Act → World → Prop} {md : Region.Mode} {S : World → Prop}
theorem QlC {i:Nat} {oi:Oper} {d:Option Tmp} {v:Value} {fuel:Nat} {listed:Array Bool} {a:Act} {w:World} (hi:ops[i]? = some oi) (hd:oi.dst=d)
  (hs:Region.noSelect ops=true) (hf:Region.free md ops listed i=true) (hr:(Region.ready md ops listed).contains i=true)
  (hQ:∀ c a w,Q (.panic c) (a.put d v) w→Q (.panic c) a w) (hw:Region.wanted oi (yielded ops a.tmps)=true) (hS:S w) (hy:∀ w,S w→(execOp a.eval oi).run P w=.ok (.value v) w)
  (h:wpAnyH P md ops Q S fuel (listed.setIfInBounds i true) (a.put d v) w):wpAnyH P md ops Q S (fuel+1) listed a w:=by
 subst hd
 exact wpAnyH_take hi hs hf hr hQ (.inl ⟨hw,hy⟩) hS h
theorem QmZ {i:Nat} {oi:Oper} {d:Option Tmp} {fuel:Nat} {listed:Array Bool} {a:Act} {w:World} (hi:ops[i]? = some oi) (hd:oi.dst=d)
  (hs:Region.noSelect ops=true) (hf:Region.free md ops listed i=true) (hr:(Region.ready md ops listed).contains i=true)
  (hQ:∀ c a w,Q (.panic c) (a.put d undef) w→Q (.panic c) a w) (hw:Region.wanted oi (yielded ops a.tmps)=false) (hS:S w)
  (h:wpAnyH P md ops Q S fuel (listed.setIfInBounds i true) (a.put d undef) w):wpAnyH P md ops Q S (fuel+1) listed a w:=by
 subst hd
 exact wpAnyH_take hi hs hf hr hQ (.inr ⟨hw,rfl⟩) hS h
theorem Qaa {i:Nat} {oi:Oper} {fuel:Nat} {listed:Array Bool} {a:Act} {w:World} (hr:Region.ready md ops listed=[i]) (hi:ops[i]? = some oi) (hw:Region.wanted oi (yielded ops a.tmps)=true)
  (h:∀ K':Act→World→Prop,Shut (∀ a w,S w→(S w→wpAnyH P md ops Q S fuel (listed.setIfInBounds i true) a w)→K' a w)→Oper.wp P oi a w K' Q):wpAnyH P md ops Q S (fuel+1) listed a w:=
 wpAnyH_ready hr (by simp) (AllReadyH.cons hi (fun K' hK=>by rw [if_pos hw];exact h K' hK) AllReadyH.nil)
end
section
variable {P : Program} {ops : Array Oper} {Q : Exit → Act → World → Prop} {md : Region.Mode} {S C : World → Prop}
theorem QaX (i:Nat) (d:Option Tmp) {oi:Oper} {fuel:Nat} {listed l':Array Bool} {a a':Act} {w:World} (hS:S w) (h:wpAnyH P md ops Q S fuel l' a' w)
  (hi:ops[i]? = some oi:=by rfl) (hd:oi.dst=d:=by rfl) (hs:Region.noSelect ops=true:=by kernel_rfl) (hf:Region.free md ops listed i=true:=by kernel_rfl) (hr:(Region.ready md ops listed).contains i=true:=by kernel_rfl)
  (hQ:∀ c a w,Q (.panic c) (a.put d undef) w→Q (.panic c) a w:=by exact fun _ _ _ h=>h) (hw:Region.wanted oi (yielded ops a.tmps)=false:=by rfl)
  (hl:listed.setIfInBounds i true=l':=by first | (simp only [List.setIfInBounds_toArray,List.set_cons_zero,List.set_cons_succ];rfl) | rfl)
  (hp:a.put d undef=a':=by first | (simp only [Act.put,List.setIfInBounds_toArray,List.set_cons_zero,List.set_cons_succ];rfl) | rfl):wpAnyH P md ops Q S (fuel+1) listed a w:=by
 subst hl hp
 exact QmZ hi hd hs hf hr hQ hw hS h
theorem Qab (i:Nat) (d:Option Tmp) {v:Value} {oi:Oper} {fuel:Nat} {listed l':Array Bool} {a a':Act} {w:World} (hC:Hid (∀ W,S W→C W)) (hS:S w) (h:wpAnyH P md ops Q S fuel l' a' w)
  (hi:ops[i]? = some oi:=by rfl) (hd:oi.dst=d:=by rfl) (hs:Region.noSelect ops=true:=by kernel_rfl) (hf:Region.free md ops listed i=true:=by kernel_rfl) (hr:(Region.ready md ops listed).contains i=true:=by kernel_rfl)
  (hy:∀ w,C w→(execOp a.eval oi).run P w=.ok (.value v) w:=by (intro w hSc;go_simp;first | done | with_reducible rfl))
  (hQ:∀ c a w,Q (.panic c) (a.put d v) w→Q (.panic c) a w:=by exact fun _ _ _ h=>h) (hw:Region.wanted oi (yielded ops a.tmps)=true:=by rfl)
  (hl:listed.setIfInBounds i true=l':=by first | (simp only [List.setIfInBounds_toArray,List.set_cons_zero,List.set_cons_succ];rfl) | rfl)
  (hp:a.put d v=a':=by first | (simp only [Act.put,List.setIfInBounds_toArray,List.set_cons_zero,List.set_cons_succ];rfl) | rfl):wpAnyH P md ops Q S (fuel+1) listed a w:=by
 subst hl hp
 exact QlC hi hd hs hf hr hQ hw hS (fun w hw=>hy w (hC.out w hw)) h
theorem Qah (i:Nat) (d:Option Tmp) {v:Value} {oi:Oper} {fuel:Nat} {listed l':Array Bool} {a a':Act} {w:World} (hS:S w) (h:wpAnyH P md ops Q S fuel l' a' w)
  (hi:ops[i]? = some oi:=by rfl) (hd:oi.dst=d:=by rfl) (hs:Region.noSelect ops=true:=by kernel_rfl) (hf:Region.free md ops listed i=true:=by kernel_rfl) (hr:(Region.ready md ops listed).contains i=true:=by kernel_rfl)
  (hy:∀ w,S w→(execOp a.eval oi).run P w=.ok (.value v) w:=by (intro w hSw;(try dsimp only at hSw);go_simp;first | done | with_reducible rfl))
  (hQ:∀ c a w,Q (.panic c) (a.put d v) w→Q (.panic c) a w:=by exact fun _ _ _ h=>h) (hw:Region.wanted oi (yielded ops a.tmps)=true:=by rfl)
  (hl:listed.setIfInBounds i true=l':=by first | (simp only [List.setIfInBounds_toArray,List.set_cons_zero,List.set_cons_succ];rfl) | rfl)
  (hp:a.put d v=a':=by first | (simp only [Act.put,List.setIfInBounds_toArray,List.set_cons_zero,List.set_cons_succ];rfl) | rfl):wpAnyH P md ops Q S (fuel+1) listed a w:=by
 subst hl hp
 exact QlC hi hd hs hf hr hQ hw hS hy h
end
def Qbe (n:Int) (w:World) (e:Ending) (w':World):Prop:=e=.returned (.int .i64 n)∧Ext w w'
theorem Qhx {l l':List Val} {j:Nat} {a b:Val} (ha:l[j]? = some a) (hb:l'[j]? = some b):cmpL (l.drop j) (l'.drop j)=if Qbq a b≠0 then Qbq a b else cmpL (l.drop (j+1)) (l'.drop (j+1)):=by
 obtain ⟨h1,rfl⟩:=List.getElem?_eq_some_iff.1 ha
 obtain ⟨h2,rfl⟩:=List.getElem?_eq_some_iff.1 hb
 rw [List.drop_eq_getElem_cons h1,List.drop_eq_getElem_cons h2]
 simp only [cmpL]
theorem QgT {l l':List Val} {j:Nat} (h:j=l.length∨j=l'.length) (h1:j≤l.length) (h2:j≤l'.length):cmpL (l.drop j) (l'.drop j)=QbR (l.length:Int) (l'.length:Int):=by
 by_cases ha:j=l.length
 ·have e1:l.drop j=[]:=List.drop_eq_nil_iff.2 (by omega)
  rw [e1]
  simp only [cmpL,List.length_drop]
  unfold QbR
  by_cases hb:l'.length - j=0
  ·rw [if_pos hb,if_neg (by omega),if_neg (by omega)]
  rw [if_neg hb,if_pos (by omega)]
 obtain ⟨a,r,hr⟩:∃ a r,l.drop j=a :: r:=by
  cases hd:l.drop j with
  | nil=>have:=List.drop_eq_nil_iff.1 hd;omega
  | cons a r=>exact ⟨a,r,rfl⟩
 have e2:l'.drop j=[]:=List.drop_eq_nil_iff.2 (by omega)
 rw [hr,e2]
 simp only [cmpL]
 unfold QbR
 rw [if_neg (by omega),if_pos (by omega)]
theorem Qhy {l l':List Val} {k k':List ByteArray} {j:Nat} {a b:Val} {x y:ByteArray} (ha:l[j]? = some a) (hb:l'[j]? = some b) (hx:k[j]? = some x) (hy:k'[j]? = some y) :
  QfU (l.drop j) (k.drop j) (k'.drop j) (l'.drop j)=if Qbp x y≠0 then Qbp x y else if Qbq a b≠0 then Qbq a b else QfU (l.drop (j+1)) (k.drop (j+1)) (k'.drop (j+1)) (l'.drop (j+1)):=by
 obtain ⟨h1,rfl⟩:=List.getElem?_eq_some_iff.1 ha
 obtain ⟨h2,rfl⟩:=List.getElem?_eq_some_iff.1 hb
 obtain ⟨h3,rfl⟩:=List.getElem?_eq_some_iff.1 hx
 obtain ⟨h4,rfl⟩:=List.getElem?_eq_some_iff.1 hy
 rw [List.drop_eq_getElem_cons h1,List.drop_eq_getElem_cons h2,List.drop_eq_getElem_cons h3,List.drop_eq_getElem_cons h4]
 simp only [QfU,List.headD_cons,List.tail_cons]
 rfl
theorem QgU {l l':List Val} {k k':List ByteArray} {j:Nat} (h:j=l.length∨j=l'.length) (h1:j≤l.length) (h2:j≤l'.length):QfU (l.drop j) (k.drop j) (k'.drop j) (l'.drop j)=QbR (l.length:Int) (l'.length:Int):=by
 by_cases ha:j=l.length
 ·have e1:l.drop j=[]:=List.drop_eq_nil_iff.2 (by omega)
  rw [e1]
  simp only [QfU,List.length_drop]
  unfold QbR
  by_cases hb:l'.length - j=0
  ·rw [if_pos hb,if_neg (by omega),if_neg (by omega)]
  rw [if_neg hb,if_pos (by omega)]
 obtain ⟨a,r,hr⟩:∃ a r,l.drop j=a :: r:=by
  cases hd:l.drop j with
  | nil=>have:=List.drop_eq_nil_iff.1 hd;omega
  | cons a r=>exact ⟨a,r,rfl⟩
 have e2:l'.drop j=[]:=List.drop_eq_nil_iff.2 (by omega)
 rw [hr,e2]
 simp only [QfU]
 unfold QbR
 rw [if_neg (by omega),if_pos (by omega)]
theorem Qdz (m:Nat):∀ (x y:Val),SizeOf.sizeOf x≤m→∀ (w:World) (sl so sl' so':Sl),RV w (Lt w.heap.size) x sl so→RV w (Lt w.heap.size) y sl' so'→
  Calls Tryz.prog 60 #[Qb5 x sl so,Qb5 y sl' so'] w (Qbe (Qbq x y) w):=by
 induction m with
 | zero=>intro d y hd;have:=Val.Qij d;omega
 | succ m ih=>
 intro x y hd w sl so sl' so' h h'
 have HI:=Lib.hid ih
 clear ih
 have hn:∀ W a b,Calls Tryz.prog 86 #[.int .i64 a,.int .i64 b] W fun e w'=>e=.returned (.int .i64 (QbR a b))∧W=w':=QfB
 have HN:=Lib.hid hn
 clear hn
 obtain ⟨k,b,i,t,l,ok,ov⟩:=x
 obtain ⟨k',b',i',t',l',ok',ov'⟩:=y
 show Calls _ _ #[.agg #[.int .i64 k,.bool b,.int .i64 i,.string t,.slice sl.a l.length sl.c,.slice so.a ok.length so.c],.agg #[.int .i64 k',.bool b',.int .i64 i',.string t',.slice sl'.a l'.length sl'.c,.slice so'.a ok'.length so'.c]] _ _
 cases h with
 | mk bl fl bo fo cl co hl ho hov el rl ek eo ro bk bi bt nl no=>
 cases h' with
 | mk bl' fl' bo' fo' cl' co' hl' ho' hov' el' rl' ek' eo' ro' bk' bi' bt' nl' no'=>
 have hsl:∀ (j:Nat) (d:Val),l[j]? = some d→SizeOf.sizeOf d≤m:=fun j d hj=>Nat.le_of_lt_succ (Nat.lt_of_lt_of_le (Val.QoX hj) hd)
 have hso:∀ (j:Nat) (d:Val),ov[j]? = some d→SizeOf.sizeOf d≤m:=fun j d hj=>Nat.le_of_lt_succ (Nat.lt_of_lt_of_le (Val.QoY hj) hd)
 have HSL:=Lib.hid hsl
 have HSO:=Lib.hid hso
 have HEL:=Lib.hid el
 have HRL:=Lib.hid rl
 have HEK:=Lib.hid ek
 have HEO:=Lib.hid eo
 have HRO:=Lib.hid ro
 have HOV:=Lib.hid hov
 have HEL':=Lib.hid el'
 have HRL':=Lib.hid rl'
 have HEK':=Lib.hid ek'
 have HEO':=Lib.hid eo'
 have HRO':=Lib.hid ro'
 have HOV':=Lib.hid hov'
 have hcv:Qbq (.mk k b i t l ok ov) (.mk k' b' i' t' l' ok' ov')=if k≠k' then QbR k k' else if k=2 then Qlb b b' else if k=3 then QbR i i' else if k=4 then Qbp t t' else if k=5 then cmpL l l' else if k=6 then QfU ov ok ok' ov' else 0:=by
  simp only [Qbq,Val.kind,Val.b,Val.i,Val.t,Val.l,Val.ok,Val.ov]
  rfl
 rw [hcv]
 clear hsl hso el rl ek eo ro hov hd el' rl' ek' eo' ro' hov' hcv
 by_cases hkk:k=k'
 ·subst hkk
  have hkb:(k != k)=false:=by simp
  rw [if_neg (by simp)]
  by_cases h2:k=2
  ·subst h2
   rw [if_pos rfl]
   cases b <;> cases b' <;>
   ·go_enter Tryz.func60,Tryz.ntmps60
    go_wp2_with fail
    go_ret
    exact ⟨rfl,((Ext.refl w).alloc _ _).alloc _ _⟩
  by_cases h3:k=3
  ·subst h3
   rw [if_neg h2,if_pos rfl]
   clear h2
   go_enter Tryz.func60,Tryz.ntmps60
   go_wp2_with fail
   refine (HN.out _ _ _).mono ?_
   rintro e w2 ⟨rfl,rfl⟩
   go_wp2_with fail
   go_ret
   exact ⟨rfl,((Ext.refl w).alloc _ _).alloc _ _⟩
  by_cases h4:k=4
  ·subst h4
   rw [if_neg h2,if_neg h3,if_pos rfl]
   clear h2 h3
   have hx:=fun W=>Qil W t t' bt bt'
   have HTX:=Lib.hid hx
   clear hx
   go_enter Tryz.func60,Tryz.ntmps60
   go_wp2_with fail
   refine (HTX.out _).mono ?_
   rintro e w2 ⟨rfl,hx⟩
   have HX:=Lib.hid hx
   clear hx
   go_wp2_with fail
   go_ret
   exact ⟨rfl,(((Ext.refl w).alloc _ _).alloc _ _).trans HX.out⟩
  rw [if_neg h2,if_neg h3,if_neg h4]
  by_cases h5:k=5
  ·subst h5
   rw [if_pos rfl]
   clear h2 h3 h4
   have hnl:l.length≤140737488355328:=by omega
   have hnl':l'.length≤140737488355328:=by omega
   go_enter Tryz.func60,Tryz.ntmps60
   go_wp2_with fail
   generalize hW0:World.alloc (World.alloc _ _) _=W0
   obtain ⟨hx0,hz0,hb0,hb1⟩:=Qaz w _ _ _ _ W0 hW0
   clear hW0
   have HX0:=Lib.hid hx0
   have HB0:=Lib.hid hb0
   have HB1:=Lib.hid hb1
   clear hx0 hb0 hb1
   go_loopw [5] (fun q wr=>∃ j:Nat,q=.int .i64 j∧j≤l.length∧j≤l'.length∧cmpL l l'=cmpL (l.drop j) (l'.drop j)∧Ext W0 wr) (fun q _=>l.length - (intOf q).toNat)
   case atStart=>exact ⟨0,rfl,Nat.zero_le _,Nat.zero_le _,rfl,Ext.refl W0⟩
   obtain ⟨j,rfl,hjl,hjl',hp,hx⟩:=hrel
   obtain ⟨-,-,-,-,q4,-⟩:=(HB0.out.ext hx).c6
   obtain ⟨-,-,-,-,r4,-⟩:=(HB1.out.ext hx).c6
   have lw0:=(HB0.out.ext hx).lt
   have lw1:=(HB1.out.ext hx).lt
   have HP:=Lib.hid hp
   have HX:=Lib.hid hx
   by_cases h1:j<l.length
   ·by_cases h2:j<l'.length
    ·have g1:(j:Int)<(l.length:Int):=by omega
     have g2:(j:Int)<(l'.length:Int):=by omega
     obtain ⟨d,hd⟩:∃ d,l[j]? = some d:=⟨_,List.getElem?_eq_getElem h1⟩
     obtain ⟨d',hd'⟩:∃ d,l'[j]? = some d:=⟨_,List.getElem?_eq_getElem h2⟩
     have HD:=Lib.hid (Qhx hd hd')
     have hag:Agree (Lt w.heap.size) w wr:=(HX0.out.trans hx).agree fun _ h=>h
     obtain ⟨sa,sc⟩:=sl
     obtain ⟨sa',sc'⟩:=sl'
     obtain ⟨rfl,hlc,hcm⟩:=hl.eq (by omega)
     obtain ⟨rfl,hlc',hcm'⟩:=hl'.eq (by omega)
     have hbl:=hl.fits (by omega)
     have hbl':=hl'.fits (by omega)
     obtain ⟨v0,v1,v2,v3,v4,v5⟩:=(HEL.out j d hd).agree hag hbl
     obtain ⟨v0',v1',v2',v3',v4',v5'⟩:=(HEL'.out j d' hd').agree hag hbl'
     have hic:∀ W,Ext wr W→Calls Tryz.prog 60 #[Qb5 d (cl j).1 (cl j).2,Qb5 d' (cl' j).1 (cl' j).2] W (Qbe (Qbq d d') W):=fun W hW=>
      HI.out d d' (HSL.out j d hd) W _ _ _ _ (((HRL.out j d hd).agree (hag.trans (hW.agree fun _ h=>Nat.lt_of_lt_of_le h (Nat.le_trans HX0.out.size hx.size)))).mono fun i hi=>Nat.lt_of_lt_of_le hi (Nat.le_trans HX0.out.size (Nat.le_trans hx.size hW.size)))
       (((HRL'.out j d' hd').agree (hag.trans (hW.agree fun _ h=>Nat.lt_of_lt_of_le h (Nat.le_trans HX0.out.size hx.size)))).mono fun i hi=>Nat.lt_of_lt_of_le hi (Nat.le_trans HX0.out.size (Nat.le_trans hx.size hW.size)))
     have lb:bl<wr.heap.size:=Nat.lt_of_lt_of_le hbl (Nat.le_trans HX0.out.size hx.size)
     have lb':bl'<wr.heap.size:=Nat.lt_of_lt_of_le hbl' (Nat.le_trans HX0.out.size hx.size)
     clear hp hx hd hd' hag hbl hbl'
     go_wp2_with fail
     refine wp_region_held_drew (S:=(fun w'=>w'.cell? ⟨w.heap.size,4,none⟩=some (.slice (some ⟨bl,fl,none⟩) l.length sc)∧w'.cell? ⟨w.heap.size+1,4,none⟩=some (.slice (some ⟨bl',fl',none⟩) l'.length sc')∧w'.cell? ⟨bl,fl+j*6,none⟩=some (.int .i64 d.kind)∧w'.cell? ⟨bl,fl+j*6+1,none⟩=some (.bool d.b)∧w'.cell? ⟨bl,fl+j*6+2,none⟩=some (.int .i64 d.i)∧w'.cell? ⟨bl,fl+j*6+3,none⟩=some (.string d.t)∧w'.cell? ⟨bl,fl+j*6+4,none⟩=some (.slice (cl j).1.a d.l.length (cl j).1.c)∧w'.cell? ⟨bl,fl+j*6+5,none⟩=some (.slice (cl j).2.a d.ok.length (cl j).2.c)∧w'.cell? ⟨bl',fl'+j*6,none⟩=some (.int .i64 d'.kind)∧w'.cell? ⟨bl',fl'+j*6+1,none⟩=some (.bool d'.b)∧w'.cell? ⟨bl',fl'+j*6+2,none⟩=some (.int .i64 d'.i)∧w'.cell? ⟨bl',fl'+j*6+3,none⟩=some (.string d'.t)∧w'.cell? ⟨bl',fl'+j*6+4,none⟩=some (.slice (cl' j).1.a d'.l.length (cl' j).1.c)∧w'.cell? ⟨bl',fl'+j*6+5,none⟩=some (.slice (cl' j).2.a d'.ok.length (cl' j).2.c))) (by kernel_rfl) (⟨q4,r4,v0,v1,v2,v3,v4,v5,v0',v1',v2',v3',v4',v5'⟩) (fun hHeld=>?_)
     refine Qah 0 (some 61) hHeld ?_
     refine Qah 1 (some 62) hHeld ?_
     refine Qah 2 (some 63) hHeld ?_
     refine Qah 3 (some 64) hHeld ?_
     refine Qah 4 (some 65) hHeld ?_
     refine Qah 5 (some 66) hHeld ?_
     refine Qah 6 (some 67) hHeld ?_
     refine Qah 7 (some 68) hHeld ?_
     refine Qah 8 (some 69) hHeld ?_
     refine Qah 9 (some 70) hHeld ?_
     refine Qaa (i:=10) (by kernel_rfl) rfl (by rfl) (fun K hK=>?_)
     go_simp
     (refine (hic _ ((Ext.refl wr).drew)).mono ?_;rintro e w2 ⟨rfl,hx2⟩;replace hx2:=((Ext.refl wr).drew).trans hx2)
     refine hK.out _ _ (⟨(hx2.cell lw0).trans q4,(hx2.cell lw1).trans r4,(hx2.cell lb).trans v0,(hx2.cell lb).trans v1,(hx2.cell lb).trans v2,(hx2.cell lb).trans v3,(hx2.cell lb).trans v4,(hx2.cell lb).trans v5,(hx2.cell lb').trans v0',(hx2.cell lb').trans v1',(hx2.cell lb').trans v2',(hx2.cell lb').trans v3',(hx2.cell lb').trans v4',(hx2.cell lb').trans v5'⟩) (fun hHeld=>?_)
     clear hK K
     try simp only [Act.put,List.setIfInBounds_toArray,List.set_cons_zero,List.set_cons_succ]
     refine Qah 11 (some 6) hHeld ?_
     refine wpAnyH_done (by kernel_rfl) ?_ _
     clear hHeld hic q4 r4 v0 v1 v2 v3 v4 v5 v0' v1' v2' v3' v4' v5'
     have HX2:=Lib.hid (HX.out.trans hx2)
     clear hx2
     by_cases hc:Qbq d d'=0
     ·have hcb:(Qbq d d' != 0)=false:=by simp [hc]
      have HC:=Lib.hid hc
      clear hc
      go_wp2_with fail
      go_roundw
      case rel=>exact ⟨j+1,by go_num,h1,h2,by rw [HP.out,HD.out,if_neg (by simp [HC.out])],HX2.out⟩
      simp [intOf];omega
     have hcb:(Qbq d d' != 0)=true:=bne_iff_ne.2 hc
     have HC:=Lib.hid hc
     clear hc
     go_wp2_with fail
     go_ret
     rw [HP.out,HD.out,if_pos HC.out]
     exact ⟨rfl,HX0.out.trans HX2.out⟩
    have g1:(j:Int)<(l.length:Int):=by omega
    have g2:¬(j:Int)<(l'.length:Int):=by omega
    have HE:=Lib.hid (QgT (l:=l) (l':=l') (j:=j) (by omega) hjl hjl')
    clear hp hx
    go_wp2_with fail
    refine (HN.out _ _ _).mono ?_
    rintro e w2 ⟨rfl,rfl⟩
    go_wp2_with fail
    go_ret
    rw [HP.out,HE.out]
    exact ⟨rfl,HX0.out.trans HX.out⟩
   have g1:¬(j:Int)<(l.length:Int):=by omega
   have HE:=Lib.hid (QgT (l:=l) (l':=l') (j:=j) (by omega) hjl hjl')
   clear hp hx
   go_wp2_with fail
   refine (HN.out _ _ _).mono ?_
   rintro e w2 ⟨rfl,rfl⟩
   go_wp2_with fail
   go_ret
   rw [HP.out,HE.out]
   exact ⟨rfl,HX0.out.trans HX.out⟩
  by_cases h6:k=6
  ·subst h6
   rw [if_neg h5,if_pos rfl]
   clear h2 h3 h4 h5
   have hnl:ok.length≤140737488355328:=by omega
   have hnl':ok'.length≤140737488355328:=by omega
   go_enter Tryz.func60,Tryz.ntmps60
   go_wp2_with fail
   generalize hW0:World.alloc (World.alloc _ _) _=W0
   obtain ⟨hx0,hz0,hb0,hb1⟩:=Qaz w _ _ _ _ W0 hW0
   clear hW0
   have HX0:=Lib.hid hx0
   have HB0:=Lib.hid hb0
   have HB1:=Lib.hid hb1
   clear hx0 hb0 hb1
   go_loopw [7] (fun q wr=>∃ j:Nat,q=.int .i64 j∧j≤ok.length∧j≤ok'.length∧QfU ov ok ok' ov'=QfU (ov.drop j) (ok.drop j) (ok'.drop j) (ov'.drop j)∧Ext W0 wr) (fun q _=>ok.length - (intOf q).toNat)
   case atStart=>exact ⟨0,rfl,Nat.zero_le _,Nat.zero_le _,rfl,Ext.refl W0⟩
   obtain ⟨j,rfl,hjl,hjl',hp,hx⟩:=hrel
   obtain ⟨-,-,-,-,-,q5⟩:=(HB0.out.ext hx).c6
   obtain ⟨-,-,-,-,-,r5⟩:=(HB1.out.ext hx).c6
   have lw0:=(HB0.out.ext hx).lt
   have lw1:=(HB1.out.ext hx).lt
   have HP:=Lib.hid hp
   have HX:=Lib.hid hx
   by_cases h1:j<ok.length
   ·by_cases h2:j<ok'.length
    ·have g1:(j:Int)<(ok.length:Int):=by omega
     have g2:(j:Int)<(ok'.length:Int):=by omega
     obtain ⟨x,hxx⟩:∃ d,ok[j]? = some d:=⟨_,List.getElem?_eq_getElem h1⟩
     obtain ⟨x',hxx'⟩:∃ d,ok'[j]? = some d:=⟨_,List.getElem?_eq_getElem h2⟩
     obtain ⟨d,hd⟩:∃ d,ov[j]? = some d:=⟨_,List.getElem?_eq_getElem (by rw [HOV.out];exact h1)⟩
     obtain ⟨d',hd'⟩:∃ d,ov'[j]? = some d:=⟨_,List.getElem?_eq_getElem (by rw [HOV'.out];exact h2)⟩
     have HD:=Lib.hid (Qhy hd hd' hxx hxx')
     have hag:Agree (Lt w.heap.size) w wr:=(HX0.out.trans hx).agree fun _ h=>h
     obtain ⟨sa,sc⟩:=so
     obtain ⟨sa',sc'⟩:=so'
     obtain ⟨rfl,hlc,hcm⟩:=ho.eq (by omega)
     obtain ⟨rfl,hlc',hcm'⟩:=ho'.eq (by omega)
     have hbl:=ho.fits (by omega)
     have hbl':=ho'.fits (by omega)
     obtain ⟨v0,v1,v2,v3,v4,v5⟩:=(HEO.out j d hd).agree hag hbl
     obtain ⟨v0',v1',v2',v3',v4',v5'⟩:=(HEO'.out j d' hd').agree hag hbl'
     have kx:=(hag.cell hbl).trans (HEK.out j x hxx).1
     have kx':=(hag.cell hbl').trans (HEK'.out j x' hxx').1
     have htx:=fun W=>Qil W x x' (HEK.out j x hxx).2 (HEK'.out j x' hxx').2
     have hic:∀ W,Ext wr W→Calls Tryz.prog 60 #[Qb5 d (co j).1 (co j).2,Qb5 d' (co' j).1 (co' j).2] W (Qbe (Qbq d d') W):=fun W hW=>
      HI.out d d' (HSO.out j d hd) W _ _ _ _ (((HRO.out j d hd).agree (hag.trans (hW.agree fun _ h=>Nat.lt_of_lt_of_le h (Nat.le_trans HX0.out.size hx.size)))).mono fun i hi=>Nat.lt_of_lt_of_le hi (Nat.le_trans HX0.out.size (Nat.le_trans hx.size hW.size)))
       (((HRO'.out j d' hd').agree (hag.trans (hW.agree fun _ h=>Nat.lt_of_lt_of_le h (Nat.le_trans HX0.out.size hx.size)))).mono fun i hi=>Nat.lt_of_lt_of_le hi (Nat.le_trans HX0.out.size (Nat.le_trans hx.size hW.size)))
     have lb:bo<wr.heap.size:=Nat.lt_of_lt_of_le hbl (Nat.le_trans HX0.out.size hx.size)
     have lb':bo'<wr.heap.size:=Nat.lt_of_lt_of_le hbl' (Nat.le_trans HX0.out.size hx.size)
     have HT:=Lib.hid htx
     have HIC:=Lib.hid hic
     clear hp hx hd hd' hag hbl hbl' hxx hxx' htx hic
     go_wp2_with fail
     refine wp_region_held_drew (S:=(fun w'=>w'.cell? ⟨w.heap.size,5,none⟩=some (.slice (some ⟨bo,fo,none⟩) ok.length sc)∧w'.cell? ⟨w.heap.size+1,5,none⟩=some (.slice (some ⟨bo',fo',none⟩) ok'.length sc')∧w'.cell? ⟨bo,fo+j*7,none⟩=some (.string x)∧w'.cell? ⟨bo',fo'+j*7,none⟩=some (.string x'))) (by kernel_rfl) (⟨q5,r5,kx,kx'⟩) (fun hHeld=>?_)
     refine Qah 0 (some 98) hHeld ?_
     refine Qah 1 (some 99) hHeld ?_
     refine Qah 2 (some 100) hHeld ?_
     refine Qah 3 (some 101) hHeld ?_
     refine Qah 4 (some 102) hHeld ?_
     refine Qah 5 (some 103) hHeld ?_
     refine Qah 6 (some 104) hHeld ?_
     refine Qah 7 (some 105) hHeld ?_
     refine Qah 8 (some 106) hHeld ?_
     refine Qah 9 (some 107) hHeld ?_
     refine Qah 10 (some 108) hHeld ?_
     refine Qah 11 (some 109) hHeld ?_
     refine Qaa (i:=12) (by kernel_rfl) rfl (by rfl) (fun K hK=>?_)
     go_simp
     (refine (HT.out _).mono ?_;rintro e w2 ⟨rfl,hx1⟩;replace hx1:=((Ext.refl wr).drew).trans hx1)
     refine hK.out _ _ (⟨(hx1.cell lw0).trans q5,(hx1.cell lw1).trans r5,(hx1.cell lb).trans kx,(hx1.cell lb').trans kx'⟩) (fun hHeld=>?_)
     clear hK K
     try simp only [Act.put,List.setIfInBounds_toArray,List.set_cons_zero,List.set_cons_succ]
     refine Qah 13 (some 8) hHeld ?_
     refine wpAnyH_done (by kernel_rfl) ?_ _
     clear hHeld
     have HX1:=Lib.hid hx1
     have HX2:=Lib.hid (HX.out.trans hx1)
     replace q5:=(hx1.cell lw0).trans q5;replace r5:=(hx1.cell lw1).trans r5;replace v0:=(hx1.cell lb).trans v0;replace v1:=(hx1.cell lb).trans v1;replace v2:=(hx1.cell lb).trans v2;replace v3:=(hx1.cell lb).trans v3;replace v4:=(hx1.cell lb).trans v4;replace v5:=(hx1.cell lb).trans v5;replace v0':=(hx1.cell lb').trans v0';replace v1':=(hx1.cell lb').trans v1';replace v2':=(hx1.cell lb').trans v2';replace v3':=(hx1.cell lb').trans v3';replace v4':=(hx1.cell lb').trans v4';replace v5':=(hx1.cell lb').trans v5';replace kx:=(hx1.cell lb).trans kx;replace kx':=(hx1.cell lb').trans kx'
     replace lw0:=Nat.lt_of_lt_of_le lw0 hx1.size
     replace lw1:=Nat.lt_of_lt_of_le lw1 hx1.size
     replace lb:=Nat.lt_of_lt_of_le lb hx1.size
     replace lb':=Nat.lt_of_lt_of_le lb' hx1.size
     clear hx1
     by_cases ht:Qbp x x'=0
     ·have htb:(Qbp x x' != 0)=false:=by simp [ht]
      have HTT:=Lib.hid ht
      clear ht
      go_wp2_with fail
      refine wp_region_held_drew (S:=(fun w'=>w'.cell? ⟨w.heap.size,5,none⟩=some (.slice (some ⟨bo,fo,none⟩) ok.length sc)∧w'.cell? ⟨w.heap.size+1,5,none⟩=some (.slice (some ⟨bo',fo',none⟩) ok'.length sc')∧w'.cell? ⟨bo,fo+j*7+1,none⟩=some (.int .i64 d.kind)∧w'.cell? ⟨bo,fo+j*7+1+1,none⟩=some (.bool d.b)∧w'.cell? ⟨bo,fo+j*7+1+2,none⟩=some (.int .i64 d.i)∧w'.cell? ⟨bo,fo+j*7+1+3,none⟩=some (.string d.t)∧w'.cell? ⟨bo,fo+j*7+1+4,none⟩=some (.slice (co j).1.a d.l.length (co j).1.c)∧w'.cell? ⟨bo,fo+j*7+1+5,none⟩=some (.slice (co j).2.a d.ok.length (co j).2.c)∧w'.cell? ⟨bo',fo'+j*7+1,none⟩=some (.int .i64 d'.kind)∧w'.cell? ⟨bo',fo'+j*7+1+1,none⟩=some (.bool d'.b)∧w'.cell? ⟨bo',fo'+j*7+1+2,none⟩=some (.int .i64 d'.i)∧w'.cell? ⟨bo',fo'+j*7+1+3,none⟩=some (.string d'.t)∧w'.cell? ⟨bo',fo'+j*7+1+4,none⟩=some (.slice (co' j).1.a d'.l.length (co' j).1.c)∧w'.cell? ⟨bo',fo'+j*7+1+5,none⟩=some (.slice (co' j).2.a d'.ok.length (co' j).2.c))) (by kernel_rfl) (⟨q5,r5,v0,v1,v2,v3,v4,v5,v0',v1',v2',v3',v4',v5'⟩) (fun hHeld=>?_)
      refine Qah 0 (some 114) hHeld ?_
      refine Qah 1 (some 115) hHeld ?_
      refine Qah 2 (some 116) hHeld ?_
      refine Qah 3 (some 117) hHeld ?_
      refine Qah 4 (some 118) hHeld ?_
      refine Qah 5 (some 119) hHeld ?_
      refine Qah 6 (some 120) hHeld ?_
      refine Qah 7 (some 121) hHeld ?_
      refine Qah 8 (some 122) hHeld ?_
      refine Qah 9 (some 123) hHeld ?_
      refine Qah 10 (some 124) hHeld ?_
      refine Qah 11 (some 125) hHeld ?_
      refine Qaa (i:=12) (by kernel_rfl) rfl (by rfl) (fun K hK=>?_)
      go_simp
      (refine (HIC.out _ (HX1.out.drew)).mono ?_;rintro e w3 ⟨rfl,hx2⟩;replace hx2:=((Ext.refl w2).drew).trans hx2)
      refine hK.out _ _ (⟨(hx2.cell lw0).trans q5,(hx2.cell lw1).trans r5,(hx2.cell lb).trans v0,(hx2.cell lb).trans v1,(hx2.cell lb).trans v2,(hx2.cell lb).trans v3,(hx2.cell lb).trans v4,(hx2.cell lb).trans v5,(hx2.cell lb').trans v0',(hx2.cell lb').trans v1',(hx2.cell lb').trans v2',(hx2.cell lb').trans v3',(hx2.cell lb').trans v4',(hx2.cell lb').trans v5'⟩) (fun hHeld=>?_)
      clear hK K
      try simp only [Act.put,List.setIfInBounds_toArray,List.set_cons_zero,List.set_cons_succ]
      refine Qah 13 (some 9) hHeld ?_
      refine wpAnyH_done (by kernel_rfl) ?_ _
      clear hHeld q5 r5 v0 v1 v2 v3 v4 v5 v0' v1' v2' v3' v4' v5' kx kx'
      have HX3:=Lib.hid (HX2.out.trans hx2)
      clear hx2
      by_cases hc:Qbq d d'=0
      ·have hcb:(Qbq d d' != 0)=false:=by simp [hc]
       have HC:=Lib.hid hc
       clear hc
       go_wp2_with fail
       go_roundw
       case rel=>exact ⟨j+1,by go_num,h1,h2,by rw [HP.out,HD.out,if_neg (by simp [HTT.out]),if_neg (by simp [HC.out])],HX3.out⟩
       simp [intOf];omega
      have hcb:(Qbq d d' != 0)=true:=bne_iff_ne.2 hc
      have HC:=Lib.hid hc
      clear hc
      go_wp2_with fail
      go_ret
      rw [HP.out,HD.out,if_neg (by simp [HTT.out]),if_pos HC.out]
      exact ⟨rfl,HX0.out.trans HX3.out⟩
     have htb:(Qbp x x' != 0)=true:=bne_iff_ne.2 ht
     have HTT:=Lib.hid ht
     clear ht
     go_wp2_with fail
     go_ret
     rw [HP.out,HD.out,if_pos HTT.out]
     exact ⟨rfl,HX0.out.trans HX2.out⟩
    have g1:(j:Int)<(ok.length:Int):=by omega
    have g2:¬(j:Int)<(ok'.length:Int):=by omega
    have HE:=Lib.hid (QgU (l:=ov) (l':=ov') (k:=ok) (k':=ok') (j:=j) (by rw [HOV.out,HOV'.out];omega) (by rw [HOV.out];exact hjl) (by rw [HOV'.out];exact hjl'))
    clear hp hx
    go_wp2_with fail
    refine (HN.out _ _ _).mono ?_
    rintro e w2 ⟨rfl,rfl⟩
    go_wp2_with fail
    go_ret
    rw [HP.out,HE.out,HOV.out,HOV'.out]
    exact ⟨rfl,HX0.out.trans HX.out⟩
   have g1:¬(j:Int)<(ok.length:Int):=by omega
   have HE:=Lib.hid (QgU (l:=ov) (l':=ov') (k:=ok) (k':=ok') (j:=j) (by rw [HOV.out,HOV'.out];omega) (by rw [HOV.out];exact hjl) (by rw [HOV'.out];exact hjl'))
   clear hp hx
   go_wp2_with fail
   refine (HN.out _ _ _).mono ?_
   rintro e w2 ⟨rfl,rfl⟩
   go_wp2_with fail
   go_ret
   rw [HP.out,HE.out,HOV.out,HOV'.out]
   exact ⟨rfl,HX0.out.trans HX.out⟩
  rw [if_neg h5,if_neg h6]
  have g2:(k == 2)=false:=beq_eq_false_iff_ne.2 h2
  have g3:(k == 3)=false:=beq_eq_false_iff_ne.2 h3
  have g4:(k == 4)=false:=beq_eq_false_iff_ne.2 h4
  have g5:(k == 5)=false:=beq_eq_false_iff_ne.2 h5
  have g6:(k == 6)=false:=beq_eq_false_iff_ne.2 h6
  clear h2 h3 h4 h5 h6
  go_enter Tryz.func60,Tryz.ntmps60
  go_wp2_with fail
  go_ret
  exact ⟨rfl,((Ext.refl w).alloc _ _).alloc _ _⟩
 have hkb:(k != k')=true:=bne_iff_ne.2 hkk
 rw [if_pos hkk]
 clear hkk
 go_enter Tryz.func60,Tryz.ntmps60
 go_wp2_with fail
 refine (HN.out _ _ _).mono ?_
 rintro e w2 ⟨rfl,rfl⟩
 go_wp2_with fail
 go_ret
 exact ⟨rfl,((Ext.refl w).alloc _ _).alloc _ _⟩
inductive Qek:List Ent→RT→Prop
 | nil:Qek [] none
 | snoc {es:List Ent} {T T':RT} {B:Nat} {k:ByteArray} {v:Val} (h:Qek es T) (hp:QnA B k v T T'):Qek (es++[(k,v)]) T'
def Qau (es:List Ent) (l:List Ent):List Ent:=l.foldl (fun m e=>QbH m e.1 e.2) es
theorem Qcx (es l:List Ent) (e:Ent):Qau es (l++[e])=QbH (Qau es l) e.1 e.2:=by simp [Qau]
theorem Qbh (l:List Ent):∀ es:List Ent,(Qau es l).length≤es.length+l.length:=by
 induction l with
 | nil=>intro es;exact Nat.le_refl _
 | cons a l ih=>
   intro es
   have:=ih (QbH es a.1 a.2)
   have h2:=QdF es a.1 a.2
   simp only [Qau,List.foldl_cons,List.length_cons] at *
   omega
theorem Qek.both {l:List Ent} {T:RT} (h:Qek l T):(OkR T)∧Qak T=Qau [] l:=by
 induction h with
 | nil=>exact ⟨trivial,rfl⟩
 | snoc h hp ih=>exact ⟨hp.ok ih.1,by rw [hp.ents ih.1,ih.2,Qcx]⟩
end Go.Proofs.YtohajcflklejjaaGreat
