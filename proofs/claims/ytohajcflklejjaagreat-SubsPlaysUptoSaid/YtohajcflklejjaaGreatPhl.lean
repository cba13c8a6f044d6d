/- What the theorem needs of the texts Turn, Rg27, RefS27, Rh27, Result, Drop, LB27, Known27, SubsCalm: no condition of its own. -/
import Derived.Laws.IdiomStrings
import Derived.WalkArith
import Derived.Test.YtohajcflklejjaaGreatPha
import Derived.Test.YtohajcflklejjaaGreatPhb
import Derived.Test.YtohajcflklejjaaGreatPhc
import Derived.Test.YtohajcflklejjaaGreatPhd
import Derived.Test.YtohajcflklejjaaGreatPhe
import Derived.Test.YtohajcflklejjaaGreatPhf
import Derived.Test.YtohajcflklejjaaGreatPhg
import Derived.Test.YtohajcflklejjaaGreatPhh
import Derived.Test.YtohajcflklejjaaGreatPhi
import Derived.Test.YtohajcflklejjaaGreatPhj
import Derived.Test.YtohajcflklejjaaGreatPhk
set_option maxRecDepth 100000
set_option maxHeartbeats 8000000
namespace Go.Proofs.YtohajcflklejjaaGreat
open Go.RowKit
set_option linter.unusedVariables false
set_option linter.unusedSimpArgs false
structure L27 where
 kind:Int
 q:Qy
 id:Int
 ps:Sl
 es:List LE
 gp:Sl
 gs:List ByteArray
abbrev L27.v (a:L27):Value:=.agg #[.int .i64 a.kind,.int .i64 a.q.kind,.string a.q.lo,.string a.q.hi,.bool a.q.op,.int .u64 a.id,.slice a.ps.a a.es.length a.ps.c,.slice a.gp.a a.gs.length a.gp.c]
structure A27 (w:World) (F:Nat→Prop) (a:L27):Prop where
 es:ES w F a.ps a.es
 gs:Rd w F 1 a.gp a.gs.length (a.gs.map Value.string)
 gk:∀ k∈a.gs,k.size≤maxLen
 q:a.q.short
theorem A27.agree {w w':World} {F:Nat→Prop} {a:L27} (h:A27 w F a) (ha:Agree F w w'):A27 w' F a:=⟨h.es.agree ha,h.gs.agree ha,h.gk,h.q⟩
theorem A27.mono {w:World} {F G:Nat→Prop} {a:L27} (h:A27 w F a) (hG:∀ b,F b→G b):A27 w G a:=⟨h.es.mono hG,h.gs.mono hG,h.gk,h.q⟩
theorem A27.gone {w:World} {F:Nat→Prop} {a:L27} (h:A27 w F a) {j:Nat} {k:ByteArray} (hk:a.gs[j]? = some k):∃ b o,a.gp.a=some ⟨b,o,none⟩∧F b∧a.gs.length≤a.gp.c∧a.gp.c≤maxLen∧w.cell? ⟨b,o+j,none⟩=some (.string k):=by
 obtain ⟨b,o,h1,h2,h3⟩:=h.gs
 have hj:j<a.gs.length:=(List.getElem?_eq_some_iff.1 hk).1
 obtain ⟨e1,e2,e3⟩:=h1.eq (by omega)
 exact ⟨b,o,e1,h1.fits (by omega),e2,e3,h3 j _ (by rw [List.getElem?_map,hk];rfl)⟩
def QbO (es:List Ent) (l:List ByteArray):List Ent:=l.foldl Qcl es
theorem Qcp (es:List Ent) (l:List ByteArray) (k:ByteArray):QbO es (l++[k])=Qcl (QbO es l) k:=by simp [QbO]
theorem Qn1 (es:List Ent) (k:ByteArray):(Qcl es k).length≤es.length:=by
 induction es with
 | nil=>exact Nat.le_refl _
 | cons e es ih=>
   rw [Qcl]
   split
   ·simp only [List.length_cons];omega
   split
   ·simp only [List.length_cons];omega
   exact Nat.le_refl _
theorem Qgg (l:List ByteArray):∀ es:List Ent,(QbO es l).length≤es.length:=by
 induction l with
 | nil=>exact fun es=>Nat.le_refl _
 | cons k l ih=>exact fun es=>Nat.le_trans (ih (Qcl es k)) (Qn1 es k)
def Qi3 (es:List Ent) (a:L27):List Ent:=QbO (Qau es (a.es.map LE.ent)) a.gs
structure TI (H:Nat→Prop) (M:Nat) (es:List Ent) (T:RT) (W:World):Prop where
 map:MapAt H W M es
 tree:IsT W (NH H W) T
 ok:OkR T
 ents:Qak T=es
theorem TI.st {H G:Nat→Prop} {M:Nat} {es:List Ent} {T:RT} {w w':World} (h:TI H M es T w) (k:St G w w') (hG:∀ b,G b→H b) (hM:¬G M):TI H M es T w':=
 ⟨h.map.st k hG hM,(h.tree.agree fun b hb=>k.block b hb.1 fun hh=>hb.2 (hG b hh)).mono fun i hi=>⟨Nat.lt_of_lt_of_le hi.1 k.size,hi.2⟩,h.ok,h.ents⟩
theorem TI.ext {H:Nat→Prop} {M:Nat} {es:List Ent} {T:RT} {w w':World} (h:TI H M es T w) (k:Ext w w'):TI H M es T w':=h.st (k.st fun _=>False) (fun _ hb=>hb.elim) (fun hb=>hb)
def Qhn (H0:Nat→Prop) (es:List Ent) (w:World) (e:Ending) (w':World):Prop:=
 ∃ (T:RT) (p:Option Addr) (H:Nat→Prop) (M:Nat),e=.returned (.tuple #[.agg #[.pointer p],.pointer (some ⟨M,0,none⟩)])∧QaQ T=.pointer p∧TI H M es T w'∧(∀ b,H b→b<w'.heap.size)∧(∀ b,H0 b→H b)∧Ext w w'∧(∀ b,H b→H0 b∨w.heap.size≤b)∧w.heap.size≤M
theorem Qmk {w:World} {H0:Nat→Prop} {M0:Nat} {T0:RT} {es0:List Ent} {a:L27} {p0:Option Addr} (hI:TI H0 M0 es0 T0 w) (hH:∀ b,H0 b→b<w.heap.size) (hA:A27 w (NH H0 w) a) (hc:es0.length+a.es.length≤900000) (hg:a.gs.length≤100000000) (hp0:QaQ T0=.pointer p0) :
  Calls Tryz.prog 27 #[.agg #[.pointer p0],.pointer (some ⟨M0,0,none⟩),a.v] w (Qhn H0 (Qi3 es0 a) w):=by
 obtain ⟨kd,q,idn,ps,es,gp,gs⟩:=a
 have HI:=Lib.hid hI
 have HH:=Lib.hid hH
 have HA:=Lib.hid hA
 have HC:=Lib.hid hc
 have HP0:=Lib.hid hp0
 have hel:es.length≤900000:=by show es.length≤_;have:es0.length+es.length≤900000:=hc;omega
 have hgl:gs.length≤100000000:=hg
 clear hI hH hA hc hp0 hg
 dsimp only [L27.v,Qi3]
 go_enter Tryz.func27,Tryz.ntmps27
 go_wp2_with fail
 generalize hW0:World.alloc (World.alloc (World.alloc _ _) _) _=w0
 obtain ⟨hx0,hz0,hb0,hb1,hb2⟩:=QaS w _ _ _ _ _ _ w0 hW0
 clear hW0
 have hz0l:w0.heap.size=w.heap.size+3:=hz0
 have hcp:=Qlm ((HI.out.map.wide w0.heap.size).ext hx0) (fun b hb=>hb.elim (fun h=>Nat.lt_of_lt_of_le (HH.out b h) hx0.size) fun h=>h.2) (by have:es0.length+es.length≤900000:=HC.out;omega)
 have HCP:=Lib.hid hcp
 have HX0:=Lib.hid hx0
 have HB0:=Lib.hid hb0
 have HB1:=Lib.hid hb1
 have HB2:=Lib.hid hb2
 clear hx0 hb0 hb1 hb2 hz0 hcp
 refine HCP.out.mono ?_
 rintro e w1 ⟨M,rfl,hMlo,hx1,hM⟩
 obtain ⟨H1,hH1⟩:∃ H1:Nat→Prop,H1=fun b=>(H0 b∨(w.heap.size≤b∧b<w0.heap.size))∨b=M:=⟨_,rfl⟩
 rw [←hH1] at hM
 have hMlt:M<w1.heap.size:=by obtain ⟨-,s,xs,hb,-⟩:=hM;exact hb.lt
 have hs01:=hx1.size
 have hH1l:∀ b,H1 b→b<w1.heap.size:=fun b hb=>by
  rw [hH1] at hb
  rcases hb with (h | h) | h
  ·have:=HH.out b h;omega
  ·omega
  omega
 have hH1n:∀ b,b<w.heap.size→¬H0 b→¬H1 b:=fun b hb hn h=>by
  rw [hH1] at h
  rcases h with (h | h) | h
  ·exact hn h
  ·omega
  omega
 have hHt:H1 w.heap.size:=by rw [hH1];exact .inl (.inr ⟨Nat.le_refl _,by omega⟩)
 have hHt2:H1 (w.heap.size+1+1):=by rw [hH1];exact .inl (.inr ⟨by omega,by omega⟩)
 have hHM:H1 M:=hM.hm
 have hx01:=HX0.out.trans hx1
 have hA1:∀ W,(∀ b,b<w.heap.size→¬H0 b→W.heap[b]? = w.heap[b]?)→w.heap.size≤W.heap.size→A27 W (NH H1 W) ⟨kd,q,idn,ps,es,gp,gs⟩:=fun W hW hz=>(HA.out.agree fun b hb=>hW b hb.1 hb.2).mono fun b hb=>⟨Nat.lt_of_lt_of_le hb.1 hz,hH1n b hb.1 hb.2⟩
 have hTI:TI H1 M es0 T0 w1:=⟨hM,(HI.out.tree.agree (hx01.agree fun b hb=>hb.1)).mono fun b hb=>⟨Nat.lt_of_lt_of_le hb.1 hx01.size,hH1n b hb.1 hb.2⟩,HI.out.ok,HI.out.ents⟩
 have HH01:=Lib.hid (show ∀ b,H0 b→H1 b from fun b hb=>by rw [hH1];exact .inl (.inl hb))
 have HUP:=Lib.hid (show ∀ b,H1 b→H0 b∨w.heap.size≤b from fun b hb=>by
  rw [hH1] at hb
  rcases hb with (h | h) | h
  ·exact .inl h
  ·exact .inr h.1
  exact .inr (by omega))
 have HTI:=Lib.hid hTI
 have HA1:=Lib.hid hA1
 have HX1:=Lib.hid hx01
 have HH1L:=Lib.hid hH1l
 have HB01:=Lib.hid (HB0.out.ext hx1)
 have HB11:=Lib.hid (HB1.out.ext hx1)
 have HB21:=Lib.hid (HB2.out.ext hx1)
 have hH1lo:∀ b,(b=w.heap.size∨b=M)→w.heap.size≤b:=fun b hb=>by omega
 have HC':=Lib.hid (show es0.length+es.length≤900000 from HC.out)
 clear hM hH1 hH1l hx01 hA1 hTI HCP HI HA hx1 HX0 HB0 HB1 HB2 HC hH1n
 go_wp2_with fail
 go_loopw [9] (fun i wr=>∃ (j:Nat) (T:RT) (p:Option Addr),i=.int .i64 j∧j≤es.length∧Hid (TI H1 M (Qau es0 ((es.take j).map LE.ent)) T wr)∧Hid (QaQ T=.pointer p)∧Hid (Blk wr w.heap.size 33 #[.pointer p])∧Hid (St (fun b=>b=w.heap.size∨b=M) w1 wr)) (fun i _=>es.length - (intOf i).toNat)
 case atStart=>exact ⟨0,T0,p0,rfl,Nat.zero_le _,HTI,HP0,HB01,Lib.hid (St.refl _ _)⟩
 obtain ⟨j,T,p,rfl,hj,HT,HP,HBT,HST⟩:=hrel
 have hszr:=HST.out.size
 have hwr:∀ b,b<w.heap.size→wr.heap[b]? = w.heap[b]?:=fun b hb=>(HST.out.block b (by omega) (by omega)).trans (HX1.out.heap hb)
 have haW:=HA1.out wr (fun b hb _=>hwr b hb) (by have:=HX1.out.size;omega)
 have hba:Blk wr (w.heap.size+1) 71 _:=HST.out.blk HB11.out (by omega)
 have a6:wr.cell? ⟨w.heap.size+1,6,none⟩=some (.slice ps.a es.length ps.c):=hba.cell 6
 have a7:wr.cell? ⟨w.heap.size+1,7,none⟩=some (.slice gp.a gs.length gp.c):=hba.cell 7
 have la:=hba.lt
 have ct:wr.cell? ⟨w.heap.size,0,none⟩=some (.pointer p):=HBT.out.cell 0
 have lt_:=HBT.out.lt
 have ft:=HBT.out.frozen 0
 have HAW:=Lib.hid haW
 have HWR:=Lib.hid hwr
 clear haW hwr hba
 by_cases hlt:j<es.length
 ·obtain ⟨x,hx⟩:∃ x,es[j]? = some x:=⟨_,List.getElem?_eq_getElem hlt⟩
  obtain ⟨b,o,hsa,hFb,hcc,hcm,k0,hv,hrv,hkm⟩:=HAW.out.es.at hx
  obtain ⟨psa,psc⟩:=ps
  dsimp only at hsa hcc hcm a6
  subst hsa
  have hFb:b<wr.heap.size∧¬H1 b:=hFb
  have hlb:=hFb.1
  have hbt:¬b=w.heap.size:=fun e=>hFb.2 (by rw [e];exact hHt)
  have hbM:¬b=M:=fun e=>hFb.2 (by rw [e];exact hHM)
  have g1:(j:Int)<(es.length:Int):=by omega
  have g0:(0:Int)≤(j:Int):=by omega
  have hlen:(Qau es0 ((es.take j).map LE.ent)).length≤1000000:=by
   have h1:=Qbh ((es.take j).map LE.ent) es0
   have h2:=HC'.out
   simp only [List.length_map,List.length_take] at h1
   omega
  have hput:∀ W,Ext wr W→Calls Tryz.prog 46 #[.agg #[.pointer p],.string x.k,Qb5 x.v x.sl x.so] W (Qiv (NH H1 wr) T x.k x.v W):=fun W hW=>by
   have:=Ql7 (w:=W) (F:=NH H1 wr) (T:=T) (fun b hb=>Nat.lt_of_lt_of_le hb.1 hW.size) (HT.out.tree.agree (hW.agree fun b hb=>hb.1)) HT.out.ok (by rw [HT.out.ents];exact hlen) hkm ((hrv.agree (hW.agree fun b hb=>hb.1)).mono fun b hb=>Nat.lt_of_lt_of_le hb.1 hW.size)
   rwa [QaC,HP.out] at this
  have HPUT:=Lib.hid hput
  have HSS:=Lib.hid (show ∀ W,St (fun b=>b=w.heap.size) wr W→W.cell? ⟨w.heap.size+1,6,none⟩=some (.slice (some ⟨b,o,none⟩) es.length psc)∧W.cell? ⟨b,o+j*7,none⟩=some (.string x.k)∧W.cell? ⟨b,o+j*7+1,none⟩=some (.int .i64 x.v.kind)∧W.cell? ⟨b,o+j*7+1+1,none⟩=some (.bool x.v.b)∧W.cell? ⟨b,o+j*7+1+2,none⟩=some (.int .i64 x.v.i)∧W.cell? ⟨b,o+j*7+1+3,none⟩=some (.string x.v.t)∧W.cell? ⟨b,o+j*7+1+4,none⟩=some (.slice x.sl.a x.v.l.length x.sl.c)∧W.cell? ⟨b,o+j*7+1+5,none⟩=some (.slice x.so.a x.v.ok.length x.so.c) from
   fun W hW=>⟨(hW.cell la (by omega)).trans a6,(hW.cell hlb hbt).trans k0,(hW.cell hlb hbt).trans hv.c0,(hW.cell hlb hbt).trans hv.c1,(hW.cell hlb hbt).trans hv.c2,(hW.cell hlb hbt).trans hv.c3,(hW.cell hlb hbt).trans hv.c4,(hW.cell hlb hbt).trans hv.c5⟩)
  have HV:=Lib.hid hv
  have HK0:=Lib.hid k0
  have HRV:=Lib.hid hrv
  have HXX:=Lib.hid hx
  clear k0 hv hrv hput hx
  go_wp2_with fail
  refine wp_region_held_drew (S:=(fun w'=>St (fun b=>b=w.heap.size) wr w')) (by kernel_rfl) (((St.refl _ wr).drew)) (fun hHeld=>?_)
  refine Qab 1 (some 23) HSS hHeld ?_
  refine Qab 2 (some 24) HSS hHeld ?_
  refine Qab 3 (some 25) HSS hHeld ?_
  refine Qab 4 (some 26) HSS hHeld ?_
  refine Qab 5 (some 27) HSS hHeld ?_
  refine Qab 6 (some 28) HSS hHeld ?_
  refine Qab 7 (some 29) HSS hHeld ?_
  refine Qab 8 (some 30) HSS hHeld ?_
  refine Qab 9 (some 31) HSS hHeld ?_
  refine Qab 10 (some 32) HSS hHeld ?_
  refine Qab 11 (some 33) HSS hHeld ?_
  refine Qab 12 (some 34) HSS hHeld ?_
  refine Qaa (i:=0) (by kernel_rfl) rfl (by rfl) (fun K hK=>?_)
  go_simp
  skip
  refine hK.out _ _ (hHeld) (fun hHeld=>?_)
  clear hK K
  try simp only [Act.put,List.setIfInBounds_toArray,List.set_cons_zero,List.set_cons_succ]
  refine Qaa (i:=13) (by kernel_rfl) rfl (by rfl) (fun K hK=>?_)
  go_simp
  (refine (HPUT.out _ ((Ext.refl wr).drew)).mono ?_;rintro e w2 ⟨T2,rfl,hp2,hT2,hx2'⟩;have hx2:=((Ext.refl wr).drew).trans hx2';obtain ⟨p2,hq2⟩:=Qar T2;have HX2:=Lib.hid hx2;have HT2:=Lib.hid hT2;have HP2:=Lib.hid hp2;have HQ2:=Lib.hid hq2;dsimp only [QaC];rw [hq2];have ct2:w2.cell? ⟨w.heap.size,0,none⟩=some (.pointer p):=(HBT.out.ext hx2).cell 0;have ft2:=(HBT.out.ext hx2).frozen 0;have lt2:=(HBT.out.ext hx2).lt;clear hp2 hT2 hx2 hx2' hq2)
  refine hK.out _ _ (HX2.out.st _) (fun hHeld=>?_)
  clear hK K
  try simp only [Act.put,List.setIfInBounds_toArray,List.set_cons_zero,List.set_cons_succ]
  refine Qaa (i:=14) (by kernel_rfl) rfl (by rfl) (fun K hK=>?_)
  go_simp
  skip
  refine hK.out _ _ (St.set (H:=fun b=>b=w.heap.size) (HX2.out.st _) (p:=⟨w.heap.size,0,none⟩) (.inr rfl) _) (fun hHeld=>?_)
  clear hK K
  try simp only [Act.put,List.setIfInBounds_toArray,List.set_cons_zero,List.set_cons_succ]
  refine wpAnyH_done (by kernel_rfl) ?_ _
  clear ct2 ft2 lt2
  have hst3:St (fun b=>b=w.heap.size) wr (w2.setCell ⟨w.heap.size,0,none⟩ (.pointer p2)):=St.set (H:=fun b=>b=w.heap.size) (HX2.out.st _) (p:=⟨w.heap.size,0,none⟩) (.inr rfl) _
  have hset:St (fun b=>b=w.heap.size) w2 (w2.setCell ⟨w.heap.size,0,none⟩ (.pointer p2)):=St.set (H:=fun b=>b=w.heap.size) (St.refl _ _) (p:=⟨w.heap.size,0,none⟩) (.inr rfl) _
  have hbt3:Blk (w2.setCell ⟨w.heap.size,0,none⟩ (.pointer p2)) w.heap.size 33 #[.pointer p2]:=(HBT.out.ext HX2.out).QaN 0 _
  generalize w2.setCell ⟨w.heap.size,0,none⟩ (.pointer p2)=W3 at *
  have hz2:=HX2.out.size
  have hz3:=hset.size
  have hnew:∀ b,wr.heap.size≤b→¬H1 b:=fun b hb h=>by have:=HH1L.out b h;omega
  have hT3:IsT W3 (NH H1 W3) T2:=(HT2.out.agree fun b hb=>hset.block b (hb.elim (fun h=>Nat.lt_of_lt_of_le h.1 hz2) fun h=>h.2) (fun e=>hb.elim (fun h=>h.2 (by rw [e];exact hHt)) fun h=>by have:wr.heap.size≤b:=h.1;omega)).mono fun b hb=>by
   rcases hb with h | h
   ·exact ⟨by have:=h.1;omega,h.2⟩
   exact ⟨by have:=h.2;omega,hnew b h.1⟩
  have hM3:MapAt H1 W3 M (Qau es0 ((es.take j).map LE.ent)):=HT.out.map.st hst3 (fun b hb=>by rw [hb];exact hHt) (by omega)
  have hrv3:RV W3 (NH H1 W3) x.v x.sl x.so:=(HRV.out.agree fun b hb=>hst3.block b hb.1 fun e=>hb.2 (by rw [e];exact hHt)).mono fun b hb=>⟨by have:=hb.1;omega,hb.2⟩
  have hput7:=Qg9 (w:=W3.drew) (hM3.ext ((Ext.refl W3).drew)) (fun b hb=>by have:=HH1L.out b hb;show b<W3.heap.size;omega) (by rw [←HT.out.ents];exact HT.out.ok.sorted) hlen hkm (hrv3.agree (((Ext.refl W3).drew).agree fun b hb=>hb.1))
  have HPUT7:=Lib.hid hput7
  have hlb3:b<W3.heap.size:=by omega
  have la3:w.heap.size+1<W3.heap.size:=by omega
  have HSS2:=Lib.hid (show ∀ W,St (fun b=>b=M) W3 W→W.cell? ⟨w.heap.size+1,6,none⟩=some (.slice (some ⟨b,o,none⟩) es.length psc)∧W.cell? ⟨b,o+j*7,none⟩=some (.string x.k)∧W.cell? ⟨b,o+j*7+1,none⟩=some (.int .i64 x.v.kind)∧W.cell? ⟨b,o+j*7+1+1,none⟩=some (.bool x.v.b)∧W.cell? ⟨b,o+j*7+1+2,none⟩=some (.int .i64 x.v.i)∧W.cell? ⟨b,o+j*7+1+3,none⟩=some (.string x.v.t)∧W.cell? ⟨b,o+j*7+1+4,none⟩=some (.slice x.sl.a x.v.l.length x.sl.c)∧W.cell? ⟨b,o+j*7+1+5,none⟩=some (.slice x.so.a x.v.ok.length x.so.c) from
   fun W hW=>by
    obtain ⟨q0,q1,q2,q3,q4,q5,q6,q7⟩:=HSS.out W3 hst3
    exact ⟨(hW.cell la3 (by omega)).trans q0,(hW.cell hlb3 hbM).trans q1,(hW.cell hlb3 hbM).trans q2,(hW.cell hlb3 hbM).trans q3,(hW.cell hlb3 hbM).trans q4,(hW.cell hlb3 hbM).trans q5,(hW.cell hlb3 hbM).trans q6,(hW.cell hlb3 hbM).trans q7⟩)
  have HST3:=Lib.hid hst3
  have HT3:=Lib.hid hT3
  have HBT3:=Lib.hid hbt3
  clear hst3 hset hbt3 hT3 hM3 hrv3 hput7
  go_wp2_with fail
  refine wp_region_held_drew (S:=(fun w'=>St (fun b=>b=M) W3 w')) (by kernel_rfl) (((St.refl _ W3).drew)) (fun hHeld=>?_)
  refine Qab 0 (some 36) HSS2 hHeld ?_
  refine Qab 1 (some 37) HSS2 hHeld ?_
  refine Qab 2 (some 38) HSS2 hHeld ?_
  refine Qab 3 (some 39) HSS2 hHeld ?_
  refine Qab 4 (some 40) HSS2 hHeld ?_
  refine Qab 5 (some 41) HSS2 hHeld ?_
  refine Qab 6 (some 42) HSS2 hHeld ?_
  refine Qab 7 (some 43) HSS2 hHeld ?_
  refine Qab 8 (some 44) HSS2 hHeld ?_
  refine Qab 9 (some 45) HSS2 hHeld ?_
  refine Qab 10 (some 46) HSS2 hHeld ?_
  refine Qab 11 (some 47) HSS2 hHeld ?_
  refine Qab 12 (some 48) HSS2 hHeld ?_
  refine Qaa (i:=13) (by kernel_rfl) rfl (by rfl) (fun K hK=>?_)
  go_simp
  (refine HPUT7.out.mono ?_;rintro e w4 ⟨⟨r,rfl⟩,hM4,hst4⟩)
  refine hK.out _ _ (hHeld.trans hst4) (fun hHeld=>?_)
  clear hK K
  try simp only [Act.put,List.setIfInBounds_toArray,List.set_cons_zero,List.set_cons_succ]
  refine wpAnyH_done (by kernel_rfl) ?_ _
  have hst:=hHeld
  have hti:TI H1 M (Qau es0 ((es.take (j+1)).map LE.ent)) T2 w4:=by
   refine ⟨?_,(HT3.out.agree fun b hb=>hst.block b hb.1 fun e=>hb.2 (by rw [e];exact hHM)).mono fun b hb=>⟨Nat.lt_of_lt_of_le hb.1 hst.size,hb.2⟩,HP2.out.ok HT.out.ok,?_⟩
   ·rw [List.take_add_one,HXX.out,List.map_append]
    show MapAt H1 w4 M (Qau es0 ((es.take j).map LE.ent++[x.ent]))
    rw [Qcx];exact hM4
   rw [HP2.out.ents HT.out.ok,HT.out.ents,List.take_add_one,HXX.out,List.map_append]
   show _=Qau es0 ((es.take j).map LE.ent++[x.ent])
   rw [Qcx];rfl
  have HTI2:=Lib.hid hti
  have HBT4:=Lib.hid (hst.blk HBT3.out (by omega))
  have HST4:=Lib.hid (HST.out.trans ((HST3.out.mono fun i _ hi=>.inl hi).trans (hst.mono fun i _ hi=>.inr hi)))
  clear hHeld hst hti hM4 hst4
  go_wp2_with fail
  go_roundw
  case rel=>exact ⟨j+1,T2,p2,by go_num,hlt,HTI2,HQ2,HBT4,HST4⟩
  simp [intOf];omega
 have g1:¬(j:Int)<(es.length:Int):=by omega
 obtain rfl:j=es.length:=by omega
 rw [List.take_length] at HT
 go_wp2_with fail
 clear a6 a7 la ct lt_ ft
 have HSTA:=Lib.hid HST.out
 obtain ⟨wa,hwa⟩:∃ wa,wa=wr:=⟨_,rfl⟩
 subst hwa
 go_loopw [10] (fun i wr=>∃ (j:Nat) (T:RT) (p:Option Addr),i=.int .i64 j∧j≤gs.length∧Hid (TI H1 M (QbO (Qau es0 (es.map LE.ent)) (gs.take j)) T wr)∧Hid (QaQ T=.pointer p)∧Hid (Blk wr w.heap.size 33 #[.pointer p])∧Hid (St (fun b=>b=w.heap.size∨b=M) w1 wr)) (fun i _=>gs.length - (intOf i).toNat)
 case atStart=>exact ⟨0,T,p,rfl,Nat.zero_le _,HT,HP,HBT,HST⟩
 obtain ⟨j,T,p,rfl,hj,HT,HP,HBT,HST⟩:=hrel
 have hszr:=HST.out.size
 have hwr:∀ b,b<w.heap.size→wr.heap[b]? = w.heap[b]?:=fun b hb=>(HST.out.block b (by omega) (by omega)).trans (HX1.out.heap hb)
 have haW:=HA1.out wr (fun b hb _=>hwr b hb) (by have:=HX1.out.size;omega)
 have hba:Blk wr (w.heap.size+1) 71 _:=HST.out.blk HB11.out (by omega)
 have a7:wr.cell? ⟨w.heap.size+1,7,none⟩=some (.slice gp.a gs.length gp.c):=hba.cell 7
 have la:=hba.lt
 have ct:wr.cell? ⟨w.heap.size,0,none⟩=some (.pointer p):=HBT.out.cell 0
 have lt_:=HBT.out.lt
 have ft:=HBT.out.frozen 0
 have HAW:=Lib.hid haW
 clear haW hwr hba
 by_cases hlt:j<gs.length
 ·obtain ⟨k,hk⟩:∃ k,gs[j]? = some k:=⟨_,List.getElem?_eq_getElem hlt⟩
  obtain ⟨b,o,hsa,hFb,hcc,hcm,k0⟩:=HAW.out.gone hk
  obtain ⟨gpa,gpc⟩:=gp
  dsimp only at hsa hcc hcm a7
  subst hsa
  have hFb:b<wr.heap.size∧¬H1 b:=hFb
  have hlb:=hFb.1
  have hbt:¬b=w.heap.size:=fun e=>hFb.2 (by rw [e];exact hHt)
  have hbM:¬b=M:=fun e=>hFb.2 (by rw [e];exact hHM)
  have g1:(j:Int)<(gs.length:Int):=by omega
  have g0:(0:Int)≤(j:Int):=by omega
  have hlen:(QbO (Qau es0 (es.map LE.ent)) (gs.take j)).length≤1000000:=by
   have h0:=Qgg (gs.take j) (Qau es0 (es.map LE.ent))
   have h1:=Qbh (es.map LE.ent) es0
   have h2:=HC'.out
   simp only [List.length_map] at h1
   omega
  have hdel:∀ W,Ext wr W→Calls Tryz.prog 57 #[.agg #[.pointer p],.string k] W (QkV (NH H1 wr) T k W):=fun W hW=>by
   have:=Qj6 (w:=W) (F:=NH H1 wr) (T:=T) (fun b hb=>Nat.lt_of_lt_of_le hb.1 hW.size) (HT.out.tree.agree (hW.agree fun b hb=>hb.1)) HT.out.ok (by rw [HT.out.ents];exact hlen) k
   rwa [QaC,HP.out] at this
  have HDEL:=Lib.hid hdel
  have HK:=Lib.hid hk
  clear hdel hk
  have hSF:∀ W,St (fun _=>False) wr W→W.cell? ⟨w.heap.size,0,none⟩=some (.pointer p)∧W.cell? ⟨w.heap.size+1,7,none⟩=some (.slice (some ⟨b,o,none⟩) gs.length gpc)∧W.cell? ⟨b,o+j,none⟩=some (.string k):=
   fun W hW=>⟨(hW.cell lt_ id).trans ct,(hW.cell la id).trans a7,(hW.cell hlb id).trans k0⟩
  have HSS:=Lib.hid hSF
  clear hSF
  go_wp2_with fail
  refine wp_region_held_drew (S:=(fun w'=>St (fun _=>False) wr w')) (by kernel_rfl) (((St.refl _ wr).drew)) (fun hHeld=>?_)
  refine Qab 0 (some 58) HSS hHeld ?_
  refine Qab 1 (some 59) HSS hHeld ?_
  refine Qab 2 (some 60) HSS hHeld ?_
  refine Qab 3 (some 61) HSS hHeld ?_
  refine Qab 4 (some 62) HSS hHeld ?_
  refine Qab 5 (some 63) HSS hHeld ?_
  refine QaL (i:=6) (j:=10) (by kernel_rfl) rfl rfl (by rfl) (by rfl) (fun K hK=>?_) (fun K hK=>?_)
  ·go_simp
   (refine (HDEL.out _ ((Ext.refl wr).drew)).mono ?_;rintro e w3 ⟨T',rfl,hd',hT',hx3'⟩;have hx3:=((Ext.refl wr).drew).trans hx3';obtain ⟨p',hq'⟩:=Qar T';have HD':=Lib.hid hd';have HT':=Lib.hid hT';have HX3:=Lib.hid hx3;have HQ':=Lib.hid hq';dsimp only [QaC];rw [hq'];clear hd' hT' hx3 hx3' hq')
   refine hK.out _ _ (HX3.out.st _) (fun hHeld=>?_)
   clear hK K
   try simp only [Act.put,List.setIfInBounds_toArray,List.set_cons_zero,List.set_cons_succ]
   refine Qab 7 (some 57) HSS hHeld ?_
   refine Qab 8 (some 65) HSS hHeld ?_
   refine Qab 9 (some 66) HSS hHeld ?_
   refine Qaa (i:=10) (by kernel_rfl) rfl (by rfl) (fun K hK=>?_)
   go_simp
   skip
   refine hK.out _ _ (hHeld.alloc _ _) (fun hHeld=>?_)
   clear hK K
   try simp only [Act.put,List.setIfInBounds_toArray,List.set_cons_zero,List.set_cons_succ]
   refine Qaa (i:=11) (by kernel_rfl) rfl (by rfl) (fun K hK=>?_)
   go_simp
   skip
   refine hK.out _ _ ((HX3.out.st _).alloc _ _) (fun hHeld=>?_)
   clear hK K
   try simp only [Act.put,List.setIfInBounds_toArray,List.set_cons_zero,List.set_cons_succ]
   refine Qab 12 (some 12) HSS hHeld ?_
   refine wpAnyH_done (by kernel_rfl) ?_ _
   have hb6:Blk (w3.alloc (.cells #[.pointer p'] 33)) w3.heap.size 33 #[.pointer p']:=Blk.new w3 33 #[.pointer p']
   have hlo6:wr.heap.size≤w3.heap.size:=HX3.out.size
   have hT6:IsT (w3.alloc (.cells #[.pointer p'] 33)) (NH H1 (w3.alloc (.cells #[.pointer p'] 33))) T':=(HT'.out.agree (((Ext.refl w3).alloc _ _).agree fun b hb=>hb.elim (fun h=>Nat.lt_of_lt_of_le h.1 hlo6) fun h=>h.2)).mono fun b hb=>by
    have hz:=((Ext.refl w3).alloc #[.pointer p'] 33).size
    have hz2:(wr.drew).heap.size=wr.heap.size:=rfl
    rcases hb with h | h
    ·exact ⟨by have:=h.1;omega,h.2⟩
    exact ⟨by have:=h.2;omega,fun hh=>by have:=HH1L.out b hh;have:=h.1;omega⟩
   have hHd:=hHeld
   clear hHeld
   generalize w3.alloc (.cells #[.pointer p'] 33)=W6 at *
   generalize w3.heap.size=B6 at *
   have c6:W6.cell? ⟨_,0,none⟩=some (.pointer p'):=hb6.cell 0
   have l6:=hb6.lt
   have hbt6:=hHd.blk HBT.out id
   have t6:W6.cell? ⟨w.heap.size,0,none⟩=some (.pointer p):=hbt6.cell 0
   have lt6:=hbt6.lt
   have ft6:=hbt6.frozen 0
   have HT6:=Lib.hid hT6
   have HHD:=Lib.hid hHd
   have HB6:=Lib.hid hbt6
   have hzw6:=hHd.size
   clear hT6 hHd hbt6 hb6 ct lt_ ft a7 la
   go_upto_region 12 with fail
   have hset:St (fun b=>b=w.heap.size) W6 (W6.setCell ⟨w.heap.size,0,none⟩ (.pointer p')):=St.set (H:=fun b=>b=w.heap.size) (St.refl _ _) (p:=⟨w.heap.size,0,none⟩) (.inr rfl) _
   have hbt7:Blk (W6.setCell ⟨w.heap.size,0,none⟩ (.pointer p')) w.heap.size 33 #[.pointer p']:=HB6.out.QaN 0 _
   clear c6 l6 t6 lt6 ft6
   generalize W6.setCell ⟨w.heap.size,0,none⟩ (.pointer p')=W7 at *
   obtain ⟨-,s7,k7⟩:=HSS.out W6 HHD.out
   have s8:W7.cell? ⟨w.heap.size+1,7,none⟩=some (.slice (some ⟨b,o,none⟩) gs.length gpc):=(hset.cell (by omega) (by omega)).trans s7
   have k8:W7.cell? ⟨b,o+j,none⟩=some (.string k):=(hset.cell (by omega) hbt).trans k7
   have l8:w.heap.size+1<W7.heap.size:=by have:=hset.size;omega
   have l9:b<W7.heap.size:=by have:=hset.size;omega
   have hz67:=hset.size
   have hM7:MapAt H1 W7 M (QbO (Qau es0 (es.map LE.ent)) (gs.take j)):=(HT.out.map.st HHD.out (fun b hb=>hb.elim) id).st hset (fun b hb=>by rw [hb];exact hHt) (by omega)
   have hd7:=Qjh hM7 (fun b hb=>by have:=HH1L.out b hb;omega) (by rw [←HT.out.ents];exact HT.out.ok.sorted) hlen k
   have HD7:=Lib.hid hd7
   have HT7:=Lib.hid ((HT6.out.agree fun b hb=>hset.block b hb.1 fun e=>hb.2 (by rw [e];exact hHt)).mono (G:=NH H1 W7) fun b hb=>⟨by have:=hb.1;omega,hb.2⟩)
   have HBT7:=Lib.hid hbt7
   have HST7:=Lib.hid (HST.out.trans ((HHD.out.mono fun i _ hi=>hi.elim).trans (hset.mono fun i _ hi=>.inl hi)))
   clear hset hbt7 s7 k7 hM7 hd7
   go_wp2_with fail
   refine HD7.out.mono ?_
   rintro e w8 ⟨rfl,hM8,hst8⟩
   have hti:TI H1 M (QbO (Qau es0 (es.map LE.ent)) (gs.take (j+1))) T' w8:=by
    refine ⟨?_,(HT7.out.agree fun b hb=>hst8.block b hb.1 fun e=>hb.2 (by rw [e];exact hHM)).mono fun b hb=>⟨Nat.lt_of_lt_of_le hb.1 hst8.size,hb.2⟩,HD'.out.ok HT.out.ok,?_⟩
    ·rw [List.take_add_one,HK.out]
     show MapAt H1 w8 M (QbO _ (gs.take j++[k]))
     rw [Qcp];exact hM8
    rw [HD'.out.ents HT.out.ok,HT.out.ents,List.take_add_one,HK.out]
    show _=QbO _ (gs.take j++[k])
    rw [Qcp]
   have HTI8:=Lib.hid hti
   have HBT8:=Lib.hid (hst8.blk HBT7.out (by omega))
   have HST8:=Lib.hid (HST7.out.trans (hst8.mono fun i _ hi=>.inr hi))
   clear hti hM8 hst8 s8 k8 l8 l9
   go_wp2_with fail
   go_roundw
   case rel=>exact ⟨j+1,T',p',by go_num,hlt,HTI8,HQ',HBT8,HST8⟩
   simp [intOf];omega
  go_simp
  skip
  refine hK.out _ _ (hHeld.alloc _ _) (fun hHeld=>?_)
  clear hK K
  try simp only [Act.put,List.setIfInBounds_toArray,List.set_cons_zero,List.set_cons_succ]
  refine Qaa (i:=6) (by kernel_rfl) rfl (by rfl) (fun K hK=>?_)
  go_simp
  (refine (HDEL.out _ (((Ext.refl wr).drew).alloc _ _)).mono ?_;rintro e w3 ⟨T',rfl,hd',hT',hx3'⟩;have hx3:=(((Ext.refl wr).drew).alloc _ _).trans hx3';obtain ⟨p',hq'⟩:=Qar T';have HD':=Lib.hid hd';have HT':=Lib.hid hT';have HX3:=Lib.hid hx3;have HQ':=Lib.hid hq';dsimp only [QaC];rw [hq'];have hb6:Blk w3 wr.heap.size 33 #[.pointer none]:=(Blk.new wr.drew 33 #[.pointer none]).ext hx3';have c6:w3.cell? ⟨wr.heap.size,0,none⟩=some (.pointer none):=hb6.cell 0;have f6:=hb6.frozen 0;have l6:=hb6.lt;clear hd' hT' hx3 hx3' hq')
  refine hK.out _ _ (HX3.out.st _) (fun hHeld=>?_)
  clear hK K
  try simp only [Act.put,List.setIfInBounds_toArray,List.set_cons_zero,List.set_cons_succ]
  refine Qab 7 (some 57) HSS hHeld ?_
  refine Qab 8 (some 65) HSS hHeld ?_
  refine Qab 9 (some 66) HSS hHeld ?_
  refine Qaa (i:=11) (by kernel_rfl) rfl (by rfl) (fun K hK=>?_)
  go_simp
  skip
  refine hK.out _ _ (hHeld.set (p:=⟨wr.heap.size,0,none⟩) (.inl (Nat.le_refl _)) _) (fun hHeld=>?_)
  clear hK K
  try simp only [Act.put,List.setIfInBounds_toArray,List.set_cons_zero,List.set_cons_succ]
  refine Qab 12 (some 12) HSS hHeld ?_
  refine wpAnyH_done (by kernel_rfl) ?_ _
  have hlo6:wr.heap.size≤wr.heap.size:=Nat.le_refl _
  have hz3:wr.heap.size+1≤w3.heap.size:=by omega
  have hT6:IsT (w3.setCell ⟨wr.heap.size,0,none⟩ (.pointer p')) (NH H1 (w3.setCell ⟨wr.heap.size,0,none⟩ (.pointer p'))) T':=(HT'.out.agree (Agree.setCell w3 ⟨wr.heap.size,0,none⟩ _ (by
    rintro (h | h)
    ·have h1:wr.heap.size<wr.heap.size:=h.1
     omega
    have h1:wr.heap.size+1≤wr.heap.size:=by have:=h.1;simpa using this
    omega))).mono fun b hb=>by
   rw [NH,World.size_setCell]
   rcases hb with h | h
   ·exact ⟨by have:=h.1;omega,h.2⟩
   exact ⟨h.2,fun hh=>by have:=HH1L.out b hh;have h1:wr.heap.size+1≤b:=by have:=h.1;simpa using this
                         omega⟩
  replace hb6:Blk (w3.setCell ⟨wr.heap.size,0,none⟩ (.pointer p')) wr.heap.size 33 #[.pointer p']:=hb6.QaN 0 _
  have hHd:=hHeld
  clear hHeld c6 f6 l6
  generalize w3.setCell ⟨wr.heap.size,0,none⟩ (.pointer p')=W6 at *
  have c6:W6.cell? ⟨_,0,none⟩=some (.pointer p'):=hb6.cell 0
  have l6:=hb6.lt
  have hbt6:=hHd.blk HBT.out id
  have t6:W6.cell? ⟨w.heap.size,0,none⟩=some (.pointer p):=hbt6.cell 0
  have lt6:=hbt6.lt
  have ft6:=hbt6.frozen 0
  have HT6:=Lib.hid hT6
  have HHD:=Lib.hid hHd
  have HB6:=Lib.hid hbt6
  have hzw6:=hHd.size
  clear hT6 hHd hbt6 hb6 ct lt_ ft a7 la
  go_upto_region 12 with fail
  have hset:St (fun b=>b=w.heap.size) W6 (W6.setCell ⟨w.heap.size,0,none⟩ (.pointer p')):=St.set (H:=fun b=>b=w.heap.size) (St.refl _ _) (p:=⟨w.heap.size,0,none⟩) (.inr rfl) _
  have hbt7:Blk (W6.setCell ⟨w.heap.size,0,none⟩ (.pointer p')) w.heap.size 33 #[.pointer p']:=HB6.out.QaN 0 _
  clear c6 l6 t6 lt6 ft6
  generalize W6.setCell ⟨w.heap.size,0,none⟩ (.pointer p')=W7 at *
  obtain ⟨-,s7,k7⟩:=HSS.out W6 HHD.out
  have s8:W7.cell? ⟨w.heap.size+1,7,none⟩=some (.slice (some ⟨b,o,none⟩) gs.length gpc):=(hset.cell (by omega) (by omega)).trans s7
  have k8:W7.cell? ⟨b,o+j,none⟩=some (.string k):=(hset.cell (by omega) hbt).trans k7
  have l8:w.heap.size+1<W7.heap.size:=by have:=hset.size;omega
  have l9:b<W7.heap.size:=by have:=hset.size;omega
  have hz67:=hset.size
  have hM7:MapAt H1 W7 M (QbO (Qau es0 (es.map LE.ent)) (gs.take j)):=(HT.out.map.st HHD.out (fun b hb=>hb.elim) id).st hset (fun b hb=>by rw [hb];exact hHt) (by omega)
  have hd7:=Qjh hM7 (fun b hb=>by have:=HH1L.out b hb;omega) (by rw [←HT.out.ents];exact HT.out.ok.sorted) hlen k
  have HD7:=Lib.hid hd7
  have HT7:=Lib.hid ((HT6.out.agree fun b hb=>hset.block b hb.1 fun e=>hb.2 (by rw [e];exact hHt)).mono (G:=NH H1 W7) fun b hb=>⟨by have:=hb.1;omega,hb.2⟩)
  have HBT7:=Lib.hid hbt7
  have HST7:=Lib.hid (HST.out.trans ((HHD.out.mono fun i _ hi=>hi.elim).trans (hset.mono fun i _ hi=>.inl hi)))
  clear hset hbt7 s7 k7 hM7 hd7
  go_wp2_with fail
  refine HD7.out.mono ?_
  rintro e w8 ⟨rfl,hM8,hst8⟩
  have hti:TI H1 M (QbO (Qau es0 (es.map LE.ent)) (gs.take (j+1))) T' w8:=by
   refine ⟨?_,(HT7.out.agree fun b hb=>hst8.block b hb.1 fun e=>hb.2 (by rw [e];exact hHM)).mono fun b hb=>⟨Nat.lt_of_lt_of_le hb.1 hst8.size,hb.2⟩,HD'.out.ok HT.out.ok,?_⟩
   ·rw [List.take_add_one,HK.out]
    show MapAt H1 w8 M (QbO _ (gs.take j++[k]))
    rw [Qcp];exact hM8
   rw [HD'.out.ents HT.out.ok,HT.out.ents,List.take_add_one,HK.out]
   show _=QbO _ (gs.take j++[k])
   rw [Qcp]
  have HTI8:=Lib.hid hti
  have HBT8:=Lib.hid (hst8.blk HBT7.out (by omega))
  have HST8:=Lib.hid (HST7.out.trans (hst8.mono fun i _ hi=>.inr hi))
  clear hti hM8 hst8 s8 k8 l8 l9
  go_wp2_with fail
  go_roundw
  case rel=>exact ⟨j+1,T',p',by go_num,hlt,HTI8,HQ',HBT8,HST8⟩
  simp [intOf];omega
 have g1:¬(j:Int)<(gs.length:Int):=by omega
 obtain rfl:j=gs.length:=by omega
 rw [List.take_length] at HT
 have hb2:=HST.out.blk HB21.out (by omega)
 have c2:wr.cell? ⟨w.heap.size+1+1,0,none⟩=some (.pointer none):=hb2.cell 0
 have l2:=hb2.lt
 have f2:=hb2.frozen 0
 have HB2':=Lib.hid hb2
 clear hb2
 go_wp2_with fail
 clear a7 la
 have qq:(wr.setCell ⟨w.heap.size+1+1,0,none⟩ (.pointer p)).cell? ⟨w.heap.size+1+1,0,none⟩=some (.pointer p):=World.cell?_setCell_same wr _ _ c2
 refine bodyPost_ret (v:=.tuple #[.agg #[.pointer p],.pointer (some ⟨M,0,none⟩)]) (by simp [results,Tryz.results27,go_sem,qq]) rfl ?_
 have hset:St (fun b=>b=w.heap.size+1+1) wr (wr.setCell ⟨w.heap.size+1+1,0,none⟩ (.pointer p)):=St.set (H:=fun b=>b=w.heap.size+1+1) (St.refl _ _) (p:=⟨w.heap.size+1+1,0,none⟩) (.inr rfl) _
 have hx:=(HX1.out.step HST.out fun b hb=>hH1lo b hb).step hset fun b hb=>by rw [hb];omega
 refine ⟨T,p,H1,M,rfl,HP.out,HT.out.st hset (fun b hb=>by rw [hb];exact hHt2) (by omega),fun b hb=>?_,HH01.out,hx,HUP.out,by omega⟩
 have h1:=HH1L.out b hb
 have h2:=hset.size
 omega
def Qol (q:Qy) (es:List Ent):List Ent:=es.filter fun e=>inQ q e.1
def Qox (B:QBs) (id:Nat) (es:List Ent) (w:World) (e:Ending) (w':World):Prop:=
 (hasB B id=false∧e=.returned (.tuple #[.slice none 0 0,.int .i64 12])∧Ext w w')∨
 (hasB B id=true∧∃ (q:Qy) (s:Sl) (ys:List LE),B[id - 1]? = some (q,true)∧e=.returned (.tuple #[.slice s.a ys.length s.c,.int .i64 0])∧ys.map LE.ent=Qol q es∧ES w' (Lt w'.heap.size) s ys∧Ext w w')
theorem QfJ {H:Nat→Prop} {w:World} {base Q M:Nat} {s:Sl} {B:QBs} {es:List Ent} (h:Qdv w base Q M s B) (hB:B.length≤1000000) (hM:MapAt H w M es) (hes:es.length≤1000000) {id:Nat} (hid:id≤18446744073709551615) :
  Calls Tryz.prog 36 #[.pointer (some ⟨Q,0,none⟩),.int .u64 (id:Int)] w (Qox B id es w):=by
 obtain ⟨i0,hi,hz0,hz1,hz2⟩:=info_parts Tryz.QaP
 have hhas:=Qey h hB hid
 have HHAS:=Lib.hid hhas
 clear hhas
 obtain ⟨b0,hb0⟩:∃ b0,hasB B id=b0:=⟨_,rfl⟩
 unfold Qox
 rw [hb0] at HHAS ⊢
 cases b0 with
 | false=>
   clear h hM
   go_enter Tryz.func36,Tryz.ntmps36
   go_wp2_with fail
   refine HHAS.out.mono ?_
   rintro e w1 ⟨rfl,hx1⟩
   have HX1:=Lib.hid hx1
   clear hx1
   go_wp2_with fail
   go_ret2
   exact .inl ⟨trivial,rfl,HX1.out⟩
 | true=>
   obtain ⟨i,rfl⟩:∃ i,id=i+1:=by
    cases id with
    | zero=>cases hb0
    | succ i=>exact ⟨i,rfl⟩
   obtain ⟨q,hp⟩:∃ q,B[i]? = some (q,true):=by
    rw [hasB] at hb0
    cases hp:B[i]? with
    | none=>rw [hp] at hb0;cases hb0
    | some p=>
      obtain ⟨q,b⟩:=p
      rw [hp] at hb0
      have:b=true:=hb0
      subst this
      exact ⟨q,rfl⟩
   have hq:=h.short _ (List.mem_of_getElem? hp)
   obtain ⟨sm,xs,hbm,hsm,hxm⟩:=hM.ex
   obtain ⟨g,cap,hse,hbg,lg,hn,hc,hcells⟩:=h.at hp
   have hiB:=(List.getElem?_eq_some_iff.1 hp).1
   subst hse
   have hxl:xs.length≤1000000:=by rw [←hxm,List.length_map] at hes;exact hes
   have lQ:=h.blk.lt
   have lM:=hbm.lt
   have HQB:=Lib.hid h.blk
   have HMB:=Lib.hid hbm
   have HSM:=Lib.hid hsm
   have HXM:=Lib.hid hxm
   have HCC:=Lib.hid hcells
   have HP:=Lib.hid hp
   obtain ⟨kd,lo,hi',op⟩:=q
   clear h hM hbm hsm hxm hp hcells hb0
   go_enter Tryz.func36,Tryz.ntmps36
   go_wp2_with fail
   refine HHAS.out.mono ?_
   rintro e w1 ⟨rfl,hx1⟩
   have HX1:=Lib.hid hx1
   clear hx1 HHAS
   go_wp2_with fail
   go_loopw [6,7] (fun v i wr=>∃ (j:Nat) (s:Sl) (ys:List LE),j≤xs.length∧i=.int .i64 j∧v=.slice s.a ys.length s.c∧Hid (GS w (((xs.map LE.ent).take j).filter fun e=>inQ ⟨kd,lo,hi',op⟩ e.1) s ys wr)) (fun _ i _=>xs.length - (intOf i).toNat)
   case atStart=>exact ⟨0,Sl.none,[],Nat.zero_le _,rfl,rfl,Lib.hid ⟨OE.nil _ _,fun b h=>by simp [Sl.row] at h,rfl,HX1.out⟩⟩
   obtain ⟨j,s,ys,hj,rfl,rfl,HS⟩:=hrel
   have hyl:ys.length≤xs.length:=by
    have h1:ys.length=(((xs.map LE.ent).take j).filter fun e=>inQ ⟨kd,lo,hi',op⟩ e.1).length:=by rw [←HS.out.es_,List.length_map]
    have h2:=List.length_filter_le (fun e:Ent=>inQ ⟨kd,lo,hi',op⟩ e.1) ((xs.map LE.ent).take j)
    rw [List.length_take,List.length_map] at h2
    omega
   have hxr:=HS.out.ext
   have cM:wr.cell? ⟨M,0,none⟩=some (.slice sm.a xs.length sm.c):=(HMB.out.ext hxr).cell 0
   have cQ:wr.cell? ⟨Q,0,none⟩=some (.pointer (some ⟨M,0,none⟩)):=(HQB.out.ext hxr).cell 0
   have hzr:=hxr.size
   have lQr:Q<wr.heap.size:=by omega
   have lMr:M<wr.heap.size:=by omega
   have HXR:=Lib.hid hxr
   clear hxr
   by_cases hlt:j<xs.length
   ·have hjl:(j:Int)<(xs.length:Int):=by omega
    obtain ⟨x,hxj⟩:∃ x,xs[j]? = some x:=⟨_,List.getElem?_eq_getElem hlt⟩
    obtain ⟨b,o,ha,hbl,hlc,hcm,k0,hv,hrv,hks⟩:=HSM.out.at hxj
    obtain ⟨sa,sc⟩:=sm
    dsimp only at ha hlc hcm
    subst ha
    have hxe:(xs.map LE.ent)[j]? = some x.ent:=by rw [List.getElem?_map,hxj];rfl
    have HXJ:=Lib.hid hxe
    have HRV:=Lib.hid ((hrv.agree (HXR.out.agree fun b hb=>hb.1)).mono fun b hb=>hb.1)
    have hbl':b<w.heap.size:=hbl.1
    have hblr:b<wr.heap.size:=by omega
    have hin:=fun W=>QfI ⟨kd,lo,hi',op⟩ x.k hq hks W
    have HIN:=Lib.hid hin
    have HV:=Lib.hid hv
    have HK0:=Lib.hid k0
    have HSS:=Lib.hid (show ∀ W,Ext wr W→W.cell? ⟨Q,0,none⟩=some (.pointer (some ⟨M,0,none⟩))∧W.cell? ⟨Q,1,none⟩=some (.slice (some ⟨g,0,none⟩) B.length cap)∧W.cell? ⟨M,0,none⟩=some (.slice (some ⟨b,o,none⟩) xs.length sc)∧W.cell? ⟨b,o+j*7,none⟩=some (.string x.k)∧
      W.cell? ⟨g,i*5,none⟩=some (.int .i64 kd)∧W.cell? ⟨g,i*5+1,none⟩=some (.string lo)∧W.cell? ⟨g,i*5+2,none⟩=some (.string hi')∧W.cell? ⟨g,i*5+3,none⟩=some (.bool op) from fun W hW=>by
     have hx:=HXR.out.trans hW
     exact ⟨(HQB.out.ext hx).cell 0,(HQB.out.ext hx).cell 1,(HMB.out.ext hx).cell 0,(hx.cell hbl').trans HK0.out,(hx.cell lg).trans (HCC.out 0 _ rfl),(hx.cell lg).trans (HCC.out 1 _ rfl),(hx.cell lg).trans (HCC.out 2 _ rfl),(hx.cell lg).trans (HCC.out 3 _ rfl)⟩)
    have g2:(0:Int)≤(i:Int):=by omega
    have g3:(i:Int)<(B.length:Int):=by omega
    have hw1:IntKind.i64.wrap ((i:Int)+1)=(i:Int)+1:=by rw [IntKind.wrap_i64];omega
    have hw2:IntKind.i64.wrap (i:Int)=(i:Int):=by rw [IntKind.wrap_i64];omega
    obtain ⟨bq,hbq⟩:∃ bq,inQ ⟨kd,lo,hi',op⟩ x.k=bq:=⟨_,rfl⟩
    have HPX:=Lib.hid (show (fun e:Ent=>inQ ⟨kd,lo,hi',op⟩ e.1) x.ent=bq from hbq)
    rw [hbq] at HIN
    clear hxj hrv hxe hv k0 hin hbl hbq
    go_wp2_with fail
    refine wp_region_held_drew (S:=(fun w'=>Ext wr w')) (by kernel_rfl) (((Ext.refl wr).drew)) (fun hHeld=>?_)
    refine Qab 0 (some 24) HSS hHeld ?_
    refine Qab 1 (some 25) HSS hHeld ?_
    refine Qab 2 (some 26) HSS hHeld ?_
    refine Qab 3 (some 27) HSS hHeld ?_
    refine Qab 4 (some 28) HSS hHeld ?_
    refine Qab 5 (some 29) HSS hHeld ?_
    refine Qab 6 (some 30) HSS hHeld ?_
    refine Qab 7 (some 31) HSS hHeld ?_
    refine Qab 8 (some 32) HSS hHeld ?_
    refine Qab 9 (some 33) HSS hHeld ?_
    refine Qab 10 (some 34) HSS hHeld ?_
    refine Qab 11 (some 35) HSS hHeld ?_
    refine Qab 12 (some 36) HSS hHeld ?_
    refine Qab 13 (some 37) HSS hHeld ?_
    refine Qab 14 (some 38) HSS hHeld ?_
    refine Qab 15 (some 39) HSS hHeld ?_
    refine Qab 16 (some 40) HSS hHeld ?_
    refine Qab 17 (some 41) HSS hHeld ?_
    refine Qab 18 (some 42) HSS hHeld ?_
    refine Qab 19 (some 43) HSS hHeld ?_
    refine Qab 20 (some 44) HSS hHeld ?_
    refine Qaa (i:=21) (by kernel_rfl) rfl (by rfl) (fun K hK=>?_)
    go_simp
    (refine (HIN.out _).mono ?_;rintro e wz ⟨rfl,hxz⟩;have HXZ:=Lib.hid (((Ext.refl wr).drew).trans hxz);clear hxz)
    refine hK.out _ _ (HXZ.out) (fun hHeld=>?_)
    clear hK K
    try simp only [Act.put,List.setIfInBounds_toArray,List.set_cons_zero,List.set_cons_succ]
    refine wpAnyH_done (by kernel_rfl) ?_ _
    clear hHeld
    have hzz:=HXZ.out.size
    obtain ⟨z0,z1,z2,z3,z4,z5,z6,z7⟩:=HSS.out wz HXZ.out
    have hv:=HV.out.agree (F:=Lt w.heap.size) ((HXR.out.trans HXZ.out).agree fun b hb=>hb) hbl'
    obtain ⟨v0,v1,v2,v3,v4,v5⟩:=hv
    have lbz:b<wz.heap.size:=by omega
    have lQz:Q<wz.heap.size:=by omega
    have lMz:M<wz.heap.size:=by omega
    clear HIN HSS cM cQ z4 z5 z6 z7 z1
    cases bq with
    | true=>
      have h63:ys.length+1≤maxLen:=by unfold maxLen;omega
      have hby:(ys.length+1)*104≤140737488355328:=by omega
      have hx1:Ext wr (wz.alloc (.cells (LE.cells x).toArray 47)):=HXZ.out.alloc _ _
      have HX2:=Lib.hid hx1
      have HOWN:=Lib.hid (HS.out.own.ext hx1).own
      have HN:=Lib.hid (Blk.new wz 47 (LE.cells x).toArray)
      clear hx1
      go_wp2_with (at_builtin;refine Qae _ rfl (.tmp 46) (.tmp 57) 50 rfl 0 47 i0 _ 7 104 Tryz.underlying50 hi hz0 hz1 hz2 rfl (by decide) s ys.length (Qaf ys) rfl HOWN.out (fun b=>b=wz.heap.size) ⟨some ⟨wz.heap.size,0,none⟩,1⟩ 1 (LE.cells x) rfl (Rd.block HN.out (by decide) rfl) (LE.one _) h63 hby (Nat.zero_le _) ?_;intro s3 w3 hown3 hwr3 hs3)
      have HS3:=Lib.hid (HS.out.step HX2.out HRV.out hks hby hown3 hwr3 hs3)
      clear hown3 hwr3 hs3
      go_roundw
      case rel=>exact ⟨j+1,s3,ys++[x],hlt,by go_num,by simp,Lib.hid (by rw [QhH (x:=x.ent) HXJ.out,HPX.out];exact HS3.out)⟩
      simp [intOf];omega
    | false=>
      go_wp2_with fail
      go_roundw
      case rel=>exact ⟨j+1,s,ys,hlt,by go_num,rfl,Lib.hid (by
       rw [QhH (x:=x.ent) HXJ.out,HPX.out]
       have h:=HS.out
       exact ⟨h.own.ext HXZ.out,h.row,by simpa using h.es_,h.ext.trans HXZ.out⟩)⟩
      simp [intOf];omega
   obtain rfl:j=xs.length:=by omega
   have HE:=HS
   rw [List.take_of_length_le (by rw [List.length_map];exact Nat.le_refl _)] at HE
   go_wp2_with fail
   go_ret2
   refine .inr ⟨trivial,⟨kd,lo,hi',op⟩,s,ys,HP.out,rfl,?_,HE.out.own.es.mono fun b hb=>hb.2,HE.out.ext⟩
   rw [HE.out.es_,HXM.out];rfl
end Go.Proofs.YtohajcflklejjaaGreat
namespace Go.Proofs.YtohajcflklejjaaGreat
open Go.RowKit Go.Shelf
set_option linter.unusedVariables false
set_option linter.unusedSimpArgs false
theorem QnG {W:World} {b p:Nat} {x:EV} (h:∀ c u,x.cells.toList[c]? = some u→W.cell? ⟨b,p+c,none⟩=some u) :
  W.cell? ⟨b,p,none⟩=some (.int .u64 (x.id:Int))∧W.cell? ⟨b,p+1,none⟩=some (.string x.x.c.k)∧W.cell? ⟨b,p+2,none⟩=some (.bool x.x.c.had)∧W.cell? ⟨b,p+3,none⟩=some (.int .i64 x.x.c.was.kind)∧W.cell? ⟨b,p+4,none⟩=some (.bool x.x.c.was.b)∧W.cell? ⟨b,p+5,none⟩=some (.int .i64 x.x.c.was.i)∧W.cell? ⟨b,p+6,none⟩=some (.string x.x.c.was.t)∧W.cell? ⟨b,p+7,none⟩=some (.slice x.x.slw.a x.x.c.was.l.length x.x.slw.c)∧W.cell? ⟨b,p+8,none⟩=some (.slice x.x.sow.a x.x.c.was.ok.length x.x.sow.c)∧W.cell? ⟨b,p+9,none⟩=some (.bool x.x.c.has)∧W.cell? ⟨b,p+10,none⟩=some (.int .i64 x.x.c.is_.kind)∧W.cell? ⟨b,p+11,none⟩=some (.bool x.x.c.is_.b)∧W.cell? ⟨b,p+12,none⟩=some (.int .i64 x.x.c.is_.i)∧W.cell? ⟨b,p+13,none⟩=some (.string x.x.c.is_.t)∧W.cell? ⟨b,p+14,none⟩=some (.slice x.x.sli.a x.x.c.is_.l.length x.x.sli.c)∧W.cell? ⟨b,p+15,none⟩=some (.slice x.x.soi.a x.x.c.is_.ok.length x.x.soi.c):=
 ⟨h 0 _ rfl,h 1 _ rfl,h 2 _ rfl,h 3 _ rfl,h 4 _ rfl,h 5 _ rfl,h 6 _ rfl,h 7 _ rfl,h 8 _ rfl,h 9 _ rfl,h 10 _ rfl,h 11 _ rfl,h 12 _ rfl,h 13 _ rfl,h 14 _ rfl,h 15 _ rfl⟩
theorem QmU {xs:List EV} {i:Nat} {x:EV} (hx:xs[i]? = some x) {c:Nat} (hc:c<16):(QbG xs)[i*16+c]? = x.cells.toList[c]?:=by
 have hsp:QbG xs=QbG (xs.take i)++(x.cells.toList++QbG (xs.drop (i+1))):=by
  have e:xs=xs.take i++x :: xs.drop (i+1):=by
   obtain ⟨h1,h2⟩:=List.getElem?_eq_some_iff.1 hx
   conv=>lhs;rw [←List.take_append_drop i xs,List.drop_eq_getElem_cons h1,h2]
  conv=>lhs;rw [e]
  simp [QbG]
 have hi:i<xs.length:=(List.getElem?_eq_some_iff.1 hx).1
 have hl:(QbG (xs.take i)).length=i*16:=by rw [Qlx,List.length_take];congr 1;omega
 rw [hsp,List.getElem?_append_right (by rw [hl];omega),hl,show i*16+c - i*16=c from by omega,List.getElem?_append_left (by simpa using hc)]
theorem EVS.at {w:World} {F:Nat→Prop} {s:Sl} {xs:List EV} (h:EVS w F s xs) {i:Nat} {x:EV} (hx:xs[i]? = some x) :
  ∃ b o,s.a=some ⟨b,o,none⟩∧F b∧xs.length≤s.c∧s.c≤maxLen∧CR w F x.x∧∀ c u,x.cells.toList[c]? = some u→w.cell? ⟨b,o+i*16+c,none⟩=some u:=by
 obtain ⟨b,o,h1,h2,h3⟩:=h.rd
 have hi:i<xs.length:=(List.getElem?_eq_some_iff.1 hx).1
 obtain ⟨e1,e2,e3⟩:=h1.eq (by omega)
 refine ⟨b,o,e1,h1.fits (by omega),e2,e3,h.vals x (List.mem_of_getElem? hx),fun c u hu=>?_⟩
 have hc:c<16:=(List.getElem?_eq_some_iff.1 hu).1
 have:=h3 (i*16+c) u (by rw [QmU hx hc];exact hu)
 rwa [Nat.add_assoc]
theorem Qcy {w:World} {s s':Sl} {xs ys:List EV} (hs:EVS w (Lt w.heap.size) s xs) (hs':EVS w (Lt w.heap.size) s' ys) (he:xs.map EV.p=ys.map EV.p) :
  Calls Tryz.prog 30 #[.slice s.a xs.length s.c,.slice s'.a ys.length s'.c] w fun e w'=>e=.returned (.bool true)∧Ext w w':=by
 have hf:=hs.few
 have hnl:xs.length≤140737488355328:=by omega
 have hlen:xs.length=ys.length:=by have:=congrArg List.length he;simpa using this
 have HS:=Lib.hid hs
 have HS':=Lib.hid hs'
 have HE:=Lib.hid he
 have HLEN:=Lib.hid hlen
 rw [←hlen]
 clear hs hs' he hlen hf
 go_enter Tryz.func30,Tryz.ntmps30
 go_wp2_with fail
 go_loopw [5] (fun q wr=>∃ j:Nat,q=.int .i64 j∧j≤xs.length∧Ext w wr) (fun q _=>xs.length - (intOf q).toNat)
 case atStart=>exact ⟨0,rfl,Nat.zero_le _,Ext.refl w⟩
 obtain ⟨j,rfl,hjl,hx⟩:=hrel
 have HXS:=Lib.hid hx
 by_cases h1:j<xs.length
 ·have g1:(j:Int)<(xs.length:Int):=by omega
  obtain ⟨x,hxx⟩:∃ x,xs[j]? = some x:=⟨_,List.getElem?_eq_getElem h1⟩
  obtain ⟨y,hyy⟩:∃ y,ys[j]? = some y:=⟨_,List.getElem?_eq_getElem (by rw [←HLEN.out];exact h1)⟩
  have hxy:x.p=y.p:=by
   have h1:(xs.map EV.p)[j]? = some x.p:=by rw [List.getElem?_map,hxx];rfl
   have h2:(ys.map EV.p)[j]? = some y.p:=by rw [List.getElem?_map,hyy];rfl
   rw [HE.out,h2] at h1
   exact (Option.some.inj h1).symm
  obtain ⟨b,o,hg,lb,hc,hcm,hcr,hcl⟩:=HS.out.at hxx
  obtain ⟨b',o',hg',lb',hc',hcm',hcr',hcl'⟩:=HS'.out.at hyy
  rw [←HLEN.out] at hc'
  obtain ⟨id,⟨⟨k,had,was,has,is_⟩,slw,sow,sli,soi⟩⟩:=x
  obtain ⟨yid,⟨yc,yslw,ysow,ysli,ysoi⟩⟩:=y
  obtain ⟨hxi,hxc⟩:=Prod.mk.inj hxy
  dsimp only at hxi hxc
  subst hxi hxc
  obtain ⟨sa,sc⟩:=s
  obtain ⟨sa',sc'⟩:=s'
  dsimp only at hg hg' hc hc' hcm hcm'
  subst hg hg'
  have lb:b<wr.heap.size:=Nat.lt_of_lt_of_le lb hx.size
  have lb':b'<wr.heap.size:=Nat.lt_of_lt_of_le lb' hx.size
  have hag:Agree (Lt w.heap.size) w wr:=hx.agree fun _ h=>h
  have hsm:∀ (W:World) (b1 b2:Nat),Ext wr W→Blk W b1 54 (CE.cells ⟨⟨k,had,was,has,is_⟩,slw,sow,sli,soi⟩)→Blk W b2 54 (CE.cells ⟨⟨k,had,was,has,is_⟩,yslw,ysow,ysli,ysoi⟩)→
    Calls Tryz.prog 61 #[.slice (some ⟨b1,0,none⟩) 1 1,.slice (some ⟨b2,0,none⟩) 1 1] W fun e w'=>e=.returned (.bool true)∧Ext W w':=fun W b1 b2 hW h1 h2=>by
   have hag2:Agree (Lt w.heap.size) w W:=hag.trans (hW.agree fun b hb=>Nat.lt_of_lt_of_le hb hx.size)
   have hlt:∀ i,Lt w.heap.size i→Lt W.heap.size i:=fun i hi=>Nat.lt_of_lt_of_le hi (Nat.le_trans hx.size hW.size)
   exact QkB (s:=⟨some ⟨b1,0,none⟩,1⟩) (s':=⟨some ⟨b2,0,none⟩,1⟩) (xs:=[⟨⟨k,had,was,has,is_⟩,slw,sow,sli,soi⟩]) (ys:=[⟨⟨k,had,was,has,is_⟩,yslw,ysow,ysli,ysoi⟩])
    ⟨(Rd.block (cs:=QbF [_]) (n:=1) (size:=15) (by simpa [QbF] using h1) (by decide) (by simp [QbF])).mono fun i hi=>by subst hi;exact h1.lt,fun u hu=>by obtain rfl:=List.mem_singleton.1 hu;exact (hcr.agree hag2).mono hlt,by simp⟩
    ⟨(Rd.block (cs:=QbF [_]) (n:=1) (size:=15) (by simpa [QbF] using h2) (by decide) (by simp [QbF])).mono fun i hi=>by subst hi;exact h2.lt,fun u hu=>by obtain rfl:=List.mem_singleton.1 hu;exact (hcr'.agree hag2).mono hlt,by simp⟩ rfl
  have hX:=fun (W:World) (hW:Ext wr W)=>QnG (x:=⟨id,⟨⟨k,had,was,has,is_⟩,slw,sow,sli,soi⟩⟩) fun c u hu=>(hW.cell lb).trans ((hx.cell (by assumption)).trans (hcl c u hu))
  have hY:=fun (W:World) (hW:Ext wr W)=>QnG (x:=⟨id,⟨⟨k,had,was,has,is_⟩,yslw,ysow,ysli,ysoi⟩⟩) fun c u hu=>(hW.cell lb').trans ((hx.cell (by assumption)).trans (hcl' c u hu))
  have HX0:=Lib.hid (show ∀ W,Ext wr W→W.cell? ⟨b,o+j*16,none⟩=some (.int .u64 (id:Int)) from fun W hW=>(hX W hW).1)
  have HY0:=Lib.hid (show ∀ W,Ext wr W→W.cell? ⟨b',o'+j*16,none⟩=some (.int .u64 (id:Int)) from fun W hW=>(hY W hW).1)
  have HX1:=Lib.hid (show ∀ W,Ext wr W→(W.cell? ⟨b,o+j*16+1,none⟩=some (.string k)∧W.cell? ⟨b,o+j*16+2,none⟩=some (.bool had)∧W.cell? ⟨b,o+j*16+3,none⟩=some (.int .i64 was.kind)∧W.cell? ⟨b,o+j*16+4,none⟩=some (.bool was.b)∧W.cell? ⟨b,o+j*16+5,none⟩=some (.int .i64 was.i)∧W.cell? ⟨b,o+j*16+6,none⟩=some (.string was.t)∧W.cell? ⟨b,o+j*16+7,none⟩=some (.slice slw.a was.l.length slw.c)∧W.cell? ⟨b,o+j*16+8,none⟩=some (.slice sow.a was.ok.length sow.c)∧W.cell? ⟨b,o+j*16+9,none⟩=some (.bool has)∧W.cell? ⟨b,o+j*16+10,none⟩=some (.int .i64 is_.kind)∧W.cell? ⟨b,o+j*16+11,none⟩=some (.bool is_.b)∧W.cell? ⟨b,o+j*16+12,none⟩=some (.int .i64 is_.i)∧W.cell? ⟨b,o+j*16+13,none⟩=some (.string is_.t)∧W.cell? ⟨b,o+j*16+14,none⟩=some (.slice sli.a is_.l.length sli.c)∧W.cell? ⟨b,o+j*16+15,none⟩=some (.slice soi.a is_.ok.length soi.c)) from fun W hW=>(hX W hW).2)
  have HY1:=Lib.hid (show ∀ W,Ext wr W→(W.cell? ⟨b',o'+j*16+1,none⟩=some (.string k)∧W.cell? ⟨b',o'+j*16+2,none⟩=some (.bool had)∧W.cell? ⟨b',o'+j*16+3,none⟩=some (.int .i64 was.kind)∧W.cell? ⟨b',o'+j*16+4,none⟩=some (.bool was.b)∧W.cell? ⟨b',o'+j*16+5,none⟩=some (.int .i64 was.i)∧W.cell? ⟨b',o'+j*16+6,none⟩=some (.string was.t)∧W.cell? ⟨b',o'+j*16+7,none⟩=some (.slice yslw.a was.l.length yslw.c)∧W.cell? ⟨b',o'+j*16+8,none⟩=some (.slice ysow.a was.ok.length ysow.c)∧W.cell? ⟨b',o'+j*16+9,none⟩=some (.bool has)∧W.cell? ⟨b',o'+j*16+10,none⟩=some (.int .i64 is_.kind)∧W.cell? ⟨b',o'+j*16+11,none⟩=some (.bool is_.b)∧W.cell? ⟨b',o'+j*16+12,none⟩=some (.int .i64 is_.i)∧W.cell? ⟨b',o'+j*16+13,none⟩=some (.string is_.t)∧W.cell? ⟨b',o'+j*16+14,none⟩=some (.slice ysli.a is_.l.length ysli.c)∧W.cell? ⟨b',o'+j*16+15,none⟩=some (.slice ysoi.a is_.ok.length ysoi.c)) from fun W hW=>(hY W hW).2)
  have h12:∀ (X Y:Array Value),Ext wr ((wr.alloc (.cells X 54)).alloc (.cells Y 54)).drew∧Blk ((wr.alloc (.cells X 54)).alloc (.cells Y 54)).drew wr.heap.size 54 X∧Blk ((wr.alloc (.cells X 54)).alloc (.cells Y 54)).drew (wr.heap.size+1) 54 Y:=fun X Y=>
   ⟨(((Ext.refl wr).alloc _ _).alloc _ _).drew,((Blk.new wr _ _).ext ((Ext.refl _).alloc _ _)).ext ((Ext.refl _).drew),by
     have:=Blk.new (wr.alloc (.cells X 54)) 54 Y
     rw [World.size_alloc] at this
     exact this.ext ((Ext.refl _).drew)⟩
  have hsm1:=hsm _ _ _ (h12 (CE.cells ⟨⟨k,had,was,has,is_⟩,slw,sow,sli,soi⟩) (CE.cells ⟨⟨k,had,was,has,is_⟩,yslw,ysow,ysli,ysoi⟩)).1 (h12 _ _).2.1 (h12 _ _).2.2
  have hsm2:=hsm _ _ _ (h12 (CE.cells ⟨⟨k,had,was,has,is_⟩,yslw,ysow,ysli,ysoi⟩) (CE.cells ⟨⟨k,had,was,has,is_⟩,slw,sow,sli,soi⟩)).1 (h12 _ _).2.2 (h12 _ _).2.1
  dsimp only [CE.cells] at hsm1 hsm2
  have HSM1:=Lib.hid hsm1
  have HSM2:=Lib.hid hsm2
  have hid:((id:Int) != (id:Int))=false:=by simp
  clear hx hX hY hxx hyy hcr hcr' hcl hcl' hag hsm hxy h12 hsm1 hsm2
  go_wp2_with fail
  refine wp_region_held_drew (S:=(fun w'=>Ext wr w')) (by kernel_rfl) (((Ext.refl wr).drew)) (fun hHeld=>?_)
  refine Qah 0 (some 17) hHeld ?_
  refine Qah 1 (some 18) hHeld ?_
  refine Qah 2 (some 19) hHeld ?_
  refine Qah 3 (some 20) hHeld ?_
  refine Qab 4 (some 21) HX0 hHeld ?_
  refine Qah 5 (some 22) hHeld ?_
  refine Qah 6 (some 23) hHeld ?_
  refine Qah 7 (some 24) hHeld ?_
  refine Qah 8 (some 25) hHeld ?_
  refine Qab 9 (some 26) HY0 hHeld ?_
  refine Qah 10 (some 27) hHeld ?_
  refine Qah 11 (some 28) hHeld ?_
  refine Qah 12 (some 29) hHeld ?_
  refine Qah 13 (some 30) hHeld ?_
  refine Qah 14 (some 31) hHeld ?_
  refine Qah 15 (some 32) hHeld ?_
  refine Qab 16 (some 33) HX1 hHeld ?_
  refine Qah 18 (some 35) hHeld ?_
  refine Qah 19 (some 36) hHeld ?_
  refine Qah 20 (some 37) hHeld ?_
  refine Qah 21 (some 38) hHeld ?_
  refine Qab 22 (some 39) HY1 hHeld ?_
  refine QaL (i:=17) (j:=23) (by kernel_rfl) rfl rfl (by rfl) (by rfl) (fun K hK=>?_) (fun K hK=>?_)
  ·go_simp
   skip
   refine hK.out _ _ (hHeld.alloc _ _) (fun hHeld=>?_)
   clear hK K
   try simp only [Act.put,List.setIfInBounds_toArray,List.set_cons_zero,List.set_cons_succ]
   refine Qaa (i:=23) (by kernel_rfl) rfl (by rfl) (fun K hK=>?_)
   go_simp
   skip
   refine hK.out _ _ (hHeld.alloc _ _) (fun hHeld=>?_)
   clear hK K
   try simp only [Act.put,List.setIfInBounds_toArray,List.set_cons_zero,List.set_cons_succ]
   refine Qaa (i:=24) (by kernel_rfl) rfl (by rfl) (fun K hK=>?_)
   go_simp
   (refine HSM1.out.mono ?_;rintro e w6 ⟨rfl,hx6⟩)
   refine hK.out _ _ (hHeld.trans hx6) (fun hHeld=>?_)
   clear hK K
   try simp only [Act.put,List.setIfInBounds_toArray,List.set_cons_zero,List.set_cons_succ]
   refine Qah 25 (some 42) hHeld ?_
   refine Qah 26 (some 43) hHeld ?_
   refine wpAnyH_done (by kernel_rfl) ?_ _
   skip
   have HH:=Lib.hid hHeld
   clear hHeld
   go_wp2_with fail
   go_roundw
   case rel=>exact ⟨j+1,by go_num,h1,HXS.out.trans HH.out⟩
   simp [intOf];omega
  go_simp
  skip
  refine hK.out _ _ (hHeld.alloc _ _) (fun hHeld=>?_)
  clear hK K
  try simp only [Act.put,List.setIfInBounds_toArray,List.set_cons_zero,List.set_cons_succ]
  refine Qaa (i:=17) (by kernel_rfl) rfl (by rfl) (fun K hK=>?_)
  go_simp
  skip
  refine hK.out _ _ (hHeld.alloc _ _) (fun hHeld=>?_)
  clear hK K
  try simp only [Act.put,List.setIfInBounds_toArray,List.set_cons_zero,List.set_cons_succ]
  refine Qaa (i:=24) (by kernel_rfl) rfl (by rfl) (fun K hK=>?_)
  go_simp
  (refine HSM2.out.mono ?_;rintro e w6 ⟨rfl,hx6⟩)
  refine hK.out _ _ (hHeld.trans hx6) (fun hHeld=>?_)
  clear hK K
  try simp only [Act.put,List.setIfInBounds_toArray,List.set_cons_zero,List.set_cons_succ]
  refine Qah 25 (some 42) hHeld ?_
  refine Qah 26 (some 43) hHeld ?_
  refine wpAnyH_done (by kernel_rfl) ?_ _
  skip
  have HH:=Lib.hid hHeld
  clear hHeld
  go_wp2_with fail
  go_roundw
  case rel=>exact ⟨j+1,by go_num,h1,HXS.out.trans HH.out⟩
  simp [intOf];omega
 have g1:¬(j:Int)<(xs.length:Int):=by omega
 obtain rfl:j=xs.length:=by omega
 go_wp2_with fail
 go_ret
 exact ⟨rfl,hx⟩
end Go.Proofs.YtohajcflklejjaaGreat
namespace Go.Proofs.YtohajcflklejjaaGreat
open Go.RowKit
set_option linter.unusedVariables false
set_option linter.unusedSimpArgs false
def evF:Nat→QBs→List Chg→List (Nat × Chg)
 | _,[],_=>[]
 | n,p :: r,C=>(if p.2 then (C.filter fun c=>inQ p.1 c.k).map fun c=>(n+1,c) else [])++evF (n+1) r C
theorem Qjm (p:Qy × Bool) (C:List Chg):∀ (A:QBs) (n:Nat),evF n (A++[p]) C=evF n A C++if p.2 then (C.filter fun c=>inQ p.1 c.k).map fun c=>(n+A.length+1,c) else []
 | [],n=>by simp [evF]
 | q :: A,n=>by
   have ih:=Qjm p C A (n+1)
   rw [List.cons_append,evF,evF,ih,List.length_cons,show n+1+A.length+1=n+(A.length+1)+1 by omega,List.append_assoc]
theorem Qn8 {i n k B:Nat} (hi:i<B) (hk:k≤n) (hB:B≤300) (hn:n≤1000000):i*n+k≤300000000:=by
 have h1:i*n≤299*1000000:=Nat.mul_le_mul (by omega) hn
 omega
theorem QmR {i n:Nat} (hi:i≤300) (hn:n≤1000000):i*n≤300000000:=Nat.mul_le_mul hi hn
def QnT (base Q M':Nat) (s:Sl) (B:QBs) (C:List Chg) (w:World) (e:Ending) (w':World):Prop:=
 ∃ (r:Sl) (evs:List EV),e=.returned (.slice r.a evs.length r.c)∧evs.map EV.p=evF 0 B C∧Qdv w' base Q M' s B∧St (fun b=>b=Q) w w'∧EVS w' (Lt w'.heap.size) r evs
theorem Qf4 {H H':Nat→Prop} {w:World} {base Q M M':Nat} {s:Sl} {B:QBs} {es es':List Ent} (h:Qdv w base Q M s B) (hB:B.length≤300) (hM:MapAt H w M es) (hM':MapAt H' w M' es') (hes:es.length≤300000) (hes':es'.length≤300000) (hso:Sorted es) (hso':Sorted es') (hHQ:H Q) (hHQ':H' Q) :
  Calls Tryz.prog 35 #[.pointer (some ⟨Q,0,none⟩),.pointer (some ⟨M',0,none⟩)] w (QnT base Q M' s B (QoT es es') w):=by
 obtain ⟨i0,hi,hz0,hz1,hz2⟩:=info_parts Tryz.QhN
 obtain ⟨sm,xs,hbm,hsm,rfl⟩:=hM.ex
 obtain ⟨sn,ys,hbn,hsn,rfl⟩:=hM'.ex
 rw [List.length_map] at hes hes'
 obtain ⟨C,hC⟩:∃ C,QoT (xs.map LE.ent) (ys.map LE.ent)=C:=⟨_,rfl⟩
 have hCl:C.length≤600000:=by
  rw [←hC,←Qiz hso hso']
  have:=QdY (xs.map LE.ent) (ys.map LE.ent)
  rw [List.length_map,List.length_map] at this
  omega
 have hch:=fun W (hW:Ext w W)=>Qok (w:=W) (F:=fun b=>b<w.heap.size∧b≠Q) (fun b hb=>Nat.lt_of_lt_of_le hb.1 hW.size) ((hsm.agree (hW.agree fun b hb=>hb.1)).mono fun b hb=>⟨hb.1,fun e=>hb.2 (e▸hHQ)⟩) ((hsn.agree (hW.agree fun b hb=>hb.1)).mono fun b hb=>⟨hb.1,fun e=>hb.2 (e▸hHQ')⟩) hes hes' hso hso'
 rw [hC] at hch ⊢
 have lQ:=h.blk.lt
 have lM:=hbm.lt
 have lM':=hbn.lt
 have HCH:=Lib.hid hch
 have HRF:=Lib.hid h
 have HMB:=Lib.hid hbm
 have HNB:=Lib.hid hbn
 have cQ0:w.cell? ⟨Q,0,none⟩=some (.pointer (some ⟨M,0,none⟩)):=h.blk.cell 0
 have cM0:w.cell? ⟨M,0,none⟩=some (.slice sm.a xs.length sm.c):=hbm.cell 0
 have cN0:w.cell? ⟨M',0,none⟩=some (.slice sn.a ys.length sn.c):=hbn.cell 0
 have HS0:=Lib.hid (show ∀ W,Ext w W→W.cell? ⟨Q,0,none⟩=some (.pointer (some ⟨M,0,none⟩))∧W.cell? ⟨M,0,none⟩=some (.slice sm.a xs.length sm.c)∧W.cell? ⟨M',0,none⟩=some (.slice sn.a ys.length sn.c) from fun W hW=>⟨(hW.cell lQ).trans cQ0,(hW.cell lM).trans cM0,(hW.cell lM').trans cN0⟩)
 clear h hM hM' hbm hbn hsm hsn hch hC hso hso' cQ0 cM0 cN0
 go_enter Tryz.func35,Tryz.ntmps35
 go_wp2_with fail
 refine wp_region_held_drew (S:=(fun w'=>Ext w w')) (by kernel_rfl) (((Ext.refl w).drew)) (fun hHeld=>?_)
 refine Qab 0 (some 9) HS0 hHeld ?_
 refine Qab 1 (some 10) HS0 hHeld ?_
 refine Qab 2 (some 11) HS0 hHeld ?_
 refine Qab 3 (some 12) HS0 hHeld ?_
 refine Qab 4 (some 13) HS0 hHeld ?_
 refine Qab 5 (some 14) HS0 hHeld ?_
 refine Qab 6 (some 15) HS0 hHeld ?_
 refine Qab 7 (some 16) HS0 hHeld ?_
 refine Qab 8 (some 17) HS0 hHeld ?_
 refine Qab 9 (some 18) HS0 hHeld ?_
 refine Qab 10 (some 19) HS0 hHeld ?_
 refine Qaa (i:=11) (by kernel_rfl) rfl (by rfl) (fun K hK=>?_)
 go_simp
 (refine (HCH.out _ hHeld).mono ?_;rintro e w2 ⟨r,cs,rfl,hcs,hx2,hCS⟩;have HX2:=Lib.hid (((Ext.refl w).drew).trans hx2);have HCM:=Lib.hid hcs;have HCS:=Lib.hid hCS;clear hcs hx2 hCS)
 refine hK.out _ _ (HX2.out) (fun hHeld=>?_)
 clear hK K
 try simp only [Act.put,List.setIfInBounds_toArray,List.set_cons_zero,List.set_cons_succ]
 refine Qab 12 (some 5) HS0 hHeld ?_
 refine wpAnyH_done (by kernel_rfl) ?_ _
 clear hHeld
 have hcl:cs.length≤600000:=by
  have:=congrArg List.length HCM.out
  rw [List.length_map] at this
  omega
 have hz2':=HX2.out.size
 go_wp2_with fail
 go_loopw [6,7] (fun v i wr=>∃ (j:Nat) (so:Sl) (evs:List EV),v=.slice so.a evs.length so.c∧i=.int .i64 j∧j≤B.length∧Hid (evs.length≤j*cs.length)∧Hid (evs.map EV.p=evF 0 (B.take j) C)∧Hid (∀ x∈evs,x.x∈cs)∧Hid (wr.ownsRow w2.heap.size 56 16 (.slice so.a evs.length so.c) evs.length (QbG evs))∧Hid (Ext w2 wr)) (fun _ i _=>B.length - (intOf i).toNat)
 case atStart=>exact ⟨0,Sl.none,[],rfl,rfl,Nat.zero_le _,Lib.hid (Nat.zero_le _),Lib.hid rfl,Lib.hid (fun x hx=>by cases hx),Lib.hid (World.ownsRow_nil _ _ _ _),Lib.hid (Ext.refl _)⟩
 obtain ⟨j,so,evs,rfl,rfl,hj,HEL,HEP,HEC,HOW,HX⟩:=hrel
 obtain ⟨w3,hw3⟩:∃ w3,w3=wr:=⟨_,rfl⟩
 subst hw3
 have hxw:=HX2.out.trans HX.out
 have hzr:=hxw.size
 have hrf:=HRF.out.ext hxw
 have cQ1:w3.cell? ⟨Q,1,none⟩=some (.slice s.a B.length s.c):=hrf.blk.cell 1
 have cQ0:w3.cell? ⟨Q,0,none⟩=some (.pointer (some ⟨M,0,none⟩)):=hrf.blk.cell 0
 have fQ0:w3.frozen? ⟨Q,0,none⟩=false:=hrf.blk.frozen 0
 have lQ3:=hrf.blk.lt
 have HRF3:=Lib.hid hrf
 clear hrf hxw
 by_cases hlt:j<B.length
 ·have hltj:=hlt
  have g1:(j:Int)<(B.length:Int):=by omega
  obtain ⟨p,hp⟩:∃ p,B[j]? = some p:=⟨_,List.getElem?_eq_getElem hlt⟩
  have htk:B.take (j+1)=B.take j++[p]:=by rw [List.take_add_one,hp];rfl
  have hef:evF 0 (B.take (j+1)) C=evF 0 (B.take j) C++if p.2 then (C.filter fun c=>inQ p.1 c.k).map fun c=>(j+1,c) else []:=by
   rw [htk,Qjm,List.length_take,Nat.min_eq_left hj,Nat.zero_add]
  have HEF:=Lib.hid hef
  have hq:=HRF.out.short p (List.mem_of_getElem? hp)
  obtain ⟨g,cap,hse,hbg,lg,hn,hc,hcells⟩:=HRF.out.at hp
  subst hse
  have HCC:=Lib.hid hcells
  have hel0:evs.length≤j*cs.length+0:=HEL.out
  obtain ⟨⟨kd,lo,hi',op⟩,live⟩:=p
  clear hcells hp htk hef
  go_wp2_with fail
  go_loopw [6,8] (fun v i wk=>∃ (k:Nat) (st:Sl) (ev:List EV),v=.slice st.a ev.length st.c∧i=.int .i64 k∧k≤cs.length∧Hid (ev.length≤j*cs.length+k)∧Hid (ev.map EV.p=evs.map EV.p++if live then ((C.take k).filter fun c=>inQ ⟨kd,lo,hi',op⟩ c.k).map fun c=>(j+1,c) else [])∧Hid (∀ x∈ev,x.x∈cs)∧Hid (wk.ownsRow w2.heap.size 56 16 (.slice st.a ev.length st.c) ev.length (QbG ev))∧Hid (Ext w2 wk)) (fun _ i _=>cs.length - (intOf i).toNat)
  case atStart=>exact ⟨0,so,evs,rfl,rfl,Nat.zero_le _,Lib.hid hel0,Lib.hid (by simp),HEC,HOW,HX⟩
  obtain ⟨k,st,ev,rfl,rfl,hk,HVL,HVP,HVC,HVO,HXK⟩:=hrel
  have hzk:=HXK.out.size
  by_cases hltk:k<cs.length
  ·have g2:(k:Int)<(cs.length:Int):=by omega
   obtain ⟨x,hx⟩:∃ x,cs[k]? = some x:=⟨_,List.getElem?_eq_getElem hltk⟩
   obtain ⟨bl,ol,hsa,hFl,hlc,hlm,hcr,hcc⟩:=HCS.out.at hx
   obtain ⟨ra,rc⟩:=r
   dsimp only at hsa hlc hlm
   subst hsa
   have hFl':bl<w2.heap.size:=by
    rcases hFl with h | h
    ·have:=h.1;omega
    exact h.2
   have lbl:bl<wr.heap.size:=by omega
   have hxc:C[k]? = some x.c:=by rw [←HCM.out,List.getElem?_map,hx];rfl
   have htc:C.take (k+1)=C.take k++[x.c]:=by rw [List.take_add_one,hxc];rfl
   have HTC:=Lib.hid htc
   have hxm:x∈cs:=List.mem_of_getElem? hx
   have HXMEM:=Lib.hid hxm
   have hks:x.c.k.size≤maxLen:=hcr.key
   have hx23:=HXK.out
   have HCX:=Lib.hid (show ∀ W,Ext wr W→∀ c u,x.cells.toList[c]? = some u→W.cell? ⟨bl,ol+k*15+c,none⟩=some u from fun W hW c u hu=>((hx23.trans hW).cell hFl').trans (hcc c u hu))
   have lgr:g<wr.heap.size:=by omega
   have HSS:=Lib.hid (show ∀ W,Ext wr W→W.cell? ⟨Q,1,none⟩=some (.slice (some ⟨g,0,none⟩) B.length cap)∧W.cell? ⟨bl,ol+k*15,none⟩=some (.string x.c.k)∧
     W.cell? ⟨g,j*5,none⟩=some (.int .i64 kd)∧W.cell? ⟨g,j*5+1,none⟩=some (.string lo)∧W.cell? ⟨g,j*5+2,none⟩=some (.string hi')∧W.cell? ⟨g,j*5+3,none⟩=some (.bool op)∧W.cell? ⟨g,j*5+4,none⟩=some (.bool live) from fun W hW=>by
    have hxx:=(HX2.out.trans HXK.out).trans hW
    exact ⟨(HRF.out.blk.ext hxx).cell 1,HCX.out W hW 0 _ rfl,(hxx.cell lg).trans (HCC.out 0 _ rfl),(hxx.cell lg).trans (HCC.out 1 _ rfl),(hxx.cell lg).trans (HCC.out 2 _ rfl),(hxx.cell lg).trans (HCC.out 3 _ rfl),(hxx.cell lg).trans (HCC.out 4 _ rfl)⟩)
   obtain ⟨y0,y1,y2,y3,y4,y5,y6⟩:=HSS.out wr (Ext.refl _)
   have lQk:Q<wr.heap.size:=by omega
   have hwj:IntKind.i64.wrap (j:Int)=(j:Int):=by rw [IntKind.wrap_i64];omega
   clear hx hcc hcr hxc htc hxm hx23
   cases live with
   | false=>
     clear y0 y1 y2 y3 y4 y5 y6
     go_wp2_with fail
     refine wp_region_held_drew (S:=(fun w'=>Ext wr w')) (by kernel_rfl) (((Ext.refl wr).drew)) (fun hHeld=>?_)
     refine Qab 0 (some 36) HSS hHeld ?_
     refine Qab 1 (some 37) HSS hHeld ?_
     refine Qab 2 (some 38) HSS hHeld ?_
     refine Qab 3 (some 39) HSS hHeld ?_
     refine Qab 4 (some 40) HSS hHeld ?_
     refine Qab 5 (some 41) HSS hHeld ?_
     refine Qab 6 (some 42) HSS hHeld ?_
     refine Qab 7 (some 43) HSS hHeld ?_
     refine Qab 8 (some 44) HSS hHeld ?_
     refine QaX 9 (some 45) hHeld ?_
     refine QaX 10 (some 46) hHeld ?_
     refine QaX 11 (some 47) hHeld ?_
     refine QaX 12 (some 48) hHeld ?_
     refine QaX 13 (some 49) hHeld ?_
     refine QaX 14 (some 50) hHeld ?_
     refine QaX 15 (some 51) hHeld ?_
     refine QaX 16 (some 52) hHeld ?_
     refine QaX 17 (some 53) hHeld ?_
     refine QaX 18 (some 54) hHeld ?_
     refine QaX 19 (some 55) hHeld ?_
     refine QaX 20 (some 56) hHeld ?_
     refine QaX 21 (some 57) hHeld ?_
     refine QaX 22 (some 58) hHeld ?_
     refine Qab 23 (some 59) HSS hHeld ?_
     refine wpAnyH_done (by kernel_rfl) ?_ _
     have HXD:=Lib.hid hHeld
     clear hHeld
     go_wp2_with fail
     go_roundw
     case rel=>exact ⟨k+1,st,ev,rfl,by go_num,hltk,Lib.hid (by have:=HVL.out;omega),HVP,HVC,Lib.hid (Qad HVO.out (((Ext.refl wr).drew).agree fun b (hb:b<wr.heap.size)=>hb) (fun b hb=>(Qac HVO.out hb).2)),Lib.hid (HXK.out.drew)⟩
     simp [intOf];omega
   | true=>
     have hin:=fun W=>QfI ⟨kd,lo,hi',op⟩ x.c.k hq hks W
     obtain ⟨bq,hbq⟩:∃ bq,inQ ⟨kd,lo,hi',op⟩ x.c.k=bq:=⟨_,rfl⟩
     have HPX:=Lib.hid hbq
     rw [hbq] at hin
     have HIN:=Lib.hid hin
     clear hin hbq y0 y1 y2 y3 y4 y5 y6
     go_wp2_with fail
     refine wp_region_held_drew (S:=(fun w'=>Ext wr w')) (by kernel_rfl) (((Ext.refl wr).drew)) (fun hHeld=>?_)
     refine Qab 0 (some 36) HSS hHeld ?_
     refine Qab 1 (some 37) HSS hHeld ?_
     refine Qab 2 (some 38) HSS hHeld ?_
     refine Qab 3 (some 39) HSS hHeld ?_
     refine Qab 4 (some 40) HSS hHeld ?_
     refine Qab 5 (some 41) HSS hHeld ?_
     refine Qab 6 (some 42) HSS hHeld ?_
     refine Qab 7 (some 43) HSS hHeld ?_
     refine Qab 8 (some 44) HSS hHeld ?_
     refine Qab 9 (some 45) HSS hHeld ?_
     refine Qab 10 (some 46) HSS hHeld ?_
     refine Qab 11 (some 47) HSS hHeld ?_
     refine Qab 12 (some 48) HSS hHeld ?_
     refine Qab 13 (some 49) HSS hHeld ?_
     refine Qab 14 (some 50) HSS hHeld ?_
     refine Qab 15 (some 51) HSS hHeld ?_
     refine Qab 16 (some 52) HSS hHeld ?_
     refine Qab 17 (some 53) HSS hHeld ?_
     refine Qab 18 (some 54) HSS hHeld ?_
     refine Qab 19 (some 55) HSS hHeld ?_
     refine Qab 20 (some 56) HSS hHeld ?_
     refine Qab 21 (some 57) HSS hHeld ?_
     refine Qaa (i:=22) (by kernel_rfl) rfl (by rfl) (fun K hK=>?_)
     go_simp
     (refine (HIN.out _).mono ?_;rintro e wz ⟨rfl,hxz⟩;have HXZ:=Lib.hid (((Ext.refl wr).drew).trans hxz);clear hxz)
     refine hK.out _ _ (HXZ.out) (fun hHeld=>?_)
     clear hK K
     try simp only [Act.put,List.setIfInBounds_toArray,List.set_cons_zero,List.set_cons_succ]
     refine Qab 23 (some 59) HSS hHeld ?_
     refine wpAnyH_done (by kernel_rfl) ?_ _
     clear hHeld
     have hzz:=HXZ.out.size
     have HX3Z:=Lib.hid (HXK.out.trans HXZ.out)
     cases bq with
     | false=>
       go_wp2_with fail
       go_roundw
       case rel=>
        refine ⟨k+1,st,ev,rfl,by go_num,hltk,Lib.hid (by have:=HVL.out;omega),Lib.hid ?_,HVC,Lib.hid (Qad HVO.out (HXZ.out.agree fun b (hb:b<wr.heap.size)=>hb) (fun b hb=>(Qac HVO.out hb).2)),HX3Z⟩
        rw [HVP.out,HTC.out,List.filter_append]
        simp [HPX.out]
       simp [intOf];omega
     | true=>
       have hel:=HVL.out
       have hfm:=Qn8 (i:=j) (n:=cs.length) (k:=k) hltj hk (by omega) (by omega)
       have h63:ev.length+1≤maxLen:=by unfold maxLen;omega
       have hby:(ev.length+1)*216≤140737488355328:=by omega
       obtain ⟨d0,d1,d2,d3,d4,d5,d6,d7,d8,d9,d10,d11,d12,d13,d14⟩:=QnE (HCX.out wz HXZ.out)
       have lbz:bl<wz.heap.size:=by omega
       have hnA:Ext wr (wz.alloc (.cells (⟨j+1,x⟩:EV).cells 56)):=HXZ.out.alloc _ _
       have HOX:=Lib.hid (Qad HVO.out (hnA.agree fun b (hb:b<wr.heap.size)=>hb) (fun b hb=>(Qac HVO.out hb).2))
       have HBNW:=Lib.hid (Blk.new wz 56 (⟨j+1,x⟩:EV).cells)
       have HNA:=Lib.hid hnA
       have hbase:w2.heap.size≤(wz.alloc (.cells (⟨j+1,x⟩:EV).cells 56)).heap.size:=by rw [World.size_alloc];omega
       have hone:=Qjn (⟨j+1,x⟩:EV)
       have hwu:IntKind.u64.wrap (j:Int)=(j:Int):=by rw [IntKind.wrap_u64];omega
       have hwu1:IntKind.u64.wrap ((j:Int)+1)=(j:Int)+1:=by rw [IntKind.wrap_u64];omega
       clear hnA hel hfm HIN HSS
       go_wp2_with (at_builtin;refine Qae _ rfl (.tmp 60) (.tmp 69) 48 rfl w2.heap.size 56 i0 _ 16 216 Tryz.underlying48 hi hz0 hz1 hz2 rfl (by decide) st ev.length (QbG ev) rfl HOX.out (fun b=>b=wz.heap.size) ⟨some ⟨wz.heap.size,0,none⟩,1⟩ 1 (⟨j+1,x⟩:EV).cells.toList rfl (Rd.block HBNW.out (by decide) rfl) hone h63 hby hbase ?_;intro r2 wA hownA hwrA hsA2;have HOA:=Lib.hid hownA;have HWA:=Lib.hid hwrA;clear hownA hwrA hsA2)
       go_roundw
       case rel=>
        have hrow:∀ b,st.row=some b→w2.heap.size≤b:=fun b hb=>(Qac HVO.out hb).1
        refine ⟨k+1,r2,ev++[⟨j+1,x⟩],by rw [List.length_append,List.length_singleton],by go_num,hltk,Lib.hid (by have:=HVL.out;rw [List.length_append,List.length_singleton];omega),Lib.hid ?_,Lib.hid ?_,Lib.hid ?_,Lib.hid ?_⟩
        ·rw [List.map_append,HVP.out,HTC.out,List.filter_append]
         simp [HPX.out]
        ·intro y hy
         rcases List.mem_append.1 hy with hy | hy
         ·exact HVC.out y hy
         rw [List.mem_singleton] at hy;subst hy;exact HXMEM.out
        ·rw [List.length_append,List.length_singleton,Qgj];exact HOA.out
        exact (HXK.out.trans HNA.out).wr HWA.out hrow
       simp [intOf];omega
  obtain rfl:k=cs.length:=by omega
  go_wp2_with fail
  go_roundw
  case rel=>
   refine ⟨j+1,st,ev,rfl,by go_num,hltj,Lib.hid (by have:=HVL.out;rw [Nat.succ_mul];exact this),Lib.hid ?_,HVC,HVO,HXK⟩
   have hcl2:C.length=cs.length:=by have:=congrArg List.length HCM.out;rw [List.length_map] at this;exact this.symm
   rw [HEF.out,HVP.out,HEP.out,←hcl2,List.take_length]
  simp [intOf];omega
 obtain rfl:j=B.length:=by omega
 have hep:=HEP.out
 rw [List.take_length] at hep
 have HEP2:=Lib.hid hep
 clear hep
 go_wp2_with fail
 go_ret
 have hst:St (fun b=>b=Q) w3 (w3.setCell ⟨Q,0,none⟩ (.pointer (some ⟨M',0,none⟩))):=(St.refl (fun b=>b=Q) w3).set (p:=⟨Q,0,none⟩) (.inr rfl) _
 have hzs:=hst.size
 refine ⟨so,evs,rfl,HEP2.out,⟨HRF3.out.blk.QaN 0 _,Qad HRF3.out.own hst.agree fun b hb=>⟨(Qac HRF3.out.own hb).2,fun e=>HRF3.out.ne (by rw [←e];exact hb)⟩,HRF3.out.short⟩,((HX2.out.trans HX.out).st _).trans hst,⟨((Rd.Qav HOW.out).agree (hst.agree.mono fun b hb=>⟨hb.2,by have:=hb.1;omega⟩)).mono fun b hb=>Nat.lt_of_lt_of_le hb.2 hzs,fun x hx=>?_,?_⟩⟩
 ·have hv:∀ b,(b<w.heap.size∧b≠Q∨w.heap.size≤b∧b<w2.heap.size)→b<w2.heap.size∧¬b=Q:=fun b hb=>by
   rcases hb with h | h
   ·exact ⟨by have:=h.1;omega,h.2⟩
   exact ⟨h.2,by have:=h.1;omega⟩
  have hzx:=HX.out.size
  exact (((HCS.out.vals _ (HEC.out x hx)).agree (HX.out.agree fun b hb=>(hv b hb).1)).agree (hst.agree.mono fun b hb=>⟨by have:=(hv b hb).1;omega,(hv b hb).2⟩)).mono fun b hb=>by have:=(hv b hb).1;show b<_;omega
 have:=QmR (i:=B.length) (n:=cs.length) hB (by omega)
 have:=HEL.out
 omega
end Go.Proofs.YtohajcflklejjaaGreat
namespace Go.Proofs.YtohajcflklejjaaGreat
open Go.RowKit Go.Shelf Go.Maps
set_option linter.unusedVariables false
set_option linter.unusedSimpArgs false
attribute [local go_sem] Oper.semAt_some
theorem QhW {W:World} {b g i:Nat} {L:Qbc} {p:Nat × Iv} (hown:W.ownsMap Tryz.prog 34 ivR b g (mapD L)) (hp:L.find? (fun p=>p.1 == i)=some p) (hi:i≤18446744073709551615) :
  (Instr.lookup 35 (.map (some b)) (.int .u64 (i:Int)) true).run Tryz.prog W=.ok (.tuple #[p.2.v,.bool true]) W:=by
 obtain ⟨v,ps,hrun,hv⟩:=hown.look_ok QeE Tryz.underlying35 (QjT W) (QjA ⟨ByteArray.empty,ByteArray.empty,false⟩) (Qos i hi)
 rw [Qk4 hp] at hv
 have hh:Maps.has (mapD L) (Qc7 i)=true:=by
  rw [Qe4,List.any_eq_true]
  exact ⟨p,List.mem_of_find?_eq_some hp,List.find?_some (p:=fun p:Nat × Iv=>p.1 == i) hp⟩
 rw [hrun,QiL hv,hh]
theorem QhV {W:World} {mb:Option Nat} {g i:Nat} {L:Qbc} (hm:Qcn W mb g L) (hp:L.find? (fun p=>p.1 == i)=none) (hi:i≤18446744073709551615) :
  (Instr.lookup 35 (.map mb) (.int .u64 (i:Int)) true).run Tryz.prog W=.ok (.tuple #[.agg #[.string ByteArray.empty,.string ByteArray.empty,.bool false],.bool false]) W:=by
 cases mb with
 | none=>rw [Maps.look_nil true QeE Tryz.underlying35 (QjT W) (Qos i hi)];rfl
 | some b=>
   obtain ⟨v,ps,hrun,hv⟩:=World.ownsMap.look_ok hm QeE Tryz.underlying35 (QjT W) (QjA ⟨ByteArray.empty,ByteArray.empty,false⟩) (Qos i hi)
   have hh:Maps.has (mapD L) (Qc7 i)=false:=by
    rw [Qe4,List.any_eq_false]
    intro q hq hqi
    exact absurd hqi (by simpa using List.find?_eq_none.1 hp q hq)
   have hd:(mapD L).atKey (Qc7 i) (ivD ⟨ByteArray.empty,ByteArray.empty,false⟩)=ivD ⟨ByteArray.empty,ByteArray.empty,false⟩:=by
    simp only [mapD,DataW.atKey]
    rw [List.find?_map]
    have:((fun p:Lit × DataW Unit=>p.1.sameKey (Qc7 i))∘fun p:Nat × Iv=>(Qc7 p.1,ivD p.2))=fun p=>p.1 == i:=by
     funext q;exact QcU q.1 i
    rw [this,hp]
    rfl
   rw [hd] at hv
   rw [hrun,QiL hv,hh]
def Qf8 (l:List Ent) (w:World) (e:Ending) (w':World):Prop:=
 ∃ (s:Sl) (ys:List LE),e=.returned (.tuple #[.slice s.a ys.length s.c,.int .i64 0])∧ys.map LE.ent=l∧Ext w w'∧ES w' (In w.heap.size w'.heap.size) s ys
theorem QiY {w:World} {R:Nat} {T:RT} {g:Nat} {mb:Option Nat} {L:Qbc} (h:QaR w R T g mb L) {i:Nat} (hi:i≤18446744073709551615) (hp:L.find? (fun p=>p.1 == i)=none) :
  Calls Tryz.prog 19 #[.pointer (some ⟨R,0,none⟩),.int .u64 (i:Int)] w fun e w'=>e=.returned (.tuple #[.slice none 0 0,.int .i64 12])∧Ext w w':=by
 have hlk:=QhV h.map hp hi
 have r2:w.cell? ⟨R,2,none⟩=some (.map mb):=h.blk.cell 2
 have lR:=h.blk.lt
 clear h
 refine (callsIn_wide (n:=6)).1 ?_
 refine callsIn_of_wp_marks Tryz.func19 rfl trivial ?_ rfl
 simp only [Tryz.ntmps19,List.size_toArray,List.length_cons,List.length_nil,Nat.reduceAdd,Nat.reduceSub,Array.replicate_succ,Array.replicate_zero,List.push_toArray,List.append_toArray,List.nil_append,List.cons_append]
 gi_wp2_with fail
 refine ⟨.tuple #[.slice none 0 0,.int .i64 12],by simp [results,Tryz.f19,go_sem],rfl,(Ext.refl w).alloc _ _⟩
theorem Qid {w:World} {R:Nat} {T:RT} {g:Nat} {mb:Option Nat} {L:Qbc} {F:Nat→Prop} (h:QaR w R T g mb L) (hT:IsT w F T) (hF:∀ b,F b→b<w.heap.size) (ok:OkR T) (hl:(Qak T).length≤500000)
  {i:Nat} {iv:Iv} (hp:L.find? (fun p=>p.1 == i)=some (i,iv)) (hi64:i≤18446744073709551615) :
  Calls Tryz.prog 19 #[.pointer (some ⟨R,0,none⟩),.int .u64 (i:Int)] w (Qf8 (QaB iv.lo iv.hi iv.op (Qak T)) w):=by
 obtain ⟨i0,hi,hz0,hz1',hz2⟩:=info_parts Tryz.QaP
 obtain ⟨p,hpT⟩:=Qar T
 obtain ⟨b,rfl⟩:∃ b,mb=some b:=by
  cases mb with
  | none=>have:L=[]:=h.map;subst this;cases hp
  | some b=>exact ⟨b,rfl⟩
 have hlk:=QhW (show w.ownsMap Tryz.prog 34 ivR b g (mapD L) from h.map) hp hi64
 dsimp only at hlk
 have r2:w.cell? ⟨R,2,none⟩=some (.map (some b)):=h.blk.cell 2
 have r0:w.cell? ⟨R,0,none⟩=some (.pointer p):=by rw [←hpT];exact h.blk.cell 0
 have lR:=h.blk.lt
 have hra:=fun W=>Ql9 W T iv.lo iv.hi iv.op
 rw [QaC,hpT] at hra
 have HRA:=Lib.hid hra
 have HT:=Lib.hid hT
 have HF:=Lib.hid hF
 have HOK:=Lib.hid ok
 have HL:=Lib.hid hl
 clear h hT hF ok hp hra hl
 obtain ⟨lo,hi',op⟩:=iv
 dsimp only at *
 refine (callsIn_wide (n:=6)).1 ?_
 refine callsIn_of_wp_marks Tryz.func19 rfl trivial ?_ rfl
 simp only [Tryz.ntmps19,List.size_toArray,List.length_cons,List.length_nil,Nat.reduceAdd,Nat.reduceSub,Array.replicate_succ,Array.replicate_zero,List.push_toArray,List.append_toArray,List.nil_append,List.cons_append]
 gi_wp2_with fail
 generalize hW0:World.alloc (World.alloc _ _) _=W0
 obtain ⟨hx0,hz0',hb0,hb1⟩:=Qaz w _ _ _ _ W0 hW0
 clear hW0
 have HX0:=Lib.hid hx0
 have HB1:=Lib.hid hb1
 have HSS:=Lib.hid (show ∀ W,Ext W0 W→W.cell? ⟨R,0,none⟩=some (.pointer p)∧W.cell? ⟨w.heap.size,0,none⟩=some (.string lo)∧W.cell? ⟨w.heap.size,1,none⟩=some (.string hi')∧W.cell? ⟨w.heap.size,2,none⟩=some (.bool op) from
  fun W hW=>⟨((hx0.trans hW).cell lR).trans r0,(hb0.ext hW).cell 0,(hb0.ext hW).cell 1,(hb0.ext hW).cell 2⟩)
 have hzl:w.heap.size+2≤W0.heap.size:=by omega
 clear hx0 hb0 hb1 hz0' hlk r2 r0
 refine QgH (wpIn_wide.2 ?_)
 refine wp_region_held_drew (S:=(fun w'=>Ext W0 w')) (by kernel_rfl) (((Ext.refl W0).drew)) (fun hHeld=>?_)
 refine Qab 0 (some 24) HSS hHeld ?_
 refine Qab 1 (some 25) HSS hHeld ?_
 refine Qab 2 (some 26) HSS hHeld ?_
 refine Qab 3 (some 27) HSS hHeld ?_
 refine Qab 4 (some 28) HSS hHeld ?_
 refine Qab 5 (some 29) HSS hHeld ?_
 refine Qab 6 (some 30) HSS hHeld ?_
 refine Qab 7 (some 31) HSS hHeld ?_
 refine Qab 8 (some 32) HSS hHeld ?_
 refine Qab 9 (some 33) HSS hHeld ?_
 refine Qaa (i:=10) (by kernel_rfl) rfl (by rfl) (fun K hK=>?_)
 go_simp
 (refine (HRA.out _).mono ?_;rintro e w4 ⟨B,rfl,hx4,hrb4,hB⟩)
 refine hK.out _ _ (hHeld.trans hx4) (fun hHeld=>?_)
 clear hK K
 try simp only [Act.put,List.setIfInBounds_toArray,List.set_cons_zero,List.set_cons_succ]
 refine wpAnyH_done (by kernel_rfl) ?_ _
 refine QjG ?_
 have hx04:=hHeld
 have hx:=HX0.out.trans hx04
 have hz04:=hx04.size
 have hsq:=Qma (F:=F) (T:=T) ⟨HT.out.agree (hx.agree HF.out),fun b hb=>Nat.lt_of_lt_of_le (HF.out b hb) hx.size⟩ HOK.out (by have:=HL.out;omega) hrb4
 have HSQ:=Lib.hid hsq
 have HBG:=Lib.hid (HB1.out.ext hx04)
 have HX:=Lib.hid hx
 have hBl:=hrb4.lt
 have hl1:w.heap.size+1<w4.heap.size:=HBG.out.lt
 have hB':W0.heap.size≤B:=hB
 have hrl:(QaB lo hi' op (Qak T)).length≤500000:=Nat.le_trans (List.length_filter_le ..) HL.out
 have HRL:=Lib.hid hrl
 clear hHeld hx04 hx hrb4 hsq hrl hB
 gi_wp2_with fail
 refine Qdo (gf:=72) (lb:=Ql8 B) rfl (enters_of Tryz.func72 (by kernel_rfl) rfl) HSQ.out (Agree.refl _) (Nat.le_refl _)
  (fun b hb=>hb.elim (fun h=>by have:=HF.out b h;omega) (fun h=>by omega)) (fun _=>rfl)
  (fun pre C W=>Coll w4 (w.heap.size+1) (pre.map LE.ent) C W) (fun _ _ _=>False) (fun b=>b=w.heap.size+1)
  (fun b hb=>⟨by omega,fun h=>h.elim (fun h=>by have:=HF.out b h;omega) (fun h=>by omega)⟩)
  (fun h k=>h.turn hl1 k) (fun h k=>h) (fun W hW hz=>Coll.start HBG.out hW hz) ?round ?done ?stop
 case stop=>
  rintro D c pre W hD hSp hX
  exact hX.elim
 case round=>
  rintro pre C x W0' W1 hII hlt hsz hnL hx01 hG
  have HCO:=Lib.hid hII
  obtain ⟨⟨s,ys,rfl,hblk,ho,hes⟩,hst,hsz'⟩:=hII
  obtain ⟨es',hes'⟩:∃ es',pre.map LE.ent=es':=⟨_,rfl⟩
  have hyl:ys.length<1000000:=by
   have h1:=(List.getElem?_eq_some_iff.1 hG.at_).1
   have h2:ys.length=pre.length:=by have:=congrArg List.length hes;simpa using this
   have:=HRL.out
   omega
  have hsn:(pre++[x]).map LE.ent=es'++[x.ent]:=by rw [List.map_append,hes'];rfl
  rw [hes'] at hes
  have hb3:=Blk.new W1 44 (QnF x)
  have hx3:Ext W1 (W1.alloc (.cells (QnF x) 44)):=(Ext.refl W1).alloc _ _
  have HB3:=Lib.hid hb3
  have HX3:=Lib.hid hx3
  have HBLK:=Lib.hid hblk
  have HO:=Lib.hid ho
  have HES:=Lib.hid hes
  have HST:=Lib.hid hst
  have HX01:=Lib.hid hx01
  have HG:=Lib.hid hG
  have HSN:=Lib.hid hsn
  clear hb3 hx3 hblk ho hes hst hx01 hG hnL hlt hes' hsn
  gi_wp2_with fail
  refine ⟨HX3.out,fun W3 k3=>?_⟩
  have h03:=((HX01.out.trans HX3.out).st _).trans k3
  have hs03:=h03.size
  have hs01:=HX01.out.size
  have hbv:=k3.blk HB3.out (by omega)
  obtain ⟨c0,c1,c2,c3,c4,c5⟩:=hbv.c6
  have lv:=hbv.lt
  have hgb:=h03.blk HBLK.out (by omega)
  have cg:W3.cell? ⟨w.heap.size+1,0,none⟩=some (.slice s.a ys.length s.c):=hgb.cell 0
  have fg:=Lib.hid (hgb.frozen 0)
  have lg:=hgb.lt
  have hrow0:∀ b,s.row=some b→w4.heap.size+2≤b∧b<W0'.heap.size:=fun b hb=>Qac HO.out.own hb
  have hx34:Ext W3 (W3.drew.alloc (.cells Qoq 47)):=((Ext.refl W3).drew).alloc _ _
  have ho3:OE W3 (w4.heap.size+2) s ys:=HO.out.agree' (h03.agree.mono fun i hi=>⟨hi.2,by have:=hi.1;omega⟩) h03.size
  have HOWN4:=Lib.hid (ho3.ext hx34).own
  have HZB:=Lib.hid (Rd.block (size:=7) (n:=1) (cs:=QeW) (Blk.new W3.drew 47 Qoq) (by decide) rfl)
  have hrv:RV W3 (In W0'.heap.size W3.heap.size) x.v x.sl x.so:=((HG.out.val.agree (HX3.out.agree fun b hb=>hb.2)).agree (k3.agree.mono fun i hi=>⟨Nat.lt_of_lt_of_le hi.2 HX3.out.size,by have:=hi.1;omega⟩)).mono fun i hi=>⟨hi.1,Nat.lt_of_lt_of_le hi.2 (Nat.le_trans HX3.out.size k3.size)⟩
  have h63:ys.length+1≤maxLen:=by unfold maxLen;omega
  have hby:(ys.length+1)*104≤140737488355328:=by omega
  have hbase:w4.heap.size+2≤(W3.drew.alloc (.cells Qoq 47)).heap.size:=by rw [World.size_alloc,World.size_drew];omega
  have hz1:∀ u∈QeW,u.oneCell'=true:=by intro u hu;simp only [QeW,List.mem_cons,List.not_mem_nil,or_false] at hu;rcases hu with rfl | rfl | rfl | rfl | rfl | rfl | rfl <;> rfl
  have H03:=Lib.hid h03
  have HRV:=Lib.hid hrv
  have HX34:=Lib.hid hx34
  have HGB:=Lib.hid hgb
  have hne1:¬w.heap.size+1=W1.heap.size:=by omega
  have hix:(ys.length:Int)<(ys.length:Int)+1:=by omega
  have hsW1:W0'.heap.size≤W1.heap.size:=hs01
  clear k3 h03 hbv hgb hx34 ho3 hrv
  gi_wp2_with fail
  refine Qeh (S:=(fun _=>True)) (by kernel_rfl) (by rintro ⟨a,w,h⟩;exact h) (by kernel_rfl) (trivial) (fun hHeld=>?_)
  refine Qah 1 (some 38) hHeld ?_
  refine Qkc (i:=0) (j:=2) (k:=5) (by kernel_rfl) rfl rfl rfl (by rfl) (by rfl) (by rfl) (fun K hK=>?_) (fun K hK=>?_) (fun K hK=>?_)
  ·go_simp
   skip
   refine hK.out _ _ (trivial) (fun hHeld=>?_)
   clear hK K
   try simp only [Act.put,List.setIfInBounds_toArray,List.set_cons_zero,List.set_cons_succ]
   refine Qah 4 (some 41) hHeld ?_
   refine QaL (i:=2) (j:=5) (by kernel_rfl) rfl rfl (by rfl) (by rfl) (fun K hK=>?_) (fun K hK=>?_)
   ·go_simp
    skip
    refine hK.out _ _ (trivial) (fun hHeld=>?_)
    clear hK K
    try simp only [Act.put,List.setIfInBounds_toArray,List.set_cons_zero,List.set_cons_succ]
    refine Qah 3 (some 40) hHeld ?_
    refine Qaa (i:=5) (by kernel_rfl) rfl (by rfl) (fun K hK=>?_)
    go_simp
    skip
    refine hK.out _ _ (trivial) (fun hHeld=>?_)
    clear hK K
    try simp only [Act.put,List.setIfInBounds_toArray,List.set_cons_zero,List.set_cons_succ]
    refine Qaa (i:=6) (by kernel_rfl) rfl (by rfl) (fun K hK=>?_)
    skip
    refine QaA _ (.tmp 37) (.tmp 42) 50 rfl (w4.heap.size+2) 47 i0 _ 7 104 Tryz.underlying50 hi hz0 hz1' hz2 rfl (by decide) s ys.length (Qaf ys) (by rfl) HOWN4.out (fun b=>b=W3.heap.size) ⟨some ⟨W3.heap.size,0,none⟩,1⟩ 1 QeW (by rfl) HZB.out hz1 h63 hby hbase ?_;intro s3 w5 hown5 hwr5 hs5;obtain ⟨g,cap,rfl,hbg,hnc,hcm,lg5,fg5,z0,z1,z2,z3,z4,z5,z6⟩:=row_zero hown5 (QaK ys);have h5:=hwr5.cell0 (o:=0) HX34.out (fun e=>by have:=(hrow0 _ e).1;omega) lg;have cB5:=h5.1.trans cg;have lB5:=h5.2;have fB5:=(hwr5.fz (w.heap.size+1) 0).trans ((HX34.out.frozen (o:=0) lg).trans fg.out);have hgB:¬g=w.heap.size+1:=(by omega);have hBg:¬w.heap.size+1=g:=(by omega);have HOW:=Lib.hid hown5;have HWR:=Lib.hid hwr5;have HS5:=Lib.hid hs5;clear hown5 hwr5 hs5 h5
    refine hK.out _ _ (trivial) (fun hHeld=>?_)
    clear hK K
    try simp only [Act.put,List.setIfInBounds_toArray,List.set_cons_zero,List.set_cons_succ]
    refine Qah 7 (some 44) hHeld ?_
    refine QaL (i:=8) (j:=9) (by kernel_rfl) rfl rfl (by rfl) (by rfl) (fun K hK=>?_) (fun K hK=>?_)
    ·go_simp
     skip
     refine hK.out _ _ (trivial) (fun hHeld=>?_)
     clear hK K
     try simp only [Act.put,List.setIfInBounds_toArray,List.set_cons_zero,List.set_cons_succ]
     refine Qaa (i:=9) (by kernel_rfl) rfl (by rfl) (fun K hK=>?_)
     go_simp
     skip
     refine hK.out _ _ (trivial) (fun hHeld=>?_)
     clear hK K
     try simp only [Act.put,List.setIfInBounds_toArray,List.set_cons_zero,List.set_cons_succ]
     refine wpAnyH_done (by kernel_rfl) ?_ _
     gi_wp2_with fail
     have hL:=(QaI hl1 HBLK.out HO.out HES.out HST.out hsz' H03.out HRV.out HG.out.key HX34.out HWR.out HS5.out hby HOW.out).1
     rw [←HSN.out] at hL
     exact hL
    go_simp
    skip
    refine hK.out _ _ (trivial) (fun hHeld=>?_)
    clear hK K
    try simp only [Act.put,List.setIfInBounds_toArray,List.set_cons_zero,List.set_cons_succ]
    refine Qaa (i:=8) (by kernel_rfl) rfl (by rfl) (fun K hK=>?_)
    go_simp
    skip
    refine hK.out _ _ (trivial) (fun hHeld=>?_)
    clear hK K
    try simp only [Act.put,List.setIfInBounds_toArray,List.set_cons_zero,List.set_cons_succ]
    refine wpAnyH_done (by kernel_rfl) ?_ _
    gi_wp2_with fail
    have hL:=(QaI hl1 HBLK.out HO.out HES.out HST.out hsz' H03.out HRV.out HG.out.key HX34.out HWR.out HS5.out hby HOW.out).2
    rw [←HSN.out] at hL
    exact hL
   go_simp
   skip
   refine hK.out _ _ (trivial) (fun hHeld=>?_)
   clear hK K
   try simp only [Act.put,List.setIfInBounds_toArray,List.set_cons_zero,List.set_cons_succ]
   refine Qaa (i:=2) (by kernel_rfl) rfl (by rfl) (fun K hK=>?_)
   go_simp
   skip
   refine hK.out _ _ (trivial) (fun hHeld=>?_)
   clear hK K
   try simp only [Act.put,List.setIfInBounds_toArray,List.set_cons_zero,List.set_cons_succ]
   refine Qah 3 (some 40) hHeld ?_
   refine Qaa (i:=6) (by kernel_rfl) rfl (by rfl) (fun K hK=>?_)
   skip
   refine QaA _ (.tmp 37) (.tmp 42) 50 rfl (w4.heap.size+2) 47 i0 _ 7 104 Tryz.underlying50 hi hz0 hz1' hz2 rfl (by decide) s ys.length (Qaf ys) (by rfl) HOWN4.out (fun b=>b=W3.heap.size) ⟨some ⟨W3.heap.size,0,none⟩,1⟩ 1 QeW (by rfl) HZB.out hz1 h63 hby hbase ?_;intro s3 w5 hown5 hwr5 hs5;obtain ⟨g,cap,rfl,hbg,hnc,hcm,lg5,fg5,z0,z1,z2,z3,z4,z5,z6⟩:=row_zero hown5 (QaK ys);have h5:=hwr5.cell0 (o:=0) HX34.out (fun e=>by have:=(hrow0 _ e).1;omega) lg;have cB5:=h5.1.trans cg;have lB5:=h5.2;have fB5:=(hwr5.fz (w.heap.size+1) 0).trans ((HX34.out.frozen (o:=0) lg).trans fg.out);have hgB:¬g=w.heap.size+1:=(by omega);have hBg:¬w.heap.size+1=g:=(by omega);have HOW:=Lib.hid hown5;have HWR:=Lib.hid hwr5;have HS5:=Lib.hid hs5;clear hown5 hwr5 hs5 h5
   refine hK.out _ _ (trivial) (fun hHeld=>?_)
   clear hK K
   try simp only [Act.put,List.setIfInBounds_toArray,List.set_cons_zero,List.set_cons_succ]
   refine Qah 7 (some 44) hHeld ?_
   refine QaL (i:=8) (j:=9) (by kernel_rfl) rfl rfl (by rfl) (by rfl) (fun K hK=>?_) (fun K hK=>?_)
   ·go_simp
    skip
    refine hK.out _ _ (trivial) (fun hHeld=>?_)
    clear hK K
    try simp only [Act.put,List.setIfInBounds_toArray,List.set_cons_zero,List.set_cons_succ]
    refine Qaa (i:=9) (by kernel_rfl) rfl (by rfl) (fun K hK=>?_)
    go_simp
    skip
    refine hK.out _ _ (trivial) (fun hHeld=>?_)
    clear hK K
    try simp only [Act.put,List.setIfInBounds_toArray,List.set_cons_zero,List.set_cons_succ]
    refine wpAnyH_done (by kernel_rfl) ?_ _
    gi_wp2_with fail
    have hL:=(QaI hl1 HBLK.out HO.out HES.out HST.out hsz' H03.out HRV.out HG.out.key HX34.out HWR.out HS5.out hby HOW.out).1
    rw [←HSN.out] at hL
    exact hL
   go_simp
   skip
   refine hK.out _ _ (trivial) (fun hHeld=>?_)
   clear hK K
   try simp only [Act.put,List.setIfInBounds_toArray,List.set_cons_zero,List.set_cons_succ]
   refine Qaa (i:=8) (by kernel_rfl) rfl (by rfl) (fun K hK=>?_)
   go_simp
   skip
   refine hK.out _ _ (trivial) (fun hHeld=>?_)
   clear hK K
   try simp only [Act.put,List.setIfInBounds_toArray,List.set_cons_zero,List.set_cons_succ]
   refine wpAnyH_done (by kernel_rfl) ?_ _
   gi_wp2_with fail
   have hL:=(QaI hl1 HBLK.out HO.out HES.out HST.out hsz' H03.out HRV.out HG.out.key HX34.out HWR.out HS5.out hby HOW.out).2
   rw [←HSN.out] at hL
   exact hL
  ·go_simp
   skip
   refine hK.out _ _ (trivial) (fun hHeld=>?_)
   clear hK K
   try simp only [Act.put,List.setIfInBounds_toArray,List.set_cons_zero,List.set_cons_succ]
   refine Qah 3 (some 40) hHeld ?_
   refine QaL (i:=0) (j:=5) (by kernel_rfl) rfl rfl (by rfl) (by rfl) (fun K hK=>?_) (fun K hK=>?_)
   ·go_simp
    skip
    refine hK.out _ _ (trivial) (fun hHeld=>?_)
    clear hK K
    try simp only [Act.put,List.setIfInBounds_toArray,List.set_cons_zero,List.set_cons_succ]
    refine Qah 4 (some 41) hHeld ?_
    refine Qaa (i:=5) (by kernel_rfl) rfl (by rfl) (fun K hK=>?_)
    go_simp
    skip
    refine hK.out _ _ (trivial) (fun hHeld=>?_)
    clear hK K
    try simp only [Act.put,List.setIfInBounds_toArray,List.set_cons_zero,List.set_cons_succ]
    refine Qaa (i:=6) (by kernel_rfl) rfl (by rfl) (fun K hK=>?_)
    skip
    refine QaA _ (.tmp 37) (.tmp 42) 50 rfl (w4.heap.size+2) 47 i0 _ 7 104 Tryz.underlying50 hi hz0 hz1' hz2 rfl (by decide) s ys.length (Qaf ys) (by rfl) HOWN4.out (fun b=>b=W3.heap.size) ⟨some ⟨W3.heap.size,0,none⟩,1⟩ 1 QeW (by rfl) HZB.out hz1 h63 hby hbase ?_;intro s3 w5 hown5 hwr5 hs5;obtain ⟨g,cap,rfl,hbg,hnc,hcm,lg5,fg5,z0,z1,z2,z3,z4,z5,z6⟩:=row_zero hown5 (QaK ys);have h5:=hwr5.cell0 (o:=0) HX34.out (fun e=>by have:=(hrow0 _ e).1;omega) lg;have cB5:=h5.1.trans cg;have lB5:=h5.2;have fB5:=(hwr5.fz (w.heap.size+1) 0).trans ((HX34.out.frozen (o:=0) lg).trans fg.out);have hgB:¬g=w.heap.size+1:=(by omega);have hBg:¬w.heap.size+1=g:=(by omega);have HOW:=Lib.hid hown5;have HWR:=Lib.hid hwr5;have HS5:=Lib.hid hs5;clear hown5 hwr5 hs5 h5
    refine hK.out _ _ (trivial) (fun hHeld=>?_)
    clear hK K
    try simp only [Act.put,List.setIfInBounds_toArray,List.set_cons_zero,List.set_cons_succ]
    refine Qah 7 (some 44) hHeld ?_
    refine QaL (i:=8) (j:=9) (by kernel_rfl) rfl rfl (by rfl) (by rfl) (fun K hK=>?_) (fun K hK=>?_)
    ·go_simp
     skip
     refine hK.out _ _ (trivial) (fun hHeld=>?_)
     clear hK K
     try simp only [Act.put,List.setIfInBounds_toArray,List.set_cons_zero,List.set_cons_succ]
     refine Qaa (i:=9) (by kernel_rfl) rfl (by rfl) (fun K hK=>?_)
     go_simp
     skip
     refine hK.out _ _ (trivial) (fun hHeld=>?_)
     clear hK K
     try simp only [Act.put,List.setIfInBounds_toArray,List.set_cons_zero,List.set_cons_succ]
     refine wpAnyH_done (by kernel_rfl) ?_ _
     gi_wp2_with fail
     have hL:=(QaI hl1 HBLK.out HO.out HES.out HST.out hsz' H03.out HRV.out HG.out.key HX34.out HWR.out HS5.out hby HOW.out).1
     rw [←HSN.out] at hL
     exact hL
    go_simp
    skip
    refine hK.out _ _ (trivial) (fun hHeld=>?_)
    clear hK K
    try simp only [Act.put,List.setIfInBounds_toArray,List.set_cons_zero,List.set_cons_succ]
    refine Qaa (i:=8) (by kernel_rfl) rfl (by rfl) (fun K hK=>?_)
    go_simp
    skip
    refine hK.out _ _ (trivial) (fun hHeld=>?_)
    clear hK K
    try simp only [Act.put,List.setIfInBounds_toArray,List.set_cons_zero,List.set_cons_succ]
    refine wpAnyH_done (by kernel_rfl) ?_ _
    gi_wp2_with fail
    have hL:=(QaI hl1 HBLK.out HO.out HES.out HST.out hsz' H03.out HRV.out HG.out.key HX34.out HWR.out HS5.out hby HOW.out).2
    rw [←HSN.out] at hL
    exact hL
   go_simp
   skip
   refine hK.out _ _ (trivial) (fun hHeld=>?_)
   clear hK K
   try simp only [Act.put,List.setIfInBounds_toArray,List.set_cons_zero,List.set_cons_succ]
   refine Qaa (i:=0) (by kernel_rfl) rfl (by rfl) (fun K hK=>?_)
   go_simp
   skip
   refine hK.out _ _ (trivial) (fun hHeld=>?_)
   clear hK K
   try simp only [Act.put,List.setIfInBounds_toArray,List.set_cons_zero,List.set_cons_succ]
   refine Qah 4 (some 41) hHeld ?_
   refine Qaa (i:=6) (by kernel_rfl) rfl (by rfl) (fun K hK=>?_)
   skip
   refine QaA _ (.tmp 37) (.tmp 42) 50 rfl (w4.heap.size+2) 47 i0 _ 7 104 Tryz.underlying50 hi hz0 hz1' hz2 rfl (by decide) s ys.length (Qaf ys) (by rfl) HOWN4.out (fun b=>b=W3.heap.size) ⟨some ⟨W3.heap.size,0,none⟩,1⟩ 1 QeW (by rfl) HZB.out hz1 h63 hby hbase ?_;intro s3 w5 hown5 hwr5 hs5;obtain ⟨g,cap,rfl,hbg,hnc,hcm,lg5,fg5,z0,z1,z2,z3,z4,z5,z6⟩:=row_zero hown5 (QaK ys);have h5:=hwr5.cell0 (o:=0) HX34.out (fun e=>by have:=(hrow0 _ e).1;omega) lg;have cB5:=h5.1.trans cg;have lB5:=h5.2;have fB5:=(hwr5.fz (w.heap.size+1) 0).trans ((HX34.out.frozen (o:=0) lg).trans fg.out);have hgB:¬g=w.heap.size+1:=(by omega);have hBg:¬w.heap.size+1=g:=(by omega);have HOW:=Lib.hid hown5;have HWR:=Lib.hid hwr5;have HS5:=Lib.hid hs5;clear hown5 hwr5 hs5 h5
   refine hK.out _ _ (trivial) (fun hHeld=>?_)
   clear hK K
   try simp only [Act.put,List.setIfInBounds_toArray,List.set_cons_zero,List.set_cons_succ]
   refine Qah 7 (some 44) hHeld ?_
   refine QaL (i:=8) (j:=9) (by kernel_rfl) rfl rfl (by rfl) (by rfl) (fun K hK=>?_) (fun K hK=>?_)
   ·go_simp
    skip
    refine hK.out _ _ (trivial) (fun hHeld=>?_)
    clear hK K
    try simp only [Act.put,List.setIfInBounds_toArray,List.set_cons_zero,List.set_cons_succ]
    refine Qaa (i:=9) (by kernel_rfl) rfl (by rfl) (fun K hK=>?_)
    go_simp
    skip
    refine hK.out _ _ (trivial) (fun hHeld=>?_)
    clear hK K
    try simp only [Act.put,List.setIfInBounds_toArray,List.set_cons_zero,List.set_cons_succ]
    refine wpAnyH_done (by kernel_rfl) ?_ _
    gi_wp2_with fail
    have hL:=(QaI hl1 HBLK.out HO.out HES.out HST.out hsz' H03.out HRV.out HG.out.key HX34.out HWR.out HS5.out hby HOW.out).1
    rw [←HSN.out] at hL
    exact hL
   go_simp
   skip
   refine hK.out _ _ (trivial) (fun hHeld=>?_)
   clear hK K
   try simp only [Act.put,List.setIfInBounds_toArray,List.set_cons_zero,List.set_cons_succ]
   refine Qaa (i:=8) (by kernel_rfl) rfl (by rfl) (fun K hK=>?_)
   go_simp
   skip
   refine hK.out _ _ (trivial) (fun hHeld=>?_)
   clear hK K
   try simp only [Act.put,List.setIfInBounds_toArray,List.set_cons_zero,List.set_cons_succ]
   refine wpAnyH_done (by kernel_rfl) ?_ _
   gi_wp2_with fail
   have hL:=(QaI hl1 HBLK.out HO.out HES.out HST.out hsz' H03.out HRV.out HG.out.key HX34.out HWR.out HS5.out hby HOW.out).2
   rw [←HSN.out] at hL
   exact hL
  go_simp
  skip
  refine hK.out _ _ (trivial) (fun hHeld=>?_)
  clear hK K
  try simp only [Act.put,List.setIfInBounds_toArray,List.set_cons_zero,List.set_cons_succ]
  refine QaL (i:=0) (j:=2) (by kernel_rfl) rfl rfl (by rfl) (by rfl) (fun K hK=>?_) (fun K hK=>?_)
  ·go_simp
   skip
   refine hK.out _ _ (trivial) (fun hHeld=>?_)
   clear hK K
   try simp only [Act.put,List.setIfInBounds_toArray,List.set_cons_zero,List.set_cons_succ]
   refine Qah 4 (some 41) hHeld ?_
   refine Qaa (i:=2) (by kernel_rfl) rfl (by rfl) (fun K hK=>?_)
   go_simp
   skip
   refine hK.out _ _ (trivial) (fun hHeld=>?_)
   clear hK K
   try simp only [Act.put,List.setIfInBounds_toArray,List.set_cons_zero,List.set_cons_succ]
   refine Qah 3 (some 40) hHeld ?_
   refine Qaa (i:=6) (by kernel_rfl) rfl (by rfl) (fun K hK=>?_)
   skip
   refine QaA _ (.tmp 37) (.tmp 42) 50 rfl (w4.heap.size+2) 47 i0 _ 7 104 Tryz.underlying50 hi hz0 hz1' hz2 rfl (by decide) s ys.length (Qaf ys) (by rfl) HOWN4.out (fun b=>b=W3.heap.size) ⟨some ⟨W3.heap.size,0,none⟩,1⟩ 1 QeW (by rfl) HZB.out hz1 h63 hby hbase ?_;intro s3 w5 hown5 hwr5 hs5;obtain ⟨g,cap,rfl,hbg,hnc,hcm,lg5,fg5,z0,z1,z2,z3,z4,z5,z6⟩:=row_zero hown5 (QaK ys);have h5:=hwr5.cell0 (o:=0) HX34.out (fun e=>by have:=(hrow0 _ e).1;omega) lg;have cB5:=h5.1.trans cg;have lB5:=h5.2;have fB5:=(hwr5.fz (w.heap.size+1) 0).trans ((HX34.out.frozen (o:=0) lg).trans fg.out);have hgB:¬g=w.heap.size+1:=(by omega);have hBg:¬w.heap.size+1=g:=(by omega);have HOW:=Lib.hid hown5;have HWR:=Lib.hid hwr5;have HS5:=Lib.hid hs5;clear hown5 hwr5 hs5 h5
   refine hK.out _ _ (trivial) (fun hHeld=>?_)
   clear hK K
   try simp only [Act.put,List.setIfInBounds_toArray,List.set_cons_zero,List.set_cons_succ]
   refine Qah 7 (some 44) hHeld ?_
   refine QaL (i:=8) (j:=9) (by kernel_rfl) rfl rfl (by rfl) (by rfl) (fun K hK=>?_) (fun K hK=>?_)
   ·go_simp
    skip
    refine hK.out _ _ (trivial) (fun hHeld=>?_)
    clear hK K
    try simp only [Act.put,List.setIfInBounds_toArray,List.set_cons_zero,List.set_cons_succ]
    refine Qaa (i:=9) (by kernel_rfl) rfl (by rfl) (fun K hK=>?_)
    go_simp
    skip
    refine hK.out _ _ (trivial) (fun hHeld=>?_)
    clear hK K
    try simp only [Act.put,List.setIfInBounds_toArray,List.set_cons_zero,List.set_cons_succ]
    refine wpAnyH_done (by kernel_rfl) ?_ _
    gi_wp2_with fail
    have hL:=(QaI hl1 HBLK.out HO.out HES.out HST.out hsz' H03.out HRV.out HG.out.key HX34.out HWR.out HS5.out hby HOW.out).1
    rw [←HSN.out] at hL
    exact hL
   go_simp
   skip
   refine hK.out _ _ (trivial) (fun hHeld=>?_)
   clear hK K
   try simp only [Act.put,List.setIfInBounds_toArray,List.set_cons_zero,List.set_cons_succ]
   refine Qaa (i:=8) (by kernel_rfl) rfl (by rfl) (fun K hK=>?_)
   go_simp
   skip
   refine hK.out _ _ (trivial) (fun hHeld=>?_)
   clear hK K
   try simp only [Act.put,List.setIfInBounds_toArray,List.set_cons_zero,List.set_cons_succ]
   refine wpAnyH_done (by kernel_rfl) ?_ _
   gi_wp2_with fail
   have hL:=(QaI hl1 HBLK.out HO.out HES.out HST.out hsz' H03.out HRV.out HG.out.key HX34.out HWR.out HS5.out hby HOW.out).2
   rw [←HSN.out] at hL
   exact hL
  go_simp
  skip
  refine hK.out _ _ (trivial) (fun hHeld=>?_)
  clear hK K
  try simp only [Act.put,List.setIfInBounds_toArray,List.set_cons_zero,List.set_cons_succ]
  refine Qah 3 (some 40) hHeld ?_
  refine Qaa (i:=0) (by kernel_rfl) rfl (by rfl) (fun K hK=>?_)
  go_simp
  skip
  refine hK.out _ _ (trivial) (fun hHeld=>?_)
  clear hK K
  try simp only [Act.put,List.setIfInBounds_toArray,List.set_cons_zero,List.set_cons_succ]
  refine Qah 4 (some 41) hHeld ?_
  refine Qaa (i:=6) (by kernel_rfl) rfl (by rfl) (fun K hK=>?_)
  skip
  refine QaA _ (.tmp 37) (.tmp 42) 50 rfl (w4.heap.size+2) 47 i0 _ 7 104 Tryz.underlying50 hi hz0 hz1' hz2 rfl (by decide) s ys.length (Qaf ys) (by rfl) HOWN4.out (fun b=>b=W3.heap.size) ⟨some ⟨W3.heap.size,0,none⟩,1⟩ 1 QeW (by rfl) HZB.out hz1 h63 hby hbase ?_;intro s3 w5 hown5 hwr5 hs5;obtain ⟨g,cap,rfl,hbg,hnc,hcm,lg5,fg5,z0,z1,z2,z3,z4,z5,z6⟩:=row_zero hown5 (QaK ys);have h5:=hwr5.cell0 (o:=0) HX34.out (fun e=>by have:=(hrow0 _ e).1;omega) lg;have cB5:=h5.1.trans cg;have lB5:=h5.2;have fB5:=(hwr5.fz (w.heap.size+1) 0).trans ((HX34.out.frozen (o:=0) lg).trans fg.out);have hgB:¬g=w.heap.size+1:=(by omega);have hBg:¬w.heap.size+1=g:=(by omega);have HOW:=Lib.hid hown5;have HWR:=Lib.hid hwr5;have HS5:=Lib.hid hs5;clear hown5 hwr5 hs5 h5
  refine hK.out _ _ (trivial) (fun hHeld=>?_)
  clear hK K
  try simp only [Act.put,List.setIfInBounds_toArray,List.set_cons_zero,List.set_cons_succ]
  refine Qah 7 (some 44) hHeld ?_
  refine QaL (i:=8) (j:=9) (by kernel_rfl) rfl rfl (by rfl) (by rfl) (fun K hK=>?_) (fun K hK=>?_)
  ·go_simp
   skip
   refine hK.out _ _ (trivial) (fun hHeld=>?_)
   clear hK K
   try simp only [Act.put,List.setIfInBounds_toArray,List.set_cons_zero,List.set_cons_succ]
   refine Qaa (i:=9) (by kernel_rfl) rfl (by rfl) (fun K hK=>?_)
   go_simp
   skip
   refine hK.out _ _ (trivial) (fun hHeld=>?_)
   clear hK K
   try simp only [Act.put,List.setIfInBounds_toArray,List.set_cons_zero,List.set_cons_succ]
   refine wpAnyH_done (by kernel_rfl) ?_ _
   gi_wp2_with fail
   have hL:=(QaI hl1 HBLK.out HO.out HES.out HST.out hsz' H03.out HRV.out HG.out.key HX34.out HWR.out HS5.out hby HOW.out).1
   rw [←HSN.out] at hL
   exact hL
  go_simp
  skip
  refine hK.out _ _ (trivial) (fun hHeld=>?_)
  clear hK K
  try simp only [Act.put,List.setIfInBounds_toArray,List.set_cons_zero,List.set_cons_succ]
  refine Qaa (i:=8) (by kernel_rfl) rfl (by rfl) (fun K hK=>?_)
  go_simp
  skip
  refine hK.out _ _ (trivial) (fun hHeld=>?_)
  clear hK K
  try simp only [Act.put,List.setIfInBounds_toArray,List.set_cons_zero,List.set_cons_succ]
  refine wpAnyH_done (by kernel_rfl) ?_ _
  gi_wp2_with fail
  have hL:=(QaI hl1 HBLK.out HO.out HES.out HST.out hsz' H03.out HRV.out HG.out.key HX34.out HWR.out HS5.out hby HOW.out).2
  rw [←HSN.out] at hL
  exact hL
 rintro D xs C W hD hS ⟨⟨s',ys,rfl,hblk,ho,hes⟩,hst,hsz⟩ hDk
 have cL:W.cell? ⟨w.heap.size+1,0,none⟩=some (.slice s'.a ys.length s'.c):=hblk.cell 0
 have lL:=hblk.lt
 have hk':St (fun b=>b=D) W (W.putObj D (.deferred none)):=St.put hDk rfl rfl
 have hrow0:∀ b,s'.row=some b→w4.heap.size+2≤b∧b<W.heap.size:=fun b hb=>Qac ho.own hb
 have hzx:=HX.out.size
 have hzk:=hk'.size
 have hfin:Qf8 (QaB lo hi' op (Qak T)) w (.returned (.tuple #[.slice s'.a ys.length s'.c,.int .i64 0])) (W.putObj D (.deferred none)):=by
  refine ⟨s',ys,rfl,by rw [hes];exact hS,?_,?_⟩
  ·refine (HX.out.step hst (fun b hb=>by omega)).step hk' fun b hb=>?_
   omega
  exact ((ho.agree' (hk'.agree.mono fun i hi=>⟨hi.2,by have:=hi.1;omega⟩) hk'.size).es).mono fun b hb=>⟨by have:=hb.1;omega,hb.2⟩
 have HFIN:=Lib.hid hfin
 have HDK:=Lib.hid hDk
 clear hblk ho hes hst hsz hDk hk' hfin hS
 gi_wp2_with fail
 refine ⟨by simp,.inl ⟨_,_,rfl,run_takeDeferred HDK.out,?_⟩⟩
 refine ⟨.tuple #[.slice s'.a ys.length s'.c,.int .i64 0],?_,HFIN.out⟩
 simp [results,Tryz.f19,go_sem]
end Go.Proofs.YtohajcflklejjaaGreat
namespace Go.Proofs.YtohajcflklejjaaGreat
open Go.RowKit Go.Maps
set_option linter.unusedVariables false
set_option linter.unusedSimpArgs false
def Qn2 (L:Qbc) (i:Nat):Qbc:=L.filter fun p=>!(p.1 == i)
theorem Qln {w:World} {R:Nat} {T:RT} {g:Nat} {mb:Option Nat} {L:Qbc} (h:QaR w R T g mb L) {i:Nat} (hi:i≤18446744073709551615) (hp:L.find? (fun p=>p.1 == i)=none) :
  Calls Tryz.prog 22 #[.pointer (some ⟨R,0,none⟩),.int .u64 (i:Int)] w fun e w'=>e=.returned (.int .i64 12)∧Ext w w':=by
 have hlk:=QhV h.map hp hi
 have r2:w.cell? ⟨R,2,none⟩=some (.map mb):=h.blk.cell 2
 have lR:=h.blk.lt
 clear h
 go_enter Tryz.func22,Tryz.ntmps22
 go_wp2_with fail
 refine bodyPost_ret (v:=.int .i64 12) (by simp [results,Tryz.results22,go_sem]) rfl ?_
 exact ⟨rfl,(Ext.refl w).alloc _ _⟩
theorem Qlo {w:World} {R:Nat} {T:RT} {g:Nat} {mb:Option Nat} {L:Qbc} (h:QaR w R T g mb L) {i:Nat} {p:Nat × Iv} (hi:i≤18446744073709551615) (hp:L.find? (fun p=>p.1 == i)=some p) :
  Calls Tryz.prog 22 #[.pointer (some ⟨R,0,none⟩),.int .u64 (i:Int)] w fun e w'=>e=.returned (.int .i64 0)∧QaR w' R T g mb (Qn2 L i)∧Sb (Qdp R mb) w w':=by
 obtain ⟨b,rfl⟩:∃ b,mb=some b:=by
  cases mb with
  | none=>have:L=[]:=h.map;subst this;cases hp
  | some b=>exact ⟨b,rfl⟩
 have hown:w.ownsMap Tryz.prog 34 ivR b g (mapD L):=h.map
 have hlk:=QhW hown hp hi
 have r2:w.cell? ⟨R,2,none⟩=some (.map (some b)):=h.blk.cell 2
 have lR:=h.blk.lt
 have lb:=hown.lt
 have HREG:=Lib.hid h
 have HOWN:=Lib.hid hown
 clear h hown
 go_enter Tryz.func22,Tryz.ntmps22
 go_wp2_with (at_delete;refine wpList_delete_own _ rfl _ _ 35 34 rfl 107 QeE Tryz.underlying35 ivR b g (mapD L) rfl (QaM HOWN.out (Below.heap_alloc _ _ _ lb)) _ _ rfl (Qos i hi) ?_;intro w1 hown1 hturn1)
 refine bodyPost_ret (v:=.int .i64 0) (by simp [results,Tryz.results22,go_sem]) rfl ?_
 have hsb0:Sb (Qdp R (some b)) w _:=((Ext.refl w).alloc #[.string p.2.lo,.string p.2.hi,.bool p.2.op] 107).sb _
 have hsb:Sb (Qdp R (some b)) w w1:=hsb0.trans ((Sb.grown hturn1.grown).mono fun c _ hc=>Or.inr (by rw [hc]))
 rw [QmM] at hown1
 refine ⟨rfl,⟨?_,hown1,HREG.out.ne,fun q hq=>HREG.out.up q (List.mem_filter.1 hq).1,HREG.out.rise.sublist (List.filter_sublist ..),fun q hq=>HREG.out.short q (List.mem_filter.1 hq).1,HREG.out.small⟩,hsb⟩
 have hbR:¬R=b:=fun e=>HREG.out.ne (by rw [e])
 exact (Sb.grown hturn1.grown).blk (HREG.out.blk.ext ((Ext.refl w).alloc _ _)) hbR
theorem Qeu {w:World} {F F':Nat→Prop} {s s':Sl} {xs:List Nat} (h:Rd w F 1 s xs.length (xs.map Qcj)) (hF:∀ b,F b→b<w.heap.size) (h':Rd w F' 1 s' xs.length (xs.map Qcj)) (hF':∀ b,F' b→b<w.heap.size) (hn:xs.length≤1000000000) :
  Calls Tryz.prog 37 #[.slice s.a xs.length s.c,.slice s'.a xs.length s'.c] w fun e w'=>e=.returned (.bool true)∧Ext w w':=by
 obtain ⟨b,o,h1,-,h3⟩:=h
 obtain ⟨b',o',h1',-,h3'⟩:=h'
 have H1:=Lib.hid h1
 have H1':=Lib.hid h1'
 have H3:=Lib.hid h3
 have H3':=Lib.hid h3'
 have HF:=Lib.hid hF
 have HF':=Lib.hid hF'
 have hne:(((xs.length:Int)) != ((xs.length:Int)))=false:=by simp
 clear h1 h1' h3 h3' hF hF'
 go_enter Tryz.func37,Tryz.ntmps37
 go_wp2_with fail
 go_loopw [5] (fun q wr=>∃ j:Nat,q=.int .i64 j∧j≤xs.length∧Ext w wr) (fun q _=>xs.length - (intOf q).toNat)
 case atStart=>exact ⟨0,rfl,Nat.zero_le _,Ext.refl w⟩
 obtain ⟨j,rfl,hjl,hx⟩:=hrel
 by_cases hlt:j<xs.length
 ·have g1:(j:Int)<(xs.length:Int):=by omega
  obtain ⟨x,hxx⟩:∃ x,xs[j]? = some x:=⟨_,List.getElem?_eq_getElem hlt⟩
  obtain ⟨e1,hc,hcm⟩:=H1.out.eq (by omega)
  obtain ⟨e1',hc',hcm'⟩:=H1'.out.eq (by omega)
  have lg:=HF.out b (H1.out.fits (by omega))
  have lg':=HF'.out b' (H1'.out.fits (by omega))
  obtain ⟨sa,sc⟩:=s
  obtain ⟨sa',sc'⟩:=s'
  dsimp only at e1 e1' hc hc' hcm hcm'
  subst e1 e1'
  have c0:wr.cell? ⟨b,o+j,none⟩=some (.int .u64 (x:Int)):=(hx.cell lg).trans (H3.out j _ (by rw [List.getElem?_map,hxx];rfl))
  have c0':wr.cell? ⟨b',o'+j,none⟩=some (.int .u64 (x:Int)):=(hx.cell lg').trans (H3'.out j _ (by rw [List.getElem?_map,hxx];rfl))
  have hxe:((x:Int) != (x:Int))=false:=by simp
  have HX:=Lib.hid hx
  clear hx hxx lg lg'
  go_wp2_with fail
  go_quiet (fail)
  go_wp2_with fail
  go_roundw
  case rel=>exact ⟨j+1,by go_num,hlt,HX.out.drewN _⟩
  simp [intOf];omega
 obtain rfl:j=xs.length:=by omega
 have HX:=Lib.hid hx
 clear hx
 go_wp2_with fail
 go_ret
 exact ⟨rfl,HX.out⟩
end Go.Proofs.YtohajcflklejjaaGreat
namespace Go.Proofs.YtohajcflklejjaaGreat
open Go.RowKit
set_option linter.unusedVariables false
set_option linter.unusedSimpArgs false
def LB:Nat→QBs→Qbc→Prop
 | _,[],L=>L=[]
 | n,p :: r,L=>if p.2 then ∃ iv L',L=(n+1,iv) :: L'∧(∀ k,Qbv k iv.lo iv.hi iv.op=inQ p.1 k)∧LB (n+1) r L' else LB (n+1) r L
theorem LB.live:∀ {B:QBs} {n:Nat} {L:Qbc},LB n B L→L.map Prod.fst=Qa6 n B
 | [],n,L,h=>by rw [LB] at h;subst h;rfl
 | p :: r,n,L,h=>by
   rw [LB] at h
   rw [Qa6]
   split at h
   ·rename_i hp
    obtain ⟨iv,L',rfl,-,h2⟩:=h
    rw [if_pos hp,List.map_cons,h2.live]
   rename_i hp
   rw [if_neg hp,h.live]
theorem LB.ev {C:List Chg}:∀ {B:QBs} {n:Nat} {L:Qbc},LB n B L→evL L C=evF n B C
 | [],n,L,h=>by rw [LB] at h;subst h;rfl
 | p :: r,n,L,h=>by
   rw [LB] at h
   rw [evF]
   split at h
   ·rename_i hp
    obtain ⟨iv,L',rfl,h1,h2⟩:=h
    rw [if_pos hp,←h2.ev]
    show List.flatMap _ _=_
    rw [List.flatMap_cons]
    congr 2
    exact List.filter_congr fun c _=>h1 c.k
   rename_i hp
   rw [if_neg hp,List.nil_append,h.ev]
theorem LB.snoc {q:Qy} {iv:Iv} (hk:∀ k,Qbv k iv.lo iv.hi iv.op=inQ q k):∀ {B:QBs} {n:Nat} {L:Qbc},LB n B L→LB n (B++[(q,true)]) (L++[(n+B.length+1,iv)])
 | [],n,L,h=>by
   rw [LB] at h;subst h
   show LB n [(q,true)] _
   rw [LB,if_pos rfl]
   exact ⟨iv,[],rfl,hk,rfl⟩
 | p :: r,n,L,h=>by
   rw [LB] at h
   rw [List.cons_append,LB]
   have e:n+(p :: r).length+1=n+1+r.length+1:=by rw [List.length_cons];omega
   split at h
   ·rename_i hp
    obtain ⟨iv',L',rfl,h1,h2⟩:=h
    rw [if_pos hp,e]
    exact ⟨iv',_,rfl,h1,h2.snoc hk⟩
   rename_i hp
   rw [if_neg hp,e]
   exact h.snoc hk
theorem LB.above:∀ {B:QBs} {n:Nat} {L:Qbc},LB n B L→∀ p∈L,n<p.1
 | [],n,L,h,p,hp=>by rw [LB] at h;subst h;cases hp
 | q :: r,n,L,h,p,hp=>by
   rw [LB] at h
   split at h
   ·obtain ⟨iv,L',rfl,-,h2⟩:=h
    rcases List.mem_cons.1 hp with rfl | hp
    ·exact Nat.lt_succ_self n
    have:=h2.above p hp;omega
   have:=h.above p hp;omega
theorem LB.find:∀ {B:QBs} {n:Nat} {L:Qbc},LB n B L→∀ i,(∃ q iv,B[i]? = some (q,true)∧L.find? (fun p=>p.1 == n+i+1)=some (n+i+1,iv)∧∀ k,Qbv k iv.lo iv.hi iv.op=inQ q k)∨((B[i]?).any (·.2)=false∧L.find? (fun p=>p.1 == n+i+1)=none)
 | [],n,L,h,i=>by rw [LB] at h;subst h;exact .inr ⟨rfl,rfl⟩
 | (q,live) :: r,n,L,h,0=>by
   rw [LB] at h
   cases live with
   | true=>
     obtain ⟨iv,L',rfl,h1,h2⟩:=h
     exact .inl ⟨q,iv,rfl,by simp,h1⟩
   | false=>
     have h':LB (n+1) r L:=h
     refine .inr ⟨rfl,List.find?_eq_none.2 fun p hp=>?_⟩
     have:=h'.above p hp
     simp;omega
 | (q,live) :: r,n,L,h,i+1=>by
   rw [LB] at h
   have e:n+(i+1)+1=n+1+i+1:=by omega
   rw [e,List.getElem?_cons_succ]
   cases live with
   | true=>
     obtain ⟨iv,L',rfl,h1,h2⟩:=h
     have hne:((n+1,iv).1 == n+1+i+1)=false:=by simp;omega
     rw [List.find?_cons,hne]
     exact h2.find i
   | false=>
     have h':LB (n+1) r L:=h
     exact h'.find i
theorem QiC (p:Qy × Bool) (r:QBs) (i:Nat):Qd1 (p :: r) (i+1+1)=p :: Qd1 r (i+1):=by
 unfold Qd1
 simp only [Nat.add_sub_cancel,List.getElem?_cons_succ]
 cases r[i]? <;> rfl
theorem LB.drop:∀ {B:QBs} {n:Nat} {L:Qbc},LB n B L→∀ i,LB n (Qd1 B (i+1)) (L.filter fun p=>!(p.1 == n+i+1))
 | [],n,L,h,i=>by rw [LB] at h;subst h;rfl
 | (q,live) :: r,n,L,h,0=>by
   rw [LB] at h
   have hd:Qd1 ((q,live) :: r) (0+1)=(q,false) :: r:=rfl
   rw [hd,LB,if_neg (by simp)]
   have hkeep:∀ {L:Qbc},LB (n+1) r L→LB (n+1) r (L.filter fun p=>!(p.1 == n+0+1)):=fun {L} h'=>by
    rw [List.filter_eq_self.2 fun p hp=>by have:=h'.above p hp;simp;omega];exact h'
   cases live with
   | true=>
     obtain ⟨iv,L',rfl,h1,h2⟩:=h
     rw [List.filter_cons,if_neg (by simp)]
     exact hkeep h2
   | false=>exact hkeep h
 | (q,live) :: r,n,L,h,i+1=>by
   rw [LB] at h
   rw [QiC,LB]
   have e:n+(i+1)+1=n+1+i+1:=by omega
   rw [e]
   cases live with
   | true=>
     obtain ⟨iv,L',rfl,h1,h2⟩:=h
     rw [if_pos rfl,List.filter_cons,if_pos (by simp;omega)]
     exact ⟨iv,_,rfl,h1,h2.drop i⟩
   | false=>
     rw [if_neg (by simp)]
     exact LB.drop (show LB (n+1) r L from h) i
theorem LB.look {B:QBs} {L:Qbc} (h:LB 0 B L) (id:Nat):(∃ i q iv,id=i+1∧B[i]? = some (q,true)∧hasB B id=true∧L.find? (fun p=>p.1 == id)=some (id,iv)∧∀ k,Qbv k iv.lo iv.hi iv.op=inQ q k)∨(hasB B id=false∧L.find? (fun p=>p.1 == id)=none):=by
 cases id with
 | zero=>exact .inr ⟨rfl,List.find?_eq_none.2 fun p hp=>by have:=h.above p hp;simp;omega⟩
 | succ i=>
   rcases h.find i with ⟨q,iv,h1,h2,h3⟩ | ⟨h1,h2⟩
   ·rw [Nat.zero_add] at h2
    exact .inl ⟨i,q,iv,rfl,h1,by rw [hasB,h1];rfl,h2,h3⟩
   rw [Nat.zero_add] at h2
   exact .inr ⟨by rw [hasB];exact h1,h2⟩
end Go.Proofs.YtohajcflklejjaaGreat
namespace Go.Proofs.YtohajcflklejjaaGreat
open Go.RowKit Go.Shelf Go.Maps
set_option linter.unusedVariables false
set_option linter.unusedSimpArgs false
abbrev Qe5 (n:Int):Val:=.mk 3 false n ByteArray.empty [] [] []
abbrev kA1:ByteArray:=⟨#[97,47,49]⟩
abbrev kB:ByteArray:=⟨#[98]⟩
theorem QfL (w:World) (F:Nat→Prop) {n:Int} (wn:(Lit.int .i64 n).wf=true):RV w F (Qe5 n) Sl.none Sl.none:=RV.flat _ _ _ _ _ _ (by decide) wn (by decide)
theorem QfA (w:World) (k:ByteArray) (n:Int):Calls Tryz.prog 26 #[.string k,.int .i64 n] w fun e w'=>e=.returned (.agg #[.string k,.int .i64 3,.bool false,.int .i64 n,.string ByteArray.empty,.slice none 0 0,.slice none 0 0])∧Ext w w':=by
 go_enter Tryz.func26,Tryz.ntmps26
 go_wp2_with fail
 refine bodyPost_ret (v:=.agg #[.string k,.int .i64 3,.bool false,.int .i64 n,.string ByteArray.empty,.slice none 0 0,.slice none 0 0]) (by simp [results,Tryz.results26,go_sem];rfl) rfl ?_
 exact ⟨rfl,(Ext.refl w).alloc _ _⟩
theorem Qn6 {w:World} {g:Nat} {x y:LE} (hb:Blk w g 47 (x.cells++y.cells).toArray) (hx:RV w (Lt w.heap.size) x.v x.sl x.so) (hy:RV w (Lt w.heap.size) y.v y.sl y.so) (kx:x.k.size≤maxLen) (ky:y.k.size≤maxLen):ES w (Lt w.heap.size) ⟨some ⟨g,0,none⟩,2⟩ [x,y]:=
 ⟨(Rd.block (cs:=Qaf [x,y]) (n:=2) (size:=7) (by simpa [Qaf] using hb) (by decide) (by simp [Qaf,LE.cells])).mono fun i hi=>by subst hi;exact hb.lt,fun z hz=>by
   rcases List.mem_cons.1 hz with rfl | hz
   ·exact ⟨hx,kx⟩
   obtain rfl:=List.mem_singleton.1 hz;exact ⟨hy,ky⟩,by simp⟩
theorem Qn5 {w:World} {g:Nat} {x:LE} (hb:Blk w g 47 x.cells.toArray) (hx:RV w (Lt w.heap.size) x.v x.sl x.so) (kx:x.k.size≤maxLen):ES w (Lt w.heap.size) ⟨some ⟨g,0,none⟩,1⟩ [x]:=
 ⟨(Rd.block (cs:=Qaf [x]) (n:=1) (size:=7) (by simpa [Qaf] using hb) (by decide) (by simp [Qaf,LE.cells])).mono fun i hi=>by subst hi;exact hb.lt,fun z hz=>by
   obtain rfl:=List.mem_singleton.1 hz;exact ⟨hx,kx⟩,by simp⟩
def Qoz (l:List Ent) (w:World) (e:Ending) (w':World):Prop:=∃ (T:RT) (p:Option Addr),e=.returned (.agg #[.pointer p])∧QaQ T=.pointer p∧OkR T∧Qak T=l∧IsT w' (In w.heap.size w'.heap.size) T∧Ext w w'
theorem Qnw {w:World} {g:Nat} {a b:ByteArray} {m n:Int} (hab:klt a b=true) (ha:a.size≤maxLen) (hb':b.size≤maxLen) (wm:(Lit.int .i64 m).wf=true) (wn:(Lit.int .i64 n).wf=true)
  (hb:Blk w g 47 #[.string a,.int .i64 3,.bool false,.int .i64 m,.string ByteArray.empty,.slice none 0 0,.slice none 0 0,.string b,.int .i64 3,.bool false,.int .i64 n,.string ByteArray.empty,.slice none 0 0,.slice none 0 0]) :
  Calls Tryz.prog 17 #[.slice (some ⟨g,0,none⟩) 2 2] w (Qoz [(a,Qe5 m),(b,Qe5 n)] w):=by
 have h:=Qht (Qn6 (x:=⟨a,Qe5 m,Sl.none,Sl.none⟩) (y:=⟨b,Qe5 n,Sl.none,Sl.none⟩) hb (QfL _ _ wm) (QfL _ _ wn) ha hb') (show 2≤100000 by omega)
 refine h.mono ?_
 rintro e w' ⟨T,rfl,hbt,hT,hx⟩
 obtain ⟨p,hp⟩:=Qar T
 refine ⟨T,p,by rw [QaC,hp],hp,hbt.both.1,?_,hT,hx⟩
 rw [hbt.both.2]
 show Qau [] [(a,Qe5 m),(b,Qe5 n)]=_
 simp [Qau,QbH,hab]
theorem Qnv {w:World} {g:Nat} {a:ByteArray} {v:Val} {sl so:Sl} (ha:a.size≤maxLen) (hv:RV w (Lt w.heap.size) v sl so)
  (hb:Blk w g 47 (LE.cells ⟨a,v,sl,so⟩).toArray) :
  Calls Tryz.prog 17 #[.slice (some ⟨g,0,none⟩) 1 1] w (Qoz [(a,v)] w):=by
 have h:=Qht (Qn5 (x:=⟨a,v,sl,so⟩) hb hv ha) (show 1≤100000 by omega)
 refine h.mono ?_
 rintro e w' ⟨T,rfl,hbt,hT,hx⟩
 obtain ⟨p,hp⟩:=Qar T
 refine ⟨T,p,by rw [QaC,hp],hp,hbt.both.1,?_,hT,hx⟩
 rw [hbt.both.2]
 show Qau [] [(a,v)]=_
 simp [Qau,QbH]
abbrev q1:Qy:=⟨1,⟨#[97,47]⟩,⟨#[]⟩,false⟩
abbrev q2:Qy:=⟨2,⟨#[97]⟩,⟨#[98]⟩,false⟩
theorem QoK:Qd4 q1=0:=by
 have h:(ByteArray.mk #[]).toList=[]:=by rw [ByteArray.toList_eq]
 simp [Qd4,h]
theorem QoL:Qd4 q2=0:=by simp [Qd4]
theorem Qps:inQ q1 kA1=true:=by
 rw [inQ,if_pos QoK,if_pos rfl]
 show (ByteArray.toList _).isPrefixOf (ByteArray.toList _)=true
 rw [ByteArray.toList_eq,ByteArray.toList_eq];decide
theorem Qpt:inQ q1 kB=false:=by
 rw [inQ,if_pos QoK,if_pos rfl]
 show (ByteArray.toList _).isPrefixOf (ByteArray.toList _)=false
 rw [ByteArray.toList_eq,ByteArray.toList_eq];decide
theorem Qpu:inQ q2 kA1=true:=by
 rw [inQ,if_pos QoL,if_neg (by decide)]
 show (!(Op.bytesLess (ByteArray.toList _) (ByteArray.toList _)) && (false || Op.bytesLess (ByteArray.toList _) (ByteArray.toList _)))=true
 simp only [ByteArray.toList_eq];decide
theorem Qpv:inQ q2 kB=false:=by
 rw [inQ,if_pos QoL,if_neg (by decide)]
 show (!(Op.bytesLess (ByteArray.toList _) (ByteArray.toList _)) && (false || Op.bytesLess (ByteArray.toList _) (ByteArray.toList _)))=false
 simp only [ByteArray.toList_eq];decide
theorem QnH:klt kA1 kB=true:=by
 show Op.bytesLess (ByteArray.toList _) (ByteArray.toList _)=true
 simp only [ByteArray.toList_eq];decide
theorem Qlg:chg [] [(kA1,Qe5 5),(kB,Qe5 6)]=[⟨kA1,false,zeroV,true,Qe5 5⟩,⟨kB,false,zeroV,true,Qe5 6⟩]:=by rw [Qfy];rfl
theorem Qj3:chg [(kA1,Qe5 5),(kB,Qe5 6)] [(kB,Qe5 7)]=[⟨kA1,true,Qe5 5,false,zeroV⟩,⟨kB,true,Qe5 6,true,Qe5 7⟩]:=by
 rw [chg,if_pos QnH,QeZ (e:=(kB,Qe5 6)) (f:=(kB,Qe5 7)) rfl,Qfy]
 rw [Qk6,if_neg (show ¬Qbq (Qe5 6) (Qe5 7)=0 by simp [Qbq,QbR,Val.kind,Val.i])]
 rfl
theorem Qlr {s1 s2:Iv} (h1:Qi8 q1 s1) (h2:Qi8 q2 s2) {c d:Chg} (hc:c.k=kA1) (hd:d.k=kB):evL [(1,s1),(2,s2)] [c,d]=[(1,c),(2,c)]:=by
 have a1:=h1.has QoK c.k
 have a2:=h2.has QoL c.k
 have b1:=h1.has QoK d.k
 have b2:=h2.has QoL d.k
 rw [hc,Qps] at a1
 rw [hc,Qpu] at a2
 rw [hd,Qpt] at b1
 rw [hd,Qpv] at b2
 rw [←hc] at a1 a2
 rw [←hd] at b1 b2
 simp only [evL,List.flatMap_cons,List.flatMap_nil,List.filter_cons,List.filter_nil,a1,a2,b1,b2,if_true,Bool.false_eq_true,if_false,List.map_cons,List.map_nil,List.cons_append,List.nil_append]
theorem Qk2 {w:World} {R:Nat} {T:RT} {g:Nat} {mb:Option Nat} {L:Qbc} (h:QaR w R T g mb L) (hg:g≤1000000) (q:Qy) (hq:q.short) (hm:Qd4 q=0) :
  Calls Tryz.prog 16 #[.pointer (some ⟨R,0,none⟩),q.v] w fun e w'=>∃ s mb',e=.returned (.tuple #[.int .u64 ((g+1:Nat):Int),.int .i64 0])∧Qi8 q s∧QaR w' R T (g+1) mb' (L++[(g+1,s)])∧(mb'=mb∨∃ b,mb'=some b∧w.heap.size≤b)∧Sb (Qdp R mb) w w':=
 (Qhr h hg q hq).mono fun e w' he=>by
   rcases he with ⟨h1,-⟩ | ⟨-,s,mb',he⟩
   ·exact absurd hm h1
   exact ⟨s,mb',he⟩
theorem QnI {R:Nat} {U:RT} {g:Nat} {mb:Option Nat} {L:Qbc} (hn:L.length≤12):∀ W,QaR W R U g mb L→0<L.length→Calls Tryz.prog 23 #[.pointer (some ⟨R,0,none⟩)] W (QgK L W):=fun W h h0=>Qkk h h0 hn
theorem Qls {w:World} {g:Nat} {x y:EV} (hb:Blk w g 56 (x.cells.toList++y.cells.toList).toArray) (hx:CR w (Lt w.heap.size) x.x) (hy:CR w (Lt w.heap.size) y.x):EVS w (Lt w.heap.size) ⟨some ⟨g,0,none⟩,2⟩ [x,y]:=
 ⟨(Rd.block (cs:=QbG [x,y]) (n:=2) (size:=16) (by simpa [QbG] using hb) (by decide) (by simp [QbG])).mono fun i hi=>by subst hi;exact hb.lt,fun u hu=>by
   rcases List.mem_cons.1 hu with rfl | hu
   ·exact hx
   obtain rfl:=List.mem_singleton.1 hu;exact hy,by simp⟩
def Qee (id:Nat):Bool→EV
 | true=>⟨id,⟨⟨kA1,false,zeroV,true,Qe5 5⟩,Sl.none,Sl.none,Sl.none,Sl.none⟩⟩
 | false=>⟨id,⟨⟨kA1,true,Qe5 5,false,zeroV⟩,Sl.none,Sl.none,Sl.none,Sl.none⟩⟩
theorem Qe9 (w:World) (F:Nat→Prop) (id:Nat) (b:Bool):CR w F (Qee id b).x:=by
 cases b
 ·exact ⟨QfL _ _ (by decide),Qd7 _ _,show kA1.size≤maxLen by decide⟩
 exact ⟨Qd7 _ _,QfL _ _ (by decide),show kA1.size≤maxLen by decide⟩
theorem EVS.QoD {w w':World} {s:Sl} {xs:List EV} (h:EVS w (Lt w.heap.size) s xs) (k:Ext w w'):EVS w' (Lt w'.heap.size) s xs:=(h.agree (k.agree fun _ h=>h)).mono fun _ hi=>Nat.lt_of_lt_of_le hi k.size
theorem QbV {W:World} {R:Nat} {T:RT} {g:Nat} {mb:Option Nat} {L:Qbc} (h:QaR W R T g mb L):∀ b,Qdp R mb b→b<W.heap.size:=fun b hb=>by
 rcases hb with rfl | rfl
 ·exact h.blk.lt
 exact h.map.lt
theorem QlN (w:World):Calls Tryz.prog 15 #[] w fun e w'=>e=.returned (.bool true)∧Below w.heap.size w w':=by
 go_enter Tryz.func15,Tryz.ntmps15
 go_wp2_with fail
 generalize hW0:World.alloc w _=w0
 have hreg0:QaR w0 w.heap.size none 0 none []:=by rw [←hW0];exact QaR.new (Blk.new _ _ _)
 have hb0:Below w.heap.size w w0:=by rw [←hW0];exact ((Ext.refl w).alloc _ _).below
 clear hW0
 refine (Qk2 hreg0 (by omega) q1 ⟨by decide,by decide⟩ QoK).mono ?_
 rintro e w1 ⟨s1,mb1,rfl,hiv1,hreg1,hmb1,hsb1⟩
 have hr1:∀ b,Qdp w.heap.size mb1 b→w.heap.size≤b:=fun b hb=>by
  rcases hb with rfl | hb
  ·exact Nat.le_refl _
  rcases hmb1 with h | ⟨c,h,hc⟩
  ·rw [h] at hb;cases hb
  rw [h] at hb;injection hb with hb;have:=hb0.size;omega
 have HB1:=Lib.hid (Sb.step hb0 hsb1 fun b hb=>by
  rcases hb with rfl | hb
  ·exact Nat.le_refl _
  cases hb)
 have HIV1:=Lib.hid hiv1
 have HR1:=Lib.hid hr1
 clear hb0 hreg0 hiv1 hmb1 hsb1 hr1
 go_wp2_with fail
 refine (Qk2 hreg1 (by omega) q2 ⟨by decide,by decide⟩ QoL).mono ?_
 rintro e w2 ⟨s2,mb2,rfl,hiv2,hreg2,hmb2,hsb2⟩
 have hz1:=HB1.out.size
 have hr2:∀ b,Qdp w.heap.size mb2 b→w.heap.size≤b:=fun b hb=>by
  rcases hb with rfl | hb
  ·exact Nat.le_refl _
  rcases hmb2 with h | ⟨c,h,hc⟩
  ·exact HR1.out b (.inr (by rw [←h];exact hb))
  rw [h] at hb;injection hb with hb;omega
 have HB2:=Lib.hid (Sb.step HB1.out hsb2 HR1.out)
 have HIV2:=Lib.hid hiv2
 have HR2:=Lib.hid hr2
 have HREG2:=Lib.hid hreg2
 clear hreg1 hiv2 hmb2 hsb2 hr2 hreg2 hz1
 go_wp2_with fail
 refine (QfA _ _ _).mono ?_
 rintro e w3 ⟨rfl,hx3⟩
 have HX3:=Lib.hid hx3
 clear hx3
 go_wp2_with fail
 refine (QfA _ _ _).mono ?_
 rintro e w4 ⟨rfl,hx4⟩
 have HX4:=Lib.hid (HX3.out.trans hx4)
 clear hx4
 go_wp2_with fail
 refine (Qnw (a:=kA1) (b:=kB) (m:=5) (n:=6) QnH (by decide) (by decide) (by decide) (by decide) (Blk.new w4 _ _)).mono ?_
 rintro e w5 ⟨U,p,rfl,hp,ok,he,hU,hx5⟩
 have hx25:=HX4.out.trans (((Ext.refl w4).alloc _ _).trans hx5)
 have hz25:=hx25.size
 have hz24:=HX4.out.size
 have hU':IsT w5 (In w2.heap.size w5.heap.size) U:=hU.mono fun b hb=>⟨by have:=hb.1;rw [World.size_alloc] at this;omega,hb.2⟩
 have haf:=Qdh (HREG2.out.ext hx25) (T:=none) (F:=fun _=>False) (U:=U) trivial hU' (fun b hb=>hb.elim) (fun b hb=>⟨hb.2,fun h=>by have:=QbV HREG2.out b h;have:=hb.1;omega⟩) trivial ok (by simp [Qak]) (by rw [he];simp) (by simp) (QnI (by simp))
 rw [QaC,hp,he] at haf
 rw [show chg (Qak none) _=_ from Qlg] at haf
 have HX25:=Lib.hid hx25
 have HAF:=Lib.hid haf
 have HP:=Lib.hid hp
 have HOK:=Lib.hid ok
 have HE:=Lib.hid he
 have HU:=Lib.hid hU'
 clear hp ok he hU hx5 hx25 hU' haf
 go_wp2_with fail
 refine HAF.out.mono ?_
 rintro e w6 ⟨sl1,evs1,rfl,hmap1,hreg6,hst6,hevs1⟩
 have hm1:evs1.map EV.p=[Qee 1 true,Qee 2 true].map EV.p:=by rw [hmap1];exact Qlr HIV1.out HIV2.out rfl rfl
 have hB5:Below w.heap.size w w5:=Sb.step HB2.out (HX25.out.sb fun _=>False) fun b hb=>hb.elim
 have HB6:=Lib.hid (Sb.step hB5 hst6.sb fun b hb=>by rw [hb];exact Nat.le_refl _)
 have hU6:IsT w6 (In w2.heap.size w5.heap.size) U:=HU.out.agree (hst6.agree.mono fun b hb=>⟨hb.2,fun e=>by have:=QbV HREG2.out b (.inl e);have:=hb.1;omega⟩)
 have HM1:=Lib.hid hm1
 have HREG6:=Lib.hid hreg6
 have HEV1:=Lib.hid hevs1
 have HU6:=Lib.hid hU6
 have hz56:=hst6.size
 have hz25:=HX25.out.size
 clear hmap1 hreg6 hst6 hevs1 hm1 hB5 hU6
 go_wp2_with fail
 refine (QfA _ _ _).mono ?_
 rintro e w7 ⟨rfl,hx7⟩
 have HX7:=Lib.hid hx7
 clear hx7
 go_wp2_with fail
 refine (Qnv (a:=kB) (v:=Qe5 7) (sl:=Sl.none) (so:=Sl.none) (by decide) (QfL _ _ (by decide)) (Blk.new w7 _ _)).mono ?_
 rintro e w8 ⟨V,q,rfl,hq,okV,heV,hV,hx8⟩
 have hx68:=HX7.out.trans (((Ext.refl w7).alloc _ _).trans hx8)
 have hz67:=HX7.out.size
 have hz68:=hx68.size
 have hV':IsT w8 (In w6.heap.size w8.heap.size) V:=hV.mono fun b hb=>⟨by have:=hb.1;rw [World.size_alloc] at this;omega,hb.2⟩
 have haf:=Qdh (HREG6.out.ext hx68) (T:=U) (F:=In w2.heap.size w5.heap.size) (U:=V) (HU6.out.agree (hx68.agree fun b hb=>by have:=hb.2;omega)) hV' (fun b hb=>⟨by have:=hb.2;omega,fun h=>by have:=QbV HREG2.out b h;have:=hb.1;omega⟩) (fun b hb=>⟨hb.2,fun h=>by have:=QbV HREG2.out b h;have:=hb.1;omega⟩) HOK.out okV (by rw [HE.out];simp) (by rw [heV];simp) (by simp) (QnI (by simp))
 rw [QaC,hq,heV,HE.out,Qj3] at haf
 have HX68:=Lib.hid hx68
 have HAF2:=Lib.hid haf
 clear hq okV heV hV hx8 hx68 hV' haf HAF
 go_wp2_with fail
 refine HAF2.out.mono ?_
 rintro e w9 ⟨sl2,evs2,rfl,hmap2,hreg9,hst9,hevs2⟩
 have hm2:evs2.map EV.p=[Qee 1 false,Qee 2 false].map EV.p:=by rw [hmap2];exact Qlr HIV1.out HIV2.out rfl rfl
 have hB8:Below w.heap.size w w8:=Sb.step HB6.out (HX68.out.sb fun _=>False) fun b hb=>hb.elim
 have HB9:=Lib.hid (Sb.step hB8 hst9.sb fun b hb=>by rw [hb];exact Nat.le_refl _)
 have hz89:=hst9.size
 have hz26:w2.heap.size≤w6.heap.size:=by omega
 have hev19:EVS w9 (Lt w9.heap.size) sl1 evs1:=((HEV1.out.agree (HX68.out.agree fun b hb=>hb.2)).agree (hst9.agree.mono fun b hb=>⟨by have:=hb.2;omega,fun e=>by have:=QbV HREG2.out b (.inl e);have:=hb.1;omega⟩)).mono fun b hb=>by have:=hb.2;show b<_;omega
 have HM2:=Lib.hid hm2
 have HEV19:=Lib.hid hev19
 have HEV2:=Lib.hid (hevs2.mono (G:=Lt w9.heap.size) fun b hb=>hb.2)
 clear hmap2 hreg9 hst9 hevs2 hm2 hB8 hev19 HAF2 HU6 HU HREG6 HREG2
 go_wp2_with fail
 generalize hW10:World.alloc w9 _=w10
 have hx10:Ext w9 w10:=by rw [←hW10];exact (Ext.refl _).alloc _ _
 have hb10:Blk w10 w9.heap.size 44 #[.int .i64 3,.bool false,.int .i64 5,.string ByteArray.empty,.slice none 0 0,.slice none 0 0]:=by rw [←hW10];exact Blk.new w9 _ _
 have HV:=Lib.hid (show ∀ W,Ext w10 W→W.cell? ⟨w9.heap.size,0,none⟩=some (.int .i64 3)∧W.cell? ⟨w9.heap.size,1,none⟩=some (.bool false)∧W.cell? ⟨w9.heap.size,2,none⟩=some (.int .i64 5)∧W.cell? ⟨w9.heap.size,3,none⟩=some (.string ByteArray.empty)∧W.cell? ⟨w9.heap.size,4,none⟩=some (.slice none 0 0)∧W.cell? ⟨w9.heap.size,5,none⟩=some (.slice none 0 0) from
  fun W hW=>⟨(hb10.ext hW).cell 0,(hb10.ext hW).cell 1,(hb10.ext hW).cell 2,(hb10.ext hW).cell 3,(hb10.ext hW).cell 4,(hb10.ext hW).cell 5⟩)
 have HX10:=Lib.hid hx10
 clear hW10 hx10 hb10
 refine QjS (fun w' b6 b7=>Ext w10 w'∧Blk w' b6 54 #[.string kA1,.bool false,.int .i64 0,.bool false,.int .i64 0,.string ByteArray.empty,.slice none 0 0,.slice none 0 0,.bool true,.int .i64 3,.bool false,.int .i64 5,.string ByteArray.empty,.slice none 0 0,.slice none 0 0]∧Blk w' b7 54 #[.string kA1,.bool true,.int .i64 3,.bool false,.int .i64 5,.string ByteArray.empty,.slice none 0 0,.slice none 0 0,.bool false,.int .i64 0,.bool false,.int .i64 0,.string ByteArray.empty,.slice none 0 0,.slice none 0 0]) [31,32,33,34] 9 10 ?_ ?_
 ·skip
  refine wp_region_held_drew (S:=(fun w'=>Ext w10 w')) (by kernel_rfl) (((Ext.refl w10).drew)) (fun hHeld=>?_)
  refine Qab 0 (some 31) HV hHeld ?_
  refine Qah 1 (some 32) hHeld ?_
  refine Qab 2 (some 33) HV hHeld ?_
  refine Qah 3 (some 34) hHeld ?_
  refine QaL (i:=4) (j:=5) (by kernel_rfl) rfl rfl (by rfl) (by rfl) (fun K hK=>?_) (fun K hK=>?_)
  ·go_simp
   skip
   refine hK.out _ _ ((by first|exact (((Ext.refl _).drew).alloc _ _).alloc _ _|exact ((Ext.refl _).drew).alloc _ _)) (fun hHeld=>?_)
   clear hK K
   try simp only [Act.put,List.setIfInBounds_toArray,List.set_cons_zero,List.set_cons_succ]
   refine Qaa (i:=5) (by kernel_rfl) rfl (by rfl) (fun K hK=>?_)
   go_simp
   skip
   refine hK.out _ _ ((by first|exact (((Ext.refl _).drew).alloc _ _).alloc _ _|exact ((Ext.refl _).drew).alloc _ _)) (fun hHeld=>?_)
   clear hK K
   try simp only [Act.put,List.setIfInBounds_toArray,List.set_cons_zero,List.set_cons_succ]
   refine Qaa (i:=6) (by kernel_rfl) rfl (by rfl) (fun K hK=>?_)
   go_simp
   skip
   refine hK.out _ _ ((by first|exact (((Ext.refl _).drew).alloc _ _).alloc _ _|exact ((Ext.refl _).drew).alloc _ _)) (fun hHeld=>?_)
   clear hK K
   try simp only [Act.put,List.setIfInBounds_toArray,List.set_cons_zero,List.set_cons_succ]
   refine Qaa (i:=7) (by kernel_rfl) rfl (by rfl) (fun K hK=>?_)
   go_simp
   skip
   refine hK.out _ _ ((by first|exact (((Ext.refl _).drew).alloc _ _).alloc _ _|exact ((Ext.refl _).drew).alloc _ _)) (fun hHeld=>?_)
   clear hK K
   try simp only [Act.put,List.setIfInBounds_toArray,List.set_cons_zero,List.set_cons_succ]
   refine wpAnyH_done (by kernel_rfl) ?_ _
   refine QdI ⟨w10.heap.size,w10.heap.size+1,⟨by first|exact (((Ext.refl _).drew).alloc _ _).alloc _ _|exact ((Ext.refl _).drew).alloc _ _,(Blk.new w10.drew _ _).ext ((Ext.refl _).alloc _ _),QgN w10.drew _ _ _ _⟩,by kernel_rfl,?_⟩
   simp only [Qnj,List.map_cons,List.map_nil,List.cons_append,List.nil_append,List.setIfInBounds_toArray,List.set_cons_zero,List.set_cons_succ]
   kernel_rfl
  go_simp
  skip
  refine hK.out _ _ ((by first|exact (((Ext.refl _).drew).alloc _ _).alloc _ _|exact ((Ext.refl _).drew).alloc _ _)) (fun hHeld=>?_)
  clear hK K
  try simp only [Act.put,List.setIfInBounds_toArray,List.set_cons_zero,List.set_cons_succ]
  refine Qaa (i:=4) (by kernel_rfl) rfl (by rfl) (fun K hK=>?_)
  go_simp
  skip
  refine hK.out _ _ ((by first|exact (((Ext.refl _).drew).alloc _ _).alloc _ _|exact ((Ext.refl _).drew).alloc _ _)) (fun hHeld=>?_)
  clear hK K
  try simp only [Act.put,List.setIfInBounds_toArray,List.set_cons_zero,List.set_cons_succ]
  refine Qaa (i:=6) (by kernel_rfl) rfl (by rfl) (fun K hK=>?_)
  go_simp
  skip
  refine hK.out _ _ ((by first|exact (((Ext.refl _).drew).alloc _ _).alloc _ _|exact ((Ext.refl _).drew).alloc _ _)) (fun hHeld=>?_)
  clear hK K
  try simp only [Act.put,List.setIfInBounds_toArray,List.set_cons_zero,List.set_cons_succ]
  refine Qaa (i:=7) (by kernel_rfl) rfl (by rfl) (fun K hK=>?_)
  go_simp
  skip
  refine hK.out _ _ ((by first|exact (((Ext.refl _).drew).alloc _ _).alloc _ _|exact ((Ext.refl _).drew).alloc _ _)) (fun hHeld=>?_)
  clear hK K
  try simp only [Act.put,List.setIfInBounds_toArray,List.set_cons_zero,List.set_cons_succ]
  refine wpAnyH_done (by kernel_rfl) ?_ _
  refine QdI ⟨w10.heap.size+1,w10.heap.size,⟨by first|exact (((Ext.refl _).drew).alloc _ _).alloc _ _|exact ((Ext.refl _).drew).alloc _ _,QgN w10.drew _ _ _ _,(Blk.new w10.drew _ _).ext ((Ext.refl _).alloc _ _)⟩,by kernel_rfl,?_⟩
  simp only [Qnj,List.map_cons,List.map_nil,List.cons_append,List.nil_append,List.setIfInBounds_toArray,List.set_cons_zero,List.set_cons_succ]
  kernel_rfl
 rintro w11 b6 b7 uu ⟨hx11,hb6,hb7⟩
 simp only [Qnj,List.map_cons,List.map_nil,List.cons_append,List.nil_append,List.setIfInBounds_toArray,List.set_cons_zero,List.set_cons_succ]
 obtain ⟨r0,r1,r2,r3,r4,r5,r6,r7,r8,r9,r10,r11,r12,r13,r14⟩:=hb6.c15
 have l6:=hb6.lt
 have HX11:=Lib.hid (HX10.out.trans hx11)
 have HB7:=Lib.hid hb7
 clear hx11 hb6 hb7 HV
 go_wp2_with fail
 generalize hW12:World.alloc w11 _=w12
 have hx12:Ext w11 w12:=by rw [←hW12];exact (Ext.refl _).alloc _ _
 have hb12:Blk w12 w11.heap.size 56 ((Qee 1 true).cells.toList++(Qee 2 true).cells.toList).toArray:=by rw [←hW12];exact Blk.new w11 _ _
 have hsm:=Qcy (w:=w12) (s:=sl1) (s':=⟨some ⟨w11.heap.size,0,none⟩,2⟩) (xs:=evs1) (ys:=[Qee 1 true,Qee 2 true]) (HEV19.out.QoD (HX11.out.trans hx12)) (Qls hb12 (Qe9 _ _ _ _) (Qe9 _ _ _ _)) HM1.out
 have HX12:=Lib.hid (HX11.out.trans hx12)
 have HB12:=Lib.hid (HB7.out.ext hx12)
 clear hW12 hx12 hb12 r0 r1 r2 r3 r4 r5 r6 r7 r8 r9 r10 r11 r12 r13 r14
 refine hsm.mono ?_
 rintro e w13 ⟨rfl,hx13⟩
 obtain ⟨r0,r1,r2,r3,r4,r5,r6,r7,r8,r9,r10,r11,r12,r13,r14⟩:=(HB12.out.ext hx13).c15
 have l7:=(HB12.out.ext hx13).lt
 have HX13:=Lib.hid (HX12.out.trans hx13)
 clear hx13 hsm
 go_wp2_with fail
 generalize hW14:World.alloc w13 _=w14
 have hx14:Ext w13 w14:=by rw [←hW14];exact (Ext.refl _).alloc _ _
 have hb14:Blk w14 w13.heap.size 56 ((Qee 1 false).cells.toList++(Qee 2 false).cells.toList).toArray:=by rw [←hW14];exact Blk.new w13 _ _
 have hsm:=Qcy (w:=w14) (s:=sl2) (s':=⟨some ⟨w13.heap.size,0,none⟩,2⟩) (xs:=evs2) (ys:=[Qee 1 false,Qee 2 false]) (HEV2.out.QoD (HX13.out.trans hx14)) (Qls hb14 (Qe9 _ _ _ _) (Qe9 _ _ _ _)) HM2.out
 have HX14:=Lib.hid (HX13.out.trans hx14)
 clear hW14 hx14 hb14 r0 r1 r2 r3 r4 r5 r6 r7 r8 r9 r10 r11 r12 r13 r14
 refine hsm.mono ?_
 rintro e w15 ⟨rfl,hx15⟩
 have HX15:=Lib.hid (HX14.out.trans hx15)
 clear hx15 hsm
 go_wp2_with fail
 go_ret
 exact ⟨rfl,Sb.step HB9.out (HX15.out.sb fun _=>False) fun b hb=>hb.elim⟩
end Go.Proofs.YtohajcflklejjaaGreat
namespace Go.Proofs.YtohajcflklejjaaGreat
open Go.RowKit
set_option linter.unusedVariables false
set_option linter.unusedSimpArgs false
theorem Qmj (es:List Ent) (a:L27):(Qi3 es a).length≤es.length+a.es.length:=by
 have h0:=Qgg a.gs (Qau es (a.es.map LE.ent))
 have h1:=Qbh (a.es.map LE.ent) es
 simp only [List.length_map] at h1
 unfold Qi3;omega
theorem TI.new {w:World} {H:Nat→Prop} {M:Nat} (hb:Blk w M 76 #[.slice none 0 0]) (hm:H M):TI H M [] none w:=⟨⟨hm,Sl.none,[],hb,ES.nil _ _,rfl⟩,trivial,trivial,rfl⟩
end Go.Proofs.YtohajcflklejjaaGreat
