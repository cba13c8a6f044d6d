/- What the theorem needs of the texts Turn, RefS27, Known27, TrodQ, SubsCalm, FoldsP, FoldsQ, FoldsM, PdqA: no condition of its own. -/
import Derived.Laws.IdiomStrings
import Derived.WalkArith
import Derived.Sort.WalkA6
import Derived.Sort.WalkB12
import Derived.Sort.Walk13a
import Derived.Test.YtohajcflklejjaaGreatPga
import Derived.Test.YtohajcflklejjaaGreatPgb
import Derived.Test.YtohajcflklejjaaGreatPgc
import Derived.Test.YtohajcflklejjaaGreatPgd
import Derived.Test.YtohajcflklejjaaGreatPge
import Derived.Test.YtohajcflklejjaaGreatPgf
import Derived.Test.YtohajcflklejjaaGreatPgg
import Derived.Test.YtohajcflklejjaaGreatPgh
import Derived.Test.YtohajcflklejjaaGreatPgi
import Derived.Test.YtohajcflklejjaaGreatPgj
set_option maxRecDepth 1000000
set_option maxHeartbeats 8000000
namespace Go.Proofs.YtohajcflklejjaaGreat
open Go.RowKit
set_option linter.unusedVariables false
set_option linter.unusedSimpArgs false
structure L27 where
 kind:Int
 q:Qy
 id:Int
 ps:Sl
 es:List LE
 gp:Sl
 gs:List ByteArray
abbrev L27.v (a:L27):Value:=.agg #[.int .i64 a.kind,.int .i64 a.q.kind,.string a.q.lo,.string a.q.hi,.bool a.q.op,.int .u64 a.id,.slice a.ps.a a.es.length a.ps.c,.slice a.gp.a a.gs.length a.gp.c]
structure A27 (w:World) (F:Nat→Prop) (a:L27):Prop where
 es:ES w F a.ps a.es
 gs:Rd w F 1 a.gp a.gs.length (a.gs.map Value.string)
 gk:∀ k∈a.gs,k.size≤maxLen
 q:a.q.short
theorem A27.agree {w w':World} {F:Nat→Prop} {a:L27} (h:A27 w F a) (ha:Agree F w w'):A27 w' F a:=⟨h.es.agree ha,h.gs.agree ha,h.gk,h.q⟩
theorem A27.mono {w:World} {F G:Nat→Prop} {a:L27} (h:A27 w F a) (hG:∀ b,F b→G b):A27 w G a:=⟨h.es.mono hG,h.gs.mono hG,h.gk,h.q⟩
theorem A27.gone {w:World} {F:Nat→Prop} {a:L27} (h:A27 w F a) {j:Nat} {k:ByteArray} (hk:a.gs[j]? = some k):∃ b o,a.gp.a=some ⟨b,o,none⟩∧F b∧a.gs.length≤a.gp.c∧a.gp.c≤maxLen∧w.cell? ⟨b,o+j,none⟩=some (.string k):=by
 obtain ⟨b,o,h1,h2,h3⟩:=h.gs
 have hj:j<a.gs.length:=(List.getElem?_eq_some_iff.1 hk).1
 obtain ⟨e1,e2,e3⟩:=h1.eq (by omega)
 exact ⟨b,o,e1,h1.fits (by omega),e2,e3,h3 j _ (by rw [List.getElem?_map,hk];rfl)⟩
def QbK (es:List Ent) (l:List ByteArray):List Ent:=l.foldl QbZ es
theorem Qcf (es:List Ent) (l:List ByteArray) (k:ByteArray):QbK es (l++[k])=QbZ (QbK es l) k:=by simp [QbK]
theorem QmQ (es:List Ent) (k:ByteArray):(QbZ es k).length≤es.length:=by
 induction es with
 | nil=>exact Nat.le_refl _
 | cons e es ih=>
   rw [QbZ]
   split
   ·simp only [List.length_cons];omega
   ·split
    ·simp only [List.length_cons];omega
    ·exact Nat.le_refl _
theorem QfL (l:List ByteArray):∀ es:List Ent,(QbK es l).length≤es.length:=by
 induction l with
 | nil=>exact fun es=>Nat.le_refl _
 | cons k l ih=>exact fun es=>Nat.le_trans (ih (QbZ es k)) (QmQ es k)
def QjL (es:List Ent) (a:L27):List Ent:=QbK (QaB es (a.es.map LE.ent)) a.gs
structure TI (H:Nat→Prop) (M:Nat) (es:List Ent) (T:RT) (W:World):Prop where
 map:MapAt H W M es
 tree:IsT W (NH H W) T
 ok:OkR T
 ents:Qak T=es
theorem TI.st {H G:Nat→Prop} {M:Nat} {es:List Ent} {T:RT} {w w':World} (h:TI H M es T w) (k:St G w w') (hG:∀ b,G b→H b) (hM:¬G M):TI H M es T w':=
 ⟨h.map.st k hG hM,(h.tree.agree fun b hb=>k.block b hb.1 fun hh=>hb.2 (hG b hh)).mono fun i hi=>⟨Nat.lt_of_lt_of_le hi.1 k.size,hi.2⟩,h.ok,h.ents⟩
theorem TI.ext {H:Nat→Prop} {M:Nat} {es:List Ent} {T:RT} {w w':World} (h:TI H M es T w) (k:Ext w w'):TI H M es T w':=h.st (k.st fun _=>False) (fun _ hb=>hb.elim) (fun hb=>hb)
def QjW (H0:Nat→Prop) (es:List Ent) (w:World) (e:Ending) (w':World):Prop:=
 ∃ (T:RT) (p:Option Addr) (H:Nat→Prop) (M:Nat),e=.returned (.tuple #[.agg #[.pointer p],.pointer (some ⟨M,0,none⟩)])∧QaE T=.pointer p∧TI H M es T w'∧(∀ b,H b→b<w'.heap.size)∧(∀ b,H0 b→H b)∧Ext w w'∧(∀ b,H b→H0 b∨w.heap.size≤b)∧w.heap.size≤M
theorem Qhu {w:World} {H0:Nat→Prop} {M0:Nat} {T0:RT} {es0:List Ent} {a:L27} {p0:Option Addr} (hI:TI H0 M0 es0 T0 w) (hH:∀ b,H0 b→b<w.heap.size) (hA:A27 w (NH H0 w) a) (hc:es0.length+a.es.length≤900000) (hg:a.gs.length≤100000000) (hp0:QaE T0=.pointer p0) :
  Calls Tryz.prog 27 #[.agg #[.pointer p0],.pointer (some ⟨M0,0,none⟩),a.v] w (QjW H0 (QjL es0 a) w):=by
 obtain ⟨kd,q,idn,ps,es,gp,gs⟩:=a
 have HI:=Lib.hid hI
 have HH:=Lib.hid hH
 have HA:=Lib.hid hA
 have HC:=Lib.hid hc
 have HP0:=Lib.hid hp0
 have hel:es.length≤900000:=by show es.length≤_;have:es0.length+es.length≤900000:=hc;omega
 have hgl:gs.length≤100000000:=hg
 clear hI hH hA hc hp0 hg
 dsimp only [L27.v,QjL]
 go_enter Tryz.func27,Tryz.ntmps27
 go_wp2_with fail
 generalize hW0:World.alloc (World.alloc (World.alloc _ _) _) _=w0
 obtain ⟨hx0,hz0,hb0,hb1,hb2⟩:=QaJ w _ _ _ _ _ _ w0 hW0
 clear hW0
 have hz0l:w0.heap.size=w.heap.size+3:=hz0
 have hcp:=Qki ((HI.out.map.wide w0.heap.size).ext hx0) (fun b hb=>hb.elim (fun h=>Nat.lt_of_lt_of_le (HH.out b h) hx0.size) fun h=>h.2) (by have:es0.length+es.length≤900000:=HC.out;omega)
 have HCP:=Lib.hid hcp
 have HX0:=Lib.hid hx0
 have HB0:=Lib.hid hb0
 have HB1:=Lib.hid hb1
 have HB2:=Lib.hid hb2
 clear hx0 hb0 hb1 hb2 hz0 hcp
 refine HCP.out.mono ?_
 rintro e w1 ⟨M,rfl,hMlo,hx1,hM⟩
 obtain ⟨H1,hH1⟩:∃ H1:Nat→Prop,H1=fun b=>(H0 b∨(w.heap.size≤b∧b<w0.heap.size))∨b=M:=⟨_,rfl⟩
 rw [←hH1] at hM
 have hMlt:M<w1.heap.size:=by obtain ⟨-,s,xs,hb,-⟩:=hM;exact hb.lt
 have hs01:=hx1.size
 have hH1l:∀ b,H1 b→b<w1.heap.size:=fun b hb=>by
  rw [hH1] at hb
  rcases hb with (h | h) | h
  ·have:=HH.out b h;omega
  ·omega
  ·omega
 have hH1n:∀ b,b<w.heap.size→¬H0 b→¬H1 b:=fun b hb hn h=>by
  rw [hH1] at h
  rcases h with (h | h) | h
  ·exact hn h
  ·omega
  ·omega
 have hHt:H1 w.heap.size:=by rw [hH1];exact .inl (.inr ⟨Nat.le_refl _,by omega⟩)
 have hHt2:H1 (w.heap.size+1+1):=by rw [hH1];exact .inl (.inr ⟨by omega,by omega⟩)
 have hHM:H1 M:=hM.hm
 have hx01:=HX0.out.trans hx1
 have hA1:∀ W,(∀ b,b<w.heap.size→¬H0 b→W.heap[b]? = w.heap[b]?)→w.heap.size≤W.heap.size→A27 W (NH H1 W) ⟨kd,q,idn,ps,es,gp,gs⟩:=fun W hW hz=>(HA.out.agree fun b hb=>hW b hb.1 hb.2).mono fun b hb=>⟨Nat.lt_of_lt_of_le hb.1 hz,hH1n b hb.1 hb.2⟩
 have hTI:TI H1 M es0 T0 w1:=⟨hM,(HI.out.tree.agree (hx01.agree fun b hb=>hb.1)).mono fun b hb=>⟨Nat.lt_of_lt_of_le hb.1 hx01.size,hH1n b hb.1 hb.2⟩,HI.out.ok,HI.out.ents⟩
 have HH01:=Lib.hid (show ∀ b,H0 b→H1 b from fun b hb=>by rw [hH1];exact .inl (.inl hb))
 have HUP:=Lib.hid (show ∀ b,H1 b→H0 b∨w.heap.size≤b from fun b hb=>by
  rw [hH1] at hb
  rcases hb with (h | h) | h
  ·exact .inl h
  ·exact .inr h.1
  ·exact .inr (by omega))
 have HTI:=Lib.hid hTI
 have HA1:=Lib.hid hA1
 have HX1:=Lib.hid hx01
 have HH1L:=Lib.hid hH1l
 have HB01:=Lib.hid (HB0.out.ext hx1)
 have HB11:=Lib.hid (HB1.out.ext hx1)
 have HB21:=Lib.hid (HB2.out.ext hx1)
 have hH1lo:∀ b,(b=w.heap.size∨b=M)→w.heap.size≤b:=fun b hb=>by omega
 have HC':=Lib.hid (show es0.length+es.length≤900000 from HC.out)
 clear hM hH1 hH1l hx01 hA1 hTI HCP HI HA hx1 HX0 HB0 HB1 HB2 HC hH1n
 go_wp2_with fail
 go_loopw [9] (fun i wr=>∃ (j:Nat) (T:RT) (p:Option Addr),i=.int .i64 j∧j≤es.length∧Hid (TI H1 M (QaB es0 ((es.take j).map LE.ent)) T wr)∧Hid (QaE T=.pointer p)∧Hid (Blk wr w.heap.size 33 #[.pointer p])∧Hid (St (fun b=>b=w.heap.size∨b=M) w1 wr)) (fun i _=>es.length - (intOf i).toNat)
 case atStart=>exact ⟨0,T0,p0,rfl,Nat.zero_le _,HTI,HP0,HB01,Lib.hid (St.refl _ _)⟩
 case round=>
  obtain ⟨j,T,p,rfl,hj,HT,HP,HBT,HST⟩:=hrel
  have hszr:=HST.out.size
  have hwr:∀ b,b<w.heap.size→wr.heap[b]? = w.heap[b]?:=fun b hb=>(HST.out.block b (by omega) (by omega)).trans (HX1.out.heap hb)
  have haW:=HA1.out wr (fun b hb _=>hwr b hb) (by have:=HX1.out.size;omega)
  have hba:Blk wr (w.heap.size+1) 71 _:=HST.out.blk HB11.out (by omega)
  have a6:wr.cell? ⟨w.heap.size+1,6,none⟩=some (.slice ps.a es.length ps.c):=hba.cell 6
  have a7:wr.cell? ⟨w.heap.size+1,7,none⟩=some (.slice gp.a gs.length gp.c):=hba.cell 7
  have la:=hba.lt
  have ct:wr.cell? ⟨w.heap.size,0,none⟩=some (.pointer p):=HBT.out.cell 0
  have lt_:=HBT.out.lt
  have ft:=HBT.out.frozen 0
  have HAW:=Lib.hid haW
  have HWR:=Lib.hid hwr
  clear haW hwr hba
  by_cases hlt:j<es.length
  ·obtain ⟨x,hx⟩:∃ x,es[j]? = some x:=⟨_,List.getElem?_eq_getElem hlt⟩
   obtain ⟨b,o,hsa,hFb,hcc,hcm,k0,hv,hrv,hkm⟩:=HAW.out.es.at hx
   obtain ⟨psa,psc⟩:=ps
   dsimp only at hsa hcc hcm a6
   subst hsa
   have hFb:b<wr.heap.size∧¬H1 b:=hFb
   have hlb:=hFb.1
   have hbt:¬b=w.heap.size:=fun e=>hFb.2 (by rw [e];exact hHt)
   have hbM:¬b=M:=fun e=>hFb.2 (by rw [e];exact hHM)
   have g1:(j:Int)<(es.length:Int):=by omega
   have g0:(0:Int)≤(j:Int):=by omega
   have hlen:(QaB es0 ((es.take j).map LE.ent)).length≤1000000:=by
    have h1:=QcV ((es.take j).map LE.ent) es0
    have h2:=HC'.out
    simp only [List.length_map,List.length_take] at h1
    omega
   have hput:∀ W,Ext wr W→Calls Tryz.prog 46 #[.agg #[.pointer p],.string x.k,Qcs x.v x.sl x.so] W (QhF (NH H1 wr) T x.k x.v W):=fun W hW=>by
    have:=Qk7 (w:=W) (F:=NH H1 wr) (T:=T) (fun b hb=>Nat.lt_of_lt_of_le hb.1 hW.size) (HT.out.tree.agree (hW.agree fun b hb=>hb.1)) HT.out.ok (by rw [HT.out.ents];exact hlen) hkm ((hrv.agree (hW.agree fun b hb=>hb.1)).mono fun b hb=>Nat.lt_of_lt_of_le hb.1 hW.size)
    rwa [Qaz,HP.out] at this
   have HPUT:=Lib.hid hput
   have HSS:=Lib.hid (show ∀ W,St (fun b=>b=w.heap.size) wr W→W.cell? ⟨w.heap.size+1,6,none⟩=some (.slice (some ⟨b,o,none⟩) es.length psc)∧W.cell? ⟨b,o+j*7,none⟩=some (.string x.k)∧W.cell? ⟨b,o+j*7+1,none⟩=some (.int .i64 x.v.kind)∧W.cell? ⟨b,o+j*7+1+1,none⟩=some (.bool x.v.b)∧W.cell? ⟨b,o+j*7+1+2,none⟩=some (.int .i64 x.v.i)∧W.cell? ⟨b,o+j*7+1+3,none⟩=some (.string x.v.t)∧W.cell? ⟨b,o+j*7+1+4,none⟩=some (.slice x.sl.a x.v.l.length x.sl.c)∧W.cell? ⟨b,o+j*7+1+5,none⟩=some (.slice x.so.a x.v.ok.length x.so.c) from
    fun W hW=>⟨(hW.cell la (by omega)).trans a6,(hW.cell hlb hbt).trans k0,(hW.cell hlb hbt).trans hv.c0,(hW.cell hlb hbt).trans hv.c1,(hW.cell hlb hbt).trans hv.c2,(hW.cell hlb hbt).trans hv.c3,(hW.cell hlb hbt).trans hv.c4,(hW.cell hlb hbt).trans hv.c5⟩)
   have HV:=Lib.hid hv
   have HK0:=Lib.hid k0
   have HRV:=Lib.hid hrv
   have HXX:=Lib.hid hx
   clear k0 hv hrv hput hx
   go_wp2_with fail
   refine wp_region_held_drew (S:=(fun w'=>St (fun b=>b=w.heap.size) wr w')) (by kernel_rfl) (((St.refl _ wr).drew)) (fun hHeld=>?_)
   refine Qad 1 (some 23) ?_ HSS hHeld ?_ ?_
   rotate_left
   focus (intro w hSc;go_simp;first | done | with_reducible rfl)
   refine Qad 2 (some 24) ?_ HSS hHeld ?_ ?_
   rotate_left
   focus (intro w hSc;go_simp;first | done | with_reducible rfl)
   refine Qad 3 (some 25) ?_ HSS hHeld ?_ ?_
   rotate_left
   focus (intro w hSc;go_simp;first | done | with_reducible rfl)
   refine Qad 4 (some 26) ?_ HSS hHeld ?_ ?_
   rotate_left
   focus (intro w hSc;go_simp;first | done | with_reducible rfl)
   refine Qad 5 (some 27) ?_ HSS hHeld ?_ ?_
   rotate_left
   focus (intro w hSc;go_simp;first | done | with_reducible rfl)
   refine Qad 6 (some 28) ?_ HSS hHeld ?_ ?_
   rotate_left
   focus (intro w hSc;go_simp;first | done | with_reducible rfl)
   refine Qad 7 (some 29) ?_ HSS hHeld ?_ ?_
   rotate_left
   focus (intro w hSc;go_simp;first | done | with_reducible rfl)
   refine Qad 8 (some 30) ?_ HSS hHeld ?_ ?_
   rotate_left
   focus (intro w hSc;go_simp;first | done | with_reducible rfl)
   refine Qad 9 (some 31) ?_ HSS hHeld ?_ ?_
   rotate_left
   focus (intro w hSc;go_simp;first | done | with_reducible rfl)
   refine Qad 10 (some 32) ?_ HSS hHeld ?_ ?_
   rotate_left
   focus (intro w hSc;go_simp;first | done | with_reducible rfl)
   refine Qad 11 (some 33) ?_ HSS hHeld ?_ ?_
   rotate_left
   focus (intro w hSc;go_simp;first | done | with_reducible rfl)
   refine Qad 12 (some 34) ?_ HSS hHeld ?_ ?_
   rotate_left
   focus (intro w hSc;go_simp;first | done | with_reducible rfl)
   refine Qaa (i:=0) (by kernel_rfl) rfl (by rfl) (fun K hK=>?_)
   go_simp
   skip
   refine hK.out _ _ (hHeld) (fun hHeld=>?_)
   clear hK K
   try simp only [Act.put,List.setIfInBounds_toArray,List.set_cons_zero,List.set_cons_succ]
   refine Qaa (i:=13) (by kernel_rfl) rfl (by rfl) (fun K hK=>?_)
   go_simp
   (refine (HPUT.out _ ((Ext.refl wr).drew)).mono ?_;rintro e w2 ⟨T2,rfl,hp2,hT2,hx2'⟩;have hx2:=((Ext.refl wr).drew).trans hx2';obtain ⟨p2,hq2⟩:=Qar T2;have HX2:=Lib.hid hx2;have HT2:=Lib.hid hT2;have HP2:=Lib.hid hp2;have HQ2:=Lib.hid hq2;dsimp only [Qaz];rw [hq2];have ct2:w2.cell? ⟨w.heap.size,0,none⟩=some (.pointer p):=(HBT.out.ext hx2).cell 0;have ft2:=(HBT.out.ext hx2).frozen 0;have lt2:=(HBT.out.ext hx2).lt;clear hp2 hT2 hx2 hx2' hq2)
   refine hK.out _ _ (HX2.out.st _) (fun hHeld=>?_)
   clear hK K
   try simp only [Act.put,List.setIfInBounds_toArray,List.set_cons_zero,List.set_cons_succ]
   refine Qaa (i:=14) (by kernel_rfl) rfl (by rfl) (fun K hK=>?_)
   go_simp
   skip
   refine hK.out _ _ (St.set (H:=fun b=>b=w.heap.size) (HX2.out.st _) (p:=⟨w.heap.size,0,none⟩) (.inr rfl) _) (fun hHeld=>?_)
   clear hK K
   try simp only [Act.put,List.setIfInBounds_toArray,List.set_cons_zero,List.set_cons_succ]
   refine wpAnyH_done (by kernel_rfl) ?_ _
   clear ct2 ft2 lt2
   have hst3:St (fun b=>b=w.heap.size) wr (w2.setCell ⟨w.heap.size,0,none⟩ (.pointer p2)):=St.set (H:=fun b=>b=w.heap.size) (HX2.out.st _) (p:=⟨w.heap.size,0,none⟩) (.inr rfl) _
   have hset:St (fun b=>b=w.heap.size) w2 (w2.setCell ⟨w.heap.size,0,none⟩ (.pointer p2)):=St.set (H:=fun b=>b=w.heap.size) (St.refl _ _) (p:=⟨w.heap.size,0,none⟩) (.inr rfl) _
   have hbt3:Blk (w2.setCell ⟨w.heap.size,0,none⟩ (.pointer p2)) w.heap.size 33 #[.pointer p2]:=(HBT.out.ext HX2.out).QaQ 0 _
   generalize w2.setCell ⟨w.heap.size,0,none⟩ (.pointer p2)=W3 at *
   have hz2:=HX2.out.size
   have hz3:=hset.size
   have hnew:∀ b,wr.heap.size≤b→¬H1 b:=fun b hb h=>by have:=HH1L.out b h;omega
   have hT3:IsT W3 (NH H1 W3) T2:=(HT2.out.agree fun b hb=>hset.block b (hb.elim (fun h=>Nat.lt_of_lt_of_le h.1 hz2) fun h=>h.2) (fun e=>hb.elim (fun h=>h.2 (by rw [e];exact hHt)) fun h=>by have:wr.heap.size≤b:=h.1;omega)).mono fun b hb=>by
    rcases hb with h | h
    ·exact ⟨by have:=h.1;omega,h.2⟩
    ·exact ⟨by have:=h.2;omega,hnew b h.1⟩
   have hM3:MapAt H1 W3 M (QaB es0 ((es.take j).map LE.ent)):=HT.out.map.st hst3 (fun b hb=>by rw [hb];exact hHt) (by omega)
   have hrv3:RV W3 (NH H1 W3) x.v x.sl x.so:=(HRV.out.agree fun b hb=>hst3.block b hb.1 fun e=>hb.2 (by rw [e];exact hHt)).mono fun b hb=>⟨by have:=hb.1;omega,hb.2⟩
   have hput7:=QiH (w:=W3.drew) (hM3.ext ((Ext.refl W3).drew)) (fun b hb=>by have:=HH1L.out b hb;show b<W3.heap.size;omega) (by rw [←HT.out.ents];exact HT.out.ok.sorted) hlen hkm (hrv3.agree (((Ext.refl W3).drew).agree fun b hb=>hb.1))
   have HPUT7:=Lib.hid hput7
   have hlb3:b<W3.heap.size:=by omega
   have la3:w.heap.size+1<W3.heap.size:=by omega
   have HSS2:=Lib.hid (show ∀ W,St (fun b=>b=M) W3 W→W.cell? ⟨w.heap.size+1,6,none⟩=some (.slice (some ⟨b,o,none⟩) es.length psc)∧W.cell? ⟨b,o+j*7,none⟩=some (.string x.k)∧W.cell? ⟨b,o+j*7+1,none⟩=some (.int .i64 x.v.kind)∧W.cell? ⟨b,o+j*7+1+1,none⟩=some (.bool x.v.b)∧W.cell? ⟨b,o+j*7+1+2,none⟩=some (.int .i64 x.v.i)∧W.cell? ⟨b,o+j*7+1+3,none⟩=some (.string x.v.t)∧W.cell? ⟨b,o+j*7+1+4,none⟩=some (.slice x.sl.a x.v.l.length x.sl.c)∧W.cell? ⟨b,o+j*7+1+5,none⟩=some (.slice x.so.a x.v.ok.length x.so.c) from
    fun W hW=>by
     obtain ⟨q0,q1,q2,q3,q4,q5,q6,q7⟩:=HSS.out W3 hst3
     exact ⟨(hW.cell la3 (by omega)).trans q0,(hW.cell hlb3 hbM).trans q1,(hW.cell hlb3 hbM).trans q2,(hW.cell hlb3 hbM).trans q3,(hW.cell hlb3 hbM).trans q4,(hW.cell hlb3 hbM).trans q5,(hW.cell hlb3 hbM).trans q6,(hW.cell hlb3 hbM).trans q7⟩)
   have HST3:=Lib.hid hst3
   have HT3:=Lib.hid hT3
   have HBT3:=Lib.hid hbt3
   clear hst3 hset hbt3 hT3 hM3 hrv3 hput7
   go_wp2_with fail
   refine wp_region_held_drew (S:=(fun w'=>St (fun b=>b=M) W3 w')) (by kernel_rfl) (((St.refl _ W3).drew)) (fun hHeld=>?_)
   refine Qad 0 (some 36) ?_ HSS2 hHeld ?_ ?_
   rotate_left
   focus (intro w hSc;go_simp;first | done | with_reducible rfl)
   refine Qad 1 (some 37) ?_ HSS2 hHeld ?_ ?_
   rotate_left
   focus (intro w hSc;go_simp;first | done | with_reducible rfl)
   refine Qad 2 (some 38) ?_ HSS2 hHeld ?_ ?_
   rotate_left
   focus (intro w hSc;go_simp;first | done | with_reducible rfl)
   refine Qad 3 (some 39) ?_ HSS2 hHeld ?_ ?_
   rotate_left
   focus (intro w hSc;go_simp;first | done | with_reducible rfl)
   refine Qad 4 (some 40) ?_ HSS2 hHeld ?_ ?_
   rotate_left
   focus (intro w hSc;go_simp;first | done | with_reducible rfl)
   refine Qad 5 (some 41) ?_ HSS2 hHeld ?_ ?_
   rotate_left
   focus (intro w hSc;go_simp;first | done | with_reducible rfl)
   refine Qad 6 (some 42) ?_ HSS2 hHeld ?_ ?_
   rotate_left
   focus (intro w hSc;go_simp;first | done | with_reducible rfl)
   refine Qad 7 (some 43) ?_ HSS2 hHeld ?_ ?_
   rotate_left
   focus (intro w hSc;go_simp;first | done | with_reducible rfl)
   refine Qad 8 (some 44) ?_ HSS2 hHeld ?_ ?_
   rotate_left
   focus (intro w hSc;go_simp;first | done | with_reducible rfl)
   refine Qad 9 (some 45) ?_ HSS2 hHeld ?_ ?_
   rotate_left
   focus (intro w hSc;go_simp;first | done | with_reducible rfl)
   refine Qad 10 (some 46) ?_ HSS2 hHeld ?_ ?_
   rotate_left
   focus (intro w hSc;go_simp;first | done | with_reducible rfl)
   refine Qad 11 (some 47) ?_ HSS2 hHeld ?_ ?_
   rotate_left
   focus (intro w hSc;go_simp;first | done | with_reducible rfl)
   refine Qad 12 (some 48) ?_ HSS2 hHeld ?_ ?_
   rotate_left
   focus (intro w hSc;go_simp;first | done | with_reducible rfl)
   refine Qaa (i:=13) (by kernel_rfl) rfl (by rfl) (fun K hK=>?_)
   go_simp
   (refine HPUT7.out.mono ?_;rintro e w4 ⟨⟨r,rfl⟩,hM4,hst4⟩)
   refine hK.out _ _ (hHeld.trans hst4) (fun hHeld=>?_)
   clear hK K
   try simp only [Act.put,List.setIfInBounds_toArray,List.set_cons_zero,List.set_cons_succ]
   refine wpAnyH_done (by kernel_rfl) ?_ _
   have hst:=hHeld
   have hti:TI H1 M (QaB es0 ((es.take (j+1)).map LE.ent)) T2 w4:=by
    refine ⟨?_,(HT3.out.agree fun b hb=>hst.block b hb.1 fun e=>hb.2 (by rw [e];exact hHM)).mono fun b hb=>⟨Nat.lt_of_lt_of_le hb.1 hst.size,hb.2⟩,HP2.out.ok HT.out.ok,?_⟩
    ·rw [List.take_add_one,HXX.out,List.map_append]
     show MapAt H1 w4 M (QaB es0 ((es.take j).map LE.ent++[x.ent]))
     rw [Qdc];exact hM4
    ·rw [HP2.out.ents HT.out.ok,HT.out.ents,List.take_add_one,HXX.out,List.map_append]
     show _=QaB es0 ((es.take j).map LE.ent++[x.ent])
     rw [Qdc];rfl
   have HTI2:=Lib.hid hti
   have HBT4:=Lib.hid (hst.blk HBT3.out (by omega))
   have HST4:=Lib.hid (HST.out.trans ((HST3.out.mono fun i _ hi=>.inl hi).trans (hst.mono fun i _ hi=>.inr hi)))
   clear hHeld hst hti hM4 hst4
   go_wp2_with fail
   go_roundw
   case rel=>exact ⟨j+1,T2,p2,by go_num,hlt,HTI2,HQ2,HBT4,HST4⟩
   case measure=>simp [intOf];omega
  ·have g1:¬(j:Int)<(es.length:Int):=by omega
   obtain rfl:j=es.length:=by omega
   rw [List.take_length] at HT
   go_wp2_with fail
   clear a6 a7 la ct lt_ ft
   have HSTA:=Lib.hid HST.out
   obtain ⟨wa,hwa⟩:∃ wa,wa=wr:=⟨_,rfl⟩
   subst hwa
   go_loopw [10] (fun i wr=>∃ (j:Nat) (T:RT) (p:Option Addr),i=.int .i64 j∧j≤gs.length∧Hid (TI H1 M (QbK (QaB es0 (es.map LE.ent)) (gs.take j)) T wr)∧Hid (QaE T=.pointer p)∧Hid (Blk wr w.heap.size 33 #[.pointer p])∧Hid (St (fun b=>b=w.heap.size∨b=M) w1 wr)) (fun i _=>gs.length - (intOf i).toNat)
   case atStart=>exact ⟨0,T,p,rfl,Nat.zero_le _,HT,HP,HBT,HST⟩
   case round=>
    obtain ⟨j,T,p,rfl,hj,HT,HP,HBT,HST⟩:=hrel
    have hszr:=HST.out.size
    have hwr:∀ b,b<w.heap.size→wr.heap[b]? = w.heap[b]?:=fun b hb=>(HST.out.block b (by omega) (by omega)).trans (HX1.out.heap hb)
    have haW:=HA1.out wr (fun b hb _=>hwr b hb) (by have:=HX1.out.size;omega)
    have hba:Blk wr (w.heap.size+1) 71 _:=HST.out.blk HB11.out (by omega)
    have a7:wr.cell? ⟨w.heap.size+1,7,none⟩=some (.slice gp.a gs.length gp.c):=hba.cell 7
    have la:=hba.lt
    have ct:wr.cell? ⟨w.heap.size,0,none⟩=some (.pointer p):=HBT.out.cell 0
    have lt_:=HBT.out.lt
    have ft:=HBT.out.frozen 0
    have HAW:=Lib.hid haW
    clear haW hwr hba
    by_cases hlt:j<gs.length
    ·obtain ⟨k,hk⟩:∃ k,gs[j]? = some k:=⟨_,List.getElem?_eq_getElem hlt⟩
     obtain ⟨b,o,hsa,hFb,hcc,hcm,k0⟩:=HAW.out.gone hk
     obtain ⟨gpa,gpc⟩:=gp
     dsimp only at hsa hcc hcm a7
     subst hsa
     have hFb:b<wr.heap.size∧¬H1 b:=hFb
     have hlb:=hFb.1
     have hbt:¬b=w.heap.size:=fun e=>hFb.2 (by rw [e];exact hHt)
     have hbM:¬b=M:=fun e=>hFb.2 (by rw [e];exact hHM)
     have g1:(j:Int)<(gs.length:Int):=by omega
     have g0:(0:Int)≤(j:Int):=by omega
     have hlen:(QbK (QaB es0 (es.map LE.ent)) (gs.take j)).length≤1000000:=by
      have h0:=QfL (gs.take j) (QaB es0 (es.map LE.ent))
      have h1:=QcV (es.map LE.ent) es0
      have h2:=HC'.out
      simp only [List.length_map] at h1
      omega
     have hdel:∀ W,Ext wr W→Calls Tryz.prog 57 #[.agg #[.pointer p],.string k] W (QjR (NH H1 wr) T k W):=fun W hW=>by
      have:=Qi1 (w:=W) (F:=NH H1 wr) (T:=T) (fun b hb=>Nat.lt_of_lt_of_le hb.1 hW.size) (HT.out.tree.agree (hW.agree fun b hb=>hb.1)) HT.out.ok (by rw [HT.out.ents];exact hlen) k
      rwa [Qaz,HP.out] at this
     have HDEL:=Lib.hid hdel
     have HK:=Lib.hid hk
     clear hdel hk
     have hSF:∀ W,St (fun _=>False) wr W→W.cell? ⟨w.heap.size,0,none⟩=some (.pointer p)∧W.cell? ⟨w.heap.size+1,7,none⟩=some (.slice (some ⟨b,o,none⟩) gs.length gpc)∧W.cell? ⟨b,o+j,none⟩=some (.string k):=
      fun W hW=>⟨(hW.cell lt_ id).trans ct,(hW.cell la id).trans a7,(hW.cell hlb id).trans k0⟩
     have HSS:=Lib.hid hSF
     clear hSF
     go_wp2_with fail
     refine wp_region_held_drew (S:=(fun w'=>St (fun _=>False) wr w')) (by kernel_rfl) (((St.refl _ wr).drew)) (fun hHeld=>?_)
     refine Qad 0 (some 58) ?_ HSS hHeld ?_ ?_
     rotate_left
     focus (intro w hSc;go_simp;first | done | with_reducible rfl)
     refine Qad 1 (some 59) ?_ HSS hHeld ?_ ?_
     rotate_left
     focus (intro w hSc;go_simp;first | done | with_reducible rfl)
     refine Qad 2 (some 60) ?_ HSS hHeld ?_ ?_
     rotate_left
     focus (intro w hSc;go_simp;first | done | with_reducible rfl)
     refine Qad 3 (some 61) ?_ HSS hHeld ?_ ?_
     rotate_left
     focus (intro w hSc;go_simp;first | done | with_reducible rfl)
     refine Qad 4 (some 62) ?_ HSS hHeld ?_ ?_
     rotate_left
     focus (intro w hSc;go_simp;first | done | with_reducible rfl)
     refine Qad 5 (some 63) ?_ HSS hHeld ?_ ?_
     rotate_left
     focus (intro w hSc;go_simp;first | done | with_reducible rfl)
     refine QaI (i:=6) (j:=10) (by kernel_rfl) rfl rfl (by rfl) (by rfl) (fun K hK=>?_) (fun K hK=>?_)
     ·go_simp
      (refine (HDEL.out _ ((Ext.refl wr).drew)).mono ?_;rintro e w3 ⟨T',rfl,hd',hT',hx3'⟩;have hx3:=((Ext.refl wr).drew).trans hx3';obtain ⟨p',hq'⟩:=Qar T';have HD':=Lib.hid hd';have HT':=Lib.hid hT';have HX3:=Lib.hid hx3;have HQ':=Lib.hid hq';dsimp only [Qaz];rw [hq'];clear hd' hT' hx3 hx3' hq')
      refine hK.out _ _ (HX3.out.st _) (fun hHeld=>?_)
      clear hK K
      try simp only [Act.put,List.setIfInBounds_toArray,List.set_cons_zero,List.set_cons_succ]
      refine Qad 7 (some 57) ?_ HSS hHeld ?_ ?_
      rotate_left
      focus (intro w hSc;go_simp;first | done | with_reducible rfl)
      refine Qad 8 (some 65) ?_ HSS hHeld ?_ ?_
      rotate_left
      focus (intro w hSc;go_simp;first | done | with_reducible rfl)
      refine Qad 9 (some 66) ?_ HSS hHeld ?_ ?_
      rotate_left
      focus (intro w hSc;go_simp;first | done | with_reducible rfl)
      refine Qaa (i:=10) (by kernel_rfl) rfl (by rfl) (fun K hK=>?_)
      go_simp
      skip
      refine hK.out _ _ (hHeld.alloc _ _) (fun hHeld=>?_)
      clear hK K
      try simp only [Act.put,List.setIfInBounds_toArray,List.set_cons_zero,List.set_cons_succ]
      refine Qaa (i:=11) (by kernel_rfl) rfl (by rfl) (fun K hK=>?_)
      go_simp
      skip
      refine hK.out _ _ ((HX3.out.st _).alloc _ _) (fun hHeld=>?_)
      clear hK K
      try simp only [Act.put,List.setIfInBounds_toArray,List.set_cons_zero,List.set_cons_succ]
      refine Qad 12 (some 12) ?_ HSS hHeld ?_ ?_
      rotate_left
      focus (intro w hSc;go_simp;first | done | with_reducible rfl)
      refine wpAnyH_done (by kernel_rfl) ?_ _
      have hb6:Blk (w3.alloc (.cells #[.pointer p'] 33)) w3.heap.size 33 #[.pointer p']:=Blk.new w3 33 #[.pointer p']
      have hlo6:wr.heap.size≤w3.heap.size:=HX3.out.size
      have hT6:IsT (w3.alloc (.cells #[.pointer p'] 33)) (NH H1 (w3.alloc (.cells #[.pointer p'] 33))) T':=(HT'.out.agree (((Ext.refl w3).alloc _ _).agree fun b hb=>hb.elim (fun h=>Nat.lt_of_lt_of_le h.1 hlo6) fun h=>h.2)).mono fun b hb=>by
       have hz:=((Ext.refl w3).alloc #[.pointer p'] 33).size
       have hz2:(wr.drew).heap.size=wr.heap.size:=rfl
       rcases hb with h | h
       ·exact ⟨by have:=h.1;omega,h.2⟩
       ·exact ⟨by have:=h.2;omega,fun hh=>by have:=HH1L.out b hh;have:=h.1;omega⟩
      have hHd:=hHeld
      clear hHeld
      generalize w3.alloc (.cells #[.pointer p'] 33)=W6 at *
      generalize w3.heap.size=B6 at *
      have c6:W6.cell? ⟨_,0,none⟩=some (.pointer p'):=hb6.cell 0
      have l6:=hb6.lt
      have hbt6:=hHd.blk HBT.out id
      have t6:W6.cell? ⟨w.heap.size,0,none⟩=some (.pointer p):=hbt6.cell 0
      have lt6:=hbt6.lt
      have ft6:=hbt6.frozen 0
      have HT6:=Lib.hid hT6
      have HHD:=Lib.hid hHd
      have HB6:=Lib.hid hbt6
      have hzw6:=hHd.size
      clear hT6 hHd hbt6 hb6 ct lt_ ft a7 la
      go_upto_region 12 with fail
      have hset:St (fun b=>b=w.heap.size) W6 (W6.setCell ⟨w.heap.size,0,none⟩ (.pointer p')):=St.set (H:=fun b=>b=w.heap.size) (St.refl _ _) (p:=⟨w.heap.size,0,none⟩) (.inr rfl) _
      have hbt7:Blk (W6.setCell ⟨w.heap.size,0,none⟩ (.pointer p')) w.heap.size 33 #[.pointer p']:=HB6.out.QaQ 0 _
      clear c6 l6 t6 lt6 ft6
      generalize W6.setCell ⟨w.heap.size,0,none⟩ (.pointer p')=W7 at *
      obtain ⟨-,s7,k7⟩:=HSS.out W6 HHD.out
      have s8:W7.cell? ⟨w.heap.size+1,7,none⟩=some (.slice (some ⟨b,o,none⟩) gs.length gpc):=(hset.cell (by omega) (by omega)).trans s7
      have k8:W7.cell? ⟨b,o+j,none⟩=some (.string k):=(hset.cell (by omega) hbt).trans k7
      have l8:w.heap.size+1<W7.heap.size:=by have:=hset.size;omega
      have l9:b<W7.heap.size:=by have:=hset.size;omega
      have hz67:=hset.size
      have hM7:MapAt H1 W7 M (QbK (QaB es0 (es.map LE.ent)) (gs.take j)):=(HT.out.map.st HHD.out (fun b hb=>hb.elim) id).st hset (fun b hb=>by rw [hb];exact hHt) (by omega)
      have hd7:=Qgk hM7 (fun b hb=>by have:=HH1L.out b hb;omega) (by rw [←HT.out.ents];exact HT.out.ok.sorted) hlen k
      have HD7:=Lib.hid hd7
      have HT7:=Lib.hid ((HT6.out.agree fun b hb=>hset.block b hb.1 fun e=>hb.2 (by rw [e];exact hHt)).mono (G:=NH H1 W7) fun b hb=>⟨by have:=hb.1;omega,hb.2⟩)
      have HBT7:=Lib.hid hbt7
      have HST7:=Lib.hid (HST.out.trans ((HHD.out.mono fun i _ hi=>hi.elim).trans (hset.mono fun i _ hi=>.inl hi)))
      clear hset hbt7 s7 k7 hM7 hd7
      go_wp2_with fail
      refine HD7.out.mono ?_
      rintro e w8 ⟨rfl,hM8,hst8⟩
      have hti:TI H1 M (QbK (QaB es0 (es.map LE.ent)) (gs.take (j+1))) T' w8:=by
       refine ⟨?_,(HT7.out.agree fun b hb=>hst8.block b hb.1 fun e=>hb.2 (by rw [e];exact hHM)).mono fun b hb=>⟨Nat.lt_of_lt_of_le hb.1 hst8.size,hb.2⟩,HD'.out.ok HT.out.ok,?_⟩
       ·rw [List.take_add_one,HK.out]
        show MapAt H1 w8 M (QbK _ (gs.take j++[k]))
        rw [Qcf];exact hM8
       ·rw [HD'.out.ents HT.out.ok,HT.out.ents,List.take_add_one,HK.out]
        show _=QbK _ (gs.take j++[k])
        rw [Qcf]
      have HTI8:=Lib.hid hti
      have HBT8:=Lib.hid (hst8.blk HBT7.out (by omega))
      have HST8:=Lib.hid (HST7.out.trans (hst8.mono fun i _ hi=>.inr hi))
      clear hti hM8 hst8 s8 k8 l8 l9
      go_wp2_with fail
      go_roundw
      case rel=>exact ⟨j+1,T',p',by go_num,hlt,HTI8,HQ',HBT8,HST8⟩
      case measure=>simp [intOf];omega
     ·go_simp
      skip
      refine hK.out _ _ (hHeld.alloc _ _) (fun hHeld=>?_)
      clear hK K
      try simp only [Act.put,List.setIfInBounds_toArray,List.set_cons_zero,List.set_cons_succ]
      refine Qaa (i:=6) (by kernel_rfl) rfl (by rfl) (fun K hK=>?_)
      go_simp
      (refine (HDEL.out _ (((Ext.refl wr).drew).alloc _ _)).mono ?_;rintro e w3 ⟨T',rfl,hd',hT',hx3'⟩;have hx3:=(((Ext.refl wr).drew).alloc _ _).trans hx3';obtain ⟨p',hq'⟩:=Qar T';have HD':=Lib.hid hd';have HT':=Lib.hid hT';have HX3:=Lib.hid hx3;have HQ':=Lib.hid hq';dsimp only [Qaz];rw [hq'];have hb6:Blk w3 wr.heap.size 33 #[.pointer none]:=(Blk.new wr.drew 33 #[.pointer none]).ext hx3';have c6:w3.cell? ⟨wr.heap.size,0,none⟩=some (.pointer none):=hb6.cell 0;have f6:=hb6.frozen 0;have l6:=hb6.lt;clear hd' hT' hx3 hx3' hq')
      refine hK.out _ _ (HX3.out.st _) (fun hHeld=>?_)
      clear hK K
      try simp only [Act.put,List.setIfInBounds_toArray,List.set_cons_zero,List.set_cons_succ]
      refine Qad 7 (some 57) ?_ HSS hHeld ?_ ?_
      rotate_left
      focus (intro w hSc;go_simp;first | done | with_reducible rfl)
      refine Qad 8 (some 65) ?_ HSS hHeld ?_ ?_
      rotate_left
      focus (intro w hSc;go_simp;first | done | with_reducible rfl)
      refine Qad 9 (some 66) ?_ HSS hHeld ?_ ?_
      rotate_left
      focus (intro w hSc;go_simp;first | done | with_reducible rfl)
      refine Qaa (i:=11) (by kernel_rfl) rfl (by rfl) (fun K hK=>?_)
      go_simp
      skip
      refine hK.out _ _ (hHeld.set (p:=⟨wr.heap.size,0,none⟩) (.inl (Nat.le_refl _)) _) (fun hHeld=>?_)
      clear hK K
      try simp only [Act.put,List.setIfInBounds_toArray,List.set_cons_zero,List.set_cons_succ]
      refine Qad 12 (some 12) ?_ HSS hHeld ?_ ?_
      rotate_left
      focus (intro w hSc;go_simp;first | done | with_reducible rfl)
      refine wpAnyH_done (by kernel_rfl) ?_ _
      have hlo6:wr.heap.size≤wr.heap.size:=Nat.le_refl _
      have hz3:wr.heap.size+1≤w3.heap.size:=by omega
      have hT6:IsT (w3.setCell ⟨wr.heap.size,0,none⟩ (.pointer p')) (NH H1 (w3.setCell ⟨wr.heap.size,0,none⟩ (.pointer p'))) T':=(HT'.out.agree (Agree.setCell w3 ⟨wr.heap.size,0,none⟩ _ (by
        rintro (h | h)
        ·have h1:wr.heap.size<wr.heap.size:=h.1
         omega
        ·have h1:wr.heap.size+1≤wr.heap.size:=by have:=h.1;simpa using this
         omega))).mono fun b hb=>by
       rw [NH,World.size_setCell]
       rcases hb with h | h
       ·exact ⟨by have:=h.1;omega,h.2⟩
       ·exact ⟨h.2,fun hh=>by have:=HH1L.out b hh;have h1:wr.heap.size+1≤b:=by have:=h.1;simpa using this
                              omega⟩
      replace hb6:Blk (w3.setCell ⟨wr.heap.size,0,none⟩ (.pointer p')) wr.heap.size 33 #[.pointer p']:=hb6.QaQ 0 _
      have hHd:=hHeld
      clear hHeld c6 f6 l6
      generalize w3.setCell ⟨wr.heap.size,0,none⟩ (.pointer p')=W6 at *
      have c6:W6.cell? ⟨_,0,none⟩=some (.pointer p'):=hb6.cell 0
      have l6:=hb6.lt
      have hbt6:=hHd.blk HBT.out id
      have t6:W6.cell? ⟨w.heap.size,0,none⟩=some (.pointer p):=hbt6.cell 0
      have lt6:=hbt6.lt
      have ft6:=hbt6.frozen 0
      have HT6:=Lib.hid hT6
      have HHD:=Lib.hid hHd
      have HB6:=Lib.hid hbt6
      have hzw6:=hHd.size
      clear hT6 hHd hbt6 hb6 ct lt_ ft a7 la
      go_upto_region 12 with fail
      have hset:St (fun b=>b=w.heap.size) W6 (W6.setCell ⟨w.heap.size,0,none⟩ (.pointer p')):=St.set (H:=fun b=>b=w.heap.size) (St.refl _ _) (p:=⟨w.heap.size,0,none⟩) (.inr rfl) _
      have hbt7:Blk (W6.setCell ⟨w.heap.size,0,none⟩ (.pointer p')) w.heap.size 33 #[.pointer p']:=HB6.out.QaQ 0 _
      clear c6 l6 t6 lt6 ft6
      generalize W6.setCell ⟨w.heap.size,0,none⟩ (.pointer p')=W7 at *
      obtain ⟨-,s7,k7⟩:=HSS.out W6 HHD.out
      have s8:W7.cell? ⟨w.heap.size+1,7,none⟩=some (.slice (some ⟨b,o,none⟩) gs.length gpc):=(hset.cell (by omega) (by omega)).trans s7
      have k8:W7.cell? ⟨b,o+j,none⟩=some (.string k):=(hset.cell (by omega) hbt).trans k7
      have l8:w.heap.size+1<W7.heap.size:=by have:=hset.size;omega
      have l9:b<W7.heap.size:=by have:=hset.size;omega
      have hz67:=hset.size
      have hM7:MapAt H1 W7 M (QbK (QaB es0 (es.map LE.ent)) (gs.take j)):=(HT.out.map.st HHD.out (fun b hb=>hb.elim) id).st hset (fun b hb=>by rw [hb];exact hHt) (by omega)
      have hd7:=Qgk hM7 (fun b hb=>by have:=HH1L.out b hb;omega) (by rw [←HT.out.ents];exact HT.out.ok.sorted) hlen k
      have HD7:=Lib.hid hd7
      have HT7:=Lib.hid ((HT6.out.agree fun b hb=>hset.block b hb.1 fun e=>hb.2 (by rw [e];exact hHt)).mono (G:=NH H1 W7) fun b hb=>⟨by have:=hb.1;omega,hb.2⟩)
      have HBT7:=Lib.hid hbt7
      have HST7:=Lib.hid (HST.out.trans ((HHD.out.mono fun i _ hi=>hi.elim).trans (hset.mono fun i _ hi=>.inl hi)))
      clear hset hbt7 s7 k7 hM7 hd7
      go_wp2_with fail
      refine HD7.out.mono ?_
      rintro e w8 ⟨rfl,hM8,hst8⟩
      have hti:TI H1 M (QbK (QaB es0 (es.map LE.ent)) (gs.take (j+1))) T' w8:=by
       refine ⟨?_,(HT7.out.agree fun b hb=>hst8.block b hb.1 fun e=>hb.2 (by rw [e];exact hHM)).mono fun b hb=>⟨Nat.lt_of_lt_of_le hb.1 hst8.size,hb.2⟩,HD'.out.ok HT.out.ok,?_⟩
       ·rw [List.take_add_one,HK.out]
        show MapAt H1 w8 M (QbK _ (gs.take j++[k]))
        rw [Qcf];exact hM8
       ·rw [HD'.out.ents HT.out.ok,HT.out.ents,List.take_add_one,HK.out]
        show _=QbK _ (gs.take j++[k])
        rw [Qcf]
      have HTI8:=Lib.hid hti
      have HBT8:=Lib.hid (hst8.blk HBT7.out (by omega))
      have HST8:=Lib.hid (HST7.out.trans (hst8.mono fun i _ hi=>.inr hi))
      clear hti hM8 hst8 s8 k8 l8 l9
      go_wp2_with fail
      go_roundw
      case rel=>exact ⟨j+1,T',p',by go_num,hlt,HTI8,HQ',HBT8,HST8⟩
      case measure=>simp [intOf];omega
    ·have g1:¬(j:Int)<(gs.length:Int):=by omega
     obtain rfl:j=gs.length:=by omega
     rw [List.take_length] at HT
     have hb2:=HST.out.blk HB21.out (by omega)
     have c2:wr.cell? ⟨w.heap.size+1+1,0,none⟩=some (.pointer none):=hb2.cell 0
     have l2:=hb2.lt
     have f2:=hb2.frozen 0
     have HB2':=Lib.hid hb2
     clear hb2
     go_wp2_with fail
     clear a7 la
     have qq:(wr.setCell ⟨w.heap.size+1+1,0,none⟩ (.pointer p)).cell? ⟨w.heap.size+1+1,0,none⟩=some (.pointer p):=World.cell?_setCell_same wr _ _ c2
     refine bodyPost_ret (v:=.tuple #[.agg #[.pointer p],.pointer (some ⟨M,0,none⟩)]) (by simp [results,Tryz.results27,go_sem,qq]) rfl ?_
     have hset:St (fun b=>b=w.heap.size+1+1) wr (wr.setCell ⟨w.heap.size+1+1,0,none⟩ (.pointer p)):=St.set (H:=fun b=>b=w.heap.size+1+1) (St.refl _ _) (p:=⟨w.heap.size+1+1,0,none⟩) (.inr rfl) _
     have hx:=(HX1.out.step HST.out fun b hb=>hH1lo b hb).step hset fun b hb=>by rw [hb];omega
     refine ⟨T,p,H1,M,rfl,HP.out,HT.out.st hset (fun b hb=>by rw [hb];exact hHt2) (by omega),fun b hb=>?_,HH01.out,hx,HUP.out,by omega⟩
     have h1:=HH1L.out b hb
     have h2:=hset.size
     omega
end Go.Proofs.YtohajcflklejjaaGreat
namespace Go.Proofs.YtohajcflklejjaaGreat
open Go.RowKit Go.Shelf
set_option linter.unusedVariables false
set_option linter.unusedSimpArgs false
theorem Qik {W:World} {b p:Nat} {x:EV} (h:∀ c u,x.cells.toList[c]? = some u→W.cell? ⟨b,p+c,none⟩=some u) :
  W.cell? ⟨b,p,none⟩=some (.int .u64 (x.id:Int))∧W.cell? ⟨b,p+1,none⟩=some (.string x.x.c.k)∧W.cell? ⟨b,p+2,none⟩=some (.bool x.x.c.had)∧W.cell? ⟨b,p+3,none⟩=some (.int .i64 x.x.c.was.kind)∧W.cell? ⟨b,p+4,none⟩=some (.bool x.x.c.was.b)∧W.cell? ⟨b,p+5,none⟩=some (.int .i64 x.x.c.was.i)∧W.cell? ⟨b,p+6,none⟩=some (.string x.x.c.was.t)∧W.cell? ⟨b,p+7,none⟩=some (.slice x.x.slw.a x.x.c.was.l.length x.x.slw.c)∧W.cell? ⟨b,p+8,none⟩=some (.slice x.x.sow.a x.x.c.was.ok.length x.x.sow.c)∧W.cell? ⟨b,p+9,none⟩=some (.bool x.x.c.has)∧W.cell? ⟨b,p+10,none⟩=some (.int .i64 x.x.c.is_.kind)∧W.cell? ⟨b,p+11,none⟩=some (.bool x.x.c.is_.b)∧W.cell? ⟨b,p+12,none⟩=some (.int .i64 x.x.c.is_.i)∧W.cell? ⟨b,p+13,none⟩=some (.string x.x.c.is_.t)∧W.cell? ⟨b,p+14,none⟩=some (.slice x.x.sli.a x.x.c.is_.l.length x.x.sli.c)∧W.cell? ⟨b,p+15,none⟩=some (.slice x.x.soi.a x.x.c.is_.ok.length x.x.soi.c):=
 ⟨h 0 _ rfl,h 1 _ rfl,h 2 _ rfl,h 3 _ rfl,h 4 _ rfl,h 5 _ rfl,h 6 _ rfl,h 7 _ rfl,h 8 _ rfl,h 9 _ rfl,h 10 _ rfl,h 11 _ rfl,h 12 _ rfl,h 13 _ rfl,h 14 _ rfl,h 15 _ rfl⟩
theorem QlQ {xs:List EV} {i:Nat} {x:EV} (hx:xs[i]? = some x) {c:Nat} (hc:c<16):(QbU xs)[i*16+c]? = x.cells.toList[c]?:=by
 have hsp:QbU xs=QbU (xs.take i)++(x.cells.toList++QbU (xs.drop (i+1))):=by
  have e:xs=xs.take i++x :: xs.drop (i+1):=by
   obtain ⟨h1,h2⟩:=List.getElem?_eq_some_iff.1 hx
   conv=>lhs;rw [←List.take_append_drop i xs,List.drop_eq_getElem_cons h1,h2]
  conv=>lhs;rw [e]
  simp [QbU]
 have hi:i<xs.length:=(List.getElem?_eq_some_iff.1 hx).1
 have hl:(QbU (xs.take i)).length=i*16:=by rw [Qkv,List.length_take];congr 1;omega
 rw [hsp,List.getElem?_append_right (by rw [hl];omega),hl,show i*16+c - i*16=c from by omega,List.getElem?_append_left (by simpa using hc)]
theorem EVS.at {w:World} {F:Nat→Prop} {s:Sl} {xs:List EV} (h:EVS w F s xs) {i:Nat} {x:EV} (hx:xs[i]? = some x) :
  ∃ b o,s.a=some ⟨b,o,none⟩∧F b∧xs.length≤s.c∧s.c≤maxLen∧CR w F x.x∧∀ c u,x.cells.toList[c]? = some u→w.cell? ⟨b,o+i*16+c,none⟩=some u:=by
 obtain ⟨b,o,h1,h2,h3⟩:=h.rd
 have hi:i<xs.length:=(List.getElem?_eq_some_iff.1 hx).1
 obtain ⟨e1,e2,e3⟩:=h1.eq (by omega)
 refine ⟨b,o,e1,h1.fits (by omega),e2,e3,h.vals x (List.mem_of_getElem? hx),fun c u hu=>?_⟩
 have hc:c<16:=(List.getElem?_eq_some_iff.1 hu).1
 have:=h3 (i*16+c) u (by rw [QlQ hx hc];exact hu)
 rwa [Nat.add_assoc]
theorem Qdy {w:World} {s s':Sl} {xs ys:List EV} (hs:EVS w (Lt w.heap.size) s xs) (hs':EVS w (Lt w.heap.size) s' ys) (he:xs.map EV.p=ys.map EV.p) :
  Calls Tryz.prog 30 #[.slice s.a xs.length s.c,.slice s'.a ys.length s'.c] w fun e w'=>e=.returned (.bool true)∧Ext w w':=by
 have hf:=hs.few
 have hnl:xs.length≤140737488355328:=by omega
 have hlen:xs.length=ys.length:=by have:=congrArg List.length he;simpa using this
 have HS:=Lib.hid hs
 have HS':=Lib.hid hs'
 have HE:=Lib.hid he
 have HLEN:=Lib.hid hlen
 rw [←hlen]
 clear hs hs' he hlen hf
 go_enter Tryz.func30,Tryz.ntmps30
 go_wp2_with fail
 go_loopw [5] (fun q wr=>∃ j:Nat,q=.int .i64 j∧j≤xs.length∧Ext w wr) (fun q _=>xs.length - (intOf q).toNat)
 case atStart=>exact ⟨0,rfl,Nat.zero_le _,Ext.refl w⟩
 case round=>
  obtain ⟨j,rfl,hjl,hx⟩:=hrel
  have HXS:=Lib.hid hx
  by_cases h1:j<xs.length
  ·have g1:(j:Int)<(xs.length:Int):=by omega
   obtain ⟨x,hxx⟩:∃ x,xs[j]? = some x:=⟨_,List.getElem?_eq_getElem h1⟩
   obtain ⟨y,hyy⟩:∃ y,ys[j]? = some y:=⟨_,List.getElem?_eq_getElem (by rw [←HLEN.out];exact h1)⟩
   have hxy:x.p=y.p:=by
    have h1:(xs.map EV.p)[j]? = some x.p:=by rw [List.getElem?_map,hxx];rfl
    have h2:(ys.map EV.p)[j]? = some y.p:=by rw [List.getElem?_map,hyy];rfl
    rw [HE.out,h2] at h1
    exact (Option.some.inj h1).symm
   obtain ⟨b,o,hg,lb,hc,hcm,hcr,hcl⟩:=HS.out.at hxx
   obtain ⟨b',o',hg',lb',hc',hcm',hcr',hcl'⟩:=HS'.out.at hyy
   rw [←HLEN.out] at hc'
   obtain ⟨id,⟨⟨k,had,was,has,is_⟩,slw,sow,sli,soi⟩⟩:=x
   obtain ⟨yid,⟨yc,yslw,ysow,ysli,ysoi⟩⟩:=y
   obtain ⟨hxi,hxc⟩:=Prod.mk.inj hxy
   dsimp only at hxi hxc
   subst hxi hxc
   obtain ⟨sa,sc⟩:=s
   obtain ⟨sa',sc'⟩:=s'
   dsimp only at hg hg' hc hc' hcm hcm'
   subst hg hg'
   have lb:b<wr.heap.size:=Nat.lt_of_lt_of_le lb hx.size
   have lb':b'<wr.heap.size:=Nat.lt_of_lt_of_le lb' hx.size
   have hag:Agree (Lt w.heap.size) w wr:=hx.agree fun _ h=>h
   have hsm:∀ (W:World) (b1 b2:Nat),Ext wr W→Blk W b1 54 (CE.cells ⟨⟨k,had,was,has,is_⟩,slw,sow,sli,soi⟩)→Blk W b2 54 (CE.cells ⟨⟨k,had,was,has,is_⟩,yslw,ysow,ysli,ysoi⟩)→
     Calls Tryz.prog 61 #[.slice (some ⟨b1,0,none⟩) 1 1,.slice (some ⟨b2,0,none⟩) 1 1] W fun e w'=>e=.returned (.bool true)∧Ext W w':=fun W b1 b2 hW h1 h2=>by
    have hag2:Agree (Lt w.heap.size) w W:=hag.trans (hW.agree fun b hb=>Nat.lt_of_lt_of_le hb hx.size)
    have hlt:∀ i,Lt w.heap.size i→Lt W.heap.size i:=fun i hi=>Nat.lt_of_lt_of_le hi (Nat.le_trans hx.size hW.size)
    exact Qjv (s:=⟨some ⟨b1,0,none⟩,1⟩) (s':=⟨some ⟨b2,0,none⟩,1⟩) (xs:=[⟨⟨k,had,was,has,is_⟩,slw,sow,sli,soi⟩]) (ys:=[⟨⟨k,had,was,has,is_⟩,yslw,ysow,ysli,ysoi⟩])
     ⟨(Rd.block (cs:=QbT [_]) (n:=1) (size:=15) (by simpa [QbT] using h1) (by decide) (by simp [QbT])).mono fun i hi=>by subst hi;exact h1.lt,fun u hu=>by obtain rfl:=List.mem_singleton.1 hu;exact (hcr.agree hag2).mono hlt,by simp⟩
     ⟨(Rd.block (cs:=QbT [_]) (n:=1) (size:=15) (by simpa [QbT] using h2) (by decide) (by simp [QbT])).mono fun i hi=>by subst hi;exact h2.lt,fun u hu=>by obtain rfl:=List.mem_singleton.1 hu;exact (hcr'.agree hag2).mono hlt,by simp⟩ rfl
   have hX:=fun (W:World) (hW:Ext wr W)=>Qik (x:=⟨id,⟨⟨k,had,was,has,is_⟩,slw,sow,sli,soi⟩⟩) fun c u hu=>(hW.cell lb).trans ((hx.cell (by assumption)).trans (hcl c u hu))
   have hY:=fun (W:World) (hW:Ext wr W)=>Qik (x:=⟨id,⟨⟨k,had,was,has,is_⟩,yslw,ysow,ysli,ysoi⟩⟩) fun c u hu=>(hW.cell lb').trans ((hx.cell (by assumption)).trans (hcl' c u hu))
   have HX0:=Lib.hid (show ∀ W,Ext wr W→W.cell? ⟨b,o+j*16,none⟩=some (.int .u64 (id:Int)) from fun W hW=>(hX W hW).1)
   have HY0:=Lib.hid (show ∀ W,Ext wr W→W.cell? ⟨b',o'+j*16,none⟩=some (.int .u64 (id:Int)) from fun W hW=>(hY W hW).1)
   have HX1:=Lib.hid (show ∀ W,Ext wr W→(W.cell? ⟨b,o+j*16+1,none⟩=some (.string k)∧W.cell? ⟨b,o+j*16+2,none⟩=some (.bool had)∧W.cell? ⟨b,o+j*16+3,none⟩=some (.int .i64 was.kind)∧W.cell? ⟨b,o+j*16+4,none⟩=some (.bool was.b)∧W.cell? ⟨b,o+j*16+5,none⟩=some (.int .i64 was.i)∧W.cell? ⟨b,o+j*16+6,none⟩=some (.string was.t)∧W.cell? ⟨b,o+j*16+7,none⟩=some (.slice slw.a was.l.length slw.c)∧W.cell? ⟨b,o+j*16+8,none⟩=some (.slice sow.a was.ok.length sow.c)∧W.cell? ⟨b,o+j*16+9,none⟩=some (.bool has)∧W.cell? ⟨b,o+j*16+10,none⟩=some (.int .i64 is_.kind)∧W.cell? ⟨b,o+j*16+11,none⟩=some (.bool is_.b)∧W.cell? ⟨b,o+j*16+12,none⟩=some (.int .i64 is_.i)∧W.cell? ⟨b,o+j*16+13,none⟩=some (.string is_.t)∧W.cell? ⟨b,o+j*16+14,none⟩=some (.slice sli.a is_.l.length sli.c)∧W.cell? ⟨b,o+j*16+15,none⟩=some (.slice soi.a is_.ok.length soi.c)) from fun W hW=>(hX W hW).2)
   have HY1:=Lib.hid (show ∀ W,Ext wr W→(W.cell? ⟨b',o'+j*16+1,none⟩=some (.string k)∧W.cell? ⟨b',o'+j*16+2,none⟩=some (.bool had)∧W.cell? ⟨b',o'+j*16+3,none⟩=some (.int .i64 was.kind)∧W.cell? ⟨b',o'+j*16+4,none⟩=some (.bool was.b)∧W.cell? ⟨b',o'+j*16+5,none⟩=some (.int .i64 was.i)∧W.cell? ⟨b',o'+j*16+6,none⟩=some (.string was.t)∧W.cell? ⟨b',o'+j*16+7,none⟩=some (.slice yslw.a was.l.length yslw.c)∧W.cell? ⟨b',o'+j*16+8,none⟩=some (.slice ysow.a was.ok.length ysow.c)∧W.cell? ⟨b',o'+j*16+9,none⟩=some (.bool has)∧W.cell? ⟨b',o'+j*16+10,none⟩=some (.int .i64 is_.kind)∧W.cell? ⟨b',o'+j*16+11,none⟩=some (.bool is_.b)∧W.cell? ⟨b',o'+j*16+12,none⟩=some (.int .i64 is_.i)∧W.cell? ⟨b',o'+j*16+13,none⟩=some (.string is_.t)∧W.cell? ⟨b',o'+j*16+14,none⟩=some (.slice ysli.a is_.l.length ysli.c)∧W.cell? ⟨b',o'+j*16+15,none⟩=some (.slice ysoi.a is_.ok.length ysoi.c)) from fun W hW=>(hY W hW).2)
   have h12:∀ (X Y:Array Value),Ext wr ((wr.alloc (.cells X 54)).alloc (.cells Y 54)).drew∧Blk ((wr.alloc (.cells X 54)).alloc (.cells Y 54)).drew wr.heap.size 54 X∧Blk ((wr.alloc (.cells X 54)).alloc (.cells Y 54)).drew (wr.heap.size+1) 54 Y:=fun X Y=>
    ⟨(((Ext.refl wr).alloc _ _).alloc _ _).drew,((Blk.new wr _ _).ext ((Ext.refl _).alloc _ _)).ext ((Ext.refl _).drew),by
      have:=Blk.new (wr.alloc (.cells X 54)) 54 Y
      rw [World.size_alloc] at this
      exact this.ext ((Ext.refl _).drew)⟩
   have hsm1:=hsm _ _ _ (h12 (CE.cells ⟨⟨k,had,was,has,is_⟩,slw,sow,sli,soi⟩) (CE.cells ⟨⟨k,had,was,has,is_⟩,yslw,ysow,ysli,ysoi⟩)).1 (h12 _ _).2.1 (h12 _ _).2.2
   have hsm2:=hsm _ _ _ (h12 (CE.cells ⟨⟨k,had,was,has,is_⟩,yslw,ysow,ysli,ysoi⟩) (CE.cells ⟨⟨k,had,was,has,is_⟩,slw,sow,sli,soi⟩)).1 (h12 _ _).2.2 (h12 _ _).2.1
   dsimp only [CE.cells] at hsm1 hsm2
   have HSM1:=Lib.hid hsm1
   have HSM2:=Lib.hid hsm2
   have hid:((id:Int) != (id:Int))=false:=by simp
   clear hx hX hY hxx hyy hcr hcr' hcl hcl' hag hsm hxy h12 hsm1 hsm2
   go_wp2_with fail
   refine wp_region_held_drew (S:=(fun w'=>Ext wr w')) (by kernel_rfl) (((Ext.refl wr).drew)) (fun hHeld=>?_)
   refine Qaj 0 (some 17) ?_ hHeld ?_ ?_
   rotate_left
   focus (intro w hSw;(try dsimp only at hSw);go_simp;first | done | with_reducible rfl)
   refine Qaj 1 (some 18) ?_ hHeld ?_ ?_
   rotate_left
   focus (intro w hSw;(try dsimp only at hSw);go_simp;first | done | with_reducible rfl)
   refine Qaj 2 (some 19) ?_ hHeld ?_ ?_
   rotate_left
   focus (intro w hSw;(try dsimp only at hSw);go_simp;first | done | with_reducible rfl)
   refine Qaj 3 (some 20) ?_ hHeld ?_ ?_
   rotate_left
   focus (intro w hSw;(try dsimp only at hSw);go_simp;first | done | with_reducible rfl)
   refine Qad 4 (some 21) ?_ HX0 hHeld ?_ ?_
   rotate_left
   focus (intro w hSc;go_simp;first | done | with_reducible rfl)
   refine Qaj 5 (some 22) ?_ hHeld ?_ ?_
   rotate_left
   focus (intro w hSw;(try dsimp only at hSw);go_simp;first | done | with_reducible rfl)
   refine Qaj 6 (some 23) ?_ hHeld ?_ ?_
   rotate_left
   focus (intro w hSw;(try dsimp only at hSw);go_simp;first | done | with_reducible rfl)
   refine Qaj 7 (some 24) ?_ hHeld ?_ ?_
   rotate_left
   focus (intro w hSw;(try dsimp only at hSw);go_simp;first | done | with_reducible rfl)
   refine Qaj 8 (some 25) ?_ hHeld ?_ ?_
   rotate_left
   focus (intro w hSw;(try dsimp only at hSw);go_simp;first | done | with_reducible rfl)
   refine Qad 9 (some 26) ?_ HY0 hHeld ?_ ?_
   rotate_left
   focus (intro w hSc;go_simp;first | done | with_reducible rfl)
   refine Qaj 10 (some 27) ?_ hHeld ?_ ?_
   rotate_left
   focus (intro w hSw;(try dsimp only at hSw);go_simp;first | done | with_reducible rfl)
   refine Qaj 11 (some 28) ?_ hHeld ?_ ?_
   rotate_left
   focus (intro w hSw;(try dsimp only at hSw);go_simp;first | done | with_reducible rfl)
   refine Qaj 12 (some 29) ?_ hHeld ?_ ?_
   rotate_left
   focus (intro w hSw;(try dsimp only at hSw);go_simp;first | done | with_reducible rfl)
   refine Qaj 13 (some 30) ?_ hHeld ?_ ?_
   rotate_left
   focus (intro w hSw;(try dsimp only at hSw);go_simp;first | done | with_reducible rfl)
   refine Qaj 14 (some 31) ?_ hHeld ?_ ?_
   rotate_left
   focus (intro w hSw;(try dsimp only at hSw);go_simp;first | done | with_reducible rfl)
   refine Qaj 15 (some 32) ?_ hHeld ?_ ?_
   rotate_left
   focus (intro w hSw;(try dsimp only at hSw);go_simp;first | done | with_reducible rfl)
   refine Qad 16 (some 33) ?_ HX1 hHeld ?_ ?_
   rotate_left
   focus (intro w hSc;go_simp;first | done | with_reducible rfl)
   refine Qaj 18 (some 35) ?_ hHeld ?_ ?_
   rotate_left
   focus (intro w hSw;(try dsimp only at hSw);go_simp;first | done | with_reducible rfl)
   refine Qaj 19 (some 36) ?_ hHeld ?_ ?_
   rotate_left
   focus (intro w hSw;(try dsimp only at hSw);go_simp;first | done | with_reducible rfl)
   refine Qaj 20 (some 37) ?_ hHeld ?_ ?_
   rotate_left
   focus (intro w hSw;(try dsimp only at hSw);go_simp;first | done | with_reducible rfl)
   refine Qaj 21 (some 38) ?_ hHeld ?_ ?_
   rotate_left
   focus (intro w hSw;(try dsimp only at hSw);go_simp;first | done | with_reducible rfl)
   refine Qad 22 (some 39) ?_ HY1 hHeld ?_ ?_
   rotate_left
   focus (intro w hSc;go_simp;first | done | with_reducible rfl)
   refine QaI (i:=17) (j:=23) (by kernel_rfl) rfl rfl (by rfl) (by rfl) (fun K hK=>?_) (fun K hK=>?_)
   ·go_simp
    skip
    refine hK.out _ _ (hHeld.alloc _ _) (fun hHeld=>?_)
    clear hK K
    try simp only [Act.put,List.setIfInBounds_toArray,List.set_cons_zero,List.set_cons_succ]
    refine Qaa (i:=23) (by kernel_rfl) rfl (by rfl) (fun K hK=>?_)
    go_simp
    skip
    refine hK.out _ _ (hHeld.alloc _ _) (fun hHeld=>?_)
    clear hK K
    try simp only [Act.put,List.setIfInBounds_toArray,List.set_cons_zero,List.set_cons_succ]
    refine Qaa (i:=24) (by kernel_rfl) rfl (by rfl) (fun K hK=>?_)
    go_simp
    (refine HSM1.out.mono ?_;rintro e w6 ⟨rfl,hx6⟩)
    refine hK.out _ _ (hHeld.trans hx6) (fun hHeld=>?_)
    clear hK K
    try simp only [Act.put,List.setIfInBounds_toArray,List.set_cons_zero,List.set_cons_succ]
    refine Qaj 25 (some 42) ?_ hHeld ?_ ?_
    rotate_left
    focus (intro w hSw;(try dsimp only at hSw);go_simp;first | done | with_reducible rfl)
    refine Qaj 26 (some 43) ?_ hHeld ?_ ?_
    rotate_left
    focus (intro w hSw;(try dsimp only at hSw);go_simp;first | done | with_reducible rfl)
    refine wpAnyH_done (by kernel_rfl) ?_ _
    skip
    have HH:=Lib.hid hHeld
    clear hHeld
    go_wp2_with fail
    go_roundw
    case rel=>exact ⟨j+1,by go_num,h1,HXS.out.trans HH.out⟩
    case measure=>simp [intOf];omega
   ·go_simp
    skip
    refine hK.out _ _ (hHeld.alloc _ _) (fun hHeld=>?_)
    clear hK K
    try simp only [Act.put,List.setIfInBounds_toArray,List.set_cons_zero,List.set_cons_succ]
    refine Qaa (i:=17) (by kernel_rfl) rfl (by rfl) (fun K hK=>?_)
    go_simp
    skip
    refine hK.out _ _ (hHeld.alloc _ _) (fun hHeld=>?_)
    clear hK K
    try simp only [Act.put,List.setIfInBounds_toArray,List.set_cons_zero,List.set_cons_succ]
    refine Qaa (i:=24) (by kernel_rfl) rfl (by rfl) (fun K hK=>?_)
    go_simp
    (refine HSM2.out.mono ?_;rintro e w6 ⟨rfl,hx6⟩)
    refine hK.out _ _ (hHeld.trans hx6) (fun hHeld=>?_)
    clear hK K
    try simp only [Act.put,List.setIfInBounds_toArray,List.set_cons_zero,List.set_cons_succ]
    refine Qaj 25 (some 42) ?_ hHeld ?_ ?_
    rotate_left
    focus (intro w hSw;(try dsimp only at hSw);go_simp;first | done | with_reducible rfl)
    refine Qaj 26 (some 43) ?_ hHeld ?_ ?_
    rotate_left
    focus (intro w hSw;(try dsimp only at hSw);go_simp;first | done | with_reducible rfl)
    refine wpAnyH_done (by kernel_rfl) ?_ _
    skip
    have HH:=Lib.hid hHeld
    clear hHeld
    go_wp2_with fail
    go_roundw
    case rel=>exact ⟨j+1,by go_num,h1,HXS.out.trans HH.out⟩
    case measure=>simp [intOf];omega
  ·have g1:¬(j:Int)<(xs.length:Int):=by omega
   obtain rfl:j=xs.length:=by omega
   go_wp2_with fail
   go_ret
   exact ⟨rfl,hx⟩
end Go.Proofs.YtohajcflklejjaaGreat
namespace Go.Proofs.YtohajcflklejjaaGreat
open Go.RowKit Go.Shelf Go.Maps
set_option linter.unusedVariables false
set_option linter.unusedSimpArgs false
abbrev QeC (n:Int):Val:=.mk 3 false n ByteArray.empty [] [] []
abbrev kA1:ByteArray:=⟨#[97,47,49]⟩
abbrev kB:ByteArray:=⟨#[98]⟩
theorem Qfh (w:World) (F:Nat→Prop) {n:Int} (wn:(Lit.int .i64 n).wf=true):RV w F (QeC n) Sl.none Sl.none:=RV.flat _ _ _ _ _ _ (by decide) wn (by decide)
theorem Qe8 (w:World) (k:ByteArray) (n:Int):Calls Tryz.prog 26 #[.string k,.int .i64 n] w fun e w'=>e=.returned (.agg #[.string k,.int .i64 3,.bool false,.int .i64 n,.string ByteArray.empty,.slice none 0 0,.slice none 0 0])∧Ext w w':=by
 go_enter Tryz.func26,Tryz.ntmps26
 go_wp2_with fail
 refine bodyPost_ret (v:=.agg #[.string k,.int .i64 3,.bool false,.int .i64 n,.string ByteArray.empty,.slice none 0 0,.slice none 0 0]) (by simp [results,Tryz.results26,go_sem];rfl) rfl ?_
 exact ⟨rfl,(Ext.refl w).alloc _ _⟩
theorem QmT {w:World} {g:Nat} {x y:LE} (hb:Blk w g 47 (x.cells++y.cells).toArray) (hx:RV w (Lt w.heap.size) x.v x.sl x.so) (hy:RV w (Lt w.heap.size) y.v y.sl y.so) (kx:x.k.size≤maxLen) (ky:y.k.size≤maxLen):ES w (Lt w.heap.size) ⟨some ⟨g,0,none⟩,2⟩ [x,y]:=
 ⟨(Rd.block (cs:=Qae [x,y]) (n:=2) (size:=7) (by simpa [Qae] using hb) (by decide) (by simp [Qae,LE.cells])).mono fun i hi=>by subst hi;exact hb.lt,fun z hz=>by
   rcases List.mem_cons.1 hz with rfl | hz
   ·exact ⟨hx,kx⟩
   ·obtain rfl:=List.mem_singleton.1 hz;exact ⟨hy,ky⟩,by simp⟩
theorem QmS {w:World} {g:Nat} {x:LE} (hb:Blk w g 47 x.cells.toArray) (hx:RV w (Lt w.heap.size) x.v x.sl x.so) (kx:x.k.size≤maxLen):ES w (Lt w.heap.size) ⟨some ⟨g,0,none⟩,1⟩ [x]:=
 ⟨(Rd.block (cs:=Qae [x]) (n:=1) (size:=7) (by simpa [Qae] using hb) (by decide) (by simp [Qae,LE.cells])).mono fun i hi=>by subst hi;exact hb.lt,fun z hz=>by
   obtain rfl:=List.mem_singleton.1 hz;exact ⟨hx,kx⟩,by simp⟩
def Qnl (l:List Ent) (w:World) (e:Ending) (w':World):Prop:=∃ (T:RT) (p:Option Addr),e=.returned (.agg #[.pointer p])∧QaE T=.pointer p∧OkR T∧Qak T=l∧IsT w' (In w.heap.size w'.heap.size) T∧Ext w w'
theorem Qmq {w:World} {g:Nat} {a b:ByteArray} {m n:Int} (hab:klt a b=true) (ha:a.size≤maxLen) (hb':b.size≤maxLen) (wm:(Lit.int .i64 m).wf=true) (wn:(Lit.int .i64 n).wf=true)
  (hb:Blk w g 47 #[.string a,.int .i64 3,.bool false,.int .i64 m,.string ByteArray.empty,.slice none 0 0,.slice none 0 0,.string b,.int .i64 3,.bool false,.int .i64 n,.string ByteArray.empty,.slice none 0 0,.slice none 0 0]) :
  Calls Tryz.prog 17 #[.slice (some ⟨g,0,none⟩) 2 2] w (Qnl [(a,QeC m),(b,QeC n)] w):=by
 have h:=QgO (QmT (x:=⟨a,QeC m,Sl.none,Sl.none⟩) (y:=⟨b,QeC n,Sl.none,Sl.none⟩) hb (Qfh _ _ wm) (Qfh _ _ wn) ha hb') (show 2≤100000 by omega)
 refine h.mono ?_
 rintro e w' ⟨T,rfl,hbt,hT,hx⟩
 obtain ⟨p,hp⟩:=Qar T
 refine ⟨T,p,by rw [Qaz,hp],hp,hbt.both.1,?_,hT,hx⟩
 rw [hbt.both.2]
 show QaB [] [(a,QeC m),(b,QeC n)]=_
 simp [QaB,Qbz,hab]
theorem Qmp {w:World} {g:Nat} {a:ByteArray} {v:Val} {sl so:Sl} (ha:a.size≤maxLen) (hv:RV w (Lt w.heap.size) v sl so)
  (hb:Blk w g 47 (LE.cells ⟨a,v,sl,so⟩).toArray) :
  Calls Tryz.prog 17 #[.slice (some ⟨g,0,none⟩) 1 1] w (Qnl [(a,v)] w):=by
 have h:=QgO (QmS (x:=⟨a,v,sl,so⟩) hb hv ha) (show 1≤100000 by omega)
 refine h.mono ?_
 rintro e w' ⟨T,rfl,hbt,hT,hx⟩
 obtain ⟨p,hp⟩:=Qar T
 refine ⟨T,p,by rw [Qaz,hp],hp,hbt.both.1,?_,hT,hx⟩
 rw [hbt.both.2]
 show QaB [] [(a,v)]=_
 simp [QaB,Qbz]
abbrev q1:Qy:=⟨1,⟨#[97,47]⟩,⟨#[]⟩,false⟩
abbrev q2:Qy:=⟨2,⟨#[97]⟩,⟨#[98]⟩,false⟩
theorem Qnz:Qfx q1=0:=by
 have h:(ByteArray.mk #[]).toList=[]:=by rw [ByteArray.toList_eq]
 simp [Qfx,h]
theorem QnA:Qfx q2=0:=by simp [Qfx]
theorem Qoh:inQ q1 kA1=true:=by
 rw [inQ,if_pos Qnz,if_pos rfl]
 show (ByteArray.toList _).isPrefixOf (ByteArray.toList _)=true
 rw [ByteArray.toList_eq,ByteArray.toList_eq];decide
theorem Qoi:inQ q1 kB=false:=by
 rw [inQ,if_pos Qnz,if_pos rfl]
 show (ByteArray.toList _).isPrefixOf (ByteArray.toList _)=false
 rw [ByteArray.toList_eq,ByteArray.toList_eq];decide
theorem Qoj:inQ q2 kA1=true:=by
 rw [inQ,if_pos QnA,if_neg (by decide)]
 show (!(Op.bytesLess (ByteArray.toList _) (ByteArray.toList _)) && (false || Op.bytesLess (ByteArray.toList _) (ByteArray.toList _)))=true
 simp only [ByteArray.toList_eq];decide
theorem Qok:inQ q2 kB=false:=by
 rw [inQ,if_pos QnA,if_neg (by decide)]
 show (!(Op.bytesLess (ByteArray.toList _) (ByteArray.toList _)) && (false || Op.bytesLess (ByteArray.toList _) (ByteArray.toList _)))=false
 simp only [ByteArray.toList_eq];decide
theorem Qmx:klt kA1 kB=true:=by
 show Op.bytesLess (ByteArray.toList _) (ByteArray.toList _)=true
 simp only [ByteArray.toList_eq];decide
theorem Qkc:chg [] [(kA1,QeC 5),(kB,QeC 6)]=[⟨kA1,false,zeroV,true,QeC 5⟩,⟨kB,false,zeroV,true,QeC 6⟩]:=by rw [Qe6];rfl
theorem QiY:chg [(kA1,QeC 5),(kB,QeC 6)] [(kB,QeC 7)]=[⟨kA1,true,QeC 5,false,zeroV⟩,⟨kB,true,QeC 6,true,QeC 7⟩]:=by
 rw [chg,if_pos Qmx,Qey (e:=(kB,QeC 6)) (f:=(kB,QeC 7)) rfl,Qe6]
 rw [Qj4,if_neg (show ¬Qbv (QeC 6) (QeC 7)=0 by simp [Qbv,QbO,Val.kind,Val.i])]
 rfl
theorem Qkm {s1 s2:Iv} (h1:QiP q1 s1) (h2:QiP q2 s2) {c d:Chg} (hc:c.k=kA1) (hd:d.k=kB):evL [(1,s1),(2,s2)] [c,d]=[(1,c),(2,c)]:=by
 have a1:=h1.has Qnz c.k
 have a2:=h2.has QnA c.k
 have b1:=h1.has Qnz d.k
 have b2:=h2.has QnA d.k
 rw [hc,Qoh] at a1
 rw [hc,Qoj] at a2
 rw [hd,Qoi] at b1
 rw [hd,Qok] at b2
 rw [←hc] at a1 a2
 rw [←hd] at b1 b2
 simp only [evL,List.flatMap_cons,List.flatMap_nil,List.filter_cons,List.filter_nil,a1,a2,b1,b2,if_true,Bool.false_eq_true,if_false,List.map_cons,List.map_nil,List.cons_append,List.nil_append]
theorem QjZ {w:World} {R:Nat} {T:RT} {g:Nat} {mb:Option Nat} {L:Qbx} (h:Qbf w R T g mb L) (hg:g≤1000000) (q:Qy) (hq:q.short) (hm:Qfx q=0) :
  Calls Tryz.prog 16 #[.pointer (some ⟨R,0,none⟩),q.v] w fun e w'=>∃ s mb',e=.returned (.tuple #[.int .u64 ((g+1:Nat):Int),.int .i64 0])∧QiP q s∧Qbf w' R T (g+1) mb' (L++[(g+1,s)])∧(mb'=mb∨∃ b,mb'=some b∧w.heap.size≤b)∧Sb (QfE R mb) w w':=
 (QgM h hg q hq).mono fun e w' he=>by
   rcases he with ⟨h1,-⟩ | ⟨-,s,mb',he⟩
   ·exact absurd hm h1
   ·exact ⟨s,mb',he⟩
theorem Qmy {R:Nat} {U:RT} {g:Nat} {mb:Option Nat} {L:Qbx} (hn:L.length≤12):∀ W,Qbf W R U g mb L→0<L.length→Calls Tryz.prog 23 #[.pointer (some ⟨R,0,none⟩)] W (Qgb L W):=fun W h h0=>Qje h h0 hn
theorem Qko {w:World} {g:Nat} {x y:EV} (hb:Blk w g 56 (x.cells.toList++y.cells.toList).toArray) (hx:CR w (Lt w.heap.size) x.x) (hy:CR w (Lt w.heap.size) y.x):EVS w (Lt w.heap.size) ⟨some ⟨g,0,none⟩,2⟩ [x,y]:=
 ⟨(Rd.block (cs:=QbU [x,y]) (n:=2) (size:=16) (by simpa [QbU] using hb) (by decide) (by simp [QbU])).mono fun i hi=>by subst hi;exact hb.lt,fun u hu=>by
   rcases List.mem_cons.1 hu with rfl | hu
   ·exact hx
   ·obtain rfl:=List.mem_singleton.1 hu;exact hy,by simp⟩
def QdX (id:Nat):Bool→EV
 | true=>⟨id,⟨⟨kA1,false,zeroV,true,QeC 5⟩,Sl.none,Sl.none,Sl.none,Sl.none⟩⟩
 | false=>⟨id,⟨⟨kA1,true,QeC 5,false,zeroV⟩,Sl.none,Sl.none,Sl.none,Sl.none⟩⟩
theorem QeG (w:World) (F:Nat→Prop) (id:Nat) (b:Bool):CR w F (QdX id b).x:=by
 cases b
 ·exact ⟨Qfh _ _ (by decide),QdR _ _,show kA1.size≤maxLen by decide⟩
 ·exact ⟨QdR _ _,Qfh _ _ (by decide),show kA1.size≤maxLen by decide⟩
theorem EVS.Qnr {w w':World} {s:Sl} {xs:List EV} (h:EVS w (Lt w.heap.size) s xs) (k:Ext w w'):EVS w' (Lt w'.heap.size) s xs:=(h.agree (k.agree fun _ h=>h)).mono fun _ hi=>Nat.lt_of_lt_of_le hi k.size
theorem QcW {W:World} {R:Nat} {T:RT} {g:Nat} {mb:Option Nat} {L:Qbx} (h:Qbf W R T g mb L):∀ b,QfE R mb b→b<W.heap.size:=fun b hb=>by
 rcases hb with rfl | rfl
 ·exact h.blk.lt
 ·exact h.map.lt
theorem QkK (w:World):Calls Tryz.prog 15 #[] w fun e w'=>e=.returned (.bool true)∧Below w.heap.size w w':=by
 go_enter Tryz.func15,Tryz.ntmps15
 go_wp2_with fail
 generalize hW0:World.alloc w _=w0
 have hreg0:Qbf w0 w.heap.size none 0 none []:=by rw [←hW0];exact Qbf.new (Blk.new _ _ _)
 have hb0:Below w.heap.size w w0:=by rw [←hW0];exact ((Ext.refl w).alloc _ _).below
 clear hW0
 refine (QjZ hreg0 (by omega) q1 ⟨by decide,by decide⟩ Qnz).mono ?_
 rintro e w1 ⟨s1,mb1,rfl,hiv1,hreg1,hmb1,hsb1⟩
 have hr1:∀ b,QfE w.heap.size mb1 b→w.heap.size≤b:=fun b hb=>by
  rcases hb with rfl | hb
  ·exact Nat.le_refl _
  ·rcases hmb1 with h | ⟨c,h,hc⟩
   ·rw [h] at hb;cases hb
   ·rw [h] at hb;injection hb with hb;have:=hb0.size;omega
 have HB1:=Lib.hid (Sb.step hb0 hsb1 fun b hb=>by
  rcases hb with rfl | hb
  ·exact Nat.le_refl _
  ·cases hb)
 have HIV1:=Lib.hid hiv1
 have HR1:=Lib.hid hr1
 clear hb0 hreg0 hiv1 hmb1 hsb1 hr1
 go_wp2_with fail
 refine (QjZ hreg1 (by omega) q2 ⟨by decide,by decide⟩ QnA).mono ?_
 rintro e w2 ⟨s2,mb2,rfl,hiv2,hreg2,hmb2,hsb2⟩
 have hz1:=HB1.out.size
 have hr2:∀ b,QfE w.heap.size mb2 b→w.heap.size≤b:=fun b hb=>by
  rcases hb with rfl | hb
  ·exact Nat.le_refl _
  ·rcases hmb2 with h | ⟨c,h,hc⟩
   ·exact HR1.out b (.inr (by rw [←h];exact hb))
   ·rw [h] at hb;injection hb with hb;omega
 have HB2:=Lib.hid (Sb.step HB1.out hsb2 HR1.out)
 have HIV2:=Lib.hid hiv2
 have HR2:=Lib.hid hr2
 have HREG2:=Lib.hid hreg2
 clear hreg1 hiv2 hmb2 hsb2 hr2 hreg2 hz1
 go_wp2_with fail
 refine (Qe8 _ _ _).mono ?_
 rintro e w3 ⟨rfl,hx3⟩
 have HX3:=Lib.hid hx3
 clear hx3
 go_wp2_with fail
 refine (Qe8 _ _ _).mono ?_
 rintro e w4 ⟨rfl,hx4⟩
 have HX4:=Lib.hid (HX3.out.trans hx4)
 clear hx4
 go_wp2_with fail
 refine (Qmq (a:=kA1) (b:=kB) (m:=5) (n:=6) Qmx (by decide) (by decide) (by decide) (by decide) (Blk.new w4 _ _)).mono ?_
 rintro e w5 ⟨U,p,rfl,hp,ok,he,hU,hx5⟩
 have hx25:=HX4.out.trans (((Ext.refl w4).alloc _ _).trans hx5)
 have hz25:=hx25.size
 have hz24:=HX4.out.size
 have hU':IsT w5 (In w2.heap.size w5.heap.size) U:=hU.mono fun b hb=>⟨by have:=hb.1;rw [World.size_alloc] at this;omega,hb.2⟩
 have haf:=Qce (HREG2.out.ext hx25) (T:=none) (F:=fun _=>False) (U:=U) trivial hU' (fun b hb=>hb.elim) (fun b hb=>⟨hb.2,fun h=>by have:=QcW HREG2.out b h;have:=hb.1;omega⟩) trivial ok (by simp [Qak]) (by rw [he];simp) (by simp) (Qmy (by simp))
 rw [Qaz,hp,he] at haf
 rw [show chg (Qak none) _=_ from Qkc] at haf
 have HX25:=Lib.hid hx25
 have HAF:=Lib.hid haf
 have HP:=Lib.hid hp
 have HOK:=Lib.hid ok
 have HE:=Lib.hid he
 have HU:=Lib.hid hU'
 clear hp ok he hU hx5 hx25 hU' haf
 go_wp2_with fail
 refine HAF.out.mono ?_
 rintro e w6 ⟨sl1,evs1,rfl,hmap1,hreg6,hst6,hevs1⟩
 have hm1:evs1.map EV.p=[QdX 1 true,QdX 2 true].map EV.p:=by rw [hmap1];exact Qkm HIV1.out HIV2.out rfl rfl
 have hB5:Below w.heap.size w w5:=Sb.step HB2.out (HX25.out.sb fun _=>False) fun b hb=>hb.elim
 have HB6:=Lib.hid (Sb.step hB5 hst6.sb fun b hb=>by rw [hb];exact Nat.le_refl _)
 have hU6:IsT w6 (In w2.heap.size w5.heap.size) U:=HU.out.agree (hst6.agree.mono fun b hb=>⟨hb.2,fun e=>by have:=QcW HREG2.out b (.inl e);have:=hb.1;omega⟩)
 have HM1:=Lib.hid hm1
 have HREG6:=Lib.hid hreg6
 have HEV1:=Lib.hid hevs1
 have HU6:=Lib.hid hU6
 have hz56:=hst6.size
 have hz25:=HX25.out.size
 clear hmap1 hreg6 hst6 hevs1 hm1 hB5 hU6
 go_wp2_with fail
 refine (Qe8 _ _ _).mono ?_
 rintro e w7 ⟨rfl,hx7⟩
 have HX7:=Lib.hid hx7
 clear hx7
 go_wp2_with fail
 refine (Qmp (a:=kB) (v:=QeC 7) (sl:=Sl.none) (so:=Sl.none) (by decide) (Qfh _ _ (by decide)) (Blk.new w7 _ _)).mono ?_
 rintro e w8 ⟨V,q,rfl,hq,okV,heV,hV,hx8⟩
 have hx68:=HX7.out.trans (((Ext.refl w7).alloc _ _).trans hx8)
 have hz67:=HX7.out.size
 have hz68:=hx68.size
 have hV':IsT w8 (In w6.heap.size w8.heap.size) V:=hV.mono fun b hb=>⟨by have:=hb.1;rw [World.size_alloc] at this;omega,hb.2⟩
 have haf:=Qce (HREG6.out.ext hx68) (T:=U) (F:=In w2.heap.size w5.heap.size) (U:=V) (HU6.out.agree (hx68.agree fun b hb=>by have:=hb.2;omega)) hV' (fun b hb=>⟨by have:=hb.2;omega,fun h=>by have:=QcW HREG2.out b h;have:=hb.1;omega⟩) (fun b hb=>⟨hb.2,fun h=>by have:=QcW HREG2.out b h;have:=hb.1;omega⟩) HOK.out okV (by rw [HE.out];simp) (by rw [heV];simp) (by simp) (Qmy (by simp))
 rw [Qaz,hq,heV,HE.out,QiY] at haf
 have HX68:=Lib.hid hx68
 have HAF2:=Lib.hid haf
 clear hq okV heV hV hx8 hx68 hV' haf HAF
 go_wp2_with fail
 refine HAF2.out.mono ?_
 rintro e w9 ⟨sl2,evs2,rfl,hmap2,hreg9,hst9,hevs2⟩
 have hm2:evs2.map EV.p=[QdX 1 false,QdX 2 false].map EV.p:=by rw [hmap2];exact Qkm HIV1.out HIV2.out rfl rfl
 have hB8:Below w.heap.size w w8:=Sb.step HB6.out (HX68.out.sb fun _=>False) fun b hb=>hb.elim
 have HB9:=Lib.hid (Sb.step hB8 hst9.sb fun b hb=>by rw [hb];exact Nat.le_refl _)
 have hz89:=hst9.size
 have hz26:w2.heap.size≤w6.heap.size:=by omega
 have hev19:EVS w9 (Lt w9.heap.size) sl1 evs1:=((HEV1.out.agree (HX68.out.agree fun b hb=>hb.2)).agree (hst9.agree.mono fun b hb=>⟨by have:=hb.2;omega,fun e=>by have:=QcW HREG2.out b (.inl e);have:=hb.1;omega⟩)).mono fun b hb=>by have:=hb.2;show b<_;omega
 have HM2:=Lib.hid hm2
 have HEV19:=Lib.hid hev19
 have HEV2:=Lib.hid (hevs2.mono (G:=Lt w9.heap.size) fun b hb=>hb.2)
 clear hmap2 hreg9 hst9 hevs2 hm2 hB8 hev19 HAF2 HU6 HU HREG6 HREG2
 go_wp2_with fail
 generalize hW10:World.alloc w9 _=w10
 have hx10:Ext w9 w10:=by rw [←hW10];exact (Ext.refl _).alloc _ _
 have hb10:Blk w10 w9.heap.size 44 #[.int .i64 3,.bool false,.int .i64 5,.string ByteArray.empty,.slice none 0 0,.slice none 0 0]:=by rw [←hW10];exact Blk.new w9 _ _
 have HV:=Lib.hid (show ∀ W,Ext w10 W→W.cell? ⟨w9.heap.size,0,none⟩=some (.int .i64 3)∧W.cell? ⟨w9.heap.size,1,none⟩=some (.bool false)∧W.cell? ⟨w9.heap.size,2,none⟩=some (.int .i64 5)∧W.cell? ⟨w9.heap.size,3,none⟩=some (.string ByteArray.empty)∧W.cell? ⟨w9.heap.size,4,none⟩=some (.slice none 0 0)∧W.cell? ⟨w9.heap.size,5,none⟩=some (.slice none 0 0) from
  fun W hW=>⟨(hb10.ext hW).cell 0,(hb10.ext hW).cell 1,(hb10.ext hW).cell 2,(hb10.ext hW).cell 3,(hb10.ext hW).cell 4,(hb10.ext hW).cell 5⟩)
 have HX10:=Lib.hid hx10
 clear hW10 hx10 hb10
 refine QiN (fun w' b6 b7=>Ext w10 w'∧Blk w' b6 54 #[.string kA1,.bool false,.int .i64 0,.bool false,.int .i64 0,.string ByteArray.empty,.slice none 0 0,.slice none 0 0,.bool true,.int .i64 3,.bool false,.int .i64 5,.string ByteArray.empty,.slice none 0 0,.slice none 0 0]∧Blk w' b7 54 #[.string kA1,.bool true,.int .i64 3,.bool false,.int .i64 5,.string ByteArray.empty,.slice none 0 0,.slice none 0 0,.bool false,.int .i64 0,.bool false,.int .i64 0,.string ByteArray.empty,.slice none 0 0,.slice none 0 0]) [31,32,33,34] 9 10 ?_ ?_
 ·skip
  refine wp_region_held_drew (S:=(fun w'=>Ext w10 w')) (by kernel_rfl) (((Ext.refl w10).drew)) (fun hHeld=>?_)
  refine Qad 0 (some 31) ?_ HV hHeld ?_ ?_
  rotate_left
  focus (intro w hSc;go_simp;first | done | with_reducible rfl)
  refine Qaj 1 (some 32) ?_ hHeld ?_ ?_
  rotate_left
  focus (intro w hSw;(try dsimp only at hSw);go_simp;first | done | with_reducible rfl)
  refine Qad 2 (some 33) ?_ HV hHeld ?_ ?_
  rotate_left
  focus (intro w hSc;go_simp;first | done | with_reducible rfl)
  refine Qaj 3 (some 34) ?_ hHeld ?_ ?_
  rotate_left
  focus (intro w hSw;(try dsimp only at hSw);go_simp;first | done | with_reducible rfl)
  refine QaI (i:=4) (j:=5) (by kernel_rfl) rfl rfl (by rfl) (by rfl) (fun K hK=>?_) (fun K hK=>?_)
  ·go_simp
   skip
   refine hK.out _ _ ((by first|exact (((Ext.refl _).drew).alloc _ _).alloc _ _|exact ((Ext.refl _).drew).alloc _ _)) (fun hHeld=>?_)
   clear hK K
   try simp only [Act.put,List.setIfInBounds_toArray,List.set_cons_zero,List.set_cons_succ]
   refine Qaa (i:=5) (by kernel_rfl) rfl (by rfl) (fun K hK=>?_)
   go_simp
   skip
   refine hK.out _ _ ((by first|exact (((Ext.refl _).drew).alloc _ _).alloc _ _|exact ((Ext.refl _).drew).alloc _ _)) (fun hHeld=>?_)
   clear hK K
   try simp only [Act.put,List.setIfInBounds_toArray,List.set_cons_zero,List.set_cons_succ]
   refine Qaa (i:=6) (by kernel_rfl) rfl (by rfl) (fun K hK=>?_)
   go_simp
   skip
   refine hK.out _ _ ((by first|exact (((Ext.refl _).drew).alloc _ _).alloc _ _|exact ((Ext.refl _).drew).alloc _ _)) (fun hHeld=>?_)
   clear hK K
   try simp only [Act.put,List.setIfInBounds_toArray,List.set_cons_zero,List.set_cons_succ]
   refine Qaa (i:=7) (by kernel_rfl) rfl (by rfl) (fun K hK=>?_)
   go_simp
   skip
   refine hK.out _ _ ((by first|exact (((Ext.refl _).drew).alloc _ _).alloc _ _|exact ((Ext.refl _).drew).alloc _ _)) (fun hHeld=>?_)
   clear hK K
   try simp only [Act.put,List.setIfInBounds_toArray,List.set_cons_zero,List.set_cons_succ]
   refine wpAnyH_done (by kernel_rfl) ?_ _
   refine Qdv ⟨w10.heap.size,w10.heap.size+1,⟨by first|exact (((Ext.refl _).drew).alloc _ _).alloc _ _|exact ((Ext.refl _).drew).alloc _ _,(Blk.new w10.drew _ _).ext ((Ext.refl _).alloc _ _),QdK w10.drew _ _ _ _⟩,by kernel_rfl,?_⟩
   simp only [Qmf,List.map_cons,List.map_nil,List.cons_append,List.nil_append,List.setIfInBounds_toArray,List.set_cons_zero,List.set_cons_succ]
   kernel_rfl
  ·go_simp
   skip
   refine hK.out _ _ ((by first|exact (((Ext.refl _).drew).alloc _ _).alloc _ _|exact ((Ext.refl _).drew).alloc _ _)) (fun hHeld=>?_)
   clear hK K
   try simp only [Act.put,List.setIfInBounds_toArray,List.set_cons_zero,List.set_cons_succ]
   refine Qaa (i:=4) (by kernel_rfl) rfl (by rfl) (fun K hK=>?_)
   go_simp
   skip
   refine hK.out _ _ ((by first|exact (((Ext.refl _).drew).alloc _ _).alloc _ _|exact ((Ext.refl _).drew).alloc _ _)) (fun hHeld=>?_)
   clear hK K
   try simp only [Act.put,List.setIfInBounds_toArray,List.set_cons_zero,List.set_cons_succ]
   refine Qaa (i:=6) (by kernel_rfl) rfl (by rfl) (fun K hK=>?_)
   go_simp
   skip
   refine hK.out _ _ ((by first|exact (((Ext.refl _).drew).alloc _ _).alloc _ _|exact ((Ext.refl _).drew).alloc _ _)) (fun hHeld=>?_)
   clear hK K
   try simp only [Act.put,List.setIfInBounds_toArray,List.set_cons_zero,List.set_cons_succ]
   refine Qaa (i:=7) (by kernel_rfl) rfl (by rfl) (fun K hK=>?_)
   go_simp
   skip
   refine hK.out _ _ ((by first|exact (((Ext.refl _).drew).alloc _ _).alloc _ _|exact ((Ext.refl _).drew).alloc _ _)) (fun hHeld=>?_)
   clear hK K
   try simp only [Act.put,List.setIfInBounds_toArray,List.set_cons_zero,List.set_cons_succ]
   refine wpAnyH_done (by kernel_rfl) ?_ _
   refine Qdv ⟨w10.heap.size+1,w10.heap.size,⟨by first|exact (((Ext.refl _).drew).alloc _ _).alloc _ _|exact ((Ext.refl _).drew).alloc _ _,QdK w10.drew _ _ _ _,(Blk.new w10.drew _ _).ext ((Ext.refl _).alloc _ _)⟩,by kernel_rfl,?_⟩
   simp only [Qmf,List.map_cons,List.map_nil,List.cons_append,List.nil_append,List.setIfInBounds_toArray,List.set_cons_zero,List.set_cons_succ]
   kernel_rfl
 ·rintro w11 b6 b7 uu ⟨hx11,hb6,hb7⟩
  simp only [Qmf,List.map_cons,List.map_nil,List.cons_append,List.nil_append,List.setIfInBounds_toArray,List.set_cons_zero,List.set_cons_succ]
  obtain ⟨r0,r1,r2,r3,r4,r5,r6,r7,r8,r9,r10,r11,r12,r13,r14⟩:=hb6.c15
  have l6:=hb6.lt
  have HX11:=Lib.hid (HX10.out.trans hx11)
  have HB7:=Lib.hid hb7
  clear hx11 hb6 hb7 HV
  go_wp2_with fail
  generalize hW12:World.alloc w11 _=w12
  have hx12:Ext w11 w12:=by rw [←hW12];exact (Ext.refl _).alloc _ _
  have hb12:Blk w12 w11.heap.size 56 ((QdX 1 true).cells.toList++(QdX 2 true).cells.toList).toArray:=by rw [←hW12];exact Blk.new w11 _ _
  have hsm:=Qdy (w:=w12) (s:=sl1) (s':=⟨some ⟨w11.heap.size,0,none⟩,2⟩) (xs:=evs1) (ys:=[QdX 1 true,QdX 2 true]) (HEV19.out.Qnr (HX11.out.trans hx12)) (Qko hb12 (QeG _ _ _ _) (QeG _ _ _ _)) HM1.out
  have HX12:=Lib.hid (HX11.out.trans hx12)
  have HB12:=Lib.hid (HB7.out.ext hx12)
  clear hW12 hx12 hb12 r0 r1 r2 r3 r4 r5 r6 r7 r8 r9 r10 r11 r12 r13 r14
  refine hsm.mono ?_
  rintro e w13 ⟨rfl,hx13⟩
  obtain ⟨r0,r1,r2,r3,r4,r5,r6,r7,r8,r9,r10,r11,r12,r13,r14⟩:=(HB12.out.ext hx13).c15
  have l7:=(HB12.out.ext hx13).lt
  have HX13:=Lib.hid (HX12.out.trans hx13)
  clear hx13 hsm
  go_wp2_with fail
  generalize hW14:World.alloc w13 _=w14
  have hx14:Ext w13 w14:=by rw [←hW14];exact (Ext.refl _).alloc _ _
  have hb14:Blk w14 w13.heap.size 56 ((QdX 1 false).cells.toList++(QdX 2 false).cells.toList).toArray:=by rw [←hW14];exact Blk.new w13 _ _
  have hsm:=Qdy (w:=w14) (s:=sl2) (s':=⟨some ⟨w13.heap.size,0,none⟩,2⟩) (xs:=evs2) (ys:=[QdX 1 false,QdX 2 false]) (HEV2.out.Qnr (HX13.out.trans hx14)) (Qko hb14 (QeG _ _ _ _) (QeG _ _ _ _)) HM2.out
  have HX14:=Lib.hid (HX13.out.trans hx14)
  clear hW14 hx14 hb14 r0 r1 r2 r3 r4 r5 r6 r7 r8 r9 r10 r11 r12 r13 r14
  refine hsm.mono ?_
  rintro e w15 ⟨rfl,hx15⟩
  have HX15:=Lib.hid (HX14.out.trans hx15)
  clear hx15 hsm
  go_wp2_with fail
  go_ret
  exact ⟨rfl,Sb.step HB9.out (HX15.out.sb fun _=>False) fun b hb=>hb.elim⟩
end Go.Proofs.YtohajcflklejjaaGreat
namespace Go.Proofs.YtohajcflklejjaaGreat
open Go.RowKit
set_option linter.unusedVariables false
set_option linter.unusedSimpArgs false
section
variable {H : Type} {enc : TypeId × Value → H} {w : World} {held : Bool}
theorem Qpp:Tryz.prog.cellsOf 24=4:=by kernel_rfl
theorem Qo7 {cs:List Value} (h:cs.length=4):∃ a b c d,cs=[a,b,c,d]:=by
 match cs,h with
 | [a,b,c,d],_=>exact ⟨_,_,_,_,rfl⟩
theorem Qpq {fuel:Nat} {cs:List Value} {x:DataW H × List MemPlace} (h:tr enc Tryz.prog w held fuel 24 cs=some x) (hw:WOk Tryz.prog 24 x.1):∃ q:Qy,cs=[.int .i64 q.kind,.string q.lo,.string q.hi,.bool q.op]∧q.short:=by
 obtain ⟨n,rfl,hl,hf⟩:=Qot Tryz.underlying24 h hw
 rw [Qpp] at hl
 obtain ⟨c0,c1,c2,c3,rfl⟩:=Qo7 hl
 obtain ⟨y0,h0,w0⟩:=hf 0 _ rfl
 obtain ⟨y1,h1,w1⟩:=hf 1 _ rfl
 obtain ⟨y2,h2,w2⟩:=hf 2 _ rfl
 obtain ⟨y3,h3,w3⟩:=hf 3 _ rfl
 dsimp only at h0 h1 h2 h3
 rw [show Tryz.prog.cellsOf _=1 from by kernel_rfl] at h0 h1 h2 h3
 obtain ⟨kd,k0,-⟩:=Qpz (by kernel_rfl) h0
 obtain ⟨lo,k1,hlo⟩:=QoN (by kernel_rfl) h1
 obtain ⟨hi,k2,hhi⟩:=QoN (by kernel_rfl) h2
 obtain ⟨op,k3⟩:=Qpg (by kernel_rfl) h3
 have e0:c0=.int .i64 kd:=by simpa using k0
 have e1:c1=.string lo:=by simpa using k1
 have e2:c2=.string hi:=by simpa using k2
 have e3:c3=.bool op:=by simpa using k3
 subst e0 e1 e2 e3
 exact ⟨⟨kd,lo,hi,op⟩,rfl,hlo,hhi⟩
end
theorem Qht (es:List Ent) (a:L27):(QjL es a).length≤es.length+a.es.length:=by
 have h0:=QfL a.gs (QaB es (a.es.map LE.ent))
 have h1:=QcV (a.es.map LE.ent) es
 simp only [List.length_map] at h1
 unfold QjL;omega
theorem TI.new {w:World} {H:Nat→Prop} {M:Nat} (hb:Blk w M 76 #[.slice none 0 0]) (hm:H M):TI H M [] none w:=⟨⟨hm,Sl.none,[],hb,ES.nil _ _,rfl⟩,trivial,trivial,rfl⟩
theorem QlL {L:Qbx} {C:List Chg} (hL:L.Pairwise fun p q=>p.1<q.1) (hC:C.Pairwise fun x y=>klt x.k y.k=true):(evL L C).Pairwise fun x y=>x.1<y.1∨x.1=y.1∧klt x.2.k y.2.k=true:=by
 unfold evL
 rw [List.pairwise_flatMap]
 refine ⟨fun p _=>?_,hL.imp fun {p q} h x hx y hy=>?_⟩
 ·rw [List.pairwise_map]
  exact (hC.sublist (List.filter_sublist ..)).imp fun {x y} h=>.inr ⟨rfl,h⟩
 ·obtain ⟨c,-,rfl⟩:=List.mem_map.1 hx
  obtain ⟨d,-,rfl⟩:=List.mem_map.1 hy
  exact .inl h
def Qmo (p:Nat × Iv) (C:List Chg):List Chg:=C.filter fun c=>Qca c.k p.2.lo p.2.hi p.2.op
theorem QlK (p:Nat × Iv) (C:List Chg):evL [p] C=(Qmo p C).map fun c=>(p.1,c):=by simp [evL,Qmo]
theorem Qpc {L:Qbx} {C:List Chg} (hL:L.Pairwise fun p q=>p.1<q.1) {p:Nat × Iv} (hp:p∈L):((evL L C).filter fun x=>x.1 == p.1).map (·.2)=Qmo p C:=by
 obtain ⟨A,B,rfl⟩:=List.append_of_mem hp
 have hA:∀ q∈A,q.1<p.1:=fun q hq=>(List.pairwise_append.1 hL).2.2 q hq p (List.mem_cons_self ..)
 have hB:∀ q∈B,p.1<q.1:=fun q hq=>(List.pairwise_cons.1 (List.pairwise_append.1 hL).2.1).1 q hq
 have e1:(evL A C).filter (fun x=>x.1 == p.1)=[]:=List.filter_eq_nil_iff.2 fun x hx=>by
  simp only [evL,List.mem_flatMap,List.mem_map] at hx
  obtain ⟨q,hq,c,-,rfl⟩:=hx
  have:=hA q hq
  simp;omega
 have e2:(evL B C).filter (fun x=>x.1 == p.1)=[]:=List.filter_eq_nil_iff.2 fun x hx=>by
  simp only [evL,List.mem_flatMap,List.mem_map] at hx
  obtain ⟨q,hq,c,-,rfl⟩:=hx
  have:=hB q hq
  simp;omega
 have e3:((Qmo p C).map fun c=>(p.1,c)).filter (fun x=>x.1 == p.1)=(Qmo p C).map fun c=>(p.1,c):=List.filter_eq_self.2 fun x hx=>by
  obtain ⟨c,-,rfl⟩:=List.mem_map.1 hx
  simp
 rw [show A++p :: B=A++([p]++B) from rfl]
 have happ:∀ (X Y:Qbx),evL (X++Y) C=evL X C++evL Y C:=fun X Y=>by simp [evL]
 rw [happ,happ,List.filter_append,List.filter_append,e1,e2,QlK,e3]
 simp [Function.comp_def]
theorem Qkl (C:List Chg):∀ L:Qbx,(evL L C).length=(L.map fun p=>(Qmo p C).length).sum
 | []=>rfl
 | p :: L=>by
   rw [show p :: L=[p]++L from rfl]
   have happ:evL ([p]++L) C=evL [p] C++evL L C:=by simp [evL]
   rw [happ,List.length_append,QlK,List.length_map,Qkl C L]
   simp
theorem Qou (p:Nat × Iv) (E:List Ent):Qau p.2.lo p.2.hi p.2.op E=E.filter fun e=>Qca e.1 p.2.lo p.2.hi p.2.op:=rfl
theorem Qo3 {E F:List Ent} (hE:Sorted E) (hF:Sorted F) (p:Nat × Iv):∃ x,apC (Qau p.2.lo p.2.hi p.2.op E) (Qmo p (chg E F))=some x∧Qow x (Qau p.2.lo p.2.hi p.2.op F)=true:=by
 have h:=Qov (P:=fun k=>Qca k p.2.lo p.2.hi p.2.op) _ (Nat.le_refl _) hE hF
 have hE':Sorted (Qau p.2.lo p.2.hi p.2.op E):=hE.sublist (List.filter_sublist ..)
 have hF':Sorted (Qau p.2.lo p.2.hi p.2.op F):=hF.sublist (List.filter_sublist ..)
 obtain ⟨x,h1,-,h2,-⟩:=Qo5 hE' hF'
 refine ⟨x,?_,h2⟩
 rw [←h1]
 congr 1
 rw [Qou,Qou,h]
 rfl
def QjJ (L:Qbx) (C:List Chg) (j:Nat):Nat:=((L.take j).map fun p=>(Qmo p C).length).sum
theorem QjK (L:Qbx) (C:List Chg):QjJ L C 0=0:=by simp [QjJ]
theorem QoM {L:Qbx} {C:List Chg} {j:Nat} {p:Nat × Iv} (hp:L[j]? = some p):QjJ L C (j+1)=QjJ L C j+(Qmo p C).length:=by
 simp [QjJ,List.take_add_one,hp]
theorem Qlj (L:Qbx) (C:List Chg):QjJ L C L.length=(evL L C).length:=by rw [Qkl,QjJ,List.take_length]
theorem Qpf (L:Qbx) (C:List Chg) (j:Nat):QjJ L C j≤(evL L C).length:=by
 rw [Qkl]
 conv=>rhs;rw [←List.take_append_drop j L]
 rw [List.map_append,List.sum_append,QjJ]
 exact Nat.le_add_right _ _
def Qoy (id:Nat) (evs:List EV):List CE:=(evs.filter fun v=>v.id == id).map EV.x
theorem QoB (id:Nat) (evs:List EV) (v:EV):Qoy id (evs++[v])=Qoy id evs++if v.id=id then [v.x] else []:=by
 simp only [Qoy,List.filter_append,List.map_append]
 congr 1
 by_cases h:v.id=id
 ·simp [h]
 ·simp [h]
theorem QoL {L:Qbx} {C:List Chg} {evs:List EV} (h:evs.map EV.p=evL L C) (hL:L.Pairwise fun p q=>p.1<q.1) {p:Nat × Iv} (hp:p∈L):(Qoy p.1 evs).map CE.c=Qmo p C:=by
 rw [←Qpc hL hp,←h,List.filter_map,List.map_map,Qoy,List.map_map]
 rfl
theorem QoK {L:Qbx} {C:List Chg} {evs:List EV} (h:evs.map EV.p=evL L C) (hL:L.Pairwise fun p q=>p.1<q.1) {j k:Nat} {p:Nat × Iv} (hp:L[j]? = some p):QjJ L C j+(Qoy p.1 (evs.take k)).length≤evs.length:=by
 have h1:(Qoy p.1 (evs.take k)).length≤(Qoy p.1 evs).length:=by
  simp only [Qoy,List.length_map]
  exact ((List.take_sublist k evs).filter _).length_le
 have h2:(Qoy p.1 evs).length=(Qmo p C).length:=by rw [←QoL h hL (List.mem_of_getElem? hp),List.length_map]
 have h3:=Qpf L C (j+1)
 rw [QoM hp] at h3
 have h4:evs.length=(evL L C).length:=by rw [←h,List.length_map]
 omega
end Go.Proofs.YtohajcflklejjaaGreat
namespace Go.Proofs.YtohajcflklejjaaGreat
open Go.RowKit Go.Sort
set_option linter.unusedVariables false
set_option linter.unusedSimpArgs false
set_option linter.unnecessarySimpa false
abbrev QaL:Int→Value:=fun x=>Value.int .u64 x
def Fz (w w':World):Prop:=∀ b o,w'.frozen? ⟨b,o,none⟩=w.frozen? ⟨b,o,none⟩
theorem Fz.refl (w:World):Fz w w:=fun _ _=>rfl
theorem Fz.trans {a b c:World} (h:Fz a b) (k:Fz b c):Fz a c:=fun i o=>(k i o).trans (h i o)
theorem Fz.put {α:Type} [Inhabited α] {enc:α→Value} {w:World} {n blk off:Nat} {d:Array α}:Fz w (putRow enc (Sort.ahead w n) blk off d):=fun b o=>by rw [frozen?_putRow];rfl
theorem Fz.alloc {w:World} {c:Array Value} {t:TypeId}:Fz w (w.alloc (.cells c t)):=fun b o=>by
 by_cases h:b=w.heap.size
 ·subst h
  have:w.heap[w.heap.size]? = none:=by simp
  rw [show w.frozen? ⟨w.heap.size,o,none⟩=false from by simp [World.frozen?,this]];simp
 ·exact World.frozen?_alloc_old w _ _ h
theorem Fz.QnW {α:Type} [Inhabited α] {enc:α→Value} {w:World} {n blk off:Nat} {d:Array α} {c:Array Value} {t:TypeId}:Fz w (grow (putRow enc (Sort.ahead w n) blk off d) #[Obj.cells c t]):=by
 rw [←alloc_eq_grow];exact Fz.put.trans Fz.alloc
theorem Fz.counter {α:Type} [Inhabited α] {enc:α→Value} {w:World} {N blk off:Nat} {d:Array α} {c:Array Value} {t:TypeId}:Fz w (putRow enc (Sort.ahead (w.alloc (.cells c t)) N) blk off d):=Fz.alloc.trans Fz.put
def AtU {α:Type} [Inhabited α] (enc:α→Value) (w:World) (blk off:Nat) (d:Array α) (wr:World):Prop:=At enc w blk off d wr∧Fz w wr
section
variable {α : Type} [Inhabited α] {enc : α → Value} {w wr w1 : World} {blk off : Nat} {d d' d0 : Array α}
theorem AtU.refl (h:Go.Sort.Holds enc w blk off d):AtU enc w blk off d w:=⟨At.refl h,Fz.refl w⟩
theorem AtU.holds (h:AtU enc w blk off d wr) (h0:Go.Sort.Holds enc w blk off d0) (hs:d.size=d0.size) (hb:blk<w.heap.size):Go.Sort.Holds enc wr blk off d∧blk<wr.heap.size:=h.1.holds h0 hs hb
theorem AtU.step (h:AtU enc w blk off d wr) (hb:blk<w.heap.size) (hs:d'.size=d.size) (h1:∃ m,w1=putRow enc (Sort.ahead wr m) blk off d'):AtU enc w blk off d' w1:=
 ⟨h.1.step hb hs h1,h.2.trans (by obtain ⟨m,rfl⟩:=h1;exact Fz.put)⟩
theorem AtU.stepG (h:AtU enc w blk off d wr) (hb:blk<w.heap.size) (hs:d'.size=d.size) (h1:(∃ m os',w1=grow (putRow enc (Sort.ahead wr m) blk off d') os')∧Fz wr w1):AtU enc w blk off d' w1:=⟨h.1.stepG hb hs h1.1,h.2.trans h1.2⟩
theorem AtU.same (h:AtU enc w blk off d wr) (h0:Go.Sort.Holds enc w blk off d0) (hs:d.size=d0.size) (hb:blk<w.heap.size) (h1:(∃ m os',w1=grow (Sort.ahead wr m) os')∧Fz wr w1):AtU enc w blk off d w1:=⟨h.1.same h0 hs hb h1.1,h.2.trans h1.2⟩
theorem AtU.ahead (h:AtU enc w blk off d wr) (m:Nat):AtU enc w blk off d (Sort.ahead wr m):=⟨h.1.ahead m,h.2.trans fun _ _=>rfl⟩
end
theorem Qgz (x:Int) (w:World):Calls Tryz.prog 157 #[.int .u64 x] w fun e w'=>e=.returned (.bool false)∧w'=w:=by
 go_enter Tryz.func157,Tryz.ntmps157
 go_wp2
 go_ret
 exact ⟨by simp,rfl⟩
theorem Qaf (x y:Int) (w:World):Calls Tryz.prog 137 #[.int .u64 x,.int .u64 y] w fun e w'=>e=.returned (.bool (Sort.ltInt x y))∧w'=w:=by
 go_enter Tryz.func137,Tryz.ntmps137
 go_wp2_with (go_at_call 157;refine (Qgz _ _).mono ?_;rintro e w' ⟨rfl,rfl⟩)
 go_ret
 exact ⟨rfl,rfl⟩
theorem QdU (blk off cap a b:Nat) (d:Array Int) (w:World) (hH:Go.Sort.Holds (Value.int .u64) w blk off d) (hab:a≤b) (hb:b≤d.size) (hsz:d.size<256) :
  Calls Tryz.prog 131 #[.slice (some ⟨blk,off,none⟩) d.size cap,.int .i64 a,.int .i64 b] w fun e w'=>
   e=.returned (.tuple #[])∧∃ n,w'=putRow (Value.int .u64) (Sort.ahead w n) blk off (Sort.insertionSort ltInt d a b):=by
 go_enter Tryz.func131,Tryz.ntmps131
 go_wp2
 go_loopw [6] (fun vi wr=>∃ (i n:Nat) (dk:Array Int),vi=.int .i64 i∧a<i∧i≤b+1∧dk.size=d.size∧wr=putRow (Value.int .u64) (Sort.ahead w n) blk off dk∧
   insOuter ltInt a b i dk=insOuter ltInt a b (a+1) d) (fun vi _=>b+1 - (intOf vi).toNat)
 case atStart=>exact ⟨a+1,0,d,by go_num,by omega,by omega,rfl,(putRow_self _ _ _ _ _ hH).symm,rfl⟩
 case round=>
  obtain ⟨i,n,dk,rfl,hai,hib,hsk,hwr,hO⟩:=hrel
  have HO:Hid (insOuter ltInt a b i dk=insOuter ltInt a b (a+1) d):=hO
  clear hO
  go_wp2
  ·
   go_loopw [7] (fun vj wr2=>∃ (j m:Nat) (dj:Array Int),vj=.int .i64 j∧a≤j∧j≤i∧dj.size=d.size∧wr2=putRow (Value.int .u64) (Sort.ahead w m) blk off dj∧
     insInner ltInt a j dj=insInner ltInt a i dk) (fun vj _=>(intOf vj).toNat)
   case atStart=>exact ⟨i,n,dk,rfl,by omega,Nat.le_refl _,hsk,rfl,rfl⟩
   case round=>
    obtain ⟨j,m,dj,rfl,haj,hji,hsj,hw2,hI⟩:=hrel
    have hlt:i<b:=by assumption
    obtain ⟨G,hG⟩:∃ G:Nat→Int,∀ t,G t=dj[t]!:=⟨fun t=>dj[t]!,fun _=>rfl⟩
    have hcw:∀ t,t<d.size→wr.cell? ⟨blk,off+t,none⟩=some (.int .u64 (G t)):=fun t ht=>by
     rw [hw2,hG];exact cell?_putRow _ _ _ _ d dj (holds_ahead _ _ _ _ _ _ hH) hsj t (by omega)
    have hfw:∀ t,t<d.size→wr.frozen? ⟨blk,off+t,none⟩=false:=fun t ht=>by
     rw [hw2,frozen?_putRow];exact ((holds_ahead _ _ m _ _ _ hH) t ht).2
    have HW:Hid (wr=putRow (Value.int .u64) (Sort.ahead w m) blk off dj):=hw2
    have HG:Hid (∀ t,G t=dj[t]!):=hG
    have HI:Hid (insInner ltInt a j dj=insInner ltInt a i dk):=hI
    clear hw2 hG hI hH
    have out:(j≤a∨ltInt dj[j]! dj[j - 1]! = false)→∀ q,∃ i' n' dk',Value.int .i64 ((i:Int)+1)=.int .i64 (i':Nat)∧a<i'∧i'≤b+1∧dk'.size=d.size∧
      wr.drewN q=putRow (Value.int .u64) (Sort.ahead w n') blk off dk'∧insOuter ltInt a b i' dk'=insOuter ltInt a b (a+1) d:=fun hs q=>
     ⟨i+1,m+q,dj,by go_num,by omega,by omega,hsj,by rw [HW.out];exact putRow_drewN _ _ _ _ _ _ _,
       by rw [←HO.out,insOuter_go _ _ _ _ _ hlt,←HI.out,insInner_stop _ _ _ _ hs]⟩
    have OUT:Hid _:=out
    clear out
    go_wp2
    by_cases hja:a<j
    ·go_quiet (first | (go_at_call 137;refine Calls.quiet_of_same (Qaf _ _ _)))
     go_wp2
     ·
      have hl:ltInt (G j) (G (j - 1))=true:=by assumption
      go_region
      all_goals go_wp2
      go_roundw
      case rel=>
       refine ⟨j - 1,m+(nq+1),swp dj j (j - 1),by congr 1;omega,by omega,by omega,by rw [size_swp];exact hsj,?_,?_⟩
       ·rw [HW.out,HG.out,HG.out]
        exact swap_worldA _ w m (nq+1) blk off dj j (j - 1) (by omega) (by omega)
       ·rw [←HI.out,insInner_go ltInt a j dj hja (by rw [←HG.out,←HG.out];exact hl)]
      case measure=>simp [intOf];omega
     ·
      have hl:ltInt (G j) (G (j - 1))=false:=by assumption
      go_roundw
      case rel=>exact OUT.out (Or.inr (by rw [←HG.out,←HG.out];exact hl)) nq
      case measure=>simp [intOf];omega
    ·go_quiet (first | (go_at_call 137;refine Calls.quiet_of_same (Qaf _ _ _)))
     go_wp2
     go_roundw
     case rel=>exact OUT.out (Or.inl (by omega)) nq
     case measure=>simp [intOf];omega
  ·
   have hge:¬i<b:=by assumption
   go_end0
   exact ⟨rfl,n,by unfold Sort.insertionSort;rw [←HO.out,insOuter_stop _ _ _ _ _ hge]⟩
theorem Qb9 (blk off cap a b:Nat) (d:Array Int) (w:World) (hH:Go.Sort.Holds (Value.int .u64) w blk off d) (hab:a<b) (hb:b≤d.size) (hsz:d.size<256) :
  Calls Tryz.prog 136 #[.slice (some ⟨blk,off,none⟩) d.size cap,.int .i64 a,.int .i64 b] w fun e w'=>
   e=.returned (.bool (Sort.partialInsertionSort ltInt d a b).2)∧∃ n,w'=putRow (Value.int .u64) (Sort.ahead w n) blk off (Sort.partialInsertionSort ltInt d a b).1:=by
 have HH:Hid (Go.Sort.Holds (Value.int .u64) w blk off d):=hH
 have HST:Hid (w=putRow (Value.int .u64) (Sort.ahead w 0) blk off d):=(putRow_self _ _ _ _ _ hH).symm
 clear hH
 go_enter Tryz.func136,Tryz.ntmps136
 go_wp2
 go_loopw [7,8] (fun vi vs wr=>∃ (i s n:Nat) (dk:Array Int),vi=.int .i64 i∧vs=.int .i64 s∧s≤5∧a<i∧i≤b∧dk.size=d.size∧wr=putRow (Value.int .u64) (Sort.ahead w n) blk off dk∧
   partialIns ltInt a b (5 - s) i dk=partialIns ltInt a b 5 (a+1) d) (fun _ vs _=>5 - (intOf vs).toNat)
 case atStart=>exact ⟨a+1,0,0,d,by go_num,rfl,by omega,by omega,by omega,rfl,HST.out,rfl⟩
 case round=>
  obtain ⟨i,s,n,dk,rfl,rfl,hs5,hai,hib,hsk,hwr,hO⟩:=hrel
  have HO:Hid (partialIns ltInt a b (5 - s) i dk=partialIns ltInt a b 5 (a+1) d):=hO
  clear hO
  go_wp2
  ·
   have hs:s<5:=by omega
   go_loopw [7] (fun vi wr2=>∃ (k m:Nat),vi=.int .i64 k∧i≤k∧k≤b∧wr2=putRow (Value.int .u64) (Sort.ahead w m) blk off dk∧scanSorted ltInt dk b k=scanSorted ltInt dk b i) (fun vi _=>b - (intOf vi).toNat)
   case atStart=>exact ⟨i,n,rfl,Nat.le_refl _,hib,rfl,rfl⟩
   case round=>
    obtain ⟨k,m,rfl,hik,hkb,hw2,hS⟩:=hrel
    obtain ⟨G,hG⟩:∃ G:Nat→Int,∀ t,G t=dk[t]!:=⟨fun t=>dk[t]!,fun _=>rfl⟩
    have hcw:∀ t,t<d.size→wr.cell? ⟨blk,off+t,none⟩=some (.int .u64 (G t)):=fun t ht=>by
     rw [hw2,hG];exact cell?_putRow _ _ _ _ d dk (holds_ahead _ _ _ _ _ _ HH.out) hsk t (by omega)
    have hfw:∀ t,t<d.size→wr.frozen? ⟨blk,off+t,none⟩=false:=fun t ht=>by
     rw [hw2,frozen?_putRow];exact ((holds_ahead _ _ m _ _ _ HH.out) t ht).2
    have HW:Hid (wr=putRow (Value.int .u64) (Sort.ahead w m) blk off dk):=hw2
    have HG:Hid (∀ t,G t=dk[t]!):=hG
    have HS:Hid (scanSorted ltInt dk b k=scanSorted ltInt dk b i):=hS
    clear hw2 hG hS
    go_wp2
    by_cases hkb':k<b
    ·go_quiet (first | (go_at_call 137;refine Calls.quiet_of_same (Qaf _ _ _)))
     go_wp2
     all_goals first
      | (at_end
         have hl:ltInt (G k) (G (k - 1))=false:=by
          have h:(!ltInt (G k) (G (k - 1)))=true:=by assumption
          simpa using h
         go_roundw
         case rel=>exact ⟨k+1,m+nq,by go_num,by omega,by omega,by rw [HW.out];exact putRow_drewN _ _ _ _ _ _ _,by rw [←HS.out,scanSorted_go ltInt dk b k hkb' (by rw [←HG.out,←HG.out];exact hl)]⟩
         case measure=>simp [intOf];omega)
      | (have hl:ltInt (G k) (G (k - 1))=true:=by
          have h:(!ltInt (G k) (G (k - 1)))=false:=by assumption
          simpa using h
         have HK:Hid (scanSorted ltInt dk b i=k):=by
          show scanSorted ltInt dk b i=k
          rw [←HS.out,scanSorted_stop ltInt dk b k (Or.inr (by rw [←HG.out,←HG.out];exact hl))]
         first
          | (at_ret
             have hv:Sort.partialInsertionSort ltInt d a b=(dk,false):=by
              unfold Sort.partialInsertionSort
              rw [←HO.out,pi_short ltInt a b s i dk hs (by rw [HK.out];omega) (by omega)]
             rw [hv]
             go_ret
             exact ⟨rfl,m+nq,by rw [HW.out];exact putRow_drewN _ _ _ _ _ _ _⟩)
          | (at_region 11
             have h50:¬b - a<50:=by omega
             go_region
             have hsw:((wr.drewN (nq+1)).setCell ⟨blk,off+k,none⟩ (.int .u64 (G (k - 1)))).setCell ⟨blk,off+(k - 1),none⟩ (.int .u64 (G k))=putRow (Value.int .u64) (Sort.ahead w (m+(nq+1))) blk off (swp dk k (k - 1)):=by
              rw [HW.out,HG.out,HG.out]
              exact swap_worldA _ w m (nq+1) blk off dk k (k - 1) (by omega) (by omega)
             have hs1:(swp dk k (k - 1)).size=d.size:=by rw [size_swp];exact hsk
             go_wp2
             all_goals first
              | (at_loop
                 have hka:k - a≥2:=by omega
                 go_loopw [9] (fun vj wr2=>∃ (j m2:Nat) (dj:Array Int),vj=.int .i64 j∧j≤k - 1∧dj.size=d.size∧wr2=putRow (Value.int .u64) (Sort.ahead w m2) blk off dj∧
                   shiftDown ltInt j dj=shiftDown ltInt (k - 1) (swp dk k (k - 1))) (fun vj _=>(intOf vj).toNat)
                 case atStart=>exact ⟨k - 1,_,(swp dk k (k - 1)),by congr 1;omega,Nat.le_refl _,hs1,rfl,rfl⟩
                 case round=>
                  obtain ⟨j,m2,dj,rfl,hjk,hsj,hw2,hDn⟩:=hrel
                  obtain ⟨G,hG⟩:∃ G:Nat→Int,∀ t,G t=dj[t]!:=⟨fun t=>dj[t]!,fun _=>rfl⟩
                  have hcw:∀ t,t<d.size→wr.cell? ⟨blk,off+t,none⟩=some (.int .u64 (G t)):=fun t ht=>by
                   rw [hw2,hG];exact cell?_putRow _ _ _ _ d dj (holds_ahead _ _ _ _ _ _ HH.out) hsj t (by omega)
                  have hfw:∀ t,t<d.size→wr.frozen? ⟨blk,off+t,none⟩=false:=fun t ht=>by
                   rw [hw2,frozen?_putRow];exact ((holds_ahead _ _ m2 _ _ _ HH.out) t ht).2
                  have HW:Hid (wr=putRow (Value.int .u64) (Sort.ahead w m2) blk off dj):=hw2
                  have HG:Hid (∀ t,G t=dj[t]!):=hG
                  have HDn:Hid (shiftDown ltInt j dj=shiftDown ltInt (k - 1) (swp dk k (k - 1))):=hDn
                  clear hw2 hG hDn hsw
                  go_wp2
                  all_goals first
                   | (at_region 16
                      go_quiet (first | (go_at_call 137;refine Calls.quiet_of_same (Qaf _ _ _)))
                      go_wp2
                      all_goals first
                       | (at_region 17
                          have hl:ltInt (G j) (G (j - 1))=true:=by
                           have h:(!ltInt (G j) (G (j - 1)))=false:=by assumption
                           simpa using h
                          go_region
                          all_goals go_wp2
                          go_roundw
                          case rel=>
                           refine ⟨j - 1,m2+(nq+1),swp dj j (j - 1),by congr 1;omega,by omega,by rw [size_swp];exact hsj,?_,?_⟩
                           ·rw [HW.out,HG.out,HG.out]
                            exact swap_worldA _ w m2 (nq+1) blk off dj j (j - 1) (by omega) (by omega)
                           ·rw [←HDn.out,shiftDown_go ltInt j dj (by omega) (by rw [←HG.out,←HG.out];exact hl)]
                          case measure=>simp [intOf];omega)
                       | (-- break
                          have hl:ltInt (G j) (G (j - 1))=false:=by
                           have h:(!ltInt (G j) (G (j - 1)))=true:=by assumption
                           simpa using h
                          have HD:Hid (fixDown ltInt a k (swp dk k (k - 1))=dj):=by
                           show fixDown ltInt a k (swp dk k (k - 1))=dj
                           unfold fixDown;rw [if_pos hka,←HDn.out,shiftDown_stop ltInt j dj (Or.inr (by rw [←HG.out,←HG.out];exact hl))]
                          first
                           | (at_end
                              go_roundw
                              case rel=>
                               refine ⟨k,s+1,_,dj,rfl,by go_num,by omega,by omega,by omega,hsj,(by first | rfl | exact HW.out | (rw [HW.out];exact putRow_drewN _ _ _ _ _ _ _)),?_⟩
                               rw [←HO.out,pi_go ltInt a b s i k dk hs HK.out (by omega) (by omega),HD.out,show fixUp ltInt b k dj=dj from by unfold fixUp;rw [if_neg (by omega)]]
                              case measure=>simp [intOf];omega)
                           | (at_loop
                              go_loopw [10] (fun vj wr2=>∃ (j m3:Nat) (du:Array Int),vj=.int .i64 j∧k+1≤j∧j≤b∧du.size=d.size∧wr2=putRow (Value.int .u64) (Sort.ahead w m3) blk off du∧
                                shiftUp ltInt b j du=shiftUp ltInt b (k+1) dj) (fun vj _=>b - (intOf vj).toNat)
                              case atStart=>exact ⟨k+1,_,dj,by go_num,Nat.le_refl _,by omega,hsj,(by first | rfl | exact HW.out | (rw [HW.out];exact putRow_drewN _ _ _ _ _ _ _)),rfl⟩
                              case round=>
                               obtain ⟨j,m3,du,rfl,hkj,hjb,hsu,hw3,hU⟩:=hrel
                               obtain ⟨G,hG⟩:∃ G:Nat→Int,∀ t,G t=du[t]!:=⟨fun t=>du[t]!,fun _=>rfl⟩
                               have hcw:∀ t,t<d.size→wr.cell? ⟨blk,off+t,none⟩=some (.int .u64 (G t)):=fun t ht=>by
                                rw [hw3,hG];exact cell?_putRow _ _ _ _ d du (holds_ahead _ _ _ _ _ _ HH.out) hsu t (by omega)
                               have hfw:∀ t,t<d.size→wr.frozen? ⟨blk,off+t,none⟩=false:=fun t ht=>by
                                rw [hw3,frozen?_putRow];exact ((holds_ahead _ _ m3 _ _ _ HH.out) t ht).2
                               have HW:Hid (wr=putRow (Value.int .u64) (Sort.ahead w m3) blk off du):=hw3
                               have HG:Hid (∀ t,G t=du[t]!):=hG
                               have HU:Hid (shiftUp ltInt b j du=shiftUp ltInt b (k+1) dj):=hU
                               clear hw3 hG hU
                               go_wp2
                               all_goals first
                                | (at_region 22
                                   go_quiet (first | (go_at_call 137;refine Calls.quiet_of_same (Qaf _ _ _)))
                                   go_wp2
                                   all_goals first
                                    | (at_region 23
                                       have hl:ltInt (G j) (G (j - 1))=true:=by
                                        have h:(!ltInt (G j) (G (j - 1)))=false:=by assumption
                                        simpa using h
                                       go_region
                                       all_goals go_wp2
                                       go_roundw
                                       case rel=>
                                        refine ⟨j+1,m3+(nq+1),swp du j (j - 1),by go_num,by omega,by omega,by rw [size_swp];exact hsu,?_,?_⟩
                                        ·rw [HW.out,HG.out,HG.out]
                                         exact swap_worldA _ w m3 (nq+1) blk off du j (j - 1) (by omega) (by omega)
                                        ·rw [←HU.out,shiftUp_go ltInt b j du (by omega) (by rw [←HG.out,←HG.out];exact hl)]
                                       case measure=>simp [intOf];omega)
                                    | (at_end
                                       have hl:ltInt (G j) (G (j - 1))=false:=by
                                        have h:(!ltInt (G j) (G (j - 1)))=true:=by assumption
                                        simpa using h
                                       go_roundw
                                       case rel=>
                                        refine ⟨k,s+1,_,du,rfl,by go_num,by omega,by omega,by omega,hsu,(by first | rfl | exact HW.out | (rw [HW.out];exact putRow_drewN _ _ _ _ _ _ _)),?_⟩
                                        rw [←HO.out,pi_go ltInt a b s i k dk hs HK.out (by omega) (by omega),HD.out,show fixUp ltInt b k dj=du from by unfold fixUp;rw [if_pos (by omega),←HU.out,shiftUp_stop ltInt b j du (Or.inr (by rw [←HG.out,←HG.out];exact hl))]]
                                       case measure=>simp [intOf];omega))
                                | (at_end
                                   go_roundw
                                   case rel=>
                                    refine ⟨k,s+1,_,du,rfl,by go_num,by omega,by omega,by omega,hsu,(by first | rfl | exact HW.out | (rw [HW.out];exact putRow_drewN _ _ _ _ _ _ _)),?_⟩
                                    rw [←HO.out,pi_go ltInt a b s i k dk hs HK.out (by omega) (by omega),HD.out,show fixUp ltInt b k dj=du from by unfold fixUp;rw [if_pos (by omega),←HU.out,shiftUp_stop ltInt b j du (Or.inl (by omega))]]
                                   case measure=>simp [intOf];omega))))
                   | (-- j<1
                      have HD:Hid (fixDown ltInt a k (swp dk k (k - 1))=dj):=by
                       show fixDown ltInt a k (swp dk k (k - 1))=dj
                       unfold fixDown;rw [if_pos hka,←HDn.out,shiftDown_stop ltInt j dj (Or.inl (by omega))]
                      first
                       | (at_end
                          go_roundw
                          case rel=>
                           refine ⟨k,s+1,_,dj,rfl,by go_num,by omega,by omega,by omega,hsj,(by first | rfl | exact HW.out | (rw [HW.out];exact putRow_drewN _ _ _ _ _ _ _)),?_⟩
                           rw [←HO.out,pi_go ltInt a b s i k dk hs HK.out (by omega) (by omega),HD.out,show fixUp ltInt b k dj=dj from by unfold fixUp;rw [if_neg (by omega)]]
                          case measure=>simp [intOf];omega)
                       | (at_loop
                          go_loopw [10] (fun vj wr2=>∃ (j m3:Nat) (du:Array Int),vj=.int .i64 j∧k+1≤j∧j≤b∧du.size=d.size∧wr2=putRow (Value.int .u64) (Sort.ahead w m3) blk off du∧
                            shiftUp ltInt b j du=shiftUp ltInt b (k+1) dj) (fun vj _=>b - (intOf vj).toNat)
                          case atStart=>exact ⟨k+1,_,dj,by go_num,Nat.le_refl _,by omega,hsj,(by first | rfl | exact HW.out | (rw [HW.out];exact putRow_drewN _ _ _ _ _ _ _)),rfl⟩
                          case round=>
                           obtain ⟨j,m3,du,rfl,hkj,hjb,hsu,hw3,hU⟩:=hrel
                           obtain ⟨G,hG⟩:∃ G:Nat→Int,∀ t,G t=du[t]!:=⟨fun t=>du[t]!,fun _=>rfl⟩
                           have hcw:∀ t,t<d.size→wr.cell? ⟨blk,off+t,none⟩=some (.int .u64 (G t)):=fun t ht=>by
                            rw [hw3,hG];exact cell?_putRow _ _ _ _ d du (holds_ahead _ _ _ _ _ _ HH.out) hsu t (by omega)
                           have hfw:∀ t,t<d.size→wr.frozen? ⟨blk,off+t,none⟩=false:=fun t ht=>by
                            rw [hw3,frozen?_putRow];exact ((holds_ahead _ _ m3 _ _ _ HH.out) t ht).2
                           have HW:Hid (wr=putRow (Value.int .u64) (Sort.ahead w m3) blk off du):=hw3
                           have HG:Hid (∀ t,G t=du[t]!):=hG
                           have HU:Hid (shiftUp ltInt b j du=shiftUp ltInt b (k+1) dj):=hU
                           clear hw3 hG hU
                           go_wp2
                           all_goals first
                            | (at_region 22
                               go_quiet (first | (go_at_call 137;refine Calls.quiet_of_same (Qaf _ _ _)))
                               go_wp2
                               all_goals first
                                | (at_region 23
                                   have hl:ltInt (G j) (G (j - 1))=true:=by
                                    have h:(!ltInt (G j) (G (j - 1)))=false:=by assumption
                                    simpa using h
                                   go_region
                                   all_goals go_wp2
                                   go_roundw
                                   case rel=>
                                    refine ⟨j+1,m3+(nq+1),swp du j (j - 1),by go_num,by omega,by omega,by rw [size_swp];exact hsu,?_,?_⟩
                                    ·rw [HW.out,HG.out,HG.out]
                                     exact swap_worldA _ w m3 (nq+1) blk off du j (j - 1) (by omega) (by omega)
                                    ·rw [←HU.out,shiftUp_go ltInt b j du (by omega) (by rw [←HG.out,←HG.out];exact hl)]
                                   case measure=>simp [intOf];omega)
                                | (at_end
                                   have hl:ltInt (G j) (G (j - 1))=false:=by
                                    have h:(!ltInt (G j) (G (j - 1)))=true:=by assumption
                                    simpa using h
                                   go_roundw
                                   case rel=>
                                    refine ⟨k,s+1,_,du,rfl,by go_num,by omega,by omega,by omega,hsu,(by first | rfl | exact HW.out | (rw [HW.out];exact putRow_drewN _ _ _ _ _ _ _)),?_⟩
                                    rw [←HO.out,pi_go ltInt a b s i k dk hs HK.out (by omega) (by omega),HD.out,show fixUp ltInt b k dj=du from by unfold fixUp;rw [if_pos (by omega),←HU.out,shiftUp_stop ltInt b j du (Or.inr (by rw [←HG.out,←HG.out];exact hl))]]
                                   case measure=>simp [intOf];omega))
                            | (at_end
                               go_roundw
                               case rel=>
                                refine ⟨k,s+1,_,du,rfl,by go_num,by omega,by omega,by omega,hsu,(by first | rfl | exact HW.out | (rw [HW.out];exact putRow_drewN _ _ _ _ _ _ _)),?_⟩
                                rw [←HO.out,pi_go ltInt a b s i k dk hs HK.out (by omega) (by omega),HD.out,show fixUp ltInt b k dj=du from by unfold fixUp;rw [if_pos (by omega),←HU.out,shiftUp_stop ltInt b j du (Or.inl (by omega))]]
                               case measure=>simp [intOf];omega))))
              | (-- i - a<2
                 have HD:Hid (fixDown ltInt a k (swp dk k (k - 1))=(swp dk k (k - 1))):=by
                  show fixDown ltInt a k (swp dk k (k - 1))=(swp dk k (k - 1))
                  unfold fixDown;rw [if_neg (by omega)]
                 first
                  | (at_end
                     go_roundw
                     case rel=>
                      refine ⟨k,s+1,_,(swp dk k (k - 1)),rfl,by go_num,by omega,by omega,by omega,hs1,(by first | rfl | exact HW.out | (rw [HW.out];exact putRow_drewN _ _ _ _ _ _ _)),?_⟩
                      rw [←HO.out,pi_go ltInt a b s i k dk hs HK.out (by omega) (by omega),HD.out,show fixUp ltInt b k (swp dk k (k - 1))=(swp dk k (k - 1)) from by unfold fixUp;rw [if_neg (by omega)]]
                     case measure=>simp [intOf];omega)
                  | (at_loop
                     go_loopw [10] (fun vj wr2=>∃ (j m3:Nat) (du:Array Int),vj=.int .i64 j∧k+1≤j∧j≤b∧du.size=d.size∧wr2=putRow (Value.int .u64) (Sort.ahead w m3) blk off du∧
                       shiftUp ltInt b j du=shiftUp ltInt b (k+1) (swp dk k (k - 1))) (fun vj _=>b - (intOf vj).toNat)
                     case atStart=>exact ⟨k+1,_,(swp dk k (k - 1)),by go_num,Nat.le_refl _,by omega,hs1,(by first | rfl | exact HW.out | (rw [HW.out];exact putRow_drewN _ _ _ _ _ _ _)),rfl⟩
                     case round=>
                      obtain ⟨j,m3,du,rfl,hkj,hjb,hsu,hw3,hU⟩:=hrel
                      obtain ⟨G,hG⟩:∃ G:Nat→Int,∀ t,G t=du[t]!:=⟨fun t=>du[t]!,fun _=>rfl⟩
                      have hcw:∀ t,t<d.size→wr.cell? ⟨blk,off+t,none⟩=some (.int .u64 (G t)):=fun t ht=>by
                       rw [hw3,hG];exact cell?_putRow _ _ _ _ d du (holds_ahead _ _ _ _ _ _ HH.out) hsu t (by omega)
                      have hfw:∀ t,t<d.size→wr.frozen? ⟨blk,off+t,none⟩=false:=fun t ht=>by
                       rw [hw3,frozen?_putRow];exact ((holds_ahead _ _ m3 _ _ _ HH.out) t ht).2
                      have HW:Hid (wr=putRow (Value.int .u64) (Sort.ahead w m3) blk off du):=hw3
                      have HG:Hid (∀ t,G t=du[t]!):=hG
                      have HU:Hid (shiftUp ltInt b j du=shiftUp ltInt b (k+1) (swp dk k (k - 1))):=hU
                      clear hw3 hG hU
                      go_wp2
                      all_goals first
                       | (at_region 22
                          go_quiet (first | (go_at_call 137;refine Calls.quiet_of_same (Qaf _ _ _)))
                          go_wp2
                          all_goals first
                           | (at_region 23
                              have hl:ltInt (G j) (G (j - 1))=true:=by
                               have h:(!ltInt (G j) (G (j - 1)))=false:=by assumption
                               simpa using h
                              go_region
                              all_goals go_wp2
                              go_roundw
                              case rel=>
                               refine ⟨j+1,m3+(nq+1),swp du j (j - 1),by go_num,by omega,by omega,by rw [size_swp];exact hsu,?_,?_⟩
                               ·rw [HW.out,HG.out,HG.out]
                                exact swap_worldA _ w m3 (nq+1) blk off du j (j - 1) (by omega) (by omega)
                               ·rw [←HU.out,shiftUp_go ltInt b j du (by omega) (by rw [←HG.out,←HG.out];exact hl)]
                              case measure=>simp [intOf];omega)
                           | (at_end
                              have hl:ltInt (G j) (G (j - 1))=false:=by
                               have h:(!ltInt (G j) (G (j - 1)))=true:=by assumption
                               simpa using h
                              go_roundw
                              case rel=>
                               refine ⟨k,s+1,_,du,rfl,by go_num,by omega,by omega,by omega,hsu,(by first | rfl | exact HW.out | (rw [HW.out];exact putRow_drewN _ _ _ _ _ _ _)),?_⟩
                               rw [←HO.out,pi_go ltInt a b s i k dk hs HK.out (by omega) (by omega),HD.out,show fixUp ltInt b k (swp dk k (k - 1))=du from by unfold fixUp;rw [if_pos (by omega),←HU.out,shiftUp_stop ltInt b j du (Or.inr (by rw [←HG.out,←HG.out];exact hl))]]
                              case measure=>simp [intOf];omega))
                       | (at_end
                          go_roundw
                          case rel=>
                           refine ⟨k,s+1,_,du,rfl,by go_num,by omega,by omega,by omega,hsu,(by first | rfl | exact HW.out | (rw [HW.out];exact putRow_drewN _ _ _ _ _ _ _)),?_⟩
                           rw [←HO.out,pi_go ltInt a b s i k dk hs HK.out (by omega) (by omega),HD.out,show fixUp ltInt b k (swp dk k (k - 1))=du from by unfold fixUp;rw [if_pos (by omega),←HU.out,shiftUp_stop ltInt b j du (Or.inl (by omega))]]
                          case measure=>simp [intOf];omega)))))
    ·
     go_quiet (first | (go_at_call 137;refine Calls.quiet_of_same (Qaf _ _ _)))
     go_wp2
     obtain rfl:k=b:=by omega
     have hv:Sort.partialInsertionSort ltInt d a k=(dk,true):=by
      unfold Sort.partialInsertionSort
      rw [←HO.out,pi_true ltInt a k s i dk hs (by rw [←HS.out,scanSorted_stop ltInt dk k k (Or.inl (by omega))])]
     rw [hv]
     go_ret
     exact ⟨rfl,m+nq,by rw [HW.out];exact putRow_drewN _ _ _ _ _ _ _⟩
  ·
   obtain rfl:s=5:=by omega
   have hv:Sort.partialInsertionSort ltInt d a b=(dk,false):=by
    unfold Sort.partialInsertionSort
    rw [←HO.out,pi_end]
   rw [hv]
   go_ret
   exact ⟨rfl,n,rfl⟩
theorem Qer (blk off cap:Nat) (d:Array Int) (a b:Nat) (w:World) (hH:Go.Sort.Holds QaL w blk off d) (hab:a≤b) (hb:b≤d.size) (hsz:d.size<256) :
  Calls Tryz.prog 135 #[.slice (some ⟨blk,off,none⟩) d.size cap,.int .i64 a,.int .i64 b] w fun e w'=>e=.returned (.tuple #[])∧∃ n,w'=putRow QaL (Sort.ahead w n) blk off (reverseRange d a b):=by
 go_enter Tryz.func135,Tryz.ntmps135
 go_wp2
 go_loopg [6,7] (b - a) (fun k s6 s7 wr=>∃ (i jn:Nat) (jz:Int) (dk:Array Int) (n:Nat),s6=.int .i64 i∧s7=.int .i64 jz∧((i:Int)<jz→jz=jn∧jn<d.size)∧(¬(i:Int)<jz→¬i<jn)∧jn - i≤k∧
  dk.size=d.size∧wr=putRow QaL (Sort.ahead w n) blk off dk∧reverseLoop i jn dk=reverseLoop a (b - 1) d)
 case atStart=>exact ⟨a,b - 1,(b:Int) - 1,d,0,rfl,rfl,fun h=>⟨by omega,by omega⟩,fun h=>by omega,by omega,rfl,(putRow_self QaL w blk off d hH).symm,rfl⟩
 case round=>
  obtain ⟨i,jn,jz,dk,n,rfl,rfl,h1,h2,hk,hds,hwr,heq⟩:=hrel
  by_cases hlt:(i:Int)<jz
  ·obtain ⟨rfl,hjn⟩:=h1 hlt
   have hij:i<jn:=by omega
   have hHk:Go.Sort.Holds QaL wr blk off dk:=by rw [hwr];exact holds_putRow QaL _ blk off d dk (holds_ahead QaL w n blk off d hH) hds
   obtain ⟨ci,fi⟩:=hHk i (by omega)
   obtain ⟨cj,fj⟩:=hHk jn (by omega)
   have A:Aside (wr=putRow QaL (Sort.ahead w n) blk off dk):=hwr
   clear hwr hHk hH h1 h2
   go_wp2_with fail
   go_region
   go_wp2
   go_roundg (jn - 1 - (i+1))
   case measure=>omega
   case rel=>
    rw [reverseLoop,if_pos hij] at heq
    exact ⟨i+1,jn - 1,(jn:Int) - 1,swp dk i jn,n+1,by simp,rfl,fun h=>⟨by omega,by omega⟩,fun h=>by omega,Nat.le_refl _,by rw [size_swp];exact hds,
     swap_world QaL (by omega) (by omega) A.out (by simp [QaL,getElem!_pos,show jn<dk.size by omega]) rfl,heq⟩
  ·have hnot:=h2 hlt
   go_wp2
   go_end0
   refine ⟨rfl,n,?_⟩
   rw [reverseLoop,if_neg hnot] at heq
   rw [reverseRange,←heq]
end Go.Proofs.YtohajcflklejjaaGreat
