/- What the theorem needs of the texts RefC9, AppP, Alike, Coll2, RoundE, TrodC, Sub1, Sbs, Sub2, Sub3, SortU, SortU2, KeysU, SortedU, Live, Sift: no condition of its own. -/
import Derived.Laws.IdiomStrings
import Derived.WalkArith
import Derived.Maps.OwnSet
import Derived.Maps.OwnIn
import Derived.Sort.MapsRangeIn
import Derived.Sort.LotA
import Derived.Sort.WalkA
import Derived.Sort.KeysCollected
import Derived.TacticsInMore
import Derived.RegionIn
import Derived.LoopNIn
import Derived.LoopIn
import Derived.Sort.LoopGhostIn
import Derived.Test.YtohajcflklejjaaGreatPha
import Derived.Test.YtohajcflklejjaaGreatPhb
import Derived.Test.YtohajcflklejjaaGreatPhc
import Derived.Test.YtohajcflklejjaaGreatPhd
import Derived.Test.YtohajcflklejjaaGreatPhe
import Derived.Test.YtohajcflklejjaaGreatPhf
import Derived.Test.YtohajcflklejjaaGreatPhg
import Derived.Test.YtohajcflklejjaaGreatPhh
set_option maxRecDepth 100000
set_option maxHeartbeats 8000000
namespace Go.Proofs.YtohajcflklejjaaGreat
open Go.RowKit Go.Shelf
set_option linter.unusedVariables false
set_option linter.unusedSimpArgs false
theorem Qev {l A:List Ent} {j:Nat} {e:Ent} (h:l[j]? = some e):Qau A (QaV (l.take (j+1)))=QbH (Qau A (QaV (l.take j))) e.1 zeroV:=by
 have h2:l.take (j+1)=l.take j++[e]:=by rw [List.take_add_one,h];rfl
 rw [h2,QaV,List.map_append,List.map_cons,List.map_nil,Qcx]
 rfl
theorem Qok {w:World} {F:Nat→Prop} {s s':Sl} {xs ys:List LE} (hF:∀ b,F b→b<w.heap.size) (hs:ES w F s xs) (hs':ES w F s' ys) (hl:xs.length≤300000) (hl':ys.length≤300000) (sx:Sorted (xs.map LE.ent)) (sy:Sorted (ys.map LE.ent)) :
  Calls Tryz.prog 63 #[.slice s.a xs.length s.c,.slice s'.a ys.length s'.c] w fun e w'=>∃ (r:Sl) (zs:List CE),e=.returned (.slice r.a zs.length r.c)∧zs.map CE.c=QoT (xs.map LE.ent) (ys.map LE.ent)∧Ext w w'∧CS w' (fun b=>F b∨(w.heap.size≤b∧b<w'.heap.size)) r zs:=by
 obtain ⟨i0,hi,hz0,hz1,hz2⟩:=info_parts Tryz.Qgm
 have HF:=Lib.hid hF
 have HS:=Lib.hid hs
 have HS':=Lib.hid hs'
 clear hs hs' sx sy hF
 go_enter Tryz.func63,Tryz.ntmps63
 go_wp2_with fail
 have hx0:Ext w (w.alloc (.cells #[.slice none 0 0] 76)):=(Ext.refl w).alloc _ _
 have hM0:MapAt (fun b=>b=w.heap.size) (w.alloc (.cells #[.slice none 0 0] 76)) w.heap.size (Qau [] (QaV ((xs.map LE.ent).take 0))):=⟨rfl,Sl.none,[],Blk.new w _ _,ES.nil _ _,rfl⟩
 have hsz0:w.heap.size<(w.alloc (.cells #[.slice none 0 0] 76)).heap.size:=by simp
 have HX0:=Lib.hid hx0
 have HM0:=Lib.hid hM0
 clear hx0 hM0
 generalize w.alloc (.cells #[.slice none 0 0] 76)=W0 at *
 go_loopw [6] (fun i wr=>∃ j:Nat,j≤xs.length∧i=.int .i64 j∧MapAt (fun b=>b=w.heap.size) wr w.heap.size (Qau [] (QaV ((xs.map LE.ent).take j)))∧Ext w wr∧w.heap.size<wr.heap.size) (fun i _=>xs.length - (intOf i).toNat)
 case atStart=>exact ⟨0,Nat.zero_le _,rfl,HM0.out,HX0.out,hsz0⟩
 obtain ⟨j,hj,rfl,hM,hX,hsz⟩:=hrel
 have HM:=Lib.hid hM
 have HX:=Lib.hid hX
 by_cases hlt:j<xs.length
 ·have hjl:(j:Int)<(xs.length:Int):=by omega
  obtain ⟨x,hxj⟩:∃ x,xs[j]? = some x:=⟨_,List.getElem?_eq_getElem hlt⟩
  obtain ⟨b,o,ha,hbl,hlc,hcm,k0,-,-,hks⟩:=(HS.out.agree (hX.agree HF.out)).at hxj
  obtain ⟨sa,sc⟩:=s
  dsimp only at ha hlc hcm
  subst ha
  have hbl:b<w.heap.size:=HF.out b hbl
  have hXe:(xs.map LE.ent)[j]? = some x.ent:=by rw [List.getElem?_map,hxj];rfl
  have HXE:=Lib.hid hXe
  have hlen:(Qau [] (QaV ((xs.map LE.ent).take j))).length≤1000000:=by
   have:=Qbh (QaV ((xs.map LE.ent).take j)) []
   simp only [QaV,List.length_map,List.length_take,List.length_nil] at this ⊢
   omega
  have hput:=Qg9 hM (fun b hb=>by omega) (QaE List.Pairwise.nil) hlen hks (v:=zeroV) (sl:=Sl.none) (so:=Sl.none) (RV.flat _ _ _ _ _ _ (by decide) (by decide) (by decide))
  have HPUT:=Lib.hid hput
  clear hM hX hxj hput hXe
  go_wp2_with fail
  refine HPUT.out.mono ?_
  rintro e w2 ⟨⟨r,rfl⟩,hm2,hst2⟩
  have HM2:=Lib.hid hm2
  have HST:=Lib.hid hst2
  clear hm2 hst2
  go_wp2_with fail
  go_roundw
  case rel=>exact ⟨j+1,hlt,by go_num,by rw [Qev HXE.out];exact HM2.out,HX.out.step HST.out (fun b hb=>by omega),Nat.lt_of_lt_of_le hsz HST.out.size⟩
  simp [intOf];omega
 obtain rfl:j=xs.length:=by omega
 have g1:¬(xs.length:Int)<(xs.length:Int):=by omega
 rw [List.take_of_length_le (by rw [List.length_map];exact Nat.le_refl _)] at HM
 obtain ⟨es1,hes1⟩:∃ es,Qau [] (QaV (xs.map LE.ent))=es:=⟨_,rfl⟩
 have hs1:Sorted es1:=by rw [←hes1];exact QaE List.Pairwise.nil
 have hl1:es1.length≤300000:=by
  have:=Qbh (QaV (xs.map LE.ent)) []
  rw [hes1] at this
  simp only [QaV,List.length_map,List.length_nil] at this
  omega
 rw [hes1] at HM
 have HES1:=Lib.hid hes1
 have HSO1:=Lib.hid hs1
 clear hM hX hes1 hs1
 obtain ⟨w4,hw4⟩:∃ w4,w4=wr:=⟨_,rfl⟩
 subst hw4
 go_wp2_with fail
 go_loopw [7] (fun i wr=>∃ j:Nat,j≤ys.length∧i=.int .i64 j∧MapAt (fun b=>b=w.heap.size) wr w.heap.size (Qau es1 (QaV ((ys.map LE.ent).take j)))∧Ext w wr∧w.heap.size<wr.heap.size) (fun i _=>ys.length - (intOf i).toNat)
 case atStart=>exact ⟨0,Nat.zero_le _,rfl,HM.out,HX.out,hsz⟩
 obtain ⟨j2,hj2,rfl,hM,hX,hsz⟩:=hrel
 have HM:=Lib.hid hM
 have HX:=Lib.hid hX
 by_cases hlt2:j2<ys.length
 ·have hjl:(j2:Int)<(ys.length:Int):=by omega
  obtain ⟨x,hxj⟩:∃ x,ys[j2]? = some x:=⟨_,List.getElem?_eq_getElem hlt2⟩
  obtain ⟨b,o,ha,hbl,hlc,hcm,k0,-,-,hks⟩:=(HS'.out.agree (hX.agree HF.out)).at hxj
  obtain ⟨sa,sc⟩:=s'
  dsimp only at ha hlc hcm
  subst ha
  have hbl:b<w.heap.size:=HF.out b hbl
  have hXe:(ys.map LE.ent)[j2]? = some x.ent:=by rw [List.getElem?_map,hxj];rfl
  have HXE:=Lib.hid hXe
  have hlen:(Qau es1 (QaV ((ys.map LE.ent).take j2))).length≤1000000:=by
   have:=Qbh (QaV ((ys.map LE.ent).take j2)) es1
   simp only [QaV,List.length_map,List.length_take] at this ⊢
   omega
  have hput:=Qg9 hM (fun b hb=>by omega) (QaE HSO1.out) hlen hks (v:=zeroV) (sl:=Sl.none) (so:=Sl.none) (RV.flat _ _ _ _ _ _ (by decide) (by decide) (by decide))
  have HPUT:=Lib.hid hput
  clear hM hX hxj hput hXe
  go_wp2_with fail
  refine HPUT.out.mono ?_
  rintro e w2 ⟨⟨r,rfl⟩,hm2,hst2⟩
  have HM2:=Lib.hid hm2
  have HST:=Lib.hid hst2
  clear hm2 hst2
  go_wp2_with fail
  go_roundw
  case rel=>exact ⟨j2+1,hlt2,by go_num,by rw [Qev HXE.out];exact HM2.out,HX.out.step HST.out (fun b hb=>by omega),Nat.lt_of_lt_of_le hsz HST.out.size⟩
  simp [intOf];omega
 obtain rfl:j2=ys.length:=by omega
 have g2:¬(ys.length:Int)<(ys.length:Int):=by omega
 rw [List.take_of_length_le (by rw [List.length_map];exact Nat.le_refl _)] at HM
 obtain ⟨-,sm,ms,hbm,hsm,hme⟩:=HM.out
 have hml:ms.length≤600000:=by
  have h1:=congrArg List.length hme
  have h2:=Qbh (QaV (ys.map LE.ent)) es1
  simp only [QaV,List.length_map] at h1 h2
  omega
 have HBM:=Lib.hid hbm
 have HSM:=Lib.hid hsm
 have HME:=Lib.hid hme
 clear hM hX hbm hsm hme
 obtain ⟨w5,hw5⟩:∃ w5,w5=wr:=⟨_,rfl⟩
 subst hw5
 go_wp2_with fail
 have hlx:w.heap.size<w5.heap.size:=hsz
 go_loopw [8,9] (fun v8 i wr=>∃ (j:Nat) (r:Sl) (zs:List CE),v8=.slice r.a zs.length r.c∧j≤ms.length∧i=.int .i64 j∧wr.ownsRow w5.heap.size 54 15 (.slice r.a zs.length r.c) zs.length (QbF zs)∧(∀ x∈zs,CR wr F x)∧zs.map CE.c=((ms.map LE.k).take j).filterMap (Qb8 (xs.map LE.ent) (ys.map LE.ent))∧zs.length≤j∧Ext w5 wr) (fun _ i _=>ms.length - (intOf i).toNat)
 case atStart=>exact ⟨0,Sl.none,[],rfl,Nat.zero_le _,rfl,World.ownsRow_nil _ _ _ _,fun x hx=>(by cases hx),rfl,Nat.le_refl _,Ext.refl _⟩
 obtain ⟨j3,r,zs,rfl,hj3,rfl,hown,hvz,hzs,hzl,hX5⟩:=hrel
 have HOWN:=Lib.hid hown
 have HVZ:=Lib.hid hvz
 have HZS:=Lib.hid hzs
 have HX5:=Lib.hid hX5
 have hbm:=HBM.out.ext hX5
 have cm:wr.cell? ⟨w.heap.size,0,none⟩=some (.slice sm.a ms.length sm.c):=hbm.cell 0
 have lm:=hbm.lt
 by_cases hlt3:j3<ms.length
 ·have hjl:(j3:Int)<(ms.length:Int):=by omega
  obtain ⟨x,hxj⟩:∃ x,ms[j3]? = some x:=⟨_,List.getElem?_eq_getElem hlt3⟩
  obtain ⟨b,o,ha,hbl,hlc,hcm,k0,-,-,hks⟩:=(HSM.out.agree (hX5.agree fun b hb=>hb.1)).at hxj
  obtain ⟨sa,sc⟩:=sm
  dsimp only at ha hlc hcm cm
  subst ha
  have lb:b<wr.heap.size:=Nat.lt_of_lt_of_le hbl.1 hX5.size
  have hXw:Ext w wr:=HX.out.trans hX5
  have hg1:=Qjs (HS.out.agree (hXw.agree HF.out)) (fun b hb=>Nat.lt_of_lt_of_le (HF.out b hb) hXw.size) x.k
  have hg2:=fun W (hW:Ext wr W)=>Qjs (HS'.out.agree ((hXw.trans hW).agree HF.out)) (fun b hb=>Nat.lt_of_lt_of_le (HF.out b hb) (hXw.trans hW).size) x.k
  have hkt:(ms.map LE.k).take (j3+1)=(ms.map LE.k).take j3++[x.k]:=by rw [List.take_add_one,List.getElem?_map,hxj];rfl
  have HKT:=Lib.hid hkt
  obtain ⟨v1,hv1⟩:∃ v,(QaD (xs.map LE.ent) x.k).getD zeroV=v:=⟨_,rfl⟩
  obtain ⟨b1,hb1⟩:∃ b,(QaD (xs.map LE.ent) x.k).isSome=b:=⟨_,rfl⟩
  obtain ⟨v2,hv2⟩:∃ v,(QaD (ys.map LE.ent) x.k).getD zeroV=v:=⟨_,rfl⟩
  obtain ⟨b2,hb2⟩:∃ b,(QaD (ys.map LE.ent) x.k).isSome=b:=⟨_,rfl⟩
  have HG1:=Lib.hid (show Calls Tryz.prog 88 #[.slice s.a xs.length s.c,.string x.k] wr (fun e w'=>∃ sl so,e=.returned (.tuple #[Qb5 v1 sl so,.bool b1])∧Ext wr w'∧RV w' F v1 sl so) from hg1.mono fun e w' ⟨sl,so,h1,h2,h3⟩=>⟨sl,so,by rw [h1,hv1,hb1],h2,by rw [←hv1];exact h3⟩)
  have HG2:=Lib.hid (show ∀ W,Ext wr W→Calls Tryz.prog 88 #[.slice s'.a ys.length s'.c,.string x.k] W (fun e w'=>∃ sl so,e=.returned (.tuple #[Qb5 v2 sl so,.bool b2])∧Ext W w'∧RV w' F v2 sl so) from fun W hW=>(hg2 W hW).mono fun e w' ⟨sl,so,h1,h2,h3⟩=>⟨sl,so,by rw [h1,hv2,hb2],h2,by rw [←hv2];exact h3⟩)
  have HDK:=Lib.hid (show Qb8 (xs.map LE.ent) (ys.map LE.ent) x.k=if b1≠b2∨Qbq v1 v2≠0 then some ⟨x.k,b1,v1,b2,v2⟩ else none by unfold Qb8;rw [hv1,hv2,hb1,hb2])
  have HXW:=Lib.hid hXw
  have HKM:=Lib.hid hks
  clear hown hvz hzs hX5 hbm hxj hg1 hg2 hkt hXw hv1 hb1 hv2 hb2 hks
  go_wp2_with fail
  refine HG1.out.mono ?_
  rintro e w6 ⟨sl,so,rfl,hx6,hr6⟩
  have hs6x:=hx6.size
  have hx6':=hx6.alloc #[.int .i64 v1.kind,.bool v1.b,.int .i64 v1.i,.string v1.t,.slice sl.a v1.l.length sl.c,.slice so.a v1.ok.length so.c] 44
  have HX6:=Lib.hid hx6'
  have HR6:=Lib.hid hr6
  have HB6:=Lib.hid (Blk.new w6 44 #[.int .i64 v1.kind,.bool v1.b,.int .i64 v1.i,.string v1.t,.slice sl.a v1.l.length sl.c,.slice so.a v1.ok.length so.c])
  have HA6:=Lib.hid ((Ext.refl w6).alloc #[.int .i64 v1.kind,.bool v1.b,.int .i64 v1.i,.string v1.t,.slice sl.a v1.l.length sl.c,.slice so.a v1.ok.length so.c] 44)
  clear hx6 hx6' hr6
  go_wp2_with fail
  refine (HG2.out _ HX6.out).mono ?_
  rintro e w7 ⟨sl',so',rfl,hx7,hr7⟩
  have hb7:=HB6.out.ext hx7
  obtain ⟨d0,d1,d2,d3,d4,d5⟩:=hb7.c6
  have ld:=hb7.lt
  have HX7:=Lib.hid (HX6.out.trans hx7)
  have hsw:=HXW.out.size
  have hx8:=hx7.alloc #[.int .i64 v2.kind,.bool v2.b,.int .i64 v2.i,.string v2.t,.slice sl'.a v2.l.length sl'.c,.slice so'.a v2.ok.length so'.c] 44
  have hs7x:=hx7.size
  have hsa6:=HA6.out.size
  have hs8:=hx8.size
  have hr68:=HR6.out.agree ((HA6.out.trans hx8).agree fun b hb=>by have:=HF.out b hb;omega)
  have hr78:=hr7.agree (((Ext.refl w7).alloc #[.int .i64 v2.kind,.bool v2.b,.int .i64 v2.i,.string v2.t,.slice sl'.a v2.l.length sl'.c,.slice so'.a v2.ok.length so'.c] 44).agree fun b hb=>by have:=HF.out b hb;omega)
  have hcmp:=Qdz _ v1 v2 (Nat.le_refl _) _ _ _ _ _ (hr68.mono fun i hi=>(show i<_ by have:=HF.out i hi;omega)) (hr78.mono fun i hi=>(show i<_ by have:=HF.out i hi;omega))
  have HCMP:=Lib.hid hcmp
  have HX8:=Lib.hid (HX6.out.trans hx8)
  have HX7b:=Lib.hid hx8
  have HR68:=Lib.hid hr68
  have HR78:=Lib.hid hr78
  clear hx7 hx8 hr7 hb7 hr68 hr78 hcmp
  by_cases hbb:b1=b2
  ·subst hbb
   have hbq:(b1 != b1)=false:=by simp
   go_wp2_with fail
   refine HCMP.out.mono ?_
   rintro e w9 ⟨rfl,hx9⟩
   have HX9:=Lib.hid hx9
   obtain ⟨f0,f1,f2,f3,f4,f5⟩:=((HB6.out.ext HX7b.out).ext hx9).c6
   have hb9:=(Blk.new w7 44 #[.int .i64 v2.kind,.bool v2.b,.int .i64 v2.i,.string v2.t,.slice sl'.a v2.l.length sl'.c,.slice so'.a v2.ok.length so'.c]).ext hx9
   obtain ⟨q0,q1,q2,q3,q4,q5⟩:=hb9.c6
   have lf:=((HB6.out.ext HX7b.out).ext hx9).lt
   have lq:=hb9.lt
   have hs9:=hx9.size
   clear hx9 hb9 d0 d1 d2 d3 d4 d5 ld
   by_cases hc:Qbq v1 v2=0
   ·have hcb:(Qbq v1 v2 != 0)=false:=by simp [hc]
    have HCC:=Lib.hid hc
    clear hc
    go_wp2_with fail
    go_roundw
    case rel=>
     have hE:=HX8.out.trans HX9.out
     refine ⟨j3+1,r,zs,rfl,hlt3,by go_num,Qad HOWN.out (hE.agree fun b (hb:b<wr.heap.size)=>hb) (fun b hb=>(Qac HOWN.out hb).2),fun y hy=>(HVZ.out y hy).agree (hE.agree fun b hb=>by have:=HF.out b hb;omega),?_,by omega,HX5.out.trans hE⟩
     rw [HZS.out,HKT.out,List.filterMap_append,List.filterMap_cons,HDK.out,if_neg (by simp [HCC.out])];simp
    simp [intOf];omega
   have hcb:(Qbq v1 v2 != 0)=true:=bne_iff_ne.2 hc
   have HCC:=Lib.hid hc
   clear hc
   have hxA:Ext wr w9:=HX8.out.trans HX9.out
   have HXA:=Lib.hid hxA
   have hnA:Ext w9 (w9.alloc (.cells (⟨⟨x.k,b1,v1,b1,v2⟩,sl,so,sl',so'⟩:CE).cells 54)):=(Ext.refl _).alloc _ _
   have HOX:=Lib.hid (Qad HOWN.out ((hxA.trans hnA).agree fun b (hb:b<wr.heap.size)=>hb) (fun b hb=>(Qac HOWN.out hb).2))
   have HBN:=Lib.hid (Blk.new w9 54 (⟨⟨x.k,b1,v1,b1,v2⟩,sl,so,sl',so'⟩:CE).cells)
   have HNA:=Lib.hid hnA
   have h63:zs.length+1≤maxLen:=by unfold maxLen;omega
   have hby:(zs.length+1)*208≤140737488355328:=by omega
   have hs5w:=HX5.out.size
   have hsA:=hxA.size
   have hbase:w5.heap.size≤(w9.alloc (.cells (⟨⟨x.k,b1,v1,b1,v2⟩,sl,so,sl',so'⟩:CE).cells 54)).heap.size:=by rw [World.size_alloc];omega
   have hone:=Qle (⟨⟨x.k,b1,v1,b1,v2⟩,sl,so,sl',so'⟩:CE)
   clear hxA hnA
   go_wp2_with (at_builtin;refine Qae _ rfl (.tmp 83) (.tmp 90) 78 rfl w5.heap.size 54 i0 _ 15 208 Tryz.underlying78 hi hz0 hz1 hz2 rfl (by decide) r zs.length (QbF zs) rfl HOX.out (fun b=>b=w9.heap.size) ⟨some ⟨w9.heap.size,0,none⟩,1⟩ 1 (⟨⟨x.k,b1,v1,b1,v2⟩,sl,so,sl',so'⟩:CE).cells.toList rfl (Rd.block HBN.out (by decide) rfl) hone h63 hby hbase ?_;intro r2 wA hownA hwrA hsA2;have HOA:=Lib.hid hownA;have HWA:=Lib.hid hwrA;clear hownA hwrA hsA2)
   go_roundw
   case rel=>
    have hrow:∀ b,r.row=some b→w5.heap.size≤b:=fun b hb=>(Qac HOWN.out hb).1
    have hE:Ext w5 wA:=((HX5.out.trans HXA.out).trans HNA.out).wr HWA.out hrow
    have hlo:∀ b,F b→b<w5.heap.size:=fun b hb=>by have:=HF.out b hb;omega
    have hEr:∀ y:CE,CR w9 F y→CR wA F y:=fun y hy=>(hy.agree (HNA.out.agree fun b hb=>by have:=HF.out b hb;omega)).agree (HWA.out.agree (F:=F) (fun i hi=>by have:=HF.out i hi;rw [World.size_alloc];omega) (fun i hi h=>by have:=hrow i hi;have:=HF.out i h;omega))
    refine ⟨j3+1,r2,zs++[(⟨⟨x.k,b1,v1,b1,v2⟩,sl,so,sl',so'⟩:CE)],by rw [List.length_append,List.length_singleton],hlt3,by go_num,?_,fun y hy=>?_,?_,by rw [List.length_append,List.length_singleton];omega,hE⟩
    ·rw [List.length_append,List.length_singleton,Qd2];exact HOA.out
    ·rcases List.mem_append.1 hy with hy | hy
     ·exact hEr y ((HVZ.out y hy).agree (HXA.out.agree fun b hb=>by have:=HF.out b hb;omega))
     obtain rfl:=List.mem_singleton.1 hy
     exact hEr _ ⟨HR68.out.agree (HX9.out.agree fun b hb=>by have:=HF.out b hb;omega),HR78.out.agree (HX9.out.agree fun b hb=>by have:=HF.out b hb;omega),HKM.out⟩
    rw [List.map_append,HZS.out,HKT.out,List.filterMap_append,List.filterMap_cons,HDK.out,if_pos (.inr HCC.out)];rfl
   simp [intOf];omega
  have hbq:(b1 != b2)=true:=bne_iff_ne.2 hbb
  have HBB:=Lib.hid hbb
  clear hbb
  have hxA:Ext wr (w7.alloc (.cells #[.int .i64 v2.kind,.bool v2.b,.int .i64 v2.i,.string v2.t,.slice sl'.a v2.l.length sl'.c,.slice so'.a v2.ok.length so'.c] 44)):=HX8.out
  have HXA:=Lib.hid hxA
  have hnA:Ext (w7.alloc (.cells #[.int .i64 v2.kind,.bool v2.b,.int .i64 v2.i,.string v2.t,.slice sl'.a v2.l.length sl'.c,.slice so'.a v2.ok.length so'.c] 44)) ((w7.alloc (.cells #[.int .i64 v2.kind,.bool v2.b,.int .i64 v2.i,.string v2.t,.slice sl'.a v2.l.length sl'.c,.slice so'.a v2.ok.length so'.c] 44)).alloc (.cells (⟨⟨x.k,b1,v1,b2,v2⟩,sl,so,sl',so'⟩:CE).cells 54)):=(Ext.refl _).alloc _ _
  have HOX:=Lib.hid (Qad HOWN.out ((hxA.trans hnA).agree fun b (hb:b<wr.heap.size)=>hb) (fun b hb=>(Qac HOWN.out hb).2))
  have HBN:=Lib.hid (show Blk ((w7.alloc (.cells #[.int .i64 v2.kind,.bool v2.b,.int .i64 v2.i,.string v2.t,.slice sl'.a v2.l.length sl'.c,.slice so'.a v2.ok.length so'.c] 44)).alloc (.cells (⟨⟨x.k,b1,v1,b2,v2⟩,sl,so,sl',so'⟩:CE).cells 54)) (w7.heap.size+1) 54 (⟨⟨x.k,b1,v1,b2,v2⟩,sl,so,sl',so'⟩:CE).cells by have:=Blk.new (w7.alloc (.cells #[.int .i64 v2.kind,.bool v2.b,.int .i64 v2.i,.string v2.t,.slice sl'.a v2.l.length sl'.c,.slice so'.a v2.ok.length so'.c] 44)) 54 (⟨⟨x.k,b1,v1,b2,v2⟩,sl,so,sl',so'⟩:CE).cells;rwa [World.size_alloc] at this)
  have HNA:=Lib.hid hnA
  have h63:zs.length+1≤maxLen:=by unfold maxLen;omega
  have hby:(zs.length+1)*208≤140737488355328:=by omega
  have hs5w:=HX5.out.size
  have hsA:=hxA.size
  have hbase:w5.heap.size≤((w7.alloc (.cells #[.int .i64 v2.kind,.bool v2.b,.int .i64 v2.i,.string v2.t,.slice sl'.a v2.l.length sl'.c,.slice so'.a v2.ok.length so'.c] 44)).alloc (.cells (⟨⟨x.k,b1,v1,b2,v2⟩,sl,so,sl',so'⟩:CE).cells 54)).heap.size:=by rw [World.size_alloc];omega
  have hone:=Qle (⟨⟨x.k,b1,v1,b2,v2⟩,sl,so,sl',so'⟩:CE)
  clear hxA hnA
  go_wp2_with (at_builtin;refine Qae _ rfl (.tmp 83) (.tmp 90) 78 rfl w5.heap.size 54 i0 _ 15 208 Tryz.underlying78 hi hz0 hz1 hz2 rfl (by decide) r zs.length (QbF zs) rfl HOX.out (fun b=>b=w7.heap.size+1) ⟨some ⟨w7.heap.size+1,0,none⟩,1⟩ 1 (⟨⟨x.k,b1,v1,b2,v2⟩,sl,so,sl',so'⟩:CE).cells.toList rfl (Rd.block HBN.out (by decide) rfl) hone h63 hby hbase ?_;intro r2 wA hownA hwrA hsA2;have HOA:=Lib.hid hownA;have HWA:=Lib.hid hwrA;clear hownA hwrA hsA2)
  go_roundw
  case rel=>
   have hrow:∀ b,r.row=some b→w5.heap.size≤b:=fun b hb=>(Qac HOWN.out hb).1
   have hE:Ext w5 wA:=((HX5.out.trans HXA.out).trans HNA.out).wr HWA.out hrow
   have hlo:∀ b,F b→b<w5.heap.size:=fun b hb=>by have:=HF.out b hb;omega
   have hEr:∀ y:CE,CR (w7.alloc (.cells #[.int .i64 v2.kind,.bool v2.b,.int .i64 v2.i,.string v2.t,.slice sl'.a v2.l.length sl'.c,.slice so'.a v2.ok.length so'.c] 44)) F y→CR wA F y:=fun y hy=>(hy.agree (HNA.out.agree fun b hb=>by have:=HF.out b hb;omega)).agree (HWA.out.agree (F:=F) (fun i hi=>by have:=HF.out i hi;rw [World.size_alloc];omega) (fun i hi h=>by have:=hrow i hi;have:=HF.out i h;omega))
   refine ⟨j3+1,r2,zs++[(⟨⟨x.k,b1,v1,b2,v2⟩,sl,so,sl',so'⟩:CE)],by rw [List.length_append,List.length_singleton],hlt3,by go_num,?_,fun y hy=>?_,?_,by rw [List.length_append,List.length_singleton];omega,hE⟩
   ·rw [List.length_append,List.length_singleton,Qd2];exact HOA.out
   ·rcases List.mem_append.1 hy with hy | hy
    ·exact hEr y ((HVZ.out y hy).agree (HXA.out.agree fun b hb=>by have:=HF.out b hb;omega))
    obtain rfl:=List.mem_singleton.1 hy
    exact hEr _ ⟨HR68.out,HR78.out,HKM.out⟩
   rw [List.map_append,HZS.out,HKT.out,List.filterMap_append,List.filterMap_cons,HDK.out,if_pos (.inl HBB.out)];rfl
  simp [intOf];omega
 obtain rfl:j3=ms.length:=by omega
 have HK3:=Lib.hid (List.take_of_length_le (l:=ms.map LE.k) (i:=ms.length) (by simp))
 clear hown hvz hzs hX5 hbm
 go_wp2_with fail
 go_ret
 refine ⟨r,zs,rfl,?_,HX.out.trans HX5.out,?_⟩
 ·rw [HZS.out,HK3.out,QoT,HES1.out,←HME.out,List.map_map];rfl
 have:=HX.out.trans HX5.out
 exact ⟨(Rd.Qav HOWN.out).mono fun i hi=>.inr ⟨by have:=hi.1;omega,hi.2⟩,fun x hx=>(HVZ.out x hx).mono fun i hi=>.inl hi,by omega⟩
end Go.Proofs.YtohajcflklejjaaGreat
namespace Go.Proofs.YtohajcflklejjaaGreat
open Go.RowKit
set_option linter.unusedVariables false
def Qo4 (a b:Option Val):Bool:=decide (a.isSome≠b.isSome) || decide (Qbq (a.getD zeroV) (b.getD zeroV)≠0)
def QnY (fa fb:ByteArray→Option Val) (k:ByteArray):Option Chg:=if Qo4 (fa k) (fb k) then some ⟨k,(fa k).isSome,(fa k).getD zeroV,(fb k).isSome,(fb k).getD zeroV⟩ else none
theorem QmN (a b:List Ent) (k:ByteArray):Qb8 a b k=QnY (QaD a) (QaD b) k:=by
 unfold Qb8 QnY Qo4
 simp only [Bool.or_eq_true,decide_eq_true_eq]
def QoH (a b:List Ent):List ByteArray:=(Qau (Qau [] (QaV a)) (QaV b)).map Prod.fst
theorem Qfe {a b:List Ent} (ha:Sorted a) (hb:Sorted b):chg a b=(QoH a b).filterMap (QnY (QaD a) (QaD b)):=by
 rw [Qiz ha hb]
 exact QaU fun x _=>QmN a b x
end Go.Proofs.YtohajcflklejjaaGreat
namespace Go.Proofs.YtohajcflklejjaaGreat
open Go.RowKit Go.Shelf
set_option linter.unusedVariables false
set_option linter.unusedSimpArgs false
theorem QnE {W:World} {b p:Nat} {x:CE} (h:∀ c u,x.cells.toList[c]? = some u→W.cell? ⟨b,p+c,none⟩=some u) :
  W.cell? ⟨b,p,none⟩=some (.string x.c.k)∧W.cell? ⟨b,p+1,none⟩=some (.bool x.c.had)∧W.cell? ⟨b,p+2,none⟩=some (.int .i64 x.c.was.kind)∧W.cell? ⟨b,p+3,none⟩=some (.bool x.c.was.b)∧W.cell? ⟨b,p+4,none⟩=some (.int .i64 x.c.was.i)∧W.cell? ⟨b,p+5,none⟩=some (.string x.c.was.t)∧W.cell? ⟨b,p+6,none⟩=some (.slice x.slw.a x.c.was.l.length x.slw.c)∧W.cell? ⟨b,p+7,none⟩=some (.slice x.sow.a x.c.was.ok.length x.sow.c)∧
   W.cell? ⟨b,p+8,none⟩=some (.bool x.c.has)∧W.cell? ⟨b,p+9,none⟩=some (.int .i64 x.c.is_.kind)∧W.cell? ⟨b,p+10,none⟩=some (.bool x.c.is_.b)∧W.cell? ⟨b,p+11,none⟩=some (.int .i64 x.c.is_.i)∧W.cell? ⟨b,p+12,none⟩=some (.string x.c.is_.t)∧W.cell? ⟨b,p+13,none⟩=some (.slice x.sli.a x.c.is_.l.length x.sli.c)∧W.cell? ⟨b,p+14,none⟩=some (.slice x.soi.a x.c.is_.ok.length x.soi.c):=
 ⟨h 0 _ rfl,h 1 _ rfl,h 2 _ rfl,h 3 _ rfl,h 4 _ rfl,h 5 _ rfl,h 6 _ rfl,h 7 _ rfl,h 8 _ rfl,h 9 _ rfl,h 10 _ rfl,h 11 _ rfl,h 12 _ rfl,h 13 _ rfl,h 14 _ rfl⟩
end Go.Proofs.YtohajcflklejjaaGreat
namespace Go.Proofs.YtohajcflklejjaaGreat
open Go.RowKit
set_option linter.unusedVariables false
section
variable {P : Program} {ops : Array Oper} {Q : Exit → Act → World → Prop} {md : Region.Mode} {S : World → Prop}
theorem Qkc {i j k:Nat} {oi oj ok:Oper} {fuel:Nat} {listed:Array Bool} {a:Act} {w:World} (hr:Region.ready md ops listed=[i,j,k]) (hi:ops[i]? = some oi) (hj:ops[j]? = some oj) (hk:ops[k]? = some ok) (hw:Region.wanted oi (yielded ops a.tmps)=true) (hv:Region.wanted oj (yielded ops a.tmps)=true) (hu:Region.wanted ok (yielded ops a.tmps)=true)
  (h:∀ K':Act→World→Prop,Shut (∀ a w,S w→(S w→wpAnyH P md ops Q S fuel (listed.setIfInBounds i true) a w)→K' a w)→Oper.wp P oi a w K' Q)
  (h':∀ K':Act→World→Prop,Shut (∀ a w,S w→(S w→wpAnyH P md ops Q S fuel (listed.setIfInBounds j true) a w)→K' a w)→Oper.wp P oj a w K' Q)
  (h'':∀ K':Act→World→Prop,Shut (∀ a w,S w→(S w→wpAnyH P md ops Q S fuel (listed.setIfInBounds k true) a w)→K' a w)→Oper.wp P ok a w K' Q):wpAnyH P md ops Q S (fuel+1) listed a w:=
 wpAnyH_ready hr (by simp) (AllReadyH.cons hi (fun K' hK=>by rw [if_pos hw];exact h K' hK) (AllReadyH.cons hj (fun K' hK=>by rw [if_pos hv];exact h' K' hK) (AllReadyH.cons hk (fun K' hK=>by rw [if_pos hu];exact h'' K' hK) AllReadyH.nil)))
end
def QoP (R:Act→World→Prop):Exit→Act→World→Prop
 | .normal,a,w=>R a w
 | _,_,_=>False
theorem QjG {R:Act→World→Prop} {a:Act} {w:World} (h:R a w):QoP R .normal a w:=h
theorem QgH {F:Fence} {n:Nat} {P:Program} {c:Code} {Q:Exit→Act→World→Prop} {a:Act} {w:World} (h:c.wpIn F n P (QoP (Q .normal)) a w):c.wpIn F n P Q a w:=
 wpIn_mono h fun e a w h=>by cases e <;> first | exact h | exact h.elim
abbrev QeW:List Value:=[.string ByteArray.empty,.int .i64 0,.bool false,.int .i64 0,.string ByteArray.empty,.slice none 0 0,.slice none 0 0]
theorem row_zero {w5:World} {base n:Nat} {s3:Sl} {A:List Value} (h:w5.ownsRow base 47 7 (.slice s3.a (n+1) s3.c) (n+1) (A++QeW)) (hA:A.length=n*7) :
  ∃ g cap,s3=⟨some ⟨g,0,none⟩,cap⟩∧base≤g∧n+1≤cap∧cap≤maxLen∧g<w5.heap.size∧(∀ o,w5.frozen? ⟨g,o,none⟩=false)∧w5.cell? ⟨g,n*7,none⟩=some (.string ByteArray.empty)∧w5.cell? ⟨g,n*7+1,none⟩=some (.int .i64 0)∧w5.cell? ⟨g,n*7+2,none⟩=some (.bool false)∧
   w5.cell? ⟨g,n*7+3,none⟩=some (.int .i64 0)∧w5.cell? ⟨g,n*7+4,none⟩=some (.string ByteArray.empty)∧w5.cell? ⟨g,n*7+5,none⟩=some (.slice none 0 0)∧w5.cell? ⟨g,n*7+6,none⟩=some (.slice none 0 0):=by
 obtain ⟨g,cap,rfl,hbg,hnc,hcm,hfil⟩:=Qat h (Nat.succ_pos n)
 have hcl:=h.cells (g:=g) rfl
 have e:∀ c u,QeW[c]? = some u→w5.cell? ⟨g,n*7+c,none⟩=some u:=fun c u hu=>by
  have:=hcl (n*7+c) u (by rw [List.getElem?_append_right (by omega),hA,Nat.add_sub_cancel_left];exact hu)
  rwa [Qbb,Nat.zero_add] at this
 exact ⟨g,cap,rfl,hbg,hnc,hcm,hfil.lt,hfil.frozen,e 0 _ rfl,e 1 _ rfl,e 2 _ rfl,e 3 _ rfl,e 4 _ rfl,e 5 _ rfl,e 6 _ rfl⟩
section
variable {w W0 W3 W4 w5 : World} {B g cap : Nat} {s : Sl} {ys : List LE} {es : List Ent} {x : LE}
def QkT (w W3:World) (B:Nat) (s:Sl) (es:List Ent) (W':World):Prop:=
 ∃ C',Coll w B es C' W'∧St (fun b=>b=B∨s.row=some b) W3 W'∧(∀ b,C' b→(b=B∨s.row=some b)∨W3.heap.size≤b)∧(∀ b,C' b→b<W'.heap.size)
theorem QaI (hB:B<w.heap.size) (hblk:Blk W0 B 50 #[.slice s.a ys.length s.c]) (ho:OE W0 (w.heap.size+2) s ys) (hes:ys.map LE.ent=es) (hst:St (fun b=>b=B) w W0) (hsz:w.heap.size+2≤W0.heap.size)
  (h03:St (fun b=>b=w.heap.size+1) W0 W3) (hv:RV W3 (In W0.heap.size W3.heap.size) x.v x.sl x.so) (hk:x.k.size≤maxLen) (h34:Ext W3 W4) (hwr:Wr W4 w5 s.row) (hs3:(⟨some ⟨g,0,none⟩,cap⟩:Sl).a=s.a∨(⟨some ⟨g,0,none⟩,cap⟩:Sl).a=some ⟨W4.heap.size,0,none⟩∧Wr W4 w5 none) (hfew:(ys.length+1)*104≤140737488355328)
  (hown:w5.ownsRow (w.heap.size+2) 47 7 (.slice (some ⟨g,0,none⟩) (ys.length+1) cap) (ys.length+1) (Qaf ys++QeW)) :
  QkT w W3 B s (es++[x.ent]) ((Qcm w5 g (ys.length*7) x.k x.v x.sl x.so).setCell ⟨B,0,none⟩ (.slice (some ⟨g,0,none⟩) (ys.length+1) cap))∧QkT w W3 B s (es++[x.ent]) (Qcm (w5.setCell ⟨B,0,none⟩ (.slice (some ⟨g,0,none⟩) (ys.length+1) cap)) g (ys.length*7) x.k x.v x.sl x.so):=by
 have hrow0:∀ b,s.row=some b→w.heap.size+2≤b∧b<W0.heap.size:=fun b hb=>Qac ho.own hb
 have hBg:w.heap.size+2≤g:=(Qac (s:=⟨some ⟨g,0,none⟩,cap⟩) hown rfl).1
 have hBg5:g<w5.heap.size:=(Qac (s:=⟨some ⟨g,0,none⟩,cap⟩) hown rfl).2
 have hB5:Blk w5 B 50 #[.slice s.a ys.length s.c]:=(hwr.st (H:=fun b=>s.row=some b) fun i hi=>hi).blk ((h03.blk hblk (by omega)).ext h34) (fun e=>by have:=(hrow0 B e).1;omega)
 have hset:∀ W,St (fun b=>b=B) W (W.setCell ⟨B,0,none⟩ (.slice (some ⟨g,0,none⟩) (ys.length+1) cap)):=fun W=>(St.refl (fun b=>b=B) W).set (p:=⟨B,0,none⟩) (.inr rfl) _
 have hput:∀ W,St (fun b=>b=g) W (Qcm W g (ys.length*7) x.k x.v x.sl x.so):=fun W=>St.Qcm (H:=fun b=>b=g) (b:=g) (St.refl _ W) (.inr rfl) _ _ _ _ _
 have hl:(Qaf ys).length=ys.length*7:=QaK ys
 constructor
 ·have hown1:=Qgs (s:=⟨some ⟨g,0,none⟩,cap⟩) (QjI hown hl x) ((hset (Qcm w5 g (ys.length*7) x.k x.v x.sl x.so)).agree.mono fun i hi=>⟨hi.2,by have:=hi.1;omega⟩)
  obtain ⟨e1,e2,e3,e4⟩:=Qjf (s3:=⟨some ⟨g,0,none⟩,cap⟩) (W':=(Qcm w5 g (ys.length*7) x.k x.v x.sl x.so).setCell ⟨B,0,none⟩ (.slice (some ⟨g,0,none⟩) (ys.length+1) cap)) hB ho hes hst hsz h03 hv hk h34 hwr hs3
   (((hput w5).mono fun i _ hi=>.inr (by rw [hi];rfl)).trans ((hset _).mono fun i _ hi=>.inl hi)) hfew (((hput w5).blk hB5 (by omega)).QaN 0 _) hown1
  exact ⟨_,e1,e2,e3,e4⟩
 have hown1:=QjI (Qgs (s:=⟨some ⟨g,0,none⟩,cap⟩) hown ((hset w5).agree.mono fun i hi=>⟨hi.2,by have:=hi.1;omega⟩)) hl x
 obtain ⟨e1,e2,e3,e4⟩:=Qjf (s3:=⟨some ⟨g,0,none⟩,cap⟩) (W':=Qcm (w5.setCell ⟨B,0,none⟩ (.slice (some ⟨g,0,none⟩) (ys.length+1) cap)) g (ys.length*7) x.k x.v x.sl x.so) hB ho hes hst hsz h03 hv hk h34 hwr hs3
  (((hset w5).mono fun i _ hi=>.inl hi).trans ((hput _).mono fun i _ hi=>.inr (by rw [hi];rfl))) hfew ((hput _).blk (hB5.QaN 0 _) (by omega)) hown1
 exact ⟨_,e1,e2,e3,e4⟩
end
def Qbx (f:FuncId):Op→Bool
 | .call c=>match c.callee with
   | .value (.func k)=>k == f
   | _=>Qa7 (.call c)
 | o=>Qa7 o
theorem Qky {P:Program} {f:FuncId} (eg:∀ args w,(callFunc f args).run P w=.ok (.enter f args) w) {a:Act} {o:Oper} {w w':World} (h:Qbx f o.op=true) (row:String) (args:Array Value):(execOp a.eval o).run P w≠.ok (.row row args) w':=by
 cases hd:Qa7 o.op with
 | true=>exact Qgt hd row args
 | false=>
   cases ho:o.op with
   | call c=>
     rw [ho] at h hd
     cases hc:c.callee with
     | value v=>
       cases v with
       | func k=>
         simp only [Qbx,hc] at h
         obtain rfl:k=f:=by simpa using h
         unfold execOp
         intro h'
         simp [ho,resolve,hc,Act.eval,invoke,go_sem,eg] at h'
       | _=>
         simp only [Qbx,hc] at h
         rw [hd] at h;cases h
     | _=>
       simp only [Qbx,hc] at h
       rw [hd] at h;cases h
   | _=>
     rw [ho] at h hd
     simp only [Qbx] at h
     rw [hd] at h;cases h
theorem QfE {f:FuncId} {o:Oper} (h:Qbx f o.op=true):∀ c,o.op≠.defer c:=fun c e=>by rw [e] at h;simp [Qbx,Qa7] at h
theorem QeV {P:Program} {f:FuncId} (eg:∀ args w,(callFunc f args).run P w=.ok (.enter f args) w) {ops:Array Oper} {Q:Exit→Act→World→Prop} {l n:Nat} (hp:∀ (i:Nat) (o:Oper),ops[i]? = some o→Qbx f o.op=true) (hQ:¬LetsOut Q) {i:Nat} {K K':Act→World→Prop} {a:Act} {w:World}
  (hK:∀ a w,K a w→K' a w) (h:wpOp P ops Q i K a w):wpOpIn (Fence.wide.inRound l) n P ops Q i K' a w:=by
 unfold wpOp at h
 unfold wpOpIn
 cases ho:ops[i]? with
 | none=>simp only [ho] at h ⊢;exact hK _ _ h
 | some o=>
   simp only [ho] at h ⊢
   split at h
   ·rename_i hw
    rw [if_pos hw]
    rcases h with h | ⟨-,h⟩
    ·unfold Oper.wpIn
     refine ⟨fun _ _=>trivial,?_⟩
     rw [show (Fence.wide.inRound l).round=some l from rfl,Oper.semAt_some l _ o (QfE (hp i o ho))]
     unfold Oper.wp at h
     have hr:=fun row args w'=>Qky (P:=P) eg (a:=a) (w:=w) (w':=w') (hp i o ho) row args
     generalize (execOp a.eval o).run P w=r at *
     cases r with
     | ok x w'=>
       cases x <;> simp only [Oper.upon,Oper.uponIn] at h ⊢
       case value v=>exact hK _ _ h
       case skip=>exact hK _ _ h
       case defer d=>exact hK _ _ h
       case enter f args=>
        refine ⟨(fun hd=>by simp [Fence.wide] at hd),(CallsIn.inRound l (callsIn_wide.2 h)).mono fun e w'' he=>?_⟩
        cases e with
        | returned v=>exact hK _ _ he
        | panicked c=>exact he
        | outgrown=>exact he
       case row row args=>exact absurd rfl (hr row args w')
     | halt x w'=>cases x <;> simp only [Oper.upon,Oper.uponIn] at h ⊢ <;> exact h
    exact absurd h hQ
   rename_i hw
   rw [if_neg hw]
   exact ⟨fun _ _=>trivial,hK _ _ h⟩
theorem Qeg {P:Program} {f:FuncId} (eg:∀ args w,(callFunc f args).run P w=.ok (.enter f args) w) {md:Region.Mode} {ops:Array Oper} {Q:Exit→Act→World→Prop} {S:World→Prop} {l n:Nat} (hp:∀ (i:Nat) (o:Oper),ops[i]? = some o→Qbx f o.op=true) (hQ:¬LetsOut Q) :
  ∀ fuel listed a w,wpAnyH P md ops Q S fuel listed a w→wpAnyIn (Fence.wide.inRound l) n P md ops Q fuel listed a w:=by
 intro fuel
 induction fuel with
 | zero=>exact fun _ _ _ h=>h
 | succ fuel ih=>
   intro listed a w h
   exact ⟨h.1,fun i hi=>QeV eg hp hQ (fun a' w' h'=>ih _ a' w' h'.2) (h.2 i hi)⟩
theorem QdW {P:Program} {f:FuncId} (eg:∀ args w,(callFunc f args).run P w=.ok (.enter f args) w) {id l n:Nat} {ops:Array Oper} {Q:Exit→Act→World→Prop} {S:World→Prop} {a:Act} {w:World} (hp:(ops.all fun o=>Qbx f o.op)=true) (hQ:¬LetsOut Q) (hm:P.follows .mixedOrders=true) (hS:S w.drew)
  (h:S w.drew→wpAnyH P .any ops Q S ops.size (Array.replicate ops.size false) a w.drew):(Code.region id ops true).wpIn (Fence.wide.inRound l) n P Q a w:=
 wpIn_region_any hm (Qeg eg (fun i o ho=>by
  have:=Array.all_eq_true.1 hp i (Array.getElem?_eq_some_iff.1 ho).1
  rwa [(Array.getElem?_eq_some_iff.1 ho).2] at this) hQ _ _ _ _ (h hS))
end Go.Proofs.YtohajcflklejjaaGreat
namespace Go.Proofs.YtohajcflklejjaaGreat
open Go.RowKit
set_option linter.unusedVariables false
set_option linter.unusedSimpArgs false
instance : Inhabited CE := ⟨⟨⟨ByteArray.empty, false, default, false, default⟩, Sl.none, Sl.none, Sl.none, Sl.none⟩⟩
structure Qy where
 kind:Int
 lo:ByteArray
 hi:ByteArray
 op:Bool
abbrev Qy.v (q:Qy):Value:=.agg #[.int .i64 q.kind,.string q.lo,.string q.hi,.bool q.op]
def Qd4 (q:Qy):Int:=if q.kind=1 then (if q.hi.toList=[]∧q.op=false then 0 else 2) else if q.kind=2 then (if q.op=true∧¬q.hi.toList=[] then 2 else 0) else 2
theorem Qfw {l:List UInt8} (h:¬l=[]):l.isEmpty=false:=by cases l with | nil=>exact absurd rfl h | cons a l=>rfl
theorem QnK (q:Qy):∃ kd lo hi op,q=⟨kd,lo,hi,op⟩∧(kd=1∨kd=2∨(¬kd=1∧¬kd=2))∧(hi.toList=[]∨¬hi.toList=[])∧(op=true∨op=false):=by
 obtain ⟨kd,lo,hi,op⟩:=q
 exact ⟨kd,lo,hi,op,rfl,by by_cases h:kd=1 <;> by_cases h':kd=2 <;> simp [h,h'],Classical.em _,by cases op <;> simp⟩
theorem QlT (q:Qy) (w:World):Calls Tryz.prog 11 #[q.v] w fun e w'=>e=.returned (.int .i64 (Qd4 q))∧Ext w w':=by
 obtain ⟨kd,lo,hi,op,rfl,rfl | rfl | ⟨h1,h2⟩,hh | hh,rfl | rfl⟩:=QnK q
 all_goals
  try have g1:(kd == 1)=false:=beq_eq_false_iff_ne.2 h1
  try have g2:(kd == 2)=false:=beq_eq_false_iff_ne.2 h2
  try have g3:=Qfw hh
  try have g4:hi.toList.isEmpty=true:=by rw [hh];rfl
  go_enter Tryz.func11,Tryz.ntmps11
  go_wp2
  go_ret
  exact ⟨by simp [Qd4, *],(Ext.refl w).alloc _ _⟩
theorem Qez (q:Qy) (w:World):Calls Tryz.prog 12 #[q.v] w fun e w'=>e=.returned (.int .i64 (Qd4 q))∧Ext w w':=by
 obtain ⟨kd,lo,hi,op,rfl,rfl | rfl | ⟨h1,h2⟩,hh | hh,rfl | rfl⟩:=QnK q
 all_goals
  try have g1:(kd == 1)=false:=beq_eq_false_iff_ne.2 h1
  try have g2:(kd == 2)=false:=beq_eq_false_iff_ne.2 h2
  try have g3:=Qfw hh
  try have g4:hi.toList.isEmpty=true:=by rw [hh];rfl
  try have g5:kd<1∨2<kd:=by omega
  try rcases g5 with g5 | g5
  all_goals
   try have g6:¬kd<1:=by omega
   go_enter Tryz.func12,Tryz.ntmps12
   go_wp2
   go_ret
   exact ⟨by simp [Qd4, *],(Ext.refl w).alloc _ _⟩
abbrev Qmt (k p:ByteArray):Bool:=p.toList.isPrefixOf k.toList
theorem QmF {k p:ByteArray} (h:¬p.size≤k.size):Qmt k p=false:=by
 cases hpre:Qmt k p with
 | true=>
   have:=(List.isPrefixOf_iff_prefix.1 hpre).length_le
   rw [Qay,Qay] at this
   omega
 | false=>rfl
theorem Qk8 {k p:ByteArray} {j:Nat} (hk:j<k.size) (hp:j<p.size) (h:p.toList.take j=k.toList.take j):(p[j]=k[j]→p.toList.take (j+1)=k.toList.take (j+1))∧(p[j]≠k[j]→Qmt k p=false):=by
 have h1:=QcL hk
 have h2:=QcL hp
 refine ⟨fun e=>by rw [List.take_add_one,List.take_add_one,h,h1,h2,e],fun ne=>?_⟩
 cases hpre:Qmt k p with
 | true=>
   exfalso
   obtain ⟨t,ht⟩:=List.isPrefixOf_iff_prefix.1 hpre
   have:k.toList[j]? = p.toList[j]?:=by
    rw [←ht,List.getElem?_append_left (by rw [Qay];exact hp)]
   rw [h1,h2] at this
   injection this with e
   exact ne e.symm
 | false=>rfl
theorem Qiw (w:World) (k p:ByteArray) (hk:k.size≤maxLen) (hp:p.size≤maxLen):Calls Tryz.prog 43 #[.string k,.string p] w fun e w'=>e=.returned (.bool (Qmt k p))∧Ext w w':=by
 unfold maxLen at hk hp
 by_cases h:p.size≤k.size
 ·have g1:¬(k.size:Int)<(p.size:Int):=by omega
  go_enter Tryz.func43,Tryz.ntmps43
  go_wp2_with fail
  go_loopw [5] (fun i wr=>∃ (j:Nat),j≤p.size∧i=.int .i64 j∧p.toList.take j=k.toList.take j∧Ext w wr) (fun i _=>p.size - (intOf i).toNat)
  case atStart=>exact ⟨0,Nat.zero_le _,rfl,rfl,Ext.refl w⟩
  obtain ⟨j,hj,rfl,ht,hX⟩:=hrel
  have HT:=Lib.hid ht
  have HX:=Lib.hid hX
  by_cases hlt:j<p.size
  ·have g2:(j:Int)<(p.size:Int):=by omega
   have g3:(j:Int)<(k.size:Int):=by omega
   have HD:=Lib.hid (Qk8 (k:=k) (p:=p) (j:=j) (by omega) hlt ht)
   clear ht hX
   go_wp2_with fail
   go_quiet (fail)
   go_wp2_with fail
   case _=>
    have hne:(((k[j].toNat:Nat):Int) != ((p[j].toNat:Nat):Int))=true:=by assumption
    have hne':p[j]≠k[j]:=fun e=>by rw [e] at hne;simp at hne
    rw [HD.out.2 hne']
    go_ret
    exact ⟨rfl,HX.out.drewN _⟩
   case roundEnd=>
    have hne:(((k[j].toNat:Nat):Int) != ((p[j].toNat:Nat):Int))=false:=by assumption
    have he:p[j]=k[j]:=UInt8.toNat_inj.1 (by have h:=bne_eq_false_iff_eq.1 hne;omega)
    exact ⟨⟨j+1,hlt,by simp,HD.out.1 he,HX.out.drewN _⟩,by simp [intOf];omega⟩
  have g2:¬(j:Int)<(p.size:Int):=by omega
  obtain rfl:j=p.size:=by omega
  have hp':Qmt k p=true:=List.isPrefixOf_iff_prefix.2 (List.prefix_iff_eq_take.2 (by rw [Qay,←ht,List.take_of_length_le (by rw [Qay];exact Nat.le_refl _)]))
  have HP:=Lib.hid hp'
  clear ht hX hp'
  go_wp2_with fail
  go_ret
  rw [HP.out]
  exact ⟨rfl,HX.out⟩
 have g1:(k.size:Int)<(p.size:Int):=by omega
 rw [QmF h]
 go_enter Tryz.func43,Tryz.ntmps43
 go_wp2_with fail
 go_ret
 exact ⟨rfl,Ext.refl w⟩
def Qbv (k lo hi:ByteArray) (op:Bool):Bool:=!(klt k lo) && (op || klt k hi)
theorem Qf1 (w:World) (k lo hi:ByteArray) (op:Bool):Calls Tryz.prog 42 #[.string k,.string lo,.string hi,.bool op] w fun e w'=>e=.returned (.bool (Qbv k lo hi op))∧w=w':=by
 cases op
 all_goals
  go_enter Tryz.func42,Tryz.ntmps42
  go_wp2_with fail
  all_goals
   go_ret
   exact ⟨by simp [Qbv,klt, *],rfl⟩
theorem Qi6 (w:World) (k lo hi:ByteArray) (op:Bool):Calls Tryz.prog 44 #[.string k,.string lo,.string hi,.bool op] w fun e w'=>e=.returned (.bool (Qbv k lo hi op))∧w=w':=by
 cases op
 all_goals
  go_enter Tryz.func44,Tryz.ntmps44
  go_wp2_with fail
  all_goals
   go_ret
   exact ⟨by simp [Qbv,klt, *],rfl⟩
def inQ (q:Qy) (k:ByteArray):Bool:=if Qd4 q=0 then (if q.kind=1 then Qmt k q.lo else Qbv k q.lo q.hi q.op) else false
def Qy.short (q:Qy):Prop:=q.lo.size≤maxLen∧q.hi.size≤maxLen
theorem QhY {q:Qy} (h:Qd4 q=0):q.kind=1∨q.kind=2:=by
 by_cases h1:q.kind=1
 ·exact .inl h1
 by_cases h2:q.kind=2
 ·exact .inr h2
 simp [Qd4,h1,h2] at h
theorem QfI (q:Qy) (k:ByteArray) (hq:q.short) (hk:k.size≤maxLen) (w:World):Calls Tryz.prog 14 #[q.v,.string k] w fun e w'=>e=.returned (.bool (inQ q k))∧Ext w w':=by
 have hm:=fun W=>Qez q W
 have hb:=fun W=>Qiw W k q.lo hk hq.1
 have hw:=fun W=>Qi6 W k q.lo q.hi q.op
 obtain ⟨m,hmq⟩:∃ m,Qd4 q=m:=⟨_,rfl⟩
 have HK:=Lib.hid (fun h=>QhY (q:=q) h)
 have hI:inQ q k=if m=0 then (if q.kind=1 then Qmt k q.lo else Qbv k q.lo q.hi q.op) else false:=by rw [inQ,hmq]
 rw [hI]
 rw [hmq] at hm HK
 obtain ⟨kd,lo,hi,op⟩:=q
 dsimp only at hb hw HK hI ⊢
 generalize Qmt k lo=bb at *
 generalize Qbv k lo hi op=wb at *
 clear hI hmq
 have hx0:∀ c t,Ext w (w.alloc (.cells c t)):=fun c t=>(Ext.refl w).alloc _ _
 by_cases hm0:m=0
 ·subst hm0
  rcases HK.out rfl with rfl | rfl
  ·go_enter Tryz.func14,Tryz.ntmps14
   go_wp2_with fail
   refine (hm _).mono ?_
   rintro e w1 ⟨rfl,hx1⟩
   have hb1:=(Blk.new w 24 #[.int .i64 1,.string lo,.string hi,.bool op]).ext hx1
   have c0:w1.cell? ⟨w.heap.size,0,none⟩=some (.int .i64 1):=hb1.cell 0
   have c1:w1.cell? ⟨w.heap.size,1,none⟩=some (.string lo):=hb1.cell 1
   have HX1:=Lib.hid ((hx0 _ _).trans hx1)
   clear hx1 hb1
   go_wp2_with fail
   refine (hb w1).mono ?_
   rintro e w2 ⟨rfl,hx2⟩
   have HX2:=Lib.hid (HX1.out.trans hx2)
   clear hx2
   go_wp2_with fail
   go_ret
   exact ⟨by simp,HX2.out⟩
  go_enter Tryz.func14,Tryz.ntmps14
  go_wp2_with fail
  refine (hm _).mono ?_
  rintro e w1 ⟨rfl,hx1⟩
  have hb1:=(Blk.new w 24 #[.int .i64 2,.string lo,.string hi,.bool op]).ext hx1
  have c0:w1.cell? ⟨w.heap.size,0,none⟩=some (.int .i64 2):=hb1.cell 0
  have c1:w1.cell? ⟨w.heap.size,1,none⟩=some (.string lo):=hb1.cell 1
  have c2:w1.cell? ⟨w.heap.size,2,none⟩=some (.string hi):=hb1.cell 2
  have c3:w1.cell? ⟨w.heap.size,3,none⟩=some (.bool op):=hb1.cell 3
  have HX1:=Lib.hid ((hx0 _ _).trans hx1)
  clear hx1 hb1
  go_wp2_with fail
  refine (hw w1).mono ?_
  rintro e w2 ⟨rfl,rfl⟩
  go_wp2_with fail
  go_ret
  exact ⟨by simp,HX1.out⟩
 have g:(m != 0)=true:=by simp [hm0]
 go_enter Tryz.func14,Tryz.ntmps14
 go_wp2_with fail
 refine (hm _).mono ?_
 rintro e w1 ⟨rfl,hx1⟩
 have HX1:=Lib.hid ((hx0 _ _).trans hx1)
 clear hx1
 go_wp2_with fail
 go_ret
 exact ⟨by simp [hm0],HX1.out⟩
structure Iv where
 lo:ByteArray
 hi:ByteArray
 op:Bool
abbrev Iv.v (s:Iv):Value:=.agg #[.string s.lo,.string s.hi,.bool s.op]
def Qi8 (q:Qy) (s:Iv):Prop:=s.lo=q.lo∧(if q.kind=1 then (match QfY q.lo.toList with | none=>s.op=true∧s.hi=ByteArray.empty | some e=>s.op=false∧s.hi.toList=e) else s.hi=q.hi∧s.op=q.op)
theorem Qi8.has {q:Qy} {s:Iv} (h:Qi8 q s) (hm:Qd4 q=0) (k:ByteArray):Qbv k s.lo s.hi s.op=inQ q k:=by
 obtain ⟨h1,h2⟩:=h
 rw [inQ,if_pos hm,h1]
 by_cases hk:q.kind=1
 ·rw [if_pos hk] at h2 ⊢
  have hb:=Qga q.lo.toList k.toList
  rw [Qmt,hb,Qbv]
  cases he:QfY q.lo.toList with
  | none=>rw [he] at h2;simp [h2.1,klt]
  | some e=>rw [he] at h2;simp [h2.1,klt,h2.2]
 rw [if_neg hk] at h2 ⊢
 rw [h2.1,h2.2]
theorem QlK {q:Qy} {s:Iv} {w W:World} {R:Nat} (hb:Blk W R 107 #[.string s.lo,.string s.hi,.bool s.op]) (hw:Below w.heap.size w W) (hi:Qi8 q s) {a:Act} (ha:a.tmps.getD 2 undef=.pointer (some ⟨R,0,none⟩)) (hd:a.defers=[]) :
  bodyPost Tryz.prog Tryz.f45 (fun e w'=>∃ s:Iv,e=.returned s.v∧Qi8 q s∧Below w.heap.size w w') Exit.ret a W:=by
 have d0:W.cell? ⟨R,0,none⟩=some (.string s.lo):=hb.cell 0
 have d1:W.cell? ⟨R,1,none⟩=some (.string s.hi):=hb.cell 1
 have d2:W.cell? ⟨R,2,none⟩=some (.bool s.op):=hb.cell 2
 refine bodyPost_ret (v:=s.v) ?_ hd ⟨s,rfl,hi,hw⟩
 simp only [Array.getD_eq_getD_getElem?] at ha
 simp [results,Tryz.results45,go_sem,ha,d0,d1,d2]
theorem QoG {q:Qy} {s:Iv} {w w1:World} {R:Nat} {c0 c1 c2:Value} (hb:Blk w1 R 107 #[c0,c1,c2]) (hw:Below w.heap.size w w1) (hi:Qi8 q s) {a:Act} (hR:w.heap.size≤R) (ha:a.tmps.getD 2 undef=.pointer (some ⟨R,0,none⟩)) (hd:a.defers=[]) :
  bodyPost Tryz.prog Tryz.f45 (fun e w'=>∃ s:Iv,e=.returned s.v∧Qi8 q s∧Below w.heap.size w w') Exit.ret a (((w1.setCell ⟨R,0,none⟩ (.string s.lo)).setCell ⟨R,1,none⟩ (.string s.hi)).setCell ⟨R,2,none⟩ (.bool s.op)):=by
 have hbF:=((hb.QaN 0 (.string s.lo)).QaN 1 (.string s.hi)).QaN 2 (.bool s.op)
 exact QlK hbF (((hw.setCell (p:=⟨R,0,none⟩) hR _).setCell (p:=⟨R,1,none⟩) hR _).setCell (p:=⟨R,2,none⟩) hR _) hi ha hd
theorem Qf0 (q:Qy) (hq:q.short) (hm:Qd4 q=0) (w:World):Calls Tryz.prog 45 #[q.v] w fun e w'=>∃ s:Iv,e=.returned s.v∧Qi8 q s∧Below w.heap.size w w':=by
 have hk:=QhY hm
 have he:=fun W=>QiM W q.lo hq.1
 obtain ⟨kd,lo,hi,op⟩:=q
 dsimp only at hk he
 clear hm hq
 rcases hk with rfl | rfl
 ·go_enter Tryz.func45,Tryz.ntmps45
  go_wp2_with fail
  generalize hW0:World.alloc (World.alloc _ _) _=W0
  obtain ⟨hx0,hz0,hb0,hb1⟩:=Qaz w _ _ _ _ W0 hW0
  clear hW0
  refine (he W0).mono ?_
  rintro e w1 ⟨hbw,en,ok,rfl,hen⟩
  have hag:Agree (Lt W0.heap.size) W0 w1:=Agree.of_below hbw fun b h=>h
  replace hb0:=hb0.agree hag (show Lt W0.heap.size w.heap.size by show _<_;omega)
  replace hb1:=hb1.agree hag (show Lt W0.heap.size (w.heap.size+1) by show _<_;omega)
  have c1:w1.cell? ⟨w.heap.size,1,none⟩=some (.string lo):=hb0.cell 1
  have r0:w1.cell? ⟨w.heap.size+1,0,none⟩=some (.string ByteArray.empty):=hb1.cell 0
  have r1:w1.cell? ⟨w.heap.size+1,1,none⟩=some (.string ByteArray.empty):=hb1.cell 1
  have r2:w1.cell? ⟨w.heap.size+1,2,none⟩=some (.bool false):=hb1.cell 2
  have f0:=hb1.frozen 0
  have f1:=hb1.frozen 1
  have f2:=hb1.frozen 2
  have l0:=hb0.lt
  have l1:=hb1.lt
  have HEN:=Lib.hid hen
  have HBW:=Lib.hid hbw
  have HX0:=Lib.hid hx0
  have HB1:=Lib.hid hb1
  clear hen hbw hag hb0 hb1 hx0
  go_wp2_with fail
  refine QoG (q:=⟨1,lo,hi,op⟩) (s:=⟨lo,en,!ok⟩) HB1.out (HX0.out.below.trans (HBW.out.mono (by omega))) ⟨rfl,?_⟩ (Nat.le_succ _) rfl rfl
  skip
  have:=HEN.out
  simp only [if_true]
  cases hE:QfY lo.toList with
  | none=>rw [hE] at this;simp only [this.1,this.2];exact ⟨rfl,trivial⟩
  | some e=>rw [hE] at this;simp only [this.1];exact ⟨rfl,this.2⟩
 go_enter Tryz.func45,Tryz.ntmps45
 go_wp2_with fail
 generalize hW0:World.alloc (World.alloc _ _) _=W0
 obtain ⟨hx0,hz0,hb0,hb1⟩:=Qaz w _ _ _ _ W0 hW0
 clear hW0
 exact QlK (q:=⟨2,lo,hi,op⟩) (s:=⟨lo,hi,op⟩) hb1 hx0.below ⟨rfl,by simp⟩ rfl rfl
end Go.Proofs.YtohajcflklejjaaGreat
namespace Go.Proofs.YtohajcflklejjaaGreat
open Go.RowKit Go.Maps
set_option linter.unusedVariables false
set_option linter.unusedSimpArgs false
structure Sb (H:Nat→Prop) (w w':World):Prop where
 os:w'.os=w.os
 tape:w'.tape=w.tape
 output:w'.output=w.output
 size:w.heap.size≤w'.heap.size
 block:∀ b,b<w.heap.size→¬H b→w'.heap[b]? = w.heap[b]?
theorem St.sb {H:Nat→Prop} {w w':World} (h:St H w w'):Sb H w w':=⟨h.os,h.tape,h.output,h.size,h.block⟩
theorem Ext.sb {w w':World} (h:Ext w w') (H:Nat→Prop):Sb H w w':=(h.st H).sb
theorem Sb.refl (H:Nat→Prop) (w:World):Sb H w w:=(Ext.refl w).sb H
theorem Sb.trans {H:Nat→Prop} {a b c:World} (h:Sb H a b) (k:Sb H b c):Sb H a c:=
 ⟨k.os.trans h.os,k.tape.trans h.tape,k.output.trans h.output,Nat.le_trans h.size k.size,fun i hi hn=>(k.block i (Nat.lt_of_lt_of_le hi h.size) hn).trans (h.block i hi hn)⟩
theorem Sb.comp {H G:Nat→Prop} {a b c:World} (h:Sb H a b) (k:Sb G b c) (hG:∀ i,i<a.heap.size→G i→H i):Sb H a c:=
 ⟨k.os.trans h.os,k.tape.trans h.tape,k.output.trans h.output,Nat.le_trans h.size k.size,fun i hi hn=>(k.block i (Nat.lt_of_lt_of_le hi h.size) fun hg=>hn (hG i hi hg)).trans (h.block i hi hn)⟩
theorem Sb.mono {H G:Nat→Prop} {a b:World} (h:Sb H a b) (hG:∀ i,i<a.heap.size→H i→G i):Sb G a b:=
 ⟨h.os,h.tape,h.output,h.size,fun i hi hn=>h.block i hi fun hh=>hn (hG i hi hh)⟩
theorem Sb.of_below {n:Nat} {w w':World} (h:Below n w w'):Sb (fun b=>n≤b) w w':=⟨h.os,h.tape,h.output,h.size,fun b _ hn=>h.block b (by omega)⟩
theorem Sb.new {H:Nat→Prop} {w w':World} (h:Below w.heap.size w w'):Sb H w w':=(Sb.of_below h).mono fun i hi hh=>by omega
theorem Sb.below {H:Nat→Prop} {w w':World} (h:Sb H w w') (hH:∀ b,b<w.heap.size→¬H b):Below w.heap.size w w':=
 ⟨h.os,h.tape,h.output,h.size,fun b hb=>h.block b hb (hH b hb)⟩
theorem Sb.step {H:Nat→Prop} {a w w':World} (h:Below a.heap.size a w) (k:Sb H w w') (hH:∀ b,H b→a.heap.size≤b):Below a.heap.size a w':=
 ((Sb.new (H:=H) h).trans k).below fun b hb hh=>by have:=hH b hh;omega
theorem Sb.blk {H:Nat→Prop} {w w':World} {g:Nat} {t:TypeId} {cs:Array Value} (h:Sb H w w') (hb:Blk w g t cs) (hn:¬H g):Blk w' g t cs:=(h.block g hb.lt hn).trans hb
theorem Sb.agree {H:Nat→Prop} {w w':World} (h:Sb H w w'):Agree (NH H w) w w':=fun b hb=>h.block b hb.1 hb.2
theorem Sb.ext {H:Nat→Prop} {a b c:World} (h:Sb H a b) (k:Ext b c):Sb H a c:=h.trans (k.sb H)
theorem Sb.drew {H:Nat→Prop} {a w:World} (h:Sb H a w):Sb H a w.drew:=h.ext ((Ext.refl w).drew)
theorem Sb.set {H:Nat→Prop} {a w:World} (h:Sb H a w) {p:Addr} (hp:a.heap.size≤p.block∨H p.block) (u:Value):Sb H a (w.setCell p u):=
 ⟨h.os,h.tape,h.output,by simpa [World.setCell] using h.size,fun i hi hn=>(Below.heap_setCell w p u i (by
   rintro rfl
   rcases hp with hp | hp
   ·omega
   exact hn hp)).trans (h.block i hi hn)⟩
theorem Sb.grown {w w':World} {b:Nat} (h:w.grownBy w' (some b)):Sb (fun i=>i=b) w w':=
 ⟨h.os,h.tape,h.output,h.size,fun i hi hn=>h.block i hi (by intro e;injection e with e;exact hn e)⟩
theorem Sb.made {H:Nat→Prop} {w w':World} (h:w.grownBy w' none):Sb H w w':=⟨h.os,h.tape,h.output,h.size,fun i hi hn=>h.block i hi (by simp)⟩
theorem QaM {H:Type} {P:Program} {k:TypeId} {R:Value→Option (DataW H × List MemPlace)} {w w':World} {b n:Nat} {D:DataW H} (h:w.ownsMap P k R b n D) (hb:w'.heap[b]? = w.heap[b]?):w'.ownsMap P k R b n D:=by
 obtain ⟨es,clock,h1,F,h2,h3⟩:=h
 exact ⟨es,clock,hb.trans h1,F,h2,h3⟩
theorem MapAt.sb {H G:Nat→Prop} {w w':World} {M:Nat} {es:List Ent} (h:MapAt H w M es) (k:Sb G w w') (hG:∀ b,G b→H b) (hM:¬G M):MapAt H w' M es:=by
 obtain ⟨hm,s,xs,hb,hs,hx⟩:=h
 exact ⟨hm,s,xs,k.blk hb hM,(hs.agree fun b hb=>k.block b hb.1 fun hh=>hb.2 (hG b hh)).mono fun b hb=>⟨Nat.lt_of_lt_of_le hb.1 k.size,hb.2⟩,hx⟩
theorem QbW {w:World} {base e size n m:Nat} {s:Sl} {xs:List Value} {t:TypeId} {cs:Array Value} (ho:w.ownsRow base e size (.slice s.a n s.c) n xs) (hb:Blk w m t cs) (hne:e≠t):¬s.row=some m:=fun hr=>by
 rcases ho.2 with ⟨hv,-⟩ | ⟨gg,cap,cur,hv,-,hc,-⟩
 ·injection hv with e1
  rw [Sl.row,e1] at hr
  cases hr
 injection hv with e1
 rw [Sl.row,e1] at hr
 have:gg=m:=by simpa using hr
 subst this
 have h2:w.heap[gg]? = some (.cells cs t (0,0)):=hb
 rw [hc] at h2
 injection h2 with h2
 injection h2 with h3 h4
 exact hne h4
abbrev Qbc:=List (Nat × Iv)
def ivD (s:Iv):DataW Unit:=.agg [.lit (.string s.lo.data.toList),.lit (.string s.hi.data.toList),.lit (.bool s.op)]
def ivR:Value→Option (DataW Unit × List MemPlace)
 | .agg cs=>match cs.toList with
   | [.string a,.string b,.bool o]=>some (ivD ⟨a,b,o⟩,[])
   | _=>none
 | _=>none
theorem QnC {a b:ByteArray} (h:a.data.toList=b.data.toList):a=b:=by
 obtain ⟨⟨a⟩⟩:=a
 obtain ⟨⟨b⟩⟩:=b
 have:a=b:=h
 rw [this]
theorem Qob {s t:Iv} (h:ivD s=ivD t):s=t:=by
 obtain ⟨a,b,o⟩:=s
 obtain ⟨a',b',o'⟩:=t
 simp only [ivD,DataW.agg.injEq,List.cons.injEq,DataW.lit.injEq,Lit.string.injEq,Lit.bool.injEq,and_true] at h
 obtain ⟨h1,h2,h3⟩:=h
 rw [QnC h1,QnC h2,h3]
theorem QjA (s:Iv):ivR s.v=some (ivD s,[]):=rfl
theorem Qoc {v:Value} {y:DataW Unit × List MemPlace} (h:ivR v=some y):∃ s:Iv,v=s.v∧y.1=ivD s:=by
 unfold ivR at h
 split at h
 ·rename_i cs
  split at h
  ·rename_i a b o hc
   injection h with h
   have:cs=#[.string a,.string b,.bool o]:=by rw [←hc]
   exact ⟨⟨a,b,o⟩,by rw [this],by rw [←h]⟩
  cases h
 cases h
theorem QiL {v:Value} {s:Iv} {ps:List MemPlace} (h:ivR v=some (ivD s,ps)):v=s.v:=by
 obtain ⟨t,rfl,ht⟩:=Qoc h
 have:ivD s=ivD t:=ht
 rw [Qob this]
def Qc7 (i:Nat):Lit:=.int .u64 i
def mapD (L:Qbc):DataW Unit:=.map (L.map fun p=>(Qc7 p.1,ivD p.2))
theorem QcU (a b:Nat):(Qc7 a).sameKey (Qc7 b)=(a == b):=by
 by_cases h:a=b
 ·subst h;simp [Qc7,Lit.sameKey]
 rw [show (a == b)=false from beq_eq_false_iff_ne.2 h]
 have:¬((a:Int)=(b:Int)):=by omega
 simp [Qc7,Lit.sameKey,this]
theorem Qe4 (L:Qbc) (i:Nat):Maps.has (mapD L) (Qc7 i)=L.any (fun p=>p.1 == i):=by
 show List.any (List.map _ L) _=_
 rw [List.any_map]
 congr 1
 funext p
 exact QcU p.1 i
theorem Qk4 {L:Qbc} {i:Nat} {p:Nat × Iv} (h:L.find? (fun p=>p.1 == i)=some p) (zd:DataW Unit):(mapD L).atKey (Qc7 i) zd=ivD p.2:=by
 simp only [mapD,DataW.atKey]
 rw [List.find?_map]
 have:((fun p:Lit × DataW Unit=>p.1.sameKey (Qc7 i))∘fun p:Nat × Iv=>(Qc7 p.1,ivD p.2))=fun p=>p.1 == i:=by
  funext q;exact QcU q.1 i
 rw [this,h]
 rfl
theorem Qme (L:Qbc):Maps.size (mapD L)=L.length:=by
 show List.length (List.map _ L)=_
 rw [List.length_map]
theorem Qfp (L:Qbc) (i:Nat):(L.map fun p=>(Qc7 p.1,ivD p.2)).filter (fun p=>!p.1.sameKey (Qc7 i))=(L.filter fun p=>!(p.1 == i)).map fun p=>(Qc7 p.1,ivD p.2):=by
 rw [List.filter_map]
 congr 2
 funext q
 exact congrArg (!·) (QcU q.1 i)
theorem QmM (L:Qbc) (i:Nat):(mapD L).del (Qc7 i)=mapD (L.filter fun p=>!(p.1 == i)):=by
 show DataW.map (List.filter _ (List.map _ L))=_
 rw [Qfp];rfl
theorem Qgn (x:Lit × DataW Unit):∀ l:List (Lit × DataW Unit),(∀ p∈l,x.1.before p.1=false)→DataW.insert x l=l++[x]
 | [],_=>rfl
 | y :: r,h=>by
   have h1:=h y (List.mem_cons_self ..)
   simp only [DataW.insert,h1,Bool.false_eq_true,if_false,List.cons_append]
   rw [Qgn x r fun p hp=>h p (List.mem_cons_of_mem _ hp)]
theorem Qnk {L:Qbc} {i:Nat} (h:∀ p∈L,p.1<i) (s:Iv):(mapD L).put (Qc7 i) (ivD s)=mapD (L++[(i,s)]):=by
 show DataW.map (DataW.insert (Qc7 i,ivD s) (List.filter _ (List.map _ L)))=_
 rw [Qfp,List.filter_eq_self.2 fun p hp=>by have:=h p hp;simp;omega,Qgn,mapD,List.map_append]
 ·rfl
 intro p hp
 obtain ⟨q,hq,rfl⟩:=List.mem_map.1 hp
 have:=h q hq
 simp [Qc7,Lit.before];omega
def Qcn (w:World) (mb:Option Nat) (g:Nat) (L:Qbc):Prop:=match mb with
 | none=>L=[]
 | some b=>w.ownsMap Tryz.prog 34 ivR b g (mapD L)
structure QaR (w:World) (R:Nat) (T:RT) (g:Nat) (mb:Option Nat) (L:Qbc):Prop where
 blk:Blk w R 37 #[QaQ T,.int .u64 g,.map mb]
 map:Qcn w mb g L
 ne:mb≠some R
 up:∀ p∈L,1≤p.1∧p.1≤g
 rise:L.Pairwise (fun p q=>p.1<q.1)
 short:∀ p∈L,p.2.lo.size≤maxLen∧p.2.hi.size≤maxLen
 small:g≤4611686018427387904
theorem Qcn.lt {w:World} {b g:Nat} {L:Qbc} (h:Qcn w (some b) g L):b<w.heap.size:=World.ownsMap.lt h
theorem Qcn.heap {w w':World} {mb:Option Nat} {g:Nat} {L:Qbc} (h:Qcn w mb g L) (hb:∀ b,mb=some b→w'.heap[b]? = w.heap[b]?):Qcn w' mb g L:=by
 cases mb with
 | none=>exact h
 | some b=>exact QaM h (hb b rfl)
def Qdp (R:Nat) (mb:Option Nat):Nat→Prop:=fun b=>b=R∨mb=some b
theorem QaR.sb {w w':World} {R:Nat} {T:RT} {g:Nat} {mb:Option Nat} {L:Qbc} {H:Nat→Prop} (h:QaR w R T g mb L) (k:Sb H w w') (hH:∀ b,Qdp R mb b→¬H b):QaR w' R T g mb L:=
 ⟨k.blk h.blk (hH R (.inl rfl)),h.map.heap fun b hb=>k.block b (by subst hb;exact h.map.lt) (hH b (.inr hb)),h.ne,h.up,h.rise,h.short,h.small⟩
theorem QaR.ext {w w':World} {R:Nat} {T:RT} {g:Nat} {mb:Option Nat} {L:Qbc} (h:QaR w R T g mb L) (k:Ext w w'):QaR w' R T g mb L:=h.sb (k.sb fun _=>False) fun _ _ hh=>hh
theorem QaR.new {w:World} {R:Nat} (h:Blk w R 37 #[.pointer none,.int .u64 0,.map none]):QaR w R none 0 none []:=
 ⟨h,rfl,by simp,by simp,List.Pairwise.nil,by simp,by omega⟩
theorem QeE:Keyed Tryz.prog 34:=int_keyed (q:=.u64) Tryz.underlying34
theorem Qos (i:Nat) (h:i≤18446744073709551615):keyOf Tryz.prog 34 (.int .u64 (i:Int))=some (Qc7 i):=
 keyOf_int_mk Tryz.underlying34 (by simp [Lit.wf,IntKind.min,IntKind.max,IntKind.signed,IntKind.bits];omega)
theorem QjH {o:Oper} {a:Act} {Q:Exit→Act→World→Prop} {K:Act→World→Prop} {w:World} {m x v:Operand} (hop:o.op=Op.mapUpdate 35 m x v)
  {b g i:Nat} {L:Qbc} {s:Iv} (hm:a.eval m=.map (some b)) (hx:a.eval x=.int .u64 (i:Int)) (hv:a.eval v=s.v) (hown:w.ownsMap Tryz.prog 34 ivR b g (mapD L)) (hi:i≤18446744073709551615) (hg:g<maxLen) (hL:∀ p∈L,p.1<i)
  (hK:∀ w',w'.ownsMap Tryz.prog 34 ivR b (g+1) (mapD (L++[(i,s)]))→Sb (fun c=>c=b) w w'→K (a.put o.dst undef) w'):Oper.wp Tryz.prog o a w K Q:=by
 obtain ⟨w',hrun,r1,r2⟩:=hown.store QeE Tryz.underlying35 hg (Qos i hi) (QjA s)
 unfold Oper.wp
 simp [execOp,hop,hm,hx,hv,hrun,Result.andThen]
 rw [Qnk hL] at r1
 exact hK _ r1 (Sb.grown r2.grown)
theorem Qjl:∀ {l e:List UInt8},QfY l=some e→e.length≤l.length
 | [],e,h=>by simp [QfY] at h
 | b :: t,e,h=>by
   simp only [QfY] at h
   cases ht:QfY t with
   | some e'=>
     rw [ht] at h
     have:e=b :: e':=by simpa using h.symm
     subst this
     have:=Qjl ht
     simp only [List.length_cons];omega
   | none=>
     rw [ht] at h
     simp only at h
     split at h
     ·cases h
     have:e=[b+1]:=by simpa using h.symm
     subst this
     simp
theorem Qi8.short {q:Qy} {s:Iv} (h:Qi8 q s) (hq:q.short):s.lo.size≤maxLen∧s.hi.size≤maxLen:=by
 obtain ⟨h1,h2⟩:=h
 refine ⟨by rw [h1];exact hq.1,?_⟩
 split at h2
 ·split at h2
  ·rw [h2.2];exact Nat.zero_le _
  rename_i e he
  have h3:=Qjl he
  rw [←h2.2,Qay,Qay] at h3
  exact Nat.le_trans h3 hq.1
 rw [h2.1];exact hq.2
def QkR (q:Qy) (R:Nat) (T:RT) (g:Nat) (mb:Option Nat) (L:Qbc) (w:World) (e:Ending) (w':World):Prop:=
 (Qd4 q≠0∧e=.returned (.tuple #[.int .u64 0,.int .i64 (Qd4 q)])∧Ext w w')∨
 (Qd4 q=0∧∃ s mb',e=.returned (.tuple #[.int .u64 ((g+1:Nat):Int),.int .i64 0])∧Qi8 q s∧QaR w' R T (g+1) mb' (L++[(g+1,s)])∧(mb'=mb∨∃ b,mb'=some b∧w.heap.size≤b)∧Sb (Qdp R mb) w w')
theorem Qhr {w:World} {R:Nat} {T:RT} {g:Nat} {mb:Option Nat} {L:Qbc} (h:QaR w R T g mb L) (hg:g≤1000000) (q:Qy) (hq:q.short) :
  Calls Tryz.prog 16 #[.pointer (some ⟨R,0,none⟩),q.v] w (QkR q R T g mb L w):=by
 have hm:=fun W=>QlT q W
 have hmm:=@run_makeMap Tryz.prog
 have qmn:∀ (w:World) (r:Option Nat),(binOp .eql 35 (.map r) (.map none)).run Tryz.prog w=.ok (.bool r.isNone) w:=fun w r=>run_eql_map_nil w _ _ _ r Tryz.underlying35
 obtain ⟨m,hmq⟩:∃ m,Qd4 q=m:=⟨_,rfl⟩
 have HI:=Lib.hid (fun h W=>Qf0 q hq h W)
 rw [hmq] at hm HI
 by_cases hm0:m=0
 ·subst hm0
  have HI2:=Lib.hid (HI.out rfl)
  have HM:=Lib.hid hmq
  have HREG:=Lib.hid h
  have hlR:=h.blk.lt
  obtain ⟨kd,lo,hi,op⟩:=q
  have HQS:=Lib.hid hq
  clear HI hmq hq
  go_enter Tryz.func16,Tryz.ntmps16
  go_wp2_with fail
  generalize hW0:World.alloc w _=W0
  have hx0:Ext w W0:=by rw [←hW0];exact (Ext.refl w).alloc _ _
  have hb0:Blk W0 w.heap.size 24 #[.int .i64 kd,.string lo,.string hi,.bool op]:=by rw [←hW0];exact Blk.new w _ _
  clear hW0
  refine (hm W0).mono ?_
  rintro e w1 ⟨rfl,hx1⟩
  have hx:=hx0.trans hx1
  have hb1:=hb0.ext hx1
  have hr1:=(HREG.out.ext hx).blk
  have r0:w1.cell? ⟨R,0,none⟩=some (QaQ T):=hr1.cell 0
  have r1:w1.cell? ⟨R,1,none⟩=some (.int .u64 g):=hr1.cell 1
  have r2:w1.cell? ⟨R,2,none⟩=some (.map mb):=hr1.cell 2
  have f0:=hr1.frozen 0
  have f1:=hr1.frozen 1
  have f2:=hr1.frozen 2
  have lR:=hr1.lt
  rcases mb with _ | b
  ·have hL0:L=[]:=HREG.out.map
   go_wp2_with fail
   generalize hW3:World.alloc _ _=W3
   obtain ⟨b,hb⟩:∃ b,w1.heap.size=b:=⟨_,rfl⟩
   have hxw:=hx.size
   have hRb:¬R=b:=by omega
   have hQb:¬w.heap.size=b:=by have:=hx1.size;have:=hb1.lt;omega
   have hs1:Sb (Qdp R none) w ((w1.setCell ⟨R,2,none⟩ (.map (some b))).setCell ⟨R,1,none⟩ (.int .u64 ((g:Int)+1))):=(((hx.sb _).set (p:=⟨R,2,none⟩) (.inr (.inl rfl)) _).set (p:=⟨R,1,none⟩) (.inr (.inl rfl)) _)
   have hr2:=(hr1.QaN 2 (.map (some b))).QaN 1 (.int .u64 ((g:Int)+1))
   have hown:W3.ownsMap Tryz.prog 34 ivR b g (mapD L):=by
    rw [←hW3,hL0,←hb]
    have:=World.ownsMap_made ((w1.setCell ⟨R,2,none⟩ (.map (some w1.heap.size))).setCell ⟨R,1,none⟩ (.int .u64 ((g:Int)+1))) Tryz.prog 34 ivR
    simp only [World.size_setCell] at this
    exact this.mono (Nat.zero_le _)
   have hq2:Blk ((w1.setCell ⟨R,2,none⟩ (.map (some b))).setCell ⟨R,1,none⟩ (.int .u64 ((g:Int)+1))) w.heap.size 24 #[.int .i64 kd,.string lo,.string hi,.bool op]:=
    (Below.heap_setCell _ _ _ _ (show w.heap.size≠R by omega)).trans ((Below.heap_setCell _ _ _ _ (show w.heap.size≠R by omega)).trans hb1)
   rw [hb] at hW3 ⊢
   generalize (w1.setCell ⟨R,2,none⟩ (.map (some b))).setCell ⟨R,1,none⟩ (.int .u64 ((g:Int)+1))=w2 at *
   have hal:Sb (Qdp R none) w2 W3:=by rw [←hW3];exact Sb.made (World.grownBy_alloc _ _ _)
   have HR3:=Lib.hid (show Blk W3 R 37 #[QaQ T,.int .u64 ((g:Int)+1),.map (some b)] by rw [←hW3];exact (Below.heap_alloc _ _ _ hr2.lt).trans hr2)
   have HQ3:=Lib.hid (show Blk W3 w.heap.size 24 #[.int .i64 kd,.string lo,.string hi,.bool op] by rw [←hW3];exact (Below.heap_alloc _ _ _ hq2.lt).trans hq2)
   have HS3:=Lib.hid (hs1.trans hal)
   have HOWN:=Lib.hid hown
   have HBW:=Lib.hid (show w.heap.size≤b by omega)
   clear hW3 hs1 hr2 hown hq2 hal hx hx0 hx1 hb0 hb1 hr1 r0 r1 r2 f0 f1 f2 hb
   have hq3:=HQ3.out
   have HSS:=Lib.hid (show ∀ W,Sb (fun c=>c=b) W3 W→W.cell? ⟨R,2,none⟩=some (.map (some b))∧W.cell? ⟨R,1,none⟩=some (.int .u64 ((g:Int)+1))∧W.cell? ⟨w.heap.size,0,none⟩=some (.int .i64 kd)∧W.cell? ⟨w.heap.size,1,none⟩=some (.string lo)∧W.cell? ⟨w.heap.size,2,none⟩=some (.string hi)∧W.cell? ⟨w.heap.size,3,none⟩=some (.bool op) from
    fun W hW=>⟨(hW.blk HR3.out hRb).cell 2,(hW.blk HR3.out hRb).cell 1,(hW.blk hq3 hQb).cell 0,(hW.blk hq3 hQb).cell 1,(hW.blk hq3 hQb).cell 2,(hW.blk hq3 hQb).cell 3⟩)
   clear hq3
   refine wp_region_held_drew (S:=(fun w'=>Sb (fun c=>c=b) W3 w')) (by kernel_rfl) (((Sb.refl _ W3).drew)) (fun hHeld=>?_)
   refine Qab 0 (some 30) HSS hHeld ?_
   refine Qab 1 (some 31) HSS hHeld ?_
   refine Qab 2 (some 32) HSS hHeld ?_
   refine Qab 3 (some 33) HSS hHeld ?_
   refine Qab 4 (some 34) HSS hHeld ?_
   refine Qab 5 (some 35) HSS hHeld ?_
   refine Qab 6 (some 36) HSS hHeld ?_
   refine Qab 7 (some 37) HSS hHeld ?_
   refine Qab 8 (some 38) HSS hHeld ?_
   refine Qaa (i:=9) (by kernel_rfl) rfl (by rfl) (fun K hK=>?_)
   go_simp
   (refine (HI2.out _).mono ?_;rintro e w4 ⟨s,rfl,hs,hbw⟩;have hown4:=QaM HOWN.out (show w4.heap[b]? = W3.heap[b]? from hbw.block b HOWN.out.lt))
   refine hK.out _ _ (hHeld.trans (Sb.new hbw)) (fun hHeld=>?_)
   clear hK K
   try simp only [Act.put,List.setIfInBounds_toArray,List.set_cons_zero,List.set_cons_succ]
   refine Qaa (i:=10) (by kernel_rfl) rfl (by rfl) (fun K hK=>?_)
   skip
   (refine QjH (s:=s) (i:=g+1) rfl rfl rfl rfl hown4 (by omega) (by unfold maxLen;omega) (fun p hp=>by have:=(HREG.out.up p hp).2;omega) ?_;intro w5 hown5 hsb5)
   refine hK.out _ _ (hHeld.trans hsb5) (fun hHeld=>?_)
   clear hK K
   try simp only [Act.put,List.setIfInBounds_toArray,List.set_cons_zero,List.set_cons_succ]
   refine wpAnyH_done (by kernel_rfl) ?_ _
   have hr5:=hHeld.blk HR3.out hRb
   have r1':w5.cell? ⟨R,1,none⟩=some (.int .u64 ((g:Int)+1)):=hr5.cell 1
   have HH:=Lib.hid hHeld
   have HS:=Lib.hid hs
   have HR5:=Lib.hid hr5
   have HB4:=Lib.hid hbw
   clear hHeld hs hr5 hbw
   go_wp2_with fail
   refine bodyPost_ret (v:=.tuple #[.int .u64 ((g:Int)+1),.int .i64 0]) (by simp [results,Tryz.results16,go_sem]) rfl ?_
   refine .inr ⟨HM.out,s,some b,by simp,HS.out,⟨HR5.out,hown5,fun e=>hRb (by injection e with e;exact e.symm),fun p hp=>?_,?_,fun p hp=>?_,by omega⟩,?_,?_⟩
   ·rcases List.mem_append.1 hp with hp | hp
    ·have:=HREG.out.up p hp;omega
    rw [List.mem_singleton.1 hp];simp
   ·refine List.pairwise_append.2 ⟨HREG.out.rise,List.pairwise_singleton ..,fun p hp q hq=>?_⟩
    rw [List.mem_singleton.1 hq]
    have:=(HREG.out.up p hp).2
    show p.1<g+1
    omega
   ·rcases List.mem_append.1 hp with hp | hp
    ·exact HREG.out.short p hp
    rw [List.mem_singleton.1 hp]
    exact HS.out.short HQS.out
   ·exact .inr ⟨b,rfl,HBW.out⟩
   exact HS3.out.comp HH.out fun i hi e=>by have:=HBW.out;omega
  go_wp2_with fail
  generalize hW3:World.setCell _ _ _=W3
  have hown1:w1.ownsMap Tryz.prog 34 ivR b g (mapD L):=(HREG.out.ext hx).map
  have hbR:some b≠some R:=HREG.out.ne
  have hRb:¬R=b:=fun e=>hbR (by rw [e])
  have hbl:b<w.heap.size:=HREG.out.map.lt
  have hQb:¬w.heap.size=b:=by omega
  have HR3:=Lib.hid (show Blk W3 R 37 #[QaQ T,.int .u64 ((g:Int)+1),.map (some b)] by rw [←hW3];exact hr1.QaN 1 _)
  have HQ3:=Lib.hid (show Blk W3 w.heap.size 24 #[.int .i64 kd,.string lo,.string hi,.bool op] by rw [←hW3];exact (Below.heap_setCell _ _ _ _ (show w.heap.size≠R by omega)).trans hb1)
  have HS3:=Lib.hid (show Sb (Qdp R (some b)) w W3 by rw [←hW3];exact (hx.sb _).set (p:=⟨R,1,none⟩) (.inr (.inl rfl)) _)
  have HOWN:=Lib.hid (show W3.ownsMap Tryz.prog 34 ivR b g (mapD L) by rw [←hW3];exact QaM hown1 (Below.heap_setCell _ _ _ _ (fun e=>hRb e.symm)))
  clear hW3 hown1 hx hx0 hx1 hb0 hb1 hr1 r0 r1 r2 f0 f1 f2 hbR
  have hq3:=HQ3.out
  have HSS:=Lib.hid (show ∀ W,Sb (fun c=>c=b) W3 W→W.cell? ⟨R,2,none⟩=some (.map (some b))∧W.cell? ⟨R,1,none⟩=some (.int .u64 ((g:Int)+1))∧W.cell? ⟨w.heap.size,0,none⟩=some (.int .i64 kd)∧W.cell? ⟨w.heap.size,1,none⟩=some (.string lo)∧W.cell? ⟨w.heap.size,2,none⟩=some (.string hi)∧W.cell? ⟨w.heap.size,3,none⟩=some (.bool op) from
   fun W hW=>⟨(hW.blk HR3.out hRb).cell 2,(hW.blk HR3.out hRb).cell 1,(hW.blk hq3 hQb).cell 0,(hW.blk hq3 hQb).cell 1,(hW.blk hq3 hQb).cell 2,(hW.blk hq3 hQb).cell 3⟩)
  clear hq3
  refine wp_region_held_drew (S:=(fun w'=>Sb (fun c=>c=b) W3 w')) (by kernel_rfl) (((Sb.refl _ W3).drew)) (fun hHeld=>?_)
  refine Qab 0 (some 30) HSS hHeld ?_
  refine Qab 1 (some 31) HSS hHeld ?_
  refine Qab 2 (some 32) HSS hHeld ?_
  refine Qab 3 (some 33) HSS hHeld ?_
  refine Qab 4 (some 34) HSS hHeld ?_
  refine Qab 5 (some 35) HSS hHeld ?_
  refine Qab 6 (some 36) HSS hHeld ?_
  refine Qab 7 (some 37) HSS hHeld ?_
  refine Qab 8 (some 38) HSS hHeld ?_
  refine Qaa (i:=9) (by kernel_rfl) rfl (by rfl) (fun K hK=>?_)
  go_simp
  (refine (HI2.out _).mono ?_;rintro e w4 ⟨s,rfl,hs,hbw⟩;have hown4:=QaM HOWN.out (show w4.heap[b]? = W3.heap[b]? from hbw.block b HOWN.out.lt))
  refine hK.out _ _ (hHeld.trans (Sb.new hbw)) (fun hHeld=>?_)
  clear hK K
  try simp only [Act.put,List.setIfInBounds_toArray,List.set_cons_zero,List.set_cons_succ]
  refine Qaa (i:=10) (by kernel_rfl) rfl (by rfl) (fun K hK=>?_)
  skip
  (refine QjH (s:=s) (i:=g+1) rfl rfl rfl rfl hown4 (by omega) (by unfold maxLen;omega) (fun p hp=>by have:=(HREG.out.up p hp).2;omega) ?_;intro w5 hown5 hsb5)
  refine hK.out _ _ (hHeld.trans hsb5) (fun hHeld=>?_)
  clear hK K
  try simp only [Act.put,List.setIfInBounds_toArray,List.set_cons_zero,List.set_cons_succ]
  refine wpAnyH_done (by kernel_rfl) ?_ _
  have hr5:=hHeld.blk HR3.out hRb
  have r1':w5.cell? ⟨R,1,none⟩=some (.int .u64 ((g:Int)+1)):=hr5.cell 1
  have HH:=Lib.hid hHeld
  have HS:=Lib.hid hs
  have HR5:=Lib.hid hr5
  have HB4:=Lib.hid hbw
  clear hHeld hs hr5 hbw
  go_wp2_with fail
  refine bodyPost_ret (v:=.tuple #[.int .u64 ((g:Int)+1),.int .i64 0]) (by simp [results,Tryz.results16,go_sem]) rfl ?_
  refine .inr ⟨HM.out,s,some b,by simp,HS.out,⟨HR5.out,hown5,fun e=>hRb (by injection e with e;exact e.symm),fun p hp=>?_,?_,fun p hp=>?_,by omega⟩,?_,?_⟩
  ·rcases List.mem_append.1 hp with hp | hp
   ·have:=HREG.out.up p hp;omega
   rw [List.mem_singleton.1 hp];simp
  ·refine List.pairwise_append.2 ⟨HREG.out.rise,List.pairwise_singleton ..,fun p hp q hq=>?_⟩
   rw [List.mem_singleton.1 hq]
   have:=(HREG.out.up p hp).2
   show p.1<g+1
   omega
  ·rcases List.mem_append.1 hp with hp | hp
   ·exact HREG.out.short p hp
   rw [List.mem_singleton.1 hp]
   exact HS.out.short HQS.out
  ·exact .inl rfl
  exact HS3.out.trans (HH.out.mono fun i hi e=>.inr (by rw [e]))
 have g0:(m != 0)=true:=by simp [hm0]
 have HM:=Lib.hid (show Qd4 q≠0∧Qd4 q=m from ⟨by rw [hmq];exact hm0,hmq⟩)
 have hlR:=h.blk.lt
 clear HI hmq hm0 h hq
 obtain ⟨kd,lo,hi,op⟩:=q
 go_enter Tryz.func16,Tryz.ntmps16
 go_wp2_with fail
 refine (hm _).mono ?_
 rintro e w1 ⟨rfl,hx1⟩
 have HX1:=Lib.hid (((Ext.refl w).alloc _ _).trans hx1)
 clear hx1
 go_wp2_with fail
 refine bodyPost_ret (v:=.tuple #[.int .u64 0,.int .i64 m]) (by simp [results,Tryz.results16,go_sem]) rfl ?_
 exact .inl ⟨HM.out.1,by rw [HM.out.2],HX1.out⟩
end Go.Proofs.YtohajcflklejjaaGreat
namespace Go.Proofs.YtohajcflklejjaaGreat
open Go.RowKit
set_option linter.unusedVariables false
set_option linter.unusedSimpArgs false
abbrev ltN:Nat→Nat→Bool:=fun x y=>decide (x<y)
theorem Qon:Sort.SWO ltN:=⟨fun x=>by simp,fun x y z h1 h2=>by simp only [ltN,decide_eq_true_eq] at *;omega,fun x y z h1 h2=>by simp only [ltN,decide_eq_false_iff_not] at *;omega⟩
def Qda (w:World) (B cap:Nat) (d:Array Nat):Prop:=∃ cs:Array Value,Blk w B 34 cs∧cs.size=cap∧d.size≤cap∧∀ j,j<d.size→cs[j]? = some (.int .u64 (d[j]!:Nat))
theorem Qda.cell {w:World} {B cap:Nat} {d:Array Nat} (h:Qda w B cap d) {j:Nat} (hj:j<d.size):w.cell? ⟨B,j,none⟩=some (.int .u64 (d[j]!:Nat)):=by
 obtain ⟨cs,hb,-,-,hc⟩:=h
 rw [hb.cell j,hc j hj]
theorem Qda.frozen {w:World} {B cap:Nat} {d:Array Nat} (h:Qda w B cap d) (j:Nat):w.frozen? ⟨B,j,none⟩=false:=by
 obtain ⟨cs,hb,-⟩:=h
 exact hb.frozen j
theorem Qda.lt {w:World} {B cap:Nat} {d:Array Nat} (h:Qda w B cap d):B<w.heap.size:=by
 obtain ⟨cs,hb,-⟩:=h
 exact hb.lt
theorem Qda.le {w:World} {B cap:Nat} {d:Array Nat} (h:Qda w B cap d):d.size≤cap:=by
 obtain ⟨cs,-,-,h,-⟩:=h
 exact h
theorem Qda.heap {w w':World} {B cap:Nat} {d:Array Nat} (h:Qda w B cap d) (hb:w'.heap[B]? = w.heap[B]?):Qda w' B cap d:=by
 obtain ⟨cs,h1,h2⟩:=h
 exact ⟨cs,hb.trans h1,h2⟩
theorem Qda.ext {w w':World} {B cap:Nat} {d:Array Nat} (h:Qda w B cap d) (k:Ext w w'):Qda w' B cap d:=h.heap (k.heap h.lt)
theorem Qda.swap {w:World} {B cap:Nat} {d:Array Nat} (h:Qda w B cap d) {i j:Nat} (hi:i<d.size) (hj:j<d.size) :
  Qda ((w.setCell ⟨B,i,none⟩ (.int .u64 (d[j]!:Nat))).setCell ⟨B,j,none⟩ (.int .u64 (d[i]!:Nat))) B cap (Sort.swp d i j):=by
 obtain ⟨cs,hb,h1,h2,h3⟩:=h
 refine ⟨_,(hb.QaN i _).QaN j _,by simp [h1],by simp [Sort.swp];exact h2,fun k hk=>?_⟩
 have hk':k<d.size:=by simpa [Sort.swp] using hk
 have e:=h3 k hk'
 have hcs:d.size≤cs.size:=by omega
 simp only [Sort.swp]
 by_cases hkj:k=j
 ·subst hkj
  rw [Array.getElem?_setIfInBounds_self_of_lt (by simp;omega)]
  simp [hk']
 rw [Array.getElem?_setIfInBounds_ne (fun e=>hkj e.symm)]
 by_cases hki:k=i
 ·subst hki
  rw [Array.getElem?_setIfInBounds_self_of_lt (by omega)]
  have hjk:¬j=k:=fun e=>hkj e.symm
  simp [hk',Array.getElem!_eq_getD,Array.getElem?_setIfInBounds,hjk]
 rw [Array.getElem?_setIfInBounds_ne (fun e=>hki e.symm),e]
 have hjk:¬j=k:=fun e=>hkj e.symm
 have hik:¬i=k:=fun e=>hki e.symm
 simp [Array.getElem!_eq_getD,Array.getElem?_setIfInBounds,hjk,hik]
theorem swp_size (d:Array Nat) (i j:Nat):(Sort.swp d i j).size=d.size:=by simp [Sort.swp]
theorem QiK (w:World) (x:Int):Calls Tryz.prog 157 #[.int .u64 x] w fun e w'=>e=.returned (.bool false)∧w=w':=by
 go_enter Tryz.func157,Tryz.ntmps157
 go_wp2_with fail
 go_ret
 exact ⟨by simp,rfl⟩
theorem Qkj (w:World) (x y:Nat):Calls Tryz.prog 137 #[.int .u64 x,.int .u64 y] w fun e w'=>e=.returned (.bool (ltN x y))∧w=w':=by
 have hc:=QiK w
 go_enter Tryz.func137,Tryz.ntmps137
 go_wp2_with fail
 refine (hc _).mono ?_
 rintro e w' ⟨rfl,rfl⟩
 go_wp2_with fail
 go_ret
 exact ⟨by simp [ltN],rfl⟩
theorem QiJ {w:World} {B cap:Nat} {d:Array Nat} (h:Qda w B cap d) (hs:d.size≤1000000) (hcm:cap≤maxLen) :
  Calls Tryz.prog 131 #[.slice (some ⟨B,0,none⟩) d.size cap,.int .i64 0,.int .i64 d.size] w fun e w'=>e=.returned (.tuple #[])∧Qda w' B cap (Sort.insertionSort ltN d 0 d.size)∧St (fun b=>b=B) w w':=by
 have hle:=h.le
 have hB:=h.lt
 have hlc:=Qkj
 obtain ⟨n,hn⟩:∃ n,d.size=n:=⟨_,rfl⟩
 rw [hn] at hle hs ⊢
 have HR:=Lib.hid h
 have HN:=Lib.hid hn
 clear h hn
 go_enter Tryz.func131,Tryz.ntmps131
 go_wp2_with fail
 go_loopw [6] (fun i wr=>∃ (i':Nat) (dk:Array Nat),i=.int .i64 i'∧0<i'∧i'≤n+1∧Hid (dk.size=n)∧Hid (Qda wr B cap dk)∧Hid (St (fun b=>b=B) w wr)∧Hid (Sort.insOuter ltN 0 n i' dk=Sort.insertionSort ltN d 0 n)) (fun i _=>n+1 - (intOf i).toNat)
 case atStart=>exact ⟨1,d,by go_num,by omega,by omega,HN,HR,Lib.hid (St.refl _ w),Lib.hid rfl⟩
 obtain ⟨i,dk,rfl,hi0,hi1,HS,HK,HT,HO⟩:=hrel
 obtain ⟨w4,hw4⟩:∃ w4,w4=wr:=⟨_,rfl⟩
 subst hw4
 by_cases hlt:i<n
 ·have g1:(i:Int)<(n:Int):=by omega
  have HO2:=Lib.hid (show Sort.insOuter ltN 0 n (i+1) (Sort.insInner ltN 0 i dk)=Sort.insertionSort ltN d 0 n by have:=HO.out;rw [Sort.insOuter,if_pos hlt] at this;exact this)
  clear HO
  go_wp2_with fail
  go_loopw [7] (fun j wr=>∃ (j':Nat) (dj:Array Nat),j=.int .i64 j'∧j'≤i∧Hid (dj.size=n)∧Hid (Qda wr B cap dj)∧Hid (St (fun b=>b=B) w wr)∧Hid (Sort.insInner ltN 0 j' dj=Sort.insInner ltN 0 i dk)) (fun j _=>(intOf j).toNat)
  case atStart=>exact ⟨i,dk,rfl,Nat.le_refl _,HS,HK,HT,Lib.hid rfl⟩
  obtain ⟨j,dj,rfl,hj,HSj,HKj,HTj,HOj⟩:=hrel
  by_cases hj0:0<j
  ·obtain ⟨q,rfl⟩:∃ q,j=q+1:=⟨j - 1,by omega⟩
   have g2:(0:Int)<(q:Int)+1:=by omega
   have hsj:=HSj.out
   have cj:=HKj.out.cell (j:=q+1) (by omega)
   have ck:=HKj.out.cell (j:=q) (by omega)
   have fj:=HKj.out.frozen (q+1)
   have fk:=HKj.out.frozen q
   have hlB:=HKj.out.lt
   obtain ⟨x,hx⟩:∃ x,dj[q+1]! = x:=⟨_,rfl⟩
   obtain ⟨y,hy⟩:∃ y,dj[q]! = y:=⟨_,rfl⟩
   rw [hx] at cj
   rw [hy] at ck
   have hq0:(0:Int)≤(q:Int)+1:=by omega
   have hin:(q:Int)+1<(n:Int):=by omega
   have hin1:(q:Int)<(n:Int):=by omega
   have HCL:=Lib.hid (fun W=>hlc W x y)
   have HXY:=Lib.hid (And.intro hx hy)
   have HSS:=Lib.hid (show ∀ W,Ext wr W→W.cell? ⟨B,q+1,none⟩=some (.int .u64 x)∧W.cell? ⟨B,q,none⟩=some (.int .u64 y) from fun W hW=>⟨(hW.cell hlB).trans cj,(hW.cell hlB).trans ck⟩)
   clear hx hy
   have hwq:IntKind.i64.wrap (q:Int)=(q:Int):=by rw [IntKind.wrap_i64] <;> omega
   have hq00:(0:Int)≤(q:Int):=by omega
   go_wp2_with fail
   refine wp_region_held_drew (S:=(fun w'=>Ext wr w')) (by kernel_rfl) (((Ext.refl wr).drew)) (fun hHeld=>?_)
   refine Qab 0 (some 16) HSS hHeld ?_
   refine Qab 1 (some 17) HSS hHeld ?_
   refine Qab 2 (some 18) HSS hHeld ?_
   refine Qab 3 (some 19) HSS hHeld ?_
   refine Qab 4 (some 20) HSS hHeld ?_
   refine Qab 5 (some 21) HSS hHeld ?_
   refine Qab 6 (some 22) HSS hHeld ?_
   refine Qab 7 (some 23) HSS hHeld ?_
   refine Qab 8 (some 24) HSS hHeld ?_
   refine Qab 9 (some 25) HSS hHeld ?_
   refine Qab 10 (some 26) HSS hHeld ?_
   refine Qab 11 (some 27) HSS hHeld ?_
   refine Qab 12 (some 28) HSS hHeld ?_
   refine Qaa (i:=13) (by kernel_rfl) rfl (by rfl) (fun K hK=>?_)
   go_simp
   (refine (HCL.out _).mono ?_;rintro e w2 ⟨rfl,rfl⟩)
   refine hK.out _ _ (hHeld) (fun hHeld=>?_)
   clear hK K
   try simp only [Act.put,List.setIfInBounds_toArray,List.set_cons_zero,List.set_cons_succ]
   refine Qab 14 (some 30) HSS hHeld ?_
   refine wpAnyH_done (by kernel_rfl) ?_ _
   have HX2:=Lib.hid hHeld
   have hx2:=hHeld
   generalize wr.drew=w2 at *
   have cj2:=(hx2.cell hlB).trans cj
   have ck2:=(hx2.cell hlB).trans ck
   have fj2:w2.frozen? ⟨B,q+1,none⟩=false:=(HKj.out.ext hx2).frozen (q+1)
   have fk2:w2.frozen? ⟨B,q,none⟩=false:=(HKj.out.ext hx2).frozen q
   have lB2:B<w2.heap.size:=Nat.lt_of_lt_of_le hlB hx2.size
   clear hHeld hx2 cj ck fj fk
   cases hl:ltN x y
   ·have HE:=Lib.hid (show Sort.insInner ltN 0 i dk=dj by rw [←HOj.out,Sort.insInner,if_neg (by rw [HXY.out.1,HXY.out.2,hl];simp)])
    clear hl
    go_wp2_with fail
    exact ⟨⟨i+1,dj,by go_num,by omega,by omega,HSj,Lib.hid (HKj.out.ext HX2.out),Lib.hid (HTj.out.ext HX2.out),Lib.hid (by rw [←HE.out];exact HO2.out)⟩,by simp [intOf];omega⟩
   have HE:=Lib.hid (show Sort.insInner ltN 0 q (Sort.swp dj (q+1) q)=Sort.insInner ltN 0 i dk by rw [←HOj.out];conv=>rhs;rw [Sort.insInner,if_pos (by rw [HXY.out.1,HXY.out.2,hl];simp)])
   clear hl
   go_wp2_with fail
   go_region
   have hrow:=((HKj.out.ext HX2.out).swap (i:=q+1) (j:=q) (by omega) (by omega)).ext (Ext.refl _).drew
   rw [HXY.out.1,HXY.out.2] at hrow
   have hst:St (fun b=>b=B) w ((w2.setCell ⟨B,q+1,none⟩ (.int .u64 y)).setCell ⟨B,q,none⟩ (.int .u64 x)).drew:=(((HTj.out.ext HX2.out).set (p:=⟨B,q+1,none⟩) (.inr rfl) _).set (p:=⟨B,q,none⟩) (.inr rfl) _).drew
   generalize ((w2.setCell ⟨B,q+1,none⟩ (.int .u64 y)).setCell ⟨B,q,none⟩ (.int .u64 x)).drew=w3 at *
   have HR3:=Lib.hid hrow
   have HT3:=Lib.hid hst
   clear hrow hst cj2 ck2 fj2 fk2
   go_wp2_with fail
   go_roundw
   case rel=>exact ⟨q,Sort.swp dj (q+1) q,by go_num,by omega,Lib.hid (by rw [swp_size];exact hsj),HR3,HT3,HE⟩
   simp [intOf]
  obtain rfl:j=0:=by omega
  have HE:=Lib.hid (show Sort.insInner ltN 0 i dk=dj by rw [←HOj.out,Sort.insInner])
  have hlB:=HKj.out.lt
  go_wp2_with fail
  refine wp_region_held_drew (S:=(fun w'=>Ext wr w')) (by kernel_rfl) (((Ext.refl wr).drew)) (fun hHeld=>?_)
  refine Qah 0 (some 16) hHeld ?_
  refine Qah 1 (some 17) hHeld ?_
  refine Qah 2 (some 18) hHeld ?_
  refine Qah 3 (some 19) hHeld ?_
  refine QaX 4 (some 20) hHeld ?_
  refine QaX 5 (some 21) hHeld ?_
  refine QaX 6 (some 22) hHeld ?_
  refine QaX 7 (some 23) hHeld ?_
  refine QaX 8 (some 24) hHeld ?_
  refine QaX 9 (some 25) hHeld ?_
  refine QaX 10 (some 26) hHeld ?_
  refine QaX 11 (some 27) hHeld ?_
  refine QaX 12 (some 28) hHeld ?_
  refine QaX 13 (some 29) hHeld ?_
  refine Qah 14 (some 30) hHeld ?_
  refine wpAnyH_done (by kernel_rfl) ?_ _
  have HX2:=Lib.hid hHeld
  clear hHeld
  go_wp2_with fail
  exact ⟨⟨i+1,dj,by go_num,by omega,by omega,HSj,Lib.hid (HKj.out.ext HX2.out),Lib.hid (HTj.out.ext HX2.out),Lib.hid (by rw [←HE.out];exact HO2.out)⟩,by simp [intOf];omega⟩
 have g1:¬(i:Int)<(n:Int):=by omega
 have HO2:=Lib.hid (show dk=Sort.insertionSort ltN d 0 n by rw [←HO.out,Sort.insOuter,if_neg hlt])
 clear HO
 go_wp2_with fail
 go_end0
 rw [←HO2.out]
 exact ⟨rfl,HK.out,HT.out⟩
theorem Qfd (w:World) (x:Nat) (hx:x≤12):Calls Tryz.prog 141 #[.int .u64 x] w fun e w'=>(∃ l:Int,e=.returned (.int .i64 l))∧w=w':=by
 have g1:¬(4294967296:Int)≤(x:Int):=by omega
 have g2:¬(65536:Int)≤(x:Int):=by omega
 have g3:¬(256:Int)≤(x:Int):=by omega
 go_enter Tryz.func141,Tryz.ntmps141
 go_wp2_with fail
 go_ret
 exact ⟨⟨_,rfl⟩,rfl⟩
theorem Qdx (w:World) (x:Nat) (hx:x≤12):Calls Tryz.prog 110 #[.int .u64 x] w fun e w'=>(∃ l:Int,e=.returned (.int .i64 l))∧w=w':=by
 have hc:=Qfd w x hx
 go_enter Tryz.func110,Tryz.ntmps110
 go_wp2_with fail
 refine hc.mono ?_
 rintro e w' ⟨⟨l,rfl⟩,rfl⟩
 go_wp2_with fail
 go_ret
 exact ⟨⟨_,rfl⟩,rfl⟩
theorem Qg8 {w:World} {B cap:Nat} {d:Array Nat} (h:Qda w B cap d) (hs:d.size≤12) (hcm:cap≤maxLen) (l:Int) :
  Calls Tryz.prog 109 #[.slice (some ⟨B,0,none⟩) d.size cap,.int .i64 0,.int .i64 d.size,.int .i64 l] w fun e w'=>e=.returned (.tuple #[])∧Qda w' B cap (Sort.insertionSort ltN d 0 d.size)∧St (fun b=>b=B) w w':=by
 have hc:=QiJ h (by omega) hcm
 obtain ⟨d',hd'⟩:∃ d',Sort.insertionSort ltN d 0 d.size=d':=⟨_,rfl⟩
 rw [hd'] at hc ⊢
 obtain ⟨n,hn⟩:∃ n,d.size=n:=⟨_,rfl⟩
 rw [hn] at hc hs ⊢
 have g1:(n:Int)≤12:=by omega
 have HC:=Lib.hid hc
 clear h hc hd' hn
 go_enter Tryz.func109,Tryz.ntmps109
 go_wp2_with fail
 go_loopw [1,2,3,8,9] (fun a b q x y wr=>a=.int .i64 0∧b=.int .i64 n∧wr=w) (fun _ _ _ _ _ _=>0)
 case atStart=>exact ⟨rfl,rfl,rfl⟩
 obtain ⟨rfl,rfl,rfl⟩:=hrel
 go_wp2_with fail
 refine HC.out.mono ?_
 rintro e w1 ⟨rfl,hr,hst⟩
 have HR:=Lib.hid hr
 have HST:=Lib.hid hst
 clear hr hst
 go_wp2_with fail
 refine bodyPost_ret (v:=.tuple #[]) (by simp [results,Tryz.results109,go_sem]) rfl ?_
 exact ⟨rfl,HR.out,HST.out⟩
theorem Qf5 {w:World} {B cap:Nat} {d:Array Nat} (h:Qda w B cap d) (hs:d.size≤12) (hcm:cap≤maxLen) :
  Calls Tryz.prog 82 #[.slice (some ⟨B,0,none⟩) d.size cap] w fun e w'=>e=.returned (.tuple #[])∧Qda w' B cap (Sort.insertionSort ltN d 0 d.size)∧St (fun b=>b=B) w w':=by
 have hc:=fun l=>Qg8 h hs hcm l
 obtain ⟨d',hd'⟩:∃ d',Sort.insertionSort ltN d 0 d.size=d':=⟨_,rfl⟩
 rw [hd'] at hc ⊢
 obtain ⟨n,hn⟩:∃ n,d.size=n:=⟨_,rfl⟩
 rw [hn] at hc hs ⊢
 have hb:=Qdx w n hs
 have HC:=Lib.hid hc
 clear h hc hd' hn
 go_enter Tryz.func82,Tryz.ntmps82
 go_wp2_with fail
 refine hb.mono ?_
 rintro e w1 ⟨⟨l,rfl⟩,rfl⟩
 go_wp2_with fail
 refine (HC.out l).mono ?_
 rintro e w1 ⟨rfl,hr,hst⟩
 have HR:=Lib.hid hr
 have HST:=Lib.hid hst
 clear hr hst
 go_wp2_with fail
 go_end0
 exact ⟨rfl,HR.out,HST.out⟩
theorem QkJ {d:Array Nat} {ids:List Nat} (hp:d.toList.Perm ids) (hr:ids.Pairwise (·<·)):(Sort.insertionSort ltN d 0 d.size).toList=ids:=by
 obtain ⟨⟨h1,-,h3⟩,h2⟩:=Sort.insertionSort_holds Qon d 0 d.size (Nat.zero_le _) (Nat.le_refl _)
 generalize Sort.insertionSort ltN d 0 d.size=d' at *
 have e1:d'.extract 0 d.size=d':=by rw [←h1];simp
 have e2:d.extract 0 d.size=d:=by simp
 rw [e1,e2] at h3
 refine List.Perm.eq_of_pairwise (le:=fun a b=>a≤b) (fun a b _ _=>Nat.le_antisymm) ?_ (hr.imp Nat.le_of_lt) (h3.trans hp)
 rw [List.pairwise_iff_getElem]
 intro i j hi hj hij
 have hi':i<d'.size:=by simpa using hi
 have hj':j<d'.size:=by simpa using hj
 have:=h2 i j (Nat.zero_le _) hij (by omega)
 rw [getElem!_pos d' j hj',getElem!_pos d' i hi'] at this
 simp only [ltN,decide_eq_false_iff_not,Nat.not_lt] at this
 simpa using this
end Go.Proofs.YtohajcflklejjaaGreat
namespace Go.Proofs.YtohajcflklejjaaGreat
open Go.RowKit Go.Maps Go.Shelf
set_option linter.unusedVariables false
set_option linter.unusedSimpArgs false
attribute [local go_sem] Oper.semAt_some
theorem Qdm {H:Type} {P:Program} {k:TypeId} {R:Value→Option (DataW H × List MemPlace)} {w:World} {b r n:Nat} {D:DataW H} {left:Lit→Bool} {cnt:Nat} (h:w.ranges P k R b r n D left cnt) (o:Nat):w.frozen? ⟨r,o,none⟩=false:=by
 obtain ⟨es,clock,since,seen,c0,-,-,-,-,h5,-⟩:=h
 simp [World.frozen?,h5]
theorem Qdk {w:World} {b o:Nat} (h:w.heap.size≤b):w.frozen? ⟨b,o,none⟩=false:=frozen_none h
theorem Qom {H:Type} {P:Program} {k:TypeId} {R:Value→Option (DataW H × List MemPlace)} {w w':World} {b r n n':Nat} {D D':DataW H} {left left':Lit→Bool} {cnt cnt':Nat} (h:w.ranges P k R b r n D left cnt) (h':w'.ranges P k R b r n' D' left' cnt') (hg:w.grownBy w' (some r)) (hs:w'.heap.size=w.heap.size) :
  St (fun c=>c=r) w w':=
 ⟨hg.os,hg.tape,hg.output,hg.size,fun c hc hn=>hg.block c hc (by intro e;injection e with e;exact hn e),fun c o=>by
   by_cases e:c=r
   ·subst e;rw [Qdm h,Qdm h']
   by_cases hl:c<w.heap.size
   ·exact World.frozen?_of_block (hg.block c hl (by intro e';injection e' with e';exact e e'))
   rw [Qdk (by omega),Qdk (by omega)]⟩
theorem Qlt {H:Type} {P:Program} {k:TypeId} {R:Value→Option (DataW H × List MemPlace)} {w w':World} {b n:Nat} {D:DataW H} {left:Lit→Bool} {cnt:Nat} (h':w'.ranges P k R b w.heap.size n D left cnt) (hg:w.grownBy w' none) (hs:w'.heap.size=w.heap.size+1):Ext w w':=
 ⟨⟨hg.os,hg.tape,hg.output,hg.size,fun c hc=>hg.block c hc (by simp)⟩,fun c o hc=>by
   by_cases e:c=w.heap.size
   ·subst e;exact Qdm h' o
   exact Qdk (by omega)⟩
def QeI (L:Qbc) (left:Lit→Bool) (ss:List Nat):Prop:=ss.Nodup∧∀ x,x∈ss↔(Maps.has (mapD L) (Qc7 x)=true∧left (Qc7 x)=false)
structure Qpe (L:Qbc) (J:List Nat→(Nat→Prop)→(Nat→Prop)→World→Prop) (C:Nat→Prop) (W:World) (b g:Nat) (left:Lit→Bool) (cnt:Nat) (ss:List Nat) (C' D:Nat→Prop) (Wj wr:World):Prop where
 rg:wr.ranges Tryz.prog 34 ivR b W.heap.size g (mapD L) left cnt
 co:QeI L left ss
 j:J ss C' D Wj
 st:St D Wj wr
 d:∀ c,D c→c=W.heap.size
 dn:D W.heap.size∨Wj.heap.size≤W.heap.size
 sub:∀ c,C' c→C c∨W.heap.size+1≤c
 big:W.heap.size+1≤wr.heap.size
theorem QeI.start (L:Qbc):QeI L (Maps.has (mapD L)) []:=⟨List.nodup_nil,fun x=>by cases Maps.has (mapD L) (Qc7 x) <;> simp⟩
theorem QeI.step {L:Qbc} {left:Lit→Bool} {ss:List Nat} (h:QeI L left ss) {x:Nat} {y:DataW Unit} (hlk:left (Qc7 x)=true) (hat:∀ zd,(mapD L).atKey (Qc7 x) zd=y):QeI L (fun z=>left z && !z.sameKey (Qc7 x)) (ss++[x]):=by
 have hhas:Maps.has (mapD L) (Qc7 x)=true:=Maps.has_true_of_atKey hat
 have hnew:x∉ss:=fun hx=>by have:=((h.2 x).1 hx).2;rw [hlk] at this;cases this
 refine ⟨List.nodup_append.2 ⟨h.1,by simp,fun a ha b hb=>by simp at hb;subst hb;exact fun e=>hnew (e▸ha)⟩,fun y=>?_⟩
 simp only [QcU]
 by_cases hy:y=x
 ·subst hy;simp [hhas]
 simp [h.2 y,hy]
theorem QjF:∀ {ss l:List Nat},ss.Nodup→(∀ x∈ss,x∈l)→ss.length≤l.length
 | [],l,_,_=>Nat.zero_le _
 | a :: ss,l,hn,hs=>by
   have ha:=hs a (List.mem_cons_self ..)
   have hn':=List.nodup_cons.1 hn
   have:=QjF (ss:=ss) (l:=l.erase a) hn'.2 fun x hx=>(List.mem_erase_of_ne (fun e=>hn'.1 (by rw [←e];exact hx))).2 (hs x (List.mem_cons_of_mem _ hx))
   have he:=List.length_erase_of_mem ha
   have:0<l.length:=List.length_pos_of_mem ha
   simp only [List.length_cons]
   omega
theorem QeI.less {L:Qbc} {left:Lit→Bool} {ss:List Nat} (h:QeI L left ss) {x:Nat} {y:DataW Unit} (hlk:left (Qc7 x)=true) (hat:∀ zd,(mapD L).atKey (Qc7 x) zd=y):ss.length<L.length:=by
 have h2:=h.step hlk hat
 have:=QjF (l:=L.map (·.1)) h2.1 fun z hz=>by
  have:=((h2.2 z).1 hz).1
  rw [Qe4] at this
  simpa using this
 simp at this
 omega
theorem QeI.perm {L:Qbc} {left:Lit→Bool} {ss:List Nat} (h:QeI L left ss) (hl:∀ kl,left kl=false) (hr:L.Pairwise (fun p q=>p.1<q.1)):ss.Perm (L.map (·.1)):=by
 have hn:(L.map (·.1)).Nodup:=List.pairwise_map.2 (hr.imp fun h e=>by omega)
 refine (List.perm_ext_iff_of_nodup h.1 hn).2 fun x=>?_
 rw [h.2 x,hl,Qe4]
 simp
abbrev Qn4 (x:Nat):Array Value:=#[.int .u64 (x:Int)]
theorem Qop {x:Int} (h:(Lit.int .u64 x).wf=true):∃ n:Nat,x=(n:Int)∧n≤18446744073709551615:=by
 simp [Lit.wf,IntKind.min,IntKind.max,IntKind.signed,IntKind.bits] at h
 exact ⟨x.toNat,by omega,by omega⟩
theorem QjC {w0:World} {Bm b g:Nat} {L:Qbc} (hB:Blk w0 Bm 35 #[.map (some b)]) (hown:w0.ownsMap Tryz.prog 34 ivR b g (mapD L)) (hr:L.Pairwise (fun p q=>p.1<q.1)) :
  Qhm Tryz.prog 83 #[.pointer (some ⟨Bm,0,none⟩)] Qn4 (fun c=>c=Bm∨c=b) (fun _ pre _ _ _=>pre.length<L.length) (fun xs=>xs.Perm (L.map (·.1))) (fun _=>True) w0:=by
 intro l J Jx C W hT hA hsz hCK hJ
 have hBW:Blk W Bm 35 #[.map (some b)]:=hB.agree hA (.inl rfl)
 have hoW:=QaM hown (hA b (.inr rfl))
 have hlt:=hT.lt [] C _ W hJ
 have hbl:=hoW.lt
 have hBl:=hBW.lt
 have c0:W.cell? ⟨Bm,0,none⟩=some (.map (some b)):=hBW.cell 0
 have HT:=Lib.hid hT
 have HJ:=Lib.hid hJ
 have HCK:=Lib.hid hCK
 have HLT:=Lib.hid hlt
 have HOW:=Lib.hid hoW
 have HRI:=Lib.hid hr
 clear hT hA hsz hCK hJ hB hown hBW hlt hoW hr
 show Calls _ _ #[.func (.yield l) #[] #[],.pointer (some ⟨Bm,0,none⟩)] W _
 refine (callsIn_wide (n:=5)).1 ?_
 refine callsIn_of_wp Tryz.func83 rfl trivial ?_ rfl
 simp only [Tryz.ntmps83,List.size_toArray,List.length_cons,List.length_nil,Nat.reduceAdd,Nat.reduceSub,Array.replicate_succ,Array.replicate_zero,List.push_toArray,List.append_toArray,List.nil_append,List.cons_append]
 gi_wp2_with (first | (gi_at_range;refine wpListIn_range_own _ rfl _ 35 rfl 34 107 QeE Tryz.underlying35 ivR b g _ rfl HOW.out ?_;intro w1 hrg0 hg0 hs0) | fail)
 have hx1:Ext W w1:=Qlt hrg0 hg0 hs0
 have HX1:=Lib.hid hx1
 have HRG:=Lib.hid hrg0
 clear hx1 hrg0 hg0
 gi_loopw [3] (fun _ wr=>∃ (left:Lit→Bool) (cnt:Nat) (ss:List Nat) (C' D:Nat→Prop) (Wj:World),Qpe L J C W b g left cnt ss C' D Wj wr) (fun _ wr=>wr.rangeLeft b W.heap.size)
 case atStart=>exact ⟨_,_,[],C,_,W,HRG.out,QeI.start L,HJ.out,HX1.out.st _,fun c h=>h.elim,.inr (Nat.le_refl _),fun c h=>.inl h,by omega⟩
 obtain ⟨left,cnt,ss,C',D,Wj,hS⟩:=hrel
 have HS:=Lib.hid hS
 have hrg:=hS.rg
 clear hS
 gi_wp2_with (first | (gi_at_next;refine wpListIn_next_ranges _ rfl _ rfl 34 QeE ivR (Value.int .u64) id (fun key kl hk=>by obtain ⟨x,hx,_⟩:=Maps.keyOf_int_inv Tryz.underlying34 hk;exact ⟨x,hx⟩) (fun v _ _=>⟨v,rfl⟩) b W.heap.size g _ _ _ rfl hrg ?_ ?_) | fail)
 ·intro hc0 hl0
  have HP:=Lib.hid (HS.out.co.perm hl0 HRI.out)
  clear hrg
  gi_wp2_with fail
  go_end0
  exact ⟨⟨_,rfl⟩,.inl ⟨ss,C',D,Wj,HP.out,HS.out.j,HS.out.st,fun c hc=>by have:=HS.out.d c hc;omega⟩⟩
 intro x c kl yd yp w2 cnt2 hkey hlk hv hat hrg2 hcl hg2 hs2 hen
 obtain ⟨x',ex,rfl,hwx⟩:=Maps.keyOf_int_inv Tryz.underlying34 hkey
 cases ex
 obtain ⟨n,rfl,hn⟩:=Qop hwx
 have hst1:St (fun c=>c=W.heap.size) Wj w2:=(HS.out.st.mono fun i _ hi=>HS.out.d i hi).trans (Qom hrg hrg2 hg2 hs2)
 have hst2:St D Wj w2:=hst1.mono fun i hi e=>by
  subst e
  rcases HS.out.dn with h | h
  ·exact h
  omega
 have hbig:=HS.out.big
 have hy:=HT.out.take ss C' D (fun c=>c=W.heap.size) n Wj w2 HS.out.j hst2 (fun c e=>by subst e;exact HS.out.dn) (fun c e=>by subst e;omega) (fun c hc e=>by
  subst e
  rcases HS.out.sub _ hc with h | h
  ·have:=HLT.out _ h;omega
  omega) (QeI.less HS.out.co hlk hat)
 obtain ⟨fn,tmps,assign,body,hy,hR⟩:=hy
 have HR:=Lib.hid hR
 have HCO:=Lib.hid (HS.out.co.step (x:=n) hlk hat)
 have HRG2:=Lib.hid hrg2
 have HRG1:=Lib.hid hrg
 have hbg2:W.heap.size+1≤w2.heap.size:=by omega
 clear hR hst1 hst2 hrg2 hrg hat hg2 hlk hv hkey hwx
 dsimp only [Qn4] at hy
 gi_wp2_with fail
 refine HR.out.mono ?_
 rintro e w3 (⟨rfl,C6,hj6,hst6,hsub6⟩ | ⟨rfl,hjx,hst6⟩)
 ·have hnC:∀ c,c<W.heap.size+1→C' c→C c:=fun c hc h=>by
   rcases HS.out.sub c h with h | h
   ·exact h
   omega
  have hnr:¬C' W.heap.size:=fun h=>by have:=HLT.out _ (hnC _ (Nat.lt_succ_self _) h);omega
  have hnb:¬C' b:=fun h=>HCK.out b (hnC b (by omega) h) (.inr rfl)
  have hrg3:w3.ranges Tryz.prog 34 ivR b W.heap.size g (mapD L) (fun z=>left z && !z.sameKey (Qc7 n)) cnt2:=by
   obtain ⟨es,clock,since,seen,c0,h1,h2,h3,h4,h5,h6⟩:=HRG2.out
   exact ⟨es,clock,since,seen,c0,(hst6.block b (by omega) hnb).trans h1,h2,h3,h4,(hst6.block _ (by omega) hnr).trans h5,h6⟩
  have hz6:=hst6.size
  have HS3:=Lib.hid (show Qpe L J C W b g (fun z=>left z && !z.sameKey (Qc7 n)) cnt2 (ss++[n]) C6 (fun c=>c=W.heap.size) w3 w3 from
   ⟨hrg3,HCO.out,hj6,St.refl _ _,fun c h=>h,.inl rfl,fun c h=>by
     rcases hsub6 c h with h | h
     ·exact HS.out.sub c h
     exact .inr (by omega),by omega⟩)
  clear hj6 hst6 hsub6 hrg3 hy
  gi_wp2_with fail
  go_roundw
  case rel=>exact ⟨_,_,_,_,_,_,HS3.out⟩
  rw [HS3.out.rg.left_eq,HRG1.out.left_eq];exact hcl
 have HJX:=Lib.hid hjx
 clear hjx hy
 gi_wp2_with fail
 refine bodyPost_ret (v:=.tuple #[]) (by simp [results,Tryz.results83,go_sem]) rfl ?_
 exact ⟨⟨_,rfl⟩,.inr ⟨_,_,w3,trivial,HJX.out,St.refl _ _,fun c h=>by omega⟩⟩
end Go.Proofs.YtohajcflklejjaaGreat
namespace Go.Proofs.YtohajcflklejjaaGreat
open Go.RowKit Go.Maps Go.Shelf
set_option linter.unusedVariables false
set_option linter.unusedSimpArgs false
attribute [local go_sem] Oper.semAt_some
abbrev Qcj (x:Nat):Value:=.int .u64 (x:Int)
theorem Tryz.QlE:(Tryz.prog.info? 34).map (fun i=>(i.zero,i.size,i.bytes))=some (some (.int .u64 0),1,8):=by kernel_rfl
structure QfW (w:World) (B:Nat) (xs:List Nat) (C D:Nat→Prop) (W:World):Prop where
 ex:∃ s:Sl,(C=fun b=>b=B∨s.row=some b)∧Blk W B 63 #[.slice s.a xs.length s.c]∧W.ownsRow (w.heap.size+2) 34 1 (.slice s.a xs.length s.c) xs.length (xs.map Qcj)
 st:St (fun b=>b=B) w W
 sz:w.heap.size+2≤W.heap.size
 dis:∀ b,C b→¬D b
 dlo:∀ b,D b→w.heap.size+2≤b
theorem QfW.start {w W:World} {L:Nat} (hb:Blk w L 63 #[.slice none 0 0]) (hx:Ext w W) (hz:w.heap.size+2≤W.heap.size):QfW w L [] (fun b=>b=L) (fun _=>False) W:=
 ⟨⟨Sl.none,by funext b;simp [Sl.row],hb.ext hx,World.ownsRow_nil _ _ _ _⟩,hx.st _,hz,fun _ _ h=>h,fun _ h=>h.elim⟩
theorem QfW.turn {w W W':World} {L:Nat} {xs:List Nat} {C D:Nat→Prop} (h:QfW w L xs C D W) (hL:L<w.heap.size) (k:St (fun b=>b=w.heap.size+1) W W'):QfW w L xs C D W':=by
 obtain ⟨⟨s,h1,h2,h3⟩,h5,h6,h7,h8⟩:=h
 exact ⟨⟨s,h1,k.blk h2 (by omega),Qad h3 k.agree fun b hb=>⟨(Qac h3 hb).2,by have:=(Qac h3 hb).1;omega⟩⟩,h5.then k (fun i hi e=>by omega),Nat.le_trans h6 k.size,h7,h8⟩
theorem Qll {w W0 W3 W4 w5:World} {L:Nat} {s s3:Sl} {xs:List Nat} {x:Nat} {D D1:Nat→Prop} (hL:L<w.heap.size) (h0:QfW w L xs (fun b=>b=L∨s.row=some b) D W0) (hblk:Blk W0 L 63 #[.slice s.a xs.length s.c]) (ho:W0.ownsRow (w.heap.size+2) 34 1 (.slice s.a xs.length s.c) xs.length (xs.map Qcj))
  (h03:St (fun b=>D b∨b=w.heap.size+1) W0 W3) (hD1:∀ b,D1 b→D b∨W0.heap.size≤b) (hD1l:∀ b,D1 b→w.heap.size+2≤b∧b<W3.heap.size) (hCD:∀ b,(b=L∨s.row=some b)→¬D1 b)
  (h34:Ext W3 W4) (hown:w5.ownsRow (w.heap.size+2) 34 1 (.slice s3.a (xs.length+1) s3.c) (xs.length+1) (xs.map Qcj++[Qcj x])) (hwr:Wr W4 w5 s.row) (hs3:s3.a=s.a∨s3.a=some ⟨W4.heap.size,0,none⟩∧Wr W4 w5 none) :
  QfW w L (xs++[x]) (fun b=>b=L∨s3.row=some b) D1 (w5.setCell ⟨L,0,none⟩ (.slice s3.a (xs.length+1) s3.c))∧St (fun b=>b=L∨s.row=some b) W3 (w5.setCell ⟨L,0,none⟩ (.slice s3.a (xs.length+1) s3.c))∧
   (∀ b,(b=L∨s3.row=some b)→(b=L∨s.row=some b)∨W3.heap.size≤b)∧(∀ b,(b=L∨s3.row=some b)→b<(w5.setCell ⟨L,0,none⟩ (.slice s3.a (xs.length+1) s3.c)).heap.size):=by
 have hrow0:∀ b,s.row=some b→w.heap.size+2≤b∧b<W0.heap.size:=fun b hb=>Qac ho hb
 have hs03:=h03.size
 have hs34:=h34.size
 have hs45:=hwr.grown.size
 have hsz:=h0.sz
 have hs2:∀ b,s3.row=some b→s.row=some b∨W4.heap.size≤b:=by
  intro b hb
  rcases hs3 with h | ⟨h,-⟩
  ·exact .inl (by rw [←hb];simp [Sl.row,h])
  right;rw [Sl.row,h] at hb;simp at hb;omega
 have hset:St (fun b=>b=L) w5 (w5.setCell ⟨L,0,none⟩ (.slice s3.a (xs.length+1) s3.c)):=(St.refl (fun b=>b=L) w5).set (p:=⟨L,0,none⟩) (.inr rfl) _
 have hst45:St (fun b=>s.row=some b) W4 w5:=hwr.st fun i hi=>hi
 have hst36:St (fun b=>b=L∨s.row=some b) W3 (w5.setCell ⟨L,0,none⟩ (.slice s3.a (xs.length+1) s3.c)):=((h34.st _).trans (hst45.mono fun i _ hi=>.inr hi)).trans (hset.mono fun i _ hi=>.inl hi)
 have hL0:¬(D L∨L=w.heap.size+1):=fun h=>h.elim (h0.dis L (.inl rfl)) (by omega)
 have hB5:Blk w5 L 63 #[.slice s.a xs.length s.c]:=hst45.blk ((h03.blk hblk hL0).ext h34) (fun e=>by have:=(hrow0 L e).1;omega)
 have hrow5:∀ b,s3.row=some b→b<w5.heap.size:=fun b hb=>(Qac hown hb).2
 refine ⟨⟨⟨s3,rfl,by rw [List.length_append,List.length_singleton];exact hB5.QaN 0 _,?_⟩,?_,?_,fun b hb hD=>?_,fun b hb=>(hD1l b hb).1⟩,hst36,fun b hb=>?_,fun b hb=>?_⟩
 ·rw [List.length_append,List.length_singleton,List.map_append]
  exact Qad hown hset.agree fun b hb=>⟨hrow5 b hb,fun e=>by
   rcases hs2 b hb with h | h
   ·have:=(hrow0 b h).1;omega
   omega⟩
 ·refine (h0.st.then h03 (fun i hi e=>?_)).then hst36 fun i hi e=>?_
  ·rcases e with e | e
   ·have:=h0.dlo i e;omega
   omega
  rcases e with e | e
  ·exact e
  have:=(hrow0 i e).1;omega
 ·rw [World.size_setCell];omega
 ·have:=(hD1l b hD).2
  rcases hb with e | e
  ·exact hCD b (.inl e) hD
  rcases hs2 b e with e | e
  ·exact hCD b (.inr e) hD
  omega
 ·rcases hb with e | e
  ·exact .inl (.inl e)
  exact (hs2 b e).imp .inr (fun h=>by omega)
 rw [World.size_setCell]
 rcases hb with e | e
 ·omega
 exact hrow5 b e
theorem QgL {w:World} {gf:Nat} {lb:Array Value} {K:Nat→Prop} {S:List Nat→Prop} {N:Nat} (hN:N≤1000000) (eg:∀ args w,(callFunc gf args).run Tryz.prog w=.ok (.enter gf args) w)
  (hseq:∀ W,Ext w W→Qhm Tryz.prog gf lb Qn4 K (fun _ pre _ _ _=>pre.length<N) S (fun _=>True) W) (hK:∀ b,K b→b<w.heap.size) :
  Calls Tryz.prog 108 #[.slice none 0 0,.func (.func gf) #[] lb] w fun e w'=>∃ (s:Sl) (xs:List Nat),e=.returned (.slice s.a xs.length s.c)∧S xs∧w'.ownsRow w.heap.size 34 1 (.slice s.a xs.length s.c) xs.length (xs.map Qcj)∧Ext w w':=by
 obtain ⟨i0,hi,hz0,hz1,hz2⟩:=info_parts Tryz.QlE
 have HSE:=Lib.hid hseq
 have HK:=Lib.hid hK
 clear hseq hK
 refine (callsIn_wide (n:=6)).1 ?_
 refine callsIn_of_wp_marks Tryz.func108 rfl trivial ?_ rfl
 simp only [Tryz.ntmps108,List.size_toArray,List.length_cons,List.length_nil,Nat.reduceAdd,Nat.reduceSub,Array.replicate_succ,Array.replicate_zero,List.push_toArray,List.append_toArray,List.nil_append,List.cons_append]
 gi_wp2_with fail
 generalize hW0:World.alloc _ _=w1
 have hx1:Ext w w1:=by rw [←hW0];exact (Ext.refl w).alloc _ _
 have hz1':w1.heap.size=w.heap.size+1:=by rw [←hW0];simp
 have HL:=Lib.hid (show Blk w1 w.heap.size 63 #[.slice none 0 0] by rw [←hW0];exact Blk.new w _ _)
 have HX1:=Lib.hid hx1
 have HSQ:=Lib.hid (HSE.out w1 hx1)
 have hL1:w.heap.size<w1.heap.size:=by omega
 clear hW0 hx1 HSE hz1'
 refine QeH (gf:=gf) (lb:=lb) rfl eg HSQ.out (Agree.refl _) (Nat.le_refl _)
  (fun b hb=>by have:=HK.out b hb;omega) (fun _=>rfl)
  (fun pre C D W=>QfW w1 w.heap.size pre C D W∧pre.length≤1000000) (fun _ _ _ _=>False) (fun b=>b=w.heap.size)
  (fun b hb=>⟨by omega,fun h=>by have:=HK.out b h;omega⟩)
  (fun h k=>⟨h.1.turn hL1 k,h.2⟩) (fun h k=>h) (fun W hW hz=>⟨QfW.start HL.out hW hz,by simp⟩) ?round ?done ?stop
 case stop=>
  rintro D c pre Di W0' W hD hSp hX
  exact hX.elim
 case round=>
  rintro pre C D D1 x W0' W1 ⟨⟨⟨s,rfl,hblk,hown⟩,hst,hsz',hdis,hdlo⟩,hpl⟩ hlt hsz hnL hx01 hD1 hD1l hCD hG
  have hpl':pre.length<1000000:=by omega
  have HI:=Lib.hid (show QfW w1 w.heap.size pre (fun b=>b=w.heap.size∨s.row=some b) D W0' from ⟨⟨s,rfl,hblk,hown⟩,hst,hsz',hdis,hdlo⟩)
  have HBLK:=Lib.hid hblk
  have HOWN:=Lib.hid hown
  have HX01:=Lib.hid hx01
  have HD1:=Lib.hid hD1
  have HD1L:=Lib.hid hD1l
  have HCD:=Lib.hid hCD
  clear hblk hown hst hdis hdlo hx01 hD1 hD1l hCD hG hnL hlt
  gi_wp2_with fail
  refine ⟨Ext.refl _,fun W3 k3=>?_⟩
  have hs1W:=HX01.out.size
  have h13:St (fun b=>b=w1.heap.size+1) W1 W3:=k3
  have h03:St (fun b=>D b∨b=w1.heap.size+1) W0' W3:=(HX01.out.mono fun i _ hi=>.inl hi).trans (h13.mono fun i _ hi=>.inr hi)
  have hrow0:∀ b,s.row=some b→w1.heap.size+2≤b∧b<W0'.heap.size:=fun b hb=>Qac HOWN.out hb
  have hnd:∀ b,(b=w.heap.size∨s.row=some b)→¬(D b∨b=w1.heap.size+1):=fun b hb e=>e.elim (HI.out.dis b hb) (fun e=>by
   rcases hb with h | h
   ·omega
   have:=(hrow0 b h).1;omega)
  have hL3:=h03.blk HBLK.out (hnd _ (.inl rfl))
  have cL:W3.cell? ⟨w.heap.size,0,none⟩=some (.slice s.a pre.length s.c):=hL3.cell 0
  have fL:=hL3.frozen 0
  have lL:=hL3.lt
  have hx34:Ext W3 (W3.alloc (.cells #[Qcj x] 34)):=(Ext.refl W3).alloc _ _
  have hown4:=Qad (Qad HOWN.out h03.agree fun b hb=>⟨(hrow0 b hb).2,hnd b (.inr hb)⟩) (hx34.agree fun b (hb:b<W3.heap.size)=>hb) (fun b hb=>by have:=(hrow0 b hb).2;have:=h03.size;omega)
  have h63:pre.length+1≤maxLen:=by unfold maxLen;omega
  have hby:(pre.length+1)*8≤140737488355328:=by omega
  have hs03:=h03.size
  have hbase:w1.heap.size+2≤(W3.alloc (.cells #[Qcj x] 34)).heap.size:=by rw [World.size_alloc];omega
  have hs13:=h13.size
  have H03:=Lib.hid h03
  have HX34:=Lib.hid hx34
  have HOWN4:=Lib.hid hown4
  have HBN:=Lib.hid (Blk.new W3 34 #[Qcj x])
  have hneL:s.row≠some w.heap.size:=fun e=>by have:=(hrow0 _ e).1;omega
  have fLX:=Lib.hid ((hx34.frozen (o:=0) lL).trans fL)
  have HD13:=Lib.hid (show ∀ b,D1 b→w1.heap.size+2≤b∧b<W3.heap.size from fun b hb=>⟨(HD1L.out b hb).1,Nat.lt_of_lt_of_le (HD1L.out b hb).2 hs13⟩)
  have hneW:¬w.heap.size=W3.heap.size:=by omega
  clear k3 h03 h13 hL3 hx34 hown4 hnd fL
  gi_wp2_with (gi_at_builtin;refine Qck _ rfl (.tmp 8) (.tmp 10) 63 rfl (w1.heap.size+2) 34 i0 _ 1 8 Tryz.underlying63 hi hz0 hz1 hz2 rfl (by decide) s pre.length (pre.map Qcj) rfl HOWN4.out (fun b=>b=W3.heap.size) ⟨some ⟨W3.heap.size,0,none⟩,1⟩ 1 [Qcj x] rfl (Rd.block HBN.out (by decide) rfl) (by simp [Value.oneCell']) h63 hby hbase ?_;intro s3 w5 hown5 hwr5 hs5;have h5:=hwr5.cell0 (o:=0) HX34.out hneL lL;have cL5:w5.cell? ⟨w.heap.size,0,none⟩=some (.slice s.a pre.length s.c):=h5.1.trans cL;have lL5:=h5.2;have fL5:w5.frozen? ⟨w.heap.size,0,none⟩=false:=(hwr5.fz _ _).trans (fLX.out);have HO5:=Lib.hid hown5;have HW5:=Lib.hid hwr5;have HS5:=Lib.hid hs5;clear hown5 hwr5 hs5 h5)
  obtain ⟨e1,e2,e3,e4⟩:=Qll hL1 HI.out HBLK.out HOWN.out H03.out HD1.out HD13.out HCD.out HX34.out HO5.out HW5.out HS5.out
  exact ⟨_,⟨e1,by rw [List.length_append,List.length_singleton];omega⟩,e2,e3,e4⟩
 rintro D xs C Di W5 W hD hS ⟨⟨⟨s,rfl,hblk,hown⟩,hst,hsz',hdis,hdlo⟩,hpl⟩ hx5 hDi hDk
 have hrow0:∀ b,s.row=some b→w1.heap.size+2≤b∧b<W5.heap.size:=fun b hb=>Qac hown hb
 have hnl:¬(Di w.heap.size∨w.heap.size=w1.heap.size+1):=fun e=>e.elim (hdis _ (.inl rfl)) (by omega)
 have hL5:=hx5.blk hblk hnl
 have cL:W.cell? ⟨w.heap.size,0,none⟩=some (.slice s.a xs.length s.c):=hL5.cell 0
 have lL:=hL5.lt
 have hDl:=(Array.getElem?_eq_some_iff.1 hDk).1
 have hk':St (fun b=>b=D) W (W.putObj D (.deferred none)):=St.put hDk rfl rfl
 have hs5:=hx5.size
 have hsk:=hk'.size
 have hall':St (fun b=>Di b∨b=w1.heap.size+1∨b=D) W5 (W.putObj D (.deferred none)):=(hx5.mono (G:=fun b=>Di b∨b=w1.heap.size+1∨b=D) fun i _ hi=>hi.elim .inl fun h=>.inr (.inl h)).trans (hk'.mono fun i _ hi=>.inr (.inr hi))
 have hfin:(W.putObj D (.deferred none)).ownsRow w.heap.size 34 1 (.slice s.a xs.length s.c) xs.length (xs.map Qcj)∧Ext w (W.putObj D (.deferred none)):=by
  refine ⟨?_,?_⟩
  ·have ho:=Qad hown hall'.agree fun b hb=>⟨(hrow0 b hb).2,fun e=>by
    rcases e with e | e | e
    ·exact hdis b (.inr hb) e
    ·have:=(hrow0 b hb).1;omega
    have:=(hrow0 b hb).1;omega⟩
   exact Qc4 ho (by omega)
  refine (HX1.out.step hst (fun b hb=>by omega)).step hall' fun b hb=>?_
  rcases hb with h | h | h
  ·have:=hDi b h;omega
  ·omega
  omega
 have HFIN:=Lib.hid hfin
 have HDK:=Lib.hid hDk
 have HSX:=Lib.hid hS
 clear hblk hown hst hdis hdlo hx5 hDi hDk hk' hall' hfin hL5 hS
 gi_wp2_with fail
 refine ⟨by simp,.inl ⟨_,_,rfl,run_takeDeferred HDK.out,?_⟩⟩
 refine ⟨.slice s.a xs.length s.c,?_,s,xs,rfl,HSX.out,HFIN.out.1,HFIN.out.2⟩
 simp [results,Tryz.f108,go_sem]
end Go.Proofs.YtohajcflklejjaaGreat
namespace Go.Proofs.YtohajcflklejjaaGreat
open Go.RowKit Go.Maps
set_option linter.unusedVariables false
set_option linter.unusedSimpArgs false
theorem Qdn {w:World} {base:Nat} {s:Sl} {xs:List Nat} (h:w.ownsRow base 34 1 (.slice s.a xs.length s.c) xs.length (xs.map Qcj)) (hp:0<xs.length) :
  ∃ g,s.a=some ⟨g,0,none⟩∧base≤g∧s.c≤maxLen∧Qda w g s.c xs.toArray:=by
 obtain ⟨-,hor⟩:=h
 rcases hor with ⟨-,h0⟩ | ⟨g,cap,cur,hv,hg,hc,h1,h2,h3,h4⟩
 ·omega
 injection hv with e1 e2 e3
 subst e3
 refine ⟨g,e1,hg,h2,cur,hc,by omega,by simpa using h1,fun j hj=>?_⟩
 have hj':j<xs.length:=by simpa using hj
 have:(cur.toList.take (xs.length*1))[j]? = (xs.map Qcj)[j]?:=by rw [h4]
 rw [List.getElem?_take,if_pos (by omega),Array.getElem?_toList] at this
 rw [this,List.getElem?_map,List.getElem?_eq_getElem hj']
 simp [Qcj,hj']
theorem QfC {w:World} {base g cap:Nat} {d:Array Nat} (h:Qda w g cap d) (hb:base≤g) (hcm:cap≤maxLen):w.ownsRow base 34 1 (.slice (some ⟨g,0,none⟩) d.size cap) d.size (d.toList.map Qcj):=by
 obtain ⟨cs,h1,h2,h3,h4⟩:=h
 refine ⟨by simp,.inr ⟨g,cap,cs,rfl,hb,h1,h3,hcm,by omega,?_⟩⟩
 refine List.ext_getElem? fun j=>?_
 by_cases hj:j<d.size
 ·rw [List.getElem?_take,if_pos (by omega),Array.getElem?_toList,h4 j hj,List.getElem?_map,Array.getElem?_toList,Array.getElem?_eq_getElem hj]
  simp [Qcj,hj]
 rw [List.getElem?_eq_none (by simp;omega),List.getElem?_eq_none (by simp;omega)]
theorem Qfj {w:World} {gf:Nat} {lb:Array Value} {K:Nat→Prop} {S:List Nat→Prop} {N:Nat} (hN:N≤1000000) (eg:∀ args w,(callFunc gf args).run Tryz.prog w=.ok (.enter gf args) w)
  (hseq:∀ W,Ext w W→Qhm Tryz.prog gf lb Qn4 K (fun _ pre _ _ _=>pre.length<N) S (fun _=>True) W) (hK:∀ b,K b→b<w.heap.size) :
  Calls Tryz.prog 81 #[.func (.func gf) #[] lb] w fun e w'=>∃ (s:Sl) (xs:List Nat),e=.returned (.slice s.a xs.length s.c)∧S xs∧w'.ownsRow w.heap.size 34 1 (.slice s.a xs.length s.c) xs.length (xs.map Qcj)∧Ext w w':=by
 have hc:=QgL hN eg hseq hK
 clear hseq hK
 go_enter Tryz.func81,Tryz.ntmps81
 go_wp2_with fail
 refine hc.mono ?_
 rintro e w1 ⟨s,xs,rfl,hS,ho,hx⟩
 have HS:=Lib.hid hS
 have HO:=Lib.hid ho
 have HX:=Lib.hid hx
 clear hS ho hx hc
 go_wp2_with fail
 go_ret
 exact ⟨s,xs,rfl,HS.out,HO.out,HX.out⟩
theorem QkI {w:World} {gf:Nat} {lb:Array Value} {K:Nat→Prop} {ids:List Nat} (h0:0<ids.length) (h12:ids.length≤12) (hr:ids.Pairwise (·<·)) (eg:∀ args w,(callFunc gf args).run Tryz.prog w=.ok (.enter gf args) w)
  (hseq:∀ W,Ext w W→Qhm Tryz.prog gf lb Qn4 K (fun _ pre _ _ _=>pre.length<ids.length) (fun xs=>xs.Perm ids) (fun _=>True) W) (hK:∀ b,K b→b<w.heap.size) :
  Calls Tryz.prog 52 #[.func (.func gf) #[] lb] w fun e w'=>∃ (s:Sl),e=.returned (.slice s.a ids.length s.c)∧w'.ownsRow w.heap.size 34 1 (.slice s.a ids.length s.c) ids.length (ids.map Qcj)∧Ext w w':=by
 have hc:=Qfj (by omega) eg hseq hK
 have HI:=Lib.hid hr
 clear hseq hK hr
 go_enter Tryz.func52,Tryz.ntmps52
 go_wp2_with fail
 refine hc.mono ?_
 rintro e w1 ⟨⟨sa,scp⟩,xs,rfl,hS,ho,hx⟩
 have hl:xs.length=ids.length:=hS.length_eq
 dsimp only at ho ⊢
 obtain ⟨g,hga,hgb,hcm,hrow⟩:=Qdn (s:=⟨sa,scp⟩) ho (by omega)
 dsimp only at hga hcm hrow
 subst hga
 have hsz:xs.toArray.size=xs.length:=by simp
 have hso:=Qf5 hrow (by rw [hsz];omega) hcm
 have hsi:=QkJ (d:=xs.toArray) (by simpa using hS) HI.out
 have hsn:(Sort.insertionSort ltN xs.toArray 0 xs.toArray.size).size=ids.length:=by rw [←Array.length_toList,hsi]
 obtain ⟨d',hd'⟩:∃ d',Sort.insertionSort ltN xs.toArray 0 xs.toArray.size=d':=⟨_,rfl⟩
 rw [hd'] at hso hsi hsn
 rw [hsz] at hso
 have HX:=Lib.hid hx
 have HSI:=Lib.hid hsi
 have HSN:=Lib.hid hsn
 have HL:=Lib.hid hl
 clear hS ho hx hc hd' hsi hsn hrow hsz hl
 go_wp2_with fail
 refine hso.mono ?_
 rintro e w2 ⟨rfl,hr2,hst⟩
 have HR2:=Lib.hid hr2
 have HST:=Lib.hid hst
 clear hso hr2 hst
 go_wp2_with fail
 go_ret
 have ho:=QfC HR2.out hgb hcm
 rw [HSI.out,HSN.out] at ho
 rw [HL.out]
 exact ⟨⟨some ⟨g,0,none⟩,scp⟩,rfl,ho,HX.out.step HST.out fun b e=>by omega⟩
theorem QjB (w:World) (mb:Option Nat):Calls Tryz.prog 53 #[.map mb] w fun e w'=>e=.returned (.func (.func 83) #[] #[.pointer (some ⟨w.heap.size,0,none⟩)])∧w'=w.alloc (.cells #[.map mb] 35):=by
 go_enter Tryz.func53,Tryz.ntmps53
 go_wp2_with fail
 go_ret
 exact ⟨rfl,rfl⟩
theorem Qkk {w:World} {R:Nat} {T:RT} {g:Nat} {mb:Option Nat} {L:Qbc} (h:QaR w R T g mb L) (h0:0<L.length) (h12:L.length≤12) :
  Calls Tryz.prog 23 #[.pointer (some ⟨R,0,none⟩)] w fun e w'=>∃ (s:Sl),e=.returned (.slice s.a L.length s.c)∧w'.ownsRow w.heap.size 34 1 (.slice s.a L.length s.c) L.length (L.map fun p=>Qcj p.1)∧Ext w w':=by
 have hlR:=h.blk.lt
 have r2:w.cell? ⟨R,2,none⟩=some (.map mb):=h.blk.cell 2
 obtain ⟨b,rfl⟩:∃ b,mb=some b:=by
  cases mb with
  | none=>have:L=[]:=h.map;subst this;simp at h0
  | some b=>exact ⟨b,rfl⟩
 have hown:w.ownsMap Tryz.prog 34 ivR b g (mapD L):=h.map
 have hbl:=hown.lt
 have hx1:Ext w (w.alloc (.cells #[.map (some b)] 35)):=(Ext.refl w).alloc _ _
 have hb1:=Blk.new w 35 #[.map (some b)]
 have hid:(L.map (·.1)).Pairwise (·<·):=List.pairwise_map.2 h.rise
 have hso:=QkI (w:=w.alloc (.cells #[.map (some b)] 35)) (gf:=83) (lb:=#[.pointer (some ⟨w.heap.size,0,none⟩)]) (ids:=L.map (·.1)) (by simpa using h0) (by simpa using h12) hid (enters_of Tryz.func83 (by kernel_rfl) rfl)
  (fun W hW=>by
    have:=QjC (w0:=W) (L:=L) (hb1.ext hW) (QaM hown ((hx1.trans hW).heap hbl)) h.rise
    simpa using this)
  (fun c hc=>by rw [World.size_alloc];rcases hc with rfl | rfl <;> omega)
 have hk:=QjB w (some b)
 rw [List.length_map,List.map_map] at hso
 have HSO:=Lib.hid hso
 have HX1:=Lib.hid hx1
 clear h hown hx1 hb1 hid hso
 go_enter Tryz.func23,Tryz.ntmps23
 go_wp2_with fail
 refine hk.mono ?_
 rintro e w1 ⟨rfl,rfl⟩
 go_wp2_with fail
 refine HSO.out.mono ?_
 rintro e w2 ⟨s,rfl,ho,hx⟩
 have HO:=Lib.hid (Qc4 ho (by rw [World.size_alloc];exact Nat.le_succ _))
 have HX:=Lib.hid (HX1.out.trans hx)
 clear ho hx
 go_wp2_with fail
 go_ret
 exact ⟨s,rfl,HO.out,HX.out⟩
end Go.Proofs.YtohajcflklejjaaGreat
namespace Go.Proofs.YtohajcflklejjaaGreat
open Go.RowKit Go.Shelf
set_option linter.unusedVariables false
set_option linter.unusedSimpArgs false
attribute [local go_sem] Oper.semAt_some
def QcA (s:Iv) (xs:List CE):List CE:=xs.filter fun x=>Qbv x.c.k s.lo s.hi s.op
def QnU (xs:List CE):Prop:=xs.Pairwise fun x y=>klt x.c.k y.c.k=true
theorem QkG {s:Iv} {xs:List CE} {f:Nat} (h:∀ i x,i<f→xs[i]? = some x→klt x.c.k s.lo=true):QcA s xs=QcA s (xs.drop f):=by
 conv=>lhs;rw [←List.take_append_drop f xs]
 rw [QcA,List.filter_append,List.filter_eq_nil_iff.2,List.nil_append];rfl
 intro x hx
 obtain ⟨i,hi⟩:=List.mem_iff_getElem?.1 hx
 rw [List.getElem?_take] at hi
 split at hi
 ·rename_i hlt
  simp [Qbv,h i x hlt hi]
 cases hi
theorem QjM {s:Iv} {xs:List CE} {j:Nat} {x:CE} (hx:xs[j]? = some x) (hw:Qbv x.c.k s.lo s.hi s.op=true):QcA s (xs.drop j)=x :: QcA s (xs.drop (j+1)):=by
 obtain ⟨h1,h2⟩:=List.getElem?_eq_some_iff.1 hx
 rw [List.drop_eq_getElem_cons h1,h2,QcA,List.filter_cons_of_pos (p:=fun x:CE=>Qbv x.c.k s.lo s.hi s.op) hw];rfl
theorem QkH {s:Iv} {xs:List CE} {j:Nat} {x:CE} (hr:QnU xs) (hx:xs[j]? = some x) (hlo:klt x.c.k s.lo=false) (hw:Qbv x.c.k s.lo s.hi s.op=false):QcA s (xs.drop j)=[]:=by
 rw [QcA,List.filter_eq_nil_iff]
 intro y hy
 have h1:s.op=false∧klt x.c.k s.hi=false:=by
  simp only [Qbv,hlo,Bool.not_false,Bool.true_and,Bool.or_eq_false_iff] at hw;exact hw
 obtain ⟨i,hi⟩:=List.mem_iff_getElem?.1 hy
 rw [List.getElem?_drop] at hi
 have h2:klt y.c.k s.hi=false:=by
  by_cases h0:i=0
  ·subst h0
   rw [Nat.add_zero,hx] at hi
   injection hi with hi;rw [←hi];exact h1.2
  have h3:klt x.c.k y.c.k=true:=by
   obtain ⟨a1,a2⟩:=List.getElem?_eq_some_iff.1 hx
   obtain ⟨b1,b2⟩:=List.getElem?_eq_some_iff.1 hi
   have:=List.pairwise_iff_getElem.1 hr j (j+i) a1 b1 (by omega)
   rwa [a2,b2] at this
  cases h4:klt y.c.k s.hi with
  | false=>rfl
  | true=>have:=QaG h3 h4;rw [h1.2] at this;cases this
 simp [Qbv,h1.1,h2]
theorem Qig {s:Iv} {xs:List CE} {j:Nat} (hj:xs.length≤j):QcA s (xs.drop j)=[]:=by rw [List.drop_eq_nil_of_le hj];rfl
/-- The search's test. -/
theorem QkE {W:World} {B1 B2 b o i n c:Nat} {k lo hi:ByteArray} {op:Bool} (h1:W.cell? ⟨B1,0,none⟩=some (.slice (some ⟨b,o,none⟩) n c)) (h2:Blk W B2 107 #[.string lo,.string hi,.bool op])
  (hk:W.cell? ⟨b,o+i*15,none⟩=some (.string k)) (hi:i<n) (hn:n≤maxLen) :
  Calls Tryz.prog 71 #[.int .i64 i,.pointer (some ⟨B1,0,none⟩),.pointer (some ⟨B2,0,none⟩)] W fun e w'=>e=.returned (.bool !(klt k lo))∧Ext W w':=by
 unfold maxLen at hn
 have l1:=World.block_lt_of_cell? W _ h1
 have lb:=World.block_lt_of_cell? W _ hk
 have l2:=h2.lt
 have c2:W.cell? ⟨B2,0,none⟩=some (.string lo):=h2.cell 0
 have g0:(0:Int)≤(i:Int):=by omega
 have g1:(i:Int)<(n:Int):=by omega
 go_enter Tryz.func71,Tryz.ntmps71
 go_wp2_with fail
 go_quiet (fail)
 go_wp2_with fail
 go_ret
 exact ⟨rfl,(Ext.refl _).drewN _⟩
theorem Qnr (w:World) (a:Option Addr) (n c:Nat) (s:Iv):Calls Tryz.prog 48 #[.slice a n c,s.v] w fun e w'=>e=.returned (.func (.func 69) #[] #[.pointer (some ⟨w.heap.size,0,none⟩),.pointer (some ⟨w.heap.size+1,0,none⟩)])∧Ext w w'∧
  Blk w' w.heap.size 78 #[.slice a n c]∧Blk w' (w.heap.size+1) 107 #[.string s.lo,.string s.hi,.bool s.op]:=by
 go_enter Tryz.func48,Tryz.ntmps48
 go_wp2_with fail
 generalize hW0:World.alloc (World.alloc _ _) _=W0
 obtain ⟨hx0,hz0,hb0,hb1⟩:=Qaz w _ _ _ _ W0 hW0
 clear hW0
 go_ret
 exact ⟨rfl,hx0,hb0,hb1⟩
theorem CS.QoA {w w':World} {F:Nat→Prop} {s:Sl} {xs:List CE} (h:CS w F s xs) (ha:Agree F w w'):CS w' F s xs:=⟨h.rd.agree ha,fun x hx=>(h.vals x hx).agree ha,h.few⟩
def QmC (s:Iv) (xs ys:List CE):Prop:=ys=QcA s xs
structure Qoy (s:Iv) (xs:List CE) (pre:List CE) (x:CE) (W0 W1:World):Prop where
 at_:(QcA s xs)[pre.length]? = some x
 mem:x∈xs
structure QjW (s:Iv) (xs:List CE) (f:Nat) (J:List CE→(Nat→Prop)→World→Prop) (C:Nat→Prop) (W:World) (j:Nat) (pre:List CE) (C':Nat→Prop) (Wj wr:World):Prop where
 inv:J pre C' Wj
 ext:Ext Wj wr
 len:pre.length=j
 pre_:QcA s xs=pre++QcA s (xs.drop (f+j))
 st:St C W wr
 sub:∀ b,C' b→C b∨W.heap.size≤b
theorem QjW.grow {s:Iv} {xs:List CE} {f j:Nat} {J:List CE→(Nat→Prop)→World→Prop} {C:Nat→Prop} {W Wj wr w6:World} {pre:List CE} {C':Nat→Prop} (h:QjW s xs f J C W j pre C' Wj wr) (k:Ext wr w6):QjW s xs f J C W j pre C' Wj w6:=
 ⟨h.inv,h.ext.trans k,h.len,h.pre_,h.st.trans (k.st _),h.sub⟩
theorem QkF {s:Iv} {xs:List CE} {f j:Nat} {J:List CE→(Nat→Prop)→World→Prop} {C:Nat→Prop} {W Wj wr w6:World} {pre:List CE} {C' C6:Nat→Prop} {x:CE} (h:QjW s xs f J C W j pre C' Wj wr) (hx:xs[f+j]? = some x) (hw:Qbv x.c.k s.lo s.hi s.op=true)
  (hj:J (pre++[x]) C6 w6) (hst:St C' wr w6) (hsub:∀ b,C6 b→C' b∨wr.heap.size≤b):QjW s xs f J C W (j+1) (pre++[x]) C6 w6 w6:=by
 have hz:=h.st.size
 refine ⟨hj,Ext.refl _,by simp [h.len],?_,h.st.then hst (fun b hb hh=>?_),fun b hb=>?_⟩
 ·rw [h.pre_,QjM hx hw,List.append_assoc,Nat.add_assoc];rfl
 ·rcases h.sub b hh with h | h
  ·exact h
  omega
 rcases hsub b hb with h' | h'
 ·exact h.sub b h'
 exact .inr (by omega)
theorem Qns {w0:World} {B1 B2:Nat} {F:Nat→Prop} {sl:Sl} {s:Iv} {xs:List CE} (hb1:Blk w0 B1 78 #[.slice sl.a xs.length sl.c]) (hb2:Blk w0 B2 107 #[.string s.lo,.string s.hi,.bool s.op]) (hs:CS w0 F sl xs) (hF:∀ b,F b→b<w0.heap.size) (hl:xs.length≤1000000) (h0:0<xs.length) (hr:QnU xs) :
  QoW Tryz.prog 69 #[.pointer (some ⟨B1,0,none⟩),.pointer (some ⟨B2,0,none⟩)] Qjk (fun b=>F b∨b=B1∨b=B2) (Qoy s xs) (QmC s xs) (fun _=>True) w0:=by
 intro l J Jx C W hTk hA hsz hCK hJ
 have hCl:=hTk.lt [] C W hJ
 have hlB1:=hb1.lt
 have hlB2:=hb2.lt
 have hss:∀ W1,St C W W1→W1.cell? ⟨B1,0,none⟩=some (.slice sl.a xs.length sl.c)∧Blk W1 B2 107 #[.string s.lo,.string s.hi,.bool s.op]∧CS W1 F sl xs:=fun W1 hW=>
  ⟨(hW.cell (by omega) fun h=>hCK _ h (.inr (.inl rfl))).trans ((World.cell?_of_block (w:=w0) (a:=⟨B1,0,none⟩) (hA B1 (.inr (.inl rfl)))).trans (hb1.cell 0)),
    ((hW.block B2 (by omega) fun h=>hCK _ h (.inr (.inr rfl))).trans (hA B2 (.inr (.inr rfl)))).trans hb2,
    hs.QoA fun b hb=>(hW.block b (by have:=hF b hb;omega) fun h=>hCK _ h (.inl hb)).trans (hA b (.inl hb))⟩
 obtain ⟨x0,hx0⟩:∃ x,xs[0]? = some x:=⟨_,List.getElem?_eq_getElem h0⟩
 obtain ⟨b,o,hsa,lb,hcc,hcm,-,-⟩:=hs.at hx0
 obtain ⟨sa,sc⟩:=sl
 dsimp only at hss hsa hcc hcm
 subst hsa
 have HTK:=Lib.hid hTk
 have HSS:=Lib.hid hss
 have HJ:=Lib.hid hJ
 have HR:=Lib.hid hr
 have c0:=(hss W (St.refl _ W)).1
 have lB:B1<W.heap.size:=by omega
 have HFW:=Lib.hid (fun (b:Nat) (hb:F b)=>Nat.lt_of_lt_of_le (hF b hb) hsz)
 have hsr:∀ W1,Ext W W1→Calls Tryz.prog 70 #[.int .i64 xs.length,.func (.func 71) #[] #[.pointer (some ⟨B1,0,none⟩),.pointer (some ⟨B2,0,none⟩)]] W1 (QbJ xs.length (fun i=>!(klt ((xs[i]?.map fun x=>x.c.k).getD ByteArray.empty) s.lo)) W1):=by
  intro W1 hW1
  refine Qch 71 _ _ xs.length _ W1 (enters_of Tryz.func71 (by kernel_rfl) rfl) (by omega) ?_ ?_
  ·intro i W' hi hW'
   obtain ⟨x,hx⟩:∃ x,xs[i]? = some x:=⟨_,List.getElem?_eq_getElem hi⟩
   rw [hx]
   obtain ⟨d1,d2,d3⟩:=HSS.out W' ((hW1.trans hW').st _)
   obtain ⟨b',o',hsa',-,-,-,-,hcl⟩:=d3.at hx
   injection hsa' with hsa'
   injection hsa' with hsa1 hsa2
   subst hsa1 hsa2
   exact QkE d1 d2 ((hcl 0 _ rfl)) hi (by omega)
  intro i j hij hj hpi
  by_cases hij':i=j
  ·subst hij';exact hpi
  have hxy:=List.pairwise_iff_getElem.1 HR.out i j (by omega) hj (by omega)
  rw [List.getElem?_eq_getElem (by omega)] at hpi
  rw [List.getElem?_eq_getElem hj]
  simp only [Option.map_some,Option.getD_some,Bool.not_eq_true'] at hpi ⊢
  cases hyk:klt xs[j].c.k s.lo
  ·rfl
  have:=QaG hxy hyk
  rw [hpi] at this;cases this
 have HSR:=Lib.hid hsr
 have hnl:(xs.length:Int)≤1000000:=by omega
 clear hTk hA hCK hJ hb1 hb2 hs hss hCl hF hr hx0 hsr
 show Calls _ _ #[.func (.yield l) #[] #[],.pointer (some ⟨B1,0,none⟩),.pointer (some ⟨B2,0,none⟩)] W _
 refine (callsIn_wide (n:=5)).1 ?_
 refine callsIn_of_wp Tryz.func69 rfl trivial ?_ rfl
 simp only [Tryz.ntmps69,List.size_toArray,List.length_cons,List.length_nil,Nat.reduceAdd,Nat.reduceSub,Array.replicate_succ,Array.replicate_zero,List.push_toArray,List.append_toArray,List.nil_append,List.cons_append]
 gi_wp2_with fail
 refine ⟨trivial,?_⟩
 refine (callsIn_wide.2 (HSR.out W (Ext.refl W))).mono ?_
 rintro e w1 ⟨f,rfl,hf,hlo,hhi,hx1⟩
 obtain ⟨c1,-,-⟩:=HSS.out w1 (hx1.st _)
 have HX1:=Lib.hid hx1
 have HLO:=Lib.hid hlo
 have HHI:=Lib.hid hhi
 have lB1:B1<w1.heap.size:=Nat.lt_of_lt_of_le lB hx1.size
 have g0:(0:Int)≤(f:Int):=by omega
 have g1:(f:Int)≤(xs.length:Int):=by omega
 have g2:(xs.length:Int)≤(sc:Int):=by omega
 have g3:(f:Int)≤(sc:Int):=by omega
 clear c0 hlo hhi hx1
 have hlof:∀ i x,i<f→xs[i]? = some x→klt x.c.k s.lo=true:=fun i x hi hx=>by
  have:=HLO.out i hi
  simp only [hx] at this
  simpa using this
 have hhif:∀ i x,f≤i→xs[i]? = some x→klt x.c.k s.lo=false:=fun i x hi hx=>by
  have:=HHI.out i hi (List.getElem?_eq_some_iff.1 hx).1
  simp only [hx] at this
  simpa using this
 have HLF:=Lib.hid (QkG (s:=s) hlof)
 have HHF:=Lib.hid hhif
 clear hlof hhif HLO HHI
 by_cases hfc:f=sc
 ·have hz:xs.length - f=0:=by omega
  have HALL:=Lib.hid (show QmC s xs [] by show []=QcA s xs;rw [HLF.out,Qig (by omega)])
  have HZ:=Lib.hid hz
  subst hfc
  have e1:((xs.length:Int) - (f:Int))=0:=by omega
  gi_wp2_with fail
  gi_loopw [15] (fun v wr=>v=.int .i64 0∧wr=w1) (fun v _=>0)
  case atStart=>exact ⟨rfl,rfl⟩
  obtain ⟨rfl,rfl⟩:=hrel
  have g9:¬(0:Int)<((xs.length - f:Nat):Int):=by omega
  gi_wp2_with fail
  go_end0
  exact ⟨⟨_,rfl⟩,.inl ⟨[],HALL.out,C,W,HJ.out,HX1.out⟩⟩
 have g4:¬(sc:Int)=(f:Int):=by omega
 gi_wp2_with fail
 clear c1
 gi_loopw [15] (fun v wr=>∃ (j:Nat) (pre:List CE) (C':Nat→Prop) (Wj:World),v=.int .i64 (j:Int)∧f+j≤xs.length∧Hid (QjW s xs f J C W j pre C' Wj wr)) (fun v _=>xs.length - (intOf v).toNat)
 case atStart=>exact ⟨0,[],C,W,rfl,by omega,Lib.hid ⟨HJ.out,HX1.out,rfl,HLF.out,HX1.out.st _,fun b hb=>.inl hb⟩⟩
 obtain ⟨j,pre,C',Wj,rfl,hj,HS⟩:=hrel
 by_cases hlt:f+j<xs.length
 ·obtain ⟨x,hx⟩:∃ x,xs[f+j]? = some x:=⟨_,List.getElem?_eq_getElem hlt⟩
  obtain ⟨-,hbs,hcs⟩:=HSS.out wr HS.out.st
  obtain ⟨b',o',hsa',lb',-,-,-,hcl⟩:=hcs.at hx
  injection hsa' with hsa'
  injection hsa' with hsa1 hsa2
  subst hsa1 hsa2
  have lb:b<wr.heap.size:=Nat.lt_of_lt_of_le (HFW.out b lb) HS.out.st.size
  have hcl2:∀ c u,x.cells.toList[c]? = some u→wr.cell? ⟨b,o+f*15+j*15+c,none⟩=some u:=fun c u hu=>by
   rw [show o+f*15+j*15+c=o+(f+j)*15+c by omega];exact hcl c u hu
  obtain ⟨v0,v1,v2,v3,v4,v5,v6,v7,v8,v9,v10,v11,v12,v13,v14⟩:=QnE hcl2
  have s0:wr.cell? ⟨B2,0,none⟩=some (.string s.lo):=hbs.cell 0
  have s1:wr.cell? ⟨B2,1,none⟩=some (.string s.hi):=hbs.cell 1
  have s2:wr.cell? ⟨B2,2,none⟩=some (.bool s.op):=hbs.cell 2
  have lB2:B2<wr.heap.size:=hbs.lt
  have g5:(j:Int)<((xs.length - f:Nat):Int):=by omega
  have g6:(0:Int)≤(j:Int):=by omega
  have hkl:=HHF.out (f+j) x (by omega) hx
  have hkw:=fun W=>Qf1 W x.c.k s.lo s.hi s.op
  have HBS:=Lib.hid hbs
  cases hw:Qbv x.c.k s.lo s.hi s.op
  ·have HE:=Lib.hid (show QmC s xs pre by show pre=QcA s xs;rw [HS.out.pre_,QkH HR.out hx hkl hw,List.append_nil])
   rw [hw] at hkw
   have HKW:=Lib.hid hkw
   clear hcl hcl2 hcs hbs hw hkl hkw
   gi_wp2_with fail
   refine ⟨trivial,?_⟩
   refine (callsIn_wide.2 (HKW.out _)).mono ?_
   rintro e w2 ⟨rfl,rfl⟩
   gi_wp2_with fail
   refine ⟨fun _ h=>absurd h (by simp),?_⟩
   gi_wp2_with fail
   refine bodyPost_ret (v:=.tuple #[]) (by simp [results,Tryz.results69,go_sem]) rfl ?_
   exact ⟨⟨_,rfl⟩,.inl ⟨pre,C',Wj,HE.out,HS.out.inv,HS.out.ext.trans ((Ext.refl _).alloc _ _)⟩⟩
  have hG:Qoy s xs pre x Wj wr:=⟨by rw [HS.out.pre_,QjM hx hw,List.getElem?_append_right (Nat.le_refl _),Nat.sub_self];rfl,List.mem_of_getElem? hx⟩
  rw [hw] at hkw
  have HKW:=Lib.hid hkw
  have HG:=Lib.hid hG
  have HX:=Lib.hid hx
  have HW:=Lib.hid hw
  clear hcl hcl2 hcs hbs hw hkl hkw hG hx
  gi_wp2_with fail
  generalize hW3:wr.alloc _=W3
  have hx3:Ext wr W3:=by rw [←hW3];exact (Ext.refl _).alloc _ _
  have hb3:Blk W3 wr.heap.size 54 x.cells:=by rw [←hW3];exact Blk.new wr _ _
  clear hW3
  obtain ⟨c0,c1,c2,c3,c4,c5,c6,c7,c8,c9,c10,c11,c12,c13,c14⟩:=hb3.c15
  have l3:=hb3.lt
  have hy:=HTK.out.take pre C' x Wj W3 HS.out.inv (HS.out.ext.trans hx3) ⟨HG.out.at_,HG.out.mem⟩
  obtain ⟨fn,tmps,assign,body,hy,hR⟩:=hy
  have HR3:=Lib.hid hR
  have HX3:=Lib.hid hx3
  clear hb3 hx3 hR
  dsimp only [Qjk,CE.agg,CE.cells] at hy
  refine ⟨trivial,?_⟩
  refine (callsIn_wide.2 (HKW.out W3)).mono ?_
  rintro e w2 ⟨rfl,rfl⟩
  gi_wp2_with fail
  clear c0 c1 c2 c3 c4 c5 c6 c7 c8 c9 c10 c11 c12 c13 c14
  refine HR3.out.mono ?_
  rintro e w6 (⟨rfl,C6,hj6,hst6,hsub6⟩ | ⟨rfl,hjx,hst6⟩)
  ·have HS6:=Lib.hid (QkF (HS.out.grow HX3.out) HX.out HW.out hj6 hst6 hsub6)
   clear hj6 hst6 hsub6 hy
   gi_wp2_with fail
   go_roundw
   case rel=>exact ⟨j+1,_,C6,w6,by go_num,by omega,HS6⟩
   simp [intOf];omega
  gi_wp2_with fail
  refine bodyPost_ret (v:=.tuple #[]) (by simp [results,Tryz.results69,go_sem]) rfl ?_
  exact ⟨⟨_,rfl⟩,.inr ⟨_,w6,trivial,hjx,Ext.refl _⟩⟩
 have HE:=Lib.hid (show QmC s xs pre by show pre=QcA s xs;rw [HS.out.pre_,Qig (by omega),List.append_nil])
 have g5:¬(j:Int)<((xs.length - f:Nat):Int):=by omega
 gi_wp2_with fail
 go_end0
 exact ⟨⟨_,rfl⟩,.inl ⟨pre,HE.out,C',Wj,HS.out.inv,HS.out.ext⟩⟩
end Go.Proofs.YtohajcflklejjaaGreat
