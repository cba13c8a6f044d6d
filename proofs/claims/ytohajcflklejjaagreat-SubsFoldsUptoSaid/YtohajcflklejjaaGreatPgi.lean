/- What the theorem needs of the texts App9, Coll2, RoundE, TrodC, ChgF, Sub1, Sub2, Sub3, SortU, SortU2, KeysU, SortedU, Live, Sift, Ev: no condition of its own. -/
import Derived.Laws.IdiomStrings
import Derived.WalkArith
import Derived.Maps.OwnSet
import Derived.Maps.OwnIn
import Derived.Sort.MapsRangeIn
import Derived.Sort.LotA
import Derived.Sort.WalkA
import Derived.Sort.KeysCollected
import Derived.TacticsInMore
import Derived.RegionIn
import Derived.LoopNIn
import Derived.LoopIn
import Derived.Sort.LoopGhostIn
import Derived.RangeFuncNested
import Derived.RangeFuncBound
import Derived.RangeFuncCalls
import Derived.RangeFuncLeaves
import Derived.OwnWalkIn
import Derived.Test.YtohajcflklejjaaGreatPga
import Derived.Test.YtohajcflklejjaaGreatPgb
import Derived.Test.YtohajcflklejjaaGreatPgc
import Derived.Test.YtohajcflklejjaaGreatPgd
import Derived.Test.YtohajcflklejjaaGreatPge
import Derived.Test.YtohajcflklejjaaGreatPgf
import Derived.Test.YtohajcflklejjaaGreatPgg
import Derived.Test.YtohajcflklejjaaGreatPgh
set_option maxRecDepth 100000
set_option maxHeartbeats 8000000
namespace Go.Proofs.YtohajcflklejjaaGreat
open Go.RowKit Go.Shelf
set_option linter.unusedVariables false
set_option linter.unusedSimpArgs false
theorem CS.Qnn {w w':World} {F:Nat→Prop} {s:Sl} {xs:List CE} (h:CS w F s xs) (ha:Agree F w w'):CS w' F s xs:=⟨h.rd.agree ha,fun x hx=>(h.vals x hx).agree ha,h.few⟩
def Qlu (H:Nat→Prop) (M:Nat) (o:Option (List Ent)) (w:World) (e:Ending) (w':World):Prop:=
 ∃ es':List Ent,e=.returned (.bool o.isSome)∧(∀ x,o=some x→es'=x)∧Sorted es'∧MapAt H w' M es'∧St (fun b=>b=M) w w'
theorem QnK {H G:Nat→Prop} {w:World} {M:Nat} {es:List Ent} {s:Sl} {cs:List CE} (hM:MapAt H w M es) (hH:∀ b,H b→b<w.heap.size) (hso:Sorted es) (hs:CS w G s cs) (hG:∀ b,G b→b<w.heap.size∧¬H b) (hc:es.length+cs.length≤800000) :
  Calls Tryz.prog 28 #[.pointer (some ⟨M,0,none⟩),.slice s.a cs.length s.c] w (Qlu H M (apC es (cs.map CE.c)) w):=by
 obtain ⟨n0,hn0⟩:∃ n,es.length=n:=⟨_,rfl⟩
 obtain ⟨ap,hap⟩:∃ ap,apC es (cs.map CE.c)=ap:=⟨_,rfl⟩
 rw [hap]
 rw [hn0] at hc
 have hHM:=hM.hm
 have lM:=hH M hHM
 have HS:=Lib.hid hs
 have HH:=Lib.hid hH
 have HG:=Lib.hid hG
 have H0:=Lib.hid (show MapAt H w M es∧Sorted es∧es.length=n0∧apC es (cs.map CE.c)=ap from ⟨hM,hso,hn0,hap⟩)
 clear hM hH hso hs hG hn0 hap
 go_enter Tryz.func28,Tryz.ntmps28
 go_wp2_with fail
 go_loopw [5] (fun i wr=>∃ (j:Nat) (es1:List Ent),j≤cs.length∧i=.int .i64 j∧Sorted es1∧apC es1 ((cs.map CE.c).drop j)=ap∧es1.length≤n0+j∧MapAt H wr M es1∧St (fun b=>b=M) w wr) (fun i _=>cs.length - (intOf i).toNat)
 case atStart=>exact ⟨0,es,Nat.zero_le _,rfl,H0.out.2.1,H0.out.2.2.2,by rw [H0.out.2.2.1];exact Nat.le_refl _,H0.out.1,St.refl _ _⟩
 case round=>
  obtain ⟨j,es1,hj,rfl,hso,hap,hlT,hM,hX⟩:=hrel
  have hsw:=hX.size
  by_cases hlt:j<cs.length
  ·have g1:(j:Int)<(cs.length:Int):=by omega
   obtain ⟨x,hxx⟩:∃ x,cs[j]? = some x:=⟨_,List.getElem?_eq_getElem hlt⟩
   have hag:Agree G w wr:=fun b hb=>hX.block b (HG.out b hb).1 (fun e=>(HG.out b hb).2 (by rw [e];exact hHM))
   obtain ⟨b,o,hsa,lb,hcc,hcm,hcr,hcl⟩:=(CS.Qnn HS.out hag).at hxx
   obtain ⟨sa,sc⟩:=s
   dsimp only at hsa hcc hcm
   subst hsa
   have lb:b<w.heap.size:=(HG.out b lb).1
   obtain ⟨v0,v1,v2,v3,v4,v5,v6,v7,v8,v9,v10,v11,v12,v13,v14⟩:=Qmv hcl
   have lb':b<wr.heap.size:=by omega
   have hdrop:(cs.map CE.c).drop j=x.c :: (cs.map CE.c).drop (j+1):=drop_at (by rw [List.getElem?_map,hxx];rfl)
   have hlc:es1.length≤1000000:=by omega
   have hHr:∀ b,H b→b<wr.heap.size:=fun b hb=>Nat.lt_of_lt_of_le (HH.out b hb) hsw
   have hcrW:∀ W,Ext wr W→CR W (NH H W) x:=fun W hW=>(hcr.agree (hW.agree fun i hi=>Nat.lt_of_lt_of_le (HG.out i hi).1 hsw)).mono fun i hi=>⟨Nat.lt_of_lt_of_le (HG.out i hi).1 (Nat.le_trans hsw hW.size),(HG.out i hi).2⟩
   have hget:=fun (W:World) (hW:Ext wr W)=>Qog (hM.ext hW) hso x.c.k
   have hput:=fun (W:World) (hW:Ext wr W)=>QiH (hM.ext hW) (fun b hb=>Nat.lt_of_lt_of_le (hHr b hb) hW.size) hso hlc (hcrW W hW).key (hcrW W hW).is_
   have hdel:=fun (W:World) (hW:Ext wr W)=>Qgk (hM.ext hW) (fun b hb=>Nat.lt_of_lt_of_le (hHr b hb) hW.size) hso hlc x.c.k
   obtain ⟨gv,hgv⟩:∃ g,(QaC es1 x.c.k).getD zeroV=g:=⟨_,rfl⟩
   obtain ⟨gb,hgb⟩:∃ g,(QaC es1 x.c.k).isSome=g:=⟨_,rfl⟩
   have hcmp2:=fun (W:World) (hW:Ext wr W)=>Qdo _ x.c.was x.c.is_ (Nat.le_refl _) W _ _ _ _ ((hcrW W hW).was.mono fun i hi=>hi.1) ((hcrW W hW).is_.mono fun i hi=>hi.1)
   have hwas:=fun (W:World) (hW:Ext wr W)=>(hcrW W hW).was.mono (G:=Lt W.heap.size) fun i hi=>hi.1
   have hapx:ap=if (!QaK x.c.had x.c.was x.c.has x.c.is_ && QaK gb gv x.c.had x.c.was)=true then apC (Qcw es1 x.c) ((cs.map CE.c).drop (j+1)) else none:=by
    rw [←hap,hdrop,apC,Qnu,hgv,hgb]
   have hsl:=Qli es1 x.c
   unfold Qia at hget
   rw [hgv,hgb] at hget
   have hx3:Ext wr (wr.alloc (.cells x.cells 54)):=(Ext.refl wr).alloc _ _
   have hb3:=Blk.new wr 54 x.cells
   have HSS:=Lib.hid (show ∀ W,Ext (wr.alloc (.cells x.cells 54)) W→(W.cell? ⟨wr.heap.size,0,none⟩=some (.string x.c.k)∧W.cell? ⟨wr.heap.size,1,none⟩=some (.bool x.c.had)∧W.cell? ⟨wr.heap.size,2,none⟩=some (.int .i64 x.c.was.kind)∧W.cell? ⟨wr.heap.size,3,none⟩=some (.bool x.c.was.b)∧W.cell? ⟨wr.heap.size,4,none⟩=some (.int .i64 x.c.was.i)∧W.cell? ⟨wr.heap.size,5,none⟩=some (.string x.c.was.t)∧W.cell? ⟨wr.heap.size,6,none⟩=some (.slice x.slw.a x.c.was.l.length x.slw.c)∧W.cell? ⟨wr.heap.size,7,none⟩=some (.slice x.sow.a x.c.was.ok.length x.sow.c)∧W.cell? ⟨wr.heap.size,8,none⟩=some (.bool x.c.has)∧W.cell? ⟨wr.heap.size,9,none⟩=some (.int .i64 x.c.is_.kind)∧W.cell? ⟨wr.heap.size,10,none⟩=some (.bool x.c.is_.b)∧W.cell? ⟨wr.heap.size,11,none⟩=some (.int .i64 x.c.is_.i)∧W.cell? ⟨wr.heap.size,12,none⟩=some (.string x.c.is_.t)∧W.cell? ⟨wr.heap.size,13,none⟩=some (.slice x.sli.a x.c.is_.l.length x.sli.c)∧W.cell? ⟨wr.heap.size,14,none⟩=some (.slice x.soi.a x.c.is_.ok.length x.soi.c))∧wr.heap.size<W.heap.size from fun W hW=>⟨(hb3.ext hW).c15,(hb3.ext hW).lt⟩)
   have HX:=Lib.hid hX
   have HX3:=Lib.hid hx3
   have HGET:=Lib.hid hget
   have HPUT:=Lib.hid hput
   have HDEL:=Lib.hid hdel
   have HWAS:=Lib.hid hwas
   have HCMP2:=Lib.hid hcmp2
   have HAP:=Lib.hid hapx
   have HSO:=Lib.hid hso
   have HMA:=Lib.hid hM
   have HLT:=Lib.hid hlT
   clear hX hag hap hM hxx hcr hcl hdrop hcrW hget hput hdel hcmp2 hwas hgv hgb hapx hx3 hb3 hso hlc hlT hHr
   go_wp2_with fail
   dsimp only [CE.cells] at HSS HX3
   generalize hW3:wr.alloc (.cells _ _)=W3 at *
   clear hW3 v0 v1 v2 v3 v4 v5 v6 v7 v8 v9 v10 v11 v12 v13 v14
   refine (HGET.out W3 HX3.out).mono ?_
   rintro e w4 ⟨gl,gq,rfl,hx4,hrv⟩
   have hx5:=(Ext.refl w4).alloc #[.int .i64 gv.kind,.bool gv.b,.int .i64 gv.i,.string gv.t,.slice gl.a gv.l.length gl.c,.slice gq.a gv.ok.length gq.c] 44
   have hx4s:=hx4.size
   have hcmp1:=fun (W:World) (hW:Ext (w4.alloc (.cells #[.int .i64 gv.kind,.bool gv.b,.int .i64 gv.i,.string gv.t,.slice gl.a gv.l.length gl.c,.slice gq.a gv.ok.length gq.c] 44)) W)=>Qdo _ gv x.c.was (Nat.le_refl _) W _ _ _ _ ((hrv.agree ((hx5.trans hW).agree fun i (hi:i<W3.heap.size)=>by omega)).mono fun i (hi:i<W3.heap.size)=>(show i<W.heap.size by have:=(hx5.trans hW).size;omega)) (HWAS.out W (HX3.out.trans ((hx4.trans hx5).trans hW)))
   have HCMP1:=Lib.hid hcmp1
   have HB5:=Lib.hid (Blk.new w4 44 #[.int .i64 gv.kind,.bool gv.b,.int .i64 gv.i,.string gv.t,.slice gl.a gv.l.length gl.c,.slice gq.a gv.ok.length gq.c])
   have H5:=Lib.hid (hx4.trans hx5)
   clear hx4 hrv hcmp1 hx5
   cases h1:gb with
   | true=>
     cases h2:x.c.had with
     | true=>
       have q5:=HSS.out _ H5.out
       rw [h2] at q5
       have hne:(true != true)=false:=rfl
       obtain ⟨u0,u1,u2,u3,u4,u5⟩:=HB5.out.c6
       have ul:=HB5.out.lt
       go_wp2_with fail
       refine (HCMP1.out _ (Ext.refl _)).mono ?_
       rintro e w6 ⟨rfl,hx6⟩
       have H6:=Lib.hid (H5.out.trans hx6)
       have q6:=HSS.out _ H6.out
       rw [h2] at q6
       clear hx6 q5 u0 u1 u2 u3 u4 u5 ul
       by_cases hc:Qbv gv x.c.was=0
       ·skip
        have hcb:(Qbv gv x.c.was != 0)=false:=by simp [hc]
        have HC:=Lib.hid hc
        clear hc
        cases h3:x.c.has with
        | false=>
          rw [h3] at q6
          have hap':ap=apC (Qcw es1 x.c) ((cs.map CE.c).drop (j+1)):=by
           rw [HAP.out]
           rw [show (!QaK x.c.had x.c.was x.c.has x.c.is_ && QaK gb gv x.c.had x.c.was)=true from by rw [h1,h2,h3];simp [QaK,HC.out]]
           rfl
          have hst':Qcw es1 x.c=QbZ es1 x.c.k:=by rw [Qcw,h3];rfl
          have HAP':=Lib.hid hap'
          have HST':=Lib.hid hst'
          clear hap' hst'
          go_wp2_with fail
          refine (HDEL.out w6 (HX3.out.trans H6.out)).mono ?_
          rintro e w8 ⟨rfl,hm8,hst8⟩
          rw [←HST'.out] at hm8
          have HM8:=Lib.hid hm8
          have HX8:=Lib.hid (HX.out.trans (((HX3.out.trans H6.out).st (fun b=>b=M)).trans hst8))
          clear hm8 hst8
          go_wp2_with fail
          go_roundw
          case rel=>exact ⟨j+1,Qcw es1 x.c,hlt,by go_num,QcJ HSO.out _,HAP'.out.symm,by have:=HLT.out;omega,HM8.out,HX8.out⟩
          case measure=>simp [intOf];omega
        | true=>
          rw [h3] at q6
          go_wp2_with fail
          refine (HCMP2.out w6 (HX3.out.trans H6.out)).mono ?_
          rintro e w7 ⟨rfl,hx7⟩
          have H7:=Lib.hid (H6.out.trans hx7)
          have q7:=HSS.out _ H7.out
          rw [h2,h3] at q7
          clear hx7 q6
          by_cases hc2:Qbv x.c.was x.c.is_=0
          ·have hcb2:(Qbv x.c.was x.c.is_ == 0)=true:=by simp [hc2]
           have HC2:=Lib.hid hc2
           clear hc2
           have hnone:ap=none:=by
            rw [HAP.out]
            rw [show (!QaK x.c.had x.c.was x.c.has x.c.is_ && QaK gb gv x.c.had x.c.was)=false from by rw [h1,h2,h3];simp [QaK,HC2.out]]
            rfl
           have HXE:=Lib.hid (HX.out.trans ((HX3.out.trans H7.out).st _))
           have HNO:=Lib.hid hnone
           clear hnone
           go_wp2_with fail
           go_ret
           rw [HNO.out]
           exact ⟨es1,rfl,fun x h=>(by cases h),HSO.out,HMA.out.ext (HX3.out.trans H7.out),HXE.out⟩
          ·have hcb2:(Qbv x.c.was x.c.is_ == 0)=false:=by simp [hc2]
           have HC2:=Lib.hid hc2
           clear hc2
           have hap':ap=apC (Qcw es1 x.c) ((cs.map CE.c).drop (j+1)):=by
            rw [HAP.out]
            rw [show (!QaK x.c.had x.c.was x.c.has x.c.is_ && QaK gb gv x.c.had x.c.was)=true from by rw [h1,h2,h3];simp [QaK,HC.out,HC2.out]]
            rfl
           have hst':Qcw es1 x.c=Qbz es1 x.c.k x.c.is_:=by rw [Qcw,h3];rfl
           have HAP':=Lib.hid hap'
           have HST':=Lib.hid hst'
           clear hap' hst'
           go_wp2_with fail
           refine (HPUT.out w7 (HX3.out.trans H7.out)).mono ?_
           rintro e w8 ⟨⟨r,rfl⟩,hm8,hst8⟩
           rw [←HST'.out] at hm8
           have HM8:=Lib.hid hm8
           have HX8:=Lib.hid (HX.out.trans (((HX3.out.trans H7.out).st (fun b=>b=M)).trans hst8))
           clear hm8 hst8
           go_wp2_with fail
           go_roundw
           case rel=>exact ⟨j+1,Qcw es1 x.c,hlt,by go_num,QcJ HSO.out _,HAP'.out.symm,by have:=HLT.out;omega,HM8.out,HX8.out⟩
           case measure=>simp [intOf];omega
       ·have hcb:(Qbv gv x.c.was != 0)=true:=bne_iff_ne.2 hc
        have HC:=Lib.hid hc
        clear hc
        have hnone:ap=none:=by
         rw [HAP.out]
         rw [show (!QaK x.c.had x.c.was x.c.has x.c.is_ && QaK gb gv x.c.had x.c.was)=false from by rw [h1,h2];simp [QaK,HC.out]]
         rfl
        have HXE:=Lib.hid (HX.out.trans ((HX3.out.trans H6.out).st _))
        have HNO:=Lib.hid hnone
        clear hnone
        go_wp2_with fail
        go_ret
        rw [HNO.out]
        exact ⟨es1,rfl,fun x h=>(by cases h),HSO.out,HMA.out.ext (HX3.out.trans H6.out),HXE.out⟩
     | false=>
       have q5:=HSS.out _ H5.out
       rw [h2] at q5
       have hne:(true != false)=true:=rfl
       have hnone:ap=none:=by
        rw [HAP.out]
        rw [show (!QaK x.c.had x.c.was x.c.has x.c.is_ && QaK gb gv x.c.had x.c.was)=false from by rw [h1,h2];simp [QaK]]
        rfl
       have HXE:=Lib.hid (HX.out.trans ((HX3.out.trans H5.out).st _))
       have HNO:=Lib.hid hnone
       clear hnone
       go_wp2_with fail
       go_ret
       rw [HNO.out]
       exact ⟨es1,rfl,fun x h=>(by cases h),HSO.out,HMA.out.ext (HX3.out.trans H5.out),HXE.out⟩
   | false=>
     cases h2:x.c.had with
     | true=>
       have q5:=HSS.out _ H5.out
       rw [h2] at q5
       have hne:(false != true)=true:=rfl
       have hnone:ap=none:=by
        rw [HAP.out]
        rw [show (!QaK x.c.had x.c.was x.c.has x.c.is_ && QaK gb gv x.c.had x.c.was)=false from by rw [h1,h2];simp [QaK]]
        rfl
       have HXE:=Lib.hid (HX.out.trans ((HX3.out.trans H5.out).st _))
       have HNO:=Lib.hid hnone
       clear hnone
       go_wp2_with fail
       go_ret
       rw [HNO.out]
       exact ⟨es1,rfl,fun x h=>(by cases h),HSO.out,HMA.out.ext (HX3.out.trans H5.out),HXE.out⟩
     | false=>
       have q5:=HSS.out _ H5.out
       rw [h2] at q5
       have hne:(false != false)=false:=rfl
       cases h3:x.c.has with
       | false=>
         rw [h3] at q5
         have hnone:ap=none:=by
          rw [HAP.out]
          rw [show (!QaK x.c.had x.c.was x.c.has x.c.is_ && QaK gb gv x.c.had x.c.was)=false from by rw [h1,h2,h3];simp [QaK]]
          rfl
         have HXE:=Lib.hid (HX.out.trans ((HX3.out.trans H5.out).st _))
         have HNO:=Lib.hid hnone
         clear hnone
         go_wp2_with fail
         go_ret
         rw [HNO.out]
         exact ⟨es1,rfl,fun x h=>(by cases h),HSO.out,HMA.out.ext (HX3.out.trans H5.out),HXE.out⟩
       | true=>
         rw [h3] at q5
         have hap':ap=apC (Qcw es1 x.c) ((cs.map CE.c).drop (j+1)):=by
          rw [HAP.out]
          rw [show (!QaK x.c.had x.c.was x.c.has x.c.is_ && QaK gb gv x.c.had x.c.was)=true from by rw [h1,h2,h3];simp [QaK]]
          rfl
         have hst':Qcw es1 x.c=Qbz es1 x.c.k x.c.is_:=by rw [Qcw,h3];rfl
         have HAP':=Lib.hid hap'
         have HST':=Lib.hid hst'
         clear hap' hst'
         go_wp2_with fail
         refine (HPUT.out _ (HX3.out.trans H5.out)).mono ?_
         rintro e w8 ⟨⟨r,rfl⟩,hm8,hst8⟩
         rw [←HST'.out] at hm8
         have HM8:=Lib.hid hm8
         have HX8:=Lib.hid (HX.out.trans (((HX3.out.trans H5.out).st (fun b=>b=M)).trans hst8))
         clear hm8 hst8
         go_wp2_with fail
         go_roundw
         case rel=>exact ⟨j+1,Qcw es1 x.c,hlt,by go_num,QcJ HSO.out _,HAP'.out.symm,by have:=HLT.out;omega,HM8.out,HX8.out⟩
         case measure=>simp [intOf];omega
  ·have g1:¬(j:Int)<(cs.length:Int):=by omega
   have hend:ap=some es1:=by
    rw [←hap,List.drop_of_length_le (by rw [List.length_map];omega)]
    rfl
   have HE:=Lib.hid hend
   have HFIN:=Lib.hid (show Sorted es1∧MapAt H wr M es1∧St (fun b=>b=M) w wr from ⟨hso,hM,hX⟩)
   clear hso hap hlT hM hX hend
   go_wp2_with fail
   go_ret
   rw [HE.out]
   exact ⟨es1,rfl,fun x h=>Option.some.inj h,HFIN.out.1,HFIN.out.2.1,HFIN.out.2.2⟩
end Go.Proofs.YtohajcflklejjaaGreat
namespace Go.Proofs.YtohajcflklejjaaGreat
open Go.RowKit
set_option linter.unusedVariables false
section
variable {P : Program} {ops : Array Oper} {Q : Exit → Act → World → Prop} {md : Region.Mode} {S : World → Prop}
theorem Qi6 {i j k:Nat} {oi oj ok:Oper} {fuel:Nat} {listed:Array Bool} {a:Act} {w:World} (hr:Region.ready md ops listed=[i,j,k]) (hi:ops[i]? = some oi) (hj:ops[j]? = some oj) (hk:ops[k]? = some ok) (hw:Region.wanted oi (yielded ops a.tmps)=true) (hv:Region.wanted oj (yielded ops a.tmps)=true) (hu:Region.wanted ok (yielded ops a.tmps)=true)
  (h:∀ K':Act→World→Prop,Shut (∀ a w,S w→(S w→wpAnyH P md ops Q S fuel (listed.setIfInBounds i true) a w)→K' a w)→Oper.wp P oi a w K' Q)
  (h':∀ K':Act→World→Prop,Shut (∀ a w,S w→(S w→wpAnyH P md ops Q S fuel (listed.setIfInBounds j true) a w)→K' a w)→Oper.wp P oj a w K' Q)
  (h'':∀ K':Act→World→Prop,Shut (∀ a w,S w→(S w→wpAnyH P md ops Q S fuel (listed.setIfInBounds k true) a w)→K' a w)→Oper.wp P ok a w K' Q):wpAnyH P md ops Q S (fuel+1) listed a w:=
 wpAnyH_ready hr (by simp) (AllReadyH.cons hi (fun K' hK=>by rw [if_pos hw];exact h K' hK) (AllReadyH.cons hj (fun K' hK=>by rw [if_pos hv];exact h' K' hK) (AllReadyH.cons hk (fun K' hK=>by rw [if_pos hu];exact h'' K' hK) AllReadyH.nil)))
end
def QnE (R:Act→World→Prop):Exit→Act→World→Prop
 | .normal,a,w=>R a w
 | _,_,_=>False
theorem QiC {R:Act→World→Prop} {a:Act} {w:World} (h:R a w):QnE R .normal a w:=h
theorem Qf8 {F:Fence} {n:Nat} {P:Program} {c:Code} {Q:Exit→Act→World→Prop} {a:Act} {w:World} (h:c.wpIn F n P (QnE (Q .normal)) a w):c.wpIn F n P Q a w:=
 wpIn_mono h fun e a w h=>by cases e <;> first | exact h | exact h.elim
abbrev Qev:List Value:=[.string ByteArray.empty,.int .i64 0,.bool false,.int .i64 0,.string ByteArray.empty,.slice none 0 0,.slice none 0 0]
theorem row_zero {w5:World} {base n:Nat} {s3:Sl} {A:List Value} (h:w5.ownsRow base 47 7 (.slice s3.a (n+1) s3.c) (n+1) (A++Qev)) (hA:A.length=n*7) :
  ∃ g cap,s3=⟨some ⟨g,0,none⟩,cap⟩∧base≤g∧n+1≤cap∧cap≤maxLen∧g<w5.heap.size∧(∀ o,w5.frozen? ⟨g,o,none⟩=false)∧w5.cell? ⟨g,n*7,none⟩=some (.string ByteArray.empty)∧w5.cell? ⟨g,n*7+1,none⟩=some (.int .i64 0)∧w5.cell? ⟨g,n*7+2,none⟩=some (.bool false)∧
   w5.cell? ⟨g,n*7+3,none⟩=some (.int .i64 0)∧w5.cell? ⟨g,n*7+4,none⟩=some (.string ByteArray.empty)∧w5.cell? ⟨g,n*7+5,none⟩=some (.slice none 0 0)∧w5.cell? ⟨g,n*7+6,none⟩=some (.slice none 0 0):=by
 obtain ⟨g,cap,rfl,hbg,hnc,hcm,hfil⟩:=Qav h (Nat.succ_pos n)
 have hcl:=h.cells (g:=g) rfl
 have e:∀ c u,Qev[c]? = some u→w5.cell? ⟨g,n*7+c,none⟩=some u:=fun c u hu=>by
  have:=hcl (n*7+c) u (by rw [List.getElem?_append_right (by omega),hA,Nat.add_sub_cancel_left];exact hu)
  rwa [Qa7,Nat.zero_add] at this
 exact ⟨g,cap,rfl,hbg,hnc,hcm,hfil.lt,hfil.frozen,e 0 _ rfl,e 1 _ rfl,e 2 _ rfl,e 3 _ rfl,e 4 _ rfl,e 5 _ rfl,e 6 _ rfl⟩
section
variable {w W0 W3 W4 w5 : World} {B g cap : Nat} {s : Sl} {ys : List LE} {es : List Ent} {x : LE}
def QjP (w W3:World) (B:Nat) (s:Sl) (es:List Ent) (W':World):Prop:=
 ∃ C',Coll w B es C' W'∧St (fun b=>b=B∨s.row=some b) W3 W'∧(∀ b,C' b→(b=B∨s.row=some b)∨W3.heap.size≤b)∧(∀ b,C' b→b<W'.heap.size)
theorem QaH (hB:B<w.heap.size) (hblk:Blk W0 B 50 #[.slice s.a ys.length s.c]) (ho:OE W0 (w.heap.size+2) s ys) (hes:ys.map LE.ent=es) (hst:St (fun b=>b=B) w W0) (hsz:w.heap.size+2≤W0.heap.size)
  (h03:St (fun b=>b=w.heap.size+1) W0 W3) (hv:RV W3 (In W0.heap.size W3.heap.size) x.v x.sl x.so) (hk:x.k.size≤maxLen) (h34:Ext W3 W4) (hwr:Wr W4 w5 s.row) (hs3:(⟨some ⟨g,0,none⟩,cap⟩:Sl).a=s.a∨(⟨some ⟨g,0,none⟩,cap⟩:Sl).a=some ⟨W4.heap.size,0,none⟩∧Wr W4 w5 none) (hfew:(ys.length+1)*104≤140737488355328)
  (hown:w5.ownsRow (w.heap.size+2) 47 7 (.slice (some ⟨g,0,none⟩) (ys.length+1) cap) (ys.length+1) (Qae ys++Qev)) :
  QjP w W3 B s (es++[x.ent]) ((Qcc w5 g (ys.length*7) x.k x.v x.sl x.so).setCell ⟨B,0,none⟩ (.slice (some ⟨g,0,none⟩) (ys.length+1) cap))∧QjP w W3 B s (es++[x.ent]) (Qcc (w5.setCell ⟨B,0,none⟩ (.slice (some ⟨g,0,none⟩) (ys.length+1) cap)) g (ys.length*7) x.k x.v x.sl x.so):=by
 have hrow0:∀ b,s.row=some b→w.heap.size+2≤b∧b<W0.heap.size:=fun b hb=>Qab ho.own hb
 have hBg:w.heap.size+2≤g:=(Qab (s:=⟨some ⟨g,0,none⟩,cap⟩) hown rfl).1
 have hBg5:g<w5.heap.size:=(Qab (s:=⟨some ⟨g,0,none⟩,cap⟩) hown rfl).2
 have hB5:Blk w5 B 50 #[.slice s.a ys.length s.c]:=(hwr.st (H:=fun b=>s.row=some b) fun i hi=>hi).blk ((h03.blk hblk (by omega)).ext h34) (fun e=>by have:=(hrow0 B e).1;omega)
 have hset:∀ W,St (fun b=>b=B) W (W.setCell ⟨B,0,none⟩ (.slice (some ⟨g,0,none⟩) (ys.length+1) cap)):=fun W=>(St.refl (fun b=>b=B) W).set (p:=⟨B,0,none⟩) (.inr rfl) _
 have hput:∀ W,St (fun b=>b=g) W (Qcc W g (ys.length*7) x.k x.v x.sl x.so):=fun W=>St.Qcc (H:=fun b=>b=g) (b:=g) (St.refl _ W) (.inr rfl) _ _ _ _ _
 have hl:(Qae ys).length=ys.length*7:=QaM ys
 constructor
 ·have hown1:=QfV (s:=⟨some ⟨g,0,none⟩,cap⟩) (QiE hown hl x) ((hset (Qcc w5 g (ys.length*7) x.k x.v x.sl x.so)).agree.mono fun i hi=>⟨hi.2,by have:=hi.1;omega⟩)
  obtain ⟨e1,e2,e3,e4⟩:=Qig (s3:=⟨some ⟨g,0,none⟩,cap⟩) (W':=(Qcc w5 g (ys.length*7) x.k x.v x.sl x.so).setCell ⟨B,0,none⟩ (.slice (some ⟨g,0,none⟩) (ys.length+1) cap)) hB ho hes hst hsz h03 hv hk h34 hwr hs3
   (((hput w5).mono fun i _ hi=>.inr (by rw [hi];rfl)).trans ((hset _).mono fun i _ hi=>.inl hi)) hfew (((hput w5).blk hB5 (by omega)).QaQ 0 _) hown1
  exact ⟨_,e1,e2,e3,e4⟩
 ·have hown1:=QiE (QfV (s:=⟨some ⟨g,0,none⟩,cap⟩) hown ((hset w5).agree.mono fun i hi=>⟨hi.2,by have:=hi.1;omega⟩)) hl x
  obtain ⟨e1,e2,e3,e4⟩:=Qig (s3:=⟨some ⟨g,0,none⟩,cap⟩) (W':=Qcc (w5.setCell ⟨B,0,none⟩ (.slice (some ⟨g,0,none⟩) (ys.length+1) cap)) g (ys.length*7) x.k x.v x.sl x.so) hB ho hes hst hsz h03 hv hk h34 hwr hs3
   (((hset w5).mono fun i _ hi=>.inl hi).trans ((hput _).mono fun i _ hi=>.inr (by rw [hi];rfl))) hfew ((hput _).blk (hB5.QaQ 0 _) (by omega)) hown1
  exact ⟨_,e1,e2,e3,e4⟩
end
def Qbt (f:FuncId):Op→Bool
 | .call c=>match c.callee with
   | .value (.func k)=>k == f
   | _=>Qa5 (.call c)
 | o=>Qa5 o
theorem Qjs {P:Program} {f:FuncId} (eg:∀ args w,(callFunc f args).run P w=.ok (.enter f args) w) {a:Act} {o:Oper} {w w':World} (h:Qbt f o.op=true) (row:String) (args:Array Value):(execOp a.eval o).run P w≠.ok (.row row args) w':=by
 cases hd:Qa5 o.op with
 | true=>exact QfW hd row args
 | false=>
   cases ho:o.op with
   | call c=>
     rw [ho] at h hd
     cases hc:c.callee with
     | value v=>
       cases v with
       | func k=>
         simp only [Qbt,hc] at h
         obtain rfl:k=f:=by simpa using h
         unfold execOp
         intro h'
         simp [ho,resolve,hc,Act.eval,invoke,go_sem,eg] at h'
       | _=>
         simp only [Qbt,hc] at h
         rw [hd] at h;cases h
     | _=>
       simp only [Qbt,hc] at h
       rw [hd] at h;cases h
   | _=>
     rw [ho] at h hd
     simp only [Qbt] at h
     rw [hd] at h;cases h
theorem Qfc {f:FuncId} {o:Oper} (h:Qbt f o.op=true):∀ c,o.op≠.defer c:=fun c e=>by rw [e] at h;simp [Qbt,Qa5] at h
theorem Qeu {P:Program} {f:FuncId} (eg:∀ args w,(callFunc f args).run P w=.ok (.enter f args) w) {ops:Array Oper} {Q:Exit→Act→World→Prop} {l n:Nat} (hp:∀ (i:Nat) (o:Oper),ops[i]? = some o→Qbt f o.op=true) (hQ:¬LetsOut Q) {i:Nat} {K K':Act→World→Prop} {a:Act} {w:World}
  (hK:∀ a w,K a w→K' a w) (h:wpOp P ops Q i K a w):wpOpIn (Fence.wide.inRound l) n P ops Q i K' a w:=by
 unfold wpOp at h
 unfold wpOpIn
 cases ho:ops[i]? with
 | none=>simp only [ho] at h ⊢;exact hK _ _ h
 | some o=>
   simp only [ho] at h ⊢
   split at h
   ·rename_i hw
    rw [if_pos hw]
    rcases h with h | ⟨-,h⟩
    ·unfold Oper.wpIn
     refine ⟨fun _ _=>trivial,?_⟩
     rw [show (Fence.wide.inRound l).round=some l from rfl,Oper.semAt_some l _ o (Qfc (hp i o ho))]
     unfold Oper.wp at h
     have hr:=fun row args w'=>Qjs (P:=P) eg (a:=a) (w:=w) (w':=w') (hp i o ho) row args
     generalize (execOp a.eval o).run P w=r at *
     cases r with
     | ok x w'=>
       cases x <;> simp only [Oper.upon,Oper.uponIn] at h ⊢
       case value v=>exact hK _ _ h
       case skip=>exact hK _ _ h
       case defer d=>exact hK _ _ h
       case enter f args=>
        refine ⟨(fun hd=>by simp [Fence.wide] at hd),(CallsIn.inRound l (callsIn_wide.2 h)).mono fun e w'' he=>?_⟩
        cases e with
        | returned v=>exact hK _ _ he
        | panicked c=>exact he
        | outgrown=>exact he
       case row row args=>exact absurd rfl (hr row args w')
     | halt x w'=>cases x <;> simp only [Oper.upon,Oper.uponIn] at h ⊢ <;> exact h
    ·exact absurd h hQ
   ·rename_i hw
    rw [if_neg hw]
    exact ⟨fun _ _=>trivial,hK _ _ h⟩
theorem QdZ {P:Program} {f:FuncId} (eg:∀ args w,(callFunc f args).run P w=.ok (.enter f args) w) {md:Region.Mode} {ops:Array Oper} {Q:Exit→Act→World→Prop} {S:World→Prop} {l n:Nat} (hp:∀ (i:Nat) (o:Oper),ops[i]? = some o→Qbt f o.op=true) (hQ:¬LetsOut Q) :
  ∀ fuel listed a w,wpAnyH P md ops Q S fuel listed a w→wpAnyIn (Fence.wide.inRound l) n P md ops Q fuel listed a w:=by
 intro fuel
 induction fuel with
 | zero=>exact fun _ _ _ h=>h
 | succ fuel ih=>
   intro listed a w h
   exact ⟨h.1,fun i hi=>Qeu eg hp hQ (fun a' w' h'=>ih _ a' w' h'.2) (h.2 i hi)⟩
theorem QdH {P:Program} {f:FuncId} (eg:∀ args w,(callFunc f args).run P w=.ok (.enter f args) w) {id l n:Nat} {ops:Array Oper} {Q:Exit→Act→World→Prop} {S:World→Prop} {a:Act} {w:World} (hp:(ops.all fun o=>Qbt f o.op)=true) (hQ:¬LetsOut Q) (hm:P.follows .mixedOrders=true) (hS:S w.drew)
  (h:S w.drew→wpAnyH P .any ops Q S ops.size (Array.replicate ops.size false) a w.drew):(Code.region id ops true).wpIn (Fence.wide.inRound l) n P Q a w:=
 wpIn_region_any hm (QdZ eg (fun i o ho=>by
  have:=Array.all_eq_true.1 hp i (Array.getElem?_eq_some_iff.1 ho).1
  rwa [(Array.getElem?_eq_some_iff.1 ho).2] at this) hQ _ _ _ _ (h hS))
end Go.Proofs.YtohajcflklejjaaGreat
namespace Go.Proofs.YtohajcflklejjaaGreat
open Go.RowKit
set_option linter.unusedVariables false
set_option linter.unusedSimpArgs false
instance : Inhabited CE := ⟨⟨⟨ByteArray.empty, false, default, false, default⟩, Sl.none, Sl.none, Sl.none, Sl.none⟩⟩
theorem head_filter {P:ByteArray→Bool} {k:ByteArray} {b:List Ent} (h:∀ f∈b,klt k f.1=true):∀ f∈(b.filter fun e=>P e.1).head?,klt k f.1=true:=fun f hf=>h f (List.mem_filter.1 (List.mem_of_mem_head? hf)).1
theorem Qov {P:ByteArray→Bool}:∀ (n:Nat) {a b:List Ent},a.length+b.length≤n→Sorted a→Sorted b→chg (a.filter fun e=>P e.1) (b.filter fun e=>P e.1)=(chg a b).filter fun c=>P c.k
 | n,[],b,_,_,_=>by rw [List.filter_nil,Qe6,Qe6,List.filter_map];rfl
 | n,e :: a,[],_,_,_=>by rw [List.filter_nil,QeP,QeP,List.filter_map];rfl
 | 0,e :: a,f :: b,h,_,_=>by simp at h
 | n+1,e :: a,f :: b,h,ha,hb=>by
   obtain ⟨ha1,ha2⟩:=List.pairwise_cons.1 ha
   obtain ⟨hb1,hb2⟩:=List.pairwise_cons.1 hb
   simp only [List.length_cons] at h
   by_cases h1:klt e.1 f.1=true
   ·have hx:∀ y∈f :: b,klt e.1 y.1=true:=fun y hy=>by
     rcases List.mem_cons.1 hy with rfl | hy
     ·exact h1
     ·exact QaF h1 (hb1 y hy)
    have ih:=Qov (P:=P) n (a:=a) (b:=f :: b) (by simp only [List.length_cons];omega) ha2 hb
    rw [Qie (fun y hy=>hx y (List.mem_of_mem_head? hy))]
    by_cases hp:P e.1=true
    ·rw [List.filter_cons_of_pos (by exact hp),Qie (head_filter hx),ih,List.filter_cons_of_pos (by exact hp)]
    ·rw [List.filter_cons_of_neg (by exact hp),ih,List.filter_cons_of_neg (by exact hp)]
   ·by_cases h2:klt f.1 e.1=true
    ·have hx:∀ y∈e :: a,klt f.1 y.1=true:=fun y hy=>by
      rcases List.mem_cons.1 hy with rfl | hy
      ·exact h2
      ·exact QaF h2 (ha1 y hy)
     have ih:=Qov (P:=P) n (a:=e :: a) (b:=b) (by simp only [List.length_cons];omega) ha hb2
     rw [Qid (fun y hy=>hx y (List.mem_of_mem_head? hy))]
     by_cases hp:P f.1=true
     ·rw [List.filter_cons_of_pos (p:=fun x:Ent=>P x.1) (a:=f) (by exact hp),Qid (head_filter hx),ih,List.filter_cons_of_pos (by exact hp)]
     ·rw [List.filter_cons_of_neg (p:=fun x:Ent=>P x.1) (a:=f) (by exact hp),ih,List.filter_cons_of_neg (by exact hp)]
    ·have he:e.1=f.1:=by
      exact QcE (by simpa using h1) (by simpa using h2)
     have ih:=Qov (P:=P) n (a:=a) (b:=b) (by omega) ha2 hb2
     rw [Qey he,List.filter_append]
     by_cases hp:P e.1=true
     ·have hq:P f.1=true:=by rw [←he];exact hp
      rw [List.filter_cons_of_pos (p:=fun x:Ent=>P x.1) (a:=e) (by exact hp),List.filter_cons_of_pos (p:=fun x:Ent=>P x.1) (a:=f) (by exact hq),Qey he,ih]
      congr 1
      unfold Qj4
      split
      ·rfl
      ·rw [List.filter_cons_of_pos (by exact hp),List.filter_nil]
     ·have hq:¬P f.1=true:=by rw [←he];exact hp
      rw [List.filter_cons_of_neg (p:=fun x:Ent=>P x.1) (a:=e) (by exact hp),List.filter_cons_of_neg (p:=fun x:Ent=>P x.1) (a:=f) (by exact hq),ih]
      unfold Qj4
      split
      ·rfl
      ·rw [List.filter_cons_of_neg (by exact hp),List.filter_nil,List.nil_append]
structure Qy where
 kind:Int
 lo:ByteArray
 hi:ByteArray
 op:Bool
abbrev Qy.v (q:Qy):Value:=.agg #[.int .i64 q.kind,.string q.lo,.string q.hi,.bool q.op]
def Qfx (q:Qy):Int:=if q.kind=1 then (if q.hi.toList=[]∧q.op=false then 0 else 2) else if q.kind=2 then (if q.op=true∧¬q.hi.toList=[] then 2 else 0) else 2
theorem Qe5 {l:List UInt8} (h:¬l=[]):l.isEmpty=false:=by cases l with | nil=>exact absurd rfl h | cons a l=>rfl
theorem QmA (q:Qy):∃ kd lo hi op,q=⟨kd,lo,hi,op⟩∧(kd=1∨kd=2∨(¬kd=1∧¬kd=2))∧(hi.toList=[]∨¬hi.toList=[])∧(op=true∨op=false):=by
 obtain ⟨kd,lo,hi,op⟩:=q
 exact ⟨kd,lo,hi,op,rfl,by by_cases h:kd=1 <;> by_cases h':kd=2 <;> simp [h,h'],Classical.em _,by cases op <;> simp⟩
theorem QkR (q:Qy) (w:World):Calls Tryz.prog 11 #[q.v] w fun e w'=>e=.returned (.int .i64 (Qfx q))∧Ext w w':=by
 obtain ⟨kd,lo,hi,op,rfl,rfl | rfl | ⟨h1,h2⟩,hh | hh,rfl | rfl⟩:=QmA q
 all_goals
  try have g1:(kd == 1)=false:=beq_eq_false_iff_ne.2 h1
  try have g2:(kd == 2)=false:=beq_eq_false_iff_ne.2 h2
  try have g3:=Qe5 hh
  try have g4:hi.toList.isEmpty=true:=by rw [hh];rfl
  go_enter Tryz.func11,Tryz.ntmps11
  go_wp2
  go_ret
  exact ⟨by simp [Qfx, *],(Ext.refl w).alloc _ _⟩
theorem Qhl (q:Qy) (w:World):Calls Tryz.prog 12 #[q.v] w fun e w'=>e=.returned (.int .i64 (Qfx q))∧Ext w w':=by
 obtain ⟨kd,lo,hi,op,rfl,rfl | rfl | ⟨h1,h2⟩,hh | hh,rfl | rfl⟩:=QmA q
 all_goals
  try have g1:(kd == 1)=false:=beq_eq_false_iff_ne.2 h1
  try have g2:(kd == 2)=false:=beq_eq_false_iff_ne.2 h2
  try have g3:=Qe5 hh
  try have g4:hi.toList.isEmpty=true:=by rw [hh];rfl
  try have g5:kd<1∨2<kd:=by omega
  try rcases g5 with g5 | g5
  all_goals
   try have g6:¬kd<1:=by omega
   go_enter Tryz.func12,Tryz.ntmps12
   go_wp2
   go_ret
   exact ⟨by simp [Qfx, *],(Ext.refl w).alloc _ _⟩
abbrev Qn9 (k p:ByteArray):Bool:=p.toList.isPrefixOf k.toList
def Qca (k lo hi:ByteArray) (op:Bool):Bool:=!(klt k lo) && (op || klt k hi)
theorem Qfw (w:World) (k lo hi:ByteArray) (op:Bool):Calls Tryz.prog 42 #[.string k,.string lo,.string hi,.bool op] w fun e w'=>e=.returned (.bool (Qca k lo hi op))∧w=w':=by
 cases op
 all_goals
  go_enter Tryz.func42,Tryz.ntmps42
  go_wp2_with fail
  all_goals
   go_ret
   exact ⟨by simp [Qca,klt, *],rfl⟩
def inQ (q:Qy) (k:ByteArray):Bool:=if Qfx q=0 then (if q.kind=1 then Qn9 k q.lo else Qca k q.lo q.hi q.op) else false
def Qy.short (q:Qy):Prop:=q.lo.size≤maxLen∧q.hi.size≤maxLen
theorem QkS {q:Qy} (h:Qfx q=0):q.kind=1∨q.kind=2:=by
 by_cases h1:q.kind=1
 ·exact .inl h1
 ·by_cases h2:q.kind=2
  ·exact .inr h2
  ·simp [Qfx,h1,h2] at h
structure Iv where
 lo:ByteArray
 hi:ByteArray
 op:Bool
abbrev Iv.v (s:Iv):Value:=.agg #[.string s.lo,.string s.hi,.bool s.op]
def QiP (q:Qy) (s:Iv):Prop:=s.lo=q.lo∧(if q.kind=1 then (match Qft q.lo.toList with | none=>s.op=true∧s.hi=ByteArray.empty | some e=>s.op=false∧s.hi.toList=e) else s.hi=q.hi∧s.op=q.op)
theorem QiP.has {q:Qy} {s:Iv} (h:QiP q s) (hm:Qfx q=0) (k:ByteArray):Qca k s.lo s.hi s.op=inQ q k:=by
 obtain ⟨h1,h2⟩:=h
 rw [inQ,if_pos hm,h1]
 by_cases hk:q.kind=1
 ·rw [if_pos hk] at h2 ⊢
  have hb:=QfG q.lo.toList k.toList
  rw [Qn9,hb,Qca]
  cases he:Qft q.lo.toList with
  | none=>rw [he] at h2;simp [h2.1,klt]
  | some e=>rw [he] at h2;simp [h2.1,klt,h2.2]
 ·rw [if_neg hk] at h2 ⊢
  rw [h2.1,h2.2]
theorem QkH {q:Qy} {s:Iv} {w W:World} {R:Nat} (hb:Blk W R 107 #[.string s.lo,.string s.hi,.bool s.op]) (hw:Below w.heap.size w W) (hi:QiP q s) {a:Act} (ha:a.tmps.getD 2 undef=.pointer (some ⟨R,0,none⟩)) (hd:a.defers=[]) :
  bodyPost Tryz.prog Tryz.f45 (fun e w'=>∃ s:Iv,e=.returned s.v∧QiP q s∧Below w.heap.size w w') Exit.ret a W:=by
 have d0:W.cell? ⟨R,0,none⟩=some (.string s.lo):=hb.cell 0
 have d1:W.cell? ⟨R,1,none⟩=some (.string s.hi):=hb.cell 1
 have d2:W.cell? ⟨R,2,none⟩=some (.bool s.op):=hb.cell 2
 refine bodyPost_ret (v:=s.v) ?_ hd ⟨s,rfl,hi,hw⟩
 simp only [Array.getD_eq_getD_getElem?] at ha
 simp [results,Tryz.results45,go_sem,ha,d0,d1,d2]
theorem Qnv {q:Qy} {s:Iv} {w w1:World} {R:Nat} {c0 c1 c2:Value} (hb:Blk w1 R 107 #[c0,c1,c2]) (hw:Below w.heap.size w w1) (hi:QiP q s) {a:Act} (hR:w.heap.size≤R) (ha:a.tmps.getD 2 undef=.pointer (some ⟨R,0,none⟩)) (hd:a.defers=[]) :
  bodyPost Tryz.prog Tryz.f45 (fun e w'=>∃ s:Iv,e=.returned s.v∧QiP q s∧Below w.heap.size w w') Exit.ret a (((w1.setCell ⟨R,0,none⟩ (.string s.lo)).setCell ⟨R,1,none⟩ (.string s.hi)).setCell ⟨R,2,none⟩ (.bool s.op)):=by
 have hbF:=((hb.QaQ 0 (.string s.lo)).QaQ 1 (.string s.hi)).QaQ 2 (.bool s.op)
 exact QkH hbF (((hw.setCell (p:=⟨R,0,none⟩) hR _).setCell (p:=⟨R,1,none⟩) hR _).setCell (p:=⟨R,2,none⟩) hR _) hi ha hd
theorem Qfv (q:Qy) (hq:q.short) (hm:Qfx q=0) (w:World):Calls Tryz.prog 45 #[q.v] w fun e w'=>∃ s:Iv,e=.returned s.v∧QiP q s∧Below w.heap.size w w':=by
 have hk:=QkS hm
 have he:=fun W=>QhT W q.lo hq.1
 obtain ⟨kd,lo,hi,op⟩:=q
 dsimp only at hk he
 clear hm hq
 rcases hk with rfl | rfl
 ·go_enter Tryz.func45,Tryz.ntmps45
  go_wp2_with fail
  generalize hW0:World.alloc (World.alloc _ _) _=W0
  obtain ⟨hx0,hz0,hb0,hb1⟩:=Qax w _ _ _ _ W0 hW0
  clear hW0
  refine (he W0).mono ?_
  rintro e w1 ⟨hbw,en,ok,rfl,hen⟩
  have hag:Agree (Lt W0.heap.size) W0 w1:=Agree.of_below hbw fun b h=>h
  replace hb0:=hb0.agree hag (show Lt W0.heap.size w.heap.size by show _<_;omega)
  replace hb1:=hb1.agree hag (show Lt W0.heap.size (w.heap.size+1) by show _<_;omega)
  have c1:w1.cell? ⟨w.heap.size,1,none⟩=some (.string lo):=hb0.cell 1
  have r0:w1.cell? ⟨w.heap.size+1,0,none⟩=some (.string ByteArray.empty):=hb1.cell 0
  have r1:w1.cell? ⟨w.heap.size+1,1,none⟩=some (.string ByteArray.empty):=hb1.cell 1
  have r2:w1.cell? ⟨w.heap.size+1,2,none⟩=some (.bool false):=hb1.cell 2
  have f0:=hb1.frozen 0
  have f1:=hb1.frozen 1
  have f2:=hb1.frozen 2
  have l0:=hb0.lt
  have l1:=hb1.lt
  have HEN:=Lib.hid hen
  have HBW:=Lib.hid hbw
  have HX0:=Lib.hid hx0
  have HB1:=Lib.hid hb1
  clear hen hbw hag hb0 hb1 hx0
  go_wp2_with fail
  refine Qnv (q:=⟨1,lo,hi,op⟩) (s:=⟨lo,en,!ok⟩) HB1.out (HX0.out.below.trans (HBW.out.mono (by omega))) ⟨rfl,?_⟩ (Nat.le_succ _) rfl rfl
  ·skip
   have:=HEN.out
   simp only [if_true]
   cases hE:Qft lo.toList with
   | none=>rw [hE] at this;simp only [this.1,this.2];exact ⟨rfl,trivial⟩
   | some e=>rw [hE] at this;simp only [this.1];exact ⟨rfl,this.2⟩
 ·go_enter Tryz.func45,Tryz.ntmps45
  go_wp2_with fail
  generalize hW0:World.alloc (World.alloc _ _) _=W0
  obtain ⟨hx0,hz0,hb0,hb1⟩:=Qax w _ _ _ _ W0 hW0
  clear hW0
  exact QkH (q:=⟨2,lo,hi,op⟩) (s:=⟨lo,hi,op⟩) hb1 hx0.below ⟨rfl,by simp⟩ rfl rfl
end Go.Proofs.YtohajcflklejjaaGreat
namespace Go.Proofs.YtohajcflklejjaaGreat
open Go.RowKit Go.Maps
set_option linter.unusedVariables false
set_option linter.unusedSimpArgs false
abbrev Qbx:=List (Nat × Iv)
def ivD (s:Iv):DataW Unit:=.agg [.lit (.string s.lo.data.toList),.lit (.string s.hi.data.toList),.lit (.bool s.op)]
def ivR:Value→Option (DataW Unit × List MemPlace)
 | .agg cs=>match cs.toList with
   | [.string a,.string b,.bool o]=>some (ivD ⟨a,b,o⟩,[])
   | _=>none
 | _=>none
theorem Qmt {a b:ByteArray} (h:a.data.toList=b.data.toList):a=b:=by
 obtain ⟨⟨a⟩⟩:=a
 obtain ⟨⟨b⟩⟩:=b
 have:a=b:=h
 rw [this]
theorem QmZ {s t:Iv} (h:ivD s=ivD t):s=t:=by
 obtain ⟨a,b,o⟩:=s
 obtain ⟨a',b',o'⟩:=t
 simp only [ivD,DataW.agg.injEq,List.cons.injEq,DataW.lit.injEq,Lit.string.injEq,Lit.bool.injEq,and_true] at h
 obtain ⟨h1,h2,h3⟩:=h
 rw [Qmt h1,Qmt h2,h3]
theorem QkG (s:Iv):ivR s.v=some (ivD s,[]):=rfl
theorem Qm0 {v:Value} {y:DataW Unit × List MemPlace} (h:ivR v=some y):∃ s:Iv,v=s.v∧y.1=ivD s:=by
 unfold ivR at h
 split at h
 ·rename_i cs
  split at h
  ·rename_i a b o hc
   injection h with h
   have:cs=#[.string a,.string b,.bool o]:=by rw [←hc]
   exact ⟨⟨a,b,o⟩,by rw [this],by rw [←h]⟩
  ·cases h
 ·cases h
theorem QkF {v:Value} {s:Iv} {ps:List MemPlace} (h:ivR v=some (ivD s,ps)):v=s.v:=by
 obtain ⟨t,rfl,ht⟩:=Qm0 h
 have:ivD s=ivD t:=ht
 rw [QmZ this]
def QdI (i:Nat):Lit:=.int .u64 i
def mapD (L:Qbx):DataW Unit:=.map (L.map fun p=>(QdI p.1,ivD p.2))
theorem Qdz (a b:Nat):(QdI a).sameKey (QdI b)=(a == b):=by
 by_cases h:a=b
 ·subst h;simp [QdI,Lit.sameKey]
 ·rw [show (a == b)=false from beq_eq_false_iff_ne.2 h]
  have:¬((a:Int)=(b:Int)):=by omega
  simp [QdI,Lit.sameKey,this]
theorem Qgp (L:Qbx) (i:Nat):Maps.has (mapD L) (QdI i)=L.any (fun p=>p.1 == i):=by
 show List.any (List.map _ L) _=_
 rw [List.any_map]
 congr 1
 funext p
 exact Qdz p.1 i
theorem Qj2 {L:Qbx} {i:Nat} {p:Nat × Iv} (h:L.find? (fun p=>p.1 == i)=some p) (zd:DataW Unit):(mapD L).atKey (QdI i) zd=ivD p.2:=by
 simp only [mapD,DataW.atKey]
 rw [List.find?_map]
 have:((fun p:Lit × DataW Unit=>p.1.sameKey (QdI i))∘fun p:Nat × Iv=>(QdI p.1,ivD p.2))=fun p=>p.1 == i:=by
  funext q;exact Qdz q.1 i
 rw [this,h]
 rfl
theorem Qle (L:Qbx):Maps.size (mapD L)=L.length:=by
 show List.length (List.map _ L)=_
 rw [List.length_map]
theorem QhN (L:Qbx) (i:Nat):(L.map fun p=>(QdI p.1,ivD p.2)).filter (fun p=>!p.1.sameKey (QdI i))=(L.filter fun p=>!(p.1 == i)).map fun p=>(QdI p.1,ivD p.2):=by
 rw [List.filter_map]
 congr 2
 funext q
 exact congrArg (!·) (Qdz q.1 i)
theorem QfQ (x:Lit × DataW Unit):∀ l:List (Lit × DataW Unit),(∀ p∈l,x.1.before p.1=false)→DataW.insert x l=l++[x]
 | [],_=>rfl
 | y :: r,h=>by
   have h1:=h y (List.mem_cons_self ..)
   simp only [DataW.insert,h1,Bool.false_eq_true,if_false,List.cons_append]
   rw [QfQ x r fun p hp=>h p (List.mem_cons_of_mem _ hp)]
theorem Qmg {L:Qbx} {i:Nat} (h:∀ p∈L,p.1<i) (s:Iv):(mapD L).put (QdI i) (ivD s)=mapD (L++[(i,s)]):=by
 show DataW.map (DataW.insert (QdI i,ivD s) (List.filter _ (List.map _ L)))=_
 rw [QhN,List.filter_eq_self.2 fun p hp=>by have:=h p hp;simp;omega,QfQ,mapD,List.map_append]
 ·rfl
 ·intro p hp
  obtain ⟨q,hq,rfl⟩:=List.mem_map.1 hp
  have:=h q hq
  simp [QdI,Lit.before];omega
structure Sb (H:Nat→Prop) (w w':World):Prop where
 os:w'.os=w.os
 tape:w'.tape=w.tape
 output:w'.output=w.output
 size:w.heap.size≤w'.heap.size
 block:∀ b,b<w.heap.size→¬H b→w'.heap[b]? = w.heap[b]?
theorem St.sb {H:Nat→Prop} {w w':World} (h:St H w w'):Sb H w w':=⟨h.os,h.tape,h.output,h.size,h.block⟩
theorem Ext.sb {w w':World} (h:Ext w w') (H:Nat→Prop):Sb H w w':=(h.st H).sb
theorem Sb.refl (H:Nat→Prop) (w:World):Sb H w w:=(Ext.refl w).sb H
theorem Sb.trans {H:Nat→Prop} {a b c:World} (h:Sb H a b) (k:Sb H b c):Sb H a c:=
 ⟨k.os.trans h.os,k.tape.trans h.tape,k.output.trans h.output,Nat.le_trans h.size k.size,fun i hi hn=>(k.block i (Nat.lt_of_lt_of_le hi h.size) hn).trans (h.block i hi hn)⟩
theorem Sb.comp {H G:Nat→Prop} {a b c:World} (h:Sb H a b) (k:Sb G b c) (hG:∀ i,i<a.heap.size→G i→H i):Sb H a c:=
 ⟨k.os.trans h.os,k.tape.trans h.tape,k.output.trans h.output,Nat.le_trans h.size k.size,fun i hi hn=>(k.block i (Nat.lt_of_lt_of_le hi h.size) fun hg=>hn (hG i hi hg)).trans (h.block i hi hn)⟩
theorem Sb.mono {H G:Nat→Prop} {a b:World} (h:Sb H a b) (hG:∀ i,i<a.heap.size→H i→G i):Sb G a b:=
 ⟨h.os,h.tape,h.output,h.size,fun i hi hn=>h.block i hi fun hh=>hn (hG i hi hh)⟩
theorem Sb.of_below {n:Nat} {w w':World} (h:Below n w w'):Sb (fun b=>n≤b) w w':=⟨h.os,h.tape,h.output,h.size,fun b _ hn=>h.block b (by omega)⟩
theorem Sb.new {H:Nat→Prop} {w w':World} (h:Below w.heap.size w w'):Sb H w w':=(Sb.of_below h).mono fun i hi hh=>by omega
theorem Sb.below {H:Nat→Prop} {w w':World} (h:Sb H w w') (hH:∀ b,b<w.heap.size→¬H b):Below w.heap.size w w':=
 ⟨h.os,h.tape,h.output,h.size,fun b hb=>h.block b hb (hH b hb)⟩
theorem Sb.step {H:Nat→Prop} {a w w':World} (h:Below a.heap.size a w) (k:Sb H w w') (hH:∀ b,H b→a.heap.size≤b):Below a.heap.size a w':=
 ((Sb.new (H:=H) h).trans k).below fun b hb hh=>by have:=hH b hh;omega
theorem Sb.blk {H:Nat→Prop} {w w':World} {g:Nat} {t:TypeId} {cs:Array Value} (h:Sb H w w') (hb:Blk w g t cs) (hn:¬H g):Blk w' g t cs:=(h.block g hb.lt hn).trans hb
theorem Sb.agree {H:Nat→Prop} {w w':World} (h:Sb H w w'):Agree (NH H w) w w':=fun b hb=>h.block b hb.1 hb.2
theorem Sb.ext {H:Nat→Prop} {a b c:World} (h:Sb H a b) (k:Ext b c):Sb H a c:=h.trans (k.sb H)
theorem Sb.drew {H:Nat→Prop} {a w:World} (h:Sb H a w):Sb H a w.drew:=h.ext ((Ext.refl w).drew)
theorem Sb.set {H:Nat→Prop} {a w:World} (h:Sb H a w) {p:Addr} (hp:a.heap.size≤p.block∨H p.block) (u:Value):Sb H a (w.setCell p u):=
 ⟨h.os,h.tape,h.output,by simpa [World.setCell] using h.size,fun i hi hn=>(Below.heap_setCell w p u i (by
   rintro rfl
   rcases hp with hp | hp
   ·omega
   ·exact hn hp)).trans (h.block i hi hn)⟩
theorem Sb.grown {w w':World} {b:Nat} (h:w.grownBy w' (some b)):Sb (fun i=>i=b) w w':=
 ⟨h.os,h.tape,h.output,h.size,fun i hi hn=>h.block i hi (by intro e;injection e with e;exact hn e)⟩
theorem Sb.made {H:Nat→Prop} {w w':World} (h:w.grownBy w' none):Sb H w w':=⟨h.os,h.tape,h.output,h.size,fun i hi hn=>h.block i hi (by simp)⟩
theorem QaO {H:Type} {P:Program} {k:TypeId} {R:Value→Option (DataW H × List MemPlace)} {w w':World} {b n:Nat} {D:DataW H} (h:w.ownsMap P k R b n D) (hb:w'.heap[b]? = w.heap[b]?):w'.ownsMap P k R b n D:=by
 obtain ⟨es,clock,h1,F,h2,h3⟩:=h
 exact ⟨es,clock,hb.trans h1,F,h2,h3⟩
def Qc7 (w:World) (mb:Option Nat) (g:Nat) (L:Qbx):Prop:=match mb with
 | none=>L=[]
 | some b=>w.ownsMap Tryz.prog 34 ivR b g (mapD L)
structure Qbf (w:World) (R:Nat) (T:RT) (g:Nat) (mb:Option Nat) (L:Qbx):Prop where
 blk:Blk w R 37 #[QaE T,.int .u64 g,.map mb]
 map:Qc7 w mb g L
 ne:mb≠some R
 up:∀ p∈L,1≤p.1∧p.1≤g
 rise:L.Pairwise (fun p q=>p.1<q.1)
 short:∀ p∈L,p.2.lo.size≤maxLen∧p.2.hi.size≤maxLen
 small:g≤4611686018427387904
theorem Qc7.lt {w:World} {b g:Nat} {L:Qbx} (h:Qc7 w (some b) g L):b<w.heap.size:=World.ownsMap.lt h
theorem Qc7.heap {w w':World} {mb:Option Nat} {g:Nat} {L:Qbx} (h:Qc7 w mb g L) (hb:∀ b,mb=some b→w'.heap[b]? = w.heap[b]?):Qc7 w' mb g L:=by
 cases mb with
 | none=>exact h
 | some b=>exact QaO h (hb b rfl)
def QfE (R:Nat) (mb:Option Nat):Nat→Prop:=fun b=>b=R∨mb=some b
theorem Qbf.sb {w w':World} {R:Nat} {T:RT} {g:Nat} {mb:Option Nat} {L:Qbx} {H:Nat→Prop} (h:Qbf w R T g mb L) (k:Sb H w w') (hH:∀ b,QfE R mb b→¬H b):Qbf w' R T g mb L:=
 ⟨k.blk h.blk (hH R (.inl rfl)),h.map.heap fun b hb=>k.block b (by subst hb;exact h.map.lt) (hH b (.inr hb)),h.ne,h.up,h.rise,h.short,h.small⟩
theorem Qbf.ext {w w':World} {R:Nat} {T:RT} {g:Nat} {mb:Option Nat} {L:Qbx} (h:Qbf w R T g mb L) (k:Ext w w'):Qbf w' R T g mb L:=h.sb (k.sb fun _=>False) fun _ _ hh=>hh
theorem Qbf.new {w:World} {R:Nat} (h:Blk w R 37 #[.pointer none,.int .u64 0,.map none]):Qbf w R none 0 none []:=
 ⟨h,rfl,by simp,by simp,List.Pairwise.nil,by simp,by omega⟩
theorem Qhw:Keyed Tryz.prog 34:=int_keyed (q:=.u64) Tryz.underlying34
theorem QnX (i:Nat) (h:i≤18446744073709551615):keyOf Tryz.prog 34 (.int .u64 (i:Int))=some (QdI i):=
 keyOf_int_mk Tryz.underlying34 (by simp [Lit.wf,IntKind.min,IntKind.max,IntKind.signed,IntKind.bits];omega)
theorem QiD {o:Oper} {a:Act} {Q:Exit→Act→World→Prop} {K:Act→World→Prop} {w:World} {m x v:Operand} (hop:o.op=Op.mapUpdate 35 m x v)
  {b g i:Nat} {L:Qbx} {s:Iv} (hm:a.eval m=.map (some b)) (hx:a.eval x=.int .u64 (i:Int)) (hv:a.eval v=s.v) (hown:w.ownsMap Tryz.prog 34 ivR b g (mapD L)) (hi:i≤18446744073709551615) (hg:g<maxLen) (hL:∀ p∈L,p.1<i)
  (hK:∀ w',w'.ownsMap Tryz.prog 34 ivR b (g+1) (mapD (L++[(i,s)]))→Sb (fun c=>c=b) w w'→K (a.put o.dst undef) w'):Oper.wp Tryz.prog o a w K Q:=by
 obtain ⟨w',hrun,r1,r2⟩:=hown.store Qhw Tryz.underlying35 hg (QnX i hi) (QkG s)
 unfold Oper.wp
 simp [execOp,hop,hm,hx,hv,hrun,Result.andThen]
 rw [Qmg hL] at r1
 exact hK _ r1 (Sb.grown r2.grown)
theorem Qim:∀ {l e:List UInt8},Qft l=some e→e.length≤l.length
 | [],e,h=>by simp [Qft] at h
 | b :: t,e,h=>by
   simp only [Qft] at h
   cases ht:Qft t with
   | some e'=>
     rw [ht] at h
     have:e=b :: e':=by simpa using h.symm
     subst this
     have:=Qim ht
     simp only [List.length_cons];omega
   | none=>
     rw [ht] at h
     simp only at h
     split at h
     ·cases h
     ·have:e=[b+1]:=by simpa using h.symm
      subst this
      simp
theorem QiP.short {q:Qy} {s:Iv} (h:QiP q s) (hq:q.short):s.lo.size≤maxLen∧s.hi.size≤maxLen:=by
 obtain ⟨h1,h2⟩:=h
 refine ⟨by rw [h1];exact hq.1,?_⟩
 split at h2
 ·split at h2
  ·rw [h2.2];exact Nat.zero_le _
  ·rename_i e he
   have h3:=Qim he
   rw [←h2.2,QaZ,QaZ] at h3
   exact Nat.le_trans h3 hq.1
 ·rw [h2.1];exact hq.2
def QmD (q:Qy) (R:Nat) (T:RT) (g:Nat) (mb:Option Nat) (L:Qbx) (w:World) (e:Ending) (w':World):Prop:=
 (Qfx q≠0∧e=.returned (.tuple #[.int .u64 0,.int .i64 (Qfx q)])∧Ext w w')∨
 (Qfx q=0∧∃ s mb',e=.returned (.tuple #[.int .u64 ((g+1:Nat):Int),.int .i64 0])∧QiP q s∧Qbf w' R T (g+1) mb' (L++[(g+1,s)])∧(mb'=mb∨∃ b,mb'=some b∧w.heap.size≤b)∧Sb (QfE R mb) w w')
theorem QgM {w:World} {R:Nat} {T:RT} {g:Nat} {mb:Option Nat} {L:Qbx} (h:Qbf w R T g mb L) (hg:g≤1000000) (q:Qy) (hq:q.short) :
  Calls Tryz.prog 16 #[.pointer (some ⟨R,0,none⟩),q.v] w (QmD q R T g mb L w):=by
 have hm:=fun W=>QkR q W
 have hmm:=@run_makeMap Tryz.prog
 have qmn:∀ (w:World) (r:Option Nat),(binOp .eql 35 (.map r) (.map none)).run Tryz.prog w=.ok (.bool r.isNone) w:=fun w r=>run_eql_map_nil w _ _ _ r Tryz.underlying35
 obtain ⟨m,hmq⟩:∃ m,Qfx q=m:=⟨_,rfl⟩
 have HI:=Lib.hid (fun h W=>Qfv q hq h W)
 rw [hmq] at hm HI
 by_cases hm0:m=0
 ·subst hm0
  have HI2:=Lib.hid (HI.out rfl)
  have HM:=Lib.hid hmq
  have HREG:=Lib.hid h
  have hlR:=h.blk.lt
  obtain ⟨kd,lo,hi,op⟩:=q
  have HQS:=Lib.hid hq
  clear HI hmq hq
  go_enter Tryz.func16,Tryz.ntmps16
  go_wp2_with fail
  generalize hW0:World.alloc w _=W0
  have hx0:Ext w W0:=by rw [←hW0];exact (Ext.refl w).alloc _ _
  have hb0:Blk W0 w.heap.size 24 #[.int .i64 kd,.string lo,.string hi,.bool op]:=by rw [←hW0];exact Blk.new w _ _
  clear hW0
  refine (hm W0).mono ?_
  rintro e w1 ⟨rfl,hx1⟩
  have hx:=hx0.trans hx1
  have hb1:=hb0.ext hx1
  have hr1:=(HREG.out.ext hx).blk
  have r0:w1.cell? ⟨R,0,none⟩=some (QaE T):=hr1.cell 0
  have r1:w1.cell? ⟨R,1,none⟩=some (.int .u64 g):=hr1.cell 1
  have r2:w1.cell? ⟨R,2,none⟩=some (.map mb):=hr1.cell 2
  have f0:=hr1.frozen 0
  have f1:=hr1.frozen 1
  have f2:=hr1.frozen 2
  have lR:=hr1.lt
  rcases mb with _ | b
  ·have hL0:L=[]:=HREG.out.map
   go_wp2_with fail
   generalize hW3:World.alloc _ _=W3
   obtain ⟨b,hb⟩:∃ b,w1.heap.size=b:=⟨_,rfl⟩
   have hxw:=hx.size
   have hRb:¬R=b:=by omega
   have hQb:¬w.heap.size=b:=by have:=hx1.size;have:=hb1.lt;omega
   have hs1:Sb (QfE R none) w ((w1.setCell ⟨R,2,none⟩ (.map (some b))).setCell ⟨R,1,none⟩ (.int .u64 ((g:Int)+1))):=(((hx.sb _).set (p:=⟨R,2,none⟩) (.inr (.inl rfl)) _).set (p:=⟨R,1,none⟩) (.inr (.inl rfl)) _)
   have hr2:=(hr1.QaQ 2 (.map (some b))).QaQ 1 (.int .u64 ((g:Int)+1))
   have hown:W3.ownsMap Tryz.prog 34 ivR b g (mapD L):=by
    rw [←hW3,hL0,←hb]
    have:=World.ownsMap_made ((w1.setCell ⟨R,2,none⟩ (.map (some w1.heap.size))).setCell ⟨R,1,none⟩ (.int .u64 ((g:Int)+1))) Tryz.prog 34 ivR
    simp only [World.size_setCell] at this
    exact this.mono (Nat.zero_le _)
   have hq2:Blk ((w1.setCell ⟨R,2,none⟩ (.map (some b))).setCell ⟨R,1,none⟩ (.int .u64 ((g:Int)+1))) w.heap.size 24 #[.int .i64 kd,.string lo,.string hi,.bool op]:=
    (Below.heap_setCell _ _ _ _ (show w.heap.size≠R by omega)).trans ((Below.heap_setCell _ _ _ _ (show w.heap.size≠R by omega)).trans hb1)
   rw [hb] at hW3 ⊢
   generalize (w1.setCell ⟨R,2,none⟩ (.map (some b))).setCell ⟨R,1,none⟩ (.int .u64 ((g:Int)+1))=w2 at *
   have hal:Sb (QfE R none) w2 W3:=by rw [←hW3];exact Sb.made (World.grownBy_alloc _ _ _)
   have HR3:=Lib.hid (show Blk W3 R 37 #[QaE T,.int .u64 ((g:Int)+1),.map (some b)] by rw [←hW3];exact (Below.heap_alloc _ _ _ hr2.lt).trans hr2)
   have HQ3:=Lib.hid (show Blk W3 w.heap.size 24 #[.int .i64 kd,.string lo,.string hi,.bool op] by rw [←hW3];exact (Below.heap_alloc _ _ _ hq2.lt).trans hq2)
   have HS3:=Lib.hid (hs1.trans hal)
   have HOWN:=Lib.hid hown
   have HBW:=Lib.hid (show w.heap.size≤b by omega)
   clear hW3 hs1 hr2 hown hq2 hal hx hx0 hx1 hb0 hb1 hr1 r0 r1 r2 f0 f1 f2 hb
   have hq3:=HQ3.out
   have HSS:=Lib.hid (show ∀ W,Sb (fun c=>c=b) W3 W→W.cell? ⟨R,2,none⟩=some (.map (some b))∧W.cell? ⟨R,1,none⟩=some (.int .u64 ((g:Int)+1))∧W.cell? ⟨w.heap.size,0,none⟩=some (.int .i64 kd)∧W.cell? ⟨w.heap.size,1,none⟩=some (.string lo)∧W.cell? ⟨w.heap.size,2,none⟩=some (.string hi)∧W.cell? ⟨w.heap.size,3,none⟩=some (.bool op) from
    fun W hW=>⟨(hW.blk HR3.out hRb).cell 2,(hW.blk HR3.out hRb).cell 1,(hW.blk hq3 hQb).cell 0,(hW.blk hq3 hQb).cell 1,(hW.blk hq3 hQb).cell 2,(hW.blk hq3 hQb).cell 3⟩)
   clear hq3
   refine wp_region_held_drew (S:=(fun w'=>Sb (fun c=>c=b) W3 w')) (by kernel_rfl) (((Sb.refl _ W3).drew)) (fun hHeld=>?_)
   refine Qad 0 (some 30) ?_ HSS hHeld ?_ ?_
   rotate_left
   focus (intro w hSc;go_simp;first | done | with_reducible rfl)
   refine Qad 1 (some 31) ?_ HSS hHeld ?_ ?_
   rotate_left
   focus (intro w hSc;go_simp;first | done | with_reducible rfl)
   refine Qad 2 (some 32) ?_ HSS hHeld ?_ ?_
   rotate_left
   focus (intro w hSc;go_simp;first | done | with_reducible rfl)
   refine Qad 3 (some 33) ?_ HSS hHeld ?_ ?_
   rotate_left
   focus (intro w hSc;go_simp;first | done | with_reducible rfl)
   refine Qad 4 (some 34) ?_ HSS hHeld ?_ ?_
   rotate_left
   focus (intro w hSc;go_simp;first | done | with_reducible rfl)
   refine Qad 5 (some 35) ?_ HSS hHeld ?_ ?_
   rotate_left
   focus (intro w hSc;go_simp;first | done | with_reducible rfl)
   refine Qad 6 (some 36) ?_ HSS hHeld ?_ ?_
   rotate_left
   focus (intro w hSc;go_simp;first | done | with_reducible rfl)
   refine Qad 7 (some 37) ?_ HSS hHeld ?_ ?_
   rotate_left
   focus (intro w hSc;go_simp;first | done | with_reducible rfl)
   refine Qad 8 (some 38) ?_ HSS hHeld ?_ ?_
   rotate_left
   focus (intro w hSc;go_simp;first | done | with_reducible rfl)
   refine Qaa (i:=9) (by kernel_rfl) rfl (by rfl) (fun K hK=>?_)
   go_simp
   (refine (HI2.out _).mono ?_;rintro e w4 ⟨s,rfl,hs,hbw⟩;have hown4:=QaO HOWN.out (show w4.heap[b]? = W3.heap[b]? from hbw.block b HOWN.out.lt))
   refine hK.out _ _ (hHeld.trans (Sb.new hbw)) (fun hHeld=>?_)
   clear hK K
   try simp only [Act.put,List.setIfInBounds_toArray,List.set_cons_zero,List.set_cons_succ]
   refine Qaa (i:=10) (by kernel_rfl) rfl (by rfl) (fun K hK=>?_)
   skip
   (refine QiD (s:=s) (i:=g+1) rfl rfl rfl rfl hown4 (by omega) (by unfold maxLen;omega) (fun p hp=>by have:=(HREG.out.up p hp).2;omega) ?_;intro w5 hown5 hsb5)
   refine hK.out _ _ (hHeld.trans hsb5) (fun hHeld=>?_)
   clear hK K
   try simp only [Act.put,List.setIfInBounds_toArray,List.set_cons_zero,List.set_cons_succ]
   refine wpAnyH_done (by kernel_rfl) ?_ _
   have hr5:=hHeld.blk HR3.out hRb
   have r1':w5.cell? ⟨R,1,none⟩=some (.int .u64 ((g:Int)+1)):=hr5.cell 1
   have HH:=Lib.hid hHeld
   have HS:=Lib.hid hs
   have HR5:=Lib.hid hr5
   have HB4:=Lib.hid hbw
   clear hHeld hs hr5 hbw
   go_wp2_with fail
   refine bodyPost_ret (v:=.tuple #[.int .u64 ((g:Int)+1),.int .i64 0]) (by simp [results,Tryz.results16,go_sem]) rfl ?_
   refine .inr ⟨HM.out,s,some b,by simp,HS.out,⟨HR5.out,hown5,fun e=>hRb (by injection e with e;exact e.symm),fun p hp=>?_,?_,fun p hp=>?_,by omega⟩,?_,?_⟩
   ·rcases List.mem_append.1 hp with hp | hp
    ·have:=HREG.out.up p hp;omega
    ·rw [List.mem_singleton.1 hp];simp
   ·refine List.pairwise_append.2 ⟨HREG.out.rise,List.pairwise_singleton ..,fun p hp q hq=>?_⟩
    rw [List.mem_singleton.1 hq]
    have:=(HREG.out.up p hp).2
    show p.1<g+1
    omega
   ·rcases List.mem_append.1 hp with hp | hp
    ·exact HREG.out.short p hp
    ·rw [List.mem_singleton.1 hp]
     exact HS.out.short HQS.out
   ·exact .inr ⟨b,rfl,HBW.out⟩
   ·exact HS3.out.comp HH.out fun i hi e=>by have:=HBW.out;omega
  ·go_wp2_with fail
   generalize hW3:World.setCell _ _ _=W3
   have hown1:w1.ownsMap Tryz.prog 34 ivR b g (mapD L):=(HREG.out.ext hx).map
   have hbR:some b≠some R:=HREG.out.ne
   have hRb:¬R=b:=fun e=>hbR (by rw [e])
   have hbl:b<w.heap.size:=HREG.out.map.lt
   have hQb:¬w.heap.size=b:=by omega
   have HR3:=Lib.hid (show Blk W3 R 37 #[QaE T,.int .u64 ((g:Int)+1),.map (some b)] by rw [←hW3];exact hr1.QaQ 1 _)
   have HQ3:=Lib.hid (show Blk W3 w.heap.size 24 #[.int .i64 kd,.string lo,.string hi,.bool op] by rw [←hW3];exact (Below.heap_setCell _ _ _ _ (show w.heap.size≠R by omega)).trans hb1)
   have HS3:=Lib.hid (show Sb (QfE R (some b)) w W3 by rw [←hW3];exact (hx.sb _).set (p:=⟨R,1,none⟩) (.inr (.inl rfl)) _)
   have HOWN:=Lib.hid (show W3.ownsMap Tryz.prog 34 ivR b g (mapD L) by rw [←hW3];exact QaO hown1 (Below.heap_setCell _ _ _ _ (fun e=>hRb e.symm)))
   clear hW3 hown1 hx hx0 hx1 hb0 hb1 hr1 r0 r1 r2 f0 f1 f2 hbR
   have hq3:=HQ3.out
   have HSS:=Lib.hid (show ∀ W,Sb (fun c=>c=b) W3 W→W.cell? ⟨R,2,none⟩=some (.map (some b))∧W.cell? ⟨R,1,none⟩=some (.int .u64 ((g:Int)+1))∧W.cell? ⟨w.heap.size,0,none⟩=some (.int .i64 kd)∧W.cell? ⟨w.heap.size,1,none⟩=some (.string lo)∧W.cell? ⟨w.heap.size,2,none⟩=some (.string hi)∧W.cell? ⟨w.heap.size,3,none⟩=some (.bool op) from
    fun W hW=>⟨(hW.blk HR3.out hRb).cell 2,(hW.blk HR3.out hRb).cell 1,(hW.blk hq3 hQb).cell 0,(hW.blk hq3 hQb).cell 1,(hW.blk hq3 hQb).cell 2,(hW.blk hq3 hQb).cell 3⟩)
   clear hq3
   refine wp_region_held_drew (S:=(fun w'=>Sb (fun c=>c=b) W3 w')) (by kernel_rfl) (((Sb.refl _ W3).drew)) (fun hHeld=>?_)
   refine Qad 0 (some 30) ?_ HSS hHeld ?_ ?_
   rotate_left
   focus (intro w hSc;go_simp;first | done | with_reducible rfl)
   refine Qad 1 (some 31) ?_ HSS hHeld ?_ ?_
   rotate_left
   focus (intro w hSc;go_simp;first | done | with_reducible rfl)
   refine Qad 2 (some 32) ?_ HSS hHeld ?_ ?_
   rotate_left
   focus (intro w hSc;go_simp;first | done | with_reducible rfl)
   refine Qad 3 (some 33) ?_ HSS hHeld ?_ ?_
   rotate_left
   focus (intro w hSc;go_simp;first | done | with_reducible rfl)
   refine Qad 4 (some 34) ?_ HSS hHeld ?_ ?_
   rotate_left
   focus (intro w hSc;go_simp;first | done | with_reducible rfl)
   refine Qad 5 (some 35) ?_ HSS hHeld ?_ ?_
   rotate_left
   focus (intro w hSc;go_simp;first | done | with_reducible rfl)
   refine Qad 6 (some 36) ?_ HSS hHeld ?_ ?_
   rotate_left
   focus (intro w hSc;go_simp;first | done | with_reducible rfl)
   refine Qad 7 (some 37) ?_ HSS hHeld ?_ ?_
   rotate_left
   focus (intro w hSc;go_simp;first | done | with_reducible rfl)
   refine Qad 8 (some 38) ?_ HSS hHeld ?_ ?_
   rotate_left
   focus (intro w hSc;go_simp;first | done | with_reducible rfl)
   refine Qaa (i:=9) (by kernel_rfl) rfl (by rfl) (fun K hK=>?_)
   go_simp
   (refine (HI2.out _).mono ?_;rintro e w4 ⟨s,rfl,hs,hbw⟩;have hown4:=QaO HOWN.out (show w4.heap[b]? = W3.heap[b]? from hbw.block b HOWN.out.lt))
   refine hK.out _ _ (hHeld.trans (Sb.new hbw)) (fun hHeld=>?_)
   clear hK K
   try simp only [Act.put,List.setIfInBounds_toArray,List.set_cons_zero,List.set_cons_succ]
   refine Qaa (i:=10) (by kernel_rfl) rfl (by rfl) (fun K hK=>?_)
   skip
   (refine QiD (s:=s) (i:=g+1) rfl rfl rfl rfl hown4 (by omega) (by unfold maxLen;omega) (fun p hp=>by have:=(HREG.out.up p hp).2;omega) ?_;intro w5 hown5 hsb5)
   refine hK.out _ _ (hHeld.trans hsb5) (fun hHeld=>?_)
   clear hK K
   try simp only [Act.put,List.setIfInBounds_toArray,List.set_cons_zero,List.set_cons_succ]
   refine wpAnyH_done (by kernel_rfl) ?_ _
   have hr5:=hHeld.blk HR3.out hRb
   have r1':w5.cell? ⟨R,1,none⟩=some (.int .u64 ((g:Int)+1)):=hr5.cell 1
   have HH:=Lib.hid hHeld
   have HS:=Lib.hid hs
   have HR5:=Lib.hid hr5
   have HB4:=Lib.hid hbw
   clear hHeld hs hr5 hbw
   go_wp2_with fail
   refine bodyPost_ret (v:=.tuple #[.int .u64 ((g:Int)+1),.int .i64 0]) (by simp [results,Tryz.results16,go_sem]) rfl ?_
   refine .inr ⟨HM.out,s,some b,by simp,HS.out,⟨HR5.out,hown5,fun e=>hRb (by injection e with e;exact e.symm),fun p hp=>?_,?_,fun p hp=>?_,by omega⟩,?_,?_⟩
   ·rcases List.mem_append.1 hp with hp | hp
    ·have:=HREG.out.up p hp;omega
    ·rw [List.mem_singleton.1 hp];simp
   ·refine List.pairwise_append.2 ⟨HREG.out.rise,List.pairwise_singleton ..,fun p hp q hq=>?_⟩
    rw [List.mem_singleton.1 hq]
    have:=(HREG.out.up p hp).2
    show p.1<g+1
    omega
   ·rcases List.mem_append.1 hp with hp | hp
    ·exact HREG.out.short p hp
    ·rw [List.mem_singleton.1 hp]
     exact HS.out.short HQS.out
   ·exact .inl rfl
   ·exact HS3.out.trans (HH.out.mono fun i hi e=>.inr (by rw [e]))
 ·have g0:(m != 0)=true:=by simp [hm0]
  have HM:=Lib.hid (show Qfx q≠0∧Qfx q=m from ⟨by rw [hmq];exact hm0,hmq⟩)
  have hlR:=h.blk.lt
  clear HI hmq hm0 h hq
  obtain ⟨kd,lo,hi,op⟩:=q
  go_enter Tryz.func16,Tryz.ntmps16
  go_wp2_with fail
  refine (hm _).mono ?_
  rintro e w1 ⟨rfl,hx1⟩
  have HX1:=Lib.hid (((Ext.refl w).alloc _ _).trans hx1)
  clear hx1
  go_wp2_with fail
  refine bodyPost_ret (v:=.tuple #[.int .u64 0,.int .i64 m]) (by simp [results,Tryz.results16,go_sem]) rfl ?_
  exact .inl ⟨HM.out.1,by rw [HM.out.2],HX1.out⟩
end Go.Proofs.YtohajcflklejjaaGreat
namespace Go.Proofs.YtohajcflklejjaaGreat
open Go.RowKit
set_option linter.unusedVariables false
set_option linter.unusedSimpArgs false
abbrev ltN:Nat→Nat→Bool:=fun x y=>decide (x<y)
theorem Qna:Sort.SWO ltN:=⟨fun x=>by simp,fun x y z h1 h2=>by simp only [ltN,decide_eq_true_eq] at *;omega,fun x y z h1 h2=>by simp only [ltN,decide_eq_false_iff_not] at *;omega⟩
def Qc0 (w:World) (B cap:Nat) (d:Array Nat):Prop:=∃ cs:Array Value,Blk w B 34 cs∧cs.size=cap∧d.size≤cap∧∀ j,j<d.size→cs[j]? = some (.int .u64 (d[j]!:Nat))
theorem Qc0.cell {w:World} {B cap:Nat} {d:Array Nat} (h:Qc0 w B cap d) {j:Nat} (hj:j<d.size):w.cell? ⟨B,j,none⟩=some (.int .u64 (d[j]!:Nat)):=by
 obtain ⟨cs,hb,-,-,hc⟩:=h
 rw [hb.cell j,hc j hj]
theorem Qc0.frozen {w:World} {B cap:Nat} {d:Array Nat} (h:Qc0 w B cap d) (j:Nat):w.frozen? ⟨B,j,none⟩=false:=by
 obtain ⟨cs,hb,-⟩:=h
 exact hb.frozen j
theorem Qc0.lt {w:World} {B cap:Nat} {d:Array Nat} (h:Qc0 w B cap d):B<w.heap.size:=by
 obtain ⟨cs,hb,-⟩:=h
 exact hb.lt
theorem Qc0.le {w:World} {B cap:Nat} {d:Array Nat} (h:Qc0 w B cap d):d.size≤cap:=by
 obtain ⟨cs,-,-,h,-⟩:=h
 exact h
theorem Qc0.heap {w w':World} {B cap:Nat} {d:Array Nat} (h:Qc0 w B cap d) (hb:w'.heap[B]? = w.heap[B]?):Qc0 w' B cap d:=by
 obtain ⟨cs,h1,h2⟩:=h
 exact ⟨cs,hb.trans h1,h2⟩
theorem Qc0.ext {w w':World} {B cap:Nat} {d:Array Nat} (h:Qc0 w B cap d) (k:Ext w w'):Qc0 w' B cap d:=h.heap (k.heap h.lt)
theorem Qc0.swap {w:World} {B cap:Nat} {d:Array Nat} (h:Qc0 w B cap d) {i j:Nat} (hi:i<d.size) (hj:j<d.size) :
  Qc0 ((w.setCell ⟨B,i,none⟩ (.int .u64 (d[j]!:Nat))).setCell ⟨B,j,none⟩ (.int .u64 (d[i]!:Nat))) B cap (Sort.swp d i j):=by
 obtain ⟨cs,hb,h1,h2,h3⟩:=h
 refine ⟨_,(hb.QaQ i _).QaQ j _,by simp [h1],by simp [Sort.swp];exact h2,fun k hk=>?_⟩
 have hk':k<d.size:=by simpa [Sort.swp] using hk
 have e:=h3 k hk'
 have hcs:d.size≤cs.size:=by omega
 simp only [Sort.swp]
 by_cases hkj:k=j
 ·subst hkj
  rw [Array.getElem?_setIfInBounds_self_of_lt (by simp;omega)]
  simp [hk']
 ·rw [Array.getElem?_setIfInBounds_ne (fun e=>hkj e.symm)]
  by_cases hki:k=i
  ·subst hki
   rw [Array.getElem?_setIfInBounds_self_of_lt (by omega)]
   have hjk:¬j=k:=fun e=>hkj e.symm
   simp [hk',Array.getElem!_eq_getD,Array.getElem?_setIfInBounds,hjk]
  ·rw [Array.getElem?_setIfInBounds_ne (fun e=>hki e.symm),e]
   have hjk:¬j=k:=fun e=>hkj e.symm
   have hik:¬i=k:=fun e=>hki e.symm
   simp [Array.getElem!_eq_getD,Array.getElem?_setIfInBounds,hjk,hik]
theorem swp_size (d:Array Nat) (i j:Nat):(Sort.swp d i j).size=d.size:=by simp [Sort.swp]
theorem QhS (w:World) (x:Int):Calls Tryz.prog 157 #[.int .u64 x] w fun e w'=>e=.returned (.bool false)∧w=w':=by
 go_enter Tryz.func157,Tryz.ntmps157
 go_wp2_with fail
 go_ret
 exact ⟨by simp,rfl⟩
theorem Qjd (w:World) (x y:Nat):Calls Tryz.prog 137 #[.int .u64 x,.int .u64 y] w fun e w'=>e=.returned (.bool (ltN x y))∧w=w':=by
 have hc:=QhS w
 go_enter Tryz.func137,Tryz.ntmps137
 go_wp2_with fail
 refine (hc _).mono ?_
 rintro e w' ⟨rfl,rfl⟩
 go_wp2_with fail
 go_ret
 exact ⟨by simp [ltN],rfl⟩
theorem QhR {w:World} {B cap:Nat} {d:Array Nat} (h:Qc0 w B cap d) (hs:d.size≤1000000) (hcm:cap≤maxLen) :
  Calls Tryz.prog 131 #[.slice (some ⟨B,0,none⟩) d.size cap,.int .i64 0,.int .i64 d.size] w fun e w'=>e=.returned (.tuple #[])∧Qc0 w' B cap (Sort.insertionSort ltN d 0 d.size)∧St (fun b=>b=B) w w':=by
 have hle:=h.le
 have hB:=h.lt
 have hlc:=Qjd
 obtain ⟨n,hn⟩:∃ n,d.size=n:=⟨_,rfl⟩
 rw [hn] at hle hs ⊢
 have HR:=Lib.hid h
 have HN:=Lib.hid hn
 clear h hn
 go_enter Tryz.func131,Tryz.ntmps131
 go_wp2_with fail
 go_loopw [6] (fun i wr=>∃ (i':Nat) (dk:Array Nat),i=.int .i64 i'∧0<i'∧i'≤n+1∧Hid (dk.size=n)∧Hid (Qc0 wr B cap dk)∧Hid (St (fun b=>b=B) w wr)∧Hid (Sort.insOuter ltN 0 n i' dk=Sort.insertionSort ltN d 0 n)) (fun i _=>n+1 - (intOf i).toNat)
 case atStart=>exact ⟨1,d,by go_num,by omega,by omega,HN,HR,Lib.hid (St.refl _ w),Lib.hid rfl⟩
 case round=>
  obtain ⟨i,dk,rfl,hi0,hi1,HS,HK,HT,HO⟩:=hrel
  obtain ⟨w4,hw4⟩:∃ w4,w4=wr:=⟨_,rfl⟩
  subst hw4
  by_cases hlt:i<n
  ·have g1:(i:Int)<(n:Int):=by omega
   have HO2:=Lib.hid (show Sort.insOuter ltN 0 n (i+1) (Sort.insInner ltN 0 i dk)=Sort.insertionSort ltN d 0 n by have:=HO.out;rw [Sort.insOuter,if_pos hlt] at this;exact this)
   clear HO
   go_wp2_with fail
   go_loopw [7] (fun j wr=>∃ (j':Nat) (dj:Array Nat),j=.int .i64 j'∧j'≤i∧Hid (dj.size=n)∧Hid (Qc0 wr B cap dj)∧Hid (St (fun b=>b=B) w wr)∧Hid (Sort.insInner ltN 0 j' dj=Sort.insInner ltN 0 i dk)) (fun j _=>(intOf j).toNat)
   case atStart=>exact ⟨i,dk,rfl,Nat.le_refl _,HS,HK,HT,Lib.hid rfl⟩
   case round=>
    obtain ⟨j,dj,rfl,hj,HSj,HKj,HTj,HOj⟩:=hrel
    by_cases hj0:0<j
    ·obtain ⟨q,rfl⟩:∃ q,j=q+1:=⟨j - 1,by omega⟩
     have g2:(0:Int)<(q:Int)+1:=by omega
     have hsj:=HSj.out
     have cj:=HKj.out.cell (j:=q+1) (by omega)
     have ck:=HKj.out.cell (j:=q) (by omega)
     have fj:=HKj.out.frozen (q+1)
     have fk:=HKj.out.frozen q
     have hlB:=HKj.out.lt
     obtain ⟨x,hx⟩:∃ x,dj[q+1]! = x:=⟨_,rfl⟩
     obtain ⟨y,hy⟩:∃ y,dj[q]! = y:=⟨_,rfl⟩
     rw [hx] at cj
     rw [hy] at ck
     have hq0:(0:Int)≤(q:Int)+1:=by omega
     have hin:(q:Int)+1<(n:Int):=by omega
     have hin1:(q:Int)<(n:Int):=by omega
     have HCL:=Lib.hid (fun W=>hlc W x y)
     have HXY:=Lib.hid (And.intro hx hy)
     have HSS:=Lib.hid (show ∀ W,Ext wr W→W.cell? ⟨B,q+1,none⟩=some (.int .u64 x)∧W.cell? ⟨B,q,none⟩=some (.int .u64 y) from fun W hW=>⟨(hW.cell hlB).trans cj,(hW.cell hlB).trans ck⟩)
     clear hx hy
     have hwq:IntKind.i64.wrap (q:Int)=(q:Int):=by rw [IntKind.wrap_i64] <;> omega
     have hq00:(0:Int)≤(q:Int):=by omega
     go_wp2_with fail
     refine wp_region_held_drew (S:=(fun w'=>Ext wr w')) (by kernel_rfl) (((Ext.refl wr).drew)) (fun hHeld=>?_)
     refine Qad 0 (some 16) ?_ HSS hHeld ?_ ?_
     rotate_left
     focus (intro w hSc;go_simp;first | done | with_reducible rfl)
     refine Qad 1 (some 17) ?_ HSS hHeld ?_ ?_
     rotate_left
     focus (intro w hSc;go_simp;first | done | with_reducible rfl)
     refine Qad 2 (some 18) ?_ HSS hHeld ?_ ?_
     rotate_left
     focus (intro w hSc;go_simp;first | done | with_reducible rfl)
     refine Qad 3 (some 19) ?_ HSS hHeld ?_ ?_
     rotate_left
     focus (intro w hSc;go_simp;first | done | with_reducible rfl)
     refine Qad 4 (some 20) ?_ HSS hHeld ?_ ?_
     rotate_left
     focus (intro w hSc;go_simp;first | done | with_reducible rfl)
     refine Qad 5 (some 21) ?_ HSS hHeld ?_ ?_
     rotate_left
     focus (intro w hSc;go_simp;first | done | with_reducible rfl)
     refine Qad 6 (some 22) ?_ HSS hHeld ?_ ?_
     rotate_left
     focus (intro w hSc;go_simp;first | done | with_reducible rfl)
     refine Qad 7 (some 23) ?_ HSS hHeld ?_ ?_
     rotate_left
     focus (intro w hSc;go_simp;first | done | with_reducible rfl)
     refine Qad 8 (some 24) ?_ HSS hHeld ?_ ?_
     rotate_left
     focus (intro w hSc;go_simp;first | done | with_reducible rfl)
     refine Qad 9 (some 25) ?_ HSS hHeld ?_ ?_
     rotate_left
     focus (intro w hSc;go_simp;first | done | with_reducible rfl)
     refine Qad 10 (some 26) ?_ HSS hHeld ?_ ?_
     rotate_left
     focus (intro w hSc;go_simp;first | done | with_reducible rfl)
     refine Qad 11 (some 27) ?_ HSS hHeld ?_ ?_
     rotate_left
     focus (intro w hSc;go_simp;first | done | with_reducible rfl)
     refine Qad 12 (some 28) ?_ HSS hHeld ?_ ?_
     rotate_left
     focus (intro w hSc;go_simp;first | done | with_reducible rfl)
     refine Qaa (i:=13) (by kernel_rfl) rfl (by rfl) (fun K hK=>?_)
     go_simp
     (refine (HCL.out _).mono ?_;rintro e w2 ⟨rfl,rfl⟩)
     refine hK.out _ _ (hHeld) (fun hHeld=>?_)
     clear hK K
     try simp only [Act.put,List.setIfInBounds_toArray,List.set_cons_zero,List.set_cons_succ]
     refine Qad 14 (some 30) ?_ HSS hHeld ?_ ?_
     rotate_left
     focus (intro w hSc;go_simp;first | done | with_reducible rfl)
     refine wpAnyH_done (by kernel_rfl) ?_ _
     have HX2:=Lib.hid hHeld
     have hx2:=hHeld
     generalize wr.drew=w2 at *
     have cj2:=(hx2.cell hlB).trans cj
     have ck2:=(hx2.cell hlB).trans ck
     have fj2:w2.frozen? ⟨B,q+1,none⟩=false:=(HKj.out.ext hx2).frozen (q+1)
     have fk2:w2.frozen? ⟨B,q,none⟩=false:=(HKj.out.ext hx2).frozen q
     have lB2:B<w2.heap.size:=Nat.lt_of_lt_of_le hlB hx2.size
     clear hHeld hx2 cj ck fj fk
     cases hl:ltN x y
     ·have HE:=Lib.hid (show Sort.insInner ltN 0 i dk=dj by rw [←HOj.out,Sort.insInner,if_neg (by rw [HXY.out.1,HXY.out.2,hl];simp)])
      clear hl
      go_wp2_with fail
      exact ⟨⟨i+1,dj,by go_num,by omega,by omega,HSj,Lib.hid (HKj.out.ext HX2.out),Lib.hid (HTj.out.ext HX2.out),Lib.hid (by rw [←HE.out];exact HO2.out)⟩,by simp [intOf];omega⟩
     ·have HE:=Lib.hid (show Sort.insInner ltN 0 q (Sort.swp dj (q+1) q)=Sort.insInner ltN 0 i dk by rw [←HOj.out];conv=>rhs;rw [Sort.insInner,if_pos (by rw [HXY.out.1,HXY.out.2,hl];simp)])
      clear hl
      go_wp2_with fail
      go_region
      have hrow:=((HKj.out.ext HX2.out).swap (i:=q+1) (j:=q) (by omega) (by omega)).ext (Ext.refl _).drew
      rw [HXY.out.1,HXY.out.2] at hrow
      have hst:St (fun b=>b=B) w ((w2.setCell ⟨B,q+1,none⟩ (.int .u64 y)).setCell ⟨B,q,none⟩ (.int .u64 x)).drew:=(((HTj.out.ext HX2.out).set (p:=⟨B,q+1,none⟩) (.inr rfl) _).set (p:=⟨B,q,none⟩) (.inr rfl) _).drew
      generalize ((w2.setCell ⟨B,q+1,none⟩ (.int .u64 y)).setCell ⟨B,q,none⟩ (.int .u64 x)).drew=w3 at *
      have HR3:=Lib.hid hrow
      have HT3:=Lib.hid hst
      clear hrow hst cj2 ck2 fj2 fk2
      go_wp2_with fail
      go_roundw
      case rel=>exact ⟨q,Sort.swp dj (q+1) q,by go_num,by omega,Lib.hid (by rw [swp_size];exact hsj),HR3,HT3,HE⟩
      case measure=>simp [intOf]
    ·obtain rfl:j=0:=by omega
     have HE:=Lib.hid (show Sort.insInner ltN 0 i dk=dj by rw [←HOj.out,Sort.insInner])
     have hlB:=HKj.out.lt
     go_wp2_with fail
     refine wp_region_held_drew (S:=(fun w'=>Ext wr w')) (by kernel_rfl) (((Ext.refl wr).drew)) (fun hHeld=>?_)
     refine Qaj 0 (some 16) ?_ hHeld ?_ ?_
     rotate_left
     focus (intro w hSw;(try dsimp only at hSw);go_simp;first | done | with_reducible rfl)
     refine Qaj 1 (some 17) ?_ hHeld ?_ ?_
     rotate_left
     focus (intro w hSw;(try dsimp only at hSw);go_simp;first | done | with_reducible rfl)
     refine Qaj 2 (some 18) ?_ hHeld ?_ ?_
     rotate_left
     focus (intro w hSw;(try dsimp only at hSw);go_simp;first | done | with_reducible rfl)
     refine Qaj 3 (some 19) ?_ hHeld ?_ ?_
     rotate_left
     focus (intro w hSw;(try dsimp only at hSw);go_simp;first | done | with_reducible rfl)
     refine Qfu 4 (some 20) hHeld ?_
     refine Qfu 5 (some 21) hHeld ?_
     refine Qfu 6 (some 22) hHeld ?_
     refine Qfu 7 (some 23) hHeld ?_
     refine Qfu 8 (some 24) hHeld ?_
     refine Qfu 9 (some 25) hHeld ?_
     refine Qfu 10 (some 26) hHeld ?_
     refine Qfu 11 (some 27) hHeld ?_
     refine Qfu 12 (some 28) hHeld ?_
     refine Qfu 13 (some 29) hHeld ?_
     refine Qaj 14 (some 30) ?_ hHeld ?_ ?_
     rotate_left
     focus (intro w hSw;(try dsimp only at hSw);go_simp;first | done | with_reducible rfl)
     refine wpAnyH_done (by kernel_rfl) ?_ _
     have HX2:=Lib.hid hHeld
     clear hHeld
     go_wp2_with fail
     exact ⟨⟨i+1,dj,by go_num,by omega,by omega,HSj,Lib.hid (HKj.out.ext HX2.out),Lib.hid (HTj.out.ext HX2.out),Lib.hid (by rw [←HE.out];exact HO2.out)⟩,by simp [intOf];omega⟩
  ·have g1:¬(i:Int)<(n:Int):=by omega
   have HO2:=Lib.hid (show dk=Sort.insertionSort ltN d 0 n by rw [←HO.out,Sort.insOuter,if_neg hlt])
   clear HO
   go_wp2_with fail
   go_end0
   rw [←HO2.out]
   exact ⟨rfl,HK.out,HT.out⟩
theorem QeM (w:World) (x:Nat) (hx:x≤12):Calls Tryz.prog 141 #[.int .u64 x] w fun e w'=>(∃ l:Int,e=.returned (.int .i64 l))∧w=w':=by
 have g1:¬(4294967296:Int)≤(x:Int):=by omega
 have g2:¬(65536:Int)≤(x:Int):=by omega
 have g3:¬(256:Int)≤(x:Int):=by omega
 go_enter Tryz.func141,Tryz.ntmps141
 go_wp2_with fail
 go_ret
 exact ⟨⟨_,rfl⟩,rfl⟩
theorem Qdm (w:World) (x:Nat) (hx:x≤12):Calls Tryz.prog 110 #[.int .u64 x] w fun e w'=>(∃ l:Int,e=.returned (.int .i64 l))∧w=w':=by
 have hc:=QeM w x hx
 go_enter Tryz.func110,Tryz.ntmps110
 go_wp2_with fail
 refine hc.mono ?_
 rintro e w' ⟨⟨l,rfl⟩,rfl⟩
 go_wp2_with fail
 go_ret
 exact ⟨⟨_,rfl⟩,rfl⟩
theorem Qgx {w:World} {B cap:Nat} {d:Array Nat} (h:Qc0 w B cap d) (hs:d.size≤12) (hcm:cap≤maxLen) (l:Int) :
  Calls Tryz.prog 109 #[.slice (some ⟨B,0,none⟩) d.size cap,.int .i64 0,.int .i64 d.size,.int .i64 l] w fun e w'=>e=.returned (.tuple #[])∧Qc0 w' B cap (Sort.insertionSort ltN d 0 d.size)∧St (fun b=>b=B) w w':=by
 have hc:=QhR h (by omega) hcm
 obtain ⟨d',hd'⟩:∃ d',Sort.insertionSort ltN d 0 d.size=d':=⟨_,rfl⟩
 rw [hd'] at hc ⊢
 obtain ⟨n,hn⟩:∃ n,d.size=n:=⟨_,rfl⟩
 rw [hn] at hc hs ⊢
 have g1:(n:Int)≤12:=by omega
 have HC:=Lib.hid hc
 clear h hc hd' hn
 go_enter Tryz.func109,Tryz.ntmps109
 go_wp2_with fail
 go_loopw [1,2,3,8,9] (fun a b q x y wr=>a=.int .i64 0∧b=.int .i64 n∧wr=w) (fun _ _ _ _ _ _=>0)
 case atStart=>exact ⟨rfl,rfl,rfl⟩
 case round=>
  obtain ⟨rfl,rfl,rfl⟩:=hrel
  go_wp2_with fail
  refine HC.out.mono ?_
  rintro e w1 ⟨rfl,hr,hst⟩
  have HR:=Lib.hid hr
  have HST:=Lib.hid hst
  clear hr hst
  go_wp2_with fail
  refine bodyPost_ret (v:=.tuple #[]) (by simp [results,Tryz.results109,go_sem]) rfl ?_
  exact ⟨rfl,HR.out,HST.out⟩
theorem QfA {w:World} {B cap:Nat} {d:Array Nat} (h:Qc0 w B cap d) (hs:d.size≤12) (hcm:cap≤maxLen) :
  Calls Tryz.prog 82 #[.slice (some ⟨B,0,none⟩) d.size cap] w fun e w'=>e=.returned (.tuple #[])∧Qc0 w' B cap (Sort.insertionSort ltN d 0 d.size)∧St (fun b=>b=B) w w':=by
 have hc:=fun l=>Qgx h hs hcm l
 obtain ⟨d',hd'⟩:∃ d',Sort.insertionSort ltN d 0 d.size=d':=⟨_,rfl⟩
 rw [hd'] at hc ⊢
 obtain ⟨n,hn⟩:∃ n,d.size=n:=⟨_,rfl⟩
 rw [hn] at hc hs ⊢
 have hb:=Qdm w n hs
 have HC:=Lib.hid hc
 clear h hc hd' hn
 go_enter Tryz.func82,Tryz.ntmps82
 go_wp2_with fail
 refine hb.mono ?_
 rintro e w1 ⟨⟨l,rfl⟩,rfl⟩
 go_wp2_with fail
 refine (HC.out l).mono ?_
 rintro e w1 ⟨rfl,hr,hst⟩
 have HR:=Lib.hid hr
 have HST:=Lib.hid hst
 clear hr hst
 go_wp2_with fail
 go_end0
 exact ⟨rfl,HR.out,HST.out⟩
theorem QjD {d:Array Nat} {ids:List Nat} (hp:d.toList.Perm ids) (hr:ids.Pairwise (·<·)):(Sort.insertionSort ltN d 0 d.size).toList=ids:=by
 obtain ⟨⟨h1,-,h3⟩,h2⟩:=Sort.insertionSort_holds Qna d 0 d.size (Nat.zero_le _) (Nat.le_refl _)
 generalize Sort.insertionSort ltN d 0 d.size=d' at *
 have e1:d'.extract 0 d.size=d':=by rw [←h1];simp
 have e2:d.extract 0 d.size=d:=by simp
 rw [e1,e2] at h3
 refine List.Perm.eq_of_pairwise (le:=fun a b=>a≤b) (fun a b _ _=>Nat.le_antisymm) ?_ (hr.imp Nat.le_of_lt) (h3.trans hp)
 rw [List.pairwise_iff_getElem]
 intro i j hi hj hij
 have hi':i<d'.size:=by simpa using hi
 have hj':j<d'.size:=by simpa using hj
 have:=h2 i j (Nat.zero_le _) hij (by omega)
 rw [getElem!_pos d' j hj',getElem!_pos d' i hi'] at this
 simp only [ltN,decide_eq_false_iff_not,Nat.not_lt] at this
 simpa using this
end Go.Proofs.YtohajcflklejjaaGreat
namespace Go.Proofs.YtohajcflklejjaaGreat
open Go.RowKit Go.Maps Go.Shelf
set_option linter.unusedVariables false
set_option linter.unusedSimpArgs false
attribute [local go_sem] Oper.semAt_some
theorem Qdd {H:Type} {P:Program} {k:TypeId} {R:Value→Option (DataW H × List MemPlace)} {w:World} {b r n:Nat} {D:DataW H} {left:Lit→Bool} {cnt:Nat} (h:w.ranges P k R b r n D left cnt) (o:Nat):w.frozen? ⟨r,o,none⟩=false:=by
 obtain ⟨es,clock,since,seen,c0,-,-,-,-,h5,-⟩:=h
 simp [World.frozen?,h5]
theorem Qda {w:World} {b o:Nat} (h:w.heap.size≤b):w.frozen? ⟨b,o,none⟩=false:=frozen_none h
theorem Qm8 {H:Type} {P:Program} {k:TypeId} {R:Value→Option (DataW H × List MemPlace)} {w w':World} {b r n n':Nat} {D D':DataW H} {left left':Lit→Bool} {cnt cnt':Nat} (h:w.ranges P k R b r n D left cnt) (h':w'.ranges P k R b r n' D' left' cnt') (hg:w.grownBy w' (some r)) (hs:w'.heap.size=w.heap.size) :
  St (fun c=>c=r) w w':=
 ⟨hg.os,hg.tape,hg.output,hg.size,fun c hc hn=>hg.block c hc (by intro e;injection e with e;exact hn e),fun c o=>by
   by_cases e:c=r
   ·subst e;rw [Qdd h,Qdd h']
   ·by_cases hl:c<w.heap.size
    ·exact World.frozen?_of_block (hg.block c hl (by intro e';injection e' with e';exact e e'))
    ·rw [Qda (by omega),Qda (by omega)]⟩
theorem Qkp {H:Type} {P:Program} {k:TypeId} {R:Value→Option (DataW H × List MemPlace)} {w w':World} {b n:Nat} {D:DataW H} {left:Lit→Bool} {cnt:Nat} (h':w'.ranges P k R b w.heap.size n D left cnt) (hg:w.grownBy w' none) (hs:w'.heap.size=w.heap.size+1):Ext w w':=
 ⟨⟨hg.os,hg.tape,hg.output,hg.size,fun c hc=>hg.block c hc (by simp)⟩,fun c o hc=>by
   by_cases e:c=w.heap.size
   ·subst e;exact Qdd h' o
   ·exact Qda (by omega)⟩
def Qei (L:Qbx) (left:Lit→Bool) (ss:List Nat):Prop:=ss.Nodup∧∀ x,x∈ss↔(Maps.has (mapD L) (QdI x)=true∧left (QdI x)=false)
structure Qn5 (L:Qbx) (J:List Nat→(Nat→Prop)→(Nat→Prop)→World→Prop) (C:Nat→Prop) (W:World) (b g:Nat) (left:Lit→Bool) (cnt:Nat) (ss:List Nat) (C' D:Nat→Prop) (Wj wr:World):Prop where
 rg:wr.ranges Tryz.prog 34 ivR b W.heap.size g (mapD L) left cnt
 co:Qei L left ss
 j:J ss C' D Wj
 st:St D Wj wr
 d:∀ c,D c→c=W.heap.size
 dn:D W.heap.size∨Wj.heap.size≤W.heap.size
 sub:∀ c,C' c→C c∨W.heap.size+1≤c
 big:W.heap.size+1≤wr.heap.size
theorem Qei.start (L:Qbx):Qei L (Maps.has (mapD L)) []:=⟨List.nodup_nil,fun x=>by cases Maps.has (mapD L) (QdI x) <;> simp⟩
theorem Qei.step {L:Qbx} {left:Lit→Bool} {ss:List Nat} (h:Qei L left ss) {x:Nat} {y:DataW Unit} (hlk:left (QdI x)=true) (hat:∀ zd,(mapD L).atKey (QdI x) zd=y):Qei L (fun z=>left z && !z.sameKey (QdI x)) (ss++[x]):=by
 have hhas:Maps.has (mapD L) (QdI x)=true:=Maps.has_true_of_atKey hat
 have hnew:x∉ss:=fun hx=>by have:=((h.2 x).1 hx).2;rw [hlk] at this;cases this
 refine ⟨List.nodup_append.2 ⟨h.1,by simp,fun a ha b hb=>by simp at hb;subst hb;exact fun e=>hnew (e▸ha)⟩,fun y=>?_⟩
 simp only [Qdz]
 by_cases hy:y=x
 ·subst hy;simp [hhas]
 ·simp [h.2 y,hy]
theorem QiB:∀ {ss l:List Nat},ss.Nodup→(∀ x∈ss,x∈l)→ss.length≤l.length
 | [],l,_,_=>Nat.zero_le _
 | a :: ss,l,hn,hs=>by
   have ha:=hs a (List.mem_cons_self ..)
   have hn':=List.nodup_cons.1 hn
   have:=QiB (ss:=ss) (l:=l.erase a) hn'.2 fun x hx=>(List.mem_erase_of_ne (fun e=>hn'.1 (by rw [←e];exact hx))).2 (hs x (List.mem_cons_of_mem _ hx))
   have he:=List.length_erase_of_mem ha
   have:0<l.length:=List.length_pos_of_mem ha
   simp only [List.length_cons]
   omega
theorem Qei.less {L:Qbx} {left:Lit→Bool} {ss:List Nat} (h:Qei L left ss) {x:Nat} {y:DataW Unit} (hlk:left (QdI x)=true) (hat:∀ zd,(mapD L).atKey (QdI x) zd=y):ss.length<L.length:=by
 have h2:=h.step hlk hat
 have:=QiB (l:=L.map (·.1)) h2.1 fun z hz=>by
  have:=((h2.2 z).1 hz).1
  rw [Qgp] at this
  simpa using this
 simp at this
 omega
theorem Qei.perm {L:Qbx} {left:Lit→Bool} {ss:List Nat} (h:Qei L left ss) (hl:∀ kl,left kl=false) (hr:L.Pairwise (fun p q=>p.1<q.1)):ss.Perm (L.map (·.1)):=by
 have hn:(L.map (·.1)).Nodup:=List.pairwise_map.2 (hr.imp fun h e=>by omega)
 refine (List.perm_ext_iff_of_nodup h.1 hn).2 fun x=>?_
 rw [h.2 x,hl,Qgp]
 simp
abbrev Qne (x:Nat):Array Value:=#[.int .u64 (x:Int)]
theorem Qnb {x:Int} (h:(Lit.int .u64 x).wf=true):∃ n:Nat,x=(n:Int)∧n≤18446744073709551615:=by
 simp [Lit.wf,IntKind.min,IntKind.max,IntKind.signed,IntKind.bits] at h
 exact ⟨x.toNat,by omega,by omega⟩
theorem Qiy {w0:World} {Bm b g:Nat} {L:Qbx} (hB:Blk w0 Bm 35 #[.map (some b)]) (hown:w0.ownsMap Tryz.prog 34 ivR b g (mapD L)) (hr:L.Pairwise (fun p q=>p.1<q.1)) :
  QhG Tryz.prog 83 #[.pointer (some ⟨Bm,0,none⟩)] Qne (fun c=>c=Bm∨c=b) (fun _ pre _ _ _=>pre.length<L.length) (fun xs=>xs.Perm (L.map (·.1))) (fun _=>True) w0:=by
 intro l J Jx C W hT hA hsz hCK hJ
 have hBW:Blk W Bm 35 #[.map (some b)]:=hB.agree hA (.inl rfl)
 have hoW:=QaO hown (hA b (.inr rfl))
 have hlt:=hT.lt [] C _ W hJ
 have hbl:=hoW.lt
 have hBl:=hBW.lt
 have c0:W.cell? ⟨Bm,0,none⟩=some (.map (some b)):=hBW.cell 0
 have HT:=Lib.hid hT
 have HJ:=Lib.hid hJ
 have HCK:=Lib.hid hCK
 have HLT:=Lib.hid hlt
 have HOW:=Lib.hid hoW
 have HRI:=Lib.hid hr
 clear hT hA hsz hCK hJ hB hown hBW hlt hoW hr
 show Calls _ _ #[.func (.yield l) #[] #[],.pointer (some ⟨Bm,0,none⟩)] W _
 refine (callsIn_wide (n:=5)).1 ?_
 refine callsIn_of_wp Tryz.func83 rfl trivial ?_ rfl
 simp only [Tryz.ntmps83,List.size_toArray,List.length_cons,List.length_nil,Nat.reduceAdd,Nat.reduceSub,Array.replicate_succ,Array.replicate_zero,List.push_toArray,List.append_toArray,List.nil_append,List.cons_append]
 gi_wp2_with (first | (gi_at_range;refine wpListIn_range_own _ rfl _ 35 rfl 34 107 Qhw Tryz.underlying35 ivR b g _ rfl HOW.out ?_;intro w1 hrg0 hg0 hs0) | fail)
 have hx1:Ext W w1:=Qkp hrg0 hg0 hs0
 have HX1:=Lib.hid hx1
 have HRG:=Lib.hid hrg0
 clear hx1 hrg0 hg0
 gi_loopw [3] (fun _ wr=>∃ (left:Lit→Bool) (cnt:Nat) (ss:List Nat) (C' D:Nat→Prop) (Wj:World),Qn5 L J C W b g left cnt ss C' D Wj wr) (fun _ wr=>wr.rangeLeft b W.heap.size)
 case atStart=>exact ⟨_,_,[],C,_,W,HRG.out,Qei.start L,HJ.out,HX1.out.st _,fun c h=>h.elim,.inr (Nat.le_refl _),fun c h=>.inl h,by omega⟩
 case round=>
  obtain ⟨left,cnt,ss,C',D,Wj,hS⟩:=hrel
  have HS:=Lib.hid hS
  have hrg:=hS.rg
  clear hS
  gi_wp2_with (first | (gi_at_next;refine wpListIn_next_ranges _ rfl _ rfl 34 Qhw ivR (Value.int .u64) id (fun key kl hk=>by obtain ⟨x,hx,_⟩:=Maps.keyOf_int_inv Tryz.underlying34 hk;exact ⟨x,hx⟩) (fun v _ _=>⟨v,rfl⟩) b W.heap.size g _ _ _ rfl hrg ?_ ?_) | fail)
  ·intro hc0 hl0
   have HP:=Lib.hid (HS.out.co.perm hl0 HRI.out)
   clear hrg
   gi_wp2_with fail
   go_end0
   exact ⟨⟨_,rfl⟩,.inl ⟨ss,C',D,Wj,HP.out,HS.out.j,HS.out.st,fun c hc=>by have:=HS.out.d c hc;omega⟩⟩
  ·intro x c kl yd yp w2 cnt2 hkey hlk hv hat hrg2 hcl hg2 hs2 hen
   obtain ⟨x',ex,rfl,hwx⟩:=Maps.keyOf_int_inv Tryz.underlying34 hkey
   cases ex
   obtain ⟨n,rfl,hn⟩:=Qnb hwx
   have hst1:St (fun c=>c=W.heap.size) Wj w2:=(HS.out.st.mono fun i _ hi=>HS.out.d i hi).trans (Qm8 hrg hrg2 hg2 hs2)
   have hst2:St D Wj w2:=hst1.mono fun i hi e=>by
    subst e
    rcases HS.out.dn with h | h
    ·exact h
    ·omega
   have hbig:=HS.out.big
   have hy:=HT.out.take ss C' D (fun c=>c=W.heap.size) n Wj w2 HS.out.j hst2 (fun c e=>by subst e;exact HS.out.dn) (fun c e=>by subst e;omega) (fun c hc e=>by
    subst e
    rcases HS.out.sub _ hc with h | h
    ·have:=HLT.out _ h;omega
    ·omega) (Qei.less HS.out.co hlk hat)
   obtain ⟨fn,tmps,assign,body,hy,hR⟩:=hy
   have HR:=Lib.hid hR
   have HCO:=Lib.hid (HS.out.co.step (x:=n) hlk hat)
   have HRG2:=Lib.hid hrg2
   have HRG1:=Lib.hid hrg
   have hbg2:W.heap.size+1≤w2.heap.size:=by omega
   clear hR hst1 hst2 hrg2 hrg hat hg2 hlk hv hkey hwx
   dsimp only [Qne] at hy
   gi_wp2_with fail
   refine HR.out.mono ?_
   rintro e w3 (⟨rfl,C6,hj6,hst6,hsub6⟩ | ⟨rfl,hjx,hst6⟩)
   ·have hnC:∀ c,c<W.heap.size+1→C' c→C c:=fun c hc h=>by
     rcases HS.out.sub c h with h | h
     ·exact h
     ·omega
    have hnr:¬C' W.heap.size:=fun h=>by have:=HLT.out _ (hnC _ (Nat.lt_succ_self _) h);omega
    have hnb:¬C' b:=fun h=>HCK.out b (hnC b (by omega) h) (.inr rfl)
    have hrg3:w3.ranges Tryz.prog 34 ivR b W.heap.size g (mapD L) (fun z=>left z && !z.sameKey (QdI n)) cnt2:=by
     obtain ⟨es,clock,since,seen,c0,h1,h2,h3,h4,h5,h6⟩:=HRG2.out
     exact ⟨es,clock,since,seen,c0,(hst6.block b (by omega) hnb).trans h1,h2,h3,h4,(hst6.block _ (by omega) hnr).trans h5,h6⟩
    have hz6:=hst6.size
    have HS3:=Lib.hid (show Qn5 L J C W b g (fun z=>left z && !z.sameKey (QdI n)) cnt2 (ss++[n]) C6 (fun c=>c=W.heap.size) w3 w3 from
     ⟨hrg3,HCO.out,hj6,St.refl _ _,fun c h=>h,.inl rfl,fun c h=>by
       rcases hsub6 c h with h | h
       ·exact HS.out.sub c h
       ·exact .inr (by omega),by omega⟩)
    clear hj6 hst6 hsub6 hrg3 hy
    gi_wp2_with fail
    go_roundw
    case rel=>exact ⟨_,_,_,_,_,_,HS3.out⟩
    case measure=>rw [HS3.out.rg.left_eq,HRG1.out.left_eq];exact hcl
   ·have HJX:=Lib.hid hjx
    clear hjx hy
    gi_wp2_with fail
    refine bodyPost_ret (v:=.tuple #[]) (by simp [results,Tryz.results83,go_sem]) rfl ?_
    exact ⟨⟨_,rfl⟩,.inr ⟨_,_,w3,trivial,HJX.out,St.refl _ _,fun c h=>by omega⟩⟩
end Go.Proofs.YtohajcflklejjaaGreat
namespace Go.Proofs.YtohajcflklejjaaGreat
open Go.RowKit Go.Maps Go.Shelf
set_option linter.unusedVariables false
set_option linter.unusedSimpArgs false
attribute [local go_sem] Oper.semAt_some
abbrev Qc4 (x:Nat):Value:=.int .u64 (x:Int)
theorem Tryz.QkB:(Tryz.prog.info? 34).map (fun i=>(i.zero,i.size,i.bytes))=some (some (.int .u64 0),1,8):=by kernel_rfl
structure Qfr (w:World) (B:Nat) (xs:List Nat) (C D:Nat→Prop) (W:World):Prop where
 ex:∃ s:Sl,(C=fun b=>b=B∨s.row=some b)∧Blk W B 63 #[.slice s.a xs.length s.c]∧W.ownsRow (w.heap.size+2) 34 1 (.slice s.a xs.length s.c) xs.length (xs.map Qc4)
 st:St (fun b=>b=B) w W
 sz:w.heap.size+2≤W.heap.size
 dis:∀ b,C b→¬D b
 dlo:∀ b,D b→w.heap.size+2≤b
theorem Qfr.start {w W:World} {L:Nat} (hb:Blk w L 63 #[.slice none 0 0]) (hx:Ext w W) (hz:w.heap.size+2≤W.heap.size):Qfr w L [] (fun b=>b=L) (fun _=>False) W:=
 ⟨⟨Sl.none,by funext b;simp [Sl.row],hb.ext hx,World.ownsRow_nil _ _ _ _⟩,hx.st _,hz,fun _ _ h=>h,fun _ h=>h.elim⟩
theorem Qfr.turn {w W W':World} {L:Nat} {xs:List Nat} {C D:Nat→Prop} (h:Qfr w L xs C D W) (hL:L<w.heap.size) (k:St (fun b=>b=w.heap.size+1) W W'):Qfr w L xs C D W':=by
 obtain ⟨⟨s,h1,h2,h3⟩,h5,h6,h7,h8⟩:=h
 exact ⟨⟨s,h1,k.blk h2 (by omega),Qac h3 k.agree fun b hb=>⟨(Qab h3 hb).2,by have:=(Qab h3 hb).1;omega⟩⟩,h5.then k (fun i hi e=>by omega),Nat.le_trans h6 k.size,h7,h8⟩
theorem Qkh {w W0 W3 W4 w5:World} {L:Nat} {s s3:Sl} {xs:List Nat} {x:Nat} {D D1:Nat→Prop} (hL:L<w.heap.size) (h0:Qfr w L xs (fun b=>b=L∨s.row=some b) D W0) (hblk:Blk W0 L 63 #[.slice s.a xs.length s.c]) (ho:W0.ownsRow (w.heap.size+2) 34 1 (.slice s.a xs.length s.c) xs.length (xs.map Qc4))
  (h03:St (fun b=>D b∨b=w.heap.size+1) W0 W3) (hD1:∀ b,D1 b→D b∨W0.heap.size≤b) (hD1l:∀ b,D1 b→w.heap.size+2≤b∧b<W3.heap.size) (hCD:∀ b,(b=L∨s.row=some b)→¬D1 b)
  (h34:Ext W3 W4) (hown:w5.ownsRow (w.heap.size+2) 34 1 (.slice s3.a (xs.length+1) s3.c) (xs.length+1) (xs.map Qc4++[Qc4 x])) (hwr:Wr W4 w5 s.row) (hs3:s3.a=s.a∨s3.a=some ⟨W4.heap.size,0,none⟩∧Wr W4 w5 none) :
  Qfr w L (xs++[x]) (fun b=>b=L∨s3.row=some b) D1 (w5.setCell ⟨L,0,none⟩ (.slice s3.a (xs.length+1) s3.c))∧St (fun b=>b=L∨s.row=some b) W3 (w5.setCell ⟨L,0,none⟩ (.slice s3.a (xs.length+1) s3.c))∧
   (∀ b,(b=L∨s3.row=some b)→(b=L∨s.row=some b)∨W3.heap.size≤b)∧(∀ b,(b=L∨s3.row=some b)→b<(w5.setCell ⟨L,0,none⟩ (.slice s3.a (xs.length+1) s3.c)).heap.size):=by
 have hrow0:∀ b,s.row=some b→w.heap.size+2≤b∧b<W0.heap.size:=fun b hb=>Qab ho hb
 have hs03:=h03.size
 have hs34:=h34.size
 have hs45:=hwr.grown.size
 have hsz:=h0.sz
 have hs2:∀ b,s3.row=some b→s.row=some b∨W4.heap.size≤b:=by
  intro b hb
  rcases hs3 with h | ⟨h,-⟩
  ·exact .inl (by rw [←hb];simp [Sl.row,h])
  ·right;rw [Sl.row,h] at hb;simp at hb;omega
 have hset:St (fun b=>b=L) w5 (w5.setCell ⟨L,0,none⟩ (.slice s3.a (xs.length+1) s3.c)):=(St.refl (fun b=>b=L) w5).set (p:=⟨L,0,none⟩) (.inr rfl) _
 have hst45:St (fun b=>s.row=some b) W4 w5:=hwr.st fun i hi=>hi
 have hst36:St (fun b=>b=L∨s.row=some b) W3 (w5.setCell ⟨L,0,none⟩ (.slice s3.a (xs.length+1) s3.c)):=((h34.st _).trans (hst45.mono fun i _ hi=>.inr hi)).trans (hset.mono fun i _ hi=>.inl hi)
 have hL0:¬(D L∨L=w.heap.size+1):=fun h=>h.elim (h0.dis L (.inl rfl)) (by omega)
 have hB5:Blk w5 L 63 #[.slice s.a xs.length s.c]:=hst45.blk ((h03.blk hblk hL0).ext h34) (fun e=>by have:=(hrow0 L e).1;omega)
 have hrow5:∀ b,s3.row=some b→b<w5.heap.size:=fun b hb=>(Qab hown hb).2
 refine ⟨⟨⟨s3,rfl,by rw [List.length_append,List.length_singleton];exact hB5.QaQ 0 _,?_⟩,?_,?_,fun b hb hD=>?_,fun b hb=>(hD1l b hb).1⟩,hst36,fun b hb=>?_,fun b hb=>?_⟩
 ·rw [List.length_append,List.length_singleton,List.map_append]
  exact Qac hown hset.agree fun b hb=>⟨hrow5 b hb,fun e=>by
   rcases hs2 b hb with h | h
   ·have:=(hrow0 b h).1;omega
   ·omega⟩
 ·refine (h0.st.then h03 (fun i hi e=>?_)).then hst36 fun i hi e=>?_
  ·rcases e with e | e
   ·have:=h0.dlo i e;omega
   ·omega
  ·rcases e with e | e
   ·exact e
   ·have:=(hrow0 i e).1;omega
 ·rw [World.size_setCell];omega
 ·have:=(hD1l b hD).2
  rcases hb with e | e
  ·exact hCD b (.inl e) hD
  ·rcases hs2 b e with e | e
   ·exact hCD b (.inr e) hD
   ·omega
 ·rcases hb with e | e
  ·exact .inl (.inl e)
  ·exact (hs2 b e).imp .inr (fun h=>by omega)
 ·rw [World.size_setCell]
  rcases hb with e | e
  ·omega
  ·exact hrow5 b e
theorem Qgc {w:World} {gf:Nat} {lb:Array Value} {K:Nat→Prop} {S:List Nat→Prop} {N:Nat} (hN:N≤1000000) (eg:∀ args w,(callFunc gf args).run Tryz.prog w=.ok (.enter gf args) w)
  (hseq:∀ W,Ext w W→QhG Tryz.prog gf lb Qne K (fun _ pre _ _ _=>pre.length<N) S (fun _=>True) W) (hK:∀ b,K b→b<w.heap.size) :
  Calls Tryz.prog 108 #[.slice none 0 0,.func (.func gf) #[] lb] w fun e w'=>∃ (s:Sl) (xs:List Nat),e=.returned (.slice s.a xs.length s.c)∧S xs∧w'.ownsRow w.heap.size 34 1 (.slice s.a xs.length s.c) xs.length (xs.map Qc4)∧Ext w w':=by
 obtain ⟨i0,hi,hz0,hz1,hz2⟩:=info_parts Tryz.QkB
 have HSE:=Lib.hid hseq
 have HK:=Lib.hid hK
 clear hseq hK
 refine (callsIn_wide (n:=6)).1 ?_
 refine callsIn_of_wp_marks Tryz.func108 rfl trivial ?_ rfl
 simp only [Tryz.ntmps108,List.size_toArray,List.length_cons,List.length_nil,Nat.reduceAdd,Nat.reduceSub,Array.replicate_succ,Array.replicate_zero,List.push_toArray,List.append_toArray,List.nil_append,List.cons_append]
 gi_wp2_with fail
 generalize hW0:World.alloc _ _=w1
 have hx1:Ext w w1:=by rw [←hW0];exact (Ext.refl w).alloc _ _
 have hz1':w1.heap.size=w.heap.size+1:=by rw [←hW0];simp
 have HL:=Lib.hid (show Blk w1 w.heap.size 63 #[.slice none 0 0] by rw [←hW0];exact Blk.new w _ _)
 have HX1:=Lib.hid hx1
 have HSQ:=Lib.hid (HSE.out w1 hx1)
 have hL1:w.heap.size<w1.heap.size:=by omega
 clear hW0 hx1 HSE hz1'
 refine Qeg (gf:=gf) (lb:=lb) rfl eg HSQ.out (Agree.refl _) (Nat.le_refl _)
  (fun b hb=>by have:=HK.out b hb;omega) (fun _=>rfl)
  (fun pre C D W=>Qfr w1 w.heap.size pre C D W∧pre.length≤1000000) (fun _ _ _ _=>False) (fun b=>b=w.heap.size)
  (fun b hb=>⟨by omega,fun h=>by have:=HK.out b h;omega⟩)
  (fun h k=>⟨h.1.turn hL1 k,h.2⟩) (fun h k=>h) (fun W hW hz=>⟨Qfr.start HL.out hW hz,by simp⟩) ?round ?done ?stop
 case stop=>
  rintro D c pre Di W0' W hD hSp hX
  exact hX.elim
 case round=>
  rintro pre C D D1 x W0' W1 ⟨⟨⟨s,rfl,hblk,hown⟩,hst,hsz',hdis,hdlo⟩,hpl⟩ hlt hsz hnL hx01 hD1 hD1l hCD hG
  have hpl':pre.length<1000000:=by omega
  have HI:=Lib.hid (show Qfr w1 w.heap.size pre (fun b=>b=w.heap.size∨s.row=some b) D W0' from ⟨⟨s,rfl,hblk,hown⟩,hst,hsz',hdis,hdlo⟩)
  have HBLK:=Lib.hid hblk
  have HOWN:=Lib.hid hown
  have HX01:=Lib.hid hx01
  have HD1:=Lib.hid hD1
  have HD1L:=Lib.hid hD1l
  have HCD:=Lib.hid hCD
  clear hblk hown hst hdis hdlo hx01 hD1 hD1l hCD hG hnL hlt
  gi_wp2_with fail
  refine ⟨Ext.refl _,fun W3 k3=>?_⟩
  have hs1W:=HX01.out.size
  have h13:St (fun b=>b=w1.heap.size+1) W1 W3:=k3
  have h03:St (fun b=>D b∨b=w1.heap.size+1) W0' W3:=(HX01.out.mono fun i _ hi=>.inl hi).trans (h13.mono fun i _ hi=>.inr hi)
  have hrow0:∀ b,s.row=some b→w1.heap.size+2≤b∧b<W0'.heap.size:=fun b hb=>Qab HOWN.out hb
  have hnd:∀ b,(b=w.heap.size∨s.row=some b)→¬(D b∨b=w1.heap.size+1):=fun b hb e=>e.elim (HI.out.dis b hb) (fun e=>by
   rcases hb with h | h
   ·omega
   ·have:=(hrow0 b h).1;omega)
  have hL3:=h03.blk HBLK.out (hnd _ (.inl rfl))
  have cL:W3.cell? ⟨w.heap.size,0,none⟩=some (.slice s.a pre.length s.c):=hL3.cell 0
  have fL:=hL3.frozen 0
  have lL:=hL3.lt
  have hx34:Ext W3 (W3.alloc (.cells #[Qc4 x] 34)):=(Ext.refl W3).alloc _ _
  have hown4:=Qac (Qac HOWN.out h03.agree fun b hb=>⟨(hrow0 b hb).2,hnd b (.inr hb)⟩) (hx34.agree fun b (hb:b<W3.heap.size)=>hb) (fun b hb=>by have:=(hrow0 b hb).2;have:=h03.size;omega)
  have h63:pre.length+1≤maxLen:=by unfold maxLen;omega
  have hby:(pre.length+1)*8≤140737488355328:=by omega
  have hs03:=h03.size
  have hbase:w1.heap.size+2≤(W3.alloc (.cells #[Qc4 x] 34)).heap.size:=by rw [World.size_alloc];omega
  have hs13:=h13.size
  have H03:=Lib.hid h03
  have HX34:=Lib.hid hx34
  have HOWN4:=Lib.hid hown4
  have HBN:=Lib.hid (Blk.new W3 34 #[Qc4 x])
  have hneL:s.row≠some w.heap.size:=fun e=>by have:=(hrow0 _ e).1;omega
  have fLX:=Lib.hid ((hx34.frozen (o:=0) lL).trans fL)
  have HD13:=Lib.hid (show ∀ b,D1 b→w1.heap.size+2≤b∧b<W3.heap.size from fun b hb=>⟨(HD1L.out b hb).1,Nat.lt_of_lt_of_le (HD1L.out b hb).2 hs13⟩)
  have hneW:¬w.heap.size=W3.heap.size:=by omega
  clear k3 h03 h13 hL3 hx34 hown4 hnd fL
  gi_wp2_with (gi_at_builtin;refine Qcb _ rfl (.tmp 8) (.tmp 10) 63 rfl (w1.heap.size+2) 34 i0 _ 1 8 Tryz.underlying63 hi hz0 hz1 hz2 rfl (by decide) s pre.length (pre.map Qc4) rfl HOWN4.out (fun b=>b=W3.heap.size) ⟨some ⟨W3.heap.size,0,none⟩,1⟩ 1 [Qc4 x] rfl (Rd.block HBN.out (by decide) rfl) (by simp [Value.oneCell']) h63 hby hbase ?_;intro s3 w5 hown5 hwr5 hs5;have h5:=hwr5.cell0 (o:=0) HX34.out hneL lL;have cL5:w5.cell? ⟨w.heap.size,0,none⟩=some (.slice s.a pre.length s.c):=h5.1.trans cL;have lL5:=h5.2;have fL5:w5.frozen? ⟨w.heap.size,0,none⟩=false:=(hwr5.fz _ _).trans (fLX.out);have HO5:=Lib.hid hown5;have HW5:=Lib.hid hwr5;have HS5:=Lib.hid hs5;clear hown5 hwr5 hs5 h5)
  obtain ⟨e1,e2,e3,e4⟩:=Qkh hL1 HI.out HBLK.out HOWN.out H03.out HD1.out HD13.out HCD.out HX34.out HO5.out HW5.out HS5.out
  exact ⟨_,⟨e1,by rw [List.length_append,List.length_singleton];omega⟩,e2,e3,e4⟩
 case done=>
  rintro D xs C Di W5 W hD hS ⟨⟨⟨s,rfl,hblk,hown⟩,hst,hsz',hdis,hdlo⟩,hpl⟩ hx5 hDi hDk
  have hrow0:∀ b,s.row=some b→w1.heap.size+2≤b∧b<W5.heap.size:=fun b hb=>Qab hown hb
  have hnl:¬(Di w.heap.size∨w.heap.size=w1.heap.size+1):=fun e=>e.elim (hdis _ (.inl rfl)) (by omega)
  have hL5:=hx5.blk hblk hnl
  have cL:W.cell? ⟨w.heap.size,0,none⟩=some (.slice s.a xs.length s.c):=hL5.cell 0
  have lL:=hL5.lt
  have hDl:=(Array.getElem?_eq_some_iff.1 hDk).1
  have hk':St (fun b=>b=D) W (W.putObj D (.deferred none)):=St.put hDk rfl rfl
  have hs5:=hx5.size
  have hsk:=hk'.size
  have hall':St (fun b=>Di b∨b=w1.heap.size+1∨b=D) W5 (W.putObj D (.deferred none)):=(hx5.mono (G:=fun b=>Di b∨b=w1.heap.size+1∨b=D) fun i _ hi=>hi.elim .inl fun h=>.inr (.inl h)).trans (hk'.mono fun i _ hi=>.inr (.inr hi))
  have hfin:(W.putObj D (.deferred none)).ownsRow w.heap.size 34 1 (.slice s.a xs.length s.c) xs.length (xs.map Qc4)∧Ext w (W.putObj D (.deferred none)):=by
   refine ⟨?_,?_⟩
   ·have ho:=Qac hown hall'.agree fun b hb=>⟨(hrow0 b hb).2,fun e=>by
     rcases e with e | e | e
     ·exact hdis b (.inr hb) e
     ·have:=(hrow0 b hb).1;omega
     ·have:=(hrow0 b hb).1;omega⟩
    exact QcT ho (by omega)
   ·refine (HX1.out.step hst (fun b hb=>by omega)).step hall' fun b hb=>?_
    rcases hb with h | h | h
    ·have:=hDi b h;omega
    ·omega
    ·omega
  have HFIN:=Lib.hid hfin
  have HDK:=Lib.hid hDk
  have HSX:=Lib.hid hS
  clear hblk hown hst hdis hdlo hx5 hDi hDk hk' hall' hfin hL5 hS
  gi_wp2_with fail
  refine ⟨by simp,.inl ⟨_,_,rfl,run_takeDeferred HDK.out,?_⟩⟩
  refine ⟨.slice s.a xs.length s.c,?_,s,xs,rfl,HSX.out,HFIN.out.1,HFIN.out.2⟩
  simp [results,Tryz.f108,go_sem]
end Go.Proofs.YtohajcflklejjaaGreat
namespace Go.Proofs.YtohajcflklejjaaGreat
open Go.RowKit Go.Maps
set_option linter.unusedVariables false
set_option linter.unusedSimpArgs false
theorem Qde {w:World} {base:Nat} {s:Sl} {xs:List Nat} (h:w.ownsRow base 34 1 (.slice s.a xs.length s.c) xs.length (xs.map Qc4)) (hp:0<xs.length) :
  ∃ g,s.a=some ⟨g,0,none⟩∧base≤g∧s.c≤maxLen∧Qc0 w g s.c xs.toArray:=by
 obtain ⟨-,hor⟩:=h
 rcases hor with ⟨-,h0⟩ | ⟨g,cap,cur,hv,hg,hc,h1,h2,h3,h4⟩
 ·omega
 ·injection hv with e1 e2 e3
  subst e3
  refine ⟨g,e1,hg,h2,cur,hc,by omega,by simpa using h1,fun j hj=>?_⟩
  have hj':j<xs.length:=by simpa using hj
  have:(cur.toList.take (xs.length*1))[j]? = (xs.map Qc4)[j]?:=by rw [h4]
  rw [List.getElem?_take,if_pos (by omega),Array.getElem?_toList] at this
  rw [this,List.getElem?_map,List.getElem?_eq_getElem hj']
  simp [Qc4,hj']
theorem Qfa {w:World} {base g cap:Nat} {d:Array Nat} (h:Qc0 w g cap d) (hb:base≤g) (hcm:cap≤maxLen):w.ownsRow base 34 1 (.slice (some ⟨g,0,none⟩) d.size cap) d.size (d.toList.map Qc4):=by
 obtain ⟨cs,h1,h2,h3,h4⟩:=h
 refine ⟨by simp,.inr ⟨g,cap,cs,rfl,hb,h1,h3,hcm,by omega,?_⟩⟩
 refine List.ext_getElem? fun j=>?_
 by_cases hj:j<d.size
 ·rw [List.getElem?_take,if_pos (by omega),Array.getElem?_toList,h4 j hj,List.getElem?_map,Array.getElem?_toList,Array.getElem?_eq_getElem hj]
  simp [Qc4,hj]
 ·rw [List.getElem?_eq_none (by simp;omega),List.getElem?_eq_none (by simp;omega)]
theorem QeT {w:World} {gf:Nat} {lb:Array Value} {K:Nat→Prop} {S:List Nat→Prop} {N:Nat} (hN:N≤1000000) (eg:∀ args w,(callFunc gf args).run Tryz.prog w=.ok (.enter gf args) w)
  (hseq:∀ W,Ext w W→QhG Tryz.prog gf lb Qne K (fun _ pre _ _ _=>pre.length<N) S (fun _=>True) W) (hK:∀ b,K b→b<w.heap.size) :
  Calls Tryz.prog 81 #[.func (.func gf) #[] lb] w fun e w'=>∃ (s:Sl) (xs:List Nat),e=.returned (.slice s.a xs.length s.c)∧S xs∧w'.ownsRow w.heap.size 34 1 (.slice s.a xs.length s.c) xs.length (xs.map Qc4)∧Ext w w':=by
 have hc:=Qgc hN eg hseq hK
 clear hseq hK
 go_enter Tryz.func81,Tryz.ntmps81
 go_wp2_with fail
 refine hc.mono ?_
 rintro e w1 ⟨s,xs,rfl,hS,ho,hx⟩
 have HS:=Lib.hid hS
 have HO:=Lib.hid ho
 have HX:=Lib.hid hx
 clear hS ho hx hc
 go_wp2_with fail
 go_ret
 exact ⟨s,xs,rfl,HS.out,HO.out,HX.out⟩
theorem QjB {w:World} {gf:Nat} {lb:Array Value} {K:Nat→Prop} {ids:List Nat} (h0:0<ids.length) (h12:ids.length≤12) (hr:ids.Pairwise (·<·)) (eg:∀ args w,(callFunc gf args).run Tryz.prog w=.ok (.enter gf args) w)
  (hseq:∀ W,Ext w W→QhG Tryz.prog gf lb Qne K (fun _ pre _ _ _=>pre.length<ids.length) (fun xs=>xs.Perm ids) (fun _=>True) W) (hK:∀ b,K b→b<w.heap.size) :
  Calls Tryz.prog 52 #[.func (.func gf) #[] lb] w fun e w'=>∃ (s:Sl),e=.returned (.slice s.a ids.length s.c)∧w'.ownsRow w.heap.size 34 1 (.slice s.a ids.length s.c) ids.length (ids.map Qc4)∧Ext w w':=by
 have hc:=QeT (by omega) eg hseq hK
 have HI:=Lib.hid hr
 clear hseq hK hr
 go_enter Tryz.func52,Tryz.ntmps52
 go_wp2_with fail
 refine hc.mono ?_
 rintro e w1 ⟨⟨sa,scp⟩,xs,rfl,hS,ho,hx⟩
 have hl:xs.length=ids.length:=hS.length_eq
 dsimp only at ho ⊢
 obtain ⟨g,hga,hgb,hcm,hrow⟩:=Qde (s:=⟨sa,scp⟩) ho (by omega)
 dsimp only at hga hcm hrow
 subst hga
 have hsz:xs.toArray.size=xs.length:=by simp
 have hso:=QfA hrow (by rw [hsz];omega) hcm
 have hsi:=QjD (d:=xs.toArray) (by simpa using hS) HI.out
 have hsn:(Sort.insertionSort ltN xs.toArray 0 xs.toArray.size).size=ids.length:=by rw [←Array.length_toList,hsi]
 obtain ⟨d',hd'⟩:∃ d',Sort.insertionSort ltN xs.toArray 0 xs.toArray.size=d':=⟨_,rfl⟩
 rw [hd'] at hso hsi hsn
 rw [hsz] at hso
 have HX:=Lib.hid hx
 have HSI:=Lib.hid hsi
 have HSN:=Lib.hid hsn
 have HL:=Lib.hid hl
 clear hS ho hx hc hd' hsi hsn hrow hsz hl
 go_wp2_with fail
 refine hso.mono ?_
 rintro e w2 ⟨rfl,hr2,hst⟩
 have HR2:=Lib.hid hr2
 have HST:=Lib.hid hst
 clear hso hr2 hst
 go_wp2_with fail
 go_ret
 have ho:=Qfa HR2.out hgb hcm
 rw [HSI.out,HSN.out] at ho
 rw [HL.out]
 exact ⟨⟨some ⟨g,0,none⟩,scp⟩,rfl,ho,HX.out.step HST.out fun b e=>by omega⟩
theorem Qix (w:World) (mb:Option Nat):Calls Tryz.prog 53 #[.map mb] w fun e w'=>e=.returned (.func (.func 83) #[] #[.pointer (some ⟨w.heap.size,0,none⟩)])∧w'=w.alloc (.cells #[.map mb] 35):=by
 go_enter Tryz.func53,Tryz.ntmps53
 go_wp2_with fail
 go_ret
 exact ⟨rfl,rfl⟩
theorem Qje {w:World} {R:Nat} {T:RT} {g:Nat} {mb:Option Nat} {L:Qbx} (h:Qbf w R T g mb L) (h0:0<L.length) (h12:L.length≤12) :
  Calls Tryz.prog 23 #[.pointer (some ⟨R,0,none⟩)] w fun e w'=>∃ (s:Sl),e=.returned (.slice s.a L.length s.c)∧w'.ownsRow w.heap.size 34 1 (.slice s.a L.length s.c) L.length (L.map fun p=>Qc4 p.1)∧Ext w w':=by
 have hlR:=h.blk.lt
 have r2:w.cell? ⟨R,2,none⟩=some (.map mb):=h.blk.cell 2
 obtain ⟨b,rfl⟩:∃ b,mb=some b:=by
  cases mb with
  | none=>have:L=[]:=h.map;subst this;simp at h0
  | some b=>exact ⟨b,rfl⟩
 have hown:w.ownsMap Tryz.prog 34 ivR b g (mapD L):=h.map
 have hbl:=hown.lt
 have hx1:Ext w (w.alloc (.cells #[.map (some b)] 35)):=(Ext.refl w).alloc _ _
 have hb1:=Blk.new w 35 #[.map (some b)]
 have hid:(L.map (·.1)).Pairwise (·<·):=List.pairwise_map.2 h.rise
 have hso:=QjB (w:=w.alloc (.cells #[.map (some b)] 35)) (gf:=83) (lb:=#[.pointer (some ⟨w.heap.size,0,none⟩)]) (ids:=L.map (·.1)) (by simpa using h0) (by simpa using h12) hid (enters_of Tryz.func83 (by kernel_rfl) rfl)
  (fun W hW=>by
    have:=Qiy (w0:=W) (L:=L) (hb1.ext hW) (QaO hown ((hx1.trans hW).heap hbl)) h.rise
    simpa using this)
  (fun c hc=>by rw [World.size_alloc];rcases hc with rfl | rfl <;> omega)
 have hk:=Qix w (some b)
 rw [List.length_map,List.map_map] at hso
 have HSO:=Lib.hid hso
 have HX1:=Lib.hid hx1
 clear h hown hx1 hb1 hid hso
 go_enter Tryz.func23,Tryz.ntmps23
 go_wp2_with fail
 refine hk.mono ?_
 rintro e w1 ⟨rfl,rfl⟩
 go_wp2_with fail
 refine HSO.out.mono ?_
 rintro e w2 ⟨s,rfl,ho,hx⟩
 have HO:=Lib.hid (QcT ho (by rw [World.size_alloc];exact Nat.le_succ _))
 have HX:=Lib.hid (HX1.out.trans hx)
 clear ho hx
 go_wp2_with fail
 go_ret
 exact ⟨s,rfl,HO.out,HX.out⟩
end Go.Proofs.YtohajcflklejjaaGreat
namespace Go.Proofs.YtohajcflklejjaaGreat
open Go.RowKit Go.Shelf
set_option linter.unusedVariables false
set_option linter.unusedSimpArgs false
attribute [local go_sem] Oper.semAt_some
def Qcm (s:Iv) (xs:List CE):List CE:=xs.filter fun x=>Qca x.c.k s.lo s.hi s.op
def QmJ (xs:List CE):Prop:=xs.Pairwise fun x y=>klt x.c.k y.c.k=true
theorem Qjz {s:Iv} {xs:List CE} {f:Nat} (h:∀ i x,i<f→xs[i]? = some x→klt x.c.k s.lo=true):Qcm s xs=Qcm s (xs.drop f):=by
 conv=>lhs;rw [←List.take_append_drop f xs]
 rw [Qcm,List.filter_append,List.filter_eq_nil_iff.2,List.nil_append];rfl
 intro x hx
 obtain ⟨i,hi⟩:=List.mem_iff_getElem?.1 hx
 rw [List.getElem?_take] at hi
 split at hi
 ·rename_i hlt
  simp [Qca,h i x hlt hi]
 ·cases hi
theorem QiI {s:Iv} {xs:List CE} {j:Nat} {x:CE} (hx:xs[j]? = some x) (hw:Qca x.c.k s.lo s.hi s.op=true):Qcm s (xs.drop j)=x :: Qcm s (xs.drop (j+1)):=by
 obtain ⟨h1,h2⟩:=List.getElem?_eq_some_iff.1 hx
 rw [List.drop_eq_getElem_cons h1,h2,Qcm,List.filter_cons_of_pos (p:=fun x:CE=>Qca x.c.k s.lo s.hi s.op) hw];rfl
theorem QjA {s:Iv} {xs:List CE} {j:Nat} {x:CE} (hr:QmJ xs) (hx:xs[j]? = some x) (hlo:klt x.c.k s.lo=false) (hw:Qca x.c.k s.lo s.hi s.op=false):Qcm s (xs.drop j)=[]:=by
 rw [Qcm,List.filter_eq_nil_iff]
 intro y hy
 have h1:s.op=false∧klt x.c.k s.hi=false:=by
  simp only [Qca,hlo,Bool.not_false,Bool.true_and,Bool.or_eq_false_iff] at hw;exact hw
 obtain ⟨i,hi⟩:=List.mem_iff_getElem?.1 hy
 rw [List.getElem?_drop] at hi
 have h2:klt y.c.k s.hi=false:=by
  by_cases h0:i=0
  ·subst h0
   rw [Nat.add_zero,hx] at hi
   injection hi with hi;rw [←hi];exact h1.2
  ·have h3:klt x.c.k y.c.k=true:=by
    obtain ⟨a1,a2⟩:=List.getElem?_eq_some_iff.1 hx
    obtain ⟨b1,b2⟩:=List.getElem?_eq_some_iff.1 hi
    have:=List.pairwise_iff_getElem.1 hr j (j+i) a1 b1 (by omega)
    rwa [a2,b2] at this
   cases h4:klt y.c.k s.hi with
   | false=>rfl
   | true=>have:=QaF h3 h4;rw [h1.2] at this;cases this
 simp [Qca,h1.1,h2]
theorem Qhn {s:Iv} {xs:List CE} {j:Nat} (hj:xs.length≤j):Qcm s (xs.drop j)=[]:=by rw [List.drop_eq_nil_of_le hj];rfl
/-- The search's test. -/
theorem Qjx {W:World} {B1 B2 b o i n c:Nat} {k lo hi:ByteArray} {op:Bool} (h1:W.cell? ⟨B1,0,none⟩=some (.slice (some ⟨b,o,none⟩) n c)) (h2:Blk W B2 107 #[.string lo,.string hi,.bool op])
  (hk:W.cell? ⟨b,o+i*15,none⟩=some (.string k)) (hi:i<n) (hn:n≤maxLen) :
  Calls Tryz.prog 71 #[.int .i64 i,.pointer (some ⟨B1,0,none⟩),.pointer (some ⟨B2,0,none⟩)] W fun e w'=>e=.returned (.bool !(klt k lo))∧Ext W w':=by
 unfold maxLen at hn
 have l1:=World.block_lt_of_cell? W _ h1
 have lb:=World.block_lt_of_cell? W _ hk
 have l2:=h2.lt
 have c2:W.cell? ⟨B2,0,none⟩=some (.string lo):=h2.cell 0
 have g0:(0:Int)≤(i:Int):=by omega
 have g1:(i:Int)<(n:Int):=by omega
 go_enter Tryz.func71,Tryz.ntmps71
 go_wp2_with fail
 go_quiet (fail)
 go_wp2_with fail
 go_ret
 exact ⟨rfl,(Ext.refl _).drewN _⟩
theorem Qmm (w:World) (a:Option Addr) (n c:Nat) (s:Iv):Calls Tryz.prog 48 #[.slice a n c,s.v] w fun e w'=>e=.returned (.func (.func 69) #[] #[.pointer (some ⟨w.heap.size,0,none⟩),.pointer (some ⟨w.heap.size+1,0,none⟩)])∧Ext w w'∧
  Blk w' w.heap.size 78 #[.slice a n c]∧Blk w' (w.heap.size+1) 107 #[.string s.lo,.string s.hi,.bool s.op]:=by
 go_enter Tryz.func48,Tryz.ntmps48
 go_wp2_with fail
 generalize hW0:World.alloc (World.alloc _ _) _=W0
 obtain ⟨hx0,hz0,hb0,hb1⟩:=Qax w _ _ _ _ W0 hW0
 clear hW0
 go_ret
 exact ⟨rfl,hx0,hb0,hb1⟩
theorem CS.Qnm {w w':World} {F:Nat→Prop} {s:Sl} {xs:List CE} (h:CS w F s xs) (ha:Agree F w w'):CS w' F s xs:=⟨h.rd.agree ha,fun x hx=>(h.vals x hx).agree ha,h.few⟩
def QlB (s:Iv) (xs ys:List CE):Prop:=ys=Qcm s xs
structure Qnk (s:Iv) (xs:List CE) (pre:List CE) (x:CE) (W0 W1:World):Prop where
 at_:(Qcm s xs)[pre.length]? = some x
 mem:x∈xs
structure QiS (s:Iv) (xs:List CE) (f:Nat) (J:List CE→(Nat→Prop)→World→Prop) (C:Nat→Prop) (W:World) (j:Nat) (pre:List CE) (C':Nat→Prop) (Wj wr:World):Prop where
 inv:J pre C' Wj
 ext:Ext Wj wr
 len:pre.length=j
 pre_:Qcm s xs=pre++Qcm s (xs.drop (f+j))
 st:St C W wr
 sub:∀ b,C' b→C b∨W.heap.size≤b
theorem QiS.grow {s:Iv} {xs:List CE} {f j:Nat} {J:List CE→(Nat→Prop)→World→Prop} {C:Nat→Prop} {W Wj wr w6:World} {pre:List CE} {C':Nat→Prop} (h:QiS s xs f J C W j pre C' Wj wr) (k:Ext wr w6):QiS s xs f J C W j pre C' Wj w6:=
 ⟨h.inv,h.ext.trans k,h.len,h.pre_,h.st.trans (k.st _),h.sub⟩
theorem Qjy {s:Iv} {xs:List CE} {f j:Nat} {J:List CE→(Nat→Prop)→World→Prop} {C:Nat→Prop} {W Wj wr w6:World} {pre:List CE} {C' C6:Nat→Prop} {x:CE} (h:QiS s xs f J C W j pre C' Wj wr) (hx:xs[f+j]? = some x) (hw:Qca x.c.k s.lo s.hi s.op=true)
  (hj:J (pre++[x]) C6 w6) (hst:St C' wr w6) (hsub:∀ b,C6 b→C' b∨wr.heap.size≤b):QiS s xs f J C W (j+1) (pre++[x]) C6 w6 w6:=by
 have hz:=h.st.size
 refine ⟨hj,Ext.refl _,by simp [h.len],?_,h.st.then hst (fun b hb hh=>?_),fun b hb=>?_⟩
 ·rw [h.pre_,QiI hx hw,List.append_assoc,Nat.add_assoc];rfl
 ·rcases h.sub b hh with h | h
  ·exact h
  ·omega
 ·rcases hsub b hb with h' | h'
  ·exact h.sub b h'
  ·exact .inr (by omega)
theorem Qmn {w0:World} {B1 B2:Nat} {F:Nat→Prop} {sl:Sl} {s:Iv} {xs:List CE} (hb1:Blk w0 B1 78 #[.slice sl.a xs.length sl.c]) (hb2:Blk w0 B2 107 #[.string s.lo,.string s.hi,.bool s.op]) (hs:CS w0 F sl xs) (hF:∀ b,F b→b<w0.heap.size) (hl:xs.length≤1000000) (h0:0<xs.length) (hr:QmJ xs) :
  QnJ Tryz.prog 69 #[.pointer (some ⟨B1,0,none⟩),.pointer (some ⟨B2,0,none⟩)] Qil (fun b=>F b∨b=B1∨b=B2) (Qnk s xs) (QlB s xs) (fun _=>True) w0:=by
 intro l J Jx C W hTk hA hsz hCK hJ
 have hCl:=hTk.lt [] C W hJ
 have hlB1:=hb1.lt
 have hlB2:=hb2.lt
 have hss:∀ W1,St C W W1→W1.cell? ⟨B1,0,none⟩=some (.slice sl.a xs.length sl.c)∧Blk W1 B2 107 #[.string s.lo,.string s.hi,.bool s.op]∧CS W1 F sl xs:=fun W1 hW=>
  ⟨(hW.cell (by omega) fun h=>hCK _ h (.inr (.inl rfl))).trans ((World.cell?_of_block (w:=w0) (a:=⟨B1,0,none⟩) (hA B1 (.inr (.inl rfl)))).trans (hb1.cell 0)),
    ((hW.block B2 (by omega) fun h=>hCK _ h (.inr (.inr rfl))).trans (hA B2 (.inr (.inr rfl)))).trans hb2,
    hs.Qnm fun b hb=>(hW.block b (by have:=hF b hb;omega) fun h=>hCK _ h (.inl hb)).trans (hA b (.inl hb))⟩
 obtain ⟨x0,hx0⟩:∃ x,xs[0]? = some x:=⟨_,List.getElem?_eq_getElem h0⟩
 obtain ⟨b,o,hsa,lb,hcc,hcm,-,-⟩:=hs.at hx0
 obtain ⟨sa,sc⟩:=sl
 dsimp only at hss hsa hcc hcm
 subst hsa
 have HTK:=Lib.hid hTk
 have HSS:=Lib.hid hss
 have HJ:=Lib.hid hJ
 have HR:=Lib.hid hr
 have c0:=(hss W (St.refl _ W)).1
 have lB:B1<W.heap.size:=by omega
 have HFW:=Lib.hid (fun (b:Nat) (hb:F b)=>Nat.lt_of_lt_of_le (hF b hb) hsz)
 have hsr:∀ W1,Ext W W1→Calls Tryz.prog 70 #[.int .i64 xs.length,.func (.func 71) #[] #[.pointer (some ⟨B1,0,none⟩),.pointer (some ⟨B2,0,none⟩)]] W1 (QbD xs.length (fun i=>!(klt ((xs[i]?.map fun x=>x.c.k).getD ByteArray.empty) s.lo)) W1):=by
  intro W1 hW1
  refine Qb8 71 _ _ xs.length _ W1 (enters_of Tryz.func71 (by kernel_rfl) rfl) (by omega) ?_ ?_
  ·intro i W' hi hW'
   obtain ⟨x,hx⟩:∃ x,xs[i]? = some x:=⟨_,List.getElem?_eq_getElem hi⟩
   rw [hx]
   obtain ⟨d1,d2,d3⟩:=HSS.out W' ((hW1.trans hW').st _)
   obtain ⟨b',o',hsa',-,-,-,-,hcl⟩:=d3.at hx
   injection hsa' with hsa'
   injection hsa' with hsa1 hsa2
   subst hsa1 hsa2
   exact Qjx d1 d2 ((hcl 0 _ rfl)) hi (by omega)
  ·intro i j hij hj hpi
   by_cases hij':i=j
   ·subst hij';exact hpi
   ·have hxy:=List.pairwise_iff_getElem.1 HR.out i j (by omega) hj (by omega)
    rw [List.getElem?_eq_getElem (by omega)] at hpi
    rw [List.getElem?_eq_getElem hj]
    simp only [Option.map_some,Option.getD_some,Bool.not_eq_true'] at hpi ⊢
    cases hyk:klt xs[j].c.k s.lo
    ·rfl
    ·have:=QaF hxy hyk
     rw [hpi] at this;cases this
 have HSR:=Lib.hid hsr
 have hnl:(xs.length:Int)≤1000000:=by omega
 clear hTk hA hCK hJ hb1 hb2 hs hss hCl hF hr hx0 hsr
 show Calls _ _ #[.func (.yield l) #[] #[],.pointer (some ⟨B1,0,none⟩),.pointer (some ⟨B2,0,none⟩)] W _
 refine (callsIn_wide (n:=5)).1 ?_
 refine callsIn_of_wp Tryz.func69 rfl trivial ?_ rfl
 simp only [Tryz.ntmps69,List.size_toArray,List.length_cons,List.length_nil,Nat.reduceAdd,Nat.reduceSub,Array.replicate_succ,Array.replicate_zero,List.push_toArray,List.append_toArray,List.nil_append,List.cons_append]
 gi_wp2_with fail
 refine ⟨trivial,?_⟩
 refine (callsIn_wide.2 (HSR.out W (Ext.refl W))).mono ?_
 rintro e w1 ⟨f,rfl,hf,hlo,hhi,hx1⟩
 obtain ⟨c1,-,-⟩:=HSS.out w1 (hx1.st _)
 have HX1:=Lib.hid hx1
 have HLO:=Lib.hid hlo
 have HHI:=Lib.hid hhi
 have lB1:B1<w1.heap.size:=Nat.lt_of_lt_of_le lB hx1.size
 have g0:(0:Int)≤(f:Int):=by omega
 have g1:(f:Int)≤(xs.length:Int):=by omega
 have g2:(xs.length:Int)≤(sc:Int):=by omega
 have g3:(f:Int)≤(sc:Int):=by omega
 clear c0 hlo hhi hx1
 have hlof:∀ i x,i<f→xs[i]? = some x→klt x.c.k s.lo=true:=fun i x hi hx=>by
  have:=HLO.out i hi
  simp only [hx] at this
  simpa using this
 have hhif:∀ i x,f≤i→xs[i]? = some x→klt x.c.k s.lo=false:=fun i x hi hx=>by
  have:=HHI.out i hi (List.getElem?_eq_some_iff.1 hx).1
  simp only [hx] at this
  simpa using this
 have HLF:=Lib.hid (Qjz (s:=s) hlof)
 have HHF:=Lib.hid hhif
 clear hlof hhif HLO HHI
 by_cases hfc:f=sc
 ·have hz:xs.length - f=0:=by omega
  have HALL:=Lib.hid (show QlB s xs [] by show []=Qcm s xs;rw [HLF.out,Qhn (by omega)])
  have HZ:=Lib.hid hz
  subst hfc
  have e1:((xs.length:Int) - (f:Int))=0:=by omega
  gi_wp2_with fail
  gi_loopw [15] (fun v wr=>v=.int .i64 0∧wr=w1) (fun v _=>0)
  case atStart=>exact ⟨rfl,rfl⟩
  case round=>
   obtain ⟨rfl,rfl⟩:=hrel
   have g9:¬(0:Int)<((xs.length - f:Nat):Int):=by omega
   gi_wp2_with fail
   go_end0
   exact ⟨⟨_,rfl⟩,.inl ⟨[],HALL.out,C,W,HJ.out,HX1.out⟩⟩
 ·have g4:¬(sc:Int)=(f:Int):=by omega
  gi_wp2_with fail
  clear c1
  gi_loopw [15] (fun v wr=>∃ (j:Nat) (pre:List CE) (C':Nat→Prop) (Wj:World),v=.int .i64 (j:Int)∧f+j≤xs.length∧Hid (QiS s xs f J C W j pre C' Wj wr)) (fun v _=>xs.length - (intOf v).toNat)
  case atStart=>exact ⟨0,[],C,W,rfl,by omega,Lib.hid ⟨HJ.out,HX1.out,rfl,HLF.out,HX1.out.st _,fun b hb=>.inl hb⟩⟩
  case round=>
   obtain ⟨j,pre,C',Wj,rfl,hj,HS⟩:=hrel
   by_cases hlt:f+j<xs.length
   ·obtain ⟨x,hx⟩:∃ x,xs[f+j]? = some x:=⟨_,List.getElem?_eq_getElem hlt⟩
    obtain ⟨-,hbs,hcs⟩:=HSS.out wr HS.out.st
    obtain ⟨b',o',hsa',lb',-,-,-,hcl⟩:=hcs.at hx
    injection hsa' with hsa'
    injection hsa' with hsa1 hsa2
    subst hsa1 hsa2
    have lb:b<wr.heap.size:=Nat.lt_of_lt_of_le (HFW.out b lb) HS.out.st.size
    have hcl2:∀ c u,x.cells.toList[c]? = some u→wr.cell? ⟨b,o+f*15+j*15+c,none⟩=some u:=fun c u hu=>by
     rw [show o+f*15+j*15+c=o+(f+j)*15+c by omega];exact hcl c u hu
    obtain ⟨v0,v1,v2,v3,v4,v5,v6,v7,v8,v9,v10,v11,v12,v13,v14⟩:=Qmv hcl2
    have s0:wr.cell? ⟨B2,0,none⟩=some (.string s.lo):=hbs.cell 0
    have s1:wr.cell? ⟨B2,1,none⟩=some (.string s.hi):=hbs.cell 1
    have s2:wr.cell? ⟨B2,2,none⟩=some (.bool s.op):=hbs.cell 2
    have lB2:B2<wr.heap.size:=hbs.lt
    have g5:(j:Int)<((xs.length - f:Nat):Int):=by omega
    have g6:(0:Int)≤(j:Int):=by omega
    have hkl:=HHF.out (f+j) x (by omega) hx
    have hkw:=fun W=>Qfw W x.c.k s.lo s.hi s.op
    have HBS:=Lib.hid hbs
    cases hw:Qca x.c.k s.lo s.hi s.op
    ·have HE:=Lib.hid (show QlB s xs pre by show pre=Qcm s xs;rw [HS.out.pre_,QjA HR.out hx hkl hw,List.append_nil])
     rw [hw] at hkw
     have HKW:=Lib.hid hkw
     clear hcl hcl2 hcs hbs hw hkl hkw
     gi_wp2_with fail
     refine ⟨trivial,?_⟩
     refine (callsIn_wide.2 (HKW.out _)).mono ?_
     rintro e w2 ⟨rfl,rfl⟩
     gi_wp2_with fail
     refine ⟨fun _ h=>absurd h (by simp),?_⟩
     gi_wp2_with fail
     refine bodyPost_ret (v:=.tuple #[]) (by simp [results,Tryz.results69,go_sem]) rfl ?_
     exact ⟨⟨_,rfl⟩,.inl ⟨pre,C',Wj,HE.out,HS.out.inv,HS.out.ext.trans ((Ext.refl _).alloc _ _)⟩⟩
    ·have hG:Qnk s xs pre x Wj wr:=⟨by rw [HS.out.pre_,QiI hx hw,List.getElem?_append_right (Nat.le_refl _),Nat.sub_self];rfl,List.mem_of_getElem? hx⟩
     rw [hw] at hkw
     have HKW:=Lib.hid hkw
     have HG:=Lib.hid hG
     have HX:=Lib.hid hx
     have HW:=Lib.hid hw
     clear hcl hcl2 hcs hbs hw hkl hkw hG hx
     gi_wp2_with fail
     generalize hW3:wr.alloc _=W3
     have hx3:Ext wr W3:=by rw [←hW3];exact (Ext.refl _).alloc _ _
     have hb3:Blk W3 wr.heap.size 54 x.cells:=by rw [←hW3];exact Blk.new wr _ _
     clear hW3
     obtain ⟨c0,c1,c2,c3,c4,c5,c6,c7,c8,c9,c10,c11,c12,c13,c14⟩:=hb3.c15
     have l3:=hb3.lt
     have hy:=HTK.out.take pre C' x Wj W3 HS.out.inv (HS.out.ext.trans hx3) ⟨HG.out.at_,HG.out.mem⟩
     obtain ⟨fn,tmps,assign,body,hy,hR⟩:=hy
     have HR3:=Lib.hid hR
     have HX3:=Lib.hid hx3
     clear hb3 hx3 hR
     dsimp only [Qil,CE.agg,CE.cells] at hy
     refine ⟨trivial,?_⟩
     refine (callsIn_wide.2 (HKW.out W3)).mono ?_
     rintro e w2 ⟨rfl,rfl⟩
     gi_wp2_with fail
     clear c0 c1 c2 c3 c4 c5 c6 c7 c8 c9 c10 c11 c12 c13 c14
     refine HR3.out.mono ?_
     rintro e w6 (⟨rfl,C6,hj6,hst6,hsub6⟩ | ⟨rfl,hjx,hst6⟩)
     ·have HS6:=Lib.hid (Qjy (HS.out.grow HX3.out) HX.out HW.out hj6 hst6 hsub6)
      clear hj6 hst6 hsub6 hy
      gi_wp2_with fail
      go_roundw
      case rel=>exact ⟨j+1,_,C6,w6,by go_num,by omega,HS6⟩
      case measure=>simp [intOf];omega
     ·gi_wp2_with fail
      refine bodyPost_ret (v:=.tuple #[]) (by simp [results,Tryz.results69,go_sem]) rfl ?_
      exact ⟨⟨_,rfl⟩,.inr ⟨_,w6,trivial,hjx,Ext.refl _⟩⟩
   ·have HE:=Lib.hid (show QlB s xs pre by show pre=Qcm s xs;rw [HS.out.pre_,Qhn (by omega),List.append_nil])
    have g5:¬(j:Int)<((xs.length - f:Nat):Int):=by omega
    gi_wp2_with fail
    go_end0
    exact ⟨⟨_,rfl⟩,.inl ⟨pre,HE.out,C',Wj,HS.out.inv,HS.out.ext⟩⟩
end Go.Proofs.YtohajcflklejjaaGreat
namespace Go.Proofs.YtohajcflklejjaaGreat
open Go.RowKit Go.Shelf Go.Maps
set_option linter.unusedVariables false
set_option linter.unusedSimpArgs false
attribute [local go_sem] Oper.semAt_some
theorem Tryz.QkA:(Tryz.prog.info? 56).map (fun i=>(i.zero,i.size,i.bytes))=some (some (.agg #[.int .u64 0,.string ByteArray.empty,.bool false,.int .i64 0,.bool false,.int .i64 0,.string ByteArray.empty,.slice none 0 0,.slice none 0 0,.bool false,.int .i64 0,.bool false,.int .i64 0,.string ByteArray.empty,.slice none 0 0,.slice none 0 0]),16,216):=by kernel_rfl
structure EV where
 id:Nat
 x:CE
abbrev EV.cells (x:EV):Array Value:=#[.int .u64 (x.id:Int),.string x.x.c.k,.bool x.x.c.had,.int .i64 x.x.c.was.kind,.bool x.x.c.was.b,.int .i64 x.x.c.was.i,.string x.x.c.was.t,.slice x.x.slw.a x.x.c.was.l.length x.x.slw.c,.slice x.x.sow.a x.x.c.was.ok.length x.x.sow.c,
 .bool x.x.c.has,.int .i64 x.x.c.is_.kind,.bool x.x.c.is_.b,.int .i64 x.x.c.is_.i,.string x.x.c.is_.t,.slice x.x.sli.a x.x.c.is_.l.length x.x.sli.c,.slice x.x.soi.a x.x.c.is_.ok.length x.x.soi.c]
abbrev EV.p (x:EV):Nat × Chg:=(x.id,x.x.c)
def QbU (xs:List EV):List Value:=xs.flatMap fun x=>x.cells.toList
theorem Qkv (xs:List EV):(QbU xs).length=xs.length*16:=by
 induction xs with
 | nil=>rfl
 | cons x xs ih=>simp only [QbU,List.flatMap_cons,List.length_append,List.length_cons] at *;rw [ih];simp;omega
theorem Qi4 (xs:List EV) (x:EV):QbU (xs++[x])=QbU xs++x.cells.toList:=by simp [QbU]
theorem Qkn (x:EV):∀ u∈x.cells.toList,u.oneCell'=true:=by
 intro u hu
 simp only [List.mem_cons,List.not_mem_nil,or_false] at hu
 rcases hu with rfl | rfl | rfl | rfl | rfl | rfl | rfl | rfl | rfl | rfl | rfl | rfl | rfl | rfl | rfl | rfl <;> rfl
structure EVS (w:World) (F:Nat→Prop) (s:Sl) (xs:List EV):Prop where
 rd:Rd w F 16 s xs.length (QbU xs)
 vals:∀ x∈xs,CR w F x.x
 few:xs.length*216≤140737488355328
theorem EVS.agree {w w':World} {F:Nat→Prop} {s:Sl} {xs:List EV} (h:EVS w F s xs) (ha:Agree F w w'):EVS w' F s xs:=⟨h.rd.agree ha,fun x hx=>(h.vals x hx).agree ha,h.few⟩
theorem EVS.mono {w:World} {F G:Nat→Prop} {s:Sl} {xs:List EV} (h:EVS w F s xs) (hG:∀ b,F b→G b):EVS w G s xs:=⟨h.rd.mono hG,fun x hx=>(h.vals x hx).mono hG,h.few⟩
theorem EVS.nil (w:World) (F:Nat→Prop):EVS w F Sl.none []:=⟨Rd.nil w F 16,fun x hx=>(by cases hx),by simp⟩
def evL (L:Qbx) (l:List Chg):List (Nat × Chg):=L.flatMap fun p=>(l.filter fun c=>Qca c.k p.2.lo p.2.hi p.2.op).map fun c=>(p.1,c)
theorem QmU (L:Qbx):evL L []=[]:=by simp [evL]
theorem QhM (l:List Chg):∀ L:Qbx,(evL L l).length≤L.length*l.length
 | []=>by simp [evL]
 | p :: L=>by
   have:=QhM l L
   have h2:=List.length_filter_le (fun c:Chg=>Qca c.k p.2.lo p.2.hi p.2.op) l
   simp only [evL,List.flatMap_cons,List.length_append,List.length_map,List.length_cons] at *
   rw [Nat.succ_mul];omega
theorem QlM {L:Qbx} {l:List Chg} {k:Nat} {p:Nat × Iv} (h:L[k]? = some p):evL (L.take (k+1)) l=evL (L.take k) l++(l.filter fun c=>Qca c.k p.2.lo p.2.hi p.2.op).map fun c=>(p.1,c):=by
 rw [List.take_add_one,h];simp [evL]
theorem Qld (s:Iv) (xs:List CE):(Qcm s xs).map CE.c=(xs.map CE.c).filter fun c=>Qca c.k s.lo s.hi s.op:=by
 rw [Qcm,List.filter_map];rfl
structure Qc5 (lo B:Nat) (w:World) (N:Nat→Prop) (evs:List EV) (C:Nat→Prop) (W:World):Prop where
 ex:∃ s:Sl,(C=fun b=>b=B∨s.row=some b)∧Blk W B 48 #[.slice s.a evs.length s.c]∧W.ownsRow lo 56 16 (.slice s.a evs.length s.c) evs.length (QbU evs)
 vals:∀ x∈evs,CR W (fun b=>lo≤b∧b<W.heap.size∧¬C b∧¬N b) x.x
 st:St (fun b=>b=B) w W
 sz:lo≤W.heap.size
 dis:∀ b,C b→¬N b
 nlo:∀ b,N b→lo≤b
 nlt:∀ b,N b→b<W.heap.size
theorem Qc5.start {lo B:Nat} {w:World} (hb:Blk w B 48 #[.slice none 0 0]) (hz:lo≤w.heap.size):Qc5 lo B w (fun _=>False) [] (fun b=>b=B) w:=
 ⟨⟨Sl.none,by funext b;simp [Sl.row],hb,World.ownsRow_nil _ _ _ _⟩,fun x hx=>(by cases hx),St.refl _ _,hz,fun _ _ h=>h,fun _ h=>h.elim,fun _ h=>h.elim⟩
theorem Qc5.turn {lo B:Nat} {w W W':World} {N M C:Nat→Prop} {evs:List EV} (h:Qc5 lo B w N evs C W) (k:St M W W') (hM:∀ b,M b→N b) (hw:w.heap.size≤lo):Qc5 lo B w N evs C W':=by
 obtain ⟨⟨s,rfl,h2,h3⟩,hv,h5,h6,h7,h8,h9⟩:=h
 exact ⟨⟨s,rfl,k.blk h2 fun hm=>h7 B (.inl rfl) (hM _ hm),Qac h3 k.agree fun b hb=>⟨(Qab h3 hb).2,fun hm=>h7 b (.inr hb) (hM _ hm)⟩⟩,fun x hx=>((hv x hx).agree (k.agree.mono fun b hb=>⟨hb.2.1,fun hm=>hb.2.2.2 (hM _ hm)⟩)).mono fun b hb=>⟨hb.1,Nat.lt_of_lt_of_le hb.2.1 k.size,hb.2.2⟩,
  h5.then k (fun i hi e=>by have:=h8 i (hM _ e);omega),Nat.le_trans h6 k.size,h7,h8,fun b hb=>Nat.lt_of_lt_of_le (h9 b hb) k.size⟩
theorem Qc5.more {lo B:Nat} {w W W':World} {N N' C:Nat→Prop} {evs:List EV} (h:Qc5 lo B w N evs C W) (k:Ext W W') (hN:∀ b,N' b→N b∨(W.heap.size≤b∧b<W'.heap.size)) (hC:∀ b,C b→b<W.heap.size):Qc5 lo B w N' evs C W':=by
 obtain ⟨⟨s,rfl,h2,h3⟩,hv,h5,h6,h7,h8,h9⟩:=h
 refine ⟨⟨s,rfl,h2.ext k,Qac h3 (k.agree fun b (hb:b<W.heap.size)=>hb) fun b hb=>(Qab h3 hb).2⟩,fun x hx=>((hv x hx).agree (k.agree fun b hb=>hb.2.1)).mono fun b hb=>⟨hb.1,Nat.lt_of_lt_of_le hb.2.1 k.size,hb.2.2.1,fun hn=>?_⟩,h5.trans (k.st _),Nat.le_trans h6 k.size,fun b hb hn=>?_,fun b hn=>?_,fun b hn=>?_⟩
 ·rcases hN b hn with e | e
  ·exact hb.2.2.2 e
  ·have:=hb.2.1;omega
 ·rcases hN b hn with e | e
  ·exact h7 b hb e
  ·have:=hC b hb;omega
 ·rcases hN b hn with e | e
  ·exact h8 b e
  ·omega
 ·rcases hN b hn with e | e
  ·exact Nat.lt_of_lt_of_le (h9 b e) k.size
  ·exact e.2
theorem Qc5.lt {lo B:Nat} {w W:World} {N C:Nat→Prop} {evs:List EV} (h:Qc5 lo B w N evs C W):∀ b,C b→b<W.heap.size:=by
 obtain ⟨⟨s,rfl,h2,h3⟩,-⟩:=h
 rintro b (rfl | hb)
 ·exact h2.lt
 ·exact (Qab h3 hb).2
theorem QeS {lo B:Nat} {w W0 W3 W4 w5:World} {s s3:Sl} {evs:List EV} {x:EV} {N M:Nat→Prop} (hlo:w.heap.size≤lo) (hB:B<w.heap.size) (h0:Qc5 lo B w N evs (fun b=>b=B∨s.row=some b) W0) (hblk:Blk W0 B 48 #[.slice s.a evs.length s.c]) (ho:W0.ownsRow lo 56 16 (.slice s.a evs.length s.c) evs.length (QbU evs))
  (h03:St M W0 W3) (hM:∀ b,M b→N b)
  (hx:CR W3 (fun b=>lo≤b∧b<W3.heap.size∧¬(b=B∨s.row=some b)∧¬N b) x.x)
  (h34:Ext W3 W4) (hown:w5.ownsRow lo 56 16 (.slice s3.a (evs.length+1) s3.c) (evs.length+1) (QbU evs++x.cells.toList)) (hwr:Wr W4 w5 s.row) (hs3:s3.a=s.a∨s3.a=some ⟨W4.heap.size,0,none⟩∧Wr W4 w5 none) :
  Qc5 lo B w N (evs++[x]) (fun b=>b=B∨s3.row=some b) (w5.setCell ⟨B,0,none⟩ (.slice s3.a (evs.length+1) s3.c))∧St (fun b=>b=B∨s.row=some b) W3 (w5.setCell ⟨B,0,none⟩ (.slice s3.a (evs.length+1) s3.c))∧
   (∀ b,(b=B∨s3.row=some b)→(b=B∨s.row=some b)∨W3.heap.size≤b)∧(∀ b,(b=B∨s3.row=some b)→b<(w5.setCell ⟨B,0,none⟩ (.slice s3.a (evs.length+1) s3.c)).heap.size):=by
 have hrow0:∀ b,s.row=some b→lo≤b∧b<W0.heap.size:=fun b hb=>Qab ho hb
 have hs03:=h03.size
 have hs34:=h34.size
 have hs45:=hwr.grown.size
 have hsz:=h0.sz
 have hst:=h0.st.size
 have hNl:∀ b,N b→b<W3.heap.size:=fun b hb=>Nat.lt_of_lt_of_le (h0.nlt b hb) hs03
 have hs2:∀ b,s3.row=some b→s.row=some b∨W4.heap.size≤b:=by
  intro b hb
  rcases hs3 with h | ⟨h,-⟩
  ·exact .inl (by rw [←hb];simp [Sl.row,h])
  ·right;rw [Sl.row,h] at hb;simp at hb;omega
 have hset:St (fun b=>b=B) w5 (w5.setCell ⟨B,0,none⟩ (.slice s3.a (evs.length+1) s3.c)):=(St.refl (fun b=>b=B) w5).set (p:=⟨B,0,none⟩) (.inr rfl) _
 have hst45:St (fun b=>s.row=some b) W4 w5:=hwr.st fun i hi=>hi
 have hst36:St (fun b=>b=B∨s.row=some b) W3 (w5.setCell ⟨B,0,none⟩ (.slice s3.a (evs.length+1) s3.c)):=((h34.st _).trans (hst45.mono fun i _ hi=>.inr hi)).trans (hset.mono fun i _ hi=>.inl hi)
 have hB5:Blk w5 B 48 #[.slice s.a evs.length s.c]:=hst45.blk ((h03.blk hblk (fun hm=>h0.dis B (.inl rfl) (hM _ hm))).ext h34) (fun e=>by have:=(hrow0 B e).1;omega)
 have hrow5:∀ b,s3.row=some b→b<w5.heap.size:=fun b hb=>(Qab hown hb).2
 refine ⟨⟨⟨s3,rfl,by rw [List.length_append,List.length_singleton];exact hB5.QaQ 0 _,?_⟩,fun y hy=>?_,?_,?_,fun b hb hn=>?_,h0.nlo,fun b hb=>?_⟩,hst36,fun b hb=>?_,fun b hb=>?_⟩
 ·rw [List.length_append,List.length_singleton,Qi4]
  exact Qac hown hset.agree fun b hb=>⟨hrow5 b hb,fun e=>by
   rcases hs2 b hb with h | h
   ·have:=(hrow0 b h).1;omega
   ·omega⟩
 ·have hup:∀ (F:Nat→Prop) (y:CE),CR W3 F y→(∀ b,F b→lo≤b∧b<W3.heap.size∧¬(b=B∨s.row=some b)∧¬N b)→CR (w5.setCell ⟨B,0,none⟩ (.slice s3.a (evs.length+1) s3.c)) (fun b=>lo≤b∧b<(w5.setCell ⟨B,0,none⟩ (.slice s3.a (evs.length+1) s3.c)).heap.size∧¬(b=B∨s3.row=some b)∧¬N b) y:=fun F y hy hF=>
   (hy.agree (hst36.agree.mono fun b hb=>⟨(hF b hb).2.1,(hF b hb).2.2.1⟩)).mono fun b hb=>⟨(hF b hb).1,Nat.lt_of_lt_of_le (hF b hb).2.1 hst36.size,fun e=>by
     rcases e with e | e
     ·exact (hF b hb).2.2.1 (.inl e)
     ·rcases hs2 b e with e | e
      ·exact (hF b hb).2.2.1 (.inr e)
      ·have:=(hF b hb).2.1;omega,(hF b hb).2.2.2⟩
  rcases List.mem_append.1 hy with hy | hy
  ·exact hup (fun b=>lo≤b∧b<W0.heap.size∧¬(b=B∨s.row=some b)∧¬N b) y.x ((h0.vals y hy).agree (h03.agree.mono fun b hb=>⟨hb.2.1,fun e=>hb.2.2.2 (hM _ e)⟩)) fun b hb=>⟨hb.1,by have:=hb.2.1;omega,hb.2.2⟩
  ·obtain rfl:=List.mem_singleton.1 hy
   exact hup _ y.x hx fun b hb=>hb
 ·refine (h0.st.then h03 (fun i hi e=>?_)).then hst36 fun i hi e=>?_
  ·have:=h0.nlo i (hM _ e);omega
  ·rcases e with e | e
   ·exact e
   ·have:=(hrow0 i e).1;omega
 ·rw [World.size_setCell];omega
 ·rcases hb with e | e
  ·exact h0.dis b (.inl e) hn
  ·rcases hs2 b e with e | e
   ·exact h0.dis b (.inr e) hn
   ·have:=hNl b hn;omega
 ·rw [World.size_setCell];have:=hNl b hb;omega
 ·rcases hb with e | e
  ·exact .inl (.inl e)
  ·exact (hs2 b e).imp .inr (fun h=>by omega)
 ·rw [World.size_setCell]
  rcases hb with e | e
  ·have:=(h03.blk hblk (fun hm=>h0.dis B (.inl rfl) (hM _ hm))).lt
   omega
  ·exact hrow5 b e
def Qbh (bs:List Nat) (w w':World):Prop:=∀ b∈bs,∀ o,w'.cell? ⟨b,o,none⟩=w.cell? ⟨b,o,none⟩
theorem Qbh.QnD {bs:List Nat} {w w':World} (k:Ext w w') (hl:∀ b∈bs,b<w.heap.size):Qbh bs w w':=fun b hb o=>k.cell (hl b hb)
theorem Qbh.wr {bs:List Nat} {w w' w'' w3:World} {row:Option Nat} (h:Qbh bs w w') (hwr:Wr w'' w3 row) (hx:Ext w' w'') (hn:∀ b∈bs,row≠some b) (hl:∀ b∈bs,b<w'.heap.size):Qbh bs w w3:=fun b hb o=>((hwr.cell0 (o:=o) hx (hn b hb) (hl b hb)).1).trans (h b hb o)
theorem Qbh.set {bs:List Nat} {w w':World} {L:Nat} {v:Value} (h:Qbh bs w w') (hn:∀ b∈bs,¬b=L):Qbh bs w (w'.setCell ⟨L,0,none⟩ v):=fun b hb o=>(World.cell?_setCell_far _ _ _ _ (fun e=>hn b hb (by first | exact e | exact e.symm))).trans (h b hb o)
def S18 (bx bi bw bh:Nat) (x:CE) (id:Nat) (p q:Option Addr) (w:World):Prop:=w.cell? ⟨bx,0,none⟩=some (.string x.c.k)∧w.cell? ⟨bx,1,none⟩=some (.bool x.c.had)∧w.cell? ⟨bx,2,none⟩=some (.int .i64 x.c.was.kind)∧w.cell? ⟨bx,3,none⟩=some (.bool x.c.was.b)∧w.cell? ⟨bx,4,none⟩=some (.int .i64 x.c.was.i)∧w.cell? ⟨bx,5,none⟩=some (.string x.c.was.t)∧w.cell? ⟨bx,6,none⟩=some (.slice x.slw.a x.c.was.l.length x.slw.c)∧w.cell? ⟨bx,7,none⟩=some (.slice x.sow.a x.c.was.ok.length x.sow.c)∧w.cell? ⟨bx,8,none⟩=some (.bool x.c.has)∧w.cell? ⟨bx,9,none⟩=some (.int .i64 x.c.is_.kind)∧w.cell? ⟨bx,10,none⟩=some (.bool x.c.is_.b)∧w.cell? ⟨bx,11,none⟩=some (.int .i64 x.c.is_.i)∧w.cell? ⟨bx,12,none⟩=some (.string x.c.is_.t)∧w.cell? ⟨bx,13,none⟩=some (.slice x.sli.a x.c.is_.l.length x.sli.c)∧w.cell? ⟨bx,14,none⟩=some (.slice x.soi.a x.c.is_.ok.length x.soi.c)∧w.cell? ⟨bi,0,none⟩=some (.int .u64 (id:Int))∧w.cell? ⟨bw,0,none⟩=some (.pointer p)∧w.cell? ⟨bh,0,none⟩=some (.pointer q)
theorem QnH {bx bi bw bh:Nat} {x:CE} {id:Nat} {p q:Option Addr} {W w':World} (hx:Blk W bx 54 x.cells) (hi:Blk W bi 34 #[.int .u64 (id:Int)]) (hw:Blk W bw 33 #[.pointer p]) (hh:Blk W bh 33 #[.pointer q]) (h:Qbh [bx,bi,bw,bh] W w'):S18 bx bi bw bh x id p q w':=by
 obtain ⟨c0,c1,c2,c3,c4,c5,c6,c7,c8,c9,c10,c11,c12,c13,c14⟩:=hx.c15
 have g:=h bx (by simp)
 exact ⟨(g 0).trans c0,(g 1).trans c1,(g 2).trans c2,(g 3).trans c3,(g 4).trans c4,(g 5).trans c5,(g 6).trans c6,(g 7).trans c7,(g 8).trans c8,(g 9).trans c9,(g 10).trans c10,(g 11).trans c11,(g 12).trans c12,(g 13).trans c13,(g 14).trans c14,(h bi (by simp) 0).trans (hi.cell 0),(h bw (by simp) 0).trans (hw.cell 0),(h bh (by simp) 0).trans (hh.cell 0)⟩
theorem Qif {a b:List Ent} (ha:Sorted a) (hb:Sorted b):(chg a b).Pairwise fun x y=>klt x.k y.k=true:=by
 have hk:(Qnw a b).Pairwise fun x y=>klt x y=true:=List.pairwise_map.2 (Qa8 (Qa8 List.Pairwise.nil))
 have e:∀ k (c:Chg),QmM (QaC a) (QaC b) k=some c→c.k=k:=fun k c h=>by
  unfold QmM at h
  split at h
  ·injection h with h;rw [←h]
  ·cases h
 rw [QeN ha hb,List.pairwise_filterMap]
 exact hk.imp fun h c hc c' hc'=>by rw [e _ _ hc,e _ _ hc'];exact h
theorem Qnp {a b:List Ent} (ha:Sorted a) (hb:Sorted b) {c:Chg} (hc:c∈chg a b):c.had=true∨c.has=true:=by
 rw [QeN ha hb] at hc
 obtain ⟨k,-,hk⟩:=List.mem_filterMap.1 hc
 unfold QmM at hk
 split at hk
 ·rename_i hd
  injection hk with hk
  subst hk
  cases h1:QaC a k with
  | some v=>exact .inl rfl
  | none=>
    cases h2:QaC b k with
    | some v=>exact .inr rfl
    | none=>rw [h1,h2] at hd;simp [QnU,QcA] at hd
 ·cases hk
end Go.Proofs.YtohajcflklejjaaGreat
