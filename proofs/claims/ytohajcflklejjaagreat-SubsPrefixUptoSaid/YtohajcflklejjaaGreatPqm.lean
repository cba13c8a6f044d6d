/- What the theorem needs of the texts SubsPrefix: no condition of its own. -/
import Derived.Laws.IdiomStrings
import Derived.WalkArith
import Derived.Test.YtohajcflklejjaaGreatPqa
import Derived.Test.YtohajcflklejjaaGreatPqb
import Derived.Test.YtohajcflklejjaaGreatPqc
import Derived.Test.YtohajcflklejjaaGreatPqd
import Derived.Test.YtohajcflklejjaaGreatPqe
import Derived.Test.YtohajcflklejjaaGreatPqf
import Derived.Test.YtohajcflklejjaaGreatPqg
import Derived.Test.YtohajcflklejjaaGreatPqh
import Derived.Test.YtohajcflklejjaaGreatPqi
import Derived.Test.YtohajcflklejjaaGreatPqj
import Derived.Test.YtohajcflklejjaaGreatPqk
import Derived.Test.YtohajcflklejjaaGreatPql
namespace Go.Proofs.YtohajcflklejjaaGreat
open Go.RowKit
set_option linter.unusedVariables false
set_option linter.unusedSimpArgs false
theorem QdT:ByteArray.toList ByteArray.empty=[]:=by rw [ByteArray.toList_eq];rfl
theorem Qhp (p:ByteArray):Qdb ⟨1,p,ByteArray.empty,false⟩=0:=by simp [Qdb,QdT]
theorem QiJ {p en:ByteArray} {ok:Bool} (h:match Qdu p.toList with | none=>ok=false∧en=ByteArray.empty | some q=>ok=true∧en.toList=q):Qdb ⟨2,p,en,!ok⟩=0:=by
 cases he:Qdu p.toList with
 | none=>rw [he] at h;obtain ⟨rfl,rfl⟩:=h;simp [Qdb,QdT]
 | some q=>rw [he] at h;obtain ⟨rfl,-⟩:=h;simp [Qdb]
theorem QhN {p en:ByteArray} {ok:Bool} (h:match Qdu p.toList with | none=>ok=false∧en=ByteArray.empty | some q=>ok=true∧en.toList=q) (k:ByteArray):inQ ⟨2,p,en,!ok⟩ k=inQ ⟨1,p,ByteArray.empty,false⟩ k:=by
 rw [inQ,inQ,if_pos (QiJ h),if_pos (Qhp p),if_neg (by decide:¬(2:Int)=1),if_pos rfl]
 show Qbw k p en (!ok)=Qhs k p
 have hb:=QdN p.toList k.toList
 rw [Qhs,hb,Qbw]
 cases he:Qdu p.toList with
 | none=>rw [he] at h;obtain ⟨rfl,rfl⟩:=h;rfl
 | some q=>rw [he] at h;obtain ⟨rfl,rfl⟩:=h;rfl
theorem QeU {s:Iv} {q:Qy} (h:Qf0 q s) (hm:Qdb q=0) (es:List Ent):Qaq s.lo s.hi s.op es=es.filter fun e=>inQ q e.1:=by
 unfold Qaq
 refine List.filter_congr fun e _=>?_
 exact h.has hm e.1
theorem Qif {s:Iv} {q:Qy} (h:Qf0 q s) (hm:Qdb q=0) (i:Nat) (es:List Ent):(((es.map Qcp).filter fun c=>Qbw c.k s.lo s.hi s.op).map fun c=>(i,c))=(es.filter fun e=>inQ q e.1).map fun e=>(i,Qcp e):=by
 rw [List.filter_map,List.map_map]
 congr 1
 refine List.filter_congr fun e _=>?_
 exact h.has hm e.1
theorem Qmo {s1 s2:Iv} {p en:ByteArray} {ok:Bool} (h:match Qdu p.toList with | none=>ok=false∧en=ByteArray.empty | some q=>ok=true∧en.toList=q) (h1:Qf0 ⟨1,p,ByteArray.empty,false⟩ s1) (h2:Qf0 ⟨2,p,en,!ok⟩ s2) (es:List Ent) :
  evL [(1,s1),(2,s2)] (chg [] es)=(Qaq s1.lo s1.hi s1.op es).map (fun e=>(1,Qcp e))++(Qaq s1.lo s1.hi s1.op es).map (fun e=>(2,Qcp e)):=by
 simp only [evL,List.flatMap_cons,List.flatMap_nil,List.append_nil,QdF]
 rw [Qif h1 (Qhp p),Qif h2 (QiJ h),QeU h1 (Qhp p)]
 congr 2
 exact List.filter_congr fun e _=>QhN h e.1
theorem QkV {s1 s2:Iv} {p en:ByteArray} {ok:Bool} (h:match Qdu p.toList with | none=>ok=false∧en=ByteArray.empty | some q=>ok=true∧en.toList=q) (h1:Qf0 ⟨1,p,ByteArray.empty,false⟩ s1) (h2:Qf0 ⟨2,p,en,!ok⟩ s2) (es:List Ent) :
  Qaq s2.lo s2.hi s2.op es=Qaq s1.lo s1.hi s1.op es:=by
 rw [QeU h1 (Qhp p),QeU h2 (QiJ h)]
 exact List.filter_congr fun e _=>QhN h e.1
set_option maxRecDepth 100000 in
set_option maxHeartbeats 8000000 in
theorem subsprefix_w (p:ByteArray) (a:L27) (key:ByteArray) (w:World) (hp:p.size≤maxLen) (ha:A27 w (Lt w.heap.size) a∧a.es.length*3+a.gs.length≤1048576) (hk:key.size≤maxLen) :
  Calls Tryz.prog 8 #[.string p,a.v,.string key] w fun e w'=>e=.returned (.bool true)∧Below w.heap.size w w':=by
 have HA:=Lib.hid ha.1
 have HAN:=Lib.hid ha.2
 have HP:=Lib.hid hp
 have HK:=Lib.hid hk
 clear ha hp hk
 obtain ⟨akd,aq,aid,ps,es,gp,gs⟩:=a
 dsimp only [L27.v]
 go_enter Tryz.func8,Tryz.ntmps8
 go_wp2_with fail
 generalize hW0:World.alloc w _=w0
 have hx0:Ext w w0:=by rw [←hW0];exact (Ext.refl w).alloc _ _
 have hba:Blk w0 w.heap.size 71 #[.int .i64 akd,.int .i64 aq.kind,.string aq.lo,.string aq.hi,.bool aq.op,.int .u64 aid,.slice ps.a es.length ps.c,.slice gp.a gs.length gp.c]:=by rw [←hW0];exact Blk.new w _ _
 clear hW0
 refine (Qe1 w0 p HP.out).mono ?_
 rintro e w1 ⟨hbw,en,ok,rfl,hen⟩
 have hba1:Blk w1 w.heap.size 71 _:=(hbw.block _ hba.lt).trans hba
 have henl:en.size≤maxLen:=by
  cases he:Qdu p.toList with
  | none=>rw [he] at hen;rw [hen.2];exact Nat.zero_le _
  | some x=>
    rw [he] at hen
    have h3:=Qf8 he
    rw [←hen.2,Qay,Qay] at h3
    exact Nat.le_trans h3 HP.out
 have hb1:Below w.heap.size w w1:=Sb.step hx0.below (Sb.new (H:=fun _=>False) hbw) fun b hb=>hb.elim
 have HB1:=Lib.hid hb1
 have HBA1:=Lib.hid hba1
 have HEN:=Lib.hid hen
 have HENL:=Lib.hid henl
 clear hx0 hba hbw hba1 hb1 hen henl
 go_wp2_with fail
 generalize hW2:World.alloc (World.alloc (World.alloc w1 _) _) _=w2
 obtain ⟨hx2,hz2,hbq,hbs,hbr⟩:=QaJ w1 _ _ _ _ _ _ w2 hW2
 clear hW2
 obtain ⟨R,hR⟩:∃ R,R=w1.heap.size+1+1:=⟨_,rfl⟩
 rw [←hR] at hbr ⊢
 have hreg0:QaU w2 R none 0 none []:=QaU.new hbr
 have hz01:=HB1.out.size
 have hl1:=HBA1.out.lt
 have HBQ:=Lib.hid hbq
 have HBS:=Lib.hid hbs
 have HX2:=Lib.hid hx2
 have hR1:w1.heap.size+2≤R:=by omega
 have hR2:R≤w1.heap.size+2:=by omega
 clear hbq hbs hx2 hbr hR
 refine (QdH hreg0 (by omega) ⟨1,p,ByteArray.empty,false⟩ ⟨HP.out,Nat.zero_le _⟩ (Qhp p)).mono ?_
 rintro e w3 ⟨s1,mb1,rfl,hiv1,hreg1,hmb1,hsb1⟩
 have hne0:∀ b,b<R→¬Qdg R none b:=fun b hb h=>by
  rcases h with rfl | h
  ·omega
  ·cases h
 have hlo1:∀ b,Qdg R mb1 b→R≤b:=fun b hb=>by
  rcases hb with rfl | hb
  ·exact Nat.le_refl _
  ·rcases hmb1 with h | ⟨c,h,hc⟩
   ·rw [h] at hb;cases hb
   ·rw [h] at hb;injection hb with hb;omega
 have hbs3:Blk w3 (w1.heap.size+1) 24 _:=hsb1.blk HBS.out (hne0 _ (by omega))
 have s0:w3.cell? ⟨w1.heap.size+1,0,none⟩=some (.int .i64 2):=hbs3.cell 0
 have s1':w3.cell? ⟨w1.heap.size+1,1,none⟩=some (.string p):=hbs3.cell 1
 have s2':w3.cell? ⟨w1.heap.size+1,2,none⟩=some (.string en):=hbs3.cell 2
 have s3:w3.cell? ⟨w1.heap.size+1,3,none⟩=some (.bool (!ok)):=hbs3.cell 3
 have ls:=hbs3.lt
 have HIV1:=Lib.hid hiv1
 have HREG1:=Lib.hid hreg1
 have HLO1:=Lib.hid hlo1
 have HBQ3:=Lib.hid (hsb1.blk HBQ.out (hne0 _ (by omega)))
 have HBS3:=Lib.hid hbs3
 have HBA3:=Lib.hid (hsb1.blk (HBA1.out.ext HX2.out) (hne0 _ (by omega)))
 have HB3:=Lib.hid (Sb.step (Sb.step HB1.out (HX2.out.sb fun _=>False) fun b hb=>hb.elim) hsb1 fun b hb=>by
  rcases hb with rfl | hb
  ·omega
  ·cases hb)
 clear hreg0 hiv1 hreg1 hmb1 hsb1 hlo1 hbs3 hne0
 go_wp2_with fail
 refine (QdH HREG1.out (by omega) ⟨2,p,en,!ok⟩ ⟨HP.out,HENL.out⟩ (QiJ HEN.out)).mono ?_
 rintro e w4 ⟨s2,mb2,rfl,hiv2,hreg2,hmb2,hsb2⟩
 have hz3:=HB3.out.size
 have hR3:R<w3.heap.size:=HREG1.out.blk.lt
 have hlo2:∀ b,Qdg R mb2 b→R≤b:=fun b hb=>by
  rcases hb with rfl | hb
  ·exact Nat.le_refl _
  ·rcases hmb2 with h | ⟨c,h,hc⟩
   ·exact HLO1.out b (.inr (by rw [←h];exact hb))
   ·rw [h] at hb;injection hb with hb;omega
 have hne1:∀ b,b<R→¬Qdg R mb1 b:=fun b hb h=>by have:=HLO1.out b h;omega
 have hba4:Blk w4 w.heap.size 71 _:=hsb2.blk HBA3.out (hne1 _ (by omega))
 have a0:w4.cell? ⟨w.heap.size,0,none⟩=some (.int .i64 akd):=hba4.cell 0
 have a1:w4.cell? ⟨w.heap.size,1,none⟩=some (.int .i64 aq.kind):=hba4.cell 1
 have a2:w4.cell? ⟨w.heap.size,2,none⟩=some (.string aq.lo):=hba4.cell 2
 have a3:w4.cell? ⟨w.heap.size,3,none⟩=some (.string aq.hi):=hba4.cell 3
 have a4:w4.cell? ⟨w.heap.size,4,none⟩=some (.bool aq.op):=hba4.cell 4
 have a5:w4.cell? ⟨w.heap.size,5,none⟩=some (.int .u64 aid):=hba4.cell 5
 have a6:w4.cell? ⟨w.heap.size,6,none⟩=some (.slice ps.a es.length ps.c):=hba4.cell 6
 have a7:w4.cell? ⟨w.heap.size,7,none⟩=some (.slice gp.a gs.length gp.c):=hba4.cell 7
 have la:=hba4.lt
 have HIV2:=Lib.hid hiv2
 have HREG2:=Lib.hid hreg2
 have HLO2:=Lib.hid hlo2
 have HBQ4:=Lib.hid (hsb2.blk HBQ3.out (hne1 _ (by omega)))
 have HBS4:=Lib.hid (hsb2.blk HBS3.out (hne1 _ (by omega)))
 have HB4:=Lib.hid (Sb.step HB3.out hsb2 fun b hb=>by have:=HLO1.out b hb;omega)
 clear hiv2 hreg2 hmb2 hsb2 hlo2 hne1 hba4 s0 s1' s2' s3
 go_wp2_with fail
 generalize hW5:World.alloc w4 _=w5
 have hbm:Blk w5 w4.heap.size 76 #[.slice none 0 0]:=by rw [←hW5];exact Blk.new w4 _ _
 have hx45:Ext w4 w5:=by rw [←hW5];exact (Ext.refl w4).alloc _ _
 clear hW5 a0 a1 a2 a3 a4 a5 a6 a7
 obtain ⟨H0,hH0⟩:∃ H0:Nat→Prop,H0=fun b=>b=w4.heap.size∨Qdg R mb2 b:=⟨_,rfl⟩
 have hz4:=HB4.out.size
 have hz45:=hx45.size
 have hH0l:∀ b,H0 b→b<w5.heap.size:=fun b hb=>by
  rw [hH0] at hb
  rcases hb with rfl | hb
  ·exact hbm.lt
  ·have:=QbP HREG2.out b hb;omega
 have hA5:A27 w5 (NH H0 w5) ⟨akd,aq,aid,ps,es,gp,gs⟩:=(HA.out.agree fun b hb=>(hx45.heap (Nat.lt_of_lt_of_le hb hz4)).trans (HB4.out.block b hb)).mono fun b hb=>⟨by have:b<w.heap.size:=hb;omega,fun h=>by
  have hb':b<w.heap.size:=hb
  rw [hH0] at h
  rcases h with rfl | h
  ·omega
  ·have:=HLO2.out b h;omega⟩
 have han:es.length*3+gs.length≤1048576:=HAN.out
 have htu:=Qik (TI.new hbm (by rw [hH0];exact .inl rfl)) hH0l hA5 (show 0+es.length≤900000 by omega) (show gs.length≤100000000 by omega) rfl
 have hlE:=QgT [] ⟨akd,aq,aid,ps,es,gp,gs⟩
 obtain ⟨E,hE⟩:∃ E,Qhx [] ⟨akd,aq,aid,ps,es,gp,gs⟩=E:=⟨_,rfl⟩
 rw [hE] at htu hlE
 have hEl:E.length≤349525:=by simp only [List.length_nil] at hlE;omega
 have HTU:=Lib.hid htu
 have HX45:=Lib.hid hx45
 have HREGH:=Lib.hid (show ∀ b,Qdg R mb2 b→H0 b from fun b hb=>by rw [hH0];exact .inr hb)
 clear htu hA5 hH0l hE hlE han hbm hx45 hH0
 refine HTU.out.mono ?_
 rintro e w6 ⟨T,pt,H,M,rfl,hpt,hTI,hH,hHH,hx6⟩
 have HPT:=Lib.hid hpt
 have HTI:=Lib.hid hTI
 have HRH:=Lib.hid (show ∀ b,Qdg R mb2 b→H b from fun b hb=>hHH b (HREGH.out b hb))
 have HX6:=Lib.hid (HX45.out.trans hx6)
 clear hpt hTI hH hHH hx6 HTU
 go_wp2_with fail
 generalize hW7:World.alloc w6 _=w7
 have hx67:Ext w6 w7:=by rw [←hW7];exact (Ext.refl _).alloc _ _
 clear hW7
 have hz6:=HX6.out.size
 have hz67:=hx67.size
 have hreg7:=HREG2.out.ext (HX6.out.trans hx67)
 have hT7:IsT w7 (NH H w6) T:=HTI.out.tree.agree (hx67.agree fun b hb=>hb.1)
 have hFB:∀ b,NH H w6 b→¬Qdg R mb2 b:=fun b hb h=>hb.2 (HRH.out b h)
 have haf:=QbH hreg7 (T:=none) (F:=fun _=>False) (U:=T) trivial hT7 (fun b hb=>hb.elim) (fun b hb=>⟨by have:=hb.1;omega,hFB b hb⟩) trivial HTI.out.ok (by simp [Qaj]) (by rw [HTI.out.ents];omega) (by simp) (QfF (by simp))
 rw [Qau,HPT.out,HTI.out.ents] at haf
 obtain ⟨X,hX⟩:∃ X,Qaq s1.lo s1.hi s1.op E=X:=⟨_,rfl⟩
 have hEv:=Qmo HEN.out HIV1.out HIV2.out E
 have hRg:=QkV HEN.out HIV1.out HIV2.out E
 rw [hX] at hEv hRg
 have hXl:X.length≤349525:=by rw [←hX];exact Nat.le_trans (List.length_filter_le ..) hEl
 have HAF:=Lib.hid haf
 have HX67:=Lib.hid hx67
 have HT7:=Lib.hid hT7
 have HFB:=Lib.hid hFB
 have HEV:=Lib.hid hEv
 have HRG:=Lib.hid hRg
 have HXE:=Lib.hid hX
 clear haf hx67 hT7 hFB hreg7 hEv hRg hX
 refine HAF.out.mono ?_
 rintro e w8 ⟨sl,evs,rfl,hmap,hreg8,hst8,hevs⟩
 rw [show Qaj none=[] from rfl] at hmap
 have hmap':=hmap.trans HEV.out
 have hevl:evs.length=2*X.length:=by
  have:=congrArg List.length hmap'
  simp only [List.length_map,List.length_append] at this
  omega
 have hz78:=hst8.size
 have hT8:IsT w8 (NH H w6) T:=HT7.out.agree fun b hb=>hst8.block b (by have:=hb.1;omega) fun e=>HFB.out b hb (.inl e)
 have hre:=QdV hreg8 hT8 (fun b hb=>by have:=hb.1;omega) HTI.out.ok (by rw [HTI.out.ents];omega) (i:=1) (iv:=s1) rfl (by decide)
 rw [HTI.out.ents,HXE.out] at hre
 have HRE:=Lib.hid hre
 have HREG8:=Lib.hid hreg8
 have HST8:=Lib.hid hst8
 have HT8:=Lib.hid hT8
 have HMP:=Lib.hid hmap'
 have HEVL:=Lib.hid hevl
 have HEVS:=Lib.hid hevs
 clear hre hreg8 hst8 hT8 hmap hmap' hevs hevl HAF
 go_wp2_with fail
 refine HRE.out.mono ?_
 rintro e w9 ⟨sx,xs,rfl,hxs,hx9,hexs⟩
 have hz9:=hx9.size
 have hre:=QdV (HREG8.out.ext hx9) (HT8.out.agree (hx9.agree fun b hb=>by have:=hb.1;omega)) (fun b hb=>by have:=hb.1;omega) HTI.out.ok (by rw [HTI.out.ents];omega) (i:=2) (iv:=s2) rfl (by decide)
 rw [HTI.out.ents,HRG.out] at hre
 have HRE2:=Lib.hid hre
 have HX9:=Lib.hid hx9
 have HXS:=Lib.hid hxs
 have HEXS:=Lib.hid hexs
 have hxl:xs.length=X.length:=by have:=congrArg List.length hxs;simpa using this
 have HXL:=Lib.hid hxl
 clear hre hx9 hxs hexs HRE hxl
 go_wp2_with fail
 refine HRE2.out.mono ?_
 rintro e w10 ⟨sy,ys,rfl,hys,hx10,heys⟩
 have hyl:ys.length=X.length:=by have:=congrArg List.length hys;simpa using this
 have hz10:=hx10.size
 have hsm:=Qh0 (w:=w10) ((HEXS.out.agree (hx10.agree fun b hb=>hb.2)).mono (G:=Lt w10.heap.size) fun b hb=>by have:=hb.2;show b<_;omega) (heys.mono (G:=Lt w10.heap.size) fun b hb=>hb.2)
 rw [HXS.out,hys,Qe8] at hsm
 have HSM:=Lib.hid hsm
 have HX10:=Lib.hid hx10
 have hel:=HEVL.out
 have hxl:=HXL.out
 rw [hel,hxl]
 rw [hxl] at HSM
 rw [hyl] at HSM ⊢
 clear hys heys hsm hx10 HRE2 hyl hel hxl
 obtain ⟨n,hn⟩:∃ n,X.length=n:=⟨_,rfl⟩
 rw [hn] at HSM hXl ⊢
 have gn:(((2*n:Nat):Int) != 2*(n:Int))=false:=by simp
 go_wp2_with fail
 refine HSM.out.mono ?_
 rintro e w11 ⟨rfl,hx11⟩
 have hz11:=hx11.size
 have HX11:=Lib.hid hx11
 have HN:=Lib.hid hn
 clear hx11 HSM gn hn
 go_wp2_with fail
 go_loopw [23] (fun i wr=>∃ j:Nat,i=.int .i64 j∧j≤n∧Ext w11 wr) (fun i _=>n - (intOf i).toNat)
 case atStart=>exact ⟨0,rfl,Nat.zero_le _,Ext.refl _⟩
 case round=>
  obtain ⟨j,rfl,hj,hxr⟩:=hrel
  have hzr:=hxr.size
  by_cases hlt:j<n
  ·have g1:(j:Int)<(n:Int):=by omega
   obtain ⟨x,hx⟩:∃ x,X[j]? = some x:=⟨_,List.getElem?_eq_getElem (by have:=HN.out;omega)⟩
   obtain ⟨y,hy,hye⟩:∃ y,xs[j]? = some y∧y.ent=x:=by
    have h1:(xs.map LE.ent)[j]? = some x:=by rw [HXS.out];exact hx
    rw [List.getElem?_map] at h1
    obtain ⟨y,h2,h3⟩:=Option.map_eq_some_iff.1 h1
    exact ⟨y,h2,h3⟩
   obtain ⟨v1,hv1,hp1⟩:∃ v,evs[j]? = some v∧v.p=(1,Qcp x):=by
    have h1:(evs.map EV.p)[j]? = some (1,Qcp x):=by
     rw [HMP.out,List.getElem?_append_left (by rw [List.length_map,HN.out];exact hlt),List.getElem?_map,hx];rfl
    rw [List.getElem?_map] at h1
    obtain ⟨y,h2,h3⟩:=Option.map_eq_some_iff.1 h1
    exact ⟨y,h2,h3⟩
   obtain ⟨v2,hv2,hp2⟩:∃ v,evs[n+j]? = some v∧v.p=(2,Qcp x):=by
    have h1:(evs.map EV.p)[n+j]? = some (2,Qcp x):=by
     rw [HMP.out,List.getElem?_append_right (by rw [List.length_map,HN.out];omega),List.length_map,HN.out,Nat.add_sub_cancel_left,List.getElem?_map,hx];rfl
    rw [List.getElem?_map] at h1
    obtain ⟨y,h2,h3⟩:=Option.map_eq_some_iff.1 h1
    exact ⟨y,h2,h3⟩
   obtain ⟨i1,c1⟩:=v1
   obtain ⟨i2,c2⟩:=v2
   obtain ⟨rfl,hc1⟩:=Prod.mk.inj hp1
   obtain ⟨rfl,hc2⟩:=Prod.mk.inj hp2
   have hevr:EVS wr (In w7.heap.size w8.heap.size) sl evs:=((HEVS.out.agree (HX9.out.agree fun b hb=>hb.2)).agree (HX10.out.agree fun b hb=>by have:=hb.2;omega)).agree ((HX11.out.trans hxr).agree fun b hb=>by have:=hb.2;omega)
   have hexr:ES wr (In w8.heap.size w9.heap.size) sx xs:=(HEXS.out.agree (HX10.out.agree fun b hb=>hb.2)).agree ((HX11.out.trans hxr).agree fun b hb=>by have:=hb.2;omega)
   obtain ⟨eb,eo,hsa,hFe,he1,he2,-,hcl1⟩:=hevr.at hv1
   obtain ⟨eb',eo',hsa',-,-,-,-,hcl2⟩:=hevr.at hv2
   obtain ⟨xb,xo,hsx,hFx,hx1,hx2,xk,-,-,-⟩:=hexr.at hy
   have hevl:evs.length=2*n:=by rw [HEVL.out,HN.out]
   have hxsl:xs.length=n:=by rw [HXL.out,HN.out]
   rw [hevl] at he1
   rw [hxsl] at hx1
   obtain ⟨sla,slc⟩:=sl
   obtain ⟨sxa,sxc⟩:=sx
   dsimp only at hsa hsa' hsx he1 he2 hx1 hx2
   subst hsa hsx
   obtain ⟨rfl,rfl⟩:eb=eb'∧eo=eo':=by simpa using hsa'
   have ke:y.k=x.1:=by rw [←hye];rfl
   have lx:x.1.size≤maxLen:=by rw [←ke];exact (hexr.vals y (List.mem_of_getElem? hy)).2
   have d0:wr.cell? ⟨eb,eo+j*16,none⟩=some (.int .u64 1):=hcl1 0 _ rfl
   have d1:wr.cell? ⟨eb,eo+j*16+1,none⟩=some (.string x.1):=(hcl1 1 _ rfl).trans (by rw [hc1];rfl)
   have d2:wr.cell? ⟨eb,eo+j*16+1+1,none⟩=some (.bool false):=(hcl1 2 _ rfl).trans (by rw [hc1];rfl)
   have f0:wr.cell? ⟨eb,eo+(n+j)*16,none⟩=some (.int .u64 2):=hcl2 0 _ rfl
   have f1:wr.cell? ⟨eb,eo+(n+j)*16+1,none⟩=some (.string x.1):=(hcl2 1 _ rfl).trans (by rw [hc2];rfl)
   have x0:wr.cell? ⟨xb,xo+j*7,none⟩=some (.string x.1):=by rw [←ke];exact xk
   have leb:eb<wr.heap.size:=by have:=hFe.2;omega
   have lxb:xb<wr.heap.size:=by have:=hFx.2;omega
   have HSS:=Lib.hid (show ∀ W,Ext wr W→W.cell? ⟨eb,eo+j*16,none⟩=some (.int .u64 1)∧W.cell? ⟨eb,eo+j*16+1,none⟩=some (.string x.1)∧W.cell? ⟨eb,eo+j*16+1+1,none⟩=some (.bool false)∧W.cell? ⟨eb,eo+(n+j)*16,none⟩=some (.int .u64 2)∧W.cell? ⟨eb,eo+(n+j)*16+1,none⟩=some (.string x.1)∧W.cell? ⟨xb,xo+j*7,none⟩=some (.string x.1) from
    fun W hW=>⟨(hW.cell leb).trans d0,(hW.cell leb).trans d1,(hW.cell leb).trans d2,(hW.cell leb).trans f0,(hW.cell leb).trans f1,(hW.cell lxb).trans x0⟩)
   have HXR:=Lib.hid hxr
   have g0:(0:Int)≤(j:Int):=by omega
   have g2:(j:Int)<((2*n:Nat):Int):=by omega
   have g4:(0:Int)≤(n:Int)+(j:Int):=by omega
   have g5:(n:Int)+(j:Int)<((2*n:Nat):Int):=by omega
   have g6:((n:Int)+(j:Int)).toNat=n+j:=by omega
   have g7:(n:Int)+(j:Int)<2*(n:Int):=by omega
   have g8:(j:Int)<2*(n:Int):=by omega
   have hb1:(x.1.toList != x.1.toList)=false:=by simp
   have g3:IntKind.i64.wrap ((n:Int)+(j:Int))=(n:Int)+(j:Int):=by rw [IntKind.wrap_i64];omega
   clear hx hy hye hv1 hp1 hv2 hp2 hc1 hc2 hevr hexr hcl1 hcl2 xk hevl hxsl d0 d1 d2 f0 f1 x0 hxr ke hsa'
   go_wp2_with fail
   refine wp_region_held_drew (S:=(fun w'=>Ext wr w')) (by kernel_rfl) (((Ext.refl wr).drew)) (fun hHeld=>?_)
   refine Qac 0 (some 100) ?_ HSS hHeld ?_ ?_
   rotate_left
   focus (intro w hSc;go_simp;first | done | with_reducible rfl)
   refine Qac 1 (some 101) ?_ HSS hHeld ?_ ?_
   rotate_left
   focus (intro w hSc;go_simp;first | done | with_reducible rfl)
   refine Qac 2 (some 102) ?_ HSS hHeld ?_ ?_
   rotate_left
   focus (intro w hSc;go_simp;first | done | with_reducible rfl)
   refine Qac 3 (some 103) ?_ HSS hHeld ?_ ?_
   rotate_left
   focus (intro w hSc;go_simp;first | done | with_reducible rfl)
   refine Qac 4 (some 104) ?_ HSS hHeld ?_ ?_
   rotate_left
   focus (intro w hSc;go_simp;first | done | with_reducible rfl)
   refine Qac 5 (some 105) ?_ HSS hHeld ?_ ?_
   rotate_left
   focus (intro w hSc;go_simp;first | done | with_reducible rfl)
   refine Qac 6 (some 106) ?_ HSS hHeld ?_ ?_
   rotate_left
   focus (intro w hSc;go_simp;first | done | with_reducible rfl)
   refine Qac 7 (some 107) ?_ HSS hHeld ?_ ?_
   rotate_left
   focus (intro w hSc;go_simp;first | done | with_reducible rfl)
   refine Qac 8 (some 108) ?_ HSS hHeld ?_ ?_
   rotate_left
   focus (intro w hSc;go_simp;first | done | with_reducible rfl)
   refine Qac 9 (some 109) ?_ HSS hHeld ?_ ?_
   rotate_left
   focus (intro w hSc;go_simp;first | done | with_reducible rfl)
   refine Qac 10 (some 110) ?_ HSS hHeld ?_ ?_
   rotate_left
   focus (intro w hSc;go_simp;first | done | with_reducible rfl)
   refine Qac 11 (some 111) ?_ HSS hHeld ?_ ?_
   rotate_left
   focus (intro w hSc;go_simp;first | done | with_reducible rfl)
   refine Qac 12 (some 112) ?_ HSS hHeld ?_ ?_
   rotate_left
   focus (intro w hSc;go_simp;first | done | with_reducible rfl)
   refine Qac 13 (some 113) ?_ HSS hHeld ?_ ?_
   rotate_left
   focus (intro w hSc;go_simp;first | done | with_reducible rfl)
   refine Qac 14 (some 114) ?_ HSS hHeld ?_ ?_
   rotate_left
   focus (intro w hSc;go_simp;first | done | with_reducible rfl)
   refine Qac 15 (some 115) ?_ HSS hHeld ?_ ?_
   rotate_left
   focus (intro w hSc;go_simp;first | done | with_reducible rfl)
   refine Qac 16 (some 116) ?_ HSS hHeld ?_ ?_
   rotate_left
   focus (intro w hSc;go_simp;first | done | with_reducible rfl)
   refine Qac 17 (some 117) ?_ HSS hHeld ?_ ?_
   rotate_left
   focus (intro w hSc;go_simp;first | done | with_reducible rfl)
   refine Qac 18 (some 118) ?_ HSS hHeld ?_ ?_
   rotate_left
   focus (intro w hSc;go_simp;first | done | with_reducible rfl)
   refine Qac 19 (some 119) ?_ HSS hHeld ?_ ?_
   rotate_left
   focus (intro w hSc;go_simp;first | done | with_reducible rfl)
   refine Qac 20 (some 120) ?_ HSS hHeld ?_ ?_
   rotate_left
   focus (intro w hSc;go_simp;first | done | with_reducible rfl)
   refine Qac 21 (some 121) ?_ HSS hHeld ?_ ?_
   rotate_left
   focus (intro w hSc;go_simp;first | done | with_reducible rfl)
   refine Qac 22 (some 122) ?_ HSS hHeld ?_ ?_
   rotate_left
   focus (intro w hSc;go_simp;first | done | with_reducible rfl)
   refine Qac 23 (some 123) ?_ HSS hHeld ?_ ?_
   rotate_left
   focus (intro w hSc;go_simp;first | done | with_reducible rfl)
   refine Qac 24 (some 124) ?_ HSS hHeld ?_ ?_
   rotate_left
   focus (intro w hSc;go_simp;first | done | with_reducible rfl)
   refine Qac 25 (some 125) ?_ HSS hHeld ?_ ?_
   rotate_left
   focus (intro w hSc;go_simp;first | done | with_reducible rfl)
   refine Qac 26 (some 126) ?_ HSS hHeld ?_ ?_
   rotate_left
   focus (intro w hSc;go_simp;first | done | with_reducible rfl)
   refine Qac 27 (some 127) ?_ HSS hHeld ?_ ?_
   rotate_left
   focus (intro w hSc;go_simp;first | done | with_reducible rfl)
   refine Qac 28 (some 128) ?_ HSS hHeld ?_ ?_
   rotate_left
   focus (intro w hSc;go_simp;first | done | with_reducible rfl)
   refine Qac 29 (some 129) ?_ HSS hHeld ?_ ?_
   rotate_left
   focus (intro w hSc;go_simp;first | done | with_reducible rfl)
   refine Qac 30 (some 130) ?_ HSS hHeld ?_ ?_
   rotate_left
   focus (intro w hSc;go_simp;first | done | with_reducible rfl)
   refine Qac 31 (some 131) ?_ HSS hHeld ?_ ?_
   rotate_left
   focus (intro w hSc;go_simp;first | done | with_reducible rfl)
   refine Qac 32 (some 132) ?_ HSS hHeld ?_ ?_
   rotate_left
   focus (intro w hSc;go_simp;first | done | with_reducible rfl)
   refine Qac 33 (some 133) ?_ HSS hHeld ?_ ?_
   rotate_left
   focus (intro w hSc;go_simp;first | done | with_reducible rfl)
   refine Qac 34 (some 134) ?_ HSS hHeld ?_ ?_
   rotate_left
   focus (intro w hSc;go_simp;first | done | with_reducible rfl)
   refine Qac 35 (some 135) ?_ HSS hHeld ?_ ?_
   rotate_left
   focus (intro w hSc;go_simp;first | done | with_reducible rfl)
   refine Qac 36 (some 136) ?_ HSS hHeld ?_ ?_
   rotate_left
   focus (intro w hSc;go_simp;first | done | with_reducible rfl)
   refine Qac 37 (some 137) ?_ HSS hHeld ?_ ?_
   rotate_left
   focus (intro w hSc;go_simp;first | done | with_reducible rfl)
   refine Qac 38 (some 138) ?_ HSS hHeld ?_ ?_
   rotate_left
   focus (intro w hSc;go_simp;first | done | with_reducible rfl)
   refine Qac 39 (some 139) ?_ HSS hHeld ?_ ?_
   rotate_left
   focus (intro w hSc;go_simp;first | done | with_reducible rfl)
   refine Qac 40 (some 140) ?_ HSS hHeld ?_ ?_
   rotate_left
   focus (intro w hSc;go_simp;first | done | with_reducible rfl)
   refine Qac 41 (some 141) ?_ HSS hHeld ?_ ?_
   rotate_left
   focus (intro w hSc;go_simp;first | done | with_reducible rfl)
   refine Qac 42 (some 142) ?_ HSS hHeld ?_ ?_
   rotate_left
   focus (intro w hSc;go_simp;first | done | with_reducible rfl)
   refine Qac 43 (some 143) ?_ HSS hHeld ?_ ?_
   rotate_left
   focus (intro w hSc;go_simp;first | done | with_reducible rfl)
   refine Qac 44 (some 144) ?_ HSS hHeld ?_ ?_
   rotate_left
   focus (intro w hSc;go_simp;first | done | with_reducible rfl)
   refine Qac 45 (some 145) ?_ HSS hHeld ?_ ?_
   rotate_left
   focus (intro w hSc;go_simp;first | done | with_reducible rfl)
   refine Qac 46 (some 146) ?_ HSS hHeld ?_ ?_
   rotate_left
   focus (intro w hSc;go_simp;first | done | with_reducible rfl)
   refine Qac 47 (some 147) ?_ HSS hHeld ?_ ?_
   rotate_left
   focus (intro w hSc;go_simp;first | done | with_reducible rfl)
   refine Qac 48 (some 148) ?_ HSS hHeld ?_ ?_
   rotate_left
   focus (intro w hSc;go_simp;first | done | with_reducible rfl)
   refine Qac 49 (some 149) ?_ HSS hHeld ?_ ?_
   rotate_left
   focus (intro w hSc;go_simp;first | done | with_reducible rfl)
   refine Qac 50 (some 150) ?_ HSS hHeld ?_ ?_
   rotate_left
   focus (intro w hSc;go_simp;first | done | with_reducible rfl)
   refine Qac 51 (some 151) ?_ HSS hHeld ?_ ?_
   rotate_left
   focus (intro w hSc;go_simp;first | done | with_reducible rfl)
   refine Qac 52 (some 152) ?_ HSS hHeld ?_ ?_
   rotate_left
   focus (intro w hSc;go_simp;first | done | with_reducible rfl)
   refine Qac 53 (some 153) ?_ HSS hHeld ?_ ?_
   rotate_left
   focus (intro w hSc;go_simp;first | done | with_reducible rfl)
   refine Qac 54 (some 154) ?_ HSS hHeld ?_ ?_
   rotate_left
   focus (intro w hSc;go_simp;first | done | with_reducible rfl)
   refine Qac 55 (some 155) ?_ HSS hHeld ?_ ?_
   rotate_left
   focus (intro w hSc;go_simp;first | done | with_reducible rfl)
   refine Qac 56 (some 156) ?_ HSS hHeld ?_ ?_
   rotate_left
   focus (intro w hSc;go_simp;first | done | with_reducible rfl)
   refine Qac 57 (some 157) ?_ HSS hHeld ?_ ?_
   rotate_left
   focus (intro w hSc;go_simp;first | done | with_reducible rfl)
   refine wpAnyH_done (by kernel_rfl) ?_ _
   have HXR2:=Lib.hid (HXR.out.trans hHeld)
   clear hHeld g2 g3 g4 g5 g6 g7 g8 hb1 g0
   go_wp2_with fail
   go_roundw
   case rel=>exact ⟨j+1,by go_num,hlt,HXR2.out⟩
   case measure=>simp [intOf];omega
  ·obtain rfl:j=n:=by omega
   have hR7:R<w7.heap.size:=by have:=hR3;have:=HB4.out.size;have:=HREG2.out.blk.lt;omega
   have hq:=HBQ4.out.lt
   have hs:=HBS4.out.lt
   have hXw:∀ b,b<w4.heap.size→¬b=R→wr.heap[b]? = w4.heap[b]?:=fun b hb hn=>(hxr.heap (by omega)).trans ((HX11.out.heap (by omega)).trans ((HX10.out.heap (by omega)).trans ((HX9.out.heap (by omega)).trans ((HST8.out.block b (by omega) hn).trans ((HX67.out.heap (by omega)).trans (HX6.out.heap hb))))))
   have hbq:Blk wr w1.heap.size 24 #[.int .i64 1,.string p,.string ByteArray.empty,.bool false]:=(hXw _ hq (by omega)).trans HBQ4.out
   have hbs:Blk wr (w1.heap.size+1) 24 #[.int .i64 2,.string p,.string en,.bool (!ok)]:=(hXw _ hs (by omega)).trans HBS4.out
   have HSS:=Lib.hid (show ∀ W,Sb (fun _=>False) wr W→W.cell? ⟨w1.heap.size,0,none⟩=some (.int .i64 1)∧W.cell? ⟨w1.heap.size,1,none⟩=some (.string p)∧W.cell? ⟨w1.heap.size,2,none⟩=some (.string ByteArray.empty)∧W.cell? ⟨w1.heap.size,3,none⟩=some (.bool false)∧W.cell? ⟨w1.heap.size+1,0,none⟩=some (.int .i64 2)∧W.cell? ⟨w1.heap.size+1,1,none⟩=some (.string p)∧W.cell? ⟨w1.heap.size+1,2,none⟩=some (.string en)∧W.cell? ⟨w1.heap.size+1,3,none⟩=some (.bool (!ok)) from
    fun W hW=>⟨(hW.blk hbq id).cell 0,(hW.blk hbq id).cell 1,(hW.blk hbq id).cell 2,(hW.blk hbq id).cell 3,(hW.blk hbs id).cell 0,(hW.blk hbs id).cell 1,(hW.blk hbs id).cell 2,(hW.blk hbs id).cell 3⟩)
   have hin1:=QiE ⟨1,p,ByteArray.empty,false⟩ key ⟨HP.out,Nat.zero_le _⟩ HK.out
   have hin2:=QiE ⟨2,p,en,!ok⟩ key ⟨HP.out,HENL.out⟩ HK.out
   rw [QhN HEN.out key] at hin2
   obtain ⟨a,ha⟩:∃ a,inQ ⟨1,p,ByteArray.empty,false⟩ key=a:=⟨_,rfl⟩
   rw [ha] at hin1 hin2
   have HI1:=Lib.hid hin1
   have HI2:=Lib.hid hin2
   have haa:(a == a)=true:=by simp
   have hbl:Below w.heap.size w wr:=by
    have k1:Below w.heap.size w w7:=Sb.step HB4.out ((HX6.out.trans HX67.out).sb fun _=>False) fun b hb=>hb.elim
    have k2:Below w.heap.size w w8:=Sb.step k1 HST8.out.sb fun b hb=>by rw [hb];omega
    exact Sb.step k2 ((HX9.out.trans (HX10.out.trans (HX11.out.trans hxr))).sb fun _=>False) fun b hb=>hb.elim
   have HBL:=Lib.hid hbl
   clear hin1 hin2 ha hbl hbq hbs hXw hxr hq hs hR7
   go_wp2_with fail
   refine wp_region_held_drew (S:=(fun w'=>Sb (fun _=>False) wr w')) (by kernel_rfl) (((Sb.refl _ wr).drew)) (fun hHeld=>?_)
   refine Qac 0 (some 158) ?_ HSS hHeld ?_ ?_
   rotate_left
   focus (intro w hSc;go_simp;first | done | with_reducible rfl)
   refine Qac 1 (some 159) ?_ HSS hHeld ?_ ?_
   rotate_left
   focus (intro w hSc;go_simp;first | done | with_reducible rfl)
   refine Qac 3 (some 161) ?_ HSS hHeld ?_ ?_
   rotate_left
   focus (intro w hSc;go_simp;first | done | with_reducible rfl)
   refine Qac 4 (some 162) ?_ HSS hHeld ?_ ?_
   rotate_left
   focus (intro w hSc;go_simp;first | done | with_reducible rfl)
   refine Qaa (i:=2) (by kernel_rfl) rfl (by rfl) (fun K hK=>?_)
   go_simp
   (refine (HI1.out _).mono ?_;rintro e w13 ⟨rfl,hx13⟩)
   refine hK.out _ _ (hHeld.ext hx13) (fun hHeld=>?_)
   clear hK K
   try simp only [Act.put,List.setIfInBounds_toArray,List.set_cons_zero,List.set_cons_succ]
   refine Qaa (i:=5) (by kernel_rfl) rfl (by rfl) (fun K hK=>?_)
   go_simp
   (refine (HI2.out _).mono ?_;rintro e w14 ⟨rfl,hx14⟩)
   refine hK.out _ _ (hHeld.ext hx14) (fun hHeld=>?_)
   clear hK K
   try simp only [Act.put,List.setIfInBounds_toArray,List.set_cons_zero,List.set_cons_succ]
   refine Qac 6 (some 164) ?_ HSS hHeld ?_ ?_
   rotate_left
   focus (intro w hSc;go_simp;first | done | with_reducible rfl)
   refine Qac 7 (some 165) ?_ HSS hHeld ?_ ?_
   rotate_left
   focus (intro w hSc;go_simp;first | done | with_reducible rfl)
   refine Qaa (i:=8) (by kernel_rfl) rfl (by rfl) (fun K hK=>?_)
   go_simp
   (refine (Qhy _).mono ?_;rintro e w15 ⟨rfl,hb15⟩)
   refine hK.out _ _ (hHeld.trans (Sb.new hb15)) (fun hHeld=>?_)
   clear hK K
   try simp only [Act.put,List.setIfInBounds_toArray,List.set_cons_zero,List.set_cons_succ]
   refine Qac 9 (some 167) ?_ HSS hHeld ?_ ?_
   rotate_left
   focus (intro w hSc;go_simp;first | done | with_reducible rfl)
   refine Qac 10 (some 6) ?_ HSS hHeld ?_ ?_
   rotate_left
   focus (intro w hSc;go_simp;first | done | with_reducible rfl)
   refine wpAnyH_done (by kernel_rfl) ?_ _
   have HH:=Lib.hid hHeld
   clear hHeld
   go_wp2_with fail
   go_ret
   exact ⟨rfl,Sb.step HBL.out HH.out fun b hb=>hb.elim⟩
end Go.Proofs.YtohajcflklejjaaGreat
