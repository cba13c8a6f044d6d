/- What the theorem needs of the texts May02, WV, Deep02, Runes01, Bytes01, Quote01, Digits03, Text03, Fits03, RefA12, Ref12, Begin12: no condition of its own. -/
import Derived.Laws.IdiomStrings
import Derived.WalkArith
import Derived.Test.YtechahocffcbpaaGreatDoorPwa
import Derived.Test.YtechahocffcbpaaGreatDoorPwb
import Derived.Test.YtechahocffcbpaaGreatDoorPwc
import Derived.Test.YtechahocffcbpaaGreatDoorPwd
import Derived.Test.YtechahocffcbpaaGreatDoorPwe
import Derived.Test.YtechahocffcbpaaGreatDoorPwf
import Derived.Test.YtechahocffcbpaaGreatDoorPwg
import Derived.Test.YtechahocffcbpaaGreatDoorPwh
import Derived.Test.YtechahocffcbpaaGreatDoorPwi
set_option maxRecDepth 100000
set_option maxHeartbeats 2000000
namespace Go.Proofs.YtechahocffcbpaaGreatDoor
open Go.RowKit Go.Maps Go.Shelf
set_option linter.unusedVariables false
set_option linter.unusedSimpArgs false
theorem valid_none {t:ByteArray} (h:t.size=0):Lib.validD t.data.toList=true:=by
 have hl:t.data.toList.length=t.size:=by rw [Array.length_toList];rfl
 have:t.data.toList=[]:=List.eq_nil_of_length_eq_zero (by omega)
 rw [this];rfl
theorem may_uni (k:Int) (b:Bool) (i:Int) (t:ByteArray) (l:List Val) (ok:List ByteArray) (ov:List Val) (q:Nat) (hov:ov.length=ok.length):mayV (.mk k b i t l ok ov) q =
  if oddS k b i t l.length ok.length=true then 9 else if 64<q then 5 else if Lib.validD t.data.toList=false then 3 else if mayLV l (q+1)≠0 then mayLV l (q+1) else mayM none ok ov (q+1):=by
 unfold mayV
 by_cases ho:oddS k b i t l.length ok.length=true
 ·rw [if_pos ho,if_pos ho]
 rw [if_neg ho,if_neg ho]
 by_cases hq:64<q
 ·rw [if_pos hq,if_pos hq]
 rw [if_neg hq,if_neg hq]
 have ho':oddS k b i t l.length ok.length=false:=by simpa using ho
 unfold oddS at ho'
 have hk:¬(k<1∨6<k):=by
  intro h
  rw [if_pos h] at ho'
  cases ho'
 rw [if_neg hk] at ho'
 simp only [Bool.or_eq_false_iff,Bool.and_eq_false_iff,bne_eq_false_iff_eq] at ho'
 obtain ⟨⟨⟨⟨-,-⟩,h4⟩,h5⟩,h6⟩:=ho'
 by_cases k4:k=4
 ·subst k4
  have hl:l=[]:=List.eq_nil_of_length_eq_zero (h5.resolve_left (by decide))
  have hk:ok=[]:=List.eq_nil_of_length_eq_zero (h6.resolve_left (by decide))
  subst hl hk
  have hv:ov=[]:=List.eq_nil_of_length_eq_zero hov
  subst hv
  rw [if_pos rfl]
  cases Lib.validD t.data.toList <;> simp [mayLV,mayM]
 rw [if_neg k4]
 have ht:Lib.validD t.data.toList=true:=valid_none (h4.resolve_left k4)
 rw [ht,if_neg (show ¬(true=false) by decide)]
 by_cases k5:k=5
 ·subst k5
  have hk:ok=[]:=List.eq_nil_of_length_eq_zero (h6.resolve_left (by decide))
  subst hk
  have hv:ov=[]:=List.eq_nil_of_length_eq_zero hov
  subst hv
  rw [if_pos rfl]
  by_cases hz:mayLV l (q+1)=0
  ·rw [if_neg (by simp [hz]),hz];rfl
  rw [if_pos hz]
 rw [if_neg k5]
 have hl:l=[]:=List.eq_nil_of_length_eq_zero (h5.resolve_left k5)
 subst hl
 rw [show (if mayLV [] (q+1)≠0 then mayLV [] (q+1) else mayM none ok ov (q+1))=mayM none ok ov (q+1) from if_neg (by simp [mayLV])]
 by_cases k6:k=6
 ·rw [if_pos k6]
 rw [if_neg k6]
 have hk:ok=[]:=List.eq_nil_of_length_eq_zero (h6.resolve_left k6)
 subst hk
 have hv:ov=[]:=List.eq_nil_of_length_eq_zero hov
 subst hv
 rfl
def lastM (ok:List ByteArray) (j:Nat):ByteArray:=(prevK ok j).getD ByteArray.empty
theorem mayAt02 (m:Nat):∀ (d:Val),SizeOf.sizeOf d≤m→cntV d≤1100000→∀ (w:World) (sl so:Sl) (q:Nat),q≤65→RV w (Lt w.heap.size) d sl so→
  Calls Tryz.prog 116 #[aggV d sl so,.int .i64 (q:Int)] w fun e w'=>e=.returned (.int .i64 (mayV d q))∧Ext w w':=by
 induction m with
 | zero=>intro d hd;have:=Val.sz_pos d;omega
 | succ m ih=>
 intro d hd hcn w sl so q hq h
 have HI:=Lib.hid ih
 clear ih
 obtain ⟨k,b,i,t,l,ok,ov⟩:=d
 have hodd:=fun W=>bare_any W (.mk k b i t l ok ov) sl so
 show Calls _ _ #[.agg #[.int .i64 k,.bool b,.int .i64 i,.string t,.slice sl.a l.length sl.c,.slice so.a ok.length so.c],.int .i64 q] _ _
 cases h with
 | mk bl fl bo fo cl co hl ho hov el rl ek eo ro bk bi bt nl no=>
 have hsl:∀ (j:Nat) (d:Val),l[j]? = some d→SizeOf.sizeOf d≤m:=fun j d hj=>Nat.le_of_lt_succ (Nat.lt_of_lt_of_le (Val.sz_l hj) hd)
 have hso:∀ (j:Nat) (d:Val),ov[j]? = some d→SizeOf.sizeOf d≤m:=fun j d hj=>Nat.le_of_lt_succ (Nat.lt_of_lt_of_le (Val.sz_o hj) hd)
 unfold cntV at hcn
 have hu:=fun W=>valid01_any W t (by omega)
 have HSL:=Lib.hid hsl
 have HSO:=Lib.hid hso
 have HEL:=Lib.hid el
 have HRL:=Lib.hid rl
 have HEK:=Lib.hid ek
 have HEO:=Lib.hid eo
 have HRO:=Lib.hid ro
 have HOV:=Lib.hid hov
 have HU:=Lib.hid hu
 have HODD:=Lib.hid hodd
 have HSLA:=Lib.hid hl
 have HSOA:=Lib.hid ho
 have HCN:=Lib.hid hcn
 obtain ⟨r,hr⟩:∃ r,mayV (.mk k b i t l ok ov) q=r:=⟨_,rfl⟩
 rw [hr]
 rw [may_uni _ _ _ _ _ _ _ _ hov] at hr
 clear hsl hso el rl ek eo ro hov hd hu hodd
 go_enter Tryz.func116,Tryz.ntmps116
 go_wp2_with fail
 have hx0:=(Ext.refl w).alloc #[.int .i64 k,.bool b,.int .i64 i,.string t,.slice sl.a l.length sl.c,.slice so.a ok.length so.c] 34
 have hb0:=Blk.new w 34 #[.int .i64 k,.bool b,.int .i64 i,.string t,.slice sl.a l.length sl.c,.slice so.a ok.length so.c]
 refine (HODD.out _).mono ?_
 rintro e w1 ⟨rfl,hx1⟩
 obtain ⟨q0,q1,q2,q3,q4,q5⟩:=(hb0.ext hx1).c6
 have lq:=(hb0.ext hx1).lt
 have HX:=Lib.hid (hx0.trans hx1)
 have HB:=Lib.hid (hb0.ext hx1)
 clear hx0 hx1 hb0 HODD
 unfold oddV
 dsimp only [Val.kind,Val.b,Val.i,Val.t,Val.l,Val.ok]
 by_cases hod:oddS k b i t l.length ok.length=true
 ·rw [if_pos hod] at hr
  subst hr
  rw [hod]
  go_wp2_with fail
  go_ret
  exact ⟨rfl,HX.out⟩
 rw [if_neg hod] at hr
 rw [show oddS k b i t l.length ok.length=false by simpa using hod]
 by_cases hq64:64<q
 ·rw [if_pos hq64] at hr
  subst hr
  have g0:decide ((64:Int)<(q:Int))=true:=decide_eq_true (by omega)
  go_wp2_with fail
  go_ret
  exact ⟨rfl,HX.out⟩
 rw [if_neg hq64] at hr
 have g0:decide ((64:Int)<(q:Int))=false:=decide_eq_false (by omega)
 go_wp2_with fail
 refine (HU.out _).mono ?_
 rintro e w2 ⟨rfl,rfl⟩
 cases hv:Lib.validD t.data.toList with
 | false=>
   rw [hv,if_pos rfl] at hr
   subst hr
   go_wp2_with fail
   go_ret
   exact ⟨rfl,HX.out⟩
 | true=>
 rw [hv,if_neg (by decide)] at hr
 obtain ⟨rl',hrl⟩:∃ x,mayLV l (q+1)=x:=⟨_,rfl⟩
 obtain ⟨rm,hrm⟩:∃ x,mayM none ok ov (q+1)=x:=⟨_,rfl⟩
 rw [hrl,hrm] at hr
 have HR:=Lib.hid hr
 have HRLL:=Lib.hid hrl
 have HRM:=Lib.hid hrm
 clear hr hrl hrm
 go_wp2_with fail
 go_loopw [5] (fun qq wr=>∃ j:Nat,qq=.int .i64 j∧j≤l.length∧Hid (mayLV (l.drop j) (q+1)=rl')∧Ext w2 wr) (fun qq _=>l.length - (intOf qq).toNat)
 case atStart=>exact ⟨0,rfl,Nat.zero_le _,HRLL,Ext.refl _⟩
 obtain ⟨j,rfl,hj,HM,hn⟩:=hrel
 obtain ⟨p0,p1,p2,p3,p4,p5⟩:=(HB.out.ext hn).c6
 have lp:=(HB.out.ext hn).lt
 by_cases hlt:j<l.length
 ·have g1:(j:Int)<(l.length:Int):=by omega
  have g1':decide ((j:Int)<(l.length:Int))=true:=decide_eq_true g1
  obtain ⟨d,hd⟩:∃ d,l[j]? = some d:=⟨_,List.getElem?_eq_getElem hlt⟩
  have hnw:Ext w wr:=HX.out.trans hn
  have hag:Agree (Lt w.heap.size) w wr:=hnw.agree fun _ h=>h
  obtain ⟨hsa,hlc,hcm⟩:=HSLA.out.eq (by omega)
  have hbl:=HSLA.out.fits (show 0<l.length by omega)
  obtain ⟨sa,sc⟩:=sl
  dsimp only at hsa hlc hcm
  subst hsa
  obtain ⟨v0,v1,v2,v3,v4,v5⟩:=(HEL.out j d hd).agree hag hbl
  have lb:bl<wr.heap.size:=Nat.lt_of_lt_of_le hbl hnw.size
  have hic:Calls Tryz.prog 116 #[aggV d (cl j).1 (cl j).2,.int .i64 ((q:Int)+1)] wr fun e w'=>e=.returned (.int .i64 (mayV d (q+1)))∧Ext wr w':=by
   rw [show (q:Int)+1=((q+1:Nat):Int) by omega]
   exact HI.out d (HSL.out j d hd) (by have:=cntL_at hd;have:=HCN.out;omega) wr _ _ (q+1) (by omega) (((HRL.out j d hd).agree hag).mono fun i hi=>Nat.lt_of_lt_of_le hi hnw.size)
  have hat:=mayL_at (j:=q+1) hd
  rw [HM.out] at hat
  have g2:IntKind.i64.wrap ((q:Int)+1)=(q:Int)+1:=by rw [IntKind.wrap_i64];omega
  have HIC:=Lib.hid hic
  have HAT:=Lib.hid hat
  have HN:=Lib.hid hn
  clear hd hnw hag hic hat hn
  go_wp2_with fail
  refine HIC.out.mono ?_
  rintro e w3 ⟨rfl,hn3⟩
  have HN3:=Lib.hid (HN.out.trans hn3)
  have hat:=HAT.out
  clear hn3 v0 v1 v2 v3 v4 v5 HIC HAT HN p0 p1 p2 p3 p4 p5
  generalize mayV d (q+1)=c at hat
  by_cases hc:c=0
  ·subst hc
   rw [if_neg (by simp)] at hat
   have HAT:=Lib.hid hat.symm
   clear hat
   go_wp2_with fail
   go_roundw
   case rel=>exact ⟨j+1,by go_num,hlt,HAT,HN3.out⟩
   simp [intOf];omega
  rw [if_pos hc] at hat
  subst hat
  have g3:(rl' != 0)=true:=by simpa using hc
  have HE:=Lib.hid (show r=rl' by rw [←HR.out,if_pos hc])
  have HX1:=Lib.hid (HX.out.trans HN3.out)
  clear hc
  go_wp2_with fail
  go_ret
  exact ⟨by rw [HE.out];rfl,HX1.out⟩
 obtain rfl:j=l.length:=by omega
 have g1:decide ((l.length:Int)<(l.length:Int))=false:=decide_eq_false (by omega)
 have hz:rl'=0:=by rw [←HM.out,List.drop_length,mayLV]
 have HE:=Lib.hid (show rm=r by rw [←HR.out,if_neg (by simp [hz])])
 have HN:=Lib.hid hn
 clear hn hz HM
 go_wp2_with fail
 clear p0 p1 p2 p3 p4 p5 lp
 go_loopw [7,8] (fun lv qq wr=>∃ j:Nat,lv=.string (lastM ok j)∧qq=.int .i64 j∧j≤ok.length∧Hid (mayM (prevK ok j) (ok.drop j) (ov.drop j) (q+1)=rm)∧Ext w2 wr) (fun _ qq _=>ok.length - (intOf qq).toNat)
 case atStart=>exact ⟨0,rfl,rfl,Nat.zero_le _,HRM,HN.out⟩
 obtain ⟨j,rfl,rfl,hj,HM,hn⟩:=hrel
 obtain ⟨p0,p1,p2,p3,p4,p5⟩:=(HB.out.ext hn).c6
 have lp:=(HB.out.ext hn).lt
 by_cases hlt:j<ok.length
 ·have g2:(j:Int)<(ok.length:Int):=by omega
  have g2':decide ((j:Int)<(ok.length:Int))=true:=decide_eq_true g2
  obtain ⟨kk,hk⟩:∃ kk,ok[j]? = some kk:=⟨_,List.getElem?_eq_getElem hlt⟩
  obtain ⟨d,hd⟩:∃ d,ov[j]? = some d:=⟨_,List.getElem?_eq_getElem (by rw [HOV.out];exact hlt)⟩
  have hnw:Ext w wr:=HX.out.trans hn
  have hag:Agree (Lt w.heap.size) w wr:=hnw.agree fun _ h=>h
  obtain ⟨hsa,hlc,hcm⟩:=HSOA.out.eq (by omega)
  have hbl:=HSOA.out.fits (show 0<ok.length by omega)
  obtain ⟨sa,sc⟩:=so
  dsimp only at hsa hlc hcm
  subst hsa
  obtain ⟨v0,v1,v2,v3,v4,v5⟩:=(HEO.out j d hd).agree hag hbl
  have lb:bo<wr.heap.size:=Nat.lt_of_lt_of_le hbl hnw.size
  have kc:wr.cell? ⟨bo,fo+j*7,none⟩=some (.string kk):=(hag.cell hbl).trans (HEK.out j kk hk).1
  have hic:Calls Tryz.prog 116 #[aggV d (co j).1 (co j).2,.int .i64 ((q:Int)+1)] wr fun e w'=>e=.returned (.int .i64 (mayV d (q+1)))∧Ext wr w':=by
   rw [show (q:Int)+1=((q+1:Nat):Int) by omega]
   exact HI.out d (HSO.out j d hd) (by have:=cntM_at hd hk;have:=HCN.out;omega) wr _ _ (q+1) (by omega) (((HRO.out j d hd).agree hag).mono fun i hi=>Nat.lt_of_lt_of_le hi hnw.size)
  have huk:=fun W=>valid01_any W kk (by have:=cntM_at hd hk;have:=HCN.out;omega)
  have hat:=mayM_at (p:=prevK ok j) (Q:=q+1) hd hk
  rw [HM.out] at hat
  have g3:IntKind.i64.wrap ((q:Int)+1)=(q:Int)+1:=by rw [IntKind.wrap_i64];omega
  have HIC:=Lib.hid hic
  have HAT:=Lib.hid hat
  have HUK:=Lib.hid huk
  have HN:=Lib.hid hn
  have HKJ:=Lib.hid hk
  clear hd hnw hag hic hat hn HM huk hk
  go_wp2_with fail
  refine (HUK.out _).mono ?_
  rintro e w9 ⟨rfl,rfl⟩
  have hat:=HAT.out
  clear HAT HUK
  cases hv:Lib.validD kk.data.toList with
  | false=>
    rw [hv,if_pos (by decide)] at hat
    have HE2:=Lib.hid (show r=3 by rw [←HE.out];exact hat)
    have HX1:=Lib.hid (HX.out.trans HN.out)
    clear hat
    go_wp2_with fail
    go_ret
    exact ⟨by rw [HE2.out];rfl,HX1.out⟩
  | true=>
    rw [hv,if_neg (by decide)] at hat
    by_cases hj0:j=0
    ·subst hj0
     rw [show prevK ok 0=none from rfl,Option.any_none,if_neg (by decide)] at hat
     have gg:decide ((0:Int)<((0:Nat):Int))=false:=by decide
     have HAT:=Lib.hid hat
     clear hat
     go_wp2_with fail
     refine HIC.out.mono ?_
     rintro e w4 ⟨rfl,hn4⟩
     have HN4:=Lib.hid (HN.out.trans hn4)
     have hat:=HAT.out
     clear hn4 HIC HAT v0 v1 v2 v3 v4 v5 kc p0 p1 p2 p3 p4 p5
     generalize mayV d (q+1)=c at hat
     by_cases hc:c=0
     ·subst hc
      rw [if_neg (by simp)] at hat
      have HAT:=Lib.hid (show mayM (prevK ok (0+1)) (ok.drop (0+1)) (ov.drop (0+1)) (q+1)=rm by rw [show prevK ok (0+1)=some kk from HKJ.out];exact hat.symm)
      clear hat
      go_wp2_with fail
      go_roundw
      case rel=>exact ⟨0+1,by rw [show lastM ok (0+1)=kk by unfold lastM;rw [show prevK ok (0+1)=some kk from HKJ.out];rfl],by go_num,hlt,HAT,HN4.out⟩
      simp [intOf];omega
     rw [if_pos hc] at hat
     have HE2:=Lib.hid (show r=c by rw [←HE.out];exact hat)
     have g4:(c != 0)=true:=by simpa using hc
     have HX1:=Lib.hid (HX.out.trans HN4.out)
     clear hc hat
     go_wp2_with fail
     go_ret
     exact ⟨by rw [HE2.out];rfl,HX1.out⟩
    obtain ⟨i,rfl⟩:∃ i,j=i+1:=⟨j - 1,by omega⟩
    obtain ⟨y,hy⟩:∃ y,ok[i]? = some y:=⟨_,List.getElem?_eq_getElem (by omega)⟩
    rw [show prevK ok (i+1)=some y from hy,Option.any_some] at hat
    rw [show lastM ok (i+1)=y by unfold lastM;rw [show prevK ok (i+1)=some y from hy];rfl]
    have gg:decide ((0:Int)<((i+1:Nat):Int))=true:=decide_eq_true (by omega)
    have gg':(0:Int)<((i+1:Nat):Int):=by omega
    cases hkl:klt y kk with
    | false=>
      rw [hkl,if_pos (by decide)] at hat
      have HE2:=Lib.hid (show r=8 by rw [←HE.out];exact hat)
      have HX1:=Lib.hid (HX.out.trans HN.out)
      cases hkr:klt kk y with
      | true=>
        have hbl:Op.bytesLess kk.toList y.toList=true:=hkr
        clear hy hj0 hat
        go_wp2_with fail
        go_ret
        exact ⟨by rw [HE2.out];rfl,HX1.out⟩
      | false=>
        obtain rfl:y=kk:=klt_total hkl hkr
        have hbl:Op.bytesLess y.toList y.toList=false:=hkl
        have hbe:(y.toList == y.toList)=true:=by simp
        clear hy hj0 hat
        go_wp2_with fail
        go_ret
        exact ⟨by rw [HE2.out];rfl,HX1.out⟩
    | true=>
      rw [hkl,if_neg (by decide)] at hat
      have hbl:Op.bytesLess kk.toList y.toList=false:=klt_no hkl
      have hbe:(kk.toList == y.toList)=false:=text_ne (fun e=>by rw [e,klt_irrefl] at hkl;cases hkl)
      have HAT:=Lib.hid hat
      clear hat hy hj0
      go_wp2_with fail
      refine HIC.out.mono ?_
      rintro e w4 ⟨rfl,hn4⟩
      have HN4:=Lib.hid (HN.out.trans hn4)
      have hat:=HAT.out
      clear hn4 HIC HAT v0 v1 v2 v3 v4 v5 kc p0 p1 p2 p3 p4 p5
      generalize mayV d (q+1)=c at hat
      by_cases hc:c=0
      ·subst hc
       rw [if_neg (by simp)] at hat
       have HAT:=Lib.hid (show mayM (prevK ok ((i+1)+1)) (ok.drop ((i+1)+1)) (ov.drop ((i+1)+1)) (q+1)=rm by rw [show prevK ok ((i+1)+1)=some kk from HKJ.out];exact hat.symm)
       clear hat
       go_wp2_with fail
       go_roundw
       case rel=>exact ⟨(i+1)+1,by rw [show lastM ok ((i+1)+1)=kk by unfold lastM;rw [show prevK ok ((i+1)+1)=some kk from HKJ.out];rfl],by go_num,hlt,HAT,HN4.out⟩
       simp [intOf];omega
      rw [if_pos hc] at hat
      have HE2:=Lib.hid (show r=c by rw [←HE.out];exact hat)
      have g4:(c != 0)=true:=by simpa using hc
      have HX1:=Lib.hid (HX.out.trans HN4.out)
      clear hc hat
      go_wp2_with fail
      go_ret
      exact ⟨by rw [HE2.out];rfl,HX1.out⟩
 obtain rfl:j=ok.length:=by omega
 have g2:decide ((ok.length:Int)<(ok.length:Int))=false:=decide_eq_false (by omega)
 have hz:rm=0:=by rw [←HM.out,←HOV.out,List.drop_length (l:=ov),mayM]
 have HE2:=Lib.hid (show r=0 by rw [←HE.out];exact hz)
 have HX1:=Lib.hid (HX.out.trans hn)
 clear hn hz
 go_wp2_with fail
 go_ret
 exact ⟨by rw [HE2.out];rfl,HX1.out⟩
theorem may02_any {w:World} {v:Val} {sl so:Sl} (h:RV w (Lt w.heap.size) v sl so) (hc:cntV v≤1100000):Calls Tryz.prog 77 #[aggV v sl so] w fun e w'=>e=.returned (.int .i64 (mayV v 1))∧Ext w w':=by
 have hx0:=(Ext.refl w).alloc #[.int .i64 v.kind,.bool v.b,.int .i64 v.i,.string v.t,.slice sl.a v.l.length sl.c,.slice so.a v.ok.length so.c] 34
 have ho:=mayAt02 _ v (Nat.le_refl _) hc (w.alloc (.cells #[.int .i64 v.kind,.bool v.b,.int .i64 v.i,.string v.t,.slice sl.a v.l.length sl.c,.slice so.a v.ok.length so.c] 34)) sl so 1 (by decide) ((h.agree (hx0.agree fun _ h=>h)).mono fun i hi=>Nat.lt_of_lt_of_le hi hx0.size)
 have HO:=Lib.hid ho
 have HX0:=Lib.hid hx0
 clear ho h hx0
 go_enter Tryz.func77,Tryz.ntmps77
 go_wp2_with fail
 refine HO.out.mono ?_
 rintro e w1 ⟨rfl,hx1⟩
 have HX:=Lib.hid (HX0.out.trans hx1)
 clear hx1 HX0 HO
 go_wp2_with fail
 go_ret
 exact ⟨rfl,HX.out⟩
structure WV where
 v:Val
 sl:Sl
 so:Sl
def WV.cells (x:WV):List Value:=[.int .i64 x.v.kind,.bool x.v.b,.int .i64 x.v.i,.string x.v.t,.slice x.sl.a x.v.l.length x.sl.c,.slice x.so.a x.v.ok.length x.so.c]
def flatW (xs:List WV):List Value:=xs.flatMap WV.cells
theorem flatW_cons (x:WV) (xs:List WV):flatW (x :: xs)=x.cells++flatW xs:=by simp [flatW]
theorem flatW_app (xs ys:List WV):flatW (xs++ys)=flatW xs++flatW ys:=by simp [flatW]
theorem WV.len (x:WV):x.cells.length=6:=rfl
theorem WV.one (x:WV):∀ u∈x.cells,u.oneCell'=true:=by
 intro u hu
 simp only [WV.cells,List.mem_cons,List.not_mem_nil,or_false] at hu
 rcases hu with rfl | rfl | rfl | rfl | rfl | rfl <;> rfl
theorem flatW_one (xs:List WV):∀ u∈flatW xs,u.oneCell'=true:=fun u hu=>by
 obtain ⟨x,-,hx⟩:=List.mem_flatMap.1 hu
 exact x.one u hx
theorem flatW_len (xs:List WV):(flatW xs).length=xs.length*6:=by
 induction xs with
 | nil=>rfl
 | cons x xs ih=>rw [flatW_cons,List.length_append,ih,WV.len,List.length_cons];omega
theorem flatW_at:∀ {xs:List WV} {i:Nat} {x:WV},xs[i]? = some x→∀ c,c<6→(flatW xs)[i*6+c]? = x.cells[c]?
 | [],i,x,h,_,_=>by simp at h
 | y :: ys,0,x,h,c,hc=>by
   simp at h;subst h
   rw [flatW_cons,Nat.zero_mul,Nat.zero_add,List.getElem?_append_left (by rw [WV.len];exact hc)]
 | y :: ys,i+1,x,h,c,hc=>by
   simp at h
   rw [flatW_cons,List.getElem?_append_right (by rw [WV.len];omega),WV.len,show (i+1)*6+c - 6=i*6+c from by omega]
   exact flatW_at h c hc
theorem rd_cells {w:World} {F:Nat→Prop} {s:Sl} {xs:List WV} (h:Rd w F 6 s xs.length (flatW xs)):∃ b o,SlAt F s xs.length b o∧∀ j x,xs[j]? = some x→VCells w b (o+j*6) x.v x.sl x.so:=by
 obtain ⟨b,o,h1,h2,h3⟩:=h
 refine ⟨b,o,h1,fun j x hx=>?_⟩
 have hc:∀ c,c<6→∀ u,x.cells[c]? = some u→w.cell? ⟨b,o+j*6+c,none⟩=some u:=fun c hc u hu=>by
  rw [Nat.add_assoc]
  exact h3 _ u (by rw [flatW_at hx c hc];exact hu)
 exact ⟨hc 0 (by decide) _ rfl,hc 1 (by decide) _ rfl,hc 2 (by decide) _ rfl,hc 3 (by decide) _ rfl,hc 4 (by decide) _ rfl,hc 5 (by decide) _ rfl⟩
theorem rd_wv {w:World} {F:Nat→Prop} {s:Sl} {xs:List WV} {b o:Nat} (h:SlAt F s xs.length b o) (hc:∀ j x,xs[j]? = some x→VCells w b (o+j*6) x.v x.sl x.so):Rd w F 6 s xs.length (flatW xs):=by
 refine ⟨b,o,h,flatW_len xs,fun p u hu=>?_⟩
 have hp:=(List.getElem?_eq_some_iff.1 hu).1
 rw [flatW_len] at hp
 obtain ⟨j,c,rfl,hc6⟩:∃ j c,p=j*6+c∧c<6:=⟨p / 6,p % 6,by omega,by omega⟩
 obtain ⟨x,hx⟩:∃ x,xs[j]? = some x:=⟨_,List.getElem?_eq_getElem (by omega)⟩
 have e:=hc _ _ hx
 rw [flatW_at hx c hc6] at hu
 rw [←Nat.add_assoc]
 have hc':c=0∨c=1∨c=2∨c=3∨c=4∨c=5:=by omega
 rcases hc' with rfl | rfl | rfl | rfl | rfl | rfl
 ·exact e.c0.trans hu
 ·exact e.c1.trans hu
 ·exact e.c2.trans hu
 ·exact e.c3.trans hu
 ·exact e.c4.trans hu
 exact e.c5.trans hu
def wl (l:List Val) (c:Nat→Sl × Sl):List WV:=l.mapIdx fun j d=>⟨d,(c j).1,(c j).2⟩
theorem wl_len (l:List Val) (c:Nat→Sl × Sl):(wl l c).length=l.length:=by simp [wl]
theorem wl_v (l:List Val) (c:Nat→Sl × Sl):(wl l c).map WV.v=l:=by
 unfold wl
 apply List.ext_getElem?
 intro j
 rw [List.getElem?_map,List.getElem?_mapIdx]
 cases l[j]? <;> rfl
theorem wl_at {l:List Val} {c:Nat→Sl × Sl} {j:Nat} {x:WV} (h:(wl l c)[j]? = some x):l[j]? = some x.v∧x.sl=(c j).1∧x.so=(c j).2:=by
 unfold wl at h
 rw [List.getElem?_mapIdx] at h
 cases hl:l[j]? with
 | none=>rw [hl] at h;cases h
 | some d=>rw [hl] at h;cases h;exact ⟨rfl,rfl,rfl⟩
def withinV:Val→List Val
 | .mk k _ _ _ l _ ov=>if k=5 then l else if k=6 then ov else []
theorem deep_within (v:Val):deepV v=1+deepL (withinV v):=by
 obtain ⟨k,b,i,t,l,ok,ov⟩:=v
 unfold deepV withinV
 dsimp only
 by_cases h5:k=5
 ·rw [if_pos h5,if_pos h5]
 rw [if_neg h5,if_neg h5]
 by_cases h6:k=6
 ·rw [if_pos h6,if_pos h6]
 rw [if_neg h6,if_neg h6,deepL]
structure OW (w:World) (base n:Nat) (s:Sl) (xs:List WV):Prop where
 own:w.ownsRow base 34 6 (.slice s.a xs.length s.c) xs.length (flatW xs)
 vals:∀ x∈xs,RV w (Lt n) x.v x.sl x.so
theorem OW.nil (w:World) (base n:Nat):OW w base n Sl.none []:=⟨World.ownsRow_nil _ _ _ _,fun x h=>by simp at h⟩
theorem OW.ext {w w':World} {base n:Nat} {s:Sl} {xs:List WV} (h:OW w base n s xs) (he:Ext w w') (hn:n≤w.heap.size):OW w' base n s xs:=
 ⟨own_agree h.own (he.agree fun b (h:Lt w.heap.size b)=>h) (fun b hb=>(own_row h.own hb).2),fun x hx=>(h.vals x hx).agree (he.agree fun b (hb:b<n)=>Nat.lt_of_lt_of_le hb hn)⟩
theorem OW.append {w w':World} {base n:Nat} {s s':Sl} {xs ys:List WV} (hn:n≤base) (hb:base≤w.heap.size) (h:OW w base n s xs) (hv:∀ y∈ys,RV w (Lt n) y.v y.sl y.so)
  (hown:w'.ownsRow base 34 6 (.slice s'.a (xs.length+ys.length) s'.c) (xs.length+ys.length) (flatW xs++flatW ys)) (hwr:Wr w w' s.row):OW w' base n s' (xs++ys):=by
 have hag:Agree (Lt n) w w':=hwr.agree (fun i (hi:i<n)=>by omega) (fun k hk (hF:k<n)=>by have:=(own_row h.own hk).1;omega)
 refine ⟨by rw [List.length_append,flatW_app];exact hown,fun x hx=>?_⟩
 rcases List.mem_append.1 hx with hx | hx
 ·exact (h.vals x hx).agree hag
 exact (hv x hx).agree hag
theorem within_sz {v d:Val} {j:Nat} (h:(withinV v)[j]? = some d):SizeOf.sizeOf d<SizeOf.sizeOf v:=by
 obtain ⟨k,b,i,t,l,ok,ov⟩:=v
 unfold withinV at h
 dsimp only at h
 split at h
 ·exact Val.sz_l h
 split at h
 ·exact Val.sz_o h
 simp at h
def WithinPost (v:Val) (w:World) (e:Ending) (w':World):Prop:=
 ∃ (s:Sl) (xs:List WV),e=.returned (.slice s.a xs.length s.c)∧xs.map WV.v=withinV v∧Rd w' (Lt w'.heap.size) 6 s xs.length (flatW xs)∧(∀ x∈xs,RV w' (Lt w.heap.size) x.v x.sl x.so)∧Ext w w'
theorem within_any {w:World} {v:Val} {sl so:Sl} (h:RV w (Lt w.heap.size) v sl so):Calls Tryz.prog 117 #[aggV v sl so] w (WithinPost v w):=by
 obtain ⟨k,b,i,t,l,ok,ov⟩:=v
 obtain ⟨i0,hi,hz0,hz1,hz2⟩:=info_parts Tryz.infoValue
 show Calls _ _ #[.agg #[.int .i64 k,.bool b,.int .i64 i,.string t,.slice sl.a l.length sl.c,.slice so.a ok.length so.c]] _ _
 cases h with
 | mk bl fl bo fo cl co hl ho hov el rl ek eo ro bk bi bt nl no=>
 have HEL:=Lib.hid el
 have HRL:=Lib.hid rl
 have HEO:=Lib.hid eo
 have HEK:=Lib.hid ek
 have HRO:=Lib.hid ro
 have HOV:=Lib.hid hov
 have HSLA:=Lib.hid hl
 have HSOA:=Lib.hid ho
 have HNL:=Lib.hid nl
 have HNO:=Lib.hid no
 clear el rl ek eo ro hov hl ho nl no bk bi bt
 go_enter Tryz.func117,Tryz.ntmps117
 by_cases h5:k=5
 ·subst h5
  have hx0:=(Ext.refl w).alloc #[.int .i64 5,.bool b,.int .i64 i,.string t,.slice sl.a l.length sl.c,.slice so.a ok.length so.c] 34
  have hrd:Rd w (Lt w.heap.size) 6 sl (wl l cl).length (flatW (wl l cl)):=by
   refine rd_wv (by rw [wl_len];exact HSLA.out) fun j x hx=>?_
   obtain ⟨e1,e2,e3⟩:=wl_at hx
   rw [e2,e3]
   exact HEL.out j _ e1
  rw [wl_len] at hrd
  have HRD:=Lib.hid ((hrd.agree (hx0.agree fun _ h=>h)).mono fun i (hi:i<w.heap.size)=>(show i<w.heap.size+1 by omega))
  have HX0:=Lib.hid hx0
  have h63:0+l.length≤maxLen:=by have:=HNL.out;unfold maxLen;omega
  have hby:(0+l.length)*88≤140737488355328:=by have:=HNL.out;omega
  clear hrd hx0
  go_wp2_with (at_builtin;refine wpList_append_x _ rfl (.tmp 8) (.tmp 10) 31 rfl (w.heap.size+1) 34 i0 _ 6 88 Tryz.underlying31 hi hz0 hz1 hz2 rfl (by decide) Sl.none 0 [] rfl (World.ownsRow_nil _ _ _ _) (Lt (w.heap.size+1)) sl l.length (flatW (wl l cl)) rfl HRD.out (flatW_one _) h63 hby (by rw [World.size_alloc];exact Nat.le_refl _) ?_;intro s' w3 hown hwr hs';have hB3:=(Blk.new w 34 #[.int .i64 5,.bool b,.int .i64 i,.string t,.slice sl.a l.length sl.c,.slice so.a ok.length so.c]).agree (hwr.agree (F:=fun b=>b=w.heap.size) (fun i hi=>by rw [World.size_alloc];omega) (fun k hk _=>by cases hk)) rfl;obtain ⟨q0,q1,q2,q3,q4,q5⟩:=hB3.c6;have lq:=hB3.lt;have HOWN:=Lib.hid hown;have HWR:=Lib.hid hwr;clear hown hwr hs' hB3)
  go_ret
  have hx3:Ext w w3:=HX0.out.wr HWR.out (fun i hi=>by cases hi)
  have hown:=HOWN.out
  rw [Nat.zero_add,List.nil_append] at hown
  refine ⟨s',wl l cl,by rw [wl_len];rfl,by rw [wl_v];rfl,?_,fun x hx=>?_,hx3⟩
  ·rw [wl_len]
   exact (Rd.of_own hown).mono fun i hi=>hi.2
  obtain ⟨j,hj⟩:=List.getElem?_of_mem hx
  obtain ⟨e1,e2,e3⟩:=wl_at hj
  rw [e2,e3]
  exact (HRL.out j _ e1).agree (hx3.agree fun _ h=>h)
 have g5:(k == 5)=false:=by simpa using h5
 by_cases h6:k=6
 ·subst h6
  have hx0:=(Ext.refl w).alloc #[.int .i64 6,.bool b,.int .i64 i,.string t,.slice sl.a l.length sl.c,.slice so.a ok.length so.c] 34
  have hb0:=Blk.new w 34 #[.int .i64 6,.bool b,.int .i64 i,.string t,.slice sl.a l.length sl.c,.slice so.a ok.length so.c]
  have HX0:=Lib.hid hx0
  have HB0:=Lib.hid hb0
  have HO0:=Lib.hid (OW.nil (w.alloc (.cells #[.int .i64 6,.bool b,.int .i64 i,.string t,.slice sl.a l.length sl.c,.slice so.a ok.length so.c] 34)) (w.heap.size+1) w.heap.size)
  have hsz0:(w.alloc (.cells #[.int .i64 6,.bool b,.int .i64 i,.string t,.slice sl.a l.length sl.c,.slice so.a ok.length so.c] 34)).heap.size=w.heap.size+1:=World.size_alloc _ _
  have HSZ0:=Lib.hid hsz0
  clear hx0 hb0 hsz0
  go_wp2_with fail
  go_loopw [3,4] (fun ou qq wr=>∃ (j:Nat) (s:Sl) (xs:List WV),ou=.slice s.a xs.length s.c∧qq=.int .i64 j∧j≤ok.length∧Hid (xs.map WV.v=ov.take j)∧Hid (OW wr (w.heap.size+1) w.heap.size s xs)∧Hid (Blk wr w.heap.size 34 #[.int .i64 6,.bool b,.int .i64 i,.string t,.slice sl.a l.length sl.c,.slice so.a ok.length so.c])∧Hid (Ext w wr∧w.heap.size+1≤wr.heap.size)) (fun _ qq _=>ok.length - (intOf qq).toNat)
  case atStart=>exact ⟨0,Sl.none,[],rfl,rfl,Nat.zero_le _,Lib.hid rfl,HO0,HB0,Lib.hid ⟨HX0.out,Nat.le_of_eq HSZ0.out.symm⟩⟩
  obtain ⟨j,s,xs,rfl,rfl,hj,HXS,HO,HB,HX⟩:=hrel
  obtain ⟨p0,p1,p2,p3,p4,p5⟩:=HB.out.c6
  have lp:=HB.out.lt
  by_cases hlt:j<ok.length
  ·have g1:(j:Int)<(ok.length:Int):=by omega
   have g1':decide ((j:Int)<(ok.length:Int))=true:=decide_eq_true g1
   obtain ⟨d,hd⟩:∃ d,ov[j]? = some d:=⟨_,List.getElem?_eq_getElem (by rw [HOV.out];exact hlt)⟩
   have hag:Agree (Lt w.heap.size) w wr:=HX.out.1.agree fun _ h=>h
   obtain ⟨hsa,hlc,hcm⟩:=HSOA.out.eq (by omega)
   have hbl:=HSOA.out.fits (show 0<ok.length by omega)
   obtain ⟨sa,sc⟩:=so
   dsimp only at hsa hlc hcm
   subst hsa
   obtain ⟨v0,v1,v2,v3,v4,v5⟩:=(HEO.out j d hd).agree hag hbl
   have lb:bo<wr.heap.size:=Nat.lt_of_lt_of_le hbl HX.out.1.size
   have hxl:xs.length=j:=by rw [←List.length_map (f:=WV.v),HXS.out,List.length_take,HOV.out];omega
   have hnA:Ext wr (wr.alloc (.cells #[.int .i64 d.kind,.bool d.b,.int .i64 d.i,.string d.t,.slice (co j).1.a d.l.length (co j).1.c,.slice (co j).2.a d.ok.length (co j).2.c] 34)):=(Ext.refl _).alloc _ _
   have hrx:RV wr (Lt w.heap.size) d (co j).1 (co j).2:=(HRO.out j d hd).agree hag
   have HRX:=Lib.hid (hrx.agree (hnA.agree fun b (hb:b<w.heap.size)=>Nat.lt_of_lt_of_le hb HX.out.1.size))
   have HOX:=Lib.hid (HO.out.ext hnA HX.out.1.size)
   have HBN:=Lib.hid (Blk.new wr 34 #[.int .i64 d.kind,.bool d.b,.int .i64 d.i,.string d.t,.slice (co j).1.a d.l.length (co j).1.c,.slice (co j).2.a d.ok.length (co j).2.c])
   have HNA:=Lib.hid hnA
   have HD:=Lib.hid hd
   have hok:=HNO.out
   have h63:xs.length+1≤maxLen:=by have:=HNO.out;unfold maxLen;omega
   have hby:(xs.length+1)*88≤140737488355328:=by have:=HNO.out;omega
   have hbase:w.heap.size+1≤(wr.alloc (.cells #[.int .i64 d.kind,.bool d.b,.int .i64 d.i,.string d.t,.slice (co j).1.a d.l.length (co j).1.c,.slice (co j).2.a d.ok.length (co j).2.c] 34)).heap.size:=by rw [World.size_alloc];have:=HX.out.2;omega
   have hone:=(⟨d,(co j).1,(co j).2⟩:WV).one
   have HXL:=Lib.hid hxl
   clear hd hag hnA hrx hxl hbl
   go_wp2_with (at_builtin;refine wpList_append_x _ rfl (.tmp 22) (.tmp 29) 31 rfl (w.heap.size+1) 34 i0 _ 6 88 Tryz.underlying31 hi hz0 hz1 hz2 rfl (by decide) s xs.length (flatW xs) rfl HOX.out.own (fun b=>b=wr.heap.size) ⟨some ⟨wr.heap.size,0,none⟩,1⟩ 1 (⟨d,(co j).1,(co j).2⟩:WV).cells rfl (Rd.block HBN.out (by decide) rfl) hone h63 hby hbase ?_;intro s' w3 hown hwr hs';have HOWN:=Lib.hid hown;have HWR:=Lib.hid hwr;clear hown hwr hs')
   have hrow:∀ b,s.row=some b→w.heap.size+1≤b:=fun b hb=>(own_row HO.out.own hb).1
   have ho3:OW w3 (w.heap.size+1) w.heap.size s' (xs++[⟨d,(co j).1,(co j).2⟩]):=OW.append (Nat.le_succ _) hbase HOX.out (fun y hy=>by simp only [List.mem_singleton] at hy;subst hy;exact HRX.out) (by rw [show flatW [(⟨d,(co j).1,(co j).2⟩:WV)]=(⟨d,(co j).1,(co j).2⟩:WV).cells by simp [flatW]];exact HOWN.out) HWR.out
   have hB3:Blk w3 w.heap.size 34 #[.int .i64 6,.bool b,.int .i64 i,.string t,.slice sl.a l.length sl.c,.slice (some ⟨bo,fo,none⟩) ok.length sc]:=(HB.out.ext HNA.out).agree (HWR.out.agree (F:=fun b=>b=w.heap.size) (fun i hi=>by rw [World.size_alloc];omega) (fun k hk e=>by have:=hrow k hk;omega)) rfl
   have hX3:Ext w w3:=(HX.out.1.trans HNA.out).wr HWR.out (fun i hi=>by have:=hrow i hi;omega)
   have hz3:w.heap.size+1≤w3.heap.size:=Nat.le_trans hbase HWR.out.grown.size
   have HO3:=Lib.hid ho3
   have HB3:=Lib.hid hB3
   have HX3:=Lib.hid (And.intro hX3 hz3)
   clear ho3 hB3 hX3 hz3 hrow HOWN HWR
   go_roundw
   case rel=>exact ⟨j+1,s',xs++[⟨d,(co j).1,(co j).2⟩],by rw [List.length_append];rfl,by go_num,hlt,Lib.hid (by rw [List.map_append,HXS.out,List.take_add_one,HD.out];rfl),HO3,HB3,HX3⟩
   simp [intOf];omega
  obtain rfl:j=ok.length:=by omega
  have g1:decide ((ok.length:Int)<(ok.length:Int))=false:=decide_eq_false (by omega)
  have hxs:xs.map WV.v=ov:=by rw [HXS.out,←HOV.out,List.take_length]
  have HXV:=Lib.hid hxs
  clear hxs HXS
  go_wp2_with fail
  go_ret
  refine ⟨s,xs,rfl,by rw [HXV.out];rfl,(Rd.of_own HO.out.own).mono fun i hi=>hi.2,HO.out.vals,HX.out.1⟩
 have g6:(k == 6)=false:=by simpa using h6
 go_wp2_with fail
 go_ret
 refine ⟨Sl.none,[],rfl,?_,Rd.nil _ _ _,fun x hx=>by simp at hx,(Ext.refl w).alloc _ _⟩
 unfold withinV
 dsimp only
 rw [if_neg h5,if_neg h6]
 rfl
theorem deepAt02 (m:Nat):∀ (d:Val),SizeOf.sizeOf d≤m→deepV d≤1000000→∀ (w:World) (sl so:Sl),RV w (Lt w.heap.size) d sl so→
  Calls Tryz.prog 78 #[aggV d sl so] w fun e w'=>e=.returned (.int .i64 (deepV d:Int))∧Ext w w':=by
 induction m with
 | zero=>intro d hd;have:=Val.sz_pos d;omega
 | succ m ih=>
 intro d hd hdm w sl so h
 have HI:=Lib.hid ih
 clear ih
 have hsz:∀ (j:Nat) (x:Val),(withinV d)[j]? = some x→SizeOf.sizeOf x≤m:=fun j x hj=>Nat.le_of_lt_succ (Nat.lt_of_lt_of_le (within_sz hj) hd)
 have HSZ:=Lib.hid hsz
 rw [deep_within] at hdm ⊢
 have hx0:=(Ext.refl w).alloc #[.int .i64 d.kind,.bool d.b,.int .i64 d.i,.string d.t,.slice sl.a d.l.length sl.c,.slice so.a d.ok.length so.c] 34
 have ho:=within_any ((h.agree (hx0.agree fun _ h=>h)).mono fun i (hi:i<w.heap.size)=>Nat.lt_of_lt_of_le hi hx0.size)
 have HO:=Lib.hid ho
 have HX0:=Lib.hid hx0
 clear ho h hx0 hd hsz
 go_enter Tryz.func78,Tryz.ntmps78
 go_wp2_with fail
 refine HO.out.mono ?_
 rintro e w1 ⟨s,xs,rfl,hxs,hrd,hvs,hx1⟩
 obtain ⟨b,o,hsl,hcl⟩:=rd_cells hrd
 have hxl:xs.length=(withinV d).length:=by rw [←hxs,List.length_map]
 have hvx:∀ (j:Nat) (x:WV),xs[j]? = some x→(withinV d)[j]? = some x.v:=fun j x hj=>by rw [←hxs,List.getElem?_map,hj];rfl
 have HX:=Lib.hid (HX0.out.trans hx1)
 have HVS:=Lib.hid (fun x hx=>(hvs x hx).mono fun i (hi:i<_)=>Nat.lt_of_lt_of_le hi hx1.size)
 have HVX:=Lib.hid hvx
 have HSL:=Lib.hid hsl
 have HCL:=Lib.hid hcl
 have HXL:=Lib.hid hxl
 clear hxs hrd hvs hx1 hsl hcl hxl hvx HO HX0
 obtain ⟨W,hW⟩:∃ W,withinV d=W:=⟨_,rfl⟩
 rw [hW] at HSZ HVX HXL hdm
 have HW:=Lib.hid hW
 clear hW
 go_wp2_with fail
 go_loopw [3,5] (fun dp qq wr=>∃ j:Nat,dp=.int .i64 (deepL (W.take j):Int)∧qq=.int .i64 j∧j≤xs.length∧Ext w1 wr) (fun _ qq _=>xs.length - (intOf qq).toNat)
 case atStart=>exact ⟨0,rfl,rfl,Nat.zero_le _,Ext.refl _⟩
 obtain ⟨j,rfl,rfl,hj,hn⟩:=hrel
 by_cases hlt:j<xs.length
 ·have g1:(j:Int)<(xs.length:Int):=by omega
  have g1':decide ((j:Int)<(xs.length:Int))=true:=decide_eq_true g1
  obtain ⟨x,hx⟩:∃ x,xs[j]? = some x:=⟨_,List.getElem?_eq_getElem hlt⟩
  have hnw:Ext w wr:=HX.out.trans hn
  have hag:Agree (Lt w1.heap.size) w1 wr:=hn.agree fun _ h=>h
  obtain ⟨hsa,hlc,hcm⟩:=HSL.out.eq (by omega)
  have hbl:=HSL.out.fits (show 0<xs.length by omega)
  obtain ⟨sa,sc⟩:=s
  dsimp only at hsa hlc hcm
  subst hsa
  obtain ⟨v0,v1,v2,v3,v4,v5⟩:=(HCL.out j x hx).agree hag hbl
  have lb:b<wr.heap.size:=Nat.lt_of_lt_of_le hbl hn.size
  have hwx:=HVX.out j x hx
  have hdd:=deepL_le hwx
  have hic:Calls Tryz.prog 78 #[aggV x.v x.sl x.so] wr fun e w'=>e=.returned (.int .i64 (deepV x.v:Int))∧Ext wr w':=
   HI.out x.v (HSZ.out j x.v hwx) (by omega) wr _ _ (((HVS.out x (List.mem_of_getElem? hx)).agree hag).mono fun i (hi:i<w1.heap.size)=>Nat.lt_of_lt_of_le hi hn.size)
  have htk:=deepL_take hwx
  have hlew:deepL (W.take j)≤1000000:=by have:=deepL_cut W j;omega
  have hml:xs.length≤9223372036854775807:=by unfold maxLen at hcm;omega
  have HIC:=Lib.hid hic
  have HTK:=Lib.hid htk
  have HN:=Lib.hid hn
  clear hx hnw hag hic hn htk hwx
  go_wp2_with fail
  refine HIC.out.mono ?_
  rintro e w3 ⟨rfl,hn3⟩
  have HN3:=Lib.hid (HN.out.trans hn3)
  clear hn3 v0 v1 v2 v3 v4 v5 HIC HN
  by_cases hgt:deepL (W.take j)<deepV x.v
  ·have g4:decide ((deepL (W.take j):Int)<(deepV x.v:Int))=true:=decide_eq_true (by omega)
   go_wp2_with fail
   go_roundw
   case rel=>exact ⟨j+1,by rw [HTK.out,Nat.max_eq_right (Nat.le_of_lt hgt)],by go_num,hlt,HN3.out⟩
   simp [intOf];omega
  have g4:decide ((deepL (W.take j):Int)<(deepV x.v:Int))=false:=decide_eq_false (by omega)
  go_wp2_with fail
  go_roundw
  case rel=>exact ⟨j+1,by rw [HTK.out,Nat.max_eq_left (Nat.le_of_not_lt hgt)],by go_num,hlt,HN3.out⟩
  simp [intOf];omega
 obtain rfl:j=xs.length:=by omega
 have g1:decide ((xs.length:Int)<(xs.length:Int))=false:=decide_eq_false (by omega)
 rw [HXL.out,List.take_length]
 have g2:IntKind.i64.wrap ((deepL W:Int)+1)=(deepL W:Int)+1:=by rw [IntKind.wrap_i64];omega
 have HZ:=Lib.hid (show ((1+deepL W:Nat):Int)=(deepL W:Int)+1 by omega)
 have HN:=Lib.hid (HX.out.trans hn)
 clear hn
 go_wp2_with fail
 go_ret
 exact ⟨by rw [HW.out,HZ.out];rfl,HN.out⟩
theorem Tryz.infoInt01:(Tryz.prog.info? 3).map (fun i=>(i.zero,i.size,i.bytes))=some (some (.int .i64 0),1,8):=by kernel_rfl
def Apart2 (s1 s2:Sl):Prop:=∀ b,s1.row=some b→s2.row≠some b
theorem Apart2.comm {s1 s2:Sl} (h:Apart2 s1 s2):Apart2 s2 s1:=fun b hb e=>h b e hb
theorem Apart2.grow {w:World} {base e size n:Nat} {xs:List Value} {s1 s2 s':Sl} (h:Apart2 s1 s2) (ho:w.ownsRow base e size (.slice s2.a n s2.c) n xs) {W:World} (hW:w.heap.size≤W.heap.size) (hs:s'.a=s1.a∨s'.a=some ⟨W.heap.size,0,none⟩):Apart2 s' s2:=by
 intro b hb e2
 have hb2:=(own_row ho e2).2
 rcases hs with hs | hs
 ·exact h b (by unfold Sl.row at hb ⊢;rw [←hs];exact hb) e2
 have:b=W.heap.size:=by unfold Sl.row at hb;rw [hs] at hb;simpa using hb.symm
 omega
theorem own_apart {w w':World} {base e size n:Nat} {xs:List Value} {s1 s2:Sl} (h:Apart2 s1 s2) (ho:w.ownsRow base e size (.slice s2.a n s2.c) n xs) (hw:Wr w w' s1.row):w'.ownsRow base e size (.slice s2.a n s2.c) n xs:=
 own_agree ho (hw.agree (F:=fun b=>s2.row=some b) (fun i hi=>(own_row ho hi).2) (fun k hk e=>h k hk e)) fun b hb=>hb
def runeVs (D:List (Nat × Nat)):List Value:=D.map fun x=>.int .i64 (x.2:Int)
def placeVs (D:List (Nat × Nat)):List Value:=D.map fun x=>.int .i64 (x.1:Int)
def RunesPost (s:ByteArray) (w:World) (e:Ending) (w':World):Prop:=
 ∃ (s1:Sl) (v2:Value),e=.returned (.tuple #[.slice s1.a (runesS s).length s1.c,v2])∧Rd w' (Lt w'.heap.size) 1 s1 (runesS s).length (runeVs (runesS s))∧Ext w w'
theorem runes01_any (w:World) (s:ByteArray) (hs:s.size≤1000000000):Calls Tryz.prog 167 #[.string s] w (RunesPost s w):=by
 obtain ⟨iN,nI,nI0,nI1,nI2⟩:=info_parts Tryz.infoInt01
 have hat:=fun (W:World) (p:Nat)=>at01_any W s p (by omega)
 have HAT:=Lib.hid hat
 clear hat
 go_enter Tryz.func167,Tryz.ntmps167
 go_wp2_with fail
 go_loopw [4,5,6] (fun v1 v2 v3 wr=>∃ (p f:Nat) (s1 s2:Sl) (D:List (Nat × Nat)),v1=.slice s1.a D.length s1.c∧v2=.slice s2.a D.length s2.c∧v3=.int .i64 (p:Int)∧p≤s.size∧D.length≤p∧Hid (D++runesAt s f p=runesS s∧s.size≤p+f)∧Hid (wr.ownsRow w.heap.size 3 1 (.slice s1.a D.length s1.c) D.length (runeVs D))∧Hid (wr.ownsRow w.heap.size 3 1 (.slice s2.a D.length s2.c) D.length (placeVs D))∧Hid (Apart2 s1 s2)∧Hid (Ext w wr)) (fun _ _ v _=>s.size - (intOf v).toNat)
 case atStart=>exact ⟨0,s.size,Sl.none,Sl.none,[],rfl,rfl,rfl,Nat.zero_le _,Nat.zero_le _,Lib.hid ⟨rfl,by omega⟩,Lib.hid (World.ownsRow_nil _ _ _ _),Lib.hid (World.ownsRow_nil _ _ _ _),Lib.hid (fun b hb=>by cases hb),Lib.hid (Ext.refl _)⟩
 obtain ⟨p,f,s1,s2,D,rfl,rfl,rfl,hp,hDp,HD,HO1,HO2,HA,HX⟩:=hrel
 by_cases hlt:p<s.size
 ·have e1:decide ((p:Int)<(s.size:Int))=true:=decide_eq_true (by omega)
  obtain ⟨hz1,hz2,hr⟩:=decode_fits hlt
  have hre:=refA_eq s p
  go_wp2_with fail
  refine (HAT.out _ p).mono ?_
  rintro e w2 ⟨rfl,hw2⟩
  obtain rfl:=hw2.symm
  obtain ⟨r,z,hd⟩:∃ r z,Utf8.decode s p=(r,z):=⟨_,_,rfl⟩
  by_cases hb:Utf8.decode s p=(65533,1)
  ·rw [if_pos (.inr hb)] at hre
   rw [hre]
   have hfin:=HD.out.1
   rw [runesAt_bad hb,List.append_nil] at hfin
   have HF:=Lib.hid hfin
   clear hre hb hd hz1 hz2 hr hfin
   go_wp2_with fail
   go_ret2
   refine ⟨s1,_,by rw [←HF.out];rfl,?_,HX.out⟩
   rw [←HF.out]
   exact (Rd.of_own HO1.out).mono fun i hi=>hi.2
  rw [if_neg (fun h=>h.elim (fun h=>absurd h (by omega)) hb)] at hre
  rw [hre]
  have hnext:=runesAt_go hlt HD.out.2 hb
  rw [hd] at hz1 hz2 hnext ⊢
  dsimp only at hz1 hz2 hnext ⊢
  have hfin:=HD.out.1
  rw [hnext] at hfin
  have HF:=Lib.hid (show (D++[(p,r)])++runesAt s (f - 1) (p+z)=runesS s by rw [List.append_assoc];exact hfin)
  have e2:((z:Int) == 0)=false:=beq_eq_false_iff_ne.2 (by omega)
  have e3:IntKind.i64.wrap ((p:Int)+(z:Int))=(p:Int)+(z:Int):=by rw [IntKind.wrap_i64];omega
  have HFF:=Lib.hid HD.out.2
  have HZ1:=Lib.hid hz1
  have hx3:Ext wr (wr.alloc (.cells #[.int .i64 (r:Int)] 3)):=(Ext.refl _).alloc _ _
  have HBN:=Lib.hid (Blk.new wr 3 #[.int .i64 (r:Int)])
  have ho1:=own_agree HO1.out (hx3.agree fun b (h:b<wr.heap.size)=>h) fun b hb=>(own_row HO1.out hb).2
  have ho2:=own_agree HO2.out (hx3.agree fun b (h:b<wr.heap.size)=>h) fun b hb=>(own_row HO2.out hb).2
  have HOX:=Lib.hid ho1
  have HOY:=Lib.hid ho2
  have HX3:=Lib.hid (HX.out.trans hx3)
  have h63:D.length+1≤maxLen:=by unfold maxLen;omega
  have hby:(D.length+1)*8≤140737488355328:=by omega
  have hsz:=HX.out.size
  have hbase:w.heap.size≤(wr.alloc (.cells #[.int .i64 (r:Int)] 3)).heap.size:=by rw [World.size_alloc];omega
  clear hre hb hd hr hz1 hnext hfin ho1 ho2 hx3
  go_upto_region 7 with (at_builtin;refine wpList_append_x _ rfl (.tmp 21) (.tmp 23) 77 rfl w.heap.size 3 iN _ 1 8 Tryz.underlying77 nI nI0 nI1 nI2 rfl (by decide) s1 D.length (runeVs D) rfl HOX.out (fun b=>b=wr.heap.size) ⟨some ⟨wr.heap.size,0,none⟩,1⟩ 1 [.int .i64 (r:Int)] rfl (Rd.block HBN.out (by decide) rfl) (by simp [Value.oneCell']) h63 hby hbase ?_;intro s1' w6 hown6 hwr6 hs6;have HO6:=Lib.hid hown6;have HW6:=Lib.hid hwr6;have HS6:=Lib.hid hs6;clear hown6 hwr6 hs6)
  have hz6:=HW6.out.grown.size
  have hA6:Apart2 s1' s2:=HA.out.grow HOY.out (Nat.le_refl _) (HS6.out.imp id And.left)
  have ho6:=own_apart HA.out HOY.out HW6.out
  have hX6:Ext w w6:=HX3.out.wr HW6.out fun i hi=>(own_row HO1.out hi).1
  have hx7:Ext w6 (w6.alloc (.cells #[.int .i64 (p:Int)] 3)):=(Ext.refl _).alloc _ _
  have HBM:=Lib.hid (Blk.new w6 3 #[.int .i64 (p:Int)])
  have HOU:=Lib.hid (own_agree HO6.out (hx7.agree fun b (h:b<w6.heap.size)=>h) fun b hb=>(own_row HO6.out hb).2)
  have HOV:=Lib.hid (own_agree ho6 (hx7.agree fun b (h:b<w6.heap.size)=>h) fun b hb=>(own_row ho6 hb).2)
  have HX7:=Lib.hid (hX6.trans hx7)
  have HA6:=Lib.hid hA6
  have hbase7:w.heap.size≤(w6.alloc (.cells #[.int .i64 (p:Int)] 3)).heap.size:=by rw [World.size_alloc];omega
  clear hA6 ho6 hX6 hx7 HOX HOY HW6 HS6 HBN HO1 HO2 HX3 HX hsz hz6 hbase
  go_wp2_with (at_builtin;refine wpList_append_x _ rfl (.tmp 25) (.tmp 27) 77 rfl w.heap.size 3 iN _ 1 8 Tryz.underlying77 nI nI0 nI1 nI2 rfl (by decide) s2 D.length (placeVs D) rfl HOV.out (fun b=>b=w6.heap.size) ⟨some ⟨w6.heap.size,0,none⟩,1⟩ 1 [.int .i64 (p:Int)] rfl (Rd.block HBM.out (by decide) rfl) (by simp [Value.oneCell']) h63 hby hbase7 ?_;intro s2' w9 hown9 hwr9 hs9;have HO9:=Lib.hid hown9;have HW9:=Lib.hid hwr9;have HS9:=Lib.hid hs9;clear hown9 hwr9 hs9)
  go_roundw
  case rel=>
   have hA9:Apart2 s2' s1':=HA6.out.comm.grow HOU.out (Nat.le_refl _) (HS9.out.imp id And.left)
   have ho9:=own_apart HA6.out.comm HOU.out HW9.out
   have hX9:Ext w w9:=HX7.out.wr HW9.out fun i hi=>(own_row HOV.out hi).1
   have hz:=HZ1.out
   refine ⟨p+z,f - 1,s1',s2',D++[(p,r)],by rw [List.length_append];rfl,by rw [List.length_append];rfl,by go_num,hz2,?_,Lib.hid ⟨HF.out,by have:=HFF.out;omega⟩,Lib.hid ?_,Lib.hid ?_,Lib.hid hA9.comm,Lib.hid hX9⟩
   ·rw [List.length_append];show D.length+1≤_;omega
   ·rw [List.length_append,show runeVs (D++[(p,r)])=runeVs D++[.int .i64 (r:Int)] by simp [runeVs]];exact ho9
   rw [List.length_append,show placeVs (D++[(p,r)])=placeVs D++[.int .i64 (p:Int)] by simp [placeVs]];exact HO9.out
  have:=HZ1.out;simp [intOf];omega
 obtain rfl:p=s.size:=by omega
 have e1:decide ((s.size:Int)<(s.size:Int))=false:=decide_eq_false (by omega)
 have hfin:=HD.out.1
 rw [runesAt_stop (Nat.le_refl _),List.append_nil] at hfin
 have HF:=Lib.hid hfin
 clear hfin
 go_wp2_with fail
 go_ret2
 refine ⟨s1,_,by rw [←HF.out];rfl,?_,HX.out⟩
 rw [←HF.out]
 exact (Rd.of_own HO1.out).mono fun i hi=>hi.2
def codeA:Nat→Nat
 | 0=>34
 | 1=>92
 | 2=>47
 | 3=>8
 | 4=>12
 | 5=>10
 | 6=>13
 | _=>9
theorem code01_any (w:World) (k:Nat) (hk:k<8):Calls Tryz.prog 168 #[.int .i64 (k:Int)] w fun e w'=>e=.returned (.int .i64 (codeA k:Int))∧Ext w w':=by
 have hk':k=0∨k=1∨k=2∨k=3∨k=4∨k=5∨k=6∨k=7:=by omega
 clear hk
 rcases hk' with rfl | rfl | rfl | rfl | rfl | rfl | rfl | rfl
 all_goals
  go_enter Tryz.func168,Tryz.ntmps168
  go_wp2_with fail
  go_ret
  exact ⟨rfl,(Ext.refl w).alloc _ _⟩
def lenR (r:Nat):Nat:=if r<128 then 1 else if r<2048 then 2 else if r<65536 then 3 else 4
theorem lenR_enc {r:Nat} (h:r≤1114111):(Lib.encodeRune (r:Int)).length=lenR r:=by
 unfold Lib.encodeRune lenR
 rw [List.length_map]
 unfold Lib.encodeRuneZ
 by_cases h1:r<128
 ·rw [if_pos (by omega),if_pos h1];rfl
 rw [if_neg (by omega),if_neg h1]
 by_cases h2:r<2048
 ·rw [if_pos (by omega),if_pos h2];rfl
 rw [if_neg (by omega),if_neg h2]
 by_cases h3:r<65536
 ·rw [if_pos h3]
  by_cases h4:((2048:Int)≤(r:Int)∧(r:Int)<55296)∨((57343:Int)<(r:Int)∧(r:Int)≤65535)
  ·rw [if_pos h4];rfl
  rw [if_neg h4,if_neg (by omega)];rfl
 rw [if_neg (by omega),if_pos (by omega),if_neg h3];rfl
theorem conv_bytes (q:List UInt8) (W:World) (b:Nat) (cs:Array Value) (t:TypeId) (hb:Blk W b t cs) (h:cs.toList=q.map fun x=>Value.int .u8 (x.toNat:Int)):(convert 140 9 (.slice (some ⟨b,0,none⟩) q.length q.length)).run Tryz.prog W=.ok (.string ⟨q.toArray⟩) W:=
 run_convert_bytes_back (P:=Tryz.prog) W 140 9 5 ⟨b,0,none⟩ q.length q Tryz.underlying140 Tryz.underlying5 Tryz.underlying9 (fun j hj=>by
  rw [add_at,Nat.zero_add,hb.cell,←Array.getElem?_toList,h,List.getElem?_map,List.getElem?_eq_getElem hj]
  rfl)
theorem u8_nat {n:Nat} (h:n<256):((UInt8.ofNat n).toNat:Int)=(n:Int):=by
 rw [UInt8.toNat_ofNat',Nat.mod_eq_of_lt (by omega)]
theorem conv_ints (xs:List Int) (W:World) (b:Nat) (t:TypeId) (hb:Blk W b t (xs.map (Value.int .u8)).toArray) (h:∀ x∈xs,0≤x∧x<256):∃ q:ByteArray,q.size=xs.length∧(convert 140 9 (.slice (some ⟨b,0,none⟩) xs.length xs.length)).run Tryz.prog W=.ok (.string q) W:=by
 refine ⟨⟨(xs.map fun x=>UInt8.ofNat x.toNat).toArray⟩,by simp [ByteArray.size],?_⟩
 have:=conv_bytes (xs.map fun x=>UInt8.ofNat x.toNat) W b _ t hb (by
  rw [List.map_map]
  show xs.map (Value.int .u8)=_
  apply List.map_congr_left
  intro x hx
  have:=h x hx
  show Value.int .u8 x=Value.int .u8 (((UInt8.ofNat x.toNat).toNat:Nat):Int)
  rw [u8_nat (by omega)]
  congr 1;omega)
 rwa [List.length_map] at this
theorem bytes01_any (w:World) (r:Nat) (hr:r≤1114111):Calls Tryz.prog 169 #[.int .i64 (r:Int)] w fun e w'=>∃ t:ByteArray,e=.returned (.string t)∧t.size=lenR r∧Ext w w':=by
 go_enter Tryz.func169,Tryz.ntmps169
 by_cases h1:r<128
 ·have e1:decide ((r:Int)<128)=true:=decide_eq_true (by omega)
  have e2:IntKind.u8.wrap (r:Int)=(r:Int):=by rw [IntKind.wrap_u8];omega
  have hcv:(convert 140 9 (.slice (some ⟨w.heap.size,0,none⟩) 1 1)).run Tryz.prog (w.alloc (.cells #[.int .u8 (r:Int)] 5))=.ok (.string ⟨#[UInt8.ofNat r]⟩) (w.alloc (.cells #[.int .u8 (r:Int)] 5)):=
   conv_bytes [UInt8.ofNat r] _ _ _ _ (Blk.new w 5 #[.int .u8 (r:Int)]) (by rw [List.map_cons,u8_nat (by omega)];rfl)
  have HL:=Lib.hid (show 1=lenR r by unfold lenR;rw [if_pos h1])
  clear h1 hr
  go_wp2_with fail
  go_ret
  exact ⟨_,rfl,HL.out,(Ext.refl w).alloc _ _⟩
 have f1:decide ((r:Int)<128)=false:=decide_eq_false (by omega)
 by_cases h2:r<2048
 ·have e1:decide ((r:Int)<2048)=true:=decide_eq_true (by omega)
  obtain ⟨q,hq,hcv⟩:∃ q:ByteArray,q.size=2∧(convert 140 9 (.slice (some ⟨w.heap.size,0,none⟩) 2 2)).run Tryz.prog (w.alloc (.cells #[.int .u8 (192+(r:Int) / 64),.int .u8 (128+(r:Int) % 64)] 5))=.ok (.string q) (w.alloc (.cells #[.int .u8 (192+(r:Int) / 64),.int .u8 (128+(r:Int) % 64)] 5)):=
   conv_ints [192+(r:Int) / 64,128+(r:Int) % 64] _ _ _ (Blk.new w 5 #[.int .u8 (192+(r:Int) / 64),.int .u8 (128+(r:Int) % 64)]) (by intro x hx;simp only [List.mem_cons,List.not_mem_nil,or_false] at hx;rcases hx with rfl | rfl <;> omega)
  have HL:=Lib.hid (show q.size=lenR r by unfold lenR;rw [hq];rw [if_neg h1,if_pos h2])
  clear hq
  go_wp2_with fail
  go_ret
  exact ⟨_,rfl,HL.out,(Ext.refl w).alloc _ _⟩
 have f2:decide ((r:Int)<2048)=false:=decide_eq_false (by omega)
 by_cases h3:r<65536
 ·have e1:decide ((r:Int)<65536)=true:=decide_eq_true (by omega)
  obtain ⟨q,hq,hcv⟩:∃ q:ByteArray,q.size=3∧(convert 140 9 (.slice (some ⟨w.heap.size,0,none⟩) 3 3)).run Tryz.prog (w.alloc (.cells #[.int .u8 (224+(r:Int) / 4096),.int .u8 (128+(r:Int) / 64 % 64),.int .u8 (128+(r:Int) % 64)] 5))=.ok (.string q) (w.alloc (.cells #[.int .u8 (224+(r:Int) / 4096),.int .u8 (128+(r:Int) / 64 % 64),.int .u8 (128+(r:Int) % 64)] 5)):=
   conv_ints [224+(r:Int) / 4096,128+(r:Int) / 64 % 64,128+(r:Int) % 64] _ _ _ (Blk.new w 5 #[.int .u8 (224+(r:Int) / 4096),.int .u8 (128+(r:Int) / 64 % 64),.int .u8 (128+(r:Int) % 64)]) (by intro x hx;simp only [List.mem_cons,List.not_mem_nil,or_false] at hx;rcases hx with rfl | rfl | rfl <;> omega)
  have HL:=Lib.hid (show q.size=lenR r by unfold lenR;rw [hq];rw [if_neg h1,if_neg h2,if_pos h3])
  clear hq
  go_wp2_with fail
  go_ret
  exact ⟨_,rfl,HL.out,(Ext.refl w).alloc _ _⟩
 have e1:decide ((r:Int)<65536)=false:=decide_eq_false (by omega)
 obtain ⟨q,hq,hcv⟩:∃ q:ByteArray,q.size=4∧(convert 140 9 (.slice (some ⟨w.heap.size,0,none⟩) 4 4)).run Tryz.prog (w.alloc (.cells #[.int .u8 (240+(r:Int) / 262144),.int .u8 (128+(r:Int) / 4096 % 64),.int .u8 (128+(r:Int) / 64 % 64),.int .u8 (128+(r:Int) % 64)] 5))=.ok (.string q) (w.alloc (.cells #[.int .u8 (240+(r:Int) / 262144),.int .u8 (128+(r:Int) / 4096 % 64),.int .u8 (128+(r:Int) / 64 % 64),.int .u8 (128+(r:Int) % 64)] 5)):=
  conv_ints [240+(r:Int) / 262144,128+(r:Int) / 4096 % 64,128+(r:Int) / 64 % 64,128+(r:Int) % 64] _ _ _ (Blk.new w 5 #[.int .u8 (240+(r:Int) / 262144),.int .u8 (128+(r:Int) / 4096 % 64),.int .u8 (128+(r:Int) / 64 % 64),.int .u8 (128+(r:Int) % 64)]) (by intro x hx;simp only [List.mem_cons,List.not_mem_nil,or_false] at hx;rcases hx with rfl | rfl | rfl | rfl <;> omega)
 have HL:=Lib.hid (show q.size=lenR r by unfold lenR;rw [hq];rw [if_neg h1,if_neg h2,if_neg h3])
 clear hq
 go_wp2_with fail
 go_ret
 exact ⟨_,rfl,HL.out,(Ext.refl w).alloc _ _⟩
theorem quote_hit {r k:Nat} (hk:k<8) (h2:k≠2) (h:codeA k=r):(quoteR r).length=2:=by
 have hk':k=0∨k=1∨k=3∨k=4∨k=5∨k=6∨k=7:=by omega
 subst h
 rcases hk' with rfl | rfl | rfl | rfl | rfl | rfl | rfl <;> rfl
theorem quote_miss {r:Nat} (h:∀ i,i<8→i=2∨codeA i≠r) (hr:r≤1114111):(quoteR r).length=if r<32 then 6 else lenR r:=by
 have h0:34≠r:=(h 0 (by decide)).resolve_left (by decide)
 have h1:92≠r:=(h 1 (by decide)).resolve_left (by decide)
 have h3:8≠r:=(h 3 (by decide)).resolve_left (by decide)
 have h4:12≠r:=(h 4 (by decide)).resolve_left (by decide)
 have h5:10≠r:=(h 5 (by decide)).resolve_left (by decide)
 have h6:13≠r:=(h 6 (by decide)).resolve_left (by decide)
 have h7:9≠r:=(h 7 (by decide)).resolve_left (by decide)
 unfold quoteR standsR
 by_cases hs:r<32
 ·rw [if_pos hs,if_neg (by simp;omega)]
  unfold letterR
  rw [if_neg (Ne.symm h0),if_neg (Ne.symm h1),if_neg (Ne.symm h3),if_neg (Ne.symm h7),if_neg (Ne.symm h5),if_neg (Ne.symm h4),if_neg (Ne.symm h6)]
  rfl
 rw [if_neg hs,if_pos (by simp;omega),lenR_enc hr]
def MissTo (r k:Nat):Prop:=∀ i,i<k→i=2∨codeA i≠r
theorem quote01_any (w:World) (s:ByteArray) (hs:s.size≤100000000) (hv:Lib.validD s.data.toList=true):Calls Tryz.prog 119 #[.string s] w fun e w'=>∃ t:ByteArray,e=.returned (.tuple #[.string t,.int .i64 0])∧t.size=(quoteS s).length∧Ext w w':=by
 have hval:=valid01_any w s (by omega)
 rw [hv] at hval
 have hrun:=runes01_any w s (by omega)
 have HVAL:=Lib.hid hval
 have HRUN:=Lib.hid hrun
 clear hval hrun hv
 go_enter Tryz.func119,Tryz.ntmps119
 go_wp2_with fail
 refine HVAL.out.mono ?_
 rintro e w1 ⟨rfl,hw⟩
 obtain rfl:=hw.symm
 go_wp2_with fail
 refine HRUN.out.mono ?_
 rintro e w1 ⟨s1,v2,rfl,hrd,hx1⟩
 have hDs:∀ x∈runesS s,x.2≤1114111:=fun x hx=>(runesAt_rune hx).1
 have hlen:(runesS s).length≤s.size:=Nat.le_trans (runesAt_len s s.size 0) (Nat.sub_le _ _)
 obtain ⟨Q,hQ⟩:∃ Q,(quoteS s).length=Q:=⟨_,rfl⟩
 have hQ':Q=(quoteL (runesS s)).length+2:=by rw [←hQ];unfold quoteS;simp
 have HQ:=Lib.hid hQ
 generalize runesS s=D at hDs hlen hQ' hrd
 obtain ⟨b,o,hsl,hdl,hcl⟩:=hrd
 have HSL:=Lib.hid hsl
 have HCL:=Lib.hid hcl
 have HDS:=Lib.hid hDs
 have HX1:=Lib.hid hx1
 have HQ':=Lib.hid hQ'
 clear hQ hQ' hDs hsl hdl hcl hx1 HVAL HRUN
 go_wp2_with fail
 go_loopw [4,8] (fun ou qq wr=>∃ (j:Nat) (t:ByteArray),ou=.string t∧qq=.int .i64 (j:Int)∧j≤D.length∧Hid (t.size=1+(quoteL (D.take j)).length)∧Hid (Ext w1 wr)) (fun _ qq _=>D.length - (intOf qq).toNat)
 case atStart=>exact ⟨0,_,rfl,rfl,Nat.zero_le _,Lib.hid rfl,Lib.hid (Ext.refl _)⟩
 obtain ⟨j,t,rfl,rfl,hj,HT,HX⟩:=hrel
 by_cases hlt:j<D.length
 ·have e1:decide ((j:Int)<(D.length:Int))=true:=decide_eq_true (by omega)
  have e1':(j:Int)<(D.length:Int):=by omega
  obtain ⟨x,hx⟩:∃ x,D[j]? = some x:=⟨_,List.getElem?_eq_getElem hlt⟩
  obtain ⟨p,r⟩:=x
  have htl:t.size≤1000000000:=by
   have h1:=quoteL_len (D.take j)
   rw [HT.out]
   rw [List.length_take] at h1
   omega
  have hr:r≤1114111:=HDS.out _ (List.mem_of_getElem? hx)
  obtain ⟨hsa,hlc,hcm⟩:=HSL.out.eq (by omega)
  have hbl:=HSL.out.fits (show 0<D.length by omega)
  obtain ⟨sa,sc⟩:=s1
  dsimp only at hsa hlc hcm
  subst hsa
  have c0:wr.cell? ⟨b,o+j,none⟩=some (.int .i64 (r:Int)):=(HX.out.agree fun b (h:Lt w1.heap.size b)=>h).cell hbl |>.trans (HCL.out j _ (by unfold runeVs;rw [List.getElem?_map,hx];rfl))
  have lb:b<wr.heap.size:=Nat.lt_of_lt_of_le hbl HX.out.size
  have HXJ:=Lib.hid hx
  clear hx
  go_wp2_with fail
  have HCODE:=Lib.hid (fun (W:World) (k:Nat) (hk:k<8)=>code01_any W k hk)
  clear c0 lb hbl
  go_loopw [10] (fun kk wr=>∃ k:Nat,kk=.int .i64 (k:Int)∧k≤8∧Hid (MissTo r k)∧Hid (Ext w1 wr)) (fun kk _=>8 - (intOf kk).toNat)
  case atStart=>exact ⟨0,rfl,Nat.zero_le _,Lib.hid (fun i hi=>absurd hi (Nat.not_lt_zero _)),HX⟩
  clear HX
  obtain ⟨k,rfl,hk,HM,HX⟩:=hrel
  by_cases hk8:k<8
  ·have f1:decide ((k:Int)<8)=true:=decide_eq_true (by omega)
   by_cases hk2:k=2
   ·subst hk2
    have HM3:=Lib.hid (show MissTo r (2+1) from fun i hi=>by by_cases h:i<2;exact HM.out i h;exact .inl (by omega))
    go_wp2_with fail
    go_roundw
    case rel=>exact ⟨2+1,by go_num,by decide,HM3,HX⟩
    simp [intOf]
   have f2:((k:Int) == 2)=false:=beq_eq_false_iff_ne.2 (by omega)
   go_wp2_with fail
   refine (HCODE.out _ k hk8).mono ?_
   rintro e w2 ⟨rfl,hx2⟩
   have HX2:=Lib.hid (HX.out.trans hx2)
   clear hx2
   by_cases hc:codeA k=r
   ·have HHIT:=Lib.hid (quote_hit hk8 hk2 hc)
    have f3:((codeA k:Int) != (r:Int))=false:=by rw [hc];simp
    have s1:¬9223372036854775807<t.size+1:=by omega
    have s2:¬9223372036854775807<t.size+1+(min (k+1) 8 - k):=by omega
    clear hc
    go_wp2_with fail
    go_roundw
    case rel=>
     refine ⟨j+1,_,rfl,by go_num,hlt,Lib.hid ?_,HX2⟩
     rw [List.take_add_one,HXJ.out,Option.toList_some,quoteL_snoc,List.length_append,HHIT.out,ByteArray.size_append,ByteArray.size_append,ByteArray.size_extract,HT.out]
     show _+1+(min (k+1) 8 - k)=_
     omega
    simp [intOf];omega
   have f3:((codeA k:Int) != (r:Int))=true:=by simp;omega
   have HM3:=Lib.hid (show MissTo r (k+1) from fun i hi=>by by_cases h:i<k;exact HM.out i h;exact .inr (by rw [show i=k by omega];exact hc))
   clear hc
   go_wp2_with fail
   go_roundw
   case rel=>exact ⟨k+1,by go_num,hk8,HM3,HX2⟩
   simp [intOf];omega
  obtain rfl:k=8:=by omega
  have HMISS:=Lib.hid (quote_miss HM.out hr)
  by_cases hr32:r<32
  ·have f3:decide ((r:Int)<32)=true:=decide_eq_true (by omega)
   have s1:¬9223372036854775807<t.size+4:=by omega
   go_wp2_with fail
   go_quiet (fail)
   go_wp2_with fail
   go_roundw
   case rel=>
    refine ⟨j+1,_,rfl,by go_num,hlt,Lib.hid ?_,Lib.hid (HX.out.trans ((Ext.refl wr).drewN _))⟩
    rw [List.take_add_one,HXJ.out,Option.toList_some,quoteL_snoc,List.length_append,HMISS.out,if_pos hr32,ByteArray.size_append,ByteArray.size_append,ByteArray.size_append,ByteArray.size_extract,ByteArray.size_extract,HT.out]
    show _+4+(min (r / 16+1) 16 - r / 16)+(min (r % 16+1) 16 - r % 16)=_
    omega
   simp [intOf];omega
  have f3:decide ((r:Int)<32)=false:=decide_eq_false (by omega)
  have hbt:=bytes01_any wr r hr
  have hlr:lenR r≤4:=by unfold lenR;split;decide;split;decide;split <;> decide
  have HBT:=Lib.hid hbt
  clear hbt
  go_wp2_with fail
  refine HBT.out.mono ?_
  rintro e w2 ⟨q,rfl,hq,hx2⟩
  have s1:¬9223372036854775807<t.size+q.size:=by omega
  have HQS:=Lib.hid hq
  have HX2:=Lib.hid (HX.out.trans hx2)
  clear hx2 hq HBT
  go_wp2_with fail
  go_roundw
  case rel=>
   refine ⟨j+1,_,rfl,by go_num,hlt,Lib.hid ?_,HX2⟩
   rw [List.take_add_one,HXJ.out,Option.toList_some,quoteL_snoc,List.length_append,HMISS.out,if_neg hr32,ByteArray.size_append,HT.out,HQS.out]
   omega
  simp [intOf];omega
 obtain rfl:j=D.length:=by omega
 have e1:decide ((D.length:Int)<(D.length:Int))=false:=decide_eq_false (by omega)
 have htl:t.size≤1000000000:=by
  have h1:=quoteL_len (D.take D.length)
  rw [HT.out]
  rw [List.length_take] at h1
  omega
 have s1:¬9223372036854775807<t.size+1:=by omega
 have hT:=HT.out
 rw [List.take_length] at hT
 have HFIN:=Lib.hid (show t.size+1=(quoteS s).length by rw [HQ.out,HQ'.out,hT];omega)
 clear hT
 go_wp2_with fail
 go_ret2
 exact ⟨_,rfl,by rw [ByteArray.size_append];exact HFIN.out,HX1.out.trans HX.out⟩
def nd (u:Nat):Nat:=if u=0 then 0 else Lib.nDigits u
theorem nd_step {u:Nat} (h:u≠0):nd u=nd (u / 10)+1:=by
 unfold nd
 rw [if_neg h]
 by_cases h1:u<10
 ·rw [Lib.nDigits_small h1,if_pos (by omega)]
 rw [Lib.nDigits_big h1,if_neg (by omega)]
theorem digits03_any (w:World) (n:Int) (h0 : -9223372036854775808≤n) (h1:n≤9223372036854775807):Calls Tryz.prog 118 #[.int .i64 n] w fun e w'=>∃ t:ByteArray,e=.returned (.string t)∧t.size=(Lib.itoa n).length∧Ext w w':=by
 by_cases hz:n=0
 ·subst hz
  go_enter Tryz.func118,Tryz.ntmps118
  go_wp2_with fail
  go_ret
  refine ⟨_,rfl,?_,Ext.refl _⟩
  rw [show Lib.itoa 0=Lib.decDigits 0 from rfl,Lib.decDigits_length,Lib.nDigits_small (by decide)]
  rfl
 have hzb:(n == 0)=false:=by simpa using hz
 go_enter Tryz.func118,Tryz.ntmps118
 go_wp2_with fail
 have hn20:nd n.natAbs≤20:=by unfold nd;rw [if_neg (by omega)];exact Lib.nDigits_le20 _ (by omega)
 have hlen:(Lib.itoa n).length=if n<0 then 1+nd n.natAbs else nd n.natAbs:=by
  rw [show nd n.natAbs=Lib.nDigits n.natAbs by unfold nd;rw [if_neg (by omega)]]
  unfold Lib.itoa
  by_cases hneg:n<0
  ·rw [if_pos hneg,if_pos hneg,List.length_cons,Lib.decDigits_length];omega
  rw [if_neg hneg,if_neg hneg,Lib.decDigits_length,show n.toNat=n.natAbs by omega]
 have HLEN:=Lib.hid hlen
 clear hlen
 go_loopw [3,4] (fun sv mv wr=>∃ (t:ByteArray) (m:Int),sv=.string t∧mv=.int .i64 m∧-9223372036854775808≤m∧m≤9223372036854775807∧Hid (t.size+nd m.natAbs=nd n.natAbs)∧Hid (Ext w wr)) (fun _ mv _=>(intOf mv).natAbs)
 case atStart=>exact ⟨_,n,rfl,rfl,h0,h1,Lib.hid (Nat.zero_add _),Lib.hid (Ext.refl _)⟩
 obtain ⟨t,m,rfl,rfl,hm0,hm1,HT,HX⟩:=hrel
 have htl:t.size≤20:=by have:=HT.out;omega
 by_cases hm:m=0
 ·subst hm
  have hT:t.size=nd n.natAbs:=HT.out
  by_cases hneg:n<0
  ·have g1:decide (n<0)=true:=decide_eq_true hneg
   have s1:¬9223372036854775807<1+t.size:=by omega
   have HS:=Lib.hid (show 1+t.size=(Lib.itoa n).length by rw [HLEN.out,if_pos hneg,hT])
   clear hT
   go_wp2_with fail
   go_ret
   exact ⟨_,rfl,by rw [ByteArray.size_append];exact HS.out,HX.out⟩
  have g1:decide (n<0)=false:=decide_eq_false hneg
  have HS:=Lib.hid (show t.size=(Lib.itoa n).length by rw [HLEN.out,if_neg hneg,hT])
  clear hT
  go_wp2_with fail
  go_ret
  exact ⟨_,rfl,HS.out,HX.out⟩
 by_cases hneg:m<0
 ·obtain ⟨u,rfl⟩:∃ u:Nat,m = -(u:Int):=⟨m.natAbs,by omega⟩
  have g0:(-(u:Int) != 0)=true:=by simpa using hm
  have hT:t.size+nd u=nd n.natAbs:=by have:=HT.out;rwa [show (-(u:Int)).natAbs=u by omega] at this
  rw [nd_step (by omega)] at hT
  have HT2:=Lib.hid (show 1+t.size+nd (-((u:Int) / 10)).natAbs=nd n.natAbs by rw [show (-((u:Int) / 10)).natAbs=u / 10 by omega];omega)
  have s1:¬9223372036854775807<min (u % 10+1) 10 - u % 10+t.size:=by omega
  have s2:¬9223372036854775807<1+t.size:=by omega
  by_cases hq:u % 10=0
  ·have g1:((u:Int) % 10)=0:=by omega
   clear hT
   go_wp2_with fail
   go_roundw
   case rel=>
    refine ⟨_,_,rfl,rfl,by omega,by omega,Lib.hid ?_,HX⟩
    rw [ByteArray.size_append];exact HT2.out
   simp [intOf];omega
  have g1:decide ((0:Int)<(u:Int) % 10)=true:=decide_eq_true (by omega)
  clear hT
  go_wp2_with fail
  go_roundw
  case rel=>
   refine ⟨_,_,rfl,rfl,by omega,by omega,Lib.hid ?_,HX⟩
   rw [ByteArray.size_append,ByteArray.size_extract]
   show min (u % 10+1) 10 - u % 10+t.size+_=_
   have:=HT2.out
   omega
  simp [intOf];omega
 obtain ⟨u,rfl⟩:∃ u:Nat,m=(u:Int):=⟨m.toNat,by omega⟩
 have g0:((u:Int) != 0)=true:=by simpa using hm
 have hT:t.size+nd u=nd n.natAbs:=HT.out
 rw [nd_step (by omega)] at hT
 have HT2:=Lib.hid (show 1+t.size+nd ((u:Int) / 10).natAbs=nd n.natAbs by rw [show ((u:Int) / 10).natAbs=u / 10 by omega];omega)
 have s1:¬9223372036854775807<min (u % 10+1) 10 - u % 10+t.size:=by omega
 clear hT
 go_wp2_with fail
 go_roundw
 case rel=>
  refine ⟨_,_,rfl,rfl,by omega,by omega,Lib.hid ?_,HX⟩
  rw [ByteArray.size_append,ByteArray.size_extract]
  show min (u % 10+1) 10 - u % 10+t.size+_=_
  have:=HT2.out
  omega
 simp [intOf];omega
theorem mayL_all:∀ {l:List Val} {q j:Nat} {d:Val},mayLV l q=0→l[j]? = some d→mayV d q=0
 | [],q,j,d,_,h=>by simp at h
 | x :: r,q,j,d,h0,h=>by
   rw [mayLV] at h0
   by_cases hx:mayV x q=0
   ·rw [if_neg (by simp [hx])] at h0
    cases j with
    | zero=>simp at h;subst h;exact hx
    | succ j=>exact mayL_all h0 (by simpa using h)
   rw [if_pos hx] at h0
   exact absurd h0 hx
theorem mayM_all:∀ {p:Option ByteArray} {ks:List ByteArray} {l:List Val} {q j:Nat} {d:Val} {k:ByteArray},mayM p ks l q=0→l[j]? = some d→ks[j]? = some k→Lib.validD k.data.toList=true∧mayV d q=0
 | p,ks,[],q,j,d,k,_,h,_=>by simp at h
 | p,[],x :: r,q,j,d,k,_,_,hk=>by simp at hk
 | p,y :: ks,x :: r,q,j,d,k,h0,h,hk=>by
   rw [mayM,List.headD_cons,List.tail_cons] at h0
   cases hv:Lib.validD y.data.toList with
   | false=>rw [hv,if_pos (by decide)] at h0;cases h0
   | true=>
   rw [hv,if_neg (by decide)] at h0
   split at h0
   ·cases h0
   by_cases hx:mayV x q=0
   ·rw [if_neg (by simp [hx])] at h0
    cases j with
    | zero=>simp at h hk;subst h hk;exact ⟨hv,hx⟩
    | succ j=>exact mayM_all h0 (by simpa using h) (by simpa using hk)
   rw [if_pos hx] at h0
   exact absurd h0 hx
theorem may_parts {k:Int} {b:Bool} {i:Int} {t:ByteArray} {l:List Val} {ok:List ByteArray} {ov:List Val} {q:Nat} (hov:ov.length=ok.length) (h:mayV (.mk k b i t l ok ov) q=0) :
  (1≤k∧k≤6)∧Lib.validD t.data.toList=true∧mayLV l (q+1)=0∧mayM none ok ov (q+1)=0:=by
 rw [may_uni _ _ _ _ _ _ _ _ hov] at h
 split at h
 ·cases h
 rename_i ho
 split at h
 ·cases h
 split at h
 ·cases h
 rename_i hv
 split at h
 ·rename_i h1;exact absurd h h1
 rename_i h1
 refine ⟨?_,by simpa using hv,by simpa using h1,h⟩
 unfold oddS at ho
 by_cases hk:k<1∨6<k
 ·rw [if_pos hk] at ho;exact absurd rfl ho
 omega
theorem quoteA_valid {t:ByteArray} (h:Lib.validD t.data.toList=true):(quoteA t).size=(quoteS t).length:=by
 unfold quoteA
 rw [if_pos h]
 show (quoteS t).toArray.size=_
 rw [List.size_toArray]
theorem textAt03 (m:Nat):∀ (d:Val),SizeOf.sizeOf d≤m→cntV d≤1100000→∀ (q:Nat),mayV d q=0→∀ (w:World) (sl so:Sl),RV w (Lt w.heap.size) d sl so→
  Calls Tryz.prog 79 #[aggV d sl so] w fun e w'=>∃ t:ByteArray,e=.returned (.string t)∧t.size=lenV d∧Ext w w':=by
 induction m with
 | zero=>intro d hd;have:=Val.sz_pos d;omega
 | succ m ih=>
 intro d hd hcn q hmay w sl so h
 have HI:=Lib.hid ih
 have hlc:=lenV_cnt _ w d sl so h
 clear ih
 obtain ⟨k,b,i,t,l,ok,ov⟩:=d
 show Calls _ _ #[.agg #[.int .i64 k,.bool b,.int .i64 i,.string t,.slice sl.a l.length sl.c,.slice so.a ok.length so.c]] _ _
 cases h with
 | mk bl fl bo fo cl co hl ho hov el rl ek eo ro bk bi bt nl no=>
 have hsl:∀ (j:Nat) (d:Val),l[j]? = some d→SizeOf.sizeOf d≤m:=fun j d hj=>Nat.le_of_lt_succ (Nat.lt_of_lt_of_le (Val.sz_l hj) hd)
 have hso:∀ (j:Nat) (d:Val),ov[j]? = some d→SizeOf.sizeOf d≤m:=fun j d hj=>Nat.le_of_lt_succ (Nat.lt_of_lt_of_le (Val.sz_o hj) hd)
 obtain ⟨hk16,hvt,hml,hmm⟩:=may_parts hov hmay
 have hlen:lenV (.mk k b i t l ok ov)≤6600000:=by omega
 unfold cntV at hcn
 have hi0 : -9223372036854775808≤i:=by simp [Lit.wf,IntKind.min,IntKind.max,IntKind.signed,IntKind.bits] at bi;omega
 have hi1:i≤9223372036854775807:=by simp [Lit.wf,IntKind.min,IntKind.max,IntKind.signed,IntKind.bits] at bi;omega
 have HSL:=Lib.hid hsl
 have HSO:=Lib.hid hso
 have HEL:=Lib.hid el
 have HRL:=Lib.hid rl
 have HEK:=Lib.hid ek
 have HEO:=Lib.hid eo
 have HRO:=Lib.hid ro
 have HOV:=Lib.hid hov
 have HSLA:=Lib.hid hl
 have HSOA:=Lib.hid ho
 have HCN:=Lib.hid hcn
 have HML:=Lib.hid hml
 have HMM:=Lib.hid hmm
 have hx0:=(Ext.refl w).alloc #[.int .i64 k,.bool b,.int .i64 i,.string t,.slice sl.a l.length sl.c,.slice so.a ok.length so.c] 34
 have hb0:=Blk.new w 34 #[.int .i64 k,.bool b,.int .i64 i,.string t,.slice sl.a l.length sl.c,.slice so.a ok.length so.c]
 have HX0:=Lib.hid hx0
 have HB0:=Lib.hid hb0
 clear hsl hso el rl ek eo ro hov hl ho hml hmm hmay hd hlc bi bk hx0 hb0
 obtain ⟨n,hn⟩:∃ n,lenV (.mk k b i t l ok ov)=n:=⟨_,rfl⟩
 rw [hn] at hlen ⊢
 unfold lenV at hn
 go_enter Tryz.func79,Tryz.ntmps79
 have hk':k=1∨k=2∨k=3∨k=4∨k=5∨k=6:=by omega
 clear hk16
 rcases hk' with rfl | rfl | rfl | rfl | rfl | rfl
 ·have HN:=Lib.hid (show 4=n from hn)
  clear hn
  go_wp2_with fail
  go_ret
  exact ⟨_,rfl,HN.out,HX0.out⟩
 ·have HN:=Lib.hid (show lenB b=n from hn)
  clear hn
  cases b
  ·go_wp2_with fail
   go_ret
   exact ⟨_,rfl,HN.out,HX0.out⟩
  go_wp2_with fail
  go_ret
  exact ⟨_,rfl,HN.out,HX0.out⟩
 ·have HN:=Lib.hid (show (Lib.itoa i).length=n from hn)
  have HD:=Lib.hid (digits03_any (w.alloc (.cells #[.int .i64 3,.bool b,.int .i64 i,.string t,.slice sl.a l.length sl.c,.slice so.a ok.length so.c] 34)) i hi0 hi1)
  clear hn
  go_wp2_with fail
  refine HD.out.mono ?_
  rintro e w2 ⟨u,rfl,hu,hx2⟩
  have HU:=Lib.hid (hu.trans HN.out)
  have HX2:=Lib.hid (HX0.out.trans hx2)
  clear hu hx2
  go_wp2_with fail
  go_ret
  exact ⟨_,rfl,HU.out,HX2.out⟩
 ·have HN:=Lib.hid (show (quoteA t).size=n from hn)
  have HD:=Lib.hid (quote01_any (w.alloc (.cells #[.int .i64 4,.bool b,.int .i64 i,.string t,.slice sl.a l.length sl.c,.slice so.a ok.length so.c] 34)) t (by have:=HCN.out;omega) hvt)
  have HQ:=Lib.hid (quoteA_valid hvt)
  clear hn hvt
  go_wp2_with fail
  refine HD.out.mono ?_
  rintro e w2 ⟨u,rfl,hu,hx2⟩
  have HU:=Lib.hid (show u.size=n by rw [hu,←HQ.out,HN.out])
  have HX2:=Lib.hid (HX0.out.trans hx2)
  clear hu hx2
  go_wp2_with fail
  go_ret
  exact ⟨_,rfl,HU.out,HX2.out⟩
 ·have HN:=Lib.hid (show 2+lenL l+(l.length - 1)=n from hn)
  clear hn
  go_wp2_with fail
  generalize hW0:World.alloc w _=w1
  rw [hW0] at HX0 HB0
  clear hW0
  go_loopw [5,6] (fun sv qq wr=>∃ (j:Nat) (u:ByteArray),sv=.string u∧qq=.int .i64 j∧j≤l.length∧Hid (u.size=1+lenL (l.take j)+(j - 1))∧Hid (Ext w1 wr)) (fun _ qq _=>l.length - (intOf qq).toNat)
  case atStart=>exact ⟨0,_,rfl,rfl,Nat.zero_le _,Lib.hid rfl,Lib.hid (Ext.refl _)⟩
  obtain ⟨j,u,rfl,rfl,hj,HU,HX⟩:=hrel
  obtain ⟨p0,p1,p2,p3,p4,p5⟩:=(HB0.out.ext HX.out).c6
  have lp:=(HB0.out.ext HX.out).lt
  have hul:u.size≤7000000:=by have:=HU.out;have:=lenL_cut l j;have:=HN.out;omega
  by_cases hlt:j<l.length
  ·have g1:(j:Int)<(l.length:Int):=by omega
   have g1':decide ((j:Int)<(l.length:Int))=true:=decide_eq_true g1
   obtain ⟨d,hd⟩:∃ d,l[j]? = some d:=⟨_,List.getElem?_eq_getElem hlt⟩
   have hnw:Ext w wr:=HX0.out.trans HX.out
   have hag:Agree (Lt w.heap.size) w wr:=hnw.agree fun _ h=>h
   obtain ⟨hsa,hlc,hcm⟩:=HSLA.out.eq (by omega)
   have hbl:=HSLA.out.fits (show 0<l.length by omega)
   obtain ⟨sa,sc⟩:=sl
   dsimp only at hsa hlc hcm
   subst hsa
   obtain ⟨v0,v1,v2,v3,v4,v5⟩:=(HEL.out j d hd).agree hag hbl
   have lb:bl<wr.heap.size:=Nat.lt_of_lt_of_le hbl hnw.size
   have hic:Calls Tryz.prog 79 #[aggV d (cl j).1 (cl j).2] wr fun e w'=>∃ t:ByteArray,e=.returned (.string t)∧t.size=lenV d∧Ext wr w':=
    HI.out d (HSL.out j d hd) (by have:=cntL_at hd;have:=HCN.out;omega) _ (mayL_all HML.out hd) wr _ _ (((HRL.out j d hd).agree hag).mono fun i hi=>Nat.lt_of_lt_of_le hi hnw.size)
   have htk:=lenL_take hd
   have hld:lenV d≤7000000:=by have:=lenL_cut l (j+1);have:=HN.out;omega
   have HIC:=Lib.hid hic
   have HTK:=Lib.hid htk
   clear hd hnw hag hic htk
   by_cases hj0:j=0
   ·have gg:decide ((0:Int)<(j:Int))=false:=decide_eq_false (by omega)
    have HJ0:=Lib.hid hj0
    have gn:¬0<j:=by omega
    have gi:¬(0:Int)<(j:Int):=by omega
    clear hj0
    go_wp2_with fail
    refine HIC.out.mono ?_
    rintro e w2 ⟨x,rfl,hx,hx2⟩
    have s1:¬9223372036854775807<u.size+x.size:=by omega
    have HX2:=Lib.hid (HX.out.trans hx2)
    have HS:=Lib.hid (show u.size+x.size=1+lenL (l.take (j+1))+(j+1 - 1) by have:=HJ0.out;have:=HU.out;rw [HTK.out,hx];omega)
    clear hx2 hx HIC v0 v1 v2 v3 v4 v5 p0 p1 p2 p3 p4 p5
    go_wp2_with fail
    go_roundw
    case rel=>exact ⟨j+1,_,rfl,by go_num,hlt,Lib.hid (by rw [ByteArray.size_append];exact HS.out),HX2⟩
    simp [intOf];omega
   have gg:decide ((0:Int)<(j:Int))=true:=decide_eq_true (by omega)
   have s0:¬9223372036854775807<u.size+1:=by omega
   go_wp2_with fail
   refine HIC.out.mono ?_
   rintro e w2 ⟨x,rfl,hx,hx2⟩
   have s1:¬9223372036854775807<u.size+1+x.size:=by omega
   have HX2:=Lib.hid (HX.out.trans hx2)
   have HS:=Lib.hid (show u.size+1+x.size=1+lenL (l.take (j+1))+(j+1 - 1) by have:=HU.out;rw [HTK.out,hx];omega)
   clear hx2 hx HIC v0 v1 v2 v3 v4 v5 p0 p1 p2 p3 p4 p5
   go_wp2_with fail
   go_roundw
   case rel=>exact ⟨j+1,_,rfl,by go_num,hlt,Lib.hid (by rw [ByteArray.size_append,ByteArray.size_append];exact HS.out),HX2⟩
   simp [intOf];omega
  obtain rfl:j=l.length:=by omega
  have g1:decide ((l.length:Int)<(l.length:Int))=false:=decide_eq_false (by omega)
  have s1:¬9223372036854775807<u.size+1:=by omega
  have HS:=Lib.hid (show u.size+1=n by have:=HU.out;rw [List.take_length] at this;have:=HN.out;omega)
  have HX2:=Lib.hid (HX0.out.trans HX.out)
  go_wp2_with fail
  go_ret
  exact ⟨_,rfl,by rw [ByteArray.size_append];exact HS.out,HX2.out⟩
 have HN:=Lib.hid (show 2+lenM ok ov+(ov.length - 1)=n from hn)
 clear hn
 go_wp2_with fail
 generalize hW0:World.alloc w _=w1
 rw [hW0] at HX0 HB0
 clear hW0
 go_loopw [7,8] (fun sv qq wr=>∃ (j:Nat) (u:ByteArray),sv=.string u∧qq=.int .i64 j∧j≤ok.length∧Hid (u.size=1+lenM ok (ov.take j)+(j - 1))∧Hid (Ext w1 wr)) (fun _ qq _=>ok.length - (intOf qq).toNat)
 case atStart=>exact ⟨0,_,rfl,rfl,Nat.zero_le _,Lib.hid (by rw [List.take_zero,lenM];rfl),Lib.hid (Ext.refl _)⟩
 obtain ⟨j,u,rfl,rfl,hj,HU,HX⟩:=hrel
 obtain ⟨p0,p1,p2,p3,p4,p5⟩:=(HB0.out.ext HX.out).c6
 have lp:=(HB0.out.ext HX.out).lt
 have hul:u.size≤7000000:=by have:=HU.out;have:=lenM_cut ok ov j;have:=HN.out;have:=HOV.out;omega
 by_cases hlt:j<ok.length
 ·have g1:(j:Int)<(ok.length:Int):=by omega
  have g1':decide ((j:Int)<(ok.length:Int))=true:=decide_eq_true g1
  obtain ⟨kk,hk⟩:∃ kk,ok[j]? = some kk:=⟨_,List.getElem?_eq_getElem hlt⟩
  obtain ⟨d,hd⟩:∃ d,ov[j]? = some d:=⟨_,List.getElem?_eq_getElem (by rw [HOV.out];exact hlt)⟩
  have hnw:Ext w wr:=HX0.out.trans HX.out
  have hag:Agree (Lt w.heap.size) w wr:=hnw.agree fun _ h=>h
  obtain ⟨hsa,hlc,hcm⟩:=HSOA.out.eq (by omega)
  have hbl:=HSOA.out.fits (show 0<ok.length by omega)
  obtain ⟨sa,sc⟩:=so
  dsimp only at hsa hlc hcm
  subst hsa
  have lb:bo<wr.heap.size:=Nat.lt_of_lt_of_le hbl hnw.size
  have kc:wr.cell? ⟨bo,fo+j*7,none⟩=some (.string kk):=(hag.cell hbl).trans (HEK.out j kk hk).1
  have hkv:=(mayM_all HMM.out hd hk).1
  have hqc:=quote01_any wr kk (by have:=cntM_at hd hk;have:=HCN.out;omega) hkv
  have htk:=lenM_take (ks:=ok) hd hk
  have hld:(quoteA kk).size+1+lenV d≤7000000:=by have:=lenM_cut ok ov (j+1);have:=HN.out;omega
  have HQA:=Lib.hid (quoteA_valid hkv)
  have HQC:=Lib.hid hqc
  have HTK:=Lib.hid htk
  have HNW:=Lib.hid hnw
  have HBL:=Lib.hid hbl
  have HK:=Lib.hid hk
  have HD:=Lib.hid hd
  clear hd hk hnw hag hqc htk hkv hbl
  by_cases hj0:j=0
  ·have gg:decide ((0:Int)<(j:Int))=false:=decide_eq_false (by omega)
   have HJ0:=Lib.hid hj0
   have gn:¬0<j:=by omega
   have gi:¬(0:Int)<(j:Int):=by omega
   clear hj0
   go_wp2_with fail
   refine HQC.out.mono ?_
   rintro e w2 ⟨y,rfl,hy,hx2⟩
   obtain ⟨p0,p1,p2,p3,p4,p5⟩:=(HB0.out.ext (HX.out.trans hx2)).c6
   have lp2:=(HB0.out.ext (HX.out.trans hx2)).lt
   have hag2:Agree (Lt w.heap.size) w w2:=(HNW.out.trans hx2).agree fun _ h=>h
   obtain ⟨v0,v1,v2,v3,v4,v5⟩:=(HEO.out j d HD.out).agree hag2 HBL.out
   have lb2:bo<w2.heap.size:=Nat.lt_of_lt_of_le HBL.out (HNW.out.trans hx2).size
   have hic:Calls Tryz.prog 79 #[aggV d (co j).1 (co j).2] w2 fun e w'=>∃ t:ByteArray,e=.returned (.string t)∧t.size=lenV d∧Ext w2 w':=
    HI.out d (HSO.out j d HD.out) (by have:=cntM_at HD.out HK.out;have:=HCN.out;omega) _ (mayM_all HMM.out HD.out HK.out).2 w2 _ _ (((HRO.out j d HD.out).agree hag2).mono fun i hi=>Nat.lt_of_lt_of_le hi (HNW.out.trans hx2).size)
   have HIC:=Lib.hid hic
   have hyl:y.size=(quoteA kk).size:=by rw [hy,HQA.out]
   have s1:¬9223372036854775807<u.size+y.size:=by omega
   have s2:¬9223372036854775807<u.size+y.size+1:=by omega
   have HYL:=Lib.hid hyl
   have HX2:=Lib.hid (HX.out.trans hx2)
   clear hag2 hic hx2 hy hyl lp lb kc HQC
   go_wp2_with fail
   refine HIC.out.mono ?_
   rintro e w3 ⟨x,rfl,hx,hx3⟩
   have s3:¬9223372036854775807<u.size+y.size+1+x.size:=by have:=HYL.out;omega
   have HX3:=Lib.hid (HX2.out.trans hx3)
   have HS:=Lib.hid (show u.size+y.size+1+x.size=1+lenM ok (ov.take (j+1))+(j+1 - 1) by have:=HJ0.out;have:=HU.out;have:=HYL.out;rw [HTK.out,hx];omega)
   clear hx3 hx HIC v0 v1 v2 v3 v4 v5 p0 p1 p2 p3 p4 p5
   go_wp2_with fail
   go_roundw
   case rel=>exact ⟨j+1,_,rfl,by go_num,hlt,Lib.hid (by rw [ByteArray.size_append,ByteArray.size_append,ByteArray.size_append];exact HS.out),HX3⟩
   simp [intOf];omega
  skip
  have gg:decide ((0:Int)<(j:Int))=true:=decide_eq_true (by omega)
  have s0:¬9223372036854775807<u.size+1:=by omega
  go_wp2_with fail
  refine HQC.out.mono ?_
  rintro e w2 ⟨y,rfl,hy,hx2⟩
  obtain ⟨p0,p1,p2,p3,p4,p5⟩:=(HB0.out.ext (HX.out.trans hx2)).c6
  have lp2:=(HB0.out.ext (HX.out.trans hx2)).lt
  have hag2:Agree (Lt w.heap.size) w w2:=(HNW.out.trans hx2).agree fun _ h=>h
  obtain ⟨v0,v1,v2,v3,v4,v5⟩:=(HEO.out j d HD.out).agree hag2 HBL.out
  have lb2:bo<w2.heap.size:=Nat.lt_of_lt_of_le HBL.out (HNW.out.trans hx2).size
  have hic:Calls Tryz.prog 79 #[aggV d (co j).1 (co j).2] w2 fun e w'=>∃ t:ByteArray,e=.returned (.string t)∧t.size=lenV d∧Ext w2 w':=
   HI.out d (HSO.out j d HD.out) (by have:=cntM_at HD.out HK.out;have:=HCN.out;omega) _ (mayM_all HMM.out HD.out HK.out).2 w2 _ _ (((HRO.out j d HD.out).agree hag2).mono fun i hi=>Nat.lt_of_lt_of_le hi (HNW.out.trans hx2).size)
  have HIC:=Lib.hid hic
  have hyl:y.size=(quoteA kk).size:=by rw [hy,HQA.out]
  have s1:¬9223372036854775807<u.size+1+y.size:=by omega
  have s2:¬9223372036854775807<u.size+1+y.size+1:=by omega
  have HYL:=Lib.hid hyl
  have HX2:=Lib.hid (HX.out.trans hx2)
  clear hag2 hic hx2 hy hyl lp lb kc HQC
  go_wp2_with fail
  refine HIC.out.mono ?_
  rintro e w3 ⟨x,rfl,hx,hx3⟩
  have s3:¬9223372036854775807<u.size+1+y.size+1+x.size:=by have:=HYL.out;omega
  have HX3:=Lib.hid (HX2.out.trans hx3)
  have HS:=Lib.hid (show u.size+1+y.size+1+x.size=1+lenM ok (ov.take (j+1))+(j+1 - 1) by have:=HU.out;have:=HYL.out;rw [HTK.out,hx];omega)
  clear hx3 hx HIC v0 v1 v2 v3 v4 v5 p0 p1 p2 p3 p4 p5
  go_wp2_with fail
  go_roundw
  case rel=>exact ⟨j+1,_,rfl,by go_num,hlt,Lib.hid (by rw [ByteArray.size_append,ByteArray.size_append,ByteArray.size_append,ByteArray.size_append];exact HS.out),HX3⟩
  simp [intOf];omega
 obtain rfl:j=ok.length:=by omega
 have g1:decide ((ok.length:Int)<(ok.length:Int))=false:=decide_eq_false (by omega)
 have s1:¬9223372036854775807<u.size+1:=by omega
 have HS:=Lib.hid (show u.size+1=n by have:=HU.out;rw [←HOV.out,List.take_length] at this;have:=HN.out;omega)
 have HX2:=Lib.hid (HX0.out.trans HX.out)
 go_wp2_with fail
 go_ret
 exact ⟨_,rfl,by rw [ByteArray.size_append];exact HS.out,HX2.out⟩
theorem fits03_any {w:World} {d:Val} {sl so:Sl} (h:RV w (Lt w.heap.size) d sl so) (hc:cntV d≤1100000):Calls Tryz.prog 45 #[aggV d sl so] w fun e w'=>e=.returned (.int .i64 (fitV d))∧Ext w w':=by
 have hRV:∀ W,Ext w W→RV W (Lt W.heap.size) d sl so:=fun W hW=>(h.agree (hW.agree fun b hb=>hb)).mono fun b hb=>Nat.lt_of_lt_of_le hb hW.size
 have HM:=Lib.hid (fun W (hW:Ext w W)=>may02_any (hRV W hW) hc)
 have HD:=Lib.hid (fun W (hW:Ext w W) (hq:deepV d≤1000000)=>deepAt02 _ d (Nat.le_refl _) hq W sl so (hRV W hW))
 have HT:=Lib.hid (fun W (hW:Ext w W) (hm:mayV d 1=0)=>textAt03 _ d (Nat.le_refl _) hc 1 hm W sl so (hRV W hW))
 obtain ⟨r,hr⟩:∃ r,fitV d=r:=⟨_,rfl⟩
 rw [hr]
 have HR:=Lib.hid hr
 clear hr hRV h
 go_enter Tryz.func45,Tryz.ntmps45
 go_wp2_with fail
 have hx0:=(Ext.refl w).alloc (valC d sl so) 34
 have hb0:=Blk.new w 34 (valC d sl so)
 refine (HM.out _ hx0).mono ?_
 rintro e w1 ⟨rfl,hx1⟩
 have hr:=HR.out
 unfold fitV at hr
 obtain ⟨q0,q1,q2,q3,q4,q5⟩:=(hb0.ext hx1).c6
 have lq:=(hb0.ext hx1).lt
 have HB:=Lib.hid (hb0.ext hx1)
 have HX:=Lib.hid (hx0.trans hx1)
 clear hx0 hx1 hb0 HM
 by_cases hm:mayV d 1=0
 ·rw [if_neg (by simp [hm])] at hr
  have hdm:=deep_may d 1 hm
  have HTT:=Lib.hid (fun W hW=>HT.out W hW hm)
  rw [hm]
  have HRR:=Lib.hid hr
  clear hr hm
  go_wp2_with fail
  refine (HD.out _ HX.out (by omega)).mono ?_
  rintro e w2 ⟨rfl,hx2⟩
  obtain ⟨p0,p1,p2,p3,p4,p5⟩:=(HB.out.ext hx2).c6
  have lp:=(HB.out.ext hx2).lt
  have HX2:=Lib.hid (HX.out.trans hx2)
  have hr:=HRR.out
  clear hx2 q0 q1 q2 q3 q4 q5 lq
  by_cases hd:16<deepV d
  ·rw [if_pos hd] at hr
   have g1:decide ((16:Int)<(deepV d:Int))=true:=decide_eq_true (by omega)
   have HE:=Lib.hid hr
   clear hr
   go_wp2_with fail
   go_ret
   exact ⟨by rw [←HE.out];rfl,HX2.out⟩
  rw [if_neg hd] at hr
  have g1:decide ((16:Int)<(deepV d:Int))=false:=decide_eq_false (by omega)
  have HRR2:=Lib.hid hr
  clear hr
  go_wp2_with fail
  refine (HTT.out _ HX2.out).mono ?_
  rintro e w3 ⟨t,rfl,ht,hx3⟩
  have HX3:=Lib.hid (HX2.out.trans hx3)
  have hr:=HRR2.out
  rw [←ht] at hr
  clear hx3 ht
  by_cases hl:1024<t.size
  ·rw [if_pos hl] at hr
   have g2:decide ((1024:Int)<(t.size:Int))=true:=decide_eq_true (by omega)
   have HE:=Lib.hid hr
   clear hr
   go_wp2_with fail
   go_ret
   exact ⟨by rw [←HE.out];rfl,HX3.out⟩
  rw [if_neg hl] at hr
  have g2:decide ((1024:Int)<(t.size:Int))=false:=decide_eq_false (by omega)
  have HE:=Lib.hid hr
  clear hr
  go_wp2_with fail
  go_ret
  exact ⟨by rw [←HE.out];rfl,HX3.out⟩
 rw [if_pos hm] at hr
 have g1:(mayV d 1 != 0)=true:=by simpa using hm
 have HE:=Lib.hid hr
 clear hr hm
 go_wp2_with fail
 go_ret
 exact ⟨by rw [←HE.out];rfl,HX.out⟩
theorem Tryz.infoPMapO:(Tryz.prog.info? 47).map (fun i=>(i.zero,i.size,i.bytes))=some (some (.pointer none),1,8):=by kernel_rfl
abbrev ptr12 (m:Nat):Value:=.pointer (some ⟨m,0,none⟩)
structure R12 (H:Nat→Prop) (w:World) (base R M:Nat) (s:Sl) (es:List Ent) (ms:List Nat) (hs:List (List Ent)):Prop where
 below:∀ b,H b→b<w.heap.size
 old:base≤w.heap.size
 hR:H R
 hrow:∀ b,s.row=some b→H b
 blk:Blk w R 55 #[ptr12 M,.slice s.a hs.length s.c]
 own:w.ownsRow base 47 1 (.slice s.a hs.length s.c) hs.length (ms.map ptr12)
 cur:MapAt H w M es
 len:ms.length=hs.length
 dist:ms.Nodup
 maps:∀ (j m:Nat) (es':List Ent),ms[j]? = some m→hs[j]? = some es'→MapAt H w m es'∧m≠M
theorem MapAt.blk0 {H:Nat→Prop} {w:World} {M:Nat} {es:List Ent} (h:MapAt H w M es):∃ v,Blk w M 50 #[v]:=by
 obtain ⟨-,s,xs,hb,-⟩:=h
 exact ⟨_,hb⟩
theorem blk_ne {w:World} {a b:Nat} {t t':TypeId} {cs cs':Array Value} (h:Blk w a t cs) (h':Blk w b t' cs') (hne:t≠t'):a≠b:=by
 rintro rfl
 unfold Blk at h h'
 rw [h] at h'
 injection h' with h'
 injection h' with h3 h4
 exact hne h4
theorem R12.neRM {H:Nat→Prop} {w:World} {base R M:Nat} {s:Sl} {es:List Ent} {ms:List Nat} {hs:List (List Ent)} (h:R12 H w base R M s es ms hs):R≠M:=by
 obtain ⟨v,hv⟩:=h.cur.blk0
 exact blk_ne h.blk hv (by decide)
theorem R12.ne_row {H:Nat→Prop} {w:World} {base R M:Nat} {s:Sl} {es:List Ent} {ms:List Nat} {hs:List (List Ent)} (h:R12 H w base R M s es ms hs):s.row≠some M:=by
 obtain ⟨v,hv⟩:=h.cur.blk0
 exact row_ne_blk27 h.own hv (by decide)
theorem R12.ne_rowR {H:Nat→Prop} {w:World} {base R M:Nat} {s:Sl} {es:List Ent} {ms:List Nat} {hs:List (List Ent)} (h:R12 H w base R M s es ms hs):s.row≠some R:=row_ne_blk27 h.own h.blk (by decide)
theorem R12.ext {H:Nat→Prop} {w w':World} {base R M:Nat} {s:Sl} {es:List Ent} {ms:List Nat} {hs:List (List Ent)} (h:R12 H w base R M s es ms hs) (k:Ext w w'):R12 H w' base R M s es ms hs:=
 ⟨fun b hb=>Nat.lt_of_lt_of_le (h.below b hb) k.size,Nat.le_trans h.old k.size,h.hR,h.hrow,h.blk.ext k,own_agree h.own (k.agree fun b (hb:b<w.heap.size)=>hb) (fun b hb=>(own_row h.own hb).2),h.cur.ext k,h.len,h.dist,fun j m e hj he=>⟨(h.maps j m e hj he).1.ext k,(h.maps j m e hj he).2⟩⟩
theorem R12.step {H:Nat→Prop} {w3 w4 w5:World} {base R M M':Nat} {s s5:Sl} {es:List Ent} {ms:List Nat} {hs:List (List Ent)} {c:Array Value} {t:TypeId} (h:R12 H w3 base R M s es ms hs) (hx4:Ext w3 w4) (hM':w3.heap.size≤M') (hmc:MapAt (fun b=>H b∨b=M') w4 M' es)
  (hown:w5.ownsRow base 47 1 (.slice s5.a (hs.length+1) s5.c) (hs.length+1) (ms.map ptr12++[ptr12 M'])) (hwr:Wr (w4.alloc (.cells c t)) w5 s.row) (hs5:s5.a=s.a∨s5.a=some ⟨(w4.alloc (.cells c t)).heap.size,0,none⟩∧Wr (w4.alloc (.cells c t)) w5 none) (hB5:Blk w5 R 55 #[ptr12 M,.slice s.a hs.length s.c]) :
  ∃ H':Nat→Prop,(∀ b,H b→H' b)∧(∀ b,H' b→H b∨w3.heap.size≤b)∧R12 H' (w5.setCell ⟨R,1,none⟩ (.slice s5.a (hs.length+1) s5.c)) base R M s5 es (ms++[M']) (hs++[es])∧St (fun b=>b=R∨s.row=some b) w3 (w5.setCell ⟨R,1,none⟩ (.slice s5.a (hs.length+1) s5.c))∧(∀ b,s5.row=some b→s.row=some b∨w3.heap.size≤b):=by
 have hxa:Ext w4 (w4.alloc (.cells c t)):=(Ext.refl w4).alloc _ _
 have hsz4:=hx4.size
 have hsza:(w4.alloc (.cells c t)).heap.size=w4.heap.size+1:=World.size_alloc _ _
 have hsz5:=hwr.grown.size
 have hMlt:M'<w4.heap.size:=by obtain ⟨v,hv⟩:=hmc.blk0;exact hv.lt
 have hRlt:=h.blk.lt
 have hMlt0:M<w3.heap.size:=by obtain ⟨v,hv⟩:=h.cur.blk0;exact hv.lt
 have hrowH:∀ b,s5.row=some b→H b∨w4.heap.size<b:=fun b hb=>by
  rcases hs5 with e | ⟨e,-⟩
  ·exact .inl (h.hrow b (by unfold Sl.row at hb ⊢;rw [←e];exact hb))
  right
  have:b=(w4.alloc (.cells c t)).heap.size:=by unfold Sl.row at hb;rw [e] at hb;simpa using hb.symm
  omega
 have k4:St (fun b=>b=R∨s.row=some b) w4 (w5.setCell ⟨R,1,none⟩ (.slice s5.a (hs.length+1) s5.c)):=
  St.set (H:=fun b=>b=R∨s.row=some b) ((hxa.st _).trans (hwr.st fun i hi=>.inr hi)) (p:=⟨R,1,none⟩) (.inr (.inl rfl)) _
 have k3:St (fun b=>b=R∨s.row=some b) w3 (w5.setCell ⟨R,1,none⟩ (.slice s5.a (hs.length+1) s5.c)):=(hx4.st _).trans k4
 have hset:St (fun b=>b=R) w5 (w5.setCell ⟨R,1,none⟩ (.slice s5.a (hs.length+1) s5.c)):=St.set (H:=fun b=>b=R) (St.refl _ _) (p:=⟨R,1,none⟩) (.inr rfl) _
 have hsR:s5.row≠some R:=fun e=>row_ne_blk27 hown hB5 (by decide) e
 have hGH:∀ b,(b=R∨s.row=some b)→H b:=fun b hb=>hb.elim (fun e=>e▸h.hR) (h.hrow b)
 have hnG:∀ m,(∃ v,Blk w3 m 50 #[v])→¬(m=R∨s.row=some m):=fun m ⟨v,hv⟩ hh=>hh.elim (fun e=>blk_ne h.blk hv (by decide) e.symm) fun e=>row_ne_blk27 h.own hv (by decide) e
 have hold:∀ m e',MapAt H w3 m e'→MapAt (fun b=>H b∨b=M'∨s5.row=some b) (w5.setCell ⟨R,1,none⟩ (.slice s5.a (hs.length+1) s5.c)) m e':=fun m e' hm=>
  (hm.more (G:=fun b=>H b∨b=M'∨s5.row=some b) (fun b hb=>.inl hb) fun b hb hg=>by
    rcases hg with hg | hg | hg
    ·exact hg
    ·omega
    rcases hrowH b hg with h1 | h1
    ·exact h1
    omega).st k3 (fun b hb=>.inl (hGH b hb)) (hnG m hm.blk0)
 have hsrow:∀ b,s5.row=some b→s.row=some b∨w3.heap.size≤b:=fun b hb=>by
  rcases hs5 with e | ⟨e,-⟩
  ·exact .inl (by unfold Sl.row at hb ⊢;rw [←e];exact hb)
  right
  have:b=(w4.alloc (.cells c t)).heap.size:=by unfold Sl.row at hb;rw [e] at hb;simpa using hb.symm
  omega
 refine ⟨fun b=>H b∨b=M'∨s5.row=some b,fun b hb=>.inl hb,fun b hb=>?_,?_,k3,hsrow⟩
 ·rcases hb with hb | hb | hb
  ·exact .inl hb
  ·right;omega
  rcases hrowH b hb with h1 | h1
  ·exact .inl h1
  right;omega
 have hz:=hset.size
 refine ⟨fun b hb=>?_,?_,.inl h.hR,fun b hb=>.inr (.inr hb),?_,?_,hold M es h.cur,by rw [List.length_append,List.length_append,h.len];rfl,?_,fun j m es' hj he=>?_⟩
 ·rcases hb with hb | hb | hb
  ·have:=h.below b hb;omega
  ·omega
  have:=(own_row hown hb).2;omega
 ·have:=h.old;omega
 ·have:=hB5.set_ 1 (.slice s5.a (hs.length+1) s5.c)
  rw [List.length_append]
  exact this
 ·rw [List.length_append,List.map_append]
  exact own_agree hown (F:=fun b=>s5.row=some b) (fun b hb=>hset.block b (own_row hown hb).2 fun e=>hsR (e▸hb)) fun b hb=>hb
 ·rw [List.nodup_append]
  refine ⟨h.dist,by simp,fun a ha b hb e=>?_⟩
  rw [List.mem_singleton] at hb
  obtain ⟨j,hj⟩:=List.getElem?_of_mem ha
  have hjl:=(List.getElem?_eq_some_iff.1 hj).1
  obtain ⟨x,hx⟩:=(h.maps j a _ hj (List.getElem?_eq_getElem (by rw [←h.len];exact hjl))).1.blk0
  have:=hx.lt
  omega
 by_cases hjl:j<ms.length
 ·rw [List.getElem?_append_left hjl] at hj
  rw [List.getElem?_append_left (by rw [←h.len];exact hjl)] at he
  exact ⟨hold m es' (h.maps j m es' hj he).1,(h.maps j m es' hj he).2⟩
 rw [List.getElem?_append_right (by omega)] at hj
 rw [List.getElem?_append_right (by rw [←h.len];omega)] at he
 have hj0:j - ms.length=0:=by
  have:=(List.getElem?_eq_some_iff.1 hj).1
  simp at this;omega
 rw [←h.len] at he
 rw [hj0] at hj he
 simp at hj he
 subst hj he
 refine ⟨(hmc.more (G:=fun b=>H b∨b=M'∨s5.row=some b) (fun b hb=>hb.elim .inl fun e=>.inr (.inl e)) fun b hb hg=>by
  rcases hg with hg | hg | hg
  ·exact .inl hg
  ·exact .inr hg
  rcases hrowH b hg with h1 | h1
  ·exact .inl h1
  omega).st k4 (fun b hb=>.inl (hGH b hb)) ?_,by omega⟩
 rintro (e | e)
 ·omega
 have:=h.below _ (h.hrow _ e);omega
theorem R12.turned {H:Nat→Prop} {w w':World} {base R M:Nat} {s:Sl} {es es':List Ent} {ms:List Nat} {hs:List (List Ent)} (h:R12 H w base R M s es ms hs) (hm:MapAt H w' M es') (k:St (fun b=>b=M) w w'):R12 H w' base R M s es' ms hs:=
 ⟨fun b hb=>Nat.lt_of_lt_of_le (h.below b hb) k.size,Nat.le_trans h.old k.size,h.hR,h.hrow,k.blk h.blk h.neRM,own_agree h.own (F:=fun b=>s.row=some b) (fun b hb=>k.block b (own_row h.own hb).2 fun e=>h.ne_row (e▸hb)) (fun b hb=>hb),hm,h.len,h.dist,
   fun j m e hj he=>⟨(h.maps j m e hj he).1.st k (fun b hb=>hb▸h.cur.hm) (fun e'=>(h.maps j m e hj he).2 e'),(h.maps j m e hj he).2⟩⟩
theorem R12.sb {H G:Nat→Prop} {w w':World} {base R M:Nat} {s:Sl} {es:List Ent} {ms:List Nat} {hs:List (List Ent)} (h:R12 H w base R M s es ms hs) (k:Sb G w w') (hG:∀ b,G b→H b) (hR:¬G R) (hM:¬G M) (hrow:∀ b,s.row=some b→¬G b) (hms:∀ m∈ms,¬G m):R12 H w' base R M s es ms hs:=
 ⟨fun b hb=>Nat.lt_of_lt_of_le (h.below b hb) k.size,Nat.le_trans h.old k.size,h.hR,h.hrow,k.blk h.blk hR,own_agree h.own (F:=fun b=>s.row=some b) (fun b hb=>k.block b (own_row h.own hb).2 (hrow b hb)) (fun b hb=>hb),h.cur.sb k hG hM,h.len,h.dist,
   fun j m e hj he=>⟨(h.maps j m e hj he).1.sb k hG (hms m (List.mem_of_getElem? hj)),(h.maps j m e hj he).2⟩⟩
def Put12 (H:Nat→Prop) (w:World) (base R M:Nat) (s:Sl) (es:List Ent) (ms:List Nat) (hs:List (List Ent)) (k:ByteArray) (v:Val) (e:Ending) (w':World):Prop:=
 (mayK k≠0∧e=.returned (.int .i64 8)∧Ext w w')∨(mayK k=0∧fitV v≠0∧e=.returned (.int .i64 (fitV v))∧Ext w w')∨
 (mayK k=0∧fitV v=0∧e=.returned (.int .i64 0)∧∃ (H':Nat→Prop) (s':Sl) (M':Nat),(∀ b,H b→H' b)∧(∀ b,H' b→H b∨w.heap.size≤b)∧R12 H' w' base R M s' (insE es k v) (ms++[M']) (hs++[es])∧St (fun b=>b=R∨b=M∨s.row=some b) w w'∧(∀ b,s'.row=some b→s.row=some b∨w.heap.size≤b)∧w.heap.size≤M')
theorem put12_tail {H H':Nat→Prop} {w w3 W5:World} {base R M:Nat} {s s5:Sl} {es:List Ent} {ms ms':List Nat} {hs hs':List (List Ent)} {k:ByteArray} {v:Val} {sl so:Sl} (h:R12 H w base R M s es ms hs) (hv:RV w (NH H w) v sl so) (hx3:Ext w w3) (hHH:∀ b,H b→H' b) (hHn:∀ b,H' b→H b∨w3.heap.size≤b)
  (hr5:R12 H' W5 base R M s5 es ms' hs') (hst5:St (fun b=>b=R∨s.row=some b) w3 W5) (hso:Sorted es) (hc:es.length≤1000000) (hk:k.size≤maxLen) :
  ∀ W,Ext W5 W→Calls Tryz.prog 23 #[.pointer (some ⟨M,0,none⟩),.string k,aggV v sl so] W (Put7Post H' M (insE es k v) W):=fun W hW=>by
 have h3:=hx3.size
 have h5:=hst5.size
 have hag:Agree (NH H w) w W5:=fun b hb=>(hst5.block b (Nat.lt_of_lt_of_le hb.1 h3) (fun hh=>hb.2 (hh.elim (fun e=>e▸h.hR) (h.hrow b)))).trans (hx3.heap hb.1)
 have hw:=hW.size
 refine put7_any (hr5.cur.ext hW) (fun b hb=>Nat.lt_of_lt_of_le (hr5.below b hb) hw) hso hc hk (((hv.agree hag).agree (hW.agree fun b hb=>Nat.lt_of_lt_of_le hb.1 (Nat.le_trans h3 h5))).mono fun b hb=>⟨by have:=hb.1;omega,fun hh=>?_⟩)
 rcases hHn b hh with h1 | h1
 ·exact hb.2 h1
 have:=hb.1;omega
theorem put12_any {H:Nat→Prop} {w:World} {base R M:Nat} {s:Sl} {es:List Ent} {ms:List Nat} {hs:List (List Ent)} (h:R12 H w base R M s es ms hs) (hso:Sorted es) (hc:es.length≤1000000) (hn:hs.length≤1000000) {k:ByteArray} (hk:k.size≤maxLen) {v:Val} {sl so:Sl} (hv:RV w (NH H w) v sl so) (hcv:cntV v≤1100000) :
  Calls Tryz.prog 17 #[.pointer (some ⟨R,0,none⟩),.string k,aggV v sl so] w (Put12 H w base R M s es ms hs k v):=by
 obtain ⟨i0,hi,hz0,hz1,hz2⟩:=info_parts Tryz.infoPMapO
 have hx0:=(Ext.refl w).alloc #[.int .i64 v.kind,.bool v.b,.int .i64 v.i,.string v.t,.slice sl.a v.l.length sl.c,.slice so.a v.ok.length so.c] 34
 have hb0:=Blk.new w 34 #[.int .i64 v.kind,.bool v.b,.int .i64 v.i,.string v.t,.slice sl.a v.l.length sl.c,.slice so.a v.ok.length so.c]
 have hmay:=may05_any (w.alloc (.cells #[.int .i64 v.kind,.bool v.b,.int .i64 v.i,.string v.t,.slice sl.a v.l.length sl.c,.slice so.a v.ok.length so.c] 34)) k hk
 have hfit:=fits03_any (w:=w.alloc (.cells #[.int .i64 v.kind,.bool v.b,.int .i64 v.i,.string v.t,.slice sl.a v.l.length sl.c,.slice so.a v.ok.length so.c] 34)) (((hv.mono fun b hb=>hb.1).agree (hx0.agree fun _ h=>h)).mono fun i hi=>Nat.lt_of_lt_of_le hi hx0.size) hcv
 generalize hW0:w.alloc (.cells #[.int .i64 v.kind,.bool v.b,.int .i64 v.i,.string v.t,.slice sl.a v.l.length sl.c,.slice so.a v.ok.length so.c] 34)=w1 at hx0 hb0 hmay hfit
 obtain ⟨b0,b1,b2,b3,b4,b5⟩:=hb0.c6
 have lb:=hb0.lt
 have HX0:=Lib.hid hx0
 have HB0:=Lib.hid hb0
 have HMAY:=Lib.hid hmay
 have HFIT:=Lib.hid hfit
 have HH:=Lib.hid h
 have HV:=Lib.hid hv
 clear hx0 hb0 hmay hfit h hv
 go_enter Tryz.func17,Tryz.ntmps17
 go_wp2_with fail
 clear hW0
 refine HMAY.out.mono ?_
 rintro e w2 ⟨rfl,hw2⟩
 obtain rfl:=hw2.symm
 clear HMAY
 by_cases hm:mayK k=0
 ·have g0:(mayK k != 0)=false:=by simpa using hm
  rw [hm]
  go_wp2_with fail
  refine HFIT.out.mono ?_
  rintro e w3 ⟨rfl,hx3⟩
  have HX3:=Lib.hid (HX0.out.trans hx3)
  have HB3:=Lib.hid (HB0.out.ext hx3)
  clear hx3 HFIT HB0 b0 b1 b2 b3 b4 b5 lb
  by_cases hf:fitV v=0
  ·rw [hf]
   have hr3:=HH.out.ext HX3.out
   have c0:w3.cell? ⟨R,0,none⟩=some (ptr12 M):=hr3.blk.cell 0
   have c1:w3.cell? ⟨R,1,none⟩=some (.slice s.a hs.length s.c):=hr3.blk.cell 1
   have lR:=hr3.blk.lt
   have HR3:=Lib.hid hr3
   have hbel:∀ b,H b→b<w3.heap.size:=hr3.below
   have hcopy:=copy7_any (w:=w3.drew) (hr3.cur.ext ((Ext.refl w3).drew)) hbel hc
   have HCOPY:=Lib.hid hcopy
   have hone:∀ M':Nat,∀ u∈[ptr12 M'],u.oneCell'=true:=fun M'=>by simp [Value.oneCell']
   have h63:hs.length+1≤maxLen:=by unfold maxLen;omega
   have hby:(hs.length+1)*8≤140737488355328:=by omega
   have HS0:=Lib.hid (show ∀ W:World,True→True from fun _ h=>h)
   clear hr3 hcopy
   go_wp2_with fail
   refine wp_region_held_drew (S:=(fun _=>True)) (by kernel_rfl) (trivial) (fun hHeld=>?_)
   refine heldT 0 (some 16) HS0 hHeld ?_
   refine heldT 1 (some 17) HS0 hHeld ?_
   refine heldT 2 (some 18) HS0 hHeld ?_
   refine heldT 3 (some 19) HS0 hHeld ?_
   refine heldT 5 (some 21) HS0 hHeld ?_
   refine heldT 6 (some 22) HS0 hHeld ?_
   refine heldT 7 (some 23) HS0 hHeld ?_
   refine held_two (i:=4) (j:=8) (by kernel_rfl) rfl rfl (by rfl) (by rfl) (fun K hK=>?_) (fun K hK=>?_)
   ·go_simp
    skip
    refine hK.out _ _ (trivial) (fun hHeld=>?_)
    clear hK K
    try simp only [Act.put,List.setIfInBounds_toArray,List.set_cons_zero,List.set_cons_succ]
    refine held_call (i:=8) (by kernel_rfl) rfl (by rfl) (fun K hK=>?_)
    go_simp
    skip
    refine hK.out _ _ (trivial) (fun hHeld=>?_)
    clear hK K
    try simp only [Act.put,List.setIfInBounds_toArray,List.set_cons_zero,List.set_cons_succ]
    refine held_call (i:=9) (by kernel_rfl) rfl (by rfl) (fun K hK=>?_)
    go_simp
    (refine HCOPY.out.mono ?_;rintro e w4 ⟨M',rfl,hM',hx4',hmc⟩;have hx4:Ext w3 w4:=((Ext.refl w3).drew).trans hx4';have hr4:=HR3.out.ext hx4;have c0:w4.cell? ⟨R,0,none⟩=some (ptr12 M):=hr4.blk.cell 0;have c1:w4.cell? ⟨R,1,none⟩=some (.slice s.a hs.length s.c):=hr4.blk.cell 1;have lR4:=hr4.blk.lt;have hxa:Ext w4 (w4.alloc (.cells #[ptr12 M'] 47)):=(Ext.refl w4).alloc _ _;have HRA:=Lib.hid (hr4.ext hxa);have HSRC:=Lib.hid (Rd.block (size:=1) (n:=1) (cs:=[ptr12 M']) (Blk.new w4 47 #[ptr12 M']) (by decide) rfl);have HX4:=Lib.hid hx4;have HXA:=Lib.hid hxa;have HMC:=Lib.hid hmc;have HM':=Lib.hid hM';clear hx4' hx4 hr4 hxa hmc hM')
    refine hK.out _ _ (trivial) (fun hHeld=>?_)
    clear hK K
    try simp only [Act.put,List.setIfInBounds_toArray,List.set_cons_zero,List.set_cons_succ]
    refine held_call (i:=10) (by kernel_rfl) rfl (by rfl) (fun K hK=>?_)
    go_simp
    skip
    refine hK.out _ _ (trivial) (fun hHeld=>?_)
    clear hK K
    try simp only [Act.put,List.setIfInBounds_toArray,List.set_cons_zero,List.set_cons_succ]
    refine held_call (i:=11) (by kernel_rfl) rfl (by rfl) (fun K hK=>?_)
    skip
    refine wp_append_x _ (.tmp 20) (.tmp 26) 53 rfl base 47 i0 _ 1 8 Tryz.underlying53 hi hz0 hz1 hz2 rfl (by decide) s hs.length (ms.map ptr12) (by rfl) HRA.out.own (fun b=>b=w4.heap.size) ⟨some ⟨w4.heap.size,0,none⟩,1⟩ 1 [ptr12 M'] (by rfl) HSRC.out (hone M') h63 hby HRA.out.old ?_;intro s5 w5 hown5 hwr5 hs5;have HO5:=Lib.hid hown5;have HW5:=Lib.hid hwr5;have HS5:=Lib.hid hs5;have hB5:Blk w5 R 55 #[ptr12 M,.slice s.a hs.length s.c]:=HRA.out.blk.agree (hwr5.agree (F:=fun b=>b=R) (fun i hi=>by rw [hi];exact HRA.out.blk.lt) (fun k hk e=>HRA.out.ne_rowR (by rw [hk,e]))) rfl;have c15:w5.cell? ⟨R,1,none⟩=some (.slice s.a hs.length s.c):=hB5.cell 1;have lR5:=hB5.lt;have fR5:w5.frozen? ⟨R,1,none⟩=false:=hB5.frozen 1;have HB5:=Lib.hid hB5;clear hown5 hwr5 hs5 hB5
    refine hK.out _ _ (trivial) (fun hHeld=>?_)
    clear hK K
    try simp only [Act.put,List.setIfInBounds_toArray,List.set_cons_zero,List.set_cons_succ]
    refine heldT 12 (some 28) HS0 hHeld ?_
    refine heldT 13 (some 29) HS0 hHeld ?_
    refine held_call (i:=14) (by kernel_rfl) rfl (by rfl) (fun K hK=>?_)
    go_simp
    skip
    refine hK.out _ _ (trivial) (fun hHeld=>?_)
    clear hK K
    try simp only [Act.put,List.setIfInBounds_toArray,List.set_cons_zero,List.set_cons_succ]
    refine wpAnyH_done (by kernel_rfl) ?_ _
    obtain ⟨H',hHH,hHn,hr5,hst5,hsr5⟩:=R12.step HR3.out HX4.out HM'.out HMC.out HO5.out HW5.out HS5.out HB5.out
    have hput:=put12_tail HH.out HV.out HX3.out hHH hHn hr5 hst5 hso hc hk
    have HBX:=Lib.hid (hst5.blk HB3.out (by rintro (e | e);exact absurd (HH.out.below _ (e▸HH.out.hR)) (Nat.lt_irrefl _);exact absurd (HH.out.below _ (HH.out.hrow _ e)) (Nat.lt_irrefl _)))
    have HPUT:=Lib.hid hput
    have HR5:=Lib.hid hr5
    have HSR:=Lib.hid (show (∀ b,s5.row=some b→s.row=some b∨w.heap.size≤b)∧w.heap.size≤M' from ⟨fun b hb=>(hsr5 b hb).imp id (Nat.le_trans HX3.out.size),Nat.le_trans HX3.out.size HM'.out⟩)
    have HST5:=Lib.hid hst5
    have HHH:=Lib.hid hHH
    have HHN:=Lib.hid hHn
    have HM:=Lib.hid hm
    have HF:=Lib.hid hf
    clear hsr5 hput hr5 hst5 hHH hHn hm hf HO5 HW5 HS5 HB5 HMC HM' HX4 HXA HRA HSRC c0 c1 c15 fR5 lR5 lR4 lR
    generalize w5.setCell ⟨R,1,none⟩ (.slice s5.a (hs.length+1) s5.c)=W5 at *
    have hbR:Blk W5 R 55 #[ptr12 M,.slice s5.a (hs++[es]).length s5.c]:=HR5.out.blk
    have hbB:Blk W5 w.heap.size 34 (valC v sl so):=HBX.out
    have HNM:=Lib.hid (And.intro HR5.out.neRM (show w.heap.size≠M from fun e=>by obtain ⟨v',hv'⟩:=HR5.out.cur.blk0;exact blk_ne hbB hv' (by decide) e))
    have HSS:=Lib.hid (show ∀ W,(Blk W R 55 #[ptr12 M,.slice s5.a (hs++[es]).length s5.c]∧Blk W w.heap.size 34 (valC v sl so))→_ from fun W h=>(⟨h.1.cell 0,h.1.lt,h.2.c6,h.2.lt⟩:W.cell? ⟨R,0,none⟩=some (ptr12 M)∧R<W.heap.size∧_∧w.heap.size<W.heap.size))
    go_wp2_with fail
    refine wp_region_held_drew (S:=(fun W=>Blk W R 55 #[ptr12 M,.slice s5.a (hs++[es]).length s5.c]∧Blk W w.heap.size 34 (valC v sl so))) (by kernel_rfl) (⟨hbR,hbB⟩) (fun hHeld=>?_)
    refine heldT 0 (some 30) HSS hHeld ?_
    refine heldT 1 (some 31) HSS hHeld ?_
    refine heldT 2 (some 32) HSS hHeld ?_
    refine heldT 3 (some 33) HSS hHeld ?_
    refine heldT 4 (some 34) HSS hHeld ?_
    refine heldT 5 (some 35) HSS hHeld ?_
    refine held_call (i:=6) (by kernel_rfl) rfl (by rfl) (fun K hK=>?_)
    go_simp
    (refine (HPUT.out _ ((Ext.refl W5).drew)).mono ?_;rintro e w8 ⟨⟨r,rfl⟩,hm8,hst8⟩)
    refine hK.out _ _ (⟨hst8.blk hHeld.1 HNM.out.1,hst8.blk hHeld.2 HNM.out.2⟩) (fun hHeld=>?_)
    clear hK K
    try simp only [Act.put,List.setIfInBounds_toArray,List.set_cons_zero,List.set_cons_succ]
    refine wpAnyH_done (by kernel_rfl) ?_ _
    have HM8:=Lib.hid hm8
    have HST8:=Lib.hid hst8
    clear hm8 hst8
    go_wp2_with fail
    go_ret
    have hst8:St (fun b=>b=M) W5 w8:=(((Ext.refl W5).drew).st _).trans HST8.out
    exact .inr (.inr ⟨HM.out,HF.out,rfl,H',s5,M',HHH.out,fun b hb=>(HHN.out b hb).imp id (Nat.le_trans HX3.out.size),HR5.out.turned HM8.out hst8,(HX3.out.st _).trans ((HST5.out.mono fun i _ hi=>hi.elim .inl fun e=>.inr (.inr e)).trans (hst8.mono fun i _ hi=>.inr (.inl hi))),HSR.out⟩)
   go_simp
   skip
   refine hK.out _ _ (trivial) (fun hHeld=>?_)
   clear hK K
   try simp only [Act.put,List.setIfInBounds_toArray,List.set_cons_zero,List.set_cons_succ]
   refine held_two (i:=4) (j:=9) (by kernel_rfl) rfl rfl (by rfl) (by rfl) (fun K hK=>?_) (fun K hK=>?_)
   ·go_simp
    skip
    refine hK.out _ _ (trivial) (fun hHeld=>?_)
    clear hK K
    try simp only [Act.put,List.setIfInBounds_toArray,List.set_cons_zero,List.set_cons_succ]
    refine held_call (i:=9) (by kernel_rfl) rfl (by rfl) (fun K hK=>?_)
    go_simp
    (refine HCOPY.out.mono ?_;rintro e w4 ⟨M',rfl,hM',hx4',hmc⟩;have hx4:Ext w3 w4:=((Ext.refl w3).drew).trans hx4';have hr4:=HR3.out.ext hx4;have c0:w4.cell? ⟨R,0,none⟩=some (ptr12 M):=hr4.blk.cell 0;have c1:w4.cell? ⟨R,1,none⟩=some (.slice s.a hs.length s.c):=hr4.blk.cell 1;have lR4:=hr4.blk.lt;have hxa:Ext w4 (w4.alloc (.cells #[ptr12 M'] 47)):=(Ext.refl w4).alloc _ _;have HRA:=Lib.hid (hr4.ext hxa);have HSRC:=Lib.hid (Rd.block (size:=1) (n:=1) (cs:=[ptr12 M']) (Blk.new w4 47 #[ptr12 M']) (by decide) rfl);have HX4:=Lib.hid hx4;have HXA:=Lib.hid hxa;have HMC:=Lib.hid hmc;have HM':=Lib.hid hM';clear hx4' hx4 hr4 hxa hmc hM')
    refine hK.out _ _ (trivial) (fun hHeld=>?_)
    clear hK K
    try simp only [Act.put,List.setIfInBounds_toArray,List.set_cons_zero,List.set_cons_succ]
    refine held_call (i:=10) (by kernel_rfl) rfl (by rfl) (fun K hK=>?_)
    go_simp
    skip
    refine hK.out _ _ (trivial) (fun hHeld=>?_)
    clear hK K
    try simp only [Act.put,List.setIfInBounds_toArray,List.set_cons_zero,List.set_cons_succ]
    refine held_call (i:=11) (by kernel_rfl) rfl (by rfl) (fun K hK=>?_)
    skip
    refine wp_append_x _ (.tmp 20) (.tmp 26) 53 rfl base 47 i0 _ 1 8 Tryz.underlying53 hi hz0 hz1 hz2 rfl (by decide) s hs.length (ms.map ptr12) (by rfl) HRA.out.own (fun b=>b=w4.heap.size) ⟨some ⟨w4.heap.size,0,none⟩,1⟩ 1 [ptr12 M'] (by rfl) HSRC.out (hone M') h63 hby HRA.out.old ?_;intro s5 w5 hown5 hwr5 hs5;have HO5:=Lib.hid hown5;have HW5:=Lib.hid hwr5;have HS5:=Lib.hid hs5;have hB5:Blk w5 R 55 #[ptr12 M,.slice s.a hs.length s.c]:=HRA.out.blk.agree (hwr5.agree (F:=fun b=>b=R) (fun i hi=>by rw [hi];exact HRA.out.blk.lt) (fun k hk e=>HRA.out.ne_rowR (by rw [hk,e]))) rfl;have c15:w5.cell? ⟨R,1,none⟩=some (.slice s.a hs.length s.c):=hB5.cell 1;have lR5:=hB5.lt;have fR5:w5.frozen? ⟨R,1,none⟩=false:=hB5.frozen 1;have HB5:=Lib.hid hB5;clear hown5 hwr5 hs5 hB5
    refine hK.out _ _ (trivial) (fun hHeld=>?_)
    clear hK K
    try simp only [Act.put,List.setIfInBounds_toArray,List.set_cons_zero,List.set_cons_succ]
    refine heldT 12 (some 28) HS0 hHeld ?_
    refine heldT 13 (some 29) HS0 hHeld ?_
    refine held_call (i:=14) (by kernel_rfl) rfl (by rfl) (fun K hK=>?_)
    go_simp
    skip
    refine hK.out _ _ (trivial) (fun hHeld=>?_)
    clear hK K
    try simp only [Act.put,List.setIfInBounds_toArray,List.set_cons_zero,List.set_cons_succ]
    refine wpAnyH_done (by kernel_rfl) ?_ _
    obtain ⟨H',hHH,hHn,hr5,hst5,hsr5⟩:=R12.step HR3.out HX4.out HM'.out HMC.out HO5.out HW5.out HS5.out HB5.out
    have hput:=put12_tail HH.out HV.out HX3.out hHH hHn hr5 hst5 hso hc hk
    have HBX:=Lib.hid (hst5.blk HB3.out (by rintro (e | e);exact absurd (HH.out.below _ (e▸HH.out.hR)) (Nat.lt_irrefl _);exact absurd (HH.out.below _ (HH.out.hrow _ e)) (Nat.lt_irrefl _)))
    have HPUT:=Lib.hid hput
    have HR5:=Lib.hid hr5
    have HSR:=Lib.hid (show (∀ b,s5.row=some b→s.row=some b∨w.heap.size≤b)∧w.heap.size≤M' from ⟨fun b hb=>(hsr5 b hb).imp id (Nat.le_trans HX3.out.size),Nat.le_trans HX3.out.size HM'.out⟩)
    have HST5:=Lib.hid hst5
    have HHH:=Lib.hid hHH
    have HHN:=Lib.hid hHn
    have HM:=Lib.hid hm
    have HF:=Lib.hid hf
    clear hsr5 hput hr5 hst5 hHH hHn hm hf HO5 HW5 HS5 HB5 HMC HM' HX4 HXA HRA HSRC c0 c1 c15 fR5 lR5 lR4 lR
    generalize w5.setCell ⟨R,1,none⟩ (.slice s5.a (hs.length+1) s5.c)=W5 at *
    have hbR:Blk W5 R 55 #[ptr12 M,.slice s5.a (hs++[es]).length s5.c]:=HR5.out.blk
    have hbB:Blk W5 w.heap.size 34 (valC v sl so):=HBX.out
    have HNM:=Lib.hid (And.intro HR5.out.neRM (show w.heap.size≠M from fun e=>by obtain ⟨v',hv'⟩:=HR5.out.cur.blk0;exact blk_ne hbB hv' (by decide) e))
    have HSS:=Lib.hid (show ∀ W,(Blk W R 55 #[ptr12 M,.slice s5.a (hs++[es]).length s5.c]∧Blk W w.heap.size 34 (valC v sl so))→_ from fun W h=>(⟨h.1.cell 0,h.1.lt,h.2.c6,h.2.lt⟩:W.cell? ⟨R,0,none⟩=some (ptr12 M)∧R<W.heap.size∧_∧w.heap.size<W.heap.size))
    go_wp2_with fail
    refine wp_region_held_drew (S:=(fun W=>Blk W R 55 #[ptr12 M,.slice s5.a (hs++[es]).length s5.c]∧Blk W w.heap.size 34 (valC v sl so))) (by kernel_rfl) (⟨hbR,hbB⟩) (fun hHeld=>?_)
    refine heldT 0 (some 30) HSS hHeld ?_
    refine heldT 1 (some 31) HSS hHeld ?_
    refine heldT 2 (some 32) HSS hHeld ?_
    refine heldT 3 (some 33) HSS hHeld ?_
    refine heldT 4 (some 34) HSS hHeld ?_
    refine heldT 5 (some 35) HSS hHeld ?_
    refine held_call (i:=6) (by kernel_rfl) rfl (by rfl) (fun K hK=>?_)
    go_simp
    (refine (HPUT.out _ ((Ext.refl W5).drew)).mono ?_;rintro e w8 ⟨⟨r,rfl⟩,hm8,hst8⟩)
    refine hK.out _ _ (⟨hst8.blk hHeld.1 HNM.out.1,hst8.blk hHeld.2 HNM.out.2⟩) (fun hHeld=>?_)
    clear hK K
    try simp only [Act.put,List.setIfInBounds_toArray,List.set_cons_zero,List.set_cons_succ]
    refine wpAnyH_done (by kernel_rfl) ?_ _
    have HM8:=Lib.hid hm8
    have HST8:=Lib.hid hst8
    clear hm8 hst8
    go_wp2_with fail
    go_ret
    have hst8:St (fun b=>b=M) W5 w8:=(((Ext.refl W5).drew).st _).trans HST8.out
    exact .inr (.inr ⟨HM.out,HF.out,rfl,H',s5,M',HHH.out,fun b hb=>(HHN.out b hb).imp id (Nat.le_trans HX3.out.size),HR5.out.turned HM8.out hst8,(HX3.out.st _).trans ((HST5.out.mono fun i _ hi=>hi.elim .inl fun e=>.inr (.inr e)).trans (hst8.mono fun i _ hi=>.inr (.inl hi))),HSR.out⟩)
   go_simp
   (refine HCOPY.out.mono ?_;rintro e w4 ⟨M',rfl,hM',hx4',hmc⟩;have hx4:Ext w3 w4:=((Ext.refl w3).drew).trans hx4';have hr4:=HR3.out.ext hx4;have c0:w4.cell? ⟨R,0,none⟩=some (ptr12 M):=hr4.blk.cell 0;have c1:w4.cell? ⟨R,1,none⟩=some (.slice s.a hs.length s.c):=hr4.blk.cell 1;have lR4:=hr4.blk.lt;have hxa:Ext w4 (w4.alloc (.cells #[ptr12 M'] 47)):=(Ext.refl w4).alloc _ _;have HRA:=Lib.hid (hr4.ext hxa);have HSRC:=Lib.hid (Rd.block (size:=1) (n:=1) (cs:=[ptr12 M']) (Blk.new w4 47 #[ptr12 M']) (by decide) rfl);have HX4:=Lib.hid hx4;have HXA:=Lib.hid hxa;have HMC:=Lib.hid hmc;have HM':=Lib.hid hM';clear hx4' hx4 hr4 hxa hmc hM')
   refine hK.out _ _ (trivial) (fun hHeld=>?_)
   clear hK K
   try simp only [Act.put,List.setIfInBounds_toArray,List.set_cons_zero,List.set_cons_succ]
   refine held_two (i:=4) (j:=10) (by kernel_rfl) rfl rfl (by rfl) (by rfl) (fun K hK=>?_) (fun K hK=>?_)
   ·go_simp
    skip
    refine hK.out _ _ (trivial) (fun hHeld=>?_)
    clear hK K
    try simp only [Act.put,List.setIfInBounds_toArray,List.set_cons_zero,List.set_cons_succ]
    refine held_call (i:=10) (by kernel_rfl) rfl (by rfl) (fun K hK=>?_)
    go_simp
    skip
    refine hK.out _ _ (trivial) (fun hHeld=>?_)
    clear hK K
    try simp only [Act.put,List.setIfInBounds_toArray,List.set_cons_zero,List.set_cons_succ]
    refine held_call (i:=11) (by kernel_rfl) rfl (by rfl) (fun K hK=>?_)
    skip
    refine wp_append_x _ (.tmp 20) (.tmp 26) 53 rfl base 47 i0 _ 1 8 Tryz.underlying53 hi hz0 hz1 hz2 rfl (by decide) s hs.length (ms.map ptr12) (by rfl) HRA.out.own (fun b=>b=w4.heap.size) ⟨some ⟨w4.heap.size,0,none⟩,1⟩ 1 [ptr12 M'] (by rfl) HSRC.out (hone M') h63 hby HRA.out.old ?_;intro s5 w5 hown5 hwr5 hs5;have HO5:=Lib.hid hown5;have HW5:=Lib.hid hwr5;have HS5:=Lib.hid hs5;have hB5:Blk w5 R 55 #[ptr12 M,.slice s.a hs.length s.c]:=HRA.out.blk.agree (hwr5.agree (F:=fun b=>b=R) (fun i hi=>by rw [hi];exact HRA.out.blk.lt) (fun k hk e=>HRA.out.ne_rowR (by rw [hk,e]))) rfl;have c15:w5.cell? ⟨R,1,none⟩=some (.slice s.a hs.length s.c):=hB5.cell 1;have lR5:=hB5.lt;have fR5:w5.frozen? ⟨R,1,none⟩=false:=hB5.frozen 1;have HB5:=Lib.hid hB5;clear hown5 hwr5 hs5 hB5
    refine hK.out _ _ (trivial) (fun hHeld=>?_)
    clear hK K
    try simp only [Act.put,List.setIfInBounds_toArray,List.set_cons_zero,List.set_cons_succ]
    refine heldT 12 (some 28) HS0 hHeld ?_
    refine heldT 13 (some 29) HS0 hHeld ?_
    refine held_call (i:=14) (by kernel_rfl) rfl (by rfl) (fun K hK=>?_)
    go_simp
    skip
    refine hK.out _ _ (trivial) (fun hHeld=>?_)
    clear hK K
    try simp only [Act.put,List.setIfInBounds_toArray,List.set_cons_zero,List.set_cons_succ]
    refine wpAnyH_done (by kernel_rfl) ?_ _
    obtain ⟨H',hHH,hHn,hr5,hst5,hsr5⟩:=R12.step HR3.out HX4.out HM'.out HMC.out HO5.out HW5.out HS5.out HB5.out
    have hput:=put12_tail HH.out HV.out HX3.out hHH hHn hr5 hst5 hso hc hk
    have HBX:=Lib.hid (hst5.blk HB3.out (by rintro (e | e);exact absurd (HH.out.below _ (e▸HH.out.hR)) (Nat.lt_irrefl _);exact absurd (HH.out.below _ (HH.out.hrow _ e)) (Nat.lt_irrefl _)))
    have HPUT:=Lib.hid hput
    have HR5:=Lib.hid hr5
    have HSR:=Lib.hid (show (∀ b,s5.row=some b→s.row=some b∨w.heap.size≤b)∧w.heap.size≤M' from ⟨fun b hb=>(hsr5 b hb).imp id (Nat.le_trans HX3.out.size),Nat.le_trans HX3.out.size HM'.out⟩)
    have HST5:=Lib.hid hst5
    have HHH:=Lib.hid hHH
    have HHN:=Lib.hid hHn
    have HM:=Lib.hid hm
    have HF:=Lib.hid hf
    clear hsr5 hput hr5 hst5 hHH hHn hm hf HO5 HW5 HS5 HB5 HMC HM' HX4 HXA HRA HSRC c0 c1 c15 fR5 lR5 lR4 lR
    generalize w5.setCell ⟨R,1,none⟩ (.slice s5.a (hs.length+1) s5.c)=W5 at *
    have hbR:Blk W5 R 55 #[ptr12 M,.slice s5.a (hs++[es]).length s5.c]:=HR5.out.blk
    have hbB:Blk W5 w.heap.size 34 (valC v sl so):=HBX.out
    have HNM:=Lib.hid (And.intro HR5.out.neRM (show w.heap.size≠M from fun e=>by obtain ⟨v',hv'⟩:=HR5.out.cur.blk0;exact blk_ne hbB hv' (by decide) e))
    have HSS:=Lib.hid (show ∀ W,(Blk W R 55 #[ptr12 M,.slice s5.a (hs++[es]).length s5.c]∧Blk W w.heap.size 34 (valC v sl so))→_ from fun W h=>(⟨h.1.cell 0,h.1.lt,h.2.c6,h.2.lt⟩:W.cell? ⟨R,0,none⟩=some (ptr12 M)∧R<W.heap.size∧_∧w.heap.size<W.heap.size))
    go_wp2_with fail
    refine wp_region_held_drew (S:=(fun W=>Blk W R 55 #[ptr12 M,.slice s5.a (hs++[es]).length s5.c]∧Blk W w.heap.size 34 (valC v sl so))) (by kernel_rfl) (⟨hbR,hbB⟩) (fun hHeld=>?_)
    refine heldT 0 (some 30) HSS hHeld ?_
    refine heldT 1 (some 31) HSS hHeld ?_
    refine heldT 2 (some 32) HSS hHeld ?_
    refine heldT 3 (some 33) HSS hHeld ?_
    refine heldT 4 (some 34) HSS hHeld ?_
    refine heldT 5 (some 35) HSS hHeld ?_
    refine held_call (i:=6) (by kernel_rfl) rfl (by rfl) (fun K hK=>?_)
    go_simp
    (refine (HPUT.out _ ((Ext.refl W5).drew)).mono ?_;rintro e w8 ⟨⟨r,rfl⟩,hm8,hst8⟩)
    refine hK.out _ _ (⟨hst8.blk hHeld.1 HNM.out.1,hst8.blk hHeld.2 HNM.out.2⟩) (fun hHeld=>?_)
    clear hK K
    try simp only [Act.put,List.setIfInBounds_toArray,List.set_cons_zero,List.set_cons_succ]
    refine wpAnyH_done (by kernel_rfl) ?_ _
    have HM8:=Lib.hid hm8
    have HST8:=Lib.hid hst8
    clear hm8 hst8
    go_wp2_with fail
    go_ret
    have hst8:St (fun b=>b=M) W5 w8:=(((Ext.refl W5).drew).st _).trans HST8.out
    exact .inr (.inr ⟨HM.out,HF.out,rfl,H',s5,M',HHH.out,fun b hb=>(HHN.out b hb).imp id (Nat.le_trans HX3.out.size),HR5.out.turned HM8.out hst8,(HX3.out.st _).trans ((HST5.out.mono fun i _ hi=>hi.elim .inl fun e=>.inr (.inr e)).trans (hst8.mono fun i _ hi=>.inr (.inl hi))),HSR.out⟩)
   go_simp
   skip
   refine hK.out _ _ (trivial) (fun hHeld=>?_)
   clear hK K
   try simp only [Act.put,List.setIfInBounds_toArray,List.set_cons_zero,List.set_cons_succ]
   refine held_call (i:=4) (by kernel_rfl) rfl (by rfl) (fun K hK=>?_)
   go_simp
   skip
   refine hK.out _ _ (trivial) (fun hHeld=>?_)
   clear hK K
   try simp only [Act.put,List.setIfInBounds_toArray,List.set_cons_zero,List.set_cons_succ]
   refine held_call (i:=11) (by kernel_rfl) rfl (by rfl) (fun K hK=>?_)
   skip
   refine wp_append_x _ (.tmp 20) (.tmp 26) 53 rfl base 47 i0 _ 1 8 Tryz.underlying53 hi hz0 hz1 hz2 rfl (by decide) s hs.length (ms.map ptr12) (by rfl) HRA.out.own (fun b=>b=w4.heap.size) ⟨some ⟨w4.heap.size,0,none⟩,1⟩ 1 [ptr12 M'] (by rfl) HSRC.out (hone M') h63 hby HRA.out.old ?_;intro s5 w5 hown5 hwr5 hs5;have HO5:=Lib.hid hown5;have HW5:=Lib.hid hwr5;have HS5:=Lib.hid hs5;have hB5:Blk w5 R 55 #[ptr12 M,.slice s.a hs.length s.c]:=HRA.out.blk.agree (hwr5.agree (F:=fun b=>b=R) (fun i hi=>by rw [hi];exact HRA.out.blk.lt) (fun k hk e=>HRA.out.ne_rowR (by rw [hk,e]))) rfl;have c15:w5.cell? ⟨R,1,none⟩=some (.slice s.a hs.length s.c):=hB5.cell 1;have lR5:=hB5.lt;have fR5:w5.frozen? ⟨R,1,none⟩=false:=hB5.frozen 1;have HB5:=Lib.hid hB5;clear hown5 hwr5 hs5 hB5
   refine hK.out _ _ (trivial) (fun hHeld=>?_)
   clear hK K
   try simp only [Act.put,List.setIfInBounds_toArray,List.set_cons_zero,List.set_cons_succ]
   refine heldT 12 (some 28) HS0 hHeld ?_
   refine heldT 13 (some 29) HS0 hHeld ?_
   refine held_call (i:=14) (by kernel_rfl) rfl (by rfl) (fun K hK=>?_)
   go_simp
   skip
   refine hK.out _ _ (trivial) (fun hHeld=>?_)
   clear hK K
   try simp only [Act.put,List.setIfInBounds_toArray,List.set_cons_zero,List.set_cons_succ]
   refine wpAnyH_done (by kernel_rfl) ?_ _
   obtain ⟨H',hHH,hHn,hr5,hst5,hsr5⟩:=R12.step HR3.out HX4.out HM'.out HMC.out HO5.out HW5.out HS5.out HB5.out
   have hput:=put12_tail HH.out HV.out HX3.out hHH hHn hr5 hst5 hso hc hk
   have HBX:=Lib.hid (hst5.blk HB3.out (by rintro (e | e);exact absurd (HH.out.below _ (e▸HH.out.hR)) (Nat.lt_irrefl _);exact absurd (HH.out.below _ (HH.out.hrow _ e)) (Nat.lt_irrefl _)))
   have HPUT:=Lib.hid hput
   have HR5:=Lib.hid hr5
   have HSR:=Lib.hid (show (∀ b,s5.row=some b→s.row=some b∨w.heap.size≤b)∧w.heap.size≤M' from ⟨fun b hb=>(hsr5 b hb).imp id (Nat.le_trans HX3.out.size),Nat.le_trans HX3.out.size HM'.out⟩)
   have HST5:=Lib.hid hst5
   have HHH:=Lib.hid hHH
   have HHN:=Lib.hid hHn
   have HM:=Lib.hid hm
   have HF:=Lib.hid hf
   clear hsr5 hput hr5 hst5 hHH hHn hm hf HO5 HW5 HS5 HB5 HMC HM' HX4 HXA HRA HSRC c0 c1 c15 fR5 lR5 lR4 lR
   generalize w5.setCell ⟨R,1,none⟩ (.slice s5.a (hs.length+1) s5.c)=W5 at *
   have hbR:Blk W5 R 55 #[ptr12 M,.slice s5.a (hs++[es]).length s5.c]:=HR5.out.blk
   have hbB:Blk W5 w.heap.size 34 (valC v sl so):=HBX.out
   have HNM:=Lib.hid (And.intro HR5.out.neRM (show w.heap.size≠M from fun e=>by obtain ⟨v',hv'⟩:=HR5.out.cur.blk0;exact blk_ne hbB hv' (by decide) e))
   have HSS:=Lib.hid (show ∀ W,(Blk W R 55 #[ptr12 M,.slice s5.a (hs++[es]).length s5.c]∧Blk W w.heap.size 34 (valC v sl so))→_ from fun W h=>(⟨h.1.cell 0,h.1.lt,h.2.c6,h.2.lt⟩:W.cell? ⟨R,0,none⟩=some (ptr12 M)∧R<W.heap.size∧_∧w.heap.size<W.heap.size))
   go_wp2_with fail
   refine wp_region_held_drew (S:=(fun W=>Blk W R 55 #[ptr12 M,.slice s5.a (hs++[es]).length s5.c]∧Blk W w.heap.size 34 (valC v sl so))) (by kernel_rfl) (⟨hbR,hbB⟩) (fun hHeld=>?_)
   refine heldT 0 (some 30) HSS hHeld ?_
   refine heldT 1 (some 31) HSS hHeld ?_
   refine heldT 2 (some 32) HSS hHeld ?_
   refine heldT 3 (some 33) HSS hHeld ?_
   refine heldT 4 (some 34) HSS hHeld ?_
   refine heldT 5 (some 35) HSS hHeld ?_
   refine held_call (i:=6) (by kernel_rfl) rfl (by rfl) (fun K hK=>?_)
   go_simp
   (refine (HPUT.out _ ((Ext.refl W5).drew)).mono ?_;rintro e w8 ⟨⟨r,rfl⟩,hm8,hst8⟩)
   refine hK.out _ _ (⟨hst8.blk hHeld.1 HNM.out.1,hst8.blk hHeld.2 HNM.out.2⟩) (fun hHeld=>?_)
   clear hK K
   try simp only [Act.put,List.setIfInBounds_toArray,List.set_cons_zero,List.set_cons_succ]
   refine wpAnyH_done (by kernel_rfl) ?_ _
   have HM8:=Lib.hid hm8
   have HST8:=Lib.hid hst8
   clear hm8 hst8
   go_wp2_with fail
   go_ret
   have hst8:St (fun b=>b=M) W5 w8:=(((Ext.refl W5).drew).st _).trans HST8.out
   exact .inr (.inr ⟨HM.out,HF.out,rfl,H',s5,M',HHH.out,fun b hb=>(HHN.out b hb).imp id (Nat.le_trans HX3.out.size),HR5.out.turned HM8.out hst8,(HX3.out.st _).trans ((HST5.out.mono fun i _ hi=>hi.elim .inl fun e=>.inr (.inr e)).trans (hst8.mono fun i _ hi=>.inr (.inl hi))),HSR.out⟩)
  have g1:(fitV v != 0)=true:=by simpa using hf
  have HM:=Lib.hid hm
  have HF:=Lib.hid hf
  clear hm hf
  go_wp2_with fail
  go_ret
  exact .inr (.inl ⟨HM.out,HF.out,rfl,HX3.out⟩)
 have g0:(mayK k != 0)=true:=by simpa using hm
 have HM:=Lib.hid hm
 clear hm
 go_wp2_with fail
 go_ret
 exact .inl ⟨HM.out,rfl,HX0.out⟩
theorem begin12_any {H:Nat→Prop} {w:World} {M0:Nat} {es:List Ent} (h:MapAt H w M0 es) (hH:∀ b,H b→b<w.heap.size) (hc:es.length≤1000000):Calls Tryz.prog 16 #[.pointer (some ⟨M0,0,none⟩)] w fun e w'=>
  ∃ R M,e=.returned (.pointer (some ⟨R,0,none⟩))∧w.heap.size≤R∧w.heap.size≤M∧Ext w w'∧R12 (fun b=>(H b∨b=M)∨b=R) w' w.heap.size R M Sl.none es [] []:=by
 have hcp:=copy7_any h hH hc
 have HCP:=Lib.hid hcp
 have HH:=Lib.hid hH
 clear hcp h hH
 go_enter Tryz.func16,Tryz.ntmps16
 go_wp2_with fail
 refine HCP.out.mono ?_
 rintro e w1 ⟨M,rfl,hM,hx1,hmc⟩
 have hx2:Ext w1 (w1.alloc (.cells #[.pointer (some ⟨M,0,none⟩),.slice none 0 0] 55)):=(Ext.refl w1).alloc _ _
 have hb2:=Blk.new w1 55 #[.pointer (some ⟨M,0,none⟩),.slice none 0 0]
 have HX1:=Lib.hid hx1
 have HX2:=Lib.hid hx2
 have HB2:=Lib.hid hb2
 have HMC:=Lib.hid hmc
 have HM:=Lib.hid hM
 clear hx1 hx2 hb2 hmc hM
 go_wp2_with fail
 go_ret
 have hz1:=HX1.out.size
 have hMl:M<w1.heap.size:=by obtain ⟨v,hv⟩:=HMC.out.blk0;exact hv.lt
 refine ⟨w1.heap.size,M,rfl,hz1,HM.out,HX1.out.trans HX2.out,?_⟩
 have hsz:(w1.alloc (.cells #[.pointer (some ⟨M,0,none⟩),.slice none 0 0] 55)).heap.size=w1.heap.size+1:=World.size_alloc _ _
 refine ⟨fun b hb=>?_,by omega,.inr rfl,fun b hb=>(by cases hb),HB2.out,World.ownsRow_nil _ _ _ _,?_,rfl,List.nodup_nil,fun j m es' hj=>by simp at hj⟩
 ·rcases hb with (hb | hb) | hb
  ·have:=HH.out b hb;omega
  ·omega
  omega
 exact (HMC.out.more (G:=fun b=>(H b∨b=M)∨b=w1.heap.size) (fun b hb=>.inl hb) fun b hb hg=>hg.elim id fun e=>by omega).ext HX2.out
end Go.Proofs.YtechahocffcbpaaGreatDoor
