/- What the theorem needs of the texts Cmp02, BuiltP, Build, SameEnt, Map7b, Del7, PairE, PairN, DeleteE, DeleteN, DelT, Mend: no condition of its own. -/
import Derived.Deep.RegionLaw
import Derived.Lib.SliceRun
import Derived.Test.YtechahocffcbpaaGreatDoorPwa
import Derived.Test.YtechahocffcbpaaGreatDoorPwb
import Derived.Test.YtechahocffcbpaaGreatDoorPwc
set_option maxRecDepth 100000
set_option maxHeartbeats 2000000
namespace Go.Proofs.YtechahocffcbpaaGreatDoor
open Go.RowKit
set_option linter.unusedVariables false
set_option linter.unusedSimpArgs false
def CmpPost (n:Int) (w:World) (e:Ending) (w':World):Prop:=e=.returned (.int .i64 n)∧Ext w w'
theorem cmpL_drop {l l':List Val} {j:Nat} {a b:Val} (ha:l[j]? = some a) (hb:l'[j]? = some b):cmpL (l.drop j) (l'.drop j)=if cmpV a b≠0 then cmpV a b else cmpL (l.drop (j+1)) (l'.drop (j+1)):=by
 obtain ⟨h1,rfl⟩:=List.getElem?_eq_some_iff.1 ha
 obtain ⟨h2,rfl⟩:=List.getElem?_eq_some_iff.1 hb
 rw [List.drop_eq_getElem_cons h1,List.drop_eq_getElem_cons h2]
 simp only [cmpL]
theorem cmpL_end {l l':List Val} {j:Nat} (h:j=l.length∨j=l'.length) (h1:j≤l.length) (h2:j≤l'.length):cmpL (l.drop j) (l'.drop j)=numI (l.length:Int) (l'.length:Int):=by
 by_cases ha:j=l.length
 ·have e1:l.drop j=[]:=List.drop_eq_nil_iff.2 (by omega)
  rw [e1]
  simp only [cmpL,List.length_drop]
  unfold numI
  by_cases hb:l'.length - j=0
  ·rw [if_pos hb,if_neg (by omega),if_neg (by omega)]
  rw [if_neg hb,if_pos (by omega)]
 obtain ⟨a,r,hr⟩:∃ a r,l.drop j=a :: r:=by
  cases hd:l.drop j with
  | nil=>have:=List.drop_eq_nil_iff.1 hd;omega
  | cons a r=>exact ⟨a,r,rfl⟩
 have e2:l'.drop j=[]:=List.drop_eq_nil_iff.2 (by omega)
 rw [hr,e2]
 simp only [cmpL]
 unfold numI
 rw [if_neg (by omega),if_pos (by omega)]
theorem cmpM_drop {l l':List Val} {k k':List ByteArray} {j:Nat} {a b:Val} {x y:ByteArray} (ha:l[j]? = some a) (hb:l'[j]? = some b) (hx:k[j]? = some x) (hy:k'[j]? = some y) :
  cmpM (l.drop j) (k.drop j) (k'.drop j) (l'.drop j)=if textI x y≠0 then textI x y else if cmpV a b≠0 then cmpV a b else cmpM (l.drop (j+1)) (k.drop (j+1)) (k'.drop (j+1)) (l'.drop (j+1)):=by
 obtain ⟨h1,rfl⟩:=List.getElem?_eq_some_iff.1 ha
 obtain ⟨h2,rfl⟩:=List.getElem?_eq_some_iff.1 hb
 obtain ⟨h3,rfl⟩:=List.getElem?_eq_some_iff.1 hx
 obtain ⟨h4,rfl⟩:=List.getElem?_eq_some_iff.1 hy
 rw [List.drop_eq_getElem_cons h1,List.drop_eq_getElem_cons h2,List.drop_eq_getElem_cons h3,List.drop_eq_getElem_cons h4]
 simp only [cmpM,List.headD_cons,List.tail_cons]
 rfl
theorem cmpM_end {l l':List Val} {k k':List ByteArray} {j:Nat} (h:j=l.length∨j=l'.length) (h1:j≤l.length) (h2:j≤l'.length):cmpM (l.drop j) (k.drop j) (k'.drop j) (l'.drop j)=numI (l.length:Int) (l'.length:Int):=by
 by_cases ha:j=l.length
 ·have e1:l.drop j=[]:=List.drop_eq_nil_iff.2 (by omega)
  rw [e1]
  simp only [cmpM,List.length_drop]
  unfold numI
  by_cases hb:l'.length - j=0
  ·rw [if_pos hb,if_neg (by omega),if_neg (by omega)]
  rw [if_neg hb,if_pos (by omega)]
 obtain ⟨a,r,hr⟩:∃ a r,l.drop j=a :: r:=by
  cases hd:l.drop j with
  | nil=>have:=List.drop_eq_nil_iff.1 hd;omega
  | cons a r=>exact ⟨a,r,rfl⟩
 have e2:l'.drop j=[]:=List.drop_eq_nil_iff.2 (by omega)
 rw [hr,e2]
 simp only [cmpM]
 unfold numI
 rw [if_neg (by omega),if_pos (by omega)]
theorem cmp02_any (m:Nat):∀ (x y:Val),SizeOf.sizeOf x≤m→∀ (w:World) (sl so sl' so':Sl),RV w (Lt w.heap.size) x sl so→RV w (Lt w.heap.size) y sl' so'→
  Calls Tryz.prog 53 #[aggV x sl so,aggV y sl' so'] w (CmpPost (cmpV x y) w):=by
 induction m with
 | zero=>intro d y hd;have:=Val.sz_pos d;omega
 | succ m ih=>
 intro x y hd w sl so sl' so' h h'
 have HI:=Lib.hid ih
 clear ih
 have hn:∀ W a b,Calls Tryz.prog 86 #[.int .i64 a,.int .i64 b] W fun e w'=>e=.returned (.int .i64 (numI a b))∧W=w':=numbers_any
 have HN:=Lib.hid hn
 clear hn
 obtain ⟨k,b,i,t,l,ok,ov⟩:=x
 obtain ⟨k',b',i',t',l',ok',ov'⟩:=y
 show Calls _ _ #[.agg #[.int .i64 k,.bool b,.int .i64 i,.string t,.slice sl.a l.length sl.c,.slice so.a ok.length so.c],.agg #[.int .i64 k',.bool b',.int .i64 i',.string t',.slice sl'.a l'.length sl'.c,.slice so'.a ok'.length so'.c]] _ _
 cases h with
 | mk bl fl bo fo cl co hl ho hov el rl ek eo ro bk bi bt nl no=>
 cases h' with
 | mk bl' fl' bo' fo' cl' co' hl' ho' hov' el' rl' ek' eo' ro' bk' bi' bt' nl' no'=>
 have hsl:∀ (j:Nat) (d:Val),l[j]? = some d→SizeOf.sizeOf d≤m:=fun j d hj=>Nat.le_of_lt_succ (Nat.lt_of_lt_of_le (Val.sz_l hj) hd)
 have hso:∀ (j:Nat) (d:Val),ov[j]? = some d→SizeOf.sizeOf d≤m:=fun j d hj=>Nat.le_of_lt_succ (Nat.lt_of_lt_of_le (Val.sz_o hj) hd)
 have HSL:=Lib.hid hsl
 have HSO:=Lib.hid hso
 have HEL:=Lib.hid el
 have HRL:=Lib.hid rl
 have HEK:=Lib.hid ek
 have HEO:=Lib.hid eo
 have HRO:=Lib.hid ro
 have HOV:=Lib.hid hov
 have HEL':=Lib.hid el'
 have HRL':=Lib.hid rl'
 have HEK':=Lib.hid ek'
 have HEO':=Lib.hid eo'
 have HRO':=Lib.hid ro'
 have HOV':=Lib.hid hov'
 have hcv:cmpV (.mk k b i t l ok ov) (.mk k' b' i' t' l' ok' ov')=if k≠k' then numI k k' else if k=2 then boolI b b' else if k=3 then numI i i' else if k=4 then textI t t' else if k=5 then cmpL l l' else if k=6 then cmpM ov ok ok' ov' else 0:=by
  simp only [cmpV,Val.kind,Val.b,Val.i,Val.t,Val.l,Val.ok,Val.ov]
  rfl
 rw [hcv]
 clear hsl hso el rl ek eo ro hov hd el' rl' ek' eo' ro' hov' hcv
 by_cases hkk:k=k'
 ·subst hkk
  have hkb:(k != k)=false:=by simp
  rw [if_neg (by simp)]
  by_cases h2:k=2
  ·subst h2
   rw [if_pos rfl]
   cases b <;> cases b' <;>
   ·go_enter Tryz.func53,Tryz.ntmps53
    go_wp2_with fail
    go_ret
    exact ⟨rfl,((Ext.refl w).alloc _ _).alloc _ _⟩
  by_cases h3:k=3
  ·subst h3
   rw [if_neg h2,if_pos rfl]
   clear h2
   go_enter Tryz.func53,Tryz.ntmps53
   go_wp2_with fail
   refine (HN.out _ _ _).mono ?_
   rintro e w2 ⟨rfl,rfl⟩
   go_wp2_with fail
   go_ret
   exact ⟨rfl,((Ext.refl w).alloc _ _).alloc _ _⟩
  by_cases h4:k=4
  ·subst h4
   rw [if_neg h2,if_neg h3,if_pos rfl]
   clear h2 h3
   have hx:=fun W=>texts_any W t t' bt bt'
   have HTX:=Lib.hid hx
   clear hx
   go_enter Tryz.func53,Tryz.ntmps53
   go_wp2_with fail
   refine (HTX.out _).mono ?_
   rintro e w2 ⟨rfl,hx⟩
   have HX:=Lib.hid hx
   clear hx
   go_wp2_with fail
   go_ret
   exact ⟨rfl,(((Ext.refl w).alloc _ _).alloc _ _).trans HX.out⟩
  rw [if_neg h2,if_neg h3,if_neg h4]
  by_cases h5:k=5
  ·subst h5
   rw [if_pos rfl]
   clear h2 h3 h4
   have hnl:l.length≤140737488355328:=by omega
   have hnl':l'.length≤140737488355328:=by omega
   go_enter Tryz.func53,Tryz.ntmps53
   go_wp2_with fail
   generalize hW0:World.alloc (World.alloc _ _) _=W0
   obtain ⟨hx0,hz0,hb0,hb1⟩:=two_blocks w _ _ _ _ W0 hW0
   clear hW0
   have HX0:=Lib.hid hx0
   have HB0:=Lib.hid hb0
   have HB1:=Lib.hid hb1
   clear hx0 hb0 hb1
   go_loopw [5] (fun q wr=>∃ j:Nat,q=.int .i64 j∧j≤l.length∧j≤l'.length∧cmpL l l'=cmpL (l.drop j) (l'.drop j)∧Ext W0 wr) (fun q _=>l.length - (intOf q).toNat)
   case atStart=>exact ⟨0,rfl,Nat.zero_le _,Nat.zero_le _,rfl,Ext.refl W0⟩
   obtain ⟨j,rfl,hjl,hjl',hp,hx⟩:=hrel
   obtain ⟨-,-,-,-,q4,-⟩:=(HB0.out.ext hx).c6
   obtain ⟨-,-,-,-,r4,-⟩:=(HB1.out.ext hx).c6
   have lw0:=(HB0.out.ext hx).lt
   have lw1:=(HB1.out.ext hx).lt
   have HP:=Lib.hid hp
   have HX:=Lib.hid hx
   by_cases h1:j<l.length
   ·by_cases h2:j<l'.length
    ·have g1:(j:Int)<(l.length:Int):=by omega
     have g2:(j:Int)<(l'.length:Int):=by omega
     obtain ⟨d,hd⟩:∃ d,l[j]? = some d:=⟨_,List.getElem?_eq_getElem h1⟩
     obtain ⟨d',hd'⟩:∃ d,l'[j]? = some d:=⟨_,List.getElem?_eq_getElem h2⟩
     have HD:=Lib.hid (cmpL_drop hd hd')
     have hag:Agree (Lt w.heap.size) w wr:=(HX0.out.trans hx).agree fun _ h=>h
     obtain ⟨sa,sc⟩:=sl
     obtain ⟨sa',sc'⟩:=sl'
     obtain ⟨rfl,hlc,hcm⟩:=hl.eq (by omega)
     obtain ⟨rfl,hlc',hcm'⟩:=hl'.eq (by omega)
     have hbl:=hl.fits (by omega)
     have hbl':=hl'.fits (by omega)
     obtain ⟨v0,v1,v2,v3,v4,v5⟩:=(HEL.out j d hd).agree hag hbl
     obtain ⟨v0',v1',v2',v3',v4',v5'⟩:=(HEL'.out j d' hd').agree hag hbl'
     have hic:∀ W,Ext wr W→Calls Tryz.prog 53 #[aggV d (cl j).1 (cl j).2,aggV d' (cl' j).1 (cl' j).2] W (CmpPost (cmpV d d') W):=fun W hW=>
      HI.out d d' (HSL.out j d hd) W _ _ _ _ (((HRL.out j d hd).agree (hag.trans (hW.agree fun _ h=>Nat.lt_of_lt_of_le h (Nat.le_trans HX0.out.size hx.size)))).mono fun i hi=>Nat.lt_of_lt_of_le hi (Nat.le_trans HX0.out.size (Nat.le_trans hx.size hW.size)))
       (((HRL'.out j d' hd').agree (hag.trans (hW.agree fun _ h=>Nat.lt_of_lt_of_le h (Nat.le_trans HX0.out.size hx.size)))).mono fun i hi=>Nat.lt_of_lt_of_le hi (Nat.le_trans HX0.out.size (Nat.le_trans hx.size hW.size)))
     have lb:bl<wr.heap.size:=Nat.lt_of_lt_of_le hbl (Nat.le_trans HX0.out.size hx.size)
     have lb':bl'<wr.heap.size:=Nat.lt_of_lt_of_le hbl' (Nat.le_trans HX0.out.size hx.size)
     clear hp hx hd hd' hag hbl hbl'
     go_wp2_with fail
     refine wp_region_held_drew (S:=(fun w'=>w'.cell? ⟨w.heap.size,4,none⟩=some (.slice (some ⟨bl,fl,none⟩) l.length sc)∧w'.cell? ⟨w.heap.size+1,4,none⟩=some (.slice (some ⟨bl',fl',none⟩) l'.length sc')∧w'.cell? ⟨bl,fl+j*6,none⟩=some (.int .i64 d.kind)∧w'.cell? ⟨bl,fl+j*6+1,none⟩=some (.bool d.b)∧w'.cell? ⟨bl,fl+j*6+2,none⟩=some (.int .i64 d.i)∧w'.cell? ⟨bl,fl+j*6+3,none⟩=some (.string d.t)∧w'.cell? ⟨bl,fl+j*6+4,none⟩=some (.slice (cl j).1.a d.l.length (cl j).1.c)∧w'.cell? ⟨bl,fl+j*6+5,none⟩=some (.slice (cl j).2.a d.ok.length (cl j).2.c)∧w'.cell? ⟨bl',fl'+j*6,none⟩=some (.int .i64 d'.kind)∧w'.cell? ⟨bl',fl'+j*6+1,none⟩=some (.bool d'.b)∧w'.cell? ⟨bl',fl'+j*6+2,none⟩=some (.int .i64 d'.i)∧w'.cell? ⟨bl',fl'+j*6+3,none⟩=some (.string d'.t)∧w'.cell? ⟨bl',fl'+j*6+4,none⟩=some (.slice (cl' j).1.a d'.l.length (cl' j).1.c)∧w'.cell? ⟨bl',fl'+j*6+5,none⟩=some (.slice (cl' j).2.a d'.ok.length (cl' j).2.c))) (by kernel_rfl) (⟨q4,r4,v0,v1,v2,v3,v4,v5,v0',v1',v2',v3',v4',v5'⟩) (fun hHeld=>?_)
     refine heldU 0 (some 61) hHeld ?_
     refine heldU 1 (some 62) hHeld ?_
     refine heldU 2 (some 63) hHeld ?_
     refine heldU 3 (some 64) hHeld ?_
     refine heldU 4 (some 65) hHeld ?_
     refine heldU 5 (some 66) hHeld ?_
     refine heldU 6 (some 67) hHeld ?_
     refine heldU 7 (some 68) hHeld ?_
     refine heldU 8 (some 69) hHeld ?_
     refine heldU 9 (some 70) hHeld ?_
     refine held_call (i:=10) (by kernel_rfl) rfl (by rfl) (fun K hK=>?_)
     go_simp
     (refine (hic _ ((Ext.refl wr).drew)).mono ?_;rintro e w2 ⟨rfl,hx2⟩;replace hx2:=((Ext.refl wr).drew).trans hx2)
     refine hK.out _ _ (⟨(hx2.cell lw0).trans q4,(hx2.cell lw1).trans r4,(hx2.cell lb).trans v0,(hx2.cell lb).trans v1,(hx2.cell lb).trans v2,(hx2.cell lb).trans v3,(hx2.cell lb).trans v4,(hx2.cell lb).trans v5,(hx2.cell lb').trans v0',(hx2.cell lb').trans v1',(hx2.cell lb').trans v2',(hx2.cell lb').trans v3',(hx2.cell lb').trans v4',(hx2.cell lb').trans v5'⟩) (fun hHeld=>?_)
     clear hK K
     try simp only [Act.put,List.setIfInBounds_toArray,List.set_cons_zero,List.set_cons_succ]
     refine heldU 11 (some 6) hHeld ?_
     refine wpAnyH_done (by kernel_rfl) ?_ _
     clear hHeld hic q4 r4 v0 v1 v2 v3 v4 v5 v0' v1' v2' v3' v4' v5'
     have HX2:=Lib.hid (HX.out.trans hx2)
     clear hx2
     by_cases hc:cmpV d d'=0
     ·have hcb:(cmpV d d' != 0)=false:=by simp [hc]
      have HC:=Lib.hid hc
      clear hc
      go_wp2_with fail
      go_roundw
      case rel=>exact ⟨j+1,by go_num,h1,h2,by rw [HP.out,HD.out,if_neg (by simp [HC.out])],HX2.out⟩
      simp [intOf];omega
     have hcb:(cmpV d d' != 0)=true:=bne_iff_ne.2 hc
     have HC:=Lib.hid hc
     clear hc
     go_wp2_with fail
     go_ret
     rw [HP.out,HD.out,if_pos HC.out]
     exact ⟨rfl,HX0.out.trans HX2.out⟩
    have g1:(j:Int)<(l.length:Int):=by omega
    have g2:¬(j:Int)<(l'.length:Int):=by omega
    have HE:=Lib.hid (cmpL_end (l:=l) (l':=l') (j:=j) (by omega) hjl hjl')
    clear hp hx
    go_wp2_with fail
    refine (HN.out _ _ _).mono ?_
    rintro e w2 ⟨rfl,rfl⟩
    go_wp2_with fail
    go_ret
    rw [HP.out,HE.out]
    exact ⟨rfl,HX0.out.trans HX.out⟩
   have g1:¬(j:Int)<(l.length:Int):=by omega
   have HE:=Lib.hid (cmpL_end (l:=l) (l':=l') (j:=j) (by omega) hjl hjl')
   clear hp hx
   go_wp2_with fail
   refine (HN.out _ _ _).mono ?_
   rintro e w2 ⟨rfl,rfl⟩
   go_wp2_with fail
   go_ret
   rw [HP.out,HE.out]
   exact ⟨rfl,HX0.out.trans HX.out⟩
  by_cases h6:k=6
  ·subst h6
   rw [if_neg h5,if_pos rfl]
   clear h2 h3 h4 h5
   have hnl:ok.length≤140737488355328:=by omega
   have hnl':ok'.length≤140737488355328:=by omega
   go_enter Tryz.func53,Tryz.ntmps53
   go_wp2_with fail
   generalize hW0:World.alloc (World.alloc _ _) _=W0
   obtain ⟨hx0,hz0,hb0,hb1⟩:=two_blocks w _ _ _ _ W0 hW0
   clear hW0
   have HX0:=Lib.hid hx0
   have HB0:=Lib.hid hb0
   have HB1:=Lib.hid hb1
   clear hx0 hb0 hb1
   go_loopw [7] (fun q wr=>∃ j:Nat,q=.int .i64 j∧j≤ok.length∧j≤ok'.length∧cmpM ov ok ok' ov'=cmpM (ov.drop j) (ok.drop j) (ok'.drop j) (ov'.drop j)∧Ext W0 wr) (fun q _=>ok.length - (intOf q).toNat)
   case atStart=>exact ⟨0,rfl,Nat.zero_le _,Nat.zero_le _,rfl,Ext.refl W0⟩
   obtain ⟨j,rfl,hjl,hjl',hp,hx⟩:=hrel
   obtain ⟨-,-,-,-,-,q5⟩:=(HB0.out.ext hx).c6
   obtain ⟨-,-,-,-,-,r5⟩:=(HB1.out.ext hx).c6
   have lw0:=(HB0.out.ext hx).lt
   have lw1:=(HB1.out.ext hx).lt
   have HP:=Lib.hid hp
   have HX:=Lib.hid hx
   by_cases h1:j<ok.length
   ·by_cases h2:j<ok'.length
    ·have g1:(j:Int)<(ok.length:Int):=by omega
     have g2:(j:Int)<(ok'.length:Int):=by omega
     obtain ⟨x,hxx⟩:∃ d,ok[j]? = some d:=⟨_,List.getElem?_eq_getElem h1⟩
     obtain ⟨x',hxx'⟩:∃ d,ok'[j]? = some d:=⟨_,List.getElem?_eq_getElem h2⟩
     obtain ⟨d,hd⟩:∃ d,ov[j]? = some d:=⟨_,List.getElem?_eq_getElem (by rw [HOV.out];exact h1)⟩
     obtain ⟨d',hd'⟩:∃ d,ov'[j]? = some d:=⟨_,List.getElem?_eq_getElem (by rw [HOV'.out];exact h2)⟩
     have HD:=Lib.hid (cmpM_drop hd hd' hxx hxx')
     have hag:Agree (Lt w.heap.size) w wr:=(HX0.out.trans hx).agree fun _ h=>h
     obtain ⟨sa,sc⟩:=so
     obtain ⟨sa',sc'⟩:=so'
     obtain ⟨rfl,hlc,hcm⟩:=ho.eq (by omega)
     obtain ⟨rfl,hlc',hcm'⟩:=ho'.eq (by omega)
     have hbl:=ho.fits (by omega)
     have hbl':=ho'.fits (by omega)
     obtain ⟨v0,v1,v2,v3,v4,v5⟩:=(HEO.out j d hd).agree hag hbl
     obtain ⟨v0',v1',v2',v3',v4',v5'⟩:=(HEO'.out j d' hd').agree hag hbl'
     have kx:=(hag.cell hbl).trans (HEK.out j x hxx).1
     have kx':=(hag.cell hbl').trans (HEK'.out j x' hxx').1
     have htx:=fun W=>texts_any W x x' (HEK.out j x hxx).2 (HEK'.out j x' hxx').2
     have hic:∀ W,Ext wr W→Calls Tryz.prog 53 #[aggV d (co j).1 (co j).2,aggV d' (co' j).1 (co' j).2] W (CmpPost (cmpV d d') W):=fun W hW=>
      HI.out d d' (HSO.out j d hd) W _ _ _ _ (((HRO.out j d hd).agree (hag.trans (hW.agree fun _ h=>Nat.lt_of_lt_of_le h (Nat.le_trans HX0.out.size hx.size)))).mono fun i hi=>Nat.lt_of_lt_of_le hi (Nat.le_trans HX0.out.size (Nat.le_trans hx.size hW.size)))
       (((HRO'.out j d' hd').agree (hag.trans (hW.agree fun _ h=>Nat.lt_of_lt_of_le h (Nat.le_trans HX0.out.size hx.size)))).mono fun i hi=>Nat.lt_of_lt_of_le hi (Nat.le_trans HX0.out.size (Nat.le_trans hx.size hW.size)))
     have lb:bo<wr.heap.size:=Nat.lt_of_lt_of_le hbl (Nat.le_trans HX0.out.size hx.size)
     have lb':bo'<wr.heap.size:=Nat.lt_of_lt_of_le hbl' (Nat.le_trans HX0.out.size hx.size)
     have HT:=Lib.hid htx
     have HIC:=Lib.hid hic
     clear hp hx hd hd' hag hbl hbl' hxx hxx' htx hic
     go_wp2_with fail
     refine wp_region_held_drew (S:=(fun w'=>w'.cell? ⟨w.heap.size,5,none⟩=some (.slice (some ⟨bo,fo,none⟩) ok.length sc)∧w'.cell? ⟨w.heap.size+1,5,none⟩=some (.slice (some ⟨bo',fo',none⟩) ok'.length sc')∧w'.cell? ⟨bo,fo+j*7,none⟩=some (.string x)∧w'.cell? ⟨bo',fo'+j*7,none⟩=some (.string x'))) (by kernel_rfl) (⟨q5,r5,kx,kx'⟩) (fun hHeld=>?_)
     refine heldU 0 (some 98) hHeld ?_
     refine heldU 1 (some 99) hHeld ?_
     refine heldU 2 (some 100) hHeld ?_
     refine heldU 3 (some 101) hHeld ?_
     refine heldU 4 (some 102) hHeld ?_
     refine heldU 5 (some 103) hHeld ?_
     refine heldU 6 (some 104) hHeld ?_
     refine heldU 7 (some 105) hHeld ?_
     refine heldU 8 (some 106) hHeld ?_
     refine heldU 9 (some 107) hHeld ?_
     refine heldU 10 (some 108) hHeld ?_
     refine heldU 11 (some 109) hHeld ?_
     refine held_call (i:=12) (by kernel_rfl) rfl (by rfl) (fun K hK=>?_)
     go_simp
     (refine (HT.out _).mono ?_;rintro e w2 ⟨rfl,hx1⟩;replace hx1:=((Ext.refl wr).drew).trans hx1)
     refine hK.out _ _ (⟨(hx1.cell lw0).trans q5,(hx1.cell lw1).trans r5,(hx1.cell lb).trans kx,(hx1.cell lb').trans kx'⟩) (fun hHeld=>?_)
     clear hK K
     try simp only [Act.put,List.setIfInBounds_toArray,List.set_cons_zero,List.set_cons_succ]
     refine heldU 13 (some 8) hHeld ?_
     refine wpAnyH_done (by kernel_rfl) ?_ _
     clear hHeld
     have HX1:=Lib.hid hx1
     have HX2:=Lib.hid (HX.out.trans hx1)
     replace q5:=(hx1.cell lw0).trans q5;replace r5:=(hx1.cell lw1).trans r5;replace v0:=(hx1.cell lb).trans v0;replace v1:=(hx1.cell lb).trans v1;replace v2:=(hx1.cell lb).trans v2;replace v3:=(hx1.cell lb).trans v3;replace v4:=(hx1.cell lb).trans v4;replace v5:=(hx1.cell lb).trans v5;replace v0':=(hx1.cell lb').trans v0';replace v1':=(hx1.cell lb').trans v1';replace v2':=(hx1.cell lb').trans v2';replace v3':=(hx1.cell lb').trans v3';replace v4':=(hx1.cell lb').trans v4';replace v5':=(hx1.cell lb').trans v5';replace kx:=(hx1.cell lb).trans kx;replace kx':=(hx1.cell lb').trans kx'
     replace lw0:=Nat.lt_of_lt_of_le lw0 hx1.size
     replace lw1:=Nat.lt_of_lt_of_le lw1 hx1.size
     replace lb:=Nat.lt_of_lt_of_le lb hx1.size
     replace lb':=Nat.lt_of_lt_of_le lb' hx1.size
     clear hx1
     by_cases ht:textI x x'=0
     ·have htb:(textI x x' != 0)=false:=by simp [ht]
      have HTT:=Lib.hid ht
      clear ht
      go_wp2_with fail
      refine wp_region_held_drew (S:=(fun w'=>w'.cell? ⟨w.heap.size,5,none⟩=some (.slice (some ⟨bo,fo,none⟩) ok.length sc)∧w'.cell? ⟨w.heap.size+1,5,none⟩=some (.slice (some ⟨bo',fo',none⟩) ok'.length sc')∧w'.cell? ⟨bo,fo+j*7+1,none⟩=some (.int .i64 d.kind)∧w'.cell? ⟨bo,fo+j*7+1+1,none⟩=some (.bool d.b)∧w'.cell? ⟨bo,fo+j*7+1+2,none⟩=some (.int .i64 d.i)∧w'.cell? ⟨bo,fo+j*7+1+3,none⟩=some (.string d.t)∧w'.cell? ⟨bo,fo+j*7+1+4,none⟩=some (.slice (co j).1.a d.l.length (co j).1.c)∧w'.cell? ⟨bo,fo+j*7+1+5,none⟩=some (.slice (co j).2.a d.ok.length (co j).2.c)∧w'.cell? ⟨bo',fo'+j*7+1,none⟩=some (.int .i64 d'.kind)∧w'.cell? ⟨bo',fo'+j*7+1+1,none⟩=some (.bool d'.b)∧w'.cell? ⟨bo',fo'+j*7+1+2,none⟩=some (.int .i64 d'.i)∧w'.cell? ⟨bo',fo'+j*7+1+3,none⟩=some (.string d'.t)∧w'.cell? ⟨bo',fo'+j*7+1+4,none⟩=some (.slice (co' j).1.a d'.l.length (co' j).1.c)∧w'.cell? ⟨bo',fo'+j*7+1+5,none⟩=some (.slice (co' j).2.a d'.ok.length (co' j).2.c))) (by kernel_rfl) (⟨q5,r5,v0,v1,v2,v3,v4,v5,v0',v1',v2',v3',v4',v5'⟩) (fun hHeld=>?_)
      refine heldU 0 (some 114) hHeld ?_
      refine heldU 1 (some 115) hHeld ?_
      refine heldU 2 (some 116) hHeld ?_
      refine heldU 3 (some 117) hHeld ?_
      refine heldU 4 (some 118) hHeld ?_
      refine heldU 5 (some 119) hHeld ?_
      refine heldU 6 (some 120) hHeld ?_
      refine heldU 7 (some 121) hHeld ?_
      refine heldU 8 (some 122) hHeld ?_
      refine heldU 9 (some 123) hHeld ?_
      refine heldU 10 (some 124) hHeld ?_
      refine heldU 11 (some 125) hHeld ?_
      refine held_call (i:=12) (by kernel_rfl) rfl (by rfl) (fun K hK=>?_)
      go_simp
      (refine (HIC.out _ (HX1.out.drew)).mono ?_;rintro e w3 ⟨rfl,hx2⟩;replace hx2:=((Ext.refl w2).drew).trans hx2)
      refine hK.out _ _ (⟨(hx2.cell lw0).trans q5,(hx2.cell lw1).trans r5,(hx2.cell lb).trans v0,(hx2.cell lb).trans v1,(hx2.cell lb).trans v2,(hx2.cell lb).trans v3,(hx2.cell lb).trans v4,(hx2.cell lb).trans v5,(hx2.cell lb').trans v0',(hx2.cell lb').trans v1',(hx2.cell lb').trans v2',(hx2.cell lb').trans v3',(hx2.cell lb').trans v4',(hx2.cell lb').trans v5'⟩) (fun hHeld=>?_)
      clear hK K
      try simp only [Act.put,List.setIfInBounds_toArray,List.set_cons_zero,List.set_cons_succ]
      refine heldU 13 (some 9) hHeld ?_
      refine wpAnyH_done (by kernel_rfl) ?_ _
      clear hHeld q5 r5 v0 v1 v2 v3 v4 v5 v0' v1' v2' v3' v4' v5' kx kx'
      have HX3:=Lib.hid (HX2.out.trans hx2)
      clear hx2
      by_cases hc:cmpV d d'=0
      ·have hcb:(cmpV d d' != 0)=false:=by simp [hc]
       have HC:=Lib.hid hc
       clear hc
       go_wp2_with fail
       go_roundw
       case rel=>exact ⟨j+1,by go_num,h1,h2,by rw [HP.out,HD.out,if_neg (by simp [HTT.out]),if_neg (by simp [HC.out])],HX3.out⟩
       simp [intOf];omega
      have hcb:(cmpV d d' != 0)=true:=bne_iff_ne.2 hc
      have HC:=Lib.hid hc
      clear hc
      go_wp2_with fail
      go_ret
      rw [HP.out,HD.out,if_neg (by simp [HTT.out]),if_pos HC.out]
      exact ⟨rfl,HX0.out.trans HX3.out⟩
     have htb:(textI x x' != 0)=true:=bne_iff_ne.2 ht
     have HTT:=Lib.hid ht
     clear ht
     go_wp2_with fail
     go_ret
     rw [HP.out,HD.out,if_pos HTT.out]
     exact ⟨rfl,HX0.out.trans HX2.out⟩
    have g1:(j:Int)<(ok.length:Int):=by omega
    have g2:¬(j:Int)<(ok'.length:Int):=by omega
    have HE:=Lib.hid (cmpM_end (l:=ov) (l':=ov') (k:=ok) (k':=ok') (j:=j) (by rw [HOV.out,HOV'.out];omega) (by rw [HOV.out];exact hjl) (by rw [HOV'.out];exact hjl'))
    clear hp hx
    go_wp2_with fail
    refine (HN.out _ _ _).mono ?_
    rintro e w2 ⟨rfl,rfl⟩
    go_wp2_with fail
    go_ret
    rw [HP.out,HE.out,HOV.out,HOV'.out]
    exact ⟨rfl,HX0.out.trans HX.out⟩
   have g1:¬(j:Int)<(ok.length:Int):=by omega
   have HE:=Lib.hid (cmpM_end (l:=ov) (l':=ov') (k:=ok) (k':=ok') (j:=j) (by rw [HOV.out,HOV'.out];omega) (by rw [HOV.out];exact hjl) (by rw [HOV'.out];exact hjl'))
   clear hp hx
   go_wp2_with fail
   refine (HN.out _ _ _).mono ?_
   rintro e w2 ⟨rfl,rfl⟩
   go_wp2_with fail
   go_ret
   rw [HP.out,HE.out,HOV.out,HOV'.out]
   exact ⟨rfl,HX0.out.trans HX.out⟩
  rw [if_neg h5,if_neg h6]
  have g2:(k == 2)=false:=beq_eq_false_iff_ne.2 h2
  have g3:(k == 3)=false:=beq_eq_false_iff_ne.2 h3
  have g4:(k == 4)=false:=beq_eq_false_iff_ne.2 h4
  have g5:(k == 5)=false:=beq_eq_false_iff_ne.2 h5
  have g6:(k == 6)=false:=beq_eq_false_iff_ne.2 h6
  clear h2 h3 h4 h5 h6
  go_enter Tryz.func53,Tryz.ntmps53
  go_wp2_with fail
  go_ret
  exact ⟨rfl,((Ext.refl w).alloc _ _).alloc _ _⟩
 have hkb:(k != k')=true:=bne_iff_ne.2 hkk
 rw [if_pos hkk]
 clear hkk
 go_enter Tryz.func53,Tryz.ntmps53
 go_wp2_with fail
 refine (HN.out _ _ _).mono ?_
 rintro e w2 ⟨rfl,rfl⟩
 go_wp2_with fail
 go_ret
 exact ⟨rfl,((Ext.refl w).alloc _ _).alloc _ _⟩
inductive BuiltR:List Ent→RT→Prop
 | nil:BuiltR [] none
 | snoc {es:List Ent} {T T':RT} {B:Nat} {k:ByteArray} {v:Val} (h:BuiltR es T) (hp:PutR B k v T T'):BuiltR (es++[(k,v)]) T'
def putAll (es:List Ent) (l:List Ent):List Ent:=l.foldl (fun m e=>insE m e.1 e.2) es
theorem putAll_snoc (es l:List Ent) (e:Ent):putAll es (l++[e])=insE (putAll es l) e.1 e.2:=by simp [putAll]
theorem putAll_len (l:List Ent):∀ es:List Ent,(putAll es l).length≤es.length+l.length:=by
 induction l with
 | nil=>intro es;exact Nat.le_refl _
 | cons a l ih=>
   intro es
   have:=ih (insE es a.1 a.2)
   have h2:=insE_len es a.1 a.2
   simp only [putAll,List.foldl_cons,List.length_cons] at *
   omega
theorem BuiltR.both {l:List Ent} {T:RT} (h:BuiltR l T):(OkR T)∧entsT T=putAll [] l:=by
 induction h with
 | nil=>exact ⟨trivial,rfl⟩
 | snoc h hp ih=>exact ⟨hp.ok ih.1,by rw [hp.ents ih.1,ih.2,putAll_snoc]⟩
def BuildPost (es:List Ent) (w:World) (e:Ending) (w':World):Prop:=
 ∃ T,e=.returned (treeV T)∧BuiltR es T∧IsT w' (In w.heap.size w'.heap.size) T∧Ext w w'
theorem rootV_ptr (T:RT):∃ p,rootV T=.pointer p:=by
 match T with
 | none=>exact ⟨_,rfl⟩
 | some ⟨h,t⟩=>exact ⟨_,rfl⟩
theorem ES.ext {w w':World} {s:Sl} {xs:List LE} (h:ES w (Lt w.heap.size) s xs) (he:Ext w w'):ES w' (Lt w'.heap.size) s xs:=(h.agree (he.agree fun _ h=>h)).mono fun _ hi=>Nat.lt_of_lt_of_le hi he.size
theorem build_big {w:World} {s:Sl} {xs:List LE} (hs:ES w (Lt w.heap.size) s xs) (hl:xs.length≤500000):Calls Tryz.prog 24 #[.slice s.a xs.length s.c] w (BuildPost (xs.map LE.ent) w):=by
 have HS:=Lib.hid hs
 clear hs
 go_enter Tryz.func24,Tryz.ntmps24
 go_wp2_with fail
 generalize hW0:World.alloc (World.alloc _ _) _=W0
 obtain ⟨hxx,hzz,hb0,hb1⟩:=two_blocks w _ _ _ _ W0 hW0
 clear hW0
 go_loopw [8] (fun i wr=>∃ (j:Nat) (T:RT) (p:Option Addr),j≤xs.length∧i=.int .i64 j∧Ext w wr∧Blk wr w.heap.size 25 #[.pointer none]∧Blk wr (w.heap.size+1) 25 #[.pointer p]∧Hid (rootV T=.pointer p)∧BuiltR ((xs.take j).map LE.ent) T∧IsT wr (In (w.heap.size+2) wr.heap.size) T)
  (fun i _=>xs.length - (intOf i).toNat)
 case atStart=>exact ⟨0,none,none,Nat.zero_le _,rfl,hxx,hb0,hb1,Lib.hid rfl,.nil,trivial⟩
 obtain ⟨j,T,p,hj,rfl,hx,hR,hS,HP,hB,hT⟩:=hrel
 clear hxx hzz hb0 hb1
 have HX:=Lib.hid hx
 have HR:=Lib.hid hR
 have HB:=Lib.hid hB
 have HT:=Lib.hid hT
 have HSS:=Lib.hid hS
 have c0:wr.cell? ⟨w.heap.size+1,0,none⟩=some (.pointer p):=hS.cell 0
 have fS:=hS.frozen
 have lS:=hS.lt
 by_cases hlt:j<xs.length
 ·obtain ⟨x,hxj⟩:∃ x,xs[j]? = some x:=⟨_,List.getElem?_eq_getElem hlt⟩
  obtain ⟨b,o,ha,hbl,hlc,hcm,k0,hv,hrv,hkm⟩:=(HS.out.ext hx).at hxj
  obtain ⟨v0,v1,v2,v3,v4,v5⟩:=hv.m
  have hil':(j:Int)<(xs.length:Int):=by omega
  have hok:=hB.both
  have hpt:∀ W,Ext wr W→Calls Tryz.prog 40 #[.agg #[.pointer p],.string x.k,aggV x.v x.sl x.so] W (PutPost (In (w.heap.size+2) wr.heap.size) T x.k x.v W):=fun W hW=>by
   rw [←HP.out]
   exact put_any (fun b hb=>Nat.lt_of_lt_of_le hb.2 hW.size) (hT.agree (hW.agree fun b hb=>hb.2)) hok.1 (by
    rw [hok.2]
    have:=putAll_len ((xs.take j).map LE.ent) []
    simp only [List.length_map,List.length_take,List.length_nil] at this
    omega) hkm ((hrv.agree (hW.agree fun b hb=>hb)).mono fun b hb=>Nat.lt_of_lt_of_le hb hW.size)
  obtain ⟨sa,sc⟩:=s
  dsimp only at ha
  subst ha
  have HPT:=Lib.hid hpt
  have HXJ:=Lib.hid hxj
  clear hx hR hS hB hT hxj hv hrv hok hpt
  go_wp2_with fail
  refine (HPT.out _ ((Ext.refl wr).alloc _ _)).mono ?_
  rintro e w2 ⟨T2,rfl,hp2,hT2,hx2⟩
  obtain ⟨p2,hq2⟩:=rootV_ptr T2
  have HQ2:=Lib.hid hq2
  dsimp only [treeV]
  rw [hq2]
  clear hq2
  have hX2:Ext wr w2:=((Ext.refl wr).alloc _ _).trans hx2
  have d0:w2.cell? ⟨w.heap.size+1,0,none⟩=some (.pointer p):=(hX2.cell lS).trans c0
  have f2:∀ o,w2.frozen? ⟨w.heap.size+1,o,none⟩=false:=fun o=>(hX2.frozen lS).trans (fS o)
  have hE:=(HX.out.trans hX2).setCell (p:=⟨w.heap.size+1,0,none⟩) (show w.heap.size≤w.heap.size+1 by omega) (.pointer p2)
  have hR2:=(HR.out.ext hX2).far (p:=⟨w.heap.size+1,0,none⟩) (by simp) (.pointer p2)
  have hS2:Blk (w2.setCell ⟨w.heap.size+1,0,none⟩ (.pointer p2)) (w.heap.size+1) 25 #[.pointer p2]:=(HSS.out.ext hX2).set_ 0 _
  have hT3:IsT (w2.setCell ⟨w.heap.size+1,0,none⟩ (.pointer p2)) (In (w.heap.size+2) (w2.setCell ⟨w.heap.size+1,0,none⟩ (.pointer p2)).heap.size) T2:=by
   have hs2:=hX2.size
   have hlt:=lS
   have hm:∀ i,Up (In (w.heap.size+2) wr.heap.size) (wr.alloc (.cells #[.string x.k,.int .i64 x.v.kind,.bool x.v.b,.int .i64 x.v.i,.string x.v.t,.slice x.sl.a x.v.l.length x.sl.c,.slice x.so.a x.v.ok.length x.so.c] 64)) w2 i→In (w.heap.size+2) w2.heap.size i:=fun i hi=>by
    rcases hi with hi | hi
    ·exact ⟨hi.1,Nat.lt_of_lt_of_le hi.2 hs2⟩
    have:=hi.1
    simp at this
    exact ⟨by omega,hi.2⟩
   refine ((hT2.mono hm).agree (Agree.setCell w2 ⟨w.heap.size+1,0,none⟩ _ (fun h=>by have h1:w.heap.size+2≤w.heap.size+1:=h.1;omega))).mono fun i hi=>⟨hi.1,by simpa using hi.2⟩
  have HB2:=Lib.hid (BuiltR.snoc HB.out hp2)
  have H1:=Lib.hid hE
  have H2:=Lib.hid hR2
  have H3:=Lib.hid hS2
  have H4:=Lib.hid hT3
  clear hp2 hT2 hx2 hX2 hE hR2 hS2 hT3
  go_wp2_with fail
  go_roundw
  case rel=>exact ⟨j+1,T2,p2,hlt,by go_num,H1.out,H2.out,H3.out,HQ2,by rw [List.take_add_one,HXJ.out,List.map_append];exact HB2.out,H4.out⟩
  simp [intOf];omega
 obtain rfl:j=xs.length:=by omega
 have r0:wr.cell? ⟨w.heap.size,0,none⟩=some (.pointer none):=hR.cell 0
 have fR:=hR.frozen
 clear hx hR hS hB hT
 go_wp2_with fail
 have q0:(wr.setCell ⟨w.heap.size,0,none⟩ (.pointer p)).cell? ⟨w.heap.size,0,none⟩=some (.pointer p):=World.cell?_setCell_same wr _ _ r0
 refine bodyPost_ret (v:=.agg #[.pointer p]) (by simp [results,Tryz.results24,go_sem,q0]) rfl ?_
 refine ⟨T,by rw [treeV,HP.out],by have:=HB.out;rwa [List.take_length] at this,?_,HX.out.setCell (p:=⟨w.heap.size,0,none⟩) (Nat.le_refl _) _⟩
 exact (HT.out.agree (Agree.setCell wr ⟨w.heap.size,0,none⟩ _ (fun h=>by have h1:w.heap.size+2≤w.heap.size:=h.1;omega))).mono fun i hi=>⟨by have:=hi.1;omega,by simpa using hi.2⟩
theorem build_any {w:World} {s:Sl} {xs:List LE} (hs:ES w (Lt w.heap.size) s xs) (hl:xs.length≤100000):Calls Tryz.prog 24 #[.slice s.a xs.length s.c] w (BuildPost (xs.map LE.ent) w):=build_big hs (by omega)
theorem sameE_drop {l m:List Ent} {j:Nat} {a b:Ent} (ha:l[j]? = some a) (hb:m[j]? = some b):sameE (l.drop j) (m.drop j)=(decide (a.1=b.1) && decide (cmpV a.2 b.2=0) && sameE (l.drop (j+1)) (m.drop (j+1))):=by
 obtain ⟨h1,rfl⟩:=List.getElem?_eq_some_iff.1 ha
 obtain ⟨h2,rfl⟩:=List.getElem?_eq_some_iff.1 hb
 rw [List.drop_eq_getElem_cons h1,List.drop_eq_getElem_cons h2]
 rfl
theorem sameE_ne {l m:List Ent} (h:l.length≠m.length):sameE l m=false:=by
 cases hs:sameE l m with
 | false=>rfl
 | true=>exact absurd (sameE_len hs) h
theorem sameEnt_any {w:World} {s s':Sl} {xs ys:List LE} (hs:ES w (Lt w.heap.size) s xs) (hs':ES w (Lt w.heap.size) s' ys) :
  Calls Tryz.prog 27 #[.slice s.a xs.length s.c,.slice s'.a ys.length s'.c] w fun e w'=>e=.returned (.bool (sameE (xs.map LE.ent) (ys.map LE.ent)))∧Ext w w':=by
 have hf:=hs.few
 have hnl:xs.length≤140737488355328:=by omega
 by_cases hlen:xs.length=ys.length
 ·have HS:=Lib.hid hs
  have HS':=Lib.hid hs'
  have HLEN:=Lib.hid hlen
  rw [←hlen]
  clear hs hs' hlen hf
  go_enter Tryz.func27,Tryz.ntmps27
  go_wp2_with fail
  go_loopw [5] (fun q wr=>∃ j:Nat,q=.int .i64 j∧j≤xs.length∧sameE (xs.map LE.ent) (ys.map LE.ent)=sameE ((xs.map LE.ent).drop j) ((ys.map LE.ent).drop j)∧Ext w wr) (fun q _=>xs.length - (intOf q).toNat)
  case atStart=>exact ⟨0,rfl,Nat.zero_le _,rfl,Ext.refl w⟩
  obtain ⟨j,rfl,hjl,hp,hx⟩:=hrel
  have HP:=Lib.hid hp
  have HX:=Lib.hid hx
  by_cases h1:j<xs.length
  ·have g1:(j:Int)<(xs.length:Int):=by omega
   obtain ⟨x,hxx⟩:∃ x,xs[j]? = some x:=⟨_,List.getElem?_eq_getElem h1⟩
   obtain ⟨y,hyy⟩:∃ y,ys[j]? = some y:=⟨_,List.getElem?_eq_getElem (by rw [←HLEN.out];exact h1)⟩
   have HD:=Lib.hid (sameE_drop (l:=xs.map LE.ent) (m:=ys.map LE.ent) (a:=x.ent) (b:=y.ent) (by rw [List.getElem?_map,hxx];rfl) (by rw [List.getElem?_map,hyy];rfl))
   have e1:=HS.out.ext hx
   have e2:=HS'.out.ext hx
   obtain ⟨g,o,hg,lg,hc,hcm,kx,⟨v0,v1,v2,v3,v4,v5⟩,rx,-⟩:=e1.at hxx
   obtain ⟨g',o',hg',lg',hc',hcm',ky,⟨v0',v1',v2',v3',v4',v5'⟩,ry,-⟩:=e2.at hyy
   rw [←HLEN.out] at hc'
   obtain ⟨sa,sc⟩:=s
   obtain ⟨sa',sc'⟩:=s'
   dsimp only at hg hg' hc hc' hcm hcm'
   subst hg hg'
   have hic:∀ W,Ext wr W→Calls Tryz.prog 53 #[aggV x.v x.sl x.so,aggV y.v y.sl y.so] W (CmpPost (cmpV x.v y.v) W):=fun W hW=>
    cmp02_any _ x.v y.v (Nat.le_refl _) W _ _ _ _ ((rx.agree (hW.agree fun _ h=>h)).mono fun i hi=>Nat.lt_of_lt_of_le hi hW.size) ((ry.agree (hW.agree fun _ h=>h)).mono fun i hi=>Nat.lt_of_lt_of_le hi hW.size)
   have HIC:=Lib.hid hic
   clear hp hx hxx hyy e1 e2 rx ry hic
   have lg:g<wr.heap.size:=lg
   have lg':g'<wr.heap.size:=lg'
   by_cases hk:x.k=y.k
   ·have hkb:(x.k.toList == y.k.toList)=true:=by rw [hk];simp
    have HK:=Lib.hid hk
    go_wp2_with fail
    refine wp_region_held_drew (S:=(fun w'=>w'.cell? ⟨g,o+j*7,none⟩=some (.string x.k)∧w'.cell? ⟨g',o'+j*7,none⟩=some (.string y.k)∧w'.cell? ⟨g,o+j*7+1,none⟩=some (.int .i64 x.v.kind)∧w'.cell? ⟨g,o+j*7+1+1,none⟩=some (.bool x.v.b)∧w'.cell? ⟨g,o+j*7+1+2,none⟩=some (.int .i64 x.v.i)∧w'.cell? ⟨g,o+j*7+1+3,none⟩=some (.string x.v.t)∧w'.cell? ⟨g,o+j*7+1+4,none⟩=some (.slice x.sl.a x.v.l.length x.sl.c)∧w'.cell? ⟨g,o+j*7+1+5,none⟩=some (.slice x.so.a x.v.ok.length x.so.c)∧w'.cell? ⟨g',o'+j*7+1,none⟩=some (.int .i64 y.v.kind)∧w'.cell? ⟨g',o'+j*7+1+1,none⟩=some (.bool y.v.b)∧w'.cell? ⟨g',o'+j*7+1+2,none⟩=some (.int .i64 y.v.i)∧w'.cell? ⟨g',o'+j*7+1+3,none⟩=some (.string y.v.t)∧w'.cell? ⟨g',o'+j*7+1+4,none⟩=some (.slice y.sl.a y.v.l.length y.sl.c)∧w'.cell? ⟨g',o'+j*7+1+5,none⟩=some (.slice y.so.a y.v.ok.length y.so.c))) (by kernel_rfl) (⟨kx,ky,v0,v1,v2,v3,v4,v5,v0',v1',v2',v3',v4',v5'⟩) (fun hHeld=>?_)
    refine heldU 0 (some 17) hHeld ?_
    refine heldU 1 (some 18) hHeld ?_
    refine heldU 2 (some 19) hHeld ?_
    refine heldU 3 (some 20) hHeld ?_
    refine heldU 4 (some 21) hHeld ?_
    refine heldU 5 (some 22) hHeld ?_
    refine heldU 6 (some 23) hHeld ?_
    refine heldU 7 (some 24) hHeld ?_
    refine heldU 8 (some 25) hHeld ?_
    refine heldU 9 (some 26) hHeld ?_
    refine heldU 10 (some 27) hHeld ?_
    refine heldU 11 (some 28) hHeld ?_
    refine heldU 12 (some 29) hHeld ?_
    refine heldU 13 (some 30) hHeld ?_
    refine heldU 14 (some 31) hHeld ?_
    refine heldU 15 (some 32) hHeld ?_
    refine heldU 16 (some 33) hHeld ?_
    refine heldU 17 (some 34) hHeld ?_
    refine heldU 18 (some 35) hHeld ?_
    refine heldU 19 (some 36) hHeld ?_
    refine heldU 20 (some 37) hHeld ?_
    refine heldU 21 (some 38) hHeld ?_
    refine held_call (i:=22) (by kernel_rfl) rfl (by rfl) (fun K hK=>?_)
    go_simp
    (refine (HIC.out _ ((Ext.refl wr).drew)).mono ?_;rintro e w2 ⟨rfl,hx2⟩;replace hx2:=((Ext.refl wr).drew).trans hx2)
    refine hK.out _ _ (⟨(hx2.cell lg).trans kx,(hx2.cell lg').trans ky,(hx2.cell lg).trans v0,(hx2.cell lg).trans v1,(hx2.cell lg).trans v2,(hx2.cell lg).trans v3,(hx2.cell lg).trans v4,(hx2.cell lg).trans v5,(hx2.cell lg').trans v0',(hx2.cell lg').trans v1',(hx2.cell lg').trans v2',(hx2.cell lg').trans v3',(hx2.cell lg').trans v4',(hx2.cell lg').trans v5'⟩) (fun hHeld=>?_)
    clear hK K
    try simp only [Act.put,List.setIfInBounds_toArray,List.set_cons_zero,List.set_cons_succ]
    refine heldU 23 (some 40) hHeld ?_
    refine heldU 24 (some 41) hHeld ?_
    refine wpAnyH_done (by kernel_rfl) ?_ _
    have HX2:=Lib.hid (HX.out.trans hx2)
    clear hx2 hHeld hkb hk kx ky v0 v1 v2 v3 v4 v5 v0' v1' v2' v3' v4' v5'
    by_cases hc:cmpV x.v y.v=0
    ·have hcb:(cmpV x.v y.v != 0)=false:=by simp [hc]
     have HC:=Lib.hid hc
     clear hc
     go_wp2_with fail
     go_roundw
     case rel=>exact ⟨j+1,by go_num,h1,by rw [HP.out,HD.out,decide_eq_true (show x.ent.1=y.ent.1 from HK.out),decide_eq_true (show cmpV x.ent.2 y.ent.2=0 from HC.out)];rfl,HX2.out⟩
     simp [intOf];omega
    have hcb:(cmpV x.v y.v != 0)=true:=bne_iff_ne.2 hc
    have HC:=Lib.hid hc
    clear hc
    go_wp2_with fail
    go_ret
    rw [HP.out,HD.out,decide_eq_false (show ¬cmpV x.ent.2 y.ent.2=0 from HC.out)]
    exact ⟨by simp,HX2.out⟩
   have hkb:(x.k.toList == y.k.toList)=false:=by rw [beq_toList];simp [hk]
   have HK:=Lib.hid hk
   go_wp2_with fail
   refine wp_region_held_drew (S:=(fun w'=>w'.cell? ⟨g,o+j*7,none⟩=some (.string x.k)∧w'.cell? ⟨g',o'+j*7,none⟩=some (.string y.k)∧w'.cell? ⟨g,o+j*7+1,none⟩=some (.int .i64 x.v.kind)∧w'.cell? ⟨g,o+j*7+1+1,none⟩=some (.bool x.v.b)∧w'.cell? ⟨g,o+j*7+1+2,none⟩=some (.int .i64 x.v.i)∧w'.cell? ⟨g,o+j*7+1+3,none⟩=some (.string x.v.t)∧w'.cell? ⟨g,o+j*7+1+4,none⟩=some (.slice x.sl.a x.v.l.length x.sl.c)∧w'.cell? ⟨g,o+j*7+1+5,none⟩=some (.slice x.so.a x.v.ok.length x.so.c)∧w'.cell? ⟨g',o'+j*7+1,none⟩=some (.int .i64 y.v.kind)∧w'.cell? ⟨g',o'+j*7+1+1,none⟩=some (.bool y.v.b)∧w'.cell? ⟨g',o'+j*7+1+2,none⟩=some (.int .i64 y.v.i)∧w'.cell? ⟨g',o'+j*7+1+3,none⟩=some (.string y.v.t)∧w'.cell? ⟨g',o'+j*7+1+4,none⟩=some (.slice y.sl.a y.v.l.length y.sl.c)∧w'.cell? ⟨g',o'+j*7+1+5,none⟩=some (.slice y.so.a y.v.ok.length y.so.c))) (by kernel_rfl) (⟨kx,ky,v0,v1,v2,v3,v4,v5,v0',v1',v2',v3',v4',v5'⟩) (fun hHeld=>?_)
   refine heldU 0 (some 17) hHeld ?_
   refine heldU 1 (some 18) hHeld ?_
   refine heldU 2 (some 19) hHeld ?_
   refine heldU 3 (some 20) hHeld ?_
   refine heldU 4 (some 21) hHeld ?_
   refine heldU 5 (some 22) hHeld ?_
   refine heldU 6 (some 23) hHeld ?_
   refine heldU 7 (some 24) hHeld ?_
   refine heldU 8 (some 25) hHeld ?_
   refine heldU 9 (some 26) hHeld ?_
   refine heldU 10 (some 27) hHeld ?_
   refine heldU 11 (some 28) hHeld ?_
   refine heldO 12 (some 29) hHeld ?_
   refine heldO 13 (some 30) hHeld ?_
   refine heldO 14 (some 31) hHeld ?_
   refine heldO 15 (some 32) hHeld ?_
   refine heldO 16 (some 33) hHeld ?_
   refine heldO 17 (some 34) hHeld ?_
   refine heldO 18 (some 35) hHeld ?_
   refine heldO 19 (some 36) hHeld ?_
   refine heldO 20 (some 37) hHeld ?_
   refine heldO 21 (some 38) hHeld ?_
   refine heldO 22 (some 39) hHeld ?_
   refine heldO 23 (some 40) hHeld ?_
   refine heldU 24 (some 41) hHeld ?_
   refine wpAnyH_done (by kernel_rfl) ?_ _
   clear hHeld hkb hk kx ky v0 v1 v2 v3 v4 v5 v0' v1' v2' v3' v4' v5'
   go_wp2_with fail
   go_ret
   rw [HP.out,HD.out,decide_eq_false (show ¬x.ent.1=y.ent.1 from HK.out)]
   exact ⟨by simp,HX.out.drew⟩
  have g1:¬(j:Int)<(xs.length:Int):=by omega
  have hee:sameE ((xs.map LE.ent).drop j) ((ys.map LE.ent).drop j)=true:=by
   rw [List.drop_eq_nil_iff.2 (by rw [List.length_map];omega),List.drop_eq_nil_iff.2 (by rw [List.length_map,←HLEN.out];omega)]
   rfl
  have HE:=Lib.hid hee
  clear hp hx hee
  go_wp2_with fail
  go_ret
  rw [HP.out,HE.out]
  exact ⟨rfl,HX.out⟩
 have hne:(((xs.length:Int)) != ((ys.length:Int)))=true:=bne_iff_ne.2 (by omega)
 rw [sameE_ne (by rw [List.length_map,List.length_map];exact hlen)]
 clear hs hs' hlen hf hnl
 go_enter Tryz.func27,Tryz.ntmps27
 go_wp2_with fail
 go_ret
 exact ⟨rfl,Ext.refl w⟩
def Copy7Post (H:Nat→Prop) (es:List Ent) (w:World) (e:Ending) (w':World):Prop:=
 ∃ M',e=.returned (.pointer (some ⟨M',0,none⟩))∧w.heap.size≤M'∧Ext w w'∧MapAt (fun b=>H b∨b=M') w' M' es
theorem copy7_any {H:Nat→Prop} {w:World} {M:Nat} {es:List Ent} (h:MapAt H w M es) (hH:∀ b,H b→b<w.heap.size) (hc:es.length≤1000000) :
  Calls Tryz.prog 43 #[.pointer (some ⟨M,0,none⟩)] w (Copy7Post H es w):=by
 obtain ⟨i0,hi,hz0,hz1,hz2⟩:=info_parts Tryz.infoEntry
 obtain ⟨hm,s,xs,hb,hs,hxs⟩:=h
 have h0:w.cell? ⟨M,0,none⟩=some (.slice s.a xs.length s.c):=hb.cell 0
 have hlen:xs.length=es.length:=by rw [←hxs,List.length_map]
 have h63:xs.length≤maxLen:=by unfold maxLen;omega
 have hby:xs.length*104≤140737488355328:=by omega
 have HS:=Lib.hid hs
 have HXS:=Lib.hid hxs
 clear hb hs hxs hlen
 go_enter Tryz.func43,Tryz.ntmps43
 go_wp2_with (at_builtin;refine wpList_append_0 rfl (.const (.slice none 0 0)) (.tmp 6) 48 rfl w.heap.size 64 i0 _ 7 104 Tryz.underlying48 hi hz0 hz1 hz2 rfl (by decide) rfl (NH H w) s xs.length (flatE xs) rfl HS.out.rd (flatE_one _) h63 hby (Nat.le_refl _) ?_;intro s1 w1 hown1 hx1;have HO1:=Lib.hid hown1;have HX1:=Lib.hid hx1;clear hown1 hx1)
 go_ret
 have hE:Ext w1 (w1.alloc (.cells #[.slice s1.a xs.length s1.c] 50)):=(Ext.refl _).alloc _ _
 have hX:=HX1.out.trans hE
 have hz:=HX1.out.size
 refine ⟨w1.heap.size,rfl,hz,hX,.inr rfl,s1,xs,Blk.new w1 _ _,⟨?_,?_,hby⟩,HXS.out⟩
 ·refine ((Rd.of_own HO1.out).agree (hE.agree fun i hi=>hi.2)).mono fun i hi=>⟨by rw [World.size_alloc];have:=hi.2;omega,fun h=>?_⟩
  have h1:=hi.1
  have h2:=hi.2
  rcases h with h | h
  ·have:=hH i h;omega
  omega
 intro x hx
 refine ⟨((HS.out.vals x hx).1.agree (hX.agree fun i hi=>hi.1)).mono fun i hi=>⟨Nat.lt_of_lt_of_le hi.1 hX.size,fun h=>?_⟩,(HS.out.vals x hx).2⟩
 have h1:=hi.1
 rcases h with h | h
 ·exact hi.2 h
 omega
theorem row7_end {H:Nat→Prop} {w w3:World} {M:Nat} {s s3:Sl} {xs L:List LE} {es:List Ent} (hm:H M) (hH:∀ b,H b→b<w.heap.size) (hb:Blk w M 50 #[.slice s.a xs.length s.c]) (hs:ES w (NH H w) s xs) (hL:∀ y∈L,y∈xs)
  (hx:Ext w w3) (hown:w3.ownsRow w.heap.size 64 7 (.slice s3.a L.length s3.c) L.length (flatE L)) (hf:L.length*104≤140737488355328) (he:L.map LE.ent=es) :
  MapAt H (w3.setCell ⟨M,0,none⟩ (.slice s3.a L.length s3.c)) M es∧St (fun b=>b=M) w (w3.setCell ⟨M,0,none⟩ (.slice s3.a L.length s3.c)):=by
 have hMw:=hb.lt
 have hst:St (fun b=>b=M) w (w3.setCell ⟨M,0,none⟩ (.slice s3.a L.length s3.c)):=(hx.st (fun b=>b=M)).set (p:=⟨M,0,none⟩) (.inr rfl) _
 have hag:Agree (NH H w) w (w3.setCell ⟨M,0,none⟩ (.slice s3.a L.length s3.c)):=hst.agree.mono fun i hi=>⟨hi.1,fun e=>hi.2 (e▸hm)⟩
 have hag3:Agree (In w.heap.size w3.heap.size) w3 (w3.setCell ⟨M,0,none⟩ (.slice s3.a L.length s3.c)):=Agree.setCell w3 ⟨M,0,none⟩ _ (fun h=>by have h1:w.heap.size≤M:=h.1;omega)
 refine ⟨⟨hm,s3,L,?_,⟨?_,?_,hf⟩,he⟩,hst⟩
 ·exact (hb.ext hx).set_ 0 _
 ·exact ((Rd.of_own hown).agree hag3).mono fun i hi=>⟨by rw [World.size_setCell];exact hi.2,fun h=>by have:=hH i h;have:=hi.1;omega⟩
 intro y hy
 exact ⟨((hs.vals y (hL y hy)).1.agree hag).mono fun i hi=>⟨Nat.lt_of_lt_of_le hi.1 hst.size,hi.2⟩,(hs.vals y (hL y hy)).2⟩
section
variable {P : Program} (w : World)
theorem step_append_0 {ops:Array Oper} {o:Oper} {a:Act} {K:Act→World→Prop} {Q:Exit→Act→World→Prop} {E:Prop} (hgd:o.guard=none) (s' x:Operand) (t:TypeId)
  (ho:o.op=.call { callee:=.builtin .append,args:=#[s',x],argTypes:=#[t,t] })
  (base:Nat) (e:TypeId) (i:TypeInfo) (z:Value) (size bytes:Nat) (ht:P.underlying t=some (.slice e)) (hi:P.info? e=some i) (hz:i.zero=some z)
  (hsize:i.size=size) (hby:i.bytes=bytes) (hzs:z.cells.size=size) (hsz:0<size) (hs:a.eval s'=.slice none 0 0)
  (F:Nat→Prop) (sx:Sl) (m:Nat) (news:List Value) (hx:a.eval x=.slice sx.a m sx.c) (hsrc:Rd w F size sx m news) (h1:∀ u∈news,u.oneCell'=true)
  (h63:m≤maxLen) (hbytes:m*bytes≤140737488355328) (hbase:base≤w.heap.size)
  (h:∀ (s':Sl) (w':World),w'.ownsRow base e size (.slice s'.a m s'.c) m news→Ext w w'→K (a.put o.dst (.slice s'.a m s'.c)) w') :
  if Region.wanted o (yielded ops a.tmps)=true then Oper.wp P o a w K Q else E:=
 step_append_x w hgd s' x t ho base e i z size bytes ht hi hz hsize hby hzs hsz Sl.none 0 [] hs (World.ownsRow_nil _ _ _ _) F sx m news hx hsrc h1 (by omega) (by rw [Nat.zero_add];exact hbytes) hbase fun s2 w2 h2 h3 _=>by
  rw [Nat.zero_add,List.nil_append] at h2
  rw [Nat.zero_add]
  exact h s2 w2 h2 ((Ext.refl w).wr h3 (fun i hi=>by cases hi))
end
def Del7Post (H:Nat→Prop) (M:Nat) (es:List Ent) (k:ByteArray) (w:World) (e:Ending) (w':World):Prop:=
 e=.returned (.bool (getE es k).isSome)∧MapAt H w' M (delE es k)∧St (fun b=>b=M) w w'
theorem del7_any {H:Nat→Prop} {w:World} {M:Nat} {es:List Ent} (h:MapAt H w M es) (hH:∀ b,H b→b<w.heap.size) (hso:Sorted es) (hc:es.length≤1000000) (k:ByteArray) :
  Calls Tryz.prog 85 #[.pointer (some ⟨M,0,none⟩),.string k] w (Del7Post H M es k w):=by
 obtain ⟨i0,hi,hz0,hz1,hz2⟩:=info_parts Tryz.infoEntry
 have hat:=at07 h k
 rw [at_get hso] at hat
 have hde:=delE_pos hso k
 have hge:=at_get hso k
 have hm':=h
 obtain ⟨hm,s,xs,hb,hs,hxs⟩:=h
 obtain ⟨p,hp⟩:∃ p,posE es k=p:=⟨_,rfl⟩
 rw [hp] at hat hde hge
 cases hg:getE es k with
 | none=>
   rw [hg] at hat
   have HAT:=Lib.hid hat
   have HM:=Lib.hid hm'
   have HD:=Lib.hid (delE_none hg)
   have HG:=Lib.hid hg
   clear hat hde hge hm' hb hs hxs hg hp
   go_enter Tryz.func85,Tryz.ntmps85
   go_wp2_with fail
   refine HAT.out.mono ?_
   rintro e w2 ⟨rfl,nq,rfl⟩
   have hx2:=(Ext.refl w).drewN nq
   go_wp2_with fail
   go_ret
   exact ⟨by rw [HG.out];rfl,by rw [HD.out];exact HM.out.ext hx2,hx2.st _⟩
 | some v=>
   rw [hg] at hat hge
   have hee:=of_decide_eq_true hge
   have hpl:p<xs.length:=by
    rw [←hxs,List.getElem?_map] at hee
    rcases Nat.lt_or_ge p xs.length with h | h
    ·exact h
    rw [List.getElem?_eq_none h] at hee;cases hee
   rw [if_pos hee] at hde
   have hlen:xs.length=es.length:=by rw [←hxs,List.length_map]
   have hxl:xs.length≤1000000:=by omega
   have he:(xs.take p++xs.drop (p+1)).map LE.ent=delE es k:=by rw [hde,←hxs,List.map_append,List.map_take,List.map_drop]
   have hput:(xs.take p++xs.drop (p+1)).length=p+(xs.length - (p+1)):=by simp only [List.length_append,List.length_take,List.length_drop];omega
   have hend:=fun (w3:World) (s3:Sl)=>row7_end (w3:=w3) (s3:=s3) (L:=xs.take p++xs.drop (p+1)) (es:=delE es k) hm hH hb hs (fun y hy=>by
    rcases List.mem_append.1 hy with hy | hy
    ·exact List.mem_of_mem_take hy
    exact List.mem_of_mem_drop hy)
   have hrd:=fun (W:World) (hW:Ext w W)=>(hs.mono (G:=Lt w.heap.size) fun i hi=>hi.1).agree (hW.agree fun _ h=>h)
   have h0:w.cell? ⟨M,0,none⟩=some (.slice s.a xs.length s.c):=hb.cell 0
   have lM:=hb.lt
   have hfz:=hb.frozen 0
   have hsp:=hs.rd
   obtain ⟨gs,os,hsa,-,-⟩:=hsp
   have HEND:=Lib.hid hend
   have HRD:=Lib.hid hrd
   have HE:=Lib.hid he
   have HPUT:=Lib.hid hput
   have HAT:=Lib.hid hat
   have HG:=Lib.hid hg
   clear hend hrd he hput hat hge hee hde hm' hb hs hxs hg hp hlen
   generalize hn:xs.length=n at hsa
   cases hsa with
   | nil=>omega
   | zero=>omega
   | some _ sc _ _ hsc hscm hsF=>
     subst hn
     have hp1:(p:Int)+1≤(xs.length:Int):=by omega
     have hp0:(p:Int)≤(xs.length:Int):=by omega
     have hpc:(p:Int)≤(sc:Int):=by omega
     have hpc1:(p:Int)+1≤(sc:Int):=by omega
     have h0p:(0:Int)≤(p:Int):=by omega
     have hpq:(p:Int)≤(p:Int)+1:=by omega
     have h0p1:(0:Int)≤(p:Int)+1:=by omega
     have htn:((p:Int)+1).toNat=p+1:=by omega
     have h63a:p≤maxLen:=by unfold maxLen;omega
     have hbya:p*104≤140737488355328:=by omega
     by_cases hcap:sc=p+1
     ·subst hcap
      have hrq:∀ W,Ext w W→Rd W (Lt w.heap.size) 7 ⟨some ⟨gs,os,none⟩,0⟩ 0 []:=fun W hW=>⟨gs,os,.some _ _ _ _ (Nat.zero_le _) (Nat.zero_le _) hsF.1,rfl,fun j u hj=>by simp at hj⟩
      have hrp:∀ W,Ext w W→Rd W (Lt w.heap.size) 7 ⟨some ⟨gs,os,none⟩,p+1⟩ p (flatE (xs.take p)):=fun W hW=>by have:=((HRD.out W hW).take (Nat.le_of_lt hpl)).rd;rwa [List.length_take,Nat.min_eq_left (Nat.le_of_lt hpl)] at this
      have HRQ:=Lib.hid hrq
      have HRP:=Lib.hid hrp
      have hon:∀ u∈([]:List Value),u.oneCell'=true:=by simp
      have HON:=Lib.hid hon
      have h63c:p+0≤maxLen:=by unfold maxLen;omega
      have hbyc:(p+0)*104≤140737488355328:=by omega
      clear hrq hrp hon
      go_enter Tryz.func85,Tryz.ntmps85
      go_wp2_with fail
      refine HAT.out.mono ?_
      rintro e w2 ⟨rfl,nq,rfl⟩
      have hx2:=(Ext.refl w).drewN nq
      replace h0:=(hx2.cell lM).trans h0
      replace hfz:=(hx2.frozen (o:=0) lM).trans hfz
      have lM2:=Nat.lt_of_lt_of_le lM hx2.size
      have hw2:=hx2.size
      generalize World.drewN w nq=W2 at *
      have HX2:=Lib.hid hx2
      clear hx2 HAT
      go_wp2_with fail
      have hww:IntKind.i64.wrap ((p:Int)+1)=(p:Int)+1∧wrap64 ((p:Int)+1)=(p:Int)+1:=⟨by rw [IntKind.wrap_i64];omega,by unfold wrap64;omega⟩
      obtain ⟨hw1,hw1'⟩:=hww
      go_region_law (first
       | (refine step_append_0 _ rfl (.const (.slice none 0 0)) (.tmp 20) 48 rfl w.heap.size 64 i0 _ 7 104 Tryz.underlying48 hi hz0 hz1 hz2 rfl (by decide) (by rfl) (Lt w.heap.size) ⟨some ⟨gs,os,none⟩,p+1⟩ p (flatE (xs.take p)) (by rfl) (HRP.out _ HX2.out.drew) (flatE_one _) h63a hbya hw2 ?_;intro s1 w3 hown1 hx3;replace hx3:=((Ext.refl W2).drew).trans hx3;have m3:=(hx3.cell (o:=0) lM2).trans h0;have f3:=(hx3.frozen (o:=0) lM2).trans hfz;have lM3:=Nat.lt_of_lt_of_le lM2 hx3.size;have HX3:=Lib.hid (HX2.out.trans hx3);have hw3:=HX3.out.size;have HO1:=Lib.hid hown1;clear hown1 hx3)
       | (refine step_append_x _ rfl (.tmp 21) (.tmp 28) 48 rfl w.heap.size 64 i0 _ 7 104 Tryz.underlying48 hi hz0 hz1 hz2 rfl (by decide) s1 p (flatE (xs.take p)) (by rfl) HO1.out (Lt w.heap.size) ⟨some ⟨gs,os,none⟩,0⟩ 0 [] (by rfl) (HRQ.out _ HX3.out) HON.out h63c hbyc hw3 ?_;intro s2 w4 hown2 hwr2 hs2;have hn4:=hwr2.cell0 (o:=0) (Ext.refl w3) (fun e=>Nat.lt_irrefl _ (Nat.lt_of_lt_of_le lM (own_row (s:=s1) HO1.out e).1)) lM3;have m4:=hn4.1.trans m3;have lM4:=hn4.2;have HX4:=Lib.hid (HX3.out.wr hwr2 (fun i hi=>(own_row (s:=s1) HO1.out hi).1));have f4:w4.frozen? ⟨M,0,none⟩=false:=by have h1:=HX4.out.frozen (o:=0) lM;have h2:=HX3.out.frozen (o:=0) lM;rw [h1,←h2];exact f3
          have HO2:=Lib.hid hown2;clear hown2 hwr2 hs2 hn4))
      all_goals
       clear hw1 hw1'
       have hfl:flatE (xs.take p++xs.drop (p+1))=flatE (xs.take p)++flatE (xs.drop (p+1)):=flatE_app _ _
       have hpu:(xs.take p++xs.drop (p+1)).length=p+(xs.length - (p+1)):=HPUT.out
       have hzz:xs.length - (p+1)=0:=by omega
       have hdd:xs.drop (p+1)=[]:=List.drop_eq_nil_iff.2 (by omega)
       rw [hzz] at hpu
       rw [hdd] at hfl
       rw [hdd] at hpu HEND HE
       have hfin:=HEND.out w4 s2 HX4.out (by rw [hpu,hfl];exact HO2.out) (by rw [hpu];omega) HE.out
       rw [hpu] at hfin
       have HFIN:=Lib.hid hfin
       clear hfin
       go_wp2_with fail
       go_ret
       exact ⟨by rw [HG.out];rfl,HFIN.out⟩
     have hcap':¬p+1=sc:=fun e=>hcap e.symm
     have hrq:∀ W,Ext w W→Rd W (Lt w.heap.size) 7 ⟨some ⟨gs,os+(p+1)*7,none⟩,sc - (p+1)⟩ (xs.length - (p+1)) (flatE (xs.drop (p+1))):=fun W hW=>by have:=((HRD.out W hW).drop (m:=p+1) (by omega)).rd;rwa [List.length_drop] at this
     have hrp:∀ W,Ext w W→Rd W (Lt w.heap.size) 7 ⟨some ⟨gs,os,none⟩,sc⟩ p (flatE (xs.take p)):=fun W hW=>by have:=((HRD.out W hW).take (Nat.le_of_lt hpl)).rd;rwa [List.length_take,Nat.min_eq_left (Nat.le_of_lt hpl)] at this
     have HRQ:=Lib.hid hrq
     have HRP:=Lib.hid hrp
     have hon:∀ u∈((flatE (xs.drop (p+1))):List Value),u.oneCell'=true:=flatE_one _
     have HON:=Lib.hid hon
     have h63c:p+(xs.length - (p+1))≤maxLen:=by unfold maxLen;omega
     have hbyc:(p+(xs.length - (p+1)))*104≤140737488355328:=by omega
     clear hrq hrp hon
     go_enter Tryz.func85,Tryz.ntmps85
     go_wp2_with fail
     refine HAT.out.mono ?_
     rintro e w2 ⟨rfl,nq,rfl⟩
     have hx2:=(Ext.refl w).drewN nq
     replace h0:=(hx2.cell lM).trans h0
     replace hfz:=(hx2.frozen (o:=0) lM).trans hfz
     have lM2:=Nat.lt_of_lt_of_le lM hx2.size
     have hw2:=hx2.size
     generalize World.drewN w nq=W2 at *
     have HX2:=Lib.hid hx2
     clear hx2 HAT
     go_wp2_with fail
     have hww:IntKind.i64.wrap ((p:Int)+1)=(p:Int)+1∧wrap64 ((p:Int)+1)=(p:Int)+1:=⟨by rw [IntKind.wrap_i64];omega,by unfold wrap64;omega⟩
     obtain ⟨hw1,hw1'⟩:=hww
     go_region_law (first
      | (refine step_append_0 _ rfl (.const (.slice none 0 0)) (.tmp 20) 48 rfl w.heap.size 64 i0 _ 7 104 Tryz.underlying48 hi hz0 hz1 hz2 rfl (by decide) (by rfl) (Lt w.heap.size) ⟨some ⟨gs,os,none⟩,sc⟩ p (flatE (xs.take p)) (by rfl) (HRP.out _ HX2.out.drew) (flatE_one _) h63a hbya hw2 ?_;intro s1 w3 hown1 hx3;replace hx3:=((Ext.refl W2).drew).trans hx3;have m3:=(hx3.cell (o:=0) lM2).trans h0;have f3:=(hx3.frozen (o:=0) lM2).trans hfz;have lM3:=Nat.lt_of_lt_of_le lM2 hx3.size;have HX3:=Lib.hid (HX2.out.trans hx3);have hw3:=HX3.out.size;have HO1:=Lib.hid hown1;clear hown1 hx3)
      | (refine step_append_x _ rfl (.tmp 21) (.tmp 28) 48 rfl w.heap.size 64 i0 _ 7 104 Tryz.underlying48 hi hz0 hz1 hz2 rfl (by decide) s1 p (flatE (xs.take p)) (by rfl) HO1.out (Lt w.heap.size) ⟨some ⟨gs,os+(p+1)*7,none⟩,sc - (p+1)⟩ (xs.length - (p+1)) (flatE (xs.drop (p+1))) (by rfl) (HRQ.out _ HX3.out) HON.out h63c hbyc hw3 ?_;intro s2 w4 hown2 hwr2 hs2;have hn4:=hwr2.cell0 (o:=0) (Ext.refl w3) (fun e=>Nat.lt_irrefl _ (Nat.lt_of_lt_of_le lM (own_row (s:=s1) HO1.out e).1)) lM3;have m4:=hn4.1.trans m3;have lM4:=hn4.2;have HX4:=Lib.hid (HX3.out.wr hwr2 (fun i hi=>(own_row (s:=s1) HO1.out hi).1));have f4:w4.frozen? ⟨M,0,none⟩=false:=by have h1:=HX4.out.frozen (o:=0) lM;have h2:=HX3.out.frozen (o:=0) lM;rw [h1,←h2];exact f3
         have HO2:=Lib.hid hown2;clear hown2 hwr2 hs2 hn4))
     all_goals
      clear hw1 hw1'
      have hfl:flatE (xs.take p++xs.drop (p+1))=flatE (xs.take p)++flatE (xs.drop (p+1)):=flatE_app _ _
      have hpu:(xs.take p++xs.drop (p+1)).length=p+(xs.length - (p+1)):=HPUT.out
      have hfin:=HEND.out w4 s2 HX4.out (by rw [hpu,hfl];exact HO2.out) (by rw [hpu];omega) HE.out
      rw [hpu] at hfin
      have HFIN:=Lib.hid hfin
      clear hfin
      go_wp2_with fail
      go_ret
      exact ⟨by rw [HG.out];rfl,HFIN.out⟩
abbrev RowsE (sl sr:Sl):Nat→Prop:=fun b=>sl.row=some b∨sr.row=some b
def BPostE (P:Nat→World→Prop) (W:World) (e:Ending) (W':World):Prop:=∃ a,e=.returned (.pointer (some ⟨a,0,none⟩))∧W.heap.size≤a∧P a W'∧Ext W W'
theorem own_stE {w W:World} {base n:Nat} {s:Sl} {xs:List Value} {G:Nat→Prop} (h:w.ownsRow base 64 7 (.slice s.a n s.c) n xs) (hs:St G w W) (hG:∀ b,s.row=some b→¬G b):W.ownsRow base 64 7 (.slice s.a n s.c) n xs:=
 own_agree h hs.agree fun b hb=>⟨(own_row h hb).2,hG b hb⟩
theorem rd_takeE {w:World} {F:Nat→Prop} {n m:Nat} {s:Sl} {cs:List Value} (h:Rd w F 7 s n cs) (hm:m≤n):Rd w F 7 s m (cs.take (m*7)):=h.take hm
theorem lastE {ls:List Value} {n:Nat} (hl:ls.length=n*7) (hn:0<n) (hp:True):∃ v0 v1 v2 v3 v4 v5 v6:Value,ls.drop ((n - 1)*7)=[v0,v1,v2,v3,v4,v5,v6]:=by
 have h:(ls.drop ((n - 1)*7)).length=7:=by rw [List.length_drop,hl];omega
 match hd:ls.drop ((n - 1)*7),h with
 | [v0,v1,v2,v3,v4,v5,v6],_=>exact ⟨v0,v1,v2,v3,v4,v5,v6,rfl⟩
section
variable {w : World} {base m nr : Nat} {sl sr : Sl} {ls rs : List Value} {P1 P2 : Nat → World → Prop}
theorem pairE_left (hL:w.ownsRow base 64 7 (.slice sl.a (m+1) sl.c) (m+1) ls) (hR:w.ownsRow base 64 7 (.slice sr.a nr sr.c) nr rs) (hb:base≤w.heap.size) (hne:∀ b,sl.row=some b→sr.row≠some b)
  (hl1:∀ u∈ls,u.oneCell'=true) (hr1:∀ u∈rs,u.oneCell'=true) (hpt:True) (h4:4<m+1) (h8:m+1≤8) (r8:nr≤8)
  (hB1:∀ (W:World) (s:Sl),St (RowsE sl sr) w W→Rd W (Lt W.heap.size) 7 s m (ls.take (m*7))→Calls Tryz.prog 106 #[.slice s.a m s.c] W (BPostE P1 W))
  (hB2:∀ (W:World) (s:Sl),St (RowsE sl sr) w W→Rd W (Lt W.heap.size) 7 s (nr+1) (ls.drop (m*7)++rs)→Calls Tryz.prog 106 #[.slice s.a (nr+1) s.c] W (BPostE P2 W))
  (hP1:∀ a W W',St (RowsE sl sr) w W→P1 a W→St (RowsE sl sr) W W'→P1 a W') :
  Calls Tryz.prog 163 #[.slice sl.a (m+1) sl.c,.slice sr.a nr sr.c,.func (.func 106) #[] #[]] w fun e w'=>∃ a b,e=.returned (.tuple #[.pointer (some ⟨a,0,none⟩),.pointer (some ⟨b,0,none⟩)])∧w.heap.size≤a∧w.heap.size≤b∧P1 a w'∧P2 b w'∧St (RowsE sl sr) w w':=by
 obtain ⟨i0,hi,hz0,hz1,hz2⟩:=info_parts Tryz.infoEntry
 obtain ⟨v0,v1,v2,v3,v4,v5,v6,hlast⟩:=lastE hL.1 (by omega) hpt
 rw [Nat.add_sub_cancel] at hlast
 obtain ⟨gl,capl,rfl,hgb,hncl,hcml,hfill⟩:=own_block hL (by omega)
 have hgl:gl<w.heap.size:=hfill.lt
 have hrowl:∀ b,sr.row=some b→b<w.heap.size:=fun b hb=>(own_row hR hb).2
 have hcl:∀ W,St (fun b=>sr.row=some b) w W→∀ j u,ls[j]? = some u→W.cell? ⟨gl,j,none⟩=some u:=fun W hW j u hj=>by
  obtain ⟨b,o,h1,h2,h3⟩:=Rd.of_own hL
  obtain ⟨e1,-,-⟩:=h1.eq (by omega)
  obtain ⟨rfl,rfl⟩:gl=b∧0=o:=by simpa using e1
  have:=h3 j u hj
  rw [Nat.zero_add] at this
  exact (hW.cell hgl (hne gl rfl)).trans this
 have hlc:∀ (c:Nat) (u:Value),([v0,v1,v2,v3,v4,v5,v6]:List Value)[c]? = some u→ls[m*7+c]? = some u:=fun c u hu=>by rw [←hlast,List.getElem?_drop] at hu;exact hu
 have hS:∀ W,St (fun b=>sr.row=some b) w W→W.cell? ⟨gl,m*7,none⟩=some v0∧W.cell? ⟨gl,m*7+1,none⟩=some v1∧W.cell? ⟨gl,m*7+2,none⟩=some v2∧W.cell? ⟨gl,m*7+3,none⟩=some v3∧W.cell? ⟨gl,m*7+4,none⟩=some v4∧W.cell? ⟨gl,m*7+5,none⟩=some v5∧W.cell? ⟨gl,m*7+6,none⟩=some v6:=fun W hW=>⟨hcl W hW _ _ (hlc 0 _ rfl),hcl W hW _ _ (hlc 1 _ rfl),hcl W hW _ _ (hlc 2 _ rfl),hcl W hW _ _ (hlc 3 _ rfl),hcl W hW _ _ (hlc 4 _ rfl),hcl W hW _ _ (hlc 5 _ rfl),hcl W hW _ _ (hlc 6 _ rfl)⟩
 have hgt:(4:Int)<(m:Int)+1:=by omega
 have hmc:(m:Int)≤(capl:Int):=by omega
 have hmn:(m:Int)<(m:Int)+1:=by omega
 have hcm':(capl:Int)≤9223372036854775807:=by unfold maxLen at hcml;omega
 have hw1:IntKind.i64.wrap ((m:Int)+1)=(m:Int)+1:=by rw [IntKind.wrap_i64];omega
 have hb1:∀ W,St (fun b=>sr.row=some b) w W→Calls Tryz.prog 106 #[.slice (some ⟨gl,0,none⟩) m capl] W (BPostE P1 W):=fun W hW=>
  hB1 W ⟨some ⟨gl,0,none⟩,capl⟩ (hW.mono fun i _ hi=>.inr hi) (rd_takeE ((Rd.of_own (own_stE (s:=⟨some ⟨gl,0,none⟩,capl⟩) hL hW (fun b hb=>hne b hb))).mono fun i hi=>hi.2) (by omega))
 have hins:∀ W vb,Ext w W→Blk W vb 64 #[v0,v1,v2,v3,v4,v5,v6]→w.heap.size≤vb→Calls Tryz.prog 104 #[.slice sr.a nr sr.c,.int .i64 0,.slice (some ⟨vb,0,none⟩) 1 1] W (InsPostE base sr nr 0 rs [v0,v1,v2,v3,v4,v5,v6] W):=fun W vb hW hv hvb=>
  insE_any (own_stE hR (hW.st (fun _=>False)) (fun _ _ h=>h)) (Nat.le_trans hb hW.size) (by omega) (Nat.zero_le _) rfl hv (fun e=>by have:=hrowl vb e;omega) (fun u hu=>hl1 u (List.mem_of_mem_drop (hlast▸hu))) hr1
 have HS:=Lib.hid hS
 have HB1:=Lib.hid hb1
 have HB2:=Lib.hid hB2
 have HI:=Lib.hid hins
 have HP1:=Lib.hid hP1
 have HL:=Lib.hid hlast
 clear hS hb1 hB1 hB2 hins hP1 hlast hlc hcl hl1 hr1 hL hR hfill hne
 go_enter Tryz.func163,Tryz.ntmps163
 go_wp2_with fail
 have s0:=(St.refl (fun b=>sr.row=some b) w).drew
 have k0:=HS.out _ s0
 have e0:=(Ext.refl w).drew
 have sA:=((((Ext.refl w).alloc #[v0,v1,v2,v3,v4,v5,v6] 64).drew).st (fun b=>sr.row=some b))
 have HV0:=Lib.hid (show Blk (w.alloc (.cells #[v0,v1,v2,v3,v4,v5,v6] 64)).drew w.heap.size 64 #[v0,v1,v2,v3,v4,v5,v6] from Blk.new w 64 _)
 go_region_held3 (fun W=>W.cell? ⟨gl,m*7,none⟩=some v0∧W.cell? ⟨gl,m*7+1,none⟩=some v1∧W.cell? ⟨gl,m*7+2,none⟩=some v2∧W.cell? ⟨gl,m*7+3,none⟩=some v3∧W.cell? ⟨gl,m*7+4,none⟩=some v4∧W.cell? ⟨gl,m*7+5,none⟩=some v5∧W.cell? ⟨gl,m*7+6,none⟩=some v6) (first | (with_reducible exact HS.out _ s0) | (with_reducible exact HS.out _ (s0.alloc _ _)) | (with_reducible exact HS.out _ s1) | (with_reducible exact HS.out _ (s1.alloc _ _)) | (with_reducible exact HS.out _ s2) | (with_reducible exact HS.out _ s3q) | (with_reducible exact HS.out _ sA) | go_keep)
  (first
    | (go_at_call_of 106 (Value.slice (some ⟨gl,0,none⟩) m capl);refine (HB1.out _ (by first | exact s0 | exact s0.alloc _ _)).mono ?_;rintro e w1 ⟨a1,rfl,ha1,hp1,hx1⟩;have s1:=(show St (fun b=>sr.row=some b) w _ from by first | exact s0 | exact s0.alloc _ _).ext hx1;have e1:=(show Ext w _ from by first | exact e0 | exact e0.alloc _ _).trans hx1;have HPA:=Lib.hid hp1;clear hp1)
    | (go_at_call 104;refine (HI.out _ _ (by first | (with_reducible exact e1) | exact e1.alloc _ _) (by first | exact (Blk.new _ _ _) | exact Blk.ext HV0.out hx1) (by first | exact e1.size | exact Nat.le_refl _)).mono ?_;rintro e w2 ⟨s3,rfl,ho2,hw2,hr2⟩;have s12:=(show St (RowsE ⟨some ⟨gl,0,none⟩,capl⟩ sr) w1 w2 from by first | exact (hw2.st fun i hi=>.inr hi) | exact (((Ext.refl w1).alloc _ _).st _).trans (hw2.st fun i hi=>.inr hi));have s2:=s1.trans (show St (fun b=>sr.row=some b) w1 w2 from by first | exact (hw2.st fun i hi=>hi) | exact (((Ext.refl w1).alloc _ _).st _).trans (hw2.st fun i hi=>hi));have HO2:=Lib.hid ho2;clear ho2 hw2 hr2)
    | (go_at_call 106;refine (HB2.out w2 s3 (s2.mono fun i _ hi=>.inr hi) ?_).mono ?_;(have h:=Rd.of_own HO2.out;simp only [Nat.zero_mul,List.take_zero,List.nil_append,List.drop_zero] at h;rw [←HL.out] at h;exact h.mono fun i hi=>hi.2);rintro e w3 ⟨a2,rfl,ha2,hp2,hx3⟩;have s3q:=s2.ext hx3;have HPB:=Lib.hid hp2;clear hp2))
 all_goals
  go_wp2_with fail
  go_ret2
  have hs1:=s1.size
  have hs2:=s2.size
  refine ⟨a1,a2,rfl,?_,Nat.le_trans hs2 ha2,HP1.out a1 w1 w3 (s1.mono fun i _ hi=>.inr hi) HPA.out (s12.ext hx3),HPB.out,s3q.mono fun i _ hi=>.inr hi⟩
  simp only [World.size_alloc,World.size_drew] at ha1
  omega
end
theorem firstE {rs:List Value} {n:Nat} (hl:rs.length=n*7) (hn:0<n) (hp:True):∃ v0 v1 v2 v3 v4 v5 v6:Value,rs.take 7=[v0,v1,v2,v3,v4,v5,v6]:=by
 have h:(rs.take 7).length=7:=by rw [List.length_take,hl];omega
 match hd:rs.take 7,h with
 | [v0,v1,v2,v3,v4,v5,v6],_=>exact ⟨v0,v1,v2,v3,v4,v5,v6,rfl⟩
section
variable {w : World} {base nl m : Nat} {sl sr : Sl} {ls rs : List Value} {P1 P2 : Nat → World → Prop}
theorem pairE_right (hL:w.ownsRow base 64 7 (.slice sl.a nl sl.c) nl ls) (hR:w.ownsRow base 64 7 (.slice sr.a (m+1) sr.c) (m+1) rs) (hb:base≤w.heap.size) (hne:∀ b,sl.row=some b→sr.row≠some b)
  (hl1:∀ u∈ls,u.oneCell'=true) (hr1:∀ u∈rs,u.oneCell'=true) (hpt:True) (h4:nl≤4) (h5:4<m+1) (h8:m+1≤8)
  (hB1:∀ (W:World) (s:Sl),St (RowsE sl sr) w W→Rd W (Lt W.heap.size) 7 s (nl+1) (ls++rs.take 7)→Calls Tryz.prog 106 #[.slice s.a (nl+1) s.c] W (BPostE P1 W))
  (hB2:∀ (W:World) (s:Sl),St (RowsE sl sr) w W→Rd W (Lt W.heap.size) 7 s m (rs.drop 7)→Calls Tryz.prog 106 #[.slice s.a m s.c] W (BPostE P2 W))
  (hP1:∀ a W W',St (RowsE sl sr) w W→P1 a W→St (RowsE sl sr) W W'→P1 a W') :
  Calls Tryz.prog 163 #[.slice sl.a nl sl.c,.slice sr.a (m+1) sr.c,.func (.func 106) #[] #[]] w fun e w'=>∃ a b,e=.returned (.tuple #[.pointer (some ⟨a,0,none⟩),.pointer (some ⟨b,0,none⟩)])∧w.heap.size≤a∧w.heap.size≤b∧P1 a w'∧P2 b w'∧St (RowsE sl sr) w w':=by
 obtain ⟨i0,hi,hz0,hz1,hz2⟩:=info_parts Tryz.infoEntry
 obtain ⟨v0,v1,v2,v3,v4,v5,v6,hfirst⟩:=firstE hR.1 (by omega) hpt
 obtain ⟨gr,capr,rfl,hgb,hncr,hcmr,hfilr⟩:=own_block hR (by omega)
 have hgr:gr<w.heap.size:=hfilr.lt
 have hne':∀ b,sl.row=some b→b≠gr:=fun b hb e=>hne b hb (by simp [Sl.row,e])
 have hrd:Rd w (fun b=>b=gr) 7 ⟨some ⟨gr,0,none⟩,capr⟩ (m+1) rs:=by
  obtain ⟨b,o,h1,h2,h3⟩:=Rd.of_own hR
  obtain ⟨e1,hnc,hcm⟩:=h1.eq (by omega)
  obtain ⟨rfl,rfl⟩:gr=b∧0=o:=by simpa using e1
  exact ⟨gr,0,.some _ _ _ _ hnc hcm rfl,h2,h3⟩
 have hcr:∀ W,St (fun b=>sl.row=some b) w W→∀ j u,rs[j]? = some u→W.cell? ⟨gr,j,none⟩=some u:=fun W hW j u hj=>by
  obtain ⟨b,o,h1,h2,h3⟩:=Rd.of_own hR
  obtain ⟨e1,-,-⟩:=h1.eq (by omega)
  obtain ⟨rfl,rfl⟩:gr=b∧0=o:=by simpa using e1
  have:=h3 j u hj
  rw [Nat.zero_add] at this
  exact (hW.cell hgr (fun e=>hne' gr e rfl)).trans this
 have hfc:∀ (c:Nat) (u:Value),([v0,v1,v2,v3,v4,v5,v6]:List Value)[c]? = some u→rs[c]? = some u:=fun c u hu=>by
  rw [←hfirst,List.getElem?_take] at hu
  split at hu
  ·exact hu
  cases hu
 have hS:∀ W,St (fun b=>sl.row=some b) w W→W.cell? ⟨gr,0,none⟩=some v0∧W.cell? ⟨gr,1,none⟩=some v1∧W.cell? ⟨gr,2,none⟩=some v2∧W.cell? ⟨gr,3,none⟩=some v3∧W.cell? ⟨gr,4,none⟩=some v4∧W.cell? ⟨gr,5,none⟩=some v5∧W.cell? ⟨gr,6,none⟩=some v6:=fun W hW=>⟨hcr W hW _ _ (hfc 0 _ rfl),hcr W hW _ _ (hfc 1 _ rfl),hcr W hW _ _ (hfc 2 _ rfl),hcr W hW _ _ (hfc 3 _ rfl),hcr W hW _ _ (hfc 4 _ rfl),hcr W hW _ _ (hfc 5 _ rfl),hcr W hW _ _ (hfc 6 _ rfl)⟩
 have hn4:¬(4:Int)<(nl:Int):=by omega
 have hgt:(4:Int)<(m:Int)+1:=by omega
 have hm0:(0:Int)<(m:Int)+1:=by omega
 have hm1:(1:Int)≤(m:Int)+1:=by omega
 have hc1:¬capr=1:=by omega
 have hw1:IntKind.i64.wrap ((m:Int)+1)=(m:Int)+1:=by rw [IntKind.wrap_i64];omega
 have hcm':(capr:Int)≤9223372036854775807:=by unfold maxLen at hcmr;omega
 have hcn:(m:Int)+1≤(capr:Int):=by omega
 have h63:nl+1≤maxLen:=by unfold maxLen;omega
 have hby:(nl+1)*104≤140737488355328:=by omega
 have hown:∀ W,Ext w W→W.ownsRow base 64 7 (.slice sl.a nl sl.c) nl ls:=fun W hW=>own_stE hL (hW.st (fun _=>False)) (fun _ _ h=>h)
 have hb2:∀ W,St (fun b=>sl.row=some b) w W→Calls Tryz.prog 106 #[.slice (some ⟨gr,7,none⟩) m (capr - 1)] W (BPostE P2 W):=fun W hW=>by
  refine hB2 W ⟨some ⟨gr,7,none⟩,capr - 1⟩ (hW.mono fun i _ hi=>.inl hi) ?_
  have h:=((hrd.agree (hW.agree.mono fun i (hi:i=gr)=>⟨by omega,fun e=>hne' i e hi⟩)).drop (m:=1) (by omega)).mono (G:=Lt W.heap.size) fun i (hi:i=gr)=>by have:=hW.size;show i<_;omega
  simpa using h
 have HS:=Lib.hid hS
 have HB1:=Lib.hid hB1
 have HB2:=Lib.hid hb2
 have HP1:=Lib.hid hP1
 have HF:=Lib.hid hfirst
 have HOWN:=Lib.hid hown
 have HL1:=Lib.hid hl1
 have H1C:Hid (∀ u∈([v0,v1,v2,v3,v4,v5,v6]:List Value),u.oneCell'=true):=Lib.hid fun u hu=>hr1 u (List.mem_of_mem_take (hfirst▸hu))
 clear hS hb2 hB1 hB2 hP1 hfirst hcr hfc hl1 hr1 hL hR hfilr hne hne' hown hrd
 go_enter Tryz.func163,Tryz.ntmps163
 go_wp2_with fail
 have s0:=(St.refl (fun b=>sl.row=some b) w).drew
 have e0:=(Ext.refl w).drew
 have sA:=((((Ext.refl w).alloc #[v0,v1,v2,v3,v4,v5,v6] 64).drew).st (fun b=>sl.row=some b))
 have k0:=HS.out _ s0
 have HV0:=Lib.hid (show Blk (w.alloc (.cells #[v0,v1,v2,v3,v4,v5,v6] 64)).drew w.heap.size 64 #[v0,v1,v2,v3,v4,v5,v6] from Blk.new w 64 _)
 go_region_held3 (fun W=>W.cell? ⟨gr,0,none⟩=some v0∧W.cell? ⟨gr,1,none⟩=some v1∧W.cell? ⟨gr,2,none⟩=some v2∧W.cell? ⟨gr,3,none⟩=some v3∧W.cell? ⟨gr,4,none⟩=some v4∧W.cell? ⟨gr,5,none⟩=some v5∧W.cell? ⟨gr,6,none⟩=some v6) (first | (with_reducible exact HS.out _ s0) | (with_reducible exact HS.out _ sA) | (with_reducible exact HS.out _ s1) | (with_reducible exact HS.out _ s2) | (with_reducible exact HS.out _ s3) | go_keep)
  (first
    | (refine step_append_x _ rfl (.tmp 35) (.tmp 39) 48 rfl base 64 i0 _ 7 104 Tryz.underlying48 hi hz0 hz1 hz2 rfl (by decide) sl nl ls (by rfl) (HOWN.out _ (((Ext.refl w).alloc _ _).drew)) (fun b=>b=w.heap.size) ⟨some ⟨w.heap.size,0,none⟩,1⟩ 1 [v0,v1,v2,v3,v4,v5,v6] (by rfl) (Rd.block HV0.out (by decide) rfl) H1C.out h63 hby (by rw [World.size_drew,World.size_alloc];omega) ?_;intro sx w1 hown1 hwr1 hsx;have s1:=sA.trans (hwr1.st fun i hi=>hi);have HO1:=Lib.hid hown1;clear hown1 hsx)
    | (go_at_call 106;refine (HB2.out w2 s2).mono ?_;rintro e w3 ⟨a2,rfl,ha2,hp2,hx3⟩;have s3:=s2.ext hx3;have HPB:=Lib.hid hp2;clear hp2)
    | (go_at_call 106;refine (HB1.out w1 sx (s1.mono fun i _ hi=>.inl hi) ?_).mono ?_;(have h:=Rd.of_own HO1.out;rw [←HF.out] at h;exact h.mono fun i hi=>hi.2);rintro e w2 ⟨a1,rfl,ha1,hp1,hx2⟩;have s2:=s1.ext hx2;have HPA:=Lib.hid hp1;clear hp1))
 all_goals
  go_wp2_with fail
  go_ret2
  have hs1:=s1.size
  have hs2:=s2.size
  exact ⟨a1,a2,rfl,Nat.le_trans hs1 ha1,Nat.le_trans hs2 ha2,HP1.out a1 w2 w3 (s2.mono fun i _ hi=>.inl hi) HPA.out (hx3.st _),HPB.out,s3.mono fun i _ hi=>.inl hi⟩
theorem pairE_both {nr:Nat} (hL:w.ownsRow base 64 7 (.slice sl.a nl sl.c) nl ls) (hR:w.ownsRow base 64 7 (.slice sr.a nr sr.c) nr rs) (hb:base≤w.heap.size)
  (hr1:∀ u∈rs,u.oneCell'=true) (h4:nl≤4) (r4:nr≤4)
  (hB1:∀ (W:World) (s:Sl),St (RowsE sl sr) w W→Rd W (Lt W.heap.size) 7 s (nl+nr) (ls++rs)→Calls Tryz.prog 106 #[.slice s.a (nl+nr) s.c] W (BPostE P1 W)) :
  Calls Tryz.prog 163 #[.slice sl.a nl sl.c,.slice sr.a nr sr.c,.func (.func 106) #[] #[]] w fun e w'=>∃ a,e=.returned (.tuple #[.pointer (some ⟨a,0,none⟩),.pointer none])∧w.heap.size≤a∧P1 a w'∧St (RowsE sl sr) w w':=by
 obtain ⟨i0,hi,hz0,hz1,hz2⟩:=info_parts Tryz.infoEntry
 have hn4:¬(4:Int)<(nl:Int):=by omega
 have hr4:¬(4:Int)<(nr:Int):=by omega
 have h63:nl+nr≤maxLen:=by unfold maxLen;omega
 have hby:(nl+nr)*104≤140737488355328:=by omega
 have HB1:=Lib.hid hB1
 have HR:=Lib.hid (Rd.of_own hR)
 have HL:=Lib.hid hL
 have H1:=Lib.hid hr1
 clear hB1 hR hL hr1
 go_enter Tryz.func163,Tryz.ntmps163
 go_wp2_with (at_builtin;refine wpList_append_x _ rfl (.tmp 47) (.tmp 48) 48 rfl base 64 i0 _ 7 104 Tryz.underlying48 hi hz0 hz1 hz2 rfl (by decide) sl nl ls rfl HL.out (In base w.heap.size) sr nr rs rfl HR.out H1.out h63 hby hb ?_;intro sx w1 hown1 hwr1 hsx)
 have s1:St (fun b=>sl.row=some b) w w1:=hwr1.st fun i hi=>hi
 refine (HB1.out w1 sx (s1.mono fun i _ hi=>.inl hi) ((Rd.of_own hown1).mono fun i hi=>hi.2)).mono ?_
 rintro e w2 ⟨a1,rfl,ha1,hp1,hx2⟩
 have HP:=Lib.hid hp1
 clear hp1 hown1 hwr1 hsx
 go_wp2_with fail
 go_ret2
 exact ⟨a1,rfl,Nat.le_trans s1.size ha1,HP.out,(s1.ext hx2).mono fun i _ hi=>.inl hi⟩
end
abbrev RowsN (sl sr:Sl):Nat→Prop:=fun b=>sl.row=some b∨sr.row=some b
def BPostN (P:Nat→World→Prop) (W:World) (e:Ending) (W':World):Prop:=∃ a,e=.returned (.pointer (some ⟨a,0,none⟩))∧W.heap.size≤a∧P a W'∧Ext W W'
theorem own_stN {w W:World} {base n:Nat} {s:Sl} {xs:List Value} {G:Nat→Prop} (h:w.ownsRow base 23 1 (.slice s.a n s.c) n xs) (hs:St G w W) (hG:∀ b,s.row=some b→¬G b):W.ownsRow base 23 1 (.slice s.a n s.c) n xs:=
 own_agree h hs.agree fun b hb=>⟨(own_row h hb).2,hG b hb⟩
theorem rd_takeN {w:World} {F:Nat→Prop} {n m:Nat} {s:Sl} {cs:List Value} (h:Rd w F 1 s n cs) (hm:m≤n):Rd w F 1 s m (cs.take (m*1)):=h.take hm
theorem lastN {ls:List Value} {n:Nat} (hl:ls.length=n*1) (hn:0<n) (hp:∀ u∈ls,∃ p,u=Value.pointer p):∃ v0:Option Addr,ls.drop ((n - 1)*1)=[.pointer v0]:=by
 have h:(ls.drop ((n - 1)*1)).length=1:=by rw [List.length_drop,hl];omega
 match hd:ls.drop ((n - 1)*1),h with
 | [x],_=>obtain ⟨p,hq⟩:=hp x (List.mem_of_mem_drop (by rw [hd];exact List.mem_singleton.2 rfl));exact ⟨p,by rw [hq]⟩
section
variable {w : World} {base m nr : Nat} {sl sr : Sl} {ls rs : List Value} {P1 P2 : Nat → World → Prop}
theorem pairN_left (hL:w.ownsRow base 23 1 (.slice sl.a (m+1) sl.c) (m+1) ls) (hR:w.ownsRow base 23 1 (.slice sr.a nr sr.c) nr rs) (hb:base≤w.heap.size) (hne:∀ b,sl.row=some b→sr.row≠some b)
  (hl1:∀ u∈ls,u.oneCell'=true) (hr1:∀ u∈rs,u.oneCell'=true) (hpt:∀ u∈ls,∃ p,u=Value.pointer p) (h4:4<m+1) (h8:m+1≤8) (r8:nr≤8)
  (hB1:∀ (W:World) (s:Sl),St (RowsN sl sr) w W→Rd W (Lt W.heap.size) 1 s m (ls.take (m*1))→Calls Tryz.prog 67 #[.slice s.a m s.c] W (BPostN P1 W))
  (hB2:∀ (W:World) (s:Sl),St (RowsN sl sr) w W→Rd W (Lt W.heap.size) 1 s (nr+1) (ls.drop (m*1)++rs)→Calls Tryz.prog 67 #[.slice s.a (nr+1) s.c] W (BPostN P2 W))
  (hP1:∀ a W W',St (RowsN sl sr) w W→P1 a W→St (RowsN sl sr) W W'→P1 a W') :
  Calls Tryz.prog 164 #[.slice sl.a (m+1) sl.c,.slice sr.a nr sr.c,.func (.func 67) #[] #[]] w fun e w'=>∃ a b,e=.returned (.tuple #[.pointer (some ⟨a,0,none⟩),.pointer (some ⟨b,0,none⟩)])∧w.heap.size≤a∧w.heap.size≤b∧P1 a w'∧P2 b w'∧St (RowsN sl sr) w w':=by
 obtain ⟨i0,hi,hz0,hz1,hz2⟩:=info_parts Tryz.infoPNode
 obtain ⟨v0,hlast⟩:=lastN hL.1 (by omega) hpt
 rw [Nat.add_sub_cancel] at hlast
 obtain ⟨gl,capl,rfl,hgb,hncl,hcml,hfill⟩:=own_block hL (by omega)
 have hgl:gl<w.heap.size:=hfill.lt
 have hrowl:∀ b,sr.row=some b→b<w.heap.size:=fun b hb=>(own_row hR hb).2
 have hcl:∀ W,St (fun b=>sr.row=some b) w W→∀ j u,ls[j]? = some u→W.cell? ⟨gl,j,none⟩=some u:=fun W hW j u hj=>by
  obtain ⟨b,o,h1,h2,h3⟩:=Rd.of_own hL
  obtain ⟨e1,-,-⟩:=h1.eq (by omega)
  obtain ⟨rfl,rfl⟩:gl=b∧0=o:=by simpa using e1
  have:=h3 j u hj
  rw [Nat.zero_add] at this
  exact (hW.cell hgl (hne gl rfl)).trans this
 have hlc:∀ (c:Nat) (u:Value),([.pointer v0]:List Value)[c]? = some u→ls[m*1+c]? = some u:=fun c u hu=>by rw [←hlast,List.getElem?_drop] at hu;exact hu
 have hS:∀ W,St (fun b=>sr.row=some b) w W→W.cell? ⟨gl,m,none⟩=some (.pointer v0):=fun W hW=>by have:=hcl W hW _ _ (hlc 0 _ rfl);simpa using this
 have hgt:(4:Int)<(m:Int)+1:=by omega
 have hmc:(m:Int)≤(capl:Int):=by omega
 have hmn:(m:Int)<(m:Int)+1:=by omega
 have hcm':(capl:Int)≤9223372036854775807:=by unfold maxLen at hcml;omega
 have hw1:IntKind.i64.wrap ((m:Int)+1)=(m:Int)+1:=by rw [IntKind.wrap_i64];omega
 have hb1:∀ W,St (fun b=>sr.row=some b) w W→Calls Tryz.prog 67 #[.slice (some ⟨gl,0,none⟩) m capl] W (BPostN P1 W):=fun W hW=>
  hB1 W ⟨some ⟨gl,0,none⟩,capl⟩ (hW.mono fun i _ hi=>.inr hi) (rd_takeN ((Rd.of_own (own_stN (s:=⟨some ⟨gl,0,none⟩,capl⟩) hL hW (fun b hb=>hne b hb))).mono fun i hi=>hi.2) (by omega))
 have hins:∀ W vb,Ext w W→Blk W vb 23 #[.pointer v0]→w.heap.size≤vb→Calls Tryz.prog 107 #[.slice sr.a nr sr.c,.int .i64 0,.slice (some ⟨vb,0,none⟩) 1 1] W (InsPostN base sr nr 0 rs [.pointer v0] W):=fun W vb hW hv hvb=>
  insN_any (own_stN hR (hW.st (fun _=>False)) (fun _ _ h=>h)) (Nat.le_trans hb hW.size) (by omega) (Nat.zero_le _) rfl hv (fun e=>by have:=hrowl vb e;omega) (fun u hu=>hl1 u (List.mem_of_mem_drop (hlast▸hu))) hr1
 have HS:=Lib.hid hS
 have HB1:=Lib.hid hb1
 have HB2:=Lib.hid hB2
 have HI:=Lib.hid hins
 have HP1:=Lib.hid hP1
 have HL:=Lib.hid hlast
 clear hS hb1 hB1 hB2 hins hP1 hlast hlc hcl hl1 hr1 hL hR hfill hne
 go_enter Tryz.func164,Tryz.ntmps164
 go_wp2_with fail
 have s0:=(St.refl (fun b=>sr.row=some b) w).drew
 have k0:=HS.out _ s0
 have e0:=(Ext.refl w).drew
 have sA:=((((Ext.refl w).alloc #[.pointer v0] 23).drew).st (fun b=>sr.row=some b))
 have HV0:=Lib.hid (show Blk (w.alloc (.cells #[.pointer v0] 23)).drew w.heap.size 23 #[.pointer v0] from Blk.new w 23 _)
 go_region_held3 (fun W=>W.cell? ⟨gl,m,none⟩=some (.pointer v0)) (first | (with_reducible exact HS.out _ s0) | (with_reducible exact HS.out _ (s0.alloc _ _)) | (with_reducible exact HS.out _ s1) | (with_reducible exact HS.out _ (s1.alloc _ _)) | (with_reducible exact HS.out _ s2) | (with_reducible exact HS.out _ s3q) | (with_reducible exact HS.out _ sA) | go_keep)
  (first
    | (go_at_call_of 67 (Value.slice (some ⟨gl,0,none⟩) m capl);refine (HB1.out _ (by first | exact s0 | exact s0.alloc _ _)).mono ?_;rintro e w1 ⟨a1,rfl,ha1,hp1,hx1⟩;have s1:=(show St (fun b=>sr.row=some b) w _ from by first | exact s0 | exact s0.alloc _ _).ext hx1;have e1:=(show Ext w _ from by first | exact e0 | exact e0.alloc _ _).trans hx1;have HPA:=Lib.hid hp1;clear hp1)
    | (go_at_call 107;refine (HI.out _ _ (by first | (with_reducible exact e1) | exact e1.alloc _ _) (by first | exact (Blk.new _ _ _) | exact Blk.ext HV0.out hx1) (by first | exact e1.size | exact Nat.le_refl _)).mono ?_;rintro e w2 ⟨s3,rfl,ho2,hw2,hr2⟩;have s12:=(show St (RowsN ⟨some ⟨gl,0,none⟩,capl⟩ sr) w1 w2 from by first | exact (hw2.st fun i hi=>.inr hi) | exact (((Ext.refl w1).alloc _ _).st _).trans (hw2.st fun i hi=>.inr hi));have s2:=s1.trans (show St (fun b=>sr.row=some b) w1 w2 from by first | exact (hw2.st fun i hi=>hi) | exact (((Ext.refl w1).alloc _ _).st _).trans (hw2.st fun i hi=>hi));have HO2:=Lib.hid ho2;clear ho2 hw2 hr2)
    | (go_at_call 67;refine (HB2.out w2 s3 (s2.mono fun i _ hi=>.inr hi) ?_).mono ?_;(have h:=Rd.of_own HO2.out;simp only [Nat.zero_mul,List.take_zero,List.nil_append,List.drop_zero] at h;rw [←HL.out] at h;exact h.mono fun i hi=>hi.2);rintro e w3 ⟨a2,rfl,ha2,hp2,hx3⟩;have s3q:=s2.ext hx3;have HPB:=Lib.hid hp2;clear hp2))
 all_goals
  go_wp2_with fail
  go_ret2
  have hs1:=s1.size
  have hs2:=s2.size
  refine ⟨a1,a2,rfl,?_,Nat.le_trans hs2 ha2,HP1.out a1 w1 w3 (s1.mono fun i _ hi=>.inr hi) HPA.out (s12.ext hx3),HPB.out,s3q.mono fun i _ hi=>.inr hi⟩
  simp only [World.size_alloc,World.size_drew] at ha1
  omega
end
theorem firstN {rs:List Value} {n:Nat} (hl:rs.length=n*1) (hn:0<n) (hp:∀ u∈rs,∃ p,u=Value.pointer p):∃ v0:Option Addr,rs.take 1=[.pointer v0]:=by
 have h:(rs.take 1).length=1:=by rw [List.length_take,hl];omega
 match hd:rs.take 1,h with
 | [x],_=>obtain ⟨p,hq⟩:=hp x (List.mem_of_mem_take (by rw [hd];exact List.mem_singleton.2 rfl));exact ⟨p,by rw [hq]⟩
section
variable {w : World} {base nl m : Nat} {sl sr : Sl} {ls rs : List Value} {P1 P2 : Nat → World → Prop}
theorem pairN_right (hL:w.ownsRow base 23 1 (.slice sl.a nl sl.c) nl ls) (hR:w.ownsRow base 23 1 (.slice sr.a (m+1) sr.c) (m+1) rs) (hb:base≤w.heap.size) (hne:∀ b,sl.row=some b→sr.row≠some b)
  (hl1:∀ u∈ls,u.oneCell'=true) (hr1:∀ u∈rs,u.oneCell'=true) (hpt:∀ u∈rs,∃ p,u=Value.pointer p) (h4:nl≤4) (h5:4<m+1) (h8:m+1≤8)
  (hB1:∀ (W:World) (s:Sl),St (RowsN sl sr) w W→Rd W (Lt W.heap.size) 1 s (nl+1) (ls++rs.take 1)→Calls Tryz.prog 67 #[.slice s.a (nl+1) s.c] W (BPostN P1 W))
  (hB2:∀ (W:World) (s:Sl),St (RowsN sl sr) w W→Rd W (Lt W.heap.size) 1 s m (rs.drop 1)→Calls Tryz.prog 67 #[.slice s.a m s.c] W (BPostN P2 W))
  (hP1:∀ a W W',St (RowsN sl sr) w W→P1 a W→St (RowsN sl sr) W W'→P1 a W') :
  Calls Tryz.prog 164 #[.slice sl.a nl sl.c,.slice sr.a (m+1) sr.c,.func (.func 67) #[] #[]] w fun e w'=>∃ a b,e=.returned (.tuple #[.pointer (some ⟨a,0,none⟩),.pointer (some ⟨b,0,none⟩)])∧w.heap.size≤a∧w.heap.size≤b∧P1 a w'∧P2 b w'∧St (RowsN sl sr) w w':=by
 obtain ⟨i0,hi,hz0,hz1,hz2⟩:=info_parts Tryz.infoPNode
 obtain ⟨v0,hfirst⟩:=firstN hR.1 (by omega) hpt
 obtain ⟨gr,capr,rfl,hgb,hncr,hcmr,hfilr⟩:=own_block hR (by omega)
 have hgr:gr<w.heap.size:=hfilr.lt
 have hne':∀ b,sl.row=some b→b≠gr:=fun b hb e=>hne b hb (by simp [Sl.row,e])
 have hrd:Rd w (fun b=>b=gr) 1 ⟨some ⟨gr,0,none⟩,capr⟩ (m+1) rs:=by
  obtain ⟨b,o,h1,h2,h3⟩:=Rd.of_own hR
  obtain ⟨e1,hnc,hcm⟩:=h1.eq (by omega)
  obtain ⟨rfl,rfl⟩:gr=b∧0=o:=by simpa using e1
  exact ⟨gr,0,.some _ _ _ _ hnc hcm rfl,h2,h3⟩
 have hcr:∀ W,St (fun b=>sl.row=some b) w W→∀ j u,rs[j]? = some u→W.cell? ⟨gr,j,none⟩=some u:=fun W hW j u hj=>by
  obtain ⟨b,o,h1,h2,h3⟩:=Rd.of_own hR
  obtain ⟨e1,-,-⟩:=h1.eq (by omega)
  obtain ⟨rfl,rfl⟩:gr=b∧0=o:=by simpa using e1
  have:=h3 j u hj
  rw [Nat.zero_add] at this
  exact (hW.cell hgr (fun e=>hne' gr e rfl)).trans this
 have hfc:∀ (c:Nat) (u:Value),([.pointer v0]:List Value)[c]? = some u→rs[c]? = some u:=fun c u hu=>by
  rw [←hfirst,List.getElem?_take] at hu
  split at hu
  ·exact hu
  cases hu
 have hS:∀ W,St (fun b=>sl.row=some b) w W→W.cell? ⟨gr,0,none⟩=some (.pointer v0):=fun W hW=>hcr W hW _ _ (hfc 0 _ rfl)
 have hn4:¬(4:Int)<(nl:Int):=by omega
 have hgt:(4:Int)<(m:Int)+1:=by omega
 have hm0:(0:Int)<(m:Int)+1:=by omega
 have hm1:(1:Int)≤(m:Int)+1:=by omega
 have hc1:¬capr=1:=by omega
 have hw1:IntKind.i64.wrap ((m:Int)+1)=(m:Int)+1:=by rw [IntKind.wrap_i64];omega
 have hcm':(capr:Int)≤9223372036854775807:=by unfold maxLen at hcmr;omega
 have hcn:(m:Int)+1≤(capr:Int):=by omega
 have h63:nl+1≤maxLen:=by unfold maxLen;omega
 have hby:(nl+1)*8≤140737488355328:=by omega
 have hown:∀ W,Ext w W→W.ownsRow base 23 1 (.slice sl.a nl sl.c) nl ls:=fun W hW=>own_stN hL (hW.st (fun _=>False)) (fun _ _ h=>h)
 have hb2:∀ W,St (fun b=>sl.row=some b) w W→Calls Tryz.prog 67 #[.slice (some ⟨gr,1,none⟩) m (capr - 1)] W (BPostN P2 W):=fun W hW=>by
  refine hB2 W ⟨some ⟨gr,1,none⟩,capr - 1⟩ (hW.mono fun i _ hi=>.inl hi) ?_
  have h:=((hrd.agree (hW.agree.mono fun i (hi:i=gr)=>⟨by omega,fun e=>hne' i e hi⟩)).drop (m:=1) (by omega)).mono (G:=Lt W.heap.size) fun i (hi:i=gr)=>by have:=hW.size;show i<_;omega
  simpa using h
 have HS:=Lib.hid hS
 have HB1:=Lib.hid hB1
 have HB2:=Lib.hid hb2
 have HP1:=Lib.hid hP1
 have HF:=Lib.hid hfirst
 have HOWN:=Lib.hid hown
 have HL1:=Lib.hid hl1
 have H1C:Hid (∀ u∈([.pointer v0]:List Value),u.oneCell'=true):=Lib.hid fun u hu=>hr1 u (List.mem_of_mem_take (hfirst▸hu))
 clear hS hb2 hB1 hB2 hP1 hfirst hcr hfc hl1 hr1 hL hR hfilr hne hne' hown hrd
 go_enter Tryz.func164,Tryz.ntmps164
 go_wp2_with fail
 have s0:=(St.refl (fun b=>sl.row=some b) w).drew
 have e0:=(Ext.refl w).drew
 have sA:=((((Ext.refl w).alloc #[.pointer v0] 23).drew).st (fun b=>sl.row=some b))
 have k0:=HS.out _ s0
 have HV0:=Lib.hid (show Blk (w.alloc (.cells #[.pointer v0] 23)).drew w.heap.size 23 #[.pointer v0] from Blk.new w 23 _)
 go_region_held3 (fun W=>W.cell? ⟨gr,0,none⟩=some (.pointer v0)) (first | (with_reducible exact HS.out _ s0) | (with_reducible exact HS.out _ sA) | (with_reducible exact HS.out _ s1) | (with_reducible exact HS.out _ s2) | (with_reducible exact HS.out _ s3) | go_keep)
  (first
    | (refine step_append_x _ rfl (.tmp 35) (.tmp 39) 119 rfl base 23 i0 _ 1 8 Tryz.underlying119 hi hz0 hz1 hz2 rfl (by decide) sl nl ls (by rfl) (HOWN.out _ (((Ext.refl w).alloc _ _).drew)) (fun b=>b=w.heap.size) ⟨some ⟨w.heap.size,0,none⟩,1⟩ 1 [.pointer v0] (by rfl) (Rd.block HV0.out (by decide) rfl) H1C.out h63 hby (by rw [World.size_drew,World.size_alloc];omega) ?_;intro sx w1 hown1 hwr1 hsx;have s1:=sA.trans (hwr1.st fun i hi=>hi);have HO1:=Lib.hid hown1;clear hown1 hsx)
    | (go_at_call 67;refine (HB2.out w2 s2).mono ?_;rintro e w3 ⟨a2,rfl,ha2,hp2,hx3⟩;have s3:=s2.ext hx3;have HPB:=Lib.hid hp2;clear hp2)
    | (go_at_call 67;refine (HB1.out w1 sx (s1.mono fun i _ hi=>.inl hi) ?_).mono ?_;(have h:=Rd.of_own HO1.out;rw [←HF.out] at h;exact h.mono fun i hi=>hi.2);rintro e w2 ⟨a1,rfl,ha1,hp1,hx2⟩;have s2:=s1.ext hx2;have HPA:=Lib.hid hp1;clear hp1))
 all_goals
  go_wp2_with fail
  go_ret2
  have hs1:=s1.size
  have hs2:=s2.size
  exact ⟨a1,a2,rfl,Nat.le_trans hs1 ha1,Nat.le_trans hs2 ha2,HP1.out a1 w2 w3 (s2.mono fun i _ hi=>.inl hi) HPA.out (hx3.st _),HPB.out,s3.mono fun i _ hi=>.inl hi⟩
theorem pairN_both {nr:Nat} (hL:w.ownsRow base 23 1 (.slice sl.a nl sl.c) nl ls) (hR:w.ownsRow base 23 1 (.slice sr.a nr sr.c) nr rs) (hb:base≤w.heap.size)
  (hr1:∀ u∈rs,u.oneCell'=true) (h4:nl≤4) (r4:nr≤4)
  (hB1:∀ (W:World) (s:Sl),St (RowsN sl sr) w W→Rd W (Lt W.heap.size) 1 s (nl+nr) (ls++rs)→Calls Tryz.prog 67 #[.slice s.a (nl+nr) s.c] W (BPostN P1 W)) :
  Calls Tryz.prog 164 #[.slice sl.a nl sl.c,.slice sr.a nr sr.c,.func (.func 67) #[] #[]] w fun e w'=>∃ a,e=.returned (.tuple #[.pointer (some ⟨a,0,none⟩),.pointer none])∧w.heap.size≤a∧P1 a w'∧St (RowsN sl sr) w w':=by
 obtain ⟨i0,hi,hz0,hz1,hz2⟩:=info_parts Tryz.infoPNode
 have hn4:¬(4:Int)<(nl:Int):=by omega
 have hr4:¬(4:Int)<(nr:Int):=by omega
 have h63:nl+nr≤maxLen:=by unfold maxLen;omega
 have hby:(nl+nr)*8≤140737488355328:=by omega
 have HB1:=Lib.hid hB1
 have HR:=Lib.hid (Rd.of_own hR)
 have HL:=Lib.hid hL
 have H1:=Lib.hid hr1
 clear hB1 hR hL hr1
 go_enter Tryz.func164,Tryz.ntmps164
 go_wp2_with (at_builtin;refine wpList_append_x _ rfl (.tmp 47) (.tmp 48) 119 rfl base 23 i0 _ 1 8 Tryz.underlying119 hi hz0 hz1 hz2 rfl (by decide) sl nl ls rfl HL.out (In base w.heap.size) sr nr rs rfl HR.out H1.out h63 hby hb ?_;intro sx w1 hown1 hwr1 hsx)
 have s1:St (fun b=>sl.row=some b) w w1:=hwr1.st fun i hi=>hi
 refine (HB1.out w1 sx (s1.mono fun i _ hi=>.inl hi) ((Rd.of_own hown1).mono fun i hi=>hi.2)).mono ?_
 rintro e w2 ⟨a1,rfl,ha1,hp1,hx2⟩
 have HP:=Lib.hid hp1
 clear hp1 hown1 hwr1 hsx
 go_wp2_with fail
 go_ret2
 exact ⟨a1,rfl,Nat.le_trans s1.size ha1,HP.out,(s1.ext hx2).mono fun i _ hi=>.inl hi⟩
end
section
variable {P : Program} (w : World)
theorem stepE_append_run {ops:Array Oper} {o:Oper} {a:Act} {K:Act→World→Prop} {Q:Exit→Act→World→Prop} {E:Prop} (hgd:o.guard=none) (d s:Operand) (t t':TypeId)
  (ho:o.op=.call { callee:=.builtin .append,args:=#[d,s],argTypes:=#[t,t'] }) (v u:Value) (hd:a.eval d=v) (hs:a.eval s=u) {v':Value} {w':World}
  (hr:(Builtin.append_ #[t,t'] o.type #[v,u]).run P w=.ok v' w') (h:K (a.put o.dst v') w') :
  if Region.wanted o (yielded ops a.tmps)=true then Oper.wp P o a w K Q else E:=by
 have hw:Region.wanted o (yielded ops a.tmps)=true:=by simp [Region.wanted,hgd]
 rw [if_pos hw]
 unfold Oper.wp execOp
 simp only [ho,resolve,invoke,builtin,Sem.run_bind,Sem.run_pure,Result.andThen_ok,List.map_toArray,List.map_cons,List.map_nil,hd,hs,hr]
 exact h
end
def DelPostE (base:Nat) (s:Sl) (n i:Nat) (xs:List Value) (w:World) (e:Ending) (w':World):Prop:=
 e=.returned (.slice s.a (n - 1) s.c)∧w'.ownsRow base 64 7 (.slice s.a (n - 1) s.c) (n - 1) (xs.take (i*7)++xs.drop ((i+1)*7))∧Wr w w' s.row
theorem zeroE (w:World):(zeroValue 64).run Tryz.prog w=.ok (.agg #[.string ByteArray.empty,.int .i64 0,.bool false,.int .i64 0,.string ByteArray.empty,.slice none 0 0,.slice none 0 0]) w:=by kernel_rfl
theorem delE_any {w:World} {base n i:Nat} {s:Sl} {xs:List Value} (hown:w.ownsRow base 64 7 (.slice s.a n s.c) n xs) (hn:n≤1000) (hin:i<n) (h1:∀ u∈xs,u.oneCell'=true) :
  Calls Tryz.prog 110 #[.slice s.a n s.c,.int .i64 i,.int .i64 ((i:Int)+1)] w (DelPostE base s n i xs w):=by
 obtain ⟨i0,hi,hz0,hz1,hz2⟩:=info_parts Tryz.infoEntry
 rcases hown.2 with ⟨hs,h0⟩ | ⟨g,cap,cur,hs,hbg,hg,hnc,hcm,hcs,htake⟩
 ·omega
 simp only [Value.slice.injEq] at hs
 obtain ⟨ha,-,hc⟩:=hs
 have hs':s=⟨some ⟨g,0,none⟩,cap⟩:=by cases s;simp_all
 have hxl:=hown.1
 subst hs'
 clear hown ha hc
 have hic:i≤cap:=by omega
 have hin':(i:Int)<(n:Int):=by omega
 have hin1:(i:Int)+1≤(n:Int):=by omega
 have hi0:(0:Int)≤(i:Int):=by omega
 have hib:(0:Int)≤(i:Int)+1:=by omega
 have hii:(i:Int)≤(i:Int)+1:=by omega
 have hne:((i:Int) == (i:Int)+1)=false:=beq_eq_false_iff_ne.2 (by omega)
 have hcm':(cap:Int)≤9223372036854775807:=by unfold maxLen at hcm;omega
 have hncI:(n:Int)≤(cap:Int):=by omega
 have htn:((i:Int)+1).toNat=i+1:=by omega
 obtain ⟨news,hnews⟩:∃ news,news=xs.drop ((i+1)*7):=⟨_,rfl⟩
 have hnl:news.length=(n - (i+1))*7:=by rw [hnews,List.length_drop,hxl,←Nat.sub_mul]
 have hn1:∀ u∈news,u.oneCell'=true:=fun u hu=>h1 u (List.mem_of_mem_drop (hnews▸hu))
 obtain ⟨A,hA,hsrc⟩:∃ A:Addr,(if cap=i+1 then some (⟨g,0,none⟩:Addr) else some ⟨g,(i+1)*7,none⟩)=some A∧(∀ j u,news[j]? = some u→w.drew.cell? (A.add j)=some u):=by
  by_cases h:cap=i+1
  ·refine ⟨⟨g,0,none⟩,by simp [h],fun t u hu=>?_⟩
   have h0:news.length=0:=by rw [hnl,show n - (i+1)=0 from by omega,Nat.zero_mul]
   rw [List.length_eq_zero_iff.1 h0] at hu
   simp at hu
  refine ⟨⟨g,(i+1)*7,none⟩,by simp [h],fun j u hu=>?_⟩
  rw [add_at,World.cell?_drew,cell_of_row w g _ cur 64 (0,0) hg]
  rw [hnews,List.getElem?_drop,←htake,List.getElem?_take] at hu
  split at hu
  ·simpa [Nat.add_comm,Nat.add_left_comm,Nat.add_assoc,Nat.mul_comm] using hu
  cases hu
 obtain ⟨A1,hA1⟩:∃ A1,A1=(cur.toList.take (i*7)++news++cur.toList.drop (i*7+news.length)).toArray:=⟨_,rfl⟩
 have hfit:i*7+news.length≤cur.size:=by rw [hnl,hcs];omega
 have hs1:A1.size=cur.size:=by rw [hA1];simp;omega
 obtain ⟨W1,hW1⟩:∃ W1,W1=w.drew.setRow g A1:=⟨_,rfl⟩
 have hap:∀ ty,(Builtin.append_ #[48,48] ty #[.slice (some ⟨g,0,none⟩) i cap,.slice (some A) (n - (i+1)) (cap - (i+1))]).run Tryz.prog w.drew=.ok (.slice (some ⟨g,0,none⟩) (n - 1) cap) W1:=fun ty=>by
  have h:=run_append_room (P:=Tryz.prog) w.drew 48 ty 64 i0 Tryz.underlying48 hi g i cap cur hg A (n - (i+1)) (cap - (i+1)) news (by rw [hz1];exact hnl) hsrc hn1 (by omega) (by rw [hz1];exact hfit)
  rw [hz1] at h
  rw [hW1,hA1,h,show i+(n - (i+1))=n - 1 from by omega]
 have hg1:W1.heap[g]? = some (.cells A1 64 (0,0)):=by rw [hW1];exact setRow_heap w.drew g cur A1 64 (0,0) hg
 obtain ⟨Z,hZ⟩:∃ Z,Z=((.agg #[.string ByteArray.empty,.int .i64 0,.bool false,.int .i64 0,.string ByteArray.empty,.slice none 0 0,.slice none 0 0]):Value):=⟨_,rfl⟩
 have hzv:∀ w,(zeroValue 64).run Tryz.prog w=.ok Z w:=fun w=>by rw [hZ];exact zeroE w
 obtain ⟨zs,hzs⟩:∃ zs,zs=(Builtin.zeroCells Z.cells 1).toList:=⟨_,rfl⟩
 have hzl:zs.length=7:=by rw [hzs,Array.length_toList,size_zeroCells,hZ];rfl
 have hz1c:∀ u∈zs,u.oneCell'=true:=by
  have:zs.all (·.oneCell')=true:=by rw [hzs,hZ];kernel_rfl
  exact fun u hu=>List.all_eq_true.1 this u hu
 obtain ⟨A2,hA2⟩:∃ A2,A2=(A1.toList.take ((n - 1)*7)++zs++A1.toList.drop ((n - 1)*7+zs.length)).toArray:=⟨_,rfl⟩
 obtain ⟨W2,hW2⟩:∃ W2,W2=W1.setRow g A2:=⟨_,rfl⟩
 have hst:=run_storeCells_at Tryz.prog g ((n - 1)*7) 64 zs 0 A1 W1 hg1 (by rw [hzl,hs1,hcs];omega) hz1c
 have hcl:∀ ty c,(Builtin.clear_ #[48] ty #[.slice (some ⟨g,(n - 1)*7,none⟩) 1 c]).run Tryz.prog W1=.ok (.tuple #[]) W2:=fun ty c=>by
  simp only [Nat.add_zero] at hst
  rw [←hA2,←hW2] at hst
  rw [hzs] at hst
  simp [Builtin.clear_,run_underlying Tryz.underlying48,hzv,hst]
 have hg2:W2.heap[g]? = some (.cells A2 64 (0,0)):=by rw [hW2];exact setRow_heap W1 g A1 A2 64 (0,0) hg1
 have hwr:Wr w W2 (some g):=by
  rw [hW2,hW1]
  exact ((Wr.refl w (some g)).drew.trans (Wr.setRow w.drew A1) (fun i hi=>.inl hi)).trans (Wr.setRow (w.drew.setRow g A1) A2) (fun i hi=>.inl hi)
 have hfin:W2.ownsRow base 64 7 (.slice (some ⟨g,0,none⟩) (n - 1) cap) (n - 1) (xs.take (i*7)++xs.drop ((i+1)*7)):=by
  have ht:xs.take (i*7)=cur.toList.take (i*7):=by rw [←htake,List.take_take,Nat.min_eq_left (by omega)]
  refine ⟨by simp [hxl];omega,.inr ⟨g,cap,A2,rfl,hbg,hg2,by omega,hcm,by rw [hA2];simp;omega,?_⟩⟩
  have hl2:(cur.toList.take (i*7)++news).length=(n - 1)*7:=by rw [List.length_append,List.length_take,Array.length_toList,hnl];omega
  rw [←hnews,ht,hA2]
  simp only [List.toList_toArray,List.append_assoc]
  rw [List.take_append_of_le_length (by rw [List.length_take,Array.length_toList];omega),List.take_take,Nat.min_eq_left (by omega),hA1]
  simp only [List.toList_toArray]
  rw [List.take_append_of_le_length (by omega),List.take_of_length_le (by omega)]
 have HF:=Lib.hid hfin
 have HW:=Lib.hid hwr
 have HA:=Lib.hid hA
 have hnm:((n - 1:Nat):Int)<(n:Int):=by omega
 have hnm2:¬cap=n - 1:=by omega
 have hnm3:n - (n - 1)=1:=by omega
 have hnm4:((n - 1:Nat):Int)≤(n:Int):=by omega
 clear hfin hwr hzv hZ hg2 hg1 hst hs1 hW2 hW1 hA2 hA1 hsrc hnl hn1 hnews hfit hg hcs htake h1 hxl hzl hz1c hzs
 go_enter Tryz.func110,Tryz.ntmps110
 go_wp2_with fail
 go_region_law (refine stepE_append_run _ rfl _ _ 48 48 rfl _ _ (by simp [Act.eval,Act.put]) (by simp [Act.eval,Act.put]) (hap _) ?_)
 go_wp2_with fail
 go_ret
 exact ⟨rfl,HF.out,HW.out⟩
section
variable {P : Program} (w : World)
theorem stepN_append_run {ops:Array Oper} {o:Oper} {a:Act} {K:Act→World→Prop} {Q:Exit→Act→World→Prop} {E:Prop} (hgd:o.guard=none) (d s:Operand) (t t':TypeId)
  (ho:o.op=.call { callee:=.builtin .append,args:=#[d,s],argTypes:=#[t,t'] }) (v u:Value) (hd:a.eval d=v) (hs:a.eval s=u) {v':Value} {w':World}
  (hr:(Builtin.append_ #[t,t'] o.type #[v,u]).run P w=.ok v' w') (h:K (a.put o.dst v') w') :
  if Region.wanted o (yielded ops a.tmps)=true then Oper.wp P o a w K Q else E:=by
 have hw:Region.wanted o (yielded ops a.tmps)=true:=by simp [Region.wanted,hgd]
 rw [if_pos hw]
 unfold Oper.wp execOp
 simp only [ho,resolve,invoke,builtin,Sem.run_bind,Sem.run_pure,Result.andThen_ok,List.map_toArray,List.map_cons,List.map_nil,hd,hs,hr]
 exact h
end
def DelPostN (base:Nat) (s:Sl) (n i:Nat) (xs:List Value) (w:World) (e:Ending) (w':World):Prop:=
 e=.returned (.slice s.a (n - 1) s.c)∧w'.ownsRow base 23 1 (.slice s.a (n - 1) s.c) (n - 1) (xs.take (i*1)++xs.drop ((i+1)*1))∧Wr w w' s.row
theorem zeroN (w:World):(zeroValue 23).run Tryz.prog w=.ok (.pointer none) w:=by kernel_rfl
theorem delN_any {w:World} {base n i:Nat} {s:Sl} {xs:List Value} (hown:w.ownsRow base 23 1 (.slice s.a n s.c) n xs) (hn:n≤1000) (hin:i<n) (h1:∀ u∈xs,u.oneCell'=true) :
  Calls Tryz.prog 165 #[.slice s.a n s.c,.int .i64 i,.int .i64 ((i:Int)+1)] w (DelPostN base s n i xs w):=by
 obtain ⟨i0,hi,hz0,hz1,hz2⟩:=info_parts Tryz.infoPNode
 rcases hown.2 with ⟨hs,h0⟩ | ⟨g,cap,cur,hs,hbg,hg,hnc,hcm,hcs,htake⟩
 ·omega
 simp only [Value.slice.injEq] at hs
 obtain ⟨ha,-,hc⟩:=hs
 have hs':s=⟨some ⟨g,0,none⟩,cap⟩:=by cases s;simp_all
 have hxl:=hown.1
 subst hs'
 clear hown ha hc
 have hic:i≤cap:=by omega
 have hin':(i:Int)<(n:Int):=by omega
 have hin1:(i:Int)+1≤(n:Int):=by omega
 have hi0:(0:Int)≤(i:Int):=by omega
 have hib:(0:Int)≤(i:Int)+1:=by omega
 have hii:(i:Int)≤(i:Int)+1:=by omega
 have hne:((i:Int) == (i:Int)+1)=false:=beq_eq_false_iff_ne.2 (by omega)
 have hcm':(cap:Int)≤9223372036854775807:=by unfold maxLen at hcm;omega
 have hncI:(n:Int)≤(cap:Int):=by omega
 have htn:((i:Int)+1).toNat=i+1:=by omega
 obtain ⟨news,hnews⟩:∃ news,news=xs.drop ((i+1)*1):=⟨_,rfl⟩
 have hnl:news.length=(n - (i+1))*1:=by rw [hnews,List.length_drop,hxl,←Nat.sub_mul]
 have hn1:∀ u∈news,u.oneCell'=true:=fun u hu=>h1 u (List.mem_of_mem_drop (hnews▸hu))
 obtain ⟨A,hA,hsrc⟩:∃ A:Addr,(if cap=i+1 then some (⟨g,0,none⟩:Addr) else some ⟨g,i+1,none⟩)=some A∧(∀ j u,news[j]? = some u→w.drew.cell? (A.add j)=some u):=by
  by_cases h:cap=i+1
  ·refine ⟨⟨g,0,none⟩,by simp [h],fun t u hu=>?_⟩
   have h0:news.length=0:=by rw [hnl,show n - (i+1)=0 from by omega,Nat.zero_mul]
   rw [List.length_eq_zero_iff.1 h0] at hu
   simp at hu
  refine ⟨⟨g,i+1,none⟩,by simp [h],fun j u hu=>?_⟩
  rw [add_at,World.cell?_drew,cell_of_row w g _ cur 23 (0,0) hg]
  rw [hnews,List.getElem?_drop,←htake,List.getElem?_take] at hu
  split at hu
  ·simpa [Nat.add_comm,Nat.add_left_comm,Nat.add_assoc,Nat.mul_comm] using hu
  cases hu
 obtain ⟨A1,hA1⟩:∃ A1,A1=(cur.toList.take (i*1)++news++cur.toList.drop (i*1+news.length)).toArray:=⟨_,rfl⟩
 have hfit:i*1+news.length≤cur.size:=by rw [hnl,hcs];omega
 have hs1:A1.size=cur.size:=by rw [hA1];simp;omega
 obtain ⟨W1,hW1⟩:∃ W1,W1=w.drew.setRow g A1:=⟨_,rfl⟩
 have hap:∀ ty,(Builtin.append_ #[119,119] ty #[.slice (some ⟨g,0,none⟩) i cap,.slice (some A) (n - (i+1)) (cap - (i+1))]).run Tryz.prog w.drew=.ok (.slice (some ⟨g,0,none⟩) (n - 1) cap) W1:=fun ty=>by
  have h:=run_append_room (P:=Tryz.prog) w.drew 119 ty 23 i0 Tryz.underlying119 hi g i cap cur hg A (n - (i+1)) (cap - (i+1)) news (by rw [hz1];exact hnl) hsrc hn1 (by omega) (by rw [hz1];exact hfit)
  rw [hz1] at h
  rw [hW1,hA1,h,show i+(n - (i+1))=n - 1 from by omega]
 have hg1:W1.heap[g]? = some (.cells A1 23 (0,0)):=by rw [hW1];exact setRow_heap w.drew g cur A1 23 (0,0) hg
 obtain ⟨Z,hZ⟩:∃ Z,Z=((.pointer none):Value):=⟨_,rfl⟩
 have hzv:∀ w,(zeroValue 23).run Tryz.prog w=.ok Z w:=fun w=>by rw [hZ];exact zeroN w
 obtain ⟨zs,hzs⟩:∃ zs,zs=(Builtin.zeroCells Z.cells 1).toList:=⟨_,rfl⟩
 have hzl:zs.length=1:=by rw [hzs,Array.length_toList,size_zeroCells,hZ];rfl
 have hz1c:∀ u∈zs,u.oneCell'=true:=by
  have:zs.all (·.oneCell')=true:=by rw [hzs,hZ];kernel_rfl
  exact fun u hu=>List.all_eq_true.1 this u hu
 obtain ⟨A2,hA2⟩:∃ A2,A2=(A1.toList.take (n - 1)++zs++A1.toList.drop (n - 1+zs.length)).toArray:=⟨_,rfl⟩
 obtain ⟨W2,hW2⟩:∃ W2,W2=W1.setRow g A2:=⟨_,rfl⟩
 have hst:=run_storeCells_at Tryz.prog g (n - 1) 23 zs 0 A1 W1 hg1 (by rw [hzl,hs1,hcs];omega) hz1c
 have hcl:∀ ty c,(Builtin.clear_ #[119] ty #[.slice (some ⟨g,n - 1,none⟩) 1 c]).run Tryz.prog W1=.ok (.tuple #[]) W2:=fun ty c=>by
  simp only [Nat.add_zero] at hst
  rw [←hA2,←hW2] at hst
  rw [hzs] at hst
  simp [Builtin.clear_,run_underlying Tryz.underlying119,hzv,hst]
 have hg2:W2.heap[g]? = some (.cells A2 23 (0,0)):=by rw [hW2];exact setRow_heap W1 g A1 A2 23 (0,0) hg1
 have hwr:Wr w W2 (some g):=by
  rw [hW2,hW1]
  exact ((Wr.refl w (some g)).drew.trans (Wr.setRow w.drew A1) (fun i hi=>.inl hi)).trans (Wr.setRow (w.drew.setRow g A1) A2) (fun i hi=>.inl hi)
 have hfin:W2.ownsRow base 23 1 (.slice (some ⟨g,0,none⟩) (n - 1) cap) (n - 1) (xs.take (i*1)++xs.drop ((i+1)*1)):=by
  have ht:xs.take (i*1)=cur.toList.take (i*1):=by rw [←htake,List.take_take,Nat.min_eq_left (by omega)]
  refine ⟨by simp [hxl];omega,.inr ⟨g,cap,A2,rfl,hbg,hg2,by omega,hcm,by rw [hA2];simp;omega,?_⟩⟩
  have hl2:(cur.toList.take (i*1)++news).length=(n - 1)*1:=by rw [List.length_append,List.length_take,Array.length_toList,hnl];omega
  rw [←hnews,ht,hA2]
  simp only [List.toList_toArray,List.append_assoc]
  rw [List.take_append_of_le_length (by rw [List.length_take,Array.length_toList];omega),List.take_take,Nat.min_eq_left (by omega),hA1]
  simp only [List.toList_toArray]
  rw [List.take_append_of_le_length (by omega),List.take_of_length_le (by omega)]
 have HF:=Lib.hid hfin
 have HW:=Lib.hid hwr
 have HA:=Lib.hid hA
 have hnm:((n - 1:Nat):Int)<(n:Int):=by omega
 have hnm2:¬cap=n - 1:=by omega
 have hnm3:n - (n - 1)=1:=by omega
 have hnm4:((n - 1:Nat):Int)≤(n:Int):=by omega
 clear hfin hwr hzv hZ hg2 hg1 hst hs1 hW2 hW1 hA2 hA1 hsrc hnl hn1 hnews hfit hg hcs htake h1 hxl hzl hz1c hzs
 go_enter Tryz.func165,Tryz.ntmps165
 go_wp2_with fail
 go_region_law (refine stepN_append_run _ rfl _ _ 119 119 rfl _ _ (by simp [Act.eval,Act.put]) (by simp [Act.eval,Act.put]) (hap _) ?_)
 go_wp2_with fail
 go_ret
 exact ⟨rfl,HF.out,HW.out⟩
inductive DelT (B:Nat) (k:ByteArray):RT→RT→Prop
 | no {T:RT} (h:getE (entsT T) k=none):DelT B k T T
 | same {h:Nat} {t u:PT h} (hg:(getE (ents h t) k).isSome=true) (hd:DelR B k h t u) (hp:0<(ents h u).length) (h2:h=0∨2≤size h u):DelT B k (some ⟨h,t⟩) (some ⟨h,u⟩)
 | gone {t u:PT 0} (hg:(getE (ents 0 t) k).isSome=true) (hd:DelR B k 0 t u) (h0:ents 0 u=[]):DelT B k (some ⟨0,t⟩) none
 | down {h:Nat} {t:PT (h+1)} {u:PT h} (hg:(getE (ents (h+1) t) k).isSome=true) (hd:DelK B k h (DelR B k h) t.2 [u]):DelT B k (some ⟨h+1,t⟩) (some ⟨h,u⟩)
theorem DelT.mono {A B:Nat} (hAB:A≤B) {k:ByteArray} {T T':RT} (hd:DelT B k T T'):DelT A k T T':=by
 cases hd with
 | no h=>exact .no h
 | same hg hd hp h2=>exact .same hg (hd.mono hAB) hp h2
 | gone hg hd h0=>exact .gone hg (hd.mono hAB) h0
 | down hg hd=>exact .down hg (hd.mono hAB fun _ _ hr=>hr.mono hAB)
theorem getE_entsT (h:Nat) (t:PT h):entsT (some ⟨h,t⟩)=Proofs.YtechahocffcbpaaGreatDoor.ents h t:=rfl
theorem DelT.ents {B:Nat} {k:ByteArray} {T T':RT} (hd:DelT B k T T') (ok:OkR T):entsT T'=delE (entsT T) k:=by
 cases hd with
 | no h=>exact (delE_none h).symm
 | same hg hd hp h2=>exact hd.ents ok.1 ok.2.2
 | gone hg hd h0=>exact h0.symm.trans (hd.ents ok.1 ok.2.2)
 | down hg hd=>
   rename_i h t u
   have ok1:=ok.1
   have:=hd.ents ok.2.2 (kids_pos ok1) (by have:=ok1.1;omega) fun x y hx hr=>hr.ents (ok1.2.2 x hx).1 (kid_sorted ok.2.2 x hx)
   rw [List.flatMap_cons,List.flatMap_nil,List.append_nil] at this
   exact this
theorem delK_root {B:Nat} {k:ByteArray} {h:Nat} {t:PT (h+1)} {ks':List (PT h)} (hd:DelK B k h (DelR B k h) t.2 ks') (ok:OkT (h+1) t) (hs:Sorted (ents (h+1) t)) (hg:(getE (ents (h+1) t) k).isSome=true) :
  (∀ u∈ks',OkT h u∧4≤size h u)∧ks'.length≤t.2.length∧t.2.length≤ks'.length+1:=by
 refine hd.ok ok.2.2 ok.1 fun x y hx hxk hr=>?_
 obtain ⟨kid2,hk2,hA,hC⟩:=which_split (h:=h) (ks:=t.2) hs (kids_pos ok) (by have:=ok.1;omega) k
 rw [hxk] at hk2
 simp only [Option.some.injEq] at hk2
 subst hk2
 have:=hr.ok (ok.2.2 x hx).1 (ok.2.2 x hx).2 (kid_sorted hs x hx) (by rw [←getE_kid hxk hA hC];exact hg)
 exact ⟨this.1,this.2.1⟩
theorem DelT.ok {B:Nat} {k:ByteArray} {T T':RT} (hd:DelT B k T T') (ok:OkR T):OkR T':=by
 have hs:Sorted (entsT T'):=by rw [hd.ents ok];exact delE_sorted ok.sorted k
 cases hd with
 | no h=>exact ok
 | same hg hd hp h2=>
   rename_i h t u
   cases h with
   | zero=>
     have h1:=hd.1
     have:(delE t.2 k).length≤t.2.length:=(delE_sublist t.2 k).length_le
     have o:t.2.length≤8:=ok.1
     exact ⟨show u.2.length≤8 by rw [h1];omega,hp,hs⟩
   | succ h=>
     obtain ⟨h1,-⟩:=hd
     obtain ⟨a,b,c⟩:=delK_root h1 ok.1 ok.2.2 hg
     have h2:2≤u.2.length:=h2.resolve_left (by omega)
     have o8:=ok.1.2.1
     exact ⟨⟨h2,by omega,a⟩,show 1≤u.2.length by omega,hs⟩
 | gone hg hd h0=>trivial
 | down hg hd=>
   obtain ⟨a,b,c⟩:=delK_root hd ok.1 ok.2.2 hg
   rename_i h t u
   have:=a u (List.mem_singleton.2 rfl)
   exact ⟨this.1,by omega,hs⟩
def PairPost (F:Nat→Prop) (h:Nat) (l r:PT h) (w:World) (e:Ending) (w':World):Prop:=
 ∃ ts:List (PT h),e=two h ts∧PairR w.heap.size h l r ts∧(∀ u∈ts,IsN w' (Up F w w') h u)
theorem rd_es {w:World} {F:Nat→Prop} {s:Sl} {n:Nat} {xs:List LE} (hn:n=xs.length) (hr:Rd w F 7 s n (flatE xs)) (hv:Vals w F xs) (hf:xs.length≤1000):ES w F s xs:=by
 subst hn
 exact ⟨hr,hv,by omega⟩
theorem mem_two {α:Type} {P:α→Prop} {x y:α} (hx:P x) (hy:P y):∀ u∈[x,y],P u:=fun u hu=>by
 rcases List.mem_cons.1 hu with rfl | hu
 ·exact hx
 obtain rfl:=List.mem_singleton.1 hu;exact hy
theorem mem_one {α:Type} {P:α→Prop} {x:α} (hx:P x):∀ u∈[x],P u:=fun u hu=>by
 obtain rfl:=List.mem_singleton.1 hu;exact hx
theorem leaf_b {w W:World} {G:Nat→Prop} {s:Sl} {n:Nat} {xs:List LE} (hW:St G w W) (hG:∀ b,G b→b<w.heap.size) (hn:n=xs.length) (h8:xs.length≤8) (hr:Rd W (Lt W.heap.size) 7 s n (flatE xs)) (hv:Vals w (NH G w) xs) (hrise:risingN xs) :
  Calls Tryz.prog 106 #[.slice s.a n s.c] W (BPostE (fun a W'=>w.heap.size≤a∧IsN W' (fun b=>w.heap.size≤b∧b<W'.heap.size) 0 (a,xs.map LE.ent)) W):=by
 have hes:ES W (Lt W.heap.size) s xs:=rd_es hn hr ((hv.agree hW.agree).mono fun i hi=>Nat.lt_of_lt_of_le hi.1 hW.size) (by omega)
 refine (tleaf_any hes hn hrise h8).mono ?_
 rintro e w' ⟨t,rfl,h1,h2,h3,h4⟩
 refine ⟨addr 0 t,rfl,h2,⟨Nat.le_trans hW.size h2,?_⟩,h4⟩
 have e1:t=(t.1,xs.map LE.ent):=by rw [←h1];rfl
 rw [e1] at h3
 exact h3.mono fun i hi=>⟨Nat.le_trans hW.size hi.1,hi.2⟩
theorem isn_stay {w W W':World} {G:Nat→Prop} (hG:∀ b,G b→b<w.heap.size) {h:Nat} {t:PT h} (hn:IsN W (fun b=>w.heap.size≤b∧b<W.heap.size) h t) (hs:St G W W'):IsN W' (fun b=>w.heap.size≤b∧b<W'.heap.size) h t:=
 (hn.agree (hs.agree.mono fun i hi=>⟨hi.2,fun hh=>by have:=hG i hh;omega⟩)).mono fun i hi=>⟨hi.1,Nat.lt_of_lt_of_le hi.2 hs.size⟩
theorem pairE_any {w:World} {base:Nat} {sl sr:Sl} {xs ys:List LE} (hL:OE w base sl xs) (hR:OE w base sr ys) (hb:base≤w.heap.size) (hne:∀ b,sl.row=some b→sr.row≠some b)
  (hvl:Vals w (NH (RowsE sl sr) w) xs) (hvr:Vals w (NH (RowsE sl sr) w) ys) (hrise:risingN (xs++ys)) (x8:xs.length≤8) (y8:ys.length≤8) (hx:xs.length+ys.length≤11) {l r:PT 0} (el:xs.map LE.ent=l.2) (er:ys.map LE.ent=r.2) :
  Calls Tryz.prog 163 #[.slice sl.a xs.length sl.c,.slice sr.a ys.length sr.c,.func (.func 106) #[] #[]] w fun e w'=>PairPost (fun _=>False) 0 l r w e w'∧St (RowsE sl sr) w w':=by
 have hG:∀ b,RowsE sl sr b→b<w.heap.size:=fun b hb=>hb.elim (fun h=>(own_row hL.own h).2) (fun h=>(own_row hR.own h).2)
 have two_of:∀ (w':World) (a b:Nat) (zs zs':List LE),(w.heap.size≤a∧IsN w' (fun b=>w.heap.size≤b∧b<w'.heap.size) 0 (a,zs.map LE.ent))→(w.heap.size≤b∧IsN w' (fun b=>w.heap.size≤b∧b<w'.heap.size) 0 (b,zs'.map LE.ent))→
   pairL l.2 r.2=[zs.map LE.ent,zs'.map LE.ent]→PairPost (fun _=>False) 0 l r w (.returned (.tuple #[.pointer (some ⟨a,0,none⟩),.pointer (some ⟨b,0,none⟩)])) w':=fun w' a b zs zs' ha hb hp=>by
  refine ⟨[((a,zs.map LE.ent):PT 0),((b,zs'.map LE.ent):PT 0)],rfl,⟨hp.symm,mem_two (α:=PT 0) ha.1 hb.1⟩,mem_two (α:=PT 0) (ha.2.mono fun i hi=>.inr hi) (hb.2.mono fun i hi=>.inr hi)⟩
 have e1:l.2.length=xs.length:=by rw [←el,List.length_map]
 have e2:r.2.length=ys.length:=by rw [←er,List.length_map]
 by_cases h4:4<xs.length
 ·obtain ⟨m,hm⟩:∃ m,xs.length=m+1:=⟨xs.length - 1,by omega⟩
  have t1:(flatE xs).take (m*7)=flatE (xs.take m):=flatE_take xs m
  have t2:(flatE xs).drop (m*7)++flatE ys=flatE (xs.drop m++ys):=by rw [flatE_drop,flatE_app]
  have hLo:=hL.own
  rw [hm] at hLo ⊢
  refine (pairE_left (P1:=fun a W'=>w.heap.size≤a∧IsN W' (fun b=>w.heap.size≤b∧b<W'.heap.size) 0 (a,(xs.take m).map LE.ent)) (P2:=fun a W'=>w.heap.size≤a∧IsN W' (fun b=>w.heap.size≤b∧b<W'.heap.size) 0 (a,(xs.drop m++ys).map LE.ent))
   hLo hR.own hb hne (flatE_one xs) (flatE_one ys) trivial (by omega) (by omega) y8 (fun W s hW hr=>?_) (fun W s hW hr=>?_) (fun a W W' _ h hs=>⟨h.1,isn_stay hG h.2 hs⟩)).mono ?_
  ·rw [t1] at hr
   exact leaf_b hW hG (by rw [List.length_take];omega) (by rw [List.length_take];omega) hr (fun x hx=>hvl x (List.mem_of_mem_take hx)) (by have:=hrise.take m;rwa [List.take_append_of_le_length (by omega)] at this)
  ·rw [t2] at hr
   exact leaf_b hW hG (by rw [List.length_append,List.length_drop];omega) (by rw [List.length_append,List.length_drop];omega) hr (fun x hx=>by
    rcases List.mem_append.1 hx with hx | hx
    ·exact hvl x (List.mem_of_mem_drop hx)
    exact hvr x hx) (by have:=hrise.drop m;rwa [List.drop_append_of_le_length (by omega)] at this)
  rintro e w' ⟨a,b,rfl,-,-,h1,h2,hs⟩
  refine ⟨two_of w' a b _ _ h1 h2 ?_,hs⟩
  rw [pairL,if_pos (by omega),←el,←er,List.map_append,List.map_take,List.map_drop,List.length_map,hm]
  rfl
 by_cases h5:4<ys.length
 ·obtain ⟨m,hm⟩:∃ m,ys.length=m+1:=⟨ys.length - 1,by omega⟩
  have t1:flatE xs++(flatE ys).take 7=flatE (xs++ys.take 1):=by rw [flatE_app,←flatE_take]
  have t2:(flatE ys).drop 7=flatE (ys.drop 1):=by rw [←flatE_drop]
  have hRo:=hR.own
  rw [hm] at hRo ⊢
  refine (pairE_right (P1:=fun a W'=>w.heap.size≤a∧IsN W' (fun b=>w.heap.size≤b∧b<W'.heap.size) 0 (a,(xs++ys.take 1).map LE.ent)) (P2:=fun a W'=>w.heap.size≤a∧IsN W' (fun b=>w.heap.size≤b∧b<W'.heap.size) 0 (a,(ys.drop 1).map LE.ent))
   hL.own hRo hb hne (flatE_one xs) (flatE_one ys) trivial (by omega) (by omega) (by omega) (fun W s hW hr=>?_) (fun W s hW hr=>?_) (fun a W W' _ h hs=>⟨h.1,isn_stay hG h.2 hs⟩)).mono ?_
  ·rw [t1] at hr
   exact leaf_b hW hG (by rw [List.length_append,List.length_take];omega) (by rw [List.length_append,List.length_take];omega) hr (fun x hx=>by
    rcases List.mem_append.1 hx with hx | hx
    ·exact hvl x hx
    exact hvr x (List.mem_of_mem_take hx)) (by have:=hrise.take (xs.length+1);rwa [List.take_length_add_append] at this)
  ·rw [t2] at hr
   exact leaf_b hW hG (by rw [List.length_drop];omega) (by rw [List.length_drop];omega) hr (fun x hx=>hvr x (List.mem_of_mem_drop hx)) (by have:=hrise.drop (xs.length+1);rwa [List.drop_length_add_append] at this)
  rintro e w' ⟨a,b,rfl,-,-,h1,h2,hs⟩
  refine ⟨two_of w' a b _ _ h1 h2 ?_,hs⟩
  rw [pairL,if_neg (by omega),if_pos (by omega),←el,←er,List.map_append,List.map_take,List.map_drop]
 have t1:flatE xs++flatE ys=flatE (xs++ys):=by rw [flatE_app]
 refine (pairE_both (P1:=fun a W'=>w.heap.size≤a∧IsN W' (fun b=>w.heap.size≤b∧b<W'.heap.size) 0 (a,(xs++ys).map LE.ent)) hL.own hR.own hb (flatE_one ys) (by omega) (by omega) (fun W s hW hr=>?_)).mono ?_
 ·rw [t1] at hr
  exact leaf_b hW hG (by rw [List.length_append]) (by rw [List.length_append];omega) hr (fun x hx=>by
   rcases List.mem_append.1 hx with hx | hx
   ·exact hvl x hx
   exact hvr x hx) hrise
 rintro e w' ⟨a,rfl,-,h1,hs⟩
 refine ⟨⟨[((a,(xs++ys).map LE.ent):PT 0)],rfl,⟨?_,mem_one (α:=PT 0) h1.1⟩,mem_one (α:=PT 0) (h1.2.mono fun i hi=>.inr hi)⟩,hs⟩
 show [(xs++ys).map LE.ent]=_
 rw [pairL,if_neg (by omega),if_neg (by omega),←el,←er,List.map_append]
theorem isn_stay2 {w W W':World} {F G:Nat→Prop} (hG:∀ b,G b→b<w.heap.size) (hF:∀ b,F b→b<w.heap.size∧¬G b) (hw:w.heap.size≤W.heap.size) {h:Nat} {t:PT h} (hn:IsN W (Up F w W) h t) (hs:St G W W'):IsN W' (Up F w W') h t:=
 (hn.agree (hs.agree.mono fun i hi=>hi.elim (fun h=>⟨Nat.lt_of_lt_of_le (hF i h).1 hw,(hF i h).2⟩) fun h=>⟨h.2,fun hh=>by have:=hG i hh;omega⟩)).mono fun i hi=>hi.imp_right fun h=>⟨h.1,Nat.lt_of_lt_of_le h.2 hs.size⟩
theorem inner_b {w W:World} {F G:Nat→Prop} {h:Nat} {s:Sl} {n:Nat} {ks:List (PT h)} (hW:St G w W) (hF:∀ b,F b→¬G b) (hn:n=ks.length) (h2:2≤ks.length) (h8:ks.length≤8) (hr:Rd W (Lt W.heap.size) 1 s n (ptrs h ks)) (hk:Kids w F h ks) :
  Calls Tryz.prog 67 #[.slice s.a n s.c] W (BPostN (fun a W'=>w.heap.size≤a∧IsN W' (Up F w W') (h+1) (a,ks)) W):=by
 subst hn
 have hk':Kids W F h ks:=⟨fun b hb=>Nat.lt_of_lt_of_le (hk.lt b hb) hW.size,fun x hx=>(hk.isn x hx).agree (hW.agree.mono fun i hi=>⟨hk.lt i hi,hF i hi⟩),hk.rise,hk.pos,hk.sz,hk.cn,hk.hh⟩
 refine (tinner_any hr rfl hk' h2 h8).mono ?_
 rintro e w' ⟨t,rfl,h1,h2,h3,h4⟩
 refine ⟨addr (h+1) t,rfl,h2,⟨Nat.le_trans hW.size h2,?_⟩,h4⟩
 have e1:t=(t.1,ks):=by subst h1;rfl
 rw [e1] at h3
 exact h3.mono fun i hi=>hi.imp_right fun h=>⟨Nat.le_trans hW.size h.1,h.2⟩
theorem ptrs_ptr (h:Nat) (ks:List (PT h)):∀ u∈ptrs h ks,∃ p,u=Value.pointer p:=fun u hu=>by
 obtain ⟨k,-,rfl⟩:=List.mem_map.1 hu
 exact ⟨_,rfl⟩
theorem ptrs_app (h:Nat) (a b:List (PT h)):ptrs h (a++b)=ptrs h a++ptrs h b:=by simp [ptrs]
theorem ptrs_drop (h:Nat) (a:List (PT h)) (i:Nat):ptrs h (a.drop i)=(ptrs h a).drop i:=by simp [ptrs,List.map_drop]
theorem pairN_any {w:World} {F:Nat→Prop} {base h:Nat} {sl sr:Sl} {l r:PT (h+1)} (hL:w.ownsRow base 23 1 (.slice sl.a l.2.length sl.c) l.2.length (ptrs h l.2)) (hR:w.ownsRow base 23 1 (.slice sr.a r.2.length sr.c) r.2.length (ptrs h r.2)) (hb:base≤w.heap.size) (hne:∀ b,sl.row=some b→sr.row≠some b)
  (hF:∀ b,F b→¬RowsN sl sr b) (hk:Kids w F h (l.2++r.2)) (l2:3≤l.2.length) (r2:3≤r.2.length) (l8:l.2.length≤8) (r8:r.2.length≤8) (hx:l.2.length+r.2.length≤11) :
  Calls Tryz.prog 164 #[.slice sl.a l.2.length sl.c,.slice sr.a r.2.length sr.c,.func (.func 67) #[] #[]] w fun e w'=>PairPost F (h+1) l r w e w'∧St (RowsN sl sr) w w':=by
 have hG:∀ b,RowsN sl sr b→b<w.heap.size:=fun b hb=>hb.elim (fun h=>(own_row hL h).2) (fun h=>(own_row hR h).2)
 have hF2:∀ b,F b→b<w.heap.size∧¬RowsN sl sr b:=fun b hb=>⟨hk.lt b hb,hF b hb⟩
 have two_of:∀ (w':World) (a b:Nat) (zs zs':List (PT h)),(w.heap.size≤a∧IsN w' (Up F w w') (h+1) (a,zs))→(w.heap.size≤b∧IsN w' (Up F w w') (h+1) (b,zs'))→
   pairL l.2 r.2=[zs,zs']→PairPost F (h+1) l r w (.returned (.tuple #[.pointer (some ⟨a,0,none⟩),.pointer (some ⟨b,0,none⟩)])) w':=fun w' a b zs zs' ha hb hp=>by
  refine ⟨[((a,zs):PT (h+1)),((b,zs'):PT (h+1))],rfl,⟨hp.symm,mem_two (α:=PT (h+1)) ha.1 hb.1⟩,mem_two (α:=PT (h+1)) ha.2 hb.2⟩
 by_cases h4:4<l.2.length
 ·obtain ⟨m,hm⟩:∃ m,l.2.length=m+1:=⟨l.2.length - 1,by omega⟩
  have t1:(ptrs h l.2).take (m*1)=ptrs h (l.2.take m):=by rw [Nat.mul_one,ptrs_take]
  have t2:(ptrs h l.2).drop (m*1)++ptrs h r.2=ptrs h (l.2.drop m++r.2):=by rw [ptrs_app,ptrs_drop,Nat.mul_one]
  have hLo:=hL
  rw [hm] at hLo ⊢
  refine (pairN_left (P1:=fun a W'=>w.heap.size≤a∧IsN W' (Up F w W') (h+1) (a,l.2.take m)) (P2:=fun a W'=>w.heap.size≤a∧IsN W' (Up F w W') (h+1) (a,l.2.drop m++r.2))
   hLo hR hb hne (ptrs_one h l.2) (ptrs_one h r.2) (ptrs_ptr h l.2) (by omega) (by omega) r8 (fun W s hW hr=>?_) (fun W s hW hr=>?_) (fun a W W' hw h hs=>⟨h.1,isn_stay2 hG hF2 hw.size h.2 hs⟩)).mono ?_
  ·rw [t1] at hr
   exact inner_b hW hF (by rw [List.length_take];omega) (by rw [List.length_take];omega) (by rw [List.length_take];omega) hr (by have:=hk.take m;rwa [List.take_append_of_le_length (by omega)] at this)
  ·rw [t2] at hr
   exact inner_b hW hF (by rw [List.length_append,List.length_drop];omega) (by rw [List.length_append,List.length_drop];omega) (by rw [List.length_append,List.length_drop];omega) hr (by have:=hk.drop m;rwa [List.drop_append_of_le_length (by omega)] at this)
  rintro e w' ⟨a,b,rfl,-,-,h1,h2,hs⟩
  refine ⟨two_of w' a b _ _ h1 h2 ?_,hs⟩
  rw [pairL,if_pos (by omega),hm]
  rfl
 by_cases h5:4<r.2.length
 ·obtain ⟨m,hm⟩:∃ m,r.2.length=m+1:=⟨r.2.length - 1,by omega⟩
  have t1:ptrs h l.2++(ptrs h r.2).take 1=ptrs h (l.2++r.2.take 1):=by rw [ptrs_app,ptrs_take]
  have t2:(ptrs h r.2).drop 1=ptrs h (r.2.drop 1):=by rw [ptrs_drop]
  have hRo:=hR
  rw [hm] at hRo ⊢
  refine (pairN_right (P1:=fun a W'=>w.heap.size≤a∧IsN W' (Up F w W') (h+1) (a,l.2++r.2.take 1)) (P2:=fun a W'=>w.heap.size≤a∧IsN W' (Up F w W') (h+1) (a,r.2.drop 1))
   hL hRo hb hne (ptrs_one h l.2) (ptrs_one h r.2) (ptrs_ptr h r.2) (by omega) (by omega) (by omega) (fun W s hW hr=>?_) (fun W s hW hr=>?_) (fun a W W' hw h hs=>⟨h.1,isn_stay2 hG hF2 hw.size h.2 hs⟩)).mono ?_
  ·rw [t1] at hr
   exact inner_b hW hF (by rw [List.length_append,List.length_take];omega) (by rw [List.length_append,List.length_take];omega) (by rw [List.length_append,List.length_take];omega) hr (by have:=hk.take (l.2.length+1);rwa [List.take_length_add_append] at this)
  ·rw [t2] at hr
   exact inner_b hW hF (by rw [List.length_drop];omega) (by rw [List.length_drop];omega) (by rw [List.length_drop];omega) hr (by have:=hk.drop (l.2.length+1);rwa [List.drop_length_add_append] at this)
  rintro e w' ⟨a,b,rfl,-,-,h1,h2,hs⟩
  refine ⟨two_of w' a b _ _ h1 h2 ?_,hs⟩
  rw [pairL,if_neg (by omega),if_pos (by omega)]
 have t1:ptrs h l.2++ptrs h r.2=ptrs h (l.2++r.2):=by rw [ptrs_app]
 refine (pairN_both (P1:=fun a W'=>w.heap.size≤a∧IsN W' (Up F w W') (h+1) (a,l.2++r.2)) hL hR hb (ptrs_one h r.2) (by omega) (by omega) (fun W s hW hr=>?_)).mono ?_
 ·rw [t1] at hr
  exact inner_b hW hF (by rw [List.length_append]) (by rw [List.length_append];omega) (by rw [List.length_append];omega) hr hk
 rintro e w' ⟨a,rfl,-,h1,hs⟩
 refine ⟨⟨[((a,l.2++r.2):PT (h+1))],rfl,⟨?_,mem_one (α:=PT (h+1)) h1.1⟩,mem_one (α:=PT (h+1)) h1.2⟩,hs⟩
 show [l.2++r.2]=_
 rw [pairL,if_neg (by omega),if_neg (by omega)]
end Go.Proofs.YtechahocffcbpaaGreatDoor
