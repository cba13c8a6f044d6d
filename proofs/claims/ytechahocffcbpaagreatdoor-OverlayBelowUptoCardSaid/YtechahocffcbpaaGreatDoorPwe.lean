/- What the theorem needs of the texts Mend2, Without, Del, Is, Do07, Held2: no condition of its own. -/
import Derived.Laws.IdiomStrings
import Derived.WalkArith
import Derived.Test.YtechahocffcbpaaGreatDoorPwa
import Derived.Test.YtechahocffcbpaaGreatDoorPwb
import Derived.Test.YtechahocffcbpaaGreatDoorPwc
import Derived.Test.YtechahocffcbpaaGreatDoorPwd
set_option maxRecDepth 100000
set_option maxHeartbeats 2000000
namespace Go.Proofs.YtechahocffcbpaaGreatDoor
open Go.RowKit
set_option linter.unusedVariables false
set_option linter.unusedSimpArgs false
def MendPost (F:Nat→Prop) (base h:Nat) (s:Sl) (ks:List (PT h)) (i:Nat) (w:World) (e:Ending) (w':World):Prop:=
 ∃ (s':Sl) (ks':List (PT h)),e=.returned (.slice s'.a ks'.length s'.c)∧w'.ownsRow base 23 1 (.slice s'.a ks'.length s'.c) ks'.length (ptrs h ks')∧Mend w.heap.size h ks i ks'∧(∀ u∈ks',IsN w' (Up F w w') h u)∧St (fun b=>s.row=some b) w w'
structure MendIn (w:World) (F:Nat→Prop) (base h:Nat) (s:Sl) (ks:List (PT h)) (i:Nat) (l r:PT h):Prop where
 own:w.ownsRow base 23 1 (.slice s.a ks.length s.c) ks.length (ptrs h ks)
 base:base≤w.heap.size
 lt:∀ b,F b→b<w.heap.size∧s.row≠some b
 isn:∀ k∈ks,IsN w F h k
 ok:∀ k∈ks,OkT h k∧3≤size h k
 hl:ks[i - 1]? = some l
 hr:ks[i - 1+1]? = some r
 sum:size h l+size h r≤11
 sorted:Sorted (ks.flatMap (ents h))
 few:(ks.flatMap (ents h)).length≤1000000
 n8:ks.length≤8
 hh:h≤1000000
theorem two_sorted {h:Nat} {ks:List (PT h)} {j:Nat} {l r:PT h} (hs:Sorted (ks.flatMap (ents h))) (hl:ks[j]? = some l) (hr:ks[j+1]? = some r):Sorted (ents h l++ents h r):=by
 rw [two_mid hl hr] at hs
 simp only [List.flatMap_append,List.flatMap_cons] at hs
 have h2:=(sorted_app hs).2.1
 rw [←List.append_assoc] at h2
 exact (sorted_app h2).1
theorem two_few {h:Nat} {ks:List (PT h)} {j:Nat} {l r:PT h} (hl:ks[j]? = some l) (hr:ks[j+1]? = some r):(ents h l).length+(ents h r).length≤(ks.flatMap (ents h)).length:=by
 conv=>rhs;rw [two_mid hl hr]
 simp only [List.flatMap_append,List.flatMap_cons,List.length_append];omega
theorem mend_list {α:Type} {ks:List α} {j:Nat} {l r:α} (hl:ks[j]? = some l) (hr:ks[j+1]? = some r) (a b:α):(ks.set j a).set (j+1) b=ks.take j++[a,b]++ks.drop (j+2):=by
 have h1:=(List.getElem?_eq_some_iff.1 hl).1
 have h2:=(List.getElem?_eq_some_iff.1 hr).1
 conv=>lhs;rw [two_mid hl hr]
 rw [List.set_append_right _ _ (by rw [List.length_take];omega),List.length_take,Nat.min_eq_left (by omega),Nat.sub_self,List.set_cons_zero,List.set_append_right _ _ (by rw [List.length_take];omega),List.length_take,Nat.min_eq_left (by omega),show j+1 - j=1 from by omega]
 simp
theorem mend_list1 {α:Type} {ks:List α} {j:Nat} {l r:α} (hl:ks[j]? = some l) (hr:ks[j+1]? = some r) (a:α):(ks.set j a).take (j+1)++(ks.set j a).drop (j+2)=ks.take j++[a]++ks.drop (j+2):=by
 have h1:=(List.getElem?_eq_some_iff.1 hl).1
 rw [List.set_eq_take_append_cons_drop,if_pos h1]
 have hl1:(ks.take j++[a]).length=j+1:=by simp;omega
 have e1:ks.take j++a :: ks.drop (j+1)=(ks.take j++[a])++ks.drop (j+1):=by simp
 rw [e1,List.take_append_of_le_length (by omega),List.take_of_length_le (by omega),show j+2=(ks.take j++[a]).length+1 from by omega,List.drop_length_add_append,List.drop_drop,hl1]
theorem own_base {w:World} {A B e size n:Nat} {v:Value} {xs:List Value} (h:w.ownsRow B e size v n xs) (hAB:A≤B):w.ownsRow A e size v n xs:=by
 refine ⟨h.1,?_⟩
 rcases h.2 with hl | ⟨g,cap,cur,hv,hg,r⟩
 ·exact .inl hl
 exact .inr ⟨g,cap,cur,hv,Nat.le_trans hAB hg,r⟩
theorem OE.base {w:World} {A B:Nat} {s:Sl} {xs:List LE} (h:OE w B s xs) (hAB:A≤B):OE w A s xs:=⟨own_base h.own hAB,h.vals.mono fun i hi=>⟨⟨Nat.le_trans hAB hi.1.1,hi.1.2⟩,hi.2⟩,h.few⟩
theorem mend_zero0 {w:World} {F:Nat→Prop} {base:Nat} {s:Sl} {ks:List (PT (0))} {l r:PT (0)} (hm:MendIn w F base (0) s ks (0) l r) :
  Calls Tryz.prog 111 #[.slice s.a ks.length s.c,.int .i64 0] w (MendPost F base (0) s ks (0) w):=by
 have hj:1<ks.length:=(List.getElem?_eq_some_iff.1 hm.hr).1
 obtain ⟨g,cap,rfl,hbg,hnc,hcm,hfil⟩:=own_block hm.own (by omega)
 have hown:=hm.own
 have HM:=Lib.hid hm
 have hml:ks[0]? = some l:=hm.hl
 have hmr:ks[1]? = some r:=hm.hr
 have cc:∀ q u,(ptrs (0) ks)[q]? = some u→w.cell? ⟨g,q,none⟩=some u:=fun q u hq=>by
  have:=hown.cells (g:=g) rfl q u hq
  rwa [add_at,Nat.zero_add] at this
 have cl:w.cell? ⟨g,0,none⟩=some (ptr (0) l):=cc 0 _ (by rw [ptrs,List.getElem?_map,hml];rfl)
 have cr:w.cell? ⟨g,1,none⟩=some (ptr (0) r):=cc (1) _ (by rw [ptrs,List.getElem?_map,hmr];rfl)
 have hlm:=List.mem_of_getElem? hml
 have hrm:=List.mem_of_getElem? hmr
 have hgl:=hfil.lt
 have hn8:=hm.n8
 have hj1:(0:Int)<(ks.length:Int):=by omega
 have hj2:(1:Int)<(ks.length:Int):=by omega
 have hz:True:=trivial
 have HH0:=Lib.hid (fun W (hW:Agree F w W)=>height_any ((hm.isn l hlm).agree hW))
 have HCL:=Lib.hid hml
 have HCR:=Lib.hid hmr
 have HFZ:=Lib.hid hfil.frozen
 clear hown cc hfil hm hml hmr hlm hrm
 go_enter Tryz.func111,Tryz.ntmps111
 go_wp2_with fail
 go_quiet (fail)
 go_wp2_with fail
 have hxW:Ext w (w.drewN nq):=(Ext.refl w).drewN nq
 refine (HH0.out _ (Agree.drewN w nq)).mono ?_
 rintro e w0 ⟨rfl,rfl⟩
 generalize w.drewN nq=W at *
 clear cl cr
 have hne1:=entries_any (w:=W) ((((HM.out.isn l (List.mem_of_getElem? HCL.out)).agree (hxW.agree fun b hb=>(HM.out.lt b hb).1))).mono fun b hb=>Nat.lt_of_lt_of_le (HM.out.lt b hb).1 hxW.size)
 have hne2:∀ W',Ext W W'→Calls Tryz.prog 88 #[ptr 0 r] W' (EntriesPost (ents 0 r) W'):=fun W' hW'=>entries_any ((((HM.out.isn r (List.mem_of_getElem? HCR.out)).agree ((hxW.trans hW').agree fun b hb=>(HM.out.lt b hb).1))).mono fun b hb=>Nat.lt_of_lt_of_le (HM.out.lt b hb).1 (hxW.trans hW').size)
 have HE2:=Lib.hid hne2
 have HXW:=Lib.hid hxW
 clear hne2 hxW
 go_wp2_with fail
 refine hne1.mono ?_
 intro e w1 hp
 obtain ⟨sx,xs,rfl,hxs,hox,hx1⟩:=hp
 have HXS:=Lib.hid hxs
 have HOX:=Lib.hid hox
 have HX1:=Lib.hid hx1
 have he2:=HE2.out w1 hx1
 clear hne1 hxs hox hx1
 go_wp2_with fail
 refine he2.mono ?_
 intro e w2 hp
 obtain ⟨sy,ys,rfl,hys,hoy,hx2⟩:=hp
 have hrx:∀ b,sx.row=some b→W.heap.size≤b∧b<w1.heap.size:=fun b hb=>own_row HOX.out.own hb
 have hry:∀ b,sy.row=some b→w1.heap.size≤b∧b<w2.heap.size:=fun b hb=>own_row hoy.own hb
 have hs1:=HX1.out.size
 have hs2:=hx2.size
 have hox2:=HOX.out.ext hx2
 have hoy2:OE w2 W.heap.size sy ys:=hoy.base hs1
 have hl8:xs.length≤8:=by have:=(HM.out.ok l (List.mem_of_getElem? HCL.out)).1;have e1:xs.length=l.2.length:=by rw [show l.2=ents 0 l from rfl,←HXS.out,List.length_map]
                          rw [e1];exact this
 have hr8:ys.length≤8:=by have:=(HM.out.ok r (List.mem_of_getElem? HCR.out)).1;have e1:ys.length=r.2.length:=by rw [show r.2=ents 0 r from rfl,←hys,List.length_map]
                          rw [e1];exact this
 have hsum:xs.length+ys.length≤11:=by
  have e1:xs.length=size 0 l:=by rw [show size 0 l=(ents 0 l).length from rfl,←HXS.out,List.length_map]
  have e2:ys.length=size 0 r:=by rw [show size 0 r=(ents 0 r).length from rfl,←hys,List.length_map]
  rw [e1,e2];exact HM.out.sum
 have hrise:risingN (xs++ys):=risingN_of (by rw [List.map_append,HXS.out,hys];exact two_sorted HM.out.sorted HCL.out HCR.out)
 have hpr:=pairE_any hox2 hoy2 (Nat.le_trans hs1 hs2) (fun b hb hb'=>by have:=hrx b hb;have:=hry b hb';omega)
  (fun x hx=>⟨((HOX.out.vals x hx).1.agree (hx2.agree fun b hb=>hb.1.2)).mono fun b hb=>⟨Nat.lt_of_lt_of_le hb.1.2 hs2,fun h=>h.elim (fun h=>hb.2 h) (fun h=>by have:=hry b h;have:=hb.1.2;omega)⟩,(HOX.out.vals x hx).2⟩)
  (fun x hx=>⟨(hoy.vals x hx).1.mono fun b hb=>⟨hb.1.2,fun h=>h.elim (fun h=>by have:=hrx b h;have:=hb.1.1;omega) (fun h=>hb.2 h)⟩,(hoy.vals x hx).2⟩)
  hrise hl8 hr8 hsum (l:=l) (r:=r) HXS.out hys
 have hX2:=HXW.out.trans (HX1.out.trans hx2)
 have HX2:=Lib.hid hX2
 have HRX:=Lib.hid hrx
 have HRY:=Lib.hid hry
 have hsW:=HXW.out.size
 clear he2 hys hoy hx2 hrx hry hox2 hoy2 hrise hl8 hr8 hsum hX2
 go_wp2_with fail
 refine hpr.mono ?_
 rintro e w3 ⟨⟨ts,rfl,hP,hI⟩,hst⟩
 have HALL:Hid (Ext w w3∧PairR w.heap.size 0 l r ts∧∀ u∈ts,IsN w3 (Up F w w3) 0 u):=Lib.hid ⟨HX2.out.step hst (fun b hb=>hb.elim (fun h=>by have:=HRX.out b h;omega) (fun h=>by have:=HRY.out b h;omega)),hP.mono (HX2.out.size),fun u hu=>(hI u hu).mono fun i hi=>hi.elim (fun h=>h.elim) fun h=>.inr ⟨Nat.le_trans HX2.out.size h.1,h.2⟩⟩
 clear hpr hP hI hst
 obtain ⟨hX3,hP,hI⟩:=HALL.out
 have hown3:w3.ownsRow base 23 1 (.slice (some ⟨g,0,none⟩) ks.length cap) ks.length (ptrs (0) ks):=own_agree (s:=⟨some ⟨g,0,none⟩,cap⟩) HM.out.own (hX3.agree (F:=Lt w.heap.size) fun _ h=>h) fun b hb=>(own_row HM.out.own hb).2
 have hfz3:∀ o,w3.frozen? ⟨g,o,none⟩=false:=fun o=>(hX3.frozen hgl).trans (HFZ.out o)
 have hcc:∀ q u,(ptrs (0) ks)[q]? = some u→w3.cell? ⟨g,q,none⟩=some u:=fun q u hq=>by
  have:=hown3.cells (g:=g) rfl q u hq
  rwa [add_at,Nat.zero_add] at this
 have dl:w3.cell? ⟨g,0,none⟩=some (ptr (0) l):=hcc 0 _ (by rw [ptrs,List.getElem?_map,HCL.out];rfl)
 have dr:w3.cell? ⟨g,1,none⟩=some (ptr (0) r):=hcc (1) _ (by rw [ptrs,List.getElem?_map,HCR.out];rfl)
 have hlj:0<ks.length:=by omega
 have HOWN3:=Lib.hid hown3
 have HX3:=Lib.hid hX3
 have HP:=Lib.hid hP
 have HI:=Lib.hid hI
 have hlen:=hP.len
 have hFG:∀ W' x,F x∨(w.heap.size≤x∧x<W')→x≠g:=fun W' x hx e=>by
  subst e
  rcases hx with h | h
  ·exact (HM.out.lt x h).2 rfl
  omega
 have hF2:∀ x,F x→x<w.heap.size:=fun x hx=>(HM.out.lt x hx).1
 have hIK:∀ k∈ks,IsN w3 (Up F w w3) (0) k:=fun k hk=>((HM.out.isn k hk).agree (hX3.agree hF2)).mono fun i hi=>.inl hi
 have HIK:=Lib.hid hIK
 have HFG:=Lib.hid hFG
 clear hown3 hcc hX3 hP hI hIK hFG
 rcases hlen with hlen | hlen
 ·obtain ⟨a,rfl⟩:=List.length_eq_one_iff.1 hlen
  rw [show two (0) [a]=Ending.returned (.tuple #[ptr (0) a,.pointer none]) from rfl]
  have hfin:∀ w5,Wr (w3.setCell ⟨g,0,none⟩ (ptr (0) a)) w5 (some g)→w5.ownsRow base 23 1 (.slice (some ⟨g,0,none⟩) (ks.length - 1) cap) (ks.length - 1) (((ptrs (0) ks).set 0 (ptr (0) a)).take ((1)*1)++((ptrs (0) ks).set 0 (ptr (0) a)).drop ((1+1)*1))→
    MendPost F base (0) ⟨some ⟨g,0,none⟩,cap⟩ ks (0) w (.returned (.slice (some ⟨g,0,none⟩) (ks.length - 1) cap)) w5:=fun w5 hwr hown=>by
   have hz:w3.heap.size≤w5.heap.size:=by have:=hwr.grown.size;rwa [World.size_setCell] at this
   have hag:Agree (Up F w w3) w3 w5:=(Agree.setCell w3 ⟨g,0,none⟩ _ (fun h=>HFG.out _ g h rfl)).trans (hwr.agree (fun i hi=>by rw [World.size_setCell];exact hi.elim (fun h=>Nat.lt_of_lt_of_le (hF2 i h) HX3.out.size) fun h=>h.2) (fun k hk h=>by cases hk;exact HFG.out _ g h rfl))
   have hup:∀ i,Up F w w3 i→Up F w w5 i:=fun i hi=>hi.imp_right fun h=>⟨h.1,Nat.lt_of_lt_of_le h.2 hz⟩
   have e0:(ptrs (0) ks).set 0 (ptr (0) a)=ptrs (0) (ks.set 0 a):=by rw [ptrs,ptrs,List.map_set]
   have e1:((ptrs (0) ks).set 0 (ptr (0) a)).take ((1)*1)++((ptrs (0) ks).set 0 (ptr (0) a)).drop ((1+1)*1)=ptrs (0) (ks.take 0++[a]++ks.drop (0+2)):=by
    rw [e0,Nat.mul_one,Nat.mul_one,←ptrs_take,←ptrs_drop,←ptrs_app,mend_list1 HCL.out HCR.out]
   have e2:(ks.take 0++[a]++ks.drop (0+2)).length=ks.length - 1:=by simp only [List.length_append,List.length_take,List.length_drop,List.length_cons,List.length_nil];omega
   rw [e1] at hown
   refine ⟨⟨some ⟨g,0,none⟩,cap⟩,ks.take 0++[a]++ks.drop (0+2),by rw [e2],by rw [e2];exact hown,⟨l,r,[a],HCL.out,HCR.out,HP.out,rfl⟩,fun u hu=>?_,(((HX3.out.st (fun b=>(⟨some ⟨g,0,none⟩,cap⟩:Sl).row=some b)).set (p:=⟨g,0,none⟩) (.inr rfl) _).trans (hwr.st fun i hi=>hi))⟩
   refine IsN.mono hup (IsN.agree hag ?_)
   rcases List.mem_append.1 hu with hu | hu
   ·rcases List.mem_append.1 hu with hu | hu
    ·exact HIK.out u (List.mem_of_mem_take hu)
    exact HI.out u hu
   exact HIK.out u (List.mem_of_mem_drop hu)
  have hd:=delN_any (s:=⟨some ⟨g,0,none⟩,cap⟩) (n:=ks.length) (xs:=(ptrs (0) ks).set 0 (ptr (0) a)) (i:=1) (own_set HOWN3.out hlj (ptr (0) a)) (by omega) (by omega) (fun u hu=>by
   rcases List.mem_or_eq_of_mem_set hu with hu | rfl
   ·exact ptrs_one (0) ks u hu
   rfl)
  have q1:((1:Nat):Int)=(1:Int):=by omega
  have q2:(1:Int)+1=(2:Int):=by omega
  rw [q1,q2] at hd
  have HD:=Lib.hid hd
  have HFIN:=Lib.hid hfin
  clear hd hfin q1 q2 hF2
  go_wp2_with fail
  refine HD.out.mono ?_
  rintro e w5 ⟨rfl,hown5,hwr5⟩
  have HO5:=Lib.hid (HFIN.out w5 hwr5 hown5)
  clear hown5 hwr5
  go_wp2_with fail
  go_ret
  exact HO5.out
 obtain ⟨a,b,rfl⟩:∃ a b,ts=[a,b]:=by
  match ts,hlen with
  | [a,b],_=>exact ⟨a,b,rfl⟩
 rw [show two (0) [a,b]=Ending.returned (.tuple #[ptr (0) a,ptr (0) b]) from rfl]
 have hfin:MendPost F base (0) ⟨some ⟨g,0,none⟩,cap⟩ ks (0) w (.returned (.slice (some ⟨g,0,none⟩) ks.length cap)) ((w3.setCell ⟨g,0,none⟩ (ptr (0) a)).setCell ⟨g,1,none⟩ (ptr (0) b)):=by
  have hag:Agree (Up F w w3) w3 ((w3.setCell ⟨g,0,none⟩ (ptr (0) a)).setCell ⟨g,1,none⟩ (ptr (0) b)):=(Agree.setCell w3 ⟨g,0,none⟩ _ (fun h=>HFG.out _ g h rfl)).trans (Agree.setCell _ ⟨g,1,none⟩ _ (fun h=>HFG.out _ g h rfl))
  have e0:((ptrs (0) ks).set 0 (ptr (0) a)).set (1) (ptr (0) b)=ptrs (0) ((ks.set 0 a).set (1) b):=by rw [ptrs,ptrs,List.map_set,List.map_set]
  have e2:(ks.take 0++[a,b]++ks.drop (0+2)).length=ks.length:=by simp only [List.length_append,List.length_take,List.length_drop,List.length_cons,List.length_nil];omega
  have hown:=own_set (own_set HOWN3.out hlj (ptr (0) a)) (i:=1) (by omega) (ptr (0) b)
  rw [e0,mend_list HCL.out HCR.out] at hown
  refine ⟨⟨some ⟨g,0,none⟩,cap⟩,ks.take 0++[a,b]++ks.drop (0+2),by rw [e2],by rw [e2];exact hown,⟨l,r,[a,b],HCL.out,HCR.out,HP.out,rfl⟩,fun u hu=>?_,(((HX3.out.st (fun b=>(⟨some ⟨g,0,none⟩,cap⟩:Sl).row=some b)).set (p:=⟨g,0,none⟩) (.inr rfl) _).set (p:=⟨g,1,none⟩) (.inr rfl) _)⟩
  refine IsN.mono (fun i hi=>hi.imp_right fun h=>⟨h.1,by simpa using h.2⟩) (IsN.agree hag ?_)
  rcases List.mem_append.1 hu with hu | hu
  ·rcases List.mem_append.1 hu with hu | hu
   ·exact HIK.out u (List.mem_of_mem_take hu)
   exact HI.out u hu
  exact HIK.out u (List.mem_of_mem_drop hu)
 have HFIN:=Lib.hid hfin
 clear hfin hF2
 go_wp2_with fail
 go_ret
 exact HFIN.out
theorem mend_zero1 {w:World} {F:Nat→Prop} {base j:Nat} {s:Sl} {ks:List (PT (0))} {l r:PT (0)} (hm:MendIn w F base (0) s ks (j+1) l r) :
  Calls Tryz.prog 111 #[.slice s.a ks.length s.c,.int .i64 ((j:Int)+1)] w (MendPost F base (0) s ks (j+1) w):=by
 have hj:j+1<ks.length:=(List.getElem?_eq_some_iff.1 hm.hr).1
 obtain ⟨g,cap,rfl,hbg,hnc,hcm,hfil⟩:=own_block hm.own (by omega)
 have hown:=hm.own
 have HM:=Lib.hid hm
 have hml:ks[j]? = some l:=hm.hl
 have hmr:ks[j+1]? = some r:=hm.hr
 have cc:∀ q u,(ptrs (0) ks)[q]? = some u→w.cell? ⟨g,q,none⟩=some u:=fun q u hq=>by
  have:=hown.cells (g:=g) rfl q u hq
  rwa [add_at,Nat.zero_add] at this
 have cl:w.cell? ⟨g,j,none⟩=some (ptr (0) l):=cc j _ (by rw [ptrs,List.getElem?_map,hml];rfl)
 have cr:w.cell? ⟨g,j+1,none⟩=some (ptr (0) r):=cc (j+1) _ (by rw [ptrs,List.getElem?_map,hmr];rfl)
 have hlm:=List.mem_of_getElem? hml
 have hrm:=List.mem_of_getElem? hmr
 have hgl:=hfil.lt
 have hn8:=hm.n8
 have hj1:(j:Int)<(ks.length:Int):=by omega
 have hj2:(j:Int)+1<(ks.length:Int):=by omega
 have hj0:(0:Int)≤(j:Int):=by omega
 have hjb:(0:Int)≤(j:Int)+1:=by omega
 have hw1:IntKind.i64.wrap ((j:Int)+1)=(j:Int)+1:=by rw [IntKind.wrap_i64];omega
 have htn:((j:Int)+1).toNat=j+1:=by omega
 have hz:True:=trivial
 have HH0:=Lib.hid (fun W (hW:Agree F w W)=>height_any ((hm.isn l hlm).agree hW))
 have HCL:=Lib.hid hml
 have HCR:=Lib.hid hmr
 have HFZ:=Lib.hid hfil.frozen
 clear hown cc hfil hm hml hmr hlm hrm
 go_enter Tryz.func111,Tryz.ntmps111
 go_wp2_with fail
 go_quiet (fail)
 go_wp2_with fail
 have hxW:Ext w (w.drewN nq):=(Ext.refl w).drewN nq
 refine (HH0.out _ (Agree.drewN w nq)).mono ?_
 rintro e w0 ⟨rfl,rfl⟩
 generalize w.drewN nq=W at *
 clear cl cr
 have hne1:=entries_any (w:=W) ((((HM.out.isn l (List.mem_of_getElem? HCL.out)).agree (hxW.agree fun b hb=>(HM.out.lt b hb).1))).mono fun b hb=>Nat.lt_of_lt_of_le (HM.out.lt b hb).1 hxW.size)
 have hne2:∀ W',Ext W W'→Calls Tryz.prog 88 #[ptr 0 r] W' (EntriesPost (ents 0 r) W'):=fun W' hW'=>entries_any ((((HM.out.isn r (List.mem_of_getElem? HCR.out)).agree ((hxW.trans hW').agree fun b hb=>(HM.out.lt b hb).1))).mono fun b hb=>Nat.lt_of_lt_of_le (HM.out.lt b hb).1 (hxW.trans hW').size)
 have HE2:=Lib.hid hne2
 have HXW:=Lib.hid hxW
 clear hne2 hxW
 go_wp2_with fail
 refine hne1.mono ?_
 intro e w1 hp
 obtain ⟨sx,xs,rfl,hxs,hox,hx1⟩:=hp
 have HXS:=Lib.hid hxs
 have HOX:=Lib.hid hox
 have HX1:=Lib.hid hx1
 have he2:=HE2.out w1 hx1
 clear hne1 hxs hox hx1
 go_wp2_with fail
 refine he2.mono ?_
 intro e w2 hp
 obtain ⟨sy,ys,rfl,hys,hoy,hx2⟩:=hp
 have hrx:∀ b,sx.row=some b→W.heap.size≤b∧b<w1.heap.size:=fun b hb=>own_row HOX.out.own hb
 have hry:∀ b,sy.row=some b→w1.heap.size≤b∧b<w2.heap.size:=fun b hb=>own_row hoy.own hb
 have hs1:=HX1.out.size
 have hs2:=hx2.size
 have hox2:=HOX.out.ext hx2
 have hoy2:OE w2 W.heap.size sy ys:=hoy.base hs1
 have hl8:xs.length≤8:=by have:=(HM.out.ok l (List.mem_of_getElem? HCL.out)).1;have e1:xs.length=l.2.length:=by rw [show l.2=ents 0 l from rfl,←HXS.out,List.length_map]
                          rw [e1];exact this
 have hr8:ys.length≤8:=by have:=(HM.out.ok r (List.mem_of_getElem? HCR.out)).1;have e1:ys.length=r.2.length:=by rw [show r.2=ents 0 r from rfl,←hys,List.length_map]
                          rw [e1];exact this
 have hsum:xs.length+ys.length≤11:=by
  have e1:xs.length=size 0 l:=by rw [show size 0 l=(ents 0 l).length from rfl,←HXS.out,List.length_map]
  have e2:ys.length=size 0 r:=by rw [show size 0 r=(ents 0 r).length from rfl,←hys,List.length_map]
  rw [e1,e2];exact HM.out.sum
 have hrise:risingN (xs++ys):=risingN_of (by rw [List.map_append,HXS.out,hys];exact two_sorted HM.out.sorted HCL.out HCR.out)
 have hpr:=pairE_any hox2 hoy2 (Nat.le_trans hs1 hs2) (fun b hb hb'=>by have:=hrx b hb;have:=hry b hb';omega)
  (fun x hx=>⟨((HOX.out.vals x hx).1.agree (hx2.agree fun b hb=>hb.1.2)).mono fun b hb=>⟨Nat.lt_of_lt_of_le hb.1.2 hs2,fun h=>h.elim (fun h=>hb.2 h) (fun h=>by have:=hry b h;have:=hb.1.2;omega)⟩,(HOX.out.vals x hx).2⟩)
  (fun x hx=>⟨(hoy.vals x hx).1.mono fun b hb=>⟨hb.1.2,fun h=>h.elim (fun h=>by have:=hrx b h;have:=hb.1.1;omega) (fun h=>hb.2 h)⟩,(hoy.vals x hx).2⟩)
  hrise hl8 hr8 hsum (l:=l) (r:=r) HXS.out hys
 have hX2:=HXW.out.trans (HX1.out.trans hx2)
 have HX2:=Lib.hid hX2
 have HRX:=Lib.hid hrx
 have HRY:=Lib.hid hry
 have hsW:=HXW.out.size
 clear he2 hys hoy hx2 hrx hry hox2 hoy2 hrise hl8 hr8 hsum hX2
 go_wp2_with fail
 refine hpr.mono ?_
 rintro e w3 ⟨⟨ts,rfl,hP,hI⟩,hst⟩
 have HALL:Hid (Ext w w3∧PairR w.heap.size 0 l r ts∧∀ u∈ts,IsN w3 (Up F w w3) 0 u):=Lib.hid ⟨HX2.out.step hst (fun b hb=>hb.elim (fun h=>by have:=HRX.out b h;omega) (fun h=>by have:=HRY.out b h;omega)),hP.mono (HX2.out.size),fun u hu=>(hI u hu).mono fun i hi=>hi.elim (fun h=>h.elim) fun h=>.inr ⟨Nat.le_trans HX2.out.size h.1,h.2⟩⟩
 clear hpr hP hI hst
 obtain ⟨hX3,hP,hI⟩:=HALL.out
 have hown3:w3.ownsRow base 23 1 (.slice (some ⟨g,0,none⟩) ks.length cap) ks.length (ptrs (0) ks):=own_agree (s:=⟨some ⟨g,0,none⟩,cap⟩) HM.out.own (hX3.agree (F:=Lt w.heap.size) fun _ h=>h) fun b hb=>(own_row HM.out.own hb).2
 have hfz3:∀ o,w3.frozen? ⟨g,o,none⟩=false:=fun o=>(hX3.frozen hgl).trans (HFZ.out o)
 have hcc:∀ q u,(ptrs (0) ks)[q]? = some u→w3.cell? ⟨g,q,none⟩=some u:=fun q u hq=>by
  have:=hown3.cells (g:=g) rfl q u hq
  rwa [add_at,Nat.zero_add] at this
 have dl:w3.cell? ⟨g,j,none⟩=some (ptr (0) l):=hcc j _ (by rw [ptrs,List.getElem?_map,HCL.out];rfl)
 have dr:w3.cell? ⟨g,j+1,none⟩=some (ptr (0) r):=hcc (j+1) _ (by rw [ptrs,List.getElem?_map,HCR.out];rfl)
 have hlj:j<ks.length:=by omega
 have HOWN3:=Lib.hid hown3
 have HX3:=Lib.hid hX3
 have HP:=Lib.hid hP
 have HI:=Lib.hid hI
 have hlen:=hP.len
 have hFG:∀ W' x,F x∨(w.heap.size≤x∧x<W')→x≠g:=fun W' x hx e=>by
  subst e
  rcases hx with h | h
  ·exact (HM.out.lt x h).2 rfl
  omega
 have hF2:∀ x,F x→x<w.heap.size:=fun x hx=>(HM.out.lt x hx).1
 have hIK:∀ k∈ks,IsN w3 (Up F w w3) (0) k:=fun k hk=>((HM.out.isn k hk).agree (hX3.agree hF2)).mono fun i hi=>.inl hi
 have HIK:=Lib.hid hIK
 have HFG:=Lib.hid hFG
 clear hown3 hcc hX3 hP hI hIK hFG
 rcases hlen with hlen | hlen
 ·obtain ⟨a,rfl⟩:=List.length_eq_one_iff.1 hlen
  rw [show two (0) [a]=Ending.returned (.tuple #[ptr (0) a,.pointer none]) from rfl]
  have hfin:∀ w5,Wr (w3.setCell ⟨g,j,none⟩ (ptr (0) a)) w5 (some g)→w5.ownsRow base 23 1 (.slice (some ⟨g,0,none⟩) (ks.length - 1) cap) (ks.length - 1) (((ptrs (0) ks).set j (ptr (0) a)).take ((j+1)*1)++((ptrs (0) ks).set j (ptr (0) a)).drop ((j+1+1)*1))→
    MendPost F base (0) ⟨some ⟨g,0,none⟩,cap⟩ ks (j+1) w (.returned (.slice (some ⟨g,0,none⟩) (ks.length - 1) cap)) w5:=fun w5 hwr hown=>by
   have hz:w3.heap.size≤w5.heap.size:=by have:=hwr.grown.size;rwa [World.size_setCell] at this
   have hag:Agree (Up F w w3) w3 w5:=(Agree.setCell w3 ⟨g,j,none⟩ _ (fun h=>HFG.out _ g h rfl)).trans (hwr.agree (fun i hi=>by rw [World.size_setCell];exact hi.elim (fun h=>Nat.lt_of_lt_of_le (hF2 i h) HX3.out.size) fun h=>h.2) (fun k hk h=>by cases hk;exact HFG.out _ g h rfl))
   have hup:∀ i,Up F w w3 i→Up F w w5 i:=fun i hi=>hi.imp_right fun h=>⟨h.1,Nat.lt_of_lt_of_le h.2 hz⟩
   have e0:(ptrs (0) ks).set j (ptr (0) a)=ptrs (0) (ks.set j a):=by rw [ptrs,ptrs,List.map_set]
   have e1:((ptrs (0) ks).set j (ptr (0) a)).take ((j+1)*1)++((ptrs (0) ks).set j (ptr (0) a)).drop ((j+1+1)*1)=ptrs (0) (ks.take j++[a]++ks.drop (j+2)):=by
    rw [e0,Nat.mul_one,Nat.mul_one,←ptrs_take,←ptrs_drop,←ptrs_app,mend_list1 HCL.out HCR.out]
   have e2:(ks.take j++[a]++ks.drop (j+2)).length=ks.length - 1:=by simp only [List.length_append,List.length_take,List.length_drop,List.length_cons,List.length_nil];omega
   rw [e1] at hown
   refine ⟨⟨some ⟨g,0,none⟩,cap⟩,ks.take j++[a]++ks.drop (j+2),by rw [e2],by rw [e2];exact hown,⟨l,r,[a],HCL.out,HCR.out,HP.out,rfl⟩,fun u hu=>?_,(((HX3.out.st (fun b=>(⟨some ⟨g,0,none⟩,cap⟩:Sl).row=some b)).set (p:=⟨g,j,none⟩) (.inr rfl) _).trans (hwr.st fun i hi=>hi))⟩
   refine IsN.mono hup (IsN.agree hag ?_)
   rcases List.mem_append.1 hu with hu | hu
   ·rcases List.mem_append.1 hu with hu | hu
    ·exact HIK.out u (List.mem_of_mem_take hu)
    exact HI.out u hu
   exact HIK.out u (List.mem_of_mem_drop hu)
  have hd:=delN_any (s:=⟨some ⟨g,0,none⟩,cap⟩) (n:=ks.length) (xs:=(ptrs (0) ks).set j (ptr (0) a)) (i:=j+1) (own_set HOWN3.out hlj (ptr (0) a)) (by omega) (by omega) (fun u hu=>by
   rcases List.mem_or_eq_of_mem_set hu with hu | rfl
   ·exact ptrs_one (0) ks u hu
   rfl)
  have q1:((j+1:Nat):Int)=((j:Int)+1):=by omega
  have q2:((j:Int)+1)+1=((j:Int)+2):=by omega
  rw [q1,q2] at hd
  have HD:=Lib.hid hd
  have HFIN:=Lib.hid hfin
  clear hd hfin q1 q2 hF2
  go_wp2_with fail
  refine HD.out.mono ?_
  rintro e w5 ⟨rfl,hown5,hwr5⟩
  have HO5:=Lib.hid (HFIN.out w5 hwr5 hown5)
  clear hown5 hwr5
  go_wp2_with fail
  go_ret
  exact HO5.out
 obtain ⟨a,b,rfl⟩:∃ a b,ts=[a,b]:=by
  match ts,hlen with
  | [a,b],_=>exact ⟨a,b,rfl⟩
 rw [show two (0) [a,b]=Ending.returned (.tuple #[ptr (0) a,ptr (0) b]) from rfl]
 have hfin:MendPost F base (0) ⟨some ⟨g,0,none⟩,cap⟩ ks (j+1) w (.returned (.slice (some ⟨g,0,none⟩) ks.length cap)) ((w3.setCell ⟨g,j,none⟩ (ptr (0) a)).setCell ⟨g,j+1,none⟩ (ptr (0) b)):=by
  have hag:Agree (Up F w w3) w3 ((w3.setCell ⟨g,j,none⟩ (ptr (0) a)).setCell ⟨g,j+1,none⟩ (ptr (0) b)):=(Agree.setCell w3 ⟨g,j,none⟩ _ (fun h=>HFG.out _ g h rfl)).trans (Agree.setCell _ ⟨g,j+1,none⟩ _ (fun h=>HFG.out _ g h rfl))
  have e0:((ptrs (0) ks).set j (ptr (0) a)).set (j+1) (ptr (0) b)=ptrs (0) ((ks.set j a).set (j+1) b):=by rw [ptrs,ptrs,List.map_set,List.map_set]
  have e2:(ks.take j++[a,b]++ks.drop (j+2)).length=ks.length:=by simp only [List.length_append,List.length_take,List.length_drop,List.length_cons,List.length_nil];omega
  have hown:=own_set (own_set HOWN3.out hlj (ptr (0) a)) (i:=j+1) (by omega) (ptr (0) b)
  rw [e0,mend_list HCL.out HCR.out] at hown
  refine ⟨⟨some ⟨g,0,none⟩,cap⟩,ks.take j++[a,b]++ks.drop (j+2),by rw [e2],by rw [e2];exact hown,⟨l,r,[a,b],HCL.out,HCR.out,HP.out,rfl⟩,fun u hu=>?_,(((HX3.out.st (fun b=>(⟨some ⟨g,0,none⟩,cap⟩:Sl).row=some b)).set (p:=⟨g,j,none⟩) (.inr rfl) _).set (p:=⟨g,j+1,none⟩) (.inr rfl) _)⟩
  refine IsN.mono (fun i hi=>hi.imp_right fun h=>⟨h.1,by simpa using h.2⟩) (IsN.agree hag ?_)
  rcases List.mem_append.1 hu with hu | hu
  ·rcases List.mem_append.1 hu with hu | hu
   ·exact HIK.out u (List.mem_of_mem_take hu)
   exact HI.out u hu
  exact HIK.out u (List.mem_of_mem_drop hu)
 have HFIN:=Lib.hid hfin
 clear hfin hF2
 go_wp2_with fail
 go_ret
 exact HFIN.out
theorem mend_succ0 {w:World} {F:Nat→Prop} {base h:Nat} {s:Sl} {ks:List (PT (h+1))} {l r:PT (h+1)} (hm:MendIn w F base (h+1) s ks (0) l r) :
  Calls Tryz.prog 111 #[.slice s.a ks.length s.c,.int .i64 0] w (MendPost F base (h+1) s ks (0) w):=by
 have hj:1<ks.length:=(List.getElem?_eq_some_iff.1 hm.hr).1
 obtain ⟨g,cap,rfl,hbg,hnc,hcm,hfil⟩:=own_block hm.own (by omega)
 have hown:=hm.own
 have HM:=Lib.hid hm
 have hml:ks[0]? = some l:=hm.hl
 have hmr:ks[1]? = some r:=hm.hr
 have cc:∀ q u,(ptrs (h+1) ks)[q]? = some u→w.cell? ⟨g,q,none⟩=some u:=fun q u hq=>by
  have:=hown.cells (g:=g) rfl q u hq
  rwa [add_at,Nat.zero_add] at this
 have cl:w.cell? ⟨g,0,none⟩=some (ptr (h+1) l):=cc 0 _ (by rw [ptrs,List.getElem?_map,hml];rfl)
 have cr:w.cell? ⟨g,1,none⟩=some (ptr (h+1) r):=cc (1) _ (by rw [ptrs,List.getElem?_map,hmr];rfl)
 have hlm:=List.mem_of_getElem? hml
 have hrm:=List.mem_of_getElem? hmr
 have hgl:=hfil.lt
 have hn8:=hm.n8
 have hj1:(0:Int)<(ks.length:Int):=by omega
 have hj2:(1:Int)<(ks.length:Int):=by omega
 have hz:(((h:Int)+1) == 0)=false:=beq_eq_false_iff_ne.2 (by omega)
 have HH0:=Lib.hid (fun W (hW:Agree F w W)=>height_any ((hm.isn l hlm).agree hW))
 have HCL:=Lib.hid hml
 have HCR:=Lib.hid hmr
 have HFZ:=Lib.hid hfil.frozen
 clear hown cc hfil hm hml hmr hlm hrm
 go_enter Tryz.func111,Tryz.ntmps111
 go_wp2_with fail
 go_quiet (fail)
 go_wp2_with fail
 have hxW:Ext w (w.drewN nq):=(Ext.refl w).drewN nq
 refine (HH0.out _ (Agree.drewN w nq)).mono ?_
 rintro e w0 ⟨rfl,rfl⟩
 generalize w.drewN nq=W at *
 clear cl cr
 have hkk:∀ W',Ext W W'→∀ x,x∈ks→Calls Tryz.prog 70 #[ptr (h+1) x] W' (ClonePost 23 x.2.length (ptrs h x.2) W'):=fun W' hW' x hx=>kids_any ((HM.out.isn x hx).agree ((hxW.trans hW').agree fun b hb=>(HM.out.lt b hb).1)) (by have:=(HM.out.ok x hx).1.2.1;omega)
 have hne1:=hkk W (Ext.refl W) l (List.mem_of_getElem? HCL.out)
 have HKK:=Lib.hid hkk
 have HXW:=Lib.hid hxW
 clear hkk hxW
 go_wp2_with fail
 refine hne1.mono ?_
 rintro e w1 ⟨sx,rfl,hox,hx1⟩
 have HOX:=Lib.hid hox
 have HX1:=Lib.hid hx1
 have he2:=HKK.out w1 hx1 r (List.mem_of_getElem? HCR.out)
 clear hne1 hox hx1
 go_wp2_with fail
 refine he2.mono ?_
 rintro e w2 ⟨sy,rfl,hoy,hx2⟩
 have hrx:∀ b,sx.row=some b→W.heap.size≤b∧b<w1.heap.size:=fun b hb=>own_row HOX.out hb
 have hry:∀ b,sy.row=some b→w1.heap.size≤b∧b<w2.heap.size:=fun b hb=>own_row hoy hb
 have hs1:=HX1.out.size
 have hs2:=hx2.size
 have hsW:=HXW.out.size
 have hox2:w2.ownsRow W.heap.size 23 1 (.slice sx.a l.2.length sx.c) l.2.length (ptrs h l.2):=own_agree HOX.out (hx2.agree (F:=Lt w1.heap.size) fun _ h=>h) fun b hb=>(hrx b hb).2
 have hoy2:w2.ownsRow W.heap.size 23 1 (.slice sy.a r.2.length sy.c) r.2.length (ptrs h r.2):=own_base hoy hs1
 have okl:=HM.out.ok l (List.mem_of_getElem? HCL.out)
 have okr:=HM.out.ok r (List.mem_of_getElem? HCR.out)
 have hX2:=HXW.out.trans (HX1.out.trans hx2)
 have hso:=two_sorted HM.out.sorted HCL.out HCR.out
 have hfe:=two_few (ks:=ks) HCL.out HCR.out
 have hkp:∀ x∈l.2++r.2,OkT h x∧4≤size h x∧IsN w F h x:=fun x hx=>by
  rcases List.mem_append.1 hx with hx | hx
  ·exact ⟨(okl.1.2.2 x hx).1,(okl.1.2.2 x hx).2,(HM.out.isn l (List.mem_of_getElem? HCL.out)).2.choose_spec.2.2 x hx⟩
  exact ⟨(okr.1.2.2 x hx).1,(okr.1.2.2 x hx).2,(HM.out.isn r (List.mem_of_getElem? HCR.out)).2.choose_spec.2.2 x hx⟩
 have hpos:∀ x∈l.2++r.2,0<(ents h x).length:=fun x hx=>ents_pos h x (hkp x hx).1 (by have:=(hkp x hx).2.1;omega)
 have hso2:Sorted ((l.2++r.2).flatMap (ents h)):=by rw [List.flatMap_append];exact hso
 have hkids:Kids w2 F h (l.2++r.2):=⟨fun b hb=>Nat.lt_of_lt_of_le (HM.out.lt b hb).1 hX2.size,fun x hx=>(hkp x hx).2.2.agree (hX2.agree fun b hb=>(HM.out.lt b hb).1),rising_of hso2 hpos,hpos,fun x hx=>by have:=size_le8 (hkp x hx).1;omega,by
  unfold cnt
  rw [List.flatMap_append,List.length_append]
  have h1:(ents (h+1) l).length+(ents (h+1) r).length≤1000000:=Nat.le_trans hfe HM.out.few
  have h2:(l.2.flatMap (ents h)).length=(ents (h+1) l).length:=rfl
  have h3:(r.2.flatMap (ents h)).length=(ents (h+1) r).length:=rfl
  omega,by have:=HM.out.hh;omega⟩
 have hpr:=pairN_any (F:=F) (l:=l) (r:=r) hox2 hoy2 (Nat.le_trans hs1 hs2) (fun b hb hb'=>by have:=hrx b hb;have:=hry b hb';omega)
  (fun b hb hb'=>by
    have:=(HM.out.lt b hb).1
    rcases hb' with h | h
    ·have:=hrx b h;omega
    have:=hry b h;omega) hkids okl.2 okr.2 okl.1.2.1 okr.1.2.1 HM.out.sum
 have HX2:=Lib.hid hX2
 have HRX:=Lib.hid hrx
 have HRY:=Lib.hid hry
 clear he2 hoy hx2 hrx hry hox2 hoy2 hX2 hso hfe hkp hpos hso2 hkids okl okr
 go_wp2_with fail
 refine hpr.mono ?_
 rintro e w3 ⟨⟨ts,rfl,hP,hI⟩,hst⟩
 have HALL:Hid (Ext w w3∧PairR w.heap.size (h+1) l r ts∧∀ u∈ts,IsN w3 (Up F w w3) (h+1) u):=Lib.hid ⟨HX2.out.step hst (fun b hb=>hb.elim (fun h=>by have:=HRX.out b h;omega) (fun h=>by have:=HRY.out b h;omega)),hP.mono (HX2.out.size),fun u hu=>(hI u hu).mono fun i hi=>hi.imp_right fun h=>⟨Nat.le_trans HX2.out.size h.1,h.2⟩⟩
 clear hpr hP hI hst
 obtain ⟨hX3,hP,hI⟩:=HALL.out
 have hown3:w3.ownsRow base 23 1 (.slice (some ⟨g,0,none⟩) ks.length cap) ks.length (ptrs (h+1) ks):=own_agree (s:=⟨some ⟨g,0,none⟩,cap⟩) HM.out.own (hX3.agree (F:=Lt w.heap.size) fun _ h=>h) fun b hb=>(own_row HM.out.own hb).2
 have hfz3:∀ o,w3.frozen? ⟨g,o,none⟩=false:=fun o=>(hX3.frozen hgl).trans (HFZ.out o)
 have hcc:∀ q u,(ptrs (h+1) ks)[q]? = some u→w3.cell? ⟨g,q,none⟩=some u:=fun q u hq=>by
  have:=hown3.cells (g:=g) rfl q u hq
  rwa [add_at,Nat.zero_add] at this
 have dl:w3.cell? ⟨g,0,none⟩=some (ptr (h+1) l):=hcc 0 _ (by rw [ptrs,List.getElem?_map,HCL.out];rfl)
 have dr:w3.cell? ⟨g,1,none⟩=some (ptr (h+1) r):=hcc (1) _ (by rw [ptrs,List.getElem?_map,HCR.out];rfl)
 have hlj:0<ks.length:=by omega
 have HOWN3:=Lib.hid hown3
 have HX3:=Lib.hid hX3
 have HP:=Lib.hid hP
 have HI:=Lib.hid hI
 have hlen:=hP.len
 have hFG:∀ W' x,F x∨(w.heap.size≤x∧x<W')→x≠g:=fun W' x hx e=>by
  subst e
  rcases hx with h | h
  ·exact (HM.out.lt x h).2 rfl
  omega
 have hF2:∀ x,F x→x<w.heap.size:=fun x hx=>(HM.out.lt x hx).1
 have hIK:∀ k∈ks,IsN w3 (Up F w w3) (h+1) k:=fun k hk=>((HM.out.isn k hk).agree (hX3.agree hF2)).mono fun i hi=>.inl hi
 have HIK:=Lib.hid hIK
 have HFG:=Lib.hid hFG
 clear hown3 hcc hX3 hP hI hIK hFG
 rcases hlen with hlen | hlen
 ·obtain ⟨a,rfl⟩:=List.length_eq_one_iff.1 hlen
  rw [show two (h+1) [a]=Ending.returned (.tuple #[ptr (h+1) a,.pointer none]) from rfl]
  have hfin:∀ w5,Wr (w3.setCell ⟨g,0,none⟩ (ptr (h+1) a)) w5 (some g)→w5.ownsRow base 23 1 (.slice (some ⟨g,0,none⟩) (ks.length - 1) cap) (ks.length - 1) (((ptrs (h+1) ks).set 0 (ptr (h+1) a)).take ((1)*1)++((ptrs (h+1) ks).set 0 (ptr (h+1) a)).drop ((1+1)*1))→
    MendPost F base (h+1) ⟨some ⟨g,0,none⟩,cap⟩ ks (0) w (.returned (.slice (some ⟨g,0,none⟩) (ks.length - 1) cap)) w5:=fun w5 hwr hown=>by
   have hz:w3.heap.size≤w5.heap.size:=by have:=hwr.grown.size;rwa [World.size_setCell] at this
   have hag:Agree (Up F w w3) w3 w5:=(Agree.setCell w3 ⟨g,0,none⟩ _ (fun h=>HFG.out _ g h rfl)).trans (hwr.agree (fun i hi=>by rw [World.size_setCell];exact hi.elim (fun h=>Nat.lt_of_lt_of_le (hF2 i h) HX3.out.size) fun h=>h.2) (fun k hk h=>by cases hk;exact HFG.out _ g h rfl))
   have hup:∀ i,Up F w w3 i→Up F w w5 i:=fun i hi=>hi.imp_right fun h=>⟨h.1,Nat.lt_of_lt_of_le h.2 hz⟩
   have e0:(ptrs (h+1) ks).set 0 (ptr (h+1) a)=ptrs (h+1) (ks.set 0 a):=by rw [ptrs,ptrs,List.map_set]
   have e1:((ptrs (h+1) ks).set 0 (ptr (h+1) a)).take ((1)*1)++((ptrs (h+1) ks).set 0 (ptr (h+1) a)).drop ((1+1)*1)=ptrs (h+1) (ks.take 0++[a]++ks.drop (0+2)):=by
    rw [e0,Nat.mul_one,Nat.mul_one,←ptrs_take,←ptrs_drop,←ptrs_app,mend_list1 HCL.out HCR.out]
   have e2:(ks.take 0++[a]++ks.drop (0+2)).length=ks.length - 1:=by simp only [List.length_append,List.length_take,List.length_drop,List.length_cons,List.length_nil];omega
   rw [e1] at hown
   refine ⟨⟨some ⟨g,0,none⟩,cap⟩,ks.take 0++[a]++ks.drop (0+2),by rw [e2],by rw [e2];exact hown,⟨l,r,[a],HCL.out,HCR.out,HP.out,rfl⟩,fun u hu=>?_,(((HX3.out.st (fun b=>(⟨some ⟨g,0,none⟩,cap⟩:Sl).row=some b)).set (p:=⟨g,0,none⟩) (.inr rfl) _).trans (hwr.st fun i hi=>hi))⟩
   refine IsN.mono hup (IsN.agree hag ?_)
   rcases List.mem_append.1 hu with hu | hu
   ·rcases List.mem_append.1 hu with hu | hu
    ·exact HIK.out u (List.mem_of_mem_take hu)
    exact HI.out u hu
   exact HIK.out u (List.mem_of_mem_drop hu)
  have hd:=delN_any (s:=⟨some ⟨g,0,none⟩,cap⟩) (n:=ks.length) (xs:=(ptrs (h+1) ks).set 0 (ptr (h+1) a)) (i:=1) (own_set HOWN3.out hlj (ptr (h+1) a)) (by omega) (by omega) (fun u hu=>by
   rcases List.mem_or_eq_of_mem_set hu with hu | rfl
   ·exact ptrs_one (h+1) ks u hu
   rfl)
  have q1:((1:Nat):Int)=(1:Int):=by omega
  have q2:(1:Int)+1=(2:Int):=by omega
  rw [q1,q2] at hd
  have HD:=Lib.hid hd
  have HFIN:=Lib.hid hfin
  clear hd hfin q1 q2 hF2
  go_wp2_with fail
  refine HD.out.mono ?_
  rintro e w5 ⟨rfl,hown5,hwr5⟩
  have HO5:=Lib.hid (HFIN.out w5 hwr5 hown5)
  clear hown5 hwr5
  go_wp2_with fail
  go_ret
  exact HO5.out
 obtain ⟨a,b,rfl⟩:∃ a b,ts=[a,b]:=by
  match ts,hlen with
  | [a,b],_=>exact ⟨a,b,rfl⟩
 rw [show two (h+1) [a,b]=Ending.returned (.tuple #[ptr (h+1) a,ptr (h+1) b]) from rfl]
 have hfin:MendPost F base (h+1) ⟨some ⟨g,0,none⟩,cap⟩ ks (0) w (.returned (.slice (some ⟨g,0,none⟩) ks.length cap)) ((w3.setCell ⟨g,0,none⟩ (ptr (h+1) a)).setCell ⟨g,1,none⟩ (ptr (h+1) b)):=by
  have hag:Agree (Up F w w3) w3 ((w3.setCell ⟨g,0,none⟩ (ptr (h+1) a)).setCell ⟨g,1,none⟩ (ptr (h+1) b)):=(Agree.setCell w3 ⟨g,0,none⟩ _ (fun h=>HFG.out _ g h rfl)).trans (Agree.setCell _ ⟨g,1,none⟩ _ (fun h=>HFG.out _ g h rfl))
  have e0:((ptrs (h+1) ks).set 0 (ptr (h+1) a)).set (1) (ptr (h+1) b)=ptrs (h+1) ((ks.set 0 a).set (1) b):=by rw [ptrs,ptrs,List.map_set,List.map_set]
  have e2:(ks.take 0++[a,b]++ks.drop (0+2)).length=ks.length:=by simp only [List.length_append,List.length_take,List.length_drop,List.length_cons,List.length_nil];omega
  have hown:=own_set (own_set HOWN3.out hlj (ptr (h+1) a)) (i:=1) (by omega) (ptr (h+1) b)
  rw [e0,mend_list HCL.out HCR.out] at hown
  refine ⟨⟨some ⟨g,0,none⟩,cap⟩,ks.take 0++[a,b]++ks.drop (0+2),by rw [e2],by rw [e2];exact hown,⟨l,r,[a,b],HCL.out,HCR.out,HP.out,rfl⟩,fun u hu=>?_,(((HX3.out.st (fun b=>(⟨some ⟨g,0,none⟩,cap⟩:Sl).row=some b)).set (p:=⟨g,0,none⟩) (.inr rfl) _).set (p:=⟨g,1,none⟩) (.inr rfl) _)⟩
  refine IsN.mono (fun i hi=>hi.imp_right fun h=>⟨h.1,by simpa using h.2⟩) (IsN.agree hag ?_)
  rcases List.mem_append.1 hu with hu | hu
  ·rcases List.mem_append.1 hu with hu | hu
   ·exact HIK.out u (List.mem_of_mem_take hu)
   exact HI.out u hu
  exact HIK.out u (List.mem_of_mem_drop hu)
 have HFIN:=Lib.hid hfin
 clear hfin hF2
 go_wp2_with fail
 go_ret
 exact HFIN.out
theorem mend_succ1 {w:World} {F:Nat→Prop} {base h j:Nat} {s:Sl} {ks:List (PT (h+1))} {l r:PT (h+1)} (hm:MendIn w F base (h+1) s ks (j+1) l r) :
  Calls Tryz.prog 111 #[.slice s.a ks.length s.c,.int .i64 ((j:Int)+1)] w (MendPost F base (h+1) s ks (j+1) w):=by
 have hj:j+1<ks.length:=(List.getElem?_eq_some_iff.1 hm.hr).1
 obtain ⟨g,cap,rfl,hbg,hnc,hcm,hfil⟩:=own_block hm.own (by omega)
 have hown:=hm.own
 have HM:=Lib.hid hm
 have hml:ks[j]? = some l:=hm.hl
 have hmr:ks[j+1]? = some r:=hm.hr
 have cc:∀ q u,(ptrs (h+1) ks)[q]? = some u→w.cell? ⟨g,q,none⟩=some u:=fun q u hq=>by
  have:=hown.cells (g:=g) rfl q u hq
  rwa [add_at,Nat.zero_add] at this
 have cl:w.cell? ⟨g,j,none⟩=some (ptr (h+1) l):=cc j _ (by rw [ptrs,List.getElem?_map,hml];rfl)
 have cr:w.cell? ⟨g,j+1,none⟩=some (ptr (h+1) r):=cc (j+1) _ (by rw [ptrs,List.getElem?_map,hmr];rfl)
 have hlm:=List.mem_of_getElem? hml
 have hrm:=List.mem_of_getElem? hmr
 have hgl:=hfil.lt
 have hn8:=hm.n8
 have hj1:(j:Int)<(ks.length:Int):=by omega
 have hj2:(j:Int)+1<(ks.length:Int):=by omega
 have hj0:(0:Int)≤(j:Int):=by omega
 have hjb:(0:Int)≤(j:Int)+1:=by omega
 have hw1:IntKind.i64.wrap ((j:Int)+1)=(j:Int)+1:=by rw [IntKind.wrap_i64];omega
 have htn:((j:Int)+1).toNat=j+1:=by omega
 have hz:(((h:Int)+1) == 0)=false:=beq_eq_false_iff_ne.2 (by omega)
 have HH0:=Lib.hid (fun W (hW:Agree F w W)=>height_any ((hm.isn l hlm).agree hW))
 have HCL:=Lib.hid hml
 have HCR:=Lib.hid hmr
 have HFZ:=Lib.hid hfil.frozen
 clear hown cc hfil hm hml hmr hlm hrm
 go_enter Tryz.func111,Tryz.ntmps111
 go_wp2_with fail
 go_quiet (fail)
 go_wp2_with fail
 have hxW:Ext w (w.drewN nq):=(Ext.refl w).drewN nq
 refine (HH0.out _ (Agree.drewN w nq)).mono ?_
 rintro e w0 ⟨rfl,rfl⟩
 generalize w.drewN nq=W at *
 clear cl cr
 have hkk:∀ W',Ext W W'→∀ x,x∈ks→Calls Tryz.prog 70 #[ptr (h+1) x] W' (ClonePost 23 x.2.length (ptrs h x.2) W'):=fun W' hW' x hx=>kids_any ((HM.out.isn x hx).agree ((hxW.trans hW').agree fun b hb=>(HM.out.lt b hb).1)) (by have:=(HM.out.ok x hx).1.2.1;omega)
 have hne1:=hkk W (Ext.refl W) l (List.mem_of_getElem? HCL.out)
 have HKK:=Lib.hid hkk
 have HXW:=Lib.hid hxW
 clear hkk hxW
 go_wp2_with fail
 refine hne1.mono ?_
 rintro e w1 ⟨sx,rfl,hox,hx1⟩
 have HOX:=Lib.hid hox
 have HX1:=Lib.hid hx1
 have he2:=HKK.out w1 hx1 r (List.mem_of_getElem? HCR.out)
 clear hne1 hox hx1
 go_wp2_with fail
 refine he2.mono ?_
 rintro e w2 ⟨sy,rfl,hoy,hx2⟩
 have hrx:∀ b,sx.row=some b→W.heap.size≤b∧b<w1.heap.size:=fun b hb=>own_row HOX.out hb
 have hry:∀ b,sy.row=some b→w1.heap.size≤b∧b<w2.heap.size:=fun b hb=>own_row hoy hb
 have hs1:=HX1.out.size
 have hs2:=hx2.size
 have hsW:=HXW.out.size
 have hox2:w2.ownsRow W.heap.size 23 1 (.slice sx.a l.2.length sx.c) l.2.length (ptrs h l.2):=own_agree HOX.out (hx2.agree (F:=Lt w1.heap.size) fun _ h=>h) fun b hb=>(hrx b hb).2
 have hoy2:w2.ownsRow W.heap.size 23 1 (.slice sy.a r.2.length sy.c) r.2.length (ptrs h r.2):=own_base hoy hs1
 have okl:=HM.out.ok l (List.mem_of_getElem? HCL.out)
 have okr:=HM.out.ok r (List.mem_of_getElem? HCR.out)
 have hX2:=HXW.out.trans (HX1.out.trans hx2)
 have hso:=two_sorted HM.out.sorted HCL.out HCR.out
 have hfe:=two_few (ks:=ks) HCL.out HCR.out
 have hkp:∀ x∈l.2++r.2,OkT h x∧4≤size h x∧IsN w F h x:=fun x hx=>by
  rcases List.mem_append.1 hx with hx | hx
  ·exact ⟨(okl.1.2.2 x hx).1,(okl.1.2.2 x hx).2,(HM.out.isn l (List.mem_of_getElem? HCL.out)).2.choose_spec.2.2 x hx⟩
  exact ⟨(okr.1.2.2 x hx).1,(okr.1.2.2 x hx).2,(HM.out.isn r (List.mem_of_getElem? HCR.out)).2.choose_spec.2.2 x hx⟩
 have hpos:∀ x∈l.2++r.2,0<(ents h x).length:=fun x hx=>ents_pos h x (hkp x hx).1 (by have:=(hkp x hx).2.1;omega)
 have hso2:Sorted ((l.2++r.2).flatMap (ents h)):=by rw [List.flatMap_append];exact hso
 have hkids:Kids w2 F h (l.2++r.2):=⟨fun b hb=>Nat.lt_of_lt_of_le (HM.out.lt b hb).1 hX2.size,fun x hx=>(hkp x hx).2.2.agree (hX2.agree fun b hb=>(HM.out.lt b hb).1),rising_of hso2 hpos,hpos,fun x hx=>by have:=size_le8 (hkp x hx).1;omega,by
  unfold cnt
  rw [List.flatMap_append,List.length_append]
  have h1:(ents (h+1) l).length+(ents (h+1) r).length≤1000000:=Nat.le_trans hfe HM.out.few
  have h2:(l.2.flatMap (ents h)).length=(ents (h+1) l).length:=rfl
  have h3:(r.2.flatMap (ents h)).length=(ents (h+1) r).length:=rfl
  omega,by have:=HM.out.hh;omega⟩
 have hpr:=pairN_any (F:=F) (l:=l) (r:=r) hox2 hoy2 (Nat.le_trans hs1 hs2) (fun b hb hb'=>by have:=hrx b hb;have:=hry b hb';omega)
  (fun b hb hb'=>by
    have:=(HM.out.lt b hb).1
    rcases hb' with h | h
    ·have:=hrx b h;omega
    have:=hry b h;omega) hkids okl.2 okr.2 okl.1.2.1 okr.1.2.1 HM.out.sum
 have HX2:=Lib.hid hX2
 have HRX:=Lib.hid hrx
 have HRY:=Lib.hid hry
 clear he2 hoy hx2 hrx hry hox2 hoy2 hX2 hso hfe hkp hpos hso2 hkids okl okr
 go_wp2_with fail
 refine hpr.mono ?_
 rintro e w3 ⟨⟨ts,rfl,hP,hI⟩,hst⟩
 have HALL:Hid (Ext w w3∧PairR w.heap.size (h+1) l r ts∧∀ u∈ts,IsN w3 (Up F w w3) (h+1) u):=Lib.hid ⟨HX2.out.step hst (fun b hb=>hb.elim (fun h=>by have:=HRX.out b h;omega) (fun h=>by have:=HRY.out b h;omega)),hP.mono (HX2.out.size),fun u hu=>(hI u hu).mono fun i hi=>hi.imp_right fun h=>⟨Nat.le_trans HX2.out.size h.1,h.2⟩⟩
 clear hpr hP hI hst
 obtain ⟨hX3,hP,hI⟩:=HALL.out
 have hown3:w3.ownsRow base 23 1 (.slice (some ⟨g,0,none⟩) ks.length cap) ks.length (ptrs (h+1) ks):=own_agree (s:=⟨some ⟨g,0,none⟩,cap⟩) HM.out.own (hX3.agree (F:=Lt w.heap.size) fun _ h=>h) fun b hb=>(own_row HM.out.own hb).2
 have hfz3:∀ o,w3.frozen? ⟨g,o,none⟩=false:=fun o=>(hX3.frozen hgl).trans (HFZ.out o)
 have hcc:∀ q u,(ptrs (h+1) ks)[q]? = some u→w3.cell? ⟨g,q,none⟩=some u:=fun q u hq=>by
  have:=hown3.cells (g:=g) rfl q u hq
  rwa [add_at,Nat.zero_add] at this
 have dl:w3.cell? ⟨g,j,none⟩=some (ptr (h+1) l):=hcc j _ (by rw [ptrs,List.getElem?_map,HCL.out];rfl)
 have dr:w3.cell? ⟨g,j+1,none⟩=some (ptr (h+1) r):=hcc (j+1) _ (by rw [ptrs,List.getElem?_map,HCR.out];rfl)
 have hlj:j<ks.length:=by omega
 have HOWN3:=Lib.hid hown3
 have HX3:=Lib.hid hX3
 have HP:=Lib.hid hP
 have HI:=Lib.hid hI
 have hlen:=hP.len
 have hFG:∀ W' x,F x∨(w.heap.size≤x∧x<W')→x≠g:=fun W' x hx e=>by
  subst e
  rcases hx with h | h
  ·exact (HM.out.lt x h).2 rfl
  omega
 have hF2:∀ x,F x→x<w.heap.size:=fun x hx=>(HM.out.lt x hx).1
 have hIK:∀ k∈ks,IsN w3 (Up F w w3) (h+1) k:=fun k hk=>((HM.out.isn k hk).agree (hX3.agree hF2)).mono fun i hi=>.inl hi
 have HIK:=Lib.hid hIK
 have HFG:=Lib.hid hFG
 clear hown3 hcc hX3 hP hI hIK hFG
 rcases hlen with hlen | hlen
 ·obtain ⟨a,rfl⟩:=List.length_eq_one_iff.1 hlen
  rw [show two (h+1) [a]=Ending.returned (.tuple #[ptr (h+1) a,.pointer none]) from rfl]
  have hfin:∀ w5,Wr (w3.setCell ⟨g,j,none⟩ (ptr (h+1) a)) w5 (some g)→w5.ownsRow base 23 1 (.slice (some ⟨g,0,none⟩) (ks.length - 1) cap) (ks.length - 1) (((ptrs (h+1) ks).set j (ptr (h+1) a)).take ((j+1)*1)++((ptrs (h+1) ks).set j (ptr (h+1) a)).drop ((j+1+1)*1))→
    MendPost F base (h+1) ⟨some ⟨g,0,none⟩,cap⟩ ks (j+1) w (.returned (.slice (some ⟨g,0,none⟩) (ks.length - 1) cap)) w5:=fun w5 hwr hown=>by
   have hz:w3.heap.size≤w5.heap.size:=by have:=hwr.grown.size;rwa [World.size_setCell] at this
   have hag:Agree (Up F w w3) w3 w5:=(Agree.setCell w3 ⟨g,j,none⟩ _ (fun h=>HFG.out _ g h rfl)).trans (hwr.agree (fun i hi=>by rw [World.size_setCell];exact hi.elim (fun h=>Nat.lt_of_lt_of_le (hF2 i h) HX3.out.size) fun h=>h.2) (fun k hk h=>by cases hk;exact HFG.out _ g h rfl))
   have hup:∀ i,Up F w w3 i→Up F w w5 i:=fun i hi=>hi.imp_right fun h=>⟨h.1,Nat.lt_of_lt_of_le h.2 hz⟩
   have e0:(ptrs (h+1) ks).set j (ptr (h+1) a)=ptrs (h+1) (ks.set j a):=by rw [ptrs,ptrs,List.map_set]
   have e1:((ptrs (h+1) ks).set j (ptr (h+1) a)).take ((j+1)*1)++((ptrs (h+1) ks).set j (ptr (h+1) a)).drop ((j+1+1)*1)=ptrs (h+1) (ks.take j++[a]++ks.drop (j+2)):=by
    rw [e0,Nat.mul_one,Nat.mul_one,←ptrs_take,←ptrs_drop,←ptrs_app,mend_list1 HCL.out HCR.out]
   have e2:(ks.take j++[a]++ks.drop (j+2)).length=ks.length - 1:=by simp only [List.length_append,List.length_take,List.length_drop,List.length_cons,List.length_nil];omega
   rw [e1] at hown
   refine ⟨⟨some ⟨g,0,none⟩,cap⟩,ks.take j++[a]++ks.drop (j+2),by rw [e2],by rw [e2];exact hown,⟨l,r,[a],HCL.out,HCR.out,HP.out,rfl⟩,fun u hu=>?_,(((HX3.out.st (fun b=>(⟨some ⟨g,0,none⟩,cap⟩:Sl).row=some b)).set (p:=⟨g,j,none⟩) (.inr rfl) _).trans (hwr.st fun i hi=>hi))⟩
   refine IsN.mono hup (IsN.agree hag ?_)
   rcases List.mem_append.1 hu with hu | hu
   ·rcases List.mem_append.1 hu with hu | hu
    ·exact HIK.out u (List.mem_of_mem_take hu)
    exact HI.out u hu
   exact HIK.out u (List.mem_of_mem_drop hu)
  have hd:=delN_any (s:=⟨some ⟨g,0,none⟩,cap⟩) (n:=ks.length) (xs:=(ptrs (h+1) ks).set j (ptr (h+1) a)) (i:=j+1) (own_set HOWN3.out hlj (ptr (h+1) a)) (by omega) (by omega) (fun u hu=>by
   rcases List.mem_or_eq_of_mem_set hu with hu | rfl
   ·exact ptrs_one (h+1) ks u hu
   rfl)
  have q1:((j+1:Nat):Int)=((j:Int)+1):=by omega
  have q2:((j:Int)+1)+1=((j:Int)+2):=by omega
  rw [q1,q2] at hd
  have HD:=Lib.hid hd
  have HFIN:=Lib.hid hfin
  clear hd hfin q1 q2 hF2
  go_wp2_with fail
  refine HD.out.mono ?_
  rintro e w5 ⟨rfl,hown5,hwr5⟩
  have HO5:=Lib.hid (HFIN.out w5 hwr5 hown5)
  clear hown5 hwr5
  go_wp2_with fail
  go_ret
  exact HO5.out
 obtain ⟨a,b,rfl⟩:∃ a b,ts=[a,b]:=by
  match ts,hlen with
  | [a,b],_=>exact ⟨a,b,rfl⟩
 rw [show two (h+1) [a,b]=Ending.returned (.tuple #[ptr (h+1) a,ptr (h+1) b]) from rfl]
 have hfin:MendPost F base (h+1) ⟨some ⟨g,0,none⟩,cap⟩ ks (j+1) w (.returned (.slice (some ⟨g,0,none⟩) ks.length cap)) ((w3.setCell ⟨g,j,none⟩ (ptr (h+1) a)).setCell ⟨g,j+1,none⟩ (ptr (h+1) b)):=by
  have hag:Agree (Up F w w3) w3 ((w3.setCell ⟨g,j,none⟩ (ptr (h+1) a)).setCell ⟨g,j+1,none⟩ (ptr (h+1) b)):=(Agree.setCell w3 ⟨g,j,none⟩ _ (fun h=>HFG.out _ g h rfl)).trans (Agree.setCell _ ⟨g,j+1,none⟩ _ (fun h=>HFG.out _ g h rfl))
  have e0:((ptrs (h+1) ks).set j (ptr (h+1) a)).set (j+1) (ptr (h+1) b)=ptrs (h+1) ((ks.set j a).set (j+1) b):=by rw [ptrs,ptrs,List.map_set,List.map_set]
  have e2:(ks.take j++[a,b]++ks.drop (j+2)).length=ks.length:=by simp only [List.length_append,List.length_take,List.length_drop,List.length_cons,List.length_nil];omega
  have hown:=own_set (own_set HOWN3.out hlj (ptr (h+1) a)) (i:=j+1) (by omega) (ptr (h+1) b)
  rw [e0,mend_list HCL.out HCR.out] at hown
  refine ⟨⟨some ⟨g,0,none⟩,cap⟩,ks.take j++[a,b]++ks.drop (j+2),by rw [e2],by rw [e2];exact hown,⟨l,r,[a,b],HCL.out,HCR.out,HP.out,rfl⟩,fun u hu=>?_,(((HX3.out.st (fun b=>(⟨some ⟨g,0,none⟩,cap⟩:Sl).row=some b)).set (p:=⟨g,j,none⟩) (.inr rfl) _).set (p:=⟨g,j+1,none⟩) (.inr rfl) _)⟩
  refine IsN.mono (fun i hi=>hi.imp_right fun h=>⟨h.1,by simpa using h.2⟩) (IsN.agree hag ?_)
  rcases List.mem_append.1 hu with hu | hu
  ·rcases List.mem_append.1 hu with hu | hu
   ·exact HIK.out u (List.mem_of_mem_take hu)
   exact HI.out u hu
  exact HIK.out u (List.mem_of_mem_drop hu)
 have HFIN:=Lib.hid hfin
 clear hfin hF2
 go_wp2_with fail
 go_ret
 exact HFIN.out
theorem mend_any {w:World} {F:Nat→Prop} {base h i:Nat} {s:Sl} {ks:List (PT h)} {l r:PT h} (hm:MendIn w F base h s ks i l r) :
  Calls Tryz.prog 111 #[.slice s.a ks.length s.c,.int .i64 i] w (MendPost F base h s ks i w):=by
 match h,i,ks,l,r,hm with
 | 0,0,_,_,_,hm=>exact mend_zero0 hm
 | 0,j+1,_,_,_,hm=>exact mend_zero1 hm
 | h+1,0,_,_,_,hm=>exact mend_succ0 hm
 | h+1,j+1,_,_,_,hm=>exact mend_succ1 hm
def WoPost0 (nv:Value) (es:List Ent) (k:ByteArray) (w:World) (e:Ending) (w':World):Prop:=
 Ext w w'∧((getE es k=none∧e=.returned (.tuple #[nv,.bool false]))∨
  ((getE es k).isSome=true∧∃ u:PT 0,e=.returned (.tuple #[ptr 0 u,.bool true])∧u.2=delE es k∧w.heap.size≤u.1∧IsN w' (In w.heap.size w'.heap.size) 0 u))
theorem place_get {es:List Ent} (hs:Sorted es) (k:ByteArray):decide ((es[posE es k]?).map Prod.fst=some k)=(getE es k).isSome:=by
 rw [getE_pos hs]
 cases hx:es[posE es k]? with
 | none=>simp
 | some e=>by_cases hk:e.1=k <;> simp [hk]
theorem without_leaf {w:World} {nv:Value} {es:List Ent} (hp:∃ p,nv=.pointer p) (hh:Calls Tryz.prog 69 #[nv] w fun e w'=>e=.returned (.int .i64 0)∧w=w') (he:Calls Tryz.prog 88 #[nv] w (EntriesPost es w))
  (hs:Sorted es) (h8:es.length≤8) (k:ByteArray):Calls Tryz.prog 68 #[nv,.string k] w (WoPost0 nv es k w):=by
 obtain ⟨pp,rfl⟩:=hp
 have HS:=Lib.hid hs
 clear hs
 go_enter Tryz.func68,Tryz.ntmps68
 go_wp2_with fail
 refine hh.mono ?_
 rintro e w1 ⟨rfl,rfl⟩
 go_wp2_with fail
 refine he.mono ?_
 intro e w1 hp
 obtain ⟨s,xs,rfl,hxs,ho,hx1⟩:=hp
 have hpl:=place_any (w:=w1) (s:=s) (xs:=xs) (ho.es.mono fun i hi=>hi.2) k (by rw [hxs];exact HS.out)
 rw [hxs] at hpl
 have hxl:xs.length=es.length:=by rw [←hxs,List.length_map]
 have HXS:=Lib.hid hxs
 have HO:=Lib.hid ho
 have HX1:=Lib.hid hx1
 have hl8:xs.length≤8:=by omega
 have HXL:=Lib.hid hxl
 obtain ⟨p,hp⟩:∃ p,posE es k=p:=⟨_,rfl⟩
 unfold PlacePost at hpl
 rw [place_get HS.out,hp] at hpl
 have HP:=Lib.hid hp
 clear hxs ho hx1 he hh hxl hp
 cases hg:getE es k with
 | none=>
   rw [hg] at hpl
   have HG:=Lib.hid hg
   clear hg
   go_wp2_with fail
   refine hpl.mono ?_
   rintro e w2 ⟨rfl,hx2⟩
   have HX2:=Lib.hid (HX1.out.trans hx2)
   clear hpl hx2
   go_wp2_with fail
   go_ret2
   exact ⟨HX2.out,.inl ⟨HG.out,rfl⟩⟩
 | some v=>
   rw [hg] at hpl
   have hpn:p<xs.length:=by
    have h1:=getE_pos HS.out k
    rw [hg,HP.out] at h1
    rcases Nat.lt_or_ge p xs.length with h | h
    ·exact h
    rw [List.getElem?_eq_none (by rw [←HXL.out];exact h)] at h1;cases h1
   have hde:delE es k=es.take p++es.drop (p+1):=by
    have h1:=delE_pos HS.out k
    have h2:=place_get HS.out k
    rw [hg] at h2
    rw [if_pos (of_decide_eq_true h2),HP.out] at h1
    exact h1
   have HG:=Lib.hid hg
   have HDE:=Lib.hid hde
   have hw1:IntKind.i64.wrap ((p:Int)+1)=(p:Int)+1:=by rw [IntKind.wrap_i64];omega
   clear hg hde
   go_wp2_with fail
   refine hpl.mono ?_
   rintro e w2 ⟨rfl,hx2⟩
   have ho2:=HO.out.ext hx2
   have hd:=delE_any (i:=p) ho2.own (by omega) hpn (flatE_one xs)
   have HO2:=Lib.hid ho2
   have HX2:=Lib.hid (HX1.out.trans hx2)
   clear hpl hx2 ho2
   go_wp2_with fail
   refine hd.mono ?_
   rintro e w3 ⟨rfl,hown,hwr⟩
   have hrow:∀ i,s.row=some i→w.heap.size≤i∧i<w2.heap.size:=fun i hi=>own_row HO2.out.own hi
   have e1:(flatE xs).take (p*7)++(flatE xs).drop ((p+1)*7)=flatE (xs.take p++xs.drop (p+1)):=by rw [flatE_take,flatE_drop,flatE_app]
   rw [e1] at hown
   have hX3:Ext w w3:=HX2.out.wr hwr (fun i hi=>(hrow i hi).1)
   have hes:ES w3 (Lt w3.heap.size) s (xs.take p++xs.drop (p+1)):=rd_es (by rw [List.length_append,List.length_take,List.length_drop];omega) ((Rd.of_own hown).mono fun i hi=>hi.2)
    (fun x hx=>by
      have hxm:x∈xs:=by
       rcases List.mem_append.1 hx with hx | hx
       ·exact List.mem_of_mem_take hx
       exact List.mem_of_mem_drop hx
      exact ⟨((HO2.out.vals x hxm).1.agree (hwr.agree (fun i hi=>hi.1.2) (fun k hk h=>h.2 hk))).mono fun i hi=>Nat.lt_of_lt_of_le hi.1.2 hwr.grown.size,(HO2.out.vals x hxm).2⟩) (by rw [List.length_append,List.length_take,List.length_drop];omega)
   have hme:(xs.take p++xs.drop (p+1)).map LE.ent=delE es k:=by rw [List.map_append,List.map_take,List.map_drop,HXS.out,HDE.out]
   have hlf:=tleaf_any (n:=xs.length - 1) hes (by rw [List.length_append,List.length_take,List.length_drop];omega) (risingN_of (by rw [hme];exact delE_sorted HS.out k)) (by rw [List.length_append,List.length_take,List.length_drop];omega)
   rw [hme] at hlf
   have HX3:=Lib.hid hX3
   clear hd hown hwr hrow e1 hX3 hes hme
   go_wp2_with fail
   refine hlf.mono ?_
   rintro e w4 ⟨u,rfl,hu,hua,hun,hx4⟩
   have HU:=Lib.hid hun
   clear hlf hun
   go_wp2_with fail
   go_ret2
   exact ⟨HX3.out.trans hx4,.inr ⟨by rw [HG.out];rfl,u,rfl,hu,Nat.le_trans HX3.out.size hua,HU.out.mono fun i hi=>⟨Nat.le_trans HX3.out.size hi.1,hi.2⟩⟩⟩
def WoPost (F:Nat→Prop) (h:Nat) (t:PT h) (k:ByteArray) (w:World) (e:Ending) (w':World):Prop:=
 Ext w w'∧((getE (ents h t) k=none∧e=.returned (.tuple #[ptr h t,.bool false]))∨
  ((getE (ents h t) k).isSome=true∧∃ u:PT h,e=.returned (.tuple #[ptr h u,.bool true])∧DelR w.heap.size k h t u∧IsN w' (Up F w w') h u))
def WoPostS (F:Nat→Prop) (h:Nat) (t:PT (h+1)) (k:ByteArray) (w:World) (e:Ending) (w':World):Prop:=
 Ext w w'∧((getE (ents (h+1) t) k=none∧e=.returned (.tuple #[ptr (h+1) t,.bool false]))∨
  ((getE (ents (h+1) t) k).isSome=true∧∃ ks':List (PT h),DelK w.heap.size k h (DelR w.heap.size k h) t.2 ks'∧
    ((∃ u,ks'=[u]∧e=.returned (.tuple #[ptr h u,.bool true])∧IsN w' (Up F w w') h u)∨
     (2≤ks'.length∧∃ c:PT (h+1),c.2=ks'∧w.heap.size≤addr (h+1) c∧e=.returned (.tuple #[ptr (h+1) c,.bool true])∧IsN w' (Up F w w') (h+1) c))))
def InnPost (F:Nat→Prop) (h:Nat) (ks':List (PT h)) (w:World) (e:Ending) (w':World):Prop:=
 Ext w w'∧((∃ u,ks'=[u]∧e=.returned (ptr h u)∧IsN w' (Up F w w') h u)∨(2≤ks'.length∧∃ c:PT (h+1),c.2=ks'∧w.heap.size≤addr (h+1) c∧e=.returned (ptr (h+1) c)∧IsN w' (Up F w w') (h+1) c))
theorem without_end {w w6:World} {F:Nat→Prop} {h:Nat} {k:ByteArray} {t:PT (h+1)} {s6:Sl} {ks':List (PT h)} (hF:∀ b,F b→b<w.heap.size) (ok:OkT (h+1) t) (hs:Sorted (ents (h+1) t)) (hc:(ents (h+1) t).length≤1000000) (hh:h+1<1000000) (hg:(getE (ents (h+1) t) k).isSome=true)
  (hX:Ext w w6) (hown:w6.ownsRow w.heap.size 23 1 (.slice s6.a ks'.length s6.c) ks'.length (ptrs h ks')) (hD:DelK w.heap.size k h (DelR w.heap.size k h) t.2 ks') (hI:∀ u∈ks',IsN w6 (Up F w w6) h u) :
  Calls Tryz.prog 67 #[.slice s6.a ks'.length s6.c] w6 fun e w'=>InnPost F h ks' w e w':=by
 obtain ⟨h1,h2,h3⟩:=delK_root hD ok hs hg
 have ok2:=ok.1
 have ok8:=ok.2.1
 by_cases hone:ks'.length=1
 ·obtain ⟨u,rfl⟩:=List.length_eq_one_iff.1 hone
  refine (tinner_one (s:=s6) (k:=u) (Rd.of_own hown)).mono ?_
  rintro e w' ⟨rfl,rfl⟩
  exact ⟨hX,.inl ⟨u,rfl,rfl,hI u (List.mem_singleton.2 rfl)⟩⟩
 have hfl:=hD.ents hs (kids_pos ok) (by omega) (fun x y hx hr=>hr.ents (ok.2.2 x hx).1 (kid_sorted hs x hx))
 have hso:Sorted (ks'.flatMap (ents h)):=by rw [hfl];exact delE_sorted hs k
 have hpos:∀ x∈ks',0<(ents h x).length:=fun x hx=>ents_pos h x (h1 x hx).1 (by have:=(h1 x hx).2;omega)
 have hk:Kids w6 (Up F w w6) h ks':=⟨fun b hb=>hb.elim (fun h=>Nat.lt_of_lt_of_le (hF b h) hX.size) fun h=>h.2,hI,rising_of hso hpos,hpos,fun x hx=>by have:=size_le8 (h1 x hx).1;omega,by
  unfold cnt
  rw [hfl]
  have h5:(delE (t.2.flatMap (ents h)) k).length≤(t.2.flatMap (ents h)).length:=(delE_sublist _ k).length_le
  have h6:(t.2.flatMap (ents h)).length≤1000000:=hc
  omega,by omega⟩
 refine (tinner_any ((Rd.of_own hown).mono fun i hi=>hi.2) rfl hk (by omega) (by omega)).mono ?_
 rintro e w' ⟨c,rfl,hc2,hca,hcn,hx⟩
 refine ⟨hX.trans hx,.inr ⟨by omega,c,hc2,Nat.le_trans hX.size hca,rfl,hcn.mono fun i hi=>?_⟩⟩
 rcases hi with (hi | hi) | hi
 ·exact .inl hi
 ·exact .inr ⟨hi.1,Nat.lt_of_lt_of_le hi.2 hx.size⟩
 exact .inr ⟨Nat.le_trans hX.size hi.1,hi.2⟩
theorem without_succ {h:Nat} {k:ByteArray}
  (ih:∀ (w:World) (F:Nat→Prop) (t:PT h),(∀ b,F b→b<w.heap.size)→IsN w F h t→OkT h t→4≤size h t→Sorted (ents h t)→(ents h t).length≤1000000→Calls Tryz.prog 68 #[ptr h t,.string k] w (WoPost F h t k w))
  {w:World} {F:Nat→Prop} {t:PT (h+1)} (hF:∀ b,F b→b<w.heap.size) (hn:IsN w F (h+1) t) (ok:OkT (h+1) t) (hs:Sorted (ents (h+1) t)) (hc:(ents (h+1) t).length≤1000000) :
  Calls Tryz.prog 68 #[ptr (h+1) t,.string k] w (WoPostS F h t k w):=by
 have hpos:=kids_pos ok
 have hh:h+1<1000000:=Nat.lt_of_lt_of_le (height_lt (h+1) t ok (by have:=ok.1;show 1≤t.2.length;omega)) hc
 obtain ⟨kid,hkid,hA,hC⟩:=which_split (h:=h) (ks:=t.2) hs hpos (by have:=ok.1;omega) k
 have hkm':=List.mem_of_getElem? hkid
 have hil:=(List.getElem?_eq_some_iff.1 hkid).1
 have hlen8:=ok.2.1
 have hlen2:=ok.1
 have hks:∀ x∈t.2,IsN w F h x:=hn.2.choose_spec.2.2
 have hkc:(ents h kid).length≤1000000:=Nat.le_trans (by
  show _≤(t.2.flatMap (ents h)).length
  rw [take_mid hkid];simp only [List.flatMap_append,List.flatMap_cons,List.length_append];omega) hc
 have hge:getE (ents (h+1) t) k=getE (ents h kid) k:=getE_kid hkid hA hC
 have hih:∀ W,Ext w W→Calls Tryz.prog 68 #[ptr h kid,.string k] W (WoPost F h kid k W):=fun W hW=>
  ih W F kid (fun b hb=>Nat.lt_of_lt_of_le (hF b hb) hW.size) ((hks kid hkm').agree (hW.agree hF)) (ok.2.2 kid hkm').1 (ok.2.2 kid hkm').2 (kid_sorted hs kid hkm') hkc
 have hdr:∀ B u,(getE (ents (h+1) t) k).isSome=true→DelR B k h kid u→OkT h u∧size h kid≤size h u+1∧size h u≤size h kid:=fun B u hg hr=>hr.ok (ok.2.2 kid hkm').1 (ok.2.2 kid hkm').2 (kid_sorted hs kid hkm') (by rw [←hge];exact hg)
 have HF:=Lib.hid hF
 have HN:=Lib.hid hn
 have HS:=Lib.hid hs
 have HP:=Lib.hid hpos
 have HIH:=Lib.hid hih
 have HKS:=Lib.hid hks
 have HKID:=Lib.hid hkid
 have HGE:=Lib.hid hge
 have HOK:=Lib.hid ok
 have HC:=Lib.hid hc
 have HDR:=Lib.hid hdr
 have hnz:(((h:Int)+1) == 0)=false:=beq_eq_false_iff_ne.2 (by omega)
 clear hF hn ok hs hc hpos hih hks hkid hA hC ih hkc hge hdr
 go_enter Tryz.func68,Tryz.ntmps68
 go_wp2_with fail
 refine (height_any HN.out).mono ?_
 rintro e w1 ⟨rfl,rfl⟩
 have hkc:=kids_any HN.out (by omega)
 go_wp2_with fail
 refine hkc.mono ?_
 rintro e w1 ⟨s',rfl,hown,hx1⟩
 have hrd:Rd w1 (Lt w1.heap.size) 1 s' t.2.length (ptrs h t.2):=(Rd.of_own hown).mono fun i hi=>hi.2
 have hwh:=which_any hrd (fun x hx=>(HKS.out x hx).agree (hx1.agree HF.out)) (fun b hb=>Nat.lt_of_lt_of_le (HF.out b hb) hx1.size) HP.out k HS.out (by omega)
 obtain ⟨i,hi⟩:∃ i,whichK h t.2 k=i:=⟨_,rfl⟩
 rw [hi] at hwh hil
 have HI:=Lib.hid hi
 have HWH:=Lib.hid hwh
 have HO1:=Lib.hid hown
 have HX1:=Lib.hid hx1
 clear hi hwh hown hrd hkc hx1
 go_wp2_with fail
 refine HWH.out.mono ?_
 rintro e w2 ⟨rfl,hx2⟩
 have hX2:=HX1.out.trans hx2
 obtain ⟨g,cap,rfl,hbg,hnc,hcm,hfil⟩:=own_block HO1.out (by omega)
 have ho2:w2.ownsRow w.heap.size 23 1 (.slice (some ⟨g,0,none⟩) t.2.length cap) t.2.length (ptrs h t.2):=own_agree (s:=⟨some ⟨g,0,none⟩,cap⟩) HO1.out (hx2.agree (F:=Lt w1.heap.size) fun _ h=>h) fun b hb=>(own_row HO1.out hb).2
 have hkp:w2.cell? ⟨g,i,none⟩=some (ptr h kid):=by
  have:=ho2.cells (g:=g) rfl i (ptr h kid) (by rw [ptrs,List.getElem?_map,←HI.out,HKID.out];rfl)
  rwa [add_at,Nat.zero_add] at this
 have hil':(i:Int)<(t.2.length:Int):=by omega
 have hg2:g<w2.heap.size:=(own_row (s:=⟨some ⟨g,0,none⟩,cap⟩) ho2 rfl).2
 have hih:=HIH.out w2 hX2
 have HO2:=Lib.hid ho2
 have HX2:=Lib.hid hX2
 clear hx2 ho2 hX2 hfil
 go_wp2_with fail
 refine hih.mono ?_
 rintro e w3 ⟨hx3,(⟨hg,rfl⟩ | ⟨hg,u,rfl,hdu,hnu⟩)⟩
 ·have HX3:=Lib.hid (HX2.out.trans hx3)
  have HG:=Lib.hid hg
  clear hx3 hg hih
  go_wp2_with fail
  go_ret2
  exact ⟨HX3.out,.inl ⟨by rw [HGE.out];exact HG.out,rfl⟩⟩
 have hgt:(getE (ents (h+1) t) k).isSome=true:=by rw [HGE.out];exact hg
 obtain ⟨ou,su1,su2⟩:=HDR.out _ u hgt hdu
 have hsz3:3≤size h u:=by have:=(HOK.out.2.2 kid (List.mem_of_getElem? HKID.out)).2;omega
 have hsz8:size h u≤8:=size_le8 ou
 have hx3s:=hx3.size
 have hx2s:=HX2.out.size
 have hgF:∀ b,Up F w2 w3 b→b≠g:=fun b hb e=>by
  subst e
  rcases hb with hb | hb
  ·have:=HF.out _ hb;have hbg:w.heap.size≤b:=hbg;omega
  omega
 have hown3:w3.ownsRow w.heap.size 23 1 (.slice (some ⟨g,0,none⟩) t.2.length cap) t.2.length (ptrs h t.2):=own_agree (s:=⟨some ⟨g,0,none⟩,cap⟩) HO2.out (hx3.agree (F:=Lt w2.heap.size) fun _ h=>h) fun b hb=>(own_row (s:=⟨some ⟨g,0,none⟩,cap⟩) HO2.out hb).2
 have hown4:=own_set hown3 (i:=i) (by omega) (ptr h u)
 have e0:(ptrs h t.2).set i (ptr h u)=ptrs h (t.2.set i u):=by rw [ptrs,ptrs,List.map_set]
 rw [e0] at hown4
 have kc3:w3.cell? ⟨g,i,none⟩=some (ptr h kid):=(hx3.cell hg2).trans hkp
 have fz3:∀ o,w3.frozen? ⟨g,o,none⟩=false:=by
  obtain ⟨g',cap',e1,-,-,-,hfl⟩:=own_block (s:=⟨some ⟨g,0,none⟩,cap⟩) hown3 (by omega)
  obtain ⟨rfl,rfl⟩:g=g'∧cap=cap':=by simpa using e1
  exact hfl.frozen
 have hX4:=(HX2.out.trans hx3).setCell (p:=⟨g,i,none⟩) hbg (ptr h u)
 have hag4:Agree (Up F w2 w3) w3 (w3.setCell ⟨g,i,none⟩ (ptr h u)):=Agree.setCell w3 ⟨g,i,none⟩ _ (fun h=>hgF g h rfl)
 have hI4:∀ x∈t.2.set i u,IsN (w3.setCell ⟨g,i,none⟩ (ptr h u)) (Up F w2 w3) h x:=fun x hx=>by
  rcases List.mem_or_eq_of_mem_set hx with hx | rfl
  ·exact (((HKS.out x hx).agree ((HX2.out.trans hx3).agree HF.out)).mono fun b hb=>.inl hb).agree hag4
  exact hnu.agree hag4
 have hu4:=hI4 u (List.mem_set (by omega) u)
 have hsc:=size_any hu4 (by omega)
 have hz4:(w3.setCell ⟨g,i,none⟩ (ptr h u)).heap.size=w3.heap.size:=by simp
 have hdu':=hdu.mono hx2s
 have hkid:=HKID.out
 rw [HI.out] at hkid
 have hDK:∀ ks',((4≤size h u∧ks'=t.2.set i u)∨(size h u<4∧Mend w.heap.size h (t.2.set i u) i ks'))→DelK w.heap.size k h (DelR w.heap.size k h) t.2 ks':=fun ks' hks=>by
  refine ⟨kid,u,HKID.out,hdu',?_⟩
  rw [HI.out]
  exact hks
 have heq:(t.2.set i u).flatMap (ents h)=delE (t.2.flatMap (ents h)) k:=by
  obtain ⟨kid2,hk3,hA,hC⟩:=which_split (h:=h) (ks:=t.2) HS.out HP.out (by omega) k
  rw [HKID.out] at hk3
  simp only [Option.some.injEq] at hk3
  subst hk3
  rw [HI.out] at hA hC
  rw [set_mid hkid]
  simp only [List.flatMap_append,List.flatMap_cons]
  have e1:=hdu.ents (HOK.out.2.2 kid (List.mem_of_getElem? hkid)).1 (kid_sorted HS.out kid (List.mem_of_getElem? hkid))
  conv=>rhs;rw [take_mid hkid]
  rw [List.flatMap_append,List.flatMap_cons,delE_app hA,delE_stop hC,e1]
 have hso:Sorted ((t.2.set i u).flatMap (ents h)):=by
  rw [heq]
  exact delE_sorted HS.out k
 have hfl:((t.2.set i u).flatMap (ents h)).length≤1000000:=by
  rw [heq]
  exact Nat.le_trans (delE_sublist _ k).length_le HC.out
 have HFL:=Lib.hid hfl
 have HU:=Lib.hid hsc
 have HDK:=Lib.hid hDK
 have HX4:=Lib.hid hX4
 have HO4:=Lib.hid hown4
 have HI4:=Lib.hid hI4
 have HSO:=Lib.hid hso
 have HGT:=Lib.hid hgt
 have HOU:=Lib.hid ou
 have HGF:=Lib.hid hgF
 have hgb:g<w3.heap.size:=by omega
 clear hih hg hdu hnu hgt ou hown3 hown4 e0 hX4 hag4 hI4 hu4 hsc hdu' hkid hDK heq hso hfl hx3 hgF
 go_wp2_with fail
 generalize hW4:World.setCell _ _ _=W4 at *
 refine HU.out.mono ?_
 rintro e w5 ⟨rfl,q,rfl⟩
 have hX5:=HX4.out.drewN q
 have hst5:Agree (Up F w2 w3) W4 (W4.drewN q):=Agree.drewN W4 q
 have ho5:(W4.drewN q).ownsRow w.heap.size 23 1 (.slice (some ⟨g,0,none⟩) t.2.length cap) t.2.length (ptrs h (t.2.set i u)):=HO4.out
 have hz5:(W4.drewN q).heap.size=w3.heap.size:=hz4
 have hI5:∀ x∈t.2.set i u,IsN (W4.drewN q) (Up F w2 w3) h x:=fun x hx=>(HI4.out x hx).agree hst5
 generalize W4.drewN q=W5 at *
 have HX5:=Lib.hid hX5
 have HO5:=Lib.hid ho5
 have HI5:=Lib.hid hI5
 have HZ5:=Lib.hid hz5
 have hlen:(t.2.set i u).length=t.2.length:=by rw [List.length_set]
 clear hX5 hst5 ho5 hI5 hz5 kc3 fz3 hz4 hW4
 by_cases h4:size h u<4
 ·have h4':(size h u:Int)<4:=by omega
  obtain ⟨l,hl⟩:∃ l,(t.2.set i u)[i - 1]? = some l:=⟨_,List.getElem?_eq_getElem (by omega)⟩
  obtain ⟨r,hr⟩:∃ r,(t.2.set i u)[i - 1+1]? = some r:=⟨_,List.getElem?_eq_getElem (by omega)⟩
  have hoth:∀ x∈t.2.set i u,OkT h x∧3≤size h x:=fun x hx=>by
   rcases List.mem_or_eq_of_mem_set hx with hx | rfl
   ·exact ⟨(HOK.out.2.2 x hx).1,by have:=(HOK.out.2.2 x hx).2;omega⟩
   exact ⟨HOU.out,hsz3⟩
  have hsum:size h l+size h r≤11:=by
   have h8:∀ x∈t.2.set i u,size h x≤8:=fun x hx=>size_le8 (hoth x hx).1
   have hl8:=h8 l (List.mem_of_getElem? hl)
   have hr8:=h8 r (List.mem_of_getElem? hr)
   have hgi:(t.2.set i u)[i]? = some u:=by rw [List.getElem?_set_self (by omega)]
   by_cases h0:i=0
   ·subst h0
    rw [hgi] at hl
    simp only [Option.some.injEq] at hl
    subst hl;omega
   rw [show i - 1+1=i from by omega,hgi] at hr
   simp only [Option.some.injEq] at hr
   subst hr;omega
  have hmend:=mend_any (w:=W5) (F:=Up F w2 w3) (base:=w.heap.size) (s:=⟨some ⟨g,0,none⟩,cap⟩) (i:=i) (ks:=t.2.set i u) (l:=l) (r:=r)
   ⟨by rw [hlen];exact HO5.out,HX5.out.size,fun b hb=>⟨by rw [HZ5.out];exact hb.elim (fun h=>by have:=HF.out b h;have:=HX2.out.size;omega) fun h=>h.2,fun e=>by simp [Sl.row] at e;exact HGF.out b hb e.symm⟩,HI5.out,hoth,hl,hr,hsum,HSO.out,by
     have:=HFL.out
     omega,by omega,by omega⟩
  rw [hlen] at hmend
  have HM:=Lib.hid hmend
  clear hl hr hoth hsum hmend
  go_wp2_with fail
  refine HM.out.mono ?_
  rintro e w6 ⟨s6,ks6,rfl,hown6,hm6,hI6,hst6⟩
  have hX6:Ext w w6:=HX5.out.step hst6 (fun b hb=>by simp only [Sl.row,Option.map_some,Option.some.injEq] at hb;have hbg:w.heap.size≤g:=hbg;omega)
  have D:=HDK.out ks6 (.inr ⟨h4,hm6.mono HX5.out.size⟩)
  have hIw:∀ x∈ks6,IsN w6 (Up F w w6) h x:=fun x hx=>(hI6 x hx).mono fun b hb=>by
   have hz:=HZ5.out
   have hz6:=hst6.size
   rcases hb with (hb | hb) | hb
   ·exact .inl hb
   ·exact .inr ⟨by omega,by omega⟩
   exact .inr ⟨by omega,hb.2⟩
  have hend:=without_end HF.out HOK.out HS.out HC.out hh HGT.out hX6 hown6 D hIw
  have HD:=Lib.hid D
  have HE:=Lib.hid hend
  clear hown6 hm6 hI6 hst6 hX6 D hIw hend
  go_wp2_with fail
  refine HE.out.mono ?_
  rintro e w7 ⟨hx,(⟨v,hv,rfl,hnv⟩ | ⟨hv,c,hcc,hca,rfl,hcn⟩)⟩
  ·have H1:=Lib.hid hx
   have H2:=Lib.hid hnv
   clear hx hnv
   go_wp2_with fail
   go_ret2
   exact ⟨H1.out,.inr ⟨HGT.out,ks6,HD.out,.inl ⟨v,hv,rfl,H2.out⟩⟩⟩
  have H1:=Lib.hid hx
  have H2:=Lib.hid hcn
  clear hx hcn
  go_wp2_with fail
  go_ret2
  exact ⟨H1.out,.inr ⟨HGT.out,ks6,HD.out,.inr ⟨hv,c,hcc,hca,rfl,H2.out⟩⟩⟩
 have h4':¬(size h u:Int)<4:=by omega
 have D:=HDK.out _ (.inl ⟨by omega,rfl⟩)
 have hIw:∀ x∈t.2.set i u,IsN W5 (Up F w W5) h x:=fun x hx=>(HI5.out x hx).mono fun b hb=>by
  have hz:=HZ5.out
  rcases hb with hb | hb
  ·exact .inl hb
  exact .inr ⟨by omega,by omega⟩
 have hend:=without_end (s6:=⟨some ⟨g,0,none⟩,cap⟩) HF.out HOK.out HS.out HC.out hh HGT.out HX5.out (by rw [hlen];exact HO5.out) D hIw
 rw [hlen] at hend
 have HD:=Lib.hid D
 have HE:=Lib.hid hend
 clear D hIw hend
 go_wp2_with fail
 refine HE.out.mono ?_
 rintro e w7 ⟨hx,(⟨v,hv,rfl,hnv⟩ | ⟨hv,c,hcc,hca,rfl,hcn⟩)⟩
 ·have H1:=Lib.hid hx
  have H2:=Lib.hid hnv
  clear hx hnv
  go_wp2_with fail
  go_ret2
  exact ⟨H1.out,.inr ⟨HGT.out,_,HD.out,.inl ⟨v,hv,rfl,H2.out⟩⟩⟩
 have H1:=Lib.hid hx
 have H2:=Lib.hid hcn
 clear hx hcn
 go_wp2_with fail
 go_ret2
 exact ⟨H1.out,.inr ⟨HGT.out,_,HD.out,.inr ⟨hv,c,hcc,hca,rfl,H2.out⟩⟩⟩
theorem without_any {k:ByteArray}:∀ (h:Nat) (w:World) (F:Nat→Prop) (t:PT h),(∀ b,F b→b<w.heap.size)→IsN w F h t→OkT h t→4≤size h t→Sorted (ents h t)→(ents h t).length≤1000000→Calls Tryz.prog 68 #[ptr h t,.string k] w (WoPost F h t k w)
 | 0,w,F,t,hF,hn,ok,h4,hs,hc=>by
   refine (without_leaf ⟨_,rfl⟩ (height_any hn) (entries_any (hn.mono hF)) hs (show t.2.length≤8 from ok) k).mono ?_
   rintro e w' ⟨hx,(⟨hg,rfl⟩ | ⟨hg,u,rfl,hu,hb,hn'⟩)⟩
   ·exact ⟨hx,.inl ⟨hg,rfl⟩⟩
   exact ⟨hx,.inr ⟨hg,u,rfl,⟨hu,hb⟩,hn'.mono fun i hi=>.inr hi⟩⟩
 | h+1,w,F,t,hF,hn,ok,h4,hs,hc=>by
   refine (without_succ (without_any (k:=k) h) hF hn ok hs hc).mono ?_
   rintro e w' ⟨hx,(⟨hg,rfl⟩ | ⟨hg,ks',hd,h2⟩)⟩
   ·exact ⟨hx,.inl ⟨hg,rfl⟩⟩
   have h4:4≤t.2.length:=h4
   have:=(delK_root hd ok hs hg).2.2
   rcases h2 with ⟨u,rfl,-,-⟩ | ⟨-,c,rfl,hb,rfl,hn'⟩
   ·simp only [List.length_cons,List.length_nil] at this;omega
   exact ⟨hx,.inr ⟨hg,c,rfl,⟨hd,hb⟩,hn'⟩⟩
def WoPostT (F:Nat→Prop) (T:RT) (k:ByteArray) (w:World) (e:Ending) (w':World):Prop:=
 Ext w w'∧((getE (entsT T) k=none∧e=.returned (.tuple #[rootV T,.bool false]))∨
  ((getE (entsT T) k).isSome=true∧∃ (h:Nat) (u:PT h),e=.returned (.tuple #[ptr h u,.bool true])∧IsN w' (Up F w w') h u∧
    ((ents h u=[]∧DelT w.heap.size k T none)∨(0<(ents h u).length∧DelT w.heap.size k T (some ⟨h,u⟩)))))
theorem withoutT_any {w:World} {F:Nat→Prop} {T:RT} (hF:∀ b,F b→b<w.heap.size) (hT:IsT w F T) (ok:OkR T) (hc:(entsT T).length≤1000000) (k:ByteArray) :
  Calls Tryz.prog 68 #[rootV T,.string k] w (WoPostT F T k w):=by
 match T,hT,ok,hc with
 | none,_,_,_=>
   refine (without_leaf (nv:=.pointer none) (es:=[]) ⟨none,rfl⟩ (height_nil w) ((entries_nil w).mono ?_) List.Pairwise.nil (by simp) k).mono ?_
   ·rintro e w' ⟨rfl,rfl⟩
    exact ⟨Sl.none,[],rfl,rfl,OE.nil _ _,Ext.refl _⟩
   rintro e w' ⟨hx,(⟨hg,rfl⟩ | ⟨hg,u,rfl,hu,hb,hn'⟩)⟩
   ·exact ⟨hx,.inl ⟨hg,rfl⟩⟩
   simp [getE] at hg
 | some ⟨0,t⟩,hn,ok,hc=>
   have hn:IsN w F 0 t:=hn
   refine (without_leaf ⟨_,rfl⟩ (height_any hn) (entries_any (hn.mono hF)) ok.2.2 (show t.2.length≤8 from ok.1) k).mono ?_
   rintro e w' ⟨hx,(⟨hg,rfl⟩ | ⟨hg,u,rfl,hu,hb,hn'⟩)⟩
   ·exact ⟨hx,.inl ⟨hg,rfl⟩⟩
   refine ⟨hx,.inr ⟨hg,0,u,rfl,hn'.mono fun i hi=>.inr hi,?_⟩⟩
   by_cases h0:ents 0 u=[]
   ·exact .inl ⟨h0,.gone hg ⟨hu,hb⟩ h0⟩
   have:=List.length_pos_iff.2 h0
   exact .inr ⟨this,.same hg ⟨hu,hb⟩ this (.inl rfl)⟩
 | some ⟨h+1,t⟩,hn,ok,hc=>
   refine (without_succ (without_any (k:=k) h) hF hn ok.1 ok.2.2 hc).mono ?_
   rintro e w' ⟨hx,(⟨hg,rfl⟩ | ⟨hg,ks',hd,h2⟩)⟩
   ·exact ⟨hx,.inl ⟨hg,rfl⟩⟩
   have hko:=(delK_root hd ok.1 ok.2.2 hg).1
   rcases h2 with ⟨u,rfl,rfl,hn'⟩ | ⟨hl,c,rfl,hb,rfl,hn'⟩
   ·have:=hko u (List.mem_singleton.2 rfl)
    exact ⟨hx,.inr ⟨hg,h,u,rfl,hn',.inr ⟨ents_pos h u this.1 (by omega),.down hg hd⟩⟩⟩
   have hp:0<(ents (h+1) c).length:=by
    obtain ⟨x,hxm⟩:=List.exists_mem_of_length_pos (show 0<c.2.length by omega)
    have h1:=hko x hxm
    have h2:=ents_pos h x h1.1 (by omega)
    show 0<(c.2.flatMap (ents h)).length
    obtain ⟨e,he⟩:=List.exists_mem_of_length_pos h2
    exact List.length_pos_of_mem (List.mem_flatMap.2 ⟨x,hxm,he⟩)
   exact ⟨hx,.inr ⟨hg,h+1,c,rfl,hn',.inr ⟨hp,.same hg ⟨hd,hb⟩ hp (.inr hl)⟩⟩⟩
def DelPost (F:Nat→Prop) (T:RT) (k:ByteArray) (w:World) (e:Ending) (w':World):Prop:=
 ∃ T',e=.returned (.tuple #[treeV T',.bool (getE (entsT T) k).isSome])∧DelT w.heap.size k T T'∧IsT w' (Up F w w') T'∧Ext w w'
theorem delete_any {w:World} {F:Nat→Prop} {T:RT} (hF:∀ b,F b→b<w.heap.size) (hT:IsT w F T) (ok:OkR T) (hc:(entsT T).length≤1000000) (k:ByteArray) :
  Calls Tryz.prog 41 #[treeV T,.string k] w (DelPost F T k w):=by
 have hcw:∀ W,Ext w W→Calls Tryz.prog 68 #[rootV T,.string k] W (WoPostT F T k W):=fun W hW=>
  withoutT_any (fun b hb=>Nat.lt_of_lt_of_le (hF b hb) hW.size) (hT.agree (hW.agree hF)) ok hc k
 have hct:∀ W,Ext w W→Calls Tryz.prog 46 #[rootV T] W fun e w'=>e=.returned (.int .i64 (entsT T).length)∧W=w':=fun W hW=>countR_any (hT.agree (hW.agree hF))
 have hnil:entsT T=[]→T=none:=fun h0=>by
  match T,ok,h0 with
  | none,_,_=>rfl
  | some ⟨h,t⟩,ok,h0=>have:=ents_pos h t ok.1 ok.2.1;have h0:ents h t=[]:=h0;rw [h0] at this;cases this
 have hpn:∃ p,rootV T=.pointer p:=rootV_ptr T
 obtain ⟨rp,hrp⟩:=hpn
 rw [hrp] at hcw hct
 have HW:=Lib.hid hcw
 have HCT:=Lib.hid hct
 have HF:=Lib.hid hF
 have HOK:=Lib.hid ok
 have HT:=Lib.hid hT
 have HNIL:=Lib.hid hnil
 have HRP:=Lib.hid hrp
 clear hF hT ok hcw hct hnil
 rw [treeV,hrp]
 clear hrp
 go_enter Tryz.func41,Tryz.ntmps41
 go_wp2_with fail
 have hx3:Ext w ((w.alloc (.cells #[.pointer rp] 25)).alloc (.cells #[.pointer none] 25)):=((Ext.refl w).alloc _ _).alloc _ _
 have hb3:Blk ((w.alloc (.cells #[.pointer rp] 25)).alloc (.cells #[.pointer none] 25)) (w.heap.size+1) 25 #[.pointer none]:=by
  have:=Blk.new (w.alloc (.cells #[.pointer rp] 25)) 25 #[.pointer none]
  simpa using this
 generalize hW3:World.alloc _ _=W3 at *
 have hz3:W3.heap.size=w.heap.size+1+1:=by rw [←hW3];simp
 clear hW3
 refine (HW.out _ hx3).mono ?_
 rintro e w4 ⟨hx4,hor⟩
 have hb4:=hb3.ext hx4
 have hX4:=hx3.trans hx4
 have q4:w4.cell? ⟨w.heap.size+1,0,none⟩=some (.pointer none):=hb4.cell 0
 have f4:=hb4.frozen 0
 have hl4:=hb4.lt
 have HX:=Lib.hid hX4
 have hnF:∀ W',¬Up F W3 W' (w.heap.size+1):=fun W' hf=>by
  rcases hf with hf | hf
  ·have:=HF.out _ hf;omega
  have:=hf.1;omega
 have HNF:=Lib.hid hnF
 have hwW:w.heap.size≤W3.heap.size:=by omega
 clear hb3 hb4 hX4 hx3 hx4 hnF
 have hone:∃ T1 b,e=.returned (.tuple #[rootV T1,.bool b])∧b=(getE (entsT T) k).isSome∧IsT w4 (Up F W3 w4) T1∧((entsT T1).length=0→DelT w.heap.size k T none)∧((entsT T1).length≠0→DelT w.heap.size k T T1):=by
  rcases hor with ⟨hg,rfl⟩ | ⟨hg,h,u,rfl,hn',hd⟩
  ·refine ⟨T,false,by rw [HRP.out],by rw [hg];rfl,(HT.out.agree (HX.out.agree HF.out)).mono fun i hi=>.inl hi,fun h0=>?_,fun _=>.no hg⟩
   have:=HNIL.out (List.eq_nil_of_length_eq_zero h0)
   subst this
   exact .no hg
  refine ⟨some ⟨h,u⟩,true,rfl,hg.symm,hn',fun h0=>?_,fun h0=>?_⟩
  ·exact (hd.resolve_right fun hc=>by have h0:(ents h u).length=0:=h0;omega).2.mono hwW
  exact (hd.resolve_left fun h=>h0 (by show (ents _ u).length=0;rw [h.1];rfl)).2.mono hwW
 obtain ⟨T1,b,rfl,hb,hT1,hd0,hd1⟩:=hone
 have hcn:=countR_any hT1
 obtain ⟨p1,hp1⟩:=rootV_ptr T1
 have hfin:∀ W',Agree (Up F W3 w4) w4 W'→w4.heap.size≤W'.heap.size→IsT W' (Up F w W') T1:=fun W' ha hs=>(hT1.agree ha).mono fun i hi=>hi.elim .inl fun hi=>.inr ⟨Nat.le_trans hwW hi.1,Nat.lt_of_lt_of_le hi.2 hs⟩
 rw [hp1] at hcn
 have HP1:=Lib.hid hp1
 have HCN:=Lib.hid hcn
 have HB:=Lib.hid hb
 have HFIN:=Lib.hid hfin
 have HD0:=Lib.hid hd0
 have HD1:=Lib.hid hd1
 rw [hp1]
 clear hor hp1 hcn hb hfin hd0 hd1 hT1
 go_wp2_with fail
 refine HCN.out.mono ?_
 rintro e w5 ⟨rfl,rfl⟩
 by_cases h0:(entsT T1).length=0
 ·have h0':(((entsT T1).length:Int) == 0)=true:=by simp [h0]
  go_wp2_with fail
  have q0:(w4.setCell ⟨w.heap.size+1,0,none⟩ (.pointer none)).cell? ⟨w.heap.size+1,0,none⟩=some (.pointer none):=World.cell?_setCell_same w4 _ _ q4
  refine bodyPost_ret (v:=.tuple #[treeV none,.bool b]) (by simp [results,Tryz.results41,go_sem,q0];rfl) rfl ?_
  rw [HB.out]
  exact ⟨none,rfl,HD0.out h0,trivial,HX.out.setCell (p:=⟨w.heap.size+1,0,none⟩) (by show w.heap.size≤w.heap.size+1;omega) _⟩
 have h0':(((entsT T1).length:Int) == 0)=false:=beq_eq_false_iff_ne.2 (by omega)
 go_wp2_with fail
 have q0:(w4.setCell ⟨w.heap.size+1,0,none⟩ (.pointer p1)).cell? ⟨w.heap.size+1,0,none⟩=some (.pointer p1):=World.cell?_setCell_same w4 _ _ q4
 refine bodyPost_ret (v:=.tuple #[treeV T1,.bool b]) (by rw [treeV,HP1.out];simp [results,Tryz.results41,go_sem,q0]) rfl ?_
 rw [HB.out]
 exact ⟨T1,rfl,HD1.out h0,HFIN.out _ (Agree.setCell w4 ⟨w.heap.size+1,0,none⟩ _ (HNF.out w4)) (by simp),HX.out.setCell (p:=⟨w.heap.size+1,0,none⟩) (by show w.heap.size≤w.heap.size+1;omega) _⟩
theorem is_info:∃ j,Tryz.prog.info? 130=some j∧j.size≠0:=by
 have h:((Tryz.prog.info? 130).map fun i=>decide (i.size≠0))=some true:=by kernel_rfl
 cases hj:Tryz.prog.info? 130 with
 | none=>rw [hj] at h;cases h
 | some j=>rw [hj] at h;exact ⟨j,rfl,by simpa using h⟩
theorem is_same (w:World) (p:Option Addr):Calls Tryz.prog 31 #[.agg #[.pointer p],.agg #[.pointer p]] w fun e w'=>e=.returned (.bool true)∧Ext w w':=by
 obtain ⟨j,hj,-⟩:=is_info
 cases p with
 | none=>
   go_enter Tryz.func31,Tryz.ntmps31
   go_wp2_with fail
   go_ret
   exact ⟨rfl,((Ext.refl w).alloc _ _).alloc _ _⟩
 | some a=>
   have hs:=fun W=>run_eql_ptr_same (P:=Tryz.prog) W a Tryz.underlying23 hj
   go_enter Tryz.func31,Tryz.ntmps31
   go_wp2_with fail
   go_ret
   exact ⟨rfl,((Ext.refl w).alloc _ _).alloc _ _⟩
def Leads (w:World) (p:Option Addr):Prop:=∀ a,p=some a→∃ c t,w.heap[a.block]? = some (.cells c t (0,0))
theorem Leads.agree {w w':World} {p:Option Addr} (h:Leads w p) {F:Nat→Prop} (ha:Agree F w w') (hF:∀ a,p=some a→F a.block):Leads w' p:=fun a e=>by
 obtain ⟨c,t,hc⟩:=h a e
 exact ⟨c,t,(ha _ (hF a e)).trans hc⟩
theorem Leads.ext {w w':World} {p:Option Addr} (h:Leads w p) (he:Ext w w'):Leads w' p:=fun a e=>by
 obtain ⟨c,t,hc⟩:=h a e
 have hl:a.block<w.heap.size:=(Array.getElem?_eq_some_iff.1 hc).1
 exact ⟨c,t,(he.heap hl).trans hc⟩
theorem PutR.mono {A B:Nat} (hAB:A≤B) {k:ByteArray} {v:Val} {T T':RT} (h:PutR B k v T T'):PutR A k v T T':=by
 cases h with
 | one hw=>exact .one (hw.mono hAB)
 | two hw hc hb=>exact .two (hw.mono hAB) hc (Nat.le_trans hAB hb)
theorem MapAt.wide {H:Nat→Prop} {w:World} {M:Nat} {es:List Ent} (h:MapAt H w M es) (N:Nat):MapAt (fun b=>H b∨(w.heap.size≤b∧b<N)) w M es:=
 h.more (fun b hb=>.inl hb) fun b hb hg=>hg.elim id fun hh=>by omega
section
variable {H : Nat → Prop} {w : World} {M : Nat} {T : RT} {a : LA}
theorem NH.st {H:Nat→Prop} {w w':World} {M:Nat} (h:St (fun b=>b=M) w w') (hm:H M) {b:Nat} (hb:NH H w b):NH H w' b:=⟨Nat.lt_of_lt_of_le hb.1 h.size,hb.2⟩
theorem NH.agree {H:Nat→Prop} {w w':World} {M:Nat} (h:St (fun b=>b=M) w w') (hm:H M):Agree (NH H w) w w':=fun b hb=>h.block b hb.1 fun e=>hb.2 (e▸hm)
theorem DelT.none {B:Nat} {k:ByteArray} {T T':RT} (hd:DelT B k T T') (hg:(getE (entsT T) k).isSome=false):T'=T:=by
 cases hd with
 | no h=>rfl
 | same h1=>rw [show getE (entsT _) k=_ from rfl] at hg;rw [getE_entsT] at hg;rw [h1] at hg;cases hg
 | gone h1=>rw [getE_entsT] at hg;rw [h1] at hg;cases hg
 | down h1=>rw [getE_entsT] at hg;rw [h1] at hg;cases hg
theorem es_one {w:World} {g:Nat} {x:LE} (hb:Blk w g 64 x.cells.toArray) (hv:RV w (Lt w.heap.size) x.v x.sl x.so) (hk:x.k.size≤maxLen):ES w (Lt w.heap.size) ⟨some ⟨g,0,none⟩,1⟩ [x]:=
 ⟨(Rd.block (cs:=flatE [x]) (by simpa [flatE] using hb) (by decide) (by simp [flatE,LE.cells])).mono fun i hi=>by subst hi;exact hb.lt,fun y hy=>by obtain rfl:=List.mem_singleton.1 hy;exact ⟨hv,hk⟩,by simp⟩
end
end Go.Proofs.YtechahocffcbpaaGreatDoor
namespace Go.Proofs.YtechahocffcbpaaGreatDoor
section
variable {P : Program} {ops : Array Oper} {Q : Exit → Act → World → Prop} {md : Region.Mode} {S : World → Prop}
theorem held_two {i j:Nat} {oi oj:Oper} {fuel:Nat} {listed:Array Bool} {a:Act} {w:World} (hr:Region.ready md ops listed=[i,j]) (hi:ops[i]? = some oi) (hj:ops[j]? = some oj) (hw:Region.wanted oi (yielded ops a.tmps)=true) (hv:Region.wanted oj (yielded ops a.tmps)=true)
  (h:∀ K':Act→World→Prop,Shut (∀ a w,S w→(S w→wpAnyH P md ops Q S fuel (listed.setIfInBounds i true) a w)→K' a w)→Oper.wp P oi a w K' Q)
  (h':∀ K':Act→World→Prop,Shut (∀ a w,S w→(S w→wpAnyH P md ops Q S fuel (listed.setIfInBounds j true) a w)→K' a w)→Oper.wp P oj a w K' Q):wpAnyH P md ops Q S (fuel+1) listed a w:=
 wpAnyH_ready hr (by simp) (AllReadyH.cons hi (fun K' hK=>by rw [if_pos hw];exact h K' hK) (AllReadyH.cons hj (fun K' hK=>by rw [if_pos hv];exact h' K' hK) AllReadyH.nil))
end
end Go.Proofs.YtechahocffcbpaaGreatDoor
