/- What the theorem needs of the texts Mend2, Without, Del, Is, Do07, Sbs, OvMem, OvStep, OvGet, MeetO, OvStepW: no condition of its own. -/
import Derived.Laws.IdiomStrings
import Derived.WalkArith
import Derived.Maps.OwnSet
import Derived.StringKeys
import Derived.Deep.DeepCutAuto
import Derived.Deep.CutBlock
import Derived.Test.YtkhdiakpdafcdaaGreatDoorPna
import Derived.Test.YtkhdiakpdafcdaaGreatDoorPnc
import Derived.Test.YtkhdiakpdafcdaaGreatDoorPnd
import Derived.Test.YtkhdiakpdafcdaaGreatDoorPne
set_option maxRecDepth 100000
set_option maxHeartbeats 4000000
namespace Go.Proofs.YtkhdiakpdafcdaaGreatDoor
open Go.RowKit
set_option linter.unusedVariables false
set_option linter.unusedSimpArgs false
def MendPost (F:Nat→Prop) (base h:Nat) (s:Sl) (ks:List (PT h)) (i:Nat) (w:World) (e:Ending) (w':World):Prop:=
 ∃ (s':Sl) (ks':List (PT h)),e=.returned (.slice s'.a ks'.length s'.c)∧w'.ownsRow base 39 1 (.slice s'.a ks'.length s'.c) ks'.length (ptrs h ks')∧Mend w.heap.size h ks i ks'∧(∀ u∈ks',IsN w' (Up F w w') h u)∧St (fun b=>s.row=some b) w w'
structure MendIn (w:World) (F:Nat→Prop) (base h:Nat) (s:Sl) (ks:List (PT h)) (i:Nat) (l r:PT h):Prop where
 own:w.ownsRow base 39 1 (.slice s.a ks.length s.c) ks.length (ptrs h ks)
 base:base≤w.heap.size
 lt:∀ b,F b→b<w.heap.size∧s.row≠some b
 isn:∀ k∈ks,IsN w F h k
 ok:∀ k∈ks,OkT h k∧3≤size h k
 hl:ks[i - 1]? = some l
 hr:ks[i - 1+1]? = some r
 sum:size h l+size h r≤11
 sorted:Sorted (ks.flatMap (ents h))
 few:(ks.flatMap (ents h)).length≤1000000
 n8:ks.length≤8
 hh:h≤1000000
theorem two_sorted {h:Nat} {ks:List (PT h)} {j:Nat} {l r:PT h} (hs:Sorted (ks.flatMap (ents h))) (hl:ks[j]? = some l) (hr:ks[j+1]? = some r):Sorted (ents h l++ents h r):=by
 rw [two_mid hl hr] at hs
 simp only [List.flatMap_append,List.flatMap_cons] at hs
 have h2:=(sorted_app hs).2.1
 rw [←List.append_assoc] at h2
 exact (sorted_app h2).1
theorem two_few {h:Nat} {ks:List (PT h)} {j:Nat} {l r:PT h} (hl:ks[j]? = some l) (hr:ks[j+1]? = some r):(ents h l).length+(ents h r).length≤(ks.flatMap (ents h)).length:=by
 conv=>rhs;rw [two_mid hl hr]
 simp only [List.flatMap_append,List.flatMap_cons,List.length_append];omega
theorem mend_list {α:Type} {ks:List α} {j:Nat} {l r:α} (hl:ks[j]? = some l) (hr:ks[j+1]? = some r) (a b:α):(ks.set j a).set (j+1) b=ks.take j++[a,b]++ks.drop (j+2):=by
 have h1:=(List.getElem?_eq_some_iff.1 hl).1
 have h2:=(List.getElem?_eq_some_iff.1 hr).1
 conv=>lhs;rw [two_mid hl hr]
 rw [List.set_append_right _ _ (by rw [List.length_take];omega),List.length_take,Nat.min_eq_left (by omega),Nat.sub_self,List.set_cons_zero,List.set_append_right _ _ (by rw [List.length_take];omega),List.length_take,Nat.min_eq_left (by omega),show j+1 - j=1 from by omega]
 simp
theorem mend_list1 {α:Type} {ks:List α} {j:Nat} {l r:α} (hl:ks[j]? = some l) (hr:ks[j+1]? = some r) (a:α):(ks.set j a).take (j+1)++(ks.set j a).drop (j+2)=ks.take j++[a]++ks.drop (j+2):=by
 have h1:=(List.getElem?_eq_some_iff.1 hl).1
 rw [List.set_eq_take_append_cons_drop,if_pos h1]
 have hl1:(ks.take j++[a]).length=j+1:=by simp;omega
 have e1:ks.take j++a :: ks.drop (j+1)=(ks.take j++[a])++ks.drop (j+1):=by simp
 rw [e1,List.take_append_of_le_length (by omega),List.take_of_length_le (by omega),show j+2=(ks.take j++[a]).length+1 from by omega,List.drop_length_add_append,List.drop_drop,hl1]
theorem own_base {w:World} {A B e size n:Nat} {v:Value} {xs:List Value} (h:w.ownsRow B e size v n xs) (hAB:A≤B):w.ownsRow A e size v n xs:=by
 refine ⟨h.1,?_⟩
 rcases h.2 with hl | ⟨g,cap,cur,hv,hg,r⟩
 ·exact .inl hl
 exact .inr ⟨g,cap,cur,hv,Nat.le_trans hAB hg,r⟩
theorem OE.base {w:World} {A B:Nat} {s:Sl} {xs:List LE} (h:OE w B s xs) (hAB:A≤B):OE w A s xs:=⟨own_base h.own hAB,h.vals.mono fun i hi=>⟨⟨Nat.le_trans hAB hi.1.1,hi.1.2⟩,hi.2⟩,h.few⟩
theorem mend_zero0 {w:World} {F:Nat→Prop} {base:Nat} {s:Sl} {ks:List (PT (0))} {l r:PT (0)} (hm:MendIn w F base (0) s ks (0) l r) :
  Calls Tryz.prog 138 #[.slice s.a ks.length s.c,.int .i64 0] w (MendPost F base (0) s ks (0) w):=by
 have hj:1<ks.length:=(List.getElem?_eq_some_iff.1 hm.hr).1
 obtain ⟨g,cap,rfl,hbg,hnc,hcm,hfil⟩:=own_block hm.own (by omega)
 have hown:=hm.own
 have HM:=Lib.hid hm
 have hml:ks[0]? = some l:=hm.hl
 have hmr:ks[1]? = some r:=hm.hr
 have cc:∀ q u,(ptrs (0) ks)[q]? = some u→w.cell? ⟨g,q,none⟩=some u:=fun q u hq=>by
  have:=hown.cells (g:=g) rfl q u hq
  rwa [add_at,Nat.zero_add] at this
 have cl:w.cell? ⟨g,0,none⟩=some (ptr (0) l):=cc 0 _ (by rw [ptrs,List.getElem?_map,hml];rfl)
 have cr:w.cell? ⟨g,1,none⟩=some (ptr (0) r):=cc (1) _ (by rw [ptrs,List.getElem?_map,hmr];rfl)
 have hlm:=List.mem_of_getElem? hml
 have hrm:=List.mem_of_getElem? hmr
 have hgl:=hfil.lt
 have hn8:=hm.n8
 have hj1:(0:Int)<(ks.length:Int):=by omega
 have hj2:(1:Int)<(ks.length:Int):=by omega
 have hz:True:=trivial
 have HH0:=Lib.hid (fun W (hW:Agree F w W)=>height_any ((hm.isn l hlm).agree hW))
 have HCL:=Lib.hid hml
 have HCR:=Lib.hid hmr
 have HFZ:=Lib.hid hfil.frozen
 clear hown cc hfil hm hml hmr hlm hrm
 go_enter Tryz.func138,Tryz.ntmps138
 go_wp2_with fail
 go_quiet (fail)
 go_wp2_with fail
 have hxW:Ext w (w.drewN nq):=(Ext.refl w).drewN nq
 refine (HH0.out _ (Agree.drewN w nq)).mono ?_
 rintro e w0 ⟨rfl,rfl⟩
 generalize w.drewN nq=W at *
 clear cl cr
 have hne1:=entries_any (w:=W) ((((HM.out.isn l (List.mem_of_getElem? HCL.out)).agree (hxW.agree fun b hb=>(HM.out.lt b hb).1))).mono fun b hb=>Nat.lt_of_lt_of_le (HM.out.lt b hb).1 hxW.size)
 have hne2:∀ W',Ext W W'→Calls Tryz.prog 104 #[ptr 0 r] W' (EntriesPost (ents 0 r) W'):=fun W' hW'=>entries_any ((((HM.out.isn r (List.mem_of_getElem? HCR.out)).agree ((hxW.trans hW').agree fun b hb=>(HM.out.lt b hb).1))).mono fun b hb=>Nat.lt_of_lt_of_le (HM.out.lt b hb).1 (hxW.trans hW').size)
 have HE2:=Lib.hid hne2
 have HXW:=Lib.hid hxW
 clear hne2 hxW
 go_wp2_with fail
 refine hne1.mono ?_
 intro e w1 hp
 obtain ⟨sx,xs,rfl,hxs,hox,hx1⟩:=hp
 have HXS:=Lib.hid hxs
 have HOX:=Lib.hid hox
 have HX1:=Lib.hid hx1
 have he2:=HE2.out w1 hx1
 clear hne1 hxs hox hx1
 go_wp2_with fail
 refine he2.mono ?_
 intro e w2 hp
 obtain ⟨sy,ys,rfl,hys,hoy,hx2⟩:=hp
 have hrx:∀ b,sx.row=some b→W.heap.size≤b∧b<w1.heap.size:=fun b hb=>own_row HOX.out.own hb
 have hry:∀ b,sy.row=some b→w1.heap.size≤b∧b<w2.heap.size:=fun b hb=>own_row hoy.own hb
 have hs1:=HX1.out.size
 have hs2:=hx2.size
 have hox2:=HOX.out.ext hx2
 have hoy2:OE w2 W.heap.size sy ys:=hoy.base hs1
 have hl8:xs.length≤8:=by have:=(HM.out.ok l (List.mem_of_getElem? HCL.out)).1;have e1:xs.length=l.2.length:=by rw [show l.2=ents 0 l from rfl,←HXS.out,List.length_map]
                          rw [e1];exact this
 have hr8:ys.length≤8:=by have:=(HM.out.ok r (List.mem_of_getElem? HCR.out)).1;have e1:ys.length=r.2.length:=by rw [show r.2=ents 0 r from rfl,←hys,List.length_map]
                          rw [e1];exact this
 have hsum:xs.length+ys.length≤11:=by
  have e1:xs.length=size 0 l:=by rw [show size 0 l=(ents 0 l).length from rfl,←HXS.out,List.length_map]
  have e2:ys.length=size 0 r:=by rw [show size 0 r=(ents 0 r).length from rfl,←hys,List.length_map]
  rw [e1,e2];exact HM.out.sum
 have hrise:risingN (xs++ys):=risingN_of (by rw [List.map_append,HXS.out,hys];exact two_sorted HM.out.sorted HCL.out HCR.out)
 have hpr:=pairE_any hox2 hoy2 (Nat.le_trans hs1 hs2) (fun b hb hb'=>by have:=hrx b hb;have:=hry b hb';omega)
  (fun x hx=>⟨((HOX.out.vals x hx).1.agree (hx2.agree fun b hb=>hb.1.2)).mono fun b hb=>⟨Nat.lt_of_lt_of_le hb.1.2 hs2,fun h=>h.elim (fun h=>hb.2 h) (fun h=>by have:=hry b h;have:=hb.1.2;omega)⟩,(HOX.out.vals x hx).2⟩)
  (fun x hx=>⟨(hoy.vals x hx).1.mono fun b hb=>⟨hb.1.2,fun h=>h.elim (fun h=>by have:=hrx b h;have:=hb.1.1;omega) (fun h=>hb.2 h)⟩,(hoy.vals x hx).2⟩)
  hrise hl8 hr8 hsum (l:=l) (r:=r) HXS.out hys
 have hX2:=HXW.out.trans (HX1.out.trans hx2)
 have HX2:=Lib.hid hX2
 have HRX:=Lib.hid hrx
 have HRY:=Lib.hid hry
 have hsW:=HXW.out.size
 clear he2 hys hoy hx2 hrx hry hox2 hoy2 hrise hl8 hr8 hsum hX2
 go_wp2_with fail
 refine hpr.mono ?_
 rintro e w3 ⟨⟨ts,rfl,hP,hI⟩,hst⟩
 have HALL:Hid (Ext w w3∧PairR w.heap.size 0 l r ts∧∀ u∈ts,IsN w3 (Up F w w3) 0 u):=Lib.hid ⟨HX2.out.step hst (fun b hb=>hb.elim (fun h=>by have:=HRX.out b h;omega) (fun h=>by have:=HRY.out b h;omega)),hP.mono (HX2.out.size),fun u hu=>(hI u hu).mono fun i hi=>hi.elim (fun h=>h.elim) fun h=>.inr ⟨Nat.le_trans HX2.out.size h.1,h.2⟩⟩
 clear hpr hP hI hst
 obtain ⟨hX3,hP,hI⟩:=HALL.out
 have hown3:w3.ownsRow base 39 1 (.slice (some ⟨g,0,none⟩) ks.length cap) ks.length (ptrs (0) ks):=own_agree (s:=⟨some ⟨g,0,none⟩,cap⟩) HM.out.own (hX3.agree (F:=Lt w.heap.size) fun _ h=>h) fun b hb=>(own_row HM.out.own hb).2
 have hfz3:∀ o,w3.frozen? ⟨g,o,none⟩=false:=fun o=>(hX3.frozen hgl).trans (HFZ.out o)
 have hcc:∀ q u,(ptrs (0) ks)[q]? = some u→w3.cell? ⟨g,q,none⟩=some u:=fun q u hq=>by
  have:=hown3.cells (g:=g) rfl q u hq
  rwa [add_at,Nat.zero_add] at this
 have dl:w3.cell? ⟨g,0,none⟩=some (ptr (0) l):=hcc 0 _ (by rw [ptrs,List.getElem?_map,HCL.out];rfl)
 have dr:w3.cell? ⟨g,1,none⟩=some (ptr (0) r):=hcc (1) _ (by rw [ptrs,List.getElem?_map,HCR.out];rfl)
 have hlj:0<ks.length:=by omega
 have HOWN3:=Lib.hid hown3
 have HX3:=Lib.hid hX3
 have HP:=Lib.hid hP
 have HI:=Lib.hid hI
 have hlen:=hP.len
 have hFG:∀ W' x,F x∨(w.heap.size≤x∧x<W')→x≠g:=fun W' x hx e=>by
  subst e
  rcases hx with h | h
  ·exact (HM.out.lt x h).2 rfl
  omega
 have hF2:∀ x,F x→x<w.heap.size:=fun x hx=>(HM.out.lt x hx).1
 have hIK:∀ k∈ks,IsN w3 (Up F w w3) (0) k:=fun k hk=>((HM.out.isn k hk).agree (hX3.agree hF2)).mono fun i hi=>.inl hi
 have HIK:=Lib.hid hIK
 have HFG:=Lib.hid hFG
 clear hown3 hcc hX3 hP hI hIK hFG
 rcases hlen with hlen | hlen
 ·obtain ⟨a,rfl⟩:=List.length_eq_one_iff.1 hlen
  rw [show two (0) [a]=Ending.returned (.tuple #[ptr (0) a,.pointer none]) from rfl]
  have hfin:∀ w5,Wr (w3.setCell ⟨g,0,none⟩ (ptr (0) a)) w5 (some g)→w5.ownsRow base 39 1 (.slice (some ⟨g,0,none⟩) (ks.length - 1) cap) (ks.length - 1) (((ptrs (0) ks).set 0 (ptr (0) a)).take ((1)*1)++((ptrs (0) ks).set 0 (ptr (0) a)).drop ((1+1)*1))→
    MendPost F base (0) ⟨some ⟨g,0,none⟩,cap⟩ ks (0) w (.returned (.slice (some ⟨g,0,none⟩) (ks.length - 1) cap)) w5:=fun w5 hwr hown=>by
   have hz:w3.heap.size≤w5.heap.size:=by have:=hwr.grown.size;rwa [World.size_setCell] at this
   have hag:Agree (Up F w w3) w3 w5:=(Agree.setCell w3 ⟨g,0,none⟩ _ (fun h=>HFG.out _ g h rfl)).trans (hwr.agree (fun i hi=>by rw [World.size_setCell];exact hi.elim (fun h=>Nat.lt_of_lt_of_le (hF2 i h) HX3.out.size) fun h=>h.2) (fun k hk h=>by cases hk;exact HFG.out _ g h rfl))
   have hup:∀ i,Up F w w3 i→Up F w w5 i:=fun i hi=>hi.imp_right fun h=>⟨h.1,Nat.lt_of_lt_of_le h.2 hz⟩
   have e0:(ptrs (0) ks).set 0 (ptr (0) a)=ptrs (0) (ks.set 0 a):=by rw [ptrs,ptrs,List.map_set]
   have e1:((ptrs (0) ks).set 0 (ptr (0) a)).take ((1)*1)++((ptrs (0) ks).set 0 (ptr (0) a)).drop ((1+1)*1)=ptrs (0) (ks.take 0++[a]++ks.drop (0+2)):=by
    rw [e0,Nat.mul_one,Nat.mul_one,←ptrs_take,←ptrs_drop,←ptrs_app,mend_list1 HCL.out HCR.out]
   have e2:(ks.take 0++[a]++ks.drop (0+2)).length=ks.length - 1:=by simp only [List.length_append,List.length_take,List.length_drop,List.length_cons,List.length_nil];omega
   rw [e1] at hown
   refine ⟨⟨some ⟨g,0,none⟩,cap⟩,ks.take 0++[a]++ks.drop (0+2),by rw [e2],by rw [e2];exact hown,⟨l,r,[a],HCL.out,HCR.out,HP.out,rfl⟩,fun u hu=>?_,(((HX3.out.st (fun b=>(⟨some ⟨g,0,none⟩,cap⟩:Sl).row=some b)).set (p:=⟨g,0,none⟩) (.inr rfl) _).trans (hwr.st fun i hi=>hi))⟩
   refine IsN.mono hup (IsN.agree hag ?_)
   rcases List.mem_append.1 hu with hu | hu
   ·rcases List.mem_append.1 hu with hu | hu
    ·exact HIK.out u (List.mem_of_mem_take hu)
    exact HI.out u hu
   exact HIK.out u (List.mem_of_mem_drop hu)
  have hd:=delN_any (s:=⟨some ⟨g,0,none⟩,cap⟩) (n:=ks.length) (xs:=(ptrs (0) ks).set 0 (ptr (0) a)) (i:=1) (own_set HOWN3.out hlj (ptr (0) a)) (by omega) (by omega) (fun u hu=>by
   rcases List.mem_or_eq_of_mem_set hu with hu | rfl
   ·exact ptrs_one (0) ks u hu
   rfl)
  have q1:((1:Nat):Int)=(1:Int):=by omega
  have q2:(1:Int)+1=(2:Int):=by omega
  rw [q1,q2] at hd
  have HD:=Lib.hid hd
  have HFIN:=Lib.hid hfin
  clear hd hfin q1 q2 hF2
  go_wp2_with fail
  refine HD.out.mono ?_
  rintro e w5 ⟨rfl,hown5,hwr5⟩
  have HO5:=Lib.hid (HFIN.out w5 hwr5 hown5)
  clear hown5 hwr5
  go_wp2_with fail
  go_ret
  exact HO5.out
 obtain ⟨a,b,rfl⟩:∃ a b,ts=[a,b]:=by
  match ts,hlen with
  | [a,b],_=>exact ⟨a,b,rfl⟩
 rw [show two (0) [a,b]=Ending.returned (.tuple #[ptr (0) a,ptr (0) b]) from rfl]
 have hfin:MendPost F base (0) ⟨some ⟨g,0,none⟩,cap⟩ ks (0) w (.returned (.slice (some ⟨g,0,none⟩) ks.length cap)) ((w3.setCell ⟨g,0,none⟩ (ptr (0) a)).setCell ⟨g,1,none⟩ (ptr (0) b)):=by
  have hag:Agree (Up F w w3) w3 ((w3.setCell ⟨g,0,none⟩ (ptr (0) a)).setCell ⟨g,1,none⟩ (ptr (0) b)):=(Agree.setCell w3 ⟨g,0,none⟩ _ (fun h=>HFG.out _ g h rfl)).trans (Agree.setCell _ ⟨g,1,none⟩ _ (fun h=>HFG.out _ g h rfl))
  have e0:((ptrs (0) ks).set 0 (ptr (0) a)).set (1) (ptr (0) b)=ptrs (0) ((ks.set 0 a).set (1) b):=by rw [ptrs,ptrs,List.map_set,List.map_set]
  have e2:(ks.take 0++[a,b]++ks.drop (0+2)).length=ks.length:=by simp only [List.length_append,List.length_take,List.length_drop,List.length_cons,List.length_nil];omega
  have hown:=own_set (own_set HOWN3.out hlj (ptr (0) a)) (i:=1) (by omega) (ptr (0) b)
  rw [e0,mend_list HCL.out HCR.out] at hown
  refine ⟨⟨some ⟨g,0,none⟩,cap⟩,ks.take 0++[a,b]++ks.drop (0+2),by rw [e2],by rw [e2];exact hown,⟨l,r,[a,b],HCL.out,HCR.out,HP.out,rfl⟩,fun u hu=>?_,(((HX3.out.st (fun b=>(⟨some ⟨g,0,none⟩,cap⟩:Sl).row=some b)).set (p:=⟨g,0,none⟩) (.inr rfl) _).set (p:=⟨g,1,none⟩) (.inr rfl) _)⟩
  refine IsN.mono (fun i hi=>hi.imp_right fun h=>⟨h.1,by simpa using h.2⟩) (IsN.agree hag ?_)
  rcases List.mem_append.1 hu with hu | hu
  ·rcases List.mem_append.1 hu with hu | hu
   ·exact HIK.out u (List.mem_of_mem_take hu)
   exact HI.out u hu
  exact HIK.out u (List.mem_of_mem_drop hu)
 have HFIN:=Lib.hid hfin
 clear hfin hF2
 go_wp2_with fail
 go_ret
 exact HFIN.out
theorem mend_zero1 {w:World} {F:Nat→Prop} {base j:Nat} {s:Sl} {ks:List (PT (0))} {l r:PT (0)} (hm:MendIn w F base (0) s ks (j+1) l r) :
  Calls Tryz.prog 138 #[.slice s.a ks.length s.c,.int .i64 ((j:Int)+1)] w (MendPost F base (0) s ks (j+1) w):=by
 have hj:j+1<ks.length:=(List.getElem?_eq_some_iff.1 hm.hr).1
 obtain ⟨g,cap,rfl,hbg,hnc,hcm,hfil⟩:=own_block hm.own (by omega)
 have hown:=hm.own
 have HM:=Lib.hid hm
 have hml:ks[j]? = some l:=hm.hl
 have hmr:ks[j+1]? = some r:=hm.hr
 have cc:∀ q u,(ptrs (0) ks)[q]? = some u→w.cell? ⟨g,q,none⟩=some u:=fun q u hq=>by
  have:=hown.cells (g:=g) rfl q u hq
  rwa [add_at,Nat.zero_add] at this
 have cl:w.cell? ⟨g,j,none⟩=some (ptr (0) l):=cc j _ (by rw [ptrs,List.getElem?_map,hml];rfl)
 have cr:w.cell? ⟨g,j+1,none⟩=some (ptr (0) r):=cc (j+1) _ (by rw [ptrs,List.getElem?_map,hmr];rfl)
 have hlm:=List.mem_of_getElem? hml
 have hrm:=List.mem_of_getElem? hmr
 have hgl:=hfil.lt
 have hn8:=hm.n8
 have hj1:(j:Int)<(ks.length:Int):=by omega
 have hj2:(j:Int)+1<(ks.length:Int):=by omega
 have hj0:(0:Int)≤(j:Int):=by omega
 have hjb:(0:Int)≤(j:Int)+1:=by omega
 have hw1:IntKind.i64.wrap ((j:Int)+1)=(j:Int)+1:=by rw [IntKind.wrap_i64];omega
 have htn:((j:Int)+1).toNat=j+1:=by omega
 have hz:True:=trivial
 have HH0:=Lib.hid (fun W (hW:Agree F w W)=>height_any ((hm.isn l hlm).agree hW))
 have HCL:=Lib.hid hml
 have HCR:=Lib.hid hmr
 have HFZ:=Lib.hid hfil.frozen
 clear hown cc hfil hm hml hmr hlm hrm
 go_enter Tryz.func138,Tryz.ntmps138
 go_wp2_with fail
 go_quiet (fail)
 go_wp2_with fail
 have hxW:Ext w (w.drewN nq):=(Ext.refl w).drewN nq
 refine (HH0.out _ (Agree.drewN w nq)).mono ?_
 rintro e w0 ⟨rfl,rfl⟩
 generalize w.drewN nq=W at *
 clear cl cr
 have hne1:=entries_any (w:=W) ((((HM.out.isn l (List.mem_of_getElem? HCL.out)).agree (hxW.agree fun b hb=>(HM.out.lt b hb).1))).mono fun b hb=>Nat.lt_of_lt_of_le (HM.out.lt b hb).1 hxW.size)
 have hne2:∀ W',Ext W W'→Calls Tryz.prog 104 #[ptr 0 r] W' (EntriesPost (ents 0 r) W'):=fun W' hW'=>entries_any ((((HM.out.isn r (List.mem_of_getElem? HCR.out)).agree ((hxW.trans hW').agree fun b hb=>(HM.out.lt b hb).1))).mono fun b hb=>Nat.lt_of_lt_of_le (HM.out.lt b hb).1 (hxW.trans hW').size)
 have HE2:=Lib.hid hne2
 have HXW:=Lib.hid hxW
 clear hne2 hxW
 go_wp2_with fail
 refine hne1.mono ?_
 intro e w1 hp
 obtain ⟨sx,xs,rfl,hxs,hox,hx1⟩:=hp
 have HXS:=Lib.hid hxs
 have HOX:=Lib.hid hox
 have HX1:=Lib.hid hx1
 have he2:=HE2.out w1 hx1
 clear hne1 hxs hox hx1
 go_wp2_with fail
 refine he2.mono ?_
 intro e w2 hp
 obtain ⟨sy,ys,rfl,hys,hoy,hx2⟩:=hp
 have hrx:∀ b,sx.row=some b→W.heap.size≤b∧b<w1.heap.size:=fun b hb=>own_row HOX.out.own hb
 have hry:∀ b,sy.row=some b→w1.heap.size≤b∧b<w2.heap.size:=fun b hb=>own_row hoy.own hb
 have hs1:=HX1.out.size
 have hs2:=hx2.size
 have hox2:=HOX.out.ext hx2
 have hoy2:OE w2 W.heap.size sy ys:=hoy.base hs1
 have hl8:xs.length≤8:=by have:=(HM.out.ok l (List.mem_of_getElem? HCL.out)).1;have e1:xs.length=l.2.length:=by rw [show l.2=ents 0 l from rfl,←HXS.out,List.length_map]
                          rw [e1];exact this
 have hr8:ys.length≤8:=by have:=(HM.out.ok r (List.mem_of_getElem? HCR.out)).1;have e1:ys.length=r.2.length:=by rw [show r.2=ents 0 r from rfl,←hys,List.length_map]
                          rw [e1];exact this
 have hsum:xs.length+ys.length≤11:=by
  have e1:xs.length=size 0 l:=by rw [show size 0 l=(ents 0 l).length from rfl,←HXS.out,List.length_map]
  have e2:ys.length=size 0 r:=by rw [show size 0 r=(ents 0 r).length from rfl,←hys,List.length_map]
  rw [e1,e2];exact HM.out.sum
 have hrise:risingN (xs++ys):=risingN_of (by rw [List.map_append,HXS.out,hys];exact two_sorted HM.out.sorted HCL.out HCR.out)
 have hpr:=pairE_any hox2 hoy2 (Nat.le_trans hs1 hs2) (fun b hb hb'=>by have:=hrx b hb;have:=hry b hb';omega)
  (fun x hx=>⟨((HOX.out.vals x hx).1.agree (hx2.agree fun b hb=>hb.1.2)).mono fun b hb=>⟨Nat.lt_of_lt_of_le hb.1.2 hs2,fun h=>h.elim (fun h=>hb.2 h) (fun h=>by have:=hry b h;have:=hb.1.2;omega)⟩,(HOX.out.vals x hx).2⟩)
  (fun x hx=>⟨(hoy.vals x hx).1.mono fun b hb=>⟨hb.1.2,fun h=>h.elim (fun h=>by have:=hrx b h;have:=hb.1.1;omega) (fun h=>hb.2 h)⟩,(hoy.vals x hx).2⟩)
  hrise hl8 hr8 hsum (l:=l) (r:=r) HXS.out hys
 have hX2:=HXW.out.trans (HX1.out.trans hx2)
 have HX2:=Lib.hid hX2
 have HRX:=Lib.hid hrx
 have HRY:=Lib.hid hry
 have hsW:=HXW.out.size
 clear he2 hys hoy hx2 hrx hry hox2 hoy2 hrise hl8 hr8 hsum hX2
 go_wp2_with fail
 refine hpr.mono ?_
 rintro e w3 ⟨⟨ts,rfl,hP,hI⟩,hst⟩
 have HALL:Hid (Ext w w3∧PairR w.heap.size 0 l r ts∧∀ u∈ts,IsN w3 (Up F w w3) 0 u):=Lib.hid ⟨HX2.out.step hst (fun b hb=>hb.elim (fun h=>by have:=HRX.out b h;omega) (fun h=>by have:=HRY.out b h;omega)),hP.mono (HX2.out.size),fun u hu=>(hI u hu).mono fun i hi=>hi.elim (fun h=>h.elim) fun h=>.inr ⟨Nat.le_trans HX2.out.size h.1,h.2⟩⟩
 clear hpr hP hI hst
 obtain ⟨hX3,hP,hI⟩:=HALL.out
 have hown3:w3.ownsRow base 39 1 (.slice (some ⟨g,0,none⟩) ks.length cap) ks.length (ptrs (0) ks):=own_agree (s:=⟨some ⟨g,0,none⟩,cap⟩) HM.out.own (hX3.agree (F:=Lt w.heap.size) fun _ h=>h) fun b hb=>(own_row HM.out.own hb).2
 have hfz3:∀ o,w3.frozen? ⟨g,o,none⟩=false:=fun o=>(hX3.frozen hgl).trans (HFZ.out o)
 have hcc:∀ q u,(ptrs (0) ks)[q]? = some u→w3.cell? ⟨g,q,none⟩=some u:=fun q u hq=>by
  have:=hown3.cells (g:=g) rfl q u hq
  rwa [add_at,Nat.zero_add] at this
 have dl:w3.cell? ⟨g,j,none⟩=some (ptr (0) l):=hcc j _ (by rw [ptrs,List.getElem?_map,HCL.out];rfl)
 have dr:w3.cell? ⟨g,j+1,none⟩=some (ptr (0) r):=hcc (j+1) _ (by rw [ptrs,List.getElem?_map,HCR.out];rfl)
 have hlj:j<ks.length:=by omega
 have HOWN3:=Lib.hid hown3
 have HX3:=Lib.hid hX3
 have HP:=Lib.hid hP
 have HI:=Lib.hid hI
 have hlen:=hP.len
 have hFG:∀ W' x,F x∨(w.heap.size≤x∧x<W')→x≠g:=fun W' x hx e=>by
  subst e
  rcases hx with h | h
  ·exact (HM.out.lt x h).2 rfl
  omega
 have hF2:∀ x,F x→x<w.heap.size:=fun x hx=>(HM.out.lt x hx).1
 have hIK:∀ k∈ks,IsN w3 (Up F w w3) (0) k:=fun k hk=>((HM.out.isn k hk).agree (hX3.agree hF2)).mono fun i hi=>.inl hi
 have HIK:=Lib.hid hIK
 have HFG:=Lib.hid hFG
 clear hown3 hcc hX3 hP hI hIK hFG
 rcases hlen with hlen | hlen
 ·obtain ⟨a,rfl⟩:=List.length_eq_one_iff.1 hlen
  rw [show two (0) [a]=Ending.returned (.tuple #[ptr (0) a,.pointer none]) from rfl]
  have hfin:∀ w5,Wr (w3.setCell ⟨g,j,none⟩ (ptr (0) a)) w5 (some g)→w5.ownsRow base 39 1 (.slice (some ⟨g,0,none⟩) (ks.length - 1) cap) (ks.length - 1) (((ptrs (0) ks).set j (ptr (0) a)).take ((j+1)*1)++((ptrs (0) ks).set j (ptr (0) a)).drop ((j+1+1)*1))→
    MendPost F base (0) ⟨some ⟨g,0,none⟩,cap⟩ ks (j+1) w (.returned (.slice (some ⟨g,0,none⟩) (ks.length - 1) cap)) w5:=fun w5 hwr hown=>by
   have hz:w3.heap.size≤w5.heap.size:=by have:=hwr.grown.size;rwa [World.size_setCell] at this
   have hag:Agree (Up F w w3) w3 w5:=(Agree.setCell w3 ⟨g,j,none⟩ _ (fun h=>HFG.out _ g h rfl)).trans (hwr.agree (fun i hi=>by rw [World.size_setCell];exact hi.elim (fun h=>Nat.lt_of_lt_of_le (hF2 i h) HX3.out.size) fun h=>h.2) (fun k hk h=>by cases hk;exact HFG.out _ g h rfl))
   have hup:∀ i,Up F w w3 i→Up F w w5 i:=fun i hi=>hi.imp_right fun h=>⟨h.1,Nat.lt_of_lt_of_le h.2 hz⟩
   have e0:(ptrs (0) ks).set j (ptr (0) a)=ptrs (0) (ks.set j a):=by rw [ptrs,ptrs,List.map_set]
   have e1:((ptrs (0) ks).set j (ptr (0) a)).take ((j+1)*1)++((ptrs (0) ks).set j (ptr (0) a)).drop ((j+1+1)*1)=ptrs (0) (ks.take j++[a]++ks.drop (j+2)):=by
    rw [e0,Nat.mul_one,Nat.mul_one,←ptrs_take,←ptrs_drop,←ptrs_app,mend_list1 HCL.out HCR.out]
   have e2:(ks.take j++[a]++ks.drop (j+2)).length=ks.length - 1:=by simp only [List.length_append,List.length_take,List.length_drop,List.length_cons,List.length_nil];omega
   rw [e1] at hown
   refine ⟨⟨some ⟨g,0,none⟩,cap⟩,ks.take j++[a]++ks.drop (j+2),by rw [e2],by rw [e2];exact hown,⟨l,r,[a],HCL.out,HCR.out,HP.out,rfl⟩,fun u hu=>?_,(((HX3.out.st (fun b=>(⟨some ⟨g,0,none⟩,cap⟩:Sl).row=some b)).set (p:=⟨g,j,none⟩) (.inr rfl) _).trans (hwr.st fun i hi=>hi))⟩
   refine IsN.mono hup (IsN.agree hag ?_)
   rcases List.mem_append.1 hu with hu | hu
   ·rcases List.mem_append.1 hu with hu | hu
    ·exact HIK.out u (List.mem_of_mem_take hu)
    exact HI.out u hu
   exact HIK.out u (List.mem_of_mem_drop hu)
  have hd:=delN_any (s:=⟨some ⟨g,0,none⟩,cap⟩) (n:=ks.length) (xs:=(ptrs (0) ks).set j (ptr (0) a)) (i:=j+1) (own_set HOWN3.out hlj (ptr (0) a)) (by omega) (by omega) (fun u hu=>by
   rcases List.mem_or_eq_of_mem_set hu with hu | rfl
   ·exact ptrs_one (0) ks u hu
   rfl)
  have q1:((j+1:Nat):Int)=((j:Int)+1):=by omega
  have q2:((j:Int)+1)+1=((j:Int)+2):=by omega
  rw [q1,q2] at hd
  have HD:=Lib.hid hd
  have HFIN:=Lib.hid hfin
  clear hd hfin q1 q2 hF2
  go_wp2_with fail
  refine HD.out.mono ?_
  rintro e w5 ⟨rfl,hown5,hwr5⟩
  have HO5:=Lib.hid (HFIN.out w5 hwr5 hown5)
  clear hown5 hwr5
  go_wp2_with fail
  go_ret
  exact HO5.out
 obtain ⟨a,b,rfl⟩:∃ a b,ts=[a,b]:=by
  match ts,hlen with
  | [a,b],_=>exact ⟨a,b,rfl⟩
 rw [show two (0) [a,b]=Ending.returned (.tuple #[ptr (0) a,ptr (0) b]) from rfl]
 have hfin:MendPost F base (0) ⟨some ⟨g,0,none⟩,cap⟩ ks (j+1) w (.returned (.slice (some ⟨g,0,none⟩) ks.length cap)) ((w3.setCell ⟨g,j,none⟩ (ptr (0) a)).setCell ⟨g,j+1,none⟩ (ptr (0) b)):=by
  have hag:Agree (Up F w w3) w3 ((w3.setCell ⟨g,j,none⟩ (ptr (0) a)).setCell ⟨g,j+1,none⟩ (ptr (0) b)):=(Agree.setCell w3 ⟨g,j,none⟩ _ (fun h=>HFG.out _ g h rfl)).trans (Agree.setCell _ ⟨g,j+1,none⟩ _ (fun h=>HFG.out _ g h rfl))
  have e0:((ptrs (0) ks).set j (ptr (0) a)).set (j+1) (ptr (0) b)=ptrs (0) ((ks.set j a).set (j+1) b):=by rw [ptrs,ptrs,List.map_set,List.map_set]
  have e2:(ks.take j++[a,b]++ks.drop (j+2)).length=ks.length:=by simp only [List.length_append,List.length_take,List.length_drop,List.length_cons,List.length_nil];omega
  have hown:=own_set (own_set HOWN3.out hlj (ptr (0) a)) (i:=j+1) (by omega) (ptr (0) b)
  rw [e0,mend_list HCL.out HCR.out] at hown
  refine ⟨⟨some ⟨g,0,none⟩,cap⟩,ks.take j++[a,b]++ks.drop (j+2),by rw [e2],by rw [e2];exact hown,⟨l,r,[a,b],HCL.out,HCR.out,HP.out,rfl⟩,fun u hu=>?_,(((HX3.out.st (fun b=>(⟨some ⟨g,0,none⟩,cap⟩:Sl).row=some b)).set (p:=⟨g,j,none⟩) (.inr rfl) _).set (p:=⟨g,j+1,none⟩) (.inr rfl) _)⟩
  refine IsN.mono (fun i hi=>hi.imp_right fun h=>⟨h.1,by simpa using h.2⟩) (IsN.agree hag ?_)
  rcases List.mem_append.1 hu with hu | hu
  ·rcases List.mem_append.1 hu with hu | hu
   ·exact HIK.out u (List.mem_of_mem_take hu)
   exact HI.out u hu
  exact HIK.out u (List.mem_of_mem_drop hu)
 have HFIN:=Lib.hid hfin
 clear hfin hF2
 go_wp2_with fail
 go_ret
 exact HFIN.out
theorem mend_succ0 {w:World} {F:Nat→Prop} {base h:Nat} {s:Sl} {ks:List (PT (h+1))} {l r:PT (h+1)} (hm:MendIn w F base (h+1) s ks (0) l r) :
  Calls Tryz.prog 138 #[.slice s.a ks.length s.c,.int .i64 0] w (MendPost F base (h+1) s ks (0) w):=by
 have hj:1<ks.length:=(List.getElem?_eq_some_iff.1 hm.hr).1
 obtain ⟨g,cap,rfl,hbg,hnc,hcm,hfil⟩:=own_block hm.own (by omega)
 have hown:=hm.own
 have HM:=Lib.hid hm
 have hml:ks[0]? = some l:=hm.hl
 have hmr:ks[1]? = some r:=hm.hr
 have cc:∀ q u,(ptrs (h+1) ks)[q]? = some u→w.cell? ⟨g,q,none⟩=some u:=fun q u hq=>by
  have:=hown.cells (g:=g) rfl q u hq
  rwa [add_at,Nat.zero_add] at this
 have cl:w.cell? ⟨g,0,none⟩=some (ptr (h+1) l):=cc 0 _ (by rw [ptrs,List.getElem?_map,hml];rfl)
 have cr:w.cell? ⟨g,1,none⟩=some (ptr (h+1) r):=cc (1) _ (by rw [ptrs,List.getElem?_map,hmr];rfl)
 have hlm:=List.mem_of_getElem? hml
 have hrm:=List.mem_of_getElem? hmr
 have hgl:=hfil.lt
 have hn8:=hm.n8
 have hj1:(0:Int)<(ks.length:Int):=by omega
 have hj2:(1:Int)<(ks.length:Int):=by omega
 have hz:(((h:Int)+1) == 0)=false:=beq_eq_false_iff_ne.2 (by omega)
 have HH0:=Lib.hid (fun W (hW:Agree F w W)=>height_any ((hm.isn l hlm).agree hW))
 have HCL:=Lib.hid hml
 have HCR:=Lib.hid hmr
 have HFZ:=Lib.hid hfil.frozen
 clear hown cc hfil hm hml hmr hlm hrm
 go_enter Tryz.func138,Tryz.ntmps138
 go_wp2_with fail
 go_quiet (fail)
 go_wp2_with fail
 have hxW:Ext w (w.drewN nq):=(Ext.refl w).drewN nq
 refine (HH0.out _ (Agree.drewN w nq)).mono ?_
 rintro e w0 ⟨rfl,rfl⟩
 generalize w.drewN nq=W at *
 clear cl cr
 have hkk:∀ W',Ext W W'→∀ x,x∈ks→Calls Tryz.prog 98 #[ptr (h+1) x] W' (ClonePost 39 x.2.length (ptrs h x.2) W'):=fun W' hW' x hx=>kids_any ((HM.out.isn x hx).agree ((hxW.trans hW').agree fun b hb=>(HM.out.lt b hb).1)) (by have:=(HM.out.ok x hx).1.2.1;omega)
 have hne1:=hkk W (Ext.refl W) l (List.mem_of_getElem? HCL.out)
 have HKK:=Lib.hid hkk
 have HXW:=Lib.hid hxW
 clear hkk hxW
 go_wp2_with fail
 refine hne1.mono ?_
 rintro e w1 ⟨sx,rfl,hox,hx1⟩
 have HOX:=Lib.hid hox
 have HX1:=Lib.hid hx1
 have he2:=HKK.out w1 hx1 r (List.mem_of_getElem? HCR.out)
 clear hne1 hox hx1
 go_wp2_with fail
 refine he2.mono ?_
 rintro e w2 ⟨sy,rfl,hoy,hx2⟩
 have hrx:∀ b,sx.row=some b→W.heap.size≤b∧b<w1.heap.size:=fun b hb=>own_row HOX.out hb
 have hry:∀ b,sy.row=some b→w1.heap.size≤b∧b<w2.heap.size:=fun b hb=>own_row hoy hb
 have hs1:=HX1.out.size
 have hs2:=hx2.size
 have hsW:=HXW.out.size
 have hox2:w2.ownsRow W.heap.size 39 1 (.slice sx.a l.2.length sx.c) l.2.length (ptrs h l.2):=own_agree HOX.out (hx2.agree (F:=Lt w1.heap.size) fun _ h=>h) fun b hb=>(hrx b hb).2
 have hoy2:w2.ownsRow W.heap.size 39 1 (.slice sy.a r.2.length sy.c) r.2.length (ptrs h r.2):=own_base hoy hs1
 have okl:=HM.out.ok l (List.mem_of_getElem? HCL.out)
 have okr:=HM.out.ok r (List.mem_of_getElem? HCR.out)
 have hX2:=HXW.out.trans (HX1.out.trans hx2)
 have hso:=two_sorted HM.out.sorted HCL.out HCR.out
 have hfe:=two_few (ks:=ks) HCL.out HCR.out
 have hkp:∀ x∈l.2++r.2,OkT h x∧4≤size h x∧IsN w F h x:=fun x hx=>by
  rcases List.mem_append.1 hx with hx | hx
  ·exact ⟨(okl.1.2.2 x hx).1,(okl.1.2.2 x hx).2,(HM.out.isn l (List.mem_of_getElem? HCL.out)).2.choose_spec.2.2 x hx⟩
  exact ⟨(okr.1.2.2 x hx).1,(okr.1.2.2 x hx).2,(HM.out.isn r (List.mem_of_getElem? HCR.out)).2.choose_spec.2.2 x hx⟩
 have hpos:∀ x∈l.2++r.2,0<(ents h x).length:=fun x hx=>ents_pos h x (hkp x hx).1 (by have:=(hkp x hx).2.1;omega)
 have hso2:Sorted ((l.2++r.2).flatMap (ents h)):=by rw [List.flatMap_append];exact hso
 have hkids:Kids w2 F h (l.2++r.2):=⟨fun b hb=>Nat.lt_of_lt_of_le (HM.out.lt b hb).1 hX2.size,fun x hx=>(hkp x hx).2.2.agree (hX2.agree fun b hb=>(HM.out.lt b hb).1),rising_of hso2 hpos,hpos,fun x hx=>by have:=size_le8 (hkp x hx).1;omega,by
  unfold cnt
  rw [List.flatMap_append,List.length_append]
  have h1:(ents (h+1) l).length+(ents (h+1) r).length≤1000000:=Nat.le_trans hfe HM.out.few
  have h2:(l.2.flatMap (ents h)).length=(ents (h+1) l).length:=rfl
  have h3:(r.2.flatMap (ents h)).length=(ents (h+1) r).length:=rfl
  omega,by have:=HM.out.hh;omega⟩
 have hpr:=pairN_any (F:=F) (l:=l) (r:=r) hox2 hoy2 (Nat.le_trans hs1 hs2) (fun b hb hb'=>by have:=hrx b hb;have:=hry b hb';omega)
  (fun b hb hb'=>by
    have:=(HM.out.lt b hb).1
    rcases hb' with h | h
    ·have:=hrx b h;omega
    have:=hry b h;omega) hkids okl.2 okr.2 okl.1.2.1 okr.1.2.1 HM.out.sum
 have HX2:=Lib.hid hX2
 have HRX:=Lib.hid hrx
 have HRY:=Lib.hid hry
 clear he2 hoy hx2 hrx hry hox2 hoy2 hX2 hso hfe hkp hpos hso2 hkids okl okr
 go_wp2_with fail
 refine hpr.mono ?_
 rintro e w3 ⟨⟨ts,rfl,hP,hI⟩,hst⟩
 have HALL:Hid (Ext w w3∧PairR w.heap.size (h+1) l r ts∧∀ u∈ts,IsN w3 (Up F w w3) (h+1) u):=Lib.hid ⟨HX2.out.step hst (fun b hb=>hb.elim (fun h=>by have:=HRX.out b h;omega) (fun h=>by have:=HRY.out b h;omega)),hP.mono (HX2.out.size),fun u hu=>(hI u hu).mono fun i hi=>hi.imp_right fun h=>⟨Nat.le_trans HX2.out.size h.1,h.2⟩⟩
 clear hpr hP hI hst
 obtain ⟨hX3,hP,hI⟩:=HALL.out
 have hown3:w3.ownsRow base 39 1 (.slice (some ⟨g,0,none⟩) ks.length cap) ks.length (ptrs (h+1) ks):=own_agree (s:=⟨some ⟨g,0,none⟩,cap⟩) HM.out.own (hX3.agree (F:=Lt w.heap.size) fun _ h=>h) fun b hb=>(own_row HM.out.own hb).2
 have hfz3:∀ o,w3.frozen? ⟨g,o,none⟩=false:=fun o=>(hX3.frozen hgl).trans (HFZ.out o)
 have hcc:∀ q u,(ptrs (h+1) ks)[q]? = some u→w3.cell? ⟨g,q,none⟩=some u:=fun q u hq=>by
  have:=hown3.cells (g:=g) rfl q u hq
  rwa [add_at,Nat.zero_add] at this
 have dl:w3.cell? ⟨g,0,none⟩=some (ptr (h+1) l):=hcc 0 _ (by rw [ptrs,List.getElem?_map,HCL.out];rfl)
 have dr:w3.cell? ⟨g,1,none⟩=some (ptr (h+1) r):=hcc (1) _ (by rw [ptrs,List.getElem?_map,HCR.out];rfl)
 have hlj:0<ks.length:=by omega
 have HOWN3:=Lib.hid hown3
 have HX3:=Lib.hid hX3
 have HP:=Lib.hid hP
 have HI:=Lib.hid hI
 have hlen:=hP.len
 have hFG:∀ W' x,F x∨(w.heap.size≤x∧x<W')→x≠g:=fun W' x hx e=>by
  subst e
  rcases hx with h | h
  ·exact (HM.out.lt x h).2 rfl
  omega
 have hF2:∀ x,F x→x<w.heap.size:=fun x hx=>(HM.out.lt x hx).1
 have hIK:∀ k∈ks,IsN w3 (Up F w w3) (h+1) k:=fun k hk=>((HM.out.isn k hk).agree (hX3.agree hF2)).mono fun i hi=>.inl hi
 have HIK:=Lib.hid hIK
 have HFG:=Lib.hid hFG
 clear hown3 hcc hX3 hP hI hIK hFG
 rcases hlen with hlen | hlen
 ·obtain ⟨a,rfl⟩:=List.length_eq_one_iff.1 hlen
  rw [show two (h+1) [a]=Ending.returned (.tuple #[ptr (h+1) a,.pointer none]) from rfl]
  have hfin:∀ w5,Wr (w3.setCell ⟨g,0,none⟩ (ptr (h+1) a)) w5 (some g)→w5.ownsRow base 39 1 (.slice (some ⟨g,0,none⟩) (ks.length - 1) cap) (ks.length - 1) (((ptrs (h+1) ks).set 0 (ptr (h+1) a)).take ((1)*1)++((ptrs (h+1) ks).set 0 (ptr (h+1) a)).drop ((1+1)*1))→
    MendPost F base (h+1) ⟨some ⟨g,0,none⟩,cap⟩ ks (0) w (.returned (.slice (some ⟨g,0,none⟩) (ks.length - 1) cap)) w5:=fun w5 hwr hown=>by
   have hz:w3.heap.size≤w5.heap.size:=by have:=hwr.grown.size;rwa [World.size_setCell] at this
   have hag:Agree (Up F w w3) w3 w5:=(Agree.setCell w3 ⟨g,0,none⟩ _ (fun h=>HFG.out _ g h rfl)).trans (hwr.agree (fun i hi=>by rw [World.size_setCell];exact hi.elim (fun h=>Nat.lt_of_lt_of_le (hF2 i h) HX3.out.size) fun h=>h.2) (fun k hk h=>by cases hk;exact HFG.out _ g h rfl))
   have hup:∀ i,Up F w w3 i→Up F w w5 i:=fun i hi=>hi.imp_right fun h=>⟨h.1,Nat.lt_of_lt_of_le h.2 hz⟩
   have e0:(ptrs (h+1) ks).set 0 (ptr (h+1) a)=ptrs (h+1) (ks.set 0 a):=by rw [ptrs,ptrs,List.map_set]
   have e1:((ptrs (h+1) ks).set 0 (ptr (h+1) a)).take ((1)*1)++((ptrs (h+1) ks).set 0 (ptr (h+1) a)).drop ((1+1)*1)=ptrs (h+1) (ks.take 0++[a]++ks.drop (0+2)):=by
    rw [e0,Nat.mul_one,Nat.mul_one,←ptrs_take,←ptrs_drop,←ptrs_app,mend_list1 HCL.out HCR.out]
   have e2:(ks.take 0++[a]++ks.drop (0+2)).length=ks.length - 1:=by simp only [List.length_append,List.length_take,List.length_drop,List.length_cons,List.length_nil];omega
   rw [e1] at hown
   refine ⟨⟨some ⟨g,0,none⟩,cap⟩,ks.take 0++[a]++ks.drop (0+2),by rw [e2],by rw [e2];exact hown,⟨l,r,[a],HCL.out,HCR.out,HP.out,rfl⟩,fun u hu=>?_,(((HX3.out.st (fun b=>(⟨some ⟨g,0,none⟩,cap⟩:Sl).row=some b)).set (p:=⟨g,0,none⟩) (.inr rfl) _).trans (hwr.st fun i hi=>hi))⟩
   refine IsN.mono hup (IsN.agree hag ?_)
   rcases List.mem_append.1 hu with hu | hu
   ·rcases List.mem_append.1 hu with hu | hu
    ·exact HIK.out u (List.mem_of_mem_take hu)
    exact HI.out u hu
   exact HIK.out u (List.mem_of_mem_drop hu)
  have hd:=delN_any (s:=⟨some ⟨g,0,none⟩,cap⟩) (n:=ks.length) (xs:=(ptrs (h+1) ks).set 0 (ptr (h+1) a)) (i:=1) (own_set HOWN3.out hlj (ptr (h+1) a)) (by omega) (by omega) (fun u hu=>by
   rcases List.mem_or_eq_of_mem_set hu with hu | rfl
   ·exact ptrs_one (h+1) ks u hu
   rfl)
  have q1:((1:Nat):Int)=(1:Int):=by omega
  have q2:(1:Int)+1=(2:Int):=by omega
  rw [q1,q2] at hd
  have HD:=Lib.hid hd
  have HFIN:=Lib.hid hfin
  clear hd hfin q1 q2 hF2
  go_wp2_with fail
  refine HD.out.mono ?_
  rintro e w5 ⟨rfl,hown5,hwr5⟩
  have HO5:=Lib.hid (HFIN.out w5 hwr5 hown5)
  clear hown5 hwr5
  go_wp2_with fail
  go_ret
  exact HO5.out
 obtain ⟨a,b,rfl⟩:∃ a b,ts=[a,b]:=by
  match ts,hlen with
  | [a,b],_=>exact ⟨a,b,rfl⟩
 rw [show two (h+1) [a,b]=Ending.returned (.tuple #[ptr (h+1) a,ptr (h+1) b]) from rfl]
 have hfin:MendPost F base (h+1) ⟨some ⟨g,0,none⟩,cap⟩ ks (0) w (.returned (.slice (some ⟨g,0,none⟩) ks.length cap)) ((w3.setCell ⟨g,0,none⟩ (ptr (h+1) a)).setCell ⟨g,1,none⟩ (ptr (h+1) b)):=by
  have hag:Agree (Up F w w3) w3 ((w3.setCell ⟨g,0,none⟩ (ptr (h+1) a)).setCell ⟨g,1,none⟩ (ptr (h+1) b)):=(Agree.setCell w3 ⟨g,0,none⟩ _ (fun h=>HFG.out _ g h rfl)).trans (Agree.setCell _ ⟨g,1,none⟩ _ (fun h=>HFG.out _ g h rfl))
  have e0:((ptrs (h+1) ks).set 0 (ptr (h+1) a)).set (1) (ptr (h+1) b)=ptrs (h+1) ((ks.set 0 a).set (1) b):=by rw [ptrs,ptrs,List.map_set,List.map_set]
  have e2:(ks.take 0++[a,b]++ks.drop (0+2)).length=ks.length:=by simp only [List.length_append,List.length_take,List.length_drop,List.length_cons,List.length_nil];omega
  have hown:=own_set (own_set HOWN3.out hlj (ptr (h+1) a)) (i:=1) (by omega) (ptr (h+1) b)
  rw [e0,mend_list HCL.out HCR.out] at hown
  refine ⟨⟨some ⟨g,0,none⟩,cap⟩,ks.take 0++[a,b]++ks.drop (0+2),by rw [e2],by rw [e2];exact hown,⟨l,r,[a,b],HCL.out,HCR.out,HP.out,rfl⟩,fun u hu=>?_,(((HX3.out.st (fun b=>(⟨some ⟨g,0,none⟩,cap⟩:Sl).row=some b)).set (p:=⟨g,0,none⟩) (.inr rfl) _).set (p:=⟨g,1,none⟩) (.inr rfl) _)⟩
  refine IsN.mono (fun i hi=>hi.imp_right fun h=>⟨h.1,by simpa using h.2⟩) (IsN.agree hag ?_)
  rcases List.mem_append.1 hu with hu | hu
  ·rcases List.mem_append.1 hu with hu | hu
   ·exact HIK.out u (List.mem_of_mem_take hu)
   exact HI.out u hu
  exact HIK.out u (List.mem_of_mem_drop hu)
 have HFIN:=Lib.hid hfin
 clear hfin hF2
 go_wp2_with fail
 go_ret
 exact HFIN.out
theorem mend_succ1 {w:World} {F:Nat→Prop} {base h j:Nat} {s:Sl} {ks:List (PT (h+1))} {l r:PT (h+1)} (hm:MendIn w F base (h+1) s ks (j+1) l r) :
  Calls Tryz.prog 138 #[.slice s.a ks.length s.c,.int .i64 ((j:Int)+1)] w (MendPost F base (h+1) s ks (j+1) w):=by
 have hj:j+1<ks.length:=(List.getElem?_eq_some_iff.1 hm.hr).1
 obtain ⟨g,cap,rfl,hbg,hnc,hcm,hfil⟩:=own_block hm.own (by omega)
 have hown:=hm.own
 have HM:=Lib.hid hm
 have hml:ks[j]? = some l:=hm.hl
 have hmr:ks[j+1]? = some r:=hm.hr
 have cc:∀ q u,(ptrs (h+1) ks)[q]? = some u→w.cell? ⟨g,q,none⟩=some u:=fun q u hq=>by
  have:=hown.cells (g:=g) rfl q u hq
  rwa [add_at,Nat.zero_add] at this
 have cl:w.cell? ⟨g,j,none⟩=some (ptr (h+1) l):=cc j _ (by rw [ptrs,List.getElem?_map,hml];rfl)
 have cr:w.cell? ⟨g,j+1,none⟩=some (ptr (h+1) r):=cc (j+1) _ (by rw [ptrs,List.getElem?_map,hmr];rfl)
 have hlm:=List.mem_of_getElem? hml
 have hrm:=List.mem_of_getElem? hmr
 have hgl:=hfil.lt
 have hn8:=hm.n8
 have hj1:(j:Int)<(ks.length:Int):=by omega
 have hj2:(j:Int)+1<(ks.length:Int):=by omega
 have hj0:(0:Int)≤(j:Int):=by omega
 have hjb:(0:Int)≤(j:Int)+1:=by omega
 have hw1:IntKind.i64.wrap ((j:Int)+1)=(j:Int)+1:=by rw [IntKind.wrap_i64];omega
 have htn:((j:Int)+1).toNat=j+1:=by omega
 have hz:(((h:Int)+1) == 0)=false:=beq_eq_false_iff_ne.2 (by omega)
 have HH0:=Lib.hid (fun W (hW:Agree F w W)=>height_any ((hm.isn l hlm).agree hW))
 have HCL:=Lib.hid hml
 have HCR:=Lib.hid hmr
 have HFZ:=Lib.hid hfil.frozen
 clear hown cc hfil hm hml hmr hlm hrm
 go_enter Tryz.func138,Tryz.ntmps138
 go_wp2_with fail
 go_quiet (fail)
 go_wp2_with fail
 have hxW:Ext w (w.drewN nq):=(Ext.refl w).drewN nq
 refine (HH0.out _ (Agree.drewN w nq)).mono ?_
 rintro e w0 ⟨rfl,rfl⟩
 generalize w.drewN nq=W at *
 clear cl cr
 have hkk:∀ W',Ext W W'→∀ x,x∈ks→Calls Tryz.prog 98 #[ptr (h+1) x] W' (ClonePost 39 x.2.length (ptrs h x.2) W'):=fun W' hW' x hx=>kids_any ((HM.out.isn x hx).agree ((hxW.trans hW').agree fun b hb=>(HM.out.lt b hb).1)) (by have:=(HM.out.ok x hx).1.2.1;omega)
 have hne1:=hkk W (Ext.refl W) l (List.mem_of_getElem? HCL.out)
 have HKK:=Lib.hid hkk
 have HXW:=Lib.hid hxW
 clear hkk hxW
 go_wp2_with fail
 refine hne1.mono ?_
 rintro e w1 ⟨sx,rfl,hox,hx1⟩
 have HOX:=Lib.hid hox
 have HX1:=Lib.hid hx1
 have he2:=HKK.out w1 hx1 r (List.mem_of_getElem? HCR.out)
 clear hne1 hox hx1
 go_wp2_with fail
 refine he2.mono ?_
 rintro e w2 ⟨sy,rfl,hoy,hx2⟩
 have hrx:∀ b,sx.row=some b→W.heap.size≤b∧b<w1.heap.size:=fun b hb=>own_row HOX.out hb
 have hry:∀ b,sy.row=some b→w1.heap.size≤b∧b<w2.heap.size:=fun b hb=>own_row hoy hb
 have hs1:=HX1.out.size
 have hs2:=hx2.size
 have hsW:=HXW.out.size
 have hox2:w2.ownsRow W.heap.size 39 1 (.slice sx.a l.2.length sx.c) l.2.length (ptrs h l.2):=own_agree HOX.out (hx2.agree (F:=Lt w1.heap.size) fun _ h=>h) fun b hb=>(hrx b hb).2
 have hoy2:w2.ownsRow W.heap.size 39 1 (.slice sy.a r.2.length sy.c) r.2.length (ptrs h r.2):=own_base hoy hs1
 have okl:=HM.out.ok l (List.mem_of_getElem? HCL.out)
 have okr:=HM.out.ok r (List.mem_of_getElem? HCR.out)
 have hX2:=HXW.out.trans (HX1.out.trans hx2)
 have hso:=two_sorted HM.out.sorted HCL.out HCR.out
 have hfe:=two_few (ks:=ks) HCL.out HCR.out
 have hkp:∀ x∈l.2++r.2,OkT h x∧4≤size h x∧IsN w F h x:=fun x hx=>by
  rcases List.mem_append.1 hx with hx | hx
  ·exact ⟨(okl.1.2.2 x hx).1,(okl.1.2.2 x hx).2,(HM.out.isn l (List.mem_of_getElem? HCL.out)).2.choose_spec.2.2 x hx⟩
  exact ⟨(okr.1.2.2 x hx).1,(okr.1.2.2 x hx).2,(HM.out.isn r (List.mem_of_getElem? HCR.out)).2.choose_spec.2.2 x hx⟩
 have hpos:∀ x∈l.2++r.2,0<(ents h x).length:=fun x hx=>ents_pos h x (hkp x hx).1 (by have:=(hkp x hx).2.1;omega)
 have hso2:Sorted ((l.2++r.2).flatMap (ents h)):=by rw [List.flatMap_append];exact hso
 have hkids:Kids w2 F h (l.2++r.2):=⟨fun b hb=>Nat.lt_of_lt_of_le (HM.out.lt b hb).1 hX2.size,fun x hx=>(hkp x hx).2.2.agree (hX2.agree fun b hb=>(HM.out.lt b hb).1),rising_of hso2 hpos,hpos,fun x hx=>by have:=size_le8 (hkp x hx).1;omega,by
  unfold cnt
  rw [List.flatMap_append,List.length_append]
  have h1:(ents (h+1) l).length+(ents (h+1) r).length≤1000000:=Nat.le_trans hfe HM.out.few
  have h2:(l.2.flatMap (ents h)).length=(ents (h+1) l).length:=rfl
  have h3:(r.2.flatMap (ents h)).length=(ents (h+1) r).length:=rfl
  omega,by have:=HM.out.hh;omega⟩
 have hpr:=pairN_any (F:=F) (l:=l) (r:=r) hox2 hoy2 (Nat.le_trans hs1 hs2) (fun b hb hb'=>by have:=hrx b hb;have:=hry b hb';omega)
  (fun b hb hb'=>by
    have:=(HM.out.lt b hb).1
    rcases hb' with h | h
    ·have:=hrx b h;omega
    have:=hry b h;omega) hkids okl.2 okr.2 okl.1.2.1 okr.1.2.1 HM.out.sum
 have HX2:=Lib.hid hX2
 have HRX:=Lib.hid hrx
 have HRY:=Lib.hid hry
 clear he2 hoy hx2 hrx hry hox2 hoy2 hX2 hso hfe hkp hpos hso2 hkids okl okr
 go_wp2_with fail
 refine hpr.mono ?_
 rintro e w3 ⟨⟨ts,rfl,hP,hI⟩,hst⟩
 have HALL:Hid (Ext w w3∧PairR w.heap.size (h+1) l r ts∧∀ u∈ts,IsN w3 (Up F w w3) (h+1) u):=Lib.hid ⟨HX2.out.step hst (fun b hb=>hb.elim (fun h=>by have:=HRX.out b h;omega) (fun h=>by have:=HRY.out b h;omega)),hP.mono (HX2.out.size),fun u hu=>(hI u hu).mono fun i hi=>hi.imp_right fun h=>⟨Nat.le_trans HX2.out.size h.1,h.2⟩⟩
 clear hpr hP hI hst
 obtain ⟨hX3,hP,hI⟩:=HALL.out
 have hown3:w3.ownsRow base 39 1 (.slice (some ⟨g,0,none⟩) ks.length cap) ks.length (ptrs (h+1) ks):=own_agree (s:=⟨some ⟨g,0,none⟩,cap⟩) HM.out.own (hX3.agree (F:=Lt w.heap.size) fun _ h=>h) fun b hb=>(own_row HM.out.own hb).2
 have hfz3:∀ o,w3.frozen? ⟨g,o,none⟩=false:=fun o=>(hX3.frozen hgl).trans (HFZ.out o)
 have hcc:∀ q u,(ptrs (h+1) ks)[q]? = some u→w3.cell? ⟨g,q,none⟩=some u:=fun q u hq=>by
  have:=hown3.cells (g:=g) rfl q u hq
  rwa [add_at,Nat.zero_add] at this
 have dl:w3.cell? ⟨g,j,none⟩=some (ptr (h+1) l):=hcc j _ (by rw [ptrs,List.getElem?_map,HCL.out];rfl)
 have dr:w3.cell? ⟨g,j+1,none⟩=some (ptr (h+1) r):=hcc (j+1) _ (by rw [ptrs,List.getElem?_map,HCR.out];rfl)
 have hlj:j<ks.length:=by omega
 have HOWN3:=Lib.hid hown3
 have HX3:=Lib.hid hX3
 have HP:=Lib.hid hP
 have HI:=Lib.hid hI
 have hlen:=hP.len
 have hFG:∀ W' x,F x∨(w.heap.size≤x∧x<W')→x≠g:=fun W' x hx e=>by
  subst e
  rcases hx with h | h
  ·exact (HM.out.lt x h).2 rfl
  omega
 have hF2:∀ x,F x→x<w.heap.size:=fun x hx=>(HM.out.lt x hx).1
 have hIK:∀ k∈ks,IsN w3 (Up F w w3) (h+1) k:=fun k hk=>((HM.out.isn k hk).agree (hX3.agree hF2)).mono fun i hi=>.inl hi
 have HIK:=Lib.hid hIK
 have HFG:=Lib.hid hFG
 clear hown3 hcc hX3 hP hI hIK hFG
 rcases hlen with hlen | hlen
 ·obtain ⟨a,rfl⟩:=List.length_eq_one_iff.1 hlen
  rw [show two (h+1) [a]=Ending.returned (.tuple #[ptr (h+1) a,.pointer none]) from rfl]
  have hfin:∀ w5,Wr (w3.setCell ⟨g,j,none⟩ (ptr (h+1) a)) w5 (some g)→w5.ownsRow base 39 1 (.slice (some ⟨g,0,none⟩) (ks.length - 1) cap) (ks.length - 1) (((ptrs (h+1) ks).set j (ptr (h+1) a)).take ((j+1)*1)++((ptrs (h+1) ks).set j (ptr (h+1) a)).drop ((j+1+1)*1))→
    MendPost F base (h+1) ⟨some ⟨g,0,none⟩,cap⟩ ks (j+1) w (.returned (.slice (some ⟨g,0,none⟩) (ks.length - 1) cap)) w5:=fun w5 hwr hown=>by
   have hz:w3.heap.size≤w5.heap.size:=by have:=hwr.grown.size;rwa [World.size_setCell] at this
   have hag:Agree (Up F w w3) w3 w5:=(Agree.setCell w3 ⟨g,j,none⟩ _ (fun h=>HFG.out _ g h rfl)).trans (hwr.agree (fun i hi=>by rw [World.size_setCell];exact hi.elim (fun h=>Nat.lt_of_lt_of_le (hF2 i h) HX3.out.size) fun h=>h.2) (fun k hk h=>by cases hk;exact HFG.out _ g h rfl))
   have hup:∀ i,Up F w w3 i→Up F w w5 i:=fun i hi=>hi.imp_right fun h=>⟨h.1,Nat.lt_of_lt_of_le h.2 hz⟩
   have e0:(ptrs (h+1) ks).set j (ptr (h+1) a)=ptrs (h+1) (ks.set j a):=by rw [ptrs,ptrs,List.map_set]
   have e1:((ptrs (h+1) ks).set j (ptr (h+1) a)).take ((j+1)*1)++((ptrs (h+1) ks).set j (ptr (h+1) a)).drop ((j+1+1)*1)=ptrs (h+1) (ks.take j++[a]++ks.drop (j+2)):=by
    rw [e0,Nat.mul_one,Nat.mul_one,←ptrs_take,←ptrs_drop,←ptrs_app,mend_list1 HCL.out HCR.out]
   have e2:(ks.take j++[a]++ks.drop (j+2)).length=ks.length - 1:=by simp only [List.length_append,List.length_take,List.length_drop,List.length_cons,List.length_nil];omega
   rw [e1] at hown
   refine ⟨⟨some ⟨g,0,none⟩,cap⟩,ks.take j++[a]++ks.drop (j+2),by rw [e2],by rw [e2];exact hown,⟨l,r,[a],HCL.out,HCR.out,HP.out,rfl⟩,fun u hu=>?_,(((HX3.out.st (fun b=>(⟨some ⟨g,0,none⟩,cap⟩:Sl).row=some b)).set (p:=⟨g,j,none⟩) (.inr rfl) _).trans (hwr.st fun i hi=>hi))⟩
   refine IsN.mono hup (IsN.agree hag ?_)
   rcases List.mem_append.1 hu with hu | hu
   ·rcases List.mem_append.1 hu with hu | hu
    ·exact HIK.out u (List.mem_of_mem_take hu)
    exact HI.out u hu
   exact HIK.out u (List.mem_of_mem_drop hu)
  have hd:=delN_any (s:=⟨some ⟨g,0,none⟩,cap⟩) (n:=ks.length) (xs:=(ptrs (h+1) ks).set j (ptr (h+1) a)) (i:=j+1) (own_set HOWN3.out hlj (ptr (h+1) a)) (by omega) (by omega) (fun u hu=>by
   rcases List.mem_or_eq_of_mem_set hu with hu | rfl
   ·exact ptrs_one (h+1) ks u hu
   rfl)
  have q1:((j+1:Nat):Int)=((j:Int)+1):=by omega
  have q2:((j:Int)+1)+1=((j:Int)+2):=by omega
  rw [q1,q2] at hd
  have HD:=Lib.hid hd
  have HFIN:=Lib.hid hfin
  clear hd hfin q1 q2 hF2
  go_wp2_with fail
  refine HD.out.mono ?_
  rintro e w5 ⟨rfl,hown5,hwr5⟩
  have HO5:=Lib.hid (HFIN.out w5 hwr5 hown5)
  clear hown5 hwr5
  go_wp2_with fail
  go_ret
  exact HO5.out
 obtain ⟨a,b,rfl⟩:∃ a b,ts=[a,b]:=by
  match ts,hlen with
  | [a,b],_=>exact ⟨a,b,rfl⟩
 rw [show two (h+1) [a,b]=Ending.returned (.tuple #[ptr (h+1) a,ptr (h+1) b]) from rfl]
 have hfin:MendPost F base (h+1) ⟨some ⟨g,0,none⟩,cap⟩ ks (j+1) w (.returned (.slice (some ⟨g,0,none⟩) ks.length cap)) ((w3.setCell ⟨g,j,none⟩ (ptr (h+1) a)).setCell ⟨g,j+1,none⟩ (ptr (h+1) b)):=by
  have hag:Agree (Up F w w3) w3 ((w3.setCell ⟨g,j,none⟩ (ptr (h+1) a)).setCell ⟨g,j+1,none⟩ (ptr (h+1) b)):=(Agree.setCell w3 ⟨g,j,none⟩ _ (fun h=>HFG.out _ g h rfl)).trans (Agree.setCell _ ⟨g,j+1,none⟩ _ (fun h=>HFG.out _ g h rfl))
  have e0:((ptrs (h+1) ks).set j (ptr (h+1) a)).set (j+1) (ptr (h+1) b)=ptrs (h+1) ((ks.set j a).set (j+1) b):=by rw [ptrs,ptrs,List.map_set,List.map_set]
  have e2:(ks.take j++[a,b]++ks.drop (j+2)).length=ks.length:=by simp only [List.length_append,List.length_take,List.length_drop,List.length_cons,List.length_nil];omega
  have hown:=own_set (own_set HOWN3.out hlj (ptr (h+1) a)) (i:=j+1) (by omega) (ptr (h+1) b)
  rw [e0,mend_list HCL.out HCR.out] at hown
  refine ⟨⟨some ⟨g,0,none⟩,cap⟩,ks.take j++[a,b]++ks.drop (j+2),by rw [e2],by rw [e2];exact hown,⟨l,r,[a,b],HCL.out,HCR.out,HP.out,rfl⟩,fun u hu=>?_,(((HX3.out.st (fun b=>(⟨some ⟨g,0,none⟩,cap⟩:Sl).row=some b)).set (p:=⟨g,j,none⟩) (.inr rfl) _).set (p:=⟨g,j+1,none⟩) (.inr rfl) _)⟩
  refine IsN.mono (fun i hi=>hi.imp_right fun h=>⟨h.1,by simpa using h.2⟩) (IsN.agree hag ?_)
  rcases List.mem_append.1 hu with hu | hu
  ·rcases List.mem_append.1 hu with hu | hu
   ·exact HIK.out u (List.mem_of_mem_take hu)
   exact HI.out u hu
  exact HIK.out u (List.mem_of_mem_drop hu)
 have HFIN:=Lib.hid hfin
 clear hfin hF2
 go_wp2_with fail
 go_ret
 exact HFIN.out
theorem mend_any {w:World} {F:Nat→Prop} {base h i:Nat} {s:Sl} {ks:List (PT h)} {l r:PT h} (hm:MendIn w F base h s ks i l r) :
  Calls Tryz.prog 138 #[.slice s.a ks.length s.c,.int .i64 i] w (MendPost F base h s ks i w):=by
 match h,i,ks,l,r,hm with
 | 0,0,_,_,_,hm=>exact mend_zero0 hm
 | 0,j+1,_,_,_,hm=>exact mend_zero1 hm
 | h+1,0,_,_,_,hm=>exact mend_succ0 hm
 | h+1,j+1,_,_,_,hm=>exact mend_succ1 hm
def WoPost0 (nv:Value) (es:List Ent) (k:ByteArray) (w:World) (e:Ending) (w':World):Prop:=
 Ext w w'∧((getE es k=none∧e=.returned (.tuple #[nv,.bool false]))∨
  ((getE es k).isSome=true∧∃ u:PT 0,e=.returned (.tuple #[ptr 0 u,.bool true])∧u.2=delE es k∧w.heap.size≤u.1∧IsN w' (In w.heap.size w'.heap.size) 0 u))
theorem place_get {es:List Ent} (hs:Sorted es) (k:ByteArray):decide ((es[posE es k]?).map Prod.fst=some k)=(getE es k).isSome:=by
 rw [getE_pos hs]
 cases hx:es[posE es k]? with
 | none=>simp
 | some e=>by_cases hk:e.1=k <;> simp [hk]
theorem without_leaf {w:World} {nv:Value} {es:List Ent} (hp:∃ p,nv=.pointer p) (hh:Calls Tryz.prog 97 #[nv] w fun e w'=>e=.returned (.int .i64 0)∧w=w') (he:Calls Tryz.prog 104 #[nv] w (EntriesPost es w))
  (hs:Sorted es) (h8:es.length≤8) (k:ByteArray):Calls Tryz.prog 91 #[nv,.string k] w (WoPost0 nv es k w):=by
 obtain ⟨pp,rfl⟩:=hp
 have HS:=Lib.hid hs
 clear hs
 go_enter Tryz.func91,Tryz.ntmps91
 go_wp2_with fail
 refine hh.mono ?_
 rintro e w1 ⟨rfl,rfl⟩
 go_wp2_with fail
 refine he.mono ?_
 intro e w1 hp
 obtain ⟨s,xs,rfl,hxs,ho,hx1⟩:=hp
 have hpl:=place_any (w:=w1) (s:=s) (xs:=xs) (ho.es.mono fun i hi=>hi.2) k (by rw [hxs];exact HS.out)
 rw [hxs] at hpl
 have hxl:xs.length=es.length:=by rw [←hxs,List.length_map]
 have HXS:=Lib.hid hxs
 have HO:=Lib.hid ho
 have HX1:=Lib.hid hx1
 have hl8:xs.length≤8:=by omega
 have HXL:=Lib.hid hxl
 obtain ⟨p,hp⟩:∃ p,posE es k=p:=⟨_,rfl⟩
 unfold PlacePost at hpl
 rw [place_get HS.out,hp] at hpl
 have HP:=Lib.hid hp
 clear hxs ho hx1 he hh hxl hp
 cases hg:getE es k with
 | none=>
   rw [hg] at hpl
   have HG:=Lib.hid hg
   clear hg
   go_wp2_with fail
   refine hpl.mono ?_
   rintro e w2 ⟨rfl,hx2⟩
   have HX2:=Lib.hid (HX1.out.trans hx2)
   clear hpl hx2
   go_wp2_with fail
   go_ret2
   exact ⟨HX2.out,.inl ⟨HG.out,rfl⟩⟩
 | some v=>
   rw [hg] at hpl
   have hpn:p<xs.length:=by
    have h1:=getE_pos HS.out k
    rw [hg,HP.out] at h1
    rcases Nat.lt_or_ge p xs.length with h | h
    ·exact h
    rw [List.getElem?_eq_none (by rw [←HXL.out];exact h)] at h1;cases h1
   have hde:delE es k=es.take p++es.drop (p+1):=by
    have h1:=delE_pos HS.out k
    have h2:=place_get HS.out k
    rw [hg] at h2
    rw [if_pos (of_decide_eq_true h2),HP.out] at h1
    exact h1
   have HG:=Lib.hid hg
   have HDE:=Lib.hid hde
   have hw1:IntKind.i64.wrap ((p:Int)+1)=(p:Int)+1:=by rw [IntKind.wrap_i64];omega
   clear hg hde
   go_wp2_with fail
   refine hpl.mono ?_
   rintro e w2 ⟨rfl,hx2⟩
   have ho2:=HO.out.ext hx2
   have hd:=delE_any (i:=p) ho2.own (by omega) hpn (flatE_one xs)
   have HO2:=Lib.hid ho2
   have HX2:=Lib.hid (HX1.out.trans hx2)
   clear hpl hx2 ho2
   go_wp2_with fail
   refine hd.mono ?_
   rintro e w3 ⟨rfl,hown,hwr⟩
   have hrow:∀ i,s.row=some i→w.heap.size≤i∧i<w2.heap.size:=fun i hi=>own_row HO2.out.own hi
   have e1:(flatE xs).take (p*7)++(flatE xs).drop ((p+1)*7)=flatE (xs.take p++xs.drop (p+1)):=by rw [flatE_take,flatE_drop,flatE_app]
   rw [e1] at hown
   have hX3:Ext w w3:=HX2.out.wr hwr (fun i hi=>(hrow i hi).1)
   have hes:ES w3 (Lt w3.heap.size) s (xs.take p++xs.drop (p+1)):=rd_es (by rw [List.length_append,List.length_take,List.length_drop];omega) ((Rd.of_own hown).mono fun i hi=>hi.2)
    (fun x hx=>by
      have hxm:x∈xs:=by
       rcases List.mem_append.1 hx with hx | hx
       ·exact List.mem_of_mem_take hx
       exact List.mem_of_mem_drop hx
      exact ⟨((HO2.out.vals x hxm).1.agree (hwr.agree (fun i hi=>hi.1.2) (fun k hk h=>h.2 hk))).mono fun i hi=>Nat.lt_of_lt_of_le hi.1.2 hwr.grown.size,(HO2.out.vals x hxm).2⟩) (by rw [List.length_append,List.length_take,List.length_drop];omega)
   have hme:(xs.take p++xs.drop (p+1)).map LE.ent=delE es k:=by rw [List.map_append,List.map_take,List.map_drop,HXS.out,HDE.out]
   have hlf:=tleaf_any (n:=xs.length - 1) hes (by rw [List.length_append,List.length_take,List.length_drop];omega) (risingN_of (by rw [hme];exact delE_sorted HS.out k)) (by rw [List.length_append,List.length_take,List.length_drop];omega)
   rw [hme] at hlf
   have HX3:=Lib.hid hX3
   clear hd hown hwr hrow e1 hX3 hes hme
   go_wp2_with fail
   refine hlf.mono ?_
   rintro e w4 ⟨u,rfl,hu,hua,hun,hx4⟩
   have HU:=Lib.hid hun
   clear hlf hun
   go_wp2_with fail
   go_ret2
   exact ⟨HX3.out.trans hx4,.inr ⟨by rw [HG.out];rfl,u,rfl,hu,Nat.le_trans HX3.out.size hua,HU.out.mono fun i hi=>⟨Nat.le_trans HX3.out.size hi.1,hi.2⟩⟩⟩
def WoPost (F:Nat→Prop) (h:Nat) (t:PT h) (k:ByteArray) (w:World) (e:Ending) (w':World):Prop:=
 Ext w w'∧((getE (ents h t) k=none∧e=.returned (.tuple #[ptr h t,.bool false]))∨
  ((getE (ents h t) k).isSome=true∧∃ u:PT h,e=.returned (.tuple #[ptr h u,.bool true])∧DelR w.heap.size k h t u∧IsN w' (Up F w w') h u))
def WoPostS (F:Nat→Prop) (h:Nat) (t:PT (h+1)) (k:ByteArray) (w:World) (e:Ending) (w':World):Prop:=
 Ext w w'∧((getE (ents (h+1) t) k=none∧e=.returned (.tuple #[ptr (h+1) t,.bool false]))∨
  ((getE (ents (h+1) t) k).isSome=true∧∃ ks':List (PT h),DelK w.heap.size k h (DelR w.heap.size k h) t.2 ks'∧
    ((∃ u,ks'=[u]∧e=.returned (.tuple #[ptr h u,.bool true])∧IsN w' (Up F w w') h u)∨
     (2≤ks'.length∧∃ c:PT (h+1),c.2=ks'∧w.heap.size≤addr (h+1) c∧e=.returned (.tuple #[ptr (h+1) c,.bool true])∧IsN w' (Up F w w') (h+1) c))))
def InnPost (F:Nat→Prop) (h:Nat) (ks':List (PT h)) (w:World) (e:Ending) (w':World):Prop:=
 Ext w w'∧((∃ u,ks'=[u]∧e=.returned (ptr h u)∧IsN w' (Up F w w') h u)∨(2≤ks'.length∧∃ c:PT (h+1),c.2=ks'∧w.heap.size≤addr (h+1) c∧e=.returned (ptr (h+1) c)∧IsN w' (Up F w w') (h+1) c))
theorem without_end {w w6:World} {F:Nat→Prop} {h:Nat} {k:ByteArray} {t:PT (h+1)} {s6:Sl} {ks':List (PT h)} (hF:∀ b,F b→b<w.heap.size) (ok:OkT (h+1) t) (hs:Sorted (ents (h+1) t)) (hc:(ents (h+1) t).length≤1000000) (hh:h+1<1000000) (hg:(getE (ents (h+1) t) k).isSome=true)
  (hX:Ext w w6) (hown:w6.ownsRow w.heap.size 39 1 (.slice s6.a ks'.length s6.c) ks'.length (ptrs h ks')) (hD:DelK w.heap.size k h (DelR w.heap.size k h) t.2 ks') (hI:∀ u∈ks',IsN w6 (Up F w w6) h u) :
  Calls Tryz.prog 62 #[.slice s6.a ks'.length s6.c] w6 fun e w'=>InnPost F h ks' w e w':=by
 obtain ⟨h1,h2,h3⟩:=delK_root hD ok hs hg
 have ok2:=ok.1
 have ok8:=ok.2.1
 by_cases hone:ks'.length=1
 ·obtain ⟨u,rfl⟩:=List.length_eq_one_iff.1 hone
  refine (tinner_one (s:=s6) (k:=u) (Rd.of_own hown)).mono ?_
  rintro e w' ⟨rfl,rfl⟩
  exact ⟨hX,.inl ⟨u,rfl,rfl,hI u (List.mem_singleton.2 rfl)⟩⟩
 have hfl:=hD.ents hs (kids_pos ok) (by omega) (fun x y hx hr=>hr.ents (ok.2.2 x hx).1 (kid_sorted hs x hx))
 have hso:Sorted (ks'.flatMap (ents h)):=by rw [hfl];exact delE_sorted hs k
 have hpos:∀ x∈ks',0<(ents h x).length:=fun x hx=>ents_pos h x (h1 x hx).1 (by have:=(h1 x hx).2;omega)
 have hk:Kids w6 (Up F w w6) h ks':=⟨fun b hb=>hb.elim (fun h=>Nat.lt_of_lt_of_le (hF b h) hX.size) fun h=>h.2,hI,rising_of hso hpos,hpos,fun x hx=>by have:=size_le8 (h1 x hx).1;omega,by
  unfold cnt
  rw [hfl]
  have h5:(delE (t.2.flatMap (ents h)) k).length≤(t.2.flatMap (ents h)).length:=(delE_sublist _ k).length_le
  have h6:(t.2.flatMap (ents h)).length≤1000000:=hc
  omega,by omega⟩
 refine (tinner_any ((Rd.of_own hown).mono fun i hi=>hi.2) rfl hk (by omega) (by omega)).mono ?_
 rintro e w' ⟨c,rfl,hc2,hca,hcn,hx⟩
 refine ⟨hX.trans hx,.inr ⟨by omega,c,hc2,Nat.le_trans hX.size hca,rfl,hcn.mono fun i hi=>?_⟩⟩
 rcases hi with (hi | hi) | hi
 ·exact .inl hi
 ·exact .inr ⟨hi.1,Nat.lt_of_lt_of_le hi.2 hx.size⟩
 exact .inr ⟨Nat.le_trans hX.size hi.1,hi.2⟩
theorem without_succ {h:Nat} {k:ByteArray}
  (ih:∀ (w:World) (F:Nat→Prop) (t:PT h),(∀ b,F b→b<w.heap.size)→IsN w F h t→OkT h t→4≤size h t→Sorted (ents h t)→(ents h t).length≤1000000→Calls Tryz.prog 91 #[ptr h t,.string k] w (WoPost F h t k w))
  {w:World} {F:Nat→Prop} {t:PT (h+1)} (hF:∀ b,F b→b<w.heap.size) (hn:IsN w F (h+1) t) (ok:OkT (h+1) t) (hs:Sorted (ents (h+1) t)) (hc:(ents (h+1) t).length≤1000000) :
  Calls Tryz.prog 91 #[ptr (h+1) t,.string k] w (WoPostS F h t k w):=by
 have hpos:=kids_pos ok
 have hh:h+1<1000000:=Nat.lt_of_lt_of_le (height_lt (h+1) t ok (by have:=ok.1;show 1≤t.2.length;omega)) hc
 obtain ⟨kid,hkid,hA,hC⟩:=which_split (h:=h) (ks:=t.2) hs hpos (by have:=ok.1;omega) k
 have hkm':=List.mem_of_getElem? hkid
 have hil:=(List.getElem?_eq_some_iff.1 hkid).1
 have hlen8:=ok.2.1
 have hlen2:=ok.1
 have hks:∀ x∈t.2,IsN w F h x:=hn.2.choose_spec.2.2
 have hkc:(ents h kid).length≤1000000:=Nat.le_trans (by
  show _≤(t.2.flatMap (ents h)).length
  rw [take_mid hkid];simp only [List.flatMap_append,List.flatMap_cons,List.length_append];omega) hc
 have hge:getE (ents (h+1) t) k=getE (ents h kid) k:=getE_kid hkid hA hC
 have hih:∀ W,Ext w W→Calls Tryz.prog 91 #[ptr h kid,.string k] W (WoPost F h kid k W):=fun W hW=>
  ih W F kid (fun b hb=>Nat.lt_of_lt_of_le (hF b hb) hW.size) ((hks kid hkm').agree (hW.agree hF)) (ok.2.2 kid hkm').1 (ok.2.2 kid hkm').2 (kid_sorted hs kid hkm') hkc
 have hdr:∀ B u,(getE (ents (h+1) t) k).isSome=true→DelR B k h kid u→OkT h u∧size h kid≤size h u+1∧size h u≤size h kid:=fun B u hg hr=>hr.ok (ok.2.2 kid hkm').1 (ok.2.2 kid hkm').2 (kid_sorted hs kid hkm') (by rw [←hge];exact hg)
 have HF:=Lib.hid hF
 have HN:=Lib.hid hn
 have HS:=Lib.hid hs
 have HP:=Lib.hid hpos
 have HIH:=Lib.hid hih
 have HKS:=Lib.hid hks
 have HKID:=Lib.hid hkid
 have HGE:=Lib.hid hge
 have HOK:=Lib.hid ok
 have HC:=Lib.hid hc
 have HDR:=Lib.hid hdr
 have hnz:(((h:Int)+1) == 0)=false:=beq_eq_false_iff_ne.2 (by omega)
 clear hF hn ok hs hc hpos hih hks hkid hA hC ih hkc hge hdr
 go_enter Tryz.func91,Tryz.ntmps91
 go_wp2_with fail
 refine (height_any HN.out).mono ?_
 rintro e w1 ⟨rfl,rfl⟩
 have hkc:=kids_any HN.out (by omega)
 go_wp2_with fail
 refine hkc.mono ?_
 rintro e w1 ⟨s',rfl,hown,hx1⟩
 have hrd:Rd w1 (Lt w1.heap.size) 1 s' t.2.length (ptrs h t.2):=(Rd.of_own hown).mono fun i hi=>hi.2
 have hwh:=which_any hrd (fun x hx=>(HKS.out x hx).agree (hx1.agree HF.out)) (fun b hb=>Nat.lt_of_lt_of_le (HF.out b hb) hx1.size) HP.out k HS.out (by omega)
 obtain ⟨i,hi⟩:∃ i,whichK h t.2 k=i:=⟨_,rfl⟩
 rw [hi] at hwh hil
 have HI:=Lib.hid hi
 have HWH:=Lib.hid hwh
 have HO1:=Lib.hid hown
 have HX1:=Lib.hid hx1
 clear hi hwh hown hrd hkc hx1
 go_wp2_with fail
 refine HWH.out.mono ?_
 rintro e w2 ⟨rfl,hx2⟩
 have hX2:=HX1.out.trans hx2
 obtain ⟨g,cap,rfl,hbg,hnc,hcm,hfil⟩:=own_block HO1.out (by omega)
 have ho2:w2.ownsRow w.heap.size 39 1 (.slice (some ⟨g,0,none⟩) t.2.length cap) t.2.length (ptrs h t.2):=own_agree (s:=⟨some ⟨g,0,none⟩,cap⟩) HO1.out (hx2.agree (F:=Lt w1.heap.size) fun _ h=>h) fun b hb=>(own_row HO1.out hb).2
 have hkp:w2.cell? ⟨g,i,none⟩=some (ptr h kid):=by
  have:=ho2.cells (g:=g) rfl i (ptr h kid) (by rw [ptrs,List.getElem?_map,←HI.out,HKID.out];rfl)
  rwa [add_at,Nat.zero_add] at this
 have hil':(i:Int)<(t.2.length:Int):=by omega
 have hg2:g<w2.heap.size:=(own_row (s:=⟨some ⟨g,0,none⟩,cap⟩) ho2 rfl).2
 have hih:=HIH.out w2 hX2
 have HO2:=Lib.hid ho2
 have HX2:=Lib.hid hX2
 clear hx2 ho2 hX2 hfil
 go_wp2_with fail
 refine hih.mono ?_
 rintro e w3 ⟨hx3,(⟨hg,rfl⟩ | ⟨hg,u,rfl,hdu,hnu⟩)⟩
 ·have HX3:=Lib.hid (HX2.out.trans hx3)
  have HG:=Lib.hid hg
  clear hx3 hg hih
  go_wp2_with fail
  go_ret2
  exact ⟨HX3.out,.inl ⟨by rw [HGE.out];exact HG.out,rfl⟩⟩
 have hgt:(getE (ents (h+1) t) k).isSome=true:=by rw [HGE.out];exact hg
 obtain ⟨ou,su1,su2⟩:=HDR.out _ u hgt hdu
 have hsz3:3≤size h u:=by have:=(HOK.out.2.2 kid (List.mem_of_getElem? HKID.out)).2;omega
 have hsz8:size h u≤8:=size_le8 ou
 have hx3s:=hx3.size
 have hx2s:=HX2.out.size
 have hgF:∀ b,Up F w2 w3 b→b≠g:=fun b hb e=>by
  subst e
  rcases hb with hb | hb
  ·have:=HF.out _ hb;have hbg:w.heap.size≤b:=hbg;omega
  omega
 have hown3:w3.ownsRow w.heap.size 39 1 (.slice (some ⟨g,0,none⟩) t.2.length cap) t.2.length (ptrs h t.2):=own_agree (s:=⟨some ⟨g,0,none⟩,cap⟩) HO2.out (hx3.agree (F:=Lt w2.heap.size) fun _ h=>h) fun b hb=>(own_row (s:=⟨some ⟨g,0,none⟩,cap⟩) HO2.out hb).2
 have hown4:=own_set hown3 (i:=i) (by omega) (ptr h u)
 have e0:(ptrs h t.2).set i (ptr h u)=ptrs h (t.2.set i u):=by rw [ptrs,ptrs,List.map_set]
 rw [e0] at hown4
 have kc3:w3.cell? ⟨g,i,none⟩=some (ptr h kid):=(hx3.cell hg2).trans hkp
 have fz3:∀ o,w3.frozen? ⟨g,o,none⟩=false:=by
  obtain ⟨g',cap',e1,-,-,-,hfl⟩:=own_block (s:=⟨some ⟨g,0,none⟩,cap⟩) hown3 (by omega)
  obtain ⟨rfl,rfl⟩:g=g'∧cap=cap':=by simpa using e1
  exact hfl.frozen
 have hX4:=(HX2.out.trans hx3).setCell (p:=⟨g,i,none⟩) hbg (ptr h u)
 have hag4:Agree (Up F w2 w3) w3 (w3.setCell ⟨g,i,none⟩ (ptr h u)):=Agree.setCell w3 ⟨g,i,none⟩ _ (fun h=>hgF g h rfl)
 have hI4:∀ x∈t.2.set i u,IsN (w3.setCell ⟨g,i,none⟩ (ptr h u)) (Up F w2 w3) h x:=fun x hx=>by
  rcases List.mem_or_eq_of_mem_set hx with hx | rfl
  ·exact (((HKS.out x hx).agree ((HX2.out.trans hx3).agree HF.out)).mono fun b hb=>.inl hb).agree hag4
  exact hnu.agree hag4
 have hu4:=hI4 u (List.mem_set (by omega) u)
 have hsc:=size_any hu4 (by omega)
 have hz4:(w3.setCell ⟨g,i,none⟩ (ptr h u)).heap.size=w3.heap.size:=by simp
 have hdu':=hdu.mono hx2s
 have hkid:=HKID.out
 rw [HI.out] at hkid
 have hDK:∀ ks',((4≤size h u∧ks'=t.2.set i u)∨(size h u<4∧Mend w.heap.size h (t.2.set i u) i ks'))→DelK w.heap.size k h (DelR w.heap.size k h) t.2 ks':=fun ks' hks=>by
  refine ⟨kid,u,HKID.out,hdu',?_⟩
  rw [HI.out]
  exact hks
 have heq:(t.2.set i u).flatMap (ents h)=delE (t.2.flatMap (ents h)) k:=by
  obtain ⟨kid2,hk3,hA,hC⟩:=which_split (h:=h) (ks:=t.2) HS.out HP.out (by omega) k
  rw [HKID.out] at hk3
  simp only [Option.some.injEq] at hk3
  subst hk3
  rw [HI.out] at hA hC
  rw [set_mid hkid]
  simp only [List.flatMap_append,List.flatMap_cons]
  have e1:=hdu.ents (HOK.out.2.2 kid (List.mem_of_getElem? hkid)).1 (kid_sorted HS.out kid (List.mem_of_getElem? hkid))
  conv=>rhs;rw [take_mid hkid]
  rw [List.flatMap_append,List.flatMap_cons,delE_app hA,delE_stop hC,e1]
 have hso:Sorted ((t.2.set i u).flatMap (ents h)):=by
  rw [heq]
  exact delE_sorted HS.out k
 have hfl:((t.2.set i u).flatMap (ents h)).length≤1000000:=by
  rw [heq]
  exact Nat.le_trans (delE_sublist _ k).length_le HC.out
 have HFL:=Lib.hid hfl
 have HU:=Lib.hid hsc
 have HDK:=Lib.hid hDK
 have HX4:=Lib.hid hX4
 have HO4:=Lib.hid hown4
 have HI4:=Lib.hid hI4
 have HSO:=Lib.hid hso
 have HGT:=Lib.hid hgt
 have HOU:=Lib.hid ou
 have HGF:=Lib.hid hgF
 have hgb:g<w3.heap.size:=by omega
 clear hih hg hdu hnu hgt ou hown3 hown4 e0 hX4 hag4 hI4 hu4 hsc hdu' hkid hDK heq hso hfl hx3 hgF
 go_wp2_with fail
 generalize hW4:World.setCell _ _ _=W4 at *
 refine HU.out.mono ?_
 rintro e w5 ⟨rfl,q,rfl⟩
 have hX5:=HX4.out.drewN q
 have hst5:Agree (Up F w2 w3) W4 (W4.drewN q):=Agree.drewN W4 q
 have ho5:(W4.drewN q).ownsRow w.heap.size 39 1 (.slice (some ⟨g,0,none⟩) t.2.length cap) t.2.length (ptrs h (t.2.set i u)):=HO4.out
 have hz5:(W4.drewN q).heap.size=w3.heap.size:=hz4
 have hI5:∀ x∈t.2.set i u,IsN (W4.drewN q) (Up F w2 w3) h x:=fun x hx=>(HI4.out x hx).agree hst5
 generalize W4.drewN q=W5 at *
 have HX5:=Lib.hid hX5
 have HO5:=Lib.hid ho5
 have HI5:=Lib.hid hI5
 have HZ5:=Lib.hid hz5
 have hlen:(t.2.set i u).length=t.2.length:=by rw [List.length_set]
 clear hX5 hst5 ho5 hI5 hz5 kc3 fz3 hz4 hW4
 by_cases h4:size h u<4
 ·have h4':(size h u:Int)<4:=by omega
  obtain ⟨l,hl⟩:∃ l,(t.2.set i u)[i - 1]? = some l:=⟨_,List.getElem?_eq_getElem (by omega)⟩
  obtain ⟨r,hr⟩:∃ r,(t.2.set i u)[i - 1+1]? = some r:=⟨_,List.getElem?_eq_getElem (by omega)⟩
  have hoth:∀ x∈t.2.set i u,OkT h x∧3≤size h x:=fun x hx=>by
   rcases List.mem_or_eq_of_mem_set hx with hx | rfl
   ·exact ⟨(HOK.out.2.2 x hx).1,by have:=(HOK.out.2.2 x hx).2;omega⟩
   exact ⟨HOU.out,hsz3⟩
  have hsum:size h l+size h r≤11:=by
   have h8:∀ x∈t.2.set i u,size h x≤8:=fun x hx=>size_le8 (hoth x hx).1
   have hl8:=h8 l (List.mem_of_getElem? hl)
   have hr8:=h8 r (List.mem_of_getElem? hr)
   have hgi:(t.2.set i u)[i]? = some u:=by rw [List.getElem?_set_self (by omega)]
   by_cases h0:i=0
   ·subst h0
    rw [hgi] at hl
    simp only [Option.some.injEq] at hl
    subst hl;omega
   rw [show i - 1+1=i from by omega,hgi] at hr
   simp only [Option.some.injEq] at hr
   subst hr;omega
  have hmend:=mend_any (w:=W5) (F:=Up F w2 w3) (base:=w.heap.size) (s:=⟨some ⟨g,0,none⟩,cap⟩) (i:=i) (ks:=t.2.set i u) (l:=l) (r:=r)
   ⟨by rw [hlen];exact HO5.out,HX5.out.size,fun b hb=>⟨by rw [HZ5.out];exact hb.elim (fun h=>by have:=HF.out b h;have:=HX2.out.size;omega) fun h=>h.2,fun e=>by simp [Sl.row] at e;exact HGF.out b hb e.symm⟩,HI5.out,hoth,hl,hr,hsum,HSO.out,by
     have:=HFL.out
     omega,by omega,by omega⟩
  rw [hlen] at hmend
  have HM:=Lib.hid hmend
  clear hl hr hoth hsum hmend
  go_wp2_with fail
  refine HM.out.mono ?_
  rintro e w6 ⟨s6,ks6,rfl,hown6,hm6,hI6,hst6⟩
  have hX6:Ext w w6:=HX5.out.step hst6 (fun b hb=>by simp only [Sl.row,Option.map_some,Option.some.injEq] at hb;have hbg:w.heap.size≤g:=hbg;omega)
  have D:=HDK.out ks6 (.inr ⟨h4,hm6.mono HX5.out.size⟩)
  have hIw:∀ x∈ks6,IsN w6 (Up F w w6) h x:=fun x hx=>(hI6 x hx).mono fun b hb=>by
   have hz:=HZ5.out
   have hz6:=hst6.size
   rcases hb with (hb | hb) | hb
   ·exact .inl hb
   ·exact .inr ⟨by omega,by omega⟩
   exact .inr ⟨by omega,hb.2⟩
  have hend:=without_end HF.out HOK.out HS.out HC.out hh HGT.out hX6 hown6 D hIw
  have HD:=Lib.hid D
  have HE:=Lib.hid hend
  clear hown6 hm6 hI6 hst6 hX6 D hIw hend
  go_wp2_with fail
  refine HE.out.mono ?_
  rintro e w7 ⟨hx,(⟨v,hv,rfl,hnv⟩ | ⟨hv,c,hcc,hca,rfl,hcn⟩)⟩
  ·have H1:=Lib.hid hx
   have H2:=Lib.hid hnv
   clear hx hnv
   go_wp2_with fail
   go_ret2
   exact ⟨H1.out,.inr ⟨HGT.out,ks6,HD.out,.inl ⟨v,hv,rfl,H2.out⟩⟩⟩
  have H1:=Lib.hid hx
  have H2:=Lib.hid hcn
  clear hx hcn
  go_wp2_with fail
  go_ret2
  exact ⟨H1.out,.inr ⟨HGT.out,ks6,HD.out,.inr ⟨hv,c,hcc,hca,rfl,H2.out⟩⟩⟩
 have h4':¬(size h u:Int)<4:=by omega
 have D:=HDK.out _ (.inl ⟨by omega,rfl⟩)
 have hIw:∀ x∈t.2.set i u,IsN W5 (Up F w W5) h x:=fun x hx=>(HI5.out x hx).mono fun b hb=>by
  have hz:=HZ5.out
  rcases hb with hb | hb
  ·exact .inl hb
  exact .inr ⟨by omega,by omega⟩
 have hend:=without_end (s6:=⟨some ⟨g,0,none⟩,cap⟩) HF.out HOK.out HS.out HC.out hh HGT.out HX5.out (by rw [hlen];exact HO5.out) D hIw
 rw [hlen] at hend
 have HD:=Lib.hid D
 have HE:=Lib.hid hend
 clear D hIw hend
 go_wp2_with fail
 refine HE.out.mono ?_
 rintro e w7 ⟨hx,(⟨v,hv,rfl,hnv⟩ | ⟨hv,c,hcc,hca,rfl,hcn⟩)⟩
 ·have H1:=Lib.hid hx
  have H2:=Lib.hid hnv
  clear hx hnv
  go_wp2_with fail
  go_ret2
  exact ⟨H1.out,.inr ⟨HGT.out,_,HD.out,.inl ⟨v,hv,rfl,H2.out⟩⟩⟩
 have H1:=Lib.hid hx
 have H2:=Lib.hid hcn
 clear hx hcn
 go_wp2_with fail
 go_ret2
 exact ⟨H1.out,.inr ⟨HGT.out,_,HD.out,.inr ⟨hv,c,hcc,hca,rfl,H2.out⟩⟩⟩
theorem without_any {k:ByteArray}:∀ (h:Nat) (w:World) (F:Nat→Prop) (t:PT h),(∀ b,F b→b<w.heap.size)→IsN w F h t→OkT h t→4≤size h t→Sorted (ents h t)→(ents h t).length≤1000000→Calls Tryz.prog 91 #[ptr h t,.string k] w (WoPost F h t k w)
 | 0,w,F,t,hF,hn,ok,h4,hs,hc=>by
   refine (without_leaf ⟨_,rfl⟩ (height_any hn) (entries_any (hn.mono hF)) hs (show t.2.length≤8 from ok) k).mono ?_
   rintro e w' ⟨hx,(⟨hg,rfl⟩ | ⟨hg,u,rfl,hu,hb,hn'⟩)⟩
   ·exact ⟨hx,.inl ⟨hg,rfl⟩⟩
   exact ⟨hx,.inr ⟨hg,u,rfl,⟨hu,hb⟩,hn'.mono fun i hi=>.inr hi⟩⟩
 | h+1,w,F,t,hF,hn,ok,h4,hs,hc=>by
   refine (without_succ (without_any (k:=k) h) hF hn ok hs hc).mono ?_
   rintro e w' ⟨hx,(⟨hg,rfl⟩ | ⟨hg,ks',hd,h2⟩)⟩
   ·exact ⟨hx,.inl ⟨hg,rfl⟩⟩
   have h4:4≤t.2.length:=h4
   have:=(delK_root hd ok hs hg).2.2
   rcases h2 with ⟨u,rfl,-,-⟩ | ⟨-,c,rfl,hb,rfl,hn'⟩
   ·simp only [List.length_cons,List.length_nil] at this;omega
   exact ⟨hx,.inr ⟨hg,c,rfl,⟨hd,hb⟩,hn'⟩⟩
def WoPostT (F:Nat→Prop) (T:RT) (k:ByteArray) (w:World) (e:Ending) (w':World):Prop:=
 Ext w w'∧((getE (entsT T) k=none∧e=.returned (.tuple #[rootV T,.bool false]))∨
  ((getE (entsT T) k).isSome=true∧∃ (h:Nat) (u:PT h),e=.returned (.tuple #[ptr h u,.bool true])∧IsN w' (Up F w w') h u∧
    ((ents h u=[]∧DelT w.heap.size k T none)∨(0<(ents h u).length∧DelT w.heap.size k T (some ⟨h,u⟩)))))
theorem withoutT_any {w:World} {F:Nat→Prop} {T:RT} (hF:∀ b,F b→b<w.heap.size) (hT:IsT w F T) (ok:OkR T) (hc:(entsT T).length≤1000000) (k:ByteArray) :
  Calls Tryz.prog 91 #[rootV T,.string k] w (WoPostT F T k w):=by
 match T,hT,ok,hc with
 | none,_,_,_=>
   refine (without_leaf (nv:=.pointer none) (es:=[]) ⟨none,rfl⟩ (height_nil w) ((entries_nil w).mono ?_) List.Pairwise.nil (by simp) k).mono ?_
   ·rintro e w' ⟨rfl,rfl⟩
    exact ⟨Sl.none,[],rfl,rfl,OE.nil _ _,Ext.refl _⟩
   rintro e w' ⟨hx,(⟨hg,rfl⟩ | ⟨hg,u,rfl,hu,hb,hn'⟩)⟩
   ·exact ⟨hx,.inl ⟨hg,rfl⟩⟩
   simp [getE] at hg
 | some ⟨0,t⟩,hn,ok,hc=>
   have hn:IsN w F 0 t:=hn
   refine (without_leaf ⟨_,rfl⟩ (height_any hn) (entries_any (hn.mono hF)) ok.2.2 (show t.2.length≤8 from ok.1) k).mono ?_
   rintro e w' ⟨hx,(⟨hg,rfl⟩ | ⟨hg,u,rfl,hu,hb,hn'⟩)⟩
   ·exact ⟨hx,.inl ⟨hg,rfl⟩⟩
   refine ⟨hx,.inr ⟨hg,0,u,rfl,hn'.mono fun i hi=>.inr hi,?_⟩⟩
   by_cases h0:ents 0 u=[]
   ·exact .inl ⟨h0,.gone hg ⟨hu,hb⟩ h0⟩
   have:=List.length_pos_iff.2 h0
   exact .inr ⟨this,.same hg ⟨hu,hb⟩ this (.inl rfl)⟩
 | some ⟨h+1,t⟩,hn,ok,hc=>
   refine (without_succ (without_any (k:=k) h) hF hn ok.1 ok.2.2 hc).mono ?_
   rintro e w' ⟨hx,(⟨hg,rfl⟩ | ⟨hg,ks',hd,h2⟩)⟩
   ·exact ⟨hx,.inl ⟨hg,rfl⟩⟩
   have hko:=(delK_root hd ok.1 ok.2.2 hg).1
   rcases h2 with ⟨u,rfl,rfl,hn'⟩ | ⟨hl,c,rfl,hb,rfl,hn'⟩
   ·have:=hko u (List.mem_singleton.2 rfl)
    exact ⟨hx,.inr ⟨hg,h,u,rfl,hn',.inr ⟨ents_pos h u this.1 (by omega),.down hg hd⟩⟩⟩
   have hp:0<(ents (h+1) c).length:=by
    obtain ⟨x,hxm⟩:=List.exists_mem_of_length_pos (show 0<c.2.length by omega)
    have h1:=hko x hxm
    have h2:=ents_pos h x h1.1 (by omega)
    show 0<(c.2.flatMap (ents h)).length
    obtain ⟨e,he⟩:=List.exists_mem_of_length_pos h2
    exact List.length_pos_of_mem (List.mem_flatMap.2 ⟨x,hxm,he⟩)
   exact ⟨hx,.inr ⟨hg,h+1,c,rfl,hn',.inr ⟨hp,.same hg ⟨hd,hb⟩ hp (.inr hl)⟩⟩⟩
def DelPost (F:Nat→Prop) (T:RT) (k:ByteArray) (w:World) (e:Ending) (w':World):Prop:=
 ∃ T',e=.returned (.tuple #[treeV T',.bool (getE (entsT T) k).isSome])∧DelT w.heap.size k T T'∧IsT w' (Up F w w') T'∧Ext w w'
theorem delete_any {w:World} {F:Nat→Prop} {T:RT} (hF:∀ b,F b→b<w.heap.size) (hT:IsT w F T) (ok:OkR T) (hc:(entsT T).length≤1000000) (k:ByteArray) :
  Calls Tryz.prog 54 #[treeV T,.string k] w (DelPost F T k w):=by
 have hcw:∀ W,Ext w W→Calls Tryz.prog 91 #[rootV T,.string k] W (WoPostT F T k W):=fun W hW=>
  withoutT_any (fun b hb=>Nat.lt_of_lt_of_le (hF b hb) hW.size) (hT.agree (hW.agree hF)) ok hc k
 have hct:∀ W,Ext w W→Calls Tryz.prog 63 #[rootV T] W fun e w'=>e=.returned (.int .i64 (entsT T).length)∧W=w':=fun W hW=>countR_any (hT.agree (hW.agree hF))
 have hnil:entsT T=[]→T=none:=fun h0=>by
  match T,ok,h0 with
  | none,_,_=>rfl
  | some ⟨h,t⟩,ok,h0=>have:=ents_pos h t ok.1 ok.2.1;have h0:ents h t=[]:=h0;rw [h0] at this;cases this
 have hpn:∃ p,rootV T=.pointer p:=rootV_ptr T
 obtain ⟨rp,hrp⟩:=hpn
 rw [hrp] at hcw hct
 have HW:=Lib.hid hcw
 have HCT:=Lib.hid hct
 have HF:=Lib.hid hF
 have HOK:=Lib.hid ok
 have HT:=Lib.hid hT
 have HNIL:=Lib.hid hnil
 have HRP:=Lib.hid hrp
 clear hF hT ok hcw hct hnil
 rw [treeV,hrp]
 clear hrp
 go_enter Tryz.func54,Tryz.ntmps54
 go_wp2_with fail
 have hx3:Ext w ((w.alloc (.cells #[.pointer rp] 41)).alloc (.cells #[.pointer none] 41)):=((Ext.refl w).alloc _ _).alloc _ _
 have hb3:Blk ((w.alloc (.cells #[.pointer rp] 41)).alloc (.cells #[.pointer none] 41)) (w.heap.size+1) 41 #[.pointer none]:=by
  have:=Blk.new (w.alloc (.cells #[.pointer rp] 41)) 41 #[.pointer none]
  simpa using this
 generalize hW3:World.alloc _ _=W3 at *
 have hz3:W3.heap.size=w.heap.size+1+1:=by rw [←hW3];simp
 clear hW3
 refine (HW.out _ hx3).mono ?_
 rintro e w4 ⟨hx4,hor⟩
 have hb4:=hb3.ext hx4
 have hX4:=hx3.trans hx4
 have q4:w4.cell? ⟨w.heap.size+1,0,none⟩=some (.pointer none):=hb4.cell 0
 have f4:=hb4.frozen 0
 have hl4:=hb4.lt
 have HX:=Lib.hid hX4
 have hnF:∀ W',¬Up F W3 W' (w.heap.size+1):=fun W' hf=>by
  rcases hf with hf | hf
  ·have:=HF.out _ hf;omega
  have:=hf.1;omega
 have HNF:=Lib.hid hnF
 have hwW:w.heap.size≤W3.heap.size:=by omega
 clear hb3 hb4 hX4 hx3 hx4 hnF
 have hone:∃ T1 b,e=.returned (.tuple #[rootV T1,.bool b])∧b=(getE (entsT T) k).isSome∧IsT w4 (Up F W3 w4) T1∧((entsT T1).length=0→DelT w.heap.size k T none)∧((entsT T1).length≠0→DelT w.heap.size k T T1):=by
  rcases hor with ⟨hg,rfl⟩ | ⟨hg,h,u,rfl,hn',hd⟩
  ·refine ⟨T,false,by rw [HRP.out],by rw [hg];rfl,(HT.out.agree (HX.out.agree HF.out)).mono fun i hi=>.inl hi,fun h0=>?_,fun _=>.no hg⟩
   have:=HNIL.out (List.eq_nil_of_length_eq_zero h0)
   subst this
   exact .no hg
  refine ⟨some ⟨h,u⟩,true,rfl,hg.symm,hn',fun h0=>?_,fun h0=>?_⟩
  ·exact (hd.resolve_right fun hc=>by have h0:(ents h u).length=0:=h0;omega).2.mono hwW
  exact (hd.resolve_left fun h=>h0 (by show (ents _ u).length=0;rw [h.1];rfl)).2.mono hwW
 obtain ⟨T1,b,rfl,hb,hT1,hd0,hd1⟩:=hone
 have hcn:=countR_any hT1
 obtain ⟨p1,hp1⟩:=rootV_ptr T1
 have hfin:∀ W',Agree (Up F W3 w4) w4 W'→w4.heap.size≤W'.heap.size→IsT W' (Up F w W') T1:=fun W' ha hs=>(hT1.agree ha).mono fun i hi=>hi.elim .inl fun hi=>.inr ⟨Nat.le_trans hwW hi.1,Nat.lt_of_lt_of_le hi.2 hs⟩
 rw [hp1] at hcn
 have HP1:=Lib.hid hp1
 have HCN:=Lib.hid hcn
 have HB:=Lib.hid hb
 have HFIN:=Lib.hid hfin
 have HD0:=Lib.hid hd0
 have HD1:=Lib.hid hd1
 rw [hp1]
 clear hor hp1 hcn hb hfin hd0 hd1 hT1
 go_wp2_with fail
 refine HCN.out.mono ?_
 rintro e w5 ⟨rfl,rfl⟩
 by_cases h0:(entsT T1).length=0
 ·have h0':(((entsT T1).length:Int) == 0)=true:=by simp [h0]
  go_wp2_with fail
  have q0:(w4.setCell ⟨w.heap.size+1,0,none⟩ (.pointer none)).cell? ⟨w.heap.size+1,0,none⟩=some (.pointer none):=World.cell?_setCell_same w4 _ _ q4
  refine bodyPost_ret (v:=.tuple #[treeV none,.bool b]) (by simp [results,Tryz.results54,go_sem,q0];rfl) rfl ?_
  rw [HB.out]
  exact ⟨none,rfl,HD0.out h0,trivial,HX.out.setCell (p:=⟨w.heap.size+1,0,none⟩) (by show w.heap.size≤w.heap.size+1;omega) _⟩
 have h0':(((entsT T1).length:Int) == 0)=false:=beq_eq_false_iff_ne.2 (by omega)
 go_wp2_with fail
 have q0:(w4.setCell ⟨w.heap.size+1,0,none⟩ (.pointer p1)).cell? ⟨w.heap.size+1,0,none⟩=some (.pointer p1):=World.cell?_setCell_same w4 _ _ q4
 refine bodyPost_ret (v:=.tuple #[treeV T1,.bool b]) (by rw [treeV,HP1.out];simp [results,Tryz.results54,go_sem,q0]) rfl ?_
 rw [HB.out]
 exact ⟨T1,rfl,HD1.out h0,HFIN.out _ (Agree.setCell w4 ⟨w.heap.size+1,0,none⟩ _ (HNF.out w4)) (by simp),HX.out.setCell (p:=⟨w.heap.size+1,0,none⟩) (by show w.heap.size≤w.heap.size+1;omega) _⟩
theorem is_info:∃ j,Tryz.prog.info? 154=some j∧j.size≠0:=by
 have h:((Tryz.prog.info? 154).map fun i=>decide (i.size≠0))=some true:=by kernel_rfl
 cases hj:Tryz.prog.info? 154 with
 | none=>rw [hj] at h;cases h
 | some j=>rw [hj] at h;exact ⟨j,rfl,by simpa using h⟩
theorem is_same (w:World) (p:Option Addr):Calls Tryz.prog 32 #[.agg #[.pointer p],.agg #[.pointer p]] w fun e w'=>e=.returned (.bool true)∧Ext w w':=by
 obtain ⟨j,hj,-⟩:=is_info
 cases p with
 | none=>
   go_enter Tryz.func32,Tryz.ntmps32
   go_wp2_with fail
   go_ret
   exact ⟨rfl,((Ext.refl w).alloc _ _).alloc _ _⟩
 | some a=>
   have hs:=fun W=>run_eql_ptr_same (P:=Tryz.prog) W a Tryz.underlying39 hj
   go_enter Tryz.func32,Tryz.ntmps32
   go_wp2_with fail
   go_ret
   exact ⟨rfl,((Ext.refl w).alloc _ _).alloc _ _⟩
def Leads (w:World) (p:Option Addr):Prop:=∀ a,p=some a→∃ c t,w.heap[a.block]? = some (.cells c t (0,0))
theorem Leads.agree {w w':World} {p:Option Addr} (h:Leads w p) {F:Nat→Prop} (ha:Agree F w w') (hF:∀ a,p=some a→F a.block):Leads w' p:=fun a e=>by
 obtain ⟨c,t,hc⟩:=h a e
 exact ⟨c,t,(ha _ (hF a e)).trans hc⟩
theorem Leads.ext {w w':World} {p:Option Addr} (h:Leads w p) (he:Ext w w'):Leads w' p:=fun a e=>by
 obtain ⟨c,t,hc⟩:=h a e
 have hl:a.block<w.heap.size:=(Array.getElem?_eq_some_iff.1 hc).1
 exact ⟨c,t,(he.heap hl).trans hc⟩
theorem PutR.mono {A B:Nat} (hAB:A≤B) {k:ByteArray} {v:Val} {T T':RT} (h:PutR B k v T T'):PutR A k v T T':=by
 cases h with
 | one hw=>exact .one (hw.mono hAB)
 | two hw hc hb=>exact .two (hw.mono hAB) hc (Nat.le_trans hAB hb)
section
variable {H : Nat → Prop} {w : World} {M : Nat} {T : RT} {a : LA}
theorem NH.st {H:Nat→Prop} {w w':World} {M:Nat} (h:St (fun b=>b=M) w w') (hm:H M) {b:Nat} (hb:NH H w b):NH H w' b:=⟨Nat.lt_of_lt_of_le hb.1 h.size,hb.2⟩
theorem NH.agree {H:Nat→Prop} {w w':World} {M:Nat} (h:St (fun b=>b=M) w w') (hm:H M):Agree (NH H w) w w':=fun b hb=>h.block b hb.1 fun e=>hb.2 (e▸hm)
theorem DelT.none {B:Nat} {k:ByteArray} {T T':RT} (hd:DelT B k T T') (hg:(getE (entsT T) k).isSome=false):T'=T:=by
 cases hd with
 | no h=>rfl
 | same h1=>rw [show getE (entsT _) k=_ from rfl] at hg;rw [getE_entsT] at hg;rw [h1] at hg;cases hg
 | gone h1=>rw [getE_entsT] at hg;rw [h1] at hg;cases hg
 | down h1=>rw [getE_entsT] at hg;rw [h1] at hg;cases hg
end
end Go.Proofs.YtkhdiakpdafcdaaGreatDoor
namespace Go.Proofs.YtkhdiakpdafcdaaGreatDoor
open Go.RowKit Go.Maps
set_option linter.unusedVariables false
set_option linter.unusedSimpArgs false
structure Sb (H:Nat→Prop) (w w':World):Prop where
 os:w'.os=w.os
 tape:w'.tape=w.tape
 output:w'.output=w.output
 size:w.heap.size≤w'.heap.size
 block:∀ b,b<w.heap.size→¬H b→w'.heap[b]? = w.heap[b]?
theorem St.sb {H:Nat→Prop} {w w':World} (h:St H w w'):Sb H w w':=⟨h.os,h.tape,h.output,h.size,h.block⟩
theorem Ext.sb {w w':World} (h:Ext w w') (H:Nat→Prop):Sb H w w':=(h.st H).sb
theorem Sb.refl (H:Nat→Prop) (w:World):Sb H w w:=(Ext.refl w).sb H
theorem Sb.trans {H:Nat→Prop} {a b c:World} (h:Sb H a b) (k:Sb H b c):Sb H a c:=
 ⟨k.os.trans h.os,k.tape.trans h.tape,k.output.trans h.output,Nat.le_trans h.size k.size,fun i hi hn=>(k.block i (Nat.lt_of_lt_of_le hi h.size) hn).trans (h.block i hi hn)⟩
theorem Sb.comp {H G:Nat→Prop} {a b c:World} (h:Sb H a b) (k:Sb G b c) (hG:∀ i,i<a.heap.size→G i→H i):Sb H a c:=
 ⟨k.os.trans h.os,k.tape.trans h.tape,k.output.trans h.output,Nat.le_trans h.size k.size,fun i hi hn=>(k.block i (Nat.lt_of_lt_of_le hi h.size) fun hg=>hn (hG i hi hg)).trans (h.block i hi hn)⟩
theorem Sb.mono {H G:Nat→Prop} {a b:World} (h:Sb H a b) (hG:∀ i,i<a.heap.size→H i→G i):Sb G a b:=
 ⟨h.os,h.tape,h.output,h.size,fun i hi hn=>h.block i hi fun hh=>hn (hG i hi hh)⟩
theorem Sb.of_below {n:Nat} {w w':World} (h:Below n w w'):Sb (fun b=>n≤b) w w':=⟨h.os,h.tape,h.output,h.size,fun b _ hn=>h.block b (by omega)⟩
theorem Sb.new {H:Nat→Prop} {w w':World} (h:Below w.heap.size w w'):Sb H w w':=(Sb.of_below h).mono fun i hi hh=>by omega
theorem Sb.below {H:Nat→Prop} {w w':World} (h:Sb H w w') (hH:∀ b,b<w.heap.size→¬H b):Below w.heap.size w w':=
 ⟨h.os,h.tape,h.output,h.size,fun b hb=>h.block b hb (hH b hb)⟩
theorem Sb.step {H:Nat→Prop} {a w w':World} (h:Below a.heap.size a w) (k:Sb H w w') (hH:∀ b,H b→a.heap.size≤b):Below a.heap.size a w':=
 ((Sb.new (H:=H) h).trans k).below fun b hb hh=>by have:=hH b hh;omega
theorem Sb.heap {H:Nat→Prop} {w w':World} (h:Sb H w w') {b:Nat} (hb:b<w.heap.size) (hn:¬H b):w'.heap[b]? = w.heap[b]?:=h.block b hb hn
theorem Sb.cell {H:Nat→Prop} {w w':World} (h:Sb H w w') {b o:Nat} (hb:b<w.heap.size) (hn:¬H b):w'.cell? ⟨b,o,none⟩=w.cell? ⟨b,o,none⟩:=
 World.cell?_of_block (w:=w) (a:=⟨b,o,none⟩) (h.block b hb hn)
theorem Sb.blk {H:Nat→Prop} {w w':World} {g:Nat} {t:TypeId} {cs:Array Value} (h:Sb H w w') (hb:Blk w g t cs) (hn:¬H g):Blk w' g t cs:=(h.block g hb.lt hn).trans hb
theorem Sb.agree {H:Nat→Prop} {w w':World} (h:Sb H w w'):Agree (NH H w) w w':=fun b hb=>h.block b hb.1 hb.2
theorem Sb.ext {H:Nat→Prop} {a b c:World} (h:Sb H a b) (k:Ext b c):Sb H a c:=h.trans (k.sb H)
theorem Sb.drew {H:Nat→Prop} {a w:World} (h:Sb H a w):Sb H a w.drew:=h.ext ((Ext.refl w).drew)
theorem Sb.set {H:Nat→Prop} {a w:World} (h:Sb H a w) {p:Addr} (hp:a.heap.size≤p.block∨H p.block) (u:Value):Sb H a (w.setCell p u):=
 ⟨h.os,h.tape,h.output,by simpa [World.setCell] using h.size,fun i hi hn=>(Below.heap_setCell w p u i (by
   rintro rfl
   rcases hp with hp | hp
   ·omega
   exact hn hp)).trans (h.block i hi hn)⟩
theorem Sb.grown {w w':World} {b:Nat} (h:w.grownBy w' (some b)):Sb (fun i=>i=b) w w':=
 ⟨h.os,h.tape,h.output,h.size,fun i hi hn=>h.block i hi (by intro e;injection e with e;exact hn e)⟩
theorem Sb.made {H:Nat→Prop} {w w':World} (h:w.grownBy w' none):Sb H w w':=⟨h.os,h.tape,h.output,h.size,fun i hi hn=>h.block i hi (by simp)⟩
theorem ownsMap_heap {H:Type} {P:Program} {k:TypeId} {R:Value→Option (DataW H × List MemPlace)} {w w':World} {b n:Nat} {D:DataW H} (h:w.ownsMap P k R b n D) (hb:w'.heap[b]? = w.heap[b]?):w'.ownsMap P k R b n D:=by
 obtain ⟨es,clock,h1,F,h2,h3⟩:=h
 exact ⟨es,clock,hb.trans h1,F,h2,h3⟩
structure OD where
 T:RT
 mb:Option Nat
 s:Sl
 us:List UD
 Hs:List (AL SV)
 C:AL SV
def OvB (O:Nat) (d:OD):Nat→Prop:=fun b=>b=O∨d.mb=some b∨d.s.row=some b
def OvF (H:Nat→Prop) (w:World) (O:Nat) (d:OD):Nat→Prop:=fun b=>b<w.heap.size∧¬OvB O d b∧¬H b
theorem rv_zeroO (w:World) (F:Nat→Prop):RV w F zeroV Sl.none Sl.none:=RV.flat _ _ _ _ _ _ (by decide) (by decide) (by decide)
def SVok (w:World) (F:Nat→Prop) (s:SV):Prop:=RV w F s.v s.sl s.so∧(s.has=false→s.v=zeroV)
theorem SVok.agree {w w':World} {F:Nat→Prop} {s:SV} (h:SVok w F s) (ha:Agree F w w'):SVok w' F s:=⟨h.1.agree ha,h.2⟩
theorem SVok.mono {w:World} {F G:Nat→Prop} {s:SV} (h:SVok w F s) (hG:∀ i,F i→G i):SVok w G s:=⟨h.1.mono hG,h.2⟩
def UndoV (w:World) (F:Nat→Prop) (O:Nat) (u:UD) (v:Value):Prop:=
 ∃ (bw bd bo bk:Nat) (o:SV),v=.func (.func 72) #[] #[.pointer (some ⟨bw,0,none⟩),.pointer (some ⟨bd,0,none⟩),.pointer (some ⟨bo,0,none⟩),.pointer (some ⟨bk,0,none⟩)]∧
  (F bw∧F bd∧F bo∧F bk)∧Blk w bw 4 #[.bool u.old.isSome]∧Blk w bd 89 o.cells∧(∀ x,u.old=some x→x=o)∧Blk w bo 36 #[.pointer (some ⟨O,0,none⟩)]∧Blk w bk 9 #[.string u.k]
theorem UndoV.agree {w w':World} {F:Nat→Prop} {O:Nat} {u:UD} {v:Value} (h:UndoV w F O u v) (ha:Agree F w w'):UndoV w' F O u v:=by
 obtain ⟨bw,bd,bo,bk,o,h1,⟨f1,f2,f3,f4⟩,h2,h3,h4,h5,h6⟩:=h
 exact ⟨bw,bd,bo,bk,o,h1,⟨f1,f2,f3,f4⟩,h2.agree ha f1,h3.agree ha f2,h4,h5.agree ha f3,h6.agree ha f4⟩
theorem UndoV.mono {w:World} {F G:Nat→Prop} {O:Nat} {u:UD} {v:Value} (h:UndoV w F O u v) (hG:∀ i,F i→G i):UndoV w G O u v:=by
 obtain ⟨bw,bd,bo,bk,o,h1,⟨f1,f2,f3,f4⟩,r⟩:=h
 exact ⟨bw,bd,bo,bk,o,h1,⟨hG _ f1,hG _ f2,hG _ f3,hG _ f4⟩,r⟩
def OvMap (w:World) (mb:Option Nat) (C:AL SV):Prop:=match mb with
 | none=>C=[]
 | some b=>w.ownsMap Tryz.prog 9 heldR b C.length (mapA SV.val C)
theorem OvMap.heap {w w':World} {mb:Option Nat} {C:AL SV} (h:OvMap w mb C) (hb:∀ b,mb=some b→w'.heap[b]? = w.heap[b]?):OvMap w' mb C:=by
 cases mb with
 | none=>exact h
 | some b=>exact ownsMap_heap h (hb b rfl)
theorem OvMap.lt {w:World} {mb:Option Nat} {C:AL SV} (h:OvMap w mb C) {b:Nat} (hb:mb=some b):b<w.heap.size:=by
 subst hb;exact World.ownsMap.lt h
theorem ownsMap_exact {w:World} {b n:Nat} {C:AL SV} (h:w.ownsMap Tryz.prog 9 heldR b n (mapA SV.val C)):w.ownsMap Tryz.prog 9 heldR b C.length (mapA SV.val C):=by
 obtain ⟨es,clock,h1,F,h2,h3⟩:=h
 refine ⟨es,clock,h1,F,?_,h3⟩
 have:=congrArg Maps.size h3
 rw [size_mapA] at this
 simp [Maps.size,length_sorted] at this
 omega
def OvRow (w:World) (F:Nat→Prop) (O:Nat) (s:Sl) (us:List UD):Prop:=
 ∃ xs:List Value,xs.length=us.length∧w.ownsRow 0 1 1 (.slice s.a us.length s.c) us.length xs∧∀ (i:Nat) (u:UD) (v:Value),us[i]? = some u→xs[i]? = some v→UndoV w F O u v
structure OvAt (H:Nat→Prop) (w:World) (O:Nat) (d:OD):Prop where
 blk:Blk w O 83 #[rootV d.T,.map d.mb,.slice d.s.a d.us.length d.s.c]
 map:OvMap w d.mb d.C
 row:OvRow w (OvF H w O d) O d.s d.us
 vals:∀ p∈d.C,p.1.size≤maxLen∧SVok w (OvF H w O d) p.2
 olds:∀ u∈d.us,u.k.size≤maxLen∧∀ o,u.old=some o→SVok w (OvF H w O d) o
 hist:Chain d.us d.Hs
 h0:d.Hs[0]? = some []
 last:d.Hs[d.us.length]? = some d.C
 sorted:SortedA d.C
 tree:IsT w (OvF H w O d) d.T
 ok:OkR d.T
 ne:d.mb≠some O∧d.s.row≠some O∧∀ b,d.mb=some b→d.s.row≠some b
 out:∀ b,OvB O d b→¬H b
 some_:d.us≠[]→∃ b,d.mb=some b
theorem Chain.short {us:List UD} {Hs:List (AL SV)} (h:Chain us Hs) (h0:Hs[0]? = some []):∀ (i:Nat) (C:AL SV),Hs[i]? = some C→C.length≤i
 | 0,C,hC=>by rw [h0] at hC;injection hC with hC;subst hC;exact Nat.le_refl _
 | i+1,C,hC=>by
   have hi:i<us.length:=by have:=(List.getElem?_eq_some_iff.1 hC).1;have:=h.len;omega
   obtain ⟨C',s,h1,h2,h3,h4⟩:=h.step i _ (List.getElem?_eq_getElem hi)
   rw [h4] at hC
   injection hC with hC
   subst hC
   have:=h.short h0 i C' h1
   have:=putA_len (C:=C') (k:=(us[i]'hi).k) (v:=s)
   omega
section
variable {H : Nat → Prop} {w w' : World} {O : Nat} {d : OD}
theorem OvAt.few (h:OvAt H w O d):d.C.length≤d.us.length:=h.hist.short h.h0 _ _ h.last
theorem OvAt.row_lt (h:OvAt H w O d) {b:Nat} (hb:d.s.row=some b):b<w.heap.size:=by
 obtain ⟨xs,-,h2,-⟩:=h.row
 exact (own_row h2 hb).2
theorem OvAt.own_lt (h:OvAt H w O d) {b:Nat} (hb:OvB O d b):b<w.heap.size:=by
 rcases hb with rfl | hb | hb
 ·exact h.blk.lt
 ·exact h.map.lt hb
 exact h.row_lt hb
theorem OvAt.sb {G:Nat→Prop} (h:OvAt H w O d) (k:Sb G w w') (hG:∀ b,G b→H b):OvAt H w' O d:=by
 have ha:Agree (OvF H w O d) w w':=fun b hb=>k.block b hb.1 fun hh=>hb.2.2 (hG b hh)
 have hm:∀ i,OvF H w O d i→OvF H w' O d i:=fun i hi=>⟨Nat.lt_of_lt_of_le hi.1 k.size,hi.2⟩
 have hn:∀ b,OvB O d b→¬G b:=fun b hb hg=>h.out b hb (hG b hg)
 obtain ⟨xs,r1,r2,r3⟩:=h.row
 exact ⟨k.blk h.blk (hn O (.inl rfl)),h.map.heap fun b hb=>k.block b (h.map.lt hb) (hn b (.inr (.inl hb))),
  ⟨xs,r1,own_agree r2 k.agree fun b hb=>⟨h.row_lt hb,hn b (.inr (.inr hb))⟩,fun i u v hu hv=>((r3 i u v hu hv).agree ha).mono hm⟩,
  fun p hp=>⟨(h.vals p hp).1,((h.vals p hp).2.agree ha).mono hm⟩,fun u hu=>⟨(h.olds u hu).1,fun o ho=>(((h.olds u hu).2 o ho).agree ha).mono hm⟩,
  h.hist,h.h0,h.last,h.sorted,(h.tree.agree ha).mono hm,h.ok,h.ne,h.out,h.some_⟩
theorem OvAt.ext (h:OvAt H w O d) (k:Ext w w'):OvAt H w' O d:=h.sb (k.sb fun _=>False) fun _ hb=>hb.elim
theorem OvAt.more {G:Nat→Prop} (h:OvAt H w O d) (hG:∀ b,b<w.heap.size→G b→H b):OvAt G w O d:=by
 have hm:∀ i,OvF H w O d i→OvF G w O d i:=fun i hi=>⟨hi.1,hi.2.1,fun hg=>hi.2.2 (hG i hi.1 hg)⟩
 obtain ⟨xs,r1,r2,r3⟩:=h.row
 exact ⟨h.blk,h.map,⟨xs,r1,r2,fun i u v hu hv=>(r3 i u v hu hv).mono hm⟩,fun p hp=>⟨(h.vals p hp).1,(h.vals p hp).2.mono hm⟩,
  fun u hu=>⟨(h.olds u hu).1,fun o ho=>((h.olds u hu).2 o ho).mono hm⟩,h.hist,h.h0,h.last,h.sorted,h.tree.mono hm,h.ok,h.ne,fun b hb hg=>h.out b hb (hG b (h.own_lt hb) hg),h.some_⟩
end
theorem strKey:Keyed Tryz.prog 9:=string_keyed Tryz.underlying9
theorem keyA (k:ByteArray) (hk:k.size≤maxLen):keyOf Tryz.prog 9 (.string k)=some (keyS k):=Go.WideMaps.keyOf_string_mk Tryz.underlying9 hk
structure OvTo (H:Nat→Prop) (w:World) (O:Nat) (d d':OD) (w':World):Prop where
 at_:OvAt H w' O d'
 sb:Sb (OvB O d) w w'
 new:∀ b,OvB O d' b→OvB O d b∨w.heap.size≤b
abbrev zeroSV:SV:=⟨false,zeroV,Sl.none,Sl.none⟩
theorem zeroSlot (w:World):(zeroValue 89).run Tryz.prog w=.ok zeroSV.val w:=by kernel_rfl
theorem Tryz.infoFn:(Tryz.prog.info? 1).map (fun i=>(i.zero,i.size,i.bytes))=some (some Value.nilFunc,1,8):=by kernel_rfl
def hadA (C:AL SV) (k:ByteArray):SV:=(getA C k).getD zeroSV
theorem look_ov {W:World} {mb:Option Nat} {C:AL SV} (hm:OvMap W mb C) {k:ByteArray} (hk:k.size≤maxLen) :
  (Instr.lookup 80 (.map mb) (.string k) true).run Tryz.prog W=.ok (.tuple #[(hadA C k).val,.bool (getA C k).isSome]) W:=by
 cases mb with
 | none=>
   have hC:C=[]:=hm
   subst hC
   rw [Maps.look_nil true strKey Tryz.underlying80 (zeroSlot W) (keyA k hk)]
   rfl
 | some b=>
   obtain ⟨v,ps,hrun,hv⟩:=World.ownsMap.look_ok hm strKey Tryz.underlying80 (zeroSlot W) (zd:=.held zeroSV.val) (zp:=[]) rfl (keyA k hk)
   rw [at_mapA] at hv
   rw [hrun,has_mapA]
   unfold hadA
   cases hg:getA C k with
   | none=>rw [hg] at hv;rw [heldR_inv hv];rfl
   | some s=>rw [hg] at hv;rw [heldR_inv hv];rfl
theorem oper_putA {o:Oper} {a:Act} {Q:Exit→Act→World→Prop} {K:Act→World→Prop} {w:World} {m x v:Operand} (hop:o.op=Op.mapUpdate 80 m x v)
  {b:Nat} {C:AL SV} {k:ByteArray} {s:SV} (hm:a.eval m=.map (some b)) (hx:a.eval x=.string k) (hv:a.eval v=s.val) (hown:OvMap w (some b) C) (hk:k.size≤maxLen) (hC:C.length<maxLen) (hs:SortedA C)
  (hK:∀ w',OvMap w' (some b) (putA C k s)→Sb (fun c=>c=b) w w'→K (a.put o.dst undef) w'):Oper.wp Tryz.prog o a w K Q:=by
 obtain ⟨w',hrun,r1,r2⟩:=World.ownsMap.store hown strKey Tryz.underlying80 hC (keyA k hk) (val:=s.val) (d:=.held s.val) (ps:=[]) rfl
 unfold Oper.wp
 simp [execOp,hop,hm,hx,hv,hrun,Result.andThen]
 rw [put_mapA SV.val hs] at r1
 exact hK _ (ownsMap_exact r1) (Sb.grown r2.grown)
theorem oper_delA {o:Oper} {a:Act} {Q:Exit→Act→World→Prop} {K:Act→World→Prop} {w:World} {m x:Operand} (hop:o.op=Op.call { callee:=Callee.builtin Builtin.delete,args:=#[m,x],argTypes:=#[80,9] })
  {b:Nat} {C:AL SV} {k:ByteArray} (hm:a.eval m=.map (some b)) (hx:a.eval x=.string k) (hown:OvMap w (some b) C) (hk:k.size≤maxLen)
  (hK:∀ w',OvMap w' (some b) (delA C k)→Sb (fun c=>c=b) w w'→K (a.put o.dst (.tuple #[])) w'):Oper.wp Tryz.prog o a w K Q:=by
 obtain ⟨w',hrun,r1,r2⟩:=World.ownsMap.drop hown strKey Tryz.underlying80 (keyA k hk) o.type
 unfold Oper.wp
 simp [execOp,hop,resolve,invoke,builtin,hm,hx,hrun,Result.andThen]
 rw [del_mapA SV.val] at r1
 exact hK _ (ownsMap_exact r1) (Sb.grown r2.grown)
theorem OvMap.ne {w:World} {b g:Nat} {C:AL SV} {t:TypeId} {cs:Array Value} (h:OvMap w (some b) C) (hb:Blk w g t cs):g≠b:=by
 rintro rfl
 obtain ⟨es,clock,h1,-⟩:=h
 have h2:w.heap[g]? = some (.cells cs t (0,0)):=hb
 rw [h1] at h2
 cases h2
theorem hist_end {us:List UD} {Hs:List (AL SV)} {C:AL SV} (h:Chain us Hs) (hl:Hs[us.length]? = some C):∃ Ps,Hs=Ps++[C]:=by
 have hn:=h.len
 rcases List.eq_nil_or_concat Hs with rfl | ⟨Ps,c,rfl⟩
 ·simp at hn
 refine ⟨Ps,?_⟩
 rw [List.concat_eq_append] at *
 rw [List.length_append,List.length_singleton] at hn
 rw [List.getElem?_append_right (by omega),show us.length - Ps.length=0 by omega] at hl
 injection hl with hl
 rw [hl]
section
variable {H : Nat → Prop} {w wc : World} {O : Nat} {d : OD}
theorem OvAt.made (h:OvAt H w O d) (hm:d.mb=none) {b:Nat} (hb:w.heap.size≤b) (hH:∀ b,H b→b<w.heap.size) (k:Sb (fun c=>c=O) w wc)
  (hblk:Blk wc O 83 #[rootV d.T,.map (some b),.slice d.s.a d.us.length d.s.c]) (hown:wc.ownsMap Tryz.prog 9 heldR b 0 (mapA SV.val [])):OvAt H wc O { d with mb:=some b }:=by
 have hC:d.C=[]:=by have:=h.map;rw [hm] at this;exact this
 have ha:Agree (OvF H w O d) w wc:=fun i hi=>k.block i hi.1 fun e=>hi.2.1 (.inl e)
 have hmm:∀ i,OvF H w O d i→OvF H wc O { d with mb:=some b } i:=fun i hi=>⟨Nat.lt_of_lt_of_le hi.1 k.size,fun e=>by
  rcases e with e | e | e
  ·exact hi.2.1 (.inl e)
  ·have e:some b=some i:=e
   injection e with e
   have:=hi.1;omega
  exact hi.2.1 (.inr (.inr e)),hi.2.2⟩
 obtain ⟨xs,r1,r2,r3⟩:=h.row
 refine ⟨hblk,?_,⟨xs,r1,own_agree r2 k.agree fun i hi=>⟨h.row_lt hi,fun e=>h.ne.2.1 (by rw [←e];exact hi)⟩,fun i u v hu hv=>((r3 i u v hu hv).agree ha).mono hmm⟩,
  fun p hp=>⟨(h.vals p hp).1,((h.vals p hp).2.agree ha).mono hmm⟩,fun u hu=>⟨(h.olds u hu).1,fun o ho=>(((h.olds u hu).2 o ho).agree ha).mono hmm⟩,
  h.hist,h.h0,h.last,h.sorted,(h.tree.agree ha).mono hmm,h.ok,⟨?_,h.ne.2.1,?_⟩,?_,fun _=>⟨b,rfl⟩⟩
 ·show wc.ownsMap _ _ _ _ _ _
  rw [hC];exact hown
 ·intro e
  have e:some b=some O:=e
  injection e with e
  have:=h.blk.lt;omega
 ·intro i hi hr
  have hi:some b=some i:=hi
  injection hi with hi
  have:=h.row_lt hr;omega
 rintro i (hi | hi | hi) hh
 ·exact h.out i (.inl hi) hh
 ·have hi:some b=some i:=hi
  injection hi with hi
  have:=hH i hh;omega
 exact h.out i (.inr (.inr hi)) hh
structure StepMid (H:Nat→Prop) (w:World) (O:Nat) (d:OD) (k:ByteArray) (sv:SV) (b:Nat) (wc:World):Prop where
 at_:OvAt H wc O { d with mb:=some b }
 sb:Sb (OvB O d) w wc
 mb:d.mb=some b∨w.heap.size≤b
 big:w.heap.size+3≤wc.heap.size
 bo:Blk wc w.heap.size 36 #[.pointer (some ⟨O,0,none⟩)]
 bk:Blk wc (w.heap.size+1) 9 #[.string k]
 bs:Blk wc (w.heap.size+1+1) 89 sv.cells
 ok:SVok wc (OvF H wc O { d with mb:=some b }) sv
def StepPost (H:Nat→Prop) (O:Nat) (d:OD) (k:ByteArray) (sv:SV) (w:World) (e:Ending) (w':World):Prop:=
 (∃ r,e=.returned r)∧∃ mb s,OvTo H w O d ⟨d.T,mb,s,d.us++[⟨k,getA d.C k⟩],d.Hs++[putA d.C k sv],putA d.C k sv⟩ w'
abbrev undoC (bw bd bo bk:Nat):Value:=.func (.func 72) #[] #[.pointer (some ⟨bw,0,none⟩),.pointer (some ⟨bd,0,none⟩),.pointer (some ⟨bo,0,none⟩),.pointer (some ⟨bk,0,none⟩)]
theorem step_end {k:ByteArray} {sv:SV} {b:Nat} {wm W w5 w7:World} (hM:StepMid H w O d k sv b wc) (hlO:O<w.heap.size) (hrl:∀ i,d.s.row=some i→i<w.heap.size) (hH:∀ b,H b→b<w.heap.size) (hk:k.size≤maxLen) (hxm:Ext wc wm)
  {bw bd:Nat} (hw1:wc.heap.size≤bw∧bw<wm.heap.size) (hd1:wc.heap.size≤bd∧bd<wm.heap.size) (hbd:Blk wm bd 89 (hadA d.C k).cells) (hbw:Blk wm bw 4 #[.bool (getA d.C k).isSome]) (hx:Ext wm W)
  {xs:List Value} (hl:xs.length=d.us.length) (hun:∀ (i:Nat) (u:UD) (v:Value),d.us[i]? = some u→xs[i]? = some v→UndoV wc (OvF H wc O { d with mb:=some b }) O u v) {s5:Sl}
  (hown:w5.ownsRow 0 1 1 (.slice s5.a (d.us.length+1) s5.c) (d.us.length+1) (xs++[undoC bw bd w.heap.size (w.heap.size+1)])) (hwr:Wr W w5 d.s.row) (hs:s5.a=d.s.a∨s5.a=some ⟨W.heap.size,0,none⟩∧Wr W w5 none)
  (h7:OvMap w7 (some b) (putA d.C k sv)) (hsb7:Sb (fun c=>c=b) (w5.setCell ⟨O,2,none⟩ (.slice s5.a (d.us.length+1) s5.c)) w7) :
  OvTo H w O d ⟨d.T,some b,s5,d.us++[⟨k,getA d.C k⟩],d.Hs++[putA d.C k sv],putA d.C k sv⟩ w7:=by
 have hbig:=hM.big
 have hcm:=hxm.size
 have hmW:=hx.size
 have hW5:=hwr.grown.size
 have h57:=hsb7.size
 rw [World.size_setCell] at h57
 have hbl:b<wc.heap.size:=hM.at_.map.lt rfl
 have hbO:b≠O:=fun e=>hM.at_.ne.1 (by rw [e])
 have hbr:d.s.row≠some b:=fun e=>hM.at_.ne.2.2 b rfl e
 have hOr:d.s.row≠some O:=hM.at_.ne.2.1
 have hrow:∀ i,s5.row=some i→d.s.row=some i∨i=W.heap.size:=fun i hi=>by
  rcases hs with h | ⟨h,-⟩
  ·left;rw [Sl.row,←h];exact hi
  right;rw [Sl.row,h] at hi;simpa using hi.symm
 have h5O:s5.row≠some O:=fun e=>by
  rcases hrow O e with h | h
  ·exact hOr h
  omega
 have h5b:s5.row≠some b:=fun e=>by
  rcases hrow b e with h | h
  ·exact hbr h
  omega
 -- what turns between wc and the end
 have hW:Sb (fun _=>False) wc W:=(hxm.trans hx).sb _
 have h5:Sb (fun c=>d.s.row=some c) W w5:=⟨hwr.grown.os,hwr.grown.tape,hwr.grown.output,hwr.grown.size,fun i hi hn=>hwr.grown.block i hi fun e=>hn e.symm⟩
 have h6:Sb (fun c=>c=O) w5 (w5.setCell ⟨O,2,none⟩ (.slice s5.a (d.us.length+1) s5.c)):=(Sb.refl (fun c=>c=O) w5).set (p:=⟨O,2,none⟩) (.inr rfl) _
 have hall:Sb (OvB O { d with mb:=some b }) wc w7:=
  (((hW.mono fun i _ h=>h.elim).trans (h5.mono fun i _ h=>.inr (.inr h))).trans (h6.mono fun i _ h=>.inl h)).trans (hsb7.mono fun i _ h=>.inr (.inl (by rw [h])))
 have hkeep:∀ {g t cs},Blk wm g t cs→g≠O→g≠b→d.s.row≠some g→Blk w7 g t cs:=fun hb h1 h2 h3=>
  hsb7.blk (h6.blk (h5.blk (hb.ext hx) h3) h1) h2
 have hout:∀ i,wc.heap.size≤i∨(i=w.heap.size∨i=w.heap.size+1)→i<wm.heap.size→i≠b→OvF H w7 O ⟨d.T,some b,s5,d.us++[⟨k,getA d.C k⟩],d.Hs++[putA d.C k sv],putA d.C k sv⟩ i:=fun i hi hlt hnb=>
  ⟨by omega,fun e=>by
    rcases e with e | e | e
    ·omega
    ·have e:some b=some i:=e
     injection e with e
     exact hnb e.symm
    rcases hrow i e with h | h
    ·have:=hrl i h;omega
    omega,fun hh=>by have:=hH i hh;omega⟩
 have hb0:=hM.bo
 have hb1:=hM.bk
 have nb0:=OvMap.ne hM.at_.map hb0
 have nb1:=OvMap.ne hM.at_.map hb1
 have ha:Agree (OvF H wc O { d with mb:=some b }) wc w7:=fun i hi=>hall.block i hi.1 hi.2.1
 have hm:∀ i,OvF H wc O { d with mb:=some b } i→OvF H w7 O ⟨d.T,some b,s5,d.us++[⟨k,getA d.C k⟩],d.Hs++[putA d.C k sv],putA d.C k sv⟩ i:=fun i hi=>
  ⟨Nat.lt_of_lt_of_le hi.1 hall.size,fun e=>by
    rcases e with e | e | e
    ·exact hi.2.1 (.inl e)
    ·exact hi.2.1 (.inr (.inl e))
    rcases hrow i e with h | h
    ·exact hi.2.1 (.inr (.inr h))
    have:=hi.1;omega,hi.2.2⟩
 obtain ⟨Ps,hPs⟩:=hist_end hM.at_.hist hM.at_.last
 have hPs:d.Hs=Ps++[d.C]:=hPs
 have hch:Chain d.us d.Hs:=hM.at_.hist
 have hlast:d.Hs[d.us.length]? = some d.C:=hM.at_.last
 have hlen:=hch.len
 have hsrt:SortedA d.C:=hM.at_.sorted
 refine ⟨⟨?_,h7,⟨xs++[undoC bw bd w.heap.size (w.heap.size+1)],by simp [hl],?_,?_⟩,?_,?_,?_,?_,?_,putA_sorted hsrt _ _,(hM.at_.tree.agree ha).mono hm,hM.at_.ok,⟨?_,h5O,?_⟩,?_,fun _=>⟨b,rfl⟩⟩,?_,?_⟩
 ·have h8:Blk (w5.setCell ⟨O,2,none⟩ (.slice s5.a (d.us.length+1) s5.c)) O 83 #[rootV d.T,.map (some b),.slice s5.a (d.us.length+1) s5.c]:=(h5.blk ((hM.at_.blk.ext hxm).ext hx) hOr).set_ 2 _
  have h9:=hsb7.blk h8 (fun e=>hbO e.symm)
  show Blk w7 O _ #[_,_,.slice s5.a (d.us++[(⟨k,getA d.C k⟩:UD)]).length s5.c]
  rw [List.length_append,List.length_singleton]
  exact h9
 ·show w7.ownsRow 0 _ 1 (.slice s5.a (d.us++[(⟨k,getA d.C k⟩:UD)]).length s5.c) (d.us++[(⟨k,getA d.C k⟩:UD)]).length _
  rw [List.length_append,List.length_singleton]
  exact own_agree (own_agree hown h6.agree fun i hi=>⟨(own_row hown hi).2,fun e=>h5O (by rw [←e];exact hi)⟩) hsb7.agree fun i hi=>⟨by rw [World.size_setCell];exact (own_row hown hi).2,fun e=>h5b (by rw [←e];exact hi)⟩
 ·intro i u v hu hv
  rcases Nat.lt_or_ge i d.us.length with hi | hi
  ·have hu:(d.us++[(⟨k,getA d.C k⟩:UD)])[i]? = some u:=hu
   rw [List.getElem?_append_left hi] at hu
   rw [List.getElem?_append_left (by omega)] at hv
   exact ((hun i u v hu hv).agree ha).mono hm
  have hu:(d.us++[(⟨k,getA d.C k⟩:UD)])[i]? = some u:=hu
  rw [List.getElem?_append_right hi] at hu
  rw [List.getElem?_append_right (by omega)] at hv
  have h0:i - d.us.length=0:=by have:=(List.getElem?_eq_some_iff.1 hu).1;simpa using this
  rw [h0] at hu
  rw [show i - xs.length=0 by omega] at hv
  have hu:(⟨k,getA d.C k⟩:UD)=u:=by simpa using hu
  have hv:undoC bw bd w.heap.size (w.heap.size+1)=v:=by simpa using hv
  subst hu hv
  refine ⟨bw,bd,w.heap.size,w.heap.size+1,hadA d.C k,rfl,⟨hout _ (.inl hw1.1) hw1.2 (by omega),hout _ (.inl hd1.1) hd1.2 (by omega),hout _ (.inr (.inl rfl)) (by omega) nb0,hout _ (.inr (.inr rfl)) (by omega) nb1⟩,?_,?_,?_,?_,?_⟩
  ·exact hkeep hbw (by omega) (by omega) fun e=>by have:=hrl _ e;omega
  ·exact hkeep hbd (by omega) (by omega) fun e=>by have:=hrl _ e;omega
  ·intro x hx
   have hx:getA d.C k=some x:=hx
   unfold hadA;rw [hx];rfl
  ·exact hkeep (hb0.ext hxm) (by omega) nb0 fun e=>by have:=hrl _ e;omega
  exact hkeep (hb1.ext hxm) (by omega) nb1 fun e=>by have:=hrl _ e;omega
 ·intro p hp
  rcases mem_putA hp with rfl | hp
  ·exact ⟨hk,(hM.ok.agree ha).mono hm⟩
  exact ⟨(hM.at_.vals p hp).1,((hM.at_.vals p hp).2.agree ha).mono hm⟩
 ·intro u hu
  rcases List.mem_append.1 hu with hu | hu
  ·exact ⟨(hM.at_.olds u hu).1,fun o ho=>(((hM.at_.olds u hu).2 o ho).agree ha).mono hm⟩
  rw [List.mem_singleton.1 hu]
  exact ⟨hk,fun o ho=>((((hM.at_.vals (k,o) (getA_some ho)).2).agree ha).mono hm)⟩
 ·show Chain (d.us++[(⟨k,getA d.C k⟩:UD)]) (d.Hs++[putA d.C k sv])
  rw [hPs] at hch ⊢
  exact hch.snoc hsrt k sv
 ·have h0:d.Hs[0]? = some []:=hM.at_.h0
  show (d.Hs++[putA d.C k sv])[0]? = _
  rw [List.getElem?_append_left (by omega)];exact h0
 ·show (d.Hs++[putA d.C k sv])[(d.us++[(⟨k,getA d.C k⟩:UD)]).length]? = some (putA d.C k sv)
  rw [List.length_append,List.length_singleton,List.getElem?_append_right (by omega),show d.us.length+1 - d.Hs.length=0 by omega];rfl
 ·intro e
  have e:some b=some O:=e
  injection e with e
  exact hbO e
 ·intro i hi
  have hi:some b=some i:=hi
  injection hi with hi
  subst hi
  exact h5b
 ·rintro i (hi | hi | hi) hh
  ·exact hM.at_.out i (.inl hi) hh
  ·exact hM.at_.out i (.inr (.inl hi)) hh
  rcases hrow i hi with h | h
  ·exact hM.at_.out i (.inr (.inr h)) hh
  have:=hH i hh;omega
 ·refine hM.sb.comp hall fun i hi h=>?_
  rcases h with h | h | h
  ·exact .inl h
  ·have h:some b=some i:=h
   injection h with h
   subst h
   rcases hM.mb with h | h
   ·exact .inr (.inl h)
   omega
  exact .inr (.inr h)
 rintro i (hi | hi | hi)
 ·exact .inl (.inl hi)
 ·have hi:some b=some i:=hi
  injection hi with hi
  subst hi
  rcases hM.mb with h | h
  ·exact .inl (.inr (.inl h))
  exact .inr h
 rcases hrow i hi with h | h
 ·exact .inl (.inr (.inr h))
 right;omega
end
abbrev od0 (T:RT):OD:=⟨T,none,Sl.none,[],[[]],[]⟩
theorem OvAt.fresh {H:Nat→Prop} {w:World} {F:Nat→Prop} {O:Nat} {T:RT} (hb:Blk w O 83 #[rootV T,.map none,.slice none 0 0]) (hT:IsT w F T) (ok:OkR T) (hF:∀ b,F b→b<w.heap.size∧¬H b∧b≠O) (hO:¬H O):OvAt H w O (od0 T):=
 ⟨hb,rfl,⟨[],rfl,World.ownsRow_nil _ _ _ _,fun i u v hu=>by simp at hu⟩,fun p hp=>(by cases hp),fun u hu=>(by cases hu),Chain.nil [],rfl,rfl,List.Pairwise.nil,
   hT.mono fun b hb=>⟨(hF b hb).1,⟨fun h=>by
    rcases h with h | h | h
    ·exact (hF b hb).2.2 h
    ·cases h
    (cases h),(hF b hb).2.1⟩⟩,ok,⟨by simp,by simp [Sl.row],fun b hb=>(by cases hb)⟩,fun b hb=>by
   rcases hb with rfl | h | h
   ·exact hO
   ·cases h
   (cases h),fun h=>absurd rfl h⟩
theorem begin_ov {w:World} {F H:Nat→Prop} {T:RT} (hT:IsT w F T) (ok:OkR T) (hF:∀ b,F b→b<w.heap.size∧¬H b) (hH:∀ b,H b→b<w.heap.size) :
  Calls Tryz.prog 15 #[treeV T] w fun e w'=>∃ O,e=.returned (.pointer (some ⟨O,0,none⟩))∧w.heap.size≤O∧OvAt H w' O (od0 T)∧Ext w w':=by
 obtain ⟨p,hp⟩:=rootV_ptr T
 rw [treeV,hp]
 have HT:=Lib.hid hT
 have HF:=Lib.hid hF
 have HH:=Lib.hid hH
 have HP:=Lib.hid hp
 clear hT hF hH hp
 go_enter Tryz.func15,Tryz.ntmps15
 go_wp2_with fail
 generalize hW0:World.alloc _ _=W0
 obtain ⟨hx0,hz0,-,hb1⟩:=two_blocks w _ _ _ _ W0 hW0
 refine bodyPost_ret (v:=.pointer (some ⟨w.heap.size+1,0,none⟩)) (by simp [results,Tryz.results15,go_sem]) rfl ?_
 refine ⟨w.heap.size+1,rfl,Nat.le_succ _,OvAt.fresh (by rw [HP.out];exact hb1) (HT.out.agree (hx0.agree fun b hb=>(HF.out b hb).1)) ok (fun b hb=>⟨by have:=(HF.out b hb).1;omega,(HF.out b hb).2,by have:=(HF.out b hb).1;omega⟩) (fun h=>by have:=HH.out _ h;omega),hx0⟩
theorem mark_ov {H:Nat→Prop} {w:World} {O:Nat} {d:OD} (h:OvAt H w O d):Calls Tryz.prog 22 #[.pointer (some ⟨O,0,none⟩)] w fun e w'=>e=.returned (.int .i64 (d.us.length:Int))∧Ext w w':=by
 have c2:w.cell? ⟨O,2,none⟩=some (.slice d.s.a d.us.length d.s.c):=h.blk.cell 2
 clear h
 go_enter Tryz.func22,Tryz.ntmps22
 go_wp2_with fail
 go_ret
 exact ⟨rfl,Ext.refl w⟩
abbrev OD.now (d:OD) (k:ByteArray):Option Val:=nowE (entsT d.T) (optA d.C) k
theorem now_none {d:OD} {k:ByteArray} (h:getA d.C k=none):d.now k=getE (entsT d.T) k:=by
 unfold OD.now nowE
 rw [getA_opt,h];rfl
theorem now_some {d:OD} {k:ByteArray} {s:SV} (h:getA d.C k=some s):d.now k=s.opt:=by
 unfold OD.now nowE
 rw [getA_opt,h];rfl
theorem opt_val {w:World} {F:Nat→Prop} {s:SV} (h:SVok w F s):s.opt.getD zeroV=s.v∧s.opt.isSome=s.has:=by
 unfold SV.opt
 cases hh:s.has with
 | true=>simp
 | false=>simp [h.2 hh]
theorem get_ov {H:Nat→Prop} {w:World} {O:Nat} {d:OD} (h:OvAt H w O d) (hl:(entsT d.T).length≤1000000) {k:ByteArray} (hk:k.size≤maxLen) :
  Calls Tryz.prog 47 #[.pointer (some ⟨O,0,none⟩),.string k] w (GetPost (d.now k) w):=by
 have lO:=h.blk.lt
 have c1:w.cell? ⟨O,1,none⟩=some (.map d.mb):=h.blk.cell 1
 have c0:w.cell? ⟨O,0,none⟩=some (rootV d.T):=h.blk.cell 0
 have hlk:∀ cs t,(Instr.lookup 80 (.map d.mb) (.string k) true).run Tryz.prog (w.alloc (.cells cs t))=.ok (.tuple #[(hadA d.C k).val,.bool (getA d.C k).isSome]) (w.alloc (.cells cs t)):=fun cs t=>
  look_ov (h.map.heap fun b hb=>Below.heap_alloc _ _ _ (h.map.lt hb)) hk
 cases hg:getA d.C k with
 | none=>
   rw [now_none hg]
   simp only [hg,hadA,Option.getD_none,Option.isSome_none] at hlk
   have hF:∀ b,OvF H w O d b→b<w.heap.size:=fun b hb=>hb.1
   have hgt:=fun W (hW:Ext w W)=>treeGet_any (w:=W) (fun b hb=>Nat.lt_of_lt_of_le (hF b hb) hW.size) (h.tree.agree (hW.agree hF)) h.ok hl k
   generalize getE (entsT d.T) k=og at *
   obtain ⟨p,hp⟩:=rootV_ptr d.T
   rw [hp] at c0
   simp only [treeV,hp] at hgt
   have HGT:=Lib.hid hgt
   clear hgt h hF hg hp
   go_enter Tryz.func47,Tryz.ntmps47
   go_wp2_with fail
   generalize hW0:World.alloc _ _=W0
   obtain ⟨hx0,hz0,hb0,hb1⟩:=two_blocks w _ _ _ _ W0 hW0
   have HX0:=Lib.hid hx0
   have HB0:=Lib.hid hb0
   have HZ:=Lib.hid hz0
   clear hW0 hb0 hb1 hz0 hlk
   refine (HGT.out W0 hx0).mono ?_
   rintro e w1 ⟨sl,so,rfl,hx1,hrv⟩
   have hb:=HB0.out.ext hx1
   obtain ⟨q0,q1,q2,q3,q4,q5⟩:=hb.c6
   have f2:=hb.frozen
   have lb:=hb.lt
   have HX1:=Lib.hid hx1
   have HRV:=Lib.hid hrv
   clear hb hx1 hrv hx0 HGT
   go_wp2_with fail
   refine bodyPost_ret (v:=.tuple #[aggV (og.getD zeroV) sl so,.bool og.isSome]) (by simp [results,Tryz.results47,go_sem,q0,q1,q2,q3,q4,q5]) rfl ?_
   exact getPost_end (HX0.out.trans HX1.out) (b:=w.heap.size) (lo:=W0.heap.size) (by omega) (by rw [HZ.out];omega) HRV.out
 | some s=>
   rw [now_some hg]
   have hs:=(h.vals (k,s) (getA_some hg)).2
   have hv:s.opt.getD zeroV=s.v∧s.opt.isSome=s.has:=opt_val hs
   simp only [hg,hadA,Option.getD_some,Option.isSome_some] at hlk
   have hcp:=fun W (hW:Ext w W)=>copy_any _ s.v (Nat.le_refl _) W s.sl s.so ((hs.1.agree (hW.agree fun b hb=>hb.1)).mono fun b hb=>Nat.lt_of_lt_of_le hb.1 hW.size)
   obtain ⟨og,hog⟩:∃ og,s.opt=og:=⟨_,rfl⟩
   rw [hog] at hv ⊢
   obtain ⟨has,v,sl,so⟩:=s
   obtain ⟨rfl,rfl⟩:=hv
   have HCP:=Lib.hid hcp
   clear hcp h hg hs hog
   go_enter Tryz.func47,Tryz.ntmps47
   go_wp2_with fail
   generalize hW0:World.alloc _ _=W0
   obtain ⟨hx0,hz0,hb0,hb1⟩:=two_blocks w _ _ _ _ W0 hW0
   have HSS:=Lib.hid (show ∀ W,St (fun b=>b=w.heap.size) W0 W→W.cell? ⟨w.heap.size+1,0,none⟩=some (.bool og.isSome)∧W.cell? ⟨w.heap.size+1,1,none⟩=some (.int .i64 (og.getD zeroV).kind)∧W.cell? ⟨w.heap.size+1,2,none⟩=some (.bool (og.getD zeroV).b)∧W.cell? ⟨w.heap.size+1,3,none⟩=some (.int .i64 (og.getD zeroV).i)∧W.cell? ⟨w.heap.size+1,4,none⟩=some (.string (og.getD zeroV).t)∧W.cell? ⟨w.heap.size+1,5,none⟩=some (.slice sl.a (og.getD zeroV).l.length sl.c)∧W.cell? ⟨w.heap.size+1,6,none⟩=some (.slice so.a (og.getD zeroV).ok.length so.c) from
    fun W hW=>by
     have hb:=hW.blk hb1 (by omega)
     exact ⟨hb.cell 0,hb.cell 1,hb.cell 2,hb.cell 3,hb.cell 4,hb.cell 5,hb.cell 6⟩)
   have HX0:=Lib.hid hx0
   have HB0:=Lib.hid hb0
   have HZ:=Lib.hid hz0
   have l0:=hb0.lt
   clear hW0 hx0 hb0 hb1 hz0 hlk
   refine wp_region_held_drew (S:=(fun w'=>St (fun b=>b=w.heap.size) W0 w')) (by kernel_rfl) (((St.refl _ W0).drew)) (fun hHeld=>?_)
   refine heldT 0 (some 21) HSS hHeld ?_
   refine heldT 1 (some 22) HSS hHeld ?_
   refine heldT 3 (some 24) HSS hHeld ?_
   refine heldT 4 (some 25) HSS hHeld ?_
   refine held_call (i:=2) (by kernel_rfl) rfl (by rfl) (fun K hK=>?_)
   go_simp
   (refine (HCP.out _ (HX0.out.drew)).mono ?_;rintro e w2 ⟨sl2,so2,rfl,hx2,hrv⟩;have hb2:=(HB0.out.ext ((Ext.refl W0).drew)).ext hx2;obtain ⟨q0,q1,q2,q3,q4,q5⟩:=hb2.c6;have f2:=hb2.frozen;have lb:=hb2.lt)
   refine hK.out _ _ (hHeld.ext hx2) (fun hHeld=>?_)
   clear hK K
   try simp only [Act.put,List.setIfInBounds_toArray,List.set_cons_zero,List.set_cons_succ]
   refine held_call (i:=5) (by kernel_rfl) rfl (by rfl) (fun K hK=>?_)
   go_simp
   skip
   refine hK.out _ _ (hHeld.putV (.inr rfl) 0 _ _ _) (fun hHeld=>?_)
   clear hK K
   try simp only [Act.put,List.setIfInBounds_toArray,List.set_cons_zero,List.set_cons_succ]
   refine heldT 6 (some 5) HSS hHeld ?_
   refine wpAnyH_done (by kernel_rfl) ?_ _
   go_wp2_with fail
   refine bodyPost_ret (v:=.tuple #[aggV (og.getD zeroV) sl2 so2,.bool og.isSome]) (by simp [results,Tryz.results47,go_sem,q0,q1,q2,q3,q4,q5]) rfl ?_
   exact getPost_end ((HX0.out.drew).trans hx2) (b:=w.heap.size) (lo:=W0.heap.size) (by omega) (by rw [HZ.out];omega) hrv
end Go.Proofs.YtkhdiakpdafcdaaGreatDoor
namespace Go.Proofs.YtkhdiakpdafcdaaGreatDoor
open Go.RowKit
set_option linter.unusedVariables false
def onlyO (R:Act→World→Prop):Exit→Act→World→Prop
 | .normal,a,w=>R a w
 | _,_,_=>False
theorem onlyO_mk {R:Act→World→Prop} {a:Act} {w:World} (h:R a w):onlyO R .normal a w:=h
def putO (tm:Array Value):List (Nat × Value)→Array Value
 | []=>tm
 | (i,v) :: l=>putO (tm.setIfInBounds i v) l
theorem wp_meetO {P:Program} {c:Code} {Q:Exit→Act→World→Prop} {a:Act} {w:World} {α:Type} (Rw:World→α→Prop) (ds:List Nat) (vals:α→List (Nat × Value))
  (h1:c.wp P (onlyO fun a' w'=>∃ x,Rw w' x∧a'.defers=a.defers∧a'.tmps=putO a.tmps ((ds.map fun d=>(d,a'.tmps.getD d undef))++vals x)) a w)
  (h2:∀ (w':World) (x:α) (vs:Nat→Value),Rw w' x→Q .normal { tmps:=putO a.tmps ((ds.map fun d=>(d,vs d))++vals x),defers:=a.defers } w'):c.wp P Q a w:=
 wp_mono h1 fun e a' w' h=>by
  cases e with
  | normal=>
    obtain ⟨x,hr,hd,ht⟩:=h
    have:=h2 w' x (fun d=>a'.tmps.getD d undef) hr
    rw [←ht,←hd] at this
    exact this
  | _=>exact h.elim
end Go.Proofs.YtkhdiakpdafcdaaGreatDoor
namespace Go.Proofs.YtkhdiakpdafcdaaGreatDoor
open Go.RowKit Go.Maps
set_option linter.unusedVariables false
set_option linter.unusedSimpArgs false
theorem two_drew (w:World) (t0 t1:TypeId) (c0 c1:Array Value):∀ W,((w.alloc (.cells c0 t0)).alloc (.cells c1 t1)).drew=W→
  Ext w W∧W.heap.size=w.heap.size+2∧Blk W w.heap.size t0 c0∧Blk W (w.heap.size+1) t1 c1:=by
 rintro W rfl
 obtain ⟨hx,hz,h0,h1⟩:=two_blocks w t0 t1 c0 c1 _ rfl
 exact ⟨hx.drew,hz,h0,h1⟩
theorem step_made {w:World} {O:Nat} {t t0 t1 t2:TypeId} {cs c0 c1 c2:Array Value} (hb:Blk w O t cs):∀ W,((((w.setCell ⟨O,1,none⟩ (.map (some (w.heap.size+1+1+1)))).alloc (.cells c0 t0)).alloc (.cells c1 t1)).alloc (.cells c2 t2)).alloc (.map #[] 0)=W→
  Sb (fun c=>c=O) w W∧w.heap.size+3≤W.heap.size∧Blk W O t (cs.setIfInBounds 1 (.map (some (w.heap.size+1+1+1))))∧Blk W w.heap.size t0 c0∧Blk W (w.heap.size+1) t1 c1∧Blk W (w.heap.size+1+1) t2 c2∧W.ownsMap Tryz.prog 9 heldR (w.heap.size+1+1+1) 0 (mapA SV.val []):=by
 rintro W rfl
 have hz:(w.setCell ⟨O,1,none⟩ (.map (some (w.heap.size+1+1+1)))).heap.size=w.heap.size:=World.size_setCell _ _ _
 have hs0:Sb (fun c=>c=O) w (w.setCell ⟨O,1,none⟩ (.map (some (w.heap.size+1+1+1)))):=(Sb.refl (fun c=>c=O) w).set (p:=⟨O,1,none⟩) (.inr rfl) _
 have hb0:=hb.set_ 1 (.map (some (w.heap.size+1+1+1)))
 generalize w.setCell ⟨O,1,none⟩ (.map (some (w.heap.size+1+1+1)))=W0 at *
 obtain ⟨hx,hz3,h0,h1,h2⟩:=three_blocks W0 t0 t1 t2 c0 c1 c2 _ rfl
 rw [hz] at h0 h1 h2 hz3
 generalize ((W0.alloc (.cells c0 t0)).alloc (.cells c1 t1)).alloc (.cells c2 t2)=W3 at *
 have hm:=World.ownsMap_made W3 Tryz.prog 9 heldR
 rw [show W3.heap.size=w.heap.size+1+1+1 by omega] at hm
 exact ⟨(hs0.trans (hx.sb _)).trans (Sb.made (World.grownBy_alloc _ _ _)),by simp;omega,(hb0.ext hx).alloc _,h0.alloc _,h1.alloc _,h2.alloc _,hm⟩
theorem step_any {H:Nat→Prop} {w:World} {O:Nat} {d:OD} (h:OvAt H w O d) (hH:∀ b,H b→b<w.heap.size) (hn:d.us.length≤1000000) {k:ByteArray} (hk:k.size≤maxLen) {sv:SV} (hsv:SVok w (OvF H w O d) sv) :
  Calls Tryz.prog 44 #[.pointer (some ⟨O,0,none⟩),.string k,sv.val] w (StepPost H O d k sv w):=by
 obtain ⟨i0,hi,hz0,hz1,hz2⟩:=info_parts Tryz.infoFn
 have hmm:=@run_makeMap Tryz.prog
 have qmn:∀ (w:World) (r:Option Nat),(binOp .eql 80 (.map r) (.map none)).run Tryz.prog w=.ok (.bool r.isNone) w:=fun w r=>run_eql_map_nil w _ _ _ r Tryz.underlying80
 have c1:w.cell? ⟨O,1,none⟩=some (.map d.mb):=h.blk.cell 1
 have f1:=h.blk.frozen 1
 have lO:=h.blk.lt
 have hrl:∀ i,d.s.row=some i→i<w.heap.size:=fun i hi=>h.row_lt hi
 have HAT:=Lib.hid h
 have HHH:=Lib.hid hH
 have HSV:=Lib.hid hsv
 have HRL:=Lib.hid hrl
 clear h hH hsv hrl
 obtain ⟨has,v,sl,so⟩:=sv
 show Calls _ _ #[_,_,.agg #[.bool has,.int .i64 v.kind,.bool v.b,.int .i64 v.i,.string v.t,.slice sl.a v.l.length sl.c,.slice so.a v.ok.length so.c]] _ _
 have l1:O<w.heap.size+1:=by omega
 have l2:O<w.heap.size+1+1:=by omega
 go_enter Tryz.func44,Tryz.ntmps44
 go_upto_if 12 with fail
 go_cut [] (fun wc=>∃ b,StepMid H w O d k ⟨has,v,sl,so⟩ b wc)
 case first=>
  obtain ⟨mb,hmb⟩:∃ mb,d.mb=mb:=⟨_,rfl⟩
  rw [hmb] at c1 ⊢
  have HMB:=Lib.hid hmb
  clear hmb
  rcases mb with _ | b
  ·go_wp2_with fail
   generalize hW0:World.alloc _ _=W0
   obtain ⟨hs0,hz0,hbO,hb0,hb1,hb2,hown⟩:=step_made HAT.out.blk W0 hW0
   clear hW0
   go_meet
   have hat:=HAT.out.made HMB.out (b:=w.heap.size+1+1+1) (by omega) HHH.out hs0 hbO hown
   refine ⟨_,hat,hs0.mono fun i _ h=>.inl h,.inr (by omega),hz0,hb0,hb1,hb2,?_⟩
   refine (HSV.out.agree (fun i hi=>hs0.block i hi.1 fun e=>hi.2.1 (.inl e))).mono fun i hi=>⟨Nat.lt_of_lt_of_le hi.1 hs0.size,fun e=>?_,hi.2.2⟩
   rcases e with e | e | e
   ·exact hi.2.1 (.inl e)
   ·have e:some (w.heap.size+1+1+1)=some i:=e
    injection e with e
    have:=hi.1;omega
   exact hi.2.1 (.inr (.inr e))
  go_wp2_with fail
  generalize hW0:World.alloc _ _=W0
  obtain ⟨hx0,hz0',hb0,hb1,hb2⟩:=three_blocks w _ _ _ _ _ _ W0 hW0
  clear hW0
  go_meet
  have hat:=HAT.out.ext hx0
  have hd:d={ d with mb:=some b }:=by rw [←HMB.out]
  refine ⟨b,by rw [←hd];exact hat,hx0.sb _,.inl HMB.out,by omega,hb0,hb1,hb2,?_⟩
  rw [←hd]
  exact (HSV.out.agree (hx0.agree fun b hb=>hb.1)).mono fun i hi=>⟨Nat.lt_of_lt_of_le hi.1 hx0.size,hi.2⟩
 obtain ⟨b,hM⟩:=hcut
 have hlk:∀ W,Ext wc W→(Instr.lookup 80 (.map (some b)) (.string k) true).run Tryz.prog W=.ok (.tuple #[(hadA d.C k).val,.bool (getA d.C k).isSome]) W:=fun W hW=>
  look_ov (hM.at_.ext hW).map hk
 obtain ⟨o,ho⟩:∃ o,hadA d.C k=o:=⟨_,rfl⟩
 obtain ⟨g,hg⟩:∃ g,(getA d.C k).isSome=g:=⟨_,rfl⟩
 rw [ho,hg] at hlk
 obtain ⟨oh,ov,osl,oso⟩:=o
 have HO:=Lib.hid ho
 have HG:=Lib.hid hg
 have lO3:O<wc.heap.size:=hM.at_.blk.lt
 have hbig:=hM.big
 have HM:=Lib.hid hM
 have HSS:=Lib.hid (show ∀ W,Ext wc W→W.cell? ⟨w.heap.size,0,none⟩=some (.pointer (some ⟨O,0,none⟩))∧W.cell? ⟨O,1,none⟩=some (.map (some b))∧W.cell? ⟨w.heap.size+1,0,none⟩=some (.string k)∧
   (Instr.lookup 80 (.map (some b)) (.string k) true).run Tryz.prog W=.ok (.tuple #[.agg #[.bool oh,.int .i64 ov.kind,.bool ov.b,.int .i64 ov.i,.string ov.t,.slice osl.a ov.l.length osl.c,.slice oso.a ov.ok.length oso.c],.bool g]) W from
  fun W hW=>⟨(hM.bo.ext hW).cell 0,((hM.at_.ext hW).blk).cell 1,(hM.bk.ext hW).cell 0,hlk W hW⟩)
 clear hM hlk ho hg c1 f1 l1 l2
 go_wp2_with fail
 refine wp_meetO (α:=Nat × Nat) (fun w' x=>Ext wc w'∧(wc.heap.size≤x.1∧x.1<w'.heap.size)∧(wc.heap.size≤x.2∧x.2<w'.heap.size)∧Blk w' x.1 89 #[.bool oh,.int .i64 ov.kind,.bool ov.b,.int .i64 ov.i,.string ov.t,.slice osl.a ov.l.length osl.c,.slice oso.a ov.ok.length oso.c]∧Blk w' x.2 4 #[.bool g]) [17,18,19,20,21,22,23,24,25] (fun x=>[(6,.pointer (some ⟨x.1,0,none⟩)),(7,.pointer (some ⟨x.2,0,none⟩))]) ?h1 ?h2
 case h1=>
  refine wp_region_held_drew (S:=(fun w'=>Ext wc w')) (by kernel_rfl) (((Ext.refl wc).drew)) (fun hHeld=>?_)
  refine heldT 0 (some 18) HSS hHeld ?_
  refine heldT 1 (some 19) HSS hHeld ?_
  refine heldT 2 (some 20) HSS hHeld ?_
  refine heldT 3 (some 21) HSS hHeld ?_
  refine heldT 4 (some 22) HSS hHeld ?_
  refine heldT 5 (some 23) HSS hHeld ?_
  refine heldT 6 (some 17) HSS hHeld ?_
  refine heldT 7 (some 24) HSS hHeld ?_
  refine heldT 8 (some 25) HSS hHeld ?_
  refine held_two (i:=9) (j:=10) (by kernel_rfl) rfl rfl (by rfl) (by rfl) (fun K hK=>?_) (fun K hK=>?_)
  ·go_simp
   skip
   refine hK.out _ _ ((by first|exact (((Ext.refl _).drew).alloc _ _).alloc _ _|exact ((Ext.refl _).drew).alloc _ _)) (fun hHeld=>?_)
   clear hK K
   try simp only [Act.put,List.setIfInBounds_toArray,List.set_cons_zero,List.set_cons_succ]
   refine held_call (i:=10) (by kernel_rfl) rfl (by rfl) (fun K hK=>?_)
   go_simp
   skip
   refine hK.out _ _ ((by first|exact (((Ext.refl _).drew).alloc _ _).alloc _ _|exact ((Ext.refl _).drew).alloc _ _)) (fun hHeld=>?_)
   clear hK K
   try simp only [Act.put,List.setIfInBounds_toArray,List.set_cons_zero,List.set_cons_succ]
   refine held_call (i:=11) (by kernel_rfl) rfl (by rfl) (fun K hK=>?_)
   go_simp
   skip
   refine hK.out _ _ ((by first|exact (((Ext.refl _).drew).alloc _ _).alloc _ _|exact (((Ext.refl _).alloc _ _).alloc _ _).drew)) (fun hHeld=>?_)
   clear hK K
   try simp only [Act.put,List.setIfInBounds_toArray,List.set_cons_zero,List.set_cons_succ]
   refine held_call (i:=12) (by kernel_rfl) rfl (by rfl) (fun K hK=>?_)
   go_simp
   skip
   refine hK.out _ _ ((by first|exact (((Ext.refl _).drew).alloc _ _).alloc _ _|exact (((Ext.refl _).alloc _ _).alloc _ _).drew)) (fun hHeld=>?_)
   clear hK K
   try simp only [Act.put,List.setIfInBounds_toArray,List.set_cons_zero,List.set_cons_succ]
   refine wpAnyH_done (by kernel_rfl) ?_ _
   generalize hWm:World.drew _=wm
   obtain ⟨hxm,hzm,hb1,hb2⟩:=two_drew wc _ _ _ _ wm hWm
   refine onlyO_mk ⟨(wc.heap.size,wc.heap.size+1),⟨hxm,⟨Nat.le_refl _,by show wc.heap.size<_;omega⟩,⟨Nat.le_succ _,by show wc.heap.size+1<_;omega⟩,hb1,hb2⟩,by kernel_rfl,?_⟩
   simp only [putO,List.map_cons,List.map_nil,List.cons_append,List.nil_append,List.setIfInBounds_toArray,List.set_cons_zero,List.set_cons_succ]
   kernel_rfl
  go_simp
  skip
  refine hK.out _ _ ((by first|exact (((Ext.refl _).drew).alloc _ _).alloc _ _|exact ((Ext.refl _).drew).alloc _ _)) (fun hHeld=>?_)
  clear hK K
  try simp only [Act.put,List.setIfInBounds_toArray,List.set_cons_zero,List.set_cons_succ]
  refine held_call (i:=9) (by kernel_rfl) rfl (by rfl) (fun K hK=>?_)
  go_simp
  skip
  refine hK.out _ _ ((by first|exact (((Ext.refl _).drew).alloc _ _).alloc _ _|exact ((Ext.refl _).drew).alloc _ _)) (fun hHeld=>?_)
  clear hK K
  try simp only [Act.put,List.setIfInBounds_toArray,List.set_cons_zero,List.set_cons_succ]
  refine held_call (i:=11) (by kernel_rfl) rfl (by rfl) (fun K hK=>?_)
  go_simp
  skip
  refine hK.out _ _ ((by first|exact (((Ext.refl _).drew).alloc _ _).alloc _ _|exact (((Ext.refl _).alloc _ _).alloc _ _).drew)) (fun hHeld=>?_)
  clear hK K
  try simp only [Act.put,List.setIfInBounds_toArray,List.set_cons_zero,List.set_cons_succ]
  refine held_call (i:=12) (by kernel_rfl) rfl (by rfl) (fun K hK=>?_)
  go_simp
  skip
  refine hK.out _ _ ((by first|exact (((Ext.refl _).drew).alloc _ _).alloc _ _|exact (((Ext.refl _).alloc _ _).alloc _ _).drew)) (fun hHeld=>?_)
  clear hK K
  try simp only [Act.put,List.setIfInBounds_toArray,List.set_cons_zero,List.set_cons_succ]
  refine wpAnyH_done (by kernel_rfl) ?_ _
  generalize hWm:World.drew _=wm
  obtain ⟨hxm,hzm,hb1,hb2⟩:=two_drew wc _ _ _ _ wm hWm
  refine onlyO_mk ⟨(wc.heap.size+1,wc.heap.size),⟨hxm,⟨Nat.le_succ _,by show wc.heap.size+1<_;omega⟩,⟨Nat.le_refl _,by show wc.heap.size<_;omega⟩,hb2,hb1⟩,by kernel_rfl,?_⟩
  simp only [putO,List.map_cons,List.map_nil,List.cons_append,List.nil_append,List.setIfInBounds_toArray,List.set_cons_zero,List.set_cons_succ]
  kernel_rfl
 rintro wm ⟨bd,bw⟩ uu ⟨hxm,hd1,hw1,hbd,hbw⟩
 simp only [putO,List.map_cons,List.map_nil,List.cons_append,List.nil_append,List.setIfInBounds_toArray,List.set_cons_zero,List.set_cons_succ]
 dsimp only at hd1 hw1 hbd hbw
 have hbm:=HM.out.at_.blk.ext hxm
 have c2:wm.cell? ⟨O,2,none⟩=some (.slice d.s.a d.us.length d.s.c):=hbm.cell 2
 have f2:=hbm.frozen 2
 have lOm:=hbm.lt
 have hob:=HM.out.bo.ext hxm
 have c3:wm.cell? ⟨w.heap.size,0,none⟩=some (.pointer (some ⟨O,0,none⟩)):=hob.cell 0
 have l3:=hob.lt
 obtain ⟨xs,hl,hown,hun⟩:=HM.out.at_.row
 have HL:=Lib.hid (show xs.length=d.us.length from hl)
 have HUN:=Lib.hid hun
 have HOX:=Lib.hid (show ∀ W,Ext wm W→W.ownsRow 0 1 1 (.slice d.s.a d.us.length d.s.c) d.us.length xs from fun W hW=>own_agree hown ((hxm.trans hW).agree fun b (hb:b<wc.heap.size)=>hb) fun b hb=>(own_row hown hb).2)
 have hrO:d.s.row≠some O:=HM.out.at_.ne.2.1
 have hr3:d.s.row≠some w.heap.size:=fun e=>by have:=HRL.out _ e;omega
 have hone:∀ u∈[undoC bw bd w.heap.size (w.heap.size+1)],u.oneCell'=true:=by simp [Value.oneCell']
 have h63:d.us.length+1≤maxLen:=by unfold maxLen;omega
 have hby:(d.us.length+1)*8≤140737488355328:=by omega
 have HXM:=Lib.hid hxm
 have HBD:=Lib.hid hbd
 have HBW:=Lib.hid hbw
 have HW1:=Lib.hid hw1
 have HD1:=Lib.hid hd1
 clear hbd hbw hw1 hd1 hbm hob hl hun hown hxm HSS
 go_wp2_with fail
 refine wp_meetO (α:=Sl × World × World) (fun w' x=>Ext wm x.2.1∧x.2.2.ownsRow 0 1 1 (.slice x.1.a (d.us.length+1) x.1.c) (d.us.length+1) (xs++[undoC bw bd w.heap.size (w.heap.size+1)])∧Wr x.2.1 x.2.2 d.s.row∧(x.1.a=d.s.a∨x.1.a=some ⟨x.2.1.heap.size,0,none⟩∧Wr x.2.1 x.2.2 none)∧w'=x.2.2.setCell ⟨O,2,none⟩ (.slice x.1.a (d.us.length+1) x.1.c)) [26,27,28,29,30,31,32,33,34,35] (fun _=>[]) ?g1 ?g2
 case g1=>
  go_region_law (refine step_append_x _ rfl (.tmp 30) (.tmp 32) 81 rfl 0 1 i0 _ 1 8 Tryz.underlying81 hi hz0 hz1 hz2 rfl (by decide) d.s d.us.length xs (by rfl) (HOX.out _ (by first | exact ((Ext.refl wm).drew).alloc _ _ | exact ((Ext.refl wm).alloc _ _).drew)) (fun b=>b=wm.heap.size) ⟨some ⟨wm.heap.size,0,none⟩,1⟩ 1 [undoC bw bd w.heap.size (w.heap.size+1)] (by rfl) (Rd.block (Blk.new _ _ _) (by decide) rfl) hone h63 hby (Nat.zero_le _) ?_;intro s5 w5 hown5 hwr5 hs5;have hq5:=hwr5.cell0 (w:=wm) (o:=2) (by first | exact ((Ext.refl wm).drew).alloc _ _ | exact ((Ext.refl wm).alloc _ _).drew) hrO lOm;have cq5:=hq5.1.trans c2;have lq5:=hq5.2;have hp5:=hwr5.cell0 (w:=wm) (o:=0) (by first | exact ((Ext.refl wm).drew).alloc _ _ | exact ((Ext.refl wm).alloc _ _).drew) hr3 l3;have cp5:=hp5.1.trans c3;have f5:w5.frozen? ⟨O,2,none⟩=false:=(hwr5.fz _ _).trans (((by first | exact ((Ext.refl wm).drew).alloc _ _ | exact ((Ext.refl wm).alloc _ _).drew:Ext wm _).frozen (o:=2) lOm).trans f2);have HO5:=Lib.hid hown5;have HW5:=Lib.hid hwr5;have HS5:=Lib.hid hs5;clear hown5 hwr5 hs5 hq5 hp5)
  all_goals
   refine onlyO_mk ⟨(s5,_,w5),⟨by first | exact ((Ext.refl wm).drew).alloc _ _ | exact ((Ext.refl wm).alloc _ _).drew,HO5.out,HW5.out,HS5.out,rfl⟩,by kernel_rfl,?_⟩
   simp only [putO,List.map_cons,List.map_nil,List.append_nil,List.cons_append,List.nil_append,List.setIfInBounds_toArray,List.set_cons_zero,List.set_cons_succ]
   kernel_rfl
 rintro w6 ⟨s5,W5,w5⟩ vv ⟨hx5,ho5,hw5,hs5,rfl⟩
 simp only [putO,List.map_cons,List.map_nil,List.append_nil,List.cons_append,List.nil_append,List.setIfInBounds_toArray,List.set_cons_zero,List.set_cons_succ]
 dsimp only at hx5 ho5 hw5 hs5
 have hcm:Ext wc W5:=HXM.out.trans hx5
 have hsb6:Sb (fun c=>c=O∨d.s.row=some c) wc (w5.setCell ⟨O,2,none⟩ (.slice s5.a (d.us.length+1) s5.c)):=
  ((hcm.sb _).trans ⟨hw5.grown.os,hw5.grown.tape,hw5.grown.output,hw5.grown.size,fun i hi hn=>hw5.grown.block i hi fun e=>hn (.inr e.symm)⟩).trans ((Sb.refl _ w5).set (p:=⟨O,2,none⟩) (.inr (.inl rfl)) _)
 have hbm5:Blk w5 O 83 #[rootV d.T,.map (some b),.slice d.s.a d.us.length d.s.c]:=(hw5.agree (F:=fun c=>c=O) (fun i hi=>by rw [hi];exact Nat.lt_of_lt_of_le lO3 hcm.size) (fun i hi e=>hrO (by rw [hi,e])) O rfl).trans (HM.out.at_.blk.ext hcm)
 have hb6:=hbm5.set_ 2 (.slice s5.a (d.us.length+1) s5.c)
 have hnO:¬O=b:=fun e=>HM.out.at_.ne.1 (by rw [e])
 have n0:=OvMap.ne HM.out.at_.map HM.out.bo
 have n1:=OvMap.ne HM.out.at_.map HM.out.bk
 have n2:=OvMap.ne HM.out.at_.map HM.out.bs
 have k0:=hsb6.blk HM.out.bo (fun e=>by
  rcases e with e | e
  ·omega
  have:=HRL.out _ e;omega)
 have k1:=hsb6.blk HM.out.bk (fun e=>by
  rcases e with e | e
  ·omega
  have:=HRL.out _ e;omega)
 have k2:=hsb6.blk HM.out.bs (fun e=>by
  rcases e with e | e
  ·omega
  have:=HRL.out _ e;omega)
 have hmap6:OvMap (w5.setCell ⟨O,2,none⟩ (.slice s5.a (d.us.length+1) s5.c)) (some b) d.C:=HM.out.at_.map.heap fun i hi=>by
  injection hi with hi
  subst hi
  exact hsb6.block b (HM.out.at_.map.lt rfl) fun e=>by
   rcases e with e | e
   ·exact hnO e.symm
   exact HM.out.at_.ne.2.2 b rfl e
 have HX5:=Lib.hid hx5
 have HO5:=Lib.hid ho5
 have HW5:=Lib.hid hw5
 have HS5:=Lib.hid hs5
 obtain ⟨W6,hW6⟩:∃ W6,w5.setCell ⟨O,2,none⟩ (.slice s5.a (d.us.length+1) s5.c)=W6:=⟨_,rfl⟩
 rw [hW6] at hb6 k0 k1 k2 hmap6 ⊢
 have HW6:=Lib.hid hW6
 have HMAP:=Lib.hid hmap6
 have HSS:=Lib.hid (show ∀ W,Sb (fun c=>c=b) W6 W→W.cell? ⟨w.heap.size,0,none⟩=some (.pointer (some ⟨O,0,none⟩))∧W.cell? ⟨O,1,none⟩=some (.map (some b))∧W.cell? ⟨w.heap.size+1,0,none⟩=some (.string k)∧W.cell? ⟨w.heap.size+1+1,0,none⟩=some (.bool has)∧W.cell? ⟨w.heap.size+1+1,1,none⟩=some (.int .i64 v.kind)∧W.cell? ⟨w.heap.size+1+1,2,none⟩=some (.bool v.b)∧W.cell? ⟨w.heap.size+1+1,3,none⟩=some (.int .i64 v.i)∧W.cell? ⟨w.heap.size+1+1,4,none⟩=some (.string v.t)∧W.cell? ⟨w.heap.size+1+1,5,none⟩=some (.slice sl.a v.l.length sl.c)∧W.cell? ⟨w.heap.size+1+1,6,none⟩=some (.slice so.a v.ok.length so.c) from
  fun W hW=>⟨(hW.blk k0 n0).cell 0,(hW.blk hb6 hnO).cell 1,(hW.blk k1 n1).cell 0,(hW.blk k2 n2).cell 0,(hW.blk k2 n2).cell 1,(hW.blk k2 n2).cell 2,(hW.blk k2 n2).cell 3,(hW.blk k2 n2).cell 4,(hW.blk k2 n2).cell 5,(hW.blk k2 n2).cell 6⟩)
 have hCs:d.C.length<maxLen:=by have:=HAT.out.few;unfold maxLen;omega
 clear hcm hsb6 hbm5 hb6 n0 n1 n2 k0 k1 k2 hmap6 hx5 ho5 hw5 hs5 hW6 c2 f2 lOm c3 l3 hone h63 hby
 go_wp2_with fail
 refine wp_region_held_drew (S:=(fun w'=>Sb (fun c=>c=b) W6 w')) (by kernel_rfl) (((Sb.refl _ W6).drew)) (fun hHeld=>?_)
 refine heldT 0 (some 36) HSS hHeld ?_
 refine heldT 1 (some 37) HSS hHeld ?_
 refine heldT 2 (some 38) HSS hHeld ?_
 refine heldT 3 (some 39) HSS hHeld ?_
 refine heldT 4 (some 40) HSS hHeld ?_
 refine heldT 5 (some 41) HSS hHeld ?_
 refine held_call (i:=6) (by kernel_rfl) rfl (by rfl) (fun K hK=>?_)
 skip
 (refine oper_putA (b:=b) (C:=d.C) (k:=k) (s:=⟨has,v,sl,so⟩) rfl rfl rfl rfl (HMAP.out.heap fun _ _=>rfl) hk hCs HAT.out.sorted ?_;intro w7 hown7 hsb7)
 refine hK.out _ _ (hHeld.trans hsb7) (fun hHeld=>?_)
 clear hK K
 try simp only [Act.put,List.setIfInBounds_toArray,List.set_cons_zero,List.set_cons_succ]
 refine wpAnyH_done (by kernel_rfl) ?_ _
 have h7:Sb (fun c=>c=b) (w5.setCell ⟨O,2,none⟩ (.slice s5.a (d.us.length+1) s5.c)) w7:=by rw [HW6.out];exact hHeld
 have hend:=step_end HM.out lO HRL.out HHH.out hk HXM.out HW1.out HD1.out (by rw [HO.out];exact HBD.out) (by rw [HG.out];exact HBW.out) HX5.out HL.out HUN.out HO5.out HW5.out HS5.out hown7 h7
 go_end0
 exact ⟨⟨_,rfl⟩,_,_,hend⟩
end Go.Proofs.YtkhdiakpdafcdaaGreatDoor
