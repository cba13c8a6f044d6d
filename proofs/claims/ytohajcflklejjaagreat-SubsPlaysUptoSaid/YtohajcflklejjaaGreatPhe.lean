/- What the theorem needs of the texts Mend2, Without, Del, Is, Do07, Held2, RangeG, RangeC, Coll, RoundC, ScanP, ScanW, ScanR, ScanT: no condition of its own. -/
import Derived.Laws.IdiomStrings
import Derived.WalkArith
import Derived.RangeFuncNested
import Derived.RangeFuncBound
import Derived.RangeFuncCalls
import Derived.RangeFuncLeaves
import Derived.OwnWalkIn
import Derived.OrdersIn
import Derived.Test.YtohajcflklejjaaGreatPha
import Derived.Test.YtohajcflklejjaaGreatPhb
import Derived.Test.YtohajcflklejjaaGreatPhc
import Derived.Test.YtohajcflklejjaaGreatPhd
set_option maxRecDepth 100000
set_option maxHeartbeats 2000000
namespace Go.Proofs.YtohajcflklejjaaGreat
open Go.RowKit
set_option linter.unusedVariables false
set_option linter.unusedSimpArgs false
def Qa2 (F:Nat→Prop) (base h:Nat) (s:Sl) (ks:List (PT h)) (i:Nat) (w:World) (e:Ending) (w':World):Prop:=
 ∃ (s':Sl) (ks':List (PT h)),e=.returned (.slice s'.a ks'.length s'.c)∧w'.ownsRow base 31 1 (.slice s'.a ks'.length s'.c) ks'.length (ptrs h ks')∧Qnz w.heap.size h ks i ks'∧(∀ u∈ks',IsN w' (Up F w w') h u)∧St (fun b=>s.row=some b) w w'
structure Qhl (w:World) (F:Nat→Prop) (base h:Nat) (s:Sl) (ks:List (PT h)) (i:Nat) (l r:PT h):Prop where
 own:w.ownsRow base 31 1 (.slice s.a ks.length s.c) ks.length (ptrs h ks)
 base:base≤w.heap.size
 lt:∀ b,F b→b<w.heap.size∧s.row≠some b
 isn:∀ k∈ks,IsN w F h k
 ok:∀ k∈ks,OkT h k∧3≤size h k
 hl:ks[i - 1]? = some l
 hr:ks[i - 1+1]? = some r
 sum:size h l+size h r≤11
 sorted:Sorted (ks.flatMap (ents h))
 few:(ks.flatMap (ents h)).length≤1000000
 n8:ks.length≤8
 hh:h≤1000000
theorem Qc6 {h:Nat} {ks:List (PT h)} {j:Nat} {l r:PT h} (hs:Sorted (ks.flatMap (ents h))) (hl:ks[j]? = some l) (hr:ks[j+1]? = some r):Sorted (ents h l++ents h r):=by
 rw [Qhc hl hr] at hs
 simp only [List.flatMap_append,List.flatMap_cons] at hs
 have h2:=(QbL hs).2.1
 rw [←List.append_assoc] at h2
 exact (QbL h2).1
theorem Qml {h:Nat} {ks:List (PT h)} {j:Nat} {l r:PT h} (hl:ks[j]? = some l) (hr:ks[j+1]? = some r):(ents h l).length+(ents h r).length≤(ks.flatMap (ents h)).length:=by
 conv=>rhs;rw [Qhc hl hr]
 simp only [List.flatMap_append,List.flatMap_cons,List.length_append];omega
theorem QdH {α:Type} {ks:List α} {j:Nat} {l r:α} (hl:ks[j]? = some l) (hr:ks[j+1]? = some r) (a b:α):(ks.set j a).set (j+1) b=ks.take j++[a,b]++ks.drop (j+2):=by
 have h1:=(List.getElem?_eq_some_iff.1 hl).1
 have h2:=(List.getElem?_eq_some_iff.1 hr).1
 conv=>lhs;rw [Qhc hl hr]
 rw [List.set_append_right _ _ (by rw [List.length_take];omega),List.length_take,Nat.min_eq_left (by omega),Nat.sub_self,List.set_cons_zero,List.set_append_right _ _ (by rw [List.length_take];omega),List.length_take,Nat.min_eq_left (by omega),show j+1 - j=1 from by omega]
 simp
theorem Qc3 {α:Type} {ks:List α} {j:Nat} {l r:α} (hl:ks[j]? = some l) (hr:ks[j+1]? = some r) (a:α):(ks.set j a).take (j+1)++(ks.set j a).drop (j+2)=ks.take j++[a]++ks.drop (j+2):=by
 have h1:=(List.getElem?_eq_some_iff.1 hl).1
 rw [List.set_eq_take_append_cons_drop,if_pos h1]
 have hl1:(ks.take j++[a]).length=j+1:=by simp;omega
 have e1:ks.take j++a :: ks.drop (j+1)=(ks.take j++[a])++ks.drop (j+1):=by simp
 rw [e1,List.take_append_of_le_length (by omega),List.take_of_length_le (by omega),show j+2=(ks.take j++[a]).length+1 from by omega,List.drop_length_add_append,List.drop_drop,hl1]
theorem Qc4 {w:World} {A B e size n:Nat} {v:Value} {xs:List Value} (h:w.ownsRow B e size v n xs) (hAB:A≤B):w.ownsRow A e size v n xs:=by
 refine ⟨h.1,?_⟩
 rcases h.2 with hl | ⟨g,cap,cur,hv,hg,r⟩
 ·exact .inl hl
 exact .inr ⟨g,cap,cur,hv,Nat.le_trans hAB hg,r⟩
theorem OE.base {w:World} {A B:Nat} {s:Sl} {xs:List LE} (h:OE w B s xs) (hAB:A≤B):OE w A s xs:=⟨Qc4 h.own hAB,h.vals.mono fun i hi=>⟨⟨Nat.le_trans hAB hi.1.1,hi.1.2⟩,hi.2⟩,h.few⟩
theorem Qko {w:World} {F:Nat→Prop} {base:Nat} {s:Sl} {ks:List (PT (0))} {l r:PT (0)} (hm:Qhl w F base (0) s ks (0) l r) :
  Calls Tryz.prog 112 #[.slice s.a ks.length s.c,.int .i64 0] w (Qa2 F base (0) s ks (0) w):=by
 have hj:1<ks.length:=(List.getElem?_eq_some_iff.1 hm.hr).1
 obtain ⟨g,cap,rfl,hbg,hnc,hcm,hfil⟩:=Qat hm.own (by omega)
 have hown:=hm.own
 have HM:=Lib.hid hm
 have hml:ks[0]? = some l:=hm.hl
 have hmr:ks[1]? = some r:=hm.hr
 have cc:∀ q u,(ptrs (0) ks)[q]? = some u→w.cell? ⟨g,q,none⟩=some u:=fun q u hq=>by
  have:=hown.cells (g:=g) rfl q u hq
  rwa [Qbb,Nat.zero_add] at this
 have cl:w.cell? ⟨g,0,none⟩=some (ptr (0) l):=cc 0 _ (by rw [ptrs,List.getElem?_map,hml];rfl)
 have cr:w.cell? ⟨g,1,none⟩=some (ptr (0) r):=cc (1) _ (by rw [ptrs,List.getElem?_map,hmr];rfl)
 have hlm:=List.mem_of_getElem? hml
 have hrm:=List.mem_of_getElem? hmr
 have hgl:=hfil.lt
 have hn8:=hm.n8
 have hj1:(0:Int)<(ks.length:Int):=by omega
 have hj2:(1:Int)<(ks.length:Int):=by omega
 have hz:True:=trivial
 have HH0:=Lib.hid (fun W (hW:Agree F w W)=>Qas ((hm.isn l hlm).agree hW))
 have HCL:=Lib.hid hml
 have HCR:=Lib.hid hmr
 have HFZ:=Lib.hid hfil.frozen
 clear hown cc hfil hm hml hmr hlm hrm
 go_enter Tryz.func112,Tryz.ntmps112
 go_wp2_with fail
 go_quiet (fail)
 go_wp2_with fail
 have hxW:Ext w (w.drewN nq):=(Ext.refl w).drewN nq
 refine (HH0.out _ (Agree.drewN w nq)).mono ?_
 rintro e w0 ⟨rfl,rfl⟩
 generalize w.drewN nq=W at *
 clear cl cr
 have hne1:=QaY (w:=W) ((((HM.out.isn l (List.mem_of_getElem? HCL.out)).agree (hxW.agree fun b hb=>(HM.out.lt b hb).1))).mono fun b hb=>Nat.lt_of_lt_of_le (HM.out.lt b hb).1 hxW.size)
 have hne2:∀ W',Ext W W'→Calls Tryz.prog 89 #[ptr 0 r] W' (Qbr (ents 0 r) W'):=fun W' hW'=>QaY ((((HM.out.isn r (List.mem_of_getElem? HCR.out)).agree ((hxW.trans hW').agree fun b hb=>(HM.out.lt b hb).1))).mono fun b hb=>Nat.lt_of_lt_of_le (HM.out.lt b hb).1 (hxW.trans hW').size)
 have HE2:=Lib.hid hne2
 have HXW:=Lib.hid hxW
 clear hne2 hxW
 go_wp2_with fail
 refine hne1.mono ?_
 intro e w1 hp
 obtain ⟨sx,xs,rfl,hxs,hox,hx1⟩:=hp
 have HXS:=Lib.hid hxs
 have HOX:=Lib.hid hox
 have HX1:=Lib.hid hx1
 have he2:=HE2.out w1 hx1
 clear hne1 hxs hox hx1
 go_wp2_with fail
 refine he2.mono ?_
 intro e w2 hp
 obtain ⟨sy,ys,rfl,hys,hoy,hx2⟩:=hp
 have hrx:∀ b,sx.row=some b→W.heap.size≤b∧b<w1.heap.size:=fun b hb=>Qac HOX.out.own hb
 have hry:∀ b,sy.row=some b→w1.heap.size≤b∧b<w2.heap.size:=fun b hb=>Qac hoy.own hb
 have hs1:=HX1.out.size
 have hs2:=hx2.size
 have hox2:=HOX.out.ext hx2
 have hoy2:OE w2 W.heap.size sy ys:=hoy.base hs1
 have hl8:xs.length≤8:=by have:=(HM.out.ok l (List.mem_of_getElem? HCL.out)).1;have e1:xs.length=l.2.length:=by rw [show l.2=ents 0 l from rfl,←HXS.out,List.length_map]
                          rw [e1];exact this
 have hr8:ys.length≤8:=by have:=(HM.out.ok r (List.mem_of_getElem? HCR.out)).1;have e1:ys.length=r.2.length:=by rw [show r.2=ents 0 r from rfl,←hys,List.length_map]
                          rw [e1];exact this
 have hsum:xs.length+ys.length≤11:=by
  have e1:xs.length=size 0 l:=by rw [show size 0 l=(ents 0 l).length from rfl,←HXS.out,List.length_map]
  have e2:ys.length=size 0 r:=by rw [show size 0 r=(ents 0 r).length from rfl,←hys,List.length_map]
  rw [e1,e2];exact HM.out.sum
 have hrise:Qbf (xs++ys):=Qcg (by rw [List.map_append,HXS.out,hys];exact Qc6 HM.out.sorted HCL.out HCR.out)
 have hpr:=Qh4 hox2 hoy2 (Nat.le_trans hs1 hs2) (fun b hb hb'=>by have:=hrx b hb;have:=hry b hb';omega)
  (fun x hx=>⟨((HOX.out.vals x hx).1.agree (hx2.agree fun b hb=>hb.1.2)).mono fun b hb=>⟨Nat.lt_of_lt_of_le hb.1.2 hs2,fun h=>h.elim (fun h=>hb.2 h) (fun h=>by have:=hry b h;have:=hb.1.2;omega)⟩,(HOX.out.vals x hx).2⟩)
  (fun x hx=>⟨(hoy.vals x hx).1.mono fun b hb=>⟨hb.1.2,fun h=>h.elim (fun h=>by have:=hrx b h;have:=hb.1.1;omega) (fun h=>hb.2 h)⟩,(hoy.vals x hx).2⟩)
  hrise hl8 hr8 hsum (l:=l) (r:=r) HXS.out hys
 have hX2:=HXW.out.trans (HX1.out.trans hx2)
 have HX2:=Lib.hid hX2
 have HRX:=Lib.hid hrx
 have HRY:=Lib.hid hry
 have hsW:=HXW.out.size
 clear he2 hys hoy hx2 hrx hry hox2 hoy2 hrise hl8 hr8 hsum hX2
 go_wp2_with fail
 refine hpr.mono ?_
 rintro e w3 ⟨⟨ts,rfl,hP,hI⟩,hst⟩
 have HALL:Hid (Ext w w3∧Qdg w.heap.size 0 l r ts∧∀ u∈ts,IsN w3 (Up F w w3) 0 u):=Lib.hid ⟨HX2.out.step hst (fun b hb=>hb.elim (fun h=>by have:=HRX.out b h;omega) (fun h=>by have:=HRY.out b h;omega)),hP.mono (HX2.out.size),fun u hu=>(hI u hu).mono fun i hi=>hi.elim (fun h=>h.elim) fun h=>.inr ⟨Nat.le_trans HX2.out.size h.1,h.2⟩⟩
 clear hpr hP hI hst
 obtain ⟨hX3,hP,hI⟩:=HALL.out
 have hown3:w3.ownsRow base 31 1 (.slice (some ⟨g,0,none⟩) ks.length cap) ks.length (ptrs (0) ks):=Qad (s:=⟨some ⟨g,0,none⟩,cap⟩) HM.out.own (hX3.agree (F:=Lt w.heap.size) fun _ h=>h) fun b hb=>(Qac HM.out.own hb).2
 have hfz3:∀ o,w3.frozen? ⟨g,o,none⟩=false:=fun o=>(hX3.frozen hgl).trans (HFZ.out o)
 have hcc:∀ q u,(ptrs (0) ks)[q]? = some u→w3.cell? ⟨g,q,none⟩=some u:=fun q u hq=>by
  have:=hown3.cells (g:=g) rfl q u hq
  rwa [Qbb,Nat.zero_add] at this
 have dl:w3.cell? ⟨g,0,none⟩=some (ptr (0) l):=hcc 0 _ (by rw [ptrs,List.getElem?_map,HCL.out];rfl)
 have dr:w3.cell? ⟨g,1,none⟩=some (ptr (0) r):=hcc (1) _ (by rw [ptrs,List.getElem?_map,HCR.out];rfl)
 have hlj:0<ks.length:=by omega
 have HOWN3:=Lib.hid hown3
 have HX3:=Lib.hid hX3
 have HP:=Lib.hid hP
 have HI:=Lib.hid hI
 have hlen:=hP.len
 have hFG:∀ W' x,F x∨(w.heap.size≤x∧x<W')→x≠g:=fun W' x hx e=>by
  subst e
  rcases hx with h | h
  ·exact (HM.out.lt x h).2 rfl
  omega
 have hF2:∀ x,F x→x<w.heap.size:=fun x hx=>(HM.out.lt x hx).1
 have hIK:∀ k∈ks,IsN w3 (Up F w w3) (0) k:=fun k hk=>((HM.out.isn k hk).agree (hX3.agree hF2)).mono fun i hi=>.inl hi
 have HIK:=Lib.hid hIK
 have HFG:=Lib.hid hFG
 clear hown3 hcc hX3 hP hI hIK hFG
 rcases hlen with hlen | hlen
 ·obtain ⟨a,rfl⟩:=List.length_eq_one_iff.1 hlen
  rw [show two (0) [a]=Ending.returned (.tuple #[ptr (0) a,.pointer none]) from rfl]
  have hfin:∀ w5,Wr (w3.setCell ⟨g,0,none⟩ (ptr (0) a)) w5 (some g)→w5.ownsRow base 31 1 (.slice (some ⟨g,0,none⟩) (ks.length - 1) cap) (ks.length - 1) (((ptrs (0) ks).set 0 (ptr (0) a)).take ((1)*1)++((ptrs (0) ks).set 0 (ptr (0) a)).drop ((1+1)*1))→
    Qa2 F base (0) ⟨some ⟨g,0,none⟩,cap⟩ ks (0) w (.returned (.slice (some ⟨g,0,none⟩) (ks.length - 1) cap)) w5:=fun w5 hwr hown=>by
   have hz:w3.heap.size≤w5.heap.size:=by have:=hwr.grown.size;rwa [World.size_setCell] at this
   have hag:Agree (Up F w w3) w3 w5:=(Agree.setCell w3 ⟨g,0,none⟩ _ (fun h=>HFG.out _ g h rfl)).trans (hwr.agree (fun i hi=>by rw [World.size_setCell];exact hi.elim (fun h=>Nat.lt_of_lt_of_le (hF2 i h) HX3.out.size) fun h=>h.2) (fun k hk h=>by cases hk;exact HFG.out _ g h rfl))
   have hup:∀ i,Up F w w3 i→Up F w w5 i:=fun i hi=>hi.imp_right fun h=>⟨h.1,Nat.lt_of_lt_of_le h.2 hz⟩
   have e0:(ptrs (0) ks).set 0 (ptr (0) a)=ptrs (0) (ks.set 0 a):=by rw [ptrs,ptrs,List.map_set]
   have e1:((ptrs (0) ks).set 0 (ptr (0) a)).take ((1)*1)++((ptrs (0) ks).set 0 (ptr (0) a)).drop ((1+1)*1)=ptrs (0) (ks.take 0++[a]++ks.drop (0+2)):=by
    rw [e0,Nat.mul_one,Nat.mul_one,←QbQ,←Qce,←Qcw,Qc3 HCL.out HCR.out]
   have e2:(ks.take 0++[a]++ks.drop (0+2)).length=ks.length - 1:=by simp only [List.length_append,List.length_take,List.length_drop,List.length_cons,List.length_nil];omega
   rw [e1] at hown
   refine ⟨⟨some ⟨g,0,none⟩,cap⟩,ks.take 0++[a]++ks.drop (0+2),by rw [e2],by rw [e2];exact hown,⟨l,r,[a],HCL.out,HCR.out,HP.out,rfl⟩,fun u hu=>?_,(((HX3.out.st (fun b=>(⟨some ⟨g,0,none⟩,cap⟩:Sl).row=some b)).set (p:=⟨g,0,none⟩) (.inr rfl) _).trans (hwr.st fun i hi=>hi))⟩
   refine IsN.mono hup (IsN.agree hag ?_)
   rcases List.mem_append.1 hu with hu | hu
   ·rcases List.mem_append.1 hu with hu | hu
    ·exact HIK.out u (List.mem_of_mem_take hu)
    exact HI.out u hu
   exact HIK.out u (List.mem_of_mem_drop hu)
  have hd:=Qe1 (s:=⟨some ⟨g,0,none⟩,cap⟩) (n:=ks.length) (xs:=(ptrs (0) ks).set 0 (ptr (0) a)) (i:=1) (Qbm HOWN3.out hlj (ptr (0) a)) (by omega) (by omega) (fun u hu=>by
   rcases List.mem_or_eq_of_mem_set hu with hu | rfl
   ·exact Qbn (0) ks u hu
   rfl)
  have q1:((1:Nat):Int)=(1:Int):=by omega
  have q2:(1:Int)+1=(2:Int):=by omega
  rw [q1,q2] at hd
  have HD:=Lib.hid hd
  have HFIN:=Lib.hid hfin
  clear hd hfin q1 q2 hF2
  go_wp2_with fail
  refine HD.out.mono ?_
  rintro e w5 ⟨rfl,hown5,hwr5⟩
  have HO5:=Lib.hid (HFIN.out w5 hwr5 hown5)
  clear hown5 hwr5
  go_wp2_with fail
  go_ret
  exact HO5.out
 obtain ⟨a,b,rfl⟩:∃ a b,ts=[a,b]:=by
  match ts,hlen with
  | [a,b],_=>exact ⟨a,b,rfl⟩
 rw [show two (0) [a,b]=Ending.returned (.tuple #[ptr (0) a,ptr (0) b]) from rfl]
 have hfin:Qa2 F base (0) ⟨some ⟨g,0,none⟩,cap⟩ ks (0) w (.returned (.slice (some ⟨g,0,none⟩) ks.length cap)) ((w3.setCell ⟨g,0,none⟩ (ptr (0) a)).setCell ⟨g,1,none⟩ (ptr (0) b)):=by
  have hag:Agree (Up F w w3) w3 ((w3.setCell ⟨g,0,none⟩ (ptr (0) a)).setCell ⟨g,1,none⟩ (ptr (0) b)):=(Agree.setCell w3 ⟨g,0,none⟩ _ (fun h=>HFG.out _ g h rfl)).trans (Agree.setCell _ ⟨g,1,none⟩ _ (fun h=>HFG.out _ g h rfl))
  have e0:((ptrs (0) ks).set 0 (ptr (0) a)).set (1) (ptr (0) b)=ptrs (0) ((ks.set 0 a).set (1) b):=by rw [ptrs,ptrs,List.map_set,List.map_set]
  have e2:(ks.take 0++[a,b]++ks.drop (0+2)).length=ks.length:=by simp only [List.length_append,List.length_take,List.length_drop,List.length_cons,List.length_nil];omega
  have hown:=Qbm (Qbm HOWN3.out hlj (ptr (0) a)) (i:=1) (by omega) (ptr (0) b)
  rw [e0,QdH HCL.out HCR.out] at hown
  refine ⟨⟨some ⟨g,0,none⟩,cap⟩,ks.take 0++[a,b]++ks.drop (0+2),by rw [e2],by rw [e2];exact hown,⟨l,r,[a,b],HCL.out,HCR.out,HP.out,rfl⟩,fun u hu=>?_,(((HX3.out.st (fun b=>(⟨some ⟨g,0,none⟩,cap⟩:Sl).row=some b)).set (p:=⟨g,0,none⟩) (.inr rfl) _).set (p:=⟨g,1,none⟩) (.inr rfl) _)⟩
  refine IsN.mono (fun i hi=>hi.imp_right fun h=>⟨h.1,by simpa using h.2⟩) (IsN.agree hag ?_)
  rcases List.mem_append.1 hu with hu | hu
  ·rcases List.mem_append.1 hu with hu | hu
   ·exact HIK.out u (List.mem_of_mem_take hu)
   exact HI.out u hu
  exact HIK.out u (List.mem_of_mem_drop hu)
 have HFIN:=Lib.hid hfin
 clear hfin hF2
 go_wp2_with fail
 go_ret
 exact HFIN.out
theorem Qkp {w:World} {F:Nat→Prop} {base j:Nat} {s:Sl} {ks:List (PT (0))} {l r:PT (0)} (hm:Qhl w F base (0) s ks (j+1) l r) :
  Calls Tryz.prog 112 #[.slice s.a ks.length s.c,.int .i64 ((j:Int)+1)] w (Qa2 F base (0) s ks (j+1) w):=by
 have hj:j+1<ks.length:=(List.getElem?_eq_some_iff.1 hm.hr).1
 obtain ⟨g,cap,rfl,hbg,hnc,hcm,hfil⟩:=Qat hm.own (by omega)
 have hown:=hm.own
 have HM:=Lib.hid hm
 have hml:ks[j]? = some l:=hm.hl
 have hmr:ks[j+1]? = some r:=hm.hr
 have cc:∀ q u,(ptrs (0) ks)[q]? = some u→w.cell? ⟨g,q,none⟩=some u:=fun q u hq=>by
  have:=hown.cells (g:=g) rfl q u hq
  rwa [Qbb,Nat.zero_add] at this
 have cl:w.cell? ⟨g,j,none⟩=some (ptr (0) l):=cc j _ (by rw [ptrs,List.getElem?_map,hml];rfl)
 have cr:w.cell? ⟨g,j+1,none⟩=some (ptr (0) r):=cc (j+1) _ (by rw [ptrs,List.getElem?_map,hmr];rfl)
 have hlm:=List.mem_of_getElem? hml
 have hrm:=List.mem_of_getElem? hmr
 have hgl:=hfil.lt
 have hn8:=hm.n8
 have hj1:(j:Int)<(ks.length:Int):=by omega
 have hj2:(j:Int)+1<(ks.length:Int):=by omega
 have hj0:(0:Int)≤(j:Int):=by omega
 have hjb:(0:Int)≤(j:Int)+1:=by omega
 have hw1:IntKind.i64.wrap ((j:Int)+1)=(j:Int)+1:=by rw [IntKind.wrap_i64];omega
 have htn:((j:Int)+1).toNat=j+1:=by omega
 have hz:True:=trivial
 have HH0:=Lib.hid (fun W (hW:Agree F w W)=>Qas ((hm.isn l hlm).agree hW))
 have HCL:=Lib.hid hml
 have HCR:=Lib.hid hmr
 have HFZ:=Lib.hid hfil.frozen
 clear hown cc hfil hm hml hmr hlm hrm
 go_enter Tryz.func112,Tryz.ntmps112
 go_wp2_with fail
 go_quiet (fail)
 go_wp2_with fail
 have hxW:Ext w (w.drewN nq):=(Ext.refl w).drewN nq
 refine (HH0.out _ (Agree.drewN w nq)).mono ?_
 rintro e w0 ⟨rfl,rfl⟩
 generalize w.drewN nq=W at *
 clear cl cr
 have hne1:=QaY (w:=W) ((((HM.out.isn l (List.mem_of_getElem? HCL.out)).agree (hxW.agree fun b hb=>(HM.out.lt b hb).1))).mono fun b hb=>Nat.lt_of_lt_of_le (HM.out.lt b hb).1 hxW.size)
 have hne2:∀ W',Ext W W'→Calls Tryz.prog 89 #[ptr 0 r] W' (Qbr (ents 0 r) W'):=fun W' hW'=>QaY ((((HM.out.isn r (List.mem_of_getElem? HCR.out)).agree ((hxW.trans hW').agree fun b hb=>(HM.out.lt b hb).1))).mono fun b hb=>Nat.lt_of_lt_of_le (HM.out.lt b hb).1 (hxW.trans hW').size)
 have HE2:=Lib.hid hne2
 have HXW:=Lib.hid hxW
 clear hne2 hxW
 go_wp2_with fail
 refine hne1.mono ?_
 intro e w1 hp
 obtain ⟨sx,xs,rfl,hxs,hox,hx1⟩:=hp
 have HXS:=Lib.hid hxs
 have HOX:=Lib.hid hox
 have HX1:=Lib.hid hx1
 have he2:=HE2.out w1 hx1
 clear hne1 hxs hox hx1
 go_wp2_with fail
 refine he2.mono ?_
 intro e w2 hp
 obtain ⟨sy,ys,rfl,hys,hoy,hx2⟩:=hp
 have hrx:∀ b,sx.row=some b→W.heap.size≤b∧b<w1.heap.size:=fun b hb=>Qac HOX.out.own hb
 have hry:∀ b,sy.row=some b→w1.heap.size≤b∧b<w2.heap.size:=fun b hb=>Qac hoy.own hb
 have hs1:=HX1.out.size
 have hs2:=hx2.size
 have hox2:=HOX.out.ext hx2
 have hoy2:OE w2 W.heap.size sy ys:=hoy.base hs1
 have hl8:xs.length≤8:=by have:=(HM.out.ok l (List.mem_of_getElem? HCL.out)).1;have e1:xs.length=l.2.length:=by rw [show l.2=ents 0 l from rfl,←HXS.out,List.length_map]
                          rw [e1];exact this
 have hr8:ys.length≤8:=by have:=(HM.out.ok r (List.mem_of_getElem? HCR.out)).1;have e1:ys.length=r.2.length:=by rw [show r.2=ents 0 r from rfl,←hys,List.length_map]
                          rw [e1];exact this
 have hsum:xs.length+ys.length≤11:=by
  have e1:xs.length=size 0 l:=by rw [show size 0 l=(ents 0 l).length from rfl,←HXS.out,List.length_map]
  have e2:ys.length=size 0 r:=by rw [show size 0 r=(ents 0 r).length from rfl,←hys,List.length_map]
  rw [e1,e2];exact HM.out.sum
 have hrise:Qbf (xs++ys):=Qcg (by rw [List.map_append,HXS.out,hys];exact Qc6 HM.out.sorted HCL.out HCR.out)
 have hpr:=Qh4 hox2 hoy2 (Nat.le_trans hs1 hs2) (fun b hb hb'=>by have:=hrx b hb;have:=hry b hb';omega)
  (fun x hx=>⟨((HOX.out.vals x hx).1.agree (hx2.agree fun b hb=>hb.1.2)).mono fun b hb=>⟨Nat.lt_of_lt_of_le hb.1.2 hs2,fun h=>h.elim (fun h=>hb.2 h) (fun h=>by have:=hry b h;have:=hb.1.2;omega)⟩,(HOX.out.vals x hx).2⟩)
  (fun x hx=>⟨(hoy.vals x hx).1.mono fun b hb=>⟨hb.1.2,fun h=>h.elim (fun h=>by have:=hrx b h;have:=hb.1.1;omega) (fun h=>hb.2 h)⟩,(hoy.vals x hx).2⟩)
  hrise hl8 hr8 hsum (l:=l) (r:=r) HXS.out hys
 have hX2:=HXW.out.trans (HX1.out.trans hx2)
 have HX2:=Lib.hid hX2
 have HRX:=Lib.hid hrx
 have HRY:=Lib.hid hry
 have hsW:=HXW.out.size
 clear he2 hys hoy hx2 hrx hry hox2 hoy2 hrise hl8 hr8 hsum hX2
 go_wp2_with fail
 refine hpr.mono ?_
 rintro e w3 ⟨⟨ts,rfl,hP,hI⟩,hst⟩
 have HALL:Hid (Ext w w3∧Qdg w.heap.size 0 l r ts∧∀ u∈ts,IsN w3 (Up F w w3) 0 u):=Lib.hid ⟨HX2.out.step hst (fun b hb=>hb.elim (fun h=>by have:=HRX.out b h;omega) (fun h=>by have:=HRY.out b h;omega)),hP.mono (HX2.out.size),fun u hu=>(hI u hu).mono fun i hi=>hi.elim (fun h=>h.elim) fun h=>.inr ⟨Nat.le_trans HX2.out.size h.1,h.2⟩⟩
 clear hpr hP hI hst
 obtain ⟨hX3,hP,hI⟩:=HALL.out
 have hown3:w3.ownsRow base 31 1 (.slice (some ⟨g,0,none⟩) ks.length cap) ks.length (ptrs (0) ks):=Qad (s:=⟨some ⟨g,0,none⟩,cap⟩) HM.out.own (hX3.agree (F:=Lt w.heap.size) fun _ h=>h) fun b hb=>(Qac HM.out.own hb).2
 have hfz3:∀ o,w3.frozen? ⟨g,o,none⟩=false:=fun o=>(hX3.frozen hgl).trans (HFZ.out o)
 have hcc:∀ q u,(ptrs (0) ks)[q]? = some u→w3.cell? ⟨g,q,none⟩=some u:=fun q u hq=>by
  have:=hown3.cells (g:=g) rfl q u hq
  rwa [Qbb,Nat.zero_add] at this
 have dl:w3.cell? ⟨g,j,none⟩=some (ptr (0) l):=hcc j _ (by rw [ptrs,List.getElem?_map,HCL.out];rfl)
 have dr:w3.cell? ⟨g,j+1,none⟩=some (ptr (0) r):=hcc (j+1) _ (by rw [ptrs,List.getElem?_map,HCR.out];rfl)
 have hlj:j<ks.length:=by omega
 have HOWN3:=Lib.hid hown3
 have HX3:=Lib.hid hX3
 have HP:=Lib.hid hP
 have HI:=Lib.hid hI
 have hlen:=hP.len
 have hFG:∀ W' x,F x∨(w.heap.size≤x∧x<W')→x≠g:=fun W' x hx e=>by
  subst e
  rcases hx with h | h
  ·exact (HM.out.lt x h).2 rfl
  omega
 have hF2:∀ x,F x→x<w.heap.size:=fun x hx=>(HM.out.lt x hx).1
 have hIK:∀ k∈ks,IsN w3 (Up F w w3) (0) k:=fun k hk=>((HM.out.isn k hk).agree (hX3.agree hF2)).mono fun i hi=>.inl hi
 have HIK:=Lib.hid hIK
 have HFG:=Lib.hid hFG
 clear hown3 hcc hX3 hP hI hIK hFG
 rcases hlen with hlen | hlen
 ·obtain ⟨a,rfl⟩:=List.length_eq_one_iff.1 hlen
  rw [show two (0) [a]=Ending.returned (.tuple #[ptr (0) a,.pointer none]) from rfl]
  have hfin:∀ w5,Wr (w3.setCell ⟨g,j,none⟩ (ptr (0) a)) w5 (some g)→w5.ownsRow base 31 1 (.slice (some ⟨g,0,none⟩) (ks.length - 1) cap) (ks.length - 1) (((ptrs (0) ks).set j (ptr (0) a)).take ((j+1)*1)++((ptrs (0) ks).set j (ptr (0) a)).drop ((j+1+1)*1))→
    Qa2 F base (0) ⟨some ⟨g,0,none⟩,cap⟩ ks (j+1) w (.returned (.slice (some ⟨g,0,none⟩) (ks.length - 1) cap)) w5:=fun w5 hwr hown=>by
   have hz:w3.heap.size≤w5.heap.size:=by have:=hwr.grown.size;rwa [World.size_setCell] at this
   have hag:Agree (Up F w w3) w3 w5:=(Agree.setCell w3 ⟨g,j,none⟩ _ (fun h=>HFG.out _ g h rfl)).trans (hwr.agree (fun i hi=>by rw [World.size_setCell];exact hi.elim (fun h=>Nat.lt_of_lt_of_le (hF2 i h) HX3.out.size) fun h=>h.2) (fun k hk h=>by cases hk;exact HFG.out _ g h rfl))
   have hup:∀ i,Up F w w3 i→Up F w w5 i:=fun i hi=>hi.imp_right fun h=>⟨h.1,Nat.lt_of_lt_of_le h.2 hz⟩
   have e0:(ptrs (0) ks).set j (ptr (0) a)=ptrs (0) (ks.set j a):=by rw [ptrs,ptrs,List.map_set]
   have e1:((ptrs (0) ks).set j (ptr (0) a)).take ((j+1)*1)++((ptrs (0) ks).set j (ptr (0) a)).drop ((j+1+1)*1)=ptrs (0) (ks.take j++[a]++ks.drop (j+2)):=by
    rw [e0,Nat.mul_one,Nat.mul_one,←QbQ,←Qce,←Qcw,Qc3 HCL.out HCR.out]
   have e2:(ks.take j++[a]++ks.drop (j+2)).length=ks.length - 1:=by simp only [List.length_append,List.length_take,List.length_drop,List.length_cons,List.length_nil];omega
   rw [e1] at hown
   refine ⟨⟨some ⟨g,0,none⟩,cap⟩,ks.take j++[a]++ks.drop (j+2),by rw [e2],by rw [e2];exact hown,⟨l,r,[a],HCL.out,HCR.out,HP.out,rfl⟩,fun u hu=>?_,(((HX3.out.st (fun b=>(⟨some ⟨g,0,none⟩,cap⟩:Sl).row=some b)).set (p:=⟨g,j,none⟩) (.inr rfl) _).trans (hwr.st fun i hi=>hi))⟩
   refine IsN.mono hup (IsN.agree hag ?_)
   rcases List.mem_append.1 hu with hu | hu
   ·rcases List.mem_append.1 hu with hu | hu
    ·exact HIK.out u (List.mem_of_mem_take hu)
    exact HI.out u hu
   exact HIK.out u (List.mem_of_mem_drop hu)
  have hd:=Qe1 (s:=⟨some ⟨g,0,none⟩,cap⟩) (n:=ks.length) (xs:=(ptrs (0) ks).set j (ptr (0) a)) (i:=j+1) (Qbm HOWN3.out hlj (ptr (0) a)) (by omega) (by omega) (fun u hu=>by
   rcases List.mem_or_eq_of_mem_set hu with hu | rfl
   ·exact Qbn (0) ks u hu
   rfl)
  have q1:((j+1:Nat):Int)=((j:Int)+1):=by omega
  have q2:((j:Int)+1)+1=((j:Int)+2):=by omega
  rw [q1,q2] at hd
  have HD:=Lib.hid hd
  have HFIN:=Lib.hid hfin
  clear hd hfin q1 q2 hF2
  go_wp2_with fail
  refine HD.out.mono ?_
  rintro e w5 ⟨rfl,hown5,hwr5⟩
  have HO5:=Lib.hid (HFIN.out w5 hwr5 hown5)
  clear hown5 hwr5
  go_wp2_with fail
  go_ret
  exact HO5.out
 obtain ⟨a,b,rfl⟩:∃ a b,ts=[a,b]:=by
  match ts,hlen with
  | [a,b],_=>exact ⟨a,b,rfl⟩
 rw [show two (0) [a,b]=Ending.returned (.tuple #[ptr (0) a,ptr (0) b]) from rfl]
 have hfin:Qa2 F base (0) ⟨some ⟨g,0,none⟩,cap⟩ ks (j+1) w (.returned (.slice (some ⟨g,0,none⟩) ks.length cap)) ((w3.setCell ⟨g,j,none⟩ (ptr (0) a)).setCell ⟨g,j+1,none⟩ (ptr (0) b)):=by
  have hag:Agree (Up F w w3) w3 ((w3.setCell ⟨g,j,none⟩ (ptr (0) a)).setCell ⟨g,j+1,none⟩ (ptr (0) b)):=(Agree.setCell w3 ⟨g,j,none⟩ _ (fun h=>HFG.out _ g h rfl)).trans (Agree.setCell _ ⟨g,j+1,none⟩ _ (fun h=>HFG.out _ g h rfl))
  have e0:((ptrs (0) ks).set j (ptr (0) a)).set (j+1) (ptr (0) b)=ptrs (0) ((ks.set j a).set (j+1) b):=by rw [ptrs,ptrs,List.map_set,List.map_set]
  have e2:(ks.take j++[a,b]++ks.drop (j+2)).length=ks.length:=by simp only [List.length_append,List.length_take,List.length_drop,List.length_cons,List.length_nil];omega
  have hown:=Qbm (Qbm HOWN3.out hlj (ptr (0) a)) (i:=j+1) (by omega) (ptr (0) b)
  rw [e0,QdH HCL.out HCR.out] at hown
  refine ⟨⟨some ⟨g,0,none⟩,cap⟩,ks.take j++[a,b]++ks.drop (j+2),by rw [e2],by rw [e2];exact hown,⟨l,r,[a,b],HCL.out,HCR.out,HP.out,rfl⟩,fun u hu=>?_,(((HX3.out.st (fun b=>(⟨some ⟨g,0,none⟩,cap⟩:Sl).row=some b)).set (p:=⟨g,j,none⟩) (.inr rfl) _).set (p:=⟨g,j+1,none⟩) (.inr rfl) _)⟩
  refine IsN.mono (fun i hi=>hi.imp_right fun h=>⟨h.1,by simpa using h.2⟩) (IsN.agree hag ?_)
  rcases List.mem_append.1 hu with hu | hu
  ·rcases List.mem_append.1 hu with hu | hu
   ·exact HIK.out u (List.mem_of_mem_take hu)
   exact HI.out u hu
  exact HIK.out u (List.mem_of_mem_drop hu)
 have HFIN:=Lib.hid hfin
 clear hfin hF2
 go_wp2_with fail
 go_ret
 exact HFIN.out
theorem Qkm {w:World} {F:Nat→Prop} {base h:Nat} {s:Sl} {ks:List (PT (h+1))} {l r:PT (h+1)} (hm:Qhl w F base (h+1) s ks (0) l r) :
  Calls Tryz.prog 112 #[.slice s.a ks.length s.c,.int .i64 0] w (Qa2 F base (h+1) s ks (0) w):=by
 have hj:1<ks.length:=(List.getElem?_eq_some_iff.1 hm.hr).1
 obtain ⟨g,cap,rfl,hbg,hnc,hcm,hfil⟩:=Qat hm.own (by omega)
 have hown:=hm.own
 have HM:=Lib.hid hm
 have hml:ks[0]? = some l:=hm.hl
 have hmr:ks[1]? = some r:=hm.hr
 have cc:∀ q u,(ptrs (h+1) ks)[q]? = some u→w.cell? ⟨g,q,none⟩=some u:=fun q u hq=>by
  have:=hown.cells (g:=g) rfl q u hq
  rwa [Qbb,Nat.zero_add] at this
 have cl:w.cell? ⟨g,0,none⟩=some (ptr (h+1) l):=cc 0 _ (by rw [ptrs,List.getElem?_map,hml];rfl)
 have cr:w.cell? ⟨g,1,none⟩=some (ptr (h+1) r):=cc (1) _ (by rw [ptrs,List.getElem?_map,hmr];rfl)
 have hlm:=List.mem_of_getElem? hml
 have hrm:=List.mem_of_getElem? hmr
 have hgl:=hfil.lt
 have hn8:=hm.n8
 have hj1:(0:Int)<(ks.length:Int):=by omega
 have hj2:(1:Int)<(ks.length:Int):=by omega
 have hz:(((h:Int)+1) == 0)=false:=beq_eq_false_iff_ne.2 (by omega)
 have HH0:=Lib.hid (fun W (hW:Agree F w W)=>Qas ((hm.isn l hlm).agree hW))
 have HCL:=Lib.hid hml
 have HCR:=Lib.hid hmr
 have HFZ:=Lib.hid hfil.frozen
 clear hown cc hfil hm hml hmr hlm hrm
 go_enter Tryz.func112,Tryz.ntmps112
 go_wp2_with fail
 go_quiet (fail)
 go_wp2_with fail
 have hxW:Ext w (w.drewN nq):=(Ext.refl w).drewN nq
 refine (HH0.out _ (Agree.drewN w nq)).mono ?_
 rintro e w0 ⟨rfl,rfl⟩
 generalize w.drewN nq=W at *
 clear cl cr
 have hkk:∀ W',Ext W W'→∀ x,x∈ks→Calls Tryz.prog 76 #[ptr (h+1) x] W' (Qdq 31 x.2.length (ptrs h x.2) W'):=fun W' hW' x hx=>Qcu ((HM.out.isn x hx).agree ((hxW.trans hW').agree fun b hb=>(HM.out.lt b hb).1)) (by have:=(HM.out.ok x hx).1.2.1;omega)
 have hne1:=hkk W (Ext.refl W) l (List.mem_of_getElem? HCL.out)
 have HKK:=Lib.hid hkk
 have HXW:=Lib.hid hxW
 clear hkk hxW
 go_wp2_with fail
 refine hne1.mono ?_
 rintro e w1 ⟨sx,rfl,hox,hx1⟩
 have HOX:=Lib.hid hox
 have HX1:=Lib.hid hx1
 have he2:=HKK.out w1 hx1 r (List.mem_of_getElem? HCR.out)
 clear hne1 hox hx1
 go_wp2_with fail
 refine he2.mono ?_
 rintro e w2 ⟨sy,rfl,hoy,hx2⟩
 have hrx:∀ b,sx.row=some b→W.heap.size≤b∧b<w1.heap.size:=fun b hb=>Qac HOX.out hb
 have hry:∀ b,sy.row=some b→w1.heap.size≤b∧b<w2.heap.size:=fun b hb=>Qac hoy hb
 have hs1:=HX1.out.size
 have hs2:=hx2.size
 have hsW:=HXW.out.size
 have hox2:w2.ownsRow W.heap.size 31 1 (.slice sx.a l.2.length sx.c) l.2.length (ptrs h l.2):=Qad HOX.out (hx2.agree (F:=Lt w1.heap.size) fun _ h=>h) fun b hb=>(hrx b hb).2
 have hoy2:w2.ownsRow W.heap.size 31 1 (.slice sy.a r.2.length sy.c) r.2.length (ptrs h r.2):=Qc4 hoy hs1
 have okl:=HM.out.ok l (List.mem_of_getElem? HCL.out)
 have okr:=HM.out.ok r (List.mem_of_getElem? HCR.out)
 have hX2:=HXW.out.trans (HX1.out.trans hx2)
 have hso:=Qc6 HM.out.sorted HCL.out HCR.out
 have hfe:=Qml (ks:=ks) HCL.out HCR.out
 have hkp:∀ x∈l.2++r.2,OkT h x∧4≤size h x∧IsN w F h x:=fun x hx=>by
  rcases List.mem_append.1 hx with hx | hx
  ·exact ⟨(okl.1.2.2 x hx).1,(okl.1.2.2 x hx).2,(HM.out.isn l (List.mem_of_getElem? HCL.out)).2.choose_spec.2.2 x hx⟩
  exact ⟨(okr.1.2.2 x hx).1,(okr.1.2.2 x hx).2,(HM.out.isn r (List.mem_of_getElem? HCR.out)).2.choose_spec.2.2 x hx⟩
 have hpos:∀ x∈l.2++r.2,0<(ents h x).length:=fun x hx=>Qa4 h x (hkp x hx).1 (by have:=(hkp x hx).2.1;omega)
 have hso2:Sorted ((l.2++r.2).flatMap (ents h)):=by rw [List.flatMap_append];exact hso
 have hkids:Kids w2 F h (l.2++r.2):=⟨fun b hb=>Nat.lt_of_lt_of_le (HM.out.lt b hb).1 hX2.size,fun x hx=>(hkp x hx).2.2.agree (hX2.agree fun b hb=>(HM.out.lt b hb).1),QcT hso2 hpos,hpos,fun x hx=>by have:=QcB (hkp x hx).1;omega,by
  unfold cnt
  rw [List.flatMap_append,List.length_append]
  have h1:(ents (h+1) l).length+(ents (h+1) r).length≤1000000:=Nat.le_trans hfe HM.out.few
  have h2:(l.2.flatMap (ents h)).length=(ents (h+1) l).length:=rfl
  have h3:(r.2.flatMap (ents h)).length=(ents (h+1) r).length:=rfl
  omega,by have:=HM.out.hh;omega⟩
 have hpr:=Qh6 (F:=F) (l:=l) (r:=r) hox2 hoy2 (Nat.le_trans hs1 hs2) (fun b hb hb'=>by have:=hrx b hb;have:=hry b hb';omega)
  (fun b hb hb'=>by
    have:=(HM.out.lt b hb).1
    rcases hb' with h | h
    ·have:=hrx b h;omega
    have:=hry b h;omega) hkids okl.2 okr.2 okl.1.2.1 okr.1.2.1 HM.out.sum
 have HX2:=Lib.hid hX2
 have HRX:=Lib.hid hrx
 have HRY:=Lib.hid hry
 clear he2 hoy hx2 hrx hry hox2 hoy2 hX2 hso hfe hkp hpos hso2 hkids okl okr
 go_wp2_with fail
 refine hpr.mono ?_
 rintro e w3 ⟨⟨ts,rfl,hP,hI⟩,hst⟩
 have HALL:Hid (Ext w w3∧Qdg w.heap.size (h+1) l r ts∧∀ u∈ts,IsN w3 (Up F w w3) (h+1) u):=Lib.hid ⟨HX2.out.step hst (fun b hb=>hb.elim (fun h=>by have:=HRX.out b h;omega) (fun h=>by have:=HRY.out b h;omega)),hP.mono (HX2.out.size),fun u hu=>(hI u hu).mono fun i hi=>hi.imp_right fun h=>⟨Nat.le_trans HX2.out.size h.1,h.2⟩⟩
 clear hpr hP hI hst
 obtain ⟨hX3,hP,hI⟩:=HALL.out
 have hown3:w3.ownsRow base 31 1 (.slice (some ⟨g,0,none⟩) ks.length cap) ks.length (ptrs (h+1) ks):=Qad (s:=⟨some ⟨g,0,none⟩,cap⟩) HM.out.own (hX3.agree (F:=Lt w.heap.size) fun _ h=>h) fun b hb=>(Qac HM.out.own hb).2
 have hfz3:∀ o,w3.frozen? ⟨g,o,none⟩=false:=fun o=>(hX3.frozen hgl).trans (HFZ.out o)
 have hcc:∀ q u,(ptrs (h+1) ks)[q]? = some u→w3.cell? ⟨g,q,none⟩=some u:=fun q u hq=>by
  have:=hown3.cells (g:=g) rfl q u hq
  rwa [Qbb,Nat.zero_add] at this
 have dl:w3.cell? ⟨g,0,none⟩=some (ptr (h+1) l):=hcc 0 _ (by rw [ptrs,List.getElem?_map,HCL.out];rfl)
 have dr:w3.cell? ⟨g,1,none⟩=some (ptr (h+1) r):=hcc (1) _ (by rw [ptrs,List.getElem?_map,HCR.out];rfl)
 have hlj:0<ks.length:=by omega
 have HOWN3:=Lib.hid hown3
 have HX3:=Lib.hid hX3
 have HP:=Lib.hid hP
 have HI:=Lib.hid hI
 have hlen:=hP.len
 have hFG:∀ W' x,F x∨(w.heap.size≤x∧x<W')→x≠g:=fun W' x hx e=>by
  subst e
  rcases hx with h | h
  ·exact (HM.out.lt x h).2 rfl
  omega
 have hF2:∀ x,F x→x<w.heap.size:=fun x hx=>(HM.out.lt x hx).1
 have hIK:∀ k∈ks,IsN w3 (Up F w w3) (h+1) k:=fun k hk=>((HM.out.isn k hk).agree (hX3.agree hF2)).mono fun i hi=>.inl hi
 have HIK:=Lib.hid hIK
 have HFG:=Lib.hid hFG
 clear hown3 hcc hX3 hP hI hIK hFG
 rcases hlen with hlen | hlen
 ·obtain ⟨a,rfl⟩:=List.length_eq_one_iff.1 hlen
  rw [show two (h+1) [a]=Ending.returned (.tuple #[ptr (h+1) a,.pointer none]) from rfl]
  have hfin:∀ w5,Wr (w3.setCell ⟨g,0,none⟩ (ptr (h+1) a)) w5 (some g)→w5.ownsRow base 31 1 (.slice (some ⟨g,0,none⟩) (ks.length - 1) cap) (ks.length - 1) (((ptrs (h+1) ks).set 0 (ptr (h+1) a)).take ((1)*1)++((ptrs (h+1) ks).set 0 (ptr (h+1) a)).drop ((1+1)*1))→
    Qa2 F base (h+1) ⟨some ⟨g,0,none⟩,cap⟩ ks (0) w (.returned (.slice (some ⟨g,0,none⟩) (ks.length - 1) cap)) w5:=fun w5 hwr hown=>by
   have hz:w3.heap.size≤w5.heap.size:=by have:=hwr.grown.size;rwa [World.size_setCell] at this
   have hag:Agree (Up F w w3) w3 w5:=(Agree.setCell w3 ⟨g,0,none⟩ _ (fun h=>HFG.out _ g h rfl)).trans (hwr.agree (fun i hi=>by rw [World.size_setCell];exact hi.elim (fun h=>Nat.lt_of_lt_of_le (hF2 i h) HX3.out.size) fun h=>h.2) (fun k hk h=>by cases hk;exact HFG.out _ g h rfl))
   have hup:∀ i,Up F w w3 i→Up F w w5 i:=fun i hi=>hi.imp_right fun h=>⟨h.1,Nat.lt_of_lt_of_le h.2 hz⟩
   have e0:(ptrs (h+1) ks).set 0 (ptr (h+1) a)=ptrs (h+1) (ks.set 0 a):=by rw [ptrs,ptrs,List.map_set]
   have e1:((ptrs (h+1) ks).set 0 (ptr (h+1) a)).take ((1)*1)++((ptrs (h+1) ks).set 0 (ptr (h+1) a)).drop ((1+1)*1)=ptrs (h+1) (ks.take 0++[a]++ks.drop (0+2)):=by
    rw [e0,Nat.mul_one,Nat.mul_one,←QbQ,←Qce,←Qcw,Qc3 HCL.out HCR.out]
   have e2:(ks.take 0++[a]++ks.drop (0+2)).length=ks.length - 1:=by simp only [List.length_append,List.length_take,List.length_drop,List.length_cons,List.length_nil];omega
   rw [e1] at hown
   refine ⟨⟨some ⟨g,0,none⟩,cap⟩,ks.take 0++[a]++ks.drop (0+2),by rw [e2],by rw [e2];exact hown,⟨l,r,[a],HCL.out,HCR.out,HP.out,rfl⟩,fun u hu=>?_,(((HX3.out.st (fun b=>(⟨some ⟨g,0,none⟩,cap⟩:Sl).row=some b)).set (p:=⟨g,0,none⟩) (.inr rfl) _).trans (hwr.st fun i hi=>hi))⟩
   refine IsN.mono hup (IsN.agree hag ?_)
   rcases List.mem_append.1 hu with hu | hu
   ·rcases List.mem_append.1 hu with hu | hu
    ·exact HIK.out u (List.mem_of_mem_take hu)
    exact HI.out u hu
   exact HIK.out u (List.mem_of_mem_drop hu)
  have hd:=Qe1 (s:=⟨some ⟨g,0,none⟩,cap⟩) (n:=ks.length) (xs:=(ptrs (h+1) ks).set 0 (ptr (h+1) a)) (i:=1) (Qbm HOWN3.out hlj (ptr (h+1) a)) (by omega) (by omega) (fun u hu=>by
   rcases List.mem_or_eq_of_mem_set hu with hu | rfl
   ·exact Qbn (h+1) ks u hu
   rfl)
  have q1:((1:Nat):Int)=(1:Int):=by omega
  have q2:(1:Int)+1=(2:Int):=by omega
  rw [q1,q2] at hd
  have HD:=Lib.hid hd
  have HFIN:=Lib.hid hfin
  clear hd hfin q1 q2 hF2
  go_wp2_with fail
  refine HD.out.mono ?_
  rintro e w5 ⟨rfl,hown5,hwr5⟩
  have HO5:=Lib.hid (HFIN.out w5 hwr5 hown5)
  clear hown5 hwr5
  go_wp2_with fail
  go_ret
  exact HO5.out
 obtain ⟨a,b,rfl⟩:∃ a b,ts=[a,b]:=by
  match ts,hlen with
  | [a,b],_=>exact ⟨a,b,rfl⟩
 rw [show two (h+1) [a,b]=Ending.returned (.tuple #[ptr (h+1) a,ptr (h+1) b]) from rfl]
 have hfin:Qa2 F base (h+1) ⟨some ⟨g,0,none⟩,cap⟩ ks (0) w (.returned (.slice (some ⟨g,0,none⟩) ks.length cap)) ((w3.setCell ⟨g,0,none⟩ (ptr (h+1) a)).setCell ⟨g,1,none⟩ (ptr (h+1) b)):=by
  have hag:Agree (Up F w w3) w3 ((w3.setCell ⟨g,0,none⟩ (ptr (h+1) a)).setCell ⟨g,1,none⟩ (ptr (h+1) b)):=(Agree.setCell w3 ⟨g,0,none⟩ _ (fun h=>HFG.out _ g h rfl)).trans (Agree.setCell _ ⟨g,1,none⟩ _ (fun h=>HFG.out _ g h rfl))
  have e0:((ptrs (h+1) ks).set 0 (ptr (h+1) a)).set (1) (ptr (h+1) b)=ptrs (h+1) ((ks.set 0 a).set (1) b):=by rw [ptrs,ptrs,List.map_set,List.map_set]
  have e2:(ks.take 0++[a,b]++ks.drop (0+2)).length=ks.length:=by simp only [List.length_append,List.length_take,List.length_drop,List.length_cons,List.length_nil];omega
  have hown:=Qbm (Qbm HOWN3.out hlj (ptr (h+1) a)) (i:=1) (by omega) (ptr (h+1) b)
  rw [e0,QdH HCL.out HCR.out] at hown
  refine ⟨⟨some ⟨g,0,none⟩,cap⟩,ks.take 0++[a,b]++ks.drop (0+2),by rw [e2],by rw [e2];exact hown,⟨l,r,[a,b],HCL.out,HCR.out,HP.out,rfl⟩,fun u hu=>?_,(((HX3.out.st (fun b=>(⟨some ⟨g,0,none⟩,cap⟩:Sl).row=some b)).set (p:=⟨g,0,none⟩) (.inr rfl) _).set (p:=⟨g,1,none⟩) (.inr rfl) _)⟩
  refine IsN.mono (fun i hi=>hi.imp_right fun h=>⟨h.1,by simpa using h.2⟩) (IsN.agree hag ?_)
  rcases List.mem_append.1 hu with hu | hu
  ·rcases List.mem_append.1 hu with hu | hu
   ·exact HIK.out u (List.mem_of_mem_take hu)
   exact HI.out u hu
  exact HIK.out u (List.mem_of_mem_drop hu)
 have HFIN:=Lib.hid hfin
 clear hfin hF2
 go_wp2_with fail
 go_ret
 exact HFIN.out
theorem Qkn {w:World} {F:Nat→Prop} {base h j:Nat} {s:Sl} {ks:List (PT (h+1))} {l r:PT (h+1)} (hm:Qhl w F base (h+1) s ks (j+1) l r) :
  Calls Tryz.prog 112 #[.slice s.a ks.length s.c,.int .i64 ((j:Int)+1)] w (Qa2 F base (h+1) s ks (j+1) w):=by
 have hj:j+1<ks.length:=(List.getElem?_eq_some_iff.1 hm.hr).1
 obtain ⟨g,cap,rfl,hbg,hnc,hcm,hfil⟩:=Qat hm.own (by omega)
 have hown:=hm.own
 have HM:=Lib.hid hm
 have hml:ks[j]? = some l:=hm.hl
 have hmr:ks[j+1]? = some r:=hm.hr
 have cc:∀ q u,(ptrs (h+1) ks)[q]? = some u→w.cell? ⟨g,q,none⟩=some u:=fun q u hq=>by
  have:=hown.cells (g:=g) rfl q u hq
  rwa [Qbb,Nat.zero_add] at this
 have cl:w.cell? ⟨g,j,none⟩=some (ptr (h+1) l):=cc j _ (by rw [ptrs,List.getElem?_map,hml];rfl)
 have cr:w.cell? ⟨g,j+1,none⟩=some (ptr (h+1) r):=cc (j+1) _ (by rw [ptrs,List.getElem?_map,hmr];rfl)
 have hlm:=List.mem_of_getElem? hml
 have hrm:=List.mem_of_getElem? hmr
 have hgl:=hfil.lt
 have hn8:=hm.n8
 have hj1:(j:Int)<(ks.length:Int):=by omega
 have hj2:(j:Int)+1<(ks.length:Int):=by omega
 have hj0:(0:Int)≤(j:Int):=by omega
 have hjb:(0:Int)≤(j:Int)+1:=by omega
 have hw1:IntKind.i64.wrap ((j:Int)+1)=(j:Int)+1:=by rw [IntKind.wrap_i64];omega
 have htn:((j:Int)+1).toNat=j+1:=by omega
 have hz:(((h:Int)+1) == 0)=false:=beq_eq_false_iff_ne.2 (by omega)
 have HH0:=Lib.hid (fun W (hW:Agree F w W)=>Qas ((hm.isn l hlm).agree hW))
 have HCL:=Lib.hid hml
 have HCR:=Lib.hid hmr
 have HFZ:=Lib.hid hfil.frozen
 clear hown cc hfil hm hml hmr hlm hrm
 go_enter Tryz.func112,Tryz.ntmps112
 go_wp2_with fail
 go_quiet (fail)
 go_wp2_with fail
 have hxW:Ext w (w.drewN nq):=(Ext.refl w).drewN nq
 refine (HH0.out _ (Agree.drewN w nq)).mono ?_
 rintro e w0 ⟨rfl,rfl⟩
 generalize w.drewN nq=W at *
 clear cl cr
 have hkk:∀ W',Ext W W'→∀ x,x∈ks→Calls Tryz.prog 76 #[ptr (h+1) x] W' (Qdq 31 x.2.length (ptrs h x.2) W'):=fun W' hW' x hx=>Qcu ((HM.out.isn x hx).agree ((hxW.trans hW').agree fun b hb=>(HM.out.lt b hb).1)) (by have:=(HM.out.ok x hx).1.2.1;omega)
 have hne1:=hkk W (Ext.refl W) l (List.mem_of_getElem? HCL.out)
 have HKK:=Lib.hid hkk
 have HXW:=Lib.hid hxW
 clear hkk hxW
 go_wp2_with fail
 refine hne1.mono ?_
 rintro e w1 ⟨sx,rfl,hox,hx1⟩
 have HOX:=Lib.hid hox
 have HX1:=Lib.hid hx1
 have he2:=HKK.out w1 hx1 r (List.mem_of_getElem? HCR.out)
 clear hne1 hox hx1
 go_wp2_with fail
 refine he2.mono ?_
 rintro e w2 ⟨sy,rfl,hoy,hx2⟩
 have hrx:∀ b,sx.row=some b→W.heap.size≤b∧b<w1.heap.size:=fun b hb=>Qac HOX.out hb
 have hry:∀ b,sy.row=some b→w1.heap.size≤b∧b<w2.heap.size:=fun b hb=>Qac hoy hb
 have hs1:=HX1.out.size
 have hs2:=hx2.size
 have hsW:=HXW.out.size
 have hox2:w2.ownsRow W.heap.size 31 1 (.slice sx.a l.2.length sx.c) l.2.length (ptrs h l.2):=Qad HOX.out (hx2.agree (F:=Lt w1.heap.size) fun _ h=>h) fun b hb=>(hrx b hb).2
 have hoy2:w2.ownsRow W.heap.size 31 1 (.slice sy.a r.2.length sy.c) r.2.length (ptrs h r.2):=Qc4 hoy hs1
 have okl:=HM.out.ok l (List.mem_of_getElem? HCL.out)
 have okr:=HM.out.ok r (List.mem_of_getElem? HCR.out)
 have hX2:=HXW.out.trans (HX1.out.trans hx2)
 have hso:=Qc6 HM.out.sorted HCL.out HCR.out
 have hfe:=Qml (ks:=ks) HCL.out HCR.out
 have hkp:∀ x∈l.2++r.2,OkT h x∧4≤size h x∧IsN w F h x:=fun x hx=>by
  rcases List.mem_append.1 hx with hx | hx
  ·exact ⟨(okl.1.2.2 x hx).1,(okl.1.2.2 x hx).2,(HM.out.isn l (List.mem_of_getElem? HCL.out)).2.choose_spec.2.2 x hx⟩
  exact ⟨(okr.1.2.2 x hx).1,(okr.1.2.2 x hx).2,(HM.out.isn r (List.mem_of_getElem? HCR.out)).2.choose_spec.2.2 x hx⟩
 have hpos:∀ x∈l.2++r.2,0<(ents h x).length:=fun x hx=>Qa4 h x (hkp x hx).1 (by have:=(hkp x hx).2.1;omega)
 have hso2:Sorted ((l.2++r.2).flatMap (ents h)):=by rw [List.flatMap_append];exact hso
 have hkids:Kids w2 F h (l.2++r.2):=⟨fun b hb=>Nat.lt_of_lt_of_le (HM.out.lt b hb).1 hX2.size,fun x hx=>(hkp x hx).2.2.agree (hX2.agree fun b hb=>(HM.out.lt b hb).1),QcT hso2 hpos,hpos,fun x hx=>by have:=QcB (hkp x hx).1;omega,by
  unfold cnt
  rw [List.flatMap_append,List.length_append]
  have h1:(ents (h+1) l).length+(ents (h+1) r).length≤1000000:=Nat.le_trans hfe HM.out.few
  have h2:(l.2.flatMap (ents h)).length=(ents (h+1) l).length:=rfl
  have h3:(r.2.flatMap (ents h)).length=(ents (h+1) r).length:=rfl
  omega,by have:=HM.out.hh;omega⟩
 have hpr:=Qh6 (F:=F) (l:=l) (r:=r) hox2 hoy2 (Nat.le_trans hs1 hs2) (fun b hb hb'=>by have:=hrx b hb;have:=hry b hb';omega)
  (fun b hb hb'=>by
    have:=(HM.out.lt b hb).1
    rcases hb' with h | h
    ·have:=hrx b h;omega
    have:=hry b h;omega) hkids okl.2 okr.2 okl.1.2.1 okr.1.2.1 HM.out.sum
 have HX2:=Lib.hid hX2
 have HRX:=Lib.hid hrx
 have HRY:=Lib.hid hry
 clear he2 hoy hx2 hrx hry hox2 hoy2 hX2 hso hfe hkp hpos hso2 hkids okl okr
 go_wp2_with fail
 refine hpr.mono ?_
 rintro e w3 ⟨⟨ts,rfl,hP,hI⟩,hst⟩
 have HALL:Hid (Ext w w3∧Qdg w.heap.size (h+1) l r ts∧∀ u∈ts,IsN w3 (Up F w w3) (h+1) u):=Lib.hid ⟨HX2.out.step hst (fun b hb=>hb.elim (fun h=>by have:=HRX.out b h;omega) (fun h=>by have:=HRY.out b h;omega)),hP.mono (HX2.out.size),fun u hu=>(hI u hu).mono fun i hi=>hi.imp_right fun h=>⟨Nat.le_trans HX2.out.size h.1,h.2⟩⟩
 clear hpr hP hI hst
 obtain ⟨hX3,hP,hI⟩:=HALL.out
 have hown3:w3.ownsRow base 31 1 (.slice (some ⟨g,0,none⟩) ks.length cap) ks.length (ptrs (h+1) ks):=Qad (s:=⟨some ⟨g,0,none⟩,cap⟩) HM.out.own (hX3.agree (F:=Lt w.heap.size) fun _ h=>h) fun b hb=>(Qac HM.out.own hb).2
 have hfz3:∀ o,w3.frozen? ⟨g,o,none⟩=false:=fun o=>(hX3.frozen hgl).trans (HFZ.out o)
 have hcc:∀ q u,(ptrs (h+1) ks)[q]? = some u→w3.cell? ⟨g,q,none⟩=some u:=fun q u hq=>by
  have:=hown3.cells (g:=g) rfl q u hq
  rwa [Qbb,Nat.zero_add] at this
 have dl:w3.cell? ⟨g,j,none⟩=some (ptr (h+1) l):=hcc j _ (by rw [ptrs,List.getElem?_map,HCL.out];rfl)
 have dr:w3.cell? ⟨g,j+1,none⟩=some (ptr (h+1) r):=hcc (j+1) _ (by rw [ptrs,List.getElem?_map,HCR.out];rfl)
 have hlj:j<ks.length:=by omega
 have HOWN3:=Lib.hid hown3
 have HX3:=Lib.hid hX3
 have HP:=Lib.hid hP
 have HI:=Lib.hid hI
 have hlen:=hP.len
 have hFG:∀ W' x,F x∨(w.heap.size≤x∧x<W')→x≠g:=fun W' x hx e=>by
  subst e
  rcases hx with h | h
  ·exact (HM.out.lt x h).2 rfl
  omega
 have hF2:∀ x,F x→x<w.heap.size:=fun x hx=>(HM.out.lt x hx).1
 have hIK:∀ k∈ks,IsN w3 (Up F w w3) (h+1) k:=fun k hk=>((HM.out.isn k hk).agree (hX3.agree hF2)).mono fun i hi=>.inl hi
 have HIK:=Lib.hid hIK
 have HFG:=Lib.hid hFG
 clear hown3 hcc hX3 hP hI hIK hFG
 rcases hlen with hlen | hlen
 ·obtain ⟨a,rfl⟩:=List.length_eq_one_iff.1 hlen
  rw [show two (h+1) [a]=Ending.returned (.tuple #[ptr (h+1) a,.pointer none]) from rfl]
  have hfin:∀ w5,Wr (w3.setCell ⟨g,j,none⟩ (ptr (h+1) a)) w5 (some g)→w5.ownsRow base 31 1 (.slice (some ⟨g,0,none⟩) (ks.length - 1) cap) (ks.length - 1) (((ptrs (h+1) ks).set j (ptr (h+1) a)).take ((j+1)*1)++((ptrs (h+1) ks).set j (ptr (h+1) a)).drop ((j+1+1)*1))→
    Qa2 F base (h+1) ⟨some ⟨g,0,none⟩,cap⟩ ks (j+1) w (.returned (.slice (some ⟨g,0,none⟩) (ks.length - 1) cap)) w5:=fun w5 hwr hown=>by
   have hz:w3.heap.size≤w5.heap.size:=by have:=hwr.grown.size;rwa [World.size_setCell] at this
   have hag:Agree (Up F w w3) w3 w5:=(Agree.setCell w3 ⟨g,j,none⟩ _ (fun h=>HFG.out _ g h rfl)).trans (hwr.agree (fun i hi=>by rw [World.size_setCell];exact hi.elim (fun h=>Nat.lt_of_lt_of_le (hF2 i h) HX3.out.size) fun h=>h.2) (fun k hk h=>by cases hk;exact HFG.out _ g h rfl))
   have hup:∀ i,Up F w w3 i→Up F w w5 i:=fun i hi=>hi.imp_right fun h=>⟨h.1,Nat.lt_of_lt_of_le h.2 hz⟩
   have e0:(ptrs (h+1) ks).set j (ptr (h+1) a)=ptrs (h+1) (ks.set j a):=by rw [ptrs,ptrs,List.map_set]
   have e1:((ptrs (h+1) ks).set j (ptr (h+1) a)).take ((j+1)*1)++((ptrs (h+1) ks).set j (ptr (h+1) a)).drop ((j+1+1)*1)=ptrs (h+1) (ks.take j++[a]++ks.drop (j+2)):=by
    rw [e0,Nat.mul_one,Nat.mul_one,←QbQ,←Qce,←Qcw,Qc3 HCL.out HCR.out]
   have e2:(ks.take j++[a]++ks.drop (j+2)).length=ks.length - 1:=by simp only [List.length_append,List.length_take,List.length_drop,List.length_cons,List.length_nil];omega
   rw [e1] at hown
   refine ⟨⟨some ⟨g,0,none⟩,cap⟩,ks.take j++[a]++ks.drop (j+2),by rw [e2],by rw [e2];exact hown,⟨l,r,[a],HCL.out,HCR.out,HP.out,rfl⟩,fun u hu=>?_,(((HX3.out.st (fun b=>(⟨some ⟨g,0,none⟩,cap⟩:Sl).row=some b)).set (p:=⟨g,j,none⟩) (.inr rfl) _).trans (hwr.st fun i hi=>hi))⟩
   refine IsN.mono hup (IsN.agree hag ?_)
   rcases List.mem_append.1 hu with hu | hu
   ·rcases List.mem_append.1 hu with hu | hu
    ·exact HIK.out u (List.mem_of_mem_take hu)
    exact HI.out u hu
   exact HIK.out u (List.mem_of_mem_drop hu)
  have hd:=Qe1 (s:=⟨some ⟨g,0,none⟩,cap⟩) (n:=ks.length) (xs:=(ptrs (h+1) ks).set j (ptr (h+1) a)) (i:=j+1) (Qbm HOWN3.out hlj (ptr (h+1) a)) (by omega) (by omega) (fun u hu=>by
   rcases List.mem_or_eq_of_mem_set hu with hu | rfl
   ·exact Qbn (h+1) ks u hu
   rfl)
  have q1:((j+1:Nat):Int)=((j:Int)+1):=by omega
  have q2:((j:Int)+1)+1=((j:Int)+2):=by omega
  rw [q1,q2] at hd
  have HD:=Lib.hid hd
  have HFIN:=Lib.hid hfin
  clear hd hfin q1 q2 hF2
  go_wp2_with fail
  refine HD.out.mono ?_
  rintro e w5 ⟨rfl,hown5,hwr5⟩
  have HO5:=Lib.hid (HFIN.out w5 hwr5 hown5)
  clear hown5 hwr5
  go_wp2_with fail
  go_ret
  exact HO5.out
 obtain ⟨a,b,rfl⟩:∃ a b,ts=[a,b]:=by
  match ts,hlen with
  | [a,b],_=>exact ⟨a,b,rfl⟩
 rw [show two (h+1) [a,b]=Ending.returned (.tuple #[ptr (h+1) a,ptr (h+1) b]) from rfl]
 have hfin:Qa2 F base (h+1) ⟨some ⟨g,0,none⟩,cap⟩ ks (j+1) w (.returned (.slice (some ⟨g,0,none⟩) ks.length cap)) ((w3.setCell ⟨g,j,none⟩ (ptr (h+1) a)).setCell ⟨g,j+1,none⟩ (ptr (h+1) b)):=by
  have hag:Agree (Up F w w3) w3 ((w3.setCell ⟨g,j,none⟩ (ptr (h+1) a)).setCell ⟨g,j+1,none⟩ (ptr (h+1) b)):=(Agree.setCell w3 ⟨g,j,none⟩ _ (fun h=>HFG.out _ g h rfl)).trans (Agree.setCell _ ⟨g,j+1,none⟩ _ (fun h=>HFG.out _ g h rfl))
  have e0:((ptrs (h+1) ks).set j (ptr (h+1) a)).set (j+1) (ptr (h+1) b)=ptrs (h+1) ((ks.set j a).set (j+1) b):=by rw [ptrs,ptrs,List.map_set,List.map_set]
  have e2:(ks.take j++[a,b]++ks.drop (j+2)).length=ks.length:=by simp only [List.length_append,List.length_take,List.length_drop,List.length_cons,List.length_nil];omega
  have hown:=Qbm (Qbm HOWN3.out hlj (ptr (h+1) a)) (i:=j+1) (by omega) (ptr (h+1) b)
  rw [e0,QdH HCL.out HCR.out] at hown
  refine ⟨⟨some ⟨g,0,none⟩,cap⟩,ks.take j++[a,b]++ks.drop (j+2),by rw [e2],by rw [e2];exact hown,⟨l,r,[a,b],HCL.out,HCR.out,HP.out,rfl⟩,fun u hu=>?_,(((HX3.out.st (fun b=>(⟨some ⟨g,0,none⟩,cap⟩:Sl).row=some b)).set (p:=⟨g,j,none⟩) (.inr rfl) _).set (p:=⟨g,j+1,none⟩) (.inr rfl) _)⟩
  refine IsN.mono (fun i hi=>hi.imp_right fun h=>⟨h.1,by simpa using h.2⟩) (IsN.agree hag ?_)
  rcases List.mem_append.1 hu with hu | hu
  ·rcases List.mem_append.1 hu with hu | hu
   ·exact HIK.out u (List.mem_of_mem_take hu)
   exact HI.out u hu
  exact HIK.out u (List.mem_of_mem_drop hu)
 have HFIN:=Lib.hid hfin
 clear hfin hF2
 go_wp2_with fail
 go_ret
 exact HFIN.out
theorem Qm8 {w:World} {F:Nat→Prop} {base h i:Nat} {s:Sl} {ks:List (PT h)} {l r:PT h} (hm:Qhl w F base h s ks i l r) :
  Calls Tryz.prog 112 #[.slice s.a ks.length s.c,.int .i64 i] w (Qa2 F base h s ks i w):=by
 match h,i,ks,l,r,hm with
 | 0,0,_,_,_,hm=>exact Qko hm
 | 0,j+1,_,_,_,hm=>exact Qkp hm
 | h+1,0,_,_,_,hm=>exact Qkm hm
 | h+1,j+1,_,_,_,hm=>exact Qkn hm
def QnV (nv:Value) (es:List Ent) (k:ByteArray) (w:World) (e:Ending) (w':World):Prop:=
 Ext w w'∧((QaD es k=none∧e=.returned (.tuple #[nv,.bool false]))∨
  ((QaD es k).isSome=true∧∃ u:PT 0,e=.returned (.tuple #[ptr 0 u,.bool true])∧u.2=Qcl es k∧w.heap.size≤u.1∧IsN w' (In w.heap.size w'.heap.size) 0 u))
theorem Qh8 {es:List Ent} (hs:Sorted es) (k:ByteArray):decide ((es[Qby es k]?).map Prod.fst=some k)=(QaD es k).isSome:=by
 rw [Qe3 hs]
 cases hx:es[Qby es k]? with
 | none=>simp
 | some e=>by_cases hk:e.1=k <;> simp [hk]
theorem Qc0 {w:World} {nv:Value} {es:List Ent} (hp:∃ p,nv=.pointer p) (hh:Calls Tryz.prog 75 #[nv] w fun e w'=>e=.returned (.int .i64 0)∧w=w') (he:Calls Tryz.prog 89 #[nv] w (Qbr es w))
  (hs:Sorted es) (h8:es.length≤8) (k:ByteArray):Calls Tryz.prog 85 #[nv,.string k] w (QnV nv es k w):=by
 obtain ⟨pp,rfl⟩:=hp
 have HS:=Lib.hid hs
 clear hs
 go_enter Tryz.func85,Tryz.ntmps85
 go_wp2_with fail
 refine hh.mono ?_
 rintro e w1 ⟨rfl,rfl⟩
 go_wp2_with fail
 refine he.mono ?_
 intro e w1 hp
 obtain ⟨s,xs,rfl,hxs,ho,hx1⟩:=hp
 have hpl:=Qh7 (w:=w1) (s:=s) (xs:=xs) (ho.es.mono fun i hi=>hi.2) k (by rw [hxs];exact HS.out)
 rw [hxs] at hpl
 have hxl:xs.length=es.length:=by rw [←hxs,List.length_map]
 have HXS:=Lib.hid hxs
 have HO:=Lib.hid ho
 have HX1:=Lib.hid hx1
 have hl8:xs.length≤8:=by omega
 have HXL:=Lib.hid hxl
 obtain ⟨p,hp⟩:∃ p,Qby es k=p:=⟨_,rfl⟩
 unfold Qfb at hpl
 rw [Qh8 HS.out,hp] at hpl
 have HP:=Lib.hid hp
 clear hxs ho hx1 he hh hxl hp
 cases hg:QaD es k with
 | none=>
   rw [hg] at hpl
   have HG:=Lib.hid hg
   clear hg
   go_wp2_with fail
   refine hpl.mono ?_
   rintro e w2 ⟨rfl,hx2⟩
   have HX2:=Lib.hid (HX1.out.trans hx2)
   clear hpl hx2
   go_wp2_with fail
   go_ret2
   exact ⟨HX2.out,.inl ⟨HG.out,rfl⟩⟩
 | some v=>
   rw [hg] at hpl
   have hpn:p<xs.length:=by
    have h1:=Qe3 HS.out k
    rw [hg,HP.out] at h1
    rcases Nat.lt_or_ge p xs.length with h | h
    ·exact h
    rw [List.getElem?_eq_none (by rw [←HXL.out];exact h)] at h1;cases h1
   have hde:Qcl es k=es.take p++es.drop (p+1):=by
    have h1:=Qjj HS.out k
    have h2:=Qh8 HS.out k
    rw [hg] at h2
    rw [if_pos (of_decide_eq_true h2),HP.out] at h1
    exact h1
   have HG:=Lib.hid hg
   have HDE:=Lib.hid hde
   have hw1:IntKind.i64.wrap ((p:Int)+1)=(p:Int)+1:=by rw [IntKind.wrap_i64];omega
   clear hg hde
   go_wp2_with fail
   refine hpl.mono ?_
   rintro e w2 ⟨rfl,hx2⟩
   have ho2:=HO.out.ext hx2
   have hd:=QmL (i:=p) ho2.own (by omega) hpn (Qaw xs)
   have HO2:=Lib.hid ho2
   have HX2:=Lib.hid (HX1.out.trans hx2)
   clear hpl hx2 ho2
   go_wp2_with fail
   refine hd.mono ?_
   rintro e w3 ⟨rfl,hown,hwr⟩
   have hrow:∀ i,s.row=some i→w.heap.size≤i∧i<w2.heap.size:=fun i hi=>Qac HO2.out.own hi
   have e1:(Qaf xs).take (p*7)++(Qaf xs).drop ((p+1)*7)=Qaf (xs.take p++xs.drop (p+1)):=by rw [Qca,Qb9,Qaq]
   rw [e1] at hown
   have hX3:Ext w w3:=HX2.out.wr hwr (fun i hi=>(hrow i hi).1)
   have hes:ES w3 (Lt w3.heap.size) s (xs.take p++xs.drop (p+1)):=QoS (by rw [List.length_append,List.length_take,List.length_drop];omega) ((Rd.Qav hown).mono fun i hi=>hi.2)
    (fun x hx=>by
      have hxm:x∈xs:=by
       rcases List.mem_append.1 hx with hx | hx
       ·exact List.mem_of_mem_take hx
       exact List.mem_of_mem_drop hx
      exact ⟨((HO2.out.vals x hxm).1.agree (hwr.agree (fun i hi=>hi.1.2) (fun k hk h=>h.2 hk))).mono fun i hi=>Nat.lt_of_lt_of_le hi.1.2 hwr.grown.size,(HO2.out.vals x hxm).2⟩) (by rw [List.length_append,List.length_take,List.length_drop];omega)
   have hme:(xs.take p++xs.drop (p+1)).map LE.ent=Qcl es k:=by rw [List.map_append,List.map_take,List.map_drop,HXS.out,HDE.out]
   have hlf:=QcW (n:=xs.length - 1) hes (by rw [List.length_append,List.length_take,List.length_drop];omega) (Qcg (by rw [hme];exact Qcq HS.out k)) (by rw [List.length_append,List.length_take,List.length_drop];omega)
   rw [hme] at hlf
   have HX3:=Lib.hid hX3
   clear hd hown hwr hrow e1 hX3 hes hme
   go_wp2_with fail
   refine hlf.mono ?_
   rintro e w4 ⟨u,rfl,hu,hua,hun,hx4⟩
   have HU:=Lib.hid hun
   clear hlf hun
   go_wp2_with fail
   go_ret2
   exact ⟨HX3.out.trans hx4,.inr ⟨by rw [HG.out];rfl,u,rfl,hu,Nat.le_trans HX3.out.size hua,HU.out.mono fun i hi=>⟨Nat.le_trans HX3.out.size hi.1,hi.2⟩⟩⟩
def Qk0 (F:Nat→Prop) (h:Nat) (t:PT h) (k:ByteArray) (w:World) (e:Ending) (w':World):Prop:=
 Ext w w'∧((QaD (ents h t) k=none∧e=.returned (.tuple #[ptr h t,.bool false]))∨
  ((QaD (ents h t) k).isSome=true∧∃ u:PT h,e=.returned (.tuple #[ptr h u,.bool true])∧Qhk w.heap.size k h t u∧IsN w' (Up F w w') h u))
def QnW (F:Nat→Prop) (h:Nat) (t:PT (h+1)) (k:ByteArray) (w:World) (e:Ending) (w':World):Prop:=
 Ext w w'∧((QaD (ents (h+1) t) k=none∧e=.returned (.tuple #[ptr (h+1) t,.bool false]))∨
  ((QaD (ents (h+1) t) k).isSome=true∧∃ ks':List (PT h),QjU w.heap.size k h (Qhk w.heap.size k h) t.2 ks'∧
    ((∃ u,ks'=[u]∧e=.returned (.tuple #[ptr h u,.bool true])∧IsN w' (Up F w w') h u)∨
     (2≤ks'.length∧∃ c:PT (h+1),c.2=ks'∧w.heap.size≤addr (h+1) c∧e=.returned (.tuple #[ptr (h+1) c,.bool true])∧IsN w' (Up F w w') (h+1) c))))
def QnQ (F:Nat→Prop) (h:Nat) (ks':List (PT h)) (w:World) (e:Ending) (w':World):Prop:=
 Ext w w'∧((∃ u,ks'=[u]∧e=.returned (ptr h u)∧IsN w' (Up F w w') h u)∨(2≤ks'.length∧∃ c:PT (h+1),c.2=ks'∧w.heap.size≤addr (h+1) c∧e=.returned (ptr (h+1) c)∧IsN w' (Up F w w') (h+1) c))
theorem QfS {w w6:World} {F:Nat→Prop} {h:Nat} {k:ByteArray} {t:PT (h+1)} {s6:Sl} {ks':List (PT h)} (hF:∀ b,F b→b<w.heap.size) (ok:OkT (h+1) t) (hs:Sorted (ents (h+1) t)) (hc:(ents (h+1) t).length≤1000000) (hh:h+1<1000000) (hg:(QaD (ents (h+1) t) k).isSome=true)
  (hX:Ext w w6) (hown:w6.ownsRow w.heap.size 31 1 (.slice s6.a ks'.length s6.c) ks'.length (ptrs h ks')) (hD:QjU w.heap.size k h (Qhk w.heap.size k h) t.2 ks') (hI:∀ u∈ks',IsN w6 (Up F w w6) h u) :
  Calls Tryz.prog 67 #[.slice s6.a ks'.length s6.c] w6 fun e w'=>QnQ F h ks' w e w':=by
 obtain ⟨h1,h2,h3⟩:=QcM hD ok hs hg
 have ok2:=ok.1
 have ok8:=ok.2.1
 by_cases hone:ks'.length=1
 ·obtain ⟨u,rfl⟩:=List.length_eq_one_iff.1 hone
  refine (QkO (s:=s6) (k:=u) (Rd.Qav hown)).mono ?_
  rintro e w' ⟨rfl,rfl⟩
  exact ⟨hX,.inl ⟨u,rfl,rfl,hI u (List.mem_singleton.2 rfl)⟩⟩
 have hfl:=hD.ents hs (Qbw ok) (by omega) (fun x y hx hr=>hr.ents (ok.2.2 x hx).1 (Qax hs x hx))
 have hso:Sorted (ks'.flatMap (ents h)):=by rw [hfl];exact Qcq hs k
 have hpos:∀ x∈ks',0<(ents h x).length:=fun x hx=>Qa4 h x (h1 x hx).1 (by have:=(h1 x hx).2;omega)
 have hk:Kids w6 (Up F w w6) h ks':=⟨fun b hb=>hb.elim (fun h=>Nat.lt_of_lt_of_le (hF b h) hX.size) fun h=>h.2,hI,QcT hso hpos,hpos,fun x hx=>by have:=QcB (h1 x hx).1;omega,by
  unfold cnt
  rw [hfl]
  have h5:(Qcl (t.2.flatMap (ents h)) k).length≤(t.2.flatMap (ents h)).length:=(QbT _ k).length_le
  have h6:(t.2.flatMap (ents h)).length≤1000000:=hc
  omega,by omega⟩
 refine (QbM ((Rd.Qav hown).mono fun i hi=>hi.2) rfl hk (by omega) (by omega)).mono ?_
 rintro e w' ⟨c,rfl,hc2,hca,hcn,hx⟩
 refine ⟨hX.trans hx,.inr ⟨by omega,c,hc2,Nat.le_trans hX.size hca,rfl,hcn.mono fun i hi=>?_⟩⟩
 rcases hi with (hi | hi) | hi
 ·exact .inl hi
 ·exact .inr ⟨hi.1,Nat.lt_of_lt_of_le hi.2 hx.size⟩
 exact .inr ⟨Nat.le_trans hX.size hi.1,hi.2⟩
theorem QeG {h:Nat} {k:ByteArray}
  (ih:∀ (w:World) (F:Nat→Prop) (t:PT h),(∀ b,F b→b<w.heap.size)→IsN w F h t→OkT h t→4≤size h t→Sorted (ents h t)→(ents h t).length≤1000000→Calls Tryz.prog 85 #[ptr h t,.string k] w (Qk0 F h t k w))
  {w:World} {F:Nat→Prop} {t:PT (h+1)} (hF:∀ b,F b→b<w.heap.size) (hn:IsN w F (h+1) t) (ok:OkT (h+1) t) (hs:Sorted (ents (h+1) t)) (hc:(ents (h+1) t).length≤1000000) :
  Calls Tryz.prog 85 #[ptr (h+1) t,.string k] w (QnW F h t k w):=by
 have hpos:=Qbw ok
 have hh:h+1<1000000:=Nat.lt_of_lt_of_le (Qcb (h+1) t ok (by have:=ok.1;show 1≤t.2.length;omega)) hc
 obtain ⟨kid,hkid,hA,hC⟩:=QaT (h:=h) (ks:=t.2) hs hpos (by have:=ok.1;omega) k
 have hkm':=List.mem_of_getElem? hkid
 have hil:=(List.getElem?_eq_some_iff.1 hkid).1
 have hlen8:=ok.2.1
 have hlen2:=ok.1
 have hks:∀ x∈t.2,IsN w F h x:=hn.2.choose_spec.2.2
 have hkc:(ents h kid).length≤1000000:=Nat.le_trans (by
  show _≤(t.2.flatMap (ents h)).length
  rw [Qbz hkid];simp only [List.flatMap_append,List.flatMap_cons,List.length_append];omega) hc
 have hge:QaD (ents (h+1) t) k=QaD (ents h kid) k:=Qe2 hkid hA hC
 have hih:∀ W,Ext w W→Calls Tryz.prog 85 #[ptr h kid,.string k] W (Qk0 F h kid k W):=fun W hW=>
  ih W F kid (fun b hb=>Nat.lt_of_lt_of_le (hF b hb) hW.size) ((hks kid hkm').agree (hW.agree hF)) (ok.2.2 kid hkm').1 (ok.2.2 kid hkm').2 (Qax hs kid hkm') hkc
 have hdr:∀ B u,(QaD (ents (h+1) t) k).isSome=true→Qhk B k h kid u→OkT h u∧size h kid≤size h u+1∧size h u≤size h kid:=fun B u hg hr=>hr.ok (ok.2.2 kid hkm').1 (ok.2.2 kid hkm').2 (Qax hs kid hkm') (by rw [←hge];exact hg)
 have HF:=Lib.hid hF
 have HN:=Lib.hid hn
 have HS:=Lib.hid hs
 have HP:=Lib.hid hpos
 have HIH:=Lib.hid hih
 have HKS:=Lib.hid hks
 have HKID:=Lib.hid hkid
 have HGE:=Lib.hid hge
 have HOK:=Lib.hid ok
 have HC:=Lib.hid hc
 have HDR:=Lib.hid hdr
 have hnz:(((h:Int)+1) == 0)=false:=beq_eq_false_iff_ne.2 (by omega)
 clear hF hn ok hs hc hpos hih hks hkid hA hC ih hkc hge hdr
 go_enter Tryz.func85,Tryz.ntmps85
 go_wp2_with fail
 refine (Qas HN.out).mono ?_
 rintro e w1 ⟨rfl,rfl⟩
 have hkc:=Qcu HN.out (by omega)
 go_wp2_with fail
 refine hkc.mono ?_
 rintro e w1 ⟨s',rfl,hown,hx1⟩
 have hrd:Rd w1 (Lt w1.heap.size) 1 s' t.2.length (ptrs h t.2):=(Rd.Qav hown).mono fun i hi=>hi.2
 have hwh:=QfQ hrd (fun x hx=>(HKS.out x hx).agree (hx1.agree HF.out)) (fun b hb=>Nat.lt_of_lt_of_le (HF.out b hb) hx1.size) HP.out k HS.out (by omega)
 obtain ⟨i,hi⟩:∃ i,Qao h t.2 k=i:=⟨_,rfl⟩
 rw [hi] at hwh hil
 have HI:=Lib.hid hi
 have HWH:=Lib.hid hwh
 have HO1:=Lib.hid hown
 have HX1:=Lib.hid hx1
 clear hi hwh hown hrd hkc hx1
 go_wp2_with fail
 refine HWH.out.mono ?_
 rintro e w2 ⟨rfl,hx2⟩
 have hX2:=HX1.out.trans hx2
 obtain ⟨g,cap,rfl,hbg,hnc,hcm,hfil⟩:=Qat HO1.out (by omega)
 have ho2:w2.ownsRow w.heap.size 31 1 (.slice (some ⟨g,0,none⟩) t.2.length cap) t.2.length (ptrs h t.2):=Qad (s:=⟨some ⟨g,0,none⟩,cap⟩) HO1.out (hx2.agree (F:=Lt w1.heap.size) fun _ h=>h) fun b hb=>(Qac HO1.out hb).2
 have hkp:w2.cell? ⟨g,i,none⟩=some (ptr h kid):=by
  have:=ho2.cells (g:=g) rfl i (ptr h kid) (by rw [ptrs,List.getElem?_map,←HI.out,HKID.out];rfl)
  rwa [Qbb,Nat.zero_add] at this
 have hil':(i:Int)<(t.2.length:Int):=by omega
 have hg2:g<w2.heap.size:=(Qac (s:=⟨some ⟨g,0,none⟩,cap⟩) ho2 rfl).2
 have hih:=HIH.out w2 hX2
 have HO2:=Lib.hid ho2
 have HX2:=Lib.hid hX2
 clear hx2 ho2 hX2 hfil
 go_wp2_with fail
 refine hih.mono ?_
 rintro e w3 ⟨hx3,(⟨hg,rfl⟩ | ⟨hg,u,rfl,hdu,hnu⟩)⟩
 ·have HX3:=Lib.hid (HX2.out.trans hx3)
  have HG:=Lib.hid hg
  clear hx3 hg hih
  go_wp2_with fail
  go_ret2
  exact ⟨HX3.out,.inl ⟨by rw [HGE.out];exact HG.out,rfl⟩⟩
 have hgt:(QaD (ents (h+1) t) k).isSome=true:=by rw [HGE.out];exact hg
 obtain ⟨ou,su1,su2⟩:=HDR.out _ u hgt hdu
 have hsz3:3≤size h u:=by have:=(HOK.out.2.2 kid (List.mem_of_getElem? HKID.out)).2;omega
 have hsz8:size h u≤8:=QcB ou
 have hx3s:=hx3.size
 have hx2s:=HX2.out.size
 have hgF:∀ b,Up F w2 w3 b→b≠g:=fun b hb e=>by
  subst e
  rcases hb with hb | hb
  ·have:=HF.out _ hb;have hbg:w.heap.size≤b:=hbg;omega
  omega
 have hown3:w3.ownsRow w.heap.size 31 1 (.slice (some ⟨g,0,none⟩) t.2.length cap) t.2.length (ptrs h t.2):=Qad (s:=⟨some ⟨g,0,none⟩,cap⟩) HO2.out (hx3.agree (F:=Lt w2.heap.size) fun _ h=>h) fun b hb=>(Qac (s:=⟨some ⟨g,0,none⟩,cap⟩) HO2.out hb).2
 have hown4:=Qbm hown3 (i:=i) (by omega) (ptr h u)
 have e0:(ptrs h t.2).set i (ptr h u)=ptrs h (t.2.set i u):=by rw [ptrs,ptrs,List.map_set]
 rw [e0] at hown4
 have kc3:w3.cell? ⟨g,i,none⟩=some (ptr h kid):=(hx3.cell hg2).trans hkp
 have fz3:∀ o,w3.frozen? ⟨g,o,none⟩=false:=by
  obtain ⟨g',cap',e1,-,-,-,hfl⟩:=Qat (s:=⟨some ⟨g,0,none⟩,cap⟩) hown3 (by omega)
  obtain ⟨rfl,rfl⟩:g=g'∧cap=cap':=by simpa using e1
  exact hfl.frozen
 have hX4:=(HX2.out.trans hx3).setCell (p:=⟨g,i,none⟩) hbg (ptr h u)
 have hag4:Agree (Up F w2 w3) w3 (w3.setCell ⟨g,i,none⟩ (ptr h u)):=Agree.setCell w3 ⟨g,i,none⟩ _ (fun h=>hgF g h rfl)
 have hI4:∀ x∈t.2.set i u,IsN (w3.setCell ⟨g,i,none⟩ (ptr h u)) (Up F w2 w3) h x:=fun x hx=>by
  rcases List.mem_or_eq_of_mem_set hx with hx | rfl
  ·exact (((HKS.out x hx).agree ((HX2.out.trans hx3).agree HF.out)).mono fun b hb=>.inl hb).agree hag4
  exact hnu.agree hag4
 have hu4:=hI4 u (List.mem_set (by omega) u)
 have hsc:=Qe6 hu4 (by omega)
 have hz4:(w3.setCell ⟨g,i,none⟩ (ptr h u)).heap.size=w3.heap.size:=by simp
 have hdu':=hdu.mono hx2s
 have hkid:=HKID.out
 rw [HI.out] at hkid
 have hDK:∀ ks',((4≤size h u∧ks'=t.2.set i u)∨(size h u<4∧Qnz w.heap.size h (t.2.set i u) i ks'))→QjU w.heap.size k h (Qhk w.heap.size k h) t.2 ks':=fun ks' hks=>by
  refine ⟨kid,u,HKID.out,hdu',?_⟩
  rw [HI.out]
  exact hks
 have heq:(t.2.set i u).flatMap (ents h)=Qcl (t.2.flatMap (ents h)) k:=by
  obtain ⟨kid2,hk3,hA,hC⟩:=QaT (h:=h) (ks:=t.2) HS.out HP.out (by omega) k
  rw [HKID.out] at hk3
  simp only [Option.some.injEq] at hk3
  subst hk3
  rw [HI.out] at hA hC
  rw [set_mid hkid]
  simp only [List.flatMap_append,List.flatMap_cons]
  have e1:=hdu.ents (HOK.out.2.2 kid (List.mem_of_getElem? hkid)).1 (Qax HS.out kid (List.mem_of_getElem? hkid))
  conv=>rhs;rw [Qbz hkid]
  rw [List.flatMap_append,List.flatMap_cons,QgX hA,Qfn hC,e1]
 have hso:Sorted ((t.2.set i u).flatMap (ents h)):=by
  rw [heq]
  exact Qcq HS.out k
 have hfl:((t.2.set i u).flatMap (ents h)).length≤1000000:=by
  rw [heq]
  exact Nat.le_trans (QbT _ k).length_le HC.out
 have HFL:=Lib.hid hfl
 have HU:=Lib.hid hsc
 have HDK:=Lib.hid hDK
 have HX4:=Lib.hid hX4
 have HO4:=Lib.hid hown4
 have HI4:=Lib.hid hI4
 have HSO:=Lib.hid hso
 have HGT:=Lib.hid hgt
 have HOU:=Lib.hid ou
 have HGF:=Lib.hid hgF
 have hgb:g<w3.heap.size:=by omega
 clear hih hg hdu hnu hgt ou hown3 hown4 e0 hX4 hag4 hI4 hu4 hsc hdu' hkid hDK heq hso hfl hx3 hgF
 go_wp2_with fail
 generalize hW4:World.setCell _ _ _=W4 at *
 refine HU.out.mono ?_
 rintro e w5 ⟨rfl,q,rfl⟩
 have hX5:=HX4.out.drewN q
 have hst5:Agree (Up F w2 w3) W4 (W4.drewN q):=Agree.drewN W4 q
 have ho5:(W4.drewN q).ownsRow w.heap.size 31 1 (.slice (some ⟨g,0,none⟩) t.2.length cap) t.2.length (ptrs h (t.2.set i u)):=HO4.out
 have hz5:(W4.drewN q).heap.size=w3.heap.size:=hz4
 have hI5:∀ x∈t.2.set i u,IsN (W4.drewN q) (Up F w2 w3) h x:=fun x hx=>(HI4.out x hx).agree hst5
 generalize W4.drewN q=W5 at *
 have HX5:=Lib.hid hX5
 have HO5:=Lib.hid ho5
 have HI5:=Lib.hid hI5
 have HZ5:=Lib.hid hz5
 have hlen:(t.2.set i u).length=t.2.length:=by rw [List.length_set]
 clear hX5 hst5 ho5 hI5 hz5 kc3 fz3 hz4 hW4
 by_cases h4:size h u<4
 ·have h4':(size h u:Int)<4:=by omega
  obtain ⟨l,hl⟩:∃ l,(t.2.set i u)[i - 1]? = some l:=⟨_,List.getElem?_eq_getElem (by omega)⟩
  obtain ⟨r,hr⟩:∃ r,(t.2.set i u)[i - 1+1]? = some r:=⟨_,List.getElem?_eq_getElem (by omega)⟩
  have hoth:∀ x∈t.2.set i u,OkT h x∧3≤size h x:=fun x hx=>by
   rcases List.mem_or_eq_of_mem_set hx with hx | rfl
   ·exact ⟨(HOK.out.2.2 x hx).1,by have:=(HOK.out.2.2 x hx).2;omega⟩
   exact ⟨HOU.out,hsz3⟩
  have hsum:size h l+size h r≤11:=by
   have h8:∀ x∈t.2.set i u,size h x≤8:=fun x hx=>QcB (hoth x hx).1
   have hl8:=h8 l (List.mem_of_getElem? hl)
   have hr8:=h8 r (List.mem_of_getElem? hr)
   have hgi:(t.2.set i u)[i]? = some u:=by rw [List.getElem?_set_self (by omega)]
   by_cases h0:i=0
   ·subst h0
    rw [hgi] at hl
    simp only [Option.some.injEq] at hl
    subst hl;omega
   rw [show i - 1+1=i from by omega,hgi] at hr
   simp only [Option.some.injEq] at hr
   subst hr;omega
  have hmend:=Qm8 (w:=W5) (F:=Up F w2 w3) (base:=w.heap.size) (s:=⟨some ⟨g,0,none⟩,cap⟩) (i:=i) (ks:=t.2.set i u) (l:=l) (r:=r)
   ⟨by rw [hlen];exact HO5.out,HX5.out.size,fun b hb=>⟨by rw [HZ5.out];exact hb.elim (fun h=>by have:=HF.out b h;have:=HX2.out.size;omega) fun h=>h.2,fun e=>by simp [Sl.row] at e;exact HGF.out b hb e.symm⟩,HI5.out,hoth,hl,hr,hsum,HSO.out,by
     have:=HFL.out
     omega,by omega,by omega⟩
  rw [hlen] at hmend
  have HM:=Lib.hid hmend
  clear hl hr hoth hsum hmend
  go_wp2_with fail
  refine HM.out.mono ?_
  rintro e w6 ⟨s6,ks6,rfl,hown6,hm6,hI6,hst6⟩
  have hX6:Ext w w6:=HX5.out.step hst6 (fun b hb=>by simp only [Sl.row,Option.map_some,Option.some.injEq] at hb;have hbg:w.heap.size≤g:=hbg;omega)
  have D:=HDK.out ks6 (.inr ⟨h4,hm6.mono HX5.out.size⟩)
  have hIw:∀ x∈ks6,IsN w6 (Up F w w6) h x:=fun x hx=>(hI6 x hx).mono fun b hb=>by
   have hz:=HZ5.out
   have hz6:=hst6.size
   rcases hb with (hb | hb) | hb
   ·exact .inl hb
   ·exact .inr ⟨by omega,by omega⟩
   exact .inr ⟨by omega,hb.2⟩
  have hend:=QfS HF.out HOK.out HS.out HC.out hh HGT.out hX6 hown6 D hIw
  have HD:=Lib.hid D
  have HE:=Lib.hid hend
  clear hown6 hm6 hI6 hst6 hX6 D hIw hend
  go_wp2_with fail
  refine HE.out.mono ?_
  rintro e w7 ⟨hx,(⟨v,hv,rfl,hnv⟩ | ⟨hv,c,hcc,hca,rfl,hcn⟩)⟩
  ·have H1:=Lib.hid hx
   have H2:=Lib.hid hnv
   clear hx hnv
   go_wp2_with fail
   go_ret2
   exact ⟨H1.out,.inr ⟨HGT.out,ks6,HD.out,.inl ⟨v,hv,rfl,H2.out⟩⟩⟩
  have H1:=Lib.hid hx
  have H2:=Lib.hid hcn
  clear hx hcn
  go_wp2_with fail
  go_ret2
  exact ⟨H1.out,.inr ⟨HGT.out,ks6,HD.out,.inr ⟨hv,c,hcc,hca,rfl,H2.out⟩⟩⟩
 have h4':¬(size h u:Int)<4:=by omega
 have D:=HDK.out _ (.inl ⟨by omega,rfl⟩)
 have hIw:∀ x∈t.2.set i u,IsN W5 (Up F w W5) h x:=fun x hx=>(HI5.out x hx).mono fun b hb=>by
  have hz:=HZ5.out
  rcases hb with hb | hb
  ·exact .inl hb
  exact .inr ⟨by omega,by omega⟩
 have hend:=QfS (s6:=⟨some ⟨g,0,none⟩,cap⟩) HF.out HOK.out HS.out HC.out hh HGT.out HX5.out (by rw [hlen];exact HO5.out) D hIw
 rw [hlen] at hend
 have HD:=Lib.hid D
 have HE:=Lib.hid hend
 clear D hIw hend
 go_wp2_with fail
 refine HE.out.mono ?_
 rintro e w7 ⟨hx,(⟨v,hv,rfl,hnv⟩ | ⟨hv,c,hcc,hca,rfl,hcn⟩)⟩
 ·have H1:=Lib.hid hx
  have H2:=Lib.hid hnv
  clear hx hnv
  go_wp2_with fail
  go_ret2
  exact ⟨H1.out,.inr ⟨HGT.out,_,HD.out,.inl ⟨v,hv,rfl,H2.out⟩⟩⟩
 have H1:=Lib.hid hx
 have H2:=Lib.hid hcn
 clear hx hcn
 go_wp2_with fail
 go_ret2
 exact ⟨H1.out,.inr ⟨HGT.out,_,HD.out,.inr ⟨hv,c,hcc,hca,rfl,H2.out⟩⟩⟩
theorem QfR {k:ByteArray}:∀ (h:Nat) (w:World) (F:Nat→Prop) (t:PT h),(∀ b,F b→b<w.heap.size)→IsN w F h t→OkT h t→4≤size h t→Sorted (ents h t)→(ents h t).length≤1000000→Calls Tryz.prog 85 #[ptr h t,.string k] w (Qk0 F h t k w)
 | 0,w,F,t,hF,hn,ok,h4,hs,hc=>by
   refine (Qc0 ⟨_,rfl⟩ (Qas hn) (QaY (hn.mono hF)) hs (show t.2.length≤8 from ok) k).mono ?_
   rintro e w' ⟨hx,(⟨hg,rfl⟩ | ⟨hg,u,rfl,hu,hb,hn'⟩)⟩
   ·exact ⟨hx,.inl ⟨hg,rfl⟩⟩
   exact ⟨hx,.inr ⟨hg,u,rfl,⟨hu,hb⟩,hn'.mono fun i hi=>.inr hi⟩⟩
 | h+1,w,F,t,hF,hn,ok,h4,hs,hc=>by
   refine (QeG (QfR (k:=k) h) hF hn ok hs hc).mono ?_
   rintro e w' ⟨hx,(⟨hg,rfl⟩ | ⟨hg,ks',hd,h2⟩)⟩
   ·exact ⟨hx,.inl ⟨hg,rfl⟩⟩
   have h4:4≤t.2.length:=h4
   have:=(QcM hd ok hs hg).2.2
   rcases h2 with ⟨u,rfl,-,-⟩ | ⟨-,c,rfl,hb,rfl,hn'⟩
   ·simp only [List.length_cons,List.length_nil] at this;omega
   exact ⟨hx,.inr ⟨hg,c,rfl,⟨hd,hb⟩,hn'⟩⟩
def Qk1 (F:Nat→Prop) (T:RT) (k:ByteArray) (w:World) (e:Ending) (w':World):Prop:=
 Ext w w'∧((QaD (Qak T) k=none∧e=.returned (.tuple #[QaQ T,.bool false]))∨
  ((QaD (Qak T) k).isSome=true∧∃ (h:Nat) (u:PT h),e=.returned (.tuple #[ptr h u,.bool true])∧IsN w' (Up F w w') h u∧
    ((ents h u=[]∧Qiu w.heap.size k T none)∨(0<(ents h u).length∧Qiu w.heap.size k T (some ⟨h,u⟩)))))
theorem Qit {w:World} {F:Nat→Prop} {T:RT} (hF:∀ b,F b→b<w.heap.size) (hT:IsT w F T) (ok:OkR T) (hc:(Qak T).length≤1000000) (k:ByteArray) :
  Calls Tryz.prog 85 #[QaQ T,.string k] w (Qk1 F T k w):=by
 match T,hT,ok,hc with
 | none,_,_,_=>
   refine (Qc0 (nv:=.pointer none) (es:=[]) ⟨none,rfl⟩ (Qc2 w) ((Qfo w).mono ?_) List.Pairwise.nil (by simp) k).mono ?_
   ·rintro e w' ⟨rfl,rfl⟩
    exact ⟨Sl.none,[],rfl,rfl,OE.nil _ _,Ext.refl _⟩
   rintro e w' ⟨hx,(⟨hg,rfl⟩ | ⟨hg,u,rfl,hu,hb,hn'⟩)⟩
   ·exact ⟨hx,.inl ⟨hg,rfl⟩⟩
   simp [QaD] at hg
 | some ⟨0,t⟩,hn,ok,hc=>
   have hn:IsN w F 0 t:=hn
   refine (Qc0 ⟨_,rfl⟩ (Qas hn) (QaY (hn.mono hF)) ok.2.2 (show t.2.length≤8 from ok.1) k).mono ?_
   rintro e w' ⟨hx,(⟨hg,rfl⟩ | ⟨hg,u,rfl,hu,hb,hn'⟩)⟩
   ·exact ⟨hx,.inl ⟨hg,rfl⟩⟩
   refine ⟨hx,.inr ⟨hg,0,u,rfl,hn'.mono fun i hi=>.inr hi,?_⟩⟩
   by_cases h0:ents 0 u=[]
   ·exact .inl ⟨h0,.gone hg ⟨hu,hb⟩ h0⟩
   have:=List.length_pos_iff.2 h0
   exact .inr ⟨this,.same hg ⟨hu,hb⟩ this (.inl rfl)⟩
 | some ⟨h+1,t⟩,hn,ok,hc=>
   refine (QeG (QfR (k:=k) h) hF hn ok.1 ok.2.2 hc).mono ?_
   rintro e w' ⟨hx,(⟨hg,rfl⟩ | ⟨hg,ks',hd,h2⟩)⟩
   ·exact ⟨hx,.inl ⟨hg,rfl⟩⟩
   have hko:=(QcM hd ok.1 ok.2.2 hg).1
   rcases h2 with ⟨u,rfl,rfl,hn'⟩ | ⟨hl,c,rfl,hb,rfl,hn'⟩
   ·have:=hko u (List.mem_singleton.2 rfl)
    exact ⟨hx,.inr ⟨hg,h,u,rfl,hn',.inr ⟨Qa4 h u this.1 (by omega),.down hg hd⟩⟩⟩
   have hp:0<(ents (h+1) c).length:=by
    obtain ⟨x,hxm⟩:=List.exists_mem_of_length_pos (show 0<c.2.length by omega)
    have h1:=hko x hxm
    have h2:=Qa4 h x h1.1 (by omega)
    show 0<(c.2.flatMap (ents h)).length
    obtain ⟨e,he⟩:=List.exists_mem_of_length_pos h2
    exact List.length_pos_of_mem (List.mem_flatMap.2 ⟨x,hxm,he⟩)
   exact ⟨hx,.inr ⟨hg,h+1,c,rfl,hn',.inr ⟨hp,.same hg ⟨hd,hb⟩ hp (.inr hl)⟩⟩⟩
def QkV (F:Nat→Prop) (T:RT) (k:ByteArray) (w:World) (e:Ending) (w':World):Prop:=
 ∃ T',e=.returned (.tuple #[QaC T',.bool (QaD (Qak T) k).isSome])∧Qiu w.heap.size k T T'∧IsT w' (Up F w w') T'∧Ext w w'
theorem Qj6 {w:World} {F:Nat→Prop} {T:RT} (hF:∀ b,F b→b<w.heap.size) (hT:IsT w F T) (ok:OkR T) (hc:(Qak T).length≤1000000) (k:ByteArray) :
  Calls Tryz.prog 57 #[QaC T,.string k] w (QkV F T k w):=by
 have hcw:∀ W,Ext w W→Calls Tryz.prog 85 #[QaQ T,.string k] W (Qk1 F T k W):=fun W hW=>
  Qit (fun b hb=>Nat.lt_of_lt_of_le (hF b hb) hW.size) (hT.agree (hW.agree hF)) ok hc k
 have hct:∀ W,Ext w W→Calls Tryz.prog 54 #[QaQ T] W fun e w'=>e=.returned (.int .i64 (Qak T).length)∧W=w':=fun W hW=>Qgf (hT.agree (hW.agree hF))
 have hnil:Qak T=[]→T=none:=fun h0=>by
  match T,ok,h0 with
  | none,_,_=>rfl
  | some ⟨h,t⟩,ok,h0=>have:=Qa4 h t ok.1 ok.2.1;have h0:ents h t=[]:=h0;rw [h0] at this;cases this
 have hpn:∃ p,QaQ T=.pointer p:=Qar T
 obtain ⟨rp,hrp⟩:=hpn
 rw [hrp] at hcw hct
 have HW:=Lib.hid hcw
 have HCT:=Lib.hid hct
 have HF:=Lib.hid hF
 have HOK:=Lib.hid ok
 have HT:=Lib.hid hT
 have HNIL:=Lib.hid hnil
 have HRP:=Lib.hid hrp
 clear hF hT ok hcw hct hnil
 rw [QaC,hrp]
 clear hrp
 go_enter Tryz.func57,Tryz.ntmps57
 go_wp2_with fail
 have hx3:Ext w ((w.alloc (.cells #[.pointer rp] 33)).alloc (.cells #[.pointer none] 33)):=((Ext.refl w).alloc _ _).alloc _ _
 have hb3:Blk ((w.alloc (.cells #[.pointer rp] 33)).alloc (.cells #[.pointer none] 33)) (w.heap.size+1) 33 #[.pointer none]:=by
  have:=Blk.new (w.alloc (.cells #[.pointer rp] 33)) 33 #[.pointer none]
  simpa using this
 generalize hW3:World.alloc _ _=W3 at *
 have hz3:W3.heap.size=w.heap.size+1+1:=by rw [←hW3];simp
 clear hW3
 refine (HW.out _ hx3).mono ?_
 rintro e w4 ⟨hx4,hor⟩
 have hb4:=hb3.ext hx4
 have hX4:=hx3.trans hx4
 have q4:w4.cell? ⟨w.heap.size+1,0,none⟩=some (.pointer none):=hb4.cell 0
 have f4:=hb4.frozen 0
 have hl4:=hb4.lt
 have HX:=Lib.hid hX4
 have hnF:∀ W',¬Up F W3 W' (w.heap.size+1):=fun W' hf=>by
  rcases hf with hf | hf
  ·have:=HF.out _ hf;omega
  have:=hf.1;omega
 have HNF:=Lib.hid hnF
 have hwW:w.heap.size≤W3.heap.size:=by omega
 clear hb3 hb4 hX4 hx3 hx4 hnF
 have hone:∃ T1 b,e=.returned (.tuple #[QaQ T1,.bool b])∧b=(QaD (Qak T) k).isSome∧IsT w4 (Up F W3 w4) T1∧((Qak T1).length=0→Qiu w.heap.size k T none)∧((Qak T1).length≠0→Qiu w.heap.size k T T1):=by
  rcases hor with ⟨hg,rfl⟩ | ⟨hg,h,u,rfl,hn',hd⟩
  ·refine ⟨T,false,by rw [HRP.out],by rw [hg];rfl,(HT.out.agree (HX.out.agree HF.out)).mono fun i hi=>.inl hi,fun h0=>?_,fun _=>.no hg⟩
   have:=HNIL.out (List.eq_nil_of_length_eq_zero h0)
   subst this
   exact .no hg
  refine ⟨some ⟨h,u⟩,true,rfl,hg.symm,hn',fun h0=>?_,fun h0=>?_⟩
  ·exact (hd.resolve_right fun hc=>by have h0:(ents h u).length=0:=h0;omega).2.mono hwW
  exact (hd.resolve_left fun h=>h0 (by show (ents _ u).length=0;rw [h.1];rfl)).2.mono hwW
 obtain ⟨T1,b,rfl,hb,hT1,hd0,hd1⟩:=hone
 have hcn:=Qgf hT1
 obtain ⟨p1,hp1⟩:=Qar T1
 have hfin:∀ W',Agree (Up F W3 w4) w4 W'→w4.heap.size≤W'.heap.size→IsT W' (Up F w W') T1:=fun W' ha hs=>(hT1.agree ha).mono fun i hi=>hi.elim .inl fun hi=>.inr ⟨Nat.le_trans hwW hi.1,Nat.lt_of_lt_of_le hi.2 hs⟩
 rw [hp1] at hcn
 have HP1:=Lib.hid hp1
 have HCN:=Lib.hid hcn
 have HB:=Lib.hid hb
 have HFIN:=Lib.hid hfin
 have HD0:=Lib.hid hd0
 have HD1:=Lib.hid hd1
 rw [hp1]
 clear hor hp1 hcn hb hfin hd0 hd1 hT1
 go_wp2_with fail
 refine HCN.out.mono ?_
 rintro e w5 ⟨rfl,rfl⟩
 by_cases h0:(Qak T1).length=0
 ·have h0':(((Qak T1).length:Int) == 0)=true:=by simp [h0]
  go_wp2_with fail
  have q0:(w4.setCell ⟨w.heap.size+1,0,none⟩ (.pointer none)).cell? ⟨w.heap.size+1,0,none⟩=some (.pointer none):=World.cell?_setCell_same w4 _ _ q4
  refine bodyPost_ret (v:=.tuple #[QaC none,.bool b]) (by simp [results,Tryz.results57,go_sem,q0];rfl) rfl ?_
  rw [HB.out]
  exact ⟨none,rfl,HD0.out h0,trivial,HX.out.setCell (p:=⟨w.heap.size+1,0,none⟩) (by show w.heap.size≤w.heap.size+1;omega) _⟩
 have h0':(((Qak T1).length:Int) == 0)=false:=beq_eq_false_iff_ne.2 (by omega)
 go_wp2_with fail
 have q0:(w4.setCell ⟨w.heap.size+1,0,none⟩ (.pointer p1)).cell? ⟨w.heap.size+1,0,none⟩=some (.pointer p1):=World.cell?_setCell_same w4 _ _ q4
 refine bodyPost_ret (v:=.tuple #[QaC T1,.bool b]) (by rw [QaC,HP1.out];simp [results,Tryz.results57,go_sem,q0]) rfl ?_
 rw [HB.out]
 exact ⟨T1,rfl,HD1.out h0,HFIN.out _ (Agree.setCell w4 ⟨w.heap.size+1,0,none⟩ _ (HNF.out w4)) (by simp),HX.out.setCell (p:=⟨w.heap.size+1,0,none⟩) (by show w.heap.size≤w.heap.size+1;omega) _⟩
theorem QhF {P:Program} (w:World) {tp te:TypeId} (a:Addr) (hp:P.underlying tp=some (.pointer te)) :
  (binOp .eql tp (.pointer none) (.pointer (some a))).run P w=.ok (.bool false) w:=by
 have h:∀ d:Nat,(Op.equalIn (d+1) tp (.pointer none) (.pointer (some a))).run P w=.ok false w:=fun d=>by
  simp [Op.equalIn,run_underlying hp]
 simp only [binOp]
 simp [Op.equal,Op.maxDepth,h 9999]
theorem QlI:∃ j,Tryz.prog.info? 157=some j∧j.size≠0:=by
 have h:((Tryz.prog.info? 157).map fun i=>decide (i.size≠0))=some true:=by kernel_rfl
 cases hj:Tryz.prog.info? 157 with
 | none=>rw [hj] at h;cases h
 | some j=>rw [hj] at h;exact ⟨j,rfl,by simpa using h⟩
theorem QlJ (w:World) (p:Option Addr):Calls Tryz.prog 39 #[.agg #[.pointer p],.agg #[.pointer p]] w fun e w'=>e=.returned (.bool true)∧Ext w w':=by
 obtain ⟨j,hj,-⟩:=QlI
 cases p with
 | none=>
   go_enter Tryz.func39,Tryz.ntmps39
   go_wp2_with fail
   go_ret
   exact ⟨rfl,((Ext.refl w).alloc _ _).alloc _ _⟩
 | some a=>
   have hs:=fun W=>run_eql_ptr_same (P:=Tryz.prog) W a Tryz.underlying31 hj
   go_enter Tryz.func39,Tryz.ntmps39
   go_wp2_with fail
   go_ret
   exact ⟨rfl,((Ext.refl w).alloc _ _).alloc _ _⟩
def QnR (w:World) (p:Option Addr):Prop:=∀ a,p=some a→∃ c t,w.heap[a.block]? = some (.cells c t (0,0))
theorem MapAt.wide {H:Nat→Prop} {w:World} {M:Nat} {es:List Ent} (h:MapAt H w M es) (N:Nat):MapAt (fun b=>H b∨(w.heap.size≤b∧b<N)) w M es:=
 h.more (fun b hb=>.inl hb) fun b hb hg=>hg.elim id fun hh=>by omega
section
variable {H : Nat → Prop} {w : World} {M : Nat} {T : RT} {a : LA}
end
end Go.Proofs.YtohajcflklejjaaGreat
namespace Go.Proofs.YtohajcflklejjaaGreat
section
variable {P : Program} {ops : Array Oper} {Q : Exit → Act → World → Prop} {md : Region.Mode} {S : World → Prop}
theorem QaL {i j:Nat} {oi oj:Oper} {fuel:Nat} {listed:Array Bool} {a:Act} {w:World} (hr:Region.ready md ops listed=[i,j]) (hi:ops[i]? = some oi) (hj:ops[j]? = some oj) (hw:Region.wanted oi (yielded ops a.tmps)=true) (hv:Region.wanted oj (yielded ops a.tmps)=true)
  (h:∀ K':Act→World→Prop,Shut (∀ a w,S w→(S w→wpAnyH P md ops Q S fuel (listed.setIfInBounds i true) a w)→K' a w)→Oper.wp P oi a w K' Q)
  (h':∀ K':Act→World→Prop,Shut (∀ a w,S w→(S w→wpAnyH P md ops Q S fuel (listed.setIfInBounds j true) a w)→K' a w)→Oper.wp P oj a w K' Q):wpAnyH P md ops Q S (fuel+1) listed a w:=
 wpAnyH_ready hr (by simp) (AllReadyH.cons hi (fun K' hK=>by rw [if_pos hw];exact h K' hK) (AllReadyH.cons hj (fun K' hK=>by rw [if_pos hv];exact h' K' hK) AllReadyH.nil))
end
end Go.Proofs.YtohajcflklejjaaGreat
namespace Go.Proofs.YtohajcflklejjaaGreat
open Go.RowKit
set_option linter.unusedVariables false
theorem QgZ (w:World) (o:Obj) (h:∀ (W:World) (i j:Nat),W.heap[i]? = some o→W.frozen? ⟨i,j,none⟩=false):Ext w (w.alloc o):=by
 refine ⟨(Below.refl _ _).alloc (Nat.le_refl _) _,fun b j hb=>?_⟩
 by_cases hb':b=w.heap.size
 ·subst hb'
  exact h _ _ _ (World.alloc_heap_new w o)
 exact frozen_none (by simp;omega)
structure Turned (B:Nat) (W W':World):Prop where
 os:W'.os=W.os
 tape:W'.tape=W.tape
 output:W'.output=W.output
 size:W'.heap.size=W.heap.size
 block:∀ b,(b<B∨∃ o,W.heap[b]? = some o∧o.isCells=true)→W'.heap[b]? = W.heap[b]?
 fz:∀ b o,W'.frozen? ⟨b,o,none⟩=W.frozen? ⟨b,o,none⟩
theorem Turned.put {B l:Nat} {W:World} {o o':Obj} (hl:B≤l) (h:W.heap[l]? = some o) (hc:o.isCells=false) (hc':o'.isCells=false):Turned B W (W.putObj l o'):=by
 refine ⟨rfl,rfl,rfl,by simp,fun b hb=>World.putObj_heap_other ?_,fun b j=>?_⟩
 ·rintro rfl
  rcases hb with hb | ⟨o2,h2,h3⟩
  ·omega
  rw [h] at h2;cases h2;rw [hc] at h3;cases h3
 by_cases e:b=l
 ·subst e
  have h1:(W.putObj b o').heap[b]? = some o':=World.putObj_heap_same (Array.getElem?_eq_some_iff.1 h).1
  unfold World.frozen?
  simp only [h1,h]
  cases o <;> cases o' <;> first | rfl | (simp [Obj.isCells] at hc;done) | (simp [Obj.isCells] at hc';done)
 exact World.frozen?_of_block (a:=⟨b,j,none⟩) (World.putObj_heap_other e)
theorem St.then {C C1:Nat→Prop} {a b c:World} (h:St C a b) (k:St C1 b c) (hC:∀ i,i<a.heap.size→C1 i→C i):St C a c:=
 ⟨k.os.trans h.os,k.tape.trans h.tape,k.output.trans h.output,Nat.le_trans h.size k.size,fun i hi hn=>(k.block i (Nat.lt_of_lt_of_le hi h.size) (fun hh=>hn (hC i hi hh))).trans (h.block i hi hn),fun b o=>(k.fz b o).trans (h.fz b o)⟩
theorem St.put {l:Nat} {W:World} {o o':Obj} (h:W.heap[l]? = some o) (hc:o.isCells=false) (hc':o'.isCells=false):St (fun b=>b=l) W (W.putObj l o'):=
 ⟨rfl,rfl,rfl,by simp,fun b _ hn=>World.putObj_heap_other hn,(Turned.put (Nat.le_refl l) h hc hc').fz⟩
structure Takes {α:Type} (P:Program) (l:Nat) (encs:α→Array Value) (G:List α→α→World→World→Prop) (J:List α→(Nat→Prop)→World→Prop) (Jx:List α→World→Prop):Prop where
 lt:∀ pre C W,J pre C W→∀ b,C b→b<W.heap.size
 take:∀ pre C x W0 W1,J pre C W0→Ext W0 W1→G pre x W0 W1→YieldAt Fence.wide 4 P l (encs x) W1 fun e W'=>
  (e=.returned (.bool true)∧∃ C',J (pre++[x]) C' W'∧St C W1 W'∧∀ b,C' b→C b∨W1.heap.size≤b)∨(e=.returned (.bool false)∧Jx (pre++[x]) W'∧St C W1 W')
def QoW {α:Type} (P:Program) (g:Nat) (lb:Array Value) (encs:α→Array Value) (K:Nat→Prop) (G:List α→α→World→World→Prop) (S Sp:List α→Prop) (w0:World):Prop:=
 ∀ (l:Nat) (J:List α→(Nat→Prop)→World→Prop) (Jx:List α→World→Prop) (C:Nat→Prop) (W:World),Takes P l encs G J Jx→Agree K w0 W→w0.heap.size≤W.heap.size→(∀ b,C b→¬K b)→J [] C W→
  Calls P g (#[.func (.yield l) #[] #[]]++lb) W fun e W'=>(∃ v,e=.returned v)∧((∃ xs C' W0,S xs∧J xs C' W0∧Ext W0 W')∨(∃ pre W0,Sp pre∧Jx pre W0∧Ext W0 W'))
def Qnb {α:Type} (C:Nat→Prop) (I:List α→(Nat→Prop)→World→Prop) (Ix:Code→List α→World→Prop) (xs:List α) (W:World):Exit→Act→World→Prop
 | .normal,_,W'=>∃ C',I xs C' W'∧St C W W'∧(∀ b,C' b→C b∨W.heap.size≤b)∧(∀ b,C' b→b<W'.heap.size)
 | .ret,_,W'=>St C W W'∧Ix .ret xs W'
 | .exit id,_,W'=>St C W W'∧Ix (.exit id) xs W'
 | .goto t,_,W'=>St C W W'∧Ix (.goto t) xs W'
 | .panic _,_,_=>False
 | .outgrown,_,_=>False
theorem Qdo {α:Type} {n:Nat} {P:Program} {g:Operand} {ps:Array Tmp} {assign body:Code} {Q:Exit→Act→World→Prop} {a:Act} {w:World}
  {gf:Nat} {lb:Array Value} (hg:a.eval g=.func (.func gf) #[] lb) (eg:∀ args w,(callFunc gf args).run P w=.ok (.enter gf args) w)
  {encs:α→Array Value} {K:Nat→Prop} {G:List α→α→World→World→Prop} {S Sp:List α→Prop} {w0:World} (hseq:QoW P gf lb encs K G S Sp w0)
  (hA:Agree K w0 w) (hsz:w0.heap.size≤w.heap.size) (hK:∀ b,K b→b<w.heap.size) (hps:∀ x,(encs x).size=ps.size)
  (I:List α→(Nat→Prop)→World→Prop) (Ix:Code→List α→World→Prop) (C₀:Nat→Prop) (hC:∀ b,C₀ b→b<w.heap.size∧¬K b)
  (hI:∀ {s C W W'},I s C W→St (fun b=>b=w.heap.size+1) W W'→I s C W') (hIx:∀ {c s W W'},Ix c s W→St (fun b=>b=w.heap.size+1) W W'→Ix c s W')
  (h0:∀ W,Ext w W→w.heap.size+2≤W.heap.size→I [] C₀ W)
  (hround:∀ (pre:List α) (C:Nat→Prop) (x:α) (W0 W1:World),I pre C W0→(∀ b,C b→b<W0.heap.size)→w.heap.size+2≤W0.heap.size→¬C (w.heap.size+1)→Ext W0 W1→G pre x W0 W1→
    assign.wpIn (Fence.wide.inRound (w.heap.size+1)) 4 P (Exit.then (fun a1 W2=>Ext W1 W2∧∀ W3,St (fun b=>b=w.heap.size+1) W2 W3→body.wpIn (Fence.wide.inRound (w.heap.size+1)) 4 P (Qnb C I Ix (pre++[x]) W3) a1 W3) (fun _ _ _=>False))
     { tmps:=(ps.zip (encs x)).foldl (fun t (p,v)=>t.setIfInBounds p v) a.tmps,defers:=[] } W1)
  (hdone:∀ (D:Nat) (xs:List α) (C:Nat→Prop) (W:World),D=w.heap.size→S xs→I xs C W→W.heap[D]? = some (.deferred (some []))→Q .normal { a with defers:={ target:=.collected D,args:=#[] } :: a.defers } W)
  (hstop:∀ (D:Nat) (c:Code) (pre:List α) (W:World),D=w.heap.size→Sp pre→Ix c pre W→W.heap[D]? = some (.deferred (some []))→c.wpIn Fence.wide n P Q { a with defers:={ target:=.collected D,args:=#[] } :: a.defers } W) :
  (Code.rangeFunc g ps assign body).wpIn Fence.wide n P Q a w:=by
 refine wpIn_rangeFunc fun fn hfn=>?_
 rw [show Fence.wide.round=none from rfl]
 -- the loop's record at each of its states;where it lies,and the block of the rounds' deferred calls
 let rec_:LoopState→Option Code→Obj:=fun st pe=>.loop { state:=st,pending:=pe,fn,tmps:=a.tmps,params:=ps,assign,body,defers:=w.heap.size }
 let BK:LoopState→Option Code→World→Prop:=fun st pe W=>W.heap[w.heap.size+1]? = some (rec_ st pe)∧W.heap[w.heap.size]? = some (.deferred (some []))
 have bkL:∀ {st pe W},BK st pe W→w.heap.size+1<W.heap.size:=fun h=>(Array.getElem?_eq_some_iff.1 h.1).1
 have bkE:∀ {st pe W W'},BK st pe W→Ext W W'→BK st pe W':=fun h he=>⟨(he.heap (Array.getElem?_eq_some_iff.1 h.1).1).trans h.1,(he.heap (Array.getElem?_eq_some_iff.1 h.2).1).trans h.2⟩
 have bkS:∀ {st pe W W'} {C:Nat→Prop},BK st pe W→St C W W'→¬C (w.heap.size+1)→¬C w.heap.size→BK st pe W':=fun h hk h1 h2=>⟨(hk.block _ (bkL h) h1).trans h.1,(hk.block _ (by have:=bkL h;omega) h2).trans h.2⟩
 have bkP:∀ {st pe W} (st':LoopState) (pe':Option Code),BK st pe W→BK st' pe' (W.putObj (w.heap.size+1) (rec_ st' pe'))∧St (fun b=>b=w.heap.size+1) W (W.putObj (w.heap.size+1) (rec_ st' pe')):=fun st' pe' h=>
  ⟨⟨World.putObj_heap_same (Array.getElem?_eq_some_iff.1 h.1).1,(World.putObj_heap_other (by omega)).trans h.2⟩,St.put h.1 rfl rfl⟩
 have e1:Ext w (w.alloc (.deferred (some []))):=QgZ w _ fun W i j h=>by simp [World.frozen?,h]
 have e2:Ext (w.alloc (.deferred (some []))) ((w.alloc (.deferred (some []))).alloc (rec_ .ready none)):=QgZ _ _ fun W i j h=>by simp [World.frozen?,h,rec_]
 have hrun:=run_enterLoop_outer (P:=P) (w:=w) fn a.tmps ps assign body
 have bk1:BK .ready none ((w.alloc (.deferred (some []))).alloc (rec_ .ready none)):=
  ⟨by have:=World.alloc_heap_new (w.alloc (.deferred (some []))) (rec_ .ready none);rwa [World.size_alloc] at this,(Below.heap_alloc _ _ _ (by simp)).trans (World.alloc_heap_new w _)⟩
 have eW:=e1.trans e2
 have hs1:w.heap.size+2≤((w.alloc (.deferred (some []))).alloc (rec_ .ready none)).heap.size:=by simp
 change _=Result.ok _ ((w.alloc (.deferred (some []))).alloc (rec_ .ready none)) at hrun
 generalize (w.alloc (.deferred (some []))).alloc (rec_ .ready none)=W1 at *
 refine ⟨w.heap.size+1,_,W1,{ target:=.fn (.func gf) lb,args:=#[.func (.yield (w.heap.size+1)) #[] #[]] },W1,gf,#[.func (.yield (w.heap.size+1)) #[] #[]]++lb,W1,hrun,?_,?_,?_,fun h=>by simp [Fence.wide] at h,?_⟩
 ·simp only [resolve,hg]
  simp [go_sem]
 ·intro f' hf';trivial
 ·simp [invoke,go_sem,eg]
 refine callsIn_wide.2 ((hseq (w.heap.size+1) (fun pre C W=>∃ C0:Nat→Prop,C=(fun b=>C0 b∨b=w.heap.size+1)∧I pre C0 W∧(∀ b,C0 b→b<W.heap.size)∧¬C0 (w.heap.size+1)∧¬C0 w.heap.size∧BK .ready none W) (fun pre W=>∃ c,Ix c pre W∧BK .done (some c) W) (fun b=>C₀ b∨b=w.heap.size+1) W1 ⟨?_,?_⟩ (hA.trans (eW.agree hK)) (Nat.le_trans hsz eW.size) ?_
  ⟨C₀,rfl,h0 W1 eW hs1,fun b hb=>by have:=(hC b hb).1;omega,fun h=>by have:=(hC _ h).1;omega,fun h=>by have:=(hC _ h).1;omega,bk1⟩).mono ?_)
 ·rintro pre C W ⟨C0,rfl,-,hlt,-,-,hbk⟩ b (hb | rfl)
  ·exact hlt b hb
  exact bkL hbk
 ·rintro pre C x W0 Wy ⟨C0,rfl,hi,hlt,nL,nD,hbk⟩ hx hgd
  have hbk1:=bkE hbk hx
  have hl0:=bkL hbk
  refine ⟨fn,_,assign,body,run_yield (args:=encs x) hbk1.1 (hps x),roundIn_of_wpIn hfn (wpIn_mono (hround pre C0 x W0 Wy hi hlt (by omega) nL hx hgd) ?_)⟩
  rintro e a3 W2 hp
  cases e with
  | normal=>
    obtain ⟨hx2,hb⟩:=hp
    have hbk2:=bkE hbk1 hx2
    obtain ⟨hbk3,ht3⟩:=bkP .busy none hbk2
    refine ⟨_,run_beginRound hbk2.1 rfl,wpIn_mono (hb _ ht3) ?_⟩
    have hl3:=bkL hbk3
    generalize W2.putObj (w.heap.size+1) (rec_ .busy none)=W3 at *
    rintro e a4 W4 hq
    cases e with
    | normal=>
      obtain ⟨C',hi4,hst,hsub,hlt4⟩:=hq
      have hbk4:=bkS hbk3 hst nL nD
      obtain ⟨hbk5,ht5⟩:=bkP .ready none hbk4
      refine ⟨_,_,run_endRound none hbk4.1,.inl ⟨rfl,_,⟨C',rfl,hI hi4 ht5,fun b hb=>Nat.lt_of_lt_of_le (hlt4 b hb) ht5.size,fun h=>?_,fun h=>?_,hbk5⟩,?_,?_⟩⟩
      ·rcases hsub _ h with h | h
       ·exact nL h
       omega
      ·rcases hsub _ h with h | h
       ·exact nD h
       omega
      ·exact (((hx2.st _).trans (ht3.mono fun i _ hi=>.inr hi)).trans (hst.mono fun i _ hi=>.inl hi)).trans (ht5.mono fun i _ hi=>.inr hi)
      rintro b (hb | rfl)
      ·rcases hsub b hb with h | h
       ·exact .inl (.inl h)
       exact .inr (by have:=hx2.size;have:=ht3.size;omega)
      exact .inl (.inr rfl)
    | ret=>
      have hbk4:=bkS hbk3 hq.1 nL nD
      obtain ⟨hbk5,ht5⟩:=bkP .done (some .ret) hbk4
      exact ⟨_,_,run_endRound (some .ret) hbk4.1,.inr ⟨rfl,⟨.ret,hIx hq.2 ht5,hbk5⟩,(((hx2.st _).trans (ht3.mono fun i _ hi=>.inr hi)).trans (hq.1.mono fun i _ hi=>.inl hi)).trans (ht5.mono fun i _ hi=>.inr hi)⟩⟩
    | exit id=>
      have hbk4:=bkS hbk3 hq.1 nL nD
      obtain ⟨hbk5,ht5⟩:=bkP .done (some (.exit id)) hbk4
      exact ⟨_,_,run_endRound (some (.exit id)) hbk4.1,.inr ⟨rfl,⟨.exit id,hIx hq.2 ht5,hbk5⟩,(((hx2.st _).trans (ht3.mono fun i _ hi=>.inr hi)).trans (hq.1.mono fun i _ hi=>.inl hi)).trans (ht5.mono fun i _ hi=>.inr hi)⟩⟩
    | goto t=>
      have hbk4:=bkS hbk3 hq.1 nL nD
      obtain ⟨hbk5,ht5⟩:=bkP .done (some (.goto t)) hbk4
      exact ⟨_,_,run_endRound (some (.goto t)) hbk4.1,.inr ⟨rfl,⟨.goto t,hIx hq.2 ht5,hbk5⟩,(((hx2.st _).trans (ht3.mono fun i _ hi=>.inr hi)).trans (hq.1.mono fun i _ hi=>.inl hi)).trans (ht5.mono fun i _ hi=>.inr hi)⟩⟩
    | panic ch=>exact hq.elim
    | outgrown=>exact hq.elim
  | ret=>exact hp.elim
  | exit id=>exact hp.elim
  | goto t=>exact hp.elim
  | panic ch=>exact hp.elim
  | outgrown=>exact hp.elim
 ·rintro b (hb | rfl) hk
  ·exact (hC b hb).2 hk
  have:=hK _ hk;omega
 rintro e W2 ⟨⟨v,rfl⟩,(⟨xs,C,W0,hS,⟨C0,rfl,hi,-,-,-,hbk⟩,hx⟩ | ⟨pre,W0,hSp,⟨c,hi,hbk⟩,hx⟩)⟩
 ·have hbk2:=bkE hbk hx
  obtain ⟨hbk5,ht5⟩:=bkP .exhausted none hbk2
  exact ⟨none,_,run_endLoop hbk2.1 (by simp),hdone _ xs C0 _ rfl hS (hI hi ((hx.st _).trans ht5)) hbk5.2⟩
 have hbk2:=bkE hbk hx
 obtain ⟨hbk5,ht5⟩:=bkP .exhausted (some c) hbk2
 exact ⟨some c,_,run_endLoop hbk2.1 (by simp),hstop _ c pre _ rfl hSp (hIx hi ((hx.st _).trans ht5)) hbk5.2⟩
theorem Qck {F:Fence} {n:Nat} {P:Program} (w:World) {ops:Array Oper} {rest:List Oper} {o:Oper} {a:Act} {Q:Exit→Act→World→Prop} (hgd:o.guard=none) (s' x:Operand) (t:TypeId)
  (ho:o.op=.call { callee:=.builtin .append,args:=#[s',x],argTypes:=#[t,t] })
  (base:Nat) (e:TypeId) (i:TypeInfo) (z:Value) (size bytes:Nat) (ht:P.underlying t=some (.slice e)) (hi:P.info? e=some i) (hz:i.zero=some z)
  (hsize:i.size=size) (hby:i.bytes=bytes) (hzs:z.cells.size=size) (hsz:0<size)
  (s:Sl) (k:Nat) (xs:List Value) (hs:a.eval s'=.slice s.a k s.c) (hown:w.ownsRow base e size (.slice s.a k s.c) k xs)
  (G:Nat→Prop) (sx:Sl) (m:Nat) (news:List Value) (hx:a.eval x=.slice sx.a m sx.c) (hsrc:Rd w G size sx m news) (h1:∀ u∈news,u.oneCell'=true)
  (h63:k+m≤maxLen) (hbytes:(k+m)*bytes≤140737488355328) (hbase:base≤w.heap.size)
  (h:∀ (s':Sl) (w':World),w'.ownsRow base e size (.slice s'.a (k+m) s'.c) (k+m) (xs++news)→Wr w w' s.row→(s'.a=s.a∨s'.a=some ⟨w.heap.size,0,none⟩∧Wr w w' none)→wpListIn F n P ops Q rest (a.put o.dst (.slice s'.a (k+m) s'.c)) w'):wpListIn F n P ops Q (o :: rest) a w:=by
 refine wpListIn_plain hgd fun K hK'=>?_
 obtain ⟨v',w',hr,h2,h3,h4⟩:=QeA (P:=P) w base t o.type e i z size bytes ht hi hz hsize hby hzs hsz s k xs hown G sx m news hsrc h1 h63 hbytes hbase
 unfold Oper.wpIn
 refine ⟨?_,?_⟩
 ·simp [Oper.about,ho,resolve,Target.leads,Sem.run_pure]
 rw [Oper.semAt_plain F _ _ (by rw [ho];intro c hc';cases hc')]
 simp [execOp,ho,resolve,invoke,builtin,hs,hx,hr,Result.andThen]
 exact hK' _ _ (h v' w' h2 h3 h4)
theorem OE.agree' {w w':World} {base:Nat} {s:Sl} {xs:List LE} (h:OE w base s xs) (ha:Agree (In base w.heap.size) w w') (hs:w.heap.size≤w'.heap.size):OE w' base s xs:=
 ⟨Qad h.own ha fun b hb=>⟨(Qac h.own hb).1,(Qac h.own hb).2⟩,(h.vals.agree (ha.mono fun i hi=>hi.1)).mono fun i hi=>⟨⟨hi.1.1,Nat.lt_of_lt_of_le hi.1.2 hs⟩,hi.2⟩,h.few⟩
theorem St.QcQ {H:Nat→Prop} {a w:World} (h:St H a w) {b:Nat} (hb:a.heap.size≤b∨H b) (o:Nat) (d:Val) (sl so:Sl):St H a (QcQ w b o d sl so):=
 (((((h.set (p:=⟨b,_,none⟩) hb _).set (p:=⟨b,_,none⟩) hb _).set (p:=⟨b,_,none⟩) hb _).set (p:=⟨b,_,none⟩) hb _).set (p:=⟨b,_,none⟩) hb _).set (p:=⟨b,_,none⟩) hb _
theorem St.Qcm {H:Nat→Prop} {a w:World} (h:St H a w) {b:Nat} (hb:a.heap.size≤b∨H b) (o:Nat) (k:ByteArray) (d:Val) (sl so:Sl):St H a (Qcm w b o k d sl so):=
 (h.set (p:=⟨b,_,none⟩) hb _).QcQ hb _ _ _ _
structure Coll (w:World) (B:Nat) (es:List Ent) (C:Nat→Prop) (W:World):Prop where
 ex:∃ (s:Sl) (ys:List LE),(C=fun b=>b=B∨s.row=some b)∧Blk W B 50 #[.slice s.a ys.length s.c]∧OE W (w.heap.size+2) s ys∧ys.map LE.ent=es
 st:St (fun b=>b=B) w W
 sz:w.heap.size+2≤W.heap.size
theorem Coll.start {w W:World} {B:Nat} (hb:Blk w B 50 #[.slice none 0 0]) (hx:Ext w W) (hz:w.heap.size+2≤W.heap.size):Coll w B [] (fun b=>b=B) W:=
 ⟨⟨Sl.none,[],by funext b;simp [Sl.row],hb.ext hx,OE.nil _ _,rfl⟩,hx.st _,hz⟩
theorem Coll.turn {w W W':World} {B:Nat} {es:List Ent} {C:Nat→Prop} (h:Coll w B es C W) (hB:B<w.heap.size) (k:St (fun b=>b=w.heap.size+1) W W'):Coll w B es C W':=by
 obtain ⟨⟨s,ys,h1,h2,h3,h4⟩,h5,h6⟩:=h
 exact ⟨⟨s,ys,h1,k.blk h2 (by omega),h3.agree' (k.agree.mono fun i hi=>⟨hi.2,by have:=hi.1;omega⟩) k.size,h4⟩,h5.then k (fun i hi e=>by omega),Nat.le_trans h6 k.size⟩
theorem Qh3 {w:World} {base g e cap size n:Nat} {xs:List Value} (hf:Qal w g e size cap) (hbg:base≤g) (hn:n≤cap) (hcm:cap≤maxLen) (hl:xs.length=n*size) (hc:∀ j u,xs[j]? = some u→w.cell? ⟨g,j,none⟩=some u) :
  w.ownsRow base e size (.slice (some ⟨g,0,none⟩) n cap) n xs:=by
 obtain ⟨cur,h1,h2⟩:=hf
 refine ⟨hl,.inr ⟨g,cap,cur,rfl,hbg,h1,hn,hcm,h2,?_⟩⟩
 have hle:n*size≤cap*size:=Nat.mul_le_mul_right _ hn
 refine List.ext_getElem? fun j=>?_
 by_cases hj:j<xs.length
 ·obtain ⟨u,hu⟩:∃ u,xs[j]? = some u:=⟨_,List.getElem?_eq_getElem hj⟩
  have:=hc j u hu
  rw [cell_of_row w g j cur e (0,0) h1] at this
  rw [hu,List.getElem?_take,if_pos (by omega),Array.getElem?_toList,this]
 rw [List.getElem?_eq_none (l:=xs) (by omega),List.getElem?_eq_none (by rw [List.length_take,Array.length_toList];omega)]
theorem QjI {w:World} {base e g cap n:Nat} {A Z:List Value} (h:w.ownsRow base e 7 (.slice (some ⟨g,0,none⟩) (n+1) cap) (n+1) (A++Z)) (hA:A.length=n*7) (x:LE) :
  (Qcm w g (n*7) x.k x.v x.sl x.so).ownsRow base e 7 (.slice (some ⟨g,0,none⟩) (n+1) cap) (n+1) (A++x.cells):=by
 obtain ⟨g',cap',hs,hbg,hnc,hcm,hfil⟩:=Qat (s:=⟨some ⟨g,0,none⟩,cap⟩) h (Nat.succ_pos n)
 obtain ⟨rfl,rfl⟩:g=g'∧cap=cap':=by simpa using hs
 have hcl:=h.cells (g:=g) rfl
 obtain ⟨k0,kv⟩:=QdJ hfil (o:=n*7) x.k x.v x.sl x.so (by omega)
 obtain ⟨v1,v2,v3,v4,v5,v6⟩:=kv.m
 refine Qh3 (hfil.Qcm _ _ _ _ _ _) hbg hnc hcm (by rw [List.length_append,hA,LE.len];omega) fun j u hj=>?_
 by_cases hjl:j<n*7
 ·rw [List.getElem?_append_left (by omega)] at hj
  rw [Qa8 _ _ _ _ _ _ _ _ (.inl hjl)]
  have:=hcl j u (by rw [List.getElem?_append_left (by omega)];exact hj)
  rw [Qbb,Nat.zero_add] at this
  exact this
 rw [List.getElem?_append_right (by omega),hA] at hj
 obtain ⟨c,rfl⟩:∃ c,j=n*7+c:=⟨j - n*7,by omega⟩
 rw [Nat.add_sub_cancel_left] at hj
 match c,hj with
 | 0,hj=>cases hj;exact k0
 | 1,hj=>cases hj;exact v1
 | 2,hj=>cases hj;exact v2
 | 3,hj=>cases hj;exact v3
 | 4,hj=>cases hj;exact v4
 | 5,hj=>cases hj;exact v5
 | 6,hj=>cases hj;exact v6
 | c+7,hj=>rw [List.getElem?_eq_none (by rw [LE.len];omega)] at hj;cases hj
theorem Qjf {w W0 W3 W4 w5 W':World} {B:Nat} {s s3:Sl} {ys:List LE} {es:List Ent} {x:LE} (hB:B<w.heap.size) (ho:OE W0 (w.heap.size+2) s ys) (hes:ys.map LE.ent=es) (hst:St (fun b=>b=B) w W0) (hsz:w.heap.size+2≤W0.heap.size)
  (h03:St (fun b=>b=w.heap.size+1) W0 W3) (hv:RV W3 (In W0.heap.size W3.heap.size) x.v x.sl x.so) (hk:x.k.size≤maxLen) (h34:Ext W3 W4)
  (hwr:Wr W4 w5 s.row) (hs3:s3.a=s.a∨s3.a=some ⟨W4.heap.size,0,none⟩∧Wr W4 w5 none) (h5:St (fun b=>b=B∨s3.row=some b) w5 W') (hfew:(ys.length+1)*104≤140737488355328)
  (hblk:Blk W' B 50 #[.slice s3.a (ys.length+1) s3.c]) (hown:W'.ownsRow (w.heap.size+2) 47 7 (.slice s3.a (ys.length+1) s3.c) (ys.length+1) (Qaf ys++LE.cells x)) :
  Coll w B (es++[x.ent]) (fun b=>b=B∨s3.row=some b) W'∧St (fun b=>b=B∨s.row=some b) W3 W'∧
   (∀ b,(b=B∨s3.row=some b)→(b=B∨s.row=some b)∨W3.heap.size≤b)∧(∀ b,(b=B∨s3.row=some b)→b<W'.heap.size):=by
 have hrow0:∀ b,s.row=some b→w.heap.size+2≤b∧b<W0.heap.size:=fun b hb=>Qac ho.own hb
 have hs03:=h03.size
 have hs34:=h34.size
 have hs45:=hwr.grown.size
 have hs56:=h5.size
 have hs2:∀ b,s3.row=some b→s.row=some b∨W4.heap.size≤b:=by
  intro b hb
  rcases hs3 with h | ⟨h,-⟩
  ·exact .inl (by rw [←hb];simp [Sl.row,h])
  right;rw [Sl.row,h] at hb;simp at hb;omega
 have hst46:St (fun b=>b=B∨s.row=some b) W4 W':=((hwr.st (H:=fun b=>b=B∨s.row=some b) fun i hi=>.inr hi)).then h5 fun i hi h=>by
  rcases h with h | h
  ·exact .inl h
  rcases hs2 i h with h | h
  ·exact .inr h
  omega
 have hst36:St (fun b=>b=B∨s.row=some b) W3 W':=(h34.st _).trans hst46
 have hst06:St (fun b=>b=w.heap.size+1∨b=B∨s.row=some b) W0 W':=(h03.mono fun i _ hi=>.inl hi).trans (hst36.mono fun i _ hi=>.inr hi)
 have hl3:∀ b,s3.row=some b→b<W'.heap.size:=fun b hb=>(Qac hown hb).2
 have hx:(ys++[x]).length=ys.length+1:=by simp
 refine ⟨⟨⟨s3,ys++[x],rfl,?_,⟨?_,?_,?_⟩,by rw [List.map_append,hes];rfl⟩,?_,by omega⟩,hst36,?_,?_⟩
 ·rw [hx];exact hblk
 ·rw [hx,Qaq,show Qaf [x]=LE.cells x from by simp [Qaf]];exact hown
 ·intro y hy
  rcases List.mem_append.1 hy with hy | hy
  ·refine ⟨((ho.vals y hy).1.agree (hst06.agree.mono fun i hi=>⟨hi.1.2,fun h=>?_⟩)).mono fun i hi=>⟨⟨hi.1.1,by have:=hi.1.2;omega⟩,fun e=>?_⟩,(ho.vals y hy).2⟩
   ·rcases h with h | h | h
    ·have:=hi.1.1;omega
    ·have:=hi.1.1;omega
    exact hi.2 h
   rcases hs2 i e with h | h
   ·exact hi.2 h
   have:=hi.1.2;omega
  rw [List.mem_singleton.1 hy]
  refine ⟨(hv.agree (hst36.agree.mono fun i hi=>⟨hi.2,fun h=>?_⟩)).mono fun i hi=>⟨⟨by have:=hi.1;omega,by have:=hi.2;omega⟩,fun e=>?_⟩,hk⟩
  ·have:=hi.1
   rcases h with h | h
   ·have:=hst.size;omega
   have:=(hrow0 i h).2;omega
  have:=hi.1
  rcases hs2 i e with h | h
  ·have:=(hrow0 i h).2;omega
  have:=hi.2;omega
 ·rw [hx];exact hfew
 ·exact hst.then hst06 fun i hi h=>by
   rcases h with h | h | h
   ·omega
   ·exact h
   have:=(hrow0 i h).1;omega
 ·rintro b (rfl | hb)
  ·exact .inl (.inl rfl)
  rcases hs2 b hb with h | h
  ·exact .inl (.inr h)
  exact .inr (by omega)
 rintro b (rfl | hb)
 ·have:=hst.size;omega
 exact hl3 b hb
def Qcv:Op→Bool
 | .call c=>match c.callee with
   | .builtin .append | .builtin .len | .builtin .cap | .builtin .copy | .builtin .max | .builtin .min=>true
   | _=>false
 | .go _ | .defer _ | .send _ _ | .recv _ _ _ | .select _ _ | .panic _ | .nilCheck _=>false
 | _=>true
theorem QpA {P:Program} {w w':World} (s:Sem Value) (row:String) (args:Array Value):(do pure (Next.value (←s)):Sem Next).run P w≠.ok (.row row args) w':=by
 intro h
 rw [Sem.run_bind] at h
 cases hs:s.run P w with
 | ok v w1=>rw [hs] at h;simp [Result.andThen] at h
 | halt x w1=>rw [hs] at h;simp [Result.andThen] at h
theorem Qpz {P:Program} {w w':World} (s:Sem Unit) (row:String) (args:Array Value):(do s;pure Next.skip:Sem Next).run P w≠.ok (.row row args) w':=by
 intro h
 rw [Sem.run_bind] at h
 cases hs:s.run P w with
 | ok v w1=>rw [hs] at h;simp [Result.andThen] at h
 | halt x w1=>rw [hs] at h;simp [Result.andThen] at h
theorem Qpr {w':World} (r:Result Value) (row:String) (args:Array Value):(r.andThen fun a w=>Result.ok (Next.value a) w)≠.ok (.row row args) w':=by cases r <;> simp [Result.andThen]
theorem Ql5 {P:Program} {ρ:Operand→Value} {o:Oper} {w w':World} (h:Qcv o.op=true) (row:String) (args:Array Value):(execOp ρ o).run P w≠.ok (.row row args) w':=by
 unfold execOp
 cases ho:o.op with
 | call c=>
   rw [ho] at h
   cases hc:c.callee with
   | builtin b=>
     simp only [Qcv,hc] at h
     cases b <;> first | exact absurd h (by decide) | (simp only [resolve,hc,Sem.run_bind,Sem.run_pure,Result.andThen_ok,invoke,builtin];exact Qpr _ _ _)
   | _=>simp [Qcv,hc] at h
 | pick c x y=>
   intro h'
   simp only at h'
   rw [Sem.run_bind] at h'
   cases hs:(asBool (ρ c)).run P w with
   | ok v w1=>rw [hs] at h';simp [Result.andThen] at h'
   | halt x w1=>rw [hs] at h';simp [Result.andThen] at h'
 | _=>
   simp only
   first
   | exact QpA _ _ _
   | exact Qpz _ _ _
   | (intro h;simp at h;done)
   | (rw [ho] at h;simp [Qcv] at h)
theorem Qf3 {o:Oper} (h:Qcv o.op=true):∀ c,o.op≠.defer c:=fun c e=>by rw [e] at h;simp [Qcv] at h
theorem QfT {P:Program} {ops:Array Oper} {Q:Exit→Act→World→Prop} {l n:Nat} (hp:∀ (i:Nat) (o:Oper),ops[i]? = some o→Qcv o.op=true) (hQ:¬LetsOut Q) {i:Nat} {K K':Act→World→Prop} {a:Act} {w:World}
  (hK:∀ a w,K a w→K' a w) (h:wpOp P ops Q i K a w):wpOpIn (Fence.wide.inRound l) n P ops Q i K' a w:=by
 unfold wpOp at h
 unfold wpOpIn
 cases ho:ops[i]? with
 | none=>simp only [ho] at h ⊢;exact hK _ _ h
 | some o=>
   simp only [ho] at h ⊢
   split at h
   ·rename_i hw
    rw [if_pos hw]
    rcases h with h | ⟨-,h⟩
    ·unfold Oper.wpIn
     refine ⟨fun _ _=>trivial,?_⟩
     rw [show (Fence.wide.inRound l).round=some l from rfl,Oper.semAt_some l _ o (Qf3 (hp i o ho))]
     unfold Oper.wp at h
     have hr:=fun row args w'=>Ql5 (P:=P) (ρ:=a.eval) (w:=w) (w':=w') (hp i o ho) row args
     generalize (execOp a.eval o).run P w=r at *
     cases r with
     | ok x w'=>
       cases x <;> simp only [Oper.upon,Oper.uponIn] at h ⊢
       case value v=>exact hK _ _ h
       case skip=>exact hK _ _ h
       case defer d=>exact hK _ _ h
       case enter f args=>
        refine ⟨(fun hd=>by simp [Fence.wide] at hd),(CallsIn.inRound l (callsIn_wide.2 h)).mono fun e w'' he=>?_⟩
        cases e with
        | returned v=>exact hK _ _ he
        | panicked c=>exact he
        | outgrown=>exact he
       case row row args=>exact absurd rfl (hr row args w')
     | halt x w'=>cases x <;> simp only [Oper.upon,Oper.uponIn] at h ⊢ <;> exact h
    exact absurd h hQ
   rename_i hw
   rw [if_neg hw]
   exact ⟨fun _ _=>trivial,hK _ _ h⟩
theorem QeT {P:Program} {md:Region.Mode} {ops:Array Oper} {Q:Exit→Act→World→Prop} {S:World→Prop} {l n:Nat} (hp:∀ (i:Nat) (o:Oper),ops[i]? = some o→Qcv o.op=true) (hQ:¬LetsOut Q) :
  ∀ fuel listed a w,wpAnyH P md ops Q S fuel listed a w→wpAnyIn (Fence.wide.inRound l) n P md ops Q fuel listed a w:=by
 intro fuel
 induction fuel with
 | zero=>exact fun _ _ _ h=>h
 | succ fuel ih=>
   intro listed a w h
   exact ⟨h.1,fun i hi=>QfT hp hQ (fun a' w' h'=>ih _ a' w' h'.2) (h.2 i hi)⟩
theorem Qeh {P:Program} {id l n:Nat} {ops:Array Oper} {Q:Exit→Act→World→Prop} {S:World→Prop} {a:Act} {w:World} (hp:(ops.all fun o=>Qcv o.op)=true) (hQ:¬LetsOut Q) (hm:P.follows .mixedOrders=true) (hS:S w.drew)
  (h:S w.drew→wpAnyH P .any ops Q S ops.size (Array.replicate ops.size false) a w.drew):(Code.region id ops true).wpIn (Fence.wide.inRound l) n P Q a w:=
 wpIn_region_any hm (QeT (fun i o ho=>by
  have:=Array.all_eq_true.1 hp i (Array.getElem?_eq_some_iff.1 ho).1
  rwa [(Array.getElem?_eq_some_iff.1 ho).2] at this) hQ _ _ _ _ (h hS))
end Go.Proofs.YtohajcflklejjaaGreat
namespace Go.Proofs.YtohajcflklejjaaGreat
set_option linter.unusedVariables false
def inI (lo hi:ByteArray) (op:Bool) (e:Ent):Bool:=!(klt e.1 lo) && (op || klt e.1 hi)
def QaB (lo hi:ByteArray) (op:Bool) (es:List Ent):List Ent:=es.filter (inI lo hi op)
theorem QaF (lo hi:ByteArray) (op:Bool) (a b:List Ent):QaB lo hi op (a++b)=QaB lo hi op a++QaB lo hi op b:=List.filter_append ..
theorem Qew {lo hi:ByteArray} {op:Bool} {es:List Ent} (h:∀ e∈es,klt e.1 lo=true):QaB lo hi op es=[]:=
 List.filter_eq_nil_iff.2 fun e he=>by simp [inI,h e he]
def QhC (hi:ByteArray) (op:Bool) (k:ByteArray):Bool:=!op && !(klt k hi)
theorem QcS {lo hi:ByteArray} {op:Bool} {es:List Ent} (h:∀ e∈es,QhC hi op e.1=true):QaB lo hi op es=[]:=
 List.filter_eq_nil_iff.2 fun e he=>by
  have:=h e he
  simp only [QhC,Bool.and_eq_true,Bool.not_eq_true'] at this
  simp [inI,this.1,this.2]
theorem Qlp {hi:ByteArray} {op:Bool} {a b:ByteArray} (h:QhC hi op a=true) (hab:klt a b=true):QhC hi op b=true:=by
 simp only [QhC,Bool.and_eq_true,Bool.not_eq_true'] at h ⊢
 refine ⟨h.1,?_⟩
 cases hb:klt b hi
 ·rfl
 rw [QaG hab hb] at h;cases h.2
theorem Qgv {lo hi:ByteArray} {op:Bool} {e:Ent} (h1:klt e.1 lo=false) (h2:QhC hi op e.1=false):QaB lo hi op [e]=[e]:=by
 have:inI lo hi op e=true:=by
  simp only [QhC,Bool.and_eq_false_iff,Bool.not_eq_false'] at h2
  rcases h2 with h2 | h2 <;> simp [inI,h1,h2]
 simp [QaB,this]
theorem QdK {lo hi:ByteArray} {op:Bool} {A B:List Ent} (hs:Sorted (A++B)) (h:∃ e∈A,QhC hi op e.1=true):QaB lo hi op B=[]:=by
 obtain ⟨e,he,h⟩:=h
 exact QcS fun x hx=>Qlp h ((QbL hs).2.2 e he x hx)
theorem le_last {es:List Ent} (hs:Sorted es) {e:Ent} (he:e∈es):klt (Qa5 es) e.1=false:=by
 have hne:es≠[]:=by rintro rfl;cases he
 rcases List.eq_nil_or_concat es with rfl | ⟨a,x,rfl⟩
 ·exact absurd rfl hne
 rw [List.concat_eq_append] at hs he
 have hl:Qa5 (a.concat x)=x.1:=by simp [Qa5]
 rw [hl]
 rcases List.mem_append.1 he with h | h
 ·exact Qbk ((QbL hs).2.2 e h x (List.mem_singleton.2 rfl))
 rw [List.mem_singleton.1 h];exact Qap _
theorem QmS {es:List Ent} (hs:Sorted es) {e:Ent} (he:e∈es):klt e.1 (Qan es)=false:=by
 cases es with
 | nil=>cases he
 | cons x es=>
   show klt e.1 x.1=false
   rcases List.mem_cons.1 he with rfl | h
   ·exact Qap _
   exact Qbk ((List.pairwise_cons.1 hs).1 e h)
theorem Qkl {es:List Ent} (hs:Sorted es) {lo:ByteArray} (h:klt (Qa5 es) lo=true):∀ e∈es,klt e.1 lo=true:=fun e he=>QcN (le_last hs he) h
theorem Qer {es:List Ent} (hs:Sorted es) {hi:ByteArray} {op:Bool} (h:QhC hi op (Qan es)=true):∀ e∈es,QhC hi op e.1=true:=fun e he=>by
 simp only [QhC,Bool.and_eq_true,Bool.not_eq_true'] at h ⊢
 refine ⟨h.1,?_⟩
 cases hb:klt e.1 hi
 ·rfl
 have:=QcN (QmS hs he) hb
 rw [h.2] at this;cases this
def QfY:List UInt8→Option (List UInt8)
 | []=>none
 | b :: t=>match QfY t with
   | some e=>some (b :: e)
   | none=>if b=255 then none else some [b+1]
theorem QnD (k:List UInt8):Op.bytesLess k []=false:=by cases k <;> rfl
theorem QgG {b c:UInt8} (hb:b≠255):(c<b+1)↔(c<b∨c=b):=by
 have h1:(b+1).toNat=b.toNat+1:=by
  rw [UInt8.toNat_add]
  have:b.toNat≠255:=fun e=>hb (UInt8.toNat_inj.1 e)
  have:=b.toNat_lt
  show (b.toNat+1) % 256=_
  omega
 rw [UInt8.lt_iff_toNat_lt,UInt8.lt_iff_toNat_lt,h1,←UInt8.toNat_inj]
 omega
theorem Qga:∀ p k:List UInt8,(p.isPrefixOf k)=(!(Op.bytesLess k p) && (match QfY p with | none=>true | some e=>Op.bytesLess k e))
 | [],k=>by simp [QnD,QfY,List.isPrefixOf]
 | b :: t,[]=>by simp [Op.bytesLess,List.isPrefixOf]
 | b :: t,c :: s=>by
   have ih:=Qga t s
   simp only [List.isPrefixOf,Op.bytesLess,QfY]
   by_cases hlt:c<b
   ·have hne:(b == c)=false:=beq_eq_false_iff_ne.2 (by rintro rfl;exact absurd hlt (UInt8.lt_irrefl _))
    simp [hlt,hne]
   by_cases he:c=b
   ·subst he
    cases hE:QfY t with
    | some e=>
      rw [hE] at ih
      simp [Op.bytesLess,ih,UInt8.lt_irrefl]
    | none=>
      rw [hE] at ih
      by_cases h255:c=255
      ·subst h255;simp [ih,UInt8.lt_irrefl]
      have h1:c<c+1:=(QgG h255).2 (.inr rfl)
      simp [Op.bytesLess,ih,UInt8.lt_irrefl,h255,h1]
   have hne:(b == c)=false:=beq_eq_false_iff_ne.2 fun e=>he e.symm
   have hne':(c == b)=false:=beq_eq_false_iff_ne.2 he
   simp only [hne,Bool.false_and,hlt,decide_false,hne',Bool.or_self,Bool.not_false,Bool.true_and]
   cases hE:QfY t with
   | some e=>simp [Op.bytesLess,hlt,hne']
   | none=>
     by_cases h255:b=255
     ·exfalso
      subst h255
      have h1:=UInt8.not_lt.1 hlt
      have h2:c≤255:=UInt8.le_iff_toNat_le.2 (by have:=c.toNat_lt;show c.toNat≤255;omega)
      exact he (UInt8.le_antisymm h2 h1)
     have h1:¬c<b+1:=fun h=>by
      rcases (QgG h255).1 h with h | h
      ·exact hlt h
      exact he h
     simp [h255,Op.bytesLess,h1,QnD]
theorem QiD:∀ n:Nat,QfY (List.replicate n 255)=none
 | 0=>rfl
 | n+1=>by rw [List.replicate_succ,QfY,QiD n];rfl
theorem Qlq {b:UInt8} (hb:b≠255) (n:Nat):∀ a:List UInt8,QfY (a++b :: List.replicate n 255)=some (a++[b+1])
 | []=>by rw [List.nil_append,QfY,QiD];simp [hb]
 | x :: a=>by rw [List.cons_append,QfY,Qlq hb n a];rfl
end Go.Proofs.YtohajcflklejjaaGreat
namespace Go.Proofs.YtohajcflklejjaaGreat
open Go.RowKit
set_option linter.unusedVariables false
set_option linter.unusedSimpArgs false
abbrev inV (lo hi:ByteArray) (op:Bool):Value:=.agg #[.string lo,.string hi,.bool op]
theorem QgY (w:World) (lo hi:ByteArray) (op:Bool) (k:ByteArray):Calls Tryz.prog 103 #[inV lo hi op,.string k] w fun e w'=>e=.returned (.bool (QhC hi op k))∧Ext w w':=by
 cases op
 ·go_enter Tryz.func103,Tryz.ntmps103
  go_wp2_with fail
  go_ret
  exact ⟨rfl,(Ext.refl w).alloc _ _⟩
 go_enter Tryz.func103,Tryz.ntmps103
 go_wp2_with fail
 go_ret
 exact ⟨rfl,(Ext.refl w).alloc _ _⟩
structure QkX (At:World→Prop) (nv:Value) (es:List Ent):Prop where
 ext:∀ {W W'},At W→Ext W W'→At W'
 ptr:∃ p,nv=.pointer p
 height:∀ W,At W→Calls Tryz.prog 75 #[nv] W fun e w'=>e=.returned (.int .i64 0)∧W=w'
 size:∀ W,At W→Calls Tryz.prog 78 #[nv] W fun e w'=>e=.returned (.int .i64 es.length)∧∃ q,w'=W.drewN q
 kids:∀ W,At W→Calls Tryz.prog 76 #[nv] W fun e w'=>e=.returned (.slice none 0 0)∧W=w'
 entry:∀ W,At W→∀ (i:Nat) (e:Ent),es[i]? = some e→Calls Tryz.prog 80 #[nv,.int .i64 i] W (QcI e.1 e.2 W)
 none:∀ W,At W→∀ i:Int,(i<0∨es.length≤i)→Calls Tryz.prog 80 #[nv,.int .i64 i] W fun e w'=>e=.returned (.tuple #[Qem ByteArray.empty zeroV Sl.none Sl.none,.bool false])∧Ext W w'
 sorted:Sorted es
 few:es.length≤8
def QcF (F:Nat→Prop) (h:Nat) (t:PT h) (W:World):Prop:=IsN W F h t∧∀ b,F b→b<W.heap.size
theorem QcF.ext {F:Nat→Prop} {h:Nat} {t:PT h} {W W':World} (a:QcF F h t W) (k:Ext W W'):QcF F h t W':=⟨a.1.agree (k.agree a.2),fun b hb=>Nat.lt_of_lt_of_le (a.2 b hb) k.size⟩
theorem QcF.lt {F:Nat→Prop} {h:Nat} {t:PT h} {W:World} (a:QcF F h t W):IsN W (Lt W.heap.size) h t:=a.1.mono a.2
theorem Qki {F:Nat→Prop} {t:PT 0} (ok:OkT 0 t) (hs:Sorted (ents 0 t)):QkX (QcF F 0 t) (ptr 0 t) (ents 0 t) where
 ext:=QcF.ext
 ptr:=⟨_,rfl⟩
 height W a:=Qas a.1
 size W a:=Qe6 a.1 (Nat.le_trans (show (ents 0 t).length≤8 from ok) (by decide))
 kids W a:=QlM a.1
 entry W a i e h:=QhD a.lt h
 none W a i h:=Qgh a.lt h
 sorted:=hs
 few:=ok
theorem QlR:QkX (fun _=>True) (.pointer none) [] where
 ext _ _:=trivial
 ptr:=⟨_,rfl⟩
 height W _:=Qc2 W
 size W _:=(QjN W).mono fun e w' ⟨h1,h2⟩=>⟨h1,0,h2.symm⟩
 kids W _:=Qm5 W
 entry W _ i e h:=by simp at h
 none W _ i _:=QhE W i
 sorted:=List.Pairwise.nil
 few:=by simp
/-- The closure of below. -/
theorem Qj1 {W:World} {nv:Value} {b1 b2:Nat} {k k':ByteArray} {v:Val} {i:Nat} (h1:W.cell? ⟨b1,0,none⟩=some nv) (h2:W.cell? ⟨b2,0,none⟩=some (.string k))
  (hp:∃ p,nv=.pointer p) (hc:Calls Tryz.prog 80 #[nv,.int .i64 i] W (QcI k' v W)) :
  Calls Tryz.prog 151 #[.int .i64 i,.pointer (some ⟨b1,0,none⟩),.pointer (some ⟨b2,0,none⟩)] W fun e w'=>e=.returned (.bool !(klt k' k))∧Ext W w':=by
 obtain ⟨p,rfl⟩:=hp
 have hb2:=World.block_lt_of_cell? W _ h2
 go_enter Tryz.func151,Tryz.ntmps151
 go_wp2_with fail
 refine hc.mono ?_
 rintro e w1 ⟨sl,so,rfl,hx,-⟩
 have q2:=(hx.cell hb2).trans h2
 have l2:b2<w1.heap.size:=Nat.lt_of_lt_of_le hb2 hx.size
 have HX:=Lib.hid hx
 clear hc hx h2
 go_wp2
 go_ret
 exact ⟨rfl,HX.out.alloc _ _⟩
theorem Qk9 {At:World→Prop} {nv:Value} {es:List Ent} (hc:QkX At nv es) {w:World} (hw:At w) (k:ByteArray):Calls Tryz.prog 130 #[nv,.string k] w fun e w'=>e=.returned (.int .i64 (Qby es k))∧Ext w w':=by
 obtain ⟨pp,rfl⟩:=hc.ptr
 have hl:=hc.few
 have hsr:∀ W,Ext w W→W.cell? ⟨w.heap.size,0,none⟩=some (.pointer pp)→W.cell? ⟨w.heap.size+1,0,none⟩=some (.string k)→Calls Tryz.prog 70 #[.int .i64 es.length,.func (.func 151) #[] #[.pointer (some ⟨w.heap.size,0,none⟩),.pointer (some ⟨w.heap.size+1,0,none⟩)]] W (QbJ es.length (fun i=>!(klt ((es[i]?.map Prod.fst).getD ByteArray.empty) k)) W):=by
  intro W hW c1 c2
  refine Qch 151 _ _ es.length _ W (enters_of Tryz.func151 (by kernel_rfl) rfl) (by omega) ?_ ?_
  ·intro i W' hi hW'
   obtain ⟨x,hx⟩:∃ x,es[i]? = some x:=⟨_,List.getElem?_eq_getElem hi⟩
   rw [hx]
   exact Qj1 ((hW'.cell (World.block_lt_of_cell? W _ c1)).trans c1) ((hW'.cell (World.block_lt_of_cell? W _ c2)).trans c2) ⟨_,rfl⟩ (hc.entry W' (hc.ext (hc.ext hw hW) hW') i x hx)
  intro i j hij hj hpi
  by_cases hij':i=j
  ·subst hij';exact hpi
  obtain ⟨x,hx⟩:∃ x,es[i]? = some x:=⟨_,List.getElem?_eq_getElem (by omega)⟩
  obtain ⟨y,hy⟩:∃ y,es[j]? = some y:=⟨_,List.getElem?_eq_getElem hj⟩
  have hxy:=QcV hc.sorted (i:=i) (j:=j) (by omega) hx hy
  rw [hx] at hpi;rw [hy]
  simp only [Option.map_some,Option.getD_some,Bool.not_eq_true'] at hpi ⊢
  cases hyk:klt y.1 k
  ·rfl
  have:=QaG hxy hyk
  rw [hpi] at this;cases this
 have HC:=Lib.hid hc
 have HSR:=Lib.hid hsr
 have HW:=Lib.hid hw
 clear hc hsr hw
 go_enter Tryz.func130,Tryz.ntmps130
 go_wp2_with fail
 generalize hW0:World.alloc _ _=W0
 obtain ⟨hx0,hz0,hb0,hb1⟩:=Qaz w _ _ _ _ W0 hW0
 have q0:W0.cell? ⟨w.heap.size,0,none⟩=some (.pointer pp):=hb0.cell 0
 have HX0:=Lib.hid hx0
 have HB0:=Lib.hid hb0
 have HB1:=Lib.hid hb1
 clear hW0 hb0 hb1 hx0 hz0
 refine (HC.out.size W0 (HC.out.ext HW.out HX0.out)).mono ?_
 rintro e w1 ⟨rfl,q,rfl⟩
 clear q0
 go_wp2_with fail
 refine (HSR.out _ (HX0.out.drewN q) (HB0.out.cell 0) (HB1.out.cell 0)).mono ?_
 rintro e w1 ⟨p,rfl,hp,hlo,hhi,he1⟩
 have hpos:Qby es k=p:=QfF hp (fun i e hi he=>by
   have:(!(klt ((es[i]?.map Prod.fst).getD ByteArray.empty) k))=false:=hlo i hi
   rw [he] at this
   simpa using this) (fun e he=>by
   have:(!(klt ((es[p]?.map Prod.fst).getD ByteArray.empty) k))=true:=hhi p (Nat.le_refl _) (List.getElem?_eq_some_iff.1 he).1
   rw [he] at this
   simpa using this)
 have HE:=Lib.hid ((HX0.out.drewN q).trans he1)
 have HP:=Lib.hid hpos
 clear hlo hhi hpos he1
 go_wp2_with fail
 go_ret
 exact ⟨by rw [HP.out];rfl,HE.out⟩
theorem QoJ {h:Nat} {t:PT (h+1)} (ok:OkT (h+1) t) {kid:PT h} (hk:kid∈t.2):ents h kid≠[]:=by
 have h1:=ok.2.2 kid hk
 have:=Qa4 h kid h1.1 (by omega)
 intro e;rw [e] at this;simp at this
abbrev Qoq:Array Value:=#[.string ByteArray.empty,.int .i64 0,.bool false,.int .i64 0,.string ByteArray.empty,.slice none 0 0,.slice none 0 0]
def Qf9 (F:Nat→Prop) (T:RT) (W:World):Prop:=IsT W F T∧∀ b,F b→b<W.heap.size
theorem Qf9.ext {F:Nat→Prop} {T:RT} {W W':World} (a:Qf9 F T W) (k:Ext W W'):Qf9 F T W':=⟨a.1.agree (k.agree a.2),fun b hb=>Nat.lt_of_lt_of_le (a.2 b hb) k.size⟩
end Go.Proofs.YtohajcflklejjaaGreat
