/- What the theorem needs of the texts OvBack, OvBackW, OvX, Int1, HeldL, MuW, Int2, MutN, MutB, MuX: no condition of its own. -/
import Derived.Laws.IdiomStrings
import Derived.WalkArith
import Derived.OrdersIn
import Derived.Deep.MidRow
import Derived.Test.YtkhdiakpdafcdaaGreatDoorPna
import Derived.Test.YtkhdiakpdafcdaaGreatDoorPnc
import Derived.Test.YtkhdiakpdafcdaaGreatDoorPnd
import Derived.Test.YtkhdiakpdafcdaaGreatDoorPne
import Derived.Test.YtkhdiakpdafcdaaGreatDoorPnf
import Derived.Test.YtkhdiakpdafcdaaGreatDoorPng
import Derived.Test.YtkhdiakpdafcdaaGreatDoorPnh
import Derived.Test.YtkhdiakpdafcdaaGreatDoorPni
import Derived.Test.YtkhdiakpdafcdaaGreatDoorPnj
import Derived.Test.YtkhdiakpdafcdaaGreatDoorPnk
set_option maxRecDepth 100000
set_option maxHeartbeats 2000000
namespace Go.Proofs.YtkhdiakpdafcdaaGreatDoor
open Go.RowKit Go.Maps
set_option linter.unusedVariables false
set_option linter.unusedSimpArgs false
theorem undo1_any {w:World} {O b:Nat} {C:AL SV} {r sl:Value} {u:UD} {bw bd bo bk:Nat} {o:SV} (hblk:Blk w O 83 #[r,.map (some b),sl]) (hmap:OvMap w (some b) C) (hs:SortedA C) (hC:C.length<maxLen) (hk:u.k.size≤maxLen)
  (hbw:Blk w bw 4 #[.bool u.old.isSome]) (hbd:Blk w bd 89 o.cells) (ho:∀ x,u.old=some x→x=o) (hbo:Blk w bo 36 #[.pointer (some ⟨O,0,none⟩)]) (hbk:Blk w bk 9 #[.string u.k]) :
  Calls Tryz.prog 72 #[.pointer (some ⟨bw,0,none⟩),.pointer (some ⟨bd,0,none⟩),.pointer (some ⟨bo,0,none⟩),.pointer (some ⟨bk,0,none⟩)] w fun e w'=>(∃ r,e=.returned r)∧OvMap w' (some b) (undo1 u C)∧Sb (fun c=>c=b) w w':=by
 obtain ⟨k,old⟩:=u
 have cw:w.cell? ⟨bw,0,none⟩=some (.bool old.isSome):=hbw.cell 0
 have nO:=OvMap.ne hmap hblk
 have no:=OvMap.ne hmap hbo
 have nk:=OvMap.ne hmap hbk
 have nd:=OvMap.ne hmap hbd
 have HMAP:=Lib.hid hmap
 cases old with
 | none=>
   have HSS:=Lib.hid (show ∀ W,Sb (fun c=>c=b) w W→W.cell? ⟨bo,0,none⟩=some (.pointer (some ⟨O,0,none⟩))∧W.cell? ⟨O,1,none⟩=some (.map (some b))∧W.cell? ⟨bk,0,none⟩=some (.string k) from
    fun W hW=>⟨(hW.blk hbo no).cell 0,(hW.blk hblk nO).cell 1,(hW.blk hbk nk).cell 0⟩)
   clear hblk hbw hbd hbo hbk hmap ho nO no nk nd
   go_enter Tryz.func72,Tryz.ntmps72
   go_wp2_with fail
   refine wp_region_held_drew (S:=(fun w'=>Sb (fun c=>c=b) w w')) (by kernel_rfl) (((Sb.refl _ w).drew)) (fun hHeld=>?_)
   refine heldT 0 (some 11) HSS hHeld ?_
   refine heldT 1 (some 12) HSS hHeld ?_
   refine heldT 2 (some 13) HSS hHeld ?_
   refine heldT 3 (some 14) HSS hHeld ?_
   refine heldT 4 (some 15) HSS hHeld ?_
   refine held_call (i:=5) (by kernel_rfl) rfl (by rfl) (fun K hK=>?_)
   skip
   (refine oper_delA (b:=b) (C:=C) (k:=k) rfl rfl rfl (HMAP.out.heap fun _ _=>rfl) hk ?_;intro w7 hown7 hsb7)
   refine hK.out _ _ (hHeld.trans hsb7) (fun hHeld=>?_)
   clear hK K
   try simp only [Act.put,List.setIfInBounds_toArray,List.set_cons_zero,List.set_cons_succ]
   refine wpAnyH_done (by kernel_rfl) ?_ _
   go_end0
   exact ⟨⟨_,rfl⟩,hown7,hHeld⟩
 | some x=>
   obtain rfl:=ho x rfl
   obtain ⟨has,v,sl',so⟩:=x
   have HSS:=Lib.hid (show ∀ W,Sb (fun c=>c=b) w W→W.cell? ⟨bo,0,none⟩=some (.pointer (some ⟨O,0,none⟩))∧W.cell? ⟨O,1,none⟩=some (.map (some b))∧W.cell? ⟨bk,0,none⟩=some (.string k)∧W.cell? ⟨bd,0,none⟩=some (.bool has)∧W.cell? ⟨bd,1,none⟩=some (.int .i64 v.kind)∧W.cell? ⟨bd,2,none⟩=some (.bool v.b)∧W.cell? ⟨bd,3,none⟩=some (.int .i64 v.i)∧W.cell? ⟨bd,4,none⟩=some (.string v.t)∧W.cell? ⟨bd,5,none⟩=some (.slice sl'.a v.l.length sl'.c)∧W.cell? ⟨bd,6,none⟩=some (.slice so.a v.ok.length so.c) from
    fun W hW=>⟨(hW.blk hbo no).cell 0,(hW.blk hblk nO).cell 1,(hW.blk hbk nk).cell 0,(hW.blk hbd nd).cell 0,(hW.blk hbd nd).cell 1,(hW.blk hbd nd).cell 2,(hW.blk hbd nd).cell 3,(hW.blk hbd nd).cell 4,(hW.blk hbd nd).cell 5,(hW.blk hbd nd).cell 6⟩)
   clear hblk hbw hbd hbo hbk hmap ho nO no nk nd
   go_enter Tryz.func72,Tryz.ntmps72
   go_wp2_with fail
   refine wp_region_held_drew (S:=(fun w'=>Sb (fun c=>c=b) w w')) (by kernel_rfl) (((Sb.refl _ w).drew)) (fun hHeld=>?_)
   refine heldT 0 (some 5) HSS hHeld ?_
   refine heldT 1 (some 6) HSS hHeld ?_
   refine heldT 2 (some 7) HSS hHeld ?_
   refine heldT 3 (some 8) HSS hHeld ?_
   refine heldT 4 (some 9) HSS hHeld ?_
   refine heldT 5 (some 10) HSS hHeld ?_
   refine held_call (i:=6) (by kernel_rfl) rfl (by rfl) (fun K hK=>?_)
   skip
   (refine oper_putA (b:=b) (C:=C) (k:=k) (s:=⟨has,v,sl',so⟩) rfl rfl rfl rfl (HMAP.out.heap fun _ _=>rfl) hk hC hs ?_;intro w7 hown7 hsb7)
   refine hK.out _ _ (hHeld.trans hsb7) (fun hHeld=>?_)
   clear hK K
   try simp only [Act.put,List.setIfInBounds_toArray,List.set_cons_zero,List.set_cons_succ]
   refine wpAnyH_done (by kernel_rfl) ?_ _
   go_end0
   exact ⟨⟨_,rfl⟩,hown7,hHeld⟩
theorem own_cut {w:World} {base e n c:Nat} {a:Option Addr} {xs:List Value} (h:w.ownsRow base e 1 (.slice a n c) n xs) {m:Nat} (hm:m≤n):w.ownsRow base e 1 (.slice a m c) m (xs.take m):=by
 have hl:=h.1
 rcases h.2 with ⟨hv,h0⟩ | ⟨g,cap,cur,hv,hbg,hg,hnc,hcm,hcs,ht⟩
 ·obtain rfl:m=0:=by omega
  subst h0
  exact ⟨by simp,.inl ⟨hv,rfl⟩⟩
 injection hv with h1 h2 h3
 subst h1 h3
 refine ⟨by rw [List.length_take];omega,.inr ⟨g,c,cur,rfl,hbg,hg,by omega,hcm,hcs,?_⟩⟩
 rw [←ht,List.take_take]
 congr 1
 omega
section
variable {H : Nat → Prop} {w : World} {O : Nat} {d : OD}
structure BackMid (w:World) (O:Nat) (d:OD) (xs:List Value) (j:Nat) (W:World):Prop where
 blk:Blk W O 83 #[rootV d.T,.map d.mb,.slice d.s.a d.us.length d.s.c]
 map:OvMap W d.mb (backA d.us d.C j)
 row:∃ ys,W.ownsRow 0 1 1 (.slice d.s.a d.us.length d.s.c) d.us.length ys∧∀ i,i<j→ys[i]? = xs[i]?
 sb:Sb (OvB O d) w W
def BackPost (H:Nat→Prop) (O:Nat) (d:OD) (m:Nat) (w:World) (e:Ending) (w':World):Prop:=
 e=.returned (.int .i64 0)∧OvTo H w O d ⟨d.T,d.mb,d.s,d.us.take m,d.Hs.take (m+1),backA d.us d.C m⟩ w'
theorem back_end {m:Nat} (hm:m≤d.us.length) (h:OvAt H w O d) {xs:List Value} (hl:xs.length=d.us.length) (hun:∀ (i:Nat) (u:UD) (v:Value),d.us[i]? = some u→xs[i]? = some v→UndoV w (OvF H w O d) O u v) {W:World} (hW:BackMid w O d xs m W) :
  OvTo H w O d ⟨d.T,d.mb,d.s,d.us.take m,d.Hs.take (m+1),backA d.us d.C m⟩ (W.setCell ⟨O,2,none⟩ (.slice d.s.a m d.s.c)):=by
 have hset:Sb (OvB O d) W (W.setCell ⟨O,2,none⟩ (.slice d.s.a m d.s.c)):=(Sb.refl (OvB O d) W).set (p:=⟨O,2,none⟩) (.inr (.inl rfl)) _
 have hall:=hW.sb.trans hset
 have hset1:Sb (fun c=>c=O) W (W.setCell ⟨O,2,none⟩ (.slice d.s.a m d.s.c)):=(Sb.refl (fun c=>c=O) W).set (p:=⟨O,2,none⟩) (.inr rfl) _
 have ha:Agree (OvF H w O d) w (W.setCell ⟨O,2,none⟩ (.slice d.s.a m d.s.c)):=fun i hi=>hall.block i hi.1 hi.2.1
 have hmm:∀ i,OvF H w O d i→OvF H (W.setCell ⟨O,2,none⟩ (.slice d.s.a m d.s.c)) O ⟨d.T,d.mb,d.s,d.us.take m,d.Hs.take (m+1),backA d.us d.C m⟩ i:=fun i hi=>⟨Nat.lt_of_lt_of_le hi.1 hall.size,hi.2.1,hi.2.2⟩
 obtain ⟨ys,hys,hyx⟩:=hW.row
 have htl:(d.us.take m).length=m:=by rw [List.length_take];omega
 have hC:d.Hs[m]? = some (backA d.us d.C m):=h.hist.back h.last (d.us.length - m) m (by omega)
 have hch:=h.hist.take hm
 have hbO:∀ b,d.mb=some b→b≠O:=fun b hb e=>h.ne.1 (by rw [hb,e])
 have hrec:∀ (A:List UD) (C:AL SV),(∀ p∈C,p.1.size≤maxLen∧SVok w (OvF H w O d) p.2)→(∀ u∈A,u.k.size≤maxLen∧∀ o,u.old=some o→SVok w (OvF H w O d) o)→∀ p∈A.foldr undo1 C,p.1.size≤maxLen∧SVok w (OvF H w O d) p.2:=by
  intro A C hC0
  induction A with
  | nil=>intro _;exact hC0
  | cons u r ih=>
    intro hA p hp
    have ih':=ih fun x hx=>hA x (List.mem_cons_of_mem _ hx)
    have hu:=hA u (List.mem_cons_self ..)
    rw [List.foldr_cons,undo1] at hp
    cases ho:u.old with
    | none=>rw [ho] at hp;exact ih' p (List.mem_filter.1 hp).1
    | some o=>
      rw [ho] at hp
      rcases mem_putA hp with rfl | hp
      ·exact ⟨hu.1,hu.2 o ho⟩
      exact ih' p hp
 refine ⟨⟨?_,?_,⟨ys.take m,?_,?_,?_⟩,?_,?_,hch,?_,?_,backA_sorted h.sorted _ _,(h.tree.agree ha).mono hmm,h.ok,h.ne,h.out,?_⟩,hall,fun b hb=>.inl hb⟩
 ·have:=hW.blk.set_ 2 (.slice d.s.a m d.s.c)
  show Blk _ O _ #[_,_,.slice d.s.a (d.us.take m).length d.s.c]
  rw [htl];exact this
 ·exact hW.map.heap fun b hb=>hset1.block b (hW.map.lt hb) (hbO b hb)
 ·show (ys.take m).length=(d.us.take m).length
  have:=hys.1
  rw [htl,List.length_take];omega
 ·show World.ownsRow _ 0 _ 1 (.slice d.s.a (d.us.take m).length d.s.c) (d.us.take m).length _
  rw [htl]
  exact own_agree (own_cut hys hm) hset1.agree fun b hb=>⟨(own_row hys hb).2,fun e=>h.ne.2.1 (by rw [←e];exact hb)⟩
 ·intro i u v hu hv
  have hu:(d.us.take m)[i]? = some u:=hu
  have hi:i<m:=by have:=(List.getElem?_eq_some_iff.1 hu).1;omega
  rw [List.getElem?_take_of_lt hi] at hu hv
  rw [hyx i hi] at hv
  exact ((hun i u v hu hv).agree ha).mono hmm
 ·intro p hp
  have:=hrec (d.us.drop m) d.C h.vals (fun u hu=>h.olds u (List.mem_of_mem_drop hu)) p hp
  exact ⟨this.1,(this.2.agree ha).mono hmm⟩
 ·intro u hu
  have:=h.olds u (List.mem_of_mem_take hu)
  exact ⟨this.1,fun o ho=>((this.2 o ho).agree ha).mono hmm⟩
 ·show (d.Hs.take (m+1))[0]? = _
  rw [List.getElem?_take_of_lt (by omega)];exact h.h0
 ·show (d.Hs.take (m+1))[(d.us.take m).length]? = _
  rw [htl,List.getElem?_take_of_lt (by omega)];exact hC
 intro hne
 exact h.some_ fun e=>hne (by show d.us.take m=[];rw [e];exact List.take_nil)
theorem back_step {xs:List Value} {j g b:Nat} (h:OvAt H w O d) (hb:d.mb=some b) (hg:d.s.a=some ⟨g,0,none⟩) {u:UD} (hu:d.us[j]? = some u) {W W1:World} (hW:BackMid w O d xs (j+1) W) (hm:OvMap W1 (some b) (undo1 u (backA d.us d.C (j+1)))) (hs:Sb (fun c=>c=b) W W1) :
  BackMid w O d xs j (W1.setCell ⟨g,j,none⟩ Value.nilFunc):=by
 have hj:j<d.us.length:=(List.getElem?_eq_some_iff.1 hu).1
 have hrow:d.s.row=some g:=by rw [Sl.row,hg];rfl
 have hgb:g≠b:=fun e=>h.ne.2.2 b hb (by rw [hrow,e])
 have hgO:g≠O:=fun e=>h.ne.2.1 (by rw [hrow,e])
 have hbO:b≠O:=fun e=>h.ne.1 (by rw [hb,e])
 obtain ⟨ys,hys,hyx⟩:=hW.row
 have hown1:W1.ownsRow 0 1 1 (.slice d.s.a d.us.length d.s.c) d.us.length ys:=own_agree hys hs.agree fun i hi=>⟨(own_row hys hi).2,fun e=>hgb (by rw [hrow] at hi;injection hi with hi;omega)⟩
 have hset:Sb (fun c=>c=g) W1 (W1.setCell ⟨g,j,none⟩ Value.nilFunc):=(Sb.refl (fun c=>c=g) W1).set (p:=⟨g,j,none⟩) (.inr rfl) _
 refine ⟨hset.blk (hs.blk hW.blk fun e=>hbO e.symm) fun e=>hgO e.symm,?_,⟨ys.set j Value.nilFunc,?_,fun i hi=>?_⟩,?_⟩
 ·rw [hb,backA_step hu]
  exact hm.heap fun i hi=>by
   injection hi with hi
   subst hi
   exact hset.block b (hm.lt rfl) fun e=>hgb e.symm
 ·rw [hg] at hown1 ⊢
  exact own_set hown1 hj _
 ·rw [List.getElem?_set_ne (by omega)]
  exact hyx i (by omega)
 exact (hW.sb.trans (hs.mono fun i _ e=>.inr (.inl (by rw [hb,e])))).trans (hset.mono fun i _ e=>.inr (.inr (by rw [hrow,e])))
end
theorem run_store_nilF (P:Program) (w:World) (a:Addr) (m:Mode):(store a Value.nilFunc m).run P w=stored P w a Value.nilFunc m:=run_store P w a _ m rfl
attribute [local go_sem] run_store_nilF
theorem own_cell {w:World} {base e n c g:Nat} {xs:List Value} (h:w.ownsRow base e 1 (.slice (some ⟨g,0,none⟩) n c) n xs) {i:Nat} {u:Value} (hx:xs[i]? = some u):w.cell? ⟨g,i,none⟩=some u∧(n≤c∧c≤maxLen)∧g<w.heap.size∧w.frozen? ⟨g,i,none⟩=false:=by
 rcases h.2 with ⟨hv,h0⟩ | ⟨g',cap,cur,hv,hbg,hg,hnc,hcm,hcs,ht⟩
 ·cases hv
 injection hv with h1 h2 h3
 injection h1 with h1
 injection h1 with h1
 subst h1 h3
 have hi:i<n:=by have:=(List.getElem?_eq_some_iff.1 hx).1;have:=h.1;omega
 have hb:Blk w g e cur:=hg
 refine ⟨?_,⟨hnc,hcm⟩,hb.lt,hb.frozen i⟩
 rw [hb.cell i]
 rw [←ht,List.getElem?_take_of_lt (by omega)] at hx
 simpa using hx
theorem back_ov {H:Nat→Prop} {w:World} {O:Nat} {d:OD} (h:OvAt H w O d) (hn:d.us.length≤1000000) {m:Nat} (hm:m≤d.us.length):Calls Tryz.prog 27 #[.pointer (some ⟨O,0,none⟩),.int .i64 (m:Int)] w (BackPost H O d m w):=by
 have c2:w.cell? ⟨O,2,none⟩=some (.slice d.s.a d.us.length d.s.c):=h.blk.cell 2
 have lO:=h.blk.lt
 obtain ⟨xs,hl,hown,hun⟩:=h.row
 have g0:decide ((m:Int)<0)=false:=decide_eq_false (by omega)
 have g1:decide ((d.us.length:Int)<(m:Int))=false:=decide_eq_false (by omega)
 have g1':decide (d.us.length<m)=false:=decide_eq_false (by omega)
 have hst:BackMid w O d xs d.us.length w:=⟨h.blk,by rw [backA_end];exact h.map,⟨xs,hown,fun _ _=>rfl⟩,Sb.refl _ _⟩
 have HAT:=Lib.hid h
 have HUN:=Lib.hid hun
 have HL:=Lib.hid hl
 have HST:=Lib.hid hst
 clear h hun hl hst hown
 go_enter Tryz.func27,Tryz.ntmps27
 go_wp2_with fail
 go_loopw [5] (fun q wr=>∃ (j:Nat) (i:Int),q=.int .i64 i∧i+1=(j:Int)∧m≤j∧j≤d.us.length∧BackMid w O d xs j wr) (fun q _=>(intOf q+1).toNat)
 case atStart=>exact ⟨d.us.length,_,rfl,by omega,hm,Nat.le_refl _,HST.out⟩
 obtain ⟨j,i,rfl,hij,hmj,hjl,hW⟩:=hrel
 by_cases hlt:m<j
 ·obtain ⟨j,rfl⟩:∃ k,j=k+1:=⟨j - 1,by omega⟩
  obtain rfl:i=(j:Int):=by omega
  have g2:decide ((m:Int)≤(j:Int))=true:=decide_eq_true (by omega)
  have hu:d.us[j]? = some d.us[j]:=List.getElem?_eq_getElem (by omega)
  obtain ⟨u,hue⟩:∃ u,d.us[j]=u:=⟨_,rfl⟩
  rw [hue] at hu
  obtain ⟨v,hv⟩:∃ v,xs[j]? = some v:=⟨_,List.getElem?_eq_getElem (by have:=HL.out;omega)⟩
  obtain ⟨b,hb⟩:=HAT.out.some_ (fun e=>by rw [e] at hu;simp at hu)
  obtain ⟨bw,bd,bo,bk,o,rfl,⟨fw,fd,fo,fk⟩,kw,kd,ho,ko,kk⟩:=HUN.out j u v hu hv
  obtain ⟨ys,hys,hyx⟩:=hW.row
  have hyv:ys[j]? = some (undoC bw bd bo bk):=by rw [hyx j (by omega)];exact hv
  obtain ⟨g,ha⟩:∃ g,d.s.a=some ⟨g,0,none⟩:=by
   rcases hys.2 with ⟨-,h0⟩ | ⟨g,cap,cur,hv,-⟩
   ·omega
   injection hv with h1
   exact ⟨g,h1⟩
  rw [ha] at hys
  obtain ⟨cj,⟨hnc,hcm⟩,lg,fj⟩:=own_cell hys hyv
  have b2:wr.cell? ⟨O,2,none⟩=some (.slice d.s.a d.us.length d.s.c):=hW.blk.cell 2
  rw [ha] at b2
  have lW:=hW.blk.lt
  have hblk:Blk wr O 83 #[rootV d.T,.map (some b),.slice d.s.a d.us.length d.s.c]:=by rw [←hb];exact hW.blk
  have hmap:OvMap wr (some b) (backA d.us d.C (j+1)):=by rw [←hb];exact hW.map
  have hun1:=undo1_any hblk hmap (backA_sorted HAT.out.sorted d.us (j+1)) (by have:=HAT.out.hist.short HAT.out.h0 _ _ (HAT.out.hist.back HAT.out.last (d.us.length - (j+1)) (j+1) (by omega));unfold maxLen;omega) (HAT.out.olds u (List.mem_of_getElem? hu)).1 (hW.sb.blk kw fw.2.1) (hW.sb.blk kd fd.2.1) ho (hW.sb.blk ko fo.2.1) (hW.sb.blk kk fk.2.1)
  have hrg:d.s.row=some g:=by rw [Sl.row,ha];rfl
  have hgb:¬g=b:=fun e=>HAT.out.ne.2.2 b hb (by rw [hrg,e])
  have hOb:¬O=b:=fun e=>HAT.out.ne.1 (by rw [hb,e])
  have HW:=Lib.hid hW
  have HU:=Lib.hid hu
  have HB:=Lib.hid hb
  have HA:=Lib.hid ha
  have HUN1:=Lib.hid hun1
  have j0:(0:Int)≤(j:Int):=by omega
  have j1:(j:Int)<(d.us.length:Int):=by omega
  have fj2:∀ W,Sb (fun c=>c=b) wr W→W.frozen? ⟨g,j,none⟩=false∧W.cell? ⟨g,j,none⟩=some (undoC bw bd bo bk)∧W.cell? ⟨O,2,none⟩=some (.slice (some ⟨g,0,none⟩) d.us.length d.s.c)∧g<W.heap.size:=fun W hS=>
   ⟨(World.frozen?_of_block (hS.block g lg hgb)).trans fj,(hS.cell lg hgb).trans cj,(hS.cell lW hOb).trans b2,Nat.lt_of_lt_of_le lg hS.size⟩
  have FJ:=Lib.hid fj2
  clear hW hij c2 hu hue hv hb fw fd fo fk kw kd ho ko kk hys hyx hyv ha hblk hmap hun1 hrg hgb hOb fj2 HST
  go_wp2_with (go_at_call 72;refine (HUN1.out).mono ?_;rintro e w1 ⟨⟨r,rfl⟩,hm1,hs1⟩;obtain ⟨f1,c1,b3,l1⟩:=FJ.out w1 hs1;have HM1:=Lib.hid hm1;have HS1:=Lib.hid hs1;clear hm1 hs1 FJ)
  go_roundw
  case rel=>exact ⟨j,(j:Int) - 1,by go_num,by omega,by omega,by omega,back_step HAT.out HB.out HA.out HU.out HW.out HM1.out HS1.out⟩
  simp [intOf]
 obtain rfl:j=m:=by omega
 have g2:decide ((j:Int)≤i)=false:=decide_eq_false (by omega)
 have b2:wr.cell? ⟨O,2,none⟩=some (.slice d.s.a d.us.length d.s.c):=hW.blk.cell 2
 have f2:=hW.blk.frozen 2
 have lW:=hW.blk.lt
 have HW:=Lib.hid hW
 clear hW hij c2
 have hca:(d.s.a=none∧d.us.length=0∧d.s.c=0)∨∃ g,d.s.a=some ⟨g,0,none⟩∧d.us.length≤d.s.c∧d.s.c≤maxLen:=by
  obtain ⟨ys,hys,-⟩:=HW.out.row
  rcases hys.2 with ⟨hv,h0⟩ | ⟨g,cap,cur,hv,-,-,hnc,hcm,-⟩
  ·injection hv with h1 h2 h3
   exact .inl ⟨h1,h0,h3⟩
  injection hv with h1 h2 h3
  exact .inr ⟨g,h1,by rw [h3];exact hnc,by rw [h3];exact hcm⟩
 rcases hca with ⟨ha,hz,hc⟩ | ⟨g,ha,hnc,hcm⟩
 ·obtain rfl:j=0:=by omega
  have HA:=Lib.hid ha
  have HC:=Lib.hid hc
  have HZ:=Lib.hid hz
  rw [ha,hz,hc] at b2
  clear ha hc hz
  have g3:decide ((0:Int)≤i)=false:=g2
  go_wp2_with fail
  refine bodyPost_ret (v:=.int .i64 0) (by simp [results,Tryz.results27,go_sem]) rfl ?_
  have hend:=back_end hm HAT.out HL.out HUN.out HW.out
  rw [HA.out,HC.out] at hend
  exact ⟨rfl,hend⟩
 rw [ha] at b2
 have HA:=Lib.hid ha
 clear ha
 have k0:(0:Int)≤(j:Int):=by omega
 have k1:(j:Int)≤(d.s.c:Int):=by omega
 go_wp2_with fail
 refine bodyPost_ret (v:=.int .i64 0) (by simp [results,Tryz.results27,go_sem]) rfl ?_
 have hend:=back_end hm HAT.out HL.out HUN.out HW.out
 rw [HA.out] at hend
 exact ⟨rfl,hend⟩
end Go.Proofs.YtkhdiakpdafcdaaGreatDoor
namespace Go.Proofs.YtkhdiakpdafcdaaGreatDoor
open Go.RowKit Go.Maps Go.Shelf
set_option linter.unusedVariables false
set_option linter.unusedSimpArgs false
structure OvX (H:Nat→Prop) (w:World) (O:Nat) (d:OD) (M:List Ent):Prop where
 ov:OvAt H w O d
 rel:RelX (entsT d.T) (optA d.C) M
structure GoX (H:Nat→Prop) (w:World) (O:Nat) (d:OD) (M':List Ent) (n:Nat) (w':World) (d':OD):Prop where
 go:OvTo H w O d d' w'
 T:d'.T=d.T
 rel:RelX (entsT d.T) (optA d'.C) M'
 us:d.us <+: d'.us
 hs:d.Hs <+: d'.Hs
 few:d'.us.length≤d.us.length+n
section
variable {H : Nat → Prop} {w w' w1 w2 : World} {O : Nat} {d d' d1 d2 : OD} {M M1 M2 : List Ent} {n m : Nat}
theorem GoX.at_ (h:GoX H w O d M1 n w1 d1):OvX H w1 O d1 M1:=⟨h.go.at_,by rw [h.T];exact h.rel⟩
theorem OvX.nw (h:OvX H w O d M) (k:Nw w w'):OvX H w' O d M:=⟨h.ov.nw k,h.rel⟩
theorem GoX.more (h:GoX H w O d M1 n w1 d1) (k:n≤m):GoX H w O d M1 m w1 d1:=⟨h.go,h.T,h.rel,h.us,h.hs,Nat.le_trans h.few (by omega)⟩
theorem GoX.trans (h:GoX H w O d M1 n w1 d1) (k:GoX H w1 O d1 M2 m w2 d2):GoX H w O d M2 (n+m) w2 d2:=
 ⟨⟨k.go.at_,h.go.sb.comp k.go.sb fun i hi e=>(h.go.new i e).elim id fun h2=>by omega,fun b hb=>(k.go.new b hb).elim (h.go.new b) fun h2=>.inr (Nat.le_trans h.go.sb.size h2)⟩,k.T.trans h.T,by have:=k.rel;rwa [h.T] at this,h.us.trans k.us,h.hs.trans k.hs,by have:=h.few;have:=k.few;omega⟩
theorem GoX.since (k:Nw w w1) (h:GoX H w1 O d M1 n w2 d1):GoX H w O d M1 n w2 d1:=
 ⟨⟨h.go.at_,(k.any _).trans h.go.sb,fun b hb=>(h.go.new b hb).imp id (Nat.le_trans k.size)⟩,h.T,h.rel,h.us,h.hs,h.few⟩
theorem GoX.nw (h:GoX H w O d M1 n w1 d1) (k:Nw w1 w2):GoX H w O d M1 n w2 d1:=
 ⟨⟨h.go.at_.nw k,h.go.sb.trans (k.any _),h.go.new⟩,h.T,h.rel,h.us,h.hs,h.few⟩
theorem OvX.stay (h:OvX H w O d M) (k:Nw w w'):GoX H w O d M n w' d:=⟨⟨h.ov.nw k,k.any _,fun b hb=>.inl hb⟩,rfl,h.rel,List.prefix_refl _,List.prefix_refl _,Nat.le_add_right _ _⟩
theorem OvX.now (h:OvX H w O d M) (k:ByteArray):d.now k=getE M k:=h.rel.now k
theorem OvX.stepX (h:OvX H w O d M) {k:ByteArray} {sv:SV} {mb:Option Nat} {s:Sl} (hg:OvTo H w O d (d.step k sv mb s) w') (hr:RelX (entsT d.T) (optA (putA d.C k sv)) M1):GoX H w O d M1 1 w' (d.step k sv mb s):=
 ⟨hg,rfl,hr,List.prefix_append _ _,List.prefix_append _ _,by show (d.us++_).length≤_;rw [List.length_append];exact Nat.le_refl _⟩
theorem getX (h:OvX H w O d M) (hl:(entsT d.T).length≤1000000) {k:ByteArray} (hk:k.size≤maxLen) :
  Calls Tryz.prog 47 #[.pointer (some ⟨O,0,none⟩),.string k] w (GetPost (getE M k) w):=by
 have:=get_ov h.ov hl hk
 rw [h.now k] at this
 exact this
theorem putX (h:OvX H w O d M) (hH:∀ b,H b→b<w.heap.size) (hn:d.us.length≤1000000) {k:ByteArray} (hk:k.size≤maxLen) {v:Val} {sl so:Sl} (hv:RV w (Lt w.heap.size) v sl so) (hc:cntV v≤1100000) (hL:LibQ w) :
  Calls Tryz.prog 17 #[.pointer (some ⟨O,0,none⟩),.string k,aggV v sl so] w fun e w'=>e=.returned (.int .i64 (setMu M k v).1)∧∃ d',GoX H w O d (setMu M k v).2 1 w' d':=
 (put_anyO h.ov hH hn hk hv hc hL).mono fun e w' ⟨he,hp⟩=>by
   have hcode:(setMu M k v).1=putC k v:=by
    unfold setMu putC
    split
    ·rfl
    split
    ·rfl
    rename_i hf;simpa using (Decidable.not_not.1 hf).symm
   refine ⟨by rw [he,hcode],?_⟩
   rcases hp with ⟨h0,sl1,so1,mb,s,ht⟩ | ⟨h0,hq⟩
   ·have hm:mayK k=0:=by
     unfold putC at h0
     by_cases h1:mayK k=0
     ·exact h1
     rw [if_pos h1] at h0;cases h0
    have hf:fitV v=0:=by
     unfold putC at h0
     rwa [if_neg (by simp [hm])] at h0
    have hs:(setMu M k v).2=insE M k v:=by
     unfold setMu
     rw [if_neg (by simp [hm]),if_neg (by simp [hf])]
    rw [hs]
    exact ⟨_,h.stepX ht (h.rel.put hm ⟨hv.wf,hf⟩ (sorted_opt (putA_sorted h.ov.sorted _ _)) fun x=>optA_put d.C k _ x)⟩
   have hs:(setMu M k v).2=M:=by
    unfold setMu
    unfold putC at h0
    by_cases h1:mayK k=0
    ·rw [if_neg (by simp [h1])] at h0
     rw [if_neg (by simp [h1]),if_pos h0]
    rw [if_pos h1]
   rw [hs]
   exact ⟨d,h.stay hq⟩
theorem delX (h:OvX H w O d M) (hH:∀ b,H b→b<w.heap.size) (hn:d.us.length≤1000000) (hl:(entsT d.T).length≤1000000) {k:ByteArray} (hk:k.size≤maxLen) :
  Calls Tryz.prog 20 #[.pointer (some ⟨O,0,none⟩),.string k] w fun e w'=>e=.returned (.bool (getE M k).isSome)∧∃ d',GoX H w O d (delE M k) 1 w' d':=
 (delete_ov h.ov hH hn hl hk).mono fun e w' ⟨he,hp⟩=>by
   rw [h.now k] at he hp
   refine ⟨he,?_⟩
   rcases hp with ⟨h0,hq⟩ | ⟨h0,mb,s,ht⟩
   ·have hd:delE M k=M:=by
     refine sorted_eq (delE_sorted h.rel.ok.sorted k) h.rel.ok.sorted fun x=>?_
     rw [getE_del _ _ _ h.rel.ok.sorted]
     by_cases hx:x=k
     ·rw [if_pos hx,hx]
      cases hg:getE M k with
      | none=>rfl
      | some y=>rw [hg] at h0;cases h0
     rw [if_neg hx]
    rw [hd]
    exact ⟨d,h.stay hq⟩
   exact ⟨_,h.stepX ht (h.rel.del (sorted_opt (putA_sorted h.ov.sorted _ _)) fun x=>optA_put d.C k _ x)⟩
theorem backX (h:OvX H w O d M) (g:GoX H w O d M1 n w1 d1) (hn:d1.us.length≤1000000) :
  Calls Tryz.prog 27 #[.pointer (some ⟨O,0,none⟩),.int .i64 (d.us.length:Int)] w1 fun e w'=>e=.returned (.int .i64 0)∧∃ d2,GoX H w O d M 0 w' d2∧d2.us=d.us:=
 (back_ov g.go.at_ hn (m:=d.us.length) g.us.length_le).mono fun e w' ⟨he,ht⟩=>by
   have hu:d1.us.take d.us.length=d.us:=(List.prefix_iff_eq_take.1 g.us).symm
   have hlen:d.Hs.length=d.us.length+1:=h.ov.hist.len
   have hh:d1.Hs.take (d.us.length+1)=d.Hs:=by rw [←hlen];exact (List.prefix_iff_eq_take.1 g.hs).symm
   have hC:backA d1.us d1.C d.us.length=d.C:=by
    have h1:=g.go.at_.hist.back g.go.at_.last (d1.us.length - d.us.length) d.us.length (by have:=g.us.length_le;omega)
    obtain ⟨t,ht⟩:=g.hs
    rw [←ht,List.getElem?_append_left (by omega),h.ov.last] at h1
    injection h1 with h1
    exact h1.symm
   refine ⟨he,⟨d1.T,d1.mb,d1.s,d1.us.take d.us.length,d1.Hs.take (d.us.length+1),backA d1.us d1.C d.us.length⟩,⟨⟨ht.at_,g.go.sb.comp ht.sb fun i hi e=>(g.go.new i e).elim id fun h2=>by omega,fun b hb=>(ht.new b hb).elim (g.go.new b) fun h2=>.inr (Nat.le_trans g.go.sb.size h2)⟩,g.T,?_,?_,?_,?_⟩,hu⟩
   ·show RelX _ (optA (backA d1.us d1.C d.us.length)) M
    rw [hC];exact h.rel
   ·show d.us <+: d1.us.take d.us.length
    rw [hu]
    exact List.prefix_refl _
   ·show d.Hs <+: d1.Hs.take (d.us.length+1)
    rw [hh]
    exact List.prefix_refl _
   show (d1.us.take d.us.length).length≤_
   rw [hu];exact Nat.le_refl _
theorem relX_idle {B:List Ent} {C:Slots} (h:RelX B C B):idleC B C:=fun k s hk=>by
 have h1:=h.now k
 rw [nowE,hk] at h1
 cases s with
 | none=>exact h1.symm
 | some v=>
   show (getE B k).any _=true
   rw [←h1]
   simp [cmpV_refl]
theorem comX (h:OvX H w O d M) (hl:(entsT d.T).length+d.C.length≤1000000) :
  Calls Tryz.prog 26 #[.pointer (some ⟨O,0,none⟩)] w fun e w'=>∃ T',e=.returned (treeV T')∧OkR T'∧IsT w' (Up (OvF H w O d) w w') T'∧entsT T'=M∧Nw w w'∧(M=entsT d.T→T'=d.T):=
 (commit_ov h.ov hl).mono fun e w' ⟨T',he,ok,hT,hen,hn,hi⟩=>⟨T',he,ok,hT,hen.trans h.rel.com,hn,fun hm=>hi (relX_idle (by have:=h.rel;rwa [hm] at this))⟩
end
theorem i64_b {q:Int} (h:(Lit.int .i64 q).wf=true) : -9223372036854775808≤q∧q≤9223372036854775807:=by
 have h1:IntKind.i64.min = -9223372036854775808:=by decide
 have h2:IntKind.i64.max=9223372036854775807:=by decide
 simp [Lit.wf,h1,h2] at h;omega
theorem RV.int {w:World} {F:Nat→Prop} {d:Val} {sl so:Sl} (h:RV w F d sl so) : -9223372036854775808≤d.i∧d.i≤9223372036854775807:=by
 cases h with
 | mk bl fl bo fo cl co hl ho hov el rl ek eo ro bk bi bt nl no=>exact i64_b bi
theorem said_any {H:Nat→Prop} {w:World} {O:Nat} {d:OD} {M:List Ent} {m:Mu} {c:MuS} (h:OvX H w O d M) (hl:(entsT d.T).length≤1000000) (hm:RMu w (Lt w.heap.size) m c) :
  Calls Tryz.prog 82 #[.pointer (some ⟨O,0,none⟩),aggMu m c] w fun e w'=>e=.returned (.bool (asM M m.k m.had m.was))∧Ext w w':=by
 obtain ⟨w1,w2,v1,v2,s⟩:=c
 cases hm with
 | @mk kd k tk i had was has v l _ bl fl cl rw_ rv hl' el rl bk bt bkd bi nl=>
 show Calls _ _ #[_,.agg #[.int .i64 kd,.string k,.string tk,.int .i64 i,.bool had,.int .i64 was.kind,.bool was.b,.int .i64 was.i,.string was.t,.slice w1.a was.l.length w1.c,.slice w2.a was.ok.length w2.c,.bool has,.int .i64 v.kind,.bool v.b,.int .i64 v.i,.string v.t,.slice v1.a v.l.length v1.c,.slice v2.a v.ok.length v2.c,.slice s.a l.length s.c]] _ fun e w'=>e=.returned (.bool (asM M k had was))∧Ext w w'
 have hx0:=(Ext.refl w).alloc #[.int .i64 kd,.string k,.string tk,.int .i64 i,.bool had,.int .i64 was.kind,.bool was.b,.int .i64 was.i,.string was.t,.slice w1.a was.l.length w1.c,.slice w2.a was.ok.length w2.c,.bool has,.int .i64 v.kind,.bool v.b,.int .i64 v.i,.string v.t,.slice v1.a v.l.length v1.c,.slice v2.a v.ok.length v2.c,.slice s.a l.length s.c] 31
 have hget:=getX (h.nw (Nw.of hx0)) hl bk
 have RW:=Lib.hid rw_
 have HX0:=Lib.hid hx0
 have HB0:=Lib.hid (Blk.new w 31 #[.int .i64 kd,.string k,.string tk,.int .i64 i,.bool had,.int .i64 was.kind,.bool was.b,.int .i64 was.i,.string was.t,.slice w1.a was.l.length w1.c,.slice w2.a was.ok.length w2.c,.bool has,.int .i64 v.kind,.bool v.b,.int .i64 v.i,.string v.t,.slice v1.a v.l.length v1.c,.slice v2.a v.ok.length v2.c,.slice s.a l.length s.c])
 clear hx0 h rw_ rv hl' el rl bk bt bkd bi nl
 cases hg:getE M k with
 | none=>
   rw [hg] at hget
   cases had with
   | false=>
     have hasm:asM M k false was=(true):=by unfold asM;rw [hg];rfl
     rw [hasm]
     have HGET:=Lib.hid hget
     clear hasm hget hg
     go_enter Tryz.func82,Tryz.ntmps82
     go_wp2_with fail
     refine HGET.out.mono ?_
     rintro e W1 ⟨sl,so,rfl,hx1,hr1⟩
     have hb1:=HB0.out.ext hx1
     have c4:W1.cell? ⟨w.heap.size,4,none⟩=some (.bool false):=hb1.cell 4
     have c5:W1.cell? ⟨w.heap.size,5,none⟩=some (.int .i64 was.kind):=hb1.cell 5
     have c6:W1.cell? ⟨w.heap.size,5+1,none⟩=some (.bool was.b):=hb1.cell 6
     have c7:W1.cell? ⟨w.heap.size,5+2,none⟩=some (.int .i64 was.i):=hb1.cell 7
     have c8:W1.cell? ⟨w.heap.size,5+3,none⟩=some (.string was.t):=hb1.cell 8
     have c9:W1.cell? ⟨w.heap.size,5+4,none⟩=some (.slice w1.a was.l.length w1.c):=hb1.cell 9
     have c10:W1.cell? ⟨w.heap.size,5+5,none⟩=some (.slice w2.a was.ok.length w2.c):=hb1.cell 10
     have l1:=hb1.lt
     have hx2:Ext W1 (W1.alloc (.cells #[.int .i64 zeroV.kind,.bool zeroV.b,.int .i64 zeroV.i,.string zeroV.t,.slice sl.a zeroV.l.length sl.c,.slice so.a zeroV.ok.length so.c] 28)):=(Ext.refl W1).alloc _ _
     have HX:=Lib.hid ((HX0.out.trans hx1).trans hx2)
     clear hx1 hr1 hb1 hx2
     go_wp2_with fail
     go_ret
     exact ⟨rfl,HX.out⟩
   | true=>
     have hasm:asM M k true was=(false):=by unfold asM;rw [hg];rfl
     rw [hasm]
     have HGET:=Lib.hid hget
     clear hasm hget hg
     go_enter Tryz.func82,Tryz.ntmps82
     go_wp2_with fail
     refine HGET.out.mono ?_
     rintro e W1 ⟨sl,so,rfl,hx1,hr1⟩
     have hb1:=HB0.out.ext hx1
     have c4:W1.cell? ⟨w.heap.size,4,none⟩=some (.bool true):=hb1.cell 4
     have c5:W1.cell? ⟨w.heap.size,5,none⟩=some (.int .i64 was.kind):=hb1.cell 5
     have c6:W1.cell? ⟨w.heap.size,5+1,none⟩=some (.bool was.b):=hb1.cell 6
     have c7:W1.cell? ⟨w.heap.size,5+2,none⟩=some (.int .i64 was.i):=hb1.cell 7
     have c8:W1.cell? ⟨w.heap.size,5+3,none⟩=some (.string was.t):=hb1.cell 8
     have c9:W1.cell? ⟨w.heap.size,5+4,none⟩=some (.slice w1.a was.l.length w1.c):=hb1.cell 9
     have c10:W1.cell? ⟨w.heap.size,5+5,none⟩=some (.slice w2.a was.ok.length w2.c):=hb1.cell 10
     have l1:=hb1.lt
     have hx2:Ext W1 (W1.alloc (.cells #[.int .i64 zeroV.kind,.bool zeroV.b,.int .i64 zeroV.i,.string zeroV.t,.slice sl.a zeroV.l.length sl.c,.slice so.a zeroV.ok.length so.c] 28)):=(Ext.refl W1).alloc _ _
     have HX:=Lib.hid ((HX0.out.trans hx1).trans hx2)
     clear hx1 hr1 hb1 hx2
     go_wp2_with fail
     go_ret
     exact ⟨rfl,HX.out⟩
 | some x=>
   rw [hg] at hget
   cases had with
   | false=>
     have hasm:asM M k false was=(false):=by unfold asM;rw [hg];rfl
     rw [hasm]
     have HGET:=Lib.hid hget
     clear hasm hget hg
     go_enter Tryz.func82,Tryz.ntmps82
     go_wp2_with fail
     refine HGET.out.mono ?_
     rintro e W1 ⟨sl,so,rfl,hx1,hr1⟩
     have hb1:=HB0.out.ext hx1
     have c4:W1.cell? ⟨w.heap.size,4,none⟩=some (.bool false):=hb1.cell 4
     have c5:W1.cell? ⟨w.heap.size,5,none⟩=some (.int .i64 was.kind):=hb1.cell 5
     have c6:W1.cell? ⟨w.heap.size,5+1,none⟩=some (.bool was.b):=hb1.cell 6
     have c7:W1.cell? ⟨w.heap.size,5+2,none⟩=some (.int .i64 was.i):=hb1.cell 7
     have c8:W1.cell? ⟨w.heap.size,5+3,none⟩=some (.string was.t):=hb1.cell 8
     have c9:W1.cell? ⟨w.heap.size,5+4,none⟩=some (.slice w1.a was.l.length w1.c):=hb1.cell 9
     have c10:W1.cell? ⟨w.heap.size,5+5,none⟩=some (.slice w2.a was.ok.length w2.c):=hb1.cell 10
     have l1:=hb1.lt
     have hx2:Ext W1 (W1.alloc (.cells #[.int .i64 x.kind,.bool x.b,.int .i64 x.i,.string x.t,.slice sl.a x.l.length sl.c,.slice so.a x.ok.length so.c] 28)):=(Ext.refl W1).alloc _ _
     have HX:=Lib.hid ((HX0.out.trans hx1).trans hx2)
     clear hx1 hr1 hb1 hx2
     go_wp2_with fail
     go_ret
     exact ⟨rfl,HX.out⟩
   | true=>
     have hasm:asM M k true was=(decide (cmpV x was=0)):=by unfold asM;rw [hg];rfl
     rw [hasm]
     have HGET:=Lib.hid hget
     clear hasm hget hg
     go_enter Tryz.func82,Tryz.ntmps82
     go_wp2_with fail
     refine HGET.out.mono ?_
     rintro e W1 ⟨sl,so,rfl,hx1,hr1⟩
     have hb1:=HB0.out.ext hx1
     have c4:W1.cell? ⟨w.heap.size,4,none⟩=some (.bool true):=hb1.cell 4
     have c5:W1.cell? ⟨w.heap.size,5,none⟩=some (.int .i64 was.kind):=hb1.cell 5
     have c6:W1.cell? ⟨w.heap.size,5+1,none⟩=some (.bool was.b):=hb1.cell 6
     have c7:W1.cell? ⟨w.heap.size,5+2,none⟩=some (.int .i64 was.i):=hb1.cell 7
     have c8:W1.cell? ⟨w.heap.size,5+3,none⟩=some (.string was.t):=hb1.cell 8
     have c9:W1.cell? ⟨w.heap.size,5+4,none⟩=some (.slice w1.a was.l.length w1.c):=hb1.cell 9
     have c10:W1.cell? ⟨w.heap.size,5+5,none⟩=some (.slice w2.a was.ok.length w2.c):=hb1.cell 10
     have l1:=hb1.lt
     have hx2:Ext W1 (W1.alloc (.cells #[.int .i64 x.kind,.bool x.b,.int .i64 x.i,.string x.t,.slice sl.a x.l.length sl.c,.slice so.a x.ok.length so.c] 28)):=(Ext.refl W1).alloc _ _
     have HX:=Lib.hid ((HX0.out.trans hx1).trans hx2)
     have hsm:=valueSame_any (w:=W1.alloc (.cells #[.int .i64 x.kind,.bool x.b,.int .i64 x.i,.string x.t,.slice sl.a x.l.length sl.c,.slice so.a x.ok.length so.c] 28)) ((hr1.agree (hx2.agree fun b hb=>hb.2)).mono fun b hb=>Nat.lt_of_lt_of_le hb.2 hx2.size) ((RW.out.agree (((HX0.out.trans hx1).trans hx2).agree fun _ h=>h)).mono fun b hb=>Nat.lt_of_lt_of_le hb ((HX0.out.trans hx1).trans hx2).size)
     have HSM:=Lib.hid hsm
     clear hsm
     clear hx1 hr1 hb1 hx2
     go_wp2_with fail
     refine HSM.out.mono ?_
     rintro e W3 ⟨rfl,hx3⟩
     have HX3:=Lib.hid (HX.out.trans hx3)
     clear hx3
     go_wp2_with fail
     go_ret
     exact ⟨rfl,HX3.out⟩
theorem inc_over {n b:Int} (hn : -9223372036854775808≤n∧n≤9223372036854775807) (hb : -9223372036854775808≤b∧b≤9223372036854775807) :
  ((0<b∧9223372036854775807 - b<n)→wrap64 (n+b)<n)∧((b<0∧n < -9223372036854775808 - b)→n<wrap64 (n+b))∧(¬((0<b∧9223372036854775807 - b<n)∨(b<0∧n < -9223372036854775808 - b))→wrap64 (n+b)=n+b):=by
 unfold wrap64
 refine ⟨fun h=>?_,fun h=>?_,fun h=>?_⟩ <;> omega
theorem incM_kind {M:List Ent} {k:ByteArray} {by_:Int} {x:Val} (hg:getE M k=some x) (h:x.kind≠3):incM M k by_=(9,M):=by
 unfold incM
 rw [hg]
 exact if_pos h
theorem inc_any {H:Nat→Prop} {w:World} {O:Nat} {d:OD} {M:List Ent} {k:ByteArray} {by_:Int} (h:OvX H w O d M) (hH:∀ b,H b→b<w.heap.size) (hn:d.us.length≤1000000) (hl:(entsT d.T).length≤1000000) (hkm:k.size≤maxLen)
  (hby : -9223372036854775808≤by_∧by_≤9223372036854775807) (hL:LibQ w) :
  Calls Tryz.prog 78 #[.pointer (some ⟨O,0,none⟩),.string k,.int .i64 by_] w fun e w'=>e=.returned (.int .i64 (incM M k by_).1)∧∃ d',GoX H w O d (incM M k by_).2 1 w' d':=by
 have hget:=getX h hl hkm
 have HH:=Lib.hid h
 have HL:=Lib.hid hL
 obtain ⟨r,hr⟩:∃ r,incM M k by_=r:=⟨_,rfl⟩
 rw [hr]
 have HR:=Lib.hid hr
 clear h hL hl hr
 cases hg:getE M k with
 | none=>
   rw [hg] at hget
   have HG:=Lib.hid hg
   have HGET:=Lib.hid hget
   clear hg hget
   go_enter Tryz.func78,Tryz.ntmps78
   go_wp2_with fail
   refine HGET.out.mono ?_
   rintro e W1 ⟨sl,so,rfl,hx1,hr1⟩
   have hx2:Ext W1 (W1.alloc (.cells #[.int .i64 zeroV.kind,.bool zeroV.b,.int .i64 zeroV.i,.string zeroV.t,.slice sl.a zeroV.l.length sl.c,.slice so.a zeroV.ok.length so.c] 28)):=(Ext.refl W1).alloc _ _
   have HX:=Lib.hid (hx1.trans hx2)
   have HOV:=Lib.hid (inc_over (n:=zeroV.i) (b:=by_) (by decide) hby)
   clear hx1 hx2 hr1
   by_cases hs:0<by_∧9223372036854775807 - by_<zeroV.i
   ·skip
    have f1:(0:Int)<by_:=hs.1
    have f2:wrap64 (zeroV.i+by_)<zeroV.i:=HOV.out.1 hs
    have f1':decide ((0:Int)<by_)=true:=decide_eq_true f1
    have f2':decide (wrap64 (zeroV.i+by_)<zeroV.i)=true:=decide_eq_true f2
    have hres:incM M k by_=(7,M):=by unfold incM;rw [HG.out];exact if_pos (.inl hs)
    have HRES:=Lib.hid (HR.out.symm.trans hres)
    clear hs hres
    go_wp2_with fail
    go_ret
    exact ⟨by rw [HRES.out] <;> rfl,d,by rw [HRES.out];exact HH.out.stay (Nw.of HX.out)⟩
   by_cases hs:by_<0∧zeroV.i < -9223372036854775808 - by_
   ·skip
    have f1:¬(0:Int)<by_:=by omega
    have f3:by_<0:=hs.1
    have f4:zeroV.i<wrap64 (zeroV.i+by_):=HOV.out.2.1 hs
    have f1':decide ((0:Int)<by_)=false:=decide_eq_false f1
    have f3':decide (by_<0)=true:=decide_eq_true f3
    have f4':decide (zeroV.i<wrap64 (zeroV.i+by_))=true:=decide_eq_true f4
    have hres:incM M k by_=(7,M):=by unfold incM;rw [HG.out];exact if_pos (.inr hs)
    have HRES:=Lib.hid (HR.out.symm.trans hres)
    clear hs hres
    go_wp2_with fail
    go_ret
    exact ⟨by rw [HRES.out] <;> rfl,d,by rw [HRES.out];exact HH.out.stay (Nw.of HX.out)⟩
   have hno:¬((0<by_∧9223372036854775807 - by_<zeroV.i)∨(by_<0∧zeroV.i < -9223372036854775808 - by_)):=by omega
   by_cases hs:0<by_
   ·skip
    have f1:(0:Int)<by_:=hs
    have f3:¬by_<0:=by omega
    have f2:¬wrap64 (zeroV.i+by_)<zeroV.i:=by rw [HOV.out.2.2 hno];omega
    have f1':decide ((0:Int)<by_)=true:=decide_eq_true f1
    have f3':decide (by_<0)=false:=decide_eq_false f3
    have f2':decide (wrap64 (zeroV.i+by_)<zeroV.i)=false:=decide_eq_false f2
    have hw:wrap64 (zeroV.i+by_)=(0:Int)+by_:=HOV.out.2.2 hno
    have hres:incM M k by_=setMu M k (intV (wrap64 (zeroV.i+by_))):=by unfold incM;rw [HG.out,hw];exact if_neg hno
    have hb2 : -9223372036854775808≤wrap64 (zeroV.i+by_)∧wrap64 (zeroV.i+by_)≤9223372036854775807:=by unfold wrap64;omega
    have HRES:=Lib.hid (HR.out.symm.trans hres)
    have hput:=putX (v:=intV (wrap64 (zeroV.i+by_))) (sl:=Sl.none) (so:=Sl.none) (HH.out.nw (Nw.of HX.out)) (fun b hb=>Nat.lt_of_lt_of_le (hH b hb) HX.out.size) hn hkm (RV.flat _ _ _ _ _ _ (by decide) (WalkArith.wf_i64 hb2) (by decide)) (show 7+0+0+0≤1100000 by decide) (HL.out.nw (Nw.of HX.out))
    have HPUT:=Lib.hid hput
    clear hs hw hres hb2 hput hno
    go_wp2_with fail
    refine HPUT.out.mono ?_
    rintro e w2 ⟨rfl,d',hg'⟩
    have HGO:=Lib.hid (hg'.since (Nw.of HX.out))
    clear hg'
    go_wp2_with fail
    go_ret
    exact ⟨by rw [HRES.out] <;> rfl,d',by rw [HRES.out];exact HGO.out⟩
   by_cases hs:by_<0
   ·skip
    have f1:¬(0:Int)<by_:=by omega
    have f3:by_<0:=hs
    have f4:¬zeroV.i<wrap64 (zeroV.i+by_):=by rw [HOV.out.2.2 hno];omega
    have f1':decide ((0:Int)<by_)=false:=decide_eq_false f1
    have f3':decide (by_<0)=true:=decide_eq_true f3
    have f4':decide (zeroV.i<wrap64 (zeroV.i+by_))=false:=decide_eq_false f4
    have hw:wrap64 (zeroV.i+by_)=(0:Int)+by_:=HOV.out.2.2 hno
    have hres:incM M k by_=setMu M k (intV (wrap64 (zeroV.i+by_))):=by unfold incM;rw [HG.out,hw];exact if_neg hno
    have hb2 : -9223372036854775808≤wrap64 (zeroV.i+by_)∧wrap64 (zeroV.i+by_)≤9223372036854775807:=by unfold wrap64;omega
    have HRES:=Lib.hid (HR.out.symm.trans hres)
    have hput:=putX (v:=intV (wrap64 (zeroV.i+by_))) (sl:=Sl.none) (so:=Sl.none) (HH.out.nw (Nw.of HX.out)) (fun b hb=>Nat.lt_of_lt_of_le (hH b hb) HX.out.size) hn hkm (RV.flat _ _ _ _ _ _ (by decide) (WalkArith.wf_i64 hb2) (by decide)) (show 7+0+0+0≤1100000 by decide) (HL.out.nw (Nw.of HX.out))
    have HPUT:=Lib.hid hput
    clear hs hw hres hb2 hput hno
    go_wp2_with fail
    refine HPUT.out.mono ?_
    rintro e w2 ⟨rfl,d',hg'⟩
    have HGO:=Lib.hid (hg'.since (Nw.of HX.out))
    clear hg'
    go_wp2_with fail
    go_ret
    exact ⟨by rw [HRES.out] <;> rfl,d',by rw [HRES.out];exact HGO.out⟩
   have f1:¬(0:Int)<by_:=by omega
   have f3:¬by_<0:=by omega
   have f1':decide ((0:Int)<by_)=false:=decide_eq_false f1
   have f3':decide (by_<0)=false:=decide_eq_false f3
   have hw:wrap64 (zeroV.i+by_)=(0:Int)+by_:=HOV.out.2.2 hno
   have hres:incM M k by_=setMu M k (intV (wrap64 (zeroV.i+by_))):=by unfold incM;rw [HG.out,hw];exact if_neg hno
   have hb2 : -9223372036854775808≤wrap64 (zeroV.i+by_)∧wrap64 (zeroV.i+by_)≤9223372036854775807:=by unfold wrap64;omega
   have HRES:=Lib.hid (HR.out.symm.trans hres)
   have hput:=putX (v:=intV (wrap64 (zeroV.i+by_))) (sl:=Sl.none) (so:=Sl.none) (HH.out.nw (Nw.of HX.out)) (fun b hb=>Nat.lt_of_lt_of_le (hH b hb) HX.out.size) hn hkm (RV.flat _ _ _ _ _ _ (by decide) (WalkArith.wf_i64 hb2) (by decide)) (show 7+0+0+0≤1100000 by decide) (HL.out.nw (Nw.of HX.out))
   have HPUT:=Lib.hid hput
   clear hs hw hres hb2 hput hno
   go_wp2_with fail
   refine HPUT.out.mono ?_
   rintro e w2 ⟨rfl,d',hg'⟩
   have HGO:=Lib.hid (hg'.since (Nw.of HX.out))
   clear hg'
   go_wp2_with fail
   go_ret
   exact ⟨by rw [HRES.out] <;> rfl,d',by rw [HRES.out];exact HGO.out⟩
 | some x=>
   rw [hg] at hget
   have HG:=Lib.hid hg
   have HGET:=Lib.hid hget
   clear hg hget
   by_cases hk3:x.kind=3
   ·have gk:(x.kind != 3)=false:=by simp [hk3]
    have HK3:=Lib.hid hk3
    clear hk3
    go_enter Tryz.func78,Tryz.ntmps78
    go_wp2_with fail
    refine HGET.out.mono ?_
    rintro e W1 ⟨sl,so,rfl,hx1,hr1⟩
    have hx2:Ext W1 (W1.alloc (.cells #[.int .i64 x.kind,.bool x.b,.int .i64 x.i,.string x.t,.slice sl.a x.l.length sl.c,.slice so.a x.ok.length so.c] 28)):=(Ext.refl W1).alloc _ _
    have HX:=Lib.hid (hx1.trans hx2)
    have HOV:=Lib.hid (inc_over (n:=x.i) (b:=by_) hr1.rv.int hby)
    clear hx1 hx2 hr1
    by_cases hs:0<by_∧9223372036854775807 - by_<x.i
    ·skip
     have f1:(0:Int)<by_:=hs.1
     have f2:wrap64 (x.i+by_)<x.i:=HOV.out.1 hs
     have f1':decide ((0:Int)<by_)=true:=decide_eq_true f1
     have f2':decide (wrap64 (x.i+by_)<x.i)=true:=decide_eq_true f2
     have hres:incM M k by_=(7,M):=by unfold incM;rw [HG.out];dsimp only;rw [if_neg (by simp [HK3.out])];exact if_pos (.inl hs)
     have HRES:=Lib.hid (HR.out.symm.trans hres)
     clear hs hres
     go_wp2_with fail
     go_ret
     exact ⟨by rw [HRES.out] <;> rfl,d,by rw [HRES.out];exact HH.out.stay (Nw.of HX.out)⟩
    by_cases hs:by_<0∧x.i < -9223372036854775808 - by_
    ·skip
     have f1:¬(0:Int)<by_:=by omega
     have f3:by_<0:=hs.1
     have f4:x.i<wrap64 (x.i+by_):=HOV.out.2.1 hs
     have f1':decide ((0:Int)<by_)=false:=decide_eq_false f1
     have f3':decide (by_<0)=true:=decide_eq_true f3
     have f4':decide (x.i<wrap64 (x.i+by_))=true:=decide_eq_true f4
     have hres:incM M k by_=(7,M):=by unfold incM;rw [HG.out];dsimp only;rw [if_neg (by simp [HK3.out])];exact if_pos (.inr hs)
     have HRES:=Lib.hid (HR.out.symm.trans hres)
     clear hs hres
     go_wp2_with fail
     go_ret
     exact ⟨by rw [HRES.out] <;> rfl,d,by rw [HRES.out];exact HH.out.stay (Nw.of HX.out)⟩
    have hno:¬((0<by_∧9223372036854775807 - by_<x.i)∨(by_<0∧x.i < -9223372036854775808 - by_)):=by omega
    by_cases hs:0<by_
    ·skip
     have f1:(0:Int)<by_:=hs
     have f3:¬by_<0:=by omega
     have f2:¬wrap64 (x.i+by_)<x.i:=by rw [HOV.out.2.2 hno];omega
     have f1':decide ((0:Int)<by_)=true:=decide_eq_true f1
     have f3':decide (by_<0)=false:=decide_eq_false f3
     have f2':decide (wrap64 (x.i+by_)<x.i)=false:=decide_eq_false f2
     have hw:wrap64 (x.i+by_)=x.i+by_:=HOV.out.2.2 hno
     have hres:incM M k by_=setMu M k (intV (wrap64 (x.i+by_))):=by unfold incM;rw [HG.out,hw];dsimp only;rw [if_neg (by simp [HK3.out])];exact if_neg hno
     have hb2 : -9223372036854775808≤wrap64 (x.i+by_)∧wrap64 (x.i+by_)≤9223372036854775807:=by unfold wrap64;omega
     have HRES:=Lib.hid (HR.out.symm.trans hres)
     have hput:=putX (v:=intV (wrap64 (x.i+by_))) (sl:=Sl.none) (so:=Sl.none) (HH.out.nw (Nw.of HX.out)) (fun b hb=>Nat.lt_of_lt_of_le (hH b hb) HX.out.size) hn hkm (RV.flat _ _ _ _ _ _ (by decide) (WalkArith.wf_i64 hb2) (by decide)) (show 7+0+0+0≤1100000 by decide) (HL.out.nw (Nw.of HX.out))
     have HPUT:=Lib.hid hput
     clear hs hw hres hb2 hput hno
     go_wp2_with fail
     refine HPUT.out.mono ?_
     rintro e w2 ⟨rfl,d',hg'⟩
     have HGO:=Lib.hid (hg'.since (Nw.of HX.out))
     clear hg'
     go_wp2_with fail
     go_ret
     exact ⟨by rw [HRES.out] <;> rfl,d',by rw [HRES.out];exact HGO.out⟩
    by_cases hs:by_<0
    ·skip
     have f1:¬(0:Int)<by_:=by omega
     have f3:by_<0:=hs
     have f4:¬x.i<wrap64 (x.i+by_):=by rw [HOV.out.2.2 hno];omega
     have f1':decide ((0:Int)<by_)=false:=decide_eq_false f1
     have f3':decide (by_<0)=true:=decide_eq_true f3
     have f4':decide (x.i<wrap64 (x.i+by_))=false:=decide_eq_false f4
     have hw:wrap64 (x.i+by_)=x.i+by_:=HOV.out.2.2 hno
     have hres:incM M k by_=setMu M k (intV (wrap64 (x.i+by_))):=by unfold incM;rw [HG.out,hw];dsimp only;rw [if_neg (by simp [HK3.out])];exact if_neg hno
     have hb2 : -9223372036854775808≤wrap64 (x.i+by_)∧wrap64 (x.i+by_)≤9223372036854775807:=by unfold wrap64;omega
     have HRES:=Lib.hid (HR.out.symm.trans hres)
     have hput:=putX (v:=intV (wrap64 (x.i+by_))) (sl:=Sl.none) (so:=Sl.none) (HH.out.nw (Nw.of HX.out)) (fun b hb=>Nat.lt_of_lt_of_le (hH b hb) HX.out.size) hn hkm (RV.flat _ _ _ _ _ _ (by decide) (WalkArith.wf_i64 hb2) (by decide)) (show 7+0+0+0≤1100000 by decide) (HL.out.nw (Nw.of HX.out))
     have HPUT:=Lib.hid hput
     clear hs hw hres hb2 hput hno
     go_wp2_with fail
     refine HPUT.out.mono ?_
     rintro e w2 ⟨rfl,d',hg'⟩
     have HGO:=Lib.hid (hg'.since (Nw.of HX.out))
     clear hg'
     go_wp2_with fail
     go_ret
     exact ⟨by rw [HRES.out] <;> rfl,d',by rw [HRES.out];exact HGO.out⟩
    have f1:¬(0:Int)<by_:=by omega
    have f3:¬by_<0:=by omega
    have f1':decide ((0:Int)<by_)=false:=decide_eq_false f1
    have f3':decide (by_<0)=false:=decide_eq_false f3
    have hw:wrap64 (x.i+by_)=x.i+by_:=HOV.out.2.2 hno
    have hres:incM M k by_=setMu M k (intV (wrap64 (x.i+by_))):=by unfold incM;rw [HG.out,hw];dsimp only;rw [if_neg (by simp [HK3.out])];exact if_neg hno
    have hb2 : -9223372036854775808≤wrap64 (x.i+by_)∧wrap64 (x.i+by_)≤9223372036854775807:=by unfold wrap64;omega
    have HRES:=Lib.hid (HR.out.symm.trans hres)
    have hput:=putX (v:=intV (wrap64 (x.i+by_))) (sl:=Sl.none) (so:=Sl.none) (HH.out.nw (Nw.of HX.out)) (fun b hb=>Nat.lt_of_lt_of_le (hH b hb) HX.out.size) hn hkm (RV.flat _ _ _ _ _ _ (by decide) (WalkArith.wf_i64 hb2) (by decide)) (show 7+0+0+0≤1100000 by decide) (HL.out.nw (Nw.of HX.out))
    have HPUT:=Lib.hid hput
    clear hs hw hres hb2 hput hno
    go_wp2_with fail
    refine HPUT.out.mono ?_
    rintro e w2 ⟨rfl,d',hg'⟩
    have HGO:=Lib.hid (hg'.since (Nw.of HX.out))
    clear hg'
    go_wp2_with fail
    go_ret
    exact ⟨by rw [HRES.out] <;> rfl,d',by rw [HRES.out];exact HGO.out⟩
   have gk:(x.kind != 3)=true:=by simp [hk3]
   have HRES:=Lib.hid (HR.out.symm.trans (incM_kind HG.out hk3))
   clear hk3
   go_enter Tryz.func78,Tryz.ntmps78
   go_wp2_with fail
   refine HGET.out.mono ?_
   rintro e W1 ⟨sl,so,rfl,hx1,hr1⟩
   have hx2:Ext W1 (W1.alloc (.cells #[.int .i64 x.kind,.bool x.b,.int .i64 x.i,.string x.t,.slice sl.a x.l.length sl.c,.slice so.a x.ok.length so.c] 28)):=(Ext.refl W1).alloc _ _
   have HX:=Lib.hid (hx1.trans hx2)
   clear hx1 hx2 hr1
   go_wp2_with fail
   go_ret
   exact ⟨by rw [HRES.out] <;> rfl,d,by rw [HRES.out];exact HH.out.stay (Nw.of HX.out)⟩
end Go.Proofs.YtkhdiakpdafcdaaGreatDoor
namespace Go.Proofs.YtkhdiakpdafcdaaGreatDoor
open Go.RowKit
set_option linter.unusedVariables false
section
variable {P : Program} {ops : Array Oper} {Q : Exit → Act → World → Prop} {md : Region.Mode} {S : World → Prop}
end
theorem there_blk {w:World} {b t n:Nat} {cs:Array Value} (h:Blk w b t cs) (hn:n≤cs.size):w.there b 0 n:=fun j hj=>
 ⟨by rw [h.cell];simp;omega,h.frozen _⟩
theorem Ext.setCells {w:World} {b:Nat} (hb:w.heap.size≤b):∀ (vs:List Value) (o:Nat) {W:World},Ext w W→Ext w (W.setCells b o vs)
 | [],_,_,h=>h
 | v :: vs,o,W,h=>by
   rw [World.setCells]
   exact Ext.setCells hb vs (o+1) (h.setCell (p:=⟨b,o,none⟩) hb v)
end Go.Proofs.YtkhdiakpdafcdaaGreatDoor
namespace Go.Proofs.YtkhdiakpdafcdaaGreatDoor
open Go.RowKit Go.Maps Go.Shelf
set_option linter.unusedVariables false
set_option linter.unusedSimpArgs false
abbrev boxMu (m:Mu) (c:MuS):Array Value:=(cellsMu m c).toArray
theorem len_mu (m:Mu) (c:MuS):(cellsMu m c).length=19:=rfl
theorem Tryz.infoMut:(Tryz.prog.info? 31).map (·.size)=some 19:=by kernel_rfl
theorem MuC.range {w:World} {b o:Nat} {m:Mu} {c:MuS} (h:MuC w b o m c):w.rangeAt b o (cellsMu m c):=h
theorem MuC.of_blk {w:World} {b:Nat} {t:TypeId} {m:Mu} {c:MuS} (h:Blk w b t (boxMu m c)):MuC w b 0 m c:=fun j u hu=>by
 rw [Nat.zero_add,h.cell]
 simpa using hu
theorem MuC.lt {w:World} {b o:Nat} {m:Mu} {c:MuS} (h:MuC w b o m c):b<w.heap.size:=World.block_lt_of_cell? w _ (h 0 _ rfl)
theorem MuC.ext {w w':World} {b o:Nat} {m:Mu} {c:MuS} (h:MuC w b o m c) (k:Ext w w'):MuC w' b o m c:=fun j u hu=>(k.cell h.lt).trans (h j u hu)
theorem load_mu {ops:Array Oper} {rest:List Oper} {op:Oper} {a:Act} {w:World} {Q:Exit→Act→World→Prop} (hgd:op.guard=none) (x:Operand) (ho:op.op=.load 31 x)
  (b o:Nat) (hx:a.eval x=.pointer (some ⟨b,o,none⟩)) (m:Mu) (c:MuS) (hc:MuC w b o m c) (h:wpList Tryz.prog ops Q rest (a.put op.dst (aggMu m c)) w):wpList Tryz.prog ops Q (op :: rest) a w:=
 wpList_load_mid hgd 31 x ho b o hx (cellsMu m c) _ hc.range Tryz.underlying31 rfl (by rw [len_mu];exact Tryz.infoMut) h
theorem blk_setCells {b:Nat} {t:TypeId}:∀ (vs:List Value) (o:Nat) {w:World} {z:Array Value},Blk w b t z→∃ z',Blk (w.setCells b o vs) b t z'∧z'.size=z.size
 | [],_,_,z,h=>⟨z,h,rfl⟩
 | v :: vs,o,w,z,h=>by
   obtain ⟨z',h1,h2⟩:=blk_setCells vs (o+1) (h.set_ o v)
   exact ⟨z',h1,by rw [h2];simp⟩
theorem store_mu {ops:Array Oper} {rest:List Oper} {op:Oper} {a:Act} {w:World} {Q:Exit→Act→World→Prop} (hgd:op.guard=none) (x y:Operand) (ho:op.op=.store 31 x y)
  (m:Mu) (c:MuS) {w0:World} {b:Nat} (hb:w0.heap.size=b) (hw:Ext w0 w) {z:Array Value} (hz:Blk w b 31 z) (hzs:z.size=19) (hx:a.eval x=.pointer (some ⟨b,0,none⟩)) (hy:a.eval y=aggMu m c)
  (h:∀ w',Ext w0 w'→Blk w' b 31 (boxMu m c)→wpList Tryz.prog ops Q rest (a.put op.dst undef) w'):wpList Tryz.prog ops Q (op :: rest) a w:=by
 have hth:w.there b 0 (boxMu m c).size:=there_blk hz (by rw [hzs];exact Nat.le_refl 19)
 refine wpList_store_mid hgd 31 x y ho b 0 (boxMu m c) hx hy hth (by exact Tryz.infoMut) ?_ (h _ (Ext.setCells (by omega) _ _ hw) ?_)
 ·show ((cellsMu m c).toArray.all _)=true
  simp [cellsMu,Value.oneCell']
 have hr:=World.rangeAt_setCells_same w b 0 (cellsMu m c) hth
 obtain ⟨z',h1,h2⟩:=blk_setCells (cellsMu m c) 0 hz
 have hzl:z'.toList=cellsMu m c:=by
  refine List.ext_getElem? fun j=>?_
  rw [Array.getElem?_toList]
  by_cases hj:j<19
  ·obtain ⟨v,hv⟩:∃ v,(cellsMu m c)[j]? = some v:=⟨_,List.getElem?_eq_getElem hj⟩
   have h3:=hr j v hv
   rw [Nat.zero_add,h1.cell] at h3
   rw [h3,hv]
  rw [Array.getElem?_eq_none (by omega),List.getElem?_eq_none (by rw [len_mu];omega)]
 have hzz:z'=boxMu m c:=Array.toList_inj.1 (hzl.trans (List.toList_toArray).symm)
 have e:(boxMu m c).toList=cellsMu m c:=List.toList_toArray
 rw [e,←hzz]
 exact h1
theorem MuC.c19 {w:World} {b o:Nat} {m:Mu} {c:MuS} (h:MuC w b o m c):w.cell? ⟨b,o,none⟩=some (.int .i64 m.kd)∧w.cell? ⟨b,o+1,none⟩=some (.string m.k)∧w.cell? ⟨b,o+2,none⟩=some (.string m.tk)∧w.cell? ⟨b,o+3,none⟩=some (.int .i64 m.i)∧w.cell? ⟨b,o+4,none⟩=some (.bool m.had)∧w.cell? ⟨b,o+5,none⟩=some (.int .i64 m.was.kind)∧w.cell? ⟨b,o+6,none⟩=some (.bool m.was.b)∧w.cell? ⟨b,o+7,none⟩=some (.int .i64 m.was.i)∧w.cell? ⟨b,o+8,none⟩=some (.string m.was.t)∧w.cell? ⟨b,o+9,none⟩=some (.slice c.w1.a m.was.l.length c.w1.c)∧w.cell? ⟨b,o+10,none⟩=some (.slice c.w2.a m.was.ok.length c.w2.c)∧w.cell? ⟨b,o+11,none⟩=some (.bool m.has)∧w.cell? ⟨b,o+12,none⟩=some (.int .i64 m.v.kind)∧w.cell? ⟨b,o+13,none⟩=some (.bool m.v.b)∧w.cell? ⟨b,o+14,none⟩=some (.int .i64 m.v.i)∧w.cell? ⟨b,o+15,none⟩=some (.string m.v.t)∧w.cell? ⟨b,o+16,none⟩=some (.slice c.v1.a m.v.l.length c.v1.c)∧w.cell? ⟨b,o+17,none⟩=some (.slice c.v2.a m.v.ok.length c.v2.c)∧w.cell? ⟨b,o+18,none⟩=some (.slice c.s.a m.l.length c.s.c):=
 ⟨h 0 _ rfl,h 1 _ rfl,h 2 _ rfl,h 3 _ rfl,h 4 _ rfl,h 5 _ rfl,h 6 _ rfl,h 7 _ rfl,h 8 _ rfl,h 9 _ rfl,h 10 _ rfl,h 11 _ rfl,h 12 _ rfl,h 13 _ rfl,h 14 _ rfl,h 15 _ rfl,h 16 _ rfl,h 17 _ rfl,h 18 _ rfl⟩
theorem box_mu {w W0:World} {m:Mu} {c:MuS} (h:w.alloc (.cells (boxMu m c) 31)=W0):Ext w W0∧MuC W0 w.heap.size 0 m c∧W0.heap.size=w.heap.size+1:=by
 rw [←h]
 exact ⟨(Ext.refl w).alloc _ _,MuC.of_blk (Blk.new w _ _),World.size_alloc _ _⟩
theorem RMu.parts {w:World} {F:Nat→Prop} {m:Mu} {c:MuS} (h:RMu w F m c):RV w F m.was c.w1 c.w2∧RV w F m.v c.v1 c.v2∧m.k.size≤maxLen∧m.tk.size≤maxLen∧(-9223372036854775808≤m.i∧m.i≤9223372036854775807):=by
 cases h with
 | mk bl fl cl rw_ rv hl el rl bk bt bkd bi nl=>exact ⟨rw_,rv,bk,bt,i64_b bi⟩
theorem totM_v (m:Mu):cntV m.v≤totM m∧cntV m.was≤totM m:=by
 obtain ⟨kd,k,tk,i,had,was,has,v,l⟩:=m
 simp only [totM,Mu.v,Mu.was]
 omega
def casM (M:List Ent) (m:Mu):Int × List Ent:=if asM M m.k m.had m.was then (if m.has then setMu M m.k m.v else (0,delE M m.k)) else (13,M)
theorem cas_any {H:Nat→Prop} {w:World} {O:Nat} {d:OD} {M:List Ent} {m:Mu} {c:MuS} (h:OvX H w O d M) (hH:∀ b,H b→b<w.heap.size) (hn:d.us.length≤1000000) (hl:(entsT d.T).length≤1000000) (hm:RMu w (Lt w.heap.size) m c) (ht:totM m≤1100000) (hL:LibQ w) :
  Calls Tryz.prog 79 #[.pointer (some ⟨O,0,none⟩),aggMu m c] w fun e w'=>e=.returned (.int .i64 (casM M m).1)∧∃ d',GoX H w O d (casM M m).2 1 w' d':=by
 obtain ⟨-,hv,hk,-,-⟩:=hm.parts
 have hsd:=fun W (hW:Ext w W)=>said_any (h.nw (Nw.of hW)) hl ((hm.agree (hW.agree fun _ h=>h)).mono (G:=Lt W.heap.size) fun b hb=>Nat.lt_of_lt_of_le hb hW.size)
 have HSD:=Lib.hid hsd
 have HH:=Lib.hid h
 have HL:=Lib.hid hL
 have HV:=Lib.hid hv
 have hcv:cntV m.v≤1100000:=by have:=(totM_v m).1;omega
 clear hsd h hL hm ht hv
 obtain ⟨r,hr⟩:∃ r,casM M m=r:=⟨_,rfl⟩
 rw [hr]
 unfold casM at hr
 cases ha:asM M m.k m.had m.was with
 | false=>
   rw [ha] at HSD hr
   rw [if_neg (by simp)] at hr
   have HR:=Lib.hid hr
   clear hr ha
   go_enter Tryz.func79,Tryz.ntmps79
   go_upto_region 1 with fail
   generalize hW0:World.alloc _ _=W0
   obtain ⟨hx0,hb0,-⟩:=box_mu (m:=m) (c:=c) hW0
   have HX0:=Lib.hid hx0
   have HB0:=Lib.hid hb0
   clear hW0 hx0 hb0
   go_wp2_with (refine load_mu rfl (.tmp 3) rfl w.heap.size 0 rfl m c HB0.out ?_)
   refine (HSD.out _ HX0.out).mono ?_
   rintro e W1 ⟨rfl,hx1⟩
   have HX1:=Lib.hid (HX0.out.trans hx1)
   clear hx1
   go_wp2_with fail
   go_ret
   exact ⟨by rw [←HR.out] <;> rfl,d,by rw [←HR.out];exact HH.out.stay (Nw.of HX1.out)⟩
 | true=>
   rw [ha] at HSD hr
   rw [if_pos rfl] at hr
   cases hh:m.has with
   | true=>
     rw [hh,if_pos rfl] at hr
     have HR:=Lib.hid hr
     have HHAS:=Lib.hid hh
     clear hr ha hh
     go_enter Tryz.func79,Tryz.ntmps79
     go_upto_region 1 with fail
     generalize hW0:World.alloc _ _=W0
     obtain ⟨hx0,hb0,-⟩:=box_mu (m:=m) (c:=c) hW0
     have HX0:=Lib.hid hx0
     have HB0:=Lib.hid hb0
     clear hW0 hx0 hb0
     go_wp2_with (refine load_mu rfl (.tmp 3) rfl w.heap.size 0 rfl m c HB0.out ?_)
     refine (HSD.out _ HX0.out).mono ?_
     rintro e W1 ⟨rfl,hx1⟩
     have hX1:=HX0.out.trans hx1
     have hb1:=HB0.out.ext hx1
     obtain ⟨c0,c1,c2,c3,c4,c5,c6,c7,c8,c9,c10,c11,c12,c13,c14,c15,c16,c17,c18⟩:=hb1.c19
     simp only [Nat.zero_add] at c0 c1 c2 c3 c4 c5 c6 c7 c8 c9 c10 c11 c12 c13 c14 c15 c16 c17 c18
     rw [HHAS.out] at c11
     have l1:=hb1.lt
     have hput:=putX (HH.out.nw (Nw.of hX1)) (fun b hb=>Nat.lt_of_lt_of_le (hH b hb) hX1.size) hn hk ((HV.out.agree (hX1.agree fun _ h=>h)).mono fun b hb=>Nat.lt_of_lt_of_le hb hX1.size) hcv (HL.out.nw (Nw.of hX1))
     have HPUT:=Lib.hid hput
     have HX1:=Lib.hid hX1
     clear hx1 hb1 hX1 hput c0 c2 c3 c4 c5 c6 c7 c8 c9 c10 c18
     go_wp2_with fail
     refine HPUT.out.mono ?_
     rintro e W2 ⟨rfl,d',hg'⟩
     have HGO:=Lib.hid (hg'.since (Nw.of HX1.out))
     clear hg'
     go_wp2_with fail
     go_ret
     exact ⟨by rw [←HR.out] <;> rfl,d',by rw [←HR.out];exact HGO.out⟩
   | false=>
     rw [hh,if_neg (by simp)] at hr
     have HR:=Lib.hid hr
     have HHAS:=Lib.hid hh
     clear hr ha hh
     go_enter Tryz.func79,Tryz.ntmps79
     go_upto_region 1 with fail
     generalize hW0:World.alloc _ _=W0
     obtain ⟨hx0,hb0,-⟩:=box_mu (m:=m) (c:=c) hW0
     have HX0:=Lib.hid hx0
     have HB0:=Lib.hid hb0
     clear hW0 hx0 hb0
     go_wp2_with (refine load_mu rfl (.tmp 3) rfl w.heap.size 0 rfl m c HB0.out ?_)
     refine (HSD.out _ HX0.out).mono ?_
     rintro e W1 ⟨rfl,hx1⟩
     have hX1:=HX0.out.trans hx1
     have hb1:=HB0.out.ext hx1
     have c11:W1.cell? ⟨w.heap.size,11,none⟩=some (.bool m.has):=hb1 11 _ rfl
     have c1:W1.cell? ⟨w.heap.size,1,none⟩=some (.string m.k):=hb1 1 _ rfl
     rw [HHAS.out] at c11
     have l1:=hb1.lt
     have hdel:=delX (HH.out.nw (Nw.of hX1)) (fun b hb=>Nat.lt_of_lt_of_le (hH b hb) hX1.size) hn hl hk
     have HDEL:=Lib.hid hdel
     have HX1:=Lib.hid hX1
     clear hx1 hb1 hX1 hdel
     go_wp2_with fail
     refine HDEL.out.mono ?_
     rintro e W2 ⟨rfl,d',hg'⟩
     have HGO:=Lib.hid (hg'.since (Nw.of HX1.out))
     clear hg'
     go_wp2_with fail
     go_ret
     exact ⟨by rw [←HR.out] <;> rfl,d',by rw [←HR.out];exact HGO.out⟩
theorem RMu.at {w:World} {F:Nat→Prop} {m:Mu} {c:MuS} (h:RMu w F m c) {j:Nat} {x:Mu} (hx:m.l[j]? = some x) :
  ∃ b o y,c.s.a=some ⟨b,o,none⟩∧F b∧m.l.length≤c.s.c∧c.s.c≤maxLen∧MuC w b (o+j*19) x y∧RMu w F x y:=by
 cases h with
 | mk bl fl cl rw_ rv hl el rl bk bt bkd bi nl=>
   obtain ⟨e1,e2,e3⟩:=hl.eq (lt_length hx)
   exact ⟨bl,fl,cl j,e1,hl.fits (lt_length hx),e2,e3,el j x hx,rl j x hx⟩
theorem RMu.len {w:World} {F:Nat→Prop} {m:Mu} {c:MuS} (h:RMu w F m c):m.l.length*264≤140737488355328:=by
 cases h with
 | mk bl fl cl rw_ rv hl el rl bk bt bkd bi nl=>exact nl
theorem Mu.sz_at {m:Mu} {j:Nat} {x:Mu} (h:m.l[j]? = some x):SizeOf.sizeOf x<SizeOf.sizeOf m:=by
 obtain ⟨kd,k,tk,i,had,was,has,v,l⟩:=m
 have h1:SizeOf.sizeOf x<SizeOf.sizeOf l:=List.sizeOf_lt_of_mem (List.mem_of_getElem? h)
 simp only [Mu.mk.sizeOf_spec]
 omega
theorem sizeM_eq (m:Mu):sizeM m=1+sizeMs m.l:=by
 obtain ⟨kd,k,tk,i,had,was,has,v,l⟩:=m
 rw [sizeM];rfl
theorem sizeMs_le:∀ (l:List Mu) (j:Nat),sizeMs (l.take j)≤sizeMs l
 | [],j=>by simp
 | x :: r,0=>by simp [sizeMs]
 | x :: r,j+1=>by have:=sizeMs_le r j;rw [List.take_succ_cons,sizeMs,sizeMs];omega
theorem size_anyN (n:Nat):∀ (m:Mu) (c:MuS) (w:World),SizeOf.sizeOf m≤n→RMu w (Lt w.heap.size) m c→sizeM m≤1100000→Calls Tryz.prog 73 #[aggMu m c] w fun e w'=>e=.returned (.int .i64 (sizeM m:Int))∧Ext w w':=by
 induction n with
 | zero=>intro m c w h;have:=Mu.sz_pos m;omega
 | succ n ih=>
   intro m c w hn hm hs
   have HI:=Lib.hid ih
   have HM:=Lib.hid hm
   have hlen:=hm.len
   have HSZ:=Lib.hid (sizeM_eq m)
   have HS:=Lib.hid hs
   have HN:=Lib.hid hn
   clear ih hm hs hn
   go_enter Tryz.func73,Tryz.ntmps73
   go_upto_region 1 with fail
   generalize hW0:World.alloc _ _=W0
   obtain ⟨hx0,hb0,-⟩:=box_mu (m:=m) (c:=c) hW0
   have HX0:=Lib.hid hx0
   have c18:W0.cell? ⟨w.heap.size,8+10,none⟩=some (.slice c.s.a m.l.length c.s.c):=hb0 18 _ rfl
   clear hW0 hx0 hb0
   go_wp2_with fail
   go_loopw [3,9] (fun v3 v9 wr=>∃ j:Nat,v9=.int .i64 (j:Int)∧v3=.int .i64 ((1+sizeMs (m.l.take j):Nat):Int)∧j≤m.l.length∧Hid (Ext w wr)) (fun _ v _=>m.l.length - (intOf v).toNat)
   case atStart=>exact ⟨0,rfl,by simp [sizeMs],Nat.zero_le _,HX0⟩
   obtain ⟨j,rfl,rfl,hj,HX⟩:=hrel
   by_cases hlt:j<m.l.length
   ·have l1:(j:Int)<(m.l.length:Int):=by omega
    have l1':decide ((j:Int)<(m.l.length:Int))=true:=decide_eq_true l1
    have l0:(0:Int)≤(j:Int):=by omega
    obtain ⟨x,hx⟩:∃ x,m.l[j]? = some x:=⟨_,List.getElem?_eq_getElem hlt⟩
    obtain ⟨b,o,y,hsa,hbl,hlc,hcm,hcl,hrx⟩:=HM.out.at hx
    have hbl:b<w.heap.size:=hbl
    have hblr:b<wr.heap.size:=Nat.lt_of_lt_of_le hbl HX.out.size
    have HROW:=Lib.hid (hcl.agree (HX.out.agree fun _ h=>h) hbl)
    have hsx:sizeM x≤sizeMs m.l:=by
     have h1:=sizeMs_take hx
     have h2:=sizeMs_le m.l (j+1)
     omega
    have hmle:1+sizeMs m.l≤1100000:=by rw [←HSZ.out];exact HS.out
    have hcall:=fun W (hW:Ext wr W)=>HI.out x y W (by have:=Mu.sz_at hx;have:=HN.out;omega) ((hrx.agree ((HX.out.trans hW).agree fun _ h=>h)).mono fun b hb=>Nat.lt_of_lt_of_le hb (HX.out.trans hW).size) (by omega)
    have HCALL:=Lib.hid hcall
    have HTK:=Lib.hid (sizeMs_take hx)
    have hle2:=sizeMs_le m.l (j+1)
    have hw1:wrap64 (1+(sizeMs (m.l.take j):Int)+(sizeM x:Int))=((1+sizeMs (m.l.take (j+1)):Nat):Int):=by
     unfold wrap64
     rw [HTK.out] at hle2 ⊢
     omega
    have HW1:=Lib.hid hw1
    clear hrx hcl hsx hmle hcall hle2 hw1 hx
    rw [hsa]
    go_wp2_with (first | (refine load_mu rfl (.tmp 11) rfl b (o+j*19) rfl x y HROW.out ?_) | (refine store_mu rfl (.tmp 5) (.tmp 12) rfl x y (w0:=wr) (b:=wr.heap.size) rfl ((Ext.refl wr).alloc _ _) (Blk.new wr _ _) rfl rfl rfl ?_;intro w5 hx5 hm5;have HX5:=Lib.hid hx5;have HM5:=Lib.hid (MuC.of_blk hm5);clear hx5 hm5) | (refine load_mu rfl (.tmp 5) rfl wr.heap.size 0 rfl x y HM5.out ?_))
    refine (HCALL.out _ HX5.out).mono ?_
    rintro e w2 ⟨rfl,hx2⟩
    have HX2:=Lib.hid ((HX.out.trans HX5.out).trans hx2)
    clear hx2
    go_wp2_with fail
    go_roundw
    case rel=>exact ⟨j+1,by go_num,by rw [HW1.out],hlt,HX2⟩
    simp [intOf];omega
   obtain rfl:j=m.l.length:=by omega
   have l1:decide ((m.l.length:Int)<(m.l.length:Int))=false:=decide_eq_false (by omega)
   have HT:=Lib.hid (show ((1+sizeMs (m.l.take m.l.length):Nat):Int)=(sizeM m:Int) by rw [List.take_length,HSZ.out])
   go_wp2_with fail
   go_ret
   exact ⟨by rw [HT.out] <;> rfl,HX.out⟩
theorem size_any' {m:Mu} {c:MuS} {w:World} (h:RMu w (Lt w.heap.size) m c) (hs:sizeM m≤1100000):Calls Tryz.prog 73 #[aggMu m c] w fun e w'=>e=.returned (.int .i64 (sizeM m:Int))∧Ext w w':=size_anyN _ m c w (Nat.le_refl _) h hs
def blankM (m:Mu):Bool:=m.k.size == 0 && m.tk.size == 0 && m.i == 0 && !m.had && nilV m.was && !m.has && nilV m.v && m.l.length == 0
theorem blank_any (w:World) (m:Mu) (c:MuS):Calls Tryz.prog 173 #[aggMu m c] w fun e w'=>e=.returned (.bool (blankM m))∧Ext w w':=by
 obtain ⟨r,hr⟩:∃ r,blankM m=r:=⟨_,rfl⟩
 rw [hr]
 unfold blankM at hr
 by_cases h0:m.k.size=0
 rotate_left
 ·have g0:=full_text h0
  have HR:=Lib.hid (show false=r by rw [←hr];simp [h0])
  clear hr h0
  go_enter Tryz.func173,Tryz.ntmps173
  go_upto_region 1 with fail
  generalize hW0:World.alloc _ _=W0
  obtain ⟨hx0,hb0,-⟩:=box_mu (m:=m) (c:=c) hW0
  have HX0:=Lib.hid hx0
  have HB0:=Lib.hid hb0
  obtain ⟨c0,c1,c2,c3,c4,c5,c6,c7,c8,c9,c10,c11,c12,c13,c14,c15,c16,c17,c18⟩:=hb0.c19
  simp only [Nat.zero_add] at c0 c1 c2 c3 c4 c5 c6 c7 c8 c9 c10 c11 c12 c13 c14 c15 c16 c17 c18
  have l0:=hb0.lt
  clear hW0 hx0 hb0
  go_wp2_with fail
  go_ret
  exact ⟨by rw [←HR.out] <;> rfl,HX0.out⟩
 have g0:=empty_text h0
 by_cases h1:m.tk.size=0
 rotate_left
 ·have g1:=full_text h1
  have HR:=Lib.hid (show false=r by rw [←hr];simp [h0,h1])
  clear hr h0 h1
  go_enter Tryz.func173,Tryz.ntmps173
  go_upto_region 1 with fail
  generalize hW0:World.alloc _ _=W0
  obtain ⟨hx0,hb0,-⟩:=box_mu (m:=m) (c:=c) hW0
  have HX0:=Lib.hid hx0
  have HB0:=Lib.hid hb0
  obtain ⟨c0,c1,c2,c3,c4,c5,c6,c7,c8,c9,c10,c11,c12,c13,c14,c15,c16,c17,c18⟩:=hb0.c19
  simp only [Nat.zero_add] at c0 c1 c2 c3 c4 c5 c6 c7 c8 c9 c10 c11 c12 c13 c14 c15 c16 c17 c18
  have l0:=hb0.lt
  clear hW0 hx0 hb0
  go_wp2_with fail
  go_ret
  exact ⟨by rw [←HR.out] <;> rfl,HX0.out⟩
 have g1:=empty_text h1
 by_cases h2:m.i=0
 rotate_left
 ·have g2:(m.i == 0)=false:=beq_eq_false_iff_ne.2 h2
  have HR:=Lib.hid (show false=r by rw [←hr];simp [h0,h1,h2])
  clear hr h0 h1 h2
  go_enter Tryz.func173,Tryz.ntmps173
  go_upto_region 1 with fail
  generalize hW0:World.alloc _ _=W0
  obtain ⟨hx0,hb0,-⟩:=box_mu (m:=m) (c:=c) hW0
  have HX0:=Lib.hid hx0
  have HB0:=Lib.hid hb0
  obtain ⟨c0,c1,c2,c3,c4,c5,c6,c7,c8,c9,c10,c11,c12,c13,c14,c15,c16,c17,c18⟩:=hb0.c19
  simp only [Nat.zero_add] at c0 c1 c2 c3 c4 c5 c6 c7 c8 c9 c10 c11 c12 c13 c14 c15 c16 c17 c18
  have l0:=hb0.lt
  clear hW0 hx0 hb0
  go_wp2_with fail
  go_ret
  exact ⟨by rw [←HR.out] <;> rfl,HX0.out⟩
 have g2:(m.i == 0)=true:=by simp [h2]
 by_cases h3:m.had=false
 rotate_left
 ·have g3:m.had=true:=by simpa using h3
  have HR:=Lib.hid (show false=r by rw [←hr];simp [h0,h1,h2,h3])
  clear hr h0 h1 h2 h3
  go_enter Tryz.func173,Tryz.ntmps173
  go_upto_region 1 with fail
  generalize hW0:World.alloc _ _=W0
  obtain ⟨hx0,hb0,-⟩:=box_mu (m:=m) (c:=c) hW0
  have HX0:=Lib.hid hx0
  have HB0:=Lib.hid hb0
  obtain ⟨c0,c1,c2,c3,c4,c5,c6,c7,c8,c9,c10,c11,c12,c13,c14,c15,c16,c17,c18⟩:=hb0.c19
  simp only [Nat.zero_add] at c0 c1 c2 c3 c4 c5 c6 c7 c8 c9 c10 c11 c12 c13 c14 c15 c16 c17 c18
  have l0:=hb0.lt
  clear hW0 hx0 hb0
  go_wp2_with fail
  go_ret
  exact ⟨by rw [←HR.out] <;> rfl,HX0.out⟩
 have g3:m.had=false:=h3
 by_cases h4:nilV m.was=true
 rotate_left
 ·have g4:nilV m.was=false:=by simpa using h4
  have HR:=Lib.hid (show false=r by rw [←hr];simp [h0,h1,h2,h3,h4])
  clear hr h0 h1 h2 h3 h4
  go_enter Tryz.func173,Tryz.ntmps173
  go_upto_region 1 with fail
  generalize hW0:World.alloc _ _=W0
  obtain ⟨hx0,hb0,-⟩:=box_mu (m:=m) (c:=c) hW0
  have HX0:=Lib.hid hx0
  have HB0:=Lib.hid hb0
  obtain ⟨c0,c1,c2,c3,c4,c5,c6,c7,c8,c9,c10,c11,c12,c13,c14,c15,c16,c17,c18⟩:=hb0.c19
  simp only [Nat.zero_add] at c0 c1 c2 c3 c4 c5 c6 c7 c8 c9 c10 c11 c12 c13 c14 c15 c16 c17 c18
  have l0:=hb0.lt
  clear hW0 hx0 hb0
  go_wp2_with fail
  refine (zero_any _ m.was c.w1 c.w2).mono ?_
  rintro e W1 ⟨rfl,hx1⟩
  have HX1:=Lib.hid (HX0.out.trans hx1)
  clear hx1 c0 c1 c2 c3 c4 c5 c6 c7 c8 c9 c10 c11 c12 c13 c14 c15 c16 c17 c18
  rw [g4]
  go_wp2_with fail
  go_ret
  exact ⟨by rw [←HR.out] <;> rfl,HX1.out⟩
 have g4:nilV m.was=true:=h4
 by_cases h5:m.has=false
 rotate_left
 ·have g5:m.has=true:=by simpa using h5
  have HR:=Lib.hid (show false=r by rw [←hr];simp [h0,h1,h2,h3,h4,h5])
  clear hr h0 h1 h2 h3 h4 h5
  go_enter Tryz.func173,Tryz.ntmps173
  go_upto_region 1 with fail
  generalize hW0:World.alloc _ _=W0
  obtain ⟨hx0,hb0,-⟩:=box_mu (m:=m) (c:=c) hW0
  have HX0:=Lib.hid hx0
  have HB0:=Lib.hid hb0
  obtain ⟨c0,c1,c2,c3,c4,c5,c6,c7,c8,c9,c10,c11,c12,c13,c14,c15,c16,c17,c18⟩:=hb0.c19
  simp only [Nat.zero_add] at c0 c1 c2 c3 c4 c5 c6 c7 c8 c9 c10 c11 c12 c13 c14 c15 c16 c17 c18
  have l0:=hb0.lt
  clear hW0 hx0 hb0
  go_wp2_with fail
  refine (zero_any _ m.was c.w1 c.w2).mono ?_
  rintro e W1 ⟨rfl,hx1⟩
  have d11:=(hx1.cell l0).trans c11
  have d12:=(hx1.cell l0).trans c12
  have d13:=(hx1.cell l0).trans c13
  have d14:=(hx1.cell l0).trans c14
  have d15:=(hx1.cell l0).trans c15
  have d16:=(hx1.cell l0).trans c16
  have d17:=(hx1.cell l0).trans c17
  have d18:=(hx1.cell l0).trans c18
  have l1:=Nat.lt_of_lt_of_le l0 hx1.size
  have HX1:=Lib.hid (HX0.out.trans hx1)
  clear hx1 c0 c1 c2 c3 c4 c5 c6 c7 c8 c9 c10 c11 c12 c13 c14 c15 c16 c17 c18
  rw [g4]
  go_wp2_with fail
  go_ret
  exact ⟨by rw [←HR.out] <;> rfl,HX1.out⟩
 have g5:m.has=false:=h5
 by_cases h6:nilV m.v=true
 rotate_left
 ·have g6:nilV m.v=false:=by simpa using h6
  have HR:=Lib.hid (show false=r by rw [←hr];simp [h0,h1,h2,h3,h4,h5,h6])
  clear hr h0 h1 h2 h3 h4 h5 h6
  go_enter Tryz.func173,Tryz.ntmps173
  go_upto_region 1 with fail
  generalize hW0:World.alloc _ _=W0
  obtain ⟨hx0,hb0,-⟩:=box_mu (m:=m) (c:=c) hW0
  have HX0:=Lib.hid hx0
  have HB0:=Lib.hid hb0
  obtain ⟨c0,c1,c2,c3,c4,c5,c6,c7,c8,c9,c10,c11,c12,c13,c14,c15,c16,c17,c18⟩:=hb0.c19
  simp only [Nat.zero_add] at c0 c1 c2 c3 c4 c5 c6 c7 c8 c9 c10 c11 c12 c13 c14 c15 c16 c17 c18
  have l0:=hb0.lt
  clear hW0 hx0 hb0
  go_wp2_with fail
  refine (zero_any _ m.was c.w1 c.w2).mono ?_
  rintro e W1 ⟨rfl,hx1⟩
  have d11:=(hx1.cell l0).trans c11
  have d12:=(hx1.cell l0).trans c12
  have d13:=(hx1.cell l0).trans c13
  have d14:=(hx1.cell l0).trans c14
  have d15:=(hx1.cell l0).trans c15
  have d16:=(hx1.cell l0).trans c16
  have d17:=(hx1.cell l0).trans c17
  have d18:=(hx1.cell l0).trans c18
  have l1:=Nat.lt_of_lt_of_le l0 hx1.size
  have HX1:=Lib.hid (HX0.out.trans hx1)
  clear hx1 c0 c1 c2 c3 c4 c5 c6 c7 c8 c9 c10 c11 c12 c13 c14 c15 c16 c17 c18
  rw [g4]
  go_wp2_with fail
  refine (zero_any _ m.v c.v1 c.v2).mono ?_
  rintro e W2 ⟨rfl,hx2⟩
  have HX2:=Lib.hid (HX1.out.trans hx2)
  clear hx2
  rw [g6]
  go_wp2_with fail
  go_ret
  exact ⟨by rw [←HR.out] <;> rfl,HX2.out⟩
 have g6:nilV m.v=true:=h6
 by_cases h7:m.l.length=0
 rotate_left
 ·have g7:((m.l.length:Int) == 0)=false:=beq_eq_false_iff_ne.2 (by omega)
  have HR:=Lib.hid (show false=r by rw [←hr];simp [h0,h1,h2,h3,h4,h5,h6,h7])
  clear hr h0 h1 h2 h3 h4 h5 h6 h7
  go_enter Tryz.func173,Tryz.ntmps173
  go_upto_region 1 with fail
  generalize hW0:World.alloc _ _=W0
  obtain ⟨hx0,hb0,-⟩:=box_mu (m:=m) (c:=c) hW0
  have HX0:=Lib.hid hx0
  have HB0:=Lib.hid hb0
  obtain ⟨c0,c1,c2,c3,c4,c5,c6,c7,c8,c9,c10,c11,c12,c13,c14,c15,c16,c17,c18⟩:=hb0.c19
  simp only [Nat.zero_add] at c0 c1 c2 c3 c4 c5 c6 c7 c8 c9 c10 c11 c12 c13 c14 c15 c16 c17 c18
  have l0:=hb0.lt
  clear hW0 hx0 hb0
  go_wp2_with fail
  refine (zero_any _ m.was c.w1 c.w2).mono ?_
  rintro e W1 ⟨rfl,hx1⟩
  have d11:=(hx1.cell l0).trans c11
  have d12:=(hx1.cell l0).trans c12
  have d13:=(hx1.cell l0).trans c13
  have d14:=(hx1.cell l0).trans c14
  have d15:=(hx1.cell l0).trans c15
  have d16:=(hx1.cell l0).trans c16
  have d17:=(hx1.cell l0).trans c17
  have d18:=(hx1.cell l0).trans c18
  have l1:=Nat.lt_of_lt_of_le l0 hx1.size
  have HX1:=Lib.hid (HX0.out.trans hx1)
  clear hx1 c0 c1 c2 c3 c4 c5 c6 c7 c8 c9 c10 c11 c12 c13 c14 c15 c16 c17 c18
  rw [g4]
  go_wp2_with fail
  refine (zero_any _ m.v c.v1 c.v2).mono ?_
  rintro e W2 ⟨rfl,hx2⟩
  have c18':W2.cell? ⟨w.heap.size,18,none⟩=some (.slice c.s.a m.l.length c.s.c):=(hx2.cell l1).trans d18
  have l2:=Nat.lt_of_lt_of_le l1 hx2.size
  have HX2:=Lib.hid (HX1.out.trans hx2)
  clear hx2
  rw [g6]
  go_wp2_with fail
  go_ret
  exact ⟨by rw [←HR.out] <;> rfl,HX2.out⟩
 have g7:((m.l.length:Int) == 0)=true:=by rw [h7];rfl
 have HR:=Lib.hid (show true=r by rw [←hr];simp [h0,h1,h2,h3,h4,h5,h6,h7])
 clear hr h0 h1 h2 h3 h4 h5 h6 h7
 go_enter Tryz.func173,Tryz.ntmps173
 go_upto_region 1 with fail
 generalize hW0:World.alloc _ _=W0
 obtain ⟨hx0,hb0,-⟩:=box_mu (m:=m) (c:=c) hW0
 have HX0:=Lib.hid hx0
 have HB0:=Lib.hid hb0
 obtain ⟨c0,c1,c2,c3,c4,c5,c6,c7,c8,c9,c10,c11,c12,c13,c14,c15,c16,c17,c18⟩:=hb0.c19
 simp only [Nat.zero_add] at c0 c1 c2 c3 c4 c5 c6 c7 c8 c9 c10 c11 c12 c13 c14 c15 c16 c17 c18
 have l0:=hb0.lt
 clear hW0 hx0 hb0
 go_wp2_with fail
 refine (zero_any _ m.was c.w1 c.w2).mono ?_
 rintro e W1 ⟨rfl,hx1⟩
 have d11:=(hx1.cell l0).trans c11
 have d12:=(hx1.cell l0).trans c12
 have d13:=(hx1.cell l0).trans c13
 have d14:=(hx1.cell l0).trans c14
 have d15:=(hx1.cell l0).trans c15
 have d16:=(hx1.cell l0).trans c16
 have d17:=(hx1.cell l0).trans c17
 have d18:=(hx1.cell l0).trans c18
 have l1:=Nat.lt_of_lt_of_le l0 hx1.size
 have HX1:=Lib.hid (HX0.out.trans hx1)
 clear hx1 c0 c1 c2 c3 c4 c5 c6 c7 c8 c9 c10 c11 c12 c13 c14 c15 c16 c17 c18
 rw [g4]
 go_wp2_with fail
 refine (zero_any _ m.v c.v1 c.v2).mono ?_
 rintro e W2 ⟨rfl,hx2⟩
 have c18':W2.cell? ⟨w.heap.size,18,none⟩=some (.slice c.s.a m.l.length c.s.c):=(hx2.cell l1).trans d18
 have l2:=Nat.lt_of_lt_of_le l1 hx2.size
 have HX2:=Lib.hid (HX1.out.trans hx2)
 clear hx2
 rw [g6]
 go_wp2_with fail
 go_ret
 exact ⟨by rw [←HR.out] <;> rfl,HX2.out⟩
def setL:List Value→Nat→List Value→List Value
 | l,_,[]=>l
 | l,o,v :: vs=>setL (l.set o v) (o+1) vs
theorem blk_setL {b:Nat} {t:TypeId}:∀ (vs:List Value) (o:Nat) {w:World} {l:List Value},Blk w b t l.toArray→Blk (w.setCells b o vs) b t (setL l o vs).toArray
 | [],_,_,_,h=>h
 | v :: vs,o,w,l,h=>by
   have h2:=h.set_ o v
   rw [List.setIfInBounds_toArray] at h2
   exact blk_setL vs (o+1) h2
theorem run_storeVar_part (w:World) (b o:Nat) (ty:TypeId) {v:Value} (cells:Array Value) (hv:v.cells=cells) (ht:w.there b o cells.size) (hi:(Tryz.prog.info? ty).map (·.size)=some cells.size) (h1:cells.all (·.oneCell')=true) :
  (storeVar ty ⟨b,o,none⟩ v).run Tryz.prog w=.ok () (w.setCells b o cells.toList):=by
 have:=run_storeCells_cells (P:=Tryz.prog) b o cells.toList 0 w (fun j hj=>by simpa using (ht j (by simpa using hj)).1) (fun j hj=>by simpa using (ht j (by simpa using hj)).2)
  (fun v hv=>(Array.all_eq_true_iff_forall_mem.1 h1) v (by simpa using hv))
 cases hq:Tryz.prog.info? ty with
 | none=>simp [hq] at hi
 | some i=>
   have hs:cells.size=i.size:=by simp [hq] at hi;omega
   simp only [Nat.add_zero] at this
   simp [storeVar,sizeOf,typeInfo,hq,hv,hs,this]
theorem wp_store_part {op:Oper} {a:Act} {w:World} {K:Act→World→Prop} {Q:Exit→Act→World→Prop} (ty:TypeId) (x y:Operand) (ho:op.op=.store ty x y)
  (b o:Nat) (cells:Array Value) (hx:a.eval x=.pointer (some ⟨b,o,none⟩)) {v:Value} (hy:a.eval y=v) (hv:v.cells=cells)
  (ht:w.there b o cells.size) (hi:(Tryz.prog.info? ty).map (·.size)=some cells.size) (h1:cells.all (·.oneCell')=true)
  (h:K (a.put op.dst undef) (w.setCells b o cells.toList)):op.wp Tryz.prog a w K Q:=by
 unfold Oper.wp execOp
 simp only [ho,hx,hy,Instr.storeAt,Instr.sureAddr,Sem.run_bind,Sem.run_pure,Result.andThen_ok,run_storeVar_part w b o ty cells hv ht hi h1]
 exact h
theorem put_mu {ops:Array Oper} {rest:List Oper} {op:Oper} {a:Act} {w:World} {Q:Exit→Act→World→Prop} (hgd:op.guard=none) (hd:op.dst=none) {T:TypeId} {x y:Operand} (ho:op.op=.store T x y)
  (vs:List Value) {v:Value} (hy:a.eval y=v) (hv:v.cells=vs.toArray) (hi:(Tryz.prog.info? T).map (·.size)=some vs.length) (h1:vs.all (·.oneCell')=true)
  {w0:World} {b:Nat} (hb:w0.heap.size≤b) (hw:Ext w0 w) {m:Mu} {c:MuS} (hz:Blk w b 31 (boxMu m c)) (o:Nat) (hl:o+vs.length≤19) (hx:a.eval x=.pointer (some ⟨b,o,none⟩))
  {m':Mu} {c':MuS} (he:setL (cellsMu m c) o vs=cellsMu m' c') (h:∀ w',Ext w0 w'→Blk w' b 31 (boxMu m' c')→wpList Tryz.prog ops Q rest a w'):wpList Tryz.prog ops Q (op :: rest) a w:=by
 have hth:w.there b o vs.toArray.size:=fun j hj=>by
  have hj':j<vs.length:=by simpa using hj
  refine ⟨?_,hz.frozen _⟩
  rw [hz.cell,Array.getElem?_eq_getElem (by rw [List.size_toArray,len_mu];omega)]
  rfl
 have h2:=blk_setL vs o hz
 rw [he] at h2
 have key:=h _ (Ext.setCells hb vs o hw) h2
 have ep:a.put op.dst undef=a:=by rw [hd];rfl
 refine wpList_plain hgd fun K hK=>wp_store_part T x y ho b o vs.toArray hx hy hv hth (by rw [hi,List.size_toArray]) (all_oneCell_toArray (List.all_eq_true.1 h1)) (hK _ _ ?_)
 rw [ep]
 exact key
theorem fill_mu {ops:Array Oper} {rest:List Oper} {op:Oper} {a:Act} {w:World} {Q:Exit→Act→World→Prop} (hgd:op.guard=none) (hd:op.dst=none) {x y:Operand} (ho:op.op=.store 31 x y)
  (m:Mu) (c:MuS) {w0:World} {b:Nat} (hb:w0.heap.size=b) (hw:Ext w0 w) {z:Array Value} (hz:Blk w b 31 z) (hzs:z.size=19) (hx:a.eval x=.pointer (some ⟨b,0,none⟩)) (hy:a.eval y=aggMu m c)
  (h:∀ w',Ext w0 w'→Blk w' b 31 (boxMu m c)→wpList Tryz.prog ops Q rest a w'):wpList Tryz.prog ops Q (op :: rest) a w:=
 store_mu hgd x y ho m c hb hw hz hzs hx hy fun w' h1 h2=>by
  have ep:a.put op.dst undef=a:=by rw [hd];rfl
  rw [ep]
  exact h w' h1 h2
theorem put_mu' {ops:Array Oper} {rest:List Oper} {T T':TypeId} {x y:Operand} {ps:String} {af:Array Edge} {a:Act} {w:World} {Q:Exit→Act→World→Prop}
  (vs:List Value) (hv:(a.eval y).cells=vs.toArray) (hi:(Tryz.prog.info? T).map (·.size)=some vs.length) (h1:vs.all (·.oneCell')=true)
  {w0:World} {b:Nat} (hb:w0.heap.size≤b) (hw:Ext w0 w) {m:Mu} {c:MuS} (hz:Blk w b 31 (boxMu m c)) (o:Nat) (hl:o+vs.length≤19) (hx:a.eval x=.pointer (some ⟨b,o,none⟩))
  (m':Mu) (c':MuS) (he:setL (cellsMu m c) o vs=cellsMu m' c') (h:∀ w',Ext w0 w'→Blk w' b 31 (boxMu m' c')→wpList Tryz.prog ops Q rest a w') :
  wpList Tryz.prog ops Q (⟨none,.store T x y,T',ps,af,none⟩ :: rest) a w:=
 put_mu rfl rfl rfl vs rfl hv hi h1 hb hw hz o hl hx he h
end Go.Proofs.YtkhdiakpdafcdaaGreatDoor
