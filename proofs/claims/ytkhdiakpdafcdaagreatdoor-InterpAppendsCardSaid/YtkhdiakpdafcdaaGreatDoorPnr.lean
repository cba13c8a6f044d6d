/- What the theorem needs of the texts Apps13: no condition of its own. -/
import Derived.Laws.IdiomStrings
import Derived.WalkArith
import Derived.OrdersIn
import Derived.Test.YtkhdiakpdafcdaaGreatDoorPna
import Derived.Test.YtkhdiakpdafcdaaGreatDoorPnb
import Derived.Test.YtkhdiakpdafcdaaGreatDoorPnc
import Derived.Test.YtkhdiakpdafcdaaGreatDoorPnd
import Derived.Test.YtkhdiakpdafcdaaGreatDoorPne
import Derived.Test.YtkhdiakpdafcdaaGreatDoorPnf
import Derived.Test.YtkhdiakpdafcdaaGreatDoorPng
import Derived.Test.YtkhdiakpdafcdaaGreatDoorPnh
import Derived.Test.YtkhdiakpdafcdaaGreatDoorPni
import Derived.Test.YtkhdiakpdafcdaaGreatDoorPnj
import Derived.Test.YtkhdiakpdafcdaaGreatDoorPnk
import Derived.Test.YtkhdiakpdafcdaaGreatDoorPnl
import Derived.Test.YtkhdiakpdafcdaaGreatDoorPnm
import Derived.Test.YtkhdiakpdafcdaaGreatDoorPnn
import Derived.Test.YtkhdiakpdafcdaaGreatDoorPno
import Derived.Test.YtkhdiakpdafcdaaGreatDoorPnp
import Derived.Test.YtkhdiakpdafcdaaGreatDoorPnq
set_option maxRecDepth 100000
set_option maxHeartbeats 8000000
namespace Go.Proofs.YtkhdiakpdafcdaaGreatDoor
open Go.RowKit Go.Maps Go.Shelf
set_option linter.unusedVariables false
set_option linter.unusedSimpArgs false
abbrev digW (n:Nat):WV:=⟨digV13 n,Sl.none,Sl.none⟩
abbrev wordW:WV:=⟨wordV13,Sl.none,Sl.none⟩
def rowW (a b:Nat):List WV:=(List.range a).map digW++(List.range b).map fun _=>wordW
theorem rowW_len (a b:Nat):(rowW a b).length=a+b:=by simp [rowW]
theorem rowW_v (a b:Nat):(rowW a b).map WV.v=listL a b:=by
 unfold rowW listL
 rw [List.map_append,List.map_map,List.map_map]
 rfl
theorem rowW_dig (a:Nat):rowW (a+1) 0=rowW a 0++[digW a]:=by simp [rowW,List.range_succ]
theorem rowW_word (a b:Nat):rowW a (b+1)=rowW a b++[wordW]:=by simp [rowW,List.range_succ]
theorem rowW_rv {w:World} {F:Nat→Prop} {a b:Nat}:∀ x∈rowW a b,RV w F x.v x.sl x.so:=fun x hx=>by
 rcases List.mem_append.1 hx with hx | hx
 ·obtain ⟨n,-,rfl⟩:=List.mem_map.1 hx
  exact rv_num13 _ _ (i64_wfA (by omega) (by omega))
 obtain ⟨n,-,rfl⟩:=List.mem_map.1 hx
 exact RV.flat _ _ _ _ _ _ (by decide) (by decide) (by decide)
structure OwnB (w wr:World) (s:Sl) (xs:List WV):Prop where
 box:Blk wr w.heap.size 28 #[.int .i64 5,.bool false,.int .i64 0,.string ByteArray.empty,.slice s.a xs.length s.c,.slice none 0 0]
 own:wr.ownsRow (w.heap.size+1) 28 6 (.slice s.a xs.length s.c) xs.length (flatW xs)
 nw:Nw w wr
 big:w.heap.size+1≤wr.heap.size
theorem OwnB.nwO {w wr W:World} {s:Sl} {xs:List WV} (h:OwnB w wr s xs) (k:Nw wr W):OwnB w W s xs:=
 ⟨k.blk h.box,own_agree h.own (F:=Lt wr.heap.size) (Nw.agree k fun b hb=>hb) (fun b hb=>(own_row h.own hb).2),h.nw.trans k,Nat.le_trans h.big k.size⟩
theorem OwnB.at9 {w W w9:World} {s s7:Sl} {xs:List WV} (h:OwnB w W s xs) (hw:Wr W w9 s.row):Blk w9 w.heap.size 28 #[.int .i64 5,.bool false,.int .i64 0,.string ByteArray.empty,.slice s.a xs.length s.c,.slice none 0 0]:=by
 have hsb:Sb (fun b=>s.row=some b) W w9:=⟨hw.grown.os,hw.grown.tape,hw.grown.output,hw.grown.size,fun i hi hn=>hw.grown.block i hi fun e=>hn e.symm⟩
 exact hsb.blk h.box fun e=>by have:=(own_row h.own e).1;omega
theorem OwnB.snoc {w W w9:World} {s s7:Sl} {xs:List WV} {y:WV} (h:OwnB w W s xs) (hown:w9.ownsRow (w.heap.size+1) 28 6 (.slice s7.a (xs.length+1) s7.c) (xs.length+1) (flatW xs++y.cells)) (hw:Wr W w9 s.row):OwnB w (w9.setCell ⟨w.heap.size,4,none⟩ (.slice s7.a (xs.length+1) s7.c)) s7 (xs++[y]):=by
 have hsb:Sb (fun b=>s.row=some b) W w9:=⟨hw.grown.os,hw.grown.tape,hw.grown.output,hw.grown.size,fun i hi hn=>hw.grown.block i hi fun e=>hn e.symm⟩
 have hset:=(Sb.refl (fun i=>i=w.heap.size) w9).set (p:=⟨w.heap.size,4,none⟩) (.inr rfl) (.slice s7.a (xs.length+1) s7.c)
 refine ⟨?_,?_,?_,?_⟩
 ·have:=(h.at9 (s7:=s7) hw).set_ 4 (.slice s7.a (xs.length+1) s7.c)
  rw [List.length_append]
  exact this
 ·rw [List.length_append,flatW_snoc]
  exact own_agree hown (F:=fun b=>w.heap.size+1≤b∧b<w9.heap.size) (fun b hb=>hset.block b hb.2 (by have:=hb.1;omega)) fun b hb=>own_row hown hb
 ·exact (h.nw.comp hsb fun i hi e=>by have:=(own_row h.own e).1;omega).comp hset fun i hi e=>by omega
 have:=h.big;have:=hsb.size;have:=hset.size;omega
theorem putV_any {w:World} {k:ByteArray} {v:Val} {sl so:Sl} (hk:k.size≤maxLen) (hv:RV w (Lt w.heap.size) v sl so) :
  Calls Tryz.prog 35 #[.agg #[.pointer none],.string k,aggV v sl so] w fun e w'=>∃ T p,e=.returned (.agg #[.pointer p])∧rootV T=.pointer p∧OkR T∧entsT T=[(k,v)]∧IsT w' (In w.heap.size w'.heap.size) T∧Ext w w':=by
 have h:=put_any (w:=w) (F:=fun _=>False) (T:=none) (fun b h=>h.elim) trivial trivial (by decide) hk hv
 refine h.mono ?_
 rintro e w' ⟨T,rfl,hp,hT,hx⟩
 obtain ⟨p,hr⟩:=rootV_ptr T
 exact ⟨T,p,by rw [treeV,hr],hr,hp.ok trivial,by rw [hp.ents trivial];rfl,hT.mono fun b hb=>hb.elim (fun h=>h.elim) id,hx⟩
theorem rv_at13 {w:World} {F:Nat→Prop} {l:List Val} {sl so:Sl} {j:Nat} {d:Val} (h:RV w F (rowV l) sl so) (hj:l[j]? = some d):∃ b o y z,sl.a=some ⟨b,o,none⟩∧F b∧l.length≤sl.c∧sl.c≤maxLen∧VCells w b (o+j*6) d y z:=by
 unfold rowV at h
 cases h with
 | mk bl fl bo fo cl co hl ho hov el rl ek eo ro bk bi bt nl no=>
   obtain ⟨e1,e2,e3⟩:=hl.eq (lt_length hj)
   exact ⟨bl,fl,_,_,e1,hl.fits (lt_length hj),e2,e3,el j d hj⟩
theorem apps13 {x y:Int} {w:World} (hx : -9223372036854775808≤x∧x≤9223372036854775807) (hy : -9223372036854775808≤y∧y≤9223372036854775807) (hL:LibQ w) :
  Calls Tryz.prog 7 #[.int .i64 x,.int .i64 y] w fun e w'=>e=.returned (.bool true)∧Nw w w':=by
 obtain ⟨i0,hi,hz0,hz1,hz2⟩:=info_parts Tryz.infoValue
 have hbig:=hL.lib.big
 have HL:=Lib.hid hL
 have HKN:=Lib.hid (fun W (hW:Nw w W)=>known13 (hL.nw hW))
 clear hL
 go_enter Tryz.func7,Tryz.ntmps7
 go_upto_region 1 with fail
 go_cut [29] (fun v w'=>v=.bool (decide (¬(0≤x∧x≤300∧0≤y∧y≤90)))∧w'=w)
 case first=>
  by_cases h1:x<0
  ·have g1:decide (x<0)=true:=decide_eq_true h1
   have hq:decide (¬(0≤x∧x≤300∧0≤y∧y≤90))=true:=decide_eq_true (by omega)
   go_wp2_with fail
   go_meet
   exact ⟨by rw [hq],rfl⟩
  have g1:decide (x<0)=false:=decide_eq_false h1
  by_cases h2:300<x
  ·have g2:decide (300<x)=true:=decide_eq_true h2
   have hq:decide (¬(0≤x∧x≤300∧0≤y∧y≤90))=true:=decide_eq_true (by omega)
   go_wp2_with fail
   go_meet
   exact ⟨by rw [hq],rfl⟩
  have g2:decide (300<x)=false:=decide_eq_false h2
  by_cases h3:y<0
  ·have g3:decide (y<0)=true:=decide_eq_true h3
   have hq:decide (¬(0≤x∧x≤300∧0≤y∧y≤90))=true:=decide_eq_true (by omega)
   go_wp2_with fail
   go_meet
   exact ⟨by rw [hq],rfl⟩
  have g3:decide (y<0)=false:=decide_eq_false h3
  have hq:decide (¬(0≤x∧x≤300∧0≤y∧y≤90))=decide (90<y):=by
   by_cases h4:90<y
   ·rw [decide_eq_true h4,decide_eq_true (by omega)]
   rw [decide_eq_false h4,decide_eq_false (by omega)]
  go_wp2_with fail
  go_meet
  exact ⟨by rw [hq],rfl⟩
 case rest=>
 obtain ⟨hv,hw⟩:=hcut
 subst hv
 have hw2:=hw.symm
 subst hw2
 by_cases hr:¬(0≤x∧x≤300∧0≤y∧y≤90)
 ·rw [decide_eq_true hr]
  go_wp2_with fail
  refine (HKN.out _ (Nw.of (Ext.refl _))).mono ?_
  rintro e w1 ⟨rfl,hn⟩
  have HN:=Lib.hid hn
  clear hn
  go_wp2_with fail
  go_ret
  exact ⟨rfl,HN.out⟩
 rw [decide_eq_false hr]
 have hr':=Decidable.not_not.1 hr
 obtain ⟨f,rfl⟩:=Int.eq_ofNat_of_zero_le hr'.1
 obtain ⟨g,rfl⟩:=Int.eq_ofNat_of_zero_le hr'.2.2.1
 have hf:f≤300:=by omega
 have hg:g≤90:=by omega
 clear hr hr' hx hy
 have HS0:=Lib.hid (show ∀ W:World,True→True from fun _ h=>h)
 go_wp2_with fail
 generalize hW1:World.alloc w _=w1
 obtain ⟨hx1,hb1,hzz1⟩:=new_box hW1
 have HO1:=Lib.hid (show OwnB w w1 Sl.none (rowW 0 0) from ⟨hb1,World.ownsRow_nil _ _ _ _,Nw.of hx1,hzz1⟩)
 clear hW1 hx1 hb1
 go_loopw [6] (fun v6 wr=>∃ (j n:Nat) (s:Sl),v6=.int .i64 (j:Int)∧j≤f∧Hid ((rowW j 0).length=n)∧Hid (OwnB w wr s (rowW j 0))) (fun v _=>f - (intOf v).toNat)
 case atStart=>exact ⟨0,0,Sl.none,rfl,Nat.zero_le _,Lib.hid rfl,HO1⟩
 obtain ⟨j,n,s,rfl,hj,HLN,HO⟩:=hrel
 by_cases hlt:j<f
 ·have l1:(j:Int)<(f:Int):=by omega
  have l1':decide ((j:Int)<(f:Int))=true:=decide_eq_true l1
  have HNJ:=Lib.hid (show n=j by rw [←HLN.out,rowW_len];omega)
  have hbw:=HO.out.box
  rw [HLN.out] at hbw
  have c4:wr.cell? ⟨w.heap.size,4,none⟩=some (.slice s.a n s.c):=hbw.cell 4
  have htm:Int.tmod (j:Int) 10=((j % 10:Nat):Int):=(Int.ofNat_tmod j 10).symm
  have hrem:IntKind.i64.wrap (Int.tmod (j:Int) 10)=((j % 10:Nat):Int):=by rw [IntKind.wrap_i64,htm];omega
  have HREM:=Lib.hid hrem
  have HTM:=Lib.hid htm
  have h63:n+1≤maxLen:=by rw [HNJ.out];unfold maxLen;omega
  have hby:(n+1)*88≤140737488355328:=by rw [HNJ.out];omega
  clear hbw hrem htm
  go_wp2_with fail
  refine wp_region_held_drew (S:=(fun _=>True)) (by kernel_rfl) (trivial) (fun hHeld=>?_)
  refine heldT 0 (some 37) HS0 hHeld ?_
  refine heldT 2 (some 39) HS0 hHeld ?_
  refine heldT 3 (some 40) HS0 hHeld ?_
  have pm:=Tag.mk 0
  have pa:=Tag.mk 1000
  repeat' (first
   | (have:=(pm:Tag 0);have:=(pa:Tag 1000);refine heldW 1 4 (fun K tg hK=>?_) (fun K tg hK=>?_))
   | (have:=(pm:Tag 0);have:=(pa:Tag 1001);refine heldC 4 (fun K tg hK=>?_))
   | (have:=(pm:Tag 1);have:=(pa:Tag 1000);refine heldW 1 5 (fun K tg hK=>?_) (fun K tg hK=>?_))
   | (have:=(pm:Tag 1);have:=(pa:Tag 1001);refine heldC 5 (fun K tg hK=>?_))
   | (have:=(pm:Tag 2);have:=(pa:Tag 1000);refine heldC 1 (fun K tg hK=>?_))
   | (have:=(pm:Tag 2);have:=(pa:Tag 1001);refine heldC 6 (fun K tg hK=>?_))
   | (have:=(pm:Tag 3);have:=(pa:Tag 1000);refine heldC 1 (fun K tg hK=>?_))
   | (have:=(pm:Tag 3);have:=(pa:Tag 1001);refine heldC 8 (fun K tg hK=>?_))
   | (have:=(tg:Tag 1)
      clear this tg
      clear pa
      have pa:=Tag.mk 1001
      go_simp
      skip
      refine hK.out _ _ (trivial) (fun hHeld=>?_)
      clear hK K
      try simp only [Act.put,List.setIfInBounds_toArray,List.set_cons_zero,List.set_cons_succ])
   | (have:=(tg:Tag 4)
      clear this tg
      clear pm
      have pm:=Tag.mk 1
      go_simp
      (refine (num13_any _ ((j % 10:Nat):Int)).mono ?_;rintro e wa ⟨rfl,hxa⟩;have HOA:=Lib.hid (HO.out.nwO (Nw.of (((Ext.refl wr).drew).trans hxa)));have hbA:=HOA.out.box;rw [HLN.out] at hbA;have c4:wa.cell? ⟨w.heap.size,4,none⟩=some (.slice s.a n s.c):=hbA.cell 4;clear hxa hbA)
      refine hK.out _ _ (trivial) (fun hHeld=>?_)
      clear hK K
      try simp only [Act.put,List.setIfInBounds_toArray,List.set_cons_zero,List.set_cons_succ])
   | (have:=(tg:Tag 5)
      clear this tg
      clear pm
      have pm:=Tag.mk 2
      go_simp
      (generalize hwr:World.alloc _ _=wb;obtain ⟨hxb,hbb,zb⟩:=new_box hwr;have HBB:=Lib.hid hbb;have HOB:=Lib.hid (HOA.out.nwO (Nw.of hxb));have hbB:=HOB.out.box;rw [HLN.out] at hbB;have c4:wb.cell? ⟨w.heap.size,4,none⟩=some (.slice s.a n s.c):=hbB.cell 4;clear hwr hbb hxb hbB)
      refine hK.out _ _ (trivial) (fun hHeld=>?_)
      clear hK K
      try simp only [Act.put,List.setIfInBounds_toArray,List.set_cons_zero,List.set_cons_succ])
   | (have:=(tg:Tag 6)
      clear this tg
      clear pm
      have pm:=Tag.mk 3
      refine wp_append_x _ (.tmp 38) (.tmp 42) 25 rfl (w.heap.size+1) 28 i0 _ 6 88 Tryz.underlying25 hi hz0 hz1 hz2 rfl (by decide) s n (flatW (rowW j 0)) (by rfl) (by have h:=HOB.out.own;rw [HLN.out] at h;exact h) (fun b=>b=wa.heap.size) ⟨some ⟨wa.heap.size,0,none⟩,1⟩ 1 (digW j).cells (by rfl) (Rd.block HBB.out (by decide) rfl) (WV.one _) h63 hby HOB.out.big ?_;intro s7 w9 hown9 hwr9 hs9;have HSN:=Lib.hid (HOB.out.snoc (y:=digW j) (s7:=s7) (by rw [HLN.out];exact hown9) hwr9);have hb9:=HOB.out.at9 (s7:=s7) hwr9;have c49:w9.cell? ⟨w.heap.size,4,none⟩=some (.slice s.a (rowW j 0).length s.c):=hb9.cell 4;have f9:=hb9.frozen 4;clear hown9 hwr9 hs9 hb9
      refine hK.out _ _ (trivial) (fun hHeld=>?_)
      clear hK K
      try simp only [Act.put,List.setIfInBounds_toArray,List.set_cons_zero,List.set_cons_succ]
      refine heldT 7 (some 44) HS0 hHeld ?_)
   | (have:=(tg:Tag 8)
      clear this tg
      clear pm
      have pm:=Tag.mk 4
      go_simp
      skip
      refine hK.out _ _ (trivial) (fun hHeld=>?_)
      clear hK K
      try simp only [Act.put,List.setIfInBounds_toArray,List.set_cons_zero,List.set_cons_succ])
   | (have:=(pm:Tag 4);have:=(pa:Tag 1001);refine wpAnyH_done (by kernel_rfl) ?_ _
      generalize hW:World.setCell _ _ _=W
      have HSW:=Lib.hid (show OwnB w W s7 (rowW (j+1) 0) by rw [rowW_dig,←hW];have h:=HSN.out;rw [HLN.out] at h;exact h)
      clear hW
      go_wp2_with fail
      go_roundw
      case measure=>simp [intOf];omega
      exact ⟨j+1,n+1,s7,by go_num,hlt,Lib.hid (by rw [rowW_len,HNJ.out]),HSW⟩))
 obtain rfl:f=j:=by omega
 have l1:decide ((f:Int)<(f:Int))=false:=decide_eq_false (by omega)
 go_wp2_with fail
 rename World=>wr0
 go_loopw [7] (fun v7 wq=>∃ (k n:Nat) (s:Sl),v7=.int .i64 (k:Int)∧k≤g∧Hid ((rowW f k).length=n)∧Hid (OwnB w wq s (rowW f k))) (fun v _=>g - (intOf v).toNat)
 case atStart=>exact ⟨0,n,s,rfl,Nat.zero_le _,HLN,HO⟩
 clear HLN HO
 rename World=>wq
 obtain ⟨k,n2,s2,rfl,hk,HLN,HO⟩:=hrel
 by_cases hlt:k<g
 ·have l1:(k:Int)<(g:Int):=by omega
  have l1':decide ((k:Int)<(g:Int))=true:=decide_eq_true l1
  have HNJ:=Lib.hid (show n2=f+k by rw [←HLN.out,rowW_len])
  have hbw:=HO.out.box
  rw [HLN.out] at hbw
  have c4:wq.cell? ⟨w.heap.size,4,none⟩=some (.slice s2.a n2 s2.c):=hbw.cell 4
  have l4:=hbw.lt
  have HBN:=Lib.hid (Blk.new wq 28 wordW.cells.toArray)
  have hnx:Nw wq (wq.alloc (.cells wordW.cells.toArray 28)):=Nw.of ((Ext.refl wq).alloc _ _)
  have HOX:=Lib.hid (HO.out.nwO hnx)
  have howx:=HOX.out.own
  rw [HLN.out] at howx
  have HOWX:=Lib.hid howx
  have H63:=Lib.hid (show n2+1≤maxLen by rw [HNJ.out];unfold maxLen;omega)
  have HBY:=Lib.hid (show (n2+1)*88≤140737488355328 by rw [HNJ.out];omega)
  clear hbw hnx howx
  go_wp2_with (at_builtin;refine wpList_append_x _ rfl (.tmp 51) (.tmp 53) 25 rfl (w.heap.size+1) 28 i0 _ 6 88 Tryz.underlying25 hi hz0 hz1 hz2 rfl (by decide) s2 n2 (flatW (rowW f k)) rfl HOWX.out (fun b=>b=wq.heap.size) ⟨some ⟨wq.heap.size,0,none⟩,1⟩ 1 wordW.cells rfl (Rd.block HBN.out (by decide) rfl) (WV.one _) H63.out HBY.out HOX.out.big ?_;intro s7 w9 hown9 hwr9 hs9;have HSN:=Lib.hid (HOX.out.snoc (y:=wordW) (s7:=s7) (by rw [HLN.out];exact hown9) hwr9);have hb9:=HOX.out.at9 (s7:=s7) hwr9;have c49:w9.cell? ⟨w.heap.size,4,none⟩=some (.slice s2.a (rowW f k).length s2.c):=hb9.cell 4;have f9:=hb9.frozen 4;clear hown9 hwr9 hs9 hb9)
  generalize hW:World.setCell _ _ _=W
  have HSW:=Lib.hid (show OwnB w W s7 (rowW f (k+1)) by rw [rowW_word,←hW];have h:=HSN.out;rw [HLN.out] at h;exact h)
  clear hW
  go_wp2_with fail
  go_roundw
  case measure=>simp [intOf];omega
  exact ⟨k+1,n2+1,s7,by go_num,hlt,Lib.hid (by rw [rowW_len,HNJ.out];omega),HSW⟩
 obtain rfl:g=k:=by omega
 have l1:decide ((g:Int)<(g:Int))=false:=decide_eq_false (by omega)
 have hn2:n2=f+g:=by rw [←HLN.out,rowW_len]
 have HN2:=Lib.hid hn2
 have hbw:=HO.out.box
 rw [HLN.out] at hbw
 obtain ⟨b0,b1,b2,b3,b4,b5⟩:=hbw.c6
 have l4:=hbw.lt
 have hw1:IntKind.i64.wrap ((f:Int)+(g:Int))=(f:Int)+(g:Int):=by rw [IntKind.wrap_i64];omega
 have hw2:IntKind.i64.wrap (2*(f:Int))=2*(f:Int):=by rw [IntKind.wrap_i64];omega
 have hw3:IntKind.i64.wrap (13*(g:Int))=13*(g:Int):=by rw [IntKind.wrap_i64];omega
 have hw4:IntKind.i64.wrap (2*(f:Int)+13*(g:Int))=2*(f:Int)+13*(g:Int):=by rw [IntKind.wrap_i64];omega
 have hw5:IntKind.i64.wrap (2*(f:Int)+13*(g:Int)+1)=2*(f:Int)+13*(g:Int)+1:=by rw [IntKind.wrap_i64];omega
 have HPUT:=Lib.hid (show ∀ W,Nw wq W→Calls Tryz.prog 35 #[.agg #[.pointer none],.string kL1,.agg #[.int .i64 5,.bool false,.int .i64 0,.string ByteArray.empty,.slice s2.a n2 s2.c,.slice none 0 0]] W fun e w'=>∃ T p,e=.returned (.agg #[.pointer p])∧rootV T=.pointer p∧OkR T∧entsT T=[(kL1,rowV (listL f g))]∧IsT w' (In W.heap.size w'.heap.size) T∧Ext W w' from fun W hW=>by
  have ho:=HO.out.nwO hW
  have hrv:=row_rv ho.own rowW_rv (by rw [rowW_len];omega)
  rw [rowW_v] at hrv
  have h:=putV_any (w:=W) (k:=kL1) (v:=rowV (listL f g)) (sl:=s2) (so:=Sl.none) (by decide) hrv
  have hl:(listL f g).length=n2:=by rw [listL_len,hn2]
  have he:aggV (rowV (listL f g)) s2 Sl.none=.agg #[.int .i64 5,.bool false,.int .i64 0,.string ByteArray.empty,.slice s2.a n2 s2.c,.slice none 0 0]:=by rw [←hl];rfl
  rw [he] at h
  exact h)
 have HNQ:=Lib.hid HO.out.nw
 clear hbw hn2
 go_upto_if 66 with fail
 go_cut [9] (fun v w'=>v=.int .i64 ((if f+g=0 then 2 else 2*f+13*g+1:Nat):Int)∧w'=wq)
 case first=>
  by_cases h0:f+g=0
  ·have g0:((f:Int)+(g:Int) == 0)=true:=by simp;omega
   go_wp2_with fail
   go_meet
   exact ⟨by rw [if_pos h0];rfl,rfl⟩
  have g0:((f:Int)+(g:Int) == 0)=false:=beq_eq_false_iff_ne.2 (by omega)
  go_wp2_with fail
  go_meet
  exact ⟨by rw [if_neg h0];push_cast;rfl,rfl⟩
 case rest=>
 obtain ⟨hv,hw⟩:=hcut
 have hw2:=hw.symm
 subst hv hw2
 obtain ⟨n3,hn3⟩:∃ n3:Nat,f+g=n3:=⟨_,rfl⟩
 rw [show (f:Int)+(g:Int)=(n3:Int) by omega]
 have HN3':=Lib.hid hn3
 obtain ⟨q,hq⟩:∃ q:Nat,(if f+g=0 then 2 else 2*f+13*g+1)=q:=⟨_,rfl⟩
 rw [hq]
 by_cases hq1:1024<q
 ·have l9:decide ((1024:Int)<(q:Int))=true:=decide_eq_true (by omega)
  clear hq hn3 hw1
  go_wp2_with fail
  refine (HKN.out _ HNQ.out).mono ?_
  rintro e w9 ⟨rfl,hn⟩
  have HN:=Lib.hid (HNQ.out.trans hn)
  clear hn
  go_wp2_with fail
  go_ret
  exact ⟨rfl,HN.out⟩
 have l9:decide ((1024:Int)<(q:Int))=false:=decide_eq_false (by omega)
 have hb13:2+(f+12*g)+(f+g - 1)≤1024:=by split at hq <;> omega
 obtain ⟨M,hM⟩:∃ M:List Ent,[(kL1,rowV (listL f g))]=M:=⟨_,rfl⟩
 obtain ⟨r,hr⟩:∃ r:Int × List Ent,(if 256≤f+g∨1024<2+(f+12*g+1)+(f+g) then ((6:Int),[(kL1,rowV (listL f g))]) else (0,[(kL1,rowV (listL f g++[numV 7]))]))=r:=⟨_,rfl⟩
 have happ:=app13 hb13
 rw [hr,hM] at happ
 have HAPP:=Lib.hid happ
 have HR:=Lib.hid hr
 have HM:=Lib.hid hM
 have HQ:=Lib.hid hq
 rw [hM] at HPUT
 clear hq happ hr hM hb13 hn3 hw1
 go_wp2_with fail
 generalize hW3:World.alloc wq _=w3
 obtain ⟨hx3,-,hzz3⟩:=new_box hW3
 have HN3:=Lib.hid (Nw.of hx3)
 clear hW3 hx3 b0 b1 b2 b3 b4 b5
 refine (HPUT.out w3 HN3.out).mono ?_
 rintro e w4 ⟨T1,p1,rfl,hp1,ok1,he1,hT1,hx4⟩
 have HN4:=Lib.hid ((HNQ.out.trans HN3.out).trans (Nw.of hx4))
 have z4:=hx4.size
 have z3:=(HNQ.out.trans HN3.out).size
 clear hx4 HPUT
 go_wp2_with fail
 generalize hW5:World.alloc w4 _=w5
 obtain ⟨hx5,hb5,hzz5⟩:=new_box hW5
 have HN5:=Lib.hid (HN4.out.trans (Nw.of hx5))
 have HSS5:=Lib.hid (show ∀ W,Nw w5 W→W.cell? ⟨w4.heap.size,0,none⟩=some (.pointer p1) from fun W hW=>(hW.blk hb5).cell 0)
 have hMl:M.length≤100:=by rw [←HM.out];exact (show 1≤100 by decide)
 have HRUN:=Lib.hid (show ∀ W,Nw w5 W→Calls Tryz.prog 28 #[.agg #[.pointer p1],aggMu (addMu kL1 (numV 7)) zS] W fun e w'=>∃ T' p',e=.returned (.tuple #[.agg #[.pointer p'],.int .i64 r.1])∧rootV T'=.pointer p'∧OkR T'∧IsT w' (Up (In w3.heap.size w4.heap.size) W w') T'∧entsT T'=r.2∧OkM r.2∧Nw W w'∧(r.2=M→T'=T1) from fun W hW=>by
  have h:=run13 hp1 ok1 he1 ((hT1.agree (hx5.agree fun b hb=>hb.2)).agree (Nw.agree hW fun b hb=>Nat.lt_of_lt_of_le hb.2 hx5.size)) (fun b hb=>⟨by have:=hb.1;omega,Nat.lt_of_lt_of_le hb.2 (Nat.le_trans hx5.size hW.size)⟩) HAPP.out.1 hMl (size_flat ..) (mu_add W (Lt W.heap.size) (k:=kL1) (n:=7) (by decide) (by decide)) (by decide +kernel) (HL.out.nw (HN5.out.trans hW))
  rwa [HAPP.out.2] at h)
 have HP1:=Lib.hid hp1
 have hz5d:w5.heap.size≤w5.drew.heap.size:=Nat.le_refl _
 have hz5e:w5.drew.heap.size≤w5.heap.size:=Nat.le_refl _
 clear hW5 hx5 hb5 hp1 ok1 he1 hT1 hMl
 refine wp_meetX (fun w' b u=>(Nw w5 w'∧Blk w' b 41 #[u])∧∃ T2 p2,u=.pointer p2∧rootV T2=.pointer p2∧OkR T2∧entsT T2=r.2∧IsT w' (fun i=>i<w'.heap.size) T2∧(r.2=M→T2=T1)) [74,75,76,77,73,78,79] (fun b _=>[(12,.pointer (some ⟨b,0,none⟩)),(13,.int .i64 r.1)]) ?_ ?_
 ·skip
  refine wp_region_held_drew (S:=(fun w'=>Nw w5 w')) (by kernel_rfl) ((Nw.of ((Ext.refl w5).drew))) (fun hHeld=>?_)
  refine heldT 0 (some 74) HSS5 hHeld ?_
  have pm:=Tag.mk 0
  have pa:=Tag.mk 1000
  repeat' (first
   | (have:=(pm:Tag 0);have:=(pa:Tag 1000);refine heldW 1 7 (fun K tg hK=>?_) (fun K tg hK=>?_))
   | (have:=(pm:Tag 0);have:=(pa:Tag 1001);refine heldC 1 (fun K tg hK=>?_))
   | (have:=(pm:Tag 1);have:=(pa:Tag 1000);refine heldW 3 7 (fun K tg hK=>?_) (fun K tg hK=>?_))
   | (have:=(pm:Tag 1);have:=(pa:Tag 1001);refine heldC 3 (fun K tg hK=>?_))
   | (have:=(pm:Tag 2);have:=(pa:Tag 1000);refine heldC 7 (fun K tg hK=>?_))
   | (have:=(pm:Tag 2);have:=(pa:Tag 1001);refine heldC 8 (fun K tg hK=>?_))
   | (have:=(tg:Tag 1)
      clear this tg
      clear pm
      have pm:=Tag.mk 1
      go_simp
      (refine (num13_any _ 7).mono ?_;rintro e wa ⟨rfl,hxa⟩;have za:=hxa.size;(first|have HBZ:=Lib.hid (HBZ.out.ext hxa)|have HBZ:=Lib.hid (HBZ.out.ext (((Ext.refl _).drew).trans hxa))|skip))
      refine hK.out _ _ (hHeld.trans (Nw.of hxa)) (fun hHeld=>?_)
      clear hK K
      try simp only [Act.put,List.setIfInBounds_toArray,List.set_cons_zero,List.set_cons_succ]
      refine heldT 2 (some 76) HSS5 hHeld ?_)
   | (have:=(tg:Tag 3)
      clear this tg
      clear pm
      have pm:=Tag.mk 2
      go_simp
      (have s6:=hHeld.size;refine (HRUN.out _ hHeld).mono ?_;rintro e wc ⟨T,p,rfl,hp,ok,hT,he,-,hnc,hsm⟩;have zc:=hnc.size;have HT:=Lib.hid hT;(try (have HBZ:=Lib.hid (hnc.blk HBZ.out);have c6:World.cell? _ ⟨_,0,none⟩=some (.pointer none):=HBZ.out.cell 0;have f6:=HBZ.out.frozen 0));clear hT)
      refine hK.out _ _ (hHeld.trans hnc) (fun hHeld=>?_)
      clear hK K
      try simp only [Act.put,List.setIfInBounds_toArray,List.set_cons_zero,List.set_cons_succ]
      refine heldT 4 (some 73) HSS5 hHeld ?_
      refine heldT 5 (some 78) HSS5 hHeld ?_
      refine heldT 6 (some 79) HSS5 hHeld ?_)
   | (have:=(tg:Tag 7)
      clear this tg
      clear pa
      have pa:=Tag.mk 1001
      go_simp
      (have s8:=hHeld.size;generalize hwz:World.alloc _ _=wz;obtain ⟨hxz,hbz,zz⟩:=new_box hwz;have zd:wz.heap.size≤wz.drew.heap.size:=Nat.le_refl _;have HBZ:=Lib.hid hbz;have c6:World.cell? _ ⟨_,0,none⟩=some (.pointer none):=hbz.cell 0;have f6:=hbz.frozen 0;(try (have HT:=Lib.hid (HT.out.agree (hxz.agree fun b hb=>hb.elim (fun h=>by have:=h.2;omega) fun h=>h.2))));clear hwz hbz)
      refine hK.out _ _ ((by first|exact hHeld.trans (Nw.of hxz)|exact (Nw.of hxz).trans (Nw.of ((Ext.refl wz).drew)))) (fun hHeld=>?_)
      clear hK K
      try simp only [Act.put,List.setIfInBounds_toArray,List.set_cons_zero,List.set_cons_succ])
   | (have:=(tg:Tag 8)
      clear this tg
      clear pm
      have pm:=Tag.mk 3
      go_simp
      skip
      refine hK.out _ _ (nw_setB hHeld (by omega) _) (fun hHeld=>?_)
      clear hK K
      try simp only [Act.put,List.setIfInBounds_toArray,List.set_cons_zero,List.set_cons_succ]
      refine heldT 9 (some 13) HSS5 hHeld ?_)
   | (have:=(pm:Tag 3);have:=(pa:Tag 1001);refine wpAnyH_done (by kernel_rfl) ?_ _
      simp only [putXs,List.map_cons,List.map_nil,List.cons_append,List.nil_append,List.setIfInBounds_toArray,List.set_cons_zero,List.set_cons_succ]
      refine onlyX_mk ⟨_,.pointer p,⟨⟨hHeld,HBZ.out.set_ 0 (.pointer p)⟩,T,p,rfl,hp,ok,he,(is_set HT.out (fun h=>by rcases h with h | h;have:=h.2;omega;have:=h.1;have:=h.2;omega) (fun i hi=>by rcases hi with h | h;have:=h.2;omega;have:=h.2;omega) _).mono fun i hi=>Nat.lt_of_lt_of_le (by rcases hi with h | h;have:=h.2;omega;have:=h.2;omega) ((Sb.refl (fun _=>True) _).set (p:=⟨_,0,none⟩) (.inr trivial) (.pointer p)).size,hsm⟩,by kernel_rfl,?_⟩
      simp only [putXs,List.map_cons,List.map_nil,List.cons_append,List.nil_append,List.setIfInBounds_toArray,List.set_cons_zero,List.set_cons_succ]
      kernel_rfl))
 rintro w6 b6 u6 vs6 ⟨⟨hn6,hb6⟩,T2,p2,rfl,hp2,ok2,he2,hT2,hsm⟩
 simp only [putXs,List.map_cons,List.map_nil,List.cons_append,List.nil_append,List.setIfInBounds_toArray,List.set_cons_zero,List.set_cons_succ]
 have HB6:=Lib.hid hb6
 have HC5:=Lib.hid (HSS5.out w6 hn6)
 have HN6:=Lib.hid (HN5.out.trans hn6)
 have HP2:=Lib.hid hp2
 have HO2:=Lib.hid ok2
 have HE2:=Lib.hid he2
 have HT2:=Lib.hid hT2
 have HSM:=Lib.hid hsm
 clear hn6 hb6 hp2 ok2 he2 hT2 hsm HSS5 HRUN HO HLN HN2
 go_upto_if 81 with fail
 go_cut [9] (fun v w'=>v=.int .i64 ((2*f+13*g+1:Nat):Int)∧w'=w6)
 case first=>
  by_cases h0:n3=0
  ·have g0:((n3:Int) == 0)=true:=by simp [h0]
   go_wp2_with fail
   go_meet
   exact ⟨by rw [show 2*f+13*g+1=1 by have:=HN3'.out;omega];rfl,rfl⟩
  have g0:((n3:Int) == 0)=false:=beq_eq_false_iff_ne.2 (by omega)
  go_wp2_with fail
  go_meet
  exact ⟨by rw [show 2*f+13*g+1=q by have h:=HQ.out;rw [if_neg (by have:=HN3'.out;omega)] at h;exact h],rfl⟩
 case rest=>
 obtain ⟨hv,hw⟩:=hcut
 have hw2:=hw.symm
 subst hv hw2
 obtain ⟨t,ht⟩:∃ t:Nat,2*f+13*g+1=t:=⟨_,rfl⟩
 rw [ht]
 have hwt:IntKind.i64.wrap ((t:Int)+2)=(t:Int)+2:=by rw [IntKind.wrap_i64];omega
 have HTT:=Lib.hid ht
 clear ht
 go_upto_region 23 with fail
 go_cut [88] (fun v w'=>v=.bool (decide (256≤n3∨1024<t+2))∧w'=w6)
 case first=>
  by_cases h1:256≤n3
  ·have g1:decide ((256:Int)≤(n3:Int))=true:=decide_eq_true (by omega)
   go_wp2_with fail
   go_meet
   exact ⟨by rw [decide_eq_true (show 256≤n3∨1024<t+2 from .inl h1)],rfl⟩
  have g1:decide ((256:Int)≤(n3:Int))=false:=decide_eq_false (by omega)
  by_cases h2:1024<t+2
  ·have g2:decide ((1024:Int)<(t:Int)+2)=true:=decide_eq_true (by omega)
   go_wp2_with fail
   go_meet
   exact ⟨by rw [decide_eq_true (show 256≤n3∨1024<t+2 from .inr h2)],rfl⟩
  have g2:decide ((1024:Int)<(t:Int)+2)=false:=decide_eq_false (by omega)
  go_wp2_with fail
  go_meet
  exact ⟨by rw [decide_eq_false (show ¬(256≤n3∨1024<t+2) from fun h=>h.elim h1 h2)],rfl⟩
 case rest=>
 obtain ⟨hv,hw⟩:=hcut
 have hw2:=hw.symm
 subst hv hw2
 by_cases hc:256≤n3∨1024<t+2
 ·rw [decide_eq_true hc]
  have hr:=HR.out
  rw [if_pos (by have:=HN3'.out;have:=HTT.out;omega),HM.out] at hr
  have hr1:r.1=6:=by rw [←hr]
  have hr2:r.2=M:=by rw [←hr]
  rw [hr1]
  have hpe:p2=p1:=by
   have h1:=HP2.out
   rw [HSM.out hr2,HP1.out] at h1
   injection h1 with h1
   exact h1.symm
  subst hpe
  have q1:w6.cell? ⟨b6,0,none⟩=some (.pointer p2):=HB6.out.cell 0
  have q2:w6.cell? ⟨w4.heap.size,0,none⟩=some (.pointer p2):=HC5.out
  clear hr hr1 hr2 hc hwt
  go_wp2_with fail
  refine (is_same w6 p2).mono ?_
  rintro e w7 ⟨rfl,hx7⟩
  have HN7:=Lib.hid (HN6.out.trans (Nw.of hx7))
  clear hx7 q1 q2
  go_wp2_with fail
  refine (HKN.out w7 HN7.out).mono ?_
  rintro e w8 ⟨rfl,hn8⟩
  have HN8:=Lib.hid (HN7.out.trans hn8)
  clear hn8
  go_wp2_with fail
  go_ret
  exact ⟨rfl,HN8.out⟩
 rw [decide_eq_false hc]
 have hr:=HR.out
 rw [if_neg (by have:=HN3'.out;have:=HTT.out;omega)] at hr
 have hr1:r.1=0:=by rw [←hr]
 have hr2:r.2=[(kL1,rowV (listL f g++[numV 7]))]:=by rw [←hr]
 rw [hr1]
 have hget:=treeGet_any (w:=w6) (F:=fun i=>i<w6.heap.size) (fun b h=>h) HT2.out HO2.out (by rw [HE2.out,hr2];exact (show 1≤1000000 by decide)) kL1
 rw [treeV,HP2.out,HE2.out,hr2,show getE [(kL1,rowV (listL f g++[numV 7]))] kL1=some (rowV (listL f g++[numV 7])) by simp [getE]] at hget
 have HGET:=Lib.hid hget
 have q1:w6.cell? ⟨b6,0,none⟩=some (.pointer p2):=HB6.out.cell 0
 clear hr hr1 hr2 hc hwt hget
 go_wp2_with fail
 refine HGET.out.mono ?_
 rintro e w7 ⟨sl,so,rfl,hx7,hrv⟩
 have hrow:RV w7 (In w6.heap.size w7.heap.size) (rowV (listL f g++[numV 7])) sl so:=hrv.rv
 obtain ⟨bb,oo,y1,y2,hsa,hbF,hlc,hcm,hvc⟩:=rv_at13 (j:=n3) (d:=numV 7) hrow (by rw [List.getElem?_append_right (by rw [listL_len,HN3'.out];exact Nat.le_refl _),listL_len,HN3'.out,Nat.sub_self];rfl)
 have hln:(listL f g++[numV 7]).length=n3+1:=by rw [List.length_append,listL_len,HN3'.out];rfl
 rw [hln] at hlc
 have hagg:aggV ((some (rowV (listL f g++[numV 7])):Option Val).getD zeroV) sl so=.agg #[.int .i64 5,.bool false,.int .i64 0,.string ByteArray.empty,.slice (some ⟨bb,oo,none⟩) (n3+1:Nat) sl.c,.slice so.a 0 so.c]:=by
  show aggV (rowV (listL f g++[numV 7])) sl so=_
  rw [←hln,←hsa];rfl
 rw [hagg]
 have c2:w7.cell? ⟨bb,oo+n3*6+2,none⟩=some (.int .i64 7):=hvc.c2
 have HN7:=Lib.hid (HN6.out.trans (Nw.of hx7))
 have l7:bb<w7.heap.size:=hbF.2
 have hb3:n3≤390:=by have:=HN3'.out;omega
 have hw6:IntKind.i64.wrap ((n3:Int)+1)=(n3:Int)+1:=by rw [IntKind.wrap_i64];omega
 have g1:(0:Int)≤(n3:Int):=by omega
 have g2:(n3:Int)<(n3:Int)+1:=by omega
 clear hx7 hrv hrow hvc hsa hln hagg hbF q1 HGET
 go_wp2_with fail
 generalize hW8:World.alloc w7 _=w8
 obtain ⟨hx8,-,-⟩:=new_box hW8
 have HN8:=Lib.hid (HN7.out.trans (Nw.of hx8))
 clear hW8 hx8 c2
 refine (HKN.out w8 HN8.out).mono ?_
 rintro e w9 ⟨rfl,hn9⟩
 have HN9:=Lib.hid (HN8.out.trans hn9)
 clear hn9
 go_wp2_with fail
 go_ret
 exact ⟨rfl,HN9.out⟩
theorem apps13_w {x y:Int} {w:World} (hx:(Lit.int .i64 x).wf=true) (hy:(Lit.int .i64 y).wf=true) (hL:LibQ w) :
  Calls Tryz.prog 7 #[.int .i64 x,.int .i64 y] w fun e w'=>e=.returned (.bool true)∧Nw w w':=apps13 (i64_b hx) (i64_b hy) hL
end Go.Proofs.YtkhdiakpdafcdaaGreatDoor
