/- What the theorem needs of the texts KeysEnd, ScanX, Known08, Law8B, Coll3, OvSort, OvPre, MuM, TrodB: no condition of its own. -/
import Derived.Laws.IdiomStrings
import Derived.WalkMore
import Derived.WalkArith
import Derived.OrdersIn
import Derived.Sort.OwnSorted
import Derived.Sort.KeysCollected
import Derived.Sort.MapsRangeIn
import Derived.Test.YtkhdiakpdafcdaaGreatDoorRows
import Derived.Test.YtkhdiakpdafcdaaGreatDoorPna
import Derived.Test.YtkhdiakpdafcdaaGreatDoorPnc
import Derived.Test.YtkhdiakpdafcdaaGreatDoorPnd
import Derived.Test.YtkhdiakpdafcdaaGreatDoorPne
import Derived.Test.YtkhdiakpdafcdaaGreatDoorPnf
import Derived.Test.YtkhdiakpdafcdaaGreatDoorPni
import Derived.Test.YtkhdiakpdafcdaaGreatDoorPnh
import Derived.Test.YtkhdiakpdafcdaaGreatDoorPng
set_option maxRecDepth 100000
set_option maxHeartbeats 1000000
namespace Go.Proofs.YtkhdiakpdafcdaaGreatDoor
open Go.RowKit
set_option linter.unusedVariables false
set_option linter.unusedSimpArgs false
theorem Bw.trans {a b c:World} (h:Below a.heap.size a b) (k:Below b.heap.size b c):Below a.heap.size a c:=h.trans (k.mono h.size)
theorem Bw.ext {a b c:World} (h:Below a.heap.size a b) (k:Ext b c):Below a.heap.size a c:=Bw.trans h k.below
theorem toList_eq' (p:ByteArray):p.toList=p.data.toList:=ByteArray.toList_eq p
theorem size_toList (p:ByteArray):p.toList.length=p.size:=by rw [toList_eq',Array.length_toList];rfl
theorem at_toList {p:ByteArray} {i:Nat} (h:i<p.size):p.toList[i]? = some p[i]:=by
 rw [toList_eq',Array.getElem?_toList]
 exact Array.getElem?_eq_getElem h
def EndPost (p:ByteArray) (w:World) (e:Ending) (w':World):Prop:=
 Below w.heap.size w w'∧∃ (end_:ByteArray) (ok:Bool),e=.returned (.tuple #[.string end_,.bool ok])∧(match endL p.toList with | none=>ok=false∧end_=ByteArray.empty | some q=>ok=true∧end_.toList=q)
theorem mk_toList (l:List UInt8):(ByteArray.mk l.toArray).toList=l:=by rw [toList_eq']
theorem split_last {p:ByteArray} {i n:Nat} (h:i<p.size) (hr:p.toList.drop (i+1)=List.replicate n 255):p.toList=p.toList.take i++p[i] :: List.replicate n 255:=by
 have h1:=at_toList h
 obtain ⟨h2,h3⟩:=List.getElem?_eq_some_iff.1 h1
 conv=>lhs;rw [←List.take_append_drop i p.toList,List.drop_eq_getElem_cons h2,h3,hr]
theorem extract_toList (p:ByteArray) (k:Nat):(p.extract 0 k).toList=p.toList.take k:=by
 rw [toList_eq',toList_eq',ByteArray.data_extract]
 simp
theorem bytesRow_at {s:ByteArray} {cap i:Nat} {b:UInt8} (h:s.toList[i]? = some b):(bytesRow s cap)[i]? = some (.int .u8 (b.toNat:Int)):=by
 rw [toList_eq',Array.getElem?_toList] at h
 have hi:=(Array.getElem?_eq_some_iff.1 h).1
 unfold bytesRow
 rw [Array.getElem?_append_left (by simpa using hi),Array.getElem?_map,h];rfl
theorem bytesRow_size (s:ByteArray) (cap:Nat):s.size≤(bytesRow s cap).size:=by
 unfold bytesRow
 rw [Array.size_append,Array.size_map]
 exact Nat.le_add_right _ _
theorem bytes_laid (w:World) (s:ByteArray) (cap:Nat) (t:TypeId) {i:Nat} {b c:UInt8} (hb:s.toList[i]? = some b) (W:World) (hW:W=(w.alloc (.cells (bytesRow s cap) t ((bytesRow s cap).size,(bytesRow s cap).size+1))).drew) :
  W.cell? ⟨w.heap.size,i,none⟩=some (.int .u8 (b.toNat:Int))∧W.frozen? ⟨w.heap.size,i,none⟩=false∧w.heap.size<W.heap.size∧Below w.heap.size w W∧
   ∀ j (x:UInt8),(s.toList.set i c)[j]? = some x→(W.setCell ⟨w.heap.size,i,none⟩ (.int .u8 (c.toNat:Int))).cell? ⟨w.heap.size,j,none⟩=some (.int .u8 (x.toNat:Int)):=by
 have hr:∀ j,W.cell? ⟨w.heap.size,j,none⟩=(bytesRow s cap)[j]?:=fun j=>by
  rw [hW];exact World.cell?_alloc_mark w _ _ _ j
 have hi:i<s.size:=by
  have:=(List.getElem?_eq_some_iff.1 hb).1
  rwa [size_toList] at this
 have hh:W.heap[w.heap.size]? = some (.cells (bytesRow s cap) t ((bytesRow s cap).size,(bytesRow s cap).size+1)):=by
  rw [hW];exact heap_alloc_new w _
 refine ⟨by rw [hr];exact bytesRow_at hb,?_,by rw [hW];show w.heap.size<(w.alloc _).heap.size;rw [World.size_alloc];exact Nat.lt_succ_self _,by rw [hW];exact ((Below.refl _ w).alloc (Nat.le_refl _) _).drew,fun j x hx=>?_⟩
 ·unfold World.frozen?
  rw [hh]
  have:=bytesRow_size s cap
  simp;omega
 by_cases hj:j=i
 ·subst hj
  rw [List.getElem?_set_self (List.getElem?_eq_some_iff.1 hb).1] at hx
  cases hx
  exact World.cell?_setCell_same W _ _ ((hr j).trans (bytesRow_at hb))
 rw [List.getElem?_set_ne (fun e=>hj e.symm)] at hx
 rw [cell_set_other _ _ _ _ _ (fun e=>hj e.symm),hr]
 exact bytesRow_at hx
theorem keysEnd_any (w:World) (p:ByteArray) (hp:p.size≤maxLen):Calls Tryz.prog 212 #[.string p] w (EndPost p w):=by
 unfold maxLen at hp
 have hcv:∀ (s:ByteArray) (W:World),(convert 9 158 (.string s)).run Tryz.prog W=.ok (.slice (some ⟨W.heap.size,0,none⟩) s.size (grownCap W s.size 0 5)) (W.drew.alloc (.cells (bytesRow s (grownCap W s.size 0 5)) 5 ((bytesRow s (grownCap W s.size 0 5)).size,(bytesRow s (grownCap W s.size 0 5)).size+1))):=
  fun s W=>run_bytes_of_string W 9 158 5 s Tryz.underlying9 Tryz.underlying158 Tryz.underlying5
 have hw0:wrap64 ((p.size:Int) - 1)=(p.size:Int) - 1:=by unfold wrap64;omega
 go_enter Tryz.func212,Tryz.ntmps212
 go_wp2_with fail
 go_step3
 go_wp2_with fail
 go_step3
 go_wp2_with fail
 go_loopw [4] (fun v wr=>wr=w∧((v=.int .i64 (-1)∧endL p.toList=none)∨∃ i,i<p.size∧v=.int .i64 (i:Int)∧p.toList.drop (i+1)=List.replicate (p.size - (i+1)) 255)) (fun v _=>(intOf v+1).toNat)
 case atStart=>
  refine ⟨rfl,?_⟩
  by_cases h0:p.size=0
  ·refine .inl ⟨by rw [h0];rfl,?_⟩
   have:p.toList=[]:=List.eq_nil_of_length_eq_zero (by rw [size_toList];exact h0)
   rw [this];rfl
  refine .inr ⟨p.size - 1,by omega,by congr 1;omega,?_⟩
  rw [List.drop_eq_nil_of_le (by rw [size_toList];omega),show p.size - (p.size - 1+1)=0 from by omega];rfl
 obtain ⟨rfl,⟨rfl,hn⟩ | ⟨i,hi,rfl,hr⟩⟩:=hrel
 ·have HN:=Lib.hid hn
  clear hn
  go_wp2_with fail
  rw [Exit.noGoto_ret]
  refine bodyPost_ret (v:=.tuple #[.string ByteArray.empty,.bool false]) (by simp [results,Tryz.results212,go_sem];rfl) rfl ?_
  exact ⟨Below.refl _ _,ByteArray.empty,false,rfl,by rw [HN.out];exact ⟨rfl,rfl⟩⟩
 have hi':(i:Int)<(p.size:Int):=by omega
 have hi0:(0:Int)≤(i:Int):=by omega
 have hsp:=split_last hi hr
 have HSP:=Lib.hid hsp
 have HR:=Lib.hid hr
 have hw1:wrap64 ((i:Int) - 1)=(i:Int) - 1:=by unfold wrap64;omega
 clear hsp hr
 by_cases hff:p[i]=255
 ·have hb1:(((p[i].toNat:Nat):Int) != 255)=false:=by rw [hff];rfl
  go_wp2_with fail
  go_roundw
  case rel=>
   refine ⟨trivial,?_⟩
   cases i with
   | zero=>
     refine .inl ⟨rfl,?_⟩
     rw [HSP.out,hff,List.take_zero,List.nil_append,←List.replicate_succ]
     exact endL_ff _
   | succ i=>
     refine .inr ⟨i,by omega,by simp,?_⟩
     have h2:p.toList.drop (i+1)=p[i+1] :: p.toList.drop (i+1+1):=by
      have h1:=at_toList hi
      obtain ⟨h2,h3⟩:=List.getElem?_eq_some_iff.1 h1
      rw [List.drop_eq_getElem_cons h2,h3]
     rw [h2,HR.out,hff,←List.replicate_succ]
     congr 1;omega
  simp [intOf]
 have hb1:(((p[i].toNat:Nat):Int) != 255)=true:=bne_iff_ne.2 fun e=>hff (UInt8.toNat_inj.1 (by show p[i].toNat=255;omega))
 have hmin:min (i+1) p.size=i+1:=by omega
 have hexs:(p.extract 0 (i+1)).size=i+1:=by rw [←size_toList,extract_toList,List.length_take,size_toList];omega
 have hlt256:p[i].toNat<256:=p[i].toNat_lt
 have hw8:IntKind.u8.wrap ((p[i].toNat:Int)+1)=(p[i].toNat:Int)+1:=by
  have:p[i].toNat≠255:=fun e=>hff (UInt8.toNat_inj.1 e)
  rw [IntKind.wrap_u8];omega
 obtain ⟨q,hq⟩:∃ q,q=(p.extract 0 (i+1)).toList.set i (p[i]+1):=⟨_,rfl⟩
 have hext:(p.extract 0 (i+1)).toList=p.toList.take i++[p[i]]:=by
  rw [extract_toList,List.take_add_one,at_toList hi];rfl
 have htl:(p.toList.take i).length=i:=by rw [List.length_take,size_toList];omega
 have hqe:q=p.toList.take i++[p[i]+1]:=by
  rw [hq,hext,List.set_append_right _ _ (by omega),htl,Nat.sub_self];rfl
 have hql:q.length=i+1:=by rw [hqe,List.length_append,htl];rfl
 have hend:endL p.toList=some q:=by rw [HSP.out,endL_at hff,hqe]
 have hib:(p.extract 0 (i+1)).toList[i]? = some p[i]:=by rw [hext,List.getElem?_append_right (by omega),htl,Nat.sub_self];rfl
 have hbn:((p[i]+1).toNat:Int)=(p[i].toNat:Int)+1:=by
  have h1:(p[i]+1).toNat=p[i].toNat+1:=by
   rw [UInt8.toNat_add]
   have:p[i].toNat≠255:=fun e=>hff (UInt8.toNat_inj.1 e)
   show (p[i].toNat+1) % 256=_
   omega
  omega
 have hcb:∀ W:World,(∀ j (hj:j<q.length),W.cell? ((⟨wr.heap.size,0,none⟩:Addr).add j)=some (.int .u8 (q[j].toNat:Int)))→∀ cap,(convert 158 9 (.slice (some ⟨wr.heap.size,0,none⟩) (i+1) cap)).run Tryz.prog W=.ok (.string ⟨q.toArray⟩) W:=fun W h cap=>by
  have:=run_convert_bytes_back (P:=Tryz.prog) W 158 9 5 ⟨wr.heap.size,0,none⟩ cap q Tryz.underlying158 Tryz.underlying5 Tryz.underlying9 h
  rwa [hql] at this
 have HCB:=Lib.hid hcb
 have HEND:=Lib.hid hend
 have HQ:=Lib.hid hq
 have HIB:=Lib.hid hib
 have HBN:=Lib.hid hbn
 clear hq hext htl hqe hql hend hib hbn hcb
 go_upto_region 8 with (fail)
 generalize hW2:World.drew _=W2
 obtain ⟨c2,f2,l2,hbl2,hset⟩:=bytes_laid wr (p.extract 0 (i+1)) _ _ (c:=p[i]+1) HIB.out W2 hW2.symm
 rw [HBN.out,←HQ.out] at hset
 have HS2:=Lib.hid hset
 have HBL:=Lib.hid hbl2
 clear hW2 hset hbl2 hcv
 go_upto_region 9 with (fail)
 have hcb:=HCB.out (W2.setCell ⟨wr.heap.size,i,none⟩ (.int .u8 ((p[i].toNat:Int)+1))) (fun j hj=>by
  rw [add_at,Nat.zero_add]
  exact HS2.out j _ (List.getElem?_eq_getElem hj))
 go_wp2_with fail
 rw [Exit.noGoto_ret]
 refine bodyPost_ret (v:=.tuple #[.string ⟨q.toArray⟩,.bool true]) (by simp [results,Tryz.results212,go_sem]) rfl ?_
 exact ⟨HBL.out.setCell (p:=⟨wr.heap.size,i,none⟩) (Nat.le_refl _) _,_,_,rfl,by rw [HEND.out];exact ⟨rfl,mk_toList q⟩⟩
end Go.Proofs.YtkhdiakpdafcdaaGreatDoor
namespace Go.Proofs.YtkhdiakpdafcdaaGreatDoor
open Go.RowKit Go.Shelf
set_option linter.unusedVariables false
set_option linter.unusedSimpArgs false
def prefixE (p:ByteArray) (es:List Ent):List Ent:=es.filter fun e=>p.toList.isPrefixOf e.1.toList
theorem EndPost.range {p:ByteArray} {w:World} {e:Ending} {w':World} (h:EndPost p w e w'):∃ (en:ByteArray) (ok:Bool),e=.returned (.tuple #[.string en,.bool ok])∧Below w.heap.size w w'∧∀ es,rangeE p en (!ok) es=prefixE p es:=by
 obtain ⟨hb,en,ok,he,hm⟩:=h
 refine ⟨en,ok,he,hb,fun es=>?_⟩
 refine List.filter_congr fun x _=>?_
 rw [begins_iff]
 cases hE:endL p.toList with
 | none=>
   rw [hE] at hm
   obtain ⟨rfl,-⟩:=hm
   rfl
 | some q=>
   rw [hE] at hm
   obtain ⟨rfl,hq⟩:=hm
   simp only [inI,Bool.not_true,Bool.false_or,klt,hq]
def PrefixPost (T:RT) (p:ByteArray) (w:World) (e:Ending) (w':World):Prop:=
 ∃ (B:Nat) (en:ByteArray) (op:Bool),e=.returned (.func (.func 241) #[] (rangeL B))∧Below w.heap.size w w'∧RangeB w' B T p en op∧w.heap.size≤B∧∀ es,rangeE p en op es=prefixE p es
theorem prefix_any (w:World) (T:RT) (p:ByteArray) (hp:p.size≤maxLen):Calls Tryz.prog 175 #[treeV T,.string p] w (PrefixPost T p w):=by
 have hr:=fun W lo hi op=>range_any W T lo hi op
 have hke:=fun W=>keysEnd_any W p hp
 obtain ⟨r,hpr⟩:=rootV_ptr T
 rw [treeV,hpr]
 simp only [treeV,hpr] at hr
 have hx0:Ext w (w.alloc (.cells #[.pointer r] 41)):=(Ext.refl w).alloc _ _
 have hb0:=Blk.new w 41 #[.pointer r]
 have HX0:=Lib.hid hx0
 have HB0:=Lib.hid hb0
 have HR:=Lib.hid hr
 have HKE:=Lib.hid hke
 clear hx0 hb0 hr hpr hke
 go_enter Tryz.func175,Tryz.ntmps175
 go_wp2_with fail
 refine (HKE.out _).mono ?_
 intro e w1 he
 obtain ⟨en,ok,rfl,hb1,hen⟩:=he.range
 have hbw:=Bw.trans HX0.out.below hb1
 have c0:w1.cell? ⟨w.heap.size,0,none⟩=some (.pointer r):=(HB0.out.agree (Agree.of_below hb1 (F:=Lt (w.alloc (.cells #[.pointer r] 41)).heap.size) fun _ h=>h) HB0.out.lt).cell 0
 have HBW:=Lib.hid hbw
 have HEN:=Lib.hid hen
 clear he hb1 hen hbw
 go_wp2_with fail
 refine (HR.out _ _ _ _).mono ?_
 rintro e w2 ⟨B,rfl,hx2,hrb,hB⟩
 have HP:=Lib.hid (show Below w.heap.size w w2∧RangeB w2 B T p en (!ok)∧w.heap.size≤B from ⟨Bw.ext HBW.out hx2,hrb,Nat.le_trans HBW.out.size hB⟩)
 clear hx2 hrb hB
 go_wp2_with fail
 go_ret
 exact ⟨B,en,!ok,rfl,HP.out.1,HP.out.2.1,HP.out.2.2,HEN.out⟩
end Go.Proofs.YtkhdiakpdafcdaaGreatDoor
namespace Go.Proofs.YtkhdiakpdafcdaaGreatDoor
open Go.RowKit
set_option linter.unusedVariables false
set_option linter.unusedSimpArgs false
def num8 (n:Int):Val:=.mk 3 false n ByteArray.empty [] [] []
def e5:List Ent:=[(⟨#[97]⟩,num8 1),(⟨#[98]⟩,num8 3),(⟨#[98,47,49]⟩,num8 4),(⟨#[98,47,50]⟩,num8 0),(⟨#[99]⟩,num8 2)]
theorem Bw.tree {w w':World} {T:RT} (h:TreeAt (Lt w.heap.size) T w) (k:Below w.heap.size w w'):TreeAt (Lt w.heap.size) T w':=⟨h.1.agree (Agree.of_below k (F:=Lt w.heap.size) fun _ h=>h),fun b hb=>Nat.lt_of_lt_of_le hb k.size⟩
theorem Bw.blk {w w':World} {g:Nat} {t:TypeId} {cs:Array Value} (h:Blk w g t cs) (k:Below w.heap.size w w'):Blk w' g t cs:=h.agree (Agree.of_below k (F:=Lt w.heap.size) fun _ h=>h) h.lt
theorem ES.part {w:World} {F:Nat→Prop} {b o c:Nat} {xs:List LE} (h:ES w F ⟨some ⟨b,o,none⟩,c⟩ xs) {i n:Nat} (hn:i+n≤xs.length) (h0:0<n):ES w F ⟨some ⟨b,o+i*7,none⟩,c - i⟩ ((xs.drop i).take n):=by
 obtain ⟨⟨b',o',h1,h2,h3⟩,hv,hf⟩:=h
 obtain ⟨e1,e2,e3⟩:=h1.eq (by omega)
 have hF:=h1.fits (by omega)
 obtain ⟨rfl,rfl⟩:b=b'∧o=o':=by simpa using e1
 have hl:((xs.drop i).take n).length=n:=by rw [List.length_take,List.length_drop];omega
 dsimp only at e2 e3
 refine ⟨⟨b,o+i*7,by rw [hl];exact .some _ _ _ _ (by omega) (by omega) hF,by rw [flatE_len],fun j u hj=>?_⟩,fun x hx=>hv x (List.mem_of_mem_drop (List.mem_of_mem_take hx)),by rw [hl];omega⟩
 have hj':(flatE xs)[i*7+j]? = some u:=by
  rw [←flatE_take,←flatE_drop] at hj
  have hjl:=(List.getElem?_eq_some_iff.1 hj).1
  rw [List.getElem?_take] at hj
  split at hj
  ·rwa [List.getElem?_drop] at hj
  cases hj
 rw [Nat.add_assoc]
 exact h3 _ u hj'
end Go.Proofs.YtkhdiakpdafcdaaGreatDoor
namespace Go.Proofs.YtkhdiakpdafcdaaGreatDoor
open Go.RowKit Go.Shelf
set_option linter.unusedVariables false
theorem ES.pre {w:World} {F:Nat→Prop} {b o c:Nat} {xs:List LE} (h:ES w F ⟨some ⟨b,o,none⟩,c⟩ xs) {n:Nat} (hn:n≤xs.length) (h0:0<xs.length):ES w F ⟨some ⟨b,o,none⟩,c⟩ (xs.take n):=by
 rcases Nat.eq_zero_or_pos n with rfl | hp
 ·obtain ⟨⟨b',o',h1,h2,h3⟩,hv,hf⟩:=h
  obtain ⟨e1,e2,e3⟩:=h1.eq h0
  have hF:=h1.fits h0
  obtain ⟨rfl,rfl⟩:b=b'∧o=o':=by simpa using e1
  exact ⟨⟨b,o,.some _ _ _ _ (Nat.zero_le _) e3 hF,by simp [flatE],fun j u hj=>by simp [flatE] at hj⟩,fun x hx=>by simp at hx,by simp⟩
 have:=h.part (i:=0) (n:=n) (by omega) hp
 simpa using this
end Go.Proofs.YtkhdiakpdafcdaaGreatDoor
namespace Go.Proofs.YtkhdiakpdafcdaaGreatDoor
open Go.RowKit Go.Maps Go.Sort Go.Shelf
set_option linter.unusedVariables false
set_option linter.unusedSimpArgs false
abbrev bytesO (k:ByteArray):List UInt8:=k.data.toList
theorem map_bytesO (ks:List ByteArray):(ks.map bytesO).map encStr=ks.map .string:=by rw [List.map_map];rfl
theorem less_lt:∀ x y:List UInt8,Op.bytesLess x y=decide (x<y)
 | [],[]=>rfl
 | [],_ :: _=>rfl
 | _ :: _,[]=>rfl
 | a :: x,b :: y=>by
   rw [Op.bytesLess,less_lt x y]
   by_cases h1:a<b
   ·simp [h1,List.cons_lt_cons_iff]
   by_cases h2:a=b
   ·subst h2;simp [List.cons_lt_cons_iff]
   simp [h1,h2,List.cons_lt_cons_iff]
theorem klt_lt (a b:ByteArray):klt a b=decide (bytesO a<bytesO b):=by
 show Op.bytesLess a.toList b.toList=_
 rw [ByteArray.toList_eq,ByteArray.toList_eq,less_lt]
theorem bytesO_back (ts:List (List UInt8)):(ts.map fun l=>(⟨l.toArray⟩:ByteArray)).map bytesO=ts:=by
 rw [List.map_map]
 exact (List.map_congr_left fun l _=>rfl).trans (List.map_id _)
theorem rise_sorted {ts:List ByteArray} (h:(ts.map bytesO).Pairwise fun x y=>decide (x≤y)=true) (hn:ts.Nodup):ts.Pairwise fun x y=>klt x y=true:=by
 have h2:=List.pairwise_map.1 h
 refine (h2.and hn).imp ?_
 rintro x y ⟨h3,h4⟩
 cases hk:klt x y with
 | true=>rfl
 | false=>
   exfalso
   have h5:klt y x=true:=klt_of_not hk h4
   rw [klt_lt,decide_eq_true_eq] at h5
   rw [decide_eq_true_eq] at h3
   exact absurd h3 (by simpa [List.not_le] using h5)
theorem leB_sorted (l:List (List UInt8)):(l.mergeSort fun x y=>decide (x≤y)).Pairwise fun x y=>decide (x≤y)=true:=
 List.pairwise_mergeSort (fun a b c h1 h2=>by simp only [decide_eq_true_eq] at *;exact List.le_trans h1 h2) (fun a b=>by simp only [Bool.or_eq_true,decide_eq_true_eq];exact List.le_total a b) l
theorem sortStr_any {w:World} {base:Nat} {s:Sl} {ks:List ByteArray} (hown:w.ownsRow base 9 1 (.slice s.a ks.length s.c) ks.length (ks.map .string)) (hn:ks.length≤1000000000) :
  Calls Tryz.prog 88 #[.slice s.a ks.length s.c] w fun e w'=>e=.returned (.tuple #[])∧∃ ts:List ByteArray,ts.Perm ks∧(ts.map bytesO).Pairwise (fun x y=>decide (x≤y)=true)∧w'.ownsRow base 9 1 (.slice s.a ts.length s.c) ts.length (ts.map .string)∧ts.length=ks.length∧w.grownBy w' s.row:=by
 rcases hown.2 with ⟨hv,h0⟩ | ⟨g,cap,cur,hv,hbg,hg,hnc,hcm,hcs,ht⟩
 ·have hk:ks=[]:=List.eq_nil_of_length_eq_zero h0
  subst hk
  refine (AnyM.slices_Sort_string_none Tryz.sortO s.a s.c w).mono ?_
  rintro e w' ⟨rfl,rfl⟩
  exact ⟨rfl,[],List.Perm.refl _,List.Pairwise.nil,hown,rfl,⟨rfl,rfl,rfl,Nat.le_refl _,fun _ _ _=>rfl⟩⟩
 injection hv with h1 h2 h3
 obtain ⟨sa,sc⟩:=s
 dsimp only at h1 h3
 subst h1 h3
 have hH:Holds encStr w g 0 (ks.map bytesO).toArray:=holds_of_block hg (by rw [map_bytesO,List.length_map];simpa using ht)
 have hc:=AnyM.slices_Sort_string Tryz.sortO g 0 sc (ks.map bytesO) w hH (Array.getElem?_eq_some_iff.1 hg).1 (by rw [List.length_map];omega)
 rw [List.length_map] at hc
 refine hc.mono ?_
 rintro e w' ⟨rfl,n,os,rfl⟩
 have hp:((ks.map bytesO).mergeSort fun x y=>decide (x≤y)).Perm (ks.map bytesO):=List.mergeSort_perm _ _
 have hlen:((ks.map bytesO).mergeSort fun x y=>decide (x≤y)).length=ks.length:=by rw [hp.length_eq,List.length_map]
 obtain ⟨ts,hts⟩:∃ ts:List ByteArray,ts.map bytesO=(ks.map bytesO).mergeSort fun x y=>decide (x≤y):=⟨_,bytesO_back _⟩
 have hlt:ts.length=ks.length:=by rw [←hlen,←hts,List.length_map]
 refine ⟨rfl,ts,?_,by rw [hts];exact leB_sorted _,?_,hlt,by rw [←hts];exact grownBy_sorted _⟩
 ·have hq:(ts.map bytesO).Perm (ks.map bytesO):=by rw [hts];exact hp
  have:=hq.map fun l:List UInt8=>(⟨l.toArray⟩:ByteArray)
  rw [List.map_map,List.map_map] at this
  rwa [show ((fun l:List UInt8=>(⟨l.toArray⟩:ByteArray))∘bytesO)=id from rfl,List.map_id,List.map_id] at this
 rw [←hts,hlt,←map_bytesO]
 have:=ownsRow_sorted (w:=w) (base:=base) (cap:=sc) (n:=n) (os:=os) (ss:=ks.map bytesO) (ts:=ts.map bytesO) (by rw [List.length_map,List.length_map,hlt]) hbg hg (by rw [List.length_map];exact hnc) hcm hcs
 rw [List.length_map] at this
 exact this
end Go.Proofs.YtkhdiakpdafcdaaGreatDoor
namespace Go.Proofs.YtkhdiakpdafcdaaGreatDoor
open Go.RowKit Go.Maps Go.Shelf
set_option linter.unusedVariables false
set_option linter.unusedSimpArgs false
theorem Tryz.infoStringO:(Tryz.prog.info? 9).map (fun i=>(i.zero,i.size,i.bytes))=some (some (.string ByteArray.empty),1,16):=by kernel_rfl
def beginsO (p k:ByteArray):Bool:=p.toList.isPrefixOf k.toList
theorem begins_any (w:World) (k p:ByteArray):Calls Tryz.prog 126 #[.string k,.string p] w fun e w'=>e=.returned (.bool (beginsO p k))∧w'=w:=by
 have hc:∀ W,Calls Tryz.prog 177 #[.string k,.string p] W fun e w'=>e=.returned (.bool (beginsO p k))∧w'=W:=fun W=>by
  have:=Any.strings_HasPrefix Tryz.layHasPrefix k p W
  unfold beginsO
  rw [ByteArray.toList_eq,ByteArray.toList_eq]
  exact this
 go_enter Tryz.func126,Tryz.ntmps126
 go_wp2_with fail
 refine (hc _).mono ?_
 rintro e w' ⟨rfl,rfl⟩
 go_wp2_with fail
 go_ret
 exact ⟨rfl,rfl⟩
structure CollP (w:World) (B:Nat) (ks:List ByteArray) (s:Sl) (W:World):Prop where
 blk:Blk W B 93 #[.slice s.a ks.length s.c]
 own:W.ownsRow (w.heap.size+2) 9 1 (.slice s.a ks.length s.c) ks.length (ks.map .string)
 sb:Sb (fun b=>b=B) w W
 sz:w.heap.size+2≤W.heap.size
section
variable {w W W' : World} {B : Nat} {ks : List ByteArray} {s : Sl}
theorem CollP.row (h:CollP w B ks s W) {b:Nat} (hb:s.row=some b):w.heap.size+2≤b∧b<W.heap.size:=own_row h.own hb
theorem CollP.keep {G:Nat→Prop} (h:CollP w B ks s W) (k:Sb G W W') (hB:¬G B) (hr:∀ b,s.row=some b→¬G b) (hG:∀ b,G b→w.heap.size≤b):CollP w B ks s W':=
 ⟨k.blk h.blk hB,own_agree h.own k.agree fun b hb=>⟨(h.row hb).2,hr b hb⟩,h.sb.comp k fun i hi hg=>by have:=hG i hg;omega,Nat.le_trans h.sz k.size⟩
theorem CollP.ext (h:CollP w B ks s W) (k:Ext W W'):CollP w B ks s W':=h.keep (k.sb fun _=>False) (fun e=>e) (fun _ _ e=>e) fun _ e=>e.elim
theorem CollP.start (hb:Blk w B 93 #[.slice none 0 0]) (hx:Ext w W) (hz:w.heap.size+2≤W.heap.size):CollP w B [] Sl.none W:=
 ⟨hb.ext hx,World.ownsRow_nil _ _ _ _,hx.sb _,hz⟩
theorem CollP.snoc {W4 w5:World} {s3:Sl} {x:ByteArray} (hB:B<w.heap.size) (h:CollP w B ks s W) (hx:Ext W W4) (hown:w5.ownsRow (w.heap.size+2) 9 1 (.slice s3.a (ks.length+1) s3.c) (ks.length+1) (ks.map .string++[.string x])) (hwr:Wr W4 w5 s.row) (hs3:s3.a=s.a∨s3.a=some ⟨W4.heap.size,0,none⟩∧Wr W4 w5 none) :
  CollP w B (ks++[x]) s3 (w5.setCell ⟨B,0,none⟩ (.slice s3.a (ks.length+1) s3.c))∧St (fun b=>b=B∨s.row=some b) W (w5.setCell ⟨B,0,none⟩ (.slice s3.a (ks.length+1) s3.c))∧(∀ b,s3.row=some b→s.row=some b∨W.heap.size≤b)∧(∀ b,(b=B∨s3.row=some b)→b<(w5.setCell ⟨B,0,none⟩ (.slice s3.a (ks.length+1) s3.c)).heap.size):=by
 have h0:=h.sb.size
 have h1:=hx.size
 have h2:=hwr.grown.size
 have hz:=h.sz
 have hrow:∀ b,s3.row=some b→s.row=some b∨W4.heap.size≤b:=fun b hb=>by
  rcases hs3 with e | ⟨e,-⟩
  ·exact .inl (by rw [←hb];simp [Sl.row,e])
  right;rw [Sl.row,e] at hb;simp at hb;omega
 have hset:St (fun b=>b=B) w5 (w5.setCell ⟨B,0,none⟩ (.slice s3.a (ks.length+1) s3.c)):=(St.refl (fun b=>b=B) w5).set (p:=⟨B,0,none⟩) (.inr rfl) _
 have h45:St (fun b=>s.row=some b) W4 w5:=hwr.st fun i hi=>hi
 have hall:St (fun b=>b=B∨s.row=some b) W (w5.setCell ⟨B,0,none⟩ (.slice s3.a (ks.length+1) s3.c)):=((hx.st _).trans (h45.mono fun i _ hi=>.inr hi)).trans (hset.mono fun i _ hi=>.inl hi)
 have hBr:¬s.row=some B:=fun e=>by have:=(h.row e).1;omega
 have hxl:(ks++[x]).length=ks.length+1:=by simp
 have hr5:∀ b,s3.row=some b→b<w5.heap.size:=fun b hb=>(own_row hown hb).2
 refine ⟨⟨?_,?_,?_,by rw [World.size_setCell];omega⟩,hall,fun b hb=>(hrow b hb).imp id fun e=>by omega,fun b hb=>?_⟩
 ·rw [hxl];exact (h45.blk (h.blk.ext hx) hBr).set_ 0 _
 ·rw [hxl,List.map_append]
  exact own_agree hown hset.agree fun b hb=>⟨hr5 b hb,fun e=>by
   rcases hrow b hb with h | h
   ·exact hBr (by rw [h,e])
   omega⟩
 ·exact h.sb.comp hall.sb fun i hi e=>by
   rcases e with e | e
   ·exact e
   have:=(h.row e).1;omega
 rw [World.size_setCell]
 rcases hb with e | e
 ·omega
 exact hr5 b e
end
end Go.Proofs.YtkhdiakpdafcdaaGreatDoor
namespace Go.Proofs.YtkhdiakpdafcdaaGreatDoor
open Go.RowKit
set_option linter.unusedVariables false
set_option linter.unusedSimpArgs false
inductive Mu where
 | mk (kd:Int) (k tk:ByteArray) (i:Int) (had:Bool) (was:Val) (has:Bool) (v:Val) (l:List Mu)
instance : Inhabited Mu := ⟨.mk 0 ByteArray.empty ByteArray.empty 0 false default false default []⟩
def Mu.kd:Mu→Int | .mk x _ _ _ _ _ _ _ _=>x
def Mu.k:Mu→ByteArray | .mk _ x _ _ _ _ _ _ _=>x
def Mu.tk:Mu→ByteArray | .mk _ _ x _ _ _ _ _ _=>x
def Mu.i:Mu→Int | .mk _ _ _ x _ _ _ _ _=>x
def Mu.had:Mu→Bool | .mk _ _ _ _ x _ _ _ _=>x
def Mu.was:Mu→Val | .mk _ _ _ _ _ x _ _ _=>x
def Mu.has:Mu→Bool | .mk _ _ _ _ _ _ x _ _=>x
def Mu.v:Mu→Val | .mk _ _ _ _ _ _ _ x _=>x
def Mu.l:Mu→List Mu | .mk _ _ _ _ _ _ _ _ x=>x
theorem Mu.sz_pos (m:Mu):0<SizeOf.sizeOf m:=by cases m;simp;omega
mutual
def sizeM:Mu→Nat
 | .mk _ _ _ _ _ _ _ _ l=>1+sizeMs l
def sizeMs:List Mu→Nat
 | []=>0
 | m :: r=>sizeM m+sizeMs r
end
def nilV (v:Val):Bool:=v.kind == 0 && !v.b && v.i == 0 && v.t.size == 0 && v.l.length == 0 && v.ok.length == 0
def bareM (kd:Int) (k tk:ByteArray) (i:Int) (had:Bool) (was:Val) (has:Bool) (v:Val) (n:Nat):Bool:=
 decide (1≤kd∧kd≤7) && (kd == 6 || tk.size == 0) && (kd == 3 || i == 0) && (kd == 4 || kd == 7 || !had) && (kd == 4 || !has) && (had || nilV was) && (kd == 1 || kd == 5 || (kd == 4 && has) || nilV v) && (kd == 7 || n == 0)
def begK (p:ByteArray):Bool:=decide (p.size≤64) && Lib.validD p.data.toList
def keyM (kd:Int) (k tk:ByteArray) (had:Bool):Bool:=
 if kd=6 then begK k && begK tk else if kd=7∧k.size=0 then !had else mayK k == 0
def valM (kd:Int) (has:Bool):Bool:=kd == 1 || kd == 5 || (kd == 4 && has)
mutual
/-- Why one may not be that stands so deep (0: it may). -/
def lookM:Mu→Nat→Int
 | .mk kd k tk i had was has v l,deep=>if !bareM kd k tk i had was has v l.length then 9 else if 6<deep then 5 else if !keyM kd k tk had then 8 else if had && fitV was != 0 then fitV was else if valM kd has && fitV v != 0 then fitV v else lookMs l (deep+1)
def lookMs:List Mu→Nat→Int
 | [],_=>0
 | m :: r,deep=>if lookM m deep≠0 then lookM m deep else lookMs r deep
end
def mayMu (m:Mu):Int:=if 64<sizeM m then 6 else lookM m 1
def asM (M:List Ent) (k:ByteArray) (had:Bool) (was:Val):Bool:=match getE M k with
 | some x=>had && decide (cmpV x was=0)
 | none=>!had
def setMu (M:List Ent) (k:ByteArray) (v:Val):Int × List Ent:=if mayK k≠0 then (8,M) else if fitV v≠0 then (fitV v,M) else (0,insE M k v)
def intV (n:Int):Val:=.mk 3 false n ByteArray.empty [] [] []
def rowV (l:List Val):Val:=.mk 5 false 0 ByteArray.empty l [] []
def addM (M:List Ent) (k:ByteArray) (n by_:Int):Int × List Ent:=if (0<by_∧9223372036854775807 - by_<n)∨(by_<0∧n < -9223372036854775808 - by_) then (7,M) else setMu M k (intV (n+by_))
def incM (M:List Ent) (k:ByteArray) (by_:Int):Int × List Ent:=match getE M k with
 | some x=>if x.kind≠3 then (9,M) else addM M k x.i by_
 | none=>addM M k 0 by_
def rowM (M:List Ent) (k:ByteArray) (l:List Val) (x:Val):Int × List Ent:=if 256≤l.length then (6,M) else setMu M k (rowV (l++[x]))
def appM (M:List Ent) (k:ByteArray) (x:Val):Int × List Ent:=match getE M k with
 | some y=>if y.kind≠5 then (9,M) else rowM M k y.l x
 | none=>rowM M k [] x
def turnK (from_ tk k:ByteArray):ByteArray:=tk++k.extract from_.size k.size
def moveE (M:List Ent) (from_ tk:ByteArray):List Ent→Int
 | []=>0
 | e :: r=>if mayK (turnK from_ tk e.1)≠0 then 8 else if (getE M (turnK from_ tk e.1)).isSome && !beginsO from_ (turnK from_ tk e.1) then 13 else moveE M from_ tk r
def restM (M:List Ent) (from_:ByteArray):List Ent:=M.filter fun e=>!beginsO from_ e.1
def goneM (M:List Ent) (from_:ByteArray):List Ent:=M.filter fun e=>beginsO from_ e.1
def moveM (M:List Ent) (from_ tk:ByteArray):Int × List Ent:=
 if moveE M from_ tk (goneM M from_)≠0 then (moveE M from_ tk (goneM M from_),M) else (0,putAll (restM M from_) ((goneM M from_).map fun e=>(turnK from_ tk e.1,e.2)))
mutual
def stepM:Mu→List Ent→Int × List Ent
 | .mk kd k tk i had was has v l,M=>
   if kd=1 then setMu M k v
   else if kd=2 then (if (getE M k).isSome then (0,delE M k) else (12,M))
   else if kd=3 then incM M k i
   else if kd=4 then (if asM M k had was then (if has then setMu M k v else (0,delE M k)) else (13,M))
   else if kd=5 then appM M k v
   else if kd=6 then moveM M k tk
   else if kd=7 then (if asM M k had was then (if (seqM l M).1≠0 then ((seqM l M).1,M) else seqM l M) else (13,M))
   else (9,M)
/-- One behind the other; the first that is refused ends it. -/
def seqM:List Mu→List Ent→Int × List Ent
 | [],M=>(0,M)
 | m :: r,M=>if (stepM m M).1≠0 then ((stepM m M).1,M) else seqM r (stepM m M).2
end
def runM (M:List Ent) (m:Mu):Int × List Ent:=if mayMu m≠0 then (mayMu m,M) else stepM m M
structure MuS where
 w1:Sl
 w2:Sl
 v1:Sl
 v2:Sl
 s:Sl
instance : Inhabited MuS := ⟨⟨Sl.none, Sl.none, Sl.none, Sl.none, Sl.none⟩⟩
def cellsMu (m:Mu) (c:MuS):List Value:=[.int .i64 m.kd,.string m.k,.string m.tk,.int .i64 m.i,.bool m.had,.int .i64 m.was.kind,.bool m.was.b,.int .i64 m.was.i,.string m.was.t,.slice c.w1.a m.was.l.length c.w1.c,.slice c.w2.a m.was.ok.length c.w2.c,.bool m.has,.int .i64 m.v.kind,.bool m.v.b,.int .i64 m.v.i,.string m.v.t,.slice c.v1.a m.v.l.length c.v1.c,.slice c.v2.a m.v.ok.length c.v2.c,.slice c.s.a m.l.length c.s.c]
abbrev aggMu (m:Mu) (c:MuS):Value:=.agg (cellsMu m c).toArray
def MuC (w:World) (b o:Nat) (m:Mu) (c:MuS):Prop:=∀ (j:Nat) (u:Value),(cellsMu m c)[j]? = some u→w.cell? ⟨b,o+j,none⟩=some u
theorem MuC.agree {w w':World} {b o:Nat} {m:Mu} {c:MuS} (h:MuC w b o m c) {F:Nat→Prop} (ha:Agree F w w') (hb:F b):MuC w' b o m c:=fun j u hu=>(ha.cell hb).trans (h j u hu)
inductive RMu (w:World) (F:Nat→Prop):Mu→MuS→Prop
 | mk {kd:Int} {k tk:ByteArray} {i:Int} {had:Bool} {was:Val} {has:Bool} {v:Val} {l:List Mu} {c:MuS} (bl fl:Nat) (cl:Nat→MuS)
    (rw_:RV w F was c.w1 c.w2) (rv:RV w F v c.v1 c.v2) (hl:SlAt F c.s l.length bl fl)
    (el:∀ j m,l[j]? = some m→MuC w bl (fl+j*19) m (cl j)) (rl:∀ j m,l[j]? = some m→RMu w F m (cl j))
    (bk:k.size≤maxLen) (bt:tk.size≤maxLen) (bkd:(Lit.int .i64 kd).wf=true) (bi:(Lit.int .i64 i).wf=true) (nl:l.length*264≤140737488355328):RMu w F (.mk kd k tk i had was has v l) c
theorem RMu.agree {w w':World} {F:Nat→Prop} {m:Mu} {c:MuS} (h:RMu w F m c) (ha:Agree F w w'):RMu w' F m c:=by
 induction h with
 | mk bl fl cl rw_ rv hl el rl bk bt bkd bi nl ih=>
   exact .mk bl fl cl (rw_.agree ha) (rv.agree ha) hl (fun j m hj=>(el j m hj).agree ha (hl.fits (lt_length hj))) (fun j m hj=>ih j m hj) bk bt bkd bi nl
theorem RMu.mono {w:World} {F G:Nat→Prop} {m:Mu} {c:MuS} (h:RMu w F m c) (hG:∀ i,F i→G i):RMu w G m c:=by
 induction h with
 | mk bl fl cl rw_ rv hl el rl bk bt bkd bi nl ih=>
   exact .mk bl fl cl (rw_.mono hG) (rv.mono hG) (hl.mono hG) el (fun j m hj=>ih j m hj) bk bt bkd bi nl
mutual
/-- What all of it counts. -/
def totM:Mu→Nat
 | .mk kd k tk i had was has v l=>8+k.size+tk.size+cntV was+cntV v+totMs l
def totMs:List Mu→Nat
 | []=>0
 | m :: r=>totM m+totMs r
end
theorem totMs_at:∀ {l:List Mu} {j:Nat} {m:Mu},l[j]? = some m→totM m≤totMs l
 | [],j,m,h=>by simp at h
 | x :: r,0,m,h=>by
   have:x=m:=by simpa using h
   subst this
   rw [totMs];omega
 | x :: r,j+1,m,h=>by have:=totMs_at (l:=r) (j:=j) (m:=m) (by simpa using h);rw [totMs];omega
theorem sizeMs_take:∀ {l:List Mu} {j:Nat} {m:Mu},l[j]? = some m→sizeMs (l.take (j+1))=sizeMs (l.take j)+sizeM m
 | [],j,m,h=>by simp at h
 | x :: r,0,m,h=>by
   have:x=m:=by simpa using h
   subst this
   simp [sizeMs]
 | x :: r,j+1,m,h=>by
   rw [List.take_succ_cons,List.take_succ_cons,sizeMs,sizeMs,sizeMs_take (l:=r) (j:=j) (by simpa using h),Nat.add_assoc]
theorem size_totN (n:Nat):∀ m:Mu,SizeOf.sizeOf m≤n→sizeM m≤totM m:=by
 induction n with
 | zero=>intro m h;have:=Mu.sz_pos m;omega
 | succ n ih=>
   intro m h
   obtain ⟨kd,k,tk,i,had,was,has,v,l⟩:=m
   simp only [Mu.mk.sizeOf_spec] at h
   have hs:∀ l:List Mu,SizeOf.sizeOf l≤n→sizeMs l≤totMs l:=by
    intro l
    induction l with
    | nil=>intro _;simp [sizeMs]
    | cons a r ihr=>
      intro hl
      simp only [List.cons.sizeOf_spec] at hl
      have h1:=ih a (by omega)
      have h2:=ihr (by omega)
      rw [sizeMs,totMs];omega
   have h1:=hs l (by omega)
   rw [sizeM,totM];omega
theorem size_tot (m:Mu):sizeM m≤totM m:=size_totN _ m (Nat.le_refl _)
section
variable {H : Type} {enc : TypeId × Value → H} {P : Program} {w : World} {held : Bool}
theorem trod_rowsB {t e:TypeId} {C B fuel:Nat} {cs:List Value} {x:DataW H × List MemPlace} (ht:P.underlying t=some (.slice e)) (hC:P.cellsOf e=C) (hB:P.bytesOf e=B) (hC0:0<C)
  (h:tr enc P w held fuel t cs=some x) (hw:WOk P t x.1) :
  ∃ (n len:Nat) (s:Sl) (b o:Nat) (es:List (DataW H)),fuel=n+1∧cs=[.slice s.a len s.c]∧SlAt (Lt w.heap.size) s len b o∧len*B≤140737488351232∧es.length=len∧Rows.uptoBulkAll es+1≤Rows.uptoBulk x.1∧
   ∀ i,i<len→∃ cs' y,cs'.length=C∧(∀ j,j<C→w.cell? ⟨b,o+i*C+j,none⟩=cs'[j]?)∧tr enc P w held n e cs'=some y∧WOk P e y.1∧es[i]? = some y.1:=by
 rcases DataW.trod_slice ht h with ⟨rfl,rfl⟩ | ⟨a,len,cap,elems,rest,n,hfu,hcs,hx,-,hl,hm,hlen,hel,hsp,-⟩
 ·cases fuel with
  | zero=>simp [tr,DataW.trod] at h
  | succ n=>exact ⟨n,0,Sl.none,0,0,[],rfl,rfl,.nil _ _,by omega,rfl,by simp [Rows.uptoBulk,Rows.uptoBulkAll],fun i hi=>by omega⟩
 obtain ⟨n',len',s,b,o,hfu',hcs',hs,hby,he⟩:=trod_rows ht hC hB hC0 h hw
 subst hcs hx hfu
 obtain rfl:n=n':=by omega
 have hcs2:Value.slice (some a) len cap=.slice s.a len' s.c:=by simpa using hcs'
 injection hcs2 with e1 e2 e3
 subst e2
 refine ⟨n,len,s,b,o,elems.map (·.1),rfl,hcs',hs,hby,by rw [List.length_map];exact hlen,by simp only [Rows.uptoBulk];omega,fun i hi=>?_⟩
 obtain ⟨cs',y,hl',hc,ht',hw'⟩:=he i hi
 refine ⟨cs',y,hl',hc,ht',hw',?_⟩
 have hE:=hel i hi
 rw [List.getElem?_eq_getElem (by omega)] at hE
 obtain ⟨cs2,h1,h2⟩:=Option.bind_eq_some_iff.1 hE
 obtain ⟨-,hl1,hat1⟩:=World.cells?_some h1
 rw [hC] at hl1 hat1
 have hsa:s.a=some ⟨b,o,none⟩:=(hs.eq (by omega)).1
 rw [hsa] at e1
 obtain rfl:a=⟨b,o,none⟩:=by injection e1
 have:cs2=cs':=by
  refine List.ext_getElem? fun j=>?_
  by_cases hj:j<C
  ·have:=hat1 j hj
   rw [Go.WideShapes.add_plain,Go.WideShapes.add_plain] at this
   rw [←hc j hj,←this]
  rw [List.getElem?_eq_none (by omega),List.getElem?_eq_none (by omega)]
 subst this
 rw [List.getElem?_map,List.getElem?_eq_getElem (by omega)]
 have:some (elems[i]'(by omega))=some y:=by rw [←h2];exact ht'
 simp only [Option.map_some]
 injection this with this
 rw [this]
theorem trod_fieldsB {t:TypeId} {fs:List Field} {fuel:Nat} {cs:List Value} {x:DataW H × List MemPlace} (ht:P.underlying t=some (.struct fs.toArray)) (h:tr enc P w held fuel t cs=some x) (hw:WOk P t x.1) :
  ∃ n ds,fuel=n+1∧cs.length=P.cellsOf t∧x.1=.agg ds∧∀ (i:Nat) (f:Field),fs[i]? = some f→∃ y,tr enc P w held n f.type ((cs.drop f.offset).take (P.cellsOf f.type))=some y∧WOk P f.type y.1∧ds[i]? = some y.1:=by
 obtain ⟨xs,n,rfl,rfl,hl,hlen,hf⟩:=DataW.trod_struct ht h
 refine ⟨n,xs.map (·.1),rfl,hl,rfl,fun i f hi=>?_⟩
 have hw':(DataW.weightsEach P (fs.map (·.type)) (xs.map (·.1))).all (·≤reachBytes)=true:=by
  have:=hw
  simpa [WOk,DataW.weights,ht] using this
 have hil:i<fs.length:=(List.getElem?_eq_some_iff.1 hi).1
 have h1:=hf i f (by simpa using hi)
 have hxl:i<xs.length:=by simp at hlen;omega
 rw [List.getElem?_eq_getElem hxl] at h1
 exact ⟨_,h1,weightsEach_at hw' i _ _ (by rw [List.getElem?_map,hi];rfl) (by rw [List.getElem?_map,List.getElem?_eq_getElem hxl];rfl),by rw [List.getElem?_map,List.getElem?_eq_getElem hxl];rfl⟩
end
theorem bulk_pos {H:Type} (d:DataW H):1≤Rows.uptoBulk d:=by
 cases d with
 | lit l=>cases l <;> simp [Rows.uptoBulk]
 | _=>simp [Rows.uptoBulk]
end Go.Proofs.YtkhdiakpdafcdaaGreatDoor
