/- What the theorem needs of the texts OvPre, OvCom0, OvPre2, OvPreW, CmpW, CmpI, CmpA, LogP, Det, VSame, OvCom, OvComW, PutV, Act12, TrodB: no condition of its own. -/
import Derived.Sort.KeysCollected
import Derived.Sort.MapsRangeIn
import Derived.Laws.IdiomStrings
import Derived.WalkArith
import Derived.OrdersIn
import Derived.TacticsInMore
import Derived.LoopNIn
import Derived.LoopIn
import Derived.Lib.Bytealg
import Derived.Test.YtechahocffcbpaaGreatDoorRows
import Derived.Test.YtechahocffcbpaaGreatDoorPwa
import Derived.Test.YtechahocffcbpaaGreatDoorPwb
import Derived.Test.YtechahocffcbpaaGreatDoorPwc
import Derived.Test.YtechahocffcbpaaGreatDoorPwd
import Derived.Test.YtechahocffcbpaaGreatDoorPwe
import Derived.Test.YtechahocffcbpaaGreatDoorPwf
import Derived.Test.YtechahocffcbpaaGreatDoorPwi
import Derived.Test.YtechahocffcbpaaGreatDoorPwg
set_option maxRecDepth 100000
set_option maxHeartbeats 4000000
namespace Go.Proofs.YtechahocffcbpaaGreatDoor
open Go.RowKit Go.Maps Go.Shelf
set_option linter.unusedVariables false
set_option linter.unusedSimpArgs false
theorem Tryz.infoStringO:(Tryz.prog.info? 9).map (fun i=>(i.zero,i.size,i.bytes))=some (some (.string ByteArray.empty),1,16):=by kernel_rfl
def beginsO (p k:ByteArray):Bool:=p.toList.isPrefixOf k.toList
theorem begins_any (w:World) (k p:ByteArray):Calls Tryz.prog 48 #[.string k,.string p] w fun e w'=>e=.returned (.bool (beginsO p k))∧w'=w:=by
 have hc:∀ W,Calls Tryz.prog 82 #[.string k,.string p] W fun e w'=>e=.returned (.bool (beginsO p k))∧w'=W:=fun W=>by
  have:=Any.strings_HasPrefix Tryz.layHasPrefix k p W
  unfold beginsO
  rw [ByteArray.toList_eq,ByteArray.toList_eq]
  exact this
 go_enter Tryz.func48,Tryz.ntmps48
 go_wp2_with fail
 refine (hc _).mono ?_
 rintro e w' ⟨rfl,rfl⟩
 go_wp2_with fail
 go_ret
 exact ⟨rfl,rfl⟩
structure CollP (w:World) (B:Nat) (ks:List ByteArray) (s:Sl) (W:World):Prop where
 blk:Blk W B 59 #[.slice s.a ks.length s.c]
 own:W.ownsRow (w.heap.size+2) 9 1 (.slice s.a ks.length s.c) ks.length (ks.map .string)
 sb:Sb (fun b=>b=B) w W
 sz:w.heap.size+2≤W.heap.size
section
variable {w W W' : World} {B : Nat} {ks : List ByteArray} {s : Sl}
theorem CollP.row (h:CollP w B ks s W) {b:Nat} (hb:s.row=some b):w.heap.size+2≤b∧b<W.heap.size:=own_row h.own hb
theorem CollP.keep {G:Nat→Prop} (h:CollP w B ks s W) (k:Sb G W W') (hB:¬G B) (hr:∀ b,s.row=some b→¬G b) (hG:∀ b,G b→w.heap.size≤b):CollP w B ks s W':=
 ⟨k.blk h.blk hB,own_agree h.own k.agree fun b hb=>⟨(h.row hb).2,hr b hb⟩,h.sb.comp k fun i hi hg=>by have:=hG i hg;omega,Nat.le_trans h.sz k.size⟩
theorem CollP.ext (h:CollP w B ks s W) (k:Ext W W'):CollP w B ks s W':=h.keep (k.sb fun _=>False) (fun e=>e) (fun _ _ e=>e) fun _ e=>e.elim
theorem CollP.start (hb:Blk w B 59 #[.slice none 0 0]) (hx:Ext w W) (hz:w.heap.size+2≤W.heap.size):CollP w B [] Sl.none W:=
 ⟨hb.ext hx,World.ownsRow_nil _ _ _ _,hx.sb _,hz⟩
theorem CollP.snoc {W4 w5:World} {s3:Sl} {x:ByteArray} (hB:B<w.heap.size) (h:CollP w B ks s W) (hx:Ext W W4) (hown:w5.ownsRow (w.heap.size+2) 9 1 (.slice s3.a (ks.length+1) s3.c) (ks.length+1) (ks.map .string++[.string x])) (hwr:Wr W4 w5 s.row) (hs3:s3.a=s.a∨s3.a=some ⟨W4.heap.size,0,none⟩∧Wr W4 w5 none) :
  CollP w B (ks++[x]) s3 (w5.setCell ⟨B,0,none⟩ (.slice s3.a (ks.length+1) s3.c))∧St (fun b=>b=B∨s.row=some b) W (w5.setCell ⟨B,0,none⟩ (.slice s3.a (ks.length+1) s3.c))∧(∀ b,s3.row=some b→s.row=some b∨W.heap.size≤b)∧(∀ b,(b=B∨s3.row=some b)→b<(w5.setCell ⟨B,0,none⟩ (.slice s3.a (ks.length+1) s3.c)).heap.size):=by
 have h0:=h.sb.size
 have h1:=hx.size
 have h2:=hwr.grown.size
 have hz:=h.sz
 have hrow:∀ b,s3.row=some b→s.row=some b∨W4.heap.size≤b:=fun b hb=>by
  rcases hs3 with e | ⟨e,-⟩
  ·exact .inl (by rw [←hb];simp [Sl.row,e])
  right;rw [Sl.row,e] at hb;simp at hb;omega
 have hset:St (fun b=>b=B) w5 (w5.setCell ⟨B,0,none⟩ (.slice s3.a (ks.length+1) s3.c)):=(St.refl (fun b=>b=B) w5).set (p:=⟨B,0,none⟩) (.inr rfl) _
 have h45:St (fun b=>s.row=some b) W4 w5:=hwr.st fun i hi=>hi
 have hall:St (fun b=>b=B∨s.row=some b) W (w5.setCell ⟨B,0,none⟩ (.slice s3.a (ks.length+1) s3.c)):=((hx.st _).trans (h45.mono fun i _ hi=>.inr hi)).trans (hset.mono fun i _ hi=>.inl hi)
 have hBr:¬s.row=some B:=fun e=>by have:=(h.row e).1;omega
 have hxl:(ks++[x]).length=ks.length+1:=by simp
 have hr5:∀ b,s3.row=some b→b<w5.heap.size:=fun b hb=>(own_row hown hb).2
 refine ⟨⟨?_,?_,?_,by rw [World.size_setCell];omega⟩,hall,fun b hb=>(hrow b hb).imp id fun e=>by omega,fun b hb=>?_⟩
 ·rw [hxl];exact (h45.blk (h.blk.ext hx) hBr).set_ 0 _
 ·rw [hxl,List.map_append]
  exact own_agree hown hset.agree fun b hb=>⟨hr5 b hb,fun e=>by
   rcases hrow b hb with h | h
   ·exact hBr (by rw [h,e])
   omega⟩
 ·exact h.sb.comp hall.sb fun i hi e=>by
   rcases e with e | e
   ·exact e
   have:=(h.row e).1;omega
 rw [World.size_setCell]
 rcases hb with e | e
 ·omega
 exact hr5 b e
end
theorem commit_none {H:Nat→Prop} {w:World} {O:Nat} {d:OD} (h:OvAt H w O d) (hm:d.mb=none):Calls Tryz.prog 12 #[.pointer (some ⟨O,0,none⟩)] w fun e w'=>e=.returned (treeV d.T)∧Nw w w':=by
 have c0:w.cell? ⟨O,0,none⟩=some (rootV d.T):=h.blk.cell 0
 have c1:w.cell? ⟨O,1,none⟩=some (.map none):=by have:=h.blk.cell 1;rw [hm] at this;exact this
 have lO:=h.blk.lt
 obtain ⟨r,hr⟩:=rootV_ptr d.T
 rw [treeV,hr]
 rw [hr] at c0
 have l1:O<w.heap.size+1:=by omega
 have l2:O<w.heap.size+1+1:=by omega
 clear h hm hr
 go_enter Tryz.func12,Tryz.ntmps12
 go_wp2_with fail
 generalize hW0:World.alloc _ _=W0
 obtain ⟨hx0,hz0,hb0,hb1⟩:=two_blocks w _ _ _ _ W0 hW0
 have HX0:=Lib.hid hx0
 have HB0:=Lib.hid hb0
 have HB1:=Lib.hid hb1
 have HZ0:=Lib.hid hz0
 clear hW0 hx0 hb0 hb1 l1 l2 hz0
 refine ((callsIn_wide (n:=5)).1 (Tryz.maps_Keys_38 none W0)).mono ?_
 rintro e w' ⟨rfl,rfl⟩
 go_wp2_with fail
 refine ((callsIn_wide (n:=5)).1 (Tryz.slices_Sorted_keys_nil_37_38 W0)).mono ?_
 rintro e w2 ⟨v,ss,rfl,rfl,hrow,hnil,hbl⟩
 obtain rfl:=hnil.2 rfl
 have hn2:Nw W0 w2:=(Nw.of ((Ext.refl W0).alloc #[.map none] 26)).trans (Sb.new hbl)
 have hb0:=hn2.blk HB0.out
 have hb1:=hn2.blk HB1.out
 have q0:w2.cell? ⟨w.heap.size,0,none⟩=some (.pointer none):=hb0.cell 0
 have q1:w2.cell? ⟨w.heap.size+1,0,none⟩=some (.pointer r):=hb1.cell 0
 have f0:=hb0.frozen 0
 have k0:=hb0.lt
 have k1:=hb1.lt
 have HN:=Lib.hid (show Nw w (w2.setCell ⟨w.heap.size,0,none⟩ (.pointer r)) from
  (((Nw.of HX0.out).any (fun b=>w.heap.size≤b)).trans (hn2.any _)).set (p:=⟨w.heap.size,0,none⟩) (.inl (Nat.le_refl _)) _ |>.mono fun i hi e=>by omega)
 clear hrow hnil hbl hn2 hb0 hb1 c0 c1
 go_wp2_with fail
 go_loopw [23] (fun q wr=>q=.int .i64 0∧wr=w2) (fun _ _=>0)
 case atStart=>exact ⟨rfl,rfl⟩
 obtain ⟨rfl,rfl⟩:=hrel
 go_wp2_with fail
 refine bodyPost_ret (v:=.agg #[.pointer r]) (by simp [results,Tryz.results12,go_sem,q0]) rfl ?_
 exact ⟨rfl,HN.out⟩
def ownP (C:AL SV) (pre:List LE):List ByteArray:=(pre.filter fun x=>(getA C x.k).isNone).map LE.k
theorem ownP_yes {C:AL SV} {pre:List LE} {x:LE} (h:getA C x.k=none):ownP C (pre++[x])=ownP C pre++[x.k]:=by
 unfold ownP;rw [List.filter_append,List.map_append,List.filter_cons,if_pos (by rw [h];rfl)];rfl
theorem ownP_no {C:AL SV} {pre:List LE} {x:LE} {s:SV} (h:getA C x.k=some s):ownP C (pre++[x])=ownP C pre:=by
 unfold ownP;rw [List.filter_append,List.map_append,List.filter_cons,if_neg (by rw [h];simp)];simp
theorem ownP_len (C:AL SV) (pre:List LE):(ownP C pre).length≤pre.length:=by
 unfold ownP;rw [List.length_map];exact List.length_filter_le _ _
def hitO (C:AL SV) (p k:ByteArray):Bool:=match getA C k with
 | some s=>s.has && beginsO p k
 | none=>false
abbrev textO (l:List UInt8):ByteArray:=⟨l.toArray⟩
def hitsP (C:AL SV) (p:ByteArray) (ss:List (List UInt8)):List ByteArray:=(ss.map textO).filter (hitO C p)
theorem hitsP_yes {C:AL SV} {p:ByteArray} {ss:List (List UInt8)} {x:List UInt8} (h:hitO C p (textO x)=true):hitsP C p (ss++[x])=hitsP C p ss++[textO x]:=by
 unfold hitsP;rw [List.map_append,List.filter_append,List.map_singleton,List.filter_cons,if_pos h];rfl
theorem hitsP_no {C:AL SV} {p:ByteArray} {ss:List (List UInt8)} {x:List UInt8} (h:hitO C p (textO x)=false):hitsP C p (ss++[x])=hitsP C p ss:=by
 unfold hitsP;rw [List.map_append,List.filter_append,List.map_singleton,List.filter_cons,if_neg (by rw [h];simp)];simp
theorem hitsP_len (C:AL SV) (p:ByteArray) (ss:List (List UInt8)):(hitsP C p ss).length≤ss.length:=by
 unfold hitsP
 have:=List.length_filter_le (hitO C p) (ss.map textO)
 rwa [List.length_map] at this
theorem strKeys_mapA (C:AL SV):strKeys (mapA SV.val C)=C.map fun q=>bytesO q.1:=by
 show (C.map (entA SV.val)).map _=_
 rw [List.map_map];rfl
theorem klt_ne {a b:ByteArray} (h:klt a b=true):a≠b:=fun e=>by rw [e,klt_irrefl] at h;cases h
theorem pre_all {d:OD} {p:ByteArray} (hs:Sorted (entsT d.T)) (hC:SortedA d.C) {xs:List LE} (hx:xs.map LE.ent=prefixE p (entsT d.T)) {ss:List (List UInt8)} (hp:ss.Perm (d.C.map fun q=>bytesO q.1)) :
  (ownP d.C xs++hitsP d.C p ss).Nodup∧∀ k,k∈ownP d.C xs++hitsP d.C p ss↔(beginsO p k=true∧(d.now k).isSome=true):=by
 have hsp:(prefixE p (entsT d.T)).Pairwise fun a b=>klt a.1 b.1=true:=hs.sublist (List.filter_sublist ..)
 rw [←hx] at hsp
 have hk1:(xs.map LE.k).Pairwise fun a b=>klt a b=true:=List.pairwise_map.2 (List.pairwise_map.1 hsp)
 have hn1:(ownP d.C xs).Nodup:=((List.pairwise_map.2 ((List.pairwise_map.1 hk1).sublist (List.filter_sublist ..))).imp fun h=>klt_ne h)
 have hnC:(d.C.map fun q=>bytesO q.1).Nodup:=List.pairwise_map.2 (hC.imp fun {a b} h (e:bytesO a.1=bytesO b.1)=>klt_ne h (congrArg textO e:textO (bytesO a.1)=textO (bytesO b.1)))
 have hns:(ss.map textO).Nodup:=List.pairwise_map.2 ((hp.nodup_iff.2 hnC).imp fun {a b} h (e:textO a=textO b)=>h (congrArg bytesO e:bytesO (textO a)=bytesO (textO b)))
 have hn2:(hitsP d.C p ss).Nodup:=hns.sublist (List.filter_sublist ..)
 have hm1:∀ k,k∈ownP d.C xs↔(beginsO p k=true∧(getE (entsT d.T) k).isSome=true∧getA d.C k=none):=fun k=>by
  have hmem:∀ (e:Ent),e∈xs.map LE.ent↔(e∈entsT d.T∧beginsO p e.1=true):=fun e=>by rw [hx];exact List.mem_filter
  unfold ownP
  rw [List.mem_map]
  constructor
  ·rintro ⟨x,hx',rfl⟩
   obtain ⟨h1,h2⟩:=List.mem_filter.1 hx'
   obtain ⟨h3,h4⟩:=(hmem x.ent).1 (List.mem_map_of_mem h1)
   exact ⟨h4,by have:=getE_mem hs h3;rw [show x.ent.1=x.k from rfl] at this;rw [this];rfl,Option.isNone_iff_eq_none.1 h2⟩
  rintro ⟨h1,h2,h3⟩
  obtain ⟨v,hv⟩:=Option.isSome_iff_exists.1 h2
  obtain ⟨x,hx',he⟩:=List.mem_map.1 ((hmem (k,v)).2 ⟨mem_getE hv,h1⟩)
  have hxk:x.k=k:=congrArg Prod.fst he
  exact ⟨x,List.mem_filter.2 ⟨hx',by rw [hxk,h3];rfl⟩,hxk⟩
 have hm2:∀ k,k∈hitsP d.C p ss↔hitO d.C p k=true:=fun k=>by
  unfold hitsP
  rw [List.mem_filter]
  refine ⟨fun h=>h.2,fun h=>⟨?_,h⟩⟩
  unfold hitO at h
  cases hg:getA d.C k with
  | none=>rw [hg] at h;cases h
  | some s=>
    have h5:bytesO k∈ss:=hp.mem_iff.2 (List.mem_map.2 ⟨(k,s),getA_some hg,rfl⟩)
    exact List.mem_map.2 ⟨bytesO k,h5,rfl⟩
 refine ⟨List.nodup_append.2 ⟨hn1,hn2,fun a ha b hb e=>?_⟩,fun k=>?_⟩
 ·subst e
  have h1:=((hm1 a).1 ha).2.2
  have h2:=(hm2 a).1 hb
  unfold hitO at h2
  rw [h1] at h2;cases h2
 rw [List.mem_append,hm1,hm2]
 unfold hitO
 cases hg:getA d.C k with
 | none=>rw [now_none hg];simp
 | some s=>
   rw [now_some hg]
   unfold SV.opt
   cases hh:s.has <;> cases beginsO p k <;> simp [hh]
theorem at_some {C:AL SV} {x:List UInt8} {yd:DataW Value} {yp:List MemPlace} {c:Value} (hat:∀ zd,(mapA SV.val C).atKey (.string x) zd=yd) (hv:heldR c=some (yd,yp)):∃ sv,getA C (textO x)=some sv∧c=sv.val:=by
 have h1:=at_mapA SV.val C (textO x)
 cases hg:getA C (textO x) with
 | none=>
   simp only [hg] at h1
   have a:=(h1 .nil).symm.trans (hat .nil)
   have b:=(h1 (.held (.bool true))).symm.trans (hat _)
   rw [←a] at b
   cases b
 | some s=>
   simp only [hg] at h1
   have a:=(h1 .nil).symm.trans (hat .nil)
   rw [←a] at hv
   exact ⟨s,rfl,heldR_inv hv⟩
theorem hitO_eq {C:AL SV} {p k:ByteArray} {s:SV} (h:getA C k=some s):hitO C p k=(s.has && beginsO p k):=by unfold hitO;rw [h]
theorem nodup_leO {α:Type} [DecidableEq α]:∀ {ss l:List α},ss.Nodup→(∀ x∈ss,x∈l)→ss.length≤l.length
 | [],l,_,_=>Nat.zero_le _
 | a :: ss,l,hn,hs=>by
   have ha:=hs a (List.mem_cons_self ..)
   have hn':=List.nodup_cons.1 hn
   have:=nodup_leO (ss:=ss) (l:=l.erase a) hn'.2 fun x hx=>(List.mem_erase_of_ne (fun e=>hn'.1 (by rw [←e];exact hx))).2 (hs x (List.mem_cons_of_mem _ hx))
   have he:=List.length_erase_of_mem ha
   have:0<l.length:=List.length_pos_of_mem ha
   simp only [List.length_cons]
   omega
theorem collected_short {C:AL SV} {left:Lit→Bool} {ss:List (List UInt8)} (h:Collected (mapA SV.val C) left ss):ss.length≤C.length:=by
 have h2:=nodup_leO (l:=C.map fun q=>bytesO q.1) h.1 fun x hx=>by
  have:=((h.2 x).1 hx).1
  rw [show Lit.string x=keyS (textO x) from rfl,has_mapA] at this
  obtain ⟨s,hs⟩:=Option.isSome_iff_exists.1 this
  exact List.mem_map.2 ⟨(textO x,s),getA_some hs,rfl⟩
 rwa [List.length_map] at h2
def PrePostO (d:OD) (p:ByteArray) (w:World) (e:Ending) (w':World):Prop:=
 ∃ (s:Sl) (ks:List ByteArray),e=.returned (.slice s.a ks.length s.c)∧Nw w w'∧Rd w' (In w.heap.size w'.heap.size) 1 s ks.length (ks.map .string)∧ks.Pairwise (fun x y=>klt x y=true)∧∀ k,k∈ks↔(beginsO p k=true∧(d.now k).isSome=true)
theorem pre_end {d:OD} {p:ByteArray} {w w1 W w5 w6:World} {B:Nat} {s:Sl} {ks ts:List ByteArray} (h1:Nw w w1) (hB:w.heap.size≤B) (hc:CollP w1 B ks s W) (hn:ks.Nodup) (hm:∀ k,k∈ks↔(beginsO p k=true∧(d.now k).isSome=true))
  (hp:ts.Perm ks) (hs:(ts.map bytesO).Pairwise fun x y=>decide (x≤y)=true) (ho:w5.ownsRow (w1.heap.size+2) 9 1 (.slice s.a ts.length s.c) ts.length (ts.map .string)) (hg:W.grownBy w5 s.row) {D:Nat} (h6:Sb (fun b=>b=D) w5 w6) (hD:w1.heap.size=D) :
  PrePostO d p w (.returned (.slice s.a ts.length s.c)) w6:=by
 have hz:=h1.size
 have h5:Sb (fun b=>s.row=some b) W w5:=⟨hg.os,hg.tape,hg.output,hg.size,fun i hi hn=>hg.block i hi fun e=>hn e.symm⟩
 refine ⟨s,ts,rfl,?_,?_,rise_sorted hs (hp.nodup_iff.2 hn),fun k=>(hp.mem_iff).trans (hm k)⟩
 ·have h15:Sb (fun b=>B=b∨w1.heap.size≤b) w1 w6:=((hc.sb.mono fun i _ e=>.inl e.symm).trans (h5.mono fun i _ e=>.inr (by have:=(hc.row e).1;omega))).trans (h6.mono fun i _ e=>.inr (by omega))
  exact ((h1.any (fun b=>w.heap.size≤b)).comp h15 fun i hi e=>by rcases e with e | e <;> omega).mono fun i hi e=>by omega
 have hrow:∀ b,s.row=some b→w1.heap.size+2≤b∧b<w5.heap.size:=fun b hb=>own_row ho hb
 have ho6:=own_agree ho h6.agree fun b hb=>⟨(hrow b hb).2,fun e=>by have:=(hrow b hb).1;omega⟩
 exact (Rd.of_own ho6).mono fun i hi=>⟨by have:=hi.1;omega,hi.2⟩
end Go.Proofs.YtechahocffcbpaaGreatDoor
namespace Go.Proofs.YtechahocffcbpaaGreatDoor
open Go.RowKit Go.Maps Go.Shelf Go.Sort
set_option linter.unusedVariables false
set_option linter.unusedSimpArgs false
attribute [local go_sem] Oper.semAt_some
theorem run_range_nilO (w:World):(Instr.range 26 (.map none)).run Tryz.prog w=.ok (.pointer (some ⟨w.heap.size,0,none⟩)) (w.alloc (.mapIter none 0 #[] 0)):=by
 simp [Instr.range,run_underlying Tryz.underlying26,newObj,Sem.run_bind,Sem.run_pure,Result.andThen]
 rfl
theorem run_next_nilO {w:World} {r:Nat} (h:w.heap[r]? = some (.mapIter none 0 #[] 0)) (ty:TypeId):(Instr.next (.pointer (some ⟨r,0,none⟩)) false ty).run Tryz.prog w=.ok (.tuple #[.bool false]) w:=by
 have hg:(getObj r).run Tryz.prog w=.ok (.mapIter none 0 #[] 0) w:=by simp [getObj,Sem.run,h]
 unfold Instr.next
 simp only [Sem.run_bind,Sem.run_pure,Result.andThen_ok,hg]
theorem ranges_keepO {H:Type} {P:Program} {k:TypeId} {R:Value→Option (DataW H × List MemPlace)} {w w':World} {b r n:Nat} {D:DataW H} {left:Lit→Bool} {cnt:Nat} (h:w.ranges P k R b r n D left cnt) (hb:w'.heap[b]? = w.heap[b]?) (hr:w'.heap[r]? = w.heap[r]?):w'.ranges P k R b r n D left cnt:=by
 obtain ⟨es,clock,since,seen,c0,h1,h2,h3,h4,h5,h6⟩:=h
 exact ⟨es,clock,since,seen,c0,hb.trans h1,h2,h3,h4,hr.trans h5,h6⟩
theorem ranges_ltO {H:Type} {P:Program} {k:TypeId} {R:Value→Option (DataW H × List MemPlace)} {w:World} {b r n:Nat} {D:DataW H} {left:Lit→Bool} {cnt:Nat} (h:w.ranges P k R b r n D left cnt):b<w.heap.size∧r<w.heap.size∧(∀ t cs,¬Blk w b t cs):=by
 obtain ⟨es,clock,since,seen,c0,h1,h2,h3,h4,h5,h6⟩:=h
 refine ⟨(Array.getElem?_eq_some_iff.1 h1).1,(Array.getElem?_eq_some_iff.1 h5).1,fun t cs hb=>?_⟩
 have hb:w.heap[b]? = some (.cells cs t (0,0)):=hb
 rw [h1] at hb;cases hb
structure PreL (w1:World) (B r b D:Nat) (C:AL SV) (p:ByteArray) (ks1:List ByteArray) (left:Lit→Bool) (cnt:Nat) (ss:List (List UInt8)) (s:Sl) (wr:World):Prop where
 col:CollP w1 B (ks1++hitsP C p ss) s wr
 rg:wr.ranges Tryz.prog 9 heldR b r C.length (mapA SV.val C) left cnt
 co:Collected (mapA SV.val C) left ss
 ne:s.row≠some r
 dk:wr.heap[D]? = some (.deferred (some []))
theorem prefix_ov {H:Nat→Prop} {w:World} {O:Nat} {d:OD} (h:OvAt H w O d) (hl:(entsT d.T).length≤1000000) (hn:d.us.length≤1000000) {p:ByteArray} (hp:p.size≤maxLen) :
  Calls Tryz.prog 22 #[.pointer (some ⟨O,0,none⟩),.string p] w (PrePostO d p w):=by
 obtain ⟨i0,hi,hz0,hz1,hz2⟩:=info_parts Tryz.infoStringO
 have hF:∀ b,OvF H w O d b→b<w.heap.size:=fun b hb=>hb.1
 have hra:=fun W=>prefix_any W d.T p hp
 have hse:=fun W1 (hA:Agree (Lt w.heap.size) w W1) (hz:w.heap.size≤W1.heap.size) B lo hi op (hB:RangeB W1 B d.T lo hi op)=>range_seq (lo:=lo) (hi:=hi) (op:=op) (show TreeAt (OvF H w O d) d.T W1 from ⟨h.tree.agree (hA.mono hF),fun b hb=>Nat.lt_of_lt_of_le (hF b hb) hz⟩) h.ok hl hB
 obtain ⟨r,hpr⟩:=rootV_ptr d.T
 simp only [treeV,hpr] at hra
 have c0:w.cell? ⟨O,0,none⟩=some (.pointer r):=by rw [←hpr];exact h.blk.cell 0
 have lO:=h.blk.lt
 have l1:O<w.heap.size+1:=by omega
 have HAT:=Lib.hid h
 have HFL:=Lib.hid hF
 have HRA:=Lib.hid hra
 have HSE:=Lib.hid hse
 clear h hF hra hse hpr
 refine (callsIn_wide (n:=6)).1 ?_
 refine callsIn_of_wp_marks Tryz.func22 rfl trivial ?_ rfl
 simp only [Tryz.ntmps22,List.size_toArray,List.length_cons,List.length_nil,Nat.reduceAdd,Nat.reduceSub,Array.replicate_succ,Array.replicate_zero,List.push_toArray,List.append_toArray,List.nil_append,List.cons_append]
 gi_wp2_with fail
 generalize hW0:World.alloc (World.alloc _ _) _=W0
 obtain ⟨hx0,hz0',hb0,hb1⟩:=two_blocks w _ _ _ _ W0 hW0
 have HX0:=Lib.hid hx0
 have HB0:=Lib.hid hb0
 have HB1:=Lib.hid hb1
 clear hW0 hx0 hb0 hb1
 refine ⟨trivial,?_⟩
 refine (callsIn_wide.2 (HRA.out W0)).mono ?_
 rintro e w1 ⟨B,en,op,rfl,hbw,hrb,hB,hpe⟩
 have hbw1:=Bw.trans HX0.out.below hbw
 have hn1:Nw w w1:=(Nw.of HX0.out).trans (Sb.new hbw)
 have HOV:=Lib.hid (HAT.out.nw hn1)
 have hC0:Blk w1 w.heap.size 43 #[.pointer (some ⟨O,0,none⟩)]:=HB0.out.agree (Agree.of_below hbw (F:=Lt W0.heap.size) fun _ h=>h) (by show _<_;omega)
 have hC1:Blk w1 (w.heap.size+1) 59 #[.slice none 0 0]:=HB1.out.agree (Agree.of_below hbw (F:=Lt W0.heap.size) fun _ h=>h) (by show _<_;omega)
 have HSQ:=Lib.hid (HSE.out w1 (Agree.of_below hbw1 (F:=Lt w.heap.size) fun _ h=>h) hbw1.size B p en op hrb)
 have HN1:=Lib.hid hn1
 have HC0:=Lib.hid hC0
 have HC1:=Lib.hid hC1
 have HPE:=Lib.hid (hpe (entsT d.T))
 have hBl:=hrb.lt
 have hs1:=hbw1.size
 have hl0:w.heap.size<w1.heap.size:=hC0.lt
 have hl1:w.heap.size+1<w1.heap.size:=hC1.lt
 clear hbw hrb HRA HSE hbw1 hC0 hC1 hpe HB0 HB1 hn1
 rw [HPE.out] at HSQ
 gi_wp2_with fail
 refine wpIn_rangeC (gf:=120) (lb:=rangeL B) rfl (enters_of Tryz.func120 (by kernel_rfl) rfl) HSQ.out (Agree.refl _) (Nat.le_refl _)
  (fun b hb=>hb.elim (fun h=>by have:=HFL.out b h;omega) (fun h=>by omega)) (fun _=>rfl)
  (fun pre C W=>∃ s:Sl,C=(fun b=>b=w.heap.size+1∨s.row=some b)∧CollP w1 (w.heap.size+1) (ownP d.C pre) s W) (fun _ _ _=>False) (fun b=>b=w.heap.size+1)
  (fun b hb=>⟨by omega,fun h=>h.elim (fun h=>by have:=HFL.out b h;omega) (fun h=>by omega)⟩)
  (fun h k=>?turn) (fun h k=>h) (fun W hW hz=>⟨Sl.none,by funext b;simp [Sl.row],CollP.start HC1.out hW hz⟩) ?round ?done ?stop
 case turn=>
  obtain ⟨s,e,hc⟩:=h
  exact ⟨s,e,hc.keep k.sb (by omega) (fun b hb=>by have:=(hc.row hb).1;omega) fun b hb=>by omega⟩
 case stop=>
  rintro D c pre W hD hSp hX hDk
  exact hX.elim
 case round=>
  rintro pre C x W0' W1 ⟨s,rfl,hcp⟩ hlt hsz hnL hx01 hG
  obtain ⟨ks,hks⟩:∃ ks,ownP d.C pre=ks:=⟨_,rfl⟩
  have hkl:ks.length<1000000:=by
   have h1:=(List.getElem?_eq_some_iff.1 hG.at_).1
   have h2:=ownP_len d.C pre
   have h3:(prefixE p (entsT d.T)).length≤1000000:=Nat.le_trans (List.length_filter_le _ _) hl
   rw [←hks];omega
  have hkm:=hG.key
  rw [hks] at hcp
  have hcp1:=hcp.ext hx01
  have HCP:=Lib.hid hcp1
  have HKS:=Lib.hid hks
  clear hcp hcp1 hx01 hG hnL hlt hks
  gi_wp2_with fail
  refine ⟨Ext.refl _,fun W3 k3=>?_⟩
  have hcp3:=HCP.out.keep k3.sb (by omega) (fun b hb=>by have:=(HCP.out.row hb).1;omega) fun b hb=>by omega
  have hsb3:=hcp3.sb
  have q0:W3.cell? ⟨w.heap.size,0,none⟩=some (.pointer (some ⟨O,0,none⟩)):=(hsb3.blk HC0.out (by omega)).cell 0
  have q1:W3.cell? ⟨O,1,none⟩=some (.map d.mb):=(hsb3.blk HOV.out.blk (by omega)).cell 1
  have lq:O<W3.heap.size:=(hsb3.blk HOV.out.blk (by omega)).lt
  have hmap:OvMap W3 d.mb d.C:=HOV.out.map.heap fun b hb=>hsb3.block b (HOV.out.map.lt hb) fun e=>by have:=HAT.out.map.lt hb;omega
  have hlk:=look_ov hmap hkm
  have HCP3:=Lib.hid hcp3
  have hrow3:∀ b,s.row=some b→w1.heap.size+2≤b∧b<W3.heap.size:=fun b hb=>hcp3.row hb
  have c3:W3.cell? ⟨w.heap.size+1,0,none⟩=some (.slice s.a ks.length s.c):=hcp3.blk.cell 0
  have f3:W3.frozen? ⟨w.heap.size+1,0,none⟩=false:=hcp3.blk.frozen 0
  have l3:=hcp3.blk.lt
  cases hg:getA d.C x.k with
  | some sv=>
    rw [hg,show hadA d.C x.k=sv by rw [hadA,hg];rfl] at hlk
    obtain ⟨has,v,sl,so⟩:=sv
    have HG:=Lib.hid hg
    clear hg hcp3 hsb3 hmap
    gi_wp2_with fail
    have hx4:=(Ext.refl W3).alloc #[.bool has,.int .i64 v.kind,.bool v.b,.int .i64 v.i,.string v.t,.slice sl.a v.l.length sl.c,.slice so.a v.ok.length so.c] 85
    exact ⟨_,⟨s,rfl,by rw [ownP_no HG.out,HKS.out];exact HCP3.out.ext hx4⟩,hx4.st _,fun b hb=>.inl hb,fun b hb=>by
     have:=hx4.size
     rcases hb with e | e
     ·omega
     have:=(hrow3 b e).2;omega⟩
  | none=>
    rw [hg,show hadA d.C x.k=zeroSV by rw [hadA,hg];rfl] at hlk
    have hx34:Ext W3 ((W3.alloc (.cells #[.bool false,.int .i64 0,.bool false,.int .i64 0,.string ByteArray.empty,.slice none 0 0,.slice none 0 0] 85)).alloc (.cells #[.string x.k] 9)):=((Ext.refl W3).alloc _ _).alloc _ _
    have hown4:=own_agree hcp3.own (hx34.agree (F:=Lt W3.heap.size) fun b hb=>hb) fun b hb=>(hrow3 b hb).2
    have h63:ks.length+1≤maxLen:=by unfold maxLen;omega
    have hby:(ks.length+1)*16≤140737488355328:=by omega
    have hs3:=hcp3.sb.size
    have hbase:w1.heap.size+2≤((W3.alloc (.cells #[.bool false,.int .i64 0,.bool false,.int .i64 0,.string ByteArray.empty,.slice none 0 0,.slice none 0 0] 85)).alloc (.cells #[.string x.k] 9)).heap.size:=by have:=hcp3.sz;simp;omega
    have HX34:=Lib.hid hx34
    have HOWN4:=Lib.hid hown4
    have HBN:=Lib.hid (show Blk ((W3.alloc (.cells #[.bool false,.int .i64 0,.bool false,.int .i64 0,.string ByteArray.empty,.slice none 0 0,.slice none 0 0] 85)).alloc (.cells #[.string x.k] 9)) (W3.heap.size+1) 9 #[.string x.k] by
     have:=Blk.new (W3.alloc (.cells #[.bool false,.int .i64 0,.bool false,.int .i64 0,.string ByteArray.empty,.slice none 0 0,.slice none 0 0] 85)) 9 #[.string x.k]
     rwa [World.size_alloc] at this)
    have hWB:¬w.heap.size+1=W3.heap.size:=by omega
    have hWB2:¬w.heap.size+1=W3.heap.size+1:=by omega
    have l3':w.heap.size+1<W3.heap.size+1:=by omega
    have f3X:=Lib.hid ((hx34.frozen (o:=0) l3).trans f3)
    have hrB:s.row≠some (w.heap.size+1):=fun e=>by have:=(hrow3 _ e).1;omega
    have HG:=Lib.hid hg
    clear hg hcp3 hsb3 hmap hx34 hown4
    gi_wp2_with (gi_at_builtin;refine wpListIn_append_x _ rfl (.tmp 32) (.tmp 34) 59 rfl (w1.heap.size+2) 9 i0 _ 1 16 Tryz.underlying59 hi hz0 hz1 hz2 rfl (by decide) s ks.length (ks.map .string) rfl HOWN4.out (fun b=>b=W3.heap.size+1) ⟨some ⟨W3.heap.size+1,0,none⟩,1⟩ 1 [.string x.k] rfl (Rd.block HBN.out (by decide) rfl) (by simp [Value.oneCell']) h63 hby hbase ?_;intro s3 w5 hown5 hwr5 hs5;have h5:=hwr5.cell0 (o:=0) HX34.out hrB l3;have c5:w5.cell? ⟨w.heap.size+1,0,none⟩=some (.slice s.a ks.length s.c):=h5.1.trans c3;have l5:=h5.2;have f5:w5.frozen? ⟨w.heap.size+1,0,none⟩=false:=(hwr5.fz _ _).trans (f3X.out);have HO5:=Lib.hid hown5;have HW5:=Lib.hid hwr5;have HS5:=Lib.hid hs5;clear hown5 hwr5 hs5 h5)
    obtain ⟨e1,e2,e3,e4⟩:=HCP3.out.snoc hl1 HX34.out HO5.out HW5.out HS5.out
    exact ⟨_,⟨s3,rfl,by rw [ownP_yes HG.out,HKS.out];exact e1⟩,e2,fun b hb=>by
     rcases hb with e | e
     ·exact .inl (.inl e)
     exact (e3 b e).imp .inr id,e4⟩
 rintro D xs C W hD hS ⟨s,rfl,hcp⟩ hDk
 have hsb:=hcp.sb
 have q0:W.cell? ⟨w.heap.size,0,none⟩=some (.pointer (some ⟨O,0,none⟩)):=(hsb.blk HC0.out (by omega)).cell 0
 have q1:W.cell? ⟨O,1,none⟩=some (.map d.mb):=(hsb.blk HOV.out.blk (by omega)).cell 1
 have lq:O<W.heap.size:=(hsb.blk HOV.out.blk (by omega)).lt
 have l0:w.heap.size<W.heap.size:=(hsb.blk HC0.out (by omega)).lt
 have hmap:OvMap W d.mb d.C:=HOV.out.map.heap fun b hb=>hsb.block b (HOV.out.map.lt hb) fun e=>by have:=HAT.out.map.lt hb;omega
 have hlen1:(ownP d.C xs).length≤1000000:=by
  have h1:=ownP_len d.C xs
  have h2:(xs.map LE.ent).length=(prefixE p (entsT d.T)).length:=by rw [hS]
  have h3:(prefixE p (entsT d.T)).length≤1000000:=Nat.le_trans (List.length_filter_le _ _) hl
  rw [List.length_map] at h2;omega
 have hDl:=(Array.getElem?_eq_some_iff.1 hDk).1
 have HCP:=Lib.hid hcp
 have HS:=Lib.hid hS
 have HDK:=Lib.hid hDk
 have HMAP:=Lib.hid hmap
 have HD:=Lib.hid hD
 clear hcp hS hDk hmap hsb hD
 obtain ⟨mb,hmb⟩:∃ mb,d.mb=mb:=⟨_,rfl⟩
 rw [hmb] at q1
 have HMB:=Lib.hid hmb
 clear hmb
 rcases mb with _ | b
 ·have hr0:=fun w=>run_range_nilO w
  gi_wp2_with fail
  generalize hWW:World.alloc W _=WW
  have hiter:WW.heap[W.heap.size]? = some (.mapIter none 0 #[] 0):=by rw [←hWW];exact heap_alloc_new W _
  have hsw:Nw W WW:=by rw [←hWW];exact Sb.made (World.grownBy_alloc _ _ _)
  have hCe:d.C=[]:=by have:=HMAP.out;rw [HMB.out] at this;exact this
  have hall:=pre_all (p:=p) (ss:=[]) HAT.out.ok.sorted HAT.out.sorted HS.out (by rw [hCe];exact List.Perm.nil)
  have hcw:=HCP.out.keep (hsw.any (fun _=>False)) (fun e=>e) (fun _ _ e=>e) (fun _ e=>e.elim)
  obtain ⟨ks,hks⟩:∃ ks,ownP d.C xs=ks:=⟨_,rfl⟩
  rw [show hitsP d.C p []=[] from rfl,List.append_nil,hks] at hall
  rw [hks] at hcw hlen1
  obtain ⟨s2,rfl⟩:∃ s2,s2=s:=⟨_,rfl⟩
  have HALL:=Lib.hid hall
  have HCW:=Lib.hid hcw
  have HIT:=Lib.hid hiter
  have HDW:=Lib.hid (show WW.heap[D]? = some (.deferred (some [])) from (hsw.block D hDl (fun e=>e)).trans HDK.out)
  have HSORT:=Lib.hid (sortStr_any hcw.own (by omega))
  have c5:WW.cell? ⟨w.heap.size+1,0,none⟩=some (.slice s2.a ks.length s2.c):=hcw.blk.cell 0
  clear hWW hr0 hall hcw hiter hsw hks q0 q1 lq l0 hCe
  gi_loopw [] (fun wr=>wr=WW) (fun _=>0)
  case atStart=>rfl
  subst hrel
  have hn2:=run_next_nilO HIT.out
  gi_wp2_with fail
  refine ⟨trivial,?_⟩
  refine (callsIn_wide.2 HSORT.out).mono ?_
  rintro e w5 ⟨rfl,ts,hts,hsd,hto,htl,htg⟩
  have hsb5:Sb (fun b=>s2.row=some b) wr w5:=⟨htg.os,htg.tape,htg.output,htg.size,fun i hi hn=>htg.block i hi fun e=>hn e.symm⟩
  have hblk5:=hsb5.blk HCW.out.blk (fun e=>by have:=(HCW.out.row e).1;omega)
  have c6:w5.cell? ⟨w.heap.size+1,0,none⟩=some (.slice s2.a ks.length s2.c):=hblk5.cell 0
  have l6:=hblk5.lt
  have HD5:=Lib.hid (show w5.heap[D]? = some (.deferred (some [])) from (hsb5.block D (by have:=(Array.getElem?_eq_some_iff.1 HDW.out).1;omega) (fun e=>by have:=(HCW.out.row e).1;have:=HD.out;omega)).trans HDW.out)
  have hpost:=pre_end HN1.out (Nat.le_succ _) HCW.out HALL.out.1 HALL.out.2 hts hsd hto htg (St.put (o':=.deferred none) HD5.out rfl rfl).sb HD.out.symm
  rw [htl] at hpost
  have HPOST:=Lib.hid hpost
  clear hsb5 hblk5 hts hsd hto htl htg hpost
  gi_wp2_with fail
  refine ⟨by simp,.inl ⟨_,_,rfl,run_takeDeferred HD5.out,?_⟩⟩
  refine ⟨.slice s2.a ks.length s2.c,?_,HPOST.out⟩
  simp [results,Tryz.results22,go_sem]
 have hown:W.ownsMap Tryz.prog 9 heldR b d.C.length (mapA SV.val d.C):=by
  have:=HMAP.out;rw [HMB.out] at this;exact this
 have HOWN:=Lib.hid hown
 clear hown
 gi_wp2_with (first | (gi_at_range;refine wpListIn_range_own _ rfl _ 26 rfl 9 85 strKey Tryz.underlying26 heldR b d.C.length _ rfl HOWN.out ?_;intro w2 hrg0 hg0 hs0) | fail)
 have hsw:Nw W w2:=Sb.made hg0
 obtain ⟨ks1,hk1⟩:∃ ks1,ownP d.C xs=ks1:=⟨_,rfl⟩
 have hcw:=HCP.out.keep (hsw.any (fun _=>False)) (fun e=>e) (fun _ _ e=>e) (fun _ e=>e.elim)
 rw [hk1] at hcw hlen1
 have hs:s.row≠some W.heap.size:=fun e=>by have:=(HCP.out.row e).2;omega
 have HST:=Lib.hid (show PreL w1 (w.heap.size+1) W.heap.size b D d.C p ks1 (Maps.has (mapA SV.val d.C)) (Maps.size (mapA SV.val d.C)) [] s w2 from
  ⟨by rw [show hitsP d.C p []=[] from rfl,List.append_nil];exact hcw,hrg0,Collected.start _,hs,(hsw.block D hDl (fun e=>e)).trans HDK.out⟩)
 have HK1:=Lib.hid hk1
 have hw1W:w1.heap.size≤W.heap.size:=HCP.out.sb.size
 clear hrg0 hg0 hs0 hsw hcw hs q0 q1 lq l0 hk1
 simp only [Act.put,List.setIfInBounds_toArray,List.set_cons_zero,List.set_cons_succ]
 gi_loopw [] (fun wr=>∃ (left:Lit→Bool) (cnt:Nat) (ss:List (List UInt8)) (s2:Sl),PreL w1 (w.heap.size+1) W.heap.size b D d.C p ks1 left cnt ss s2 wr) (fun wr=>wr.rangeLeft b W.heap.size)
 case atStart=>exact ⟨_,_,_,_,HST.out⟩
 obtain ⟨left,cnt,ss,s2,hP⟩:=hrel
 have hrg:=hP.rg
 have hshort:=collected_short hP.co
 have hfew:=HAT.out.few
 have hhl:=hitsP_len d.C p ss
 have HP:=Lib.hid hP
 clear hP
 gi_wp2_with (first | (gi_at_next;refine wpListIn_next_ranges _ rfl _ rfl 9 strKey heldR encStr id (fun key kl hk=>by obtain ⟨x,hx,_⟩:=Maps.keyOf_str Tryz.underlying9 hk;exact ⟨x,hx⟩) (fun v _ _=>⟨v,rfl⟩) b W.heap.size _ _ _ _ rfl hrg ?_ ?_) | fail)
 ·intro hc0 hl0
  have hperm:=HP.out.co.perm HOWN.out strKey Tryz.underlying9 hl0
  rw [strKeys_mapA] at hperm
  have hall:=pre_all (p:=p) HAT.out.ok.sorted HAT.out.sorted HS.out hperm
  have hcw:=HP.out.col
  rw [HK1.out] at hall
  obtain ⟨ks,hks⟩:∃ ks,ks1++hitsP d.C p ss=ks:=⟨_,rfl⟩
  have hkl:ks.length≤2000000:=by rw [←hks,List.length_append];omega
  rw [hks] at hall hcw
  have HALL:=Lib.hid hall
  have HCW:=Lib.hid hcw
  have HDW:=Lib.hid HP.out.dk
  have HSORT:=Lib.hid (sortStr_any hcw.own (by omega))
  have c5:wr.cell? ⟨w.heap.size+1,0,none⟩=some (.slice s2.a ks.length s2.c):=hcw.blk.cell 0
  clear hrg hperm hall hcw hks hc0 hl0
  gi_wp2_with fail
  refine ⟨trivial,?_⟩
  refine (callsIn_wide.2 HSORT.out).mono ?_
  rintro e w5 ⟨rfl,ts,hts,hsd,hto,htl,htg⟩
  have hsb5:Sb (fun b=>s2.row=some b) wr w5:=⟨htg.os,htg.tape,htg.output,htg.size,fun i hi hn=>htg.block i hi fun e=>hn e.symm⟩
  have hblk5:=hsb5.blk HCW.out.blk (fun e=>by have:=(HCW.out.row e).1;omega)
  have c6:w5.cell? ⟨w.heap.size+1,0,none⟩=some (.slice s2.a ks.length s2.c):=hblk5.cell 0
  have l6:=hblk5.lt
  have HD5:=Lib.hid (show w5.heap[D]? = some (.deferred (some [])) from (hsb5.block D (by have:=(Array.getElem?_eq_some_iff.1 HDW.out).1;omega) (fun e=>by have:=(HCW.out.row e).1;have:=HD.out;omega)).trans HDW.out)
  have hpost:=pre_end HN1.out (Nat.le_succ _) HCW.out HALL.out.1 HALL.out.2 hts hsd hto htg (St.put (o':=.deferred none) HD5.out rfl rfl).sb HD.out.symm
  rw [htl] at hpost
  have HPOST:=Lib.hid hpost
  clear hsb5 hblk5 hts hsd hto htl htg hpost
  gi_wp2_with fail
  refine ⟨by simp,.inl ⟨_,_,rfl,run_takeDeferred HD5.out,?_⟩⟩
  refine ⟨.slice s2.a ks.length s2.c,?_,HPOST.out⟩
  simp [results,Tryz.results22,go_sem]
 intro x c kl yd yp w3 cnt2 hkey hlk hv hat hrg2 hcl hg2 hs2 hen
 obtain ⟨x',ex,rfl,hxl⟩:=Maps.keyOf_str Tryz.underlying9 hkey
 obtain rfl:=encStr_inj ex
 obtain ⟨sv,hsv,rfl⟩:=at_some hat hv
 have hst3:Sb (fun i=>i=W.heap.size) wr w3:=Sb.grown hg2
 have hcol:=HP.out.col.keep hst3 (by omega) (fun i hi e=>HP.out.ne (by rw [hi,e])) (fun i e=>by omega)
 have hco:=HP.out.co.step hlk hat
 obtain ⟨ks,hks⟩:∃ ks,ks1++hitsP d.C p ss=ks:=⟨_,rfl⟩
 have hkl:ks.length≤2000000:=by rw [←hks,List.length_append];omega
 rw [hks] at hcol
 have hdk3:w3.heap[D]? = some (.deferred (some [])):=(hst3.block D (by have:=(Array.getElem?_eq_some_iff.1 HP.out.dk).1;omega) (fun e=>by have:=HD.out;omega)).trans HP.out.dk
 obtain ⟨has,v,sl,so⟩:=sv
 obtain ⟨k,hk⟩:∃ k,textO x=k:=⟨_,rfl⟩
 have hen':(Instr.entry (.pointer (some ⟨W.heap.size,0,none⟩))).run Tryz.prog w3=.ok (.tuple #[.string k,.agg #[.bool has,.int .i64 v.kind,.bool v.b,.int .i64 v.i,.string v.t,.slice sl.a v.l.length sl.c,.slice so.a v.ok.length so.c]]) w3:=by rw [←hk];exact hen
 rw [hk] at hsv
 obtain ⟨lb3,lr3,nb3⟩:=ranges_ltO hrg2
 have hrow3:∀ i,s2.row=some i→w1.heap.size+2≤i∧i<w3.heap.size:=fun i hi=>hcol.row hi
 have hne3:s2.row≠some W.heap.size:=HP.out.ne
 have hneb:s2.row≠some b:=fun e=>by
  rcases hcol.own.2 with ⟨hv,-⟩ | ⟨gg,cap,cur,hv,-,hc,-⟩
  ·injection hv with e1
   rw [Sl.row,e1] at e
   cases e
  injection hv with e1
  rw [Sl.row,e1] at e
  have:gg=b:=by simpa using e
  subst this
  exact nb3 _ _ hc
 have hbB:¬b=w.heap.size+1:=fun e=>nb3 _ _ (by rw [e];exact hcol.blk)
 have c3:w3.cell? ⟨w.heap.size+1,0,none⟩=some (.slice s2.a ks.length s2.c):=hcol.blk.cell 0
 have f3:w3.frozen? ⟨w.heap.size+1,0,none⟩=false:=hcol.blk.frozen 0
 have l3:=hcol.blk.lt
 have HCOL:=Lib.hid hcol
 have HCO:=Lib.hid hco
 have HRG2:=Lib.hid hrg2
 have HRG1:=Lib.hid hrg
 have HDK3:=Lib.hid hdk3
 have HKS:=Lib.hid hks
 have HK:=Lib.hid hk
 have HSV:=Lib.hid hsv
 have HCL:=Lib.hid hcl
 rw [show (encStr x)=Value.string k from by rw [←hk]]
 clear hcol hco hrg2 hrg hdk3 hks hsv hat hv hkey hlk hg2 hs2 hcl hst3 hxl hen
 have hend:∀ (s3:Sl) (w6:World),CollP w1 (w.heap.size+1) (ks1++hitsP d.C p (ss++[x])) s3 w6→s3.row≠some W.heap.size→w6.heap[b]? = w3.heap[b]?→w6.heap[W.heap.size]? = w3.heap[W.heap.size]?→w6.heap[D]? = w3.heap[D]?→
   PreL w1 (w.heap.size+1) W.heap.size b D d.C p ks1 (fun z=>left z && !z.sameKey (.string x)) cnt2 (ss++[x]) s3 w6:=fun s3 w6 h1 h2 h3 h4 h5=>⟨h1,ranges_keepO HRG2.out h3 h4,HCO.out,h2,h5.trans HDK3.out⟩
 have HEND:=Lib.hid hend
 clear hend
 have hx4:=(Ext.refl w3).alloc #[.bool has,.int .i64 v.kind,.bool v.b,.int .i64 v.i,.string v.t,.slice sl.a v.l.length sl.c,.slice so.a v.ok.length so.c] 85
 have HX4:=Lib.hid hx4
 clear hx4
 cases has with
 | false=>
   have hno:hitO d.C p (textO x)=false:=by rw [HK.out,hitO_eq HSV.out];rfl
   have HS3:=Lib.hid (HEND.out s2 _ (by rw [hitsP_no hno,HKS.out];exact HCOL.out.ext HX4.out) hne3 (Below.heap_alloc _ _ _ lb3) (Below.heap_alloc _ _ _ lr3) (Below.heap_alloc _ _ _ (Array.getElem?_eq_some_iff.1 HDK3.out).1))
   gi_wp2_with fail
   refine ⟨trivial,?_⟩
   gi_wp2_with fail
   go_roundw
   case rel=>exact ⟨_,_,_,_,HS3.out⟩
   rw [HS3.out.rg.left_eq,HRG1.out.left_eq];exact HCL.out
 | true=>
   gi_wp2_with fail
   refine ⟨trivial,?_⟩
   refine (callsIn_wide.2 (begins_any _ k p)).mono ?_
   rintro e w4 ⟨rfl,rfl⟩
   cases hbg:beginsO p k with
   | false=>
     have hno:hitO d.C p (textO x)=false:=by rw [HK.out,hitO_eq HSV.out,hbg];rfl
     have HS3:=Lib.hid (HEND.out s2 _ (by rw [hitsP_no hno,HKS.out];exact HCOL.out.ext HX4.out) hne3 (Below.heap_alloc _ _ _ lb3) (Below.heap_alloc _ _ _ lr3) (Below.heap_alloc _ _ _ (Array.getElem?_eq_some_iff.1 HDK3.out).1))
     gi_wp2_with fail
     go_roundw
     case rel=>exact ⟨_,_,_,_,HS3.out⟩
     rw [HS3.out.rg.left_eq,HRG1.out.left_eq];exact HCL.out
   | true=>
     have hyes:hitO d.C p (textO x)=true:=by rw [HK.out,hitO_eq HSV.out,hbg];rfl
     have hx34:Ext w3 ((w3.alloc (.cells #[.bool true,.int .i64 v.kind,.bool v.b,.int .i64 v.i,.string v.t,.slice sl.a v.l.length sl.c,.slice so.a v.ok.length so.c] 85)).alloc (.cells #[.string k] 9)):=((Ext.refl w3).alloc _ _).alloc _ _
     have hown4:=own_agree HCOL.out.own (hx34.agree (F:=Lt w3.heap.size) fun b hb=>hb) fun b hb=>(hrow3 b hb).2
     have h63:ks.length+1≤maxLen:=by unfold maxLen;omega
     have hby:(ks.length+1)*16≤140737488355328:=by omega
     have hbase:w1.heap.size+2≤((w3.alloc (.cells #[.bool true,.int .i64 v.kind,.bool v.b,.int .i64 v.i,.string v.t,.slice sl.a v.l.length sl.c,.slice so.a v.ok.length so.c] 85)).alloc (.cells #[.string k] 9)).heap.size:=by have:=HCOL.out.sz;simp;omega
     have HX34:=Lib.hid hx34
     have HOWN4:=Lib.hid hown4
     have HBN:=Lib.hid (show Blk ((w3.alloc (.cells #[.bool true,.int .i64 v.kind,.bool v.b,.int .i64 v.i,.string v.t,.slice sl.a v.l.length sl.c,.slice so.a v.ok.length so.c] 85)).alloc (.cells #[.string k] 9)) (w3.heap.size+1) 9 #[.string k] by
      have:=Blk.new (w3.alloc (.cells #[.bool true,.int .i64 v.kind,.bool v.b,.int .i64 v.i,.string v.t,.slice sl.a v.l.length sl.c,.slice so.a v.ok.length so.c] 85)) 9 #[.string k]
      rwa [World.size_alloc] at this)
     have hWB:¬w.heap.size+1=w3.heap.size:=by omega
     have hWB2:¬w.heap.size+1=w3.heap.size+1:=by omega
     have l3':w.heap.size+1<w3.heap.size+1:=by omega
     have f3X:=Lib.hid ((hx34.frozen (o:=0) l3).trans f3)
     have hrB:s2.row≠some (w.heap.size+1):=fun e=>by have:=(hrow3 _ e).1;omega
     clear hx34 hown4
     gi_wp2_with (gi_at_builtin;refine wpListIn_append_x _ rfl (.tmp 53) (.tmp 55) 59 rfl (w1.heap.size+2) 9 i0 _ 1 16 Tryz.underlying59 hi hz0 hz1 hz2 rfl (by decide) s2 ks.length (ks.map .string) rfl HOWN4.out (fun b=>b=w3.heap.size+1) ⟨some ⟨w3.heap.size+1,0,none⟩,1⟩ 1 [.string k] rfl (Rd.block HBN.out (by decide) rfl) (by simp [Value.oneCell']) h63 hby hbase ?_;intro s3 w5 hown5 hwr5 hs5;have h5:=hwr5.cell0 (o:=0) HX34.out hrB l3;have c5:w5.cell? ⟨w.heap.size+1,0,none⟩=some (.slice s2.a ks.length s2.c):=h5.1.trans c3;have l5:=h5.2;have f5:w5.frozen? ⟨w.heap.size+1,0,none⟩=false:=(hwr5.fz _ _).trans (f3X.out);have HO5:=Lib.hid hown5;have HW5:=Lib.hid hwr5;have HS5:=Lib.hid hs5;clear hown5 hwr5 hs5 h5)
     obtain ⟨e1,e2,e3,e4⟩:=HCOL.out.snoc hl1 HX34.out HO5.out HW5.out HS5.out
     have hDl3:=(Array.getElem?_eq_some_iff.1 HDK3.out).1
     have HS3:=Lib.hid (HEND.out s3 _ (by rw [hitsP_yes hyes,←List.append_assoc,HKS.out,HK.out];exact e1) (fun e=>by
       rcases e3 _ e with h | h
       ·exact hne3 h
       ·omega) (e2.block b lb3 fun e=>by
       rcases e with e | e
       ·exact hbB e
       ·exact hneb e) (e2.block _ lr3 fun e=>by
       rcases e with e | e
       ·omega
       ·exact hne3 e) (e2.block D hDl3 fun e=>by
       rcases e with e | e
       ·have:=HD.out;omega
       have:=(hrow3 _ e).1;have:=HD.out;omega))
     clear e1 e2 e3 e4
     gi_wp2_with fail
     go_roundw
     case rel=>exact ⟨_,_,_,_,HS3.out⟩
     rw [HS3.out.rg.left_eq,HRG1.out.left_eq];exact HCL.out
end Go.Proofs.YtechahocffcbpaaGreatDoor
namespace Go.Proofs.YtechahocffcbpaaGreatDoor
open Go.RowKit
set_option linter.unusedVariables false
set_option linter.unusedSimpArgs false
theorem compareBytes_less:∀ (a b:List UInt8),Lib.compareBytes a b=if Op.bytesLess a b then -1 else if Op.bytesLess b a then 1 else 0
 | [],[]=>rfl
 | [],b :: v=>by simp [Lib.compareBytes,Op.bytesLess]
 | a :: u,[]=>by simp [Lib.compareBytes,Op.bytesLess]
 | a :: u,b :: v=>by
   simp only [Lib.compareBytes,Op.bytesLess]
   by_cases h1:a<b
   ·simp [h1]
   by_cases h2:b<a
   ·have h3:¬a=b:=fun e=>by subst e;exact h1 h2
    have h4:¬b=a:=fun e=>h3 e.symm
    simp [h1,h2,h3,h4]
   have h3:a=b:=UInt8.le_antisymm (UInt8.not_lt.1 h2) (UInt8.not_lt.1 h1)
   subst h3
   simp [h1,compareBytes_less u v]
theorem compareBytes_text (a b:ByteArray):Lib.compareBytes a.data.toList b.data.toList=textI a b:=by
 rw [compareBytes_less]
 unfold textI klt
 rw [ByteArray.toList_eq,ByteArray.toList_eq]
theorem cmpString_any (w:World) (a b:ByteArray):Calls Tryz.prog 152 #[.string a,.string b] w fun e w'=>e=.returned (.int .i64 (textI a b))∧w=w':=by
 rw [←compareBytes_text]
 go_enter Tryz.func152,Tryz.ntmps152
 go_wp2_with fail
 rw [run_callFunc_extern Tryz.func185 (by kernel_rfl) (by kernel_rfl) (by kernel_rfl) (e:=Extern.BytealgCompare.compare) (by kernel_rfl),Lib.run_compareString]
 simp only [Result.andThen]
 rw [Oper.upon_value]
 go_wp2_with fail
 go_ret
 exact ⟨rfl,rfl⟩
theorem stringsCompare_any (w:World) (a b:ByteArray):Calls Tryz.prog 99 #[.string a,.string b] w fun e w'=>e=.returned (.int .i64 (textI a b))∧w=w':=by
 have h:=cmpString_any w a b
 go_enter Tryz.func99,Tryz.ntmps99
 go_wp2_with fail
 refine h.mono ?_
 rintro e w1 ⟨rfl,rfl⟩
 go_wp2_with fail
 go_ret
 exact ⟨rfl,rfl⟩
theorem rank_any (w:World) (b:Bool):Calls Tryz.prog 97 #[.bool b] w fun e w'=>e=.returned (.int .i64 (if b then 1 else 0))∧w=w':=by
 cases b
 all_goals
  go_enter Tryz.func97,Tryz.ntmps97
  go_wp2_with fail
  go_ret
  exact ⟨rfl,rfl⟩
theorem isNaNKind_any (w:World) (a:Int):Calls Tryz.prog 150 #[.int .i64 a] w fun e w'=>e=.returned (.bool false)∧w=w':=by
 go_enter Tryz.func150,Tryz.ntmps150
 go_wp2_with fail
 go_ret
 exact ⟨by simp,rfl⟩
theorem compareKind_any (w:World) (a b:Int):Calls Tryz.prog 96 #[.int .i64 a,.int .i64 b] w fun e w'=>e=.returned (.int .i64 (numI a b))∧w=w':=by
 have hna:=isNaNKind_any w a
 have hnb:=isNaNKind_any w b
 have hcase:(numI a b = -1∧a<b)∨(numI a b=1∧¬a<b∧b<a)∨(numI a b=0∧¬a<b∧¬b<a):=by
  unfold numI;split
  ·exact .inl ⟨rfl,by assumption⟩
  split
  ·exact .inr (.inl ⟨rfl,by assumption,by assumption⟩)
  exact .inr (.inr ⟨rfl,by assumption,by assumption⟩)
 rcases hcase with ⟨hn,h1⟩ | ⟨hn,h1,h2⟩ | ⟨hn,h1,h2⟩
 all_goals
  rw [hn]
  clear hn
  go_enter Tryz.func96,Tryz.ntmps96
  go_wp2_with fail
  refine hna.mono ?_
  rintro e w1 ⟨rfl,rfl⟩
  go_wp2_with fail
  refine hnb.mono ?_
  rintro e w1 ⟨rfl,rfl⟩
  go_wp2_with fail
  go_ret
  exact ⟨rfl,rfl⟩
theorem isNaNint64_any (w:World) (a:Int):Calls Tryz.prog 151 #[.int .i64 a] w fun e w'=>e=.returned (.bool false)∧w=w':=by
 go_enter Tryz.func151,Tryz.ntmps151
 go_wp2_with fail
 go_ret
 exact ⟨by simp,rfl⟩
theorem compareint64_any (w:World) (a b:Int):Calls Tryz.prog 98 #[.int .i64 a,.int .i64 b] w fun e w'=>e=.returned (.int .i64 (numI a b))∧w=w':=by
 have hna:=isNaNint64_any w a
 have hnb:=isNaNint64_any w b
 have hcase:(numI a b = -1∧a<b)∨(numI a b=1∧¬a<b∧b<a)∨(numI a b=0∧¬a<b∧¬b<a):=by
  unfold numI;split
  ·exact .inl ⟨rfl,by assumption⟩
  split
  ·exact .inr (.inl ⟨rfl,by assumption,by assumption⟩)
  exact .inr (.inr ⟨rfl,by assumption,by assumption⟩)
 rcases hcase with ⟨hn,h1⟩ | ⟨hn,h1,h2⟩ | ⟨hn,h1,h2⟩
 all_goals
  rw [hn]
  clear hn
  go_enter Tryz.func98,Tryz.ntmps98
  go_wp2_with fail
  refine hna.mono ?_
  rintro e w1 ⟨rfl,rfl⟩
  go_wp2_with fail
  refine hnb.mono ?_
  rintro e w1 ⟨rfl,rfl⟩
  go_wp2_with fail
  go_ret
  exact ⟨rfl,rfl⟩
theorem isNaNint_any (w:World) (a:Int):Calls Tryz.prog 186 #[.int .i64 a] w fun e w'=>e=.returned (.bool false)∧w=w':=by
 go_enter Tryz.func186,Tryz.ntmps186
 go_wp2_with fail
 go_ret
 exact ⟨by simp,rfl⟩
theorem compareint_any (w:World) (a b:Int):Calls Tryz.prog 153 #[.int .i64 a,.int .i64 b] w fun e w'=>e=.returned (.int .i64 (numI a b))∧w=w':=by
 have hna:=isNaNint_any w a
 have hnb:=isNaNint_any w b
 have hcase:(numI a b = -1∧a<b)∨(numI a b=1∧¬a<b∧b<a)∨(numI a b=0∧¬a<b∧¬b<a):=by
  unfold numI;split
  ·exact .inl ⟨rfl,by assumption⟩
  split
  ·exact .inr (.inl ⟨rfl,by assumption,by assumption⟩)
  exact .inr (.inr ⟨rfl,by assumption,by assumption⟩)
 rcases hcase with ⟨hn,h1⟩ | ⟨hn,h1,h2⟩ | ⟨hn,h1,h2⟩
 all_goals
  rw [hn]
  clear hn
  go_enter Tryz.func153,Tryz.ntmps153
  go_wp2_with fail
  refine hna.mono ?_
  rintro e w1 ⟨rfl,rfl⟩
  go_wp2_with fail
  refine hnb.mono ?_
  rintro e w1 ⟨rfl,rfl⟩
  go_wp2_with fail
  go_ret
  exact ⟨rfl,rfl⟩
def CmpIH (m:Nat):Prop:=∀ (x y:Val),SizeOf.sizeOf x≤m→∀ (w:World) (sl so sl' so':Sl),RV w (Lt w.heap.size) x sl so→RV w (Lt w.heap.size) y sl' so'→Calls Tryz.prog 65 #[aggV x sl so,aggV y sl' so'] w (CmpPost (cmpV x y) w)
theorem min_facts (a b:Nat):∃ c:Nat,(if a<b then (a:Int) else (b:Int))=(c:Int)∧(if b<a then (b:Int) else (a:Int))=(c:Int)∧c≤a∧c≤b∧(c=a∨c=b):=by
 by_cases h:a<b
 ·exact ⟨a,by rw [if_pos h],by rw [if_neg (by omega)],by omega,by omega,.inl rfl⟩
 by_cases h':b<a
 ·exact ⟨b,by rw [if_neg h],by rw [if_pos h'],by omega,by omega,.inr rfl⟩
 exact ⟨a,by rw [if_neg h];omega,by rw [if_neg h'],by omega,by omega,.inl rfl⟩
theorem inOrderV {m:Nat} (hih:CmpIH m) {x y:Val} (hd:SizeOf.sizeOf x≤m+1) {w:World} {sl so sl' so':Sl} (h:RV w (Lt w.heap.size) x sl so) (h':RV w (Lt w.heap.size) y sl' so') :
  Calls Tryz.prog 100 #[.slice sl.a x.l.length sl.c,.slice sl'.a y.l.length sl'.c,.func (.func 65) #[] #[]] w (CmpPost (cmpL x.l y.l) w):=by
 have HI:=Lib.hid hih
 clear hih
 obtain ⟨k,b,i,t,l,ok,ov⟩:=x
 obtain ⟨k',b',i',t',l',ok',ov'⟩:=y
 show Calls _ _ #[.slice sl.a l.length sl.c,.slice sl'.a l'.length sl'.c,_] _ (CmpPost (cmpL l l') w)
 cases h with
 | mk bl fl bo fo cl co hl ho hov el rl ek eo ro bk bi bt nl no=>
 cases h' with
 | mk bl' fl' bo' fo' cl' co' hl' ho' hov' el' rl' ek' eo' ro' bk' bi' bt' nl' no'=>
 have hsl:∀ (j:Nat) (d:Val),l[j]? = some d→SizeOf.sizeOf d≤m:=fun j d hj=>Nat.le_of_lt_succ (Nat.lt_of_lt_of_le (Val.sz_l hj) hd)
 have HSL:=Lib.hid hsl
 have HEL:=Lib.hid el
 have HRL:=Lib.hid rl
 have HEL':=Lib.hid el'
 have HRL':=Lib.hid rl'
 clear hsl el rl ek eo ro hov hd el' rl' ek' eo' ro' hov'
 have hnl:l.length≤140737488355328:=by omega
 have hnl':l'.length≤140737488355328:=by omega
 obtain ⟨mn,hm1,hm2,hmn1,hmn2,hmn3⟩:=min_facts l.length l'.length
 go_enter Tryz.func100,Tryz.ntmps100
 go_wp2_with fail
 clear hm1 hm2
 go_loopw [14] (fun q wr=>∃ j:Nat,q=.int .i64 j∧j≤mn∧cmpL l l'=cmpL (l.drop j) (l'.drop j)∧Ext w wr) (fun q _=>mn - (intOf q).toNat)
 case atStart=>exact ⟨0,rfl,Nat.zero_le _,rfl,Ext.refl w⟩
 obtain ⟨j,rfl,hj,hp,hx⟩:=hrel
 have HP:=Lib.hid hp
 have HX:=Lib.hid hx
 by_cases h1:j<mn
 ·have g1:(j:Int)<(mn:Int):=by omega
  have g2:(j:Int)<(l.length:Int):=by omega
  have g3:(j:Int)<(l'.length:Int):=by omega
  obtain ⟨d,hd⟩:∃ d,l[j]? = some d:=⟨_,List.getElem?_eq_getElem (by omega)⟩
  obtain ⟨d',hd'⟩:∃ d,l'[j]? = some d:=⟨_,List.getElem?_eq_getElem (by omega)⟩
  have HD:=Lib.hid (cmpL_drop hd hd')
  have hag:Agree (Lt w.heap.size) w wr:=hx.agree fun _ h=>h
  obtain ⟨sa,sc⟩:=sl
  obtain ⟨sa',sc'⟩:=sl'
  obtain ⟨rfl,hlc,hcm⟩:=hl.eq (by omega)
  obtain ⟨rfl,hlc',hcm'⟩:=hl'.eq (by omega)
  have hbl:=hl.fits (by omega)
  have hbl':=hl'.fits (by omega)
  obtain ⟨v0,v1,v2,v3,v4,v5⟩:=(HEL.out j d hd).agree hag hbl
  obtain ⟨v0',v1',v2',v3',v4',v5'⟩:=(HEL'.out j d' hd').agree hag hbl'
  have HIC:=Lib.hid (fun (W:World) (hW:Ext wr W)=>
   HI.out d d' (HSL.out j d hd) W _ _ _ _ (((HRL.out j d hd).agree (hag.trans (hW.agree fun _ h=>Nat.lt_of_lt_of_le h hx.size))).mono fun i hi=>Nat.lt_of_lt_of_le hi (Nat.le_trans hx.size hW.size))
    (((HRL'.out j d' hd').agree (hag.trans (hW.agree fun _ h=>Nat.lt_of_lt_of_le h hx.size))).mono fun i hi=>Nat.lt_of_lt_of_le hi (Nat.le_trans hx.size hW.size)))
  have lb:bl<wr.heap.size:=Nat.lt_of_lt_of_le hbl hx.size
  have lb':bl'<wr.heap.size:=Nat.lt_of_lt_of_le hbl' hx.size
  have HSS:=Lib.hid (show ∀ W,Ext wr W→W.cell? ⟨bl,fl+j*6,none⟩=some (.int .i64 d.kind)∧W.cell? ⟨bl,fl+j*6+1,none⟩=some (.bool d.b)∧W.cell? ⟨bl,fl+j*6+2,none⟩=some (.int .i64 d.i)∧W.cell? ⟨bl,fl+j*6+3,none⟩=some (.string d.t)∧W.cell? ⟨bl,fl+j*6+4,none⟩=some (.slice (cl j).1.a d.l.length (cl j).1.c)∧W.cell? ⟨bl,fl+j*6+5,none⟩=some (.slice (cl j).2.a d.ok.length (cl j).2.c)∧W.cell? ⟨bl',fl'+j*6,none⟩=some (.int .i64 d'.kind)∧W.cell? ⟨bl',fl'+j*6+1,none⟩=some (.bool d'.b)∧W.cell? ⟨bl',fl'+j*6+2,none⟩=some (.int .i64 d'.i)∧W.cell? ⟨bl',fl'+j*6+3,none⟩=some (.string d'.t)∧W.cell? ⟨bl',fl'+j*6+4,none⟩=some (.slice (cl' j).1.a d'.l.length (cl' j).1.c)∧W.cell? ⟨bl',fl'+j*6+5,none⟩=some (.slice (cl' j).2.a d'.ok.length (cl' j).2.c) from
   fun W hW=>⟨(hW.cell lb).trans v0,(hW.cell lb).trans v1,(hW.cell lb).trans v2,(hW.cell lb).trans v3,(hW.cell lb).trans v4,(hW.cell lb).trans v5,(hW.cell lb').trans v0',(hW.cell lb').trans v1',(hW.cell lb').trans v2',(hW.cell lb').trans v3',(hW.cell lb').trans v4',(hW.cell lb').trans v5'⟩)
  clear hp hx hd hd' hag hbl hbl' v0 v1 v2 v3 v4 v5 v0' v1' v2' v3' v4' v5'
  go_wp2_with fail
  refine wp_region_held_drew (S:=(fun w'=>Ext wr w')) (by kernel_rfl) (((Ext.refl wr).drew)) (fun hHeld=>?_)
  refine heldT 0 (some 17) HSS hHeld ?_
  refine heldT 1 (some 18) HSS hHeld ?_
  refine heldT 2 (some 19) HSS hHeld ?_
  refine heldT 3 (some 20) HSS hHeld ?_
  refine heldT 4 (some 21) HSS hHeld ?_
  refine heldT 5 (some 22) HSS hHeld ?_
  refine heldT 6 (some 23) HSS hHeld ?_
  refine heldT 7 (some 24) HSS hHeld ?_
  refine heldT 8 (some 25) HSS hHeld ?_
  refine held_call (i:=9) (by kernel_rfl) rfl (by rfl) (fun K hK=>?_)
  go_simp
  (refine (HIC.out _ hHeld).mono ?_;rintro e w2 ⟨rfl,hx2⟩)
  refine hK.out _ _ (hHeld.trans hx2) (fun hHeld=>?_)
  clear hK K
  try simp only [Act.put,List.setIfInBounds_toArray,List.set_cons_zero,List.set_cons_succ]
  refine heldT 10 (some 8) HSS hHeld ?_
  refine wpAnyH_done (by kernel_rfl) ?_ _
  have HX2:=Lib.hid (HX.out.trans hHeld)
  clear hHeld hx2
  by_cases hc:cmpV d d'=0
  ·have hcb:(cmpV d d' != 0)=false:=by simp [hc]
   have HC:=Lib.hid hc
   clear hc
   go_wp2_with fail
   go_roundw
   case rel=>exact ⟨j+1,by go_num,h1,by rw [HP.out,HD.out,if_neg (by simp [HC.out])],HX2.out⟩
   simp [intOf];omega
  have hcb:(cmpV d d' != 0)=true:=bne_iff_ne.2 hc
  have HC:=Lib.hid hc
  clear hc
  go_wp2_with fail
  go_ret
  rw [HP.out,HD.out,if_pos HC.out]
  exact ⟨rfl,HX2.out⟩
 have g1:¬(j:Int)<(mn:Int):=by omega
 have HE:=Lib.hid (cmpL_end (l:=l) (l':=l') (j:=j) (by omega) (by omega) (by omega))
 have hcm:=compareint_any wr (l.length:Int) (l'.length:Int)
 clear hp hx
 go_wp2_with fail
 refine hcm.mono ?_
 rintro e w2 ⟨rfl,rfl⟩
 go_wp2_with fail
 go_ret
 rw [HP.out,HE.out]
 exact ⟨rfl,HX.out⟩
def memI (x y:ByteArray) (d d':Val):Int:=if textI x y≠0 then textI x y else cmpV d d'
theorem cmpM_drop2 {l l':List Val} {k k':List ByteArray} {j:Nat} {a b:Val} {x y:ByteArray} (ha:l[j]? = some a) (hb:l'[j]? = some b) (hx:k[j]? = some x) (hy:k'[j]? = some y) :
  cmpM (l.drop j) (k.drop j) (k'.drop j) (l'.drop j)=if memI x y a b≠0 then memI x y a b else cmpM (l.drop (j+1)) (k.drop (j+1)) (k'.drop (j+1)) (l'.drop (j+1)):=by
 rw [cmpM_drop ha hb hx hy]
 unfold memI
 by_cases h:textI x y=0 <;> simp [h]
abbrev aggM (k:ByteArray) (d:Val) (sl so:Sl):Value:=.agg #[.string k,.int .i64 d.kind,.bool d.b,.int .i64 d.i,.string d.t,.slice sl.a d.l.length sl.c,.slice so.a d.ok.length so.c]
theorem members_any {m:Nat} (hih:CmpIH m) {d d':Val} (hd:SizeOf.sizeOf d≤m) {x y:ByteArray} {w:World} {sl so sl' so':Sl} (h:RV w (Lt w.heap.size) d sl so) (h':RV w (Lt w.heap.size) d' sl' so') :
  Calls Tryz.prog 102 #[aggM x d sl so,aggM y d' sl' so'] w (CmpPost (memI x y d d') w):=by
 have HIC:=Lib.hid (fun (W:World) (hW:Ext w W)=>hih d d' hd W _ _ _ _ ((h.agree (hW.agree fun _ h=>h)).mono fun i hi=>Nat.lt_of_lt_of_le hi hW.size) ((h'.agree (hW.agree fun _ h=>h)).mono fun i hi=>Nat.lt_of_lt_of_le hi hW.size))
 have HT:=Lib.hid (fun W=>stringsCompare_any W x y)
 clear hih h h' hd
 by_cases ht:textI x y=0
 ·have hm:memI x y d d'=cmpV d d':=by simp [memI,ht]
  have htb:(textI x y != 0)=false:=by simp [ht]
  rw [hm]
  clear hm ht
  go_enter Tryz.func102,Tryz.ntmps102
  go_wp2_with fail
  refine (HT.out _).mono ?_
  rintro e w1 ⟨rfl,rfl⟩
  go_wp2_with fail
  refine (HIC.out _ (((Ext.refl w).alloc _ _).alloc _ _)).mono ?_
  rintro e w1 ⟨rfl,hx⟩
  have HX:=Lib.hid ((((Ext.refl w).alloc _ _).alloc _ _).trans hx)
  clear hx
  go_wp2_with fail
  go_ret
  exact ⟨rfl,HX.out⟩
 have hm:memI x y d d'=textI x y:=by simp [memI,ht]
 have htb:(textI x y != 0)=true:=bne_iff_ne.2 ht
 rw [hm]
 clear hm ht
 go_enter Tryz.func102,Tryz.ntmps102
 go_wp2_with fail
 refine (HT.out _).mono ?_
 rintro e w1 ⟨rfl,rfl⟩
 go_wp2_with fail
 go_ret
 exact ⟨rfl,((Ext.refl w).alloc _ _).alloc _ _⟩
theorem inOrderM {m:Nat} (hih:CmpIH m) {x y:Val} (hd:SizeOf.sizeOf x≤m+1) {w:World} {sl so sl' so':Sl} (h:RV w (Lt w.heap.size) x sl so) (h':RV w (Lt w.heap.size) y sl' so') :
  Calls Tryz.prog 101 #[.slice so.a x.ok.length so.c,.slice so'.a y.ok.length so'.c,.func (.func 102) #[] #[]] w (CmpPost (cmpM x.ov x.ok y.ok y.ov) w):=by
 have HI:=Lib.hid hih
 clear hih
 obtain ⟨k,b,i,t,l,ok,ov⟩:=x
 obtain ⟨k',b',i',t',l',ok',ov'⟩:=y
 show Calls _ _ #[.slice so.a ok.length so.c,.slice so'.a ok'.length so'.c,_] _ (CmpPost (cmpM ov ok ok' ov') w)
 cases h with
 | mk bl fl bo fo cl co hl ho hov el rl ek eo ro bk bi bt nl no=>
 cases h' with
 | mk bo' fo' bo' fo' cl' co' hl' ho' hov' el' rl' ek' eo' ro' bk' bi' bt' nl' no'=>
 have hso:∀ (j:Nat) (d:Val),ov[j]? = some d→SizeOf.sizeOf d≤m:=fun j d hj=>Nat.le_of_lt_succ (Nat.lt_of_lt_of_le (Val.sz_o hj) hd)
 have HSO:=Lib.hid hso
 have HEO:=Lib.hid eo
 have HRO:=Lib.hid ro
 have HEO':=Lib.hid eo'
 have HRO':=Lib.hid ro'
 have HEK:=Lib.hid ek
 have HEK':=Lib.hid ek'
 have HOV:=Lib.hid hov
 have HOV':=Lib.hid hov'
 clear hso el rl ek eo ro hov hd el' rl' ek' eo' ro' hov'
 have hnl:ok.length≤140737488355328:=by omega
 have hnl':ok'.length≤140737488355328:=by omega
 obtain ⟨mn,hm1,hm2,hmn1,hmn2,hmn3⟩:=min_facts ok.length ok'.length
 go_enter Tryz.func101,Tryz.ntmps101
 go_wp2_with fail
 clear hm1 hm2
 go_loopw [14] (fun q wr=>∃ j:Nat,q=.int .i64 j∧j≤mn∧cmpM ov ok ok' ov'=cmpM (ov.drop j) (ok.drop j) (ok'.drop j) (ov'.drop j)∧Ext w wr) (fun q _=>mn - (intOf q).toNat)
 case atStart=>exact ⟨0,rfl,Nat.zero_le _,rfl,Ext.refl w⟩
 obtain ⟨j,rfl,hj,hp,hx⟩:=hrel
 have HP:=Lib.hid hp
 have HX:=Lib.hid hx
 by_cases h1:j<mn
 ·have g1:(j:Int)<(mn:Int):=by omega
  have g2:(j:Int)<(ok.length:Int):=by omega
  have g3:(j:Int)<(ok'.length:Int):=by omega
  obtain ⟨d,hd⟩:∃ d,ov[j]? = some d:=⟨_,List.getElem?_eq_getElem (by rw [HOV.out];omega)⟩
  obtain ⟨x,hxx⟩:∃ d,ok[j]? = some d:=⟨_,List.getElem?_eq_getElem (by omega)⟩
  obtain ⟨x',hxx'⟩:∃ d,ok'[j]? = some d:=⟨_,List.getElem?_eq_getElem (by omega)⟩
  obtain ⟨d',hd'⟩:∃ d,ov'[j]? = some d:=⟨_,List.getElem?_eq_getElem (by rw [HOV'.out];omega)⟩
  have HD:=Lib.hid (cmpM_drop2 hd hd' hxx hxx')
  have hag:Agree (Lt w.heap.size) w wr:=hx.agree fun _ h=>h
  obtain ⟨sa,sc⟩:=so
  obtain ⟨sa',sc'⟩:=so'
  obtain ⟨rfl,hlc,hcm⟩:=ho.eq (by omega)
  obtain ⟨rfl,hlc',hcm'⟩:=ho'.eq (by omega)
  have hbl:=ho.fits (by omega)
  have hbl':=ho'.fits (by omega)
  obtain ⟨v0,v1,v2,v3,v4,v5⟩:=(HEO.out j d hd).agree hag hbl
  obtain ⟨v0',v1',v2',v3',v4',v5'⟩:=(HEO'.out j d' hd').agree hag hbl'
  have kx:=(hag.cell hbl).trans (HEK.out j x hxx).1
  have kx':=(hag.cell hbl').trans (HEK'.out j x' hxx').1
  obtain ⟨c,hcc⟩:∃ c,memI x x' d d'=c:=⟨_,rfl⟩
  have HIC:=Lib.hid (fun (W:World) (hW:Ext wr W)=>
   members_any HI.out (HSO.out j d hd) (x:=x) (y:=x') (((HRO.out j d hd).agree (hag.trans (hW.agree fun _ h=>Nat.lt_of_lt_of_le h hx.size))).mono fun i hi=>Nat.lt_of_lt_of_le hi (Nat.le_trans hx.size hW.size))
    (((HRO'.out j d' hd').agree (hag.trans (hW.agree fun _ h=>Nat.lt_of_lt_of_le h hx.size))).mono fun i hi=>Nat.lt_of_lt_of_le hi (Nat.le_trans hx.size hW.size)))
  have lb:bo<wr.heap.size:=Nat.lt_of_lt_of_le hbl hx.size
  have lb':bo'<wr.heap.size:=Nat.lt_of_lt_of_le hbl' hx.size
  have HSS:=Lib.hid (show ∀ W,Ext wr W→W.cell? ⟨bo,fo+j*7,none⟩=some (.string x)∧W.cell? ⟨bo,fo+j*7+1,none⟩=some (.int .i64 d.kind)∧W.cell? ⟨bo,fo+j*7+2,none⟩=some (.bool d.b)∧W.cell? ⟨bo,fo+j*7+3,none⟩=some (.int .i64 d.i)∧W.cell? ⟨bo,fo+j*7+4,none⟩=some (.string d.t)∧W.cell? ⟨bo,fo+j*7+5,none⟩=some (.slice (co j).1.a d.l.length (co j).1.c)∧W.cell? ⟨bo,fo+j*7+6,none⟩=some (.slice (co j).2.a d.ok.length (co j).2.c)∧W.cell? ⟨bo',fo'+j*7,none⟩=some (.string x')∧W.cell? ⟨bo',fo'+j*7+1,none⟩=some (.int .i64 d'.kind)∧W.cell? ⟨bo',fo'+j*7+2,none⟩=some (.bool d'.b)∧W.cell? ⟨bo',fo'+j*7+3,none⟩=some (.int .i64 d'.i)∧W.cell? ⟨bo',fo'+j*7+4,none⟩=some (.string d'.t)∧W.cell? ⟨bo',fo'+j*7+5,none⟩=some (.slice (co' j).1.a d'.l.length (co' j).1.c)∧W.cell? ⟨bo',fo'+j*7+6,none⟩=some (.slice (co' j).2.a d'.ok.length (co' j).2.c) from
   fun W hW=>⟨(hW.cell lb).trans kx,(hW.cell lb).trans v0,(hW.cell lb).trans v1,(hW.cell lb).trans v2,(hW.cell lb).trans v3,(hW.cell lb).trans v4,(hW.cell lb).trans v5,(hW.cell lb').trans kx',(hW.cell lb').trans v0',(hW.cell lb').trans v1',(hW.cell lb').trans v2',(hW.cell lb').trans v3',(hW.cell lb').trans v4',(hW.cell lb').trans v5'⟩)
  rw [hcc] at HD HIC
  clear hcc kx kx' hxx hxx' hp hx hd hd' hag hbl hbl' v0 v1 v2 v3 v4 v5 v0' v1' v2' v3' v4' v5'
  go_wp2_with fail
  refine wp_region_held_drew (S:=(fun w'=>Ext wr w')) (by kernel_rfl) (((Ext.refl wr).drew)) (fun hHeld=>?_)
  refine heldT 0 (some 17) HSS hHeld ?_
  refine heldT 1 (some 18) HSS hHeld ?_
  refine heldT 2 (some 19) HSS hHeld ?_
  refine heldT 3 (some 20) HSS hHeld ?_
  refine heldT 4 (some 21) HSS hHeld ?_
  refine heldT 5 (some 22) HSS hHeld ?_
  refine heldT 6 (some 23) HSS hHeld ?_
  refine heldT 7 (some 24) HSS hHeld ?_
  refine heldT 8 (some 25) HSS hHeld ?_
  refine held_call (i:=9) (by kernel_rfl) rfl (by rfl) (fun K hK=>?_)
  go_simp
  (refine (HIC.out _ hHeld).mono ?_;rintro e w2 ⟨rfl,hx2⟩)
  refine hK.out _ _ (hHeld.trans hx2) (fun hHeld=>?_)
  clear hK K
  try simp only [Act.put,List.setIfInBounds_toArray,List.set_cons_zero,List.set_cons_succ]
  refine heldT 10 (some 8) HSS hHeld ?_
  refine wpAnyH_done (by kernel_rfl) ?_ _
  have HX2:=Lib.hid (HX.out.trans hHeld)
  clear hHeld hx2
  by_cases hc:c=0
  ·have hcb:(c != 0)=false:=by simp [hc]
   have HC:=Lib.hid hc
   clear hc
   go_wp2_with fail
   go_roundw
   case rel=>exact ⟨j+1,by go_num,h1,by rw [HP.out,HD.out,if_neg (by simp [HC.out])],HX2.out⟩
   simp [intOf];omega
  have hcb:(c != 0)=true:=bne_iff_ne.2 hc
  have HC:=Lib.hid hc
  clear hc
  go_wp2_with fail
  go_ret
  rw [HP.out,HD.out,if_pos HC.out]
  exact ⟨rfl,HX2.out⟩
 have g1:¬(j:Int)<(mn:Int):=by omega
 have HE:=Lib.hid (cmpM_end (l:=ov) (l':=ov') (k:=ok) (k':=ok') (j:=j) (by rw [HOV.out,HOV'.out];omega) (by rw [HOV.out];omega) (by rw [HOV'.out];omega))
 have hcm:=compareint_any wr (ok.length:Int) (ok'.length:Int)
 clear hp hx
 go_wp2_with fail
 refine hcm.mono ?_
 rintro e w2 ⟨rfl,rfl⟩
 go_wp2_with fail
 go_ret
 rw [HP.out,HE.out,HOV.out,HOV'.out]
 exact ⟨rfl,HX.out⟩
def boolN (b:Bool):Int:=if b then 1 else 0
theorem boolN_cmp (a b:Bool):numI (boolN a) (boolN b)=boolI a b:=by cases a <;> cases b <;> rfl
structure BxS (w:World) (b b':Bool) (W:World):Prop where
 ext:Ext w W
 b0:∃ v0 v2 v3 v4 v5,Blk W w.heap.size 34 #[v0,.bool b,v2,v3,v4,v5]
 b1:∃ v0 v2 v3 v4 v5,Blk W (w.heap.size+1) 34 #[v0,.bool b',v2,v3,v4,v5]
theorem BxS.drew {w W:World} {b b':Bool} (h:BxS w b b' W):BxS w b b' W.drew:=by
 obtain ⟨h1,⟨a0,a2,a3,a4,a5,ha⟩,⟨c0,c2,c3,c4,c5,hc⟩⟩:=h
 exact ⟨h1.drew,⟨_,_,_,_,_,ha.ext ((Ext.refl W).drew)⟩,⟨_,_,_,_,_,hc.ext ((Ext.refl W).drew)⟩⟩
theorem BxS.at0 {w W:World} {b b':Bool} (h:BxS w b b' W):∃ u,W.cell? ⟨w.heap.size,2,none⟩=some u∧W.frozen? ⟨w.heap.size,2,none⟩=false∧w.heap.size<W.heap.size:=by
 obtain ⟨h1,⟨a0,a2,a3,a4,a5,ha⟩,-⟩:=h
 exact ⟨_,ha.cell 2,ha.frozen 2,ha.lt⟩
theorem BxS.at1 {w W:World} {b b':Bool} (h:BxS w b b' W):∃ u,W.cell? ⟨w.heap.size+1,2,none⟩=some u∧W.frozen? ⟨w.heap.size+1,2,none⟩=false∧w.heap.size+1<W.heap.size:=by
 obtain ⟨h1,-,⟨a0,a2,a3,a4,a5,ha⟩⟩:=h
 exact ⟨_,ha.cell 2,ha.frozen 2,ha.lt⟩
theorem BxS.set0 {w W:World} {b b':Bool} (h:BxS w b b' W) (v:Value):BxS w b b' (W.setCell ⟨w.heap.size,2,none⟩ v):=by
 obtain ⟨h1,⟨a0,a2,a3,a4,a5,ha⟩,⟨c0,c2,c3,c4,c5,hc⟩⟩:=h
 exact ⟨h1.setCell (p:=⟨w.heap.size,2,none⟩) (Nat.le_refl _) v,⟨_,_,_,_,_,ha.set_ 2 v⟩,⟨_,_,_,_,_,((St.refl (fun b=>b=w.heap.size) W).set (p:=⟨w.heap.size,2,none⟩) (.inr rfl) v).blk hc (by omega)⟩⟩
theorem BxS.set1 {w W:World} {b b':Bool} (h:BxS w b b' W) (v:Value):BxS w b b' (W.setCell ⟨w.heap.size+1,2,none⟩ v):=by
 obtain ⟨h1,⟨a0,a2,a3,a4,a5,ha⟩,⟨c0,c2,c3,c4,c5,hc⟩⟩:=h
 exact ⟨h1.setCell (p:=⟨w.heap.size+1,2,none⟩) (by simp) v,⟨_,_,_,_,_,((St.refl (fun b=>b=w.heap.size+1) W).set (p:=⟨w.heap.size+1,2,none⟩) (.inr rfl) v).blk ha (by omega)⟩,⟨_,_,_,_,_,hc.set_ 2 v⟩⟩
theorem BxS.ends {w W:World} {b b':Bool} (h:BxS w b b' W) (v v':Value):((W.setCell ⟨w.heap.size,2,none⟩ v).setCell ⟨w.heap.size+1,2,none⟩ v').cell? ⟨w.heap.size,2,none⟩=some v∧((W.setCell ⟨w.heap.size,2,none⟩ v).setCell ⟨w.heap.size+1,2,none⟩ v').cell? ⟨w.heap.size+1,2,none⟩=some v':=by
 obtain ⟨h1,⟨a0,a2,a3,a4,a5,ha⟩,-⟩:=h.set0 v
 obtain ⟨-,⟨b0,b2,b3,b4,b5,hb⟩,⟨c0,c2,c3,c4,c5,hc⟩⟩:=h
 have hc':=((St.refl (fun b=>b=w.heap.size) W).set (p:=⟨w.heap.size,2,none⟩) (.inr rfl) v).blk hc (by omega)
 have hb':=hb.set_ 2 v
 have hb2:=((St.refl (fun b=>b=w.heap.size+1) (W.setCell ⟨w.heap.size,2,none⟩ v)).set (p:=⟨w.heap.size+1,2,none⟩) (.inr rfl) v').blk hb' (by omega)
 exact ⟨hb2.cell 2,(hc'.set_ 2 v').cell 2⟩
theorem rankN_any (w:World) (b:Bool):Calls Tryz.prog 97 #[.bool b] w fun e w'=>e=.returned (.int .i64 (boolN b))∧w=w':=rank_any w b
theorem cmp_any (m:Nat):CmpIH m:=by
 induction m with
 | zero=>intro d y hd;have:=Val.sz_pos d;omega
 | succ m ih=>
 intro x y hd w sl so sl' so' h h'
 have hv:=fun (W:World) (hW:Ext w W)=>inOrderV ih hd ((h.agree (hW.agree fun _ h=>h)).mono fun i hi=>Nat.lt_of_lt_of_le hi hW.size) ((h'.agree (hW.agree fun _ h=>h)).mono fun i hi=>Nat.lt_of_lt_of_le hi hW.size)
 have hm:=fun (W:World) (hW:Ext w W)=>inOrderM ih hd ((h.agree (hW.agree fun _ h=>h)).mono fun i hi=>Nat.lt_of_lt_of_le hi hW.size) ((h'.agree (hW.agree fun _ h=>h)).mono fun i hi=>Nat.lt_of_lt_of_le hi hW.size)
 clear ih h h' hd
 obtain ⟨k,b,i,t,l,ok,ov⟩:=x
 obtain ⟨k',b',i',t',l',ok',ov'⟩:=y
 have HV:=Lib.hid (show ∀ (W:World) (hW:Ext w W),Calls Tryz.prog 100 #[.slice sl.a l.length sl.c,.slice sl'.a l'.length sl'.c,.func (.func 65) #[] #[]] W (CmpPost (cmpL l l') W) from hv)
 have HM:=Lib.hid (show ∀ (W:World) (hW:Ext w W),Calls Tryz.prog 101 #[.slice so.a ok.length so.c,.slice so'.a ok'.length so'.c,.func (.func 102) #[] #[]] W (CmpPost (cmpM ov ok ok' ov') W) from hm)
 show Calls _ _ #[.agg #[.int .i64 k,.bool b,.int .i64 i,.string t,.slice sl.a l.length sl.c,.slice so.a ok.length so.c],.agg #[.int .i64 k',.bool b',.int .i64 i',.string t',.slice sl'.a l'.length sl'.c,.slice so'.a ok'.length so'.c]] _ _
 have hcv:cmpV (.mk k b i t l ok ov) (.mk k' b' i' t' l' ok' ov')=if k≠k' then numI k k' else if k=2 then boolI b b' else if k=3 then numI i i' else if k=4 then textI t t' else if k=5 then cmpL l l' else if k=6 then cmpM ov ok ok' ov' else 0:=by
  simp only [cmpV,Val.kind,Val.b,Val.i,Val.t,Val.l,Val.ok,Val.ov]
  rfl
 rw [hcv]
 clear hcv hv hm
 have hXX:Ext w ((w.alloc (.cells #[.int .i64 k,.bool b,.int .i64 i,.string t,.slice sl.a l.length sl.c,.slice so.a ok.length so.c] 34)).alloc (.cells #[.int .i64 k',.bool b',.int .i64 i',.string t',.slice sl'.a l'.length sl'.c,.slice so'.a ok'.length so'.c] 34)):=((Ext.refl w).alloc _ _).alloc _ _
 have HXX:=Lib.hid hXX
 have HK:=Lib.hid (fun W=>compareKind_any W k k')
 have HI:=Lib.hid (fun W a b=>compareint64_any W a b)
 have HT:=Lib.hid (fun W=>stringsCompare_any W t t')
 have HR:=Lib.hid (fun W (b:Bool)=>rankN_any W b)
 clear hXX
 by_cases hkk:k=k'
 ·subst hkk
  have hkb:(k != k)=false:=by simp
  rw [if_neg (by simp)]
  by_cases h2:k=2
  ·subst h2
   rw [if_pos rfl,←boolN_cmp]
   clear HXX
   go_enter Tryz.func65,Tryz.ntmps65
   go_wp2_with fail
   generalize hW0:World.alloc (World.alloc _ _) _=W0
   obtain ⟨hx0,hz0,hb0,hb1⟩:=two_blocks w _ _ _ _ W0 hW0
   clear hW0
   have hB0:BxS w b b' W0:=⟨hx0,⟨_,_,_,_,_,hb0⟩,⟨_,_,_,_,_,hb1⟩⟩
   have HSS:=Lib.hid (show ∀ W,BxS w b b' W→W.cell? ⟨w.heap.size,1,none⟩=some (.bool b)∧W.cell? ⟨w.heap.size+1,1,none⟩=some (.bool b') from fun W hW=>by
    obtain ⟨-,⟨a0,a2,a3,a4,a5,ha⟩,⟨c0,c2,c3,c4,c5,hc⟩⟩:=hW
    exact ⟨ha.cell 1,hc.cell 1⟩)
   have HB0:=Lib.hid hB0
   clear hx0 hb0 hb1 hB0 hz0
   refine wp_region_held_drew (S:=(fun w'=>BxS w b b' w')) (by kernel_rfl) ((HB0.out.drew)) (fun hHeld=>?_)
   refine heldT 0 (some 27) HSS hHeld ?_
   refine heldT 1 (some 28) HSS hHeld ?_
   refine heldT 3 (some 30) HSS hHeld ?_
   refine heldT 4 (some 31) HSS hHeld ?_
   refine held_call (i:=2) (by kernel_rfl) rfl (by rfl) (fun K hK=>?_)
   go_simp
   (refine (HR.out _ b).mono ?_;rintro e w1 ⟨rfl,rfl⟩)
   refine hK.out _ _ (hHeld) (fun hHeld=>?_)
   clear hK K
   try simp only [Act.put,List.setIfInBounds_toArray,List.set_cons_zero,List.set_cons_succ]
   refine heldT 6 (some 33) HSS hHeld ?_
   refine held_call (i:=5) (by kernel_rfl) rfl (by rfl) (fun K hK=>?_)
   go_simp
   (refine (HR.out _ b').mono ?_;rintro e w1 ⟨rfl,rfl⟩)
   refine hK.out _ _ (hHeld) (fun hHeld=>?_)
   clear hK K
   try simp only [Act.put,List.setIfInBounds_toArray,List.set_cons_zero,List.set_cons_succ]
   obtain ⟨u7,c7,f7,l7⟩:=hHeld.at0
   refine held_call (i:=7) (by kernel_rfl) rfl (by rfl) (fun K hK=>?_)
   go_simp
   skip
   refine hK.out _ _ (hHeld.set0 _) (fun hHeld=>?_)
   clear hK K
   try simp only [Act.put,List.setIfInBounds_toArray,List.set_cons_zero,List.set_cons_succ]
   refine heldT 8 (some 34) HSS hHeld ?_
   obtain ⟨u9,c9,f9,l9⟩:=hHeld.at1
   refine held_call (i:=9) (by kernel_rfl) rfl (by rfl) (fun K hK=>?_)
   go_simp
   skip
   refine hK.out _ _ (hHeld.set1 _) (fun hHeld=>?_)
   clear hK K
   try simp only [Act.put,List.setIfInBounds_toArray,List.set_cons_zero,List.set_cons_succ]
   refine wpAnyH_done (by kernel_rfl) ?_ _
   have HH:=Lib.hid hHeld
   obtain ⟨q0,q1⟩:=HB0.out.ends (.int .i64 (boolN b)) (.int .i64 (boolN b'))
   clear hHeld
   generalize (W0.setCell ⟨w.heap.size,2,none⟩ (.int .i64 (boolN b))).setCell ⟨w.heap.size+1,2,none⟩ (.int .i64 (boolN b'))=W9 at *
   go_wp2_with fail
   refine (HI.out _ _ _).mono ?_
   rintro e w2 ⟨rfl,rfl⟩
   go_wp2_with fail
   go_ret
   exact ⟨rfl,HH.out.ext⟩
  have h2b:(k == 2)=false:=beq_eq_false_iff_ne.2 h2
  by_cases h3:k=3
  ·subst h3
   rw [if_neg h2,if_pos rfl]
   clear h2
   go_enter Tryz.func65,Tryz.ntmps65
   go_wp2_with fail
   refine (HI.out _ _ _).mono ?_
   rintro e w2 ⟨rfl,rfl⟩
   go_wp2_with fail
   go_ret
   exact ⟨rfl,HXX.out⟩
  have h3b:(k == 3)=false:=beq_eq_false_iff_ne.2 h3
  by_cases h4:k=4
  ·subst h4
   rw [if_neg h2,if_neg h3,if_pos rfl]
   clear h2 h3
   go_enter Tryz.func65,Tryz.ntmps65
   go_wp2_with fail
   refine (HT.out _).mono ?_
   rintro e w2 ⟨rfl,rfl⟩
   go_wp2_with fail
   go_ret
   exact ⟨rfl,HXX.out⟩
  have h4b:(k == 4)=false:=beq_eq_false_iff_ne.2 h4
  rw [if_neg h2,if_neg h3,if_neg h4]
  by_cases h5:k=5
  ·subst h5
   rw [if_pos rfl]
   clear h2 h3 h4
   go_enter Tryz.func65,Tryz.ntmps65
   go_wp2_with fail
   refine (HV.out _ HXX.out).mono ?_
   rintro e w2 ⟨rfl,hx⟩
   have HX:=Lib.hid hx
   clear hx
   go_wp2_with fail
   go_ret
   exact ⟨rfl,HXX.out.trans HX.out⟩
  have h5b:(k == 5)=false:=beq_eq_false_iff_ne.2 h5
  rw [if_neg h5]
  by_cases h6:k=6
  ·subst h6
   rw [if_pos rfl]
   clear h2 h3 h4 h5
   go_enter Tryz.func65,Tryz.ntmps65
   go_wp2_with fail
   refine (HM.out _ HXX.out).mono ?_
   rintro e w2 ⟨rfl,hx⟩
   have HX:=Lib.hid hx
   clear hx
   go_wp2_with fail
   go_ret
   exact ⟨rfl,HXX.out.trans HX.out⟩
  have h6b:(k == 6)=false:=beq_eq_false_iff_ne.2 h6
  rw [if_neg h6]
  clear h2 h3 h4 h5 h6
  go_enter Tryz.func65,Tryz.ntmps65
  go_wp2_with fail
  go_ret
  exact ⟨rfl,HXX.out⟩
 have hkb:(k != k')=true:=bne_iff_ne.2 hkk
 rw [if_pos hkk]
 clear hkk
 go_enter Tryz.func65,Tryz.ntmps65
 go_wp2_with fail
 refine (HK.out _).mono ?_
 rintro e w2 ⟨rfl,rfl⟩
 go_wp2_with fail
 go_ret
 exact ⟨rfl,HXX.out⟩
theorem mod_apart {a b k:Nat} (h:a<b) (hk:b<a+k):a % k≠b % k:=by
 intro e
 have h1:=Nat.sub_mod_eq_zero_of_mod_eq e.symm
 rw [Nat.mod_eq_of_lt (by omega)] at h1
 omega
def Holds (keep f:Nat) (xs ring:List Value):Prop:=∀ j,j<xs.length→xs.length≤j+keep→ring[(f+j) % keep]? = xs[j]?
theorem Holds.put {keep f:Nat} {xs ring:List Value} (h:Holds keep f xs ring) (hl:ring.length=keep) (hp:1≤keep) (x:Value):Holds keep f (xs++[x]) (ring.set ((f+xs.length) % keep) x):=by
 intro j hj hk
 rw [List.length_append] at hj hk
 simp only [List.length_cons,List.length_nil] at hj hk
 by_cases e:j=xs.length
 ·subst e
  rw [List.getElem?_set_self (by rw [hl];exact Nat.mod_lt _ hp)]
  simp
 rw [List.getElem?_set_ne (fun e'=>mod_apart (a:=f+j) (b:=f+xs.length) (k:=keep) (by omega) (by omega) e'.symm),h j (by omega) (by omega),List.getElem?_append_left (by omega)]
def pk (i:Int):Nat:=(IntKind.u64.wrap i % 5).toNat
theorem SlAt.same {F F':Nat→Prop} {s:Sl} {n b o b' o':Nat} (h:SlAt F s n b o) (h':SlAt F' s n b' o') (hn:0<n):b=b'∧o=o':=by
 have e:=(h.eq hn).1.symm.trans (h'.eq hn).1
 simpa using e
theorem Val.ext_of {d d':Val} (h1:d.kind=d'.kind) (h2:d.b=d'.b) (h3:d.i=d'.i) (h4:d.t=d'.t) (h5:d.l=d'.l) (h6:d.ok=d'.ok) (h7:d.ov=d'.ov):d=d':=by
 cases d;cases d'
 simp only [Val.kind,Val.b,Val.i,Val.t,Val.l,Val.ok,Val.ov] at *
 subst_vars;rfl
theorem valueSame_any {w:World} {x y:Val} {sl so sl' so':Sl} (h:RV w (Lt w.heap.size) x sl so) (h':RV w (Lt w.heap.size) y sl' so') :
  Calls Tryz.prog 39 #[aggV x sl so,aggV y sl' so'] w fun e w'=>e=.returned (.bool (decide (cmpV x y=0)))∧Ext w w':=by
 have hc:∀ W,Ext w W→Calls Tryz.prog 65 #[aggV x sl so,aggV y sl' so'] W (CmpPost (cmpV x y) W):=fun W hW=>
  cmp_any _ x y (Nat.le_refl _) W _ _ _ _ ((h.agree (hW.agree fun _ h=>h)).mono fun i hi=>Nat.lt_of_lt_of_le hi hW.size) ((h'.agree (hW.agree fun _ h=>h)).mono fun i hi=>Nat.lt_of_lt_of_le hi hW.size)
 have HC:=Lib.hid hc
 have hb:(cmpV x y == 0)=decide (cmpV x y=0):=by by_cases h:cmpV x y=0 <;> simp [h]
 have HB:=Lib.hid hb
 clear hc h h' hb
 obtain ⟨k,b,i,t,l,ok,ov⟩:=x
 obtain ⟨k',b',i',t',l',ok',ov'⟩:=y
 go_enter Tryz.func39,Tryz.ntmps39
 go_wp2_with fail
 generalize hW0:World.alloc (World.alloc _ _) _=W0
 obtain ⟨hx0,hz0,hb0,hb1⟩:=two_blocks w _ _ _ _ W0 hW0
 clear hW0
 refine (HC.out _ hx0).mono ?_
 rintro e w1 ⟨rfl,hx⟩
 go_wp2_with fail
 go_ret
 exact ⟨rfl,hx0.trans hx⟩
theorem IsT.leads {w:World} {F:Nat→Prop} {T:RT} (h:IsT w F T) {p:Option Addr} (hp:rootV T=.pointer p):Leads w p:=by
 intro a ha
 subst ha
 match T,h,hp with
 | none,_,hp=>simp [rootV] at hp
 | some ⟨n,t⟩,h,hp=>
   have h:IsN w F n t:=h
   obtain ⟨-,_,_,_,_,-,hb⟩:=h.cells
   have e:a=⟨addr n t,0,none⟩:=by simpa [rootV,ptr] using hp.symm
   subst e
   exact ⟨_,_,hb⟩
end Go.Proofs.YtechahocffcbpaaGreatDoor
namespace Go.Proofs.YtechahocffcbpaaGreatDoor
open Go.RowKit Go.Maps Go.Shelf
set_option linter.unusedVariables false
set_option linter.unusedSimpArgs false
theorem look_ov1 {W:World} {mb:Option Nat} {C:AL SV} (hm:OvMap W mb C) {k:ByteArray} (hk:k.size≤maxLen) :
  (Instr.lookup 26 (.map mb) (.string k) false).run Tryz.prog W=.ok (hadA C k).val W:=by
 cases mb with
 | none=>
   have hC:C=[]:=hm
   subst hC
   rw [Maps.look_nil false strKey Tryz.underlying26 (zeroSlot W) (keyA k hk)]
   rfl
 | some b=>
   obtain ⟨es,clock,hb,F,hs,hD⟩:=hm
   rcases Maps.fit_look false strKey Tryz.underlying26 (zeroSlot W) hb F (keyA k hk) with ⟨hrun,_,hat⟩ | ⟨e0,y,_,_,hrun,hRv,hat,_⟩
   ·rw [hrun]
    have h1:=hat .nil
    rw [←hD,at_mapA] at h1
    unfold hadA
    cases hg:getA C k with
    | none=>rfl
    | some s=>rw [hg] at h1;cases h1
   rw [hrun]
   have h1:=hat .nil
   rw [←hD,at_mapA] at h1
   have h2:=hat (.held (.bool true))
   rw [←hD,at_mapA] at h2
   unfold hadA
   cases hg:getA C k with
   | none=>rw [hg] at h1 h2;rw [←h1] at h2;cases h2
   | some s=>
     rw [hg] at h1
     obtain ⟨y1,y2⟩:=y
     dsimp only at h1
     rw [←h1] at hRv
     rw [heldR_inv hRv];rfl
theorem keys_sorted {C:AL SV} (hC:SortedA C) {ss:List (List UInt8)} (hp:ss.Perm (strKeys (mapA SV.val C))):(ss.mergeSort fun x y=>decide (x≤y)).map encStr=C.map fun p=>.string p.1:=by
 rw [strKeys_mapA] at hp
 have hm:(ss.mergeSort fun x y=>decide (x≤y)).Perm ss:=List.mergeSort_perm ..
 have hr:(C.map Prod.fst).Pairwise fun x y=>klt x y=true:=List.pairwise_map.2 hC
 have hb:((ss.mergeSort fun x y=>decide (x≤y)).map textO).map bytesO=ss.mergeSort fun x y=>decide (x≤y):=bytesO_back _
 have hpt:((ss.mergeSort fun x y=>decide (x≤y)).map textO).Perm (C.map Prod.fst):=by
  have h1:=((hm.trans hp).map textO)
  rw [List.map_map] at h1
  exact h1
 have hnd:((ss.mergeSort fun x y=>decide (x≤y)).map textO).Nodup:=hpt.nodup_iff.2 (hr.imp fun {a b} h e=>klt_ne h e)
 have he:(ss.mergeSort fun x y=>decide (x≤y)).map textO=C.map Prod.fst:=rise_ext (rise_sorted (by rw [hb];exact leB_sorted ss) hnd) hr fun k=>hpt.mem_iff
 have h2:(ss.mergeSort fun x y=>decide (x≤y)).map encStr=((ss.mergeSort fun x y=>decide (x≤y)).map textO).map .string:=by rw [List.map_map];rfl
 rw [h2,he,List.map_map];rfl
theorem own_slice {w:World} {base e size n:Nat} {v:Value} {xs:List Value} (h:w.ownsRow base e size v n xs):∃ s:Sl,v=.slice s.a n s.c:=by
 rcases h.2 with ⟨rfl,rfl⟩ | ⟨g,cap,cur,rfl,r⟩
 ·exact ⟨Sl.none,rfl⟩
 exact ⟨⟨some ⟨g,0,none⟩,cap⟩,rfl⟩
def CB (F:Nat→Prop) (w wr:World) (b:Nat):Prop:=(F b∨w.heap.size+2≤b)∧b<wr.heap.size
theorem com_next {F:Nat→Prop} {w w2 wr w7 w8:World} {T':RT} {p':Option Addr} {v0:Value} (hz:w.heap.size+2≤wr.heap.size) (hF:∀ b,F b→b<w.heap.size) (h7:Ext wr w7) (h8:Ext w7 w8) (hT:IsT w8 (Up (CB F w wr) w7 w8) T') (hp:rootV T'=.pointer p') (hb:Blk wr (w.heap.size+1) 25 #[v0])
  (hs:Sb (fun c=>c=w.heap.size+1) w2 wr) :
  IsT (w8.setCell ⟨w.heap.size+1,0,none⟩ (.pointer p')) (CB F w (w8.setCell ⟨w.heap.size+1,0,none⟩ (.pointer p'))) T'∧Blk (w8.setCell ⟨w.heap.size+1,0,none⟩ (.pointer p')) (w.heap.size+1) 25 #[rootV T']∧Sb (fun c=>c=w.heap.size+1) w2 (w8.setCell ⟨w.heap.size+1,0,none⟩ (.pointer p')):=by
 have s7:=h7.size
 have s8:=h8.size
 refine ⟨(hT.agree (Agree.setCell w8 ⟨w.heap.size+1,0,none⟩ _ ?_)).mono fun i hi=>?_,?_,(hs.ext (h7.trans h8)).set (p:=⟨w.heap.size+1,0,none⟩) (.inr rfl) _⟩
 ·rintro (hf | hf)
  ·rcases hf.1 with h | h
   ·have:=hF _ h;dsimp only at this;omega
   dsimp only at h;omega
  have:w7.heap.size≤w.heap.size+1:=hf.1
  omega
 ·rw [CB,World.size_setCell]
  rcases hi with hi | hi
  ·exact ⟨hi.1,by have:=hi.2;omega⟩
  exact ⟨.inr (by have:=hi.1;omega),hi.2⟩
 rw [hp];exact (hb.ext (h7.trans h8)).set_ 0 _
def CommitPost (H:Nat→Prop) (O:Nat) (d:OD) (w:World) (e:Ending) (w':World):Prop:=
 ∃ T':RT,e=.returned (treeV T')∧OkR T'∧IsT w' (Up (OvF H w O d) w w') T'∧entsT T'=comE (entsT d.T) (optA d.C) (entsT d.T)∧Nw w w'∧(idleC (entsT d.T) (optA d.C)→T'=d.T)
theorem comE_at {B:List Ent} {C:AL SV} {j:Nat} {p:ByteArray × SV} (h:C[j]? = some p) (t:List Ent):comE B ((optA C).drop j) t=comE B ((optA C).drop (j+1)) (match p.2.opt with
  | some v=>if (getE B p.1).any (fun was=>decide (cmpV was v=0)) then t else insE t p.1 v
  | none=>if (getE B p.1).isSome then delE t p.1 else t):=by
 have h1:(optA C)[j]? = some (p.1,p.2.opt):=by unfold optA;rw [List.getElem?_map,h];rfl
 obtain ⟨h2,h3⟩:=List.getElem?_eq_some_iff.1 h1
 conv=>lhs;rw [List.drop_eq_getElem_cons h2,h3]
 cases p.2.opt <;> rfl
theorem idle_at {B:List Ent} {C:AL SV} (hC:SortedA C) {j:Nat} {p:ByteArray × SV} (h:C[j]? = some p) (hi:idleC B (optA C)):match p.2.opt with
  | some v=>(getE B p.1).any (fun was=>decide (cmpV was v=0))=true
  | none=>getE B p.1=none:=
 hi p.1 p.2.opt (by rw [getA_opt,getA_mem hC (List.mem_of_getElem? h)];rfl)
theorem own_atO {base:Nat} {w:World} {t:TypeId} {s:Sl} {n:Nat} {xs:List Value} (h:w.ownsRow base t 1 (.slice s.a n s.c) n xs) {i:Nat} {v:Value} (hi:xs[i]? = some v):∃ g,s.a=some ⟨g,0,none⟩∧s.row=some g∧base≤g∧g<w.heap.size∧n≤s.c∧s.c≤maxLen∧w.cell? ⟨g,i,none⟩=some v:=by
 have hil:=(List.getElem?_eq_some_iff.1 hi).1
 have hn:xs.length=n*1:=h.1
 obtain ⟨g,cap,rfl,hg,h1,h2,hf⟩:=own_block h (by omega)
 obtain ⟨b,o,h3,h4,h5⟩:=Rd.of_own h
 obtain ⟨e1,-,-⟩:=h3.eq (by omega)
 obtain ⟨rfl,rfl⟩:g=b∧0=o:=by simpa using e1
 exact ⟨g,rfl,rfl,hg,hf.lt,h1,h2,by have:=h5 i v hi;rwa [Nat.zero_add] at this⟩
theorem commit_some {H:Nat→Prop} {w:World} {O:Nat} {d:OD} (h:OvAt H w O d) {b:Nat} (hm:d.mb=some b) (hl:(entsT d.T).length+d.C.length≤1000000):Calls Tryz.prog 12 #[.pointer (some ⟨O,0,none⟩)] w (CommitPost H O d w):=by
 have c0:w.cell? ⟨O,0,none⟩=some (rootV d.T):=h.blk.cell 0
 have c1:w.cell? ⟨O,1,none⟩=some (.map (some b)):=by have:=h.blk.cell 1;rw [hm] at this;exact this
 have lO:=h.blk.lt
 obtain ⟨r,hr⟩:=rootV_ptr d.T
 rw [hr] at c0
 have l1:O<w.heap.size+1:=by omega
 have l2:O<w.heap.size+1+1:=by omega
 have hF:∀ b,OvF H w O d b→b<w.heap.size:=fun b hb=>hb.1
 obtain ⟨n,hn⟩:∃ n,d.C.length=n:=⟨_,rfl⟩
 rw [hn] at hl
 obtain ⟨n0,hn0⟩:∃ n,(entsT d.T).length=n:=⟨_,rfl⟩
 rw [hn0] at hl
 have HAT:=Lib.hid h
 have HM:=Lib.hid hm
 have HN:=Lib.hid hn
 have HN0:=Lib.hid hn0
 have HR:=Lib.hid hr
 have HF:=Lib.hid hF
 have LO:=Lib.hid lO
 clear h hm hr hF hn hn0
 go_enter Tryz.func12,Tryz.ntmps12
 go_wp2_with fail
 generalize hW0:World.alloc _ _=W0
 obtain ⟨hx0,hz0,hb0,hb1⟩:=two_blocks w _ _ _ _ W0 hW0
 have HX0:=Lib.hid hx0
 have HB0:=Lib.hid hb0
 have HB1:=Lib.hid hb1
 have HZ0:=Lib.hid hz0
 clear hW0 hx0 hb0 hb1 l1 l2 hz0
 refine ((callsIn_wide (n:=5)).1 (Tryz.maps_Keys_38 (some b) W0)).mono ?_
 rintro e w' ⟨rfl,rfl⟩
 go_wp2_with fail
 have hown:W0.ownsMap Tryz.prog 9 heldR b d.C.length (mapA SV.val d.C):=by
  have h1:=HAT.out.map
  rw [HM.out] at h1
  have hb:=HAT.out.map.lt HM.out
  exact ownsMap_heap h1 ((Nw.of HX0.out).block b hb id)
 have hsz:Maps.size (mapA SV.val d.C)=n:=by rw [size_mapA];exact HN.out
 refine ((callsIn_wide (n:=5)).1 (Tryz.slices_Sorted_keys_37_38 b d.C.length (mapA SV.val d.C) heldR W0 hown (by rw [hsz];unfold maxLen;omega) (by rw [hsz];omega))).mono ?_
 rintro e w2 ⟨v,ss,rfl,hp,hrow,hnil,hbl⟩
 have hlen:ss.length=n:=by have:=hp.length_eq;rw [strKeys_mapA,List.length_map,HN.out] at this;exact this
 rw [keys_sorted HAT.out.sorted hp,hlen] at hrow
 obtain ⟨s,rfl⟩:=own_slice hrow
 rw [World.size_alloc,HZ0.out] at hrow
 have hn2:Nw W0 w2:=(Nw.of ((Ext.refl W0).alloc #[.map (some b)] 26)).trans (Sb.new hbl)
 have hn02:Nw w w2:=(Nw.of HX0.out).trans hn2
 have HN2:=Lib.hid hn02
 have HB0':=Lib.hid (hn2.blk HB0.out)
 have HB1':=Lib.hid (hn2.blk HB1.out)
 have HROW:=Lib.hid hrow
 have hz2:w.heap.size+2≤w2.heap.size:=by have:=hn2.size;have:=HZ0.out;omega
 have HZ2:=Lib.hid hz2
 clear hown hsz hp hrow hnil hbl hn2 hn02 hlen c0 c1 HB0 HB1 hz2
 go_wp2_with fail
 go_loopw [23] (fun q wr=>∃ (j:Nat) (T1:RT),q=.int .i64 j∧j≤n∧OkR T1∧IsT wr (CB (OvF H w O d) w wr) T1∧comE (entsT d.T) ((optA d.C).drop j) (entsT T1)=comE (entsT d.T) (optA d.C) (entsT d.T)∧(entsT T1).length≤n0+j∧Blk wr (w.heap.size+1) 25 #[rootV T1]∧Sb (fun c=>c=w.heap.size+1) w2 wr∧(idleC (entsT d.T) (optA d.C)→T1=d.T)) (fun q _=>n - (intOf q).toNat)
 case atStart=>exact ⟨0,d.T,rfl,Nat.zero_le _,HAT.out.ok,(HAT.out.tree.agree (Nw.agree HN2.out HF.out)).mono fun i hi=>⟨.inl hi,Nat.lt_of_lt_of_le hi.1 HN2.out.size⟩,rfl,by rw [HN0.out];exact Nat.le_refl _,by rw [HR.out];exact HB1'.out,Sb.refl _ _,fun _=>rfl⟩
 obtain ⟨j,T1,rfl,hj,ok,hT,hce,hlT,hbT,hsb,hid⟩:=hrel
 obtain ⟨p1,hp1⟩:=rootV_ptr T1
 have hzr:w.heap.size+2≤wr.heap.size:=Nat.le_trans HZ2.out hsb.size
 by_cases hlt:j<n
 ·have g1:decide ((j:Int)<(n:Int))=true:=decide_eq_true (by omega)
  have g1':(j:Int)<(n:Int):=by omega
  obtain ⟨p,hpj⟩:∃ p,d.C[j]? = some p:=⟨_,List.getElem?_eq_getElem (by rw [HN.out];exact hlt)⟩
  have hpm:=List.mem_of_getElem? hpj
  obtain ⟨g,hsa,hsrow,hbase,hgl,hnc,hcm,hcell⟩:=own_atO HROW.out (i:=j) (v:=.string p.1) (by rw [List.getElem?_map,hpj];rfl)
  obtain ⟨sa,sc⟩:=s
  dsimp only at hsa hnc hcm
  subst hsa
  have lOw:=LO.out
  have hn2r:Sb (fun c=>c=w.heap.size+1) w wr:=(HN2.out.any _).trans hsb
  have hag:Agree (OvF H w O d) w wr:=fun i hi=>hn2r.block i hi.1 (by have:=hi.1;omega)
  have kc:wr.cell? ⟨g,j,none⟩=some (.string p.1):=(hsb.cell hgl (by omega)).trans hcell
  have kl:g<wr.heap.size:=Nat.lt_of_lt_of_le hgl hsb.size
  have hob:=hn2r.blk HAT.out.blk (by omega)
  rw [HR.out,HM.out] at hob
  have c0:wr.cell? ⟨O,0,none⟩=some (.pointer r):=hob.cell 0
  have c1:wr.cell? ⟨O,1,none⟩=some (.map (some b)):=hob.cell 1
  have lOr:=hob.lt
  obtain ⟨hkm,hsv⟩:=HAT.out.vals p hpm
  have hlk:=look_ov1 (W:=wr) (HAT.out.map.heap fun b hb=>hn2r.block b (HAT.out.map.lt hb) (by have:=HAT.out.map.lt hb;omega)) hkm
  rw [HM.out,show hadA d.C p.1=p.2 by unfold hadA;rw [getA_mem HAT.out.sorted hpm];rfl] at hlk
  have hCB:∀ i,CB (OvF H w O d) w wr i→i<wr.heap.size:=fun i hi=>hi.2
  have hlc:(entsT T1).length≤1000000:=by omega
  have hv:RV wr (Lt wr.heap.size) p.2.v p.2.sl p.2.so:=(hsv.1.agree hag).mono fun i hi=>by have:=hi.1;show i<_;omega
  have hget:=fun (W:World) (hW:Ext wr W)=>treeGet_any (k:=p.1) (w:=W) (F:=OvF H w O d) (T:=d.T) (fun i hi=>by have:=hi.1;have:=hW.size;omega) (HAT.out.tree.agree (hag.trans (hW.agree fun i hi=>by have:=hi.1;omega))) HAT.out.ok (by rw [HN0.out];omega)
  have hput:=fun (W:World) (hW:Ext wr W)=>put_any (k:=p.1) (v:=p.2.v) (sl:=p.2.sl) (so:=p.2.so) (fun b hb=>Nat.lt_of_lt_of_le (hCB b hb) hW.size) (hT.agree (hW.agree hCB)) ok hlc hkm ((hv.agree (hW.agree fun _ h=>h)).mono fun i hi=>Nat.lt_of_lt_of_le hi hW.size)
  have hdel:=fun (W:World) (hW:Ext wr W)=>delete_any (fun b hb=>Nat.lt_of_lt_of_le (hCB b hb) hW.size) (hT.agree (hW.agree hCB)) ok hlc p.1
  have hsame:=fun (W:World) (hW:Ext wr W) (x:Val) (xl xo:Sl) (hx:RV W (Lt W.heap.size) x xl xo)=>valueSame_any hx ((hv.agree (hW.agree fun _ h=>h)).mono (G:=Lt W.heap.size) fun i hi=>Nat.lt_of_lt_of_le hi hW.size)
  have hnext:=comE_at (B:=entsT d.T) hpj (entsT T1)
  have hidl:=idle_at (B:=entsT d.T) HAT.out.sorted hpj
  rw [hce] at hnext
  unfold GetPost at hget
  rw [treeV,HR.out] at hget
  rw [treeV,hp1] at hput hdel
  have hx3:Ext wr (wr.alloc (.cells p.2.cells 85)):=(Ext.refl wr).alloc _ _
  have hb3:=Blk.new wr 85 p.2.cells
  have hkeep:∀ W,Ext wr W→IsT W (CB (OvF H w O d) w W) T1∧Blk W (w.heap.size+1) 25 #[rootV T1]∧Sb (fun c=>c=w.heap.size+1) w2 W:=fun W hW=>
   ⟨(hT.agree (hW.agree hCB)).mono fun i hi=>⟨hi.1,Nat.lt_of_lt_of_le hi.2 hW.size⟩,hbT.ext hW,hsb.ext hW⟩
  have hmore:∀ w7 w8 T' p',Ext wr w7→Ext w7 w8→IsT w8 (Up (CB (OvF H w O d) w wr) w7 w8) T'→rootV T'=.pointer p'→_:=fun w7 w8 T' p' h7 h8 h1 h2=>com_next (w2:=w2) hzr HF.out h7 h8 h1 h2 hbT hsb
  obtain ⟨k,has,v,sl,so⟩:=p
  dsimp only at kc hkm hlk hv hget hput hdel hsame hnext hidl hx3 hb3
  obtain ⟨og,hog⟩:∃ o,getE (entsT d.T) k=o:=⟨_,rfl⟩
  obtain ⟨gv,hgv⟩:∃ g,og.getD zeroV=g:=⟨_,rfl⟩
  obtain ⟨gb,hgb⟩:∃ g,og.isSome=g:=⟨_,rfl⟩
  rw [hog] at hget hnext hidl
  rw [hgv,hgb] at hget
  have HSS:=Lib.hid (show ∀ W,Ext (wr.alloc (.cells (SV.cells ⟨has,v,sl,so⟩) 85)) W→(W.cell? ⟨wr.heap.size,0,none⟩=some (.bool has)∧W.cell? ⟨wr.heap.size,1,none⟩=some (.int .i64 v.kind)∧W.cell? ⟨wr.heap.size,2,none⟩=some (.bool v.b)∧W.cell? ⟨wr.heap.size,3,none⟩=some (.int .i64 v.i)∧W.cell? ⟨wr.heap.size,4,none⟩=some (.string v.t)∧W.cell? ⟨wr.heap.size,5,none⟩=some (.slice sl.a v.l.length sl.c)∧W.cell? ⟨wr.heap.size,6,none⟩=some (.slice so.a v.ok.length so.c))∧
    W.cell? ⟨w.heap.size+1,0,none⟩=some (.pointer p1)∧W.frozen? ⟨w.heap.size+1,0,none⟩=false∧w.heap.size+1<W.heap.size∧wr.heap.size<W.heap.size from fun W hW=>by
   have h1:=hbT.ext (hx3.trans hW)
   rw [hp1] at h1
   exact ⟨(hb3.ext hW).c7,h1.cell 0,h1.frozen 0,h1.lt,(hb3.ext hW).lt⟩)
  have HX3:=Lib.hid hx3
  have HGET:=Lib.hid hget
  have HPUT:=Lib.hid hput
  have HDEL:=Lib.hid hdel
  have HSAME:=Lib.hid hsame
  have HNEXT:=Lib.hid hnext
  have HIDL:=Lib.hid hidl
  have HKEEP:=Lib.hid hkeep
  have HMORE:=Lib.hid hmore
  have HOK:=Lib.hid ok
  have HLT:=Lib.hid hlT
  have HIDE:=Lib.hid hid
  clear hpj hpm hcell hn2r hag hob hkm hsv hv hget hput hdel hsame hnext hidl hx3 hb3 hkeep hmore hog ok hT hce hlT hbT hsb hid hCB hlc hp1
  go_wp2_with fail
  dsimp only [SV.cells] at HSS HX3
  generalize hW3:wr.alloc (.cells _ _)=W3 at *
  clear hW3 kc kl c0 c1 lOr hlk
  refine (HGET.out W3 HX3.out).mono ?_
  rintro e w4 ⟨gl,gq,rfl,hx4,hrv⟩
  have hx5:=(Ext.refl w4).alloc #[.int .i64 gv.kind,.bool gv.b,.int .i64 gv.i,.string gv.t,.slice gl.a gv.l.length gl.c,.slice gq.a gv.ok.length gq.c] 34
  have hb5:=Blk.new w4 34 #[.int .i64 gv.kind,.bool gv.b,.int .i64 gv.i,.string gv.t,.slice gl.a gv.l.length gl.c,.slice gq.a gv.ok.length gq.c]
  have hrv5:=(hrv.agree (hx5.agree fun b hb=>hb.2)).mono (G:=Lt (w4.alloc (.cells #[.int .i64 gv.kind,.bool gv.b,.int .i64 gv.i,.string gv.t,.slice gl.a gv.l.length gl.c,.slice gq.a gv.ok.length gq.c] 34)).heap.size) fun b hb=>Nat.lt_of_lt_of_le hb.2 hx5.size
  have HSM:=Lib.hid (HSAME.out _ ((HX3.out.trans hx4).trans hx5) gv gl gq hrv5)
  have HXA:=Lib.hid (HX3.out.trans hx4)
  have HXB:=Lib.hid ((HX3.out.trans hx4).trans hx5)
  have HX5:=Lib.hid (hx4.trans hx5)
  obtain ⟨⟨q0,q1,q2,q3,q4,q5,q6⟩,q7,q8,q9,q10⟩:=HSS.out _ hx4
  clear hx4 hrv hx5 hb5 hrv5 HSAME HGET
  cases gb with
  | false=>
    have ho:og=none:=by cases og with
     | none=>rfl
     | some x=>cases hgb
    cases has with
    | false=>
      have hne:=HNEXT.out
      simp only [SV.opt,ho] at hne
      have HE:=Lib.hid hne.symm
      clear hne
      go_wp2_with fail
      obtain ⟨e1,e2,e3⟩:=HKEEP.out _ HXB.out
      go_roundw
      case rel=>exact ⟨j+1,T1,by go_num,hlt,HOK.out,e1,HE.out,by have:=HLT.out;omega,e2,e3,HIDE.out⟩
      simp [intOf];omega
    | true=>
      have hne:=HNEXT.out
      simp only [SV.opt,ho,if_true,Option.any_none,Bool.false_eq_true,if_false] at hne
      have HE:=Lib.hid hne.symm
      have hni:=HIDL.out
      have HNI:=Lib.hid (show ¬(match (SV.opt ⟨true,v,sl,so⟩) with
       | some v=>og.any (fun was=>decide (cmpV was v=0))=true
       | none=>og=none) by simp [SV.opt,ho])
      clear hne hni
      go_wp2_with fail
      refine (HPUT.out _ HXB.out).mono ?_
      rintro e w8 ⟨T',rfl,hpr,hT',hx8⟩
      obtain ⟨p',hp'⟩:=rootV_ptr T'
      rw [treeV,hp']
      obtain ⟨-,q7,q8,q9,q10⟩:=HSS.out w8 (HX5.out.trans hx8)
      have HNX:=Lib.hid (HMORE.out _ _ T' p' HXB.out hx8 hT' hp')
      have HPR:=Lib.hid hpr
      clear hpr hT' hx8 hp'
      go_wp2_with fail
      obtain ⟨e1,e2,e3⟩:=HNX.out
      go_roundw
      case rel=>exact ⟨j+1,T',by go_num,hlt,HPR.out.ok HOK.out,e1,by rw [HPR.out.ents HOK.out];exact HE.out,by rw [HPR.out.ents HOK.out];have:=HLT.out;rcases insE_len (entsT T1) k v with h | h <;> omega,e2,e3,fun hi=>absurd (HIDL.out hi) HNI.out⟩
      simp [intOf];omega
  | true=>
    obtain ⟨x,ho⟩:∃ x,og=some x:=Option.isSome_iff_exists.1 hgb
    have hgx:x=gv:=by rw [ho] at hgv;exact hgv
    cases has with
    | false=>
      have hne:=HNEXT.out
      simp only [SV.opt,ho,Bool.false_eq_true,if_false,Option.isSome_some,if_true] at hne
      have HE:=Lib.hid hne.symm
      have HNI:=Lib.hid (show ¬(match (SV.opt ⟨false,v,sl,so⟩) with
       | some v=>og.any (fun was=>decide (cmpV was v=0))=true
       | none=>og=none) by simp [SV.opt,ho])
      clear hne
      go_wp2_with fail
      refine (HDEL.out _ HXB.out).mono ?_
      rintro e w8 ⟨T',rfl,hpr,hT',hx8⟩
      obtain ⟨p',hp'⟩:=rootV_ptr T'
      rw [treeV,hp']
      obtain ⟨-,q7,q8,q9,q10⟩:=HSS.out w8 (HX5.out.trans hx8)
      have HNX:=Lib.hid (HMORE.out _ _ T' p' HXB.out hx8 hT' hp')
      have HPR:=Lib.hid hpr
      clear hpr hT' hx8 hp'
      go_wp2_with fail
      obtain ⟨e1,e2,e3⟩:=HNX.out
      go_roundw
      case rel=>exact ⟨j+1,T',by go_num,hlt,HPR.out.ok HOK.out,e1,by rw [HPR.out.ents HOK.out];exact HE.out,by rw [HPR.out.ents HOK.out];have:=HLT.out;have:=(delE_sublist (entsT T1) k).length_le;omega,e2,e3,fun hi=>absurd (HIDL.out hi) HNI.out⟩
      simp [intOf];omega
    | true=>
      obtain ⟨sm,hsm⟩:∃ s,decide (cmpV gv v=0)=s:=⟨_,rfl⟩
      have hsm1:=HSM.out
      rw [hsm] at hsm1
      have HSM1:=Lib.hid hsm1
      clear hsm1 HSM
      go_wp2_with fail
      refine HSM1.out.mono ?_
      rintro e w6 ⟨rfl,hx6⟩
      have HXC:=Lib.hid (HXB.out.trans hx6)
      have HX6:=Lib.hid (HX5.out.trans hx6)
      obtain ⟨⟨q0,q1,q2,q3,q4,q5,q6⟩,q7,q8,q9,q10⟩:=HSS.out w6 (HX5.out.trans hx6)
      clear hx6 HSM1
      cases sm with
      | true=>
        have hne:=HNEXT.out
        simp only [SV.opt,ho,if_true,Option.any_some,hgx,hsm] at hne
        have HE:=Lib.hid hne.symm
        clear hne
        go_wp2_with fail
        obtain ⟨e1,e2,e3⟩:=HKEEP.out _ HXC.out
        go_roundw
        case rel=>exact ⟨j+1,T1,by go_num,hlt,HOK.out,e1,HE.out,by have:=HLT.out;omega,e2,e3,HIDE.out⟩
        simp [intOf];omega
      | false=>
        have hne:=HNEXT.out
        simp only [SV.opt,ho,if_true,Option.any_some,hgx,hsm,Bool.false_eq_true,if_false] at hne
        have HE:=Lib.hid hne.symm
        have HNI:=Lib.hid (show ¬(match (SV.opt ⟨true,v,sl,so⟩) with
         | some v=>og.any (fun was=>decide (cmpV was v=0))=true
         | none=>og=none) by simp only [SV.opt,ho,if_true,Option.any_some,hgx,hsm];simp)
        clear hne
        go_wp2_with fail
        refine (HPUT.out _ HXC.out).mono ?_
        rintro e w8 ⟨T',rfl,hpr,hT',hx8⟩
        obtain ⟨p',hp'⟩:=rootV_ptr T'
        rw [treeV,hp']
        obtain ⟨-,q7,q8,q9,q10⟩:=HSS.out w8 (HX6.out.trans hx8)
        have HNX:=Lib.hid (HMORE.out _ _ T' p' HXC.out hx8 hT' hp')
        have HPR:=Lib.hid hpr
        clear hpr hT' hx8 hp'
        go_wp2_with fail
        obtain ⟨e1,e2,e3⟩:=HNX.out
        go_roundw
        case rel=>exact ⟨j+1,T',by go_num,hlt,HPR.out.ok HOK.out,e1,by rw [HPR.out.ents HOK.out];exact HE.out,by rw [HPR.out.ents HOK.out];have:=HLT.out;rcases insE_len (entsT T1) k v with h | h <;> omega,e2,e3,fun hi=>absurd (HIDL.out hi) HNI.out⟩
        simp [intOf];omega
 obtain rfl:j=n:=by omega
 have g1:decide ((j:Int)<(j:Int))=false:=decide_eq_false (by omega)
 rw [hp1] at hbT
 have q0:wr.cell? ⟨w.heap.size+1,0,none⟩=some (.pointer p1):=hbT.cell 0
 have hbR:=hsb.blk HB0'.out (by omega)
 have q1:wr.cell? ⟨w.heap.size,0,none⟩=some (.pointer none):=hbR.cell 0
 have f0:=hbR.frozen 0
 have k0:=hbR.lt
 have k1:=hbT.lt
 have hfin:CommitPost H O d w (.returned (.agg #[.pointer p1])) (wr.setCell ⟨w.heap.size,0,none⟩ (.pointer p1)):=by
  refine ⟨T1,by rw [treeV,hp1],ok,?_,?_,?_,hid⟩
  ·refine (hT.agree (Agree.setCell wr ⟨w.heap.size,0,none⟩ _ ?_)).mono fun i hi=>?_
   ·rintro ⟨hf | hf,-⟩
    ·have:=HF.out _ hf;dsimp only at this;omega
    dsimp only at hf;omega
   rw [Up,World.size_setCell]
   rcases hi.1 with h | h
   ·exact .inl h
   exact .inr ⟨by omega,hi.2⟩
  ·rw [←hce,List.drop_eq_nil_of_le (by unfold optA;rw [List.length_map,HN.out];exact Nat.le_refl _)];rfl
  have h1:Sb (fun c=>c=w.heap.size+1∨c=w.heap.size) w2 (wr.setCell ⟨w.heap.size,0,none⟩ (.pointer p1)):=(hsb.mono fun i _ e=>.inl e).set (p:=⟨w.heap.size,0,none⟩) (.inr (.inr rfl)) _
  exact HN2.out.comp h1 fun i hi e=>by omega
 have HFIN:=Lib.hid hfin
 clear ok hT hce hlT hbT hsb hid hbR hfin hp1
 go_wp2_with fail
 refine bodyPost_ret (v:=.agg #[.pointer p1]) (by simp [results,Tryz.results12,go_sem,q1]) rfl ?_
 exact HFIN.out
theorem commit_ov {H:Nat→Prop} {w:World} {O:Nat} {d:OD} (h:OvAt H w O d) (hl:(entsT d.T).length+d.C.length≤1000000):Calls Tryz.prog 12 #[.pointer (some ⟨O,0,none⟩)] w (CommitPost H O d w):=by
 cases hm:d.mb with
 | some b=>exact commit_some h hm hl
 | none=>
   have hC:d.C=[]:=by have:=h.map;rw [hm] at this;exact this
   exact (commit_none h hm).mono fun e w' ⟨he,hn⟩=>⟨d.T,he,h.ok,(h.tree.agree (Nw.agree hn fun b hb=>hb.1)).mono fun i hi=>.inl hi,by rw [hC];rfl,hn,fun _=>rfl⟩
def putC (k:ByteArray) (v:Val):Int:=if mayK k≠0 then 8 else fitV v
theorem put_anyO {H:Nat→Prop} {w:World} {O:Nat} {d:OD} (h:OvAt H w O d) (hH:∀ b,H b→b<w.heap.size) (hn:d.us.length≤1000000) {k:ByteArray} (hk:k.size≤maxLen) {v:Val} {sl so:Sl} (hv:RV w (Lt w.heap.size) v sl so) (hc:cntV v≤1100000) (hL:LibQ w) :
  Calls Tryz.prog 10 #[.pointer (some ⟨O,0,none⟩),.string k,aggV v sl so] w fun e w'=>e=.returned (.int .i64 (putC k v))∧((putC k v=0∧∃ sl so mb s,OvTo H w O d (d.step k ⟨true,v,sl,so⟩ mb s) w')∨(putC k v≠0∧Nw w w')):=by
 have hmay:=fun W (hW:Nw w W)=>keysMay_any hk (hL.lib.nw hW)
 have hRV:∀ W,Nw w W→RV W (Lt W.heap.size) v sl so:=fun W hW=>(hv.agree (Nw.agree hW fun b hb=>hb)).mono fun b hb=>Nat.lt_of_lt_of_le hb hW.size
 have hfit:=fun W (hW:Nw w W)=>fits_any (hRV W hW) hc (hL.nw hW)
 by_cases hm:mayK k=0
 ·rw [hm] at hmay
  have hp:putC k v=fitV v:=by unfold putC;rw [if_neg (by simp [hm])]
  rw [hp]
  by_cases hf:fitV v=0
  ·rw [hf] at hfit
   exact (put_ov h hH hn hk hv hmay hfit).mono fun e w' h=>by rw [hf];exact ⟨h.1,.inl ⟨rfl,h.2⟩⟩
  exact (put_ov_no hmay hfit hf).mono fun e w' h=>⟨h.1,.inr ⟨hf,h.2⟩⟩
 have hp:putC k v=8:=by unfold putC;rw [if_pos hm]
 rw [hp]
 exact (put_ov_key hmay hm).mono fun e w' h=>⟨h.1,.inr ⟨by decide,h.2⟩⟩
theorem OvAt.turn {H H' G:Nat→Prop} {w w':World} {O:Nat} {d:OD} (h:OvAt H w O d) (k:Sb G w w') (hG:∀ b,G b→H b) (hH:∀ b,H' b→H b∨w.heap.size≤b):OvAt H' w' O d:=by
 have ha:Agree (OvF H w O d) w w':=fun b hb=>k.block b hb.1 fun hh=>hb.2.2 (hG b hh)
 have hm:∀ i,OvF H w O d i→OvF H' w' O d i:=fun i hi=>⟨Nat.lt_of_lt_of_le hi.1 k.size,hi.2.1,fun hh=>(hH i hh).elim hi.2.2 fun h2=>by have:=hi.1;omega⟩
 have hn:∀ b,OvB O d b→¬G b:=fun b hb hg=>h.out b hb (hG b hg)
 obtain ⟨xs,r1,r2,r3⟩:=h.row
 exact ⟨k.blk h.blk (hn O (.inl rfl)),h.map.heap fun b hb=>k.block b (h.map.lt hb) (hn b (.inr (.inl hb))),
  ⟨xs,r1,own_agree r2 k.agree fun b hb=>⟨h.row_lt hb,hn b (.inr (.inr hb))⟩,fun i u v hu hv=>((r3 i u v hu hv).agree ha).mono hm⟩,
  fun p hp=>⟨(h.vals p hp).1,((h.vals p hp).2.agree ha).mono hm⟩,fun u hu=>⟨(h.olds u hu).1,fun o ho=>(((h.olds u hu).2 o ho).agree ha).mono hm⟩,
  h.hist,h.h0,h.last,h.sorted,(h.tree.agree ha).mono hm,h.ok,h.ne,fun b hb hh=>(hH b hh).elim (h.out b hb) fun h2=>by have:=h.own_lt hb;omega,h.some_⟩
theorem delE_leO:∀ (es:List Ent) (k:ByteArray),(delE es k).length≤es.length
 | [],k=>by simp [delE]
 | e :: r,k=>by
   have:=delE_leO r k
   unfold delE
   repeat' split
   all_goals simp only [List.length_cons]
   all_goals omega
theorem comE_len (B:List Ent):∀ (C:Slots) (t:List Ent),(comE B C t).length≤t.length+C.length
 | [],t=>by simp [comE]
 | (k,some v) :: r,t=>by
   rw [comE]
   have h1:=comE_len B r
   have h2:=insE_len t k v
   split
   ·have:=h1 t;rw [List.length_cons];omega
   have:=h1 (insE t k v);rw [List.length_cons];omega
 | (k,none) :: r,t=>by
   rw [comE]
   have h1:=comE_len B r
   have h2:=delE_leO t k
   split
   ·have:=h1 (delE t k);rw [List.length_cons];omega
   have:=h1 t;rw [List.length_cons];omega
structure LB12 where
 kd:Int
 k:ByteArray
 v:Val
 sl:Sl
 so:Sl
 n:Int
instance : Inhabited LB12 := ⟨⟨0, ByteArray.empty, default, Sl.none, Sl.none, 0⟩⟩
structure A12C (w:World) (b o:Nat) (x:LB12):Prop where
 c0:w.cell? ⟨b,o,none⟩=some (.int .i64 x.kd)
 c1:w.cell? ⟨b,o+1,none⟩=some (.string x.k)
 cv:VCells w b (o+2) x.v x.sl x.so
 c8:w.cell? ⟨b,o+8,none⟩=some (.int .i64 x.n)
structure AS12 (w:World) (F:Nat→Prop) (s:Sl) (xs:List LB12):Prop where
 ex:∃ b o,SlAt F s xs.length b o∧∀ j x,xs[j]? = some x→A12C w b (o+j*9) x
 vals:∀ x∈xs,RV w F x.v x.sl x.so∧x.k.size≤maxLen∧(Lit.int .i64 x.kd).wf=true∧(Lit.int .i64 x.n).wf=true
 few:∀ x∈xs,cntV x.v≤1100000
theorem AS12.at {w:World} {F:Nat→Prop} {s:Sl} {xs:List LB12} (h:AS12 w F s xs) {i:Nat} {x:LB12} (hx:xs[i]? = some x) :
  ∃ b o,s.a=some ⟨b,o,none⟩∧F b∧xs.length≤s.c∧s.c≤maxLen∧A12C w b (o+i*9) x∧RV w F x.v x.sl x.so∧x.k.size≤maxLen∧cntV x.v≤1100000∧(Lit.int .i64 x.kd).wf=true∧(Lit.int .i64 x.n).wf=true:=by
 obtain ⟨b,o,h1,h2⟩:=h.ex
 obtain ⟨e1,e2,e3⟩:=h1.eq (lt_length hx)
 have hm:=List.mem_of_getElem? hx
 have hv:=h.vals x hm
 exact ⟨b,o,e1,h1.fits (lt_length hx),e2,e3,h2 i x hx,hv.1,hv.2.1,h.few x hm,hv.2.2.1,hv.2.2.2⟩
theorem A12C.agree {w w':World} {b o:Nat} {x:LB12} (h:A12C w b o x) {F:Nat→Prop} (ha:Agree F w w') (hb:F b):A12C w' b o x:=⟨(ha.cell hb).trans h.c0,(ha.cell hb).trans h.c1,h.cv.agree ha hb,(ha.cell hb).trans h.c8⟩
theorem AS12.agree {w w':World} {F:Nat→Prop} {s:Sl} {xs:List LB12} (h:AS12 w F s xs) (ha:Agree F w w'):AS12 w' F s xs:=by
 obtain ⟨⟨b,o,h1,h2⟩,h3,h4⟩:=h
 exact ⟨⟨b,o,h1,fun j x hx=>(h2 j x hx).agree ha (h1.fits (lt_length hx))⟩,fun x hx=>⟨(h3 x hx).1.agree ha,(h3 x hx).2⟩,h4⟩
theorem up_ltO {H:Nat→Prop} {w w':World} {O:Nat} {d:OD} (k:Nw w w') (b:Nat) (hb:Up (OvF H w O d) w w' b):b<w'.heap.size:=hb.elim (fun h=>Nat.lt_of_lt_of_le h.1 k.size) fun h=>h.2
end Go.Proofs.YtechahocffcbpaaGreatDoor
namespace Go.Proofs.YtechahocffcbpaaGreatDoor
open Go.RowKit
set_option linter.unusedVariables false
set_option linter.unusedSimpArgs false
section
variable {H : Type} {enc : TypeId × Value → H} {P : Program} {w : World} {held : Bool}
theorem bulk_all_get:∀ {l:List (DataW H)} {i:Nat} {d:DataW H},l[i]? = some d→Rows.uptoBulk d≤Rows.uptoBulkAll l
 | [],i,d,h=>by simp at h
 | x :: l,0,d,h=>by
   have:x=d:=by simpa using h
   subst this
   simp only [Rows.uptoBulkAll];omega
 | x :: l,i+1,d,h=>by
   have:=bulk_all_get (l:=l) (i:=i) (d:=d) (by simpa using h)
   simp only [Rows.uptoBulkAll];omega
theorem trod_rowsB {t e:TypeId} {C B fuel:Nat} {cs:List Value} {x:DataW H × List MemPlace} (ht:P.underlying t=some (.slice e)) (hC:P.cellsOf e=C) (hB:P.bytesOf e=B) (hC0:0<C)
  (h:tr enc P w held fuel t cs=some x) (hw:WOk P t x.1) :
  ∃ (n len:Nat) (s:Sl) (b o:Nat) (es:List (DataW H)),fuel=n+1∧cs=[.slice s.a len s.c]∧SlAt (Lt w.heap.size) s len b o∧len*B≤140737488351232∧es.length=len∧Rows.uptoBulkAll es+1≤Rows.uptoBulk x.1∧
   ∀ i,i<len→∃ cs' y,cs'.length=C∧(∀ j,j<C→w.cell? ⟨b,o+i*C+j,none⟩=cs'[j]?)∧tr enc P w held n e cs'=some y∧WOk P e y.1∧es[i]? = some y.1:=by
 rcases DataW.trod_slice ht h with ⟨rfl,rfl⟩ | ⟨a,len,cap,elems,rest,n,hfu,hcs,hx,-,hl,hm,hlen,hel,hsp,-⟩
 ·cases fuel with
  | zero=>simp [tr,DataW.trod] at h
  | succ n=>exact ⟨n,0,Sl.none,0,0,[],rfl,rfl,.nil _ _,by omega,rfl,by simp [Rows.uptoBulk,Rows.uptoBulkAll],fun i hi=>by omega⟩
 obtain ⟨n',len',s,b,o,hfu',hcs',hs,hby,he⟩:=trod_rows ht hC hB hC0 h hw
 subst hcs hx hfu
 obtain rfl:n=n':=by omega
 have hcs2:Value.slice (some a) len cap=.slice s.a len' s.c:=by simpa using hcs'
 injection hcs2 with e1 e2 e3
 subst e2
 refine ⟨n,len,s,b,o,elems.map (·.1),rfl,hcs',hs,hby,by rw [List.length_map];exact hlen,by simp only [Rows.uptoBulk];omega,fun i hi=>?_⟩
 obtain ⟨cs',y,hl',hc,ht',hw'⟩:=he i hi
 refine ⟨cs',y,hl',hc,ht',hw',?_⟩
 have hE:=hel i hi
 rw [List.getElem?_eq_getElem (by omega)] at hE
 obtain ⟨cs2,h1,h2⟩:=Option.bind_eq_some_iff.1 hE
 obtain ⟨-,hl1,hat1⟩:=World.cells?_some h1
 rw [hC] at hl1 hat1
 have hsa:s.a=some ⟨b,o,none⟩:=(hs.eq (by omega)).1
 rw [hsa] at e1
 obtain rfl:a=⟨b,o,none⟩:=by injection e1
 have:cs2=cs':=by
  refine List.ext_getElem? fun j=>?_
  by_cases hj:j<C
  ·have:=hat1 j hj
   rw [Go.WideShapes.add_plain,Go.WideShapes.add_plain] at this
   rw [←hc j hj,←this]
  rw [List.getElem?_eq_none (by omega),List.getElem?_eq_none (by omega)]
 subst this
 rw [List.getElem?_map,List.getElem?_eq_getElem (by omega)]
 have:some (elems[i]'(by omega))=some y:=by rw [←h2];exact ht'
 simp only [Option.map_some]
 injection this with this
 rw [this]
theorem trod_fieldsB {t:TypeId} {fs:List Field} {fuel:Nat} {cs:List Value} {x:DataW H × List MemPlace} (ht:P.underlying t=some (.struct fs.toArray)) (h:tr enc P w held fuel t cs=some x) (hw:WOk P t x.1) :
  ∃ n ds,fuel=n+1∧cs.length=P.cellsOf t∧x.1=.agg ds∧∀ (i:Nat) (f:Field),fs[i]? = some f→∃ y,tr enc P w held n f.type ((cs.drop f.offset).take (P.cellsOf f.type))=some y∧WOk P f.type y.1∧ds[i]? = some y.1:=by
 obtain ⟨xs,n,rfl,rfl,hl,hlen,hf⟩:=DataW.trod_struct ht h
 refine ⟨n,xs.map (·.1),rfl,hl,rfl,fun i f hi=>?_⟩
 have hw':(DataW.weightsEach P (fs.map (·.type)) (xs.map (·.1))).all (·≤reachBytes)=true:=by
  have:=hw
  simpa [WOk,DataW.weights,ht] using this
 have hil:i<fs.length:=(List.getElem?_eq_some_iff.1 hi).1
 have h1:=hf i f (by simpa using hi)
 have hxl:i<xs.length:=by simp at hlen;omega
 rw [List.getElem?_eq_getElem hxl] at h1
 exact ⟨_,h1,weightsEach_at hw' i _ _ (by rw [List.getElem?_map,hi];rfl) (by rw [List.getElem?_map,List.getElem?_eq_getElem hxl];rfl),by rw [List.getElem?_map,List.getElem?_eq_getElem hxl];rfl⟩
end
theorem bulk_pos {H:Type} (d:DataW H):1≤Rows.uptoBulk d:=by
 cases d with
 | lit l=>cases l <;> simp [Rows.uptoBulk]
 | _=>simp [Rows.uptoBulk]
end Go.Proofs.YtechahocffcbpaaGreatDoor
