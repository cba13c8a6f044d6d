/- What the theorem needs of the texts InsertN, With2, Put, Log, Trees, Get, BuiltP, DelT, Gather, Step, Build, DiffP, AppP, AL, OvP, OvQ, RangeG: no condition of its own. -/
import Derived.Lib.Overlaps
import Derived.Deep.RegionLaw
import Derived.Lib.AppendZerosOnto
import Derived.Laws.IdiomStrings
import Derived.WalkArith
import Derived.Maps.OwnSet
import Derived.WideAt
import Derived.RangeFuncNested
import Derived.Test.YtkhdiakpdafcdaaGreatDoorPna
import Derived.Test.YtkhdiakpdafcdaaGreatDoorPnc
set_option maxRecDepth 100000
set_option maxHeartbeats 2000000
namespace Go.Proofs.YtkhdiakpdafcdaaGreatDoor
open Go.RowKit
set_option linter.unusedVariables false
set_option linter.unusedSimpArgs false
def InsPostN (base:Nat) (s:Sl) (n i:Nat) (xs ys:List Value) (w:World) (e:Ending) (w':World):Prop:=
 ∃ s':Sl,e=.returned (.slice s'.a (n+1) s'.c)∧w'.ownsRow base 39 1 (.slice s'.a (n+1) s'.c) (n+1) (xs.take (i*1)++ys++xs.drop (i*1))∧Wr w w' s.row∧(s'.row=s.row∨∃ b,s'.row=some b∧w.heap.size≤b)
section
variable {w : World} {base n i : Nat} {s : Sl} {xs ys : List Value} {vb : Nat}
theorem insN_end (hown:w.ownsRow base 39 1 (.slice s.a n s.c) n xs) (hbase:base≤w.heap.size) (hn:n≤1000) (hy:ys.length=1) (hv:Blk w vb 39 ys.toArray) (h1:∀ u∈ys,u.oneCell'=true) :
  Calls Tryz.prog 109 #[.slice s.a n s.c,.int .i64 n,.slice (some ⟨vb,0,none⟩) 1 1] w (InsPostN base s n n xs ys w):=by
 obtain ⟨i0,hi,hz0,hz1,hz2⟩:=info_parts Tryz.infoPNode
 have hsrc:Rd w (fun _=>True) 1 ⟨some ⟨vb,0,none⟩,1⟩ 1 ys:=⟨vb,0,.some _ _ _ _ (Nat.le_refl _) (by decide) trivial,by simpa using hy,fun j u hj=>by rw [hv.cell];simpa using hj⟩
 have hxs:xs.take (n*1)++ys++xs.drop (n*1)=xs++ys:=by
  rw [List.take_of_length_le (by rw [hown.1];exact Nat.le_refl _),List.drop_eq_nil_of_le (by rw [hown.1];exact Nat.le_refl _),List.append_nil]
 have HO:=Lib.hid hown
 have HS:=Lib.hid hsrc
 have H1:=Lib.hid h1
 have HX:=Lib.hid hxs
 have h63:n+1≤maxLen:=by unfold maxLen;omega
 have hcap:n≤s.c:=by
  rcases hown.2 with ⟨hv,h0⟩ | ⟨g,cap,cur,hv,_,_,hnc,_⟩
  ·omega
  simp only [Value.slice.injEq] at hv;omega
 have hnn:((n:Int) == (n:Int))=true:=by simp
 clear hown hsrc hv h1 hy hxs
 obtain ⟨sa,sc⟩:=s
 dsimp only at *
 go_enter Tryz.func109,Tryz.ntmps109
 go_wp2_with (at_builtin;refine wpList_append_x _ rfl _ _ 108 rfl base 39 i0 (.pointer none) 1 8 Tryz.underlying108 hi hz0 hz1 hz2 rfl (by decide) ⟨sa,sc⟩ n xs rfl HO.out (fun _=>True) ⟨some ⟨vb,0,none⟩,1⟩ 1 ys rfl HS.out H1.out h63 (by omega) hbase ?_;intro s' w1 hown1 hwr hs')
 all_goals
  go_ret
  refine ⟨s',by simp,by rw [HX.out];exact hown1,hwr,?_⟩
  rcases hs' with h | ⟨h,-⟩
  ·exact .inl (by simp [Sl.row,h])
  exact .inr ⟨w.heap.size,by simp [Sl.row,h],Nat.le_refl _⟩
theorem insN_shift {g cap:Nat} {cur:Array Value} (hxl:xs.length=n*1) (hbg:base≤g) (hg:w.heap[g]? = some (.cells cur 39 (0,0))) (hroom:n+1≤cap) (hcm:cap≤maxLen) (hcs:cur.size=cap*1) (htake:cur.toList.take (n*1)=xs)
  (hn:n≤1000) (hin:i<n) (hy:ys.length=1) (hv:Blk w vb 39 ys.toArray) (hvb:vb≠g) (h1:∀ u∈ys,u.oneCell'=true) (h1x:∀ u∈xs,u.oneCell'=true) :
  Calls Tryz.prog 109 #[.slice (some ⟨g,0,none⟩) n cap,.int .i64 i,.slice (some ⟨vb,0,none⟩) 1 1] w (InsPostN base ⟨some ⟨g,0,none⟩,cap⟩ n i xs ys w):=by
 obtain ⟨i0,hi,hz0,hz1,hz2⟩:=info_parts Tryz.infoPNode
 have hne:((i:Int) == (n:Int))=false:=beq_eq_false_iff_ne.2 (by omega)
 have hin':(i:Int)<(n:Int):=by omega
 have hr':¬(cap:Int)<(n:Int)+1:=by omega
 have hcm':(cap:Int)≤9223372036854775807:=by unfold maxLen at hcm;omega
 have hc1:¬cap=i:=by omega
 have hc2:¬cap=i+1:=by omega
 have hw1:IntKind.i64.wrap ((i:Int)+1)=(i:Int)+1:=by rw [IntKind.wrap_i64];omega
 have hb1:(0:Int)≤(i:Int)+1:=by omega
 have htn:((i:Int)+1).toNat=i+1:=by omega
 have hin1:i≤n:=by omega
 have hb3:(i:Int)≤(n:Int)+1:=by omega
 have hov:∀ lb cb,(callFunc 152 #[.slice (some ⟨vb,0,none⟩) 1 1,.slice (some ⟨g,i+1,none⟩) lb cb]).run Tryz.prog w=.ok (.value (.bool false)) w:=fun lb cb=>by
  rw [run_callFunc_extern Tryz.func152 (by kernel_rfl) (by kernel_rfl) (by kernel_rfl) (e:=Extern.SlicesOverlaps.overlaps #[108,108] #[4]) (by kernel_rfl),
   Lib.run_overlaps_apart w 108 4 39 Tryz.underlying108 1 (fun w=>by simp [sizeOf,typeInfo,hi,hz1]) ⟨vb,0,none⟩ ⟨g,i+1,none⟩ 1 1 lb cb hvb 39 39 ys.toArray.size cur.size (by simp [World.shape?,show w.heap[vb]? = some (.cells ys.toArray 39 (0,0)) from hv]) (by simp [World.shape?,hg]) (by omega) (hv.frozen _) (hv.frozen _)]
  rfl
 have hd1:(xs.drop (i*1)).length=(n - i)*1:=by rw [List.length_drop,hxl,←Nat.sub_mul]
 have hxc:∀ j v,(xs.drop (i*1))[j]? = some v→w.drew.cell? ⟨g,i+j,none⟩=some v:=fun j v hj=>by
  rw [World.cell?_drew,cell_of_row w g _ cur 39 (0,0) hg]
  rw [List.getElem?_drop,←htake,List.getElem?_take] at hj
  split at hj
  ·simpa using hj
  cases hj
 obtain ⟨A1,hA1⟩:∃ A1,A1=(cur.toList.take (i+1)++xs.drop (i*1)++cur.toList.drop (i+1+(xs.drop (i*1)).length)).toArray:=⟨_,rfl⟩
 obtain ⟨W1,hW1⟩:∃ W1,W1=w.drew.setRow g A1:=⟨_,rfl⟩
 have hcp1:∀ ty dc sc,(Builtin.copy_ #[108,108] ty #[.slice (some ⟨g,i+1,none⟩) (n - i) dc,.slice (some ⟨g,i,none⟩) (n+1 - i) sc]).run Tryz.prog w.drew=.ok (goInt (Nat.min (n+1 - i) (n - i))) W1:=fun ty dc sc=>by
  rw [hW1,hA1]
  exact run_copy_x w.drew 108 108 ty 39 1 g (i+1) (n - i) dc ⟨some ⟨g,i,none⟩,sc⟩ (n+1 - i) cur 39 (xs.drop (i*1)) Tryz.underlying108 (by rw [hi];simp [hz1]) hg
   (by rw [hd1,show Nat.min (n+1 - i) (n - i)=n - i from by simp only [Nat.min_def];split <;> omega]) (by simp) (by rintro b o' ⟨⟩;exact hxc) (by rintro a ⟨⟩;rfl) (by rw [hd1];omega) (fun u hu=>h1x u (List.mem_of_mem_drop hu))
 have hs1:A1.size=cur.size:=by rw [hA1];simp;omega
 have hg1:W1.heap[g]? = some (.cells A1 39 (0,0)):=by rw [hW1];exact setRow_heap w.drew g cur A1 39 (0,0) hg
 have hv1:Blk W1 vb 39 ys.toArray:=by rw [hW1];exact (setRow_other w.drew g vb A1 hvb).trans hv
 obtain ⟨A2,hA2⟩:∃ A2,A2=(A1.toList.take (i)++ys++A1.toList.drop (i+ys.length)).toArray:=⟨_,rfl⟩
 obtain ⟨W2,hW2⟩:∃ W2,W2=W1.setRow g A2:=⟨_,rfl⟩
 have hcp2:∀ ty dc,(Builtin.copy_ #[108,108] ty #[.slice (some ⟨g,i,none⟩) (n+1 - i) dc,.slice (some ⟨vb,0,none⟩) 1 1]).run Tryz.prog W1=.ok (goInt (Nat.min 1 (n+1 - i))) W2:=fun ty dc=>by
  rw [hW2,hA2]
  exact run_copy_x W1 108 108 ty 39 1 g (i) (n+1 - i) dc ⟨some ⟨vb,0,none⟩,1⟩ 1 A1 39 ys Tryz.underlying108 (by rw [hi];simp [hz1]) hg1
   (by rw [hy,show Nat.min 1 (n+1 - i)=1 from by simp only [Nat.min_def];split <;> omega]) (by simp) (by rintro b o' ⟨⟩;exact fun j v hj=>by rw [hv1.cell];simpa using hj) (by rintro a ⟨⟩;rfl) (by omega) h1
 have hg2:W2.heap[g]? = some (.cells A2 39 (0,0)):=by rw [hW2];exact setRow_heap W1 g A1 A2 39 (0,0) hg1
 have hwr:Wr w W2 (some g):=by
  rw [hW2,hW1]
  exact ((Wr.refl w (some g)).drew.trans (Wr.setRow w.drew A1) (fun i hi=>.inl hi)).trans (Wr.setRow (w.drew.setRow g A1) A2) (fun i hi=>.inl hi)
 have hfin:W2.ownsRow base 39 1 (.slice (some ⟨g,0,none⟩) (n+1) cap) (n+1) (xs.take (i*1)++ys++xs.drop (i*1)):=by
  refine ⟨by simp [hxl,hy];omega,.inr ⟨g,cap,A2,rfl,hbg,hg2,hroom,hcm,by rw [hA2];simp;omega,?_⟩⟩
  rw [hA2,hA1]
  exact shift_list cur.toList xs ys (i*1) (n*1) 1 _ _ _ _ _ htake.symm hy (by omega) (by rw [Array.length_toList];omega) (by omega) rfl (by omega) (by omega) (by omega)
 have HF:=Lib.hid hfin
 have HW:=Lib.hid hwr
 clear hfin hwr hg2 hg1 hv1 hs1 hW2 hW1 hA2 hA1 hxc hd1 hg hv h1 h1x hxl htake hcs
 go_enter Tryz.func109,Tryz.ntmps109
 go_wp2_with (simp only [hov])
 go_region_law (refine step_copy_x _ rfl _ _ 108 108 rfl _ _ (by simp [Act.eval,Act.put]) (by simp [Act.eval,Act.put]) (hcp1 _ _ _) ?_)
 go_wp2_with (at_builtin;refine wpList_copy_x _ rfl _ _ 108 108 rfl _ _ rfl rfl (hcp2 _ _) ?_)
 go_ret
 exact ⟨⟨some ⟨g,0,none⟩,cap⟩,rfl,HF.out,HW.out,.inl rfl⟩
theorem insN_grow {g cap:Nat} {cur:Array Value} (hxl:xs.length=n*1) (hbase:base≤w.heap.size) (hg:w.heap[g]? = some (.cells cur 39 (0,0))) (hnc:n≤cap) (hroom:cap<n+1) (hcs:cur.size=cap*1) (htake:cur.toList.take (n*1)=xs)
  (hn:n≤1000) (hin:i<n) (hy:ys.length=1) (hv:Blk w vb 39 ys.toArray) (hvb:vb≠g) (h1:∀ u∈ys,u.oneCell'=true) (h1x:∀ u∈xs,u.oneCell'=true) :
  Calls Tryz.prog 109 #[.slice (some ⟨g,0,none⟩) n cap,.int .i64 i,.slice (some ⟨vb,0,none⟩) 1 1] w (InsPostN base ⟨some ⟨g,0,none⟩,cap⟩ n i xs ys w):=by
 obtain ⟨i0,hi,hz0,hz1,hz2⟩:=info_parts Tryz.infoPNode
 have hne:((i:Int) == (n:Int))=false:=beq_eq_false_iff_ne.2 (by omega)
 have hin':(i:Int)<(n:Int):=by omega
 have hr':(cap:Int)<(n:Int)+1:=by omega
 have hc1:¬cap=i:=by omega
 have hw1:IntKind.i64.wrap ((i:Int)+1)=(i:Int)+1:=by rw [IntKind.wrap_i64];omega
 have hb1:(0:Int)≤(i:Int)+1:=by omega
 have htn:((i:Int)+1).toNat=i+1:=by omega
 have hin1:i≤n:=by omega
 have hb3:(i:Int)≤(n:Int):=by omega
 have hb4:(i:Int)+1≤(n:Int)+1:=by omega
 have hgl:g<w.heap.size:=lt_of_block hg
 have hvl:vb<w.heap.size:=hv.lt
 obtain ⟨G,hG⟩:∃ G,G=grownCap w (n+1) cap 39:=⟨_,rfl⟩
 have hGn:n+1≤G:=by rw [hG];exact grownCap_ge w _ _ _
 have hG63:G≤9223372036854775807:=by
  have:=grownCap_le_maxLen w (n+1) cap 39 (by unfold maxLen;omega)
  rw [←hG] at this
  unfold maxLen at this
  omega
 have hik:i+(n+1 - i)=n+1:=by omega
 obtain ⟨ROW,hROW⟩:∃ ROW:Array Value,ROW=(xs.take (i*1)).toArray++Builtin.zeroCells ((.pointer none):Value).cells (n+1 - i)++Builtin.zeroCells ((.pointer none):Value).cells (G - (n+1)):=⟨_,rfl⟩
 have hRs:ROW.size=G*1:=by
  rw [hROW]
  simp only [Array.size_append,List.size_toArray,size_zeroCells,List.length_take,hxl]
  rw [show ((.pointer none):Value).cells.size=1 from rfl]
  omega
 have hRt:ROW.toList.take (i*1)=xs.take (i*1):=by
  rw [hROW]
  simp only [Array.toList_append,List.append_assoc]
  rw [List.take_append_of_le_length (by simp [hxl];omega),List.take_of_length_le (by simp;omega)]
 obtain ⟨W1,hW1⟩:∃ W1,W1=w.drew.alloc (.cells ROW 39):=⟨_,rfl⟩
 have hrz:∀ ty,(Builtin.append_ #[108,3] ty #[.slice (some ⟨g,0,none⟩) i cap,.int .i64 ((n:Int)+1 - (i:Int))]).run Tryz.prog w=.ok (.slice (some ⟨w.heap.size,0,none⟩) (n+1) G) W1:=fun ty=>by
  have hold:(Builtin.firstCells i0.size i (.slice (some ⟨g,0,none⟩) i cap)).run Tryz.prog w.drew=.ok (xs.take (i*1)).toArray w.drew:=by
   rw [hz1]
   exact run_firstCells_some w.drew 1 i ⟨g,0,none⟩ i cap (xs.take (i*1)) (by rw [List.length_take];omega) (fun j v hj=>by
    rw [add_at,Nat.zero_add,World.cell?_drew,cell_of_row w g _ cur 39 (0,0) hg]
    rw [List.getElem?_take] at hj
    split at hj
    ·rw [←htake,List.getElem?_take] at hj
     split at hj
     ·simpa using hj
     cases hj
    cases hj)
  have h:=Lib.run_append_grow_zeros w 108 3 ty 39 i0 _ .i64 .i64 Tryz.underlying108 Tryz.underlying3 hi hz0 (some ⟨g,0,none⟩) i cap (xs.take (i*1)) hold (n+1 - i) (by omega) (by omega) (by omega) (by omega) (by rw [hz2];omega) (by rw [hz2,hik];exact growslice_fits hroom (by omega))
  rw [hik,←hG,←hROW,←hW1] at h
  rw [show (n:Int)+1 - (i:Int)=((n+1 - i:Nat):Int) from by omega]
  exact h
 have hg1:W1.heap[w.heap.size]? = some (.cells ROW 39 (0,0)):=by rw [hW1];exact heap_alloc_new w.drew _
 have hb1o:∀ k,k<w.heap.size→W1.heap[k]? = w.heap[k]?:=fun k hk=>by rw [hW1];exact Below.heap_alloc w.drew _ k hk
 have hv1:Blk W1 vb 39 ys.toArray:=(hb1o vb hvl).trans hv
 obtain ⟨A1,hA1⟩:∃ A1,A1=(ROW.toList.take (i)++ys++ROW.toList.drop (i+ys.length)).toArray:=⟨_,rfl⟩
 have hs1:A1.size=G*1:=by rw [hA1];simp;omega
 obtain ⟨W2,hW2⟩:∃ W2,W2=W1.setRow w.heap.size A1:=⟨_,rfl⟩
 have hcpA:∀ ty dc,(Builtin.copy_ #[108,108] ty #[.slice (some ⟨w.heap.size,i,none⟩) (n+1 - i) dc,.slice (some ⟨vb,0,none⟩) 1 1]).run Tryz.prog W1=.ok (goInt (Nat.min 1 (n+1 - i))) W2:=fun ty dc=>by
  rw [hW2,hA1]
  exact run_copy_x W1 108 108 ty 39 1 w.heap.size (i) (n+1 - i) dc ⟨some ⟨vb,0,none⟩,1⟩ 1 ROW 39 ys Tryz.underlying108 (by rw [hi];simp [hz1]) hg1
   (by rw [hy,show Nat.min 1 (n+1 - i)=1 from by simp only [Nat.min_def];split <;> omega]) (by simp) (by rintro b o' ⟨⟩;exact fun j v hj=>by rw [hv1.cell];simpa using hj) (by rintro a ⟨⟩;rfl) (by omega) h1
 have hg2:W2.heap[w.heap.size]? = some (.cells A1 39 (0,0)):=by rw [hW2];exact setRow_heap W1 _ ROW A1 39 (0,0) hg1
 have hb2o:∀ k,k<w.heap.size→W2.heap[k]? = w.heap[k]?:=fun k hk=>by rw [hW2];exact (setRow_other W1 _ k A1 (by omega)).trans (hb1o k hk)
 have hd1:(xs.drop (i*1)).length=(n - i)*1:=by rw [List.length_drop,hxl,←Nat.sub_mul]
 have hxc:∀ j v,(xs.drop (i*1))[j]? = some v→W2.drew.cell? ⟨g,i+j,none⟩=some v:=fun j v hj=>by
  rw [World.cell?_drew,cell_of_row W2 g _ cur 39 (0,0) ((hb2o g hgl).trans hg)]
  rw [List.getElem?_drop,←htake,List.getElem?_take] at hj
  split at hj
  ·simpa using hj
  cases hj
 obtain ⟨A2,hA2⟩:∃ A2,A2=(A1.toList.take (i+1)++xs.drop (i*1)++A1.toList.drop (i+1+(xs.drop (i*1)).length)).toArray:=⟨_,rfl⟩
 obtain ⟨W3,hW3⟩:∃ W3,W3=W2.drew.setRow w.heap.size A2:=⟨_,rfl⟩
 have hcpB:∀ ty dc sc,(Builtin.copy_ #[108,108] ty #[.slice (some ⟨w.heap.size,i+1,none⟩) (n - i) dc,.slice (some ⟨g,i,none⟩) (n - i) sc]).run Tryz.prog W2.drew=.ok (goInt (Nat.min (n - i) (n - i))) W3:=fun ty dc sc=>by
  rw [hW3,hA2]
  exact run_copy_x W2.drew 108 108 ty 39 1 w.heap.size (i+1) (n - i) dc ⟨some ⟨g,i,none⟩,sc⟩ (n - i) A1 39 (xs.drop (i*1)) Tryz.underlying108 (by rw [hi];simp [hz1]) hg2
   (by rw [hd1,show Nat.min (n - i) (n - i)=n - i from by simp]) (by simp) (by rintro b o' ⟨⟩;exact hxc) (by rintro a ⟨⟩;rfl) (by rw [hd1];omega) (fun u hu=>h1x u (List.mem_of_mem_drop hu))
 have hg3:W3.heap[w.heap.size]? = some (.cells A2 39 (0,0)):=by rw [hW3];exact setRow_heap W2.drew _ A1 A2 39 (0,0) hg2
 have hwr:Wr w W3 (some g):=by
  rw [hW3,hW2,hW1]
  exact (((((Wr.refl w (some g)).drew).alloc ROW 39).trans (Wr.setRow _ A1) (fun i hi=>.inr (by injection hi with hi;omega))).drew).trans (Wr.setRow _ A2) (fun i hi=>.inr (by injection hi with hi;omega))
 have hfin:W3.ownsRow base 39 1 (.slice (some ⟨w.heap.size,0,none⟩) (n+1) G) (n+1) (xs.take (i*1)++ys++xs.drop (i*1)):=by
  refine ⟨by simp [hxl,hy];omega,.inr ⟨w.heap.size,G,A2,rfl,hbase,hg3,hGn,by unfold maxLen;omega,by rw [hA2];simp;omega,?_⟩⟩
  rw [hA2,hA1]
  exact grow_list ROW.toList xs ys (i*1) (n*1) 1 _ _ _ _ _ hRt hxl hy (by omega) (by rw [Array.length_toList];omega) (by omega) rfl (by omega) (by omega) (by omega)
 have HF:=Lib.hid hfin
 have HW:=Lib.hid hwr
 clear hfin hwr hg3 hg2 hg1 hv1 hs1 hW3 hW2 hW1 hA2 hA1 hxc hd1 hg hv h1 h1x hxl htake hcs hb1o hb2o hRt hRs hROW hG hik
 have hGi:¬(G=i):=by omega
 have hGim:¬(G=i+1):=by omega
 go_enter Tryz.func109,Tryz.ntmps109
 go_wp2_with (first
  | (at_builtin;refine wpList_append_run _ rfl _ _ 108 3 rfl _ _ rfl rfl (hrz _) ?_)
  | (at_builtin;refine wpList_copy_x _ rfl _ _ 108 108 rfl _ _ rfl rfl (hcpA _ _) ?_))
 go_region_law (refine step_copy_x _ rfl _ _ 108 108 rfl _ _ (by simp [Act.eval,Act.put]) (by simp [Act.eval,Act.put]) (hcpB _ _ _) ?_)
 go_wp2
 go_ret
 exact ⟨⟨some ⟨w.heap.size,0,none⟩,G⟩,rfl,HF.out,HW.out,.inr ⟨_,rfl,Nat.le_refl _⟩⟩
theorem insN_any (hown:w.ownsRow base 39 1 (.slice s.a n s.c) n xs) (hbase:base≤w.heap.size) (hn:n≤1000) (hin:i≤n) (hy:ys.length=1) (hv:Blk w vb 39 ys.toArray) (hvb:s.row≠some vb) (h1:∀ u∈ys,u.oneCell'=true) (h1x:∀ u∈xs,u.oneCell'=true) :
  Calls Tryz.prog 109 #[.slice s.a n s.c,.int .i64 i,.slice (some ⟨vb,0,none⟩) 1 1] w (InsPostN base s n i xs ys w):=by
 by_cases he:i=n
 ·subst he;exact insN_end hown hbase hn hy hv h1
 rcases hown.2 with ⟨hs,h0⟩ | ⟨g,cap,cur,hs,hbg,hg,hnc,hcm,hcs,htake⟩
 ·omega
 simp only [Value.slice.injEq] at hs
 obtain ⟨ha,-,hc⟩:=hs
 have hne:vb≠g:=fun e=>hvb (by simp [Sl.row,ha,e])
 have hs':s=⟨some ⟨g,0,none⟩,cap⟩:=by cases s;simp_all
 have hl:=hown.1
 clear hown
 subst hs'
 by_cases hr:n+1≤cap
 ·exact insN_shift hl hbg hg hr hcm hcs htake hn (by omega) hy hv hne h1 h1x
 exact insN_grow hl hbase hg hnc (by omega) hcs htake hn (by omega) hy hv hne h1 h1x
end
theorem own_row {w:World} {base e size n:Nat} {s:Sl} {xs:List Value} (h:w.ownsRow base e size (.slice s.a n s.c) n xs) {b:Nat} (hb:s.row=some b):base≤b∧b<w.heap.size:=
 h.lt b (by obtain ⟨a,c⟩:=s;cases a <;> simp_all [Value.ownBlock,Sl.row])
theorem own_block {w:World} {base e size n:Nat} {s:Sl} {xs:List Value} (h:w.ownsRow base e size (.slice s.a n s.c) n xs) (hn:0<n):∃ g cap,s=⟨some ⟨g,0,none⟩,cap⟩∧base≤g∧n≤cap∧cap≤maxLen∧Filling w g e size cap:=by
 rcases h.2 with ⟨hv,h0⟩ | ⟨g,cap,cur,hv,hbg,hg,hnc,hcm,hcs,-⟩
 ·omega
 simp only [Value.slice.injEq] at hv
 exact ⟨g,cap,by obtain ⟨a,c⟩:=s;simp_all,hbg,hnc,hcm,cur,hg,hcs⟩
theorem own_set {w:World} {base e n g cap:Nat} {xs:List Value} (h:w.ownsRow base e 1 (.slice (some ⟨g,0,none⟩) n cap) n xs) {i:Nat} (hi:i<n) (u:Value):(w.setCell ⟨g,i,none⟩ u).ownsRow base e 1 (.slice (some ⟨g,0,none⟩) n cap) n (xs.set i u):=by
 rcases h.2 with ⟨hv,h0⟩ | ⟨g',cap',cur,hv,hbg,hg,hnc,hcm,hcs,ht⟩
 ·omega
 simp only [Value.slice.injEq,Option.some.injEq,Addr.mk.injEq,and_true,true_and] at hv
 obtain ⟨rfl,rfl⟩:=hv
 refine ⟨by rw [List.length_set];exact h.1,.inr ⟨g,cap,cur.setIfInBounds i u,rfl,hbg,Blk.set_ (show Blk w g e cur from hg) i u,hnc,hcm,by rw [Array.size_setIfInBounds];exact hcs,?_⟩⟩
 rw [Array.toList_setIfInBounds,List.take_set,ht]
theorem size_le8:∀ {h:Nat} {t:PT h},OkT h t→size h t≤8
 | 0,_,ok=>ok
 | _+1,_,ok=>ok.2.1
theorem kids_ents {B:Nat} {k:ByteArray} {v:Val} {h:Nat} {t:PT (h+1)} {kid:PT h} {rs:List (PT h)} (hk:t.2[whichK h t.2 k]? = some kid) (hr:WithR B k v h kid rs) (ok:OkT (h+1) t) (hs:Sorted (ents (h+1) t)) :
  (t.2.take (whichK h t.2 k)++rs++t.2.drop (whichK h t.2 k+1)).flatMap (ents h)=insE (ents (h+1) t) k v:=by
 have hp:=kids_pos ok
 obtain ⟨kid',hk',hA,hC⟩:=which_split (h:=h) (ks:=t.2) hs hp (by have:=ok.1;omega) k
 rw [hk] at hk'
 simp only [Option.some.injEq] at hk'
 subst hk'
 have hm:=List.mem_of_getElem? hk
 have ih:=WithR.ents hr (ok.2.2 kid hm).1 (kid_sorted hs kid hm)
 rw [List.flatMap_append,List.flatMap_append,ih]
 show _=insE (t.2.flatMap (Proofs.YtkhdiakpdafcdaaGreatDoor.ents h)) k v
 conv=>rhs;rw [take_mid hk]
 rw [List.flatMap_append,List.flatMap_cons,insE_app hA,insE_stop hC,List.append_assoc]
theorem kids_ok {B:Nat} {k:ByteArray} {v:Val} {h:Nat} {t:PT (h+1)} {kid:PT h} {rs:List (PT h)} (hk:t.2[whichK h t.2 k]? = some kid) (hr:WithR B k v h kid rs) (ok:OkT (h+1) t) :
  ∀ u∈t.2.take (whichK h t.2 k)++rs++t.2.drop (whichK h t.2 k+1),OkT h u∧4≤size h u:=by
 have hm:=List.mem_of_getElem? hk
 obtain ⟨i1,i2⟩:=WithR.ok hr (ok.2.2 kid hm).1
 have hk4:=(ok.2.2 kid hm).2
 intro u hu
 rcases List.mem_append.1 hu with hu | hu
 ·rcases List.mem_append.1 hu with hu | hu
  ·exact ok.2.2 u (List.mem_of_mem_take hu)
  exact ⟨(i1 u hu).1,(i1 u hu).2.2 hk4⟩
 exact ok.2.2 u (List.mem_of_mem_drop hu)
def WithPost (F:Nat→Prop) (h:Nat) (t:PT h) (k:ByteArray) (v:Val) (w:World) (e:Ending) (w':World):Prop:=
 ∃ ts:List (PT h),e=two h ts∧WithR w.heap.size k v h t ts∧(∀ u∈ts,IsN w' (Up F w w') h u)∧Ext w w'
def WithPost' (F:Nat→Prop) (h:Nat) (t:PT h) (k:ByteArray) (v:Val) (w:World) (e:Ending) (w':World):Prop:=
 ∃ (a:PT h) (r:Value) (rs:List (PT h)),e=.returned (.tuple #[ptr h a,r])∧((r=.pointer none∧rs=[a])∨∃ b,r=ptr h b∧rs=[a,b])∧WithR w.heap.size k v h t rs∧(∀ u∈rs,IsN w' (Up F w w') h u)∧Ext w w'
theorem WithPost.apart {F:Nat→Prop} {h:Nat} {t:PT h} {k:ByteArray} {v:Val} {w:World} {e:Ending} {w':World} (p:WithPost F h t k v w e w'):WithPost' F h t k v w e w':=by
 obtain ⟨ts,rfl,h1,h2,h3⟩:=p
 rcases h1.two with ⟨a,rfl⟩ | ⟨a,b,rfl⟩
 ·exact ⟨a,_,_,rfl,.inl ⟨rfl,rfl⟩,h1,h2,h3⟩
 exact ⟨a,_,_,rfl,.inr ⟨b,rfl,rfl⟩,h1,h2,h3⟩
theorem with_zero {w:World} {F:Nat→Prop} (hF:∀ b,F b→b<w.heap.size) {t:PT 0} (hn:IsN w F 0 t) (ok:OkT 0 t) (hs:Sorted (ents 0 t)) {k:ByteArray} {v:Val} {sl so:Sl} (hv:RV w (Lt w.heap.size) v sl so) (hkm:k.size≤maxLen) :
  Calls Tryz.prog 61 #[ptr 0 t,aggE k v sl so] w (WithPost F 0 t k v w):=by
 have hn':IsN w (Lt w.heap.size) 0 t:=hn.mono hF
 refine (with_leaf (fun W hW=>height_any (hn'.ext hW)) (fun W hW=>entries_any (hn'.ext hW)) hs ok hv hkm).mono ?_
 rintro e w' ⟨ts,rfl,h1,h2,h3⟩
 exact ⟨ts,rfl,⟨h1,fun u hu=>(h2 u hu).1⟩,fun u hu=>(h2 u hu).2.mono fun i hi=>.inr hi,h3⟩
theorem two_cases1 {n:Nat} {L:List (PT n)} {ts:List (PT (n+1))} (h:ts.map Prod.snd=chunk L):(∃ a,ts=[a])∨∃ a b,ts=[a,b]:=by
 rcases chunk_two L with ⟨a,ha⟩ | ⟨a,b,ha⟩ <;> rw [ha] at h
 ·obtain ⟨x,hx,-⟩:=one1 h;exact .inl ⟨x,hx⟩
 obtain ⟨x,y,hx,-⟩:=two1 h;exact .inr ⟨x,y,hx⟩
theorem with_end {w w3 w':World} {F:Nat→Prop} {h:Nat} {t:PT (h+1)} {k:ByteArray} {v:Val} {i:Nat} {kid:PT h} {rs:List (PT h)} {B:Nat} (hE:Ext w w3) (hi:whichK h t.2 k=i) (hkid:t.2[whichK h t.2 k]? = some kid) (hB:w.heap.size≤B) (hwr:WithR B k v h kid rs)
  {ts:List (PT (h+1))} (h1:ts.map Prod.snd=chunk (t.2.take i++rs++t.2.drop (i+1))) (h2:∀ u∈ts,w3.heap.size≤addr (h+1) u∧IsN w' (Up (Up F w w3) w3 w') (h+1) u) (h3:Ext w3 w'):WithPost F (h+1) t k v w (two (h+1) ts) w':=by
 subst hi
 refine ⟨ts,rfl,⟨kid,rs,hkid,hwr.mono hB,h1,fun u hu=>Nat.le_trans hE.size (h2 u hu).1⟩,fun u hu=>(h2 u hu).2.mono fun i hi=>?_,hE.trans h3⟩
 rcases hi with (hi | hi) | hi
 ·exact .inl hi
 ·exact .inr ⟨hi.1,Nat.lt_of_lt_of_le hi.2 h3.size⟩
 exact .inr ⟨Nat.le_trans hE.size hi.1,hi.2⟩
theorem ptrs_set {h:Nat} {ks:List (PT h)} {i:Nat} (hi:i<ks.length) (a:PT h):(ptrs h ks).set i (ptr h a)=ptrs h (ks.take i++[a]++ks.drop (i+1)):=by
 rw [ptrs,←List.map_set,List.set_eq_take_append_cons_drop,if_pos hi,List.append_assoc];rfl
theorem ptrs_ins {h:Nat} {ks:List (PT h)} {i:Nat} (hi:i<ks.length) (a b:PT h):(ptrs h (ks.take i++[a]++ks.drop (i+1))).take ((i+1)*1)++[ptr h b]++(ptrs h (ks.take i++[a]++ks.drop (i+1))).drop ((i+1)*1)=ptrs h (ks.take i++[a,b]++ks.drop (i+1)):=by
 have hl:(ptrs h (ks.take i++[a])).length=i+1:=by simp [ptrs];omega
 have e:ptrs h (ks.take i++[a]++ks.drop (i+1))=ptrs h (ks.take i++[a])++ptrs h (ks.drop (i+1)):=by simp [ptrs]
 rw [e,Nat.mul_one,←hl,List.take_left,List.drop_left,hl]
 simp [ptrs]
theorem with_succ {h:Nat} {k:ByteArray} {v:Val} {sl so:Sl} (hkm:k.size≤maxLen)
  (ih:∀ (w:World) (F:Nat→Prop) (t:PT h),(∀ b,F b→b<w.heap.size)→IsN w F h t→OkT h t→Sorted (ents h t)→(ents h t).length≤1000000→RV w (Lt w.heap.size) v sl so→Calls Tryz.prog 61 #[ptr h t,aggE k v sl so] w (WithPost F h t k v w))
  {w:World} {F:Nat→Prop} {t:PT (h+1)} (hF:∀ b,F b→b<w.heap.size) (hn:IsN w F (h+1) t) (ok:OkT (h+1) t) (hs:Sorted (ents (h+1) t)) (hc:(ents (h+1) t).length≤1000000) (hv:RV w (Lt w.heap.size) v sl so) :
  Calls Tryz.prog 61 #[ptr (h+1) t,aggE k v sl so] w (WithPost F (h+1) t k v w):=by
 have hpos:=kids_pos ok
 have hh:h+1<1000000:=Nat.lt_of_lt_of_le (height_lt (h+1) t ok (by have:=ok.1;show 1≤t.2.length;omega)) hc
 obtain ⟨kid,hkid,hA,hC⟩:=which_split (h:=h) (ks:=t.2) hs hpos (by have:=ok.1;omega) k
 have hkm':=List.mem_of_getElem? hkid
 have hil:=(List.getElem?_eq_some_iff.1 hkid).1
 have hlen2:=ok.1
 have hlen8:=ok.2.1
 have hks:∀ x∈t.2,IsN w F h x:=hn.2.choose_spec.2.2
 have hkc:(ents h kid).length≤1000000:=Nat.le_trans (by
  show _≤(t.2.flatMap (ents h)).length
  rw [take_mid hkid];simp only [List.flatMap_append,List.flatMap_cons,List.length_append];omega) hc
 have hih:∀ W,Ext w W→Calls Tryz.prog 61 #[ptr h kid,aggE k v sl so] W (WithPost' F h kid k v W):=fun W hW=>
  (ih W F kid (fun b hb=>Nat.lt_of_lt_of_le (hF b hb) hW.size) ((hks kid hkm').agree (hW.agree hF)) (ok.2.2 kid hkm').1 (kid_sorted hs kid hkm') hkc ((hv.agree (hW.agree fun _ h=>h)).mono fun i hi=>Nat.lt_of_lt_of_le hi hW.size)).mono fun _ _ p=>p.apart
 have HF:=Lib.hid hF
 have HN:=Lib.hid hn
 have HOK:=Lib.hid ok
 have HS:=Lib.hid hs
 have HC:=Lib.hid hc
 have HP:=Lib.hid hpos
 have HIH:=Lib.hid hih
 have HKS:=Lib.hid hks
 have HKID:=Lib.hid hkid
 have hnz:(((h:Int)+1) == 0)=false:=beq_eq_false_iff_ne.2 (by omega)
 clear hF hn ok hs hc hpos hih hks hkid hA hC hv ih hkc
 go_enter Tryz.func61,Tryz.ntmps61
 go_wp2_with fail
 have hx0:Ext w (w.alloc (.cells #[.string k,.int .i64 v.kind,.bool v.b,.int .i64 v.i,.string v.t,.slice sl.a v.l.length sl.c,.slice so.a v.ok.length so.c] 71)):=(Ext.refl w).alloc _ _
 have hb0:=Blk.new w 71 #[.string k,.int .i64 v.kind,.bool v.b,.int .i64 v.i,.string v.t,.slice sl.a v.l.length sl.c,.slice so.a v.ok.length so.c]
 generalize hW0:World.alloc _ _=W0 at *
 have hz0:W0.heap.size=w.heap.size+1:=by rw [←hW0];simp
 clear hW0
 have hnW:IsN W0 F (h+1) t:=HN.out.agree (hx0.agree HF.out)
 refine (height_any hnW).mono ?_
 rintro e w1 ⟨rfl,rfl⟩
 have hkc:=kids_any hnW (by omega)
 clear hnW
 go_wp2_with fail
 refine hkc.mono ?_
 rintro e w1 ⟨s',rfl,hown,hx1⟩
 have hX1:=hx0.trans hx1
 have hb1:=hb0.ext hx1
 obtain ⟨c0,c1,c2,c3,c4,c5,c6⟩:=hb1.c7
 have hrd:Rd w1 (Lt w1.heap.size) 1 s' t.2.length (ptrs h t.2):=(Rd.of_own hown).mono fun i hi=>hi.2
 have hwh:=which_any hrd (fun x hx=>(HKS.out x hx).agree (hX1.agree HF.out)) (fun b hb=>Nat.lt_of_lt_of_le (HF.out b hb) hX1.size) HP.out k HS.out (by omega)
 obtain ⟨i,hi⟩:∃ i,whichK h t.2 k=i:=⟨_,rfl⟩
 rw [hi] at hwh hil
 have HI:=Lib.hid hi
 have HWH:=Lib.hid hwh
 have HO1:=Lib.hid hown
 have HB1:=Lib.hid hb1
 have HX1:=Lib.hid hX1
 have HX01:=Lib.hid hx1
 clear hi hwh hown hb1 hX1 hrd hkc hb0 hx0 hx1
 go_wp2_with fail
 refine HWH.out.mono ?_
 rintro e w2 ⟨rfl,hx2⟩
 clear c0 c1 c2 c3 c4 c5 c6
 obtain ⟨d0,d1,d2,d3,d4,d5,d6⟩:=(HB1.out.ext hx2).c7
 have hbl:=HB1.out.lt
 have hbl2:=(HB1.out.ext hx2).lt
 have hX2:=HX1.out.trans hx2
 obtain ⟨g,cap,rfl,hbg,hnc,hcm,hfil⟩:=own_block HO1.out (by omega)
 have ho2:w2.ownsRow W0.heap.size 39 1 (.slice (some ⟨g,0,none⟩) t.2.length cap) t.2.length (ptrs h t.2):=own_agree HO1.out (hx2.agree (F:=Lt w1.heap.size) fun _ h=>h) fun b hb=>(own_row HO1.out hb).2
 have hkp:w2.cell? ⟨g,i,none⟩=some (ptr h kid):=by
  have:=ho2.cells (g:=g) rfl i (ptr h kid) (by rw [ptrs,List.getElem?_map,←HI.out,HKID.out];rfl)
  rwa [add_at,Nat.zero_add] at this
 have hil':(i:Int)<(t.2.length:Int):=by omega
 have HO2:=Lib.hid ho2
 have HX2:=Lib.hid hX2
 have hg2:g<w2.heap.size:=(own_row (s:=⟨some ⟨g,0,none⟩,cap⟩) ho2 rfl).2
 have hfz:∀ o,w2.frozen? ⟨g,o,none⟩=false:=fun o=>by rw [hx2.frozen hfil.lt];exact hfil.frozen o
 clear hx2 ho2 hX2 hfil
 go_wp2_with fail
 go_region_held3 (fun w'=>w'.cell? ⟨g,i,none⟩=some (ptr h kid)∧w'.cell? ⟨w.heap.size,0,none⟩=some (.string k)∧w'.cell? ⟨w.heap.size,1,none⟩=some (.int .i64 v.kind)∧w'.cell? ⟨w.heap.size,2,none⟩=some (.bool v.b)∧w'.cell? ⟨w.heap.size,3,none⟩=some (.int .i64 v.i)∧w'.cell? ⟨w.heap.size,4,none⟩=some (.string v.t)∧w'.cell? ⟨w.heap.size,5,none⟩=some (.slice sl.a v.l.length sl.c)∧w'.cell? ⟨w.heap.size,6,none⟩=some (.slice so.a v.ok.length so.c)) (go_keep)
  ((go_at_call 61;refine (HIH.out _ HX2.out.drew).mono ?_;rintro e w3 ⟨a,r,rs,rfl,hr,hwr,hwn,hx3⟩;have HR:=Lib.hid hr;have HWR:=Lib.hid hwr;have HWN:=Lib.hid hwn;clear hr hwr hwn;have ho3:(∀ b o,b<w2.heap.size→w3.cell? ⟨b,o,none⟩=w2.cell? ⟨b,o,none⟩):=fun b o hb=>hx3.cell (show b<w2.drew.heap.size from hb)))
 have hX23:Ext w2 w3:=((Ext.refl w2).drew).trans hx3
 have hg3:g<w3.heap.size:=Nat.lt_of_lt_of_le hg2 hX23.size
 have hkp3:=(hX23.cell (o:=i) hg2).trans hkp
 have hfz3:w3.frozen? ⟨g,i,none⟩=false:=(hX23.frozen hg2).trans (hfz i)
 have HX23:=Lib.hid hX23
 have HX2D:=Lib.hid hx3
 clear hX23 hx3 hkp hfz ho3 d0 d1 d2 d3 d4 d5 d6
 have ho3:w3.ownsRow W0.heap.size 39 1 (.slice (some ⟨g,0,none⟩) t.2.length cap) t.2.length (ptrs h t.2):=own_agree (s:=⟨some ⟨g,0,none⟩,cap⟩) HO2.out (HX23.out.agree (F:=Lt w2.heap.size) fun _ h=>h) fun b hb=>(own_row (s:=⟨some ⟨g,0,none⟩,cap⟩) HO2.out hb).2
 have ho4:=own_set ho3 hil (ptr h a)
 rw [ptrs_set hil] at ho4
 have hX4:Ext w (w3.setCell ⟨g,i,none⟩ (ptr h a)):=(HX2.out.trans HX23.out).setCell (p:=⟨g,i,none⟩) (by show w.heap.size≤g;omega) _
 have hag4:Agree (Up F w2.drew w3) w3 (w3.setCell ⟨g,i,none⟩ (ptr h a)):=Agree.setCell w3 ⟨g,i,none⟩ _ (by
  rintro (hf | hf)
  ·have:g<w.heap.size:=HF.out g hf
   omega
  have:w2.heap.size≤g:=hf.1
  omega)
 have hkids:∀ W,Ext w W→Agree (Up F w2.drew w3) w3 W→w3.heap.size≤W.heap.size→Kids W (Up F w W) h (t.2.take i++rs++t.2.drop (i+1)):=fun W hW hag hsz=>by
  have hke:=kids_ents HKID.out HWR.out HOK.out HS.out
  have hko:=kids_ok HKID.out HWR.out HOK.out
  rw [HI.out] at hke hko
  have hso:Sorted ((t.2.take i++rs++t.2.drop (i+1)).flatMap (ents h)):=by rw [hke];exact insE_sorted HS.out k v
  have hps:∀ x∈t.2.take i++rs++t.2.drop (i+1),0<(ents h x).length:=fun x hx=>ents_pos h x (hko x hx).1 (by have:=(hko x hx).2;omega)
  refine ⟨fun b hb=>hb.elim (fun h=>Nat.lt_of_lt_of_le (HF.out b h) hW.size) fun h=>h.2,fun x hx=>?_,rising_of hso hps,hps,fun x hx=>by have:=size_le8 (hko x hx).1;omega,by
   have:=insE_len (ents (h+1) t) k v
   have hcc:=HC.out
   unfold cnt;rw [hke];omega,by omega⟩
  rcases List.mem_append.1 hx with hx | hx
  ·rcases List.mem_append.1 hx with hx | hx
   ·exact ((HKS.out x (List.mem_of_mem_take hx)).agree (hW.agree HF.out)).mono fun _ h=>.inl h
   exact ((HWN.out x hx).agree hag).mono fun b hb=>hb.elim .inl fun h=>.inr ⟨Nat.le_trans HX2.out.size h.1,Nat.lt_of_lt_of_le h.2 hsz⟩
  exact ((HKS.out x (List.mem_of_mem_drop hx)).agree (hW.agree HF.out)).mono fun _ h=>.inl h
 have HK:=Lib.hid hkids
 have HO4:=Lib.hid ho4
 have HX4:=Lib.hid hX4
 have HA4:=Lib.hid hag4
 have hB2:w.heap.size≤w2.drew.heap.size:=HX2.out.size
 have hgw:W0.heap.size≤w3.heap.size:=by omega
 have HB2:=Lib.hid hB2
 clear ho3 ho4 hX4 hag4 hkids hB2
 rcases HR.out with ⟨rfl,rfl⟩ | ⟨b,rfl,rfl⟩
 ·have hlen:(t.2.take i++[a]++t.2.drop (i+1)).length=t.2.length:=by simp;omega
  have hsp:=splitP_any (w:=w3.setCell ⟨g,i,none⟩ (ptr h a)) (s:=⟨some ⟨g,0,none⟩,cap⟩) (by rw [hlen];exact (Rd.of_own HO4.out).mono fun i hi=>hi.2) (HK.out _ HX4.out HA4.out (by simp)) (by omega) (by omega)
  rw [hlen] at hsp
  have HSP:=Lib.hid hsp
  clear hsp hlen
  go_wp2_with fail
  refine HSP.out.mono ?_
  rintro e w5 ⟨ts,rfl,h1,h2,h3⟩
  have H2:=Lib.hid h2
  have H1:=Lib.hid h1
  clear h2
  rcases two_cases1 h1 with ⟨a',rfl⟩ | ⟨a',b',rfl⟩
  all_goals
   clear h1
   simp only [two]
   go_wp2_with fail
   go_ret2
   exact with_end HX4.out HI.out HKID.out HB2.out HWR.out H1.out H2.out h3
 have hw1:IntKind.i64.wrap ((i:Int)+1)=(i:Int)+1:=by rw [IntKind.wrap_i64];omega
 have hlen:(t.2.take i++[a]++t.2.drop (i+1)).length=t.2.length:=by simp;omega
 have hlen2':(t.2.take i++[a,b]++t.2.drop (i+1)).length=t.2.length+1:=by simp;omega
 have hE5:Ext (w3.setCell ⟨g,i,none⟩ (ptr h a)) ((w3.setCell ⟨g,i,none⟩ (ptr h a)).alloc (.cells #[ptr h b] 39)):=(Ext.refl _).alloc _ _
 have hb5:Blk ((w3.setCell ⟨g,i,none⟩ (ptr h a)).alloc (.cells #[ptr h b] 39)) w3.heap.size 39 [ptr h b].toArray:=by
  have:=Blk.new (w3.setCell ⟨g,i,none⟩ (ptr h a)) 39 #[ptr h b]
  rwa [World.size_setCell] at this
 go_wp2_with fail
 change Calls _ _ _ ((w3.setCell ⟨g,i,none⟩ (ptr h a)).alloc (.cells #[ptr h b] 39)) _
 have ho5:((w3.setCell ⟨g,i,none⟩ (ptr h a)).alloc (.cells #[ptr h b] 39)).ownsRow W0.heap.size 39 1 (.slice (some ⟨g,0,none⟩) t.2.length cap) t.2.length (ptrs h (t.2.take i++[a]++t.2.drop (i+1))):=own_agree (s:=⟨some ⟨g,0,none⟩,cap⟩) HO4.out (hE5.agree (F:=Lt w3.heap.size) fun i hi=>by rw [World.size_setCell];exact hi) fun b hb=>by
  have:=(own_row (s:=⟨some ⟨g,0,none⟩,cap⟩) HO4.out hb).2
  rwa [World.size_setCell] at this
 have hag5:Agree (Up F w2.drew w3) w3 ((w3.setCell ⟨g,i,none⟩ (ptr h a)).alloc (.cells #[ptr h b] 39)):=HA4.out.trans (hE5.agree fun j hj=>by rw [World.size_setCell];exact hj.elim (fun hh=>Nat.lt_of_lt_of_le (HF.out j hh) (by have:=HX2.out.size;have:=HX23.out.size;omega)) fun hh=>hh.2)
 have hX5:=HX4.out.trans hE5
 have hz5:((w3.setCell ⟨g,i,none⟩ (ptr h a)).alloc (.cells #[ptr h b] 39)).heap.size=w3.heap.size+1:=by simp
 generalize (w3.setCell ⟨g,i,none⟩ (ptr h a)).alloc (.cells #[ptr h b] 39)=W5 at *
 have hins:=insN_any (w:=W5) (base:=W0.heap.size) (n:=t.2.length) (i:=i+1) (s:=⟨some ⟨g,0,none⟩,cap⟩) (xs:=ptrs h (t.2.take i++[a]++t.2.drop (i+1))) (ys:=[ptr h b]) (vb:=w3.heap.size) ho5 (by omega) (by omega) (by omega) rfl hb5 (by simp [Sl.row];omega) (by simp [Value.oneCell']) (ptrs_one _ _)
 have H5:=Lib.hid hX5
 have HG5:=Lib.hid hag5
 clear hX5 hag5 hb5 ho5 hE5
 refine hins.mono ?_
 rintro e w6 ⟨s6,rfl,hown6,hwr6,-⟩
 rw [ptrs_ins hil] at hown6
 have hX6:Ext w w6:=H5.out.wr hwr6 fun j hj=>by simp [Sl.row] at hj;omega
 have hag6:Agree (Up F w2.drew w3) w3 w6:=HG5.out.trans (hwr6.agree (fun j hj=>by rw [hz5];exact hj.elim (fun hh=>Nat.lt_of_lt_of_le (HF.out j hh) (by have:=HX2.out.size;have:=HX23.out.size;omega)) fun hh=>Nat.lt_succ_of_lt hh.2) (fun j hj=>by
  simp [Sl.row] at hj;subst hj
  rintro (hf | hf)
  ·have:g<w.heap.size:=HF.out g hf
   omega
  have:w2.heap.size≤g:=hf.1
  omega))
 have hsp:=splitP_any (w:=w6) (s:=s6) (by rw [hlen2'];exact (Rd.of_own hown6).mono fun i hi=>hi.2) (HK.out _ hX6 hag6 (by have:=hwr6.grown.size;omega)) (by omega) (by omega)
 rw [hlen2'] at hsp
 have HSP:=Lib.hid hsp
 have HX6:=Lib.hid hX6
 clear hsp hlen hlen2' hX6 hag6 hown6 hwr6 hins
 go_wp2_with fail
 refine HSP.out.mono ?_
 rintro e w7 ⟨ts,rfl,h1,h2,h3⟩
 have H2:=Lib.hid h2
 have H1:=Lib.hid h1
 clear h2
 rcases two_cases1 h1 with ⟨a',rfl⟩ | ⟨a',b',rfl⟩
 all_goals
  clear h1
  simp only [two]
  go_wp2_with fail
  go_ret2
  exact with_end HX6.out HI.out HKID.out HB2.out HWR.out H1.out H2.out h3
theorem with_any {k:ByteArray} {v:Val} {sl so:Sl} (hkm:k.size≤maxLen):∀ (h:Nat) (w:World) (F:Nat→Prop) (t:PT h),(∀ b,F b→b<w.heap.size)→IsN w F h t→OkT h t→Sorted (ents h t)→(ents h t).length≤1000000→RV w (Lt w.heap.size) v sl so→
  Calls Tryz.prog 61 #[ptr h t,aggE k v sl so] w (WithPost F h t k v w)
 | 0,w,F,t,hF,hn,ok,hs,hc,hv=>with_zero hF hn ok hs hv hkm
 | h+1,w,F,t,hF,hn,ok,hs,hc,hv=>with_succ hkm (with_any hkm h) hF hn ok hs hc hv
abbrev RT:=Option (Σ h,PT h)
def rootV:RT→Value
 | none=>.pointer none
 | some ⟨h,t⟩=>ptr h t
abbrev treeV (T:RT):Value:=.agg #[rootV T]
def entsT:RT→List Ent
 | none=>[]
 | some ⟨h,t⟩=>ents h t
def OkR:RT→Prop
 | none=>True
 | some ⟨h,t⟩=>OkT h t∧1≤size h t∧Sorted (ents h t)
def IsT (w:World) (F:Nat→Prop):RT→Prop
 | none=>True
 | some ⟨h,t⟩=>IsN w F h t
theorem IsT.agree {w w':World} {F:Nat→Prop} {T:RT} (h:IsT w F T) (ha:Agree F w w'):IsT w' F T:=by
 match T,h with
 | none,_=>trivial
 | some ⟨n,t⟩,h=>exact IsN.agree ha h
theorem IsT.mono {w:World} {F G:Nat→Prop} {T:RT} (h:IsT w F T) (hG:∀ i,F i→G i):IsT w G T:=by
 match T,h with
 | none,_=>trivial
 | some ⟨n,t⟩,h=>exact IsN.mono hG h
theorem OkR.sorted {T:RT} (h:OkR T):Sorted (entsT T):=by
 match T,h with
 | none,_=>exact List.Pairwise.nil
 | some ⟨n,t⟩,h=>exact h.2.2
inductive WithRT (B:Nat) (k:ByteArray) (v:Val):RT→(h:Nat)→List (PT h)→Prop
 | none (u:PT 0) (h:u.2=[(k,v)]) (hb:B≤u.1):WithRT B k v none 0 [u]
 | some {h:Nat} {t:PT h} {ts:List (PT h)} (hw:WithR B k v h t ts):WithRT B k v (some ⟨h,t⟩) h ts
theorem WithRT.mono {A B:Nat} (hAB:A≤B) {k:ByteArray} {v:Val} {T:RT} {h:Nat} {ts:List (PT h)} (hw:WithRT B k v T h ts):WithRT A k v T h ts:=by
 cases hw with
 | none u hu hb=>exact .none u hu (Nat.le_trans hAB hb)
 | some hw=>exact .some (hw.mono hAB)
theorem WithRT.height {B:Nat} {k:ByteArray} {v:Val} {T:RT} {h:Nat} {ts:List (PT h)} (hw:WithRT B k v T h ts) (ok:OkR T):h≤(entsT T).length:=by
 cases hw with
 | none u hu hb=>exact Nat.zero_le _
 | some hw=>exact Nat.le_of_lt (height_lt _ _ ok.1 ok.2.1)
inductive PutR (B:Nat) (k:ByteArray) (v:Val):RT→RT→Prop
 | one {T:RT} {h:Nat} {a:PT h} (hw:WithRT B k v T h [a]):PutR B k v T (some ⟨h,a⟩)
 | two {T:RT} {h:Nat} {a b:PT h} {c:PT (h+1)} (hw:WithRT B k v T h [a,b]) (hc:c.2=[a,b]) (hb:B≤addr (h+1) c):PutR B k v T (some ⟨h+1,c⟩)
theorem WithRT.ents {B:Nat} {k:ByteArray} {v:Val} {T:RT} {h:Nat} {ts:List (PT h)} (hw:WithRT B k v T h ts) (ok:OkR T):ts.flatMap (Proofs.YtkhdiakpdafcdaaGreatDoor.ents h)=insE (entsT T) k v:=by
 cases hw with
 | none u hu hb=>
   show u.2++[]=_
   rw [hu];rfl
 | some hw=>exact hw.ents ok.1 ok.2.2
theorem WithRT.ok {B:Nat} {k:ByteArray} {v:Val} {T:RT} {h:Nat} {ts:List (PT h)} (hw:WithRT B k v T h ts) (ok:OkR T):(∀ u∈ts,OkT h u∧1≤size h u)∧(2≤ts.length→∀ u∈ts,4≤size h u):=by
 cases hw with
 | none u hu hb=>
   refine ⟨fun x hx=>?_,fun h=>by simp at h⟩
   obtain rfl:x=u:=by simpa using hx
   exact ⟨show x.2.length≤8 by rw [hu];simp,show 1≤x.2.length by rw [hu];simp⟩
 | some hw=>exact ⟨fun u hu=>⟨(hw.ok ok.1).1 u hu |>.1,((hw.ok ok.1).1 u hu).2.1⟩,(hw.ok ok.1).2⟩
theorem PutR.ents {B:Nat} {k:ByteArray} {v:Val} {T T':RT} (hp:PutR B k v T T') (ok:OkR T):entsT T'=insE (entsT T) k v:=by
 cases hp with
 | one hw=>have:=hw.ents ok;simpa [entsT] using this
 | two hw hc hb=>
   rename_i h a b c
   have:=hw.ents ok
   rw [←this,←hc];rfl
theorem PutR.ok {B:Nat} {k:ByteArray} {v:Val} {T T':RT} (hp:PutR B k v T T') (ok:OkR T):OkR T':=by
 have hs:Sorted (entsT T'):=by rw [hp.ents ok];exact insE_sorted ok.sorted k v
 cases hp with
 | one hw=>rename_i h a;exact ⟨((hw.ok ok).1 a (by simp)).1,((hw.ok ok).1 a (by simp)).2,hs⟩
 | two hw hc hb=>
   rename_i h a b c
   have h1:=hw.ok ok
   refine ⟨⟨by rw [hc];simp,by rw [hc];simp,fun x hx=>?_⟩,show 1≤c.2.length by rw [hc];simp,hs⟩
   rw [hc] at hx
   exact ⟨(h1.1 x hx).1,h1.2 (by simp) x hx⟩
theorem Rd.of_blk {w:World} {g:Nat} {t:TypeId} {cs:List Value} (hb:Blk w g t cs.toArray) (hm:cs.length≤maxLen):Rd w (fun b=>b=g) 1 ⟨some ⟨g,0,none⟩,cs.length⟩ cs.length cs:=
 ⟨g,0,.some _ _ _ _ (Nat.le_refl _) hm rfl,(Nat.mul_one _).symm,fun j u hj=>by rw [Nat.zero_add,hb.cell];simpa using hj⟩
def WithPostT (F:Nat→Prop) (T:RT) (k:ByteArray) (v:Val) (w:World) (e:Ending) (w':World):Prop:=
 ∃ (h:Nat) (a:PT h) (r:Value) (rs:List (PT h)),e=.returned (.tuple #[ptr h a,r])∧((r=.pointer none∧rs=[a])∨∃ b,r=ptr h b∧rs=[a,b])∧WithRT w.heap.size k v T h rs∧(∀ u∈rs,IsN w' (Up F w w') h u)∧Ext w w'
theorem withT_any {w:World} {F:Nat→Prop} {T:RT} (hF:∀ b,F b→b<w.heap.size) (hT:IsT w F T) (ok:OkR T) (hc:(entsT T).length≤1000000) {k:ByteArray} {v:Val} {sl so:Sl} (hkm:k.size≤maxLen) (hv:RV w (Lt w.heap.size) v sl so) :
  Calls Tryz.prog 61 #[rootV T,aggE k v sl so] w (WithPostT F T k v w):=by
 match T,hT,ok,hc with
 | none,_,_,_=>
   refine (with_leaf (nv:=.pointer none) (es:=[]) (fun W hW=>(height_nil W)) (fun W hW=>(entries_nil W).mono ?_) List.Pairwise.nil (by simp) hv hkm).mono ?_
   ·rintro e w' ⟨rfl,rfl⟩
    exact ⟨Sl.none,[],rfl,rfl,OE.nil _ _,Ext.refl _⟩
   rintro e w' ⟨ts,rfl,h1,h2,h3⟩
   obtain ⟨u,rfl,hu⟩:=one0 (h1.trans (show chunk (insE [] k v)=[[(k,v)]] from rfl))
   exact ⟨0,u,_,_,rfl,.inl ⟨rfl,rfl⟩,.none u hu (h2 u (by simp)).1,fun x hx=>(h2 x hx).2.mono fun i hi=>.inr hi,h3⟩
 | some ⟨h,t⟩,hT,ok,hc=>
   refine (with_any hkm h w F t hF hT ok.1 ok.2.2 hc hv).mono ?_
   intro e w' p
   obtain ⟨a,r,rs,rfl,h1,h2,h3,h4⟩:=p.apart
   exact ⟨h,a,r,rs,rfl,h1,.some h2,h3,h4⟩
def PutPost (F:Nat→Prop) (T:RT) (k:ByteArray) (v:Val) (w:World) (e:Ending) (w':World):Prop:=
 ∃ T',e=.returned (treeV T')∧PutR w.heap.size k v T T'∧IsT w' (Up F w w') T'∧Ext w w'
theorem put_any {w:World} {F:Nat→Prop} {T:RT} (hF:∀ b,F b→b<w.heap.size) (hT:IsT w F T) (ok:OkR T) (hc:(entsT T).length≤1000000) {k:ByteArray} {v:Val} {sl so:Sl} (hkm:k.size≤maxLen) (hv:RV w (Lt w.heap.size) v sl so) :
  Calls Tryz.prog 35 #[treeV T,.string k,aggV v sl so] w (PutPost F T k v w):=by
 have hcw:∀ W,Ext w W→Calls Tryz.prog 61 #[rootV T,aggE k v sl so] W (WithPostT F T k v W):=fun W hW=>
  withT_any (fun b hb=>Nat.lt_of_lt_of_le (hF b hb) hW.size) (hT.agree (hW.agree hF)) ok hc hkm ((hv.agree (hW.agree fun _ h=>h)).mono fun i hi=>Nat.lt_of_lt_of_le hi hW.size)
 have HW:=Lib.hid hcw
 have HF:=Lib.hid hF
 have HOK:=Lib.hid ok
 clear hF hT ok hv hcw
 go_enter Tryz.func35,Tryz.ntmps35
 go_wp2_with fail
 have hx3:Ext w (((w.alloc (.cells #[rootV T] 41)).alloc (.cells #[.int .i64 v.kind,.bool v.b,.int .i64 v.i,.string v.t,.slice sl.a v.l.length sl.c,.slice so.a v.ok.length so.c] 28)).alloc (.cells #[.pointer none] 41)):=(((Ext.refl w).alloc _ _).alloc _ _).alloc _ _
 have hb3:Blk (((w.alloc (.cells #[rootV T] 41)).alloc (.cells #[.int .i64 v.kind,.bool v.b,.int .i64 v.i,.string v.t,.slice sl.a v.l.length sl.c,.slice so.a v.ok.length so.c] 28)).alloc (.cells #[.pointer none] 41)) (w.heap.size+1+1) 41 #[.pointer none]:=by
  have:=Blk.new ((w.alloc (.cells #[rootV T] 41)).alloc (.cells #[.int .i64 v.kind,.bool v.b,.int .i64 v.i,.string v.t,.slice sl.a v.l.length sl.c,.slice so.a v.ok.length so.c] 28)) 41 #[.pointer none]
  simpa using this
 generalize hW3:World.alloc _ _=W3 at *
 have hz3:W3.heap.size=w.heap.size+1+1+1:=by rw [←hW3];simp
 clear hW3
 refine (HW.out _ hx3).mono ?_
 rintro e w4 ⟨h,a,r,rs,rfl,hr,hwr,hwn,hx4⟩
 have hb4:=hb3.ext hx4
 have hX4:=hx3.trans hx4
 have q4:w4.cell? ⟨w.heap.size+1+1,0,none⟩=some (.pointer none):=hb4.cell 0
 have f4:=hb4.frozen 0
 have hl4:=hb4.lt
 have HWR:=Lib.hid hwr
 have HWN:=Lib.hid hwn
 have HX:=Lib.hid hX4
 have HXX:=Lib.hid hx4
 have HB4:=Lib.hid hb4
 have hnF:∀ W',¬Up F W3 W' (w.heap.size+1+1):=fun W' hf=>by
  rcases hf with hf | hf
  ·have:=HF.out _ hf;omega
  have:=hf.1;omega
 have HNF:=Lib.hid hnF
 have hwW:w.heap.size≤W3.heap.size:=by omega
 clear hb3 hb4 hwr hwn hX4 hx3 hx4 hnF
 rcases hr with ⟨rfl,rfl⟩ | ⟨b,rfl,rfl⟩
 ·go_wp2_with fail
  have q0:(w4.setCell ⟨w.heap.size+1+1,0,none⟩ (ptr h a)).cell? ⟨w.heap.size+1+1,0,none⟩=some (ptr h a):=World.cell?_setCell_same w4 _ _ q4
  refine bodyPost_ret (v:=treeV (some ⟨h,a⟩)) (by simp [results,Tryz.results35,go_sem,q0];rfl) rfl ?_
  refine ⟨some ⟨h,a⟩,rfl,.one ?_,?_,HX.out.setCell (p:=⟨w.heap.size+1+1,0,none⟩) (by show w.heap.size≤w.heap.size+1+1;omega) _⟩
  ·exact HWR.out.mono hwW
  show IsN _ _ h a
  refine ((HWN.out a (by simp)).agree (Agree.setCell w4 ⟨w.heap.size+1+1,0,none⟩ _ (HNF.out w4))).mono fun i hi=>hi.elim .inl fun hi=>.inr ⟨Nat.le_trans hwW hi.1,by rw [World.size_setCell];exact hi.2⟩
 have hE5:Ext w4 (w4.alloc (.cells #[ptr h a,ptr h b] 39)):=(Ext.refl _).alloc _ _
 have hb5:Blk (w4.alloc (.cells #[ptr h a,ptr h b] 39)) w4.heap.size 39 (ptrs h [a,b]).toArray:=Blk.new w4 39 #[ptr h a,ptr h b]
 have hz5:(w4.alloc (.cells #[ptr h a,ptr h b] 39)).heap.size=w4.heap.size+1:=by simp
 go_wp2_with fail
 change Calls _ _ _ (w4.alloc (.cells #[ptr h a,ptr h b] 39)) _
 generalize w4.alloc (.cells #[ptr h a,ptr h b] 39)=W5 at *
 have he:=HWR.out.ents HOK.out
 have hko:=HWR.out.ok HOK.out
 have hps:∀ x∈[a,b],0<(ents h x).length:=fun x hx=>ents_pos h x (hko.1 x hx).1 (hko.1 x hx).2
 have hso:Sorted ([a,b].flatMap (ents h)):=by rw [he];exact insE_sorted HOK.out.sorted k v
 have hkids:Kids W5 (Up F W3 W5) h [a,b]:=by
  refine ⟨fun b hb=>hb.elim (fun h=>Nat.lt_of_lt_of_le (HF.out b h) (by have:=HX.out.size;omega)) fun h=>h.2,fun x hx=>?_,rising_of hso hps,hps,fun x hx=>by have:=size_le8 (hko.1 x hx).1;omega,by
   have:=insE_len (entsT T) k v
   unfold cnt;rw [he];omega,by have:=HWR.out.height HOK.out;omega⟩
  exact ((HWN.out x hx).agree (hE5.agree fun i hi=>hi.elim (fun h=>Nat.lt_of_lt_of_le (HF.out i h) HX.out.size) fun h=>h.2)).mono fun i hi=>hi.elim .inl fun hi=>.inr ⟨hi.1,by omega⟩
 have hin:=tinner_any (w:=W5) (n:=2) (s:=⟨some ⟨w4.heap.size,0,none⟩,2⟩) ((Rd.of_blk hb5 (by simp [ptrs];decide)).mono fun i hi=>by subst hi;omega) rfl hkids (by simp) (by simp)
 have HE5:=Lib.hid hE5
 clear hE5 hb5 he hko hps hso hkids
 refine hin.mono ?_
 rintro e w6 ⟨c,rfl,hc2,hca,hcn,hx6⟩
 have HCN:=Lib.hid hcn
 have q6:w6.cell? ⟨w.heap.size+1+1,0,none⟩=some (.pointer none):=((HE5.out.trans hx6).cell hl4).trans q4
 have f6:w6.frozen? ⟨w.heap.size+1+1,0,none⟩=false:=((HE5.out.trans hx6).frozen hl4).trans f4
 have HX6:=Lib.hid hx6
 clear hin hcn q4 f4 hx6
 go_wp2_with fail
 have q0:(w6.setCell ⟨w.heap.size+1+1,0,none⟩ (ptr (h+1) c)).cell? ⟨w.heap.size+1+1,0,none⟩=some (ptr (h+1) c):=World.cell?_setCell_same w6 _ _ q6
 refine bodyPost_ret (v:=treeV (some ⟨h+1,c⟩)) (by simp [results,Tryz.results35,go_sem,q0];rfl) rfl ?_
 have hw5:w.heap.size≤W5.heap.size:=by have:=HX.out.size;omega
 refine ⟨some ⟨h+1,c⟩,rfl,.two (HWR.out.mono hwW) hc2 (Nat.le_trans hw5 hca),?_,((HX.out.trans HE5.out).trans HX6.out).setCell (p:=⟨w.heap.size+1+1,0,none⟩) (by show w.heap.size≤w.heap.size+1+1;omega) _⟩
 show IsN _ _ (h+1) c
 refine (HCN.out.agree (Agree.setCell w6 ⟨w.heap.size+1+1,0,none⟩ _ ?_)).mono fun i hi=>?_
 ·rintro (hf | hf)
  ·exact HNF.out W5 hf
  have:W5.heap.size≤w.heap.size+1+1:=hf.1
  omega
 rcases hi with (hi | hi) | hi
 ·exact .inl hi
 ·exact .inr ⟨Nat.le_trans hwW hi.1,by rw [World.size_setCell];exact Nat.lt_of_lt_of_le hi.2 HX6.out.size⟩
 exact .inr ⟨Nat.le_trans hw5 hi.1,by rw [World.size_setCell];exact hi.2⟩
theorem Blk.c3 {w:World} {g:Nat} {t:TypeId} {v0 v1 v2:Value} (h:Blk w g t #[v0,v1,v2]):w.cell? ⟨g,0,none⟩=some v0∧w.cell? ⟨g,1,none⟩=some v1∧w.cell? ⟨g,2,none⟩=some v2:=⟨h.cell 0,h.cell 1,h.cell 2⟩
theorem RV.flat (w:World) (F:Nat→Prop) (kind:Int) (b:Bool) (i:Int) (t:ByteArray) (hk:(Lit.int .i64 kind).wf=true) (hi:(Lit.int .i64 i).wf=true) (ht:t.size≤maxLen):RV w F (.mk kind b i t [] [] []) Sl.none Sl.none:=
 .mk 0 0 0 0 (fun _=>(Sl.none,Sl.none)) (fun _=>(Sl.none,Sl.none)) (.nil _ _) (.nil _ _) rfl (fun _ _ h=>by simp at h) (fun _ _ h=>by simp at h) (fun _ _ h=>by simp at h) (fun _ _ h=>by simp at h) (fun _ _ h=>by simp at h) hk hi ht (by simp) (by simp)
theorem IsT.lt {w:World} {F:Nat→Prop} {T:RT} (h:IsT w F T) {a:Nat} (ha:rootV T=.pointer (some ⟨a,0,none⟩)):a<w.heap.size:=by
 match T,h with
 | none,_=>cases ha
 | some ⟨n,t⟩,h=>
   simp only [rootV,ptr,Value.pointer.injEq,Option.some.injEq,Addr.mk.injEq,and_true] at ha
   subst ha
   obtain ⟨-,_,_,_,_,-,hb⟩:=IsN.cells h
   exact hb.lt
theorem pos_split (es:List Ent) (k:ByteArray) (hs:Sorted es):(∀ e∈es.take (posE es k),klt e.1 k=true)∧(∀ e∈es.drop (posE es k),klt e.1 k=false):=by
 have e1:es.take (posE es k)=es.takeWhile fun e=>klt e.1 k:=(List.prefix_iff_eq_take.1 (List.takeWhile_prefix (l:=es) (fun e:Ent=>klt e.1 k))).symm
 have e2:es.drop (posE es k)=es.dropWhile fun e=>klt e.1 k:=by
  have h1:=List.take_append_drop (posE es k) es
  rw [e1] at h1
  have h2:=List.takeWhile_append_dropWhile (p:=fun e:Ent=>klt e.1 k) (l:=es)
  exact List.append_cancel_left (h1.trans h2.symm)
 refine ⟨fun e he=>?_,fun e he=>?_⟩
 ·rw [e1] at he
  exact List.all_eq_true.1 (List.all_takeWhile (l:=es) (p:=fun e:Ent=>klt e.1 k)) e he
 have hsd:Sorted (es.drop (posE es k)):=List.Pairwise.sublist (List.drop_sublist _ _) hs
 rw [e2] at he hsd
 cases hd:es.dropWhile fun e=>klt e.1 k with
 | nil=>rw [hd] at he;cases he
 | cons x xs=>
   rw [hd] at he hsd
   have hx:klt x.1 k=false:=by
    have:=List.head?_dropWhile_not (fun e:Ent=>klt e.1 k) es
    rw [hd] at this
    simpa using this
   rcases List.mem_cons.1 he with rfl | he
   ·exact hx
   have:=(List.pairwise_cons.1 hsd).1 e he
   cases hc:klt e.1 k
   ·rfl
   rw [klt_trans this hc] at hx;cases hx
theorem getE_pos {es:List Ent} (hs:Sorted es) (k:ByteArray):getE es k=(es[posE es k]?).bind fun e=>if e.1=k then some e.2 else none:=by
 obtain ⟨hA,hB⟩:=pos_split es k hs
 have hsd:Sorted (es.drop (posE es k)):=List.Pairwise.sublist (List.drop_sublist _ _) hs
 conv=>lhs;rw [←List.take_append_drop (posE es k) es]
 rw [getE_app hA,←Nat.add_zero (posE es k),←List.getElem?_drop,Nat.add_zero]
 cases hd:es.drop (posE es k) with
 | nil=>rfl
 | cons x xs=>
   rw [hd] at hsd hB
   simp only [List.getElem?_cons_zero,Option.bind_some,getE]
   by_cases hx:x.1=k
   ·simp [hx]
   simp only [hx,if_false]
   refine getE_none fun e he=>?_
   have h1:=klt_of_not (hB x (List.mem_cons_self ..)) hx
   have h2:=klt_trans h1 ((List.pairwise_cons.1 hsd).1 e he)
   rintro rfl
   rw [klt_irrefl] at h2;cases h2
theorem delE_pos {es:List Ent} (hs:Sorted es) (k:ByteArray):delE es k=if (es[posE es k]?).map Prod.fst=some k then es.take (posE es k)++es.drop (posE es k+1) else es:=by
 obtain ⟨hA,hB⟩:=pos_split es k hs
 conv=>lhs;rw [←List.take_append_drop (posE es k) es]
 rw [delE_app hA,delE_at hB,List.head?_drop,List.tail_drop]
 split
 ·rfl
 rw [List.take_append_drop]
def GetPost (o:Option Val) (w:World) (e:Ending) (w':World):Prop:=
 ∃ sl so,e=.returned (.tuple #[aggV (o.getD zeroV) sl so,.bool o.isSome])∧Ext w w'∧RVC w' (In w.heap.size w'.heap.size) (o.getD zeroV) sl so
/-- The closure of get. -/
theorem get1_any {W:World} {nv:Value} {b1 b2:Nat} {k k':ByteArray} {v:Val} {i:Nat} (h1:W.cell? ⟨b1,0,none⟩=some nv) (h2:W.cell? ⟨b2,0,none⟩=some (.string k))
  (hp:∃ p,nv=.pointer p) (hc:Calls Tryz.prog 103 #[nv,.int .i64 i] W (EntryPost k' v W)) :
  Calls Tryz.prog 102 #[.int .i64 i,.pointer (some ⟨b1,0,none⟩),.pointer (some ⟨b2,0,none⟩)] W fun e w'=>e=.returned (.bool !(klt k' k))∧Ext W w':=by
 obtain ⟨p,rfl⟩:=hp
 have hb2:=World.block_lt_of_cell? W _ h2
 go_enter Tryz.func102,Tryz.ntmps102
 go_wp2_with fail
 refine hc.mono ?_
 rintro e w1 ⟨sl,so,rfl,hx,-⟩
 have q2:=(hx.cell hb2).trans h2
 have l2:b2<w1.heap.size:=Nat.lt_of_lt_of_le hb2 hx.size
 have HX:=Lib.hid hx
 clear hc hx h2
 go_wp2
 go_ret
 exact ⟨rfl,HX.out.alloc _ _⟩
structure GetS (w:World) (nv:Value) (k:ByteArray) (W:World):Prop where
 ext:Ext w W
 b0:Blk W w.heap.size 39 #[nv]
 b1:Blk W (w.heap.size+1) 9 #[.string k]
 b2:Blk W (w.heap.size+1+1) 28 #[.int .i64 0,.bool false,.int .i64 0,.string ByteArray.empty,.slice none 0 0,.slice none 0 0]
theorem GetS.step {w W W':World} {nv:Value} {k:ByteArray} (h:GetS w nv k W) (he:Ext W W'):GetS w nv k W':=⟨h.ext.trans he,h.b0.ext he,h.b1.ext he,h.b2.ext he⟩
theorem entry_nil (w:World) (i:Int):Calls Tryz.prog 103 #[.pointer none,.int .i64 i] w fun e w'=>e=.returned (.tuple #[aggE ByteArray.empty zeroV Sl.none Sl.none,.bool false])∧Ext w w':=by
 go_enter Tryz.func103,Tryz.ntmps103
 go_wp2_with fail
 refine bodyPost_ret (v:=.tuple #[aggE ByteArray.empty zeroV Sl.none Sl.none,.bool false]) (by simp [results,Tryz.results103,go_sem];exact ⟨rfl,rfl,rfl,rfl,rfl,rfl,rfl⟩) rfl ⟨rfl,(Ext.refl w).alloc _ _⟩
theorem get_leaf {w:World} {nv:Value} {es:List Ent} (hp:∃ p,nv=.pointer p) (hh:∀ W,Ext w W→Calls Tryz.prog 97 #[nv] W fun e w'=>e=.returned (.int .i64 0)∧W=w')
  (hz:∀ W,Ext w W→Calls Tryz.prog 101 #[nv] W fun e w'=>e=.returned (.int .i64 es.length)∧∃ q,w'=W.drewN q)
  (he:∀ W,Ext w W→∀ (i:Nat) (e:Ent),es[i]? = some e→Calls Tryz.prog 103 #[nv,.int .i64 i] W (EntryPost e.1 e.2 W))
  (hno:∀ W,Ext w W→∀ i:Nat,es.length≤i→Calls Tryz.prog 103 #[nv,.int .i64 i] W fun e w'=>e=.returned (.tuple #[aggE ByteArray.empty zeroV Sl.none Sl.none,.bool false])∧Ext W w')
  (hs:Sorted es) (hl:es.length≤1000) (k:ByteArray):Calls Tryz.prog 59 #[nv,.string k] w (GetPost (getE es k) w):=by
 have HH:=Lib.hid hh
 have HZ:=Lib.hid hz
 have HE:=Lib.hid he
 have HNO:=Lib.hid hno
 have HS:=Lib.hid hs
 obtain ⟨pp,rfl⟩:=hp
 clear hh hz he hno hs
 have hsr:∀ W,GetS w (.pointer pp) k W→Calls Tryz.prog 100 #[.int .i64 es.length,.func (.func 102) #[] #[.pointer (some ⟨w.heap.size,0,none⟩),.pointer (some ⟨w.heap.size+1,0,none⟩)]] W (SearchPost es.length (fun i=>!(klt ((es[i]?.map Prod.fst).getD ByteArray.empty) k)) W):=by
  intro W hW
  refine search_any 102 _ _ es.length _ W (enters_of Tryz.func102 (by kernel_rfl) rfl) (by omega) ?_ ?_
  ·intro i W' hi hW'
   obtain ⟨x,hx⟩:∃ x,es[i]? = some x:=⟨_,List.getElem?_eq_getElem hi⟩
   rw [hx]
   have hS:=hW.step hW'
   exact get1_any (hS.b0.cell 0) (hS.b1.cell 0) ⟨_,rfl⟩ (HE.out W' hS.ext i x hx)
  intro i j hij hj hpi
  by_cases hij':i=j
  ·subst hij';exact hpi
  obtain ⟨x,hx⟩:∃ x,es[i]? = some x:=⟨_,List.getElem?_eq_getElem (by omega)⟩
  obtain ⟨y,hy⟩:∃ y,es[j]? = some y:=⟨_,List.getElem?_eq_getElem hj⟩
  have hxy:=sorted_lt HS.out (i:=i) (j:=j) (by omega) hx hy
  rw [hx] at hpi;rw [hy]
  simp only [Option.map_some,Option.getD_some,Bool.not_eq_true'] at hpi ⊢
  cases hyk:klt y.1 k
  ·rfl
  have:=klt_trans hxy hyk
  rw [hpi] at this;cases this
 go_enter Tryz.func59,Tryz.ntmps59
 go_wp2_with fail
 generalize hW0:World.alloc _ _=W0
 obtain ⟨hx0,hz0,hb0,hb1,hb2⟩:=three_blocks w _ _ _ _ _ _ W0 hW0
 have hS0:GetS w (.pointer pp) k W0:=⟨hx0,hb0,hb1,hb2⟩
 have HS0:=Lib.hid hS0
 have q0:W0.cell? ⟨w.heap.size,0,none⟩=some (.pointer pp):=hb0.cell 0
 clear hW0 hb0 hb1 hb2 hS0
 refine (HH.out W0 hx0).mono ?_
 rintro e w1 ⟨rfl,rfl⟩
 go_wp2_with fail
 refine (HZ.out W0 hx0).mono ?_
 rintro e w1 ⟨rfl,q,rfl⟩
 go_wp2_with fail
 refine (hsr _ (HS0.out.step ((Ext.refl _).drewN q))).mono ?_
 rintro e w1 ⟨p,rfl,hp,hlo,hhi,he1⟩
 have hS1:=HS0.out.step (((Ext.refl _).drewN q).trans he1)
 have HS1:=Lib.hid hS1
 have r0:w1.cell? ⟨w.heap.size,0,none⟩=some (.pointer pp):=hS1.b0.cell 0
 have hpos:posE es k=p:=posE_of hp (fun i e hi he=>by
   have:(!(klt ((es[i]?.map Prod.fst).getD ByteArray.empty) k))=false:=hlo i hi
   rw [he] at this
   simpa using this) (fun e he=>by
   have:(!(klt ((es[p]?.map Prod.fst).getD ByteArray.empty) k))=true:=hhi p (Nat.le_refl _) (List.getElem?_eq_some_iff.1 he).1
   rw [he] at this
   simpa using this)
 have hget:getE es k=(es[p]?).bind fun e=>if e.1=k then some e.2 else none:=by rw [getE_pos HS.out,hpos]
 have HG:=Lib.hid hget
 clear hlo hhi hpos hsr he1 hS1 q0 hget hx0 hz0
 go_wp2_with fail
 by_cases hlt:p<es.length
 ·obtain ⟨x,hx⟩:∃ x,es[p]? = some x:=⟨_,List.getElem?_eq_getElem hlt⟩
  have hc:=HE.out w1 HS1.out.ext p x hx
  have HX:=Lib.hid hx
  clear hx
  refine hc.mono ?_
  rintro e w2 ⟨sl,so,rfl,hx2,hrv⟩
  have hS2:=HS1.out.step hx2
  have HS2:=Lib.hid hS2
  have q1:w2.cell? ⟨w.heap.size+1,0,none⟩=some (.string k):=hS2.b1.cell 0
  obtain ⟨c0,c1,c2,c3,c4,c5⟩:=hS2.b2.c6
  have f2:=hS2.b2.frozen
  have l2:=hS2.b2.lt
  have l1:w.heap.size+1<w2.heap.size:=by omega
  have HRV:=Lib.hid hrv
  clear hS2 hx2 hrv hc
  by_cases hk:x.1=k
  ·have hkb:(x.1.toList == k.toList)=true:=by rw [beq_toList];simpa using hk
   have hg:getE es k=some x.2:=by rw [HG.out,HX.out];simp [hk]
   have HGG:=Lib.hid hg
   clear hk hg
   go_wp2_with fail
   refine bodyPost_ret (v:=.tuple #[aggV x.2 sl so,.bool true]) (by simp [results,Tryz.results59,go_sem,c0,c1,c2,c3,c4,c5,l2]) rfl ?_
   have hE:=HS2.out.ext.putV (b:=w.heap.size+1+1) (by omega) 0 x.2 sl so
   have hr:=(HRV.out.mono (G:=In w.heap.size w2.heap.size) fun i hi=>⟨Nat.le_trans HS1.out.ext.size hi.1,hi.2⟩)
   have hr2:RV w2 (fun b=>In w.heap.size w2.heap.size b∧b≠w.heap.size+1+1) x.2 sl so:=HRV.out.mono fun i hi=>⟨⟨Nat.le_trans HS1.out.ext.size hi.1,hi.2⟩,by have:=HS1.out.b2.lt;have:=hi.1;omega⟩
   have hr3:=hr2.agree (putV_agree w2 (w.heap.size+1+1) 0 x.2 sl so (F:=fun b=>In w.heap.size w2.heap.size b∧b≠w.heap.size+1+1) (fun h=>h.2 rfl))
   refine ⟨sl,so,by rw [HGG.out];rfl,hE.alloc _ _,?_,by rw [HGG.out];exact HRV.out.cap⟩
   rw [HGG.out]
   refine (hr3.agree (Agree.alloc _ _ (fun b hb=>by rw [putV_size];exact hb.1.2))).mono fun i hi=>⟨hi.1.1,?_⟩
   have:=hi.1.2
   simp;omega
  have hkb:(x.1.toList == k.toList)=false:=by rw [beq_toList];simpa using hk
  have hg:getE es k=none:=by rw [HG.out,HX.out];simp [hk]
  have HGG:=Lib.hid hg
  clear hk hg
  go_wp2_with fail
  refine bodyPost_ret (v:=.tuple #[aggV zeroV Sl.none Sl.none,.bool false]) (by simp [results,Tryz.results59,go_sem,c0,c1,c2,c3,c4,c5,l2];exact ⟨rfl,rfl,rfl,rfl,rfl,rfl⟩) rfl ?_
  have hE:=HS2.out.ext.putV (b:=w.heap.size+1+1) (by omega) 0 zeroV Sl.none Sl.none
  exact ⟨Sl.none,Sl.none,by rw [HGG.out];rfl,hE.alloc _ _,by rw [HGG.out];exact ⟨RV.flat _ _ _ _ _ _ rfl rfl (by decide),rfl⟩⟩
 have hnn:es[p]? = none:=List.getElem?_eq_none (by omega)
 have hg:getE es k=none:=by rw [HG.out,hnn];rfl
 have hc:=HNO.out w1 HS1.out.ext p (by omega)
 have HGG:=Lib.hid hg
 clear hg hnn
 refine hc.mono ?_
 rintro e w2 ⟨rfl,hx2⟩
 have hS2:=HS1.out.step hx2
 have HS2:=Lib.hid hS2
 obtain ⟨c0,c1,c2,c3,c4,c5⟩:=hS2.b2.c6
 have f2:=hS2.b2.frozen
 have l2:=hS2.b2.lt
 clear hS2 hx2 hc
 go_wp2_with fail
 refine bodyPost_ret (v:=.tuple #[aggV zeroV Sl.none Sl.none,.bool false]) (by simp [results,Tryz.results59,go_sem,c0,c1,c2,c3,c4,c5,l2];exact ⟨rfl,rfl,rfl,rfl,rfl,rfl⟩) rfl ?_
 have hE:=HS2.out.ext.putV (b:=w.heap.size+1+1) (by omega) 0 zeroV Sl.none Sl.none
 exact ⟨Sl.none,Sl.none,by rw [HGG.out];rfl,hE.alloc _ _,by rw [HGG.out];exact ⟨RV.flat _ _ _ _ _ _ rfl rfl (by decide),rfl⟩⟩
theorem get_nil (w:World) (k:ByteArray):Calls Tryz.prog 59 #[.pointer none,.string k] w (GetPost none w):=
 get_leaf (es:=[]) ⟨_,rfl⟩ (fun W _=>height_nil W) (fun W _=>(size_nil W).mono fun e w' ⟨h1,h2⟩=>⟨h1,0,h2.symm⟩) (fun W _ i e h=>by simp at h) (fun W _ i _=>entry_nil W i) List.Pairwise.nil (by simp) k
theorem get_zero {w:World} {t:PT 0} (hn:IsN w (Lt w.heap.size) 0 t) (ok:OkT 0 t) (hs:Sorted (ents 0 t)) (k:ByteArray):Calls Tryz.prog 59 #[ptr 0 t,.string k] w (GetPost (getE (ents 0 t) k) w):=by
 have ok8:(ents 0 t).length≤8:=ok
 exact get_leaf ⟨_,rfl⟩ (fun W hW=>height_any (hn.ext hW)) (fun W hW=>size_any (hn.ext hW) (Nat.le_trans ok8 (by decide))) (fun W hW i e h=>entry_any (hn.ext hW) h) (fun W hW i h=>entry_none (hn.ext hW) (.inr (Int.ofNat_le.2 h))) hs (Nat.le_trans ok8 (by decide)) k
theorem get_succ {h:Nat} {k:ByteArray}
  (ih:∀ (w:World) (F:Nat→Prop) (t:PT h),(∀ b,F b→b<w.heap.size)→IsN w F h t→OkT h t→Sorted (ents h t)→(ents h t).length≤1000000→Calls Tryz.prog 59 #[ptr h t,.string k] w (GetPost (getE (ents h t) k) w))
  {w:World} {F:Nat→Prop} {t:PT (h+1)} (hF:∀ b,F b→b<w.heap.size) (hn:IsN w F (h+1) t) (ok:OkT (h+1) t) (hs:Sorted (ents (h+1) t)) (hc:(ents (h+1) t).length≤1000000) :
  Calls Tryz.prog 59 #[ptr (h+1) t,.string k] w (GetPost (getE (ents (h+1) t) k) w):=by
 have hpos:=kids_pos ok
 have hh:h+1<1000000:=Nat.lt_of_lt_of_le (height_lt (h+1) t ok (by have:=ok.1;show 1≤t.2.length;omega)) hc
 obtain ⟨kid,hkid,hA,hC⟩:=which_split (h:=h) (ks:=t.2) hs hpos (by have:=ok.1;omega) k
 have hkm':=List.mem_of_getElem? hkid
 have hil:=(List.getElem?_eq_some_iff.1 hkid).1
 have hlen8:=ok.2.1
 have hks:∀ x∈t.2,IsN w F h x:=hn.2.choose_spec.2.2
 have hkc:(ents h kid).length≤1000000:=Nat.le_trans (by
  show _≤(t.2.flatMap (ents h)).length
  rw [take_mid hkid];simp only [List.flatMap_append,List.flatMap_cons,List.length_append];omega) hc
 have hge:getE (ents (h+1) t) k=getE (ents h kid) k:=getE_kid hkid hA hC
 rw [hge]
 have hih:∀ W,Ext w W→Calls Tryz.prog 59 #[ptr h kid,.string k] W (GetPost (getE (ents h kid) k) W):=fun W hW=>
  ih W F kid (fun b hb=>Nat.lt_of_lt_of_le (hF b hb) hW.size) ((hks kid hkm').agree (hW.agree hF)) (ok.2.2 kid hkm').1 (kid_sorted hs kid hkm') hkc
 generalize getE (ents h kid) k=og at *
 clear hge
 have HF:=Lib.hid hF
 have HN:=Lib.hid hn
 have HS:=Lib.hid hs
 have HP:=Lib.hid hpos
 have HIH:=Lib.hid hih
 have HKS:=Lib.hid hks
 have HKID:=Lib.hid hkid
 have hgt:(0:Int)<(h:Int)+1:=by omega
 clear hF hn ok hs hc hpos hih hks hkid hA hC ih hkc
 go_enter Tryz.func59,Tryz.ntmps59
 go_wp2_with fail
 generalize hW0:World.alloc _ _=W0
 obtain ⟨hx0,hz0,hb0,hb1,hb2⟩:=three_blocks w _ _ _ _ _ _ W0 hW0
 have hS0:GetS w (ptr (h+1) t) k W0:=⟨hx0,hb0,hb1,hb2⟩
 have HS0:=Lib.hid hS0
 have q0:W0.cell? ⟨w.heap.size,0,none⟩=some (ptr (h+1) t):=hb0.cell 0
 clear hW0 hb0 hb1 hb2 hS0
 have hnW:IsN W0 F (h+1) t:=HN.out.agree (hx0.agree HF.out)
 refine (height_any hnW).mono ?_
 rintro e w1 ⟨rfl,rfl⟩
 have hkc:=kids_any hnW (by omega)
 clear hnW
 go_wp2_with fail
 refine hkc.mono ?_
 rintro e w1 ⟨s',rfl,hown,hx1⟩
 have hS1:=HS0.out.step hx1
 have HS1:=Lib.hid hS1
 have hrd:Rd w1 (Lt w1.heap.size) 1 s' t.2.length (ptrs h t.2):=(Rd.of_own hown).mono fun i hi=>hi.2
 obtain ⟨g,cap,rfl,hbg,hnc,hcm,hfil⟩:=own_block hown (by omega)
 obtain ⟨i,hi⟩:∃ i,whichK h t.2 k=i:=⟨_,rfl⟩
 have hwh:∀ W,Ext w1 W→Calls Tryz.prog 99 #[.slice (some ⟨g,0,none⟩) t.2.length cap,.string k] W fun e w'=>e=.returned (.int .i64 i)∧Ext W w':=fun W hW=>by
  rw [←hi]
  exact which_any (s:=⟨some ⟨g,0,none⟩,cap⟩) ((hrd.agree (hW.agree fun _ h=>h)).mono fun i hi=>Nat.lt_of_lt_of_le hi hW.size) (fun x hx=>(HKS.out x hx).agree ((hS1.ext.trans hW).agree HF.out)) (fun b hb=>Nat.lt_of_lt_of_le (HF.out b hb) (hS1.ext.trans hW).size) HP.out k HS.out (by omega)
 have hkid:=HKID.out
 rw [hi] at hkid hil
 obtain ⟨b,o,hba,hbl,-,-,hbc⟩:=hrd.ptr_at hkid
 obtain ⟨rfl,rfl⟩:g=b∧0=o:=by simpa using hba
 have kc:w1.cell? ⟨g,i,none⟩=some (ptr h kid):=by simpa using hbc
 have k1:w1.cell? ⟨w.heap.size+1,0,none⟩=some (.string k):=hS1.b1.cell 0
 have hg1:g<w1.heap.size:=hbl
 have hgn:¬g=w.heap.size+1+1:=by omega
 have hgn':¬w.heap.size+1+1=g:=by omega
 clear hz0
 have l1:w.heap.size+1<w1.heap.size:=hS1.b1.lt
 have hii:(i:Int)<(t.2.length:Int):=by omega
 have hi0:(0:Int)≤(i:Int):=by omega
 have HWH:=Lib.hid hwh
 have HHI:=Lib.hid hi
 clear hwh hi hkid hbc hba hfil hown hrd hx1 hx0 hS1 hkc q0
 go_wp2_with fail
 go_region_held3 (fun w'=>w'.cell? ⟨g,i,none⟩=some (ptr h kid)∧w'.cell? ⟨w.heap.size+1,0,none⟩=some (.string k)) (first | (with_reducible exact ⟨g3,k3⟩) | (with_reducible exact ⟨g2,k2⟩) | go_keep)
  (first
    | (go_at_call 99;refine (HWH.out _ ?_).mono ?_;(exact ((Ext.refl _).drew));rintro e w2 ⟨rfl,hx2⟩;have g2:=(hx2.cell (o:=i) hg1).trans kc;have k2:=(hx2.cell (o:=0) l1).trans k1;have hg2:=Nat.lt_of_lt_of_le hg1 hx2.size;have l2:=Nat.lt_of_lt_of_le l1 hx2.size)
    | (go_at_call 59;refine (HIH.out _ ?_).mono ?_;(exact HS1.out.ext.trans (((Ext.refl _).drew).trans hx2));rintro e w3 ⟨sl,so,rfl,hx3,hrv⟩;have g3:=(hx3.cell (o:=i) hg2).trans g2;have k3:=(hx3.cell (o:=0) l2).trans k2;have hS3:=HS1.out.step ((((Ext.refl _).drew).trans hx2).trans hx3);obtain ⟨c0,c1,c2,c3,c4,c5⟩:=hS3.b2.c6;have f3:=hS3.b2.frozen;have HS3:=Lib.hid hS3;have HX3:=Lib.hid hx3;have HRV:=Lib.hid hrv;have HX2:=Lib.hid hx2;clear hS3 hx3 hrv hx2))
 go_wp2_with fail
 refine bodyPost_ret (v:=.tuple #[aggV (og.getD zeroV) sl so,.bool og.isSome]) (by simp [results,Tryz.results59,go_sem,c0,c1,c2,c3,c4,c5]) rfl ?_
 have hE:=HS3.out.ext.putV (b:=w.heap.size+1+1) (by omega) 0 (og.getD zeroV) sl so
 have hb2:=HS1.out.b2.lt
 have hX2:=HX2.out.size
 have hX3:=HX3.out.size
 have hE1:=HS1.out.ext.size
 rw [World.size_drew] at hX2
 have hr2:RV w3 (fun b=>In w.heap.size w3.heap.size b∧b≠w.heap.size+1+1) (og.getD zeroV) sl so:=HRV.out.mono fun i hi=>⟨⟨by have:=hi.1;omega,hi.2⟩,by have:=hi.1;omega⟩
 have hr3:=hr2.agree (putV_agree w3 (w.heap.size+1+1) 0 (og.getD zeroV) sl so (F:=fun b=>In w.heap.size w3.heap.size b∧b≠w.heap.size+1+1) (fun h=>h.2 rfl))
 exact ⟨sl,so,rfl,hE,hr3.mono (fun i hi=>⟨hi.1.1,by have:=hi.1.2;simpa using this⟩),HRV.out.cap⟩
theorem get_any {k:ByteArray}:∀ (h:Nat) (w:World) (F:Nat→Prop) (t:PT h),(∀ b,F b→b<w.heap.size)→IsN w F h t→OkT h t→Sorted (ents h t)→(ents h t).length≤1000000→Calls Tryz.prog 59 #[ptr h t,.string k] w (GetPost (getE (ents h t) k) w)
 | 0,w,F,t,hF,hn,ok,hs,_=>get_zero (hn.mono hF) ok hs k
 | h+1,w,F,t,hF,hn,ok,hs,hc=>get_succ (fun w F t a b c d e=>get_any h w F t a b c d e) hF hn ok hs hc
theorem getPost_end {w w3:World} {b lo:Nat} {og:Option Val} {sl so:Sl} (hE:Ext w w3) (hb:w.heap.size≤b) (hlt:b<lo) (hr:RVC w3 (In lo w3.heap.size) (og.getD zeroV) sl so) :
  GetPost og w (.returned (.tuple #[aggV (og.getD zeroV) sl so,.bool og.isSome])) (putV w3 b 0 (og.getD zeroV) sl so):=by
 refine ⟨sl,so,rfl,hE.putV hb _ _ _ _,?_,hr.cap⟩
 rw [putV_size]
 exact (hr.agree (putV_agree w3 b 0 (og.getD zeroV) sl so (by omega))).mono fun i hi=>⟨by omega,hi.2⟩
theorem two_blocks (w:World) (t0 t1:TypeId) (c0 c1:Array Value):∀ W,(w.alloc (.cells c0 t0)).alloc (.cells c1 t1)=W→
  Ext w W∧W.heap.size=w.heap.size+2∧Blk W w.heap.size t0 c0∧Blk W (w.heap.size+1) t1 c1:=by
 rintro W rfl
 refine ⟨((Ext.refl w).alloc _ _).alloc _ _,by simp,(Blk.new w t0 c0).alloc _,?_⟩
 have h:=Blk.new (w.alloc (.cells c0 t0)) t1 c1
 rw [World.size_alloc] at h;exact h
theorem getR_any {w:World} {F:Nat→Prop} {T:RT} (hF:∀ b,F b→b<w.heap.size) (hT:IsT w F T) (ok:OkR T) (hc:(entsT T).length≤1000000) (k:ByteArray) :
  Calls Tryz.prog 59 #[rootV T,.string k] w (GetPost (getE (entsT T) k) w):=by
 match T,hT,ok,hc with
 | none,_,_,_=>exact get_nil w k
 | some ⟨h,t⟩,hT,ok,hc=>exact get_any h w F t hF hT ok.1 ok.2.2 hc
theorem treeGet_any {w:World} {F:Nat→Prop} {T:RT} (hF:∀ b,F b→b<w.heap.size) (hT:IsT w F T) (ok:OkR T) (hc:(entsT T).length≤1000000) (k:ByteArray) :
  Calls Tryz.prog 31 #[treeV T,.string k] w (GetPost (getE (entsT T) k) w):=by
 have hcw:∀ W,Ext w W→Calls Tryz.prog 59 #[rootV T,.string k] W (GetPost (getE (entsT T) k) W):=fun W hW=>
  getR_any (fun b hb=>Nat.lt_of_lt_of_le (hF b hb) hW.size) (hT.agree (hW.agree hF)) ok hc k
 generalize getE (entsT T) k=og at *
 have HW:=Lib.hid hcw
 clear hF hT ok hcw
 go_enter Tryz.func31,Tryz.ntmps31
 go_wp2_with fail
 generalize hW0:World.alloc _ _=W0
 obtain ⟨hx0,hz0,-,hb1⟩:=two_blocks w _ _ _ _ W0 hW0
 have HZ:=Lib.hid hz0
 have HX0:=Lib.hid hx0
 clear hW0 hz0
 refine (HW.out W0 hx0).mono ?_
 rintro e w1 ⟨sl,so,rfl,hx1,hrv⟩
 have hb:=hb1.ext hx1
 obtain ⟨c0,c1,c2,c3,c4,c5⟩:=hb.c6
 have f2:=hb.frozen
 have HX1:=Lib.hid hx1
 have HRV:=Lib.hid hrv
 clear hb hb1 hx1 hrv hx0
 go_wp2_with fail
 refine bodyPost_ret (v:=.tuple #[aggV (og.getD zeroV) sl so,.bool og.isSome]) (by simp [results,Tryz.results31,go_sem,c0,c1,c2,c3,c4,c5]) rfl ?_
 exact getPost_end (HX0.out.trans HX1.out) (b:=w.heap.size+1) (lo:=W0.heap.size) (by omega) (by rw [HZ.out];omega) HRV.out
inductive BuiltR:List Ent→RT→Prop
 | nil:BuiltR [] none
 | snoc {es:List Ent} {T T':RT} {B:Nat} {k:ByteArray} {v:Val} (h:BuiltR es T) (hp:PutR B k v T T'):BuiltR (es++[(k,v)]) T'
def putAll (es:List Ent) (l:List Ent):List Ent:=l.foldl (fun m e=>insE m e.1 e.2) es
theorem putAll_snoc (es l:List Ent) (e:Ent):putAll es (l++[e])=insE (putAll es l) e.1 e.2:=by simp [putAll]
theorem putAll_len (l:List Ent):∀ es:List Ent,(putAll es l).length≤es.length+l.length:=by
 induction l with
 | nil=>intro es;exact Nat.le_refl _
 | cons a l ih=>
   intro es
   have:=ih (insE es a.1 a.2)
   have h2:=insE_len es a.1 a.2
   simp only [putAll,List.foldl_cons,List.length_cons] at *
   omega
theorem BuiltR.both {l:List Ent} {T:RT} (h:BuiltR l T):(OkR T)∧entsT T=putAll [] l:=by
 induction h with
 | nil=>exact ⟨trivial,rfl⟩
 | snoc h hp ih=>exact ⟨hp.ok ih.1,by rw [hp.ents ih.1,ih.2,putAll_snoc]⟩
inductive DelT (B:Nat) (k:ByteArray):RT→RT→Prop
 | no {T:RT} (h:getE (entsT T) k=none):DelT B k T T
 | same {h:Nat} {t u:PT h} (hg:(getE (ents h t) k).isSome=true) (hd:DelR B k h t u) (hp:0<(ents h u).length) (h2:h=0∨2≤size h u):DelT B k (some ⟨h,t⟩) (some ⟨h,u⟩)
 | gone {t u:PT 0} (hg:(getE (ents 0 t) k).isSome=true) (hd:DelR B k 0 t u) (h0:ents 0 u=[]):DelT B k (some ⟨0,t⟩) none
 | down {h:Nat} {t:PT (h+1)} {u:PT h} (hg:(getE (ents (h+1) t) k).isSome=true) (hd:DelK B k h (DelR B k h) t.2 [u]):DelT B k (some ⟨h+1,t⟩) (some ⟨h,u⟩)
theorem DelT.mono {A B:Nat} (hAB:A≤B) {k:ByteArray} {T T':RT} (hd:DelT B k T T'):DelT A k T T':=by
 cases hd with
 | no h=>exact .no h
 | same hg hd hp h2=>exact .same hg (hd.mono hAB) hp h2
 | gone hg hd h0=>exact .gone hg (hd.mono hAB) h0
 | down hg hd=>exact .down hg (hd.mono hAB fun _ _ hr=>hr.mono hAB)
theorem getE_entsT (h:Nat) (t:PT h):entsT (some ⟨h,t⟩)=Proofs.YtkhdiakpdafcdaaGreatDoor.ents h t:=rfl
theorem DelT.ents {B:Nat} {k:ByteArray} {T T':RT} (hd:DelT B k T T') (ok:OkR T):entsT T'=delE (entsT T) k:=by
 cases hd with
 | no h=>exact (delE_none h).symm
 | same hg hd hp h2=>exact hd.ents ok.1 ok.2.2
 | gone hg hd h0=>exact h0.symm.trans (hd.ents ok.1 ok.2.2)
 | down hg hd=>
   rename_i h t u
   have ok1:=ok.1
   have:=hd.ents ok.2.2 (kids_pos ok1) (by have:=ok1.1;omega) fun x y hx hr=>hr.ents (ok1.2.2 x hx).1 (kid_sorted ok.2.2 x hx)
   rw [List.flatMap_cons,List.flatMap_nil,List.append_nil] at this
   exact this
theorem delK_root {B:Nat} {k:ByteArray} {h:Nat} {t:PT (h+1)} {ks':List (PT h)} (hd:DelK B k h (DelR B k h) t.2 ks') (ok:OkT (h+1) t) (hs:Sorted (ents (h+1) t)) (hg:(getE (ents (h+1) t) k).isSome=true) :
  (∀ u∈ks',OkT h u∧4≤size h u)∧ks'.length≤t.2.length∧t.2.length≤ks'.length+1:=by
 refine hd.ok ok.2.2 ok.1 fun x y hx hxk hr=>?_
 obtain ⟨kid2,hk2,hA,hC⟩:=which_split (h:=h) (ks:=t.2) hs (kids_pos ok) (by have:=ok.1;omega) k
 rw [hxk] at hk2
 simp only [Option.some.injEq] at hk2
 subst hk2
 have:=hr.ok (ok.2.2 x hx).1 (ok.2.2 x hx).2 (kid_sorted hs x hx) (by rw [←getE_kid hxk hA hC];exact hg)
 exact ⟨this.1,this.2.1⟩
theorem DelT.ok {B:Nat} {k:ByteArray} {T T':RT} (hd:DelT B k T T') (ok:OkR T):OkR T':=by
 have hs:Sorted (entsT T'):=by rw [hd.ents ok];exact delE_sorted ok.sorted k
 cases hd with
 | no h=>exact ok
 | same hg hd hp h2=>
   rename_i h t u
   cases h with
   | zero=>
     have h1:=hd.1
     have:(delE t.2 k).length≤t.2.length:=(delE_sublist t.2 k).length_le
     have o:t.2.length≤8:=ok.1
     exact ⟨show u.2.length≤8 by rw [h1];omega,hp,hs⟩
   | succ h=>
     obtain ⟨h1,-⟩:=hd
     obtain ⟨a,b,c⟩:=delK_root h1 ok.1 ok.2.2 hg
     have h2:2≤u.2.length:=h2.resolve_left (by omega)
     have o8:=ok.1.2.1
     exact ⟨⟨h2,by omega,a⟩,show 1≤u.2.length by omega,hs⟩
 | gone hg hd h0=>trivial
 | down hg hd=>
   obtain ⟨a,b,c⟩:=delK_root hd ok.1 ok.2.2 hg
   rename_i h t u
   have:=a u (List.mem_singleton.2 rfl)
   exact ⟨this.1,by omega,hs⟩
def GatherPost (base:Nat) (s:Sl) (xs:List LE) (es:List Ent) (w:World) (e:Ending) (w':World):Prop:=
 ∃ (s':Sl) (ys:List LE),e=.returned (.slice s'.a (xs.length+ys.length) s'.c)∧OE w' base s' (xs++ys)∧ys.map LE.ent=es∧Wr w w' s.row∧(s'.row=s.row∨∃ b,s'.row=some b∧w.heap.size≤b)
theorem OE.append {w w':World} {base:Nat} {s s':Sl} {xs ys:List LE} {F:Nat→Prop} (ho:OE w base s xs) (hv:Vals w F ys) (hF:∀ b,F b→base≤b∧b<w.heap.size∧s.row≠some b) (hf:(xs.length+ys.length)*104≤140737488355328)
  (hown:w'.ownsRow base 71 7 (.slice s'.a (xs.length+ys.length) s'.c) (xs.length+ys.length) (flatE xs++flatE ys)) (hwr:Wr w w' s.row) (hs':s'.row=s.row∨∃ b,s'.row=some b∧w.heap.size≤b):OE w' base s' (xs++ys):=by
 have hnew:∀ b,b<w.heap.size→s.row≠some b→s'.row≠some b:=fun b hb hn he=>by
  rcases hs' with h | ⟨g,h,hg⟩
  ·exact hn (h▸he)
  rw [h] at he;simp at he;omega
 have hag:Agree (fun b=>(base≤b∧b<w.heap.size)∧s.row≠some b) w w':=hwr.agree (fun i hi=>hi.1.2) (fun k hk h=>h.2 hk)
 refine ⟨by rw [List.length_append,flatE_app];exact hown,fun x hx=>?_,by rw [List.length_append];exact hf⟩
 have hup:∀ i,((base≤i∧i<w.heap.size)∧s.row≠some i)→(base≤i∧i<w'.heap.size)∧s'.row≠some i:=fun i hi=>⟨⟨hi.1.1,Nat.lt_of_lt_of_le hi.1.2 hwr.grown.size⟩,hnew i hi.1.2 hi.2⟩
 rcases List.mem_append.1 hx with hx | hx
 ·exact ⟨((ho.vals x hx).1.agree hag).mono hup,(ho.vals x hx).2⟩
 exact ⟨(((hv x hx).1.mono fun i hi=>⟨⟨(hF i hi).1,(hF i hi).2.1⟩,(hF i hi).2.2⟩).agree hag).mono hup,(hv x hx).2⟩
theorem EntriesPost.base {es:List Ent} {w:World} {e:Ending} {w':World} (h:EntriesPost es w e w'):∃ (s:Sl) (ys:List LE),e=.returned (.slice s.a ys.length s.c)∧ys.map LE.ent=es∧OE w' w.heap.size s ys∧Ext w w':=h
theorem ext_wr {w w':World} (h:Ext w w') (r:Option Nat):Wr w w' r:=⟨⟨h.below.os,h.below.tape,h.below.output,h.size,fun k hk _=>h.heap hk⟩,h.fz⟩
theorem gather_zero {w:World} {nv:Value} {es:List Ent} {base:Nat} {s:Sl} {xs:List LE} (he:Calls Tryz.prog 104 #[nv] w (EntriesPost es w)) (hk:∀ W,Wr w W s.row→Calls Tryz.prog 98 #[nv] W fun e w'=>e=.returned (.slice none 0 0)∧W=w')
  (hb:base≤w.heap.size) (ho:OE w base s xs) (hl:xs.length+es.length≤1000000):Calls Tryz.prog 60 #[.slice s.a xs.length s.c,nv] w (GatherPost base s xs es w):=by
 obtain ⟨i0,hi,hz0,hz1,hz2⟩:=info_parts Tryz.infoEntry
 have HK:=Lib.hid hk
 have HO:=Lib.hid ho
 clear hk ho
 go_enter Tryz.func60,Tryz.ntmps60
 go_wp2_with fail
 refine he.mono ?_
 intro e w1 hp
 obtain ⟨sy,ys,rfl,hys,hoy,hx1⟩:=hp.base
 have hyl:ys.length=es.length:=by rw [←hys,List.length_map]
 have ho1:=HO.out.ext hx1
 have HO1:=Lib.hid ho1
 have HX1:=Lib.hid hx1
 have HOY:=Lib.hid hoy
 have HYS:=Lib.hid hys
 have h63:xs.length+ys.length≤maxLen:=by unfold maxLen;omega
 have hb1:base≤w1.heap.size:=Nat.le_trans hb hx1.size
 have hby:(xs.length+ys.length)*104≤140737488355328:=by omega
 clear hp hys hoy hx1 ho1 hyl
 go_wp2_with (at_builtin;refine wpList_append_x _ rfl (.tmp 7) (.tmp 9) 22 rfl base 71 i0 _ 7 104 Tryz.underlying22 hi hz0 hz1 hz2 rfl (by decide) s xs.length (flatE xs) rfl HO1.out.own (In w.heap.size w1.heap.size) sy ys.length (flatE ys) rfl HOY.out.es.rd (flatE_one ys) h63 hby hb1 ?_;intro s' w2 hown hwr hs')
 have hs2:s'.row=s.row∨∃ b,s'.row=some b∧w1.heap.size≤b:=by
  rcases hs' with h | ⟨h,-⟩
  ·exact .inl (by simp [Sl.row,h])
  exact .inr ⟨w1.heap.size,by simp [Sl.row,h],Nat.le_refl _⟩
 have hrow:∀ b,s.row=some b→b<w.heap.size:=fun b hb=>(own_row HO.out.own hb).2
 have ho2:=OE.append HO1.out HOY.out.es.vals (fun b hb=>⟨Nat.le_trans ‹base≤w.heap.size› hb.1,hb.2,fun e=>by have:=hrow b e;omega⟩) hby hown hwr hs2
 have HO2:=Lib.hid ho2
 have HW:=Lib.hid ((ext_wr HX1.out s.row).trans hwr (fun i hi=>.inl hi))
 have HS2:=Lib.hid hs2
 have hx1s:=HX1.out.size
 clear ho2 hown hwr hs' hs2 hrow
 refine (HK.out w2 HW.out).mono ?_
 rintro e w3 ⟨rfl,rfl⟩
 go_wp2_with fail
 go_loopw [0,14] (fun v i wr=>v=.slice s'.a (xs.length+ys.length) s'.c∧i=.int .i64 0∧wr=w2) (fun _ _ _=>0)
 case atStart=>exact ⟨rfl,rfl,rfl⟩
 obtain ⟨rfl,rfl,rfl⟩:=hrel
 go_wp2_with fail
 go_ret
 exact ⟨s',ys,rfl,HO2.out,HYS.out,HW.out,HS2.out.imp_right fun ⟨b,h1,h2⟩=>⟨b,h1,Nat.le_trans hx1s h2⟩⟩
structure GathS (base:Nat) (s:Sl) (xs:List LE) (w wr:World) (s':Sl) (ys:List LE):Prop where
 own:OE wr base s' (xs++ys)
 wr:Wr w wr s.row
 row:s'.row=s.row∨∃ b,s'.row=some b∧w.heap.size≤b
theorem gather_succ {h:Nat} (ih:∀ (t:PT h) (w:World) (F:Nat→Prop) (base:Nat) (s:Sl) (xs:List LE),IsN w F h t→(∀ b,F b→b<w.heap.size∧s.row≠some b)→base≤w.heap.size→OE w base s xs→OkT h t→xs.length+(ents h t).length≤1000000→Calls Tryz.prog 60 #[.slice s.a xs.length s.c,ptr h t] w (GatherPost base s xs (ents h t) w))
  {t:PT (h+1)} {w:World} {F:Nat→Prop} {base:Nat} {s:Sl} {xs:List LE} (hn:IsN w F (h+1) t) (hF:∀ b,F b→b<w.heap.size∧s.row≠some b) (hb:base≤w.heap.size) (ho:OE w base s xs) (ok:OkT (h+1) t) (hl:xs.length+(ents (h+1) t).length≤1000000) :
  Calls Tryz.prog 60 #[.slice s.a xs.length s.c,ptr (h+1) t] w (GatherPost base s xs (ents (h+1) t) w):=by
 obtain ⟨i0,hi,hz0,hz1,hz2⟩:=info_parts Tryz.infoEntry
 have hlen8:=ok.2.1
 have hlen2:=ok.1
 have hc:=kids_any hn (by omega)
 have hks:∀ x∈t.2,IsN w F h x:=hn.2.choose_spec.2.2
 have he:=entries_inner hn
 have HIH:=Lib.hid ih
 have HO:=Lib.hid ho
 have HF:=Lib.hid hF
 have HKS:=Lib.hid hks
 have HOK:=Lib.hid ok
 have HL:=Lib.hid hl
 have h63:xs.length+0≤maxLen:=by unfold maxLen;omega
 have hby:(xs.length+0)*104≤140737488355328:=by omega
 have hn0:=Lib.hid hn
 clear ih ho hF hks ok hl hn hc
 go_enter Tryz.func60,Tryz.ntmps60
 go_wp2_with fail
 refine he.mono ?_
 rintro e w1 ⟨rfl,rfl⟩
 go_wp2_with (at_builtin;refine wpList_append_x _ rfl (.tmp 7) (.tmp 9) 22 rfl base 71 i0 _ 7 104 Tryz.underlying22 hi hz0 hz1 hz2 rfl (by decide) s xs.length (flatE xs) rfl HO.out.own (fun _=>True) Sl.none 0 [] rfl (Rd.nil _ _ _) (by simp) h63 hby hb ?_;intro s' w2 hown hwr hs')
 have hs2:s'.row=s.row∨∃ b,s'.row=some b∧w.heap.size≤b:=by
  rcases hs' with h | ⟨h,-⟩
  ·exact .inl (by simp [Sl.row,h])
  exact .inr ⟨w.heap.size,by simp [Sl.row,h],Nat.le_refl _⟩
 have ho2:OE w2 base s' (xs++[]):=OE.append (F:=fun _=>False) HO.out (fun x hx=>by simp at hx) (fun b hb=>hb.elim) hby (by simpa [flatE_nil] using hown) hwr hs2
 rw [List.append_nil] at ho2
 have hrow2:∀ b,s'.row=some b→b<w2.heap.size:=fun b hb=>(own_row ho2.own hb).2
 have hnW:IsN w2 F (h+1) t:=hn0.out.agree (hwr.agree (fun i hi=>(HF.out i hi).1) (fun k hk h=>(HF.out k h).2 hk))
 have hkc:=kids_any hnW (by omega)
 have HG0:=Lib.hid (show GathS base s xs w w2 s' [] from ⟨by rw [List.append_nil];exact ho2,hwr,hs2⟩)
 clear hs' hown ho2 hwr hs2 hnW
 refine hkc.mono ?_
 rintro e w3 ⟨sk,rfl,hown,hx3⟩
 obtain ⟨g,cap,rfl,hbg,hnc,hcm,hfil⟩:=own_block hown (by omega)
 have hrd:Rd w3 (fun b=>b=g) 1 ⟨some ⟨g,0,none⟩,cap⟩ t.2.length (ptrs h t.2):=by
  obtain ⟨b,o,h1,h2,h3⟩:=Rd.of_own hown
  obtain ⟨e1,hnc,hcm⟩:=h1.eq (by omega)
  obtain ⟨rfl,rfl⟩:g=b∧0=o:=by simpa using e1
  exact ⟨g,0,.some _ _ _ _ hnc hcm rfl,h2,h3⟩
 have hgr:s'.row≠some g:=fun e=>by have:=hrow2 g e;omega
 have hgl:g<w3.heap.size:=hfil.lt
 have HG3:=Lib.hid (show GathS base s xs w w3 s' [] from ⟨HG0.out.own.ext hx3,HG0.out.wr.trans (ext_wr hx3 none) (fun i hi=>by cases hi),HG0.out.row⟩)
 have HRD:=Lib.hid hrd
 clear hfil hown hx3 hrd hkc hrow2 HG0
 go_wp2_with fail
 go_loopw [0,14] (fun v i wr=>∃ (j:Nat) (s'':Sl) (ys:List LE),j≤t.2.length∧i=.int .i64 j∧v=.slice s''.a (xs.length+ys.length) s''.c∧ys.map LE.ent=(t.2.take j).flatMap (ents h)∧GathS base s xs w wr s'' ys∧Rd wr (fun b=>b=g) 1 ⟨some ⟨g,0,none⟩,cap⟩ t.2.length (ptrs h t.2)∧s''.row≠some g∧g<wr.heap.size)
  (fun _ i _=>t.2.length - (intOf i).toNat)
 case atStart=>exact ⟨0,s',[],Nat.zero_le _,rfl,rfl,rfl,HG3.out,HRD.out,hgr,hgl⟩
 obtain ⟨j,s'',ys,hj,rfl,rfl,hys,hG,hrd,hgr',hgl'⟩:=hrel
 have HYS:=Lib.hid hys
 have HG:=Lib.hid hG
 have HR:=Lib.hid hrd
 by_cases hlt:j<t.2.length
 ·obtain ⟨kid,hkid⟩:∃ kid,t.2[j]? = some kid:=⟨_,List.getElem?_eq_getElem hlt⟩
  obtain ⟨b,o,hba,-,-,-,hbc⟩:=hrd.ptr_at hkid
  obtain ⟨rfl,rfl⟩:g=b∧0=o:=by simpa using hba
  have kc:wr.cell? ⟨g,j,none⟩=some (ptr h kid):=by simpa using hbc
  have hjl:(j:Int)<(t.2.length:Int):=by omega
  have hkm:=List.mem_of_getElem? hkid
  have hlen:ys.length+(ents h kid).length≤(ents (h+1) t).length:=by
   have e1:ys.length=((t.2.take j).flatMap (ents h)).length:=by rw [←hys,List.length_map]
   show _≤(t.2.flatMap (ents h)).length
   rw [e1]
   conv=>rhs;rw [take_mid hkid]
   simp only [List.flatMap_append,List.flatMap_cons,List.length_append];omega
  have hic:=HIH.out kid wr F base s'' (xs++ys) ((HKS.out kid hkm).agree (hG.wr.agree (fun i hi=>(HF.out i hi).1) (fun k hk h=>(HF.out k h).2 hk)))
   (fun b hb=>⟨Nat.lt_of_lt_of_le (HF.out b hb).1 hG.wr.grown.size,fun e=>by
     rcases hG.row with h | ⟨b',h,hb'⟩
     ·exact (HF.out b hb).2 (h▸e)
     rw [h] at e;simp at e;have:=(HF.out b hb).1;omega⟩)
   (Nat.le_trans hb hG.wr.grown.size) hG.own (HOK.out.2.2 kid hkm).1 (by have:=HL.out;rw [List.length_append];omega)
  rw [List.length_append] at hic
  have HK:=Lib.hid hkid
  clear hys hG hrd hkid hba hbc hkm hlen
  go_wp2_with fail
  refine hic.mono ?_
  rintro e w4 ⟨s4,zs,rfl,ho4,hz4,hw4,hr4⟩
  have HZ:=Lib.hid hz4
  have hg4:s4.row≠some g:=fun e=>by
   rcases hr4 with h | ⟨b',h,hb'⟩
   ·exact hgr' (h▸e)
   rw [h] at e;simp at e;omega
  have hG4:GathS base s xs w w4 s4 (ys++zs):=by
   refine ⟨by rw [←List.append_assoc];exact ho4,HG.out.wr.trans hw4 (fun i hi=>?_),?_⟩
   ·rcases HG.out.row with h | ⟨b',h,hb'⟩
    ·exact .inl (h▸hi)
    rw [h] at hi;simp at hi;exact .inr (by omega)
   rcases hr4 with h | ⟨b',h,hb'⟩
   ·rw [h];exact HG.out.row
   exact .inr ⟨b',h,Nat.le_trans HG.out.wr.grown.size hb'⟩
  have hR4:=HR.out.agree (hw4.agree (F:=fun b=>b=g) (fun i hi=>by omega) (fun k hk e=>hgr' (e▸hk)))
  have hgl4:g<w4.heap.size:=Nat.lt_of_lt_of_le hgl' hw4.grown.size
  have HG4:=Lib.hid hG4
  have HR4:=Lib.hid hR4
  have hw1:(xs++ys).length+zs.length=xs.length+(ys++zs).length:=by simp [Nat.add_assoc]
  have HW1:=Lib.hid hw1
  clear hz4 ho4 hw4 hr4 hG4 hR4 hw1 hic
  go_wp2_with fail
  go_roundw
  case rel=>exact ⟨j+1,s4,ys++zs,hlt,by go_num,by rw [←HW1.out];simp,by rw [List.map_append,HYS.out,HZ.out,List.take_add_one,HK.out];simp,HG4.out,HR4.out,hg4,hgl4⟩
  simp [intOf];omega
 obtain rfl:j=t.2.length:=by omega
 clear hys hG hrd
 go_wp2_with fail
 go_ret
 exact ⟨s'',ys,rfl,HG.out.own,by rw [HYS.out,List.take_length];rfl,HG.out.wr,HG.out.row⟩
theorem gather_any:∀ (h:Nat) (t:PT h) (w:World) (F:Nat→Prop) (base:Nat) (s:Sl) (xs:List LE),IsN w F h t→(∀ b,F b→b<w.heap.size∧s.row≠some b)→base≤w.heap.size→OE w base s xs→OkT h t→xs.length+(ents h t).length≤1000000→Calls Tryz.prog 60 #[.slice s.a xs.length s.c,ptr h t] w (GatherPost base s xs (ents h t) w)
 | 0,t,w,F,base,s,xs,hn,hF,hb,ho,_,hl=>
   gather_zero (entries_any (hn.mono fun b hb=>(hF b hb).1)) (fun W hW=>kids_leaf (hn.agree (hW.agree (fun i hi=>(hF i hi).1) (fun k hk h=>(hF k h).2 hk)))) hb ho hl
 | h+1,t,w,F,base,s,xs,hn,hF,hb,ho,ok,hl=>gather_succ (gather_any h) hn hF hb ho ok hl
theorem kids_nil (w:World):Calls Tryz.prog 98 #[.pointer none] w fun e w'=>e=.returned (.slice none 0 0)∧w=w':=by
 go_enter Tryz.func98,Tryz.ntmps98
 go_wp2_with fail
 go_ret
 exact ⟨rfl,rfl⟩
theorem gatherR_any {T:RT} {w:World} {F:Nat→Prop} {base:Nat} {s:Sl} {xs:List LE} (hT:IsT w F T) (hF:∀ b,F b→b<w.heap.size∧s.row≠some b) (hb:base≤w.heap.size) (ho:OE w base s xs) (ok:OkR T) (hl:xs.length+(entsT T).length≤1000000) :
  Calls Tryz.prog 60 #[.slice s.a xs.length s.c,rootV T] w (GatherPost base s xs (entsT T) w):=by
 match T,hT,ok,hl with
 | none,_,_,hl=>exact gather_zero ((entries_nil w).mono fun e w' ⟨h1,h2⟩=>⟨Sl.none,[],h1,rfl,OE.nil _ _,h2▸Ext.refl w⟩) (fun W _=>kids_nil W) hb ho hl
 | some ⟨h,t⟩,hT,ok,hl=>exact gather_any h t w F base s xs hT hF hb ho ok.1 hl
theorem countR_any {w:World} {F:Nat→Prop} {T:RT} (hT:IsT w F T):Calls Tryz.prog 63 #[rootV T] w fun e w'=>e=.returned (.int .i64 (entsT T).length)∧w=w':=by
 match T,hT with
 | none,_=>exact count_nil w
 | some ⟨h,t⟩,hT=>exact count_any hT
theorem treeLen_any {w:World} {F:Nat→Prop} {T:RT} (hF:∀ b,F b→b<w.heap.size) (hT:IsT w F T):Calls Tryz.prog 37 #[treeV T] w fun e w'=>e=.returned (.int .i64 (entsT T).length)∧Ext w w':=by
 have hx:Ext w (w.alloc (.cells #[rootV T] 41)):=(Ext.refl w).alloc _ _
 have hc:=countR_any (hT.agree (hx.agree hF))
 clear hF hT
 go_enter Tryz.func37,Tryz.ntmps37
 go_wp2_with fail
 refine hc.mono ?_
 rintro e w' ⟨rfl,rfl⟩
 go_wp2_with fail
 go_ret
 exact ⟨rfl,hx⟩
theorem treeRoot_any (w:World) (v:Value):Calls Tryz.prog 243 #[.agg #[v]] w fun e w'=>e=.returned v∧Ext w w':=by
 go_enter Tryz.func243,Tryz.ntmps243
 go_wp2_with fail
 go_ret
 exact ⟨rfl,(Ext.refl w).alloc _ _⟩
theorem treeEntries_any {w:World} {F:Nat→Prop} {T:RT} (hF:∀ b,F b→b<w.heap.size) (hT:IsT w F T) (ok:OkR T) (hl:(entsT T).length≤1000000):Calls Tryz.prog 34 #[treeV T] w (EntriesPost (entsT T) w):=by
 obtain ⟨i0,hi,hz0,hz1,hz2⟩:=info_parts Tryz.infoEntry
 have hln:∀ W,Ext w W→Calls Tryz.prog 37 #[treeV T] W fun e w'=>e=.returned (.int .i64 (entsT T).length)∧Ext W w':=fun W hW=>
  treeLen_any (fun b hb=>Nat.lt_of_lt_of_le (hF b hb) hW.size) (hT.agree (hW.agree hF))
 have hga:∀ (W:World) (s:Sl),Ext w W→OE W w.heap.size s []→Calls Tryz.prog 60 #[.slice s.a 0 s.c,rootV T] W (GatherPost w.heap.size s [] (entsT T) W):=fun W s hW ho=>
  gatherR_any (xs:=[]) (hT.agree (hW.agree hF)) (fun b hb=>⟨Nat.lt_of_lt_of_le (hF b hb) hW.size,fun e=>by have:=(own_row ho.own e).1;have:=hF b hb;omega⟩) hW.size ho ok (by simpa using hl)
 generalize entsT T=es at *
 obtain ⟨MC,hms,hmk⟩:∃ MC:Array Value,MC.size=es.length*7∧∀ W,(Instr.makeSlice 22 (.int .i64 0) (.int .i64 (es.length:Int))).run Tryz.prog W=.ok (.slice (some ⟨W.heap.size,0,none⟩) 0 es.length) (W.alloc (.cells MC 71)):=by
  refine ⟨madeCells (Value.cells (.agg #[.string ByteArray.empty,.int .i64 0,.bool false,.int .i64 0,.string ByteArray.empty,.slice none 0 0,.slice none 0 0])) (es.length*7),size_madeCells _ _,fun W=>?_⟩
  have h:=run_make_rowN (P:=Tryz.prog) 22 71 i0 _ Tryz.underlying22 hi hz0 .i64 .i64 0 es.length (Nat.zero_le _) (by rw [hz2];omega) (by omega) W
  rw [hz1] at h
  exact h
 have HMS:=Lib.hid hms
 have HLN:=Lib.hid hln
 have HGA:=Lib.hid hga
 clear hF hT ok hln hga hi hz0 hz1 hz2 hms
 go_enter Tryz.func34,Tryz.ntmps34
 go_wp2_with fail
 have hx0:Ext w (w.alloc (.cells #[rootV T] 41)):=(Ext.refl w).alloc _ _
 have hb0:=Blk.new w 41 #[rootV T]
 generalize hW0:World.alloc _ _=W0 at *
 have r0:W0.cell? ⟨w.heap.size,0,none⟩=some (rootV T):=hb0.cell 0
 have l0:=hb0.lt
 clear hW0
 go_region_held3 (fun w'=>w'.cell? ⟨w.heap.size,0,none⟩=some (rootV T)) (first | (with_reducible exact r1) | (with_reducible exact r3) | go_keep)
  (first
    | (go_at_call 37;refine (HLN.out _ ?_).mono ?_;(exact hx0.drew);rintro e w1 ⟨rfl,hx1⟩;have r1:=(hx1.cell (o:=0) l0).trans r0;have l1:=Nat.lt_of_lt_of_le l0 hx1.size)
    | (go_at_call 60;refine (HGA.out _ ⟨some ⟨w1.heap.size,0,none⟩,es.length⟩ ?_ ?_).mono ?_;(exact ((hx0.drew).trans hx1).alloc _ _);(exact ⟨World.ownsRow_made w1 MC es.length ((hx0.drew).trans hx1).size (by unfold maxLen;omega) HMS.out,fun x hx=>by simp at hx,by simp⟩);rintro e w3 ⟨s3,ys,rfl,ho3,hy3,hw3,hr3⟩;have r3:w3.cell? ⟨w.heap.size,0,none⟩=some (rootV T):=(World.cell?_of_block (w:=w1.alloc (.cells MC 71)) (a:=⟨w.heap.size,0,none⟩) (hw3.grown.block w.heap.size (by rw [World.size_alloc];omega) (fun e=>by simp [Sl.row] at e;omega))).trans ((World.cell?_alloc_lt _ _ _ l1).trans r1))
    )
 go_wp2_with fail
 go_ret
 have hX:=((hx0.drew).trans hx1).alloc MC 71
 exact ⟨s3,ys,rfl,hy3,by simpa using ho3,hX.wr hw3 (fun i hi=>by simp [Sl.row] at hi;have:=((hx0.drew).trans hx1).size;omega)⟩
section
variable {P : Program} (w : World)
theorem step_append_x {ops:Array Oper} {o:Oper} {a:Act} {K:Act→World→Prop} {Q:Exit→Act→World→Prop} {E:Prop} (hgd:o.guard=none) (s' x:Operand) (t:TypeId)
  (ho:o.op=.call { callee:=.builtin .append,args:=#[s',x],argTypes:=#[t,t] })
  (base:Nat) (e:TypeId) (i:TypeInfo) (z:Value) (size bytes:Nat) (ht:P.underlying t=some (.slice e)) (hi:P.info? e=some i) (hz:i.zero=some z)
  (hsize:i.size=size) (hby:i.bytes=bytes) (hzs:z.cells.size=size) (hsz:0<size)
  (s:Sl) (n:Nat) (xs:List Value) (hs:a.eval s'=.slice s.a n s.c) (hown:w.ownsRow base e size (.slice s.a n s.c) n xs)
  (F:Nat→Prop) (sx:Sl) (m:Nat) (news:List Value) (hx:a.eval x=.slice sx.a m sx.c) (hsrc:Rd w F size sx m news) (h1:∀ u∈news,u.oneCell'=true)
  (h63:n+m≤maxLen) (hbytes:(n+m)*bytes≤140737488355328) (hbase:base≤w.heap.size)
  (h:∀ (s':Sl) (w':World),w'.ownsRow base e size (.slice s'.a (n+m) s'.c) (n+m) (xs++news)→Wr w w' s.row→(s'.a=s.a∨s'.a=some ⟨w.heap.size,0,none⟩∧Wr w w' none)→K (a.put o.dst (.slice s'.a (n+m) s'.c)) w') :
  if Region.wanted o (yielded ops a.tmps)=true then Oper.wp P o a w K Q else E:=by
 have hw:Region.wanted o (yielded ops a.tmps)=true:=by simp [Region.wanted,hgd]
 rw [if_pos hw]
 exact wp_append_x w s' x t ho base e i z size bytes ht hi hz hsize hby hzs hsz s n xs hs hown F sx m news hx hsrc h1 h63 hbytes hbase h
theorem Rd.block {w:World} {g:Nat} {t:TypeId} {cs:List Value} {size n:Nat} (hb:Blk w g t cs.toArray) (hm:n≤maxLen) (hl:cs.length=n*size):Rd w (fun b=>b=g) size ⟨some ⟨g,0,none⟩,n⟩ n cs:=
 ⟨g,0,.some _ _ _ _ (Nat.le_refl _) hm rfl,hl,fun j u hj=>by rw [Nat.zero_add,hb.cell];simpa using hj⟩
end
def BuildPost (es:List Ent) (w:World) (e:Ending) (w':World):Prop:=
 ∃ T,e=.returned (treeV T)∧BuiltR es T∧IsT w' (In w.heap.size w'.heap.size) T∧Ext w w'
theorem rootV_ptr (T:RT):∃ p,rootV T=.pointer p:=by
 match T with
 | none=>exact ⟨_,rfl⟩
 | some ⟨h,t⟩=>exact ⟨_,rfl⟩
theorem ES.ext {w w':World} {s:Sl} {xs:List LE} (h:ES w (Lt w.heap.size) s xs) (he:Ext w w'):ES w' (Lt w'.heap.size) s xs:=(h.agree (he.agree fun _ h=>h)).mono fun _ hi=>Nat.lt_of_lt_of_le hi he.size
theorem build_big {w:World} {s:Sl} {xs:List LE} (hs:ES w (Lt w.heap.size) s xs) (hl:xs.length≤500000):Calls Tryz.prog 16 #[.slice s.a xs.length s.c] w (BuildPost (xs.map LE.ent) w):=by
 have HS:=Lib.hid hs
 clear hs
 go_enter Tryz.func16,Tryz.ntmps16
 go_wp2_with fail
 generalize hW0:World.alloc (World.alloc _ _) _=W0
 obtain ⟨hxx,hzz,hb0,hb1⟩:=two_blocks w _ _ _ _ W0 hW0
 clear hW0
 go_loopw [8] (fun i wr=>∃ (j:Nat) (T:RT) (p:Option Addr),j≤xs.length∧i=.int .i64 j∧Ext w wr∧Blk wr w.heap.size 41 #[.pointer none]∧Blk wr (w.heap.size+1) 41 #[.pointer p]∧Hid (rootV T=.pointer p)∧BuiltR ((xs.take j).map LE.ent) T∧IsT wr (In (w.heap.size+2) wr.heap.size) T)
  (fun i _=>xs.length - (intOf i).toNat)
 case atStart=>exact ⟨0,none,none,Nat.zero_le _,rfl,hxx,hb0,hb1,Lib.hid rfl,.nil,trivial⟩
 obtain ⟨j,T,p,hj,rfl,hx,hR,hS,HP,hB,hT⟩:=hrel
 clear hxx hzz hb0 hb1
 have HX:=Lib.hid hx
 have HR:=Lib.hid hR
 have HB:=Lib.hid hB
 have HT:=Lib.hid hT
 have HSS:=Lib.hid hS
 have c0:wr.cell? ⟨w.heap.size+1,0,none⟩=some (.pointer p):=hS.cell 0
 have fS:=hS.frozen
 have lS:=hS.lt
 by_cases hlt:j<xs.length
 ·obtain ⟨x,hxj⟩:∃ x,xs[j]? = some x:=⟨_,List.getElem?_eq_getElem hlt⟩
  obtain ⟨b,o,ha,hbl,hlc,hcm,k0,hv,hrv,hkm⟩:=(HS.out.ext hx).at hxj
  obtain ⟨v0,v1,v2,v3,v4,v5⟩:=hv.m
  have hil':(j:Int)<(xs.length:Int):=by omega
  have hok:=hB.both
  have hpt:∀ W,Ext wr W→Calls Tryz.prog 35 #[.agg #[.pointer p],.string x.k,aggV x.v x.sl x.so] W (PutPost (In (w.heap.size+2) wr.heap.size) T x.k x.v W):=fun W hW=>by
   rw [←HP.out]
   exact put_any (fun b hb=>Nat.lt_of_lt_of_le hb.2 hW.size) (hT.agree (hW.agree fun b hb=>hb.2)) hok.1 (by
    rw [hok.2]
    have:=putAll_len ((xs.take j).map LE.ent) []
    simp only [List.length_map,List.length_take,List.length_nil] at this
    omega) hkm ((hrv.agree (hW.agree fun b hb=>hb)).mono fun b hb=>Nat.lt_of_lt_of_le hb hW.size)
  obtain ⟨sa,sc⟩:=s
  dsimp only at ha
  subst ha
  have HPT:=Lib.hid hpt
  have HXJ:=Lib.hid hxj
  clear hx hR hS hB hT hxj hv hrv hok hpt
  go_wp2_with fail
  refine (HPT.out _ ((Ext.refl wr).alloc _ _)).mono ?_
  rintro e w2 ⟨T2,rfl,hp2,hT2,hx2⟩
  obtain ⟨p2,hq2⟩:=rootV_ptr T2
  have HQ2:=Lib.hid hq2
  dsimp only [treeV]
  rw [hq2]
  clear hq2
  have hX2:Ext wr w2:=((Ext.refl wr).alloc _ _).trans hx2
  have d0:w2.cell? ⟨w.heap.size+1,0,none⟩=some (.pointer p):=(hX2.cell lS).trans c0
  have f2:∀ o,w2.frozen? ⟨w.heap.size+1,o,none⟩=false:=fun o=>(hX2.frozen lS).trans (fS o)
  have hE:=(HX.out.trans hX2).setCell (p:=⟨w.heap.size+1,0,none⟩) (show w.heap.size≤w.heap.size+1 by omega) (.pointer p2)
  have hR2:=(HR.out.ext hX2).far (p:=⟨w.heap.size+1,0,none⟩) (by simp) (.pointer p2)
  have hS2:Blk (w2.setCell ⟨w.heap.size+1,0,none⟩ (.pointer p2)) (w.heap.size+1) 41 #[.pointer p2]:=(HSS.out.ext hX2).set_ 0 _
  have hT3:IsT (w2.setCell ⟨w.heap.size+1,0,none⟩ (.pointer p2)) (In (w.heap.size+2) (w2.setCell ⟨w.heap.size+1,0,none⟩ (.pointer p2)).heap.size) T2:=by
   have hs2:=hX2.size
   have hlt:=lS
   have hm:∀ i,Up (In (w.heap.size+2) wr.heap.size) (wr.alloc (.cells #[.string x.k,.int .i64 x.v.kind,.bool x.v.b,.int .i64 x.v.i,.string x.v.t,.slice x.sl.a x.v.l.length x.sl.c,.slice x.so.a x.v.ok.length x.so.c] 71)) w2 i→In (w.heap.size+2) w2.heap.size i:=fun i hi=>by
    rcases hi with hi | hi
    ·exact ⟨hi.1,Nat.lt_of_lt_of_le hi.2 hs2⟩
    have:=hi.1
    simp at this
    exact ⟨by omega,hi.2⟩
   refine ((hT2.mono hm).agree (Agree.setCell w2 ⟨w.heap.size+1,0,none⟩ _ (fun h=>by have h1:w.heap.size+2≤w.heap.size+1:=h.1;omega))).mono fun i hi=>⟨hi.1,by simpa using hi.2⟩
  have HB2:=Lib.hid (BuiltR.snoc HB.out hp2)
  have H1:=Lib.hid hE
  have H2:=Lib.hid hR2
  have H3:=Lib.hid hS2
  have H4:=Lib.hid hT3
  clear hp2 hT2 hx2 hX2 hE hR2 hS2 hT3
  go_wp2_with fail
  go_roundw
  case rel=>exact ⟨j+1,T2,p2,hlt,by go_num,H1.out,H2.out,H3.out,HQ2,by rw [List.take_add_one,HXJ.out,List.map_append];exact HB2.out,H4.out⟩
  simp [intOf];omega
 obtain rfl:j=xs.length:=by omega
 have r0:wr.cell? ⟨w.heap.size,0,none⟩=some (.pointer none):=hR.cell 0
 have fR:=hR.frozen
 clear hx hR hS hB hT
 go_wp2_with fail
 have q0:(wr.setCell ⟨w.heap.size,0,none⟩ (.pointer p)).cell? ⟨w.heap.size,0,none⟩=some (.pointer p):=World.cell?_setCell_same wr _ _ r0
 refine bodyPost_ret (v:=.agg #[.pointer p]) (by simp [results,Tryz.results16,go_sem,q0]) rfl ?_
 refine ⟨T,by rw [treeV,HP.out],by have:=HB.out;rwa [List.take_length] at this,?_,HX.out.setCell (p:=⟨w.heap.size,0,none⟩) (Nat.le_refl _) _⟩
 exact (HT.out.agree (Agree.setCell wr ⟨w.heap.size,0,none⟩ _ (fun h=>by have h1:w.heap.size+2≤w.heap.size:=h.1;omega))).mono fun i hi=>⟨by have:=hi.1;omega,by simpa using hi.2⟩
theorem build_any {w:World} {s:Sl} {xs:List LE} (hs:ES w (Lt w.heap.size) s xs) (hl:xs.length≤100000):Calls Tryz.prog 16 #[.slice s.a xs.length s.c] w (BuildPost (xs.map LE.ent) w):=build_big hs (by omega)
structure Chg where
 k:ByteArray
 had:Bool
 was:Val
 has:Bool
 is_:Val
def goneC (e:Ent):Chg:=⟨e.1,true,e.2,false,zeroV⟩
def comeC (e:Ent):Chg:=⟨e.1,false,zeroV,true,e.2⟩
def becC (e f:Ent):List Chg:=if cmpV e.2 f.2=0 then [] else [⟨e.1,true,e.2,true,f.2⟩]
def chg:List Ent→List Ent→List Chg
 | [],b=>b.map comeC
 | e :: a,[]=>goneC e :: a.map goneC
 | e :: a,f :: b=>if klt e.1 f.1 then goneC e :: chg a (f :: b) else if klt f.1 e.1 then comeC f :: chg (e :: a) b else becC e f++chg a b
termination_by a b=>a.length+b.length
theorem getE_ins:∀ (es:List Ent) (k:ByteArray) (v:Val) (x:ByteArray),getE (insE es k v) x=if x=k then some v else getE es x
 | [],k,v,x=>by
   simp only [insE,getE]
   by_cases h:x=k
   ·rw [if_pos h.symm,if_pos h]
   rw [if_neg (fun e=>h e.symm),if_neg h]
 | e :: es,k,v,x=>by
   by_cases h1:klt e.1 k=true
   ·rw [insE,if_pos h1,getE,getE,getE_ins es k v x]
    by_cases h:x=k
    ·have:e.1≠x:=fun h2=>by rw [h2,h,klt_irrefl] at h1;cases h1
     rw [if_neg this,if_pos h,if_pos h]
    rw [if_neg h,if_neg h]
   rw [insE,if_neg h1]
   by_cases h2:e.1=k
   ·rw [if_pos h2,getE,getE,h2]
    by_cases h:x=k
    ·rw [if_pos h.symm,if_pos h]
    rw [if_neg (fun e=>h e.symm),if_neg h,if_neg (fun e=>h e.symm)]
   rw [if_neg h2,getE]
   by_cases h:x=k
   ·rw [if_pos h.symm,if_pos h]
   rw [if_neg (fun e=>h e.symm),if_neg h]
theorem getE_del:∀ (es:List Ent) (k:ByteArray) (x:ByteArray),Sorted es→getE (delE es k) x=if x=k then none else getE es x
 | [],k,x,_=>by simp [delE,getE]
 | e :: es,k,x,hs=>by
   obtain ⟨h1,h2⟩:=List.pairwise_cons.1 hs
   by_cases h3:klt e.1 k=true
   ·rw [delE,if_pos h3,getE,getE,getE_del es k x h2]
    by_cases h:x=k
    ·have:e.1≠x:=fun h2=>by rw [h2,h,klt_irrefl] at h3;cases h3
     rw [if_neg this,if_pos h,if_pos h]
    rw [if_neg h,if_neg h]
   rw [delE,if_neg h3]
   by_cases h4:e.1=k
   ·rw [if_pos h4,getE,h4]
    by_cases h:x=k
    ·rw [if_pos h]
     exact getE_none fun f hf e2=>by have:=h1 f hf;rw [h4,e2,h,klt_irrefl] at this;cases this
    rw [if_neg h,if_neg (fun e=>h e.symm)]
   rw [if_neg h4]
   by_cases h:x=k
   ·rw [if_pos h]
    refine getE_none fun f hf e2=>?_
    rcases List.mem_cons.1 hf with rfl | hf
    ·exact h4 (e2.trans h)
    have:=h1 f hf
    rw [e2,h] at this
    exact h3 this
   rw [if_neg h]
def simO:Option Val→Option Val→Bool
 | none,none=>true
 | some v,some u=>decide (cmpV v u=0)
 | _,_=>false
theorem simO_refl (o:Option Val):simO o o=true:=by cases o <;> simp [simO,cmpV_refl]
end Go.Proofs.YtkhdiakpdafcdaaGreatDoor
namespace Go.Proofs.YtkhdiakpdafcdaaGreatDoor
open Go.RowKit Go.Maps
set_option linter.unusedVariables false
set_option linter.unusedSimpArgs false
section
variable {α : Type}
abbrev AL (α:Type):=List (ByteArray × α)
def SortedA (C:AL α):Prop:=C.Pairwise fun a b=>klt a.1 b.1=true
def getA:AL α→ByteArray→Option α
 | [],_=>none
 | e :: r,k=>if e.1=k then some e.2 else getA r k
def putA:AL α→ByteArray→α→AL α
 | [],k,v=>[(k,v)]
 | e :: r,k,v=>if klt e.1 k then e :: putA r k v else if e.1=k then (k,v) :: r else (k,v) :: e :: r
def delA (C:AL α) (k:ByteArray):AL α:=C.filter fun p=>!decide (p.1=k)
theorem getA_none {C:AL α} {k:ByteArray} (h:∀ e∈C,e.1≠k):getA C k=none:=by
 induction C with
 | nil=>rfl
 | cons e r ih=>rw [getA,if_neg (h e (List.mem_cons_self ..)),ih fun f hf=>h f (List.mem_cons_of_mem _ hf)]
theorem getA_some {C:AL α} {k:ByteArray} {s:α} (h:getA C k=some s):(k,s)∈C:=by
 induction C with
 | nil=>cases h
 | cons e r ih=>
   rw [getA] at h
   by_cases he:e.1=k
   ·rw [if_pos he] at h
    injection h with h
    subst he h
    exact List.mem_cons_self ..
   rw [if_neg he] at h
   exact List.mem_cons_of_mem _ (ih h)
theorem sortedA_far {e:ByteArray × α} {r:AL α} (h:SortedA (e :: r)):SortedA r∧∀ f∈r,klt e.1 f.1=true∧f.1≠e.1:=by
 obtain ⟨h1,h2⟩:=List.pairwise_cons.1 h
 exact ⟨h2,fun f hf=>⟨h1 f hf,fun e2=>by have:=h1 f hf;rw [e2,klt_irrefl] at this;cases this⟩⟩
theorem getA_mem {C:AL α} (hs:SortedA C) {k:ByteArray} {s:α} (h:(k,s)∈C):getA C k=some s:=by
 induction C with
 | nil=>cases h
 | cons e r ih=>
   obtain ⟨h2,h1⟩:=sortedA_far hs
   rw [getA]
   rcases List.mem_cons.1 h with rfl | h
   ·rw [if_pos rfl]
   rw [if_neg (fun e2=>(h1 _ h).2 e2.symm),ih h2 h]
theorem getA_put:∀ (C:AL α) (k:ByteArray) (v:α) (x:ByteArray),getA (putA C k v) x=if x=k then some v else getA C x
 | [],k,v,x=>by
   simp only [putA,getA]
   by_cases h:x=k
   ·rw [if_pos h.symm,if_pos h]
   rw [if_neg (fun e=>h e.symm),if_neg h]
 | e :: es,k,v,x=>by
   by_cases h1:klt e.1 k=true
   ·rw [putA,if_pos h1,getA,getA,getA_put es k v x]
    by_cases h:x=k
    ·have:e.1≠x:=fun h2=>by rw [h2,h,klt_irrefl] at h1;cases h1
     rw [if_neg this,if_pos h,if_pos h]
    rw [if_neg h,if_neg h]
   rw [putA,if_neg h1]
   by_cases h2:e.1=k
   ·rw [if_pos h2,getA,getA,h2]
    by_cases h:x=k
    ·rw [if_pos h.symm,if_pos h]
    rw [if_neg (fun e=>h e.symm),if_neg h,if_neg (fun e=>h e.symm)]
   rw [if_neg h2,getA]
   by_cases h:x=k
   ·rw [if_pos h.symm,if_pos h]
   rw [if_neg (fun e=>h e.symm),if_neg h]
theorem getA_del (k x:ByteArray):∀ (C:AL α),getA (delA C k) x=if x=k then none else getA C x
 | []=>by simp [delA,getA]
 | e :: r=>by
   have ih:=getA_del k x r
   unfold delA at ih ⊢
   by_cases h:e.1=k
   ·rw [List.filter_cons,if_neg (by simp [h]),ih,getA]
    by_cases hx:x=k
    ·rw [if_pos hx,if_pos hx]
    rw [if_neg hx,if_neg hx,if_neg (fun e2=>hx (e2.symm.trans h))]
   rw [List.filter_cons,if_pos (by simp [h]),getA,ih,getA]
   by_cases hx:x=k
   ·rw [if_pos hx,if_pos hx,if_neg (fun e2=>h (e2.trans hx))]
   rw [if_neg hx,if_neg hx]
theorem mem_putA {C:AL α} {k:ByteArray} {v:α} {x:ByteArray × α} (h:x∈putA C k v):x=(k,v)∨x∈C:=by
 induction C with
 | nil=>exact .inl (by simpa [putA] using h)
 | cons e r ih=>
   rw [putA] at h
   split at h
   ·rcases List.mem_cons.1 h with rfl | h
    ·exact .inr (List.mem_cons_self ..)
    exact (ih h).imp id (List.mem_cons_of_mem _)
   split at h
   ·rcases List.mem_cons.1 h with rfl | h
    ·exact .inl rfl
    exact .inr (List.mem_cons_of_mem _ h)
   exact List.mem_cons.1 h
theorem putA_sorted {C:AL α} (h:SortedA C) (k:ByteArray) (v:α):SortedA (putA C k v):=by
 induction C with
 | nil=>exact List.pairwise_cons.2 ⟨fun _ hx=>(by cases hx),List.Pairwise.nil⟩
 | cons e r ih=>
   obtain ⟨h1,h2⟩:=List.pairwise_cons.1 h
   rw [putA]
   split
   ·rename_i hk
    refine List.pairwise_cons.2 ⟨fun x hx=>?_,ih h2⟩
    rcases mem_putA hx with rfl | hx
    ·exact hk
    exact h1 x hx
   rename_i hk
   split
   ·rename_i he
    exact List.pairwise_cons.2 ⟨fun x hx=>by rw [←he];exact h1 x hx,h2⟩
   rename_i he
   have hlt:klt k e.1=true:=klt_of_not (by simpa using hk) he
   refine List.pairwise_cons.2 ⟨fun x hx=>?_,h⟩
   rcases List.mem_cons.1 hx with rfl | hx
   ·exact hlt
   exact klt_trans hlt (h1 x hx)
theorem delA_sorted {C:AL α} (h:SortedA C) (k:ByteArray):SortedA (delA C k):=h.sublist (List.filter_sublist ..)
theorem sortedA_ext:∀ {a b:AL α},SortedA a→SortedA b→(∀ k,getA a k=getA b k)→a=b
 | [],[],_,_,_=>rfl
 | [],f :: b,_,_,h=>by have:=h f.1;simp [getA] at this
 | e :: a,[],_,_,h=>by have:=h e.1;simp [getA] at this
 | e :: a,f :: b,ha,hb,h=>by
   obtain ⟨a2,a1⟩:=sortedA_far ha
   obtain ⟨b2,b1⟩:=sortedA_far hb
   have hk:e.1=f.1:=by
    refine klt_total ?_ ?_
    ·cases hc:klt e.1 f.1 with
     | false=>rfl
     | true=>
       have h1:=h e.1
       rw [getA,if_pos rfl,getA_none (C:=f :: b) (fun g hg e2=>by
        rcases List.mem_cons.1 hg with rfl | hg
        ·rw [e2,klt_irrefl] at hc;cases hc
        have:=klt_trans hc (b1 g hg).1;rw [e2,klt_irrefl] at this;cases this)] at h1
       cases h1
    cases hc:klt f.1 e.1 with
    | false=>rfl
    | true=>
      have h1:=h f.1
      rw [getA_none (C:=e :: a) (k:=f.1) (fun g hg e2=>by
       rcases List.mem_cons.1 hg with rfl | hg
       ·rw [e2,klt_irrefl] at hc;cases hc
       have:=klt_trans hc (a1 g hg).1;rw [e2,klt_irrefl] at this;cases this),getA,if_pos rfl] at h1
      cases h1
   have h0:=h e.1
   rw [getA,if_pos rfl,getA,if_pos hk.symm] at h0
   injection h0 with h0
   have he:e=f:=Prod.ext hk h0
   subst he
   rw [sortedA_ext a2 b2 fun k=>?_]
   by_cases hx:e.1=k
   ·rw [getA_none fun g hg e2=>(a1 g hg).2 (e2.trans hx.symm),getA_none fun g hg e2=>(b1 g hg).2 (e2.trans hx.symm)]
   have:=h k
   rwa [getA,if_neg hx,getA,if_neg hx] at this
theorem putA_undo {C:AL α} (h:SortedA C) {k:ByteArray} {s old:α} (ho:getA C k=some old):putA (putA C k s) k old=C:=
 sortedA_ext (putA_sorted (putA_sorted h k s) k old) h fun x=>by
  rw [getA_put,getA_put]
  by_cases hx:x=k
  ·rw [if_pos hx,hx,ho]
  rw [if_neg hx,if_neg hx]
theorem delA_undo {C:AL α} (h:SortedA C) {k:ByteArray} {s:α} (ho:getA C k=none):delA (putA C k s) k=C:=
 sortedA_ext (delA_sorted (putA_sorted h k s) k) h fun x=>by
  rw [getA_del,getA_put]
  by_cases hx:x=k
  ·rw [if_pos hx,hx,ho]
  rw [if_neg hx,if_neg hx]
theorem putA_len {C:AL α} {k:ByteArray} {v:α}:(putA C k v).length≤C.length+1:=by
 induction C with
 | nil=>simp [putA]
 | cons e r ih=>
   rw [putA]
   split
   ·simp only [List.length_cons];omega
   split <;> simp only [List.length_cons] <;> omega
end
section
variable {α : Type} (f : α → Value)
abbrev keyS (k:ByteArray):Lit:=.string k.data.toList
abbrev entA (p:ByteArray × α):Lit × DataW Value:=(keyS p.1,.held (f p.2))
def mapA (C:AL α):DataW Value:=.map (C.map (entA f))
def heldR (v:Value):Option (DataW Value × List MemPlace):=some (.held v,[])
theorem heldR_inv {v u:Value} {ps:List MemPlace} (h:heldR v=some (.held u,ps)):v=u:=by
 injection h with h;injection h with h;injection h
theorem before_eq:∀ a b:List UInt8,bytesBefore a b=Op.bytesLess a b
 | [],[]=>rfl
 | [],_ :: _=>rfl
 | _ :: _,[]=>rfl
 | a :: x,b :: y=>by rw [bytesBefore,Op.bytesLess,before_eq x y]
theorem before_keyS (a b:ByteArray):(keyS a).before (keyS b)=klt a b:=by
 show bytesBefore _ _=Op.bytesLess _ _
 rw [before_eq,ByteArray.toList_eq,ByteArray.toList_eq]
theorem same_keyS (a b:ByteArray):(keyS a).sameKey (keyS b)=decide (a=b):=by
 show (a.data.toList == b.data.toList)=_
 rw [←ByteArray.toList_eq,←ByteArray.toList_eq]
 exact beq_toList a b
theorem has_mapA (C:AL α) (k:ByteArray):Maps.has (mapA f C) (keyS k)=(getA C k).isSome:=by
 show List.any (List.map _ C) _=_
 induction C with
 | nil=>rfl
 | cons e r ih=>
   rw [List.map_cons,List.any_cons,ih,getA]
   show ((keyS e.1).sameKey (keyS k) || _)=_
   rw [same_keyS]
   by_cases h:e.1=k
   ·rw [if_pos h,decide_eq_true h];rfl
   rw [if_neg h,decide_eq_false h];rfl
theorem at_mapA (C:AL α) (k:ByteArray) (zd:DataW Value):(mapA f C).atKey (keyS k) zd=match getA C k with
  | some s=>.held (f s)
  | none=>zd:=by
 unfold mapA
 simp only [DataW.atKey]
 induction C with
 | nil=>rfl
 | cons e r ih=>
   rw [List.map_cons,List.find?_cons,getA]
   by_cases h:e.1=k
   ·rw [if_pos h,show (keyS e.1).sameKey (keyS k)=true by rw [same_keyS,decide_eq_true h]]
   rw [if_neg h,show (keyS e.1).sameKey (keyS k)=false by rw [same_keyS,decide_eq_false h]]
   exact ih
theorem size_mapA (C:AL α):Maps.size (mapA f C)=C.length:=by
 show List.length (List.map _ C)=_
 rw [List.length_map]
theorem filter_mapA (k:ByteArray):∀ C:AL α,(C.map (entA f)).filter (fun p=>!p.1.sameKey (keyS k))=(delA C k).map (entA f)
 | []=>rfl
 | e :: r=>by
   have ih:=filter_mapA k r
   unfold delA at ih ⊢
   rw [List.map_cons,List.filter_cons,List.filter_cons,ih]
   show (if (!(keyS e.1).sameKey (keyS k))=true then _ else _)=_
   rw [same_keyS]
   split <;> rfl
theorem del_mapA (C:AL α) (k:ByteArray):(mapA f C).del (keyS k)=mapA f (delA C k):=by
 show DataW.map (List.filter _ (List.map _ C))=_
 rw [filter_mapA];rfl
theorem insert_mapA (k:ByteArray) (s:α):∀ C:AL α,SortedA C→DataW.insert (keyS k,(DataW.held (f s):DataW Value)) ((delA C k).map (entA f))=(putA C k s).map (entA f)
 | [],_=>rfl
 | e :: r,h=>by
   obtain ⟨h2,h1⟩:=sortedA_far h
   have ih:=insert_mapA k s r h2
   have hdel:∀ x:ByteArray,(∀ g∈r,g.1≠x)→delA r x=r:=fun x hx=>List.filter_eq_self.2 fun g hg=>by simp [hx g hg]
   have hstep:∀ (g:ByteArray × α) (t:AL α),klt k g.1=true→DataW.insert (keyS k,(DataW.held (f s):DataW Value)) ((g :: t).map (entA f))=(((k,s) :: g :: t).map (entA f)):=fun g t hg=>by
    rw [List.map_cons,DataW.insert,if_pos (by show (keyS k).before (keyS g.1)=true;rw [before_keyS,hg])]
    rfl
   rw [putA]
   by_cases hk:klt e.1 k=true
   ·have hne:e.1≠k:=fun e2=>by rw [e2,klt_irrefl] at hk;cases hk
    rw [if_pos hk,show delA (e :: r) k=e :: delA r k by unfold delA;rw [List.filter_cons,if_pos (by simp [hne])],List.map_cons,DataW.insert,if_neg (by show ¬(keyS k).before (keyS e.1)=true;rw [before_keyS,klt_asymm hk];simp),ih]
    rfl
   rw [if_neg hk]
   by_cases he:e.1=k
   ·rw [if_pos he,show delA (e :: r) k=r by
     rw [←he]
     show List.filter _ _=_
     rw [List.filter_cons,if_neg (by simp)]
     exact hdel e.1 fun g hg=>(h1 g hg).2]
    cases r with
    | nil=>rfl
    | cons g t=>exact hstep g t (by rw [←he];exact (h1 g (List.mem_cons_self ..)).1)
   have hlt:klt k e.1=true:=klt_of_not (by simpa using hk) he
   rw [if_neg he,show delA (e :: r) k=e :: r by
    show List.filter _ _=_
    rw [List.filter_cons,if_pos (by simp [he])]
    exact congrArg (e :: ·) (hdel k fun g hg e2=>by have:=klt_trans hlt (h1 g hg).1;rw [e2,klt_irrefl] at this;cases this)]
   exact hstep e r hlt
theorem put_mapA {C:AL α} (h:SortedA C) (k:ByteArray) (s:α):(mapA f C).put (keyS k) (.held (f s))=mapA f (putA C k s):=by
 show DataW.map (DataW.insert _ (List.filter _ (List.map _ C)))=_
 rw [filter_mapA,insert_mapA f k s C h];rfl
end
end Go.Proofs.YtkhdiakpdafcdaaGreatDoor
namespace Go.Proofs.YtkhdiakpdafcdaaGreatDoor
open Go.RowKit
set_option linter.unusedVariables false
set_option linter.unusedSimpArgs false
abbrev Slots:=AL (Option Val)
def nowE (B:List Ent) (C:Slots) (k:ByteArray):Option Val:=match getA C k with
 | some s=>s
 | none=>getE B k
def comE (B:List Ent):Slots→List Ent→List Ent
 | [],t=>t
 | (k,some v) :: r,t=>comE B r (if (getE B k).any (fun was=>decide (cmpV was v=0)) then t else insE t k v)
 | (k,none) :: r,t=>comE B r (if (getE B k).isSome then delE t k else t)
theorem comE_sorted (B:List Ent):∀ (C:Slots) (t:List Ent),Sorted t→Sorted (comE B C t)
 | [],t,h=>h
 | (k,some v) :: r,t,h=>by
   rw [comE]
   split
   ·exact comE_sorted B r t h
   exact comE_sorted B r _ (insE_sorted h k v)
 | (k,none) :: r,t,h=>by
   rw [comE]
   split
   ·exact comE_sorted B r _ (delE_sorted h k)
   exact comE_sorted B r t h
theorem comE_far (B:List Ent) {k:ByteArray}:∀ (C:Slots) (t:List Ent),Sorted t→(∀ e∈C,e.1≠k)→getE (comE B C t) k=getE t k
 | [],t,_,_=>rfl
 | (k',some v) :: r,t,h,hk=>by
   rw [comE]
   have h1:k'≠k:=hk _ (List.mem_cons_self ..)
   have h2:=fun f hf=>hk f (List.mem_cons_of_mem _ hf)
   split
   ·exact comE_far B r t h h2
   rw [comE_far B r _ (insE_sorted h k' v) h2,getE_ins,if_neg (fun e=>h1 e.symm)]
 | (k',none) :: r,t,h,hk=>by
   rw [comE]
   have h1:k'≠k:=hk _ (List.mem_cons_self ..)
   have h2:=fun f hf=>hk f (List.mem_cons_of_mem _ hf)
   split
   ·rw [comE_far B r _ (delE_sorted h k') h2,getE_del _ _ _ h,if_neg (fun e=>h1 e.symm)]
   exact comE_far B r t h h2
theorem comE_get (B:List Ent) {k:ByteArray}:∀ (C:Slots) (t:List Ent),SortedA C→Sorted t→getE t k=getE B k→simO (getE (comE B C t) k) (nowE B C k)=true
 | [],t,_,_,h=>by rw [comE,nowE,getA,h];exact simO_refl _
 | (k',s) :: r,t,hs,ht,h=>by
   obtain ⟨h2,hf0⟩:=sortedA_far hs
   have hf:=fun f hm=>(hf0 f hm).2
   by_cases hk:k'=k
   ·subst hk
    have hn:nowE B ((k',s) :: r) k'=s:=by rw [nowE,getA,if_pos rfl]
    rw [hn]
    cases s with
    | some v=>
      rw [comE]
      split
      ·rename_i hany
       rw [comE_far B r t ht hf,h]
       cases hb:getE B k' with
       | none=>rw [hb] at hany;cases hany
       | some b=>rw [hb] at hany;exact hany
      rw [comE_far B r _ (insE_sorted ht k' v) hf,getE_ins,if_pos rfl]
      exact simO_refl _
    | none=>
      rw [comE]
      split
      ·rw [comE_far B r _ (delE_sorted ht k') hf,getE_del _ _ _ ht,if_pos rfl];rfl
      rename_i hb
      rw [comE_far B r t ht hf,h]
      cases hb2:getE B k' with
      | none=>rfl
      | some b=>rw [hb2] at hb;exact absurd rfl hb
   have hn:nowE B ((k',s) :: r) k=nowE B r k:=by rw [nowE,nowE,getA,if_neg hk]
   rw [hn]
   cases s with
   | some v=>
     rw [comE]
     split
     ·exact comE_get B r t h2 ht h
     exact comE_get B r _ h2 (insE_sorted ht k' v) (by rw [getE_ins,if_neg (fun e=>hk e.symm),h])
   | none=>
     rw [comE]
     split
     ·exact comE_get B r _ h2 (delE_sorted ht k') (by rw [getE_del _ _ _ ht,if_neg (fun e=>hk e.symm),h])
     exact comE_get B r t h2 ht h
def idleC (B:List Ent) (C:Slots):Prop:=∀ k s,getA C k=some s→match s with
 | some v=>(getE B k).any (fun was=>decide (cmpV was v=0))=true
 | none=>getE B k=none
def keysE (P:ByteArray→Bool) (M:List Ent):List ByteArray:=(M.filter fun e=>P e.1).map Prod.fst
theorem rise_ext:∀ {a b:List ByteArray},a.Pairwise (fun x y=>klt x y=true)→b.Pairwise (fun x y=>klt x y=true)→(∀ k,k∈a↔k∈b)→a=b
 | [],[],_,_,_=>rfl
 | [],y :: b,_,_,h=>by have:=(h y).2 (List.mem_cons_self ..);cases this
 | x :: a,[],_,_,h=>by have:=(h x).1 (List.mem_cons_self ..);cases this
 | x :: a,y :: b,ha,hb,h=>by
   obtain ⟨a1,a2⟩:=List.pairwise_cons.1 ha
   obtain ⟨b1,b2⟩:=List.pairwise_cons.1 hb
   have hxy:x=y:=by
    rcases List.mem_cons.1 ((h x).1 (List.mem_cons_self ..)) with e | e
    ·exact e
    rcases List.mem_cons.1 ((h y).2 (List.mem_cons_self ..)) with e2 | e2
    ·exact e2.symm
    have h1:=b1 x e
    have h2:=a1 y e2
    rw [klt_asymm h1] at h2;cases h2
   subst hxy
   rw [rise_ext a2 b2 fun k=>⟨fun hk=>?_,fun hk=>?_⟩]
   ·rcases List.mem_cons.1 ((h k).1 (List.mem_cons_of_mem _ hk)) with e | e
    ·have:=a1 k hk;rw [e,klt_irrefl] at this;cases this
    exact e
   rcases List.mem_cons.1 ((h k).2 (List.mem_cons_of_mem _ hk)) with e | e
   ·have:=b1 k hk;rw [e,klt_irrefl] at this;cases this
   exact e
theorem getE_mem {B:List Ent} (hs:Sorted B) {e:Ent} (h:e∈B):getE B e.1=some e.2:=by
 induction B with
 | nil=>cases h
 | cons f r ih=>
   obtain ⟨h1,h2⟩:=List.pairwise_cons.1 hs
   rw [getE]
   rcases List.mem_cons.1 h with rfl | h
   ·rw [if_pos rfl]
   have:=h1 _ h
   rw [if_neg (fun e2=>by rw [e2,klt_irrefl] at this;cases this),ih h2 h]
theorem mem_getE {B:List Ent} {k:ByteArray} {v:Val} (h:getE B k=some v):(k,v)∈B:=by
 induction B with
 | nil=>cases h
 | cons e r ih=>
   rw [getE] at h
   by_cases he:e.1=k
   ·rw [if_pos he] at h
    injection h with h
    subst he h
    exact List.mem_cons_self ..
   rw [if_neg he] at h
   exact List.mem_cons_of_mem _ (ih h)
theorem mem_keysE {P:ByteArray→Bool} {M:List Ent} (hs:Sorted M) {k:ByteArray}:k∈keysE P M↔P k=true∧(getE M k).isSome=true:=by
 simp only [keysE,List.mem_map,List.mem_filter]
 constructor
 ·rintro ⟨e,⟨he,hp⟩,rfl⟩
  exact ⟨hp,by rw [getE_mem hs he];rfl⟩
 rintro ⟨hp,h⟩
 obtain ⟨v,hv⟩:=Option.isSome_iff_exists.1 h
 exact ⟨(k,v),⟨mem_getE hv,hp⟩,rfl⟩
theorem keysE_rise {P:ByteArray→Bool} {M:List Ent} (hs:Sorted M):(keysE P M).Pairwise fun x y=>klt x y=true:=
 List.pairwise_map.2 (hs.sublist (List.filter_sublist ..))
structure SV where
 has:Bool
 v:Val
 sl:Sl
 so:Sl
abbrev SV.cells (s:SV):Array Value:=#[.bool s.has,.int .i64 s.v.kind,.bool s.v.b,.int .i64 s.v.i,.string s.v.t,.slice s.sl.a s.v.l.length s.sl.c,.slice s.so.a s.v.ok.length s.so.c]
abbrev SV.val (s:SV):Value:=.agg s.cells
def SV.opt (s:SV):Option Val:=if s.has then some s.v else none
def optA (C:AL SV):Slots:=C.map fun p=>(p.1,p.2.opt)
theorem getA_opt (k:ByteArray):∀ C:AL SV,getA (optA C) k=(getA C k).map SV.opt
 | []=>rfl
 | e :: r=>by
   have ih:=getA_opt k r
   unfold optA at ih ⊢
   rw [List.map_cons,getA,getA,ih]
   split <;> rfl
theorem sorted_opt {C:AL SV} (h:SortedA C):SortedA (optA C):=List.pairwise_map.2 h
theorem optA_put (C:AL SV) (k:ByteArray) (s:SV) (x:ByteArray):getA (optA (putA C k s)) x=if x=k then some s.opt else getA (optA C) x:=by
 rw [getA_opt,getA_put,getA_opt]
 split <;> rfl
structure UD where
 k:ByteArray
 old:Option SV
def undo1 (u:UD) (C:AL SV):AL SV:=match u.old with
 | some o=>putA C u.k o
 | none=>delA C u.k
theorem undo1_put {C:AL SV} (h:SortedA C) {k:ByteArray} (s:SV):undo1 ⟨k,getA C k⟩ (putA C k s)=C:=by
 unfold undo1
 cases ho:getA C k with
 | some o=>exact putA_undo h ho
 | none=>exact delA_undo h ho
theorem undo1_sorted {C:AL SV} (h:SortedA C) (u:UD):SortedA (undo1 u C):=by
 unfold undo1
 split
 ·exact putA_sorted h _ _
 exact delA_sorted h _
def backA (us:List UD) (C:AL SV) (m:Nat):AL SV:=(us.drop m).foldr undo1 C
theorem backA_end (us:List UD) (C:AL SV):backA us C us.length=C:=by simp [backA]
theorem backA_step {us:List UD} {C:AL SV} {m:Nat} {u:UD} (h:us[m]? = some u):backA us C m=undo1 u (backA us C (m+1)):=by
 obtain ⟨hm,rfl⟩:=List.getElem?_eq_some_iff.1 h
 unfold backA
 rw [List.drop_eq_getElem_cons hm]
 rfl
structure Chain (us:List UD) (H:List (AL SV)):Prop where
 len:H.length=us.length+1
 step:∀ i u,us[i]? = some u→∃ (C:AL SV) (s:SV),H[i]? = some C∧SortedA C∧u.old=getA C u.k∧H[i+1]? = some (putA C u.k s)
theorem Chain.nil (C:AL SV):Chain [] [C]:=⟨rfl,fun i u h=>by simp at h⟩
theorem Chain.snoc {us:List UD} {H:List (AL SV)} {C:AL SV} (h:Chain us (H++[C])) (hs:SortedA C) (k:ByteArray) (s:SV):Chain (us++[⟨k,getA C k⟩]) (H++[C]++[putA C k s]):=by
 have hl:=h.len
 rw [List.length_append,List.length_singleton] at hl
 refine ⟨by simp;omega,fun i u hi=>?_⟩
 rcases Nat.lt_trichotomy i us.length with hlt | heq | hgt
 ·rw [List.getElem?_append_left hlt] at hi
  obtain ⟨C',s',h1,h2,h3,h4⟩:=h.step i u hi
  exact ⟨C',s',by rw [List.getElem?_append_left (by simp;omega)];exact h1,h2,h3,by rw [List.getElem?_append_left (by simp;omega)];exact h4⟩
 ·subst heq
  rw [List.getElem?_append_right (Nat.le_refl _),Nat.sub_self] at hi
  injection hi with hi
  subst hi
  refine ⟨C,s,?_,hs,rfl,?_⟩
  ·rw [List.getElem?_append_left (by simp;omega),List.getElem?_append_right (by omega),show us.length - H.length=0 by omega];rfl
  rw [List.getElem?_append_right (by simp;omega),show us.length+1 - (H++[C]).length=0 by simp;omega];rfl
 rw [List.getElem?_eq_none (by simp;omega)] at hi
 cases hi
theorem Chain.back {us:List UD} {H:List (AL SV)} {C:AL SV} (h:Chain us H) (hC:H[us.length]? = some C):∀ d m,m+d=us.length→H[m]? = some (backA us C m)
 | 0,m,hm=>by
   obtain rfl:m=us.length:=by omega
   rw [backA_end];exact hC
 | d+1,m,hm=>by
   have hlt:m<us.length:=by omega
   have hu:=List.getElem?_eq_getElem hlt
   obtain ⟨C',s,h1,h2,h3,h4⟩:=h.step m _ hu
   have ih:=h.back hC d (m+1) (by omega)
   rw [h4] at ih
   injection ih with ih
   rw [h1,backA_step hu,←ih]
   congr 1
   have:=undo1_put h2 (k:=(us[m]'hlt).k) s
   rw [←h3] at this
   exact this.symm
theorem Chain.take {us:List UD} {H:List (AL SV)} (h:Chain us H) {m:Nat} (hm:m≤us.length):Chain (us.take m) (H.take (m+1)):=by
 refine ⟨by rw [List.length_take,List.length_take,h.len];omega,fun i u hi=>?_⟩
 have him:i<m:=by
  have:=(List.getElem?_eq_some_iff.1 hi).1
  rw [List.length_take] at this;omega
 rw [List.getElem?_take_of_lt him] at hi
 obtain ⟨C,s,h1,h2,h3,h4⟩:=h.step i u hi
 exact ⟨C,s,by rw [List.getElem?_take_of_lt (by omega)];exact h1,h2,h3,by rw [List.getElem?_take_of_lt (by omega)];exact h4⟩
theorem backA_sorted {C:AL SV} (h:SortedA C) (us:List UD) (m:Nat):SortedA (backA us C m):=by
 unfold backA
 induction us.drop m with
 | nil=>exact h
 | cons u r ih=>exact undo1_sorted ih u
theorem ext_obj (w:World) (o:Obj) (h:∀ (W:World) (i j:Nat),W.heap[i]? = some o→W.frozen? ⟨i,j,none⟩=false):Ext w (w.alloc o):=by
 refine ⟨(Below.refl _ _).alloc (Nat.le_refl _) _,fun b j hb=>?_⟩
 by_cases hb':b=w.heap.size
 ·subst hb'
  exact h _ _ _ (World.alloc_heap_new w o)
 exact frozen_none (by simp;omega)
structure Turned (B:Nat) (W W':World):Prop where
 os:W'.os=W.os
 tape:W'.tape=W.tape
 output:W'.output=W.output
 size:W'.heap.size=W.heap.size
 block:∀ b,(b<B∨∃ o,W.heap[b]? = some o∧o.isCells=true)→W'.heap[b]? = W.heap[b]?
 fz:∀ b o,W'.frozen? ⟨b,o,none⟩=W.frozen? ⟨b,o,none⟩
theorem Turned.put {B l:Nat} {W:World} {o o':Obj} (hl:B≤l) (h:W.heap[l]? = some o) (hc:o.isCells=false) (hc':o'.isCells=false):Turned B W (W.putObj l o'):=by
 refine ⟨rfl,rfl,rfl,by simp,fun b hb=>World.putObj_heap_other ?_,fun b j=>?_⟩
 ·rintro rfl
  rcases hb with hb | ⟨o2,h2,h3⟩
  ·omega
  rw [h] at h2;cases h2;rw [hc] at h3;cases h3
 by_cases e:b=l
 ·subst e
  have h1:(W.putObj b o').heap[b]? = some o':=World.putObj_heap_same (Array.getElem?_eq_some_iff.1 h).1
  unfold World.frozen?
  simp only [h1,h]
  cases o <;> cases o' <;> first | rfl | (simp [Obj.isCells] at hc;done) | (simp [Obj.isCells] at hc';done)
 exact World.frozen?_of_block (a:=⟨b,j,none⟩) (World.putObj_heap_other e)
end Go.Proofs.YtkhdiakpdafcdaaGreatDoor
