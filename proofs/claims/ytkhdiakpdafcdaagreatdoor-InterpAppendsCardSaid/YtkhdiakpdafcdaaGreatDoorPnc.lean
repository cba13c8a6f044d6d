/- What the theorem needs of the texts InsertE, Leaf, Inner, Which, WithP, DelP, CmpP, DeleteE, DeleteN, St, With: no condition of its own. -/
import Derived.Lib.Overlaps
import Derived.Deep.RegionLaw
import Derived.Lib.AppendZerosOnto
import Derived.Deep.RegionWith
import Derived.Lib.SliceRun
import Derived.Test.YtkhdiakpdafcdaaGreatDoorPna
set_option maxRecDepth 100000
set_option maxHeartbeats 2000000
namespace Go.Proofs.YtkhdiakpdafcdaaGreatDoor
open Go.RowKit
set_option linter.unusedVariables false
set_option linter.unusedSimpArgs false
def InsPostE (base:Nat) (s:Sl) (n i:Nat) (xs ys:List Value) (w:World) (e:Ending) (w':World):Prop:=
 ∃ s':Sl,e=.returned (.slice s'.a (n+1) s'.c)∧w'.ownsRow base 71 7 (.slice s'.a (n+1) s'.c) (n+1) (xs.take (i*7)++ys++xs.drop (i*7))∧Wr w w' s.row∧(s'.row=s.row∨∃ b,s'.row=some b∧w.heap.size≤b)
section
variable {w : World} {base n i : Nat} {s : Sl} {xs ys : List Value} {vb : Nat}
theorem insE_end (hown:w.ownsRow base 71 7 (.slice s.a n s.c) n xs) (hbase:base≤w.heap.size) (hn:n≤1000) (hy:ys.length=7) (hv:Blk w vb 71 ys.toArray) (h1:∀ u∈ys,u.oneCell'=true) :
  Calls Tryz.prog 106 #[.slice s.a n s.c,.int .i64 n,.slice (some ⟨vb,0,none⟩) 1 1] w (InsPostE base s n n xs ys w):=by
 obtain ⟨i0,hi,hz0,hz1,hz2⟩:=info_parts Tryz.infoEntry
 have hsrc:Rd w (fun _=>True) 7 ⟨some ⟨vb,0,none⟩,1⟩ 1 ys:=⟨vb,0,.some _ _ _ _ (Nat.le_refl _) (by decide) trivial,by simpa using hy,fun j u hj=>by rw [hv.cell];simpa using hj⟩
 have hxs:xs.take (n*7)++ys++xs.drop (n*7)=xs++ys:=by
  rw [List.take_of_length_le (by rw [hown.1];exact Nat.le_refl _),List.drop_eq_nil_of_le (by rw [hown.1];exact Nat.le_refl _),List.append_nil]
 have HO:=Lib.hid hown
 have HS:=Lib.hid hsrc
 have H1:=Lib.hid h1
 have HX:=Lib.hid hxs
 have h63:n+1≤maxLen:=by unfold maxLen;omega
 have hcap:n≤s.c:=by
  rcases hown.2 with ⟨hv,h0⟩ | ⟨g,cap,cur,hv,_,_,hnc,_⟩
  ·omega
  simp only [Value.slice.injEq] at hv;omega
 have hnn:((n:Int) == (n:Int))=true:=by simp
 clear hown hsrc hv h1 hy hxs
 obtain ⟨sa,sc⟩:=s
 dsimp only at *
 go_enter Tryz.func106,Tryz.ntmps106
 go_wp2_with (at_builtin;refine wpList_append_x _ rfl _ _ 22 rfl base 71 i0 (.agg #[.string ByteArray.empty,.int .i64 0,.bool false,.int .i64 0,.string ByteArray.empty,.slice none 0 0,.slice none 0 0]) 7 104 Tryz.underlying22 hi hz0 hz1 hz2 rfl (by decide) ⟨sa,sc⟩ n xs rfl HO.out (fun _=>True) ⟨some ⟨vb,0,none⟩,1⟩ 1 ys rfl HS.out H1.out h63 (by omega) hbase ?_;intro s' w1 hown1 hwr hs')
 all_goals
  go_ret
  refine ⟨s',by simp,by rw [HX.out];exact hown1,hwr,?_⟩
  rcases hs' with h | ⟨h,-⟩
  ·exact .inl (by simp [Sl.row,h])
  exact .inr ⟨w.heap.size,by simp [Sl.row,h],Nat.le_refl _⟩
theorem insE_shift {g cap:Nat} {cur:Array Value} (hxl:xs.length=n*7) (hbg:base≤g) (hg:w.heap[g]? = some (.cells cur 71 (0,0))) (hroom:n+1≤cap) (hcm:cap≤maxLen) (hcs:cur.size=cap*7) (htake:cur.toList.take (n*7)=xs)
  (hn:n≤1000) (hin:i<n) (hy:ys.length=7) (hv:Blk w vb 71 ys.toArray) (hvb:vb≠g) (h1:∀ u∈ys,u.oneCell'=true) (h1x:∀ u∈xs,u.oneCell'=true) :
  Calls Tryz.prog 106 #[.slice (some ⟨g,0,none⟩) n cap,.int .i64 i,.slice (some ⟨vb,0,none⟩) 1 1] w (InsPostE base ⟨some ⟨g,0,none⟩,cap⟩ n i xs ys w):=by
 obtain ⟨i0,hi,hz0,hz1,hz2⟩:=info_parts Tryz.infoEntry
 have hne:((i:Int) == (n:Int))=false:=beq_eq_false_iff_ne.2 (by omega)
 have hin':(i:Int)<(n:Int):=by omega
 have hr':¬(cap:Int)<(n:Int)+1:=by omega
 have hcm':(cap:Int)≤9223372036854775807:=by unfold maxLen at hcm;omega
 have hc1:¬cap=i:=by omega
 have hc2:¬cap=i+1:=by omega
 have hw1:IntKind.i64.wrap ((i:Int)+1)=(i:Int)+1:=by rw [IntKind.wrap_i64];omega
 have hb1:(0:Int)≤(i:Int)+1:=by omega
 have htn:((i:Int)+1).toNat=i+1:=by omega
 have hin1:i≤n:=by omega
 have hb3:(i:Int)≤(n:Int)+1:=by omega
 have hov:∀ lb cb,(callFunc 149 #[.slice (some ⟨vb,0,none⟩) 1 1,.slice (some ⟨g,(i+1)*7,none⟩) lb cb]).run Tryz.prog w=.ok (.value (.bool false)) w:=fun lb cb=>by
  rw [run_callFunc_extern Tryz.func149 (by kernel_rfl) (by kernel_rfl) (by kernel_rfl) (e:=Extern.SlicesOverlaps.overlaps #[22,22] #[4]) (by kernel_rfl),
   Lib.run_overlaps_apart w 22 4 71 Tryz.underlying22 7 (fun w=>by simp [sizeOf,typeInfo,hi,hz1]) ⟨vb,0,none⟩ ⟨g,(i+1)*7,none⟩ 1 1 lb cb hvb 71 71 ys.toArray.size cur.size (by simp [World.shape?,show w.heap[vb]? = some (.cells ys.toArray 71 (0,0)) from hv]) (by simp [World.shape?,hg]) (by omega) (hv.frozen _) (hv.frozen _)]
  rfl
 have hd1:(xs.drop (i*7)).length=(n - i)*7:=by rw [List.length_drop,hxl,←Nat.sub_mul]
 have hxc:∀ j v,(xs.drop (i*7))[j]? = some v→w.drew.cell? ⟨g,i*7+j,none⟩=some v:=fun j v hj=>by
  rw [World.cell?_drew,cell_of_row w g _ cur 71 (0,0) hg]
  rw [List.getElem?_drop,←htake,List.getElem?_take] at hj
  split at hj
  ·simpa using hj
  cases hj
 obtain ⟨A1,hA1⟩:∃ A1,A1=(cur.toList.take ((i+1)*7)++xs.drop (i*7)++cur.toList.drop ((i+1)*7+(xs.drop (i*7)).length)).toArray:=⟨_,rfl⟩
 obtain ⟨W1,hW1⟩:∃ W1,W1=w.drew.setRow g A1:=⟨_,rfl⟩
 have hcp1:∀ ty dc sc,(Builtin.copy_ #[22,22] ty #[.slice (some ⟨g,(i+1)*7,none⟩) (n - i) dc,.slice (some ⟨g,i*7,none⟩) (n+1 - i) sc]).run Tryz.prog w.drew=.ok (goInt (Nat.min (n+1 - i) (n - i))) W1:=fun ty dc sc=>by
  rw [hW1,hA1]
  exact run_copy_x w.drew 22 22 ty 71 7 g ((i+1)*7) (n - i) dc ⟨some ⟨g,i*7,none⟩,sc⟩ (n+1 - i) cur 71 (xs.drop (i*7)) Tryz.underlying22 (by rw [hi];simp [hz1]) hg
   (by rw [hd1,show Nat.min (n+1 - i) (n - i)=n - i from by simp only [Nat.min_def];split <;> omega]) (by simp) (by rintro b o' ⟨⟩;exact hxc) (by rintro a ⟨⟩;rfl) (by rw [hd1];omega) (fun u hu=>h1x u (List.mem_of_mem_drop hu))
 have hs1:A1.size=cur.size:=by rw [hA1];simp;omega
 have hg1:W1.heap[g]? = some (.cells A1 71 (0,0)):=by rw [hW1];exact setRow_heap w.drew g cur A1 71 (0,0) hg
 have hv1:Blk W1 vb 71 ys.toArray:=by rw [hW1];exact (setRow_other w.drew g vb A1 hvb).trans hv
 obtain ⟨A2,hA2⟩:∃ A2,A2=(A1.toList.take (i*7)++ys++A1.toList.drop (i*7+ys.length)).toArray:=⟨_,rfl⟩
 obtain ⟨W2,hW2⟩:∃ W2,W2=W1.setRow g A2:=⟨_,rfl⟩
 have hcp2:∀ ty dc,(Builtin.copy_ #[22,22] ty #[.slice (some ⟨g,i*7,none⟩) (n+1 - i) dc,.slice (some ⟨vb,0,none⟩) 1 1]).run Tryz.prog W1=.ok (goInt (Nat.min 1 (n+1 - i))) W2:=fun ty dc=>by
  rw [hW2,hA2]
  exact run_copy_x W1 22 22 ty 71 7 g (i*7) (n+1 - i) dc ⟨some ⟨vb,0,none⟩,1⟩ 1 A1 71 ys Tryz.underlying22 (by rw [hi];simp [hz1]) hg1
   (by rw [hy,show Nat.min 1 (n+1 - i)=1 from by simp only [Nat.min_def];split <;> omega]) (by simp) (by rintro b o' ⟨⟩;exact fun j v hj=>by rw [hv1.cell];simpa using hj) (by rintro a ⟨⟩;rfl) (by omega) h1
 have hg2:W2.heap[g]? = some (.cells A2 71 (0,0)):=by rw [hW2];exact setRow_heap W1 g A1 A2 71 (0,0) hg1
 have hwr:Wr w W2 (some g):=by
  rw [hW2,hW1]
  exact ((Wr.refl w (some g)).drew.trans (Wr.setRow w.drew A1) (fun i hi=>.inl hi)).trans (Wr.setRow (w.drew.setRow g A1) A2) (fun i hi=>.inl hi)
 have hfin:W2.ownsRow base 71 7 (.slice (some ⟨g,0,none⟩) (n+1) cap) (n+1) (xs.take (i*7)++ys++xs.drop (i*7)):=by
  refine ⟨by simp [hxl,hy];omega,.inr ⟨g,cap,A2,rfl,hbg,hg2,hroom,hcm,by rw [hA2];simp;omega,?_⟩⟩
  rw [hA2,hA1]
  exact shift_list cur.toList xs ys (i*7) (n*7) 7 _ _ _ _ _ htake.symm hy (by omega) (by rw [Array.length_toList];omega) (by omega) rfl (by omega) (by omega) (by omega)
 have HF:=Lib.hid hfin
 have HW:=Lib.hid hwr
 clear hfin hwr hg2 hg1 hv1 hs1 hW2 hW1 hA2 hA1 hxc hd1 hg hv h1 h1x hxl htake hcs
 go_enter Tryz.func106,Tryz.ntmps106
 go_wp2_with (simp only [hov])
 go_region_law (refine step_copy_x _ rfl _ _ 22 22 rfl _ _ (by simp [Act.eval,Act.put]) (by simp [Act.eval,Act.put]) (hcp1 _ _ _) ?_)
 go_wp2_with (at_builtin;refine wpList_copy_x _ rfl _ _ 22 22 rfl _ _ rfl rfl (hcp2 _ _) ?_)
 go_ret
 exact ⟨⟨some ⟨g,0,none⟩,cap⟩,rfl,HF.out,HW.out,.inl rfl⟩
theorem insE_grow {g cap:Nat} {cur:Array Value} (hxl:xs.length=n*7) (hbase:base≤w.heap.size) (hg:w.heap[g]? = some (.cells cur 71 (0,0))) (hnc:n≤cap) (hroom:cap<n+1) (hcs:cur.size=cap*7) (htake:cur.toList.take (n*7)=xs)
  (hn:n≤1000) (hin:i<n) (hy:ys.length=7) (hv:Blk w vb 71 ys.toArray) (hvb:vb≠g) (h1:∀ u∈ys,u.oneCell'=true) (h1x:∀ u∈xs,u.oneCell'=true) :
  Calls Tryz.prog 106 #[.slice (some ⟨g,0,none⟩) n cap,.int .i64 i,.slice (some ⟨vb,0,none⟩) 1 1] w (InsPostE base ⟨some ⟨g,0,none⟩,cap⟩ n i xs ys w):=by
 obtain ⟨i0,hi,hz0,hz1,hz2⟩:=info_parts Tryz.infoEntry
 have hne:((i:Int) == (n:Int))=false:=beq_eq_false_iff_ne.2 (by omega)
 have hin':(i:Int)<(n:Int):=by omega
 have hr':(cap:Int)<(n:Int)+1:=by omega
 have hc1:¬cap=i:=by omega
 have hw1:IntKind.i64.wrap ((i:Int)+1)=(i:Int)+1:=by rw [IntKind.wrap_i64];omega
 have hb1:(0:Int)≤(i:Int)+1:=by omega
 have htn:((i:Int)+1).toNat=i+1:=by omega
 have hin1:i≤n:=by omega
 have hb3:(i:Int)≤(n:Int):=by omega
 have hb4:(i:Int)+1≤(n:Int)+1:=by omega
 have hgl:g<w.heap.size:=lt_of_block hg
 have hvl:vb<w.heap.size:=hv.lt
 obtain ⟨G,hG⟩:∃ G,G=grownCap w (n+1) cap 71:=⟨_,rfl⟩
 have hGn:n+1≤G:=by rw [hG];exact grownCap_ge w _ _ _
 have hG63:G≤9223372036854775807:=by
  have:=grownCap_le_maxLen w (n+1) cap 71 (by unfold maxLen;omega)
  rw [←hG] at this
  unfold maxLen at this
  omega
 have hik:i+(n+1 - i)=n+1:=by omega
 obtain ⟨ROW,hROW⟩:∃ ROW:Array Value,ROW=(xs.take (i*7)).toArray++Builtin.zeroCells ((.agg #[.string ByteArray.empty,.int .i64 0,.bool false,.int .i64 0,.string ByteArray.empty,.slice none 0 0,.slice none 0 0]):Value).cells (n+1 - i)++Builtin.zeroCells ((.agg #[.string ByteArray.empty,.int .i64 0,.bool false,.int .i64 0,.string ByteArray.empty,.slice none 0 0,.slice none 0 0]):Value).cells (G - (n+1)):=⟨_,rfl⟩
 have hRs:ROW.size=G*7:=by
  rw [hROW]
  simp only [Array.size_append,List.size_toArray,size_zeroCells,List.length_take,hxl]
  rw [show ((.agg #[.string ByteArray.empty,.int .i64 0,.bool false,.int .i64 0,.string ByteArray.empty,.slice none 0 0,.slice none 0 0]):Value).cells.size=7 from rfl]
  omega
 have hRt:ROW.toList.take (i*7)=xs.take (i*7):=by
  rw [hROW]
  simp only [Array.toList_append,List.append_assoc]
  rw [List.take_append_of_le_length (by simp [hxl];omega),List.take_of_length_le (by simp;omega)]
 obtain ⟨W1,hW1⟩:∃ W1,W1=w.drew.alloc (.cells ROW 71):=⟨_,rfl⟩
 have hrz:∀ ty,(Builtin.append_ #[22,3] ty #[.slice (some ⟨g,0,none⟩) i cap,.int .i64 ((n:Int)+1 - (i:Int))]).run Tryz.prog w=.ok (.slice (some ⟨w.heap.size,0,none⟩) (n+1) G) W1:=fun ty=>by
  have hold:(Builtin.firstCells i0.size i (.slice (some ⟨g,0,none⟩) i cap)).run Tryz.prog w.drew=.ok (xs.take (i*7)).toArray w.drew:=by
   rw [hz1]
   exact run_firstCells_some w.drew 7 i ⟨g,0,none⟩ i cap (xs.take (i*7)) (by rw [List.length_take];omega) (fun j v hj=>by
    rw [add_at,Nat.zero_add,World.cell?_drew,cell_of_row w g _ cur 71 (0,0) hg]
    rw [List.getElem?_take] at hj
    split at hj
    ·rw [←htake,List.getElem?_take] at hj
     split at hj
     ·simpa using hj
     cases hj
    cases hj)
  have h:=Lib.run_append_grow_zeros w 22 3 ty 71 i0 _ .i64 .i64 Tryz.underlying22 Tryz.underlying3 hi hz0 (some ⟨g,0,none⟩) i cap (xs.take (i*7)) hold (n+1 - i) (by omega) (by omega) (by omega) (by omega) (by rw [hz2];omega) (by rw [hz2,hik];exact growslice_fits hroom (by omega))
  rw [hik,←hG,←hROW,←hW1] at h
  rw [show (n:Int)+1 - (i:Int)=((n+1 - i:Nat):Int) from by omega]
  exact h
 have hg1:W1.heap[w.heap.size]? = some (.cells ROW 71 (0,0)):=by rw [hW1];exact heap_alloc_new w.drew _
 have hb1o:∀ k,k<w.heap.size→W1.heap[k]? = w.heap[k]?:=fun k hk=>by rw [hW1];exact Below.heap_alloc w.drew _ k hk
 have hv1:Blk W1 vb 71 ys.toArray:=(hb1o vb hvl).trans hv
 obtain ⟨A1,hA1⟩:∃ A1,A1=(ROW.toList.take (i*7)++ys++ROW.toList.drop (i*7+ys.length)).toArray:=⟨_,rfl⟩
 have hs1:A1.size=G*7:=by rw [hA1];simp;omega
 obtain ⟨W2,hW2⟩:∃ W2,W2=W1.setRow w.heap.size A1:=⟨_,rfl⟩
 have hcpA:∀ ty dc,(Builtin.copy_ #[22,22] ty #[.slice (some ⟨w.heap.size,i*7,none⟩) (n+1 - i) dc,.slice (some ⟨vb,0,none⟩) 1 1]).run Tryz.prog W1=.ok (goInt (Nat.min 1 (n+1 - i))) W2:=fun ty dc=>by
  rw [hW2,hA1]
  exact run_copy_x W1 22 22 ty 71 7 w.heap.size (i*7) (n+1 - i) dc ⟨some ⟨vb,0,none⟩,1⟩ 1 ROW 71 ys Tryz.underlying22 (by rw [hi];simp [hz1]) hg1
   (by rw [hy,show Nat.min 1 (n+1 - i)=1 from by simp only [Nat.min_def];split <;> omega]) (by simp) (by rintro b o' ⟨⟩;exact fun j v hj=>by rw [hv1.cell];simpa using hj) (by rintro a ⟨⟩;rfl) (by omega) h1
 have hg2:W2.heap[w.heap.size]? = some (.cells A1 71 (0,0)):=by rw [hW2];exact setRow_heap W1 _ ROW A1 71 (0,0) hg1
 have hb2o:∀ k,k<w.heap.size→W2.heap[k]? = w.heap[k]?:=fun k hk=>by rw [hW2];exact (setRow_other W1 _ k A1 (by omega)).trans (hb1o k hk)
 have hd1:(xs.drop (i*7)).length=(n - i)*7:=by rw [List.length_drop,hxl,←Nat.sub_mul]
 have hxc:∀ j v,(xs.drop (i*7))[j]? = some v→W2.drew.cell? ⟨g,i*7+j,none⟩=some v:=fun j v hj=>by
  rw [World.cell?_drew,cell_of_row W2 g _ cur 71 (0,0) ((hb2o g hgl).trans hg)]
  rw [List.getElem?_drop,←htake,List.getElem?_take] at hj
  split at hj
  ·simpa using hj
  cases hj
 obtain ⟨A2,hA2⟩:∃ A2,A2=(A1.toList.take ((i+1)*7)++xs.drop (i*7)++A1.toList.drop ((i+1)*7+(xs.drop (i*7)).length)).toArray:=⟨_,rfl⟩
 obtain ⟨W3,hW3⟩:∃ W3,W3=W2.drew.setRow w.heap.size A2:=⟨_,rfl⟩
 have hcpB:∀ ty dc sc,(Builtin.copy_ #[22,22] ty #[.slice (some ⟨w.heap.size,(i+1)*7,none⟩) (n - i) dc,.slice (some ⟨g,i*7,none⟩) (n - i) sc]).run Tryz.prog W2.drew=.ok (goInt (Nat.min (n - i) (n - i))) W3:=fun ty dc sc=>by
  rw [hW3,hA2]
  exact run_copy_x W2.drew 22 22 ty 71 7 w.heap.size ((i+1)*7) (n - i) dc ⟨some ⟨g,i*7,none⟩,sc⟩ (n - i) A1 71 (xs.drop (i*7)) Tryz.underlying22 (by rw [hi];simp [hz1]) hg2
   (by rw [hd1,show Nat.min (n - i) (n - i)=n - i from by simp]) (by simp) (by rintro b o' ⟨⟩;exact hxc) (by rintro a ⟨⟩;rfl) (by rw [hd1];omega) (fun u hu=>h1x u (List.mem_of_mem_drop hu))
 have hg3:W3.heap[w.heap.size]? = some (.cells A2 71 (0,0)):=by rw [hW3];exact setRow_heap W2.drew _ A1 A2 71 (0,0) hg2
 have hwr:Wr w W3 (some g):=by
  rw [hW3,hW2,hW1]
  exact (((((Wr.refl w (some g)).drew).alloc ROW 71).trans (Wr.setRow _ A1) (fun i hi=>.inr (by injection hi with hi;omega))).drew).trans (Wr.setRow _ A2) (fun i hi=>.inr (by injection hi with hi;omega))
 have hfin:W3.ownsRow base 71 7 (.slice (some ⟨w.heap.size,0,none⟩) (n+1) G) (n+1) (xs.take (i*7)++ys++xs.drop (i*7)):=by
  refine ⟨by simp [hxl,hy];omega,.inr ⟨w.heap.size,G,A2,rfl,hbase,hg3,hGn,by unfold maxLen;omega,by rw [hA2];simp;omega,?_⟩⟩
  rw [hA2,hA1]
  exact grow_list ROW.toList xs ys (i*7) (n*7) 7 _ _ _ _ _ hRt hxl hy (by omega) (by rw [Array.length_toList];omega) (by omega) rfl (by omega) (by omega) (by omega)
 have HF:=Lib.hid hfin
 have HW:=Lib.hid hwr
 clear hfin hwr hg3 hg2 hg1 hv1 hs1 hW3 hW2 hW1 hA2 hA1 hxc hd1 hg hv h1 h1x hxl htake hcs hb1o hb2o hRt hRs hROW hG hik
 have hGi:¬(G=i):=by omega
 have hGim:¬(G=i+1):=by omega
 go_enter Tryz.func106,Tryz.ntmps106
 go_wp2_with (first
  | (at_builtin;refine wpList_append_run _ rfl _ _ 22 3 rfl _ _ rfl rfl (hrz _) ?_)
  | (at_builtin;refine wpList_copy_x _ rfl _ _ 22 22 rfl _ _ rfl rfl (hcpA _ _) ?_))
 go_region_law (refine step_copy_x _ rfl _ _ 22 22 rfl _ _ (by simp [Act.eval,Act.put]) (by simp [Act.eval,Act.put]) (hcpB _ _ _) ?_)
 go_wp2
 go_ret
 exact ⟨⟨some ⟨w.heap.size,0,none⟩,G⟩,rfl,HF.out,HW.out,.inr ⟨_,rfl,Nat.le_refl _⟩⟩
theorem insE_any (hown:w.ownsRow base 71 7 (.slice s.a n s.c) n xs) (hbase:base≤w.heap.size) (hn:n≤1000) (hin:i≤n) (hy:ys.length=7) (hv:Blk w vb 71 ys.toArray) (hvb:s.row≠some vb) (h1:∀ u∈ys,u.oneCell'=true) (h1x:∀ u∈xs,u.oneCell'=true) :
  Calls Tryz.prog 106 #[.slice s.a n s.c,.int .i64 i,.slice (some ⟨vb,0,none⟩) 1 1] w (InsPostE base s n i xs ys w):=by
 by_cases he:i=n
 ·subst he;exact insE_end hown hbase hn hy hv h1
 rcases hown.2 with ⟨hs,h0⟩ | ⟨g,cap,cur,hs,hbg,hg,hnc,hcm,hcs,htake⟩
 ·omega
 simp only [Value.slice.injEq] at hs
 obtain ⟨ha,-,hc⟩:=hs
 have hne:vb≠g:=fun e=>hvb (by simp [Sl.row,ha,e])
 have hs':s=⟨some ⟨g,0,none⟩,cap⟩:=by cases s;simp_all
 have hl:=hown.1
 clear hown
 subst hs'
 by_cases hr:n+1≤cap
 ·exact insE_shift hl hbg hg hr hcm hcs htake hn (by omega) hy hv hne h1 h1x
 exact insE_grow hl hbase hg hnc (by omega) hcs htake hn (by omega) hy hv hne h1 h1x
end
theorem leaf1_any (k:ByteArray) (v:Val) (sl so:Sl) (k':ByteArray) (v':Val) (sl' so':Sl) (w:World) :
  Calls Tryz.prog 203 #[aggE k v sl so,aggE k' v' sl' so'] w fun e w'=>e=.returned (.bool (klt k k'))∧Ext w w':=by
 go_enter Tryz.func203,Tryz.ntmps203
 go_wp2
 go_ret
 exact ⟨rfl,((Ext.refl w).alloc _ _).alloc _ _⟩
def risingN (xs:List LE):Prop:=∀ i x y,xs[i]? = some x→xs[i+1]? = some y→klt x.k y.k=true
theorem rising_any {w:World} {s:Sl} {xs:List LE} (hs:ES w (Lt w.heap.size) s xs) (hr:risingN xs) :
  Calls Tryz.prog 202 #[.slice s.a xs.length s.c,.func (.func 203) #[] #[]] w fun e w'=>e=.returned (.bool true)∧Ext w w':=by
 have hfew:=hs.few
 have HS:=Lib.hid hs
 have HR:=Lib.hid hr
 clear hs hr
 go_enter Tryz.func202,Tryz.ntmps202
 go_wp2_with fail
 go_loopw [5] (fun q wr=>∃ m:Nat,(m+1≤xs.length∨m=0)∧q=.int .i64 ((m:Int)+1)∧Ext w wr) (fun q _=>xs.length - (intOf q).toNat)
 case atStart=>exact ⟨0,.inr rfl,rfl,Ext.refl _⟩
 obtain ⟨m,hj,rfl,hx⟩:=hrel
 by_cases hlt:m+1<xs.length
 ·obtain ⟨x,hxm⟩:∃ x,xs[m]? = some x:=⟨_,List.getElem?_eq_getElem (by omega)⟩
  obtain ⟨y,hym⟩:∃ y,xs[m+1]? = some y:=⟨_,List.getElem?_eq_getElem hlt⟩
  obtain ⟨b,o,ha,hbo,hlc,hcm,hk0,hv,-⟩:=HS.out.at hxm
  obtain ⟨b',o',ha',-,-,-,hk0',hv',-⟩:=HS.out.at hym
  rw [ha] at ha'
  simp only [Option.some.injEq,Addr.mk.injEq,and_true] at ha'
  obtain ⟨rfl,rfl⟩:=ha'
  have hag:Agree (Lt w.heap.size) w wr:=hx.agree fun _ h=>h
  obtain ⟨v0,v1,v2,v3,v4,v5⟩:=(hv.agree hag hbo).m
  have vk:=(hag.cell hbo).trans hk0
  obtain ⟨u0,u1,u2,u3,u4,u5⟩:=(hv'.agree hag hbo).m
  have uk:=(hag.cell hbo).trans hk0'
  have hkk:=HR.out m x y hxm hym
  have HK:=Lib.hid hkk
  rw [ha]
  have hm1:(m:Int)+1<(xs.length:Int):=by omega
  have hm0:(m:Int)<(xs.length:Int):=by omega
  have hw1:IntKind.i64.wrap (m:Int)=(m:Int):=by rw [IntKind.wrap_i64];omega
  have hm2:(0:Int)≤(m:Int)+1:=by omega
  have ht2:((m:Int)+1).toNat=m+1:=by omega
  clear hxm hym hk0 hk0' hv hv' hag ha hkk
  go_wp2_with fail
  have hbw:b<wr.heap.size:=Nat.lt_of_lt_of_le hbo hx.size
  go_region_held3 (fun w'=>w'.cell? ⟨b,o+m*7,none⟩=some (.string x.k)∧w'.cell? ⟨b,o+m*7+1,none⟩=some (.int .i64 x.v.kind)∧w'.cell? ⟨b,o+m*7+2,none⟩=some (.bool x.v.b)∧w'.cell? ⟨b,o+m*7+3,none⟩=some (.int .i64 x.v.i)∧w'.cell? ⟨b,o+m*7+4,none⟩=some (.string x.v.t)∧w'.cell? ⟨b,o+m*7+5,none⟩=some (.slice x.sl.a x.v.l.length x.sl.c)∧w'.cell? ⟨b,o+m*7+6,none⟩=some (.slice x.so.a x.v.ok.length x.so.c)∧w'.cell? ⟨b,o+(m+1)*7,none⟩=some (.string y.k)∧w'.cell? ⟨b,o+(m+1)*7+1,none⟩=some (.int .i64 y.v.kind)∧w'.cell? ⟨b,o+(m+1)*7+2,none⟩=some (.bool y.v.b)∧w'.cell? ⟨b,o+(m+1)*7+3,none⟩=some (.int .i64 y.v.i)∧w'.cell? ⟨b,o+(m+1)*7+4,none⟩=some (.string y.v.t)∧w'.cell? ⟨b,o+(m+1)*7+5,none⟩=some (.slice y.sl.a y.v.l.length y.sl.c)∧w'.cell? ⟨b,o+(m+1)*7+6,none⟩=some (.slice y.so.a y.v.ok.length y.so.c)) (go_keep)
   ((go_at_call 203;refine (leaf1_any _ _ _ _ _ _ _ _ _).mono ?_;rintro e w' ⟨rfl,hx'⟩;have ho':∀ o',w'.cell? ⟨b,o',none⟩=wr.cell? ⟨b,o',none⟩:=fun o'=>hx'.cell hbw))
  have hX:=hx.trans ((Ext.refl wr).drew.trans hx')
  have HX:=Lib.hid hX
  clear hX ho'
  rw [HK.out]
  go_wp2_with fail
  go_roundw
  case rel=>exact ⟨m+1,.inl (by omega),by go_num,HX.out⟩
  simp [intOf];omega
 go_wp2_with fail
 go_ret
 exact ⟨rfl,hx⟩
theorem leaf_made {w w2 w3:World} {s':Sl} {xs xs':List LE} {a:Nat} {f l:ByteArray} (hX:Ext w w2) (hx:Ext w2 w3) (hm:xs'.map LE.ent=xs.map LE.ent) {B:Nat} (hB:w.heap.size≤B) (ho:OE w2 B s' xs')
  (ha:w2.heap.size≤a) (hf:f=firstK (xs.map LE.ent)) (hl:l=lastK (xs.map LE.ent)) (hb:Blk w3 a 154 #[.slice s'.a xs'.length s'.c,.slice none 0 0,.int .i64 0,.int .i64 xs'.length,.string f,.string l,.bool false]) :
  IsN w3 (In w.heap.size w3.heap.size) 0 (a,xs.map LE.ent):=
 ⟨⟨Nat.le_trans hX.size ha,hb.lt⟩,s',xs',by subst hf hl;exact hb,(ho.es.agree (hx.agree fun _ h=>h.2)).mono fun _ h=>⟨Nat.le_trans hB h.1,Nat.lt_of_lt_of_le h.2 hx.size⟩,hm⟩
def LeafPost (es:List Ent) (w:World) (e:Ending) (w':World):Prop:=
 ∃ a:Nat,e=.returned (.tuple #[.pointer (some ⟨a,0,none⟩),.int .i64 0])∧w.heap.size≤a∧IsN w' (In w.heap.size w'.heap.size) 0 (a,es)∧Ext w w'
theorem nleaf_any {w:World} {s:Sl} {xs:List LE} (hs:ES w (Lt w.heap.size) s xs) (hr:risingN xs) (h8:xs.length≤8) :
  Calls Tryz.prog 151 #[.slice s.a xs.length s.c] w (LeafPost (xs.map LE.ent) w):=by
 have HS:=Lib.hid hs
 have hri:=rising_any hs hr
 have hg:¬(8:Int)<(xs.length:Int):=by omega
 have hg':decide ((8:Int)<(xs.length:Int))=false:=by simp;omega
 have hco:∀ W,Ext w W→Calls Tryz.prog 147 #[.slice s.a xs.length s.c] W (CopiesPost xs W):=fun W hW=>
  copies_any ((HS.out.agree (hW.agree fun _ h=>h)).mono fun i hi=>Nat.lt_of_lt_of_le hi hW.size)
 have HC:=Lib.hid hco
 clear hs hco hr
 go_enter Tryz.func151,Tryz.ntmps151
 go_wp2_with fail
 refine hri.mono ?_
 rintro e w1 ⟨rfl,hx1⟩
 go_wp2_with fail
 refine (HC.out w1 hx1).mono ?_
 rintro e w2 ⟨s',xs',rfl,hm,ho,hx2⟩
 have HM:=Lib.hid hm
 have HO:=Lib.hid ho
 have hlen:xs'.length=xs.length:=by have:=congrArg List.length hm;simpa using this
 have HL:=Lib.hid hlen
 have hX:=hx1.trans hx2
 have HX:=Lib.hid hX
 have hsz:=hx1.size
 by_cases h0:0<xs.length
 ·obtain ⟨x,hxx⟩:∃ x,xs[0]? = some x:=⟨_,List.getElem?_eq_getElem h0⟩
  obtain ⟨y,hyy⟩:∃ y,xs[xs.length - 1]? = some y:=⟨_,List.getElem?_eq_getElem (by omega)⟩
  obtain ⟨b,o,ha,hbo,hlc,hcm,hk0,-⟩:=HS.out.at hxx
  obtain ⟨b',o',ha',-,-,-,hk1,-⟩:=HS.out.at hyy
  rw [ha] at ha'
  simp only [Option.some.injEq,Addr.mk.injEq,and_true] at ha'
  obtain ⟨rfl,rfl⟩:=ha'
  rw [Nat.zero_mul,Nat.add_zero] at hk0
  have vk:=(hX.cell hbo).trans hk0
  have vl:=(hX.cell hbo).trans hk1
  have hbw:b<w2.heap.size:=Nat.lt_of_lt_of_le hbo hX.size
  have hf:firstK (xs.map LE.ent)=x.k:=by rw [firstK,List.head?_map,List.head?_eq_getElem?,hxx];rfl
  have hl:lastK (xs.map LE.ent)=y.k:=by rw [lastK,List.getLast?_map,List.getLast?_eq_getElem?,hyy];rfl
  have HFL:=Lib.hid (And.intro hf hl)
  have hw1:IntKind.i64.wrap ((xs.length:Int) - 1)=(xs.length:Int) - 1:=by rw [IntKind.wrap_i64];omega
  have hm2:(0:Int)≤(xs.length:Int) - 1:=by omega
  have hm3:(xs.length:Int) - 1<(xs.length:Int):=by omega
  have hm4:(0:Int)<(xs.length:Int):=by omega
  have ht2:((xs.length:Int) - 1).toNat=xs.length - 1:=by omega
  rw [ha]
  clear hm ho hri hlen hX hxx hyy hk0 hk1 ha hf hl hx1 hx2
  go_wp2_with fail
  go_region
  all_goals go_wp2_with fail
  all_goals go_ret2
  refine ⟨w2.heap.size,rfl,HX.out.size,?_,(HX.out.alloc _ _).drew⟩
  refine leaf_made HX.out (((Ext.refl w2).alloc _ _).drew) HM.out hsz HO.out (Nat.le_refl _) HFL.out.1.symm HFL.out.2.symm ?_
  rw [HL.out]
  exact Blk.new _ _ _
 have hxs:xs=[]:=List.eq_nil_of_length_eq_zero (by omega)
 subst hxs
 clear hm ho hri hX hx1 hx2
 go_wp2_with fail
 go_ret2
 refine ⟨w2.heap.size,rfl,HX.out.size,?_,HX.out.alloc _ _⟩
 refine leaf_made HX.out ((Ext.refl w2).alloc _ _) HM.out hsz HO.out (Nat.le_refl _) (f:=ByteArray.empty) (l:=ByteArray.empty) rfl rfl ?_
 rw [HL.out]
 exact Blk.new _ _ _
def LeafPost1 (es:List Ent) (w:World) (e:Ending) (w':World):Prop:=
 ∃ t:PT 0,e=.returned (ptr 0 t)∧t.2=es∧w.heap.size≤addr 0 t∧IsN w' (In w.heap.size w'.heap.size) 0 t∧Ext w w'
theorem tleaf_any {w:World} {s:Sl} {n:Nat} {xs:List LE} (hs:ES w (Lt w.heap.size) s xs) (hn:n=xs.length) (hr:risingN xs) (h8:xs.length≤8) :
  Calls Tryz.prog 108 #[.slice s.a n s.c] w (LeafPost1 (xs.map LE.ent) w):=by
 subst hn
 have hc:=nleaf_any hs hr h8
 clear hs hr
 go_enter Tryz.func108,Tryz.ntmps108
 go_wp2_with fail
 refine hc.mono ?_
 rintro e w' ⟨a,rfl,h1,h2,h3⟩
 have H2:=Lib.hid h2
 clear h2
 go_wp2_with fail
 go_ret
 exact ⟨(a,xs.map LE.ent),rfl,rfl,h1,H2.out,h3⟩
theorem Rd.take {w:World} {F:Nat→Prop} {size n:Nat} {s:Sl} {cs:List Value} (h:Rd w F size s n cs) {m:Nat} (hm:m≤n):Rd w F size s m (cs.take (m*size)):=by
 obtain ⟨b,o,h1,h2,h3⟩:=h
 have hms:m*size≤n*size:=Nat.mul_le_mul_right _ hm
 refine ⟨b,o,?_,by rw [List.length_take];omega,fun j u hj=>h3 j u ?_⟩
 ·cases h1 with
  | nil=>have:m=0:=by omega
         subst this;exact .nil _ _
  | some _ c _ _ h hc hb=>exact .some _ c _ _ (by omega) hc hb
  | zero a=>have:m=0:=by omega
            subst this;exact .zero a _ _
 rw [List.getElem?_take] at hj
 split at hj
 ·exact hj
 cases hj
theorem Rd.drop {w:World} {F:Nat→Prop} {size n b o c:Nat} {cs:List Value} (h:Rd w F size ⟨some ⟨b,o,none⟩,c⟩ n cs) {m:Nat} (hm:m≤n):Rd w F size ⟨some ⟨b,o+m*size,none⟩,c - m⟩ (n - m) (cs.drop (m*size)):=by
 obtain ⟨b',o',h1,h2,h3⟩:=h
 cases h1 with
 | some _ _ _ _ h hc hb=>
   refine ⟨b,o+m*size,.some _ _ _ _ (by omega) (by omega) hb,by rw [List.length_drop,h2,←Nat.sub_mul],fun j u hj=>?_⟩
   rw [List.getElem?_drop] at hj
   rw [Nat.add_assoc]
   exact h3 _ u hj
 | zero=>
   obtain rfl:m=0:=by omega
   refine ⟨b',o',?_,by rw [List.length_drop,h2];simp,fun j u hj=>?_⟩
   ·simpa using SlAt.zero (F:=F) ⟨b,o,none⟩ b' o'
   have:cs=[]:=List.eq_nil_of_length_eq_zero (by simpa using h2)
   subst this;simp at hj
theorem ES.take {w:World} {F:Nat→Prop} {s:Sl} {xs:List LE} (h:ES w F s xs) {m:Nat} (hm:m≤xs.length):ES w F s (xs.take m):=
 ⟨by rw [List.length_take,Nat.min_eq_left hm,←flatE_take];exact h.rd.take hm,fun x hx=>h.vals x (List.mem_of_mem_take hx),by have:=h.few;rw [List.length_take];omega⟩
theorem ES.drop {w:World} {F:Nat→Prop} {b o c:Nat} {xs:List LE} (h:ES w F ⟨some ⟨b,o,none⟩,c⟩ xs) {m:Nat} (hm:m≤xs.length):ES w F ⟨some ⟨b,o+m*7,none⟩,c - m⟩ (xs.drop m):=
 ⟨by rw [List.length_drop,←flatE_drop];exact h.rd.drop hm,fun x hx=>h.vals x (List.mem_of_mem_drop hx),by have:=h.few;rw [List.length_drop];omega⟩
theorem risingN.take {xs:List LE} (h:risingN xs) (m:Nat):risingN (xs.take m):=fun i x y hx hy=>by
 rw [List.getElem?_take] at hx hy
 split at hx <;> split at hy
 ·exact h i x y hx hy
 all_goals first | cases hx | cases hy
theorem risingN.drop {xs:List LE} (h:risingN xs) (m:Nat):risingN (xs.drop m):=fun i x y hx hy=>by
 rw [List.getElem?_drop] at hx hy
 exact h _ x y hx hy
theorem risingN_of {xs:List LE} (h:Sorted (xs.map LE.ent)):risingN xs:=fun i x y hx hy=>
 sorted_lt (a:=x.ent) (b:=y.ent) h (Nat.lt_succ_self i) (by rw [List.getElem?_map,hx];rfl) (by rw [List.getElem?_map,hy];rfl)
def two (h:Nat):List (PT h)→Ending
 | [t]=>.returned (.tuple #[ptr h t,.pointer none])
 | [t,u]=>.returned (.tuple #[ptr h t,ptr h u])
 | _=>.returned (.tuple #[])
def chunk {α:Type} (l:List α):List (List α):=if l.length≤8 then [l] else [l.take 4,l.drop 4]
def SplitPostE (es:List Ent) (w:World) (e:Ending) (w':World):Prop:=
 ∃ ts:List (PT 0),e=two 0 ts∧ts.map Prod.snd=chunk es∧(∀ t∈ts,w.heap.size≤addr 0 t∧IsN w' (In w.heap.size w'.heap.size) 0 t)∧Ext w w'
theorem LeafPost1.grow {w w1 w2 w3:World} {t:PT 0} (h1:Ext w w1) (h2:Ext w2 w3) (ha:w1.heap.size≤addr 0 t) (hn:IsN w2 (In w1.heap.size w2.heap.size) 0 t):w.heap.size≤addr 0 t∧IsN w3 (In w.heap.size w3.heap.size) 0 t:=
 ⟨Nat.le_trans h1.size ha,(hn.agree (h2.agree fun _ h=>h.2)).mono fun _ h=>⟨Nat.le_trans h1.size h.1,Nat.lt_of_lt_of_le h.2 h2.size⟩⟩
theorem splitE_any {w:World} {s:Sl} {xs:List LE} (hs:ES w (Lt w.heap.size) s xs) (hr:risingN xs) (h8:xs.length≤9) :
  Calls Tryz.prog 107 #[.slice s.a xs.length s.c,.func (.func 108) #[] #[]] w (SplitPostE (xs.map LE.ent) w):=by
 by_cases h:xs.length≤8
 ·have hc:=tleaf_any hs rfl hr h
  have hl:(xs.length:Int)≤8:=by omega
  clear hs hr
  go_enter Tryz.func107,Tryz.ntmps107
  go_wp2_with fail
  refine hc.mono ?_
  rintro e w' ⟨t,rfl,h1,h2,h3,h4⟩
  have H3:=Lib.hid h3
  clear h3
  go_wp2_with fail
  go_ret2
  exact ⟨[t],rfl,by show [t.2]=_;rw [h1,chunk,if_pos (by simpa using h)],by simpa using ⟨h2,H3.out⟩,h4⟩
 have h9:xs.length=9:=by omega
 have hs':=hs.at (i:=0) (x:=xs[0]'(by omega)) (List.getElem?_eq_getElem (by omega))
 obtain ⟨b,o,ha,hbo,hlc,hcm,-⟩:=hs'
 have hseq:s=⟨some ⟨b,o,none⟩,s.c⟩:=by cases s;simp_all
 have hcL:∀ W,Ext w W→Calls Tryz.prog 108 #[.slice (some ⟨b,o,none⟩) 4 s.c] W (LeafPost1 ((xs.take 4).map LE.ent) W):=fun W hW=>by
  have:=tleaf_any (w:=W) (n:=4) (s:=s) (xs:=xs.take 4) (((hs.take (m:=4) (by omega)).agree (hW.agree fun _ h=>h)).mono fun i hi=>Nat.lt_of_lt_of_le hi hW.size) (by rw [List.length_take];omega) (hr.take 4) (by rw [List.length_take];omega)
  rw [hseq] at this
  exact this
 have hcR:∀ W,Ext w W→Calls Tryz.prog 108 #[.slice (some ⟨b,o+28,none⟩) 5 (s.c - 4)] W (LeafPost1 ((xs.drop 4).map LE.ent) W):=fun W hW=>by
  have hs2:=hs
  rw [hseq] at hs2
  exact tleaf_any (w:=W) (n:=5) (s:=⟨some ⟨b,o+28,none⟩,s.c - 4⟩) (xs:=xs.drop 4) (((hs2.drop (m:=4) (by omega)).agree (hW.agree fun _ h=>h)).mono fun i hi=>Nat.lt_of_lt_of_le hi hW.size) (by rw [List.length_drop];omega) (hr.drop 4) (by rw [List.length_drop];omega)
 have HL:=Lib.hid hcL
 have HR:=Lib.hid hcR
 clear hcL hcR hs hr hseq
 rw [ha,h9]
 rw [h9] at hlc
 have hl4:4≤s.c:=by omega
 unfold maxLen at hcm
 go_enter Tryz.func107,Tryz.ntmps107
 go_wp2_with fail
 go_region_with (first
  | (go_at_call_of 108 (Value.slice (some ⟨b,o,none⟩) 4 s.c);refine (HL.out _ ?_).mono ?_;exact (Ext.refl w).drew;rintro e w1 ⟨t,rfl,h1,h2,h3,h4⟩;have H3:=Lib.hid h3;clear h3)
  | (go_at_call 108;refine (HR.out _ ?_).mono ?_;exact (Ext.refl w).drew.trans h4;rintro e w2 ⟨u,rfl,k1,k2,k3,k4⟩;have K3:=Lib.hid k3;clear k3))
 all_goals go_wp2_with fail
 all_goals go_ret2
 have hX:=(Ext.refl w).drew.trans h4
 refine ⟨[t,u],rfl,?_,?_,hX.trans k4⟩
 ·show [t.2,u.2]=_
  rw [h1,k1,chunk,if_neg (by simp;omega),List.map_take,List.map_drop]
 intro x hx
 rcases List.mem_cons.1 hx with rfl | hx
 ·exact LeafPost1.grow (Ext.refl w).drew k4 h2 H3.out
 rcases List.mem_cons.1 hx with rfl | hx
 ·exact LeafPost1.grow hX (Ext.refl w2) k2 K3.out
 simp at hx
theorem Rd.ptr_at {w:World} {F:Nat→Prop} {h:Nat} {s:Sl} {ks:List (PT h)} (hr:Rd w F 1 s ks.length (ptrs h ks)) {i:Nat} {k:PT h} (hk:ks[i]? = some k) :
  ∃ b o,s.a=some ⟨b,o,none⟩∧F b∧ks.length≤s.c∧s.c≤maxLen∧w.cell? ⟨b,o+i,none⟩=some (ptr h k):=by
 obtain ⟨b,o,h1,h2,h3⟩:=hr
 have hi:i<ks.length:=(List.getElem?_eq_some_iff.1 hk).1
 obtain ⟨e1,e2,e3⟩:=h1.eq (by omega)
 exact ⟨b,o,e1,h1.fits (by omega),e2,e3,h3 i _ (by rw [ptrs,List.getElem?_map,hk];rfl)⟩
theorem drew3 (w:World) (a b c:Nat):(w.drewN (a+b)).drewN c=w.drewN (a+(b+c)):=by rw [World.drewN_drewN,Nat.add_assoc]
theorem inner1_any {w:World} {F G:Nat→Prop} {h:Nat} {t u:PT h} (ht:IsN w F h t) (hu:IsN w G h u):Calls Tryz.prog 156 #[ptr h t,ptr h u] w fun e w'=>e=.returned (.bool (klt (lastK (ents h t)) (firstK (ents h u))))∧∃ q,w'=w.drewN q:=by
 obtain ⟨-,se,sk,ne,nk,-,hb⟩:=ht.cells
 obtain ⟨-,-,-,-,-,h5,-⟩:=hb.c7
 obtain ⟨-,se',sk',ne',nk',-,hb'⟩:=hu.cells
 obtain ⟨-,-,-,-,h4,-,-⟩:=hb'.c7
 clear hb hb' ht hu
 go_enter Tryz.func156,Tryz.ntmps156
 go_wp2_with fail
 go_quiet (fail)
 go_wp2
 go_ret
 exact ⟨rfl,_,rfl⟩
def risingK (h:Nat) (ks:List (PT h)):Prop:=∀ i x y,ks[i]? = some x→ks[i+1]? = some y→klt (lastK (ents h x)) (firstK (ents h y))=true
theorem risingK.take {h:Nat} {xs:List (PT h)} (hr:risingK h xs) (m:Nat):risingK h (xs.take m):=fun i x y hx hy=>by
 rw [List.getElem?_take] at hx hy
 split at hx <;> split at hy
 ·exact hr i x y hx hy
 all_goals first | cases hx | cases hy
theorem risingK.drop {h:Nat} {xs:List (PT h)} (hr:risingK h xs) (m:Nat):risingK h (xs.drop m):=fun i x y hx hy=>by
 rw [List.getElem?_drop] at hx hy
 exact hr _ x y hx hy
theorem risingP_any {w:World} {F:Nat→Prop} {h:Nat} {s:Sl} {ks:List (PT h)} (hs:Rd w F 1 s ks.length (ptrs h ks)) (hk:∀ k∈ks,IsN w F h k) (hr:risingK h ks) (hn:ks.length≤1000) :
  Calls Tryz.prog 155 #[.slice s.a ks.length s.c,.func (.func 156) #[] #[]] w fun e w'=>e=.returned (.bool true)∧∃ q,w'=w.drewN q:=by
 have HS:=Lib.hid hs
 have HR:=Lib.hid hr
 have HK:=Lib.hid hk
 clear hs hr hk
 go_enter Tryz.func155,Tryz.ntmps155
 go_wp2_with fail
 go_loopw [5] (fun q wr=>∃ m:Nat,(m+1≤ks.length∨m=0)∧q=.int .i64 ((m:Int)+1)∧∃ q,wr=w.drewN q) (fun q _=>ks.length - (intOf q).toNat)
 case atStart=>exact ⟨0,.inr rfl,rfl,0,rfl⟩
 obtain ⟨m,hj,rfl,qq,rfl⟩:=hrel
 by_cases hlt:m+1<ks.length
 ·obtain ⟨x,hxm⟩:∃ x,ks[m]? = some x:=⟨_,List.getElem?_eq_getElem (by omega)⟩
  obtain ⟨y,hym⟩:∃ y,ks[m+1]? = some y:=⟨_,List.getElem?_eq_getElem hlt⟩
  obtain ⟨b,o,ha,hbo,hlc,hcm,hk0⟩:=HS.out.ptr_at hxm
  obtain ⟨b',o',ha',-,-,-,hk1⟩:=HS.out.ptr_at hym
  rw [ha] at ha'
  simp only [Option.some.injEq,Addr.mk.injEq,and_true] at ha'
  obtain ⟨rfl,rfl⟩:=ha'
  have c0:w.cell? ⟨b,o+m,none⟩=some (ptr h x):=hk0
  have c1:w.cell? ⟨b,o+(m+1),none⟩=some (ptr h y):=hk1
  have hc:=fun W (e:∃ q,W=w.drewN q)=>inner1_any (w:=W) (((HK.out x (List.mem_of_getElem? hxm)).agree (F:=F) (by obtain ⟨q,rfl⟩:=e;exact Agree.drewN w q))) (((HK.out y (List.mem_of_getElem? hym)).agree (F:=F) (by obtain ⟨q,rfl⟩:=e;exact Agree.drewN w q)))
  have hkk:=HR.out m x y hxm hym
  have HKK:=Lib.hid hkk
  have HC:=Lib.hid hc
  rw [ha]
  have hm1:(m:Int)+1<(ks.length:Int):=by omega
  have hm0:(m:Int)<(ks.length:Int):=by omega
  have hw1:IntKind.i64.wrap (m:Int)=(m:Int):=by rw [IntKind.wrap_i64];omega
  have hm2:(0:Int)≤(m:Int)+1:=by omega
  have ht2:((m:Int)+1).toNat=m+1:=by omega
  clear hxm hym hk0 hk1 ha hkk hc
  go_wp2_with fail
  go_quiet ((go_at_call 156;refine (HC.out _ ⟨_,rfl⟩).mono ?_;rw [HKK.out];rintro e w2 ⟨rfl,q2,rfl⟩;exact ⟨rfl,_,drew3 ..⟩))
  go_wp2_with fail
  go_roundw
  case rel=>exact ⟨m+1,.inl (by omega),by go_num,_,rfl⟩
  simp [intOf];omega
 go_wp2_with fail
 go_ret
 exact ⟨rfl,_,rfl⟩
theorem Rd.one (w:World) (t:TypeId) (u:Value):Rd (w.alloc (.cells #[u] t)) (fun _=>True) 1 ⟨some ⟨w.heap.size,0,none⟩,1⟩ 1 [u]:=
 ⟨w.heap.size,0,.some _ _ _ _ (Nat.le_refl _) (by decide) trivial,rfl,fun j v hj=>by rw [(Blk.new w t #[u]).cell];simpa using hj⟩
def cnt (h:Nat) (ks:List (PT h)):Nat:=(ks.flatMap (ents h)).length
def thinB (h:Nat) (ks:List (PT h)):Bool:=ks.any fun k=>thin h k || decide (size h k<4)
theorem cnt_take {h:Nat} {ks:List (PT h)} {j:Nat} {k:PT h} (hk:ks[j]? = some k):cnt h (ks.take (j+1))=cnt h (ks.take j)+(ents h k).length:=by
 rw [cnt,List.take_add_one,hk];simp [cnt]
theorem thinB_take {h:Nat} {ks:List (PT h)} {j:Nat} {k:PT h} (hk:ks[j]? = some k):thinB h (ks.take (j+1))=(thinB h (ks.take j) || (thin h k || decide (size h k<4))):=by
 rw [thinB,List.take_add_one,hk];simp [thinB]
theorem cnt_take_le (h:Nat) (ks:List (PT h)) (j:Nat):cnt h (ks.take j)≤cnt h ks:=by
 have:cnt h ks=cnt h (ks.take j)+cnt h (ks.drop j):=by
  simp only [cnt];rw [←List.length_append,←List.flatMap_append,List.take_append_drop]
 omega
theorem sound0_not (h:Nat) (t:PT h):(!sound0 h t)=(thin h t || decide (size h t<4)):=by
 unfold sound0
 cases thin h t
 ·simp
  by_cases h:4≤size h t
  ·simp [h]
  simp [h];omega
 simp
theorem ptrs_take (h:Nat) (ks:List (PT h)) (j:Nat):ptrs h (ks.take j)=(ptrs h ks).take j:=by simp [ptrs,List.map_take]
theorem firstK_app {a b:List Ent} (h:0<a.length):firstK (a++b)=firstK a:=by
 cases a with
 | nil=>simp at h
 | cons x xs=>rfl
theorem lastK_app {a b:List Ent} (h:0<b.length):lastK (a++b)=lastK b:=by
 unfold lastK
 rw [List.getLast?_append]
 cases hb:b.getLast? with
 | none=>rw [List.getLast?_eq_none_iff.1 hb] at h;simp at h
 | some x=>rfl
theorem firstK_flat {h a:Nat} {ks:List (PT h)} {k:PT h} (hk:ks[0]? = some k) (hp:0<(ents h k).length):firstK (ents (h+1) (a,ks))=firstK (ents h k):=by
 cases ks with
 | nil=>simp at hk
 | cons x xs=>
   simp at hk;subst hk
   show firstK ((x :: xs).flatMap (ents h))=_
   rw [List.flatMap_cons,firstK_app hp]
theorem lastK_flat {h a:Nat} {ks:List (PT h)} {k:PT h} (hk:ks[ks.length - 1]? = some k) (hp:0<(ents h k).length):lastK (ents (h+1) (a,ks))=lastK (ents h k):=by
 have e:ks=ks.dropLast++[k]:=by
  have:ks.getLast? = some k:=by rw [List.getLast?_eq_getElem?];exact hk
  obtain ⟨ys,rfl⟩:=List.getLast?_eq_some_iff.1 this
  simp
 show lastK (ks.flatMap (ents h))=_
 rw [e,List.flatMap_append,lastK_app (by simpa using hp)]
 simp
abbrev Up (F:Nat→Prop) (w w':World):Nat→Prop:=fun b=>F b∨(w.heap.size≤b∧b<w'.heap.size)
def InnerPost (F:Nat→Prop) (h:Nat) (ks:List (PT h)) (w:World) (e:Ending) (w':World):Prop:=
 ∃ a:Nat,e=.returned (.tuple #[.pointer (some ⟨a,0,none⟩),.int .i64 0])∧w.heap.size≤a∧IsN w' (Up F w w') (h+1) (a,ks)∧Ext w w'
theorem ninner_any {w:World} {F:Nat→Prop} {h:Nat} {s:Sl} {ks:List (PT h)} (hF:∀ b,F b→b<w.heap.size) (hs:Rd w (Lt w.heap.size) 1 s ks.length (ptrs h ks)) (hk:∀ k∈ks,IsN w F h k) (hr:risingK h ks)
  (h2:2≤ks.length) (h8:ks.length≤8) (hpos:∀ k∈ks,0<(ents h k).length) (hsz:∀ k∈ks,size h k≤1000) (hcn:cnt h ks≤1000000000) (hh:h≤1000000000) :
  Calls Tryz.prog 111 #[.slice s.a ks.length s.c] w (InnerPost F h ks w):=by
 obtain ⟨i0,hi,hz0,hz1,hz2⟩:=info_parts Tryz.infoPNode
 have HS:=Lib.hid hs
 have HK:=Lib.hid hk
 have HR:=Lib.hid hr
 have HF:=Lib.hid hF
 have HP:=Lib.hid hpos
 have HZ:=Lib.hid hsz
 have g1:¬(ks.length:Int)<2:=by omega
 have g1':decide ((ks.length:Int)<2)=false:=by simp;omega
 have g2:¬(8:Int)<(ks.length:Int):=by omega
 have g2':decide ((8:Int)<(ks.length:Int))=false:=by simp;omega
 obtain ⟨k0,hk0⟩:∃ x,ks[0]? = some x:=⟨_,List.getElem?_eq_getElem (by omega)⟩
 obtain ⟨b,o,ha,hbo,hlc,hcm,hc0⟩:=HS.out.ptr_at hk0
 have hch:=height_any (HK.out k0 (List.mem_of_getElem? hk0))
 have HA:=Lib.hid ha
 have HK0:=Lib.hid hk0
 rw [Nat.add_zero] at hc0
 have HC0:=Lib.hid hc0
 have hi0:(0:Int)<(ks.length:Int):=by omega
 rw [ha]
 clear hs hk hr hF hpos hsz ha hk0
 go_enter Tryz.func111,Tryz.ntmps111
 go_wp2_with fail
 refine hch.mono ?_
 rintro e w1 ⟨rfl,rfl⟩
 go_wp2_with fail
 have hx0:Ext w (w.alloc (.cells #[.slice none 0 0,.slice none 0 0,.int .i64 ((h:Int)+1),.int .i64 0,.string ByteArray.empty,.string ByteArray.empty,.bool false] 154)):=(Ext.refl w).alloc _ _
 go_loopw [24] (fun q wr=>∃ (j:Nat) (sk:Sl),j≤ks.length∧q=.int .i64 j∧Ext w wr∧Blk wr w.heap.size 154 #[.slice none 0 0,.slice sk.a j sk.c,.int .i64 ((h:Int)+1),.int .i64 (cnt h (ks.take j)),.string ByteArray.empty,.string ByteArray.empty,.bool (thinB h (ks.take j))]∧
   wr.ownsRow (w.heap.size+1) 39 1 (.slice sk.a j sk.c) j (ptrs h (ks.take j))) (fun q _=>ks.length - (intOf q).toNat)
 case atStart=>exact ⟨0,Sl.none,Nat.zero_le _,rfl,hx0,Blk.new _ _ _,World.ownsRow_nil _ _ _ _⟩
 clear hx0 hch hc0
 obtain ⟨j,sk,hj,rfl,hx,hb,hown⟩:=hrel
 by_cases hlt:j<ks.length
 ·obtain ⟨k,hkj⟩:∃ x,ks[j]? = some x:=⟨_,List.getElem?_eq_getElem hlt⟩
  obtain ⟨b',o',ha',-,-,-,hck⟩:=HS.out.ptr_at hkj
  rw [HA.out] at ha'
  simp only [Option.some.injEq,Addr.mk.injEq,and_true] at ha'
  obtain ⟨rfl,rfl⟩:=ha'
  have hkm:=List.mem_of_getElem? hkj
  have hag:Agree F w wr:=hx.agree fun i h=>HF.out i h
  have vk:=(hx.cell hbo).trans hck
  have hkn:=(HK.out k hkm).agree hag
  obtain ⟨hFk,se,sk',ne,nk,hsn,hkb⟩:=hkn.cells
  obtain ⟨e0,e1,e2,e3,e4,e5,e6⟩:=hkb.c7
  obtain ⟨n0,n1,n2,n3,n4,n5,n6⟩:=hb.c7
  have hpk:=HP.out k hkm
  have hnz:((((ents h k).length:Nat):Int) == 0)=false:=beq_eq_false_iff_ne.2 (by omega)
  have hlt':(j:Int)<(ks.length:Int):=by omega
  have hcc:=fun W (e:∃ q,W=wr.drewN q)=>count_any (w:=W) (F:=F) (h:=h) (t:=k) (by obtain ⟨q,rfl⟩:=e;exact hkn.agree (Agree.drewN wr q))
  have HX:=Lib.hid hx
  have HB:=Lib.hid hb
  have HO:=Lib.hid hown
  have HKN:=Lib.hid hkn
  have HCC:=Lib.hid hcc
  have HKJ:=Lib.hid hkj
  have hwh:IntKind.i64.wrap ((h:Int)+1)=(h:Int)+1:=by rw [IntKind.wrap_i64];omega
  have hbk:addr h k<wr.heap.size:=hkb.lt
  have hbn:w.heap.size<wr.heap.size:=hb.lt
  have h63:j+1≤maxLen:=by unfold maxLen;omega
  have how:∀ W,Ext wr W→W.ownsRow (w.heap.size+1) 39 1 (.slice sk.a j sk.c) j (ptrs h (ks.take j)):=fun W hW=>
   own_agree hown (hW.agree (F:=Lt wr.heap.size) fun _ h=>h) fun b hb=>(hown.lt b (by obtain ⟨a,c⟩:=sk;cases a <;> simp_all [Value.ownBlock,Sl.row])).2
  have HOW:=Lib.hid how
  have hrow:∀ i,sk.row=some i→w.heap.size+1≤i:=fun b hb=>(hown.lt b (by obtain ⟨a,c⟩:=sk;cases a <;> simp_all [Value.ownBlock,Sl.row])).1
  have HROW:=Lib.hid hrow
  have hne:¬addr h k=w.heap.size:=by have:=HF.out _ hFk;omega
  have hk1:addr h k<w.heap.size+1:=by have:=HF.out _ hFk;omega
  have hcs:=fun W (e:Agree (Lt w.heap.size) wr W)=>sound_any (w:=W) (F:=F) (h:=h) (t:=k) (hkn.agree (e.mono fun i hi=>HF.out i hi)) (HZ.out k hkm)
  have HCS:=Lib.hid hcs
  have hcw:IntKind.i64.wrap ((cnt h (ks.take j):Int)+((ents h k).length:Int))=((cnt h (ks.take (j+1)):Nat):Int):=by
   have:=cnt_take hkj
   have:=cnt_take_le h ks (j+1)
   rw [IntKind.wrap_i64] <;> omega
  have htw:=thinB_take hkj
  have hs0:=sound0_not h k
  have HTW:=Lib.hid htw
  have HS0:=Lib.hid hs0
  clear hkj hck hag hkn hkb hb hown hcc hx how hrow hcs htw hs0
  go_wp2_with fail
  go_quiet ((go_at_call 63;refine (HCC.out _ ⟨_,rfl⟩).mono ?_;rintro e w2 ⟨rfl,rfl⟩;exact ⟨rfl,_,rfl⟩))
  go_wp2_with (at_builtin;refine wpList_append_x _ rfl _ _ 108 rfl (w.heap.size+1) 39 i0 (.pointer none) 1 8 Tryz.underlying108 hi hz0 hz1 hz2 rfl (by decide) sk j (ptrs h (ks.take j)) rfl (HOW.out _ (((Ext.refl wr).drewN _).alloc _ _)) (fun _=>True) ⟨some ⟨wr.heap.size,0,none⟩,1⟩ 1 [ptr h k] rfl (Rd.one _ _ _) (by simp [Value.oneCell']) h63 (by omega) (by simp;omega) ?_;intro s' w1 hown1 hwr1 hsk;have ag1:Agree (Lt (w.heap.size+1)) wr w1:=(((Agree.drewN wr _).trans (Agree.alloc _ _ (fun i hi=>Nat.lt_of_lt_of_le hi hbn))).trans (hwr1.agree (F:=Lt (w.heap.size+1)) (fun i hi=>by simp;omega) (fun i hi h=>by have:=HROW.out i hi;omega)));have b1:=HB.out.agree ag1 (Nat.lt_succ_self _);obtain ⟨p0,p1,p2,p3,p4,p5,p6⟩:=b1.c7;have fz:=fun i=>b1.frozen i;have x3:=(ag1.cell (F:=Lt (w.heap.size+1)) (b:=addr h k) (o:=3) hk1).trans e3;have HO1:=Lib.hid hown1;have HW1:=Lib.hid hwr1;have HB1:=Lib.hid b1;have AG1:=Lib.hid ag1;clear hown1 hwr1 hsk b1 ag1)
  go_region
  have hX3:Ext w ((w1.setCell ⟨w.heap.size,1,none⟩ (.slice s'.a (j+1) s'.c)).setCell ⟨w.heap.size,3,none⟩ (.int .i64 (cnt h (ks.take (j+1))))).drew:=
   (((((HX.out.drewN _).alloc _ _).wr HW1.out (fun i hi=>by have:=HROW.out i hi;omega)).setCell (p:=⟨w.heap.size,1,none⟩) (Nat.le_refl _) _).setCell (p:=⟨w.heap.size,3,none⟩) (Nat.le_refl _) _).drew
  have hB3:Blk ((w1.setCell ⟨w.heap.size,1,none⟩ (.slice s'.a (j+1) s'.c)).setCell ⟨w.heap.size,3,none⟩ (.int .i64 (cnt h (ks.take (j+1))))).drew w.heap.size 154 #[.slice none 0 0,.slice s'.a (j+1:Nat) s'.c,.int .i64 ((h:Int)+1),.int .i64 (cnt h (ks.take (j+1))),.string ByteArray.empty,.string ByteArray.empty,.bool (thinB h (ks.take j))]:=(HB1.out.set_ 1 _).set_ 3 _
  have hag3:Agree (Lt w.heap.size) wr ((w1.setCell ⟨w.heap.size,1,none⟩ (.slice s'.a (j+1) s'.c)).setCell ⟨w.heap.size,3,none⟩ (.int .i64 (cnt h (ks.take (j+1))))).drew:=
   ((AG1.out.mono fun i hi=>Nat.lt_succ_of_lt hi).trans (Agree.setCell _ _ _ (fun h=>Nat.lt_irrefl _ h))).trans (Agree.setCell _ _ _ (fun h=>Nat.lt_irrefl _ h))
  have hO3:((w1.setCell ⟨w.heap.size,1,none⟩ (.slice s'.a (j+1) s'.c)).setCell ⟨w.heap.size,3,none⟩ (.int .i64 (cnt h (ks.take (j+1))))).drew.ownsRow (w.heap.size+1) 39 1 (.slice s'.a (j+1) s'.c) (j+1) (ptrs h (ks.take (j+1))):=by
   have e:ptrs h (ks.take (j+1))=ptrs h (ks.take j)++[ptr h k]:=by rw [List.take_add_one,HKJ.out];simp [ptrs]
   rw [e]
   refine own_agree HO1.out (F:=fun i=>w.heap.size+1≤i) ((Agree.setCell w1 ⟨w.heap.size,1,none⟩ _ (fun h=>Nat.not_succ_le_self _ h)).trans (Agree.setCell _ ⟨w.heap.size,3,none⟩ _ (fun h=>Nat.not_succ_le_self _ h))) fun b hb=>(HO1.out.lt b (by obtain ⟨a,c⟩:=s';cases a <;> simp_all [Value.ownBlock,Sl.row])).1
  generalize World.drew _=W3 at *
  have HX3:=Lib.hid hX3
  have HB3:=Lib.hid hB3
  have HA3:=Lib.hid hag3
  have HO3:=Lib.hid hO3
  have hbn3:=hB3.lt
  have hbk3:addr h k<W3.heap.size:=Nat.lt_of_lt_of_le (HF.out _ hFk) hX3.size
  obtain ⟨y0,y1,y2,y3,y4,y5,y6⟩:=hB3.c7
  have fy:=fun i=>hB3.frozen i
  clear hX3 hB3 hag3 hO3 fz x3 p0 p1 p2 p3 p4 p5 p6
  have fin:∀ (q:Nat) (x:Bool),x=thinB h (ks.take (j+1))→Ext w ((W3.drewN q).setCell ⟨w.heap.size,6,none⟩ (.bool x))∧
    Blk ((W3.drewN q).setCell ⟨w.heap.size,6,none⟩ (.bool x)) w.heap.size 154 #[.slice none 0 0,.slice s'.a (j+1:Nat) s'.c,.int .i64 ((h:Int)+1),.int .i64 (cnt h (ks.take (j+1))),.string ByteArray.empty,.string ByteArray.empty,.bool (thinB h (ks.take (j+1)))]∧
    ((W3.drewN q).setCell ⟨w.heap.size,6,none⟩ (.bool x)).ownsRow (w.heap.size+1) 39 1 (.slice s'.a (j+1) s'.c) (j+1) (ptrs h (ks.take (j+1))):=fun q x hx=>by
   subst hx
   refine ⟨(HX3.out.drewN q).setCell (p:=⟨w.heap.size,6,none⟩) (Nat.le_refl _) _,(show Blk (W3.drewN q) w.heap.size 154 _ from HB3.out).set_ 6 _,?_⟩
   exact own_agree (w:=W3.drewN q) (show (W3.drewN q).ownsRow _ _ _ _ _ _ from HO3.out) (F:=fun i=>w.heap.size+1≤i) (Agree.setCell _ ⟨w.heap.size,6,none⟩ _ (fun h=>Nat.not_succ_le_self _ h)) fun b hb=>(HO3.out.lt b (by obtain ⟨a,c⟩:=s';cases a <;> simp_all [Value.ownBlock,Sl.row])).1
  have FIN:=Lib.hid fin
  clear fin
  cases htb:thinB h (ks.take j)
  ·rw [htb] at y6
   have htw2:thinB h (ks.take (j+1))=!sound0 h k:=by rw [HTW.out,htb,HS0.out,Bool.false_or]
   have HT2:=Lib.hid htw2
   clear htw2
   go_wp2_with (go_at_call 154;refine (HCS.out _ HA3.out).mono ?_;rintro e w4 ⟨rfl,q4,rfl⟩)
   go_roundw
   case rel=>
    obtain ⟨f1,f2,f3⟩:=FIN.out q4 _ HT2.out.symm
    exact ⟨j+1,s',by omega,by go_num,f1,f2,f3⟩
   simp [intOf];omega
  rw [htb] at y6
  have htw2:thinB h (ks.take (j+1))=true:=by rw [HTW.out,htb,Bool.true_or]
  have HT2:=Lib.hid htw2
  clear htw2
  go_wp2_with fail
  go_roundw
  case rel=>
   obtain ⟨f1,f2,f3⟩:=FIN.out 0 _ HT2.out.symm
   exact ⟨j+1,s',by omega,by go_num,f1,f2,f3⟩
  simp [intOf];omega
 obtain rfl:j=ks.length:=by omega
 have hag:Agree (Lt w.heap.size) w wr:=hx.agree fun i h=>h
 have hrs:=risingP_any (w:=wr) (HS.out.agree hag) (fun k hk=>((HK.out k hk).mono HF.out).agree hag) HR.out (by omega)
 rw [HA.out] at hrs
 have HRS:=Lib.hid hrs
 obtain ⟨kl,hkl⟩:∃ x,ks[ks.length - 1]? = some x:=⟨_,List.getElem?_eq_getElem (by omega)⟩
 obtain ⟨b',o',ha',-,-,-,hcl⟩:=HS.out.ptr_at hkl
 rw [HA.out] at ha'
 simp only [Option.some.injEq,Addr.mk.injEq,and_true] at ha'
 obtain ⟨rfl,rfl⟩:=ha'
 have vl:=(hx.cell hbo).trans hcl
 have v0:=(hx.cell hbo).trans HC0.out
 obtain ⟨hF0,se,sk0,ne,nk,-,hkb0⟩:=((HK.out k0 (List.mem_of_getElem? HK0.out)).agree (hag.mono HF.out)).cells
 obtain ⟨hFl,se',skl,ne',nk',-,hkbl⟩:=((HK.out kl (List.mem_of_getElem? hkl)).agree (hag.mono HF.out)).cells
 obtain ⟨-,-,-,-,e4,-,-⟩:=hkb0.c7
 obtain ⟨-,-,-,-,-,e5,-⟩:=hkbl.c7
 obtain ⟨n0,n1,n2,n3,n4,n5,n6⟩:=hb.c7
 have fz:=fun i=>hb.frozen i
 have hne0:¬addr h k0=w.heap.size:=by have:=HF.out _ hF0;omega
 have hnel:¬addr h kl=w.heap.size:=by have:=HF.out _ hFl;omega
 have hneb:¬b=w.heap.size:=by omega
 have hbk0:addr h k0<wr.heap.size:=hkb0.lt
 have hbkl:addr h kl<wr.heap.size:=hkbl.lt
 have hbn:w.heap.size<wr.heap.size:=hb.lt
 have hw1:IntKind.i64.wrap ((ks.length:Int) - 1)=(ks.length:Int) - 1:=by rw [IntKind.wrap_i64];omega
 have hm2:(0:Int)≤(ks.length:Int) - 1:=by omega
 have hm3:(ks.length:Int) - 1<(ks.length:Int):=by omega
 have ht2:((ks.length:Int) - 1).toNat=ks.length - 1:=by omega
 have HX:=Lib.hid hx
 have HB:=Lib.hid hb
 have HO:=Lib.hid hown
 have HKL:=Lib.hid hkl
 clear hag hrs hkl hcl hkb0 hkbl hb hx hown
 go_wp2_with (go_at_call 155;refine HRS.out.mono ?_;rintro e w2 ⟨rfl,q2,rfl⟩)
 go_region
 all_goals go_wp2_with fail
 all_goals go_ret2
 have hks:=HO.out
 have hbb:=HB.out
 rw [List.take_length] at hks hbb
 have hB':Blk (((wr.drewN (q2+1)).setCell ⟨w.heap.size,4,none⟩ (.string (firstK (ents h k0)))).setCell ⟨w.heap.size,5,none⟩ (.string (lastK (ents h kl)))) w.heap.size 154 #[.slice none 0 0,.slice sk.a ks.length sk.c,.int .i64 ((h:Int)+1),.int .i64 (cnt h ks),.string (firstK (ents h k0)),.string (lastK (ents h kl)),.bool (thinB h ks)]:=
  ((show Blk (wr.drewN (q2+1)) w.heap.size 154 _ from hbb).set_ 4 _).set_ 5 _
 have hX':Ext w (((wr.drewN (q2+1)).setCell ⟨w.heap.size,4,none⟩ (.string (firstK (ents h k0)))).setCell ⟨w.heap.size,5,none⟩ (.string (lastK (ents h kl)))):=
  ((HX.out.drewN _).setCell (p:=⟨w.heap.size,4,none⟩) (Nat.le_refl _) _).setCell (p:=⟨w.heap.size,5,none⟩) (Nat.le_refl _) _
 have hO':(((wr.drewN (q2+1)).setCell ⟨w.heap.size,4,none⟩ (.string (firstK (ents h k0)))).setCell ⟨w.heap.size,5,none⟩ (.string (lastK (ents h kl)))).ownsRow (w.heap.size+1) 39 1 (.slice sk.a ks.length sk.c) ks.length (ptrs h ks):=
  own_agree (w:=wr.drewN (q2+1)) (show (wr.drewN (q2+1)).ownsRow _ _ _ _ _ _ from hks) (F:=fun i=>w.heap.size+1≤i) ((Agree.setCell _ ⟨w.heap.size,4,none⟩ _ (fun h=>Nat.not_succ_le_self _ h)).trans (Agree.setCell _ ⟨w.heap.size,5,none⟩ _ (fun h=>Nat.not_succ_le_self _ h)))
   fun b hb=>(hks.lt b (by obtain ⟨a,c⟩:=sk;cases a <;> simp_all [Value.ownBlock,Sl.row])).1
 generalize World.setCell _ _ _=W at *
 refine ⟨w.heap.size,rfl,Nat.le_refl _,?_,hX'⟩
 refine ⟨.inr ⟨Nat.le_refl _,hB'.lt⟩,sk,?_,((Rd.of_own hO').mono fun i hi=>.inr ⟨Nat.le_of_succ_le hi.1,hi.2⟩),fun k hk=>((HK.out k hk).agree (hX'.agree fun i hi=>HF.out i hi)).mono fun i hi=>.inl hi⟩
 rw [show firstK (ents (h+1) (w.heap.size,ks))=firstK (ents h k0) from firstK_flat HK0.out (HP.out _ (List.mem_of_getElem? HK0.out)),show lastK (ents (h+1) (w.heap.size,ks))=lastK (ents h kl) from lastK_flat HKL.out (HP.out _ (List.mem_of_getElem? HKL.out))]
 exact hB'
structure Kids (w:World) (F:Nat→Prop) (h:Nat) (ks:List (PT h)):Prop where
 lt:∀ b,F b→b<w.heap.size
 isn:∀ k∈ks,IsN w F h k
 rise:risingK h ks
 pos:∀ k∈ks,0<(ents h k).length
 sz:∀ k∈ks,size h k≤1000
 cn:cnt h ks≤1000000000
 hh:h≤1000000000
theorem cnt_drop_le (h:Nat) (ks:List (PT h)) (j:Nat):cnt h (ks.drop j)≤cnt h ks:=by
 have:cnt h ks=cnt h (ks.take j)+cnt h (ks.drop j):=by
  simp only [cnt];rw [←List.length_append,←List.flatMap_append,List.take_append_drop]
 omega
section
variable {w : World} {F : Nat → Prop} {h : Nat} {ks : List (PT h)}
theorem Kids.take (k:Kids w F h ks) (m:Nat):Kids w F h (ks.take m):=⟨k.lt,fun x hx=>k.isn x (List.mem_of_mem_take hx),k.rise.take m,fun x hx=>k.pos x (List.mem_of_mem_take hx),fun x hx=>k.sz x (List.mem_of_mem_take hx),Nat.le_trans (cnt_take_le h ks m) k.cn,k.hh⟩
theorem Kids.drop (k:Kids w F h ks) (m:Nat):Kids w F h (ks.drop m):=⟨k.lt,fun x hx=>k.isn x (List.mem_of_mem_drop hx),k.rise.drop m,fun x hx=>k.pos x (List.mem_of_mem_drop hx),fun x hx=>k.sz x (List.mem_of_mem_drop hx),Nat.le_trans (cnt_drop_le h ks m) k.cn,k.hh⟩
theorem Kids.ext (k:Kids w F h ks) {w':World} (he:Ext w w'):Kids w' F h ks:=⟨fun b hb=>Nat.lt_of_lt_of_le (k.lt b hb) he.size,fun x hx=>(k.isn x hx).agree (he.agree k.lt),k.rise,k.pos,k.sz,k.cn,k.hh⟩
end
theorem Rd.ext {w w':World} {size n:Nat} {s:Sl} {cs:List Value} (h:Rd w (Lt w.heap.size) size s n cs) (he:Ext w w'):Rd w' (Lt w'.heap.size) size s n cs:=(h.agree (he.agree fun _ h=>h)).mono fun i hi=>Nat.lt_of_lt_of_le hi he.size
def InnerPost1 (F:Nat→Prop) (h:Nat) (ks:List (PT h)) (w:World) (e:Ending) (w':World):Prop:=
 ∃ t:PT (h+1),e=.returned (ptr (h+1) t)∧t.2=ks∧w.heap.size≤addr (h+1) t∧IsN w' (Up F w w') (h+1) t∧Ext w w'
theorem tinner_any {w:World} {F:Nat→Prop} {h n:Nat} {s:Sl} {ks:List (PT h)} (hs:Rd w (Lt w.heap.size) 1 s ks.length (ptrs h ks)) (hn:n=ks.length) (hk:Kids w F h ks) (h2:2≤ks.length) (h8:ks.length≤8) :
  Calls Tryz.prog 62 #[.slice s.a n s.c] w (InnerPost1 F h ks w):=by
 subst hn
 have hc:=ninner_any hk.lt hs hk.isn hk.rise h2 h8 hk.pos hk.sz hk.cn hk.hh
 have hne:(((ks.length:Nat):Int) == 1)=false:=beq_eq_false_iff_ne.2 (by omega)
 clear hs hk
 go_enter Tryz.func62,Tryz.ntmps62
 go_wp2_with fail
 refine hc.mono ?_
 rintro e w' ⟨a,rfl,h1,h2,h3⟩
 have H2:=Lib.hid h2
 clear h2
 go_wp2_with fail
 go_ret
 exact ⟨(a,ks),rfl,rfl,h1,H2.out,h3⟩
theorem tinner_one {w:World} {F:Nat→Prop} {h:Nat} {s:Sl} {k:PT h} (hs:Rd w F 1 s 1 (ptrs h [k])) :
  Calls Tryz.prog 62 #[.slice s.a 1 s.c] w fun e w'=>e=.returned (ptr h k)∧w=w':=by
 obtain ⟨b,o,ha,hbo,hlc,hcm,hc0⟩:=Rd.ptr_at (ks:=[k]) hs (i:=0) rfl
 rw [Nat.add_zero] at hc0
 rw [ha]
 clear hs ha
 go_enter Tryz.func62,Tryz.ntmps62
 go_wp2
 go_ret
 exact ⟨rfl,rfl⟩
def SplitPostP (F:Nat→Prop) (h:Nat) (ks:List (PT h)) (w:World) (e:Ending) (w':World):Prop:=
 ∃ ts:List (PT (h+1)),e=two (h+1) ts∧ts.map Prod.snd=chunk ks∧(∀ t∈ts,w.heap.size≤addr (h+1) t∧IsN w' (Up F w w') (h+1) t)∧Ext w w'
theorem InnerPost1.grow {F:Nat→Prop} {h:Nat} {w w1 w2 w3:World} {t:PT (h+1)} (hF:∀ b,F b→b<w.heap.size) (h1:Ext w w1) (he:Ext w1 w2) (h2:Ext w2 w3) (ha:w1.heap.size≤addr (h+1) t) (hn:IsN w2 (Up F w1 w2) (h+1) t):w.heap.size≤addr (h+1) t∧IsN w3 (Up F w w3) (h+1) t:=
 ⟨Nat.le_trans h1.size ha,(hn.agree (h2.agree fun i hi=>hi.elim (fun h=>Nat.lt_of_lt_of_le (hF i h) (Nat.le_trans h1.size he.size)) fun h=>h.2)).mono fun i hi=>hi.elim .inl fun h=>.inr ⟨Nat.le_trans h1.size h.1,Nat.lt_of_lt_of_le h.2 h2.size⟩⟩
theorem splitP_any {w:World} {F:Nat→Prop} {h:Nat} {s:Sl} {ks:List (PT h)} (hs:Rd w (Lt w.heap.size) 1 s ks.length (ptrs h ks)) (hk:Kids w F h ks) (h2:2≤ks.length) (h9:ks.length≤9) :
  Calls Tryz.prog 110 #[.slice s.a ks.length s.c,.func (.func 62) #[] #[]] w (SplitPostP F h ks w):=by
 by_cases h':ks.length≤8
 ·have hc:=tinner_any hs rfl hk h2 h'
  have hl:(ks.length:Int)≤8:=by omega
  clear hs hk
  go_enter Tryz.func110,Tryz.ntmps110
  go_wp2_with fail
  refine hc.mono ?_
  rintro e w' ⟨t,rfl,h1,h2,h3,h4⟩
  have H3:=Lib.hid h3
  clear h3
  go_wp2_with fail
  go_ret2
  exact ⟨[t],rfl,by show [t.2]=_;rw [h1,chunk,if_pos (by simpa using h')],by simpa using ⟨h2,H3.out⟩,h4⟩
 have h9:ks.length=9:=by omega
 obtain ⟨k0,hk0⟩:∃ x,ks[0]? = some x:=⟨_,List.getElem?_eq_getElem (by omega)⟩
 obtain ⟨b,o,ha,hbo,hlc,hcm,-⟩:=hs.ptr_at hk0
 have hseq:s=⟨some ⟨b,o,none⟩,s.c⟩:=by cases s;simp_all
 have hcL:∀ W,Ext w W→Calls Tryz.prog 62 #[.slice (some ⟨b,o,none⟩) 4 s.c] W (InnerPost1 F h (ks.take 4) W):=fun W hW=>by
  have:=tinner_any (w:=W) (F:=F) (n:=4) (s:=s) (ks:=ks.take 4) (by rw [ptrs_take,List.length_take,Nat.min_eq_left (by omega)];exact (hs.take (m:=4) (by omega)).ext hW) (by rw [List.length_take];omega) ((hk.take 4).ext hW) (by rw [List.length_take];omega) (by rw [List.length_take];omega)
  rw [hseq] at this
  exact this
 have hcR:∀ W,Ext w W→Calls Tryz.prog 62 #[.slice (some ⟨b,o+4,none⟩) 5 (s.c - 4)] W (InnerPost1 F h (ks.drop 4) W):=fun W hW=>by
  have hs2:=hs
  rw [hseq] at hs2
  exact tinner_any (w:=W) (F:=F) (n:=5) (s:=⟨some ⟨b,o+4,none⟩,s.c - 4⟩) (ks:=ks.drop 4) (by rw [show ptrs h (ks.drop 4)=(ptrs h ks).drop (4*1) from by simp [ptrs,List.map_drop],List.length_drop];exact (hs2.drop (m:=4) (by omega)).ext hW) (by rw [List.length_drop];omega) ((hk.drop 4).ext hW) (by rw [List.length_drop];omega) (by rw [List.length_drop];omega)
 have HL:=Lib.hid hcL
 have HR:=Lib.hid hcR
 have HF:=Lib.hid hk.lt
 clear hcL hcR hs hk hseq
 rw [ha,h9]
 rw [h9] at hlc
 have hl4:4≤s.c:=by omega
 unfold maxLen at hcm
 go_enter Tryz.func110,Tryz.ntmps110
 go_wp2_with fail
 go_region_with (first
  | (go_at_call_of 62 (Value.slice (some ⟨b,o,none⟩) 4 s.c);refine (HL.out _ ?_).mono ?_;exact (Ext.refl w).drew;rintro e w1 ⟨t,rfl,h1,h2,h3,h4⟩;have H3:=Lib.hid h3;clear h3)
  | (go_at_call 62;refine (HR.out _ ?_).mono ?_;exact (Ext.refl w).drew.trans h4;rintro e w2 ⟨u,rfl,k1,k2,k3,k4⟩;have K3:=Lib.hid k3;clear k3))
 all_goals go_wp2_with fail
 all_goals go_ret2
 have hX:=(Ext.refl w).drew.trans h4
 refine ⟨[t,u],rfl,?_,?_,hX.trans k4⟩
 ·show [t.2,u.2]=_
  rw [h1,k1,chunk,if_neg (by omega)]
 intro x hx
 rcases List.mem_cons.1 hx with rfl | hx
 ·exact InnerPost1.grow HF.out (Ext.refl w).drew h4 k4 h2 H3.out
 rcases List.mem_cons.1 hx with rfl | hx
 ·exact InnerPost1.grow HF.out hX k4 (Ext.refl w2) k2 K3.out
 simp at hx
def posK (h:Nat) (ks:List (PT h)) (k:ByteArray):Nat:=(ks.takeWhile fun t=>!(klt k (firstK (ents h t)))).length
def whichK (h:Nat) (ks:List (PT h)) (k:ByteArray):Nat:=posK h ks k - 1
theorem posK_of {h:Nat} {ks:List (PT h)} {k:ByteArray} {p:Nat} (hp:p≤ks.length) (hlo:∀ i t,i<p→ks[i]? = some t→klt k (firstK (ents h t))=false) (hhi:∀ t,ks[p]? = some t→klt k (firstK (ents h t))=true):posK h ks k=p:=by
 induction ks generalizing p with
 | nil=>simp at hp;subst hp;rfl
 | cons a ks ih=>
   cases p with
   | zero=>simp [posK,hhi a rfl]
   | succ p=>
     have h0:=hlo 0 a (by omega) rfl
     have:=ih (p:=p) (by simpa using hp) (fun i e hi he=>hlo (i+1) e (by omega) (by simpa using he)) (fun e he=>hhi e (by simpa using he))
     simp only [posK,List.takeWhile_cons,h0,Bool.not_false,if_true,List.length_cons]
     rw [←this];rfl
theorem posK_le (h:Nat) (ks:List (PT h)) (k:ByteArray):posK h ks k≤ks.length:=(List.takeWhile_sublist _).length_le
theorem firstK_mem {es:List Ent} (h:0<es.length):∃ e∈es,firstK es=e.1:=by
 cases es with
 | nil=>simp at h
 | cons x xs=>exact ⟨x,List.mem_cons_self ..,rfl⟩
theorem lastK_mem {es:List Ent} (h:0<es.length):∃ e∈es,lastK es=e.1:=by
 cases hl:es.getLast? with
 | none=>rw [List.getLast?_eq_none_iff.1 hl] at h;simp at h
 | some x=>exact ⟨x,List.mem_of_getLast? hl,by simp [lastK,hl]⟩
theorem kids_lt {h:Nat}:∀ {ks:List (PT h)},Sorted (ks.flatMap (ents h))→∀ {i j:Nat} {x y:PT h},i<j→ks[i]? = some x→ks[j]? = some y→∀ a∈ents h x,∀ b∈ents h y,klt a.1 b.1=true
 | [],_,i,j,x,y,_,hx,_=>by simp at hx
 | t :: ts,hs,0,0,x,y,hij,hx,hy=>by omega
 | t :: ts,hs,0,j+1,x,y,hij,hx,hy=>by
   simp at hx hy;subst hx
   intro a ha b hb
   have hs:(ents h t++ts.flatMap (ents h)).Pairwise fun a b=>klt a.1 b.1=true:=hs
   exact (List.pairwise_append.1 hs).2.2 a ha b (List.mem_flatMap.2 ⟨y,List.mem_of_getElem? hy,hb⟩)
 | t :: ts,hs,i+1,0,x,y,hij,hx,hy=>by omega
 | t :: ts,hs,i+1,j+1,x,y,hij,hx,hy=>by
   simp at hx hy
   have hs:(ents h t++ts.flatMap (ents h)).Pairwise fun a b=>klt a.1 b.1=true:=hs
   exact kids_lt (List.pairwise_append.1 hs).2.1 (Nat.lt_of_succ_lt_succ hij) hx hy
theorem kid_sorted {h:Nat}:∀ {ks:List (PT h)},Sorted (ks.flatMap (ents h))→∀ x∈ks,Sorted (ents h x)
 | t :: ts,hs,x,hx=>by
   have hs:(ents h t++ts.flatMap (ents h)).Pairwise fun a b=>klt a.1 b.1=true:=hs
   rcases List.mem_cons.1 hx with rfl | hx
   ·exact (List.pairwise_append.1 hs).1
   exact kid_sorted (List.pairwise_append.1 hs).2.1 x hx
theorem firsts_rise {h:Nat} {ks:List (PT h)} (hs:Sorted (ks.flatMap (ents h))) (hp:∀ k∈ks,0<(ents h k).length) {i j:Nat} {x y:PT h} (hij:i<j) (hx:ks[i]? = some x) (hy:ks[j]? = some y):klt (firstK (ents h x)) (firstK (ents h y))=true:=by
 obtain ⟨a,ha,ea⟩:=firstK_mem (hp x (List.mem_of_getElem? hx))
 obtain ⟨b,hb,eb⟩:=firstK_mem (hp y (List.mem_of_getElem? hy))
 rw [ea,eb]
 exact kids_lt hs hij hx hy a ha b hb
theorem rising_of {h:Nat} {ks:List (PT h)} (hs:Sorted (ks.flatMap (ents h))) (hp:∀ k∈ks,0<(ents h k).length):risingK h ks:=fun i x y hx hy=>by
 obtain ⟨a,ha,ea⟩:=lastK_mem (hp x (List.mem_of_getElem? hx))
 obtain ⟨b,hb,eb⟩:=firstK_mem (hp y (List.mem_of_getElem? hy))
 rw [ea,eb]
 exact kids_lt hs (Nat.lt_succ_self i) hx hy a ha b hb
theorem which1_any {w W:World} {F:Nat→Prop} {h:Nat} {s:Sl} {ks:List (PT h)} (hs:Rd w (Lt w.heap.size) 1 s ks.length (ptrs h ks)) (hk:∀ k∈ks,IsN w F h k) (hF:∀ b,F b→b<w.heap.size) {k:ByteArray} {b1 b2:Nat} (h1:W.cell? ⟨b1,0,none⟩=some (.slice s.a ks.length s.c)) (h2:W.cell? ⟨b2,0,none⟩=some (.string k)) (hx:Ext w W) (hn:ks.length≤1000)
  {i:Nat} {x:PT h} (hi:ks[i]? = some x):Calls Tryz.prog 145 #[.int .i64 i,.pointer (some ⟨b1,0,none⟩),.pointer (some ⟨b2,0,none⟩)] W fun e w'=>e=.returned (.bool (klt k (firstK (ents h x))))∧Ext W w':=by
 obtain ⟨b,o,ha,hbo,hlc,hcm,hk0⟩:=hs.ptr_at hi
 have hk:=(hk x (List.mem_of_getElem? hi)).agree (hx.agree hF)
 have hc:W.cell? ⟨b,o+i,none⟩=some (ptr h x):=(hx.cell hbo).trans hk0
 have hil:i<ks.length:=(List.getElem?_eq_some_iff.1 hi).1
 have hil':(i:Int)<(ks.length:Int):=by omega
 have hcf:=fun q=>first_any (w:=W.drewN q) (hk.agree (Agree.drewN W q))
 have HC:=Lib.hid hcf
 rw [ha] at h1
 clear hs hi hx ha hk0 hcf hk
 go_enter Tryz.func145,Tryz.ntmps145
 go_wp2_with fail
 go_quiet ((go_at_call 146;refine (HC.out _).mono ?_;rintro e w2 ⟨rfl,rfl⟩;exact ⟨rfl,_,rfl⟩))
 go_wp2
 go_ret
 exact ⟨by rw [←kgt_eq,Bool.not_or];rfl,(Ext.refl W).drewN _⟩
theorem which_any {w:World} {F:Nat→Prop} {h:Nat} {s:Sl} {ks:List (PT h)} (hs:Rd w (Lt w.heap.size) 1 s ks.length (ptrs h ks)) (hk:∀ k∈ks,IsN w F h k) (hF:∀ b,F b→b<w.heap.size) (hp:∀ k∈ks,0<(ents h k).length) (k:ByteArray) (hsort:Sorted (ks.flatMap (ents h))) (hn:ks.length≤1000) :
  Calls Tryz.prog 99 #[.slice s.a ks.length s.c,.string k] w fun e w'=>e=.returned (.int .i64 (whichK h ks k))∧Ext w w':=by
 have HS:=Lib.hid hs
 have HO:=Lib.hid hsort
 have HK:=Lib.hid hk
 have HF:=Lib.hid hF
 have HP:=Lib.hid hp
 have hsr:∀ W,Ext w W→W.cell? ⟨w.heap.size,0,none⟩=some (.slice s.a ks.length s.c)→W.cell? ⟨w.heap.size+1,0,none⟩=some (.string k)→
   Calls Tryz.prog 100 #[.int .i64 ks.length,.func (.func 145) #[] #[.pointer (some ⟨w.heap.size,0,none⟩),.pointer (some ⟨w.heap.size+1,0,none⟩)]] W (SearchPost ks.length (fun i=>klt k ((ks[i]?.map fun t=>firstK (ents h t)).getD ByteArray.empty)) W):=by
  intro W hW h1 h2
  refine search_any 145 _ _ ks.length _ W (enters_of Tryz.func145 (by kernel_rfl) rfl) (by omega) ?_ ?_
  ·intro i W' hi hW'
   obtain ⟨x,hx⟩:∃ x,ks[i]? = some x:=⟨_,List.getElem?_eq_getElem hi⟩
   rw [hx]
   have hb1:=World.block_lt_of_cell? W _ h1
   have hb2:=World.block_lt_of_cell? W _ h2
   exact which1_any HS.out HK.out HF.out ((hW'.cell hb1).trans h1) ((hW'.cell hb2).trans h2) (hW.trans hW') hn hx
  intro i j hij hj hpi
  by_cases hij':i=j
  ·subst hij';exact hpi
  obtain ⟨x,hx⟩:∃ x,ks[i]? = some x:=⟨_,List.getElem?_eq_getElem (by omega)⟩
  obtain ⟨y,hy⟩:∃ y,ks[j]? = some y:=⟨_,List.getElem?_eq_getElem hj⟩
  have hxy:=firsts_rise HO.out HP.out (i:=i) (j:=j) (by omega) hx hy
  rw [hx] at hpi;rw [hy]
  exact klt_trans hpi hxy
 clear hs hsort hk hF hp
 go_enter Tryz.func99,Tryz.ntmps99
 go_wp2_with fail
 refine (hsr _ (((Ext.refl w).alloc _ _).alloc _ _) (by simp) (by simp)).mono ?_
 rintro e w1 ⟨p,rfl,hp,hlo,hhi,he1⟩
 have hpos:posK h ks k=p:=posK_of hp (fun i t hi ht=>by
   have:klt k ((ks[i]?.map fun t=>firstK (ents h t)).getD ByteArray.empty)=false:=hlo i hi
   rwa [ht] at this) (fun t ht=>by
   have:klt k ((ks[p]?.map fun t=>firstK (ents h t)).getD ByteArray.empty)=true:=hhi p (Nat.le_refl _) (List.getElem?_eq_some_iff.1 ht).1
   rwa [ht] at this)
 have hX:Ext w w1:=(((Ext.refl w).alloc _ _).alloc _ _).trans he1
 have HX:=Lib.hid hX
 have HPS:=Lib.hid hpos
 have hw1:IntKind.i64.wrap ((p:Int) - 1)=(p:Int) - 1:=by rw [IntKind.wrap_i64];omega
 clear hlo hhi hsr hX hpos he1
 go_wp2_with fail
 ·go_ret
  refine ⟨?_,HX.out⟩
  rw [whichK,HPS.out,show p - 1=0 from by omega]
  rfl
 go_ret
 refine ⟨?_,HX.out⟩
 rw [whichK,HPS.out,show ((p - 1:Nat):Int)=(p:Int) - 1 from by omega]
 rfl
theorem sorted_app {A B:List Ent} (h:Sorted (A++B)):Sorted A∧Sorted B∧∀ a∈A,∀ b∈B,klt a.1 b.1=true:=List.pairwise_append.1 h
theorem take_mid {α:Type} {l:List α} {i:Nat} {x:α} (h:l[i]? = some x):l=l.take i++x :: l.drop (i+1):=by
 obtain ⟨hi,rfl⟩:=List.getElem?_eq_some_iff.1 h
 rw [←List.drop_eq_getElem_cons hi,List.take_append_drop]
theorem firstK_le {es:List Ent} (hs:Sorted es) {e:Ent} (he:e∈es):klt e.1 (firstK es)=false:=by
 cases es with
 | nil=>cases he
 | cons x xs=>
   rcases List.mem_cons.1 he with rfl | he
   ·exact klt_irrefl _
   exact klt_asymm ((List.pairwise_cons.1 hs).1 e he)
theorem posK_below {h:Nat} {k:ByteArray}:∀ {ks:List (PT h)} {i:Nat} {t:PT h},i<posK h ks k→ks[i]? = some t→klt k (firstK (ents h t))=false
 | [],i,t,_,ht=>by simp at ht
 | a :: ks,i,t,hi,ht=>by
   unfold posK at hi
   rw [List.takeWhile_cons] at hi
   split at hi
   ·rename_i ha
    cases i with
    | zero=>simp at ht;subst ht;simpa using ha
    | succ i=>exact posK_below (ks:=ks) (by unfold posK;simpa using hi) (by simpa using ht)
   simp at hi
theorem posK_at {h:Nat} {k:ByteArray}:∀ {ks:List (PT h)} {t:PT h},ks[posK h ks k]? = some t→klt k (firstK (ents h t))=true
 | [],t,ht=>by simp at ht
 | a :: ks,t,ht=>by
   unfold posK at ht
   rw [List.takeWhile_cons] at ht
   split at ht
   ·exact posK_at (ks:=ks) (by unfold posK;simpa using ht)
   rename_i ha
   simp at ht;subst ht;simpa using ha
theorem which_split {h:Nat} {ks:List (PT h)} (hs:Sorted (ks.flatMap (ents h))) (hp:∀ k∈ks,0<(ents h k).length) (hne:0<ks.length) (k:ByteArray) :
  ∃ kid,ks[whichK h ks k]? = some kid∧(∀ e∈(ks.take (whichK h ks k)).flatMap (ents h),klt e.1 k=true)∧(∀ e∈(ks.drop (whichK h ks k+1)).flatMap (ents h),klt k e.1=true):=by
 have hle:=posK_le h ks k
 have hi:whichK h ks k<ks.length:=by unfold whichK;omega
 refine ⟨_,List.getElem?_eq_getElem hi,fun e he=>?_,fun e he=>?_⟩
 ·obtain ⟨t,ht,het⟩:=List.mem_flatMap.1 he
  obtain ⟨j,hj⟩:=List.getElem?_of_mem ht
  rw [List.getElem?_take] at hj
  split at hj
  ·rename_i hji
   have hlt:whichK h ks k<posK h ks k:=by unfold whichK at hji ⊢;omega
   have h1:=posK_below hlt (List.getElem?_eq_getElem hi)
   obtain ⟨b,hbm,eb⟩:=firstK_mem (hp _ (List.mem_of_getElem? (List.getElem?_eq_getElem hi)))
   have h2:=kids_lt hs hji hj (List.getElem?_eq_getElem hi) e het b hbm
   rw [←eb] at h2
   exact klt_of_lt_ge h2 h1
  cases hj
 obtain ⟨t,ht,het⟩:=List.mem_flatMap.1 he
 obtain ⟨j,hj⟩:=List.getElem?_of_mem ht
 rw [List.getElem?_drop] at hj
 have hks:=kid_sorted hs t (List.mem_of_getElem? hj)
 have hlt:posK h ks k<ks.length:=by
  have:=(List.getElem?_eq_some_iff.1 hj).1
  unfold whichK at this;omega
 obtain ⟨u,hu⟩:∃ u,ks[posK h ks k]? = some u:=⟨_,List.getElem?_eq_getElem hlt⟩
 have hb:=posK_at hu
 have hf:=firstK_le hks het
 have hge:klt (firstK (ents h t)) (firstK (ents h u))=false:=by
  by_cases hjp:posK h ks k=whichK h ks k+1+j
  ·rw [hjp,hj] at hu
   simp only [Option.some.injEq] at hu
   rw [hu];exact klt_irrefl _
  exact klt_asymm (firsts_rise hs hp (i:=posK h ks k) (j:=whichK h ks k+1+j) (by unfold whichK at *;omega) hu hj)
 exact klt_of_lt_ge hb (by
  cases hc:klt e.1 (firstK (ents h u))
  ·rfl
  exact absurd (klt_of_ge_lt hf hc) (by rw [hge];simp))
def WithR (B:Nat) (k:ByteArray) (v:Val):(h:Nat)→PT h→List (PT h)→Prop
 | 0,t,ts=>ts.map Prod.snd=chunk (insE t.2 k v)∧∀ u∈ts,B≤u.1
 | h+1,t,ts=>∃ kid rs,t.2[whichK h t.2 k]? = some kid∧WithR B k v h kid rs∧ts.map Prod.snd=chunk (t.2.take (whichK h t.2 k)++rs++t.2.drop (whichK h t.2 k+1))∧∀ u∈ts,B≤u.1
theorem WithR.mono {A B:Nat} (hAB:A≤B) {k:ByteArray} {v:Val}:∀ {h:Nat} {t:PT h} {ts:List (PT h)},WithR B k v h t ts→WithR A k v h t ts
 | 0,_,_,⟨h1,h2⟩=>⟨h1,fun u hu=>Nat.le_trans hAB (h2 u hu)⟩
 | _+1,_,_,⟨kid,rs,h1,h2,h3,h4⟩=>⟨kid,rs,h1,h2.mono hAB,h3,fun u hu=>Nat.le_trans hAB (h4 u hu)⟩
theorem one_of {α β:Type} {ts:List (β × List α)} {l:List α} (h:ts.map Prod.snd=[l]):∃ x,ts=[x]∧x.2=l:=by
 match ts,h with
 | [x],h=>exact ⟨x,rfl,by simpa using h⟩
theorem two_of {α β:Type} {ts:List (β × List α)} {l m:List α} (h:ts.map Prod.snd=[l,m]):∃ x y,ts=[x,y]∧x.2=l∧y.2=m:=by
 match ts,h with
 | [x,y],h=>exact ⟨x,y,rfl,by simpa using h⟩
theorem one0 {ts:List (PT 0)} {l:List Ent} (h:ts.map Prod.snd=[l]):∃ x:PT 0,ts=[x]∧x.2=l:=one_of (α:=Ent) (β:=Nat) h
theorem two0 {ts:List (PT 0)} {l m:List Ent} (h:ts.map Prod.snd=[l,m]):∃ x y:PT 0,ts=[x,y]∧x.2=l∧y.2=m:=two_of (α:=Ent) (β:=Nat) h
theorem one1 {n:Nat} {ts:List (PT (n+1))} {l:List (PT n)} (h:ts.map Prod.snd=[l]):∃ x:PT (n+1),ts=[x]∧x.2=l:=one_of (α:=PT n) (β:=Nat) h
theorem two1 {n:Nat} {ts:List (PT (n+1))} {l m:List (PT n)} (h:ts.map Prod.snd=[l,m]):∃ x y:PT (n+1),ts=[x,y]∧x.2=l∧y.2=m:=two_of (α:=PT n) (β:=Nat) h
theorem chunk_two {α:Type} (l:List α):(∃ a,chunk l=[a])∨∃ a b,chunk l=[a,b]:=by
 unfold chunk
 split
 ·exact .inl ⟨_,rfl⟩
 exact .inr ⟨_,_,rfl⟩
theorem WithR.two {B:Nat} {k:ByteArray} {v:Val} {h:Nat} {t:PT h} {ts:List (PT h)} (hw:WithR B k v h t ts):(∃ a,ts=[a])∨∃ a b,ts=[a,b]:=by
 have:∀ {α β:Type} (l:List α) {ts:List (β × List α)},ts.map Prod.snd=chunk l→(∃ a,ts=[a])∨∃ a b,ts=[a,b]:=by
  intro α β l ts h
  rcases chunk_two l with ⟨a,ha⟩ | ⟨a,b,ha⟩ <;> rw [ha] at h
  ·match ts,h with
   | [x],_=>exact .inl ⟨x,rfl⟩
  match ts,h with
  | [x,y],_=>exact .inr ⟨x,y,rfl⟩
 cases h with
 | zero=>exact this _ hw.1
 | succ h=>obtain ⟨kid,rs,-,-,h3,-⟩:=hw;exact this _ h3
theorem chunk_flat {α:Type} (l:List α):(chunk l).flatten=l:=by
 unfold chunk;split <;> simp
theorem insE_len:∀ (es:List Ent) (k:ByteArray) (v:Val),(insE es k v).length=es.length∨(insE es k v).length=es.length+1
 | [],_,_=>.inr rfl
 | e :: es,k,v=>by
   simp only [insE]
   split
   ·rcases insE_len es k v with h | h <;> simp [h]
   split <;> simp
theorem insE_pos_len (es:List Ent) (k:ByteArray) (v:Val):0<(insE es k v).length:=by
 cases es with
 | nil=>simp [insE]
 | cons e es=>simp only [insE];split <;> (try split) <;> simp
theorem flat_snd0 (ts:List (PT 0)):ts.flatMap (ents 0)=(ts.map Prod.snd).flatten:=by
 induction ts with
 | nil=>rfl
 | cons t ts ih=>
   rw [List.flatMap_cons,ih]
   rfl
theorem flat_snd (h:Nat) (ts:List (PT (h+1))):ts.flatMap (ents (h+1))=((ts.map Prod.snd).flatten:List (PT h)).flatMap (ents h):=by
 induction ts with
 | nil=>rfl
 | cons t ts ih=>
   rw [List.flatMap_cons,ih]
   show t.2.flatMap (ents h)++_=(t.2++_).flatMap (ents h)
   rw [List.flatMap_append]
theorem kids_pos {h:Nat} {t:PT (h+1)} (ok:OkT (h+1) t):∀ k∈t.2,0<(ents h k).length:=fun k hk=>ents_pos h k (ok.2.2 k hk).1 (by have:=(ok.2.2 k hk).2;omega)
theorem WithR.ents {B:Nat} {k:ByteArray} {v:Val}:∀ {h:Nat} {t:PT h} {ts:List (PT h)},WithR B k v h t ts→OkT h t→Sorted (ents h t)→ts.flatMap (Proofs.YtkhdiakpdafcdaaGreatDoor.ents h)=insE (ents h t) k v
 | 0,t,ts,⟨h1,_⟩,_,_=>by rw [flat_snd0,h1,chunk_flat];rfl
 | h+1,t,ts,⟨kid,rs,hk,hr,h1,_⟩,ok,hs=>by
   have hp:=kids_pos ok
   obtain ⟨kid',hk',hA,hC⟩:=which_split (h:=h) (ks:=t.2) hs hp (by have:=ok.1;omega) k
   rw [hk] at hk'
   simp only [Option.some.injEq] at hk'
   subst hk'
   have hm:=List.mem_of_getElem? hk
   have ih:=WithR.ents hr (ok.2.2 kid hm).1 (kid_sorted hs kid hm)
   rw [flat_snd,h1,chunk_flat,List.flatMap_append,List.flatMap_append,ih]
   show _=insE (t.2.flatMap (Proofs.YtkhdiakpdafcdaaGreatDoor.ents h)) k v
   conv=>rhs;rw [take_mid hk]
   rw [List.flatMap_append,List.flatMap_cons,insE_app hA,insE_stop hC,List.append_assoc]
theorem WithR.ok {B:Nat} {k:ByteArray} {v:Val}:∀ {h:Nat} {t:PT h} {ts:List (PT h)},WithR B k v h t ts→OkT h t→
  (∀ u∈ts,OkT h u∧1≤size h u∧(4≤size h t→4≤size h u))∧(2≤ts.length→∀ u∈ts,4≤size h u)
 | 0,t,ts,⟨h1,_⟩,ok=>by
   have hl:=insE_len t.2 k v
   have hp:=insE_pos_len t.2 k v
   have ok8:t.2.length≤8:=ok
   unfold chunk at h1
   split at h1
   ·rename_i h8
    obtain ⟨x,rfl,hx⟩:=one0 h1
    refine ⟨fun u hu=>?_,fun h=>by simp at h⟩
    simp at hu;subst hu
    refine ⟨show u.2.length≤8 by rw [hx];exact h8,show 1≤u.2.length by rw [hx];omega,fun h4=>show 4≤u.2.length by rw [hx];have h4:4≤t.2.length:=h4;omega⟩
   rename_i h8
   obtain ⟨x,y,rfl,hx⟩:=two0 h1
   have lx:x.2.length=4:=by rw [hx.1,List.length_take];omega
   have ly:4≤y.2.length∧y.2.length≤8:=by rw [hx.2,List.length_drop];omega
   refine ⟨fun u hu=>?_,fun _ u hu=>?_⟩
   ·simp at hu
    rcases hu with rfl | rfl
    ·exact ⟨show u.2.length≤8 by omega,show 1≤u.2.length by omega,fun _=>show 4≤u.2.length by omega⟩
    exact ⟨show u.2.length≤8 by omega,show 1≤u.2.length by omega,fun _=>show 4≤u.2.length by omega⟩
   simp at hu
   rcases hu with rfl | rfl
   ·show 4≤u.2.length;omega
   show 4≤u.2.length;omega
 | h+1,t,ts,⟨kid,rs,hk,hr,h1,_⟩,ok=>by
   have hm:=List.mem_of_getElem? hk
   have hkl:=(List.getElem?_eq_some_iff.1 hk).1
   obtain ⟨i1,i2⟩:=WithR.ok hr (ok.2.2 kid hm).1
   have hk4:=(ok.2.2 kid hm).2
   have hall:∀ u∈t.2.take (whichK h t.2 k)++rs++t.2.drop (whichK h t.2 k+1),OkT h u∧4≤size h u:=fun u hu=>by
    rcases List.mem_append.1 hu with hu | hu
    ·rcases List.mem_append.1 hu with hu | hu
     ·exact ok.2.2 u (List.mem_of_mem_take hu)
     exact ⟨(i1 u hu).1,(i1 u hu).2.2 hk4⟩
    exact ok.2.2 u (List.mem_of_mem_drop hu)
   have hlen:(t.2.take (whichK h t.2 k)++rs++t.2.drop (whichK h t.2 k+1)).length=t.2.length∨(t.2.take (whichK h t.2 k)++rs++t.2.drop (whichK h t.2 k+1)).length=t.2.length+1:=by
    simp only [List.length_append,List.length_take,List.length_drop]
    rcases hr.two with ⟨a,rfl⟩ | ⟨a,b,rfl⟩ <;> simp <;> omega
   obtain ⟨o1,o2,-⟩:=ok
   generalize t.2.take (whichK h t.2 k)++rs++t.2.drop (whichK h t.2 k+1)=L at *
   unfold chunk at h1
   split at h1
   ·rename_i h8
    obtain ⟨x,rfl,hx⟩:=one1 h1
    refine ⟨fun u hu=>?_,fun h=>by simp at h⟩
    simp at hu;subst hu
    refine ⟨⟨by rw [hx];omega,by rw [hx];exact h8,by rw [hx];exact hall⟩,show 1≤u.2.length by rw [hx];omega,fun h4=>show 4≤u.2.length by rw [hx];have h4:4≤t.2.length:=h4;omega⟩
   rename_i h8
   obtain ⟨x,y,rfl,hx⟩:=two1 h1
   have lx:x.2.length=4:=by rw [hx.1,List.length_take];omega
   have ly:4≤y.2.length∧y.2.length≤8:=by rw [hx.2,List.length_drop];omega
   have ax:∀ u∈x.2,OkT h u∧4≤size h u:=fun u hu=>hall u (List.mem_of_mem_take (hx.1▸hu))
   have ay:∀ u∈y.2,OkT h u∧4≤size h u:=fun u hu=>hall u (List.mem_of_mem_drop (hx.2▸hu))
   refine ⟨fun u hu=>?_,fun _ u hu=>?_⟩
   ·simp at hu
    rcases hu with rfl | rfl
    ·exact ⟨⟨by omega,by omega,ax⟩,show 1≤u.2.length by omega,fun _=>show 4≤u.2.length by omega⟩
    exact ⟨⟨by omega,by omega,ay⟩,show 1≤u.2.length by omega,fun _=>show 4≤u.2.length by omega⟩
   simp at hu
   rcases hu with rfl | rfl
   ·show 4≤u.2.length;omega
   show 4≤u.2.length;omega
theorem insE_pos {es:List Ent} (hs:Sorted es) (k:ByteArray) (v:Val) :
  insE es k v=es.take (posE es k)++(k,v) :: (if (es[posE es k]?).map Prod.fst=some k then es.drop (posE es k+1) else es.drop (posE es k)):=by
 have e1:es.take (posE es k)=es.takeWhile fun e=>klt e.1 k:=(List.prefix_iff_eq_take.1 (List.takeWhile_prefix (l:=es) (fun e:Ent=>klt e.1 k))).symm
 have hA:∀ e∈es.take (posE es k),klt e.1 k=true:=fun e he=>by
  rw [e1] at he
  exact List.all_eq_true.1 (List.all_takeWhile (l:=es) (p:=fun e:Ent=>klt e.1 k)) e he
 have hB0:∀ e,es[posE es k]? = some e→klt e.1 k=false:=by
  intro e he
  have e2:es.drop (posE es k)=es.dropWhile fun e=>klt e.1 k:=by
   have h1:=List.take_append_drop (posE es k) es
   rw [e1] at h1
   have h2:=List.takeWhile_append_dropWhile (p:=fun e:Ent=>klt e.1 k) (l:=es)
   exact List.append_cancel_left (h1.trans h2.symm)
  have h0:(es.drop (posE es k))[0]? = some e:=by rw [List.getElem?_drop];exact he
  rw [e2] at h0
  cases hd:es.dropWhile fun e=>klt e.1 k with
  | nil=>rw [hd] at h0;simp at h0
  | cons x xs=>
    rw [hd] at h0;simp at h0;subst h0
    have:=List.head?_dropWhile_not (fun e:Ent=>klt e.1 k) es
    rw [hd] at this
    simpa using this
 have hB:∀ e∈es.drop (posE es k),klt e.1 k=false:=fun e he=>by
  obtain ⟨j,hj⟩:=List.getElem?_of_mem he
  rw [List.getElem?_drop] at hj
  by_cases h0:j=0
  ·subst h0;exact hB0 e hj
  obtain ⟨y,hy⟩:∃ y,es[posE es k]? = some y:=⟨_,List.getElem?_eq_getElem (by have:=(List.getElem?_eq_some_iff.1 hj).1;omega)⟩
  have h1:=hB0 y hy
  have h2:=sorted_lt hs (i:=posE es k) (j:=posE es k+j) (by omega) hy hj
  cases hc:klt e.1 k
  ·rfl
  rw [klt_trans h2 hc] at h1;cases h1
 conv=>lhs;rw [←List.take_append_drop (posE es k) es]
 rw [insE_app hA,insE_at hB]
 congr 2
 rw [List.head?_drop,List.tail_drop]
def pairL {α:Type} (l r:List α):List (List α):=
 if 4<l.length then [l.take (l.length - 1),l.drop (l.length - 1)++r] else if 4<r.length then [l++r.take 1,r.drop 1] else [l++r]
theorem pairL_flat {α:Type} (l r:List α):(pairL l r).flatten=l++r:=by
 unfold pairL
 split
 ·simp [←List.append_assoc]
 split
 ·simp only [List.flatten_cons,List.flatten_nil,List.append_nil,List.append_assoc,List.take_append_drop]
 simp
theorem pairL_len {α:Type} (l r:List α):(pairL l r).length=1∨(pairL l r).length=2:=by
 unfold pairL
 split
 ·simp
 split <;> simp
theorem pairL_ok {α:Type} {l r:List α} (h:(l.length=3∧4≤r.length∧r.length≤8)∨(4≤l.length∧l.length≤8∧r.length=3)):∀ x∈pairL l r,4≤x.length∧x.length≤8:=by
 unfold pairL
 intro x hx
 split at hx
 ·simp only [List.mem_cons,List.not_mem_nil,or_false] at hx
  rcases hx with rfl | rfl
  ·rw [List.length_take];omega
  rw [List.length_append,List.length_drop];omega
 split at hx
 ·simp only [List.mem_cons,List.not_mem_nil,or_false] at hx
  rcases hx with rfl | rfl
  ·rw [List.length_append,List.length_take];omega
  rw [List.length_drop];omega
 simp only [List.mem_cons,List.not_mem_nil,or_false] at hx
 subst hx
 rw [List.length_append];omega
theorem pairL_mem {α:Type} {l r:List α} {x:List α} (hx:x∈pairL l r) {a:α} (ha:a∈x):a∈l∨a∈r:=by
 have:a∈(pairL l r).flatten:=List.mem_flatten.2 ⟨x,hx,ha⟩
 rw [pairL_flat] at this
 exact List.mem_append.1 this
def PairR (B:Nat):(h:Nat)→PT h→PT h→List (PT h)→Prop
 | 0,l,r,ts=>ts.map Prod.snd=pairL l.2 r.2∧∀ u∈ts,B≤u.1
 | _+1,l,r,ts=>ts.map Prod.snd=pairL l.2 r.2∧∀ u∈ts,B≤u.1
theorem PairR.mono {A B:Nat} (hAB:A≤B):∀ {h:Nat} {l r:PT h} {ts:List (PT h)},PairR B h l r ts→PairR A h l r ts
 | 0,_,_,_,⟨h1,h2⟩=>⟨h1,fun u hu=>Nat.le_trans hAB (h2 u hu)⟩
 | _+1,_,_,_,⟨h1,h2⟩=>⟨h1,fun u hu=>Nat.le_trans hAB (h2 u hu)⟩
theorem PairR.ents {B:Nat}:∀ {h:Nat} {l r:PT h} {ts:List (PT h)},PairR B h l r ts→ts.flatMap (Proofs.YtkhdiakpdafcdaaGreatDoor.ents h)=ents h l++ents h r
 | 0,l,r,ts,⟨h1,_⟩=>by rw [flat_snd0,h1,pairL_flat];rfl
 | h+1,l,r,ts,⟨h1,_⟩=>by
   rw [flat_snd,h1,pairL_flat]
   show (l.2++r.2).flatMap _=_
   rw [List.flatMap_append];rfl
theorem map_len {α β:Type} {ts:List (β × α)} {L:List α} (h:ts.map Prod.snd=L) (hL:L.length=1∨L.length=2):ts.length=1∨ts.length=2:=by
 subst h
 rwa [List.length_map] at hL
theorem PairR.len {B:Nat}:∀ {h:Nat} {l r:PT h} {ts:List (PT h)},PairR B h l r ts→ts.length=1∨ts.length=2
 | 0,l,r,ts,⟨h1,_⟩=>map_len h1 (pairL_len (α:=Ent) _ _)
 | n+1,l,r,ts,⟨h1,_⟩=>map_len h1 (pairL_len (α:=PT n) _ _)
theorem PairR.ok {B:Nat}:∀ {h:Nat} {l r:PT h} {ts:List (PT h)},PairR B h l r ts→OkT h l→OkT h r→(size h l=3∧4≤size h r)∨(4≤size h l∧size h r=3)→∀ u∈ts,OkT h u∧4≤size h u
 | 0,l,r,ts,⟨h1,_⟩,hl,hr,hs,u,hu=>by
   have hm:u.2∈pairL l.2 r.2:=by rw [←h1];exact List.mem_map_of_mem hu
   have hl:l.2.length≤8:=hl
   have hr:r.2.length≤8:=hr
   have hs:(l.2.length=3∧4≤r.2.length)∨(4≤l.2.length∧r.2.length=3):=hs
   have:=pairL_ok (by omega) _ hm
   exact ⟨this.2,this.1⟩
 | h+1,l,r,ts,⟨h1,_⟩,hl,hr,hs,u,hu=>by
   have hm:u.2∈pairL l.2 r.2:=by rw [←h1];exact List.mem_map_of_mem hu
   have l8:l.2.length≤8:=hl.2.1
   have r8:r.2.length≤8:=hr.2.1
   have hs:(l.2.length=3∧4≤r.2.length)∨(4≤l.2.length∧r.2.length=3):=hs
   have:=pairL_ok (by omega) _ hm
   refine ⟨⟨by omega,this.2,fun x hx=>?_⟩,this.1⟩
   rcases pairL_mem hm hx with hx | hx
   ·exact hl.2.2 x hx
   exact hr.2.2 x hx
def Mend (B h:Nat) (ks:List (PT h)) (i:Nat) (ks':List (PT h)):Prop:=
 ∃ l r ts,ks[i - 1]? = some l∧ks[i - 1+1]? = some r∧PairR B h l r ts∧ks'=ks.take (i - 1)++ts++ks.drop (i - 1+2)
def DelK (B:Nat) (k:ByteArray) (h:Nat) (R:PT h→PT h→Prop) (ks ks':List (PT h)):Prop:=
 ∃ kid kid',ks[whichK h ks k]? = some kid∧R kid kid'∧
  ((4≤size h kid'∧ks'=ks.set (whichK h ks k) kid')∨(size h kid'<4∧Mend B h (ks.set (whichK h ks k) kid') (whichK h ks k) ks'))
def DelR (B:Nat) (k:ByteArray):(h:Nat)→PT h→PT h→Prop
 | 0,t,u=>u.2=delE t.2 k∧B≤u.1
 | h+1,t,u=>DelK B k h (DelR B k h) t.2 u.2∧B≤u.1
theorem Mend.mono {A B:Nat} (hAB:A≤B) {h:Nat} {ks ks':List (PT h)} {i:Nat} (hm:Mend B h ks i ks'):Mend A h ks i ks':=by
 obtain ⟨l,r,ts,h1,h2,h3,h4⟩:=hm
 exact ⟨l,r,ts,h1,h2,h3.mono hAB,h4⟩
theorem DelK.mono {A B:Nat} (hAB:A≤B) {k:ByteArray} {h:Nat} {R S:PT h→PT h→Prop} (hRS:∀ x y,R x y→S x y) {ks ks':List (PT h)} (hd:DelK B k h R ks ks'):DelK A k h S ks ks':=by
 obtain ⟨kid,kid',h1,h2,h3⟩:=hd
 exact ⟨kid,kid',h1,hRS _ _ h2,h3.imp_right fun ⟨a,b⟩=>⟨a,b.mono hAB⟩⟩
theorem DelR.mono {A B:Nat} (hAB:A≤B) {k:ByteArray}:∀ {h:Nat} {t u:PT h},DelR B k h t u→DelR A k h t u
 | 0,_,_,⟨h1,h2⟩=>⟨h1,Nat.le_trans hAB h2⟩
 | _+1,_,_,⟨h1,h2⟩=>⟨h1.mono hAB fun _ _ hr=>hr.mono hAB,Nat.le_trans hAB h2⟩
theorem set_mid {α:Type} {l:List α} {i:Nat} {x y:α} (h:l[i]? = some x):l.set i y=l.take i++y :: l.drop (i+1):=by
 rw [List.set_eq_take_append_cons_drop,if_pos (List.getElem?_eq_some_iff.1 h).1]
theorem two_mid {α:Type} {l:List α} {i:Nat} {x y:α} (h:l[i]? = some x) (h':l[i+1]? = some y):l=l.take i++x :: y :: l.drop (i+2):=by
 have e1:=take_mid h
 obtain ⟨hi,rfl⟩:=List.getElem?_eq_some_iff.1 h'
 rw [List.drop_eq_getElem_cons hi] at e1
 exact e1
theorem Mend.ents {B h:Nat} {ks ks':List (PT h)} {i:Nat} (hm:Mend B h ks i ks'):ks'.flatMap (Proofs.YtkhdiakpdafcdaaGreatDoor.ents h)=ks.flatMap (Proofs.YtkhdiakpdafcdaaGreatDoor.ents h):=by
 obtain ⟨l,r,ts,h1,h2,h3,rfl⟩:=hm
 conv=>rhs;rw [two_mid h1 h2]
 simp only [List.flatMap_append,List.flatMap_cons,h3.ents,List.append_assoc]
theorem getE_kid {h:Nat} {ks:List (PT h)} {k:ByteArray} {kid:PT h} (hk:ks[whichK h ks k]? = some kid) (hA:∀ e∈(ks.take (whichK h ks k)).flatMap (ents h),klt e.1 k=true) (hC:∀ e∈(ks.drop (whichK h ks k+1)).flatMap (ents h),klt k e.1=true) :
  getE (ks.flatMap (ents h)) k=getE (ents h kid) k:=by
 conv=>lhs;rw [take_mid hk]
 rw [List.flatMap_append,List.flatMap_cons,getE_app hA,getE_stop hC]
theorem DelK.ents {B:Nat} {k:ByteArray} {h:Nat} {R:PT h→PT h→Prop} {ks ks':List (PT h)} (hd:DelK B k h R ks ks') (hs:Sorted (ks.flatMap (Proofs.YtkhdiakpdafcdaaGreatDoor.ents h))) (hp:∀ x∈ks,0<(Proofs.YtkhdiakpdafcdaaGreatDoor.ents h x).length) (hne:0<ks.length)
  (hR:∀ x y,x∈ks→R x y→Proofs.YtkhdiakpdafcdaaGreatDoor.ents h y=delE (Proofs.YtkhdiakpdafcdaaGreatDoor.ents h x) k):ks'.flatMap (Proofs.YtkhdiakpdafcdaaGreatDoor.ents h)=delE (ks.flatMap (Proofs.YtkhdiakpdafcdaaGreatDoor.ents h)) k:=by
 obtain ⟨kid,kid',hk,hr,h3⟩:=hd
 obtain ⟨kid2,hk2,hA,hC⟩:=which_split (h:=h) (ks:=ks) hs hp hne k
 rw [hk] at hk2
 simp only [Option.some.injEq] at hk2
 subst hk2
 have key:(ks.set (whichK h ks k) kid').flatMap (Proofs.YtkhdiakpdafcdaaGreatDoor.ents h)=delE (ks.flatMap (Proofs.YtkhdiakpdafcdaaGreatDoor.ents h)) k:=by
  rw [set_mid hk]
  conv=>rhs;rw [take_mid hk]
  simp only [List.flatMap_append,List.flatMap_cons]
  rw [hR kid kid' (List.mem_of_getElem? hk) hr,delE_app hA,delE_stop hC]
 rcases h3 with ⟨-,rfl⟩ | ⟨-,hm⟩
 ·exact key
 rw [hm.ents,key]
theorem DelR.ents {B:Nat} {k:ByteArray}:∀ {h:Nat} {t u:PT h},DelR B k h t u→OkT h t→Sorted (Proofs.YtkhdiakpdafcdaaGreatDoor.ents h t)→Proofs.YtkhdiakpdafcdaaGreatDoor.ents h u=delE (Proofs.YtkhdiakpdafcdaaGreatDoor.ents h t) k
 | 0,t,u,⟨h1,_⟩,_,_=>h1
 | h+1,t,u,⟨h1,_⟩,ok,hs=>
   h1.ents hs (kids_pos ok) (by have:=ok.1;omega) fun x y hx hr=>hr.ents (ok.2.2 x hx).1 (kid_sorted hs x hx)
theorem delE_len:∀ {es:List Ent} {k:ByteArray},Sorted es→(getE es k).isSome=true→(delE es k).length+1=es.length
 | [],_,_,h=>by cases h
 | e :: es,k,hs,h=>by
   have hs':=List.pairwise_cons.1 hs
   simp only [delE]
   by_cases hk:e.1=k
   ·subst hk
    simp [klt_irrefl]
   simp only [getE,hk,if_false] at h
   have hlt:klt e.1 k=true:=by
    cases hg:getE es k with
    | none=>rw [hg] at h;cases h
    | some v=>
      have:∃ x∈es,x.1=k:=by
       clear hs hs' h hk
       induction es with
       | nil=>cases hg
       | cons a es ih=>
         simp only [getE] at hg
         by_cases ha:a.1=k
         ·exact ⟨a,List.mem_cons_self ..,ha⟩
         simp only [ha,if_false] at hg
         obtain ⟨x,hx,e⟩:=ih hg
         exact ⟨x,List.mem_cons_of_mem _ hx,e⟩
      obtain ⟨x,hx,rfl⟩:=this
      exact hs'.1 x hx
   simp only [hlt,if_true,List.length_cons]
   rw [delE_len hs'.2 h]
theorem DelK.ok {B:Nat} {k:ByteArray} {h:Nat} {R:PT h→PT h→Prop} {ks ks':List (PT h)} (hd:DelK B k h R ks ks') (hok:∀ x∈ks,OkT h x∧4≤size h x) (h2:2≤ks.length)
  (hR:∀ x y,x∈ks→ks[whichK h ks k]? = some x→R x y→OkT h y∧size h x≤size h y+1):(∀ u∈ks',OkT h u∧4≤size h u)∧ks'.length≤ks.length∧ks.length≤ks'.length+1:=by
 obtain ⟨kid,kid',hk,hr,h3⟩:=hd
 have hkm:=List.mem_of_getElem? hk
 have hi:=(List.getElem?_eq_some_iff.1 hk).1
 obtain ⟨o1,o2⟩:=hR kid kid' hkm hk hr
 have o4:=(hok kid hkm).2
 have hset:∀ u∈ks.set (whichK h ks k) kid',u=kid'∨(OkT h u∧4≤size h u):=fun u hu=>by
  rcases List.mem_or_eq_of_mem_set hu with hu | hu
  ·exact .inr (hok u hu)
  exact .inl hu
 rcases h3 with ⟨h4,rfl⟩ | ⟨h4,l,r,ts,hl,hr',hp,rfl⟩
 ·refine ⟨fun u hu=>?_,by simp,by simp⟩
  rcases hset u hu with rfl | h
  ·exact ⟨o1,h4⟩
  exact h
 generalize hI:whichK h ks k=i at *
 have hsz:size h kid'=3:=by omega
 have hget:∀ j,j≠i→∀ x,(ks.set i kid')[j]? = some x→OkT h x∧4≤size h x:=fun j hj x hx=>by
  rw [List.getElem?_set_ne (by omega)] at hx
  exact hok x (List.mem_of_getElem? hx)
 have hgi:(ks.set i kid')[i]? = some kid':=by rw [List.getElem?_set_self hi]
 have hpair:OkT h l∧OkT h r∧((size h l=3∧4≤size h r)∨(4≤size h l∧size h r=3)):=by
  by_cases h0:i=0
  ·subst h0
   rw [hgi] at hl
   simp only [Option.some.injEq] at hl
   subst hl
   have:=hget 1 (by omega) r hr'
   exact ⟨o1,this.1,.inl ⟨hsz,this.2⟩⟩
  rw [show i - 1+1=i from by omega,hgi] at hr'
  simp only [Option.some.injEq] at hr'
  subst hr'
  have:=hget (i - 1) (by omega) l hl
  exact ⟨this.1,o1,.inr ⟨this.2,hsz⟩⟩
 have hts:=hp.ok hpair.1 hpair.2.1 hpair.2.2
 have hln:=hp.len
 refine ⟨fun u hu=>?_,?_,?_⟩
 ·rcases List.mem_append.1 hu with hu | hu
  ·rcases List.mem_append.1 hu with hu | hu
   ·obtain ⟨j,hj⟩:=List.getElem?_of_mem hu
    rw [List.getElem?_take] at hj
    split at hj
    ·exact hget j (by omega) u hj
    cases hj
   exact hts u hu
  obtain ⟨j,hj⟩:=List.getElem?_of_mem hu
  rw [List.getElem?_drop] at hj
  exact hget _ (by omega) u hj
 ·simp only [List.length_append,List.length_take,List.length_drop,List.length_set];omega
 simp only [List.length_append,List.length_take,List.length_drop,List.length_set]
 have:=(List.getElem?_eq_some_iff.1 hr').1
 rw [List.length_set] at this
 omega
theorem DelR.ok {B:Nat} {k:ByteArray}:∀ {h:Nat} {t u:PT h},DelR B k h t u→OkT h t→4≤size h t→Sorted (Proofs.YtkhdiakpdafcdaaGreatDoor.ents h t)→(getE (Proofs.YtkhdiakpdafcdaaGreatDoor.ents h t) k).isSome=true→OkT h u∧size h t≤size h u+1∧size h u≤size h t
 | 0,t,u,⟨h1,_⟩,ok,_,hs,hg=>by
   have:=delE_len hs hg
   have e:size 0 u=(delE (Proofs.YtkhdiakpdafcdaaGreatDoor.ents 0 t) k).length:=by show u.2.length=_;rw [h1];rfl
   have e2:(Proofs.YtkhdiakpdafcdaaGreatDoor.ents 0 t).length=size 0 t:=rfl
   have ok:size 0 t≤8:=ok
   exact ⟨show size 0 u≤8 by omega,by omega,by omega⟩
 | h+1,t,u,⟨h1,_⟩,ok,h4,hs,hg=>by
   have h4:4≤t.2.length:=h4
   obtain ⟨a,b,c⟩:=h1.ok ok.2.2 ok.1 fun x y hx hxk hr=>by
    obtain ⟨kid2,hk2,hA,hC⟩:=which_split (h:=h) (ks:=t.2) hs (kids_pos ok) (by omega) k
    rw [hxk] at hk2
    simp only [Option.some.injEq] at hk2
    subst hk2
    have:=hr.ok (ok.2.2 x hx).1 (ok.2.2 x hx).2 (kid_sorted hs x hx) (by rw [←getE_kid hxk hA hC];exact hg)
    exact ⟨this.1,this.2.1⟩
   have o8:=ok.2.1
   exact ⟨⟨by omega,by omega,a⟩,c,b⟩
theorem delE_none {es:List Ent} {k:ByteArray} (h:getE es k=none):delE es k=es:=by
 induction es with
 | nil=>rfl
 | cons e es ih=>
   simp only [getE] at h
   by_cases hk:e.1=k
   ·simp [hk] at h
   simp only [hk,if_false] at h
   simp only [delE,hk,if_false]
   split
   ·rw [ih h]
   rfl
def numI (a b:Int):Int:=if a<b then -1 else if b<a then 1 else 0
def boolI (a b:Bool):Int:=if a=b then 0 else if b then -1 else 1
def textI (a b:ByteArray):Int:=if klt a b then -1 else if klt b a then 1 else 0
mutual
def cmpV:Val→Val→Int
 | .mk k b i t l ok ov,y=>
   if k≠y.kind then numI k y.kind else if k=2 then boolI b y.b else if k=3 then numI i y.i else if k=4 then textI t y.t else if k=5 then cmpL l y.l else if k=6 then cmpM ov ok y.ok y.ov else 0
def cmpL:List Val→List Val→Int
 | [],m=>if m.length=0 then 0 else -1
 | _ :: _,[]=>1
 | a :: l,b :: m=>if cmpV a b≠0 then cmpV a b else cmpL l m
def cmpM:List Val→List ByteArray→List ByteArray→List Val→Int
 | [],_,_,m=>if m.length=0 then 0 else -1
 | _ :: _,_,_,[]=>1
 | a :: l,ka,kb,b :: m=>if textI (ka.headD ByteArray.empty) (kb.headD ByteArray.empty)≠0 then textI (ka.headD ByteArray.empty) (kb.headD ByteArray.empty) else if cmpV a b≠0 then cmpV a b else cmpM l ka.tail kb.tail m
end
theorem numI_self (a:Int):numI a a=0:=by simp [numI]
theorem numI_zero {a b:Int}:numI a b=0↔a=b:=by unfold numI;split <;> (try split) <;> omega
theorem boolI_zero {a b:Bool}:boolI a b=0↔a=b:=by cases a <;> cases b <;> simp [boolI]
theorem textI_self (a:ByteArray):textI a a=0:=by simp [textI,klt_irrefl]
theorem textI_zero {a b:ByteArray}:textI a b=0↔a=b:=by
 constructor
 ·intro h
  unfold textI at h
  split at h
  ·cases h
  split at h
  ·cases h
  rename_i h1 h2
  exact klt_total (by simpa using h1) (by simpa using h2)
 rintro rfl;exact textI_self _
theorem cmpV_self (m:Nat):∀ d:Val,SizeOf.sizeOf d≤m→cmpV d d=0:=by
 induction m with
 | zero=>intro d hd;have:=Val.sz_pos d;omega
 | succ m ih=>
   intro d hd
   obtain ⟨k,b,i,t,l,ok,ov⟩:=d
   have hl:∀ l':List Val,SizeOf.sizeOf l'≤m→cmpL l' l'=0:=by
    intro l'
    induction l' with
    | nil=>intro _;simp [cmpL]
    | cons a l' ihl=>
      intro hs
      simp only [List.cons.sizeOf_spec] at hs
      simp only [cmpL]
      rw [ih a (by omega)]
      simpa using ihl (by omega)
   have ho:∀ (l':List Val) (kk:List ByteArray),SizeOf.sizeOf l'≤m→cmpM l' kk kk l'=0:=by
    intro l'
    induction l' with
    | nil=>intro kk _;simp [cmpM]
    | cons a l' ihl=>
      intro kk hs
      simp only [List.cons.sizeOf_spec] at hs
      simp only [cmpM]
      rw [ih a (by omega),textI_self]
      simpa using ihl kk.tail (by omega)
   simp only [Val.mk.sizeOf_spec] at hd
   simp only [cmpV,Val.kind,Val.b,Val.i,Val.t,Val.l,Val.ok,Val.ov]
   simp only [ne_eq,not_true_eq_false,if_false,numI_self,textI_self,hl l (by omega),ho ov ok (by omega),boolI,if_true]
   simp
theorem cmpV_refl (d:Val):cmpV d d=0:=cmpV_self _ d (Nat.le_refl _)
def sameE:List Ent→List Ent→Bool
 | [],[]=>true
 | a :: l,b :: m=>decide (a.1=b.1) && decide (cmpV a.2 b.2=0) && sameE l m
 | _,_=>false
theorem sameE_refl:∀ l:List Ent,sameE l l=true
 | []=>rfl
 | a :: l=>by simp [sameE,cmpV_refl,sameE_refl l]
theorem sameE_len:∀ {l m:List Ent},sameE l m=true→l.length=m.length
 | [],[],_=>rfl
 | a :: l,b :: m,h=>by
   simp only [sameE,Bool.and_eq_true] at h
   simp [sameE_len h.2]
 | [],_ :: _,h=>by cases h
 | _ :: _,[],h=>by cases h
section
variable {P : Program} (w : World)
theorem stepE_append_run {ops:Array Oper} {o:Oper} {a:Act} {K:Act→World→Prop} {Q:Exit→Act→World→Prop} {E:Prop} (hgd:o.guard=none) (d s:Operand) (t t':TypeId)
  (ho:o.op=.call { callee:=.builtin .append,args:=#[d,s],argTypes:=#[t,t'] }) (v u:Value) (hd:a.eval d=v) (hs:a.eval s=u) {v':Value} {w':World}
  (hr:(Builtin.append_ #[t,t'] o.type #[v,u]).run P w=.ok v' w') (h:K (a.put o.dst v') w') :
  if Region.wanted o (yielded ops a.tmps)=true then Oper.wp P o a w K Q else E:=by
 have hw:Region.wanted o (yielded ops a.tmps)=true:=by simp [Region.wanted,hgd]
 rw [if_pos hw]
 unfold Oper.wp execOp
 simp only [ho,resolve,invoke,builtin,Sem.run_bind,Sem.run_pure,Result.andThen_ok,List.map_toArray,List.map_cons,List.map_nil,hd,hs,hr]
 exact h
end
def DelPostE (base:Nat) (s:Sl) (n i:Nat) (xs:List Value) (w:World) (e:Ending) (w':World):Prop:=
 e=.returned (.slice s.a (n - 1) s.c)∧w'.ownsRow base 71 7 (.slice s.a (n - 1) s.c) (n - 1) (xs.take (i*7)++xs.drop ((i+1)*7))∧Wr w w' s.row
theorem zeroE (w:World):(zeroValue 71).run Tryz.prog w=.ok (.agg #[.string ByteArray.empty,.int .i64 0,.bool false,.int .i64 0,.string ByteArray.empty,.slice none 0 0,.slice none 0 0]) w:=by kernel_rfl
theorem delE_any {w:World} {base n i:Nat} {s:Sl} {xs:List Value} (hown:w.ownsRow base 71 7 (.slice s.a n s.c) n xs) (hn:n≤1000) (hin:i<n) (h1:∀ u∈xs,u.oneCell'=true) :
  Calls Tryz.prog 137 #[.slice s.a n s.c,.int .i64 i,.int .i64 ((i:Int)+1)] w (DelPostE base s n i xs w):=by
 obtain ⟨i0,hi,hz0,hz1,hz2⟩:=info_parts Tryz.infoEntry
 rcases hown.2 with ⟨hs,h0⟩ | ⟨g,cap,cur,hs,hbg,hg,hnc,hcm,hcs,htake⟩
 ·omega
 simp only [Value.slice.injEq] at hs
 obtain ⟨ha,-,hc⟩:=hs
 have hs':s=⟨some ⟨g,0,none⟩,cap⟩:=by cases s;simp_all
 have hxl:=hown.1
 subst hs'
 clear hown ha hc
 have hic:i≤cap:=by omega
 have hin':(i:Int)<(n:Int):=by omega
 have hin1:(i:Int)+1≤(n:Int):=by omega
 have hi0:(0:Int)≤(i:Int):=by omega
 have hib:(0:Int)≤(i:Int)+1:=by omega
 have hii:(i:Int)≤(i:Int)+1:=by omega
 have hne:((i:Int) == (i:Int)+1)=false:=beq_eq_false_iff_ne.2 (by omega)
 have hcm':(cap:Int)≤9223372036854775807:=by unfold maxLen at hcm;omega
 have hncI:(n:Int)≤(cap:Int):=by omega
 have htn:((i:Int)+1).toNat=i+1:=by omega
 obtain ⟨news,hnews⟩:∃ news,news=xs.drop ((i+1)*7):=⟨_,rfl⟩
 have hnl:news.length=(n - (i+1))*7:=by rw [hnews,List.length_drop,hxl,←Nat.sub_mul]
 have hn1:∀ u∈news,u.oneCell'=true:=fun u hu=>h1 u (List.mem_of_mem_drop (hnews▸hu))
 obtain ⟨A,hA,hsrc⟩:∃ A:Addr,(if cap=i+1 then some (⟨g,0,none⟩:Addr) else some ⟨g,(i+1)*7,none⟩)=some A∧(∀ j u,news[j]? = some u→w.drew.cell? (A.add j)=some u):=by
  by_cases h:cap=i+1
  ·refine ⟨⟨g,0,none⟩,by simp [h],fun t u hu=>?_⟩
   have h0:news.length=0:=by rw [hnl,show n - (i+1)=0 from by omega,Nat.zero_mul]
   rw [List.length_eq_zero_iff.1 h0] at hu
   simp at hu
  refine ⟨⟨g,(i+1)*7,none⟩,by simp [h],fun j u hu=>?_⟩
  rw [add_at,World.cell?_drew,cell_of_row w g _ cur 71 (0,0) hg]
  rw [hnews,List.getElem?_drop,←htake,List.getElem?_take] at hu
  split at hu
  ·simpa [Nat.add_comm,Nat.add_left_comm,Nat.add_assoc,Nat.mul_comm] using hu
  cases hu
 obtain ⟨A1,hA1⟩:∃ A1,A1=(cur.toList.take (i*7)++news++cur.toList.drop (i*7+news.length)).toArray:=⟨_,rfl⟩
 have hfit:i*7+news.length≤cur.size:=by rw [hnl,hcs];omega
 have hs1:A1.size=cur.size:=by rw [hA1];simp;omega
 obtain ⟨W1,hW1⟩:∃ W1,W1=w.drew.setRow g A1:=⟨_,rfl⟩
 have hap:∀ ty,(Builtin.append_ #[22,22] ty #[.slice (some ⟨g,0,none⟩) i cap,.slice (some A) (n - (i+1)) (cap - (i+1))]).run Tryz.prog w.drew=.ok (.slice (some ⟨g,0,none⟩) (n - 1) cap) W1:=fun ty=>by
  have h:=run_append_room (P:=Tryz.prog) w.drew 22 ty 71 i0 Tryz.underlying22 hi g i cap cur hg A (n - (i+1)) (cap - (i+1)) news (by rw [hz1];exact hnl) hsrc hn1 (by omega) (by rw [hz1];exact hfit)
  rw [hz1] at h
  rw [hW1,hA1,h,show i+(n - (i+1))=n - 1 from by omega]
 have hg1:W1.heap[g]? = some (.cells A1 71 (0,0)):=by rw [hW1];exact setRow_heap w.drew g cur A1 71 (0,0) hg
 obtain ⟨Z,hZ⟩:∃ Z,Z=((.agg #[.string ByteArray.empty,.int .i64 0,.bool false,.int .i64 0,.string ByteArray.empty,.slice none 0 0,.slice none 0 0]):Value):=⟨_,rfl⟩
 have hzv:∀ w,(zeroValue 71).run Tryz.prog w=.ok Z w:=fun w=>by rw [hZ];exact zeroE w
 obtain ⟨zs,hzs⟩:∃ zs,zs=(Builtin.zeroCells Z.cells 1).toList:=⟨_,rfl⟩
 have hzl:zs.length=7:=by rw [hzs,Array.length_toList,size_zeroCells,hZ];rfl
 have hz1c:∀ u∈zs,u.oneCell'=true:=by
  have:zs.all (·.oneCell')=true:=by rw [hzs,hZ];kernel_rfl
  exact fun u hu=>List.all_eq_true.1 this u hu
 obtain ⟨A2,hA2⟩:∃ A2,A2=(A1.toList.take ((n - 1)*7)++zs++A1.toList.drop ((n - 1)*7+zs.length)).toArray:=⟨_,rfl⟩
 obtain ⟨W2,hW2⟩:∃ W2,W2=W1.setRow g A2:=⟨_,rfl⟩
 have hst:=run_storeCells_at Tryz.prog g ((n - 1)*7) 71 zs 0 A1 W1 hg1 (by rw [hzl,hs1,hcs];omega) hz1c
 have hcl:∀ ty c,(Builtin.clear_ #[22] ty #[.slice (some ⟨g,(n - 1)*7,none⟩) 1 c]).run Tryz.prog W1=.ok (.tuple #[]) W2:=fun ty c=>by
  simp only [Nat.add_zero] at hst
  rw [←hA2,←hW2] at hst
  rw [hzs] at hst
  simp [Builtin.clear_,run_underlying Tryz.underlying22,hzv,hst]
 have hg2:W2.heap[g]? = some (.cells A2 71 (0,0)):=by rw [hW2];exact setRow_heap W1 g A1 A2 71 (0,0) hg1
 have hwr:Wr w W2 (some g):=by
  rw [hW2,hW1]
  exact ((Wr.refl w (some g)).drew.trans (Wr.setRow w.drew A1) (fun i hi=>.inl hi)).trans (Wr.setRow (w.drew.setRow g A1) A2) (fun i hi=>.inl hi)
 have hfin:W2.ownsRow base 71 7 (.slice (some ⟨g,0,none⟩) (n - 1) cap) (n - 1) (xs.take (i*7)++xs.drop ((i+1)*7)):=by
  have ht:xs.take (i*7)=cur.toList.take (i*7):=by rw [←htake,List.take_take,Nat.min_eq_left (by omega)]
  refine ⟨by simp [hxl];omega,.inr ⟨g,cap,A2,rfl,hbg,hg2,by omega,hcm,by rw [hA2];simp;omega,?_⟩⟩
  have hl2:(cur.toList.take (i*7)++news).length=(n - 1)*7:=by rw [List.length_append,List.length_take,Array.length_toList,hnl];omega
  rw [←hnews,ht,hA2]
  simp only [List.toList_toArray,List.append_assoc]
  rw [List.take_append_of_le_length (by rw [List.length_take,Array.length_toList];omega),List.take_take,Nat.min_eq_left (by omega),hA1]
  simp only [List.toList_toArray]
  rw [List.take_append_of_le_length (by omega),List.take_of_length_le (by omega)]
 have HF:=Lib.hid hfin
 have HW:=Lib.hid hwr
 have HA:=Lib.hid hA
 have hnm:((n - 1:Nat):Int)<(n:Int):=by omega
 have hnm2:¬cap=n - 1:=by omega
 have hnm3:n - (n - 1)=1:=by omega
 have hnm4:((n - 1:Nat):Int)≤(n:Int):=by omega
 clear hfin hwr hzv hZ hg2 hg1 hst hs1 hW2 hW1 hA2 hA1 hsrc hnl hn1 hnews hfit hg hcs htake h1 hxl hzl hz1c hzs
 go_enter Tryz.func137,Tryz.ntmps137
 go_wp2_with fail
 go_region_law (refine stepE_append_run _ rfl _ _ 22 22 rfl _ _ (by simp [Act.eval,Act.put]) (by simp [Act.eval,Act.put]) (hap _) ?_)
 go_wp2_with fail
 go_ret
 exact ⟨rfl,HF.out,HW.out⟩
section
variable {P : Program} (w : World)
theorem stepN_append_run {ops:Array Oper} {o:Oper} {a:Act} {K:Act→World→Prop} {Q:Exit→Act→World→Prop} {E:Prop} (hgd:o.guard=none) (d s:Operand) (t t':TypeId)
  (ho:o.op=.call { callee:=.builtin .append,args:=#[d,s],argTypes:=#[t,t'] }) (v u:Value) (hd:a.eval d=v) (hs:a.eval s=u) {v':Value} {w':World}
  (hr:(Builtin.append_ #[t,t'] o.type #[v,u]).run P w=.ok v' w') (h:K (a.put o.dst v') w') :
  if Region.wanted o (yielded ops a.tmps)=true then Oper.wp P o a w K Q else E:=by
 have hw:Region.wanted o (yielded ops a.tmps)=true:=by simp [Region.wanted,hgd]
 rw [if_pos hw]
 unfold Oper.wp execOp
 simp only [ho,resolve,invoke,builtin,Sem.run_bind,Sem.run_pure,Result.andThen_ok,List.map_toArray,List.map_cons,List.map_nil,hd,hs,hr]
 exact h
end
def DelPostN (base:Nat) (s:Sl) (n i:Nat) (xs:List Value) (w:World) (e:Ending) (w':World):Prop:=
 e=.returned (.slice s.a (n - 1) s.c)∧w'.ownsRow base 39 1 (.slice s.a (n - 1) s.c) (n - 1) (xs.take (i*1)++xs.drop ((i+1)*1))∧Wr w w' s.row
theorem zeroN (w:World):(zeroValue 39).run Tryz.prog w=.ok (.pointer none) w:=by kernel_rfl
theorem delN_any {w:World} {base n i:Nat} {s:Sl} {xs:List Value} (hown:w.ownsRow base 39 1 (.slice s.a n s.c) n xs) (hn:n≤1000) (hin:i<n) (h1:∀ u∈xs,u.oneCell'=true) :
  Calls Tryz.prog 195 #[.slice s.a n s.c,.int .i64 i,.int .i64 ((i:Int)+1)] w (DelPostN base s n i xs w):=by
 obtain ⟨i0,hi,hz0,hz1,hz2⟩:=info_parts Tryz.infoPNode
 rcases hown.2 with ⟨hs,h0⟩ | ⟨g,cap,cur,hs,hbg,hg,hnc,hcm,hcs,htake⟩
 ·omega
 simp only [Value.slice.injEq] at hs
 obtain ⟨ha,-,hc⟩:=hs
 have hs':s=⟨some ⟨g,0,none⟩,cap⟩:=by cases s;simp_all
 have hxl:=hown.1
 subst hs'
 clear hown ha hc
 have hic:i≤cap:=by omega
 have hin':(i:Int)<(n:Int):=by omega
 have hin1:(i:Int)+1≤(n:Int):=by omega
 have hi0:(0:Int)≤(i:Int):=by omega
 have hib:(0:Int)≤(i:Int)+1:=by omega
 have hii:(i:Int)≤(i:Int)+1:=by omega
 have hne:((i:Int) == (i:Int)+1)=false:=beq_eq_false_iff_ne.2 (by omega)
 have hcm':(cap:Int)≤9223372036854775807:=by unfold maxLen at hcm;omega
 have hncI:(n:Int)≤(cap:Int):=by omega
 have htn:((i:Int)+1).toNat=i+1:=by omega
 obtain ⟨news,hnews⟩:∃ news,news=xs.drop ((i+1)*1):=⟨_,rfl⟩
 have hnl:news.length=(n - (i+1))*1:=by rw [hnews,List.length_drop,hxl,←Nat.sub_mul]
 have hn1:∀ u∈news,u.oneCell'=true:=fun u hu=>h1 u (List.mem_of_mem_drop (hnews▸hu))
 obtain ⟨A,hA,hsrc⟩:∃ A:Addr,(if cap=i+1 then some (⟨g,0,none⟩:Addr) else some ⟨g,i+1,none⟩)=some A∧(∀ j u,news[j]? = some u→w.drew.cell? (A.add j)=some u):=by
  by_cases h:cap=i+1
  ·refine ⟨⟨g,0,none⟩,by simp [h],fun t u hu=>?_⟩
   have h0:news.length=0:=by rw [hnl,show n - (i+1)=0 from by omega,Nat.zero_mul]
   rw [List.length_eq_zero_iff.1 h0] at hu
   simp at hu
  refine ⟨⟨g,i+1,none⟩,by simp [h],fun j u hu=>?_⟩
  rw [add_at,World.cell?_drew,cell_of_row w g _ cur 39 (0,0) hg]
  rw [hnews,List.getElem?_drop,←htake,List.getElem?_take] at hu
  split at hu
  ·simpa [Nat.add_comm,Nat.add_left_comm,Nat.add_assoc,Nat.mul_comm] using hu
  cases hu
 obtain ⟨A1,hA1⟩:∃ A1,A1=(cur.toList.take (i*1)++news++cur.toList.drop (i*1+news.length)).toArray:=⟨_,rfl⟩
 have hfit:i*1+news.length≤cur.size:=by rw [hnl,hcs];omega
 have hs1:A1.size=cur.size:=by rw [hA1];simp;omega
 obtain ⟨W1,hW1⟩:∃ W1,W1=w.drew.setRow g A1:=⟨_,rfl⟩
 have hap:∀ ty,(Builtin.append_ #[108,108] ty #[.slice (some ⟨g,0,none⟩) i cap,.slice (some A) (n - (i+1)) (cap - (i+1))]).run Tryz.prog w.drew=.ok (.slice (some ⟨g,0,none⟩) (n - 1) cap) W1:=fun ty=>by
  have h:=run_append_room (P:=Tryz.prog) w.drew 108 ty 39 i0 Tryz.underlying108 hi g i cap cur hg A (n - (i+1)) (cap - (i+1)) news (by rw [hz1];exact hnl) hsrc hn1 (by omega) (by rw [hz1];exact hfit)
  rw [hz1] at h
  rw [hW1,hA1,h,show i+(n - (i+1))=n - 1 from by omega]
 have hg1:W1.heap[g]? = some (.cells A1 39 (0,0)):=by rw [hW1];exact setRow_heap w.drew g cur A1 39 (0,0) hg
 obtain ⟨Z,hZ⟩:∃ Z,Z=((.pointer none):Value):=⟨_,rfl⟩
 have hzv:∀ w,(zeroValue 39).run Tryz.prog w=.ok Z w:=fun w=>by rw [hZ];exact zeroN w
 obtain ⟨zs,hzs⟩:∃ zs,zs=(Builtin.zeroCells Z.cells 1).toList:=⟨_,rfl⟩
 have hzl:zs.length=1:=by rw [hzs,Array.length_toList,size_zeroCells,hZ];rfl
 have hz1c:∀ u∈zs,u.oneCell'=true:=by
  have:zs.all (·.oneCell')=true:=by rw [hzs,hZ];kernel_rfl
  exact fun u hu=>List.all_eq_true.1 this u hu
 obtain ⟨A2,hA2⟩:∃ A2,A2=(A1.toList.take (n - 1)++zs++A1.toList.drop (n - 1+zs.length)).toArray:=⟨_,rfl⟩
 obtain ⟨W2,hW2⟩:∃ W2,W2=W1.setRow g A2:=⟨_,rfl⟩
 have hst:=run_storeCells_at Tryz.prog g (n - 1) 39 zs 0 A1 W1 hg1 (by rw [hzl,hs1,hcs];omega) hz1c
 have hcl:∀ ty c,(Builtin.clear_ #[108] ty #[.slice (some ⟨g,n - 1,none⟩) 1 c]).run Tryz.prog W1=.ok (.tuple #[]) W2:=fun ty c=>by
  simp only [Nat.add_zero] at hst
  rw [←hA2,←hW2] at hst
  rw [hzs] at hst
  simp [Builtin.clear_,run_underlying Tryz.underlying108,hzv,hst]
 have hg2:W2.heap[g]? = some (.cells A2 39 (0,0)):=by rw [hW2];exact setRow_heap W1 g A1 A2 39 (0,0) hg1
 have hwr:Wr w W2 (some g):=by
  rw [hW2,hW1]
  exact ((Wr.refl w (some g)).drew.trans (Wr.setRow w.drew A1) (fun i hi=>.inl hi)).trans (Wr.setRow (w.drew.setRow g A1) A2) (fun i hi=>.inl hi)
 have hfin:W2.ownsRow base 39 1 (.slice (some ⟨g,0,none⟩) (n - 1) cap) (n - 1) (xs.take (i*1)++xs.drop ((i+1)*1)):=by
  have ht:xs.take (i*1)=cur.toList.take (i*1):=by rw [←htake,List.take_take,Nat.min_eq_left (by omega)]
  refine ⟨by simp [hxl];omega,.inr ⟨g,cap,A2,rfl,hbg,hg2,by omega,hcm,by rw [hA2];simp;omega,?_⟩⟩
  have hl2:(cur.toList.take (i*1)++news).length=(n - 1)*1:=by rw [List.length_append,List.length_take,Array.length_toList,hnl];omega
  rw [←hnews,ht,hA2]
  simp only [List.toList_toArray,List.append_assoc]
  rw [List.take_append_of_le_length (by rw [List.length_take,Array.length_toList];omega),List.take_take,Nat.min_eq_left (by omega),hA1]
  simp only [List.toList_toArray]
  rw [List.take_append_of_le_length (by omega),List.take_of_length_le (by omega)]
 have HF:=Lib.hid hfin
 have HW:=Lib.hid hwr
 have HA:=Lib.hid hA
 have hnm:((n - 1:Nat):Int)<(n:Int):=by omega
 have hnm2:¬cap=n - 1:=by omega
 have hnm3:n - (n - 1)=1:=by omega
 have hnm4:((n - 1:Nat):Int)≤(n:Int):=by omega
 clear hfin hwr hzv hZ hg2 hg1 hst hs1 hW2 hW1 hA2 hA1 hsrc hnl hn1 hnews hfit hg hcs htake h1 hxl hzl hz1c hzs
 go_enter Tryz.func195,Tryz.ntmps195
 go_wp2_with fail
 go_region_law (refine stepN_append_run _ rfl _ _ 108 108 rfl _ _ (by simp [Act.eval,Act.put]) (by simp [Act.eval,Act.put]) (hap _) ?_)
 go_wp2_with fail
 go_ret
 exact ⟨rfl,HF.out,HW.out⟩
structure St (H:Nat→Prop) (w w':World):Prop where
 os:w'.os=w.os
 tape:w'.tape=w.tape
 output:w'.output=w.output
 size:w.heap.size≤w'.heap.size
 block:∀ b,b<w.heap.size→¬H b→w'.heap[b]? = w.heap[b]?
 fz:∀ b o,w'.frozen? ⟨b,o,none⟩=w.frozen? ⟨b,o,none⟩
theorem Ext.fz {w w':World} (h:Ext w w') (b o:Nat):w'.frozen? ⟨b,o,none⟩=w.frozen? ⟨b,o,none⟩:=by
 by_cases hl:b<w.heap.size
 ·exact h.frozen hl
 rw [h.free _ _ (by omega),frozen_none (by omega)]
theorem Ext.st {w w':World} (h:Ext w w') (H:Nat→Prop):St H w w':=⟨h.below.os,h.below.tape,h.below.output,h.size,fun _ hb _=>h.heap hb,h.fz⟩
theorem St.refl (H:Nat→Prop) (w:World):St H w w:=(Ext.refl w).st H
theorem Wr.st {w w':World} {row:Option Nat} (h:Wr w w' row) {H:Nat→Prop} (hr:∀ i,row=some i→H i):St H w w':=
 ⟨h.grown.os,h.grown.tape,h.grown.output,h.grown.size,fun b hb hn=>h.grown.block b hb fun e=>hn (hr b e.symm),h.fz⟩
theorem St.trans {H:Nat→Prop} {a b c:World} (h:St H a b) (k:St H b c):St H a c:=
 ⟨k.os.trans h.os,k.tape.trans h.tape,k.output.trans h.output,Nat.le_trans h.size k.size,fun i hi hn=>(k.block i (Nat.lt_of_lt_of_le hi h.size) hn).trans (h.block i hi hn),fun b o=>(k.fz b o).trans (h.fz b o)⟩
theorem St.mono {H G:Nat→Prop} {a b:World} (h:St H a b) (hG:∀ i,i<a.heap.size→H i→G i):St G a b:=
 ⟨h.os,h.tape,h.output,h.size,fun i hi hn=>h.block i hi fun hh=>hn (hG i hi hh),h.fz⟩
theorem St.ext_of {H:Nat→Prop} {w w':World} (h:St H w w') (hH:∀ b,b<w.heap.size→¬H b):Ext w w':=
 ⟨⟨h.os,h.tape,h.output,h.size,fun b hb=>h.block b hb (hH b hb)⟩,fun b o hb=>(h.fz b o).trans (frozen_none hb)⟩
theorem Ext.step {a w w':World} {H:Nat→Prop} (h:Ext a w) (k:St H w w') (hH:∀ b,H b→a.heap.size≤b):Ext a w':=
 (St.trans (h.st H) k).ext_of fun b hb hh=>by have:=hH b hh;omega
theorem St.ext {H:Nat→Prop} {a b c:World} (h:St H a b) (k:Ext b c):St H a c:=h.trans (k.st H)
theorem St.set {H:Nat→Prop} {a w:World} (h:St H a w) {p:Addr} (hp:a.heap.size≤p.block∨H p.block) (u:Value):St H a (w.setCell p u):=
 ⟨h.os,h.tape,h.output,by simpa [World.setCell] using h.size,fun i hi hn=>(Below.heap_setCell w p u i (by
   rintro rfl
   rcases hp with hp | hp
   ·omega
   exact hn hp)).trans (h.block i hi hn),fun b o=>by rw [World.frozen?_setCell];exact h.fz b o⟩
theorem St.heap {H:Nat→Prop} {w w':World} (h:St H w w') {b:Nat} (hb:b<w.heap.size) (hn:¬H b):w'.heap[b]? = w.heap[b]?:=h.block b hb hn
theorem St.cell {H:Nat→Prop} {w w':World} (h:St H w w') {b o:Nat} (hb:b<w.heap.size) (hn:¬H b):w'.cell? ⟨b,o,none⟩=w.cell? ⟨b,o,none⟩:=
 World.cell?_of_block (w:=w) (a:=⟨b,o,none⟩) (h.block b hb hn)
theorem St.drewN {H:Nat→Prop} {a w:World} (h:St H a w) (n:Nat):St H a (w.drewN n):=h.ext ((Ext.refl w).drewN n)
theorem St.drew {H:Nat→Prop} {a w:World} (h:St H a w):St H a w.drew:=h.ext ((Ext.refl w).drew)
theorem St.alloc {H:Nat→Prop} {a w:World} (h:St H a w) (c:Array Value) (t:TypeId):St H a (w.alloc (.cells c t)):=h.ext ((Ext.refl w).alloc c t)
theorem St.blk {H:Nat→Prop} {w w':World} {g:Nat} {t:TypeId} {cs:Array Value} (h:St H w w') (hb:Blk w g t cs) (hn:¬H g):Blk w' g t cs:=(h.block g hb.lt hn).trans hb
abbrev NH (H:Nat→Prop) (w:World):Nat→Prop:=fun b=>b<w.heap.size∧¬H b
theorem St.agree {H:Nat→Prop} {w w':World} (h:St H w w'):Agree (NH H w) w w':=fun b hb=>h.block b hb.1 hb.2
theorem NH.lt {H:Nat→Prop} {w:World} {b:Nat} (h:NH H w b):Lt w.heap.size b:=h.1
theorem OE.block {w:World} {base:Nat} {s:Sl} {xs:List LE} (h:OE w base s xs) (hn:0<xs.length):∃ g cap,s=⟨some ⟨g,0,none⟩,cap⟩∧base≤g∧xs.length≤cap∧cap≤maxLen∧Filling w g 71 7 cap:=by
 rcases h.own.2 with ⟨hv,h0⟩ | ⟨g,cap,cur,hv,hbg,hg,hnc,hcm,hcs,-⟩
 ·omega
 simp only [Value.slice.injEq] at hv
 exact ⟨g,cap,by obtain ⟨a,c⟩:=s;simp_all,hbg,hnc,hcm,cur,hg,hcs⟩
theorem flatE_set (xs:List LE) (i:Nat) (x:LE) {p:Nat} {u:Value} (hi:i<xs.length) (hu:(flatE (xs.set i x))[p]? = some u) :
  (∃ c,c<7∧p=i*7+c∧x.cells[c]? = some u)∨((p<i*7∨i*7+7≤p)∧(flatE xs)[p]? = some u):=by
 have hp:p<xs.length*7:=by have:=(List.getElem?_eq_some_iff.1 hu).1;rw [flatE_len,List.length_set] at this;exact this
 obtain ⟨j,c,rfl,hc7⟩:∃ j c,p=j*7+c∧c<7:=⟨p / 7,p % 7,by omega,by omega⟩
 by_cases hj:j=i
 ·subst hj
  rw [flatE_at (x:=x) (by rw [List.getElem?_set_self hi]) c hc7] at hu
  exact .inl ⟨c,hc7,rfl,hu⟩
 obtain ⟨y,hy⟩:∃ y,xs[j]? = some y:=⟨_,List.getElem?_eq_getElem (by omega)⟩
 rw [flatE_at (x:=y) (by rw [List.getElem?_set_ne (by omega)];exact hy) c hc7] at hu
 exact .inr ⟨by omega,by rw [flatE_at hy c hc7];exact hu⟩
theorem OE.set {w:World} {base g cap:Nat} {xs:List LE} (ho:OE w base ⟨some ⟨g,0,none⟩,cap⟩ xs) (hbg:base≤g) (hb:base≤w.heap.size) (hcap:xs.length≤cap) (hcm:cap≤maxLen) (hf:Filling w g 71 7 cap) {i:Nat} (hi:i<xs.length) {k:ByteArray} {v:Val} {sl so:Sl} (hv:RV w (Lt base) v sl so) (hk:k.size≤maxLen) :
  ES (putM w g (i*7) k v sl so) (Lt w.heap.size) ⟨some ⟨g,0,none⟩,cap⟩ (xs.set i ⟨k,v,sl,so⟩):=by
 have hh:=putM_here hf (o:=i*7) k v sl so (by omega)
 refine ⟨⟨g,0,?_,by rw [flatE_len],fun p u hu=>?_⟩,fun x hx=>?_,by rw [List.length_set];exact ho.few⟩
 ·rw [List.length_set];exact .some _ _ _ _ hcap hcm hf.lt
 ·rw [Nat.zero_add]
  rcases flatE_set xs i _ hi hu with ⟨c,hc,rfl,hcu⟩ | ⟨hd,hpu⟩
  ·have hc7':c=0∨c=1∨c=2∨c=3∨c=4∨c=5∨c=6:=by omega
   rcases hc7' with rfl | rfl | rfl | rfl | rfl | rfl | rfl
   ·exact hh.1.trans hcu
   ·exact hh.2.c0.trans hcu
   ·exact hh.2.c1.trans hcu
   ·exact hh.2.c2.trans hcu
   ·exact hh.2.c3.trans hcu
   ·exact hh.2.c4.trans hcu
   exact hh.2.c5.trans hcu
  rw [putM_other _ _ _ _ _ _ _ _ (by omega)]
  have:=ho.own.cells (g:=g) rfl p u hpu
  rwa [add_at,Nat.zero_add] at this
 rcases List.mem_or_eq_of_mem_set hx with hx | rfl
 ·exact ⟨((ho.vals x hx).1.agree (putM_agree w g _ k v sl so (fun h=>h.2 rfl))).mono fun i hi=>hi.1.2,(ho.vals x hx).2⟩
 exact ⟨(hv.agree (putM_agree w g _ k v sl so (fun h=>by have h:g<base:=h;omega))).mono fun i hi=>Nat.lt_of_lt_of_le hi hb,hk⟩
theorem LE.one (x:LE):∀ u∈x.cells,u.oneCell'=true:=by
 intro u hu
 simp only [LE.cells,List.mem_cons,List.not_mem_nil,or_false] at hu
 rcases hu with rfl | rfl | rfl | rfl | rfl | rfl | rfl <;> rfl
theorem flatE_one (xs:List LE):∀ u∈flatE xs,u.oneCell'=true:=fun u hu=>by
 obtain ⟨x,-,hx⟩:=List.mem_flatMap.1 hu
 exact x.one u hx
theorem OE.inserted {w w':World} {base p:Nat} {s s':Sl} {xs:List LE} (ho:OE w base s xs) (hp:p≤xs.length) (hb:base≤w.heap.size) {x:LE} (hv:RV w (Lt base) x.v x.sl x.so) (hk:x.k.size≤maxLen) (hf:(xs.length+1)*104≤140737488355328)
  (hown:w'.ownsRow base 71 7 (.slice s'.a (xs.length+1) s'.c) (xs.length+1) ((flatE xs).take (p*7)++x.cells++(flatE xs).drop (p*7))) (hw:Wr w w' s.row) :
  ES w' (Lt w'.heap.size) s' (xs.take p++x :: xs.drop p):=by
 have hl:(xs.take p++x :: xs.drop p).length=xs.length+1:=by simp;omega
 have hrow:∀ b,s.row=some b→base≤b:=fun b hb=>(ho.own.lt b (by obtain ⟨a,c⟩:=s;cases a <;> simp_all [Value.ownBlock,Sl.row])).1
 refine ⟨?_,fun y hy=>?_,by rw [hl];exact hf⟩
 ·have h1:=Rd.of_own hown
  rw [hl,flatE_app,flatE_cons,←flatE_take,←flatE_drop,←List.append_assoc]
  exact h1.mono fun i hi=>hi.2
 rcases List.mem_append.1 hy with hy | hy
 ·have h1:=ho.vals y (List.mem_of_mem_take hy)
  exact ⟨(h1.1.agree (hw.agree (fun i hi=>hi.1.2) fun k hk h=>h.2 hk)).mono fun i hi=>Nat.lt_of_lt_of_le hi.1.2 hw.grown.size,h1.2⟩
 rcases List.mem_cons.1 hy with rfl | hy
 ·exact ⟨(hv.agree (hw.agree (fun i hi=>Nat.lt_of_lt_of_le hi hb) fun k hk h=>Nat.lt_irrefl _ (Nat.lt_of_lt_of_le h (hrow k hk)))).mono fun i hi=>Nat.lt_of_lt_of_le hi (Nat.le_trans hb hw.grown.size),hk⟩
 have h1:=ho.vals y (List.mem_of_mem_drop hy)
 exact ⟨(h1.1.agree (hw.agree (fun i hi=>hi.1.2) fun k hk h=>h.2 hk)).mono fun i hi=>Nat.lt_of_lt_of_le hi.1.2 hw.grown.size,h1.2⟩
def WithPost0 (es:List Ent) (k:ByteArray) (v:Val) (w:World) (e:Ending) (w':World):Prop:=
 ∃ ts:List (PT 0),e=two 0 ts∧ts.map Prod.snd=chunk (insE es k v)∧(∀ u∈ts,w.heap.size≤u.1∧IsN w' (In w.heap.size w'.heap.size) 0 u)∧Ext w w'
theorem with0_end {w w3 w':World} {es:List Ent} {k:ByteArray} {v:Val} (hE:Ext w w3) {ts:List (PT 0)} (h1:ts.map Prod.snd=chunk (insE es k v)) (h2:∀ t∈ts,w3.heap.size≤addr 0 t∧IsN w' (In w3.heap.size w'.heap.size) 0 t) (h3:Ext w3 w'):WithPost0 es k v w (two 0 ts) w':=
 ⟨ts,rfl,h1,fun u hu=>⟨Nat.le_trans hE.size (h2 u hu).1,(h2 u hu).2.mono fun i hi=>⟨Nat.le_trans hE.size hi.1,hi.2⟩⟩,hE.trans h3⟩
theorem two_cases {es:List Ent} {ts:List (PT 0)} (h:ts.map Prod.snd=chunk es):(∃ a,ts=[a])∨∃ a b,ts=[a,b]:=by
 rcases chunk_two es with ⟨a,ha⟩ | ⟨a,b,ha⟩ <;> rw [ha] at h
 ·obtain ⟨x,hx,-⟩:=one0 h;exact .inl ⟨x,hx⟩
 obtain ⟨x,y,hx,-⟩:=two0 h;exact .inr ⟨x,y,hx⟩
theorem with_leaf {w:World} {nv:Value} {es:List Ent} (hh:∀ W,Ext w W→Calls Tryz.prog 97 #[nv] W fun e w'=>e=.returned (.int .i64 0)∧W=w') (he:∀ W,Ext w W→Calls Tryz.prog 104 #[nv] W (EntriesPost es W))
  (hs:Sorted es) (h8:es.length≤8) {k:ByteArray} {v:Val} {sl so:Sl} (hv:RV w (Lt w.heap.size) v sl so) (hkm:k.size≤maxLen) :
  Calls Tryz.prog 61 #[nv,aggE k v sl so] w (WithPost0 es k v w):=by
 have HH:=Lib.hid hh
 have HE:=Lib.hid he
 have HV:=Lib.hid hv
 have HS:=Lib.hid hs
 clear hh he hv hs
 go_enter Tryz.func61,Tryz.ntmps61
 go_wp2_with fail
 have hx0:Ext w (w.alloc (.cells #[.string k,.int .i64 v.kind,.bool v.b,.int .i64 v.i,.string v.t,.slice sl.a v.l.length sl.c,.slice so.a v.ok.length so.c] 71)):=(Ext.refl w).alloc _ _
 have hb0:=Blk.new w 71 #[.string k,.int .i64 v.kind,.bool v.b,.int .i64 v.i,.string v.t,.slice sl.a v.l.length sl.c,.slice so.a v.ok.length so.c]
 generalize hW0:World.alloc _ _=W0 at *
 have hz0:W0.heap.size=w.heap.size+1:=by rw [←hW0];simp
 clear hW0
 refine (HH.out _ hx0).mono ?_
 rintro e w1 ⟨rfl,rfl⟩
 go_wp2_with fail
 refine (HE.out _ hx0).mono ?_
 rintro e w1 ⟨s',xs',rfl,hxs,ho,hx1⟩
 have hb1:=hb0.ext hx1
 obtain ⟨c0,c1,c2,c3,c4,c5,c6⟩:=hb1.c7
 have hpl:=place_any (w:=w1) (ho.es.mono fun i hi=>hi.2) k (by rw [hxs];exact HS.out)
 rw [hxs] at hpl
 obtain ⟨p,hp⟩:∃ p,posE es k=p:=⟨_,rfl⟩
 have hple:=posE_le es k
 unfold PlacePost at hpl
 have hins:=insE_pos HS.out k v
 rw [hp] at hpl hple hins
 have hlen:xs'.length=es.length:=by rw [←hxs,List.length_map]
 have HO:=Lib.hid ho
 have HPL:=Lib.hid hpl
 have HI:=Lib.hid hins
 have HXS:=Lib.hid hxs
 have HX1:=Lib.hid hx1
 have HLEN:=Lib.hid hlen
 have h8':xs'.length≤8:=by omega
 clear ho hpl hp hins hxs hlen
 go_wp2_with fail
 refine HPL.out.mono ?_
 rintro e w2 ⟨rfl,hx2⟩
 have hb2:=hb1.ext hx2
 obtain ⟨d0,d1,d2,d3,d4,d5,d6⟩:=hb2.c7
 clear c0 c1 c2 c3 c4 c5 c6
 have hX2:Ext w w2:=(hx0.trans hx1).trans hx2
 have ho2:=HO.out.ext hx2
 have HX2:=Lib.hid hX2
 have HO2:=Lib.hid ho2
 have hb2l:=hb2.lt
 have hbase:W0.heap.size≤w2.heap.size:=(hx1.trans hx2).size
 clear hb1 hb2 hb0 hx0 hx1 hx2 hX2
 cases ht:decide ((es[p]?).map Prod.fst=some k)
 ·have htp:¬(es[p]?).map Prod.fst=some k:=of_decide_eq_false ht
  have hi2:insE es k v=es.take p++(k,v) :: es.drop p:=by rw [HI.out,if_neg htp]
  have hE3:Ext w2 (w2.alloc (.cells #[.string k,.int .i64 v.kind,.bool v.b,.int .i64 v.i,.string v.t,.slice sl.a v.l.length sl.c,.slice so.a v.ok.length so.c] 71)):=(Ext.refl w2).alloc _ _
  have hb3:=Blk.new w2 71 (LE.cells ⟨k,v,sl,so⟩).toArray
  have HI2:=Lib.hid hi2
  clear ho2 hi2 htp
  go_wp2_with fail
  change Calls _ _ _ (w2.alloc (.cells (LE.cells ⟨k,v,sl,so⟩).toArray 71)) _
  change Ext w2 (w2.alloc (.cells (LE.cells ⟨k,v,sl,so⟩).toArray 71)) at hE3
  generalize hW3:w2.alloc (.cells (LE.cells ⟨k,v,sl,so⟩).toArray 71)=W3 at *
  have ho3:=HO2.out.ext hE3
  have hvb:RV W3 (Lt W0.heap.size) v sl so:=(HV.out.agree ((HX2.out.trans hE3).agree fun _ h=>h)).mono fun i hi=>Nat.lt_of_lt_of_le hi (by rw [hz0];exact Nat.le_succ _)
  have hne:s'.row≠some w2.heap.size:=fun h=>by
   have:=(HO2.out.own.lt w2.heap.size (by obtain ⟨a,c⟩:=s';cases a <;> simp_all [Value.ownBlock,Sl.row])).2
   omega
  have hins:=insE_any (i:=p) (base:=W0.heap.size) ho3.own (Nat.le_trans hbase hE3.size) (by omega) (by have:=HLEN.out;omega) (LE.len ⟨k,v,sl,so⟩) hb3 hne (LE.one _) (flatE_one _)
  have HE3:=Lib.hid hE3
  have HO3:=Lib.hid ho3
  have HVB:=Lib.hid hvb
  clear hE3 ho3 hvb hb3 hne hW3
  refine hins.mono ?_
  rintro e w4 ⟨s4,rfl,hown4,hwr4,-⟩
  have hes:=HO3.out.inserted (by have:=HLEN.out;omega) (Nat.le_trans hbase HE3.out.size) (x:=⟨k,v,sl,so⟩) HVB.out hkm (by omega) hown4 hwr4
  have hl:(xs'.take p++⟨k,v,sl,so⟩ :: xs'.drop p).length=xs'.length+1:=by have:=HLEN.out;simp;omega
  have hm:(xs'.take p++⟨k,v,sl,so⟩ :: xs'.drop p).map LE.ent=insE es k v:=by
   rw [HI2.out,←HXS.out,List.map_append,List.map_cons,List.map_take,List.map_drop];rfl
  have hsp:=splitE_any hes (risingN_of (by rw [hm];exact insE_sorted HS.out k v)) (by omega)
  rw [hl,hm] at hsp
  have hE4:Ext w w4:=(HX2.out.trans HE3.out).wr hwr4 fun i hi=>by
   have:=(HO3.out.own.lt i (by obtain ⟨a,c⟩:=s';cases a <;> simp_all [Value.ownBlock,Sl.row])).1
   omega
  have HSP:=Lib.hid hsp
  have HE4:=Lib.hid hE4
  clear hes hsp hE4 hown4 hwr4 hl hm hins
  go_wp2_with fail
  refine HSP.out.mono ?_
  rintro e w5 ⟨ts,rfl,h1,h2,h3⟩
  have H2:=Lib.hid h2
  have H1:=Lib.hid h1
  clear h2
  rcases two_cases h1 with ⟨a,rfl⟩ | ⟨a,b,rfl⟩
  all_goals
   clear h1
   simp only [two]
   go_wp2_with fail
   go_ret2
   exact with0_end HE4.out H1.out H2.out h3
 have htp:(es[p]?).map Prod.fst=some k:=of_decide_eq_true ht
 have hpl:p<xs'.length:=by
  cases hq:es[p]? with
  | none=>rw [hq] at htp;cases htp
  | some x=>rw [HLEN.out];exact (List.getElem?_eq_some_iff.1 hq).1
 obtain ⟨g,cap,rfl,hbg,hnc,hcm,hfil⟩:=ho2.block (by omega)
 have hvb:RV w2 (Lt W0.heap.size) v sl so:=(HV.out.agree (HX2.out.agree fun _ h=>h)).mono fun i hi=>Nat.lt_of_lt_of_le hi (by rw [hz0];exact Nat.le_succ _)
 have hes:=HO2.out.set hbg hbase hnc hcm hfil hpl hvb hkm
 have hm:(xs'.set p ⟨k,v,sl,so⟩).map LE.ent=insE es k v:=by
  rw [HI.out,if_pos htp,←HXS.out,List.map_set,List.set_eq_take_append_cons_drop,if_pos (by simpa using hpl)];rfl
 have hsp:=splitE_any (w:=putM w2 g (p*7) k v sl so) (hes.mono fun i hi=>by rw [putM_size];exact hi) (risingN_of (by rw [hm];exact insE_sorted HS.out k v)) (by rw [List.length_set];omega)
 rw [hm,List.length_set] at hsp
 have hE4:Ext w (putM w2 g (p*7) k v sl so):=HX2.out.putM (by omega) _ _ _ _ _
 have HE4:=Lib.hid hE4
 obtain ⟨x0,hx0⟩:∃ v,w2.cell? ⟨g,p*7,none⟩=some v:=hfil.cell (by omega)
 obtain ⟨x1,hx1⟩:∃ v,w2.cell? ⟨g,p*7+1,none⟩=some v:=hfil.cell (by omega)
 obtain ⟨x2,hx2⟩:∃ v,w2.cell? ⟨g,p*7+2,none⟩=some v:=hfil.cell (by omega)
 obtain ⟨x3,hx3⟩:∃ v,w2.cell? ⟨g,p*7+3,none⟩=some v:=hfil.cell (by omega)
 obtain ⟨x4,hx4⟩:∃ v,w2.cell? ⟨g,p*7+4,none⟩=some v:=hfil.cell (by omega)
 obtain ⟨x5,hx5⟩:∃ v,w2.cell? ⟨g,p*7+5,none⟩=some v:=hfil.cell (by omega)
 obtain ⟨x6,hx6⟩:∃ v,w2.cell? ⟨g,p*7+6,none⟩=some v:=hfil.cell (by omega)
 have hff:=hfil.frozen
 have hpl':(p:Int)<(xs'.length:Int):=by omega
 have HSP:=Lib.hid hsp
 have hgl:=hfil.lt
 clear hes hsp hfil ho2 hvb hm hE4
 go_wp2_with fail
 change Calls _ _ _ (putM w2 g (p*7) k v sl so) _
 refine HSP.out.mono ?_
 rintro e w5 ⟨ts,rfl,h1,h2,h3⟩
 have H2:=Lib.hid h2
 have H1:=Lib.hid h1
 clear h2
 rcases two_cases h1 with ⟨a,rfl⟩ | ⟨a,b,rfl⟩
 all_goals
  clear h1
  simp only [two]
  go_wp2_with fail
  go_ret2
  exact with0_end HE4.out H1.out H2.out h3
end Go.Proofs.YtkhdiakpdafcdaaGreatDoor
