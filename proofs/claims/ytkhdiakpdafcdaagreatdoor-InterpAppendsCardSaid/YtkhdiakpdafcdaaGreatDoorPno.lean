/- What the theorem needs of the texts TrodR: no condition of its own. -/
import Derived.Laws.IdiomStrings
import Derived.WalkArith
import Derived.Test.YtkhdiakpdafcdaaGreatDoorPna
import Derived.Test.YtkhdiakpdafcdaaGreatDoorPnc
import Derived.Test.YtkhdiakpdafcdaaGreatDoorPnd
import Derived.Test.YtkhdiakpdafcdaaGreatDoorPne
import Derived.Test.YtkhdiakpdafcdaaGreatDoorPnf
import Derived.Test.YtkhdiakpdafcdaaGreatDoorPng
import Derived.Test.YtkhdiakpdafcdaaGreatDoorPnh
import Derived.Test.YtkhdiakpdafcdaaGreatDoorPni
import Derived.Test.YtkhdiakpdafcdaaGreatDoorPnj
set_option maxRecDepth 100000
namespace Go.Proofs.YtkhdiakpdafcdaaGreatDoor
open Go.RowKit
set_option linter.unusedVariables false
set_option linter.unusedSimpArgs false
section
variable {H : Type} {enc : TypeId × Value → H} {w : World} {held : Bool}
theorem trod_sB {P:Program} {t:TypeId} {fuel:Nat} {cs:List Value} {x:DataW H × List MemPlace} (ht:P.underlying t=some .string) (h:tr enc P w held fuel t cs=some x):∃ s,cs=[.string s]∧s.size≤maxLen∧Rows.uptoBulk x.1=s.size+1:=by
 obtain ⟨s,h1,rfl,h2⟩:=DataW.trod_string ht h
 refine ⟨s,h1,h2,?_⟩
 show s.data.toList.length+1=_
 rw [Array.length_toList];rfl
theorem cntL_bulk:∀ (l:List Val) (es:List (DataW H)),l.length=es.length→(∀ (i:Nat) v d,l[i]? = some v→es[i]? = some d→cntV v≤Rows.uptoBulk d)→cntL l≤Rows.uptoBulkAll es
 | [],[],_,_=>by simp [cntL]
 | [],d :: es,h,_=>by cases h
 | a :: xs,[],h,_=>by cases h
 | a :: xs,d :: es,h,k=>by
   have h1:=k 0 a d rfl rfl
   have h2:=cntL_bulk xs es (by simpa using h) fun i a' d' ha hd=>k (i+1) a' d' (by simpa using ha) (by simpa using hd)
   simp only [cntL,Rows.uptoBulkAll]
   omega
theorem cntM_bulk:∀ (ks:List ByteArray) (l:List Val) (es:List (DataW H)),ks.length=es.length→l.length=es.length→(∀ (i:Nat) q v d,ks[i]? = some q→l[i]? = some v→es[i]? = some d→q.size+2+cntV v≤Rows.uptoBulk d)→cntM ks l≤Rows.uptoBulkAll es
 | ks,[],es,_,_,_=>by simp [cntM]
 | [],a :: xs,es,h,h2,_=>by rw [←h] at h2;cases h2
 | q :: ks,a :: xs,[],h,_,_=>by cases h
 | q :: ks,a :: xs,d :: es,h,h',k=>by
   have h1:=k 0 q a d rfl rfl rfl
   have h2:=cntM_bulk ks xs es (by simpa using h) (by simpa using h') fun i q' a' d' hq ha hd=>k (i+1) q' a' d' (by simpa using hq) (by simpa using ha) (by simpa using hd)
   simp only [cntM,Rows.uptoBulkAll,List.headD_cons,List.tail_cons]
   omega
theorem six_bulk {ds:List (DataW H)} {n:Nat} {d3 d4 d5:DataW H} (h3:ds[3]? = some d3) (h4:ds[4]? = some d4) (h5:ds[5]? = some d5) (hn:n≤Rows.uptoBulk d3+Rows.uptoBulk d4+Rows.uptoBulk d5):3+n≤Rows.uptoBulkAll ds:=by
 match ds,h3,h4,h5 with
 | a :: b :: c :: x :: y :: z :: r,h3,h4,h5=>
   simp at h3 h4 h5
   subst h3 h4 h5
   have:=bulk_pos a;have:=bulk_pos b;have:=bulk_pos c
   simp only [Rows.uptoBulkAll];omega
theorem two_bulk {ds:List (DataW H)} {n:Nat} {d0 d1:DataW H} (h0:ds[0]? = some d0) (h1:ds[1]? = some d1) (hn:n≤Rows.uptoBulk d0+Rows.uptoBulk d1):n≤Rows.uptoBulkAll ds:=by
 match ds,h0,h1 with
 | a :: b :: r,h0,h1=>
   simp at h0 h1
   subst h0 h1
   simp only [Rows.uptoBulkAll];omega
theorem rvB_of_trod:∀ (fuel:Nat) {cs:List Value} {x:DataW H × List MemPlace},tr enc Tryz.prog w held fuel 28 cs=some x→WOk Tryz.prog 28 x.1→∃ v sl so,cs=cellsV v sl so∧RV w (Lt w.heap.size) v sl so∧cntV v≤Rows.uptoBulk x.1:=by
 intro fuel
 induction fuel using Nat.strongRecOn with
 | ind fuel ih=>
 intro cs x h hw
 obtain ⟨n,ds,rfl,hl,hx,hf⟩:=trod_fieldsB Tryz.underlying28 h hw
 rw [cellsOfValue] at hl
 obtain ⟨c0,c1,c2,c3,c4,c5,rfl⟩:=six_list hl
 obtain ⟨y0,h0,-,-⟩:=hf 0 _ rfl
 obtain ⟨y1,h1,-,-⟩:=hf 1 _ rfl
 obtain ⟨y2,h2,-,-⟩:=hf 2 _ rfl
 obtain ⟨y3,h3,-,d3⟩:=hf 3 _ rfl
 obtain ⟨y4,h4,w4,d4⟩:=hf 4 _ rfl
 obtain ⟨y5,h5,w5,d5⟩:=hf 5 _ rfl
 obtain ⟨k,hk,wk⟩:=trod_i (k:=.i64) (by kernel_rfl) h0
 obtain ⟨bb,hb⟩:=trod_b (by kernel_rfl) h1
 obtain ⟨i,hi,wi⟩:=trod_i (k:=.i64) (by kernel_rfl) h2
 obtain ⟨t,ht,wt,b3⟩:=trod_sB (by kernel_rfl) h3
 obtain ⟨n4,len,s,b,o,es4,hn4,hc4,hs,hby,hl4,b4,he⟩:=trod_rowsB (e:=28) (C:=6) (B:=88) (by kernel_rfl) cellsOfValue bytesOfValue (by decide) h4 w4
 obtain ⟨n5,len',s',b',o',es5,hn5,hc5,hs',hby',hl5,b5,he'⟩:=trod_rowsB (e:=123) (C:=7) (B:=104) (by kernel_rfl) cellsOfMember bytesOfMember (by decide) h5 w5
 have k0:∀ c:Value,([c0,c1,c2,c3,c4,c5].drop 0).take 1=[c]→c0=c:=fun c h=>by simpa using h
 have k1:∀ c:Value,([c0,c1,c2,c3,c4,c5].drop 1).take 1=[c]→c1=c:=fun c h=>by simpa using h
 have k2:∀ c:Value,([c0,c1,c2,c3,c4,c5].drop 2).take 1=[c]→c2=c:=fun c h=>by simpa using h
 have k3:∀ c:Value,([c0,c1,c2,c3,c4,c5].drop 3).take 1=[c]→c3=c:=fun c h=>by simpa using h
 have k4:∀ c:Value,([c0,c1,c2,c3,c4,c5].drop 4).take 1=[c]→c4=c:=fun c h=>by simpa using h
 have k5:∀ c:Value,([c0,c1,c2,c3,c4,c5].drop 5).take 1=[c]→c5=c:=fun c h=>by simpa using h
 obtain rfl:=k0 _ hk
 obtain rfl:=k1 _ hb
 obtain rfl:=k2 _ hi
 obtain rfl:=k3 _ ht
 obtain rfl:=k4 _ hc4
 obtain rfl:=k5 _ hc5
 clear k0 k1 k2 k3 k4 k5 hk hb hi ht hc4 hc5 h0 h1 h2 h3 h4 h5 hf
 have hE:∀ i,i<len→∃ a:Val × Sl × Sl,(VCells w b (o+i*6) a.1 a.2.1 a.2.2∧RV w (Lt w.heap.size) a.1 a.2.1 a.2.2)∧∃ d,es4[i]? = some d∧cntV a.1≤Rows.uptoBulk d:=fun i hi=>by
  obtain ⟨cs',y,hl6,hc,ht,hw,hd⟩:=he i hi
  obtain ⟨v,sl,so,rfl,hr,hv⟩:=ih n4 (by omega) ht hw
  exact ⟨(v,sl,so),⟨⟨hc 0 (by decide),hc 1 (by decide),hc 2 (by decide),hc 3 (by decide),hc 4 (by decide),hc 5 (by decide)⟩,hr⟩,_,hd,hv⟩
 have hM:∀ i,i<len'→∃ a:ByteArray × Val × Sl × Sl,((w.cell? ⟨b',o'+i*7,none⟩=some (.string a.1)∧a.1.size≤maxLen)∧VCells w b' (o'+i*7+1) a.2.1 a.2.2.1 a.2.2.2∧RV w (Lt w.heap.size) a.2.1 a.2.2.1 a.2.2.2)∧∃ d,es5[i]? = some d∧a.1.size+2+cntV a.2.1≤Rows.uptoBulk d:=fun i hi=>by
  obtain ⟨cs',y,hl7,hc,ht,hw,hd⟩:=he' i hi
  obtain ⟨n6,ds6,rfl,hl,hx6,hf⟩:=trod_fieldsB Tryz.underlying123 ht hw
  obtain ⟨z0,g0,-,e0⟩:=hf 0 _ rfl
  obtain ⟨z1,g1,u1,e1⟩:=hf 1 _ rfl
  obtain ⟨k,hk,wk,bk⟩:=trod_sB (by kernel_rfl) g0
  have g1':tr enc Tryz.prog w held n6 28 ((cs'.drop 1).take 6)=some z1:=by
   have:=g1
   dsimp only at this
   rw [cellsOfValue] at this
   exact this
  obtain ⟨v,sl,so,hv,hr,hvb⟩:=ih n6 (by omega) g1' u1
  have a0:cs'[0]? = some (.string k):=at_of_take hk (j:=0) (by decide)
  have cj:∀ j,j<6→w.cell? ⟨b',o'+i*7+1+j,none⟩=(cellsV v sl so)[j]?:=fun j hj=>by
   rw [←at_of_take hv hj,←hc (1+j) (by omega),Nat.add_assoc (o'+i*7)]
  refine ⟨(k,v,sl,so),⟨⟨(hc 0 (by decide)).trans a0,wk⟩,⟨cj 0 (by decide),cj 1 (by decide),cj 2 (by decide),cj 3 (by decide),cj 4 (by decide),cj 5 (by decide)⟩,hr⟩,_,hd,?_⟩
  rw [hx6]
  have:=two_bulk (n:=k.size+1+cntV v) e0 e1 (by omega)
  simp only [Rows.uptoBulk];omega
 obtain ⟨f,hf⟩:=skolem hE
 obtain ⟨g,hg⟩:=skolem hM
 refine ⟨.mk k bb i t ((List.range len).map fun j=>(f j).1) ((List.range len').map fun j=>(g j).1) ((List.range len').map fun j=>(g j).2.1),s,s',by simp [cellsV,Val.kind,Val.b,Val.i,Val.t,Val.l,Val.ok],?_,?_⟩
 ·refine .mk b o b' o' (fun j=>((f j).2.1,(f j).2.2)) (fun j=>((g j).2.2.1,(g j).2.2.2)) (by rw [List.length_map,List.length_range];exact hs) (by rw [List.length_map,List.length_range];exact hs') (by simp) (fun j d hj=>?_) (fun j d hj=>?_) (fun j d hj=>?_) (fun j d hj=>?_) (fun j d hj=>?_) wk wi wt (by rw [List.length_map,List.length_range];omega) (by rw [List.length_map,List.length_range];omega)
  ·obtain ⟨h1,rfl⟩:=ofFn_get hj;exact (hf j h1).1.1
  ·obtain ⟨h1,rfl⟩:=ofFn_get hj;exact (hf j h1).1.2
  ·obtain ⟨h1,rfl⟩:=ofFn_get hj;exact (hg j h1).1.1
  ·obtain ⟨h1,rfl⟩:=ofFn_get hj;exact (hg j h1).1.2.1
  obtain ⟨h1,rfl⟩:=ofFn_get hj;exact (hg j h1).1.2.2
 have hL:=cntL_bulk ((List.range len).map fun j=>(f j).1) es4 (by simp [hl4]) fun i v d hi hd=>by
  obtain ⟨h1,rfl⟩:=ofFn_get hi
  obtain ⟨d',h2,h3⟩:=(hf i h1).2
  rw [hd] at h2;injection h2 with h2;rw [h2];exact h3
 have hO:=cntM_bulk ((List.range len').map fun j=>(g j).1) ((List.range len').map fun j=>(g j).2.1) es5 (by simp [hl5]) (by simp [hl5]) fun i q v d hq hi hd=>by
  obtain ⟨h1,rfl⟩:=ofFn_get hi
  obtain ⟨-,rfl⟩:=ofFn_get hq
  obtain ⟨d',h2,h3⟩:=(hg i h1).2
  rw [hd] at h2;injection h2 with h2;rw [h2];exact h3
 have h6:=six_bulk (n:=t.size+3+cntL ((List.range len).map fun j=>(f j).1)+cntM ((List.range len').map fun j=>(g j).1) ((List.range len').map fun j=>(g j).2.1)) d3 d4 d5 (by omega)
 rw [hx]
 simp only [cntV,Rows.uptoBulk]
 omega
end
end Go.Proofs.YtkhdiakpdafcdaaGreatDoor
