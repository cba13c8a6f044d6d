/- What the theorem needs of the texts TrodM: no condition of its own. -/
import Derived.Laws.IdiomStrings
import Derived.WalkArith
import Derived.OrdersIn
import Derived.Test.YtkhdiakpdafcdaaGreatDoorPna
import Derived.Test.YtkhdiakpdafcdaaGreatDoorPnc
import Derived.Test.YtkhdiakpdafcdaaGreatDoorPnd
import Derived.Test.YtkhdiakpdafcdaaGreatDoorPne
import Derived.Test.YtkhdiakpdafcdaaGreatDoorPnf
import Derived.Test.YtkhdiakpdafcdaaGreatDoorPng
import Derived.Test.YtkhdiakpdafcdaaGreatDoorPnh
import Derived.Test.YtkhdiakpdafcdaaGreatDoorPni
import Derived.Test.YtkhdiakpdafcdaaGreatDoorPnj
import Derived.Test.YtkhdiakpdafcdaaGreatDoorPno
set_option maxRecDepth 100000
set_option maxHeartbeats 1000000
namespace Go.Proofs.YtkhdiakpdafcdaaGreatDoor
open Go.RowKit
set_option linter.unusedVariables false
set_option linter.unusedSimpArgs false
section
variable {H : Type} {enc : TypeId × Value → H} {w : World} {held : Bool}
theorem cellsOfMut:Tryz.prog.cellsOf 31=19:=by kernel_rfl
theorem bytesOfMut:Tryz.prog.bytesOf 31=264:=by kernel_rfl
theorem nine_bulk {ds:List (DataW H)} {a b c e f:Nat} {d1 d2 d5 d7 d8:DataW H} (h1:ds[1]? = some d1) (h2:ds[2]? = some d2) (h5:ds[5]? = some d5) (h7:ds[7]? = some d7) (h8:ds[8]? = some d8)
  (b1:Rows.uptoBulk d1=a+1) (b2:Rows.uptoBulk d2=b+1) (b5:c≤Rows.uptoBulk d5) (b7:e≤Rows.uptoBulk d7) (b8:f+1≤Rows.uptoBulk d8):7+a+b+c+e+f≤Rows.uptoBulkAll ds:=by
 match ds,h1,h2,h5,h7,h8 with
 | x0 :: x1 :: x2 :: x3 :: x4 :: x5 :: x6 :: x7 :: x8 :: r,h1,h2,h5,h7,h8=>
   simp at h1 h2 h5 h7 h8
   subst h1 h2 h5 h7 h8
   have:=bulk_pos x0;have:=bulk_pos x3;have:=bulk_pos x4;have:=bulk_pos x6
   simp only [Rows.uptoBulkAll];omega
theorem totMs_bulk:∀ (l:List Mu) (es:List (DataW H)),l.length=es.length→(∀ (i:Nat) m d,l[i]? = some m→es[i]? = some d→totM m≤Rows.uptoBulk d)→totMs l≤Rows.uptoBulkAll es
 | [],[],_,_=>by simp [totMs]
 | [],d :: es,h,_=>by cases h
 | a :: xs,[],h,_=>by cases h
 | a :: xs,d :: es,h,k=>by
   have h1:=k 0 a d rfl rfl
   have h2:=totMs_bulk xs es (by simpa using h) fun i a' d' ha hd=>k (i+1) a' d' (by simpa using ha) (by simpa using hd)
   simp only [totMs,Rows.uptoBulkAll]
   omega
theorem mu_of_trod:∀ (fuel:Nat) {cs:List Value} {x:DataW H × List MemPlace},tr enc Tryz.prog w held fuel 31 cs=some x→WOk Tryz.prog 31 x.1→∃ m c,cs=cellsMu m c∧RMu w (Lt w.heap.size) m c∧totM m≤Rows.uptoBulk x.1:=by
 intro fuel
 induction fuel using Nat.strongRecOn with
 | ind fuel ih=>
 intro cs x h hw
 obtain ⟨n,ds,rfl,hl,hx,hf⟩:=trod_fieldsB Tryz.underlying31 h hw
 rw [cellsOfMut] at hl
 obtain ⟨y0,h0,-,-⟩:=hf 0 _ rfl
 obtain ⟨y1,h1,-,d1⟩:=hf 1 _ rfl
 obtain ⟨y2,h2,-,d2⟩:=hf 2 _ rfl
 obtain ⟨y3,h3,-,-⟩:=hf 3 _ rfl
 obtain ⟨y4,h4,-,-⟩:=hf 4 _ rfl
 obtain ⟨y5,h5,w5,d5⟩:=hf 5 _ rfl
 obtain ⟨y6,h6,-,-⟩:=hf 6 _ rfl
 obtain ⟨y7,h7,w7,d7⟩:=hf 7 _ rfl
 obtain ⟨y8,h8,w8,d8⟩:=hf 8 _ rfl
 obtain ⟨kd,hkd,wkd⟩:=trod_i (k:=.i64) (by kernel_rfl) h0
 obtain ⟨k,hk,wk,bk⟩:=trod_sB (by kernel_rfl) h1
 obtain ⟨tk,htk,wtk,btk⟩:=trod_sB (by kernel_rfl) h2
 obtain ⟨i,hi,wi⟩:=trod_i (k:=.i64) (by kernel_rfl) h3
 obtain ⟨had,hhad⟩:=trod_b (by kernel_rfl) h4
 obtain ⟨has,hhas⟩:=trod_b (by kernel_rfl) h6
 have g5:tr enc Tryz.prog w held n 28 ((cs.drop 5).take 6)=some y5:=by
  have:=h5
  dsimp only at this
  rw [cellsOfValue] at this
  exact this
 have g7:tr enc Tryz.prog w held n 28 ((cs.drop 12).take 6)=some y7:=by
  have:=h7
  dsimp only at this
  rw [cellsOfValue] at this
  exact this
 obtain ⟨was,s1,s2,hwas,rwas,cwas⟩:=rvB_of_trod n g5 w5
 obtain ⟨v,s3,s4,hv,rv,cv⟩:=rvB_of_trod n g7 w7
 obtain ⟨n8,len,s,b,o,es,hn8,hc8,hs,hby,hl8,b8,he⟩:=trod_rowsB (e:=31) (C:=19) (B:=264) (by kernel_rfl) cellsOfMut bytesOfMut (by decide) h8 w8
 have hE:∀ i,i<len→∃ a:Mu × MuS,(MuC w b (o+i*19) a.1 a.2∧RMu w (Lt w.heap.size) a.1 a.2)∧∃ d,es[i]? = some d∧totM a.1≤Rows.uptoBulk d:=fun i hi=>by
  obtain ⟨cs',y,hl19,hc,ht,hw,hd⟩:=he i hi
  obtain ⟨m,c,rfl,hr,hm⟩:=ih n8 (by omega) ht hw
  refine ⟨(m,c),⟨fun j u hu=>?_,hr⟩,_,hd,hm⟩
  have hj:j<19:=(List.getElem?_eq_some_iff.1 hu).1
  exact (hc j hj).trans hu
 obtain ⟨f,hf'⟩:=skolem hE
 have hcs:cs=cellsMu (.mk kd k tk i had was has v ((List.range len).map fun j=>(f j).1)) ⟨s1,s2,s3,s4,s⟩:=by
  refine List.ext_getElem? fun j=>?_
  by_cases hj:j<19
  ·have a0:cs[0]? = some (.int .i64 kd):=at_of_take hkd (j:=0) (by decide)
   have a1:cs[1]? = some (.string k):=at_of_take hk (j:=0) (by decide)
   have a2:cs[2]? = some (.string tk):=at_of_take htk (j:=0) (by decide)
   have a3:cs[3]? = some (.int .i64 i):=at_of_take hi (j:=0) (by decide)
   have a4:cs[4]? = some (.bool had):=at_of_take hhad (j:=0) (by decide)
   have a5:∀ j,j<6→cs[5+j]? = (cellsV was s1 s2)[j]?:=fun j hj=>at_of_take hwas hj
   have a11:cs[11]? = some (.bool has):=at_of_take hhas (j:=0) (by decide)
   have a12:∀ j,j<6→cs[12+j]? = (cellsV v s3 s4)[j]?:=fun j hj=>at_of_take hv hj
   have a18:cs[18]? = some (.slice s.a len s.c):=at_of_take hc8 (j:=0) (by decide)
   match j,hj with
   | 0,_=>exact a0
   | 1,_=>exact a1
   | 2,_=>exact a2
   | 3,_=>exact a3
   | 4,_=>exact a4
   | 5,_=>exact a5 0 (by decide)
   | 6,_=>exact a5 1 (by decide)
   | 7,_=>exact a5 2 (by decide)
   | 8,_=>exact a5 3 (by decide)
   | 9,_=>exact a5 4 (by decide)
   | 10,_=>exact a5 5 (by decide)
   | 11,_=>exact a11
   | 12,_=>exact a12 0 (by decide)
   | 13,_=>exact a12 1 (by decide)
   | 14,_=>exact a12 2 (by decide)
   | 15,_=>exact a12 3 (by decide)
   | 16,_=>exact a12 4 (by decide)
   | 17,_=>exact a12 5 (by decide)
   | 18,_=>rw [a18];simp [cellsMu,Mu.l]
   | j+19,hj=>omega
  rw [List.getElem?_eq_none (by omega),List.getElem?_eq_none (by simp [cellsMu];omega)]
 refine ⟨_,_,hcs,?_,?_⟩
 ·refine .mk b o (fun j=>(f j).2) rwas rv (by rw [List.length_map,List.length_range];exact hs) (fun j m hj=>?_) (fun j m hj=>?_) wk wtk wkd wi (by rw [List.length_map,List.length_range];omega)
  ·obtain ⟨h1,rfl⟩:=ofFn_get hj;exact (hf' j h1).1.1
  obtain ⟨h1,rfl⟩:=ofFn_get hj;exact (hf' j h1).1.2
 have hL:=totMs_bulk ((List.range len).map fun j=>(f j).1) es (by simp [hl8]) fun i m d hi hd=>by
  obtain ⟨h1,rfl⟩:=ofFn_get hi
  obtain ⟨d',h2,h3⟩:=(hf' i h1).2
  rw [hd] at h2;injection h2 with h2;rw [h2];exact h3
 have h9:=nine_bulk d1 d2 d5 d7 d8 bk btk cwas cv (f:=totMs ((List.range len).map fun j=>(f j).1)) (by omega)
 rw [hx]
 simp only [totM,Rows.uptoBulk]
 omega
structure MuRow (w:World) (F:Nat→Prop) (s:Sl) (l:List Mu):Prop where
 ex:∃ (b o:Nat) (c:Nat→MuS),SlAt F s l.length b o∧(∀ j m,l[j]? = some m→MuC w b (o+j*19) m (c j))∧∀ j m,l[j]? = some m→RMu w F m (c j)
 few:totMs l≤1100000
 len:l.length*264≤140737488355328
theorem muts_of_trod {fuel:Nat} {cs:List Value} {x:DataW H × List MemPlace} (h:tr enc Tryz.prog w held fuel 29 cs=some x) (hw:WOk Tryz.prog 29 x.1) (hB:Rows.uptoBulk x.1≤1048576) :
  ∃ (s:Sl) (l:List Mu),cs=[.slice s.a l.length s.c]∧MuRow w (Lt w.heap.size) s l:=by
 obtain ⟨n,len,s,b,o,es,-,hc,hs,hby,hle,hbu,he⟩:=trod_rowsB (e:=31) (C:=19) (B:=264) Tryz.underlying29 cellsOfMut bytesOfMut (by decide) h hw
 have hE:∀ i,i<len→∃ a:Mu × MuS,(MuC w b (o+i*19) a.1 a.2∧RMu w (Lt w.heap.size) a.1 a.2)∧∃ d,es[i]? = some d∧totM a.1≤Rows.uptoBulk d:=fun i hi=>by
  obtain ⟨cs',y,hl19,hc,ht,hw,hd⟩:=he i hi
  obtain ⟨m,c,rfl,hr,hm⟩:=mu_of_trod n ht hw
  refine ⟨(m,c),⟨fun j u hu=>?_,hr⟩,_,hd,hm⟩
  have hj:j<19:=(List.getElem?_eq_some_iff.1 hu).1
  exact (hc j hj).trans hu
 obtain ⟨f,hf'⟩:=skolem hE
 refine ⟨s,(List.range len).map fun j=>(f j).1,by simpa using hc,⟨b,o,fun j=>(f j).2,by rw [List.length_map,List.length_range];exact hs,fun j m hj=>?_,fun j m hj=>?_⟩,?_,by rw [List.length_map,List.length_range];omega⟩
 ·obtain ⟨h1,rfl⟩:=ofFn_get hj;exact (hf' j h1).1.1
 ·obtain ⟨h1,rfl⟩:=ofFn_get hj;exact (hf' j h1).1.2
 have hL:=totMs_bulk ((List.range len).map fun j=>(f j).1) es (by simp [hle]) fun i m d hi hd=>by
  obtain ⟨h1,rfl⟩:=ofFn_get hi
  obtain ⟨d',h2,h3⟩:=(hf' i h1).2
  rw [hd] at h2;injection h2 with h2;rw [h2];exact h3
 omega
end
end Go.Proofs.YtkhdiakpdafcdaaGreatDoor
