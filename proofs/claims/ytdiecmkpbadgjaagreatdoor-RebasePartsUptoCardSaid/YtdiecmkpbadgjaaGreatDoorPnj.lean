/- What the theorem needs of the texts TrodM: no condition of its own. -/
import Derived.Test.YtdiecmkpbadgjaaGreatDoorPni
set_option linter.unusedVariables false
set_option linter.unusedSimpArgs false
set_option linter.unnecessarySimpa false
set_option maxRecDepth 100000
set_option maxHeartbeats 1000000
namespace Go.Proofs.YtdiecmkpbadgjaaGreatDoor
open Go.Proofs.Tryz
open Go.RowKit
section
variable{H : Type}{enc : TypeId × Value -> H}{w : World}{held : Bool}
theorem QdQ:prog.cellsOf 37=19:=kM
theorem Qhn:prog.bytesOf 37=264:=kM
theorem QpR{I:List (DataW H)}{a b c e f:Nat}{d1 d2 d5 d7 d8:DataW H}(h1:I[1]? = some d1)(h2:I[2]? = some d2)(h5:I[5]? = some d5)(N:I[7]? = some d7)(Z:I[8]? = some d8)
  (b1:Rows.uptoBulk d1=a+1) (b2:Rows.uptoBulk d2=b+1) (b5:c<=Rows.uptoBulk d5) (b7:e<=Rows.uptoBulk d7) (b8:f+1<=Rows.uptoBulk d8):7+a+b+c+e+f<=Rows.uptoBulkAll I:=by
 match I,h1,h2,h5,N,Z with
 | x0 :: x1 :: x2 :: x3 :: x4 :: x5 :: x6 :: x7 :: x8 :: r,h1,h2,h5,N,Z=>
   simp at h1 h2 h5 N Z;subst h1 h2 h5 N Z;have:=Qc3 x0;have:=Qc3 x3;have:=Qc3 x4;have:=Qc3 x6;simp only[Rows.uptoBulkAll];omega
theorem Qd2:∀(l:List Mu) (es:List (DataW H)),l.length=es.length->(∀(i:Nat) m d,l[i]? = some m->es[i]? = some d->QcC m<=Rows.uptoBulk d)->Qcc l<=Rows.uptoBulkAll es
 |[],[],_,_=>by simp[Qcc]
 |[],d::es,h,_=>by cases h
 |a::xs,[],h,_=>by cases h
 | a :: xs,d :: es,h,k=>by
   have h1:=k 0 a d rfl rfl;have h2:=Qd2 xs es (by simpa using h) λi I d' N hd=>k (i+1) I d' (by simpa using N) (by simpa using hd)
   simp only[Qcc,Rows.uptoBulkAll];omega
theorem QhE:∀(I:Nat) {cs:List Value} {x:DataW H × List MemPlace},tr enc prog w held I 37 cs=some x->WOk prog 37 x.1->∃m c,cs=Qan m c/\RMu w (Lt w) m c/\QcC m<=Rows.uptoBulk x.1:=by
 intro I
 induction I using Nat.strongRecOn with
 |ind I ih=>
 intro cs x h hw;obtain⟨n,ds,rfl,hl,hx,hf⟩:=QcD underlying37 h hw;rw[QdQ]at hl;obtain⟨y0,h0,-,-⟩:=hf 0 _ rfl;obtain⟨y1,h1,-,d1⟩:=hf 1 _ rfl;obtain⟨y2,h2,-,d2⟩:=hf 2 _ rfl;obtain⟨y3,h3,-,-⟩:=hf 3 _ rfl;obtain⟨y4,h4,-,-⟩:=hf 4 _ rfl;obtain⟨y5,h5,w5,d5⟩:=hf 5 _ rfl;obtain⟨y6,h6,-,-⟩:=hf 6 _ rfl;obtain⟨y7,h7,w7,d7⟩:=hf 7 _ rfl;obtain⟨y8,h8,w8,d8⟩:=hf 8 _ rfl;obtain⟨kd,c2,c0⟩:=QkA (k:=.i64) kM h0;obtain⟨k,hk,wk,bk⟩:=QiT kM h1;obtain⟨tk,c3,c1,c8⟩:=QiT kM h2;obtain⟨i,hi,wi⟩:=QkA (k:=.i64) kM h3;obtain⟨b5,b7⟩:=QqE kM h4;obtain⟨a8,b3⟩:=QqE kM h6;have g5:tr enc prog w held n 34 ((cs.drop 5).take 6)=some y5:=by
  have:=h5;dsimp only at this;rw[QbW]at this;exact this
 have g7:tr enc prog w held n 34 ((cs.drop 12).take 6)=some y7:=by
  have:=h7;dsimp only at this;rw[QbW]at this;exact this
 obtain⟨b0,s1,s2,b6,b4,a9⟩:=QgW n g5 w5;obtain⟨v,s3,s4,hv,rv,cv⟩:=QgW n g7 w7;obtain⟨n8,a6,s,b,o,es,d4,c9,hs,d6,c4,b8,he⟩:=Qc1 (e:=37) (C:=19) (B:=264) kM QdQ Qhn oN h8 w8;have hE:∀i,i<a6->∃a:Mu × MuS,(MuC w b (o+i*19) a.1 a.2/\RMu w (Lt w) a.1 a.2)/\∃d,es[i]? = some d/\QcC a.1<=Rows.uptoBulk d:=λi hi=>by
  obtain⟨d3,y,d0,hc,ht,hw,hd⟩:=he i hi;obtain⟨m,c,rfl,hr,hm⟩:=ih n8 oM ht hw;refine⟨(m,c),⟨λj u hu=>?_,hr⟩,_,hd,hm⟩;have Z:j<19:=(ai.1 hu).1;exact(hc j Z).trans hu
 obtain⟨f,a7⟩:=skolem hE;have b9:cs=Qan (.mk kd k tk i b5 b0 a8 v ((List.range a6).map λj=>(f j).1)) ⟨s1,s2,s3,s4,s⟩:=by
  refine bI λj=>?_
  by_cases Z:j<19
  ·have a0:cs[0]? = some (.int .i64 kd):=at_of_take c2 (j:=0) oN
   have a1:cs[1]? = some (.string k):=at_of_take hk (j:=0) oN;have a2:cs[2]? = some (.string tk):=at_of_take c3 (j:=0) oN;have a3:cs[3]? = some (.int .i64 i):=at_of_take hi (j:=0) oN;have a4:cs[4]? = some (.bool b5):=at_of_take b7 (j:=0) oN;have a5:∀j,j<6->cs[5+j]? =(Qji b0 s1 s2)[j]?:=λj Z=>at_of_take b6 Z
   have c7:cs[11]? = some (.bool a8):=at_of_take b3 (j:=0) oN;have N:∀j,j<6->cs[12+j]? =(Qji v s3 s4)[j]?:=λj Z=>at_of_take hv Z
   have c6:cs[18]? = some (.slice s.a a6 s.c):=at_of_take c9 (j:=0) oN
   match j,Z with
   |0,_=>exact a0
   |1,_=>exact a1
   |2,_=>exact a2
   |3,_=>exact a3
   |4,_=>exact a4
   |5,_=>exact a5 0 oN
   |6,_=>exact a5 1 oN
   |7,_=>exact a5 2 oN
   |8,_=>exact a5 3 oN
   |9,_=>exact a5 4 oN
   |10,_=>exact a5 5 oN
   |11,_=>exact c7
   |12,_=>exact N 0 oN
   |13,_=>exact N 1 oN
   |14,_=>exact N 2 oN
   |15,_=>exact N 3 oN
   |16,_=>exact N 4 oN
   |17,_=>exact N 5 oN
   |18,_=>rw[c6];simp[Qan,Mu.l]
   |j+19,Z=>omega
  rw[aJ oM,aJ (by simp[Qan];omega)]
 refine⟨_,_,b9,?_,?_⟩
 ·refine .mk b o (fun j=>(f j).2) b4 rv (by rw [aq,bB];exact hs) (fun j m Z=>?_) (fun j m Z=>?_) wk c1 c0 wi (by rw [aq,bB];omega)
  .obtain ⟨h1,rfl⟩:=QaY Z;exact(a7 j h1).1.1
  obtain⟨h1,rfl⟩:=QaY Z;exact(a7 j h1).1.2
 have hL:=Qd2 ((List.range a6).map λj=>(f j).1) es (by simp[c4]) λi m d hi hd=>by
  obtain⟨h1,rfl⟩:=QaY hi;obtain⟨d',h2,h3⟩:=(a7 i h1).2;rw[hd]at h2;injection h2 with h2;rw[h2];exact h3
 have h9:=QpR d1 d2 d5 d7 d8 bk c8 a9 cv (f:=Qcc ((List.range a6).map λj=>(f j).1)) oM;rw[hx];simp only[QcC,Rows.uptoBulk];omega
structure Qu7(w:World)(F:Nat->Prop)(s:Sl)(l:List Mu):Prop where
 ex:∃(b o:Nat) (c:Nat->MuS),Qd5 F s l.length b o/\(∀j m,l[j]? = some m->MuC w b (o+j*19) m (c j))/\∀j m,l[j]? = some m->RMu w F m (c j)
 few:Qcc l<=1099000
 len:l.length*264<=140737488355328
theorem QsE{a0:Nat}{cs:List Value}{x:DataW H × List MemPlace}(h:tr enc prog w held a0 35 cs=some x)(hw:WOk prog 35 x.1)(hB:Rows.uptoBulk x.1<=1048576) :
  ∃(s:Sl) (l:List Mu),cs=[.slice s.a l.length s.c]/\Qu7 w (Lt w) s l:=by
 obtain⟨n,N,s,b,o,es,-,hc,hs,a5,a1,a3,he⟩:=Qc1 (e:=37) (C:=19) (B:=264) underlying35 QdQ Qhn oN h hw;have hE:∀i,i<N->∃a:Mu × MuS,(MuC w b (o+i*19) a.1 a.2/\RMu w (Lt w) a.1 a.2)/\∃d,es[i]? = some d/\QcC a.1<=Rows.uptoBulk d:=λi hi=>by
  obtain⟨a4,y,a2,hc,ht,hw,hd⟩:=he i hi;obtain⟨m,c,rfl,hr,hm⟩:=QhE n ht hw;refine⟨(m,c),⟨λj u hu=>?_,hr⟩,_,hd,hm⟩;have Z:j<19:=(ai.1 hu).1;exact(hc j Z).trans hu
 obtain⟨f,I⟩:=skolem hE;refine⟨s,(List.range N).map λj=>(f j).1,by simpa using hc,⟨b,o,λj=>(f j).2,by rw[aq,bB];exact hs,λj m Z=>?_,λj m Z=>?_⟩,?_,by rw[aq,bB];omega⟩
 .obtain ⟨h1,rfl⟩:=QaY Z;exact(I j h1).1.1
 .obtain ⟨h1,rfl⟩:=QaY Z;exact(I j h1).1.2
 have hL:=Qd2 ((List.range N).map λj=>(f j).1) es (by simp[a1]) λi m d hi hd=>by
  obtain⟨h1,rfl⟩:=QaY hi;obtain⟨d',h2,h3⟩:=(I i h1).2;rw[hd]at h2;injection h2 with h2;rw[h2];exact h3
 omega
end
end Go.Proofs.YtdiecmkpbadgjaaGreatDoor
