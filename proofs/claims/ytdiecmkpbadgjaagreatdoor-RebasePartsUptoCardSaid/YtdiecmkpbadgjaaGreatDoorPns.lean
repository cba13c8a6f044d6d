/- What the theorem needs of the texts TrodN: no condition of its own. -/
import Derived.Test.YtdiecmkpbadgjaaGreatDoorPnk
set_option linter.unusedVariables false
set_option linter.unusedSimpArgs false
set_option linter.unnecessarySimpa false
set_option maxRecDepth 100000
namespace Go.Proofs.YtdiecmkpbadgjaaGreatDoor
open Go.Proofs.Tryz
open Go.RowKit
section
variable{H : Type}{enc : TypeId × Value -> H}{w : World}{held : Bool}
theorem Qho:prog.cellsOf 39=20:=kM
theorem QmY:prog.bytesOf 39=272:=kM
theorem Qll{I:Nat}{cs:List Value}{x:DataW H × List MemPlace}(h:tr enc prog w held I 39 cs=some x)(hw:WOk prog 39 x.1) :
  ∃n c,cs=Qbw n c/\RMu w (Lt w) n.m c/\(Lit.int .u64 n.id).wf=true/\QcC n.m<=Rows.uptoBulk x.1:=by
 obtain⟨q,ds,rfl,hl,hx,hf⟩:=QcD underlying39 h hw;rw[Qho]at hl;obtain⟨y0,h0,-,d0⟩:=hf 0 _ rfl;obtain⟨y1,h1,w1,d1⟩:=hf 1 _ rfl;obtain⟨id,N,Z⟩:=QkA (k:=.u64) kM h0;have g1:tr enc prog w held q 37 ((cs.drop 1).take 19)=some y1:=by
  have:=h1;dsimp only at this;rw[QdQ]at this;exact this
 obtain⟨m,c,hm,hr,ht⟩:=QhE q g1 w1;refine⟨⟨id,m⟩,c,?_,hr,Z,?_⟩
 ·have a0:cs[0]? = some (.int .u64 id):=at_of_take N (j:=0) oN
  refine bI λj=>?_
  cases j with
  |zero=>exact a0
  | succ j=>
    show _=(Qan m c)[j]?;by_cases hj:j<19
    .rw [Nat.add_comm];exact at_of_take hm hj
    rw[aJ oM,aJ (by rw[QfD];omega)]
 rw[hx];exact dR (QmG d0 d1 (an ht (Nat.le_add_left _ _)))
theorem nums_of_trod{a0:Nat}{cs:List Value}{x:DataW H × List MemPlace}(h:tr enc prog w held a0 23 cs=some x)(hw:WOk prog 23 x.1) :
  ∃(s:Sl) (l:List Nm),cs=[.slice s.a l.length s.c]/\Qa7 w (Lt w) s l/\Qcc (l.map Nm.m)<=Rows.uptoBulk x.1:=by
 obtain⟨n,N,s,b,o,es,-,hc,hs,a6,a2,a4,he⟩:=Qc1 (e:=39) (C:=20) (B:=272) underlying23 Qho QmY oN h hw;have hE:∀i,i<N->∃a:Nm × MuS,(NmC w b (o+i*20) a.1 a.2/\RMu w (Lt w) a.1.m a.2/\(Lit.int .u64 a.1.id).wf=true)/\∃d,es[i]? = some d/\QcC a.1.m<=Rows.uptoBulk d:=λi hi=>by
  obtain⟨a5,y,a3,hc,ht,hw,hd⟩:=he i hi;obtain⟨m,c,rfl,hr,a1,hm⟩:=Qll ht hw;refine⟨(m,c),⟨λj u hu=>?_,hr,a1⟩,_,hd,hm⟩;have Z:j<20:=(ai.1 hu).1;exact(hc j Z).trans hu
 obtain⟨f,I⟩:=skolem hE;refine⟨s,(List.range N).map λj=>(f j).1,by simpa using hc,⟨⟨b,o,λj=>(f j).2,by rw[aq,bB];exact hs,λj m Z=>?_,λj m Z=>?_⟩,λn hn=>?_,by rw[aq,bB];omega⟩,?_⟩
 .obtain ⟨h1,rfl⟩:=QaY Z;exact(I j h1).1.1
 .obtain ⟨h1,rfl⟩:=QaY Z;exact(I j h1).1.2.1
 ·obtain ⟨j,Z⟩:=bz hn
  obtain⟨h1,rfl⟩:=QaY Z;exact(I j h1).1.2.2
 have hL:=Qd2 (((List.range N).map λj=>(f j).1).map Nm.m) es (by simp[a2]) λi m d hi hd=>by
  rw[au]at hi;cases hq:((List.range N).map λj=>(f j).1)[i]? with
  |none=>rw[hq]at hi;cases hi
  | some q=>
    rw[hq]at hi;injection hi with hi;subst hi;obtain⟨h1,rfl⟩:=QaY hq;obtain⟨d',h2,h3⟩:=(I i h1).2;rw[hd]at h2;injection h2 with h2;rw[h2];exact h3
 omega
end
end Go.Proofs.YtdiecmkpbadgjaaGreatDoor
