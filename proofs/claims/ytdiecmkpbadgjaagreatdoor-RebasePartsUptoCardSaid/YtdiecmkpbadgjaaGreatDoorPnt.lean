/- What the theorem needs of the texts TrodE: no condition of its own. -/
import Derived.Test.YtdiecmkpbadgjaaGreatDoorPni
set_option linter.unusedVariables false
set_option linter.unusedSimpArgs false
set_option linter.unnecessarySimpa false
set_option maxRecDepth 100000
namespace Go.Proofs.YtdiecmkpbadgjaaGreatDoor
open Go.Proofs.Tryz
open Go.RowKit
section
variable{H : Type}{enc : TypeId × Value -> H}{w : World}{held : Bool}
theorem esB_of_trod{a3:Nat}{cs:List Value}{x:DataW H × List MemPlace}(h:tr enc prog w held a3 41 cs=some x)(hw:WOk prog 41 x.1)(hB:Rows.uptoBulk x.1<=1048576):∃(s:Sl) (xs:List LE),cs=[.slice s.a xs.length s.c]/\(ES w (Lt w) s xs/\∀y∈xs,QcI y.v<=1100000):=by
 obtain⟨n,N,s,b,o,es,-,hc,hs,a9,a7,a6,he⟩:=Qc1 (e:=78) (C:=7) (B:=104) underlying41 Qxa Qw9 oN h hw;have hE:∀i,i<N->∃a:ByteArray × Val × Sl × Sl,(w.cell? ⟨b,o+i*7,none⟩=some (.string a.1)/\a.1.size<=maxLen)/\QaV w b (o+i*7+1) a.2.1 a.2.2.1 a.2.2.2/\RV w (Lt w) a.2.1 a.2.2.1 a.2.2.2/\QcI a.2.1<=1100000:=λi hi=>by
  obtain⟨a1,y,a8,hc,ht,hw,hd⟩:=he i hi;obtain⟨n6,ds,rfl,hl,hx,Z⟩:=QcD underlying78 ht hw;obtain⟨z0,g0,-,-⟩:=Z 0 _ rfl;obtain⟨z1,g1,u1,e1⟩:=Z 1 _ rfl;obtain⟨k,hk,wk⟩:=Qzd kM g0;have a5:tr enc prog w held n6 34 ((a1.drop 1).take 6)=some z1:=by
   have:=g1;dsimp only at this;rw[QbW]at this;exact this
  obtain⟨v,sl,so,hv,hr,b0⟩:=QgW n6 a5 u1;have a0:a1[0]? = some (.string k):=at_of_take hk (j:=0) oN;have cj:∀j,j<6->w.cell? ⟨b,o+i*7+1+j,none⟩=(Qji v sl so)[j]?:=λj I=>by
   rw[<-at_of_take hv I,<-hc (1+j) oM,bH (o+i*7)]
  exact⟨(k,v,sl,so),⟨(hc 0 oN).trans a0,wk⟩,⟨cj 0 oN,cj 1 oN,cj 2 oN,cj 3 oN,cj 4 oN,cj 5 oN⟩,hr,by
   have h1:=Qwl hd;have h2:=Qwl e1;rw[hx]at h1;simp only[Rows.uptoBulk]at h1;show QcI v<=_;omega⟩
 obtain⟨f,Z⟩:=skolem hE;refine⟨s,(List.range N).map λj=>⟨(f j).1,(f j).2.1,(f j).2.2.1,(f j).2.2.2⟩,by rw[aq,bB];exact hc,?_⟩;refine⟨⟨⟨b,o,by rw[aq,bB];exact hs,QcR _,λj u I=>?_⟩,λx hx=>?_,by rw[aq,bB];omega⟩,λx hx=>?_⟩
 ·have b3:j<N*7:=by
   have:=(ai.1 I).1;rw[QcR,aq,bB]at this;exact this
  obtain⟨i,c,rfl,a4⟩:∃i c,j=i*7+c/\c<7:=⟨j/7,j%7,oM,oM⟩;have hi:i<N:=oM
  have hx:((List.range N).map λj=>(⟨(f j).1,(f j).2.1,(f j).2.2.1,(f j).2.2.2⟩:LE))[i]? = some ⟨(f i).1,(f i).2.1,(f i).2.2.1,(f i).2.2.2⟩:=by
   rw[au,List.getElem?_range hi];rfl
  rw[Qc4 hx c a4]at I;obtain⟨⟨a0,-⟩,e,-⟩:=Z i hi;rw[<-bH];have a2:c=0\/c=1\/c=2\/c=3\/c=4\/c=5\/c=6:=oM
  rcases a2 with rfl|rfl|rfl|rfl|rfl|rfl|rfl
  .exact a0.trans I
  .exact e.c0.trans I
  .exact e.c1.trans I
  .exact e.c2.trans I
  .exact e.c3.trans I
  .exact e.c4.trans I
  exact e.c5.trans I
 ·obtain ⟨j,I⟩:=bz hx
  obtain⟨h1,rfl⟩:=QaY I;exact⟨(Z j h1).2.2.1,(Z j h1).1.2⟩
 obtain⟨j,I⟩:=bz hx;obtain⟨h1,rfl⟩:=QaY I;exact(Z j h1).2.2.2
end
end Go.Proofs.YtdiecmkpbadgjaaGreatDoor
