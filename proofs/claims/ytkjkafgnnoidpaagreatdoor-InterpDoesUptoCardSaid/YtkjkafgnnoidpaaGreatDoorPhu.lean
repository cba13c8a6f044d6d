/- What the theorem needs of the texts TrodE: no condition of its own. -/
import Derived.Test.YtkjkafgnnoidpaaGreatDoorPhl
set_option linter.unusedVariables false
set_option linter.unusedSimpArgs false
set_option linter.unnecessarySimpa false
set_option maxRecDepth 100000
namespace Go.Proofs.YtkjkafgnnoidpaaGreatDoor
open Go.Proofs.Tryz
open Go.RowKit
section
variable{H : Type}{enc : TypeId × Value -> H}{w : World}{held : Bool}
theorem esB_of_trod{U:Nat}{cs:List Value}{x:DataW H × List MemPlace}(h:tr enc prog w held U 22 cs=some x)(hw:WOk prog 22 x.1)(hB:Rows.uptoBulk x.1<=1048576):∃(s:Sl) (xs:List LE),cs=[.slice s.a xs.length s.c]/\(ES w (Lt w) s xs/\∀y∈xs,Qb4 y.v<=1100000):=by
 obtain⟨n,D,s,b,o,es,-,Y,hs,a6,a3,a9,he⟩:=Qef (e:=70) (C:=7) (B:=104) underlying22 Qja Qi9 (by decide) h hw;have hE:∀i,i<D->∃a:ByteArray × Val × Sl × Sl,(w.cell? ⟨b,o+i*7,none⟩=some (.string a.1)/\a.1.size<=maxLen)/\QaL w b (o+i*7+1) a.2.1 a.2.2.1 a.2.2.2/\RV w (Lt w) a.2.1 a.2.2.1 a.2.2.2/\Qb4 a.2.1<=1100000:=λi hi=>by
  obtain⟨X,y,a4,Y,ht,hw,hd⟩:=he i hi;obtain⟨n6,ds,rfl,hl,J,I⟩:=Qd0 underlying70 ht hw;obtain⟨z0,g0,-,-⟩:=I 0 _ rfl;obtain⟨z1,g1,u1,e1⟩:=I 1 _ rfl;obtain⟨k,hk,wk⟩:=Qp7 (by kernel_rfl) g0;have Z:tr enc prog w held n6 28 ((X.drop 1).take 6)=some z1:=by
   have:=g1;dsimp only at this;rw[Qa7]at this;exact this
  obtain⟨v,sl,so,hv,hr,a2⟩:=Qhe n6 Z u1;have a0:X[0]? = some (.string k):=at_of_take hk (j:=0) (by decide);have N:∀j,j<6->w.cell? ⟨b,o+i*7+1+j,none⟩=(QeR v sl so)[j]?:=λj z=>by
   rw[<-at_of_take hv z,<-Y (1+j) (by omega),bH (o+i*7)]
  exact⟨(k,v,sl,so),⟨(Y 0 (by decide)).trans a0,wk⟩,⟨N 0 (by decide),N 1 (by decide),N 2 (by decide),N 3 (by decide),N 4 (by decide),N 5 (by decide)⟩,hr,by
   have h1:=Qu2 hd;have h2:=Qu2 e1;rw[J]at h1;simp only[Rows.uptoBulk]at h1;show Qb4 v<=_;omega⟩
 obtain⟨f,I⟩:=skolem hE;refine⟨s,(List.range D).map λj=>⟨(f j).1,(f j).2.1,(f j).2.2.1,(f j).2.2.2⟩,by rw[ao,bD];exact Y,?_⟩;refine⟨⟨⟨b,o,by rw[ao,bD];exact hs,Qcy _,λj u z=>?_⟩,λx J=>?_,by rw[ao,bD];omega⟩,λx J=>?_⟩
 ·have a5:j<D*7:=by
   have:=(ah.1 z).1;rw[Qcy,ao,bD]at this;exact this
  obtain⟨i,c,rfl,a1⟩:∃i c,j=i*7+c/\c<7:=⟨j/7,j%7,by omega,by omega⟩;have hi:i<D:=by omega
  have J:((List.range D).map λj=>(⟨(f j).1,(f j).2.1,(f j).2.2.1,(f j).2.2.2⟩:LE))[i]? = some ⟨(f i).1,(f i).2.1,(f i).2.2.1,(f i).2.2.2⟩:=by
   rw[aq,List.getElem?_range hi];rfl
  rw[QcK J c a1]at z;obtain⟨⟨a0,-⟩,e,-⟩:=I i hi;rw[<-bH];have R:c=0\/c=1\/c=2\/c=3\/c=4\/c=5\/c=6:=by omega
  rcases R with rfl|rfl|rfl|rfl|rfl|rfl|rfl
  .exact a0.trans z
  .exact e.c0.trans z
  .exact e.c1.trans z
  .exact e.c2.trans z
  .exact e.c3.trans z
  .exact e.c4.trans z
  exact e.c5.trans z
 ·obtain ⟨j,z⟩:=bv J
  obtain⟨h1,rfl⟩:=QaP z;exact⟨(I j h1).2.2.1,(I j h1).1.2⟩
 obtain⟨j,z⟩:=bv J;obtain⟨h1,rfl⟩:=QaP z;exact(I j h1).2.2.2
end
end Go.Proofs.YtkjkafgnnoidpaaGreatDoor
