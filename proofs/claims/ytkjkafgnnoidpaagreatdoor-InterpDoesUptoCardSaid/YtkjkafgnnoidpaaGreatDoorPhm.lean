/- What the theorem needs of the texts TrodM: no condition of its own. -/
import Derived.Test.YtkjkafgnnoidpaaGreatDoorPhl
set_option linter.unusedVariables false
set_option linter.unusedSimpArgs false
set_option linter.unnecessarySimpa false
set_option maxRecDepth 100000
set_option maxHeartbeats 1000000
namespace Go.Proofs.YtkjkafgnnoidpaaGreatDoor
open Go.Proofs.Tryz
open Go.RowKit
section
variable{H : Type}{enc : TypeId × Value -> H}{w : World}{held : Bool}
theorem Qfh:prog.cellsOf 31=19:=by kernel_rfl
theorem QhD:prog.bytesOf 31=264:=by kernel_rfl
theorem Qpn{z:List (DataW H)}{a b c e f:Nat}{d1 d2 R U N:DataW H}(h1:z[1]? = some d1)(h2:z[2]? = some d2)(I:z[5]? = some R)(J:z[7]? = some U)(D:z[8]? = some N)
  (b1:Rows.uptoBulk d1=a+1) (b2:Rows.uptoBulk d2=b+1) (X:c<=Rows.uptoBulk R) (Y:e<=Rows.uptoBulk U) (Z:f+1<=Rows.uptoBulk N):7+a+b+c+e+f<=Rows.uptoBulkAll z:=by
 match z,h1,h2,I,J,D with
 | x0 :: x1 :: x2 :: x3 :: x4 :: x5 :: x6 :: x7 :: x8 :: r,h1,h2,I,J,D=>
   simp at h1 h2 I J D;subst h1 h2 I J D;have:=Qdd x0;have:=Qdd x3;have:=Qdd x4;have:=Qdd x6;simp only[Rows.uptoBulkAll];omega
theorem Qfv:∀(l:List Mu) (es:List (DataW H)),l.length=es.length->(∀(i:Nat) m d,l[i]? = some m->es[i]? = some d->QcF m<=Rows.uptoBulk d)->Qdr l<=Rows.uptoBulkAll es
 |[],[],_,_=>by simp[Qdr]
 |[],d::es,h,_=>by cases h
 |a::xs,[],h,_=>by cases h
 | a :: xs,d :: es,h,k=>by
   have h1:=k 0 a d rfl rfl;have h2:=Qfv xs es (by simpa using h) λi z d' D hd=>k (i+1) z d' (by simpa using D) (by simpa using hd)
   simp only[Qdr,Rows.uptoBulkAll];omega
theorem Qm5:∀(z:Nat) {cs:List Value} {x:DataW H × List MemPlace},tr enc prog w held z 31 cs=some x->WOk prog 31 x.1->∃m c,cs=QaE m c/\RMu w (Lt w) m c/\QcF m<=Rows.uptoBulk x.1:=by
 intro z
 induction z using Nat.strongRecOn with
 |ind z ih=>
 intro cs x h hw;obtain⟨n,ds,rfl,hl,hx,N⟩:=Qd0 underlying31 h hw;rw[Qfh]at hl;obtain⟨y0,h0,-,-⟩:=N 0 _ rfl;obtain⟨y1,h1,-,d1⟩:=N 1 _ rfl;obtain⟨y2,h2,-,d2⟩:=N 2 _ rfl;obtain⟨y3,h3,-,-⟩:=N 3 _ rfl;obtain⟨y4,h4,-,-⟩:=N 4 _ rfl;obtain⟨y5,h5,w5,d5⟩:=N 5 _ rfl;obtain⟨y6,h6,-,-⟩:=N 6 _ rfl;obtain⟨y7,h7,w7,d7⟩:=N 7 _ rfl;obtain⟨y8,h8,w8,d8⟩:=N 8 _ rfl;obtain⟨kd,b6,c6⟩:=Qh1 (k:=.i64) (by kernel_rfl) h0;obtain⟨k,hk,wk,bk⟩:=QiN (by kernel_rfl) h1;obtain⟨tk,c1,c4,c0⟩:=QiN (by kernel_rfl) h2;obtain⟨i,hi,wi⟩:=Qh1 (k:=.i64) (by kernel_rfl) h3;obtain⟨a6,b3⟩:=Qmh (by kernel_rfl) h4;obtain⟨a9,Z⟩:=Qmh (by kernel_rfl) h6;have g5:tr enc prog w held n 28 ((cs.drop 5).take 6)=some y5:=by
  have:=h5;dsimp only at this;rw[Qa7]at this;exact this
 have g7:tr enc prog w held n 28 ((cs.drop 12).take 6)=some y7:=by
  have:=h7;dsimp only at this;rw[Qa7]at this;exact this
 obtain⟨b4,s1,s2,X,Y,b0⟩:=Qhe n g5 w5;obtain⟨v,s3,s4,hv,rv,cv⟩:=Qhe n g7 w7;obtain⟨n8,J,s,b,o,es,c9,c3,hs,d0,b7,b8,he⟩:=Qef (e:=31) (C:=19) (B:=264) (by kernel_rfl) Qfh QhD (by decide) h8 w8;have hE:∀i,i<J->∃a:Mu × MuS,(MuC w b (o+i*19) a.1 a.2/\RMu w (Lt w) a.1 a.2)/\∃d,es[i]? = some d/\QcF a.1<=Rows.uptoBulk d:=λi hi=>by
  obtain⟨d3,y,c8,hc,ht,hw,hd⟩:=he i hi;obtain⟨m,c,rfl,hr,hm⟩:=ih n8 (by omega) ht hw;refine⟨(m,c),⟨λj u hu=>?_,hr⟩,_,hd,hm⟩;have I:j<19:=(ah.1 hu).1;exact(hc j I).trans hu
 obtain⟨f,R⟩:=skolem hE;have c7:cs=QaE (.mk kd k tk i a6 b4 a9 v ((List.range J).map λj=>(f j).1)) ⟨s1,s2,s3,s4,s⟩:=by
  refine bK λj=>?_
  by_cases I:j<19
  ·have a0:cs[0]? = some (.int .i64 kd):=at_of_take b6 (j:=0) (by decide)
   have a1:cs[1]? = some (.string k):=at_of_take hk (j:=0) (by decide);have a2:cs[2]? = some (.string tk):=at_of_take c1 (j:=0) (by decide);have a3:cs[3]? = some (.int .i64 i):=at_of_take hi (j:=0) (by decide);have a4:cs[4]? = some (.bool a6):=at_of_take b3 (j:=0) (by decide);have U:∀j,j<6->cs[5+j]? =(QeR b4 s1 s2)[j]?:=λj I=>at_of_take X I
   have b5:cs[11]? = some (.bool a9):=at_of_take Z (j:=0) (by decide);have D:∀j,j<6->cs[12+j]? =(QeR v s3 s4)[j]?:=λj I=>at_of_take hv I
   have c2:cs[18]? = some (.slice s.a J s.c):=at_of_take c3 (j:=0) (by decide)
   match j,I with
   |0,_=>exact a0
   |1,_=>exact a1
   |2,_=>exact a2
   |3,_=>exact a3
   |4,_=>exact a4
   |5,_=>exact U 0 (by decide)
   |6,_=>exact U 1 (by decide)
   |7,_=>exact U 2 (by decide)
   |8,_=>exact U 3 (by decide)
   |9,_=>exact U 4 (by decide)
   |10,_=>exact U 5 (by decide)
   |11,_=>exact b5
   |12,_=>exact D 0 (by decide)
   |13,_=>exact D 1 (by decide)
   |14,_=>exact D 2 (by decide)
   |15,_=>exact D 3 (by decide)
   |16,_=>exact D 4 (by decide)
   |17,_=>exact D 5 (by decide)
   |18,_=>rw[c2];simp[QaE,Mu.l]
   |j+19,I=>omega
  rw[aQ (by omega),aQ (by simp[QaE];omega)]
 refine⟨_,_,c7,?_,?_⟩
 ·refine .mk b o (fun j=>(f j).2) Y rv (by rw [ao,bD];exact hs) (fun j m I=>?_) (fun j m I=>?_) wk c4 c6 wi (by rw [ao,bD];omega)
  .obtain ⟨h1,rfl⟩:=QaP I;exact(R j h1).1.1
  obtain⟨h1,rfl⟩:=QaP I;exact(R j h1).1.2
 have hL:=Qfv ((List.range J).map λj=>(f j).1) es (by simp[b7]) λi m d hi hd=>by
  obtain⟨h1,rfl⟩:=QaP hi;obtain⟨d',h2,h3⟩:=(R i h1).2;rw[hd]at h2;injection h2 with h2;rw[h2];exact h3
 have h9:=Qpn d1 d2 d5 d7 d8 bk c0 b0 cv (f:=Qdr ((List.range J).map λj=>(f j).1)) (by omega);rw[hx];simp only[QcF,Rows.uptoBulk];omega
structure Qsd(w:World)(F:Nat->Prop)(s:Sl)(l:List Mu):Prop where
 ex:∃(b o:Nat) (c:Nat->MuS),QeM F s l.length b o/\(∀j m,l[j]? = some m->MuC w b (o+j*19) m (c j))/\∀j m,l[j]? = some m->RMu w F m (c j)
 few:Qdr l<=1099000
 len:l.length*264<=140737488355328
theorem muts_of_trod{J:Nat}{cs:List Value}{x:DataW H × List MemPlace}(h:tr enc prog w held J 29 cs=some x)(U:WOk prog 29 x.1)(hB:Rows.uptoBulk x.1<=1048576) :
  ∃(s:Sl) (l:List Mu),cs=[.slice s.a l.length s.c]/\Qsd w (Lt w) s l:=by
 obtain⟨n,z,s,b,o,es,-,N,hs,Z,R,a0,he⟩:=Qef (e:=31) (C:=19) (B:=264) underlying29 Qfh QhD (by decide) h U;have hE:∀i,i<z->∃a:Mu × MuS,(MuC w b (o+i*19) a.1 a.2/\RMu w (Lt w) a.1 a.2)/\∃d,es[i]? = some d/\QcF a.1<=Rows.uptoBulk d:=λi hi=>by
  obtain⟨a1,y,X,N,Y,U,hd⟩:=he i hi;obtain⟨m,c,rfl,hr,hm⟩:=Qm5 n Y U;refine⟨(m,c),⟨λj u hu=>?_,hr⟩,_,hd,hm⟩;have I:j<19:=(ah.1 hu).1;exact(N j I).trans hu
 obtain⟨f,D⟩:=skolem hE;refine⟨s,(List.range z).map λj=>(f j).1,by simpa using N,⟨b,o,λj=>(f j).2,by rw[ao,bD];exact hs,λj m I=>?_,λj m I=>?_⟩,?_,by rw[ao,bD];omega⟩
 .obtain ⟨h1,rfl⟩:=QaP I;exact(D j h1).1.1
 .obtain ⟨h1,rfl⟩:=QaP I;exact(D j h1).1.2
 have hL:=Qfv ((List.range z).map λj=>(f j).1) es (by simp[R]) λi m d hi hd=>by
  obtain⟨h1,rfl⟩:=QaP hi;obtain⟨d',h2,h3⟩:=(D i h1).2;rw[hd]at h2;injection h2 with h2;rw[h2];exact h3
 omega
end
end Go.Proofs.YtkjkafgnnoidpaaGreatDoor
