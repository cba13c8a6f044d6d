/- What the theorem needs of the texts TrodR: no condition of its own. -/
import Derived.Test.YtkjkafgnnoidpaaGreatDoorPhh
set_option linter.unusedVariables false
set_option linter.unusedSimpArgs false
set_option linter.unnecessarySimpa false
set_option maxRecDepth 100000
namespace Go.Proofs.YtkjkafgnnoidpaaGreatDoor
open Go.Proofs.Tryz
open Go.RowKit
section
variable{H : Type}{enc : TypeId × Value -> H}{w : World}{held : Bool}
theorem QiN{P:Program}{t:TypeId}{z:Nat}{cs:List Value}{x:DataW H × List MemPlace}(D:P.underlying t=some .string)(h:tr enc P w held z t cs=some x):∃s,cs=[.string s]/\s.size<=maxLen/\Rows.uptoBulk x.1=s.size+1:=by
 obtain⟨s,h1,rfl,h2⟩:=DataW.trod_string D h;refine⟨s,h1,h2,?_⟩;show s.data.toList.length+1=_;rw[aH];rfl
theorem Qjd:∀(l:List Val) (es:List (DataW H)),l.length=es.length->(∀(i:Nat) v d,l[i]? = some v->es[i]? = some d->Qb4 v<=Rows.uptoBulk d)->Qd4 l<=Rows.uptoBulkAll es
 |[],[],_,_=>by simp[Qd4]
 |[],d::es,h,_=>by cases h
 |a::xs,[],h,_=>by cases h
 | a :: xs,d :: es,h,k=>by
   have h1:=k 0 a d rfl rfl;have h2:=Qjd xs es (by simpa using h) λi z d' D hd=>k (i+1) z d' (by simpa using D) (by simpa using hd)
   simp only[Qd4,Rows.uptoBulkAll];omega
theorem Qje:∀(ks:List ByteArray) (l:List Val) (es:List (DataW H)),ks.length=es.length->l.length=es.length->(∀(i:Nat) q v d,ks[i]? = some q->l[i]? = some v->es[i]? = some d->q.size+2+Qb4 v<=Rows.uptoBulk d)->QfR ks l<=Rows.uptoBulkAll es
 |ks,[],es,_,_,_=>by simp[QfR]
 |[],a::xs,es,h,h2,_=>by rw[<-h]at h2;cases h2
 |q::ks,a::xs,[],h,_,_=>by cases h
 | q :: ks,a :: xs,d :: es,h,h',k=>by
   have h1:=k 0 q a d rfl rfl rfl;have h2:=Qje ks xs es (by simpa using h) (by simpa using h') λi I z d' D J hd=>k (i+1) I z d' (by simpa using D) (by simpa using J) (by simpa using hd)
   simp only[QfR,Rows.uptoBulkAll,List.headD_cons,List.tail_cons];omega
theorem QrG{D:List (DataW H)}{n:Nat}{X R U:DataW H}(I:D[3]? = some X)(N:D[4]? = some R)(J:D[5]? = some U)(Y:n<=Rows.uptoBulk X+Rows.uptoBulk R+Rows.uptoBulk U):3+n<=Rows.uptoBulkAll D:=by
 match D,I,N,J with
 | a :: b :: c :: x :: y :: z :: r,I,N,J=>
   simp at I N J;subst I N J;have:=Qdd a;have:=Qdd b;have:=Qdd c;simp only[Rows.uptoBulkAll];omega
theorem QrK{D:List (DataW H)}{n:Nat}{I d1:DataW H}(z:D[0]? = some I)(h1:D[1]? = some d1)(J:n<=Rows.uptoBulk I+Rows.uptoBulk d1):n<=Rows.uptoBulkAll D:=by
 match D,z,h1 with
 | a :: b :: r,z,h1=>
   simp at z h1;subst z h1;simp only[Rows.uptoBulkAll];omega
theorem Qhe:∀(D:Nat) {cs:List Value} {x:DataW H × List MemPlace},tr enc prog w held D 28 cs=some x->WOk prog 28 x.1->∃v sl so,cs=QeR v sl so/\RV w (Lt w) v sl so/\Qb4 v<=Rows.uptoBulk x.1:=by
 intro D
 induction D using Nat.strongRecOn with
 |ind D ih=>
 intro cs x h hw;obtain⟨n,ds,rfl,hl,hx,I⟩:=Qd0 underlying28 h hw;rw[Qa7]at hl;obtain⟨Y,c1,Z,X,U,c5,rfl⟩:=Qmd hl;obtain⟨y0,h0,-,-⟩:=I 0 _ rfl;obtain⟨y1,h1,-,-⟩:=I 1 _ rfl;obtain⟨y2,h2,-,-⟩:=I 2 _ rfl;obtain⟨y3,h3,-,d3⟩:=I 3 _ rfl;obtain⟨y4,h4,w4,d4⟩:=I 4 _ rfl;obtain⟨y5,h5,w5,d5⟩:=I 5 _ rfl;obtain⟨k,hk,wk⟩:=Qh1 (k:=.i64) (by kernel_rfl) h0;obtain⟨bb,hb⟩:=Qmh (by kernel_rfl) h1;obtain⟨i,hi,wi⟩:=Qh1 (k:=.i64) (by kernel_rfl) h2;obtain⟨t,ht,wt,b3⟩:=QiN (by kernel_rfl) h3;obtain⟨n4,R,s,b,o,a4,d6,a2,hs,c9,b8,b4,he⟩:=Qef (e:=28) (C:=6) (B:=88) (by kernel_rfl) Qa7 QfB (by decide) h4 w4;obtain⟨n5,z,s',b',o',a6,d8,a5,a9,c6,a3,b5,b7⟩:=Qef (e:=121) (C:=7) (B:=104) (by kernel_rfl) QeQ QeP (by decide) h5 w5;have k0:∀c:Value,([Y,c1,Z,X,U,c5].drop 0).take 1=[c]->Y=c:=λc h=>by simpa using h
 have k1:∀c:Value,([Y,c1,Z,X,U,c5].drop 1).take 1=[c]->c1=c:=λc h=>by simpa using h
 have k2:∀c:Value,([Y,c1,Z,X,U,c5].drop 2).take 1=[c]->Z=c:=λc h=>by simpa using h
 have k3:∀c:Value,([Y,c1,Z,X,U,c5].drop 3).take 1=[c]->X=c:=λc h=>by simpa using h
 have k4:∀c:Value,([Y,c1,Z,X,U,c5].drop 4).take 1=[c]->U=c:=λc h=>by simpa using h
 have k5:∀c:Value,([Y,c1,Z,X,U,c5].drop 5).take 1=[c]->c5=c:=λc h=>by simpa using h
 obtain rfl:=k0 _ hk;obtain rfl:=k1 _ hb;obtain rfl:=k2 _ hi;obtain rfl:=k3 _ ht;obtain rfl:=k4 _ a2;obtain rfl:=k5 _ a5;clear k0 k1 k2 k3 k4 k5 hk hb hi ht a2 a5 h0 h1 h2 h3 h4 h5 I;have hE:∀i,i<R->∃a:Val × Sl × Sl,(QaL w b (o+i*6) a.1 a.2.1 a.2.2/\RV w (Lt w) a.1 a.2.1 a.2.2)/\∃d,a4[i]? = some d/\Qb4 a.1<=Rows.uptoBulk d:=λi hi=>by
  obtain⟨a1,y,d7,N,ht,hw,hd⟩:=he i hi;obtain⟨v,sl,so,rfl,hr,hv⟩:=ih n4 (by omega) ht hw;exact⟨(v,sl,so),⟨⟨N 0 (by decide),N 1 (by decide),N 2 (by decide),N 3 (by decide),N 4 (by decide),N 5 (by decide)⟩,hr⟩,_,hd,hv⟩
 have hM:∀i,i<z->∃a:ByteArray × Val × Sl × Sl,((w.cell? ⟨b',o'+i*7,none⟩=some (.string a.1)/\a.1.size<=maxLen)/\QaL w b' (o'+i*7+1) a.2.1 a.2.2.1 a.2.2.2/\RV w (Lt w) a.2.1 a.2.2.1 a.2.2.2)/\∃d,a6[i]? = some d/\a.1.size+2+Qb4 a.2.1<=Rows.uptoBulk d:=λi hi=>by
  obtain⟨a1,y,c8,N,ht,hw,hd⟩:=b7 i hi;obtain⟨n6,d0,rfl,hl,b6,I⟩:=Qd0 underlying121 ht hw;obtain⟨z0,g0,-,e0⟩:=I 0 _ rfl;obtain⟨z1,g1,u1,e1⟩:=I 1 _ rfl;obtain⟨k,hk,wk,bk⟩:=QiN (by kernel_rfl) g0;have b0:tr enc prog w held n6 28 ((a1.drop 1).take 6)=some z1:=by
   have:=g1;dsimp only at this;rw[Qa7]at this;exact this
  obtain⟨v,sl,so,hv,hr,c7⟩:=ih n6 (by omega) b0 u1;have a0:a1[0]? = some (.string k):=at_of_take hk (j:=0) (by decide);have cj:∀j,j<6->w.cell? ⟨b',o'+i*7+1+j,none⟩=(QeR v sl so)[j]?:=λj J=>by
   rw[<-at_of_take hv J,<-N (1+j) (by omega),bH (o'+i*7)]
  refine⟨(k,v,sl,so),⟨⟨(N 0 (by decide)).trans a0,wk⟩,⟨cj 0 (by decide),cj 1 (by decide),cj 2 (by decide),cj 3 (by decide),cj 4 (by decide),cj 5 (by decide)⟩,hr⟩,_,hd,?_⟩;rw[b6];have:=QrK (n:=k.size+1+Qb4 v) e0 e1 (by omega);simp only[Rows.uptoBulk];omega
 obtain⟨f,I⟩:=skolem hE;obtain⟨g,hg⟩:=skolem hM;refine⟨.mk k bb i t ((List.range R).map λj=>(f j).1) ((List.range z).map λj=>(g j).1) ((List.range z).map λj=>(g j).2.1),s,s',by simp[QeR,Val.kind,Val.b,Val.i,Val.t,Val.l,Val.ok],?_,?_⟩
 ·refine .mk b o b' o' (fun j=>((f j).2.1,(f j).2.2)) (fun j=>((g j).2.2.1,(g j).2.2.2)) (by rw [ao,bD];exact hs) (by rw [ao,bD];exact a9) (by simp) (fun j d J=>?_) (fun j d J=>?_) (fun j d J=>?_) (fun j d J=>?_) (fun j d J=>?_) wk wi wt (by rw [ao,bD];omega) (by rw [ao,bD];omega)
  .obtain ⟨h1,rfl⟩:=QaP J;exact(I j h1).1.1
  .obtain ⟨h1,rfl⟩:=QaP J;exact(I j h1).1.2
  .obtain ⟨h1,rfl⟩:=QaP J;exact(hg j h1).1.1
  .obtain ⟨h1,rfl⟩:=QaP J;exact(hg j h1).1.2.1
  obtain⟨h1,rfl⟩:=QaP J;exact(hg j h1).1.2.2
 have hL:=Qjd ((List.range R).map λj=>(f j).1) a4 (by simp[b8]) λi v d hi hd=>by
  obtain⟨h1,rfl⟩:=QaP hi;obtain⟨d',h2,h3⟩:=(I i h1).2;rw[hd]at h2;injection h2 with h2;rw[h2];exact h3
 have hO:=Qje ((List.range z).map λj=>(g j).1) ((List.range z).map λj=>(g j).2.1) a6 (by simp[a3]) (by simp[a3]) λi q v d hq hi hd=>by
  obtain⟨h1,rfl⟩:=QaP hi;obtain⟨-,rfl⟩:=QaP hq;obtain⟨d',h2,h3⟩:=(hg i h1).2;rw[hd]at h2;injection h2 with h2;rw[h2];exact h3
 have h6:=QrG (n:=t.size+3+Qd4 ((List.range R).map λj=>(f j).1)+QfR ((List.range z).map λj=>(g j).1) ((List.range z).map λj=>(g j).2.1)) d3 d4 d5 (by omega);rw[hx];simp only[Qb4,Rows.uptoBulk];omega
end
end Go.Proofs.YtkjkafgnnoidpaaGreatDoor
