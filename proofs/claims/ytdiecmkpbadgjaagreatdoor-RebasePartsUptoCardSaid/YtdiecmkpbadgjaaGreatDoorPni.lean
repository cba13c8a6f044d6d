/- What the theorem needs of the texts TrodR: no condition of its own. -/
import Derived.Test.YtdiecmkpbadgjaaGreatDoorPng
set_option linter.unusedVariables false
set_option linter.unusedSimpArgs false
set_option linter.unnecessarySimpa false
set_option maxRecDepth 100000
namespace Go.Proofs.YtdiecmkpbadgjaaGreatDoor
open Go.Proofs.Tryz
open Go.RowKit
section
variable{H : Type}{enc : TypeId × Value -> H}{w : World}{held : Bool}
theorem QiT{P:Program}{t:TypeId}{I:Nat}{cs:List Value}{x:DataW H × List MemPlace}(N:P.underlying t=some .string)(h:tr enc P w held I t cs=some x):∃s,cs=[.string s]/\s.size<=maxLen/\Rows.uptoBulk x.1=s.size+1:=by
 obtain⟨s,h1,rfl,h2⟩:=DataW.trod_string N h;refine⟨s,h1,h2,?_⟩;show s.data.toList.length+1=_;rw[aP];rfl
theorem Qjl:∀(l:List Val) (es:List (DataW H)),l.length=es.length->(∀(i:Nat) v d,l[i]? = some v->es[i]? = some d->QcI v<=Rows.uptoBulk d)->QdR l<=Rows.uptoBulkAll es
 |[],[],_,_=>by simp[QdR]
 |[],d::es,h,_=>by cases h
 |a::xs,[],h,_=>by cases h
 | a :: xs,d :: es,h,k=>by
   have h1:=k 0 a d rfl rfl;have h2:=Qjl xs es (by simpa using h) λi I d' N hd=>k (i+1) I d' (by simpa using N) (by simpa using hd)
   simp only[QdR,Rows.uptoBulkAll];omega
theorem Qjm:∀(ks:List ByteArray) (l:List Val) (es:List (DataW H)),ks.length=es.length->l.length=es.length->(∀(i:Nat) q v d,ks[i]? = some q->l[i]? = some v->es[i]? = some d->q.size+2+QcI v<=Rows.uptoBulk d)->QfL ks l<=Rows.uptoBulkAll es
 |ks,[],es,_,_,_=>by simp[QfL]
 |[],a::xs,es,h,h2,_=>by rw[<-h]at h2;cases h2
 |q::ks,a::xs,[],h,_,_=>by cases h
 | q :: ks,a :: xs,d :: es,h,h',k=>by
   have h1:=k 0 q a d rfl rfl rfl;have h2:=Qjm ks xs es (by simpa using h) (by simpa using h') λi q' N d' I Z hd=>k (i+1) q' N d' (by simpa using I) (by simpa using Z) (by simpa using hd)
   simp only[QfL,Rows.uptoBulkAll,List.headD_cons,List.tail_cons];omega
theorem Qsn{I:List (DataW H)}{n:Nat}{d3 d4 d5:DataW H}(h3:I[3]? = some d3)(N:I[4]? = some d4)(Z:I[5]? = some d5)(hn:n<=Rows.uptoBulk d3+Rows.uptoBulk d4+Rows.uptoBulk d5):3+n<=Rows.uptoBulkAll I:=by
 match I,h3,N,Z with
 | a :: b :: c :: x :: y :: z :: r,h3,N,Z=>
   simp at h3 N Z;subst h3 N Z;have:=Qc3 a;have:=Qc3 b;have:=Qc3 c;simp only[Rows.uptoBulkAll];omega
theorem QmG{I:List (DataW H)}{n:Nat}{Z d1:DataW H}(N:I[0]? = some Z)(h1:I[1]? = some d1)(hn:n<=Rows.uptoBulk Z+Rows.uptoBulk d1):n<=Rows.uptoBulkAll I:=by
 match I,N,h1 with
 | a :: b :: r,N,h1=>
   simp at N h1;subst N h1;simp only[Rows.uptoBulkAll];omega
theorem QgW:∀(Z:Nat) {cs:List Value} {x:DataW H × List MemPlace},tr enc prog w held Z 34 cs=some x->WOk prog 34 x.1->∃v sl so,cs=Qji v sl so/\RV w (Lt w) v sl so/\QcI v<=Rows.uptoBulk x.1:=by
 intro Z
 induction Z using Nat.strongRecOn with
 |ind Z ih=>
 intro cs x h hw;obtain⟨n,ds,rfl,hl,hx,N⟩:=QcD underlying34 h hw;rw[QbW]at hl;obtain⟨c0,c1,c2,c3,c4,c5,rfl⟩:=Qso hl;obtain⟨y0,h0,-,-⟩:=N 0 _ rfl;obtain⟨y1,h1,-,-⟩:=N 1 _ rfl;obtain⟨y2,h2,-,-⟩:=N 2 _ rfl;obtain⟨y3,h3,-,d3⟩:=N 3 _ rfl;obtain⟨y4,h4,w4,d4⟩:=N 4 _ rfl;obtain⟨y5,h5,w5,d5⟩:=N 5 _ rfl;obtain⟨k,hk,wk⟩:=QkA (k:=.i64) kM h0;obtain⟨bb,hb⟩:=QqE kM h1;obtain⟨i,hi,wi⟩:=QkA (k:=.i64) kM h2;obtain⟨t,ht,wt,b3⟩:=QiT kM h3;obtain⟨n4,a1,s,b,o,a6,c6,a7,hs,d0,b7,b4,he⟩:=Qc1 (e:=34) (C:=6) (B:=88) kM QbW Qjh oN h4 w4;obtain⟨n5,I,s',b',o',a3,c7,a4,a9,b8,a5,b5,b0⟩:=Qc1 (e:=124) (C:=7) (B:=104) kM Qh9 Qh7 oN h5 w5;have k0:∀c:Value,([c0,c1,c2,c3,c4,c5].drop 0).take 1=[c]->c0=c:=λc h=>by simpa using h
 have k1:∀c:Value,([c0,c1,c2,c3,c4,c5].drop 1).take 1=[c]->c1=c:=λc h=>by simpa using h
 have k2:∀c:Value,([c0,c1,c2,c3,c4,c5].drop 2).take 1=[c]->c2=c:=λc h=>by simpa using h
 have k3:∀c:Value,([c0,c1,c2,c3,c4,c5].drop 3).take 1=[c]->c3=c:=λc h=>by simpa using h
 have k4:∀c:Value,([c0,c1,c2,c3,c4,c5].drop 4).take 1=[c]->c4=c:=λc h=>by simpa using h
 have k5:∀c:Value,([c0,c1,c2,c3,c4,c5].drop 5).take 1=[c]->c5=c:=λc h=>by simpa using h
 obtain rfl:=k0 _ hk;obtain rfl:=k1 _ hb;obtain rfl:=k2 _ hi;obtain rfl:=k3 _ ht;obtain rfl:=k4 _ a7;obtain rfl:=k5 _ a4;clear k0 k1 k2 k3 k4 k5 hk hb hi ht a7 a4 h0 h1 h2 h3 h4 h5 N;have hE:∀i,i<a1->∃a:Val × Sl × Sl,(QaV w b (o+i*6) a.1 a.2.1 a.2.2/\RV w (Lt w) a.1 a.2.1 a.2.2)/\∃d,a6[i]? = some d/\QcI a.1<=Rows.uptoBulk d:=λi hi=>by
  obtain⟨a2,y,c9,hc,ht,hw,hd⟩:=he i hi;obtain⟨v,sl,so,rfl,hr,hv⟩:=ih n4 oM ht hw;exact⟨(v,sl,so),⟨⟨hc 0 oN,hc 1 oN,hc 2 oN,hc 3 oN,hc 4 oN,hc 5 oN⟩,hr⟩,_,hd,hv⟩
 have hM:∀i,i<I->∃a:ByteArray × Val × Sl × Sl,((w.cell? ⟨b',o'+i*7,none⟩=some (.string a.1)/\a.1.size<=maxLen)/\QaV w b' (o'+i*7+1) a.2.1 a.2.2.1 a.2.2.2/\RV w (Lt w) a.2.1 a.2.2.1 a.2.2.2)/\∃d,a3[i]? = some d/\a.1.size+2+QcI a.2.1<=Rows.uptoBulk d:=λi hi=>by
  obtain⟨a2,y,b9,hc,ht,hw,hd⟩:=b0 i hi;obtain⟨n6,c8,rfl,hl,b6,N⟩:=QcD underlying124 ht hw;obtain⟨z0,g0,-,e0⟩:=N 0 _ rfl;obtain⟨z1,g1,u1,e1⟩:=N 1 _ rfl;obtain⟨k,hk,wk,bk⟩:=QiT kM g0;have a8:tr enc prog w held n6 34 ((a2.drop 1).take 6)=some z1:=by
   have:=g1;dsimp only at this;rw[QbW]at this;exact this
  obtain⟨v,sl,so,hv,hr,d6⟩:=ih n6 oM a8 u1;have a0:a2[0]? = some (.string k):=at_of_take hk (j:=0) oN;have cj:∀j,j<6->w.cell? ⟨b',o'+i*7+1+j,none⟩=(Qji v sl so)[j]?:=λj hj=>by
   rw[<-at_of_take hv hj,<-hc (1+j) oM,bH (o'+i*7)]
  refine⟨(k,v,sl,so),⟨⟨(hc 0 oN).trans a0,wk⟩,⟨cj 0 oN,cj 1 oN,cj 2 oN,cj 3 oN,cj 4 oN,cj 5 oN⟩,hr⟩,_,hd,?_⟩;rw[b6];have:=QmG (n:=k.size+1+QcI v) e0 e1 oM;simp only[Rows.uptoBulk];omega
 obtain⟨f,N⟩:=skolem hE;obtain⟨g,hg⟩:=skolem hM;refine⟨.mk k bb i t ((List.range a1).map λj=>(f j).1) ((List.range I).map λj=>(g j).1) ((List.range I).map λj=>(g j).2.1),s,s',by simp[Qji,Val.kind,Val.b,Val.i,Val.t,Val.l,Val.ok],?_,?_⟩
 ·refine .mk b o b' o' (fun j=>((f j).2.1,(f j).2.2)) (fun j=>((g j).2.2.1,(g j).2.2.2)) (by rw [aq,bB];exact hs) (by rw [aq,bB];exact a9) sM (fun j d hj=>?_) (fun j d hj=>?_) (fun j d hj=>?_) (fun j d hj=>?_) (fun j d hj=>?_) wk wi wt (by rw [aq,bB];omega) (by rw [aq,bB];omega)
  .obtain ⟨h1,rfl⟩:=QaY hj;exact(N j h1).1.1
  .obtain ⟨h1,rfl⟩:=QaY hj;exact(N j h1).1.2
  .obtain ⟨h1,rfl⟩:=QaY hj;exact(hg j h1).1.1
  .obtain ⟨h1,rfl⟩:=QaY hj;exact(hg j h1).1.2.1
  obtain⟨h1,rfl⟩:=QaY hj;exact(hg j h1).1.2.2
 have hL:=Qjl ((List.range a1).map λj=>(f j).1) a6 (by simp[b7]) λi v d hi hd=>by
  obtain⟨h1,rfl⟩:=QaY hi;obtain⟨d',h2,h3⟩:=(N i h1).2;rw[hd]at h2;injection h2 with h2;rw[h2];exact h3
 have hO:=Qjm ((List.range I).map λj=>(g j).1) ((List.range I).map λj=>(g j).2.1) a3 (by simp[a5]) (by simp[a5]) λi q v d hq hi hd=>by
  obtain⟨h1,rfl⟩:=QaY hi;obtain⟨-,rfl⟩:=QaY hq;obtain⟨d',h2,h3⟩:=(hg i h1).2;rw[hd]at h2;injection h2 with h2;rw[h2];exact h3
 have h6:=Qsn (n:=t.size+3+QdR ((List.range a1).map λj=>(f j).1)+QfL ((List.range I).map λj=>(g j).1) ((List.range I).map λj=>(g j).2.1)) d3 d4 d5 oM;rw[hx];simp only[QcI,Rows.uptoBulk];omega
end
end Go.Proofs.YtdiecmkpbadgjaaGreatDoor
