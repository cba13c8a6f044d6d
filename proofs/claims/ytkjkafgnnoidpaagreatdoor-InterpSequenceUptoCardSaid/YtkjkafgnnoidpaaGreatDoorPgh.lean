/- What the theorem needs of the texts MuV, BackP, KnP13, WV, CntV, MutZ, OvCom0, OvPre2, OvPreW, CmpW, CmpI, CmpA, LogP, Det, VSame, OvCom, OvComW, PutV, OvBack, OvBackW, OvX: no condition of its own. -/
import Derived.Test.YtkjkafgnnoidpaaGreatDoorPgg
set_option linter.unusedVariables false
set_option linter.unusedSimpArgs false
set_option linter.unnecessarySimpa false
set_option maxRecDepth 100000
set_option maxHeartbeats 4000000
namespace Go.Proofs.YtkjkafgnnoidpaaGreatDoor
open Go.Proofs.Tryz
open Go.RowKit
theorem Qdf{P:ByteArray->Bool}:∀{M:List Ent} (k:ByteArray),Qam (M.filter λe=>P e.1) k=if P k then Qam M k else none
 |[],k=>by simp[Qam]
 | e :: r,k=>by
   have D:=Qdf (P:=P) (M:=r) k;rw[bA];by_cases z:e.1=k
   ·subst z
    cases I:P e.1 with
    |true=>simp[Qam]
    |false=>rw[ef (by simp),D,I];simp
   cases I:P e.1 with
   | true=>
     rw[em rfl,Qam,ef z,D];congr 1;rw[Qam,ef z]
   | false=>
     rw[ef (by simp),D];congr 1;rw[Qam,ef z]
def QeT(M:List Ent)(ks:List ByteArray):List Ent:=ks.foldl Qb2 M
variable{ks:List ByteArray}
theorem Qjk:∀{M:List Ent},Sorted M->Sorted (QeT M ks):=by
 induction ks with
 |nil=>exactλh=>h
 |cons k r ih=>exactλh=>ih (QaR h k)
theorem Qon:∀{M:List Ent},Sorted M->∀x,(x∈ks->Qam (QeT M ks) x=none)/\(x∉ks->Qam (QeT M ks) x=Qam M x):=by
 induction ks with
 |nil=>intro M h x;exact⟨λh=>absurd h (by simp),λ_=>rfl⟩
 | cons k r ih=>
   intro M h x;obtain⟨I,D⟩:=ih (QaR h k) x;refine⟨λz=>?_,λz=>?_⟩
   ·show Qam (QeT (Qb2 M k) r) x=_
    by_cases h1:x∈r
    .exact I h1
    have h2:x=k:=(aF.1 z).resolve_right h1;rw[D h1,QcL _ _ _ h,em h2]
   show Qam (QeT (Qb2 M k) r) x=_;rw[D λh1=>z (aI _ h1),QcL _ _ _ h,ef (λe:x=k=>z (by rw[e];exact aw ..))]
variable{M:List Ent}
theorem QdS(h:Sorted M)(p:ByteArray):Sorted (Qg6 M p):=h.sublist (cg ..)
theorem QmI(h:Sorted M)(p:ByteArray):QeT M (Qfm (Qaj p) M)=Qg6 M p:=
 QdW (Qjk h) (QdS h p) λx=>by
  obtain⟨I,D⟩:=Qon (ks:=Qfm (Qaj p) M) h x;unfold Qg6;rw[Qdf (P:=λk=>!Qaj p k)];by_cases h1:x∈Qfm (Qaj p) M
  .rw [I h1,ef (by simp[((QgV h).1 h1).1])]
  rw[D h1];cases J:Qaj p x with
  |false=>rw[em (by rfl)]
  | true=>
    rw[ef (by simp)];cases z:Qam M x with
    |none=>rfl
    |some v=>exact absurd ((QgV h).2 ⟨J,by rw[z];rfl⟩) h1
theorem QhO{M:List Ent}{f t:ByteArray}:∀{L:List Ent} {e:Ent},Qb5 M f t L=0->e∈L->Qbd (QaF f t e.1)=0
 |[],e,_,h=>by cases h
 | x :: r,e,h,z=>by
   rw[Qb5]at h;by_cases h1:Qbd (QaF f t x.1)=0
   ·rw [ef (by simp [h1])] at h
    rcases aF.1 z with rfl|z
    .exact h1
    split at h
    .cases h
    exact QhO h z
   rw[em h1]at h;cases h
theorem QhN{M:List Ent}{f t:ByteArray}:∀{L:List Ent} {j:Nat},Qb5 M f t (L.take j)=0->Qb5 M f t L=Qb5 M f t (L.drop j)
 |L,0,_=>rfl
 |[],j+1,_=>by simp
 | x :: r,j+1,h=>by
   rw[aT,Qb5]at h;rw[Qb5,List.drop_succ_cons];by_cases h1:Qbd (QaF f t x.1)=0
   ·rw [ef (by simp [h1])] at h ⊢
    split at h
    .cases h
    rename_i h2;rw[ef h2];exact QhN h
   rw[em h1]at h;cases h
variable{j:Nat}
theorem Qrg{f t:ByteArray}{L:List Ent}{e:Ent}(h:Qb5 M f t (L.take j)=0)(z:L[j]? = some e) :
  Qb5 M f t L=if Qbd (QaF f t e.1)≠0 then 8 else if(Qam M (QaF f t e.1)).isSome && !Qaj f (QaF f t e.1)then 13 else Qb5 M f t (L.drop (j+1)):=by
 obtain⟨h1,h2⟩:=ah.1 z;rw[QhN h,aD h1,h2,Qb5]
theorem QhP{M:List Ent}{f t:ByteArray}:∀{L:List Ent} {j:Nat} {e:Ent},Qb5 M f t (L.take j)=0->L[j]? = some e->Qbd (QaF f t e.1)=0->((Qam M (QaF f t e.1)).isSome && !Qaj f (QaF f t e.1))=false->Qb5 M f t (L.take (j+1))=0
 |[],j,e,_,he,_,_=>by simp at he
 | x :: r,0,e,_,he,h1,h2=>by
   have:x=e:=by simpa using he
   subst this;rw[aT,cx,Qb5,ef (by simp[h1]),ef (by simp[h2]),Qb5]
 | x :: r,j+1,e,h,he,h1,h2=>by
   rw[aT,Qb5]at h ⊢;by_cases z:Qbd (QaF f t x.1)=0
   ·rw [ef (by simp [z])] at h ⊢
    split at h
    .cases h
    rename_i h4;rw[ef h4];exact QhP h (by simpa using he) h1 h2
   rw[em z]at h;cases h
theorem Qjw(M:List Ent)(p:ByteArray):Qfm (Qaj p) M=(Qca M p).map Prod.fst:=rfl
theorem Qhf(M:List Ent)(k:ByteArray)(v:Val):(setMu M k v).2.length<=M.length+1:=by
 unfold setMu;split
 .exact cE _
 split
 .exact cE _
 have:=QcN M k v;show(Qbq M k v).length<=_;omega
theorem Qke(P:Ent->Bool):∀M:List Ent,(M.filter λe=>!P e).length+(M.filter P).length<=M.length
 |[]=>by simp
 | e :: r=>by
   have z:=Qke P r;rw[bA,bA];cases D:P e
   .rw [em (by rfl),ef (by simp)];simp only[List.length_cons];omega
   rw[ef (by simp),em rfl];simp only[List.length_cons];omega
theorem QjK(M:List Ent)(f t:ByteArray):(QcA M f t).2.length<=M.length:=by
 unfold QcA;split
 .exact an _
 have h1:=Qea ((Qca M f).map λe=>(QaF f t e.1,e.2)) (Qg6 M f);rw[aq]at h1;exact aj h1 (Qke (λe=>Qaj f e.1) M)
theorem Qmb(M:List Ent)(k:ByteArray)(l:List Val)(x:Val):(Qma M k l x).2.length<=M.length+1:=by
 unfold Qma;split
 .exact cE _
 exact Qhf ..
theorem Qlo(M:List Ent)(k:ByteArray)(n b:Int):(Qqx M k n b).2.length<=M.length+1:=by
 unfold Qqx;split
 .exact cE _
 exact Qhf ..
theorem Qol(M:List Ent)(k:ByteArray):(Qb2 M k).length<=M.length:=(Qba M k).length_le
theorem Qns(n:Nat):∀(m:Mu) (M:List Ent),SizeOf.sizeOf m<=n->(stepM m M).2.length<=M.length+QaT m:=by
 induction n with
 |zero=>intro m M h;have:=Mu.Qb7 m;omega
 | succ n ih=>
   intro m M h;obtain⟨R,k,J,i,z,L,D,v,l⟩:=m;simp only[Mu.mk.sizeOf_spec]at h;have hs:∀(l:List Mu) (M:List Ent),SizeOf.sizeOf l<=n->(Qks l M).2.length<=M.length+QaC l:=by
    intro l
    induction l with
    |nil=>intro M _;simp[Qks,QaC]
    | cons a r ihr=>
      intro M I;simp only[List.cons.sizeOf_spec]at I;unfold Qks QaC;split
      .show M.length<=_;omega
      have h1:=ih a M (by omega);have h2:=ihr (stepM a M).2 (by omega);omega
   unfold stepM QaT;have h1:=Qhf M k v;have h2:=Qol M k;have N:=QjK M k J;have U:=hs l M (by omega);split
   .omega
   split
   ·split
    .show (Qb2 M k).length<=_;omega
    show M.length<=_;omega
   split
   ·unfold Qeo
    split
    ·rename_i x _
     split
     .show M.length<=_;omega
     have:=Qlo M k x.i i;omega
    have:=Qlo M k 0 i;omega
   split
   ·split
    ·split
     .omega
     show(Qb2 M k).length<=_;omega
    show M.length<=_;omega
   split
   ·unfold Qqk
    split
    ·rename_i y _
     split
     .show M.length<=_;omega
     have:=Qmb M k y.l v;omega
    have:=Qmb M k [] v;omega
   split
   .omega
   split
   ·split
    ·split
     .show M.length<=_;omega
     omega
    show M.length<=_;omega
   show M.length<=_;omega
theorem Qp2(m:Mu)(M:List Ent):(stepM m M).2.length<=M.length+QaT m:=Qns _ m M (an _)
abbrev fr:=@Decidable.not_not
theorem Qeb{x:ByteArray}:∀{l A:List Ent},(∀e∈l,e.1≠x)->Qam (QaJ A l) x=Qam A x
 |[],A,_=>rfl
 | a :: r,A,h=>by
   show Qam (QaJ (Qbq A a.1 a.2) r) x=_;rw[Qeb λe z=>h e (aI _ z),Qdg,ef λe=>h a (aw ..) e.symm]
theorem Qg2{x:ByteArray}{v:Val}:∀{l A:List Ent},(∃e∈l,e.1=x)->(∀e∈l,e.1=x->e.2=v)->Qam (QaJ A l) x=some v
 |[],A,⟨e,z,_⟩,_=>by cases z
 | a :: r,A,⟨e,z,hx⟩,h=>by
   show Qam (QaJ (Qbq A a.1 a.2) r) x=_;by_cases D:∃e∈r,e.1=x
   .exact Qg2 D λe z=>h e (aI _ z)
   rcases aF.1 z with rfl|z
   .rw [Qeb λy I e=>D ⟨y,I,e⟩,Qdg,em hx.symm,h e (aw ..) hx]
   exact absurd ⟨e,z,hx⟩ D
theorem Qeg(f t k:ByteArray):(QaF f t k).data.toList=t.data.toList++k.data.toList.drop f.data.toList.length:=by
 unfold QaF;rw[ByteArray.data_append,dh,dv,Array.toList_extract,List.extract_eq_take_drop];have h1:f.data.toList.length=f.size:=aH;have h2:k.data.toList.length=k.size:=aH;rw[h1,bj];rw[au,h2];exact an _
theorem QeN(p k:ByteArray):Qaj p k=p.data.toList.isPrefixOf k.data.toList:=by
 unfold Qaj;rw[eB,eB]
theorem Qd1(f t k:ByteArray):Qaj t (QaF f t k)=true:=by
 rw[QeN,Qeg,bU];exact dJ _ _
theorem Qcv{f t k:ByteArray}(h:Qaj f k=true):QaF t f (QaF f t k)=k:=by
 apply dO;apply cZ.1;rw[Qeg,Qeg,dZ];rw[QeN,bU]at h;obtain⟨r,z⟩:=h;rw[<-z,dZ]
theorem Qfq{M:List Ent}{f t:ByteArray}:∀{L:List Ent},(∀e∈L,Qbd (QaF f t e.1)=0/\((Qam M (QaF f t e.1)).isSome && !Qaj f (QaF f t e.1))=false)->Qb5 M f t L=0
 |[],_=>rfl
 | e :: r,h=>by
   obtain⟨h1,h2⟩:=h e (aw ..);rw[Qb5,ef (by simp[h1]),h2,ef (by simp)];exact Qfq λx z=>h x (aI _ z)
theorem QbC{p:ByteArray}{e:Ent}:e∈Qca M p↔e∈M/\Qaj p e.1=true:=by unfold Qca;rw[bX]
theorem Qes(l:List Ent):∀{es:List Ent},Sorted es->Sorted (QaJ es l):=by
 induction l with
 |nil=>exactλh=>h
 |cons a l ih=>exactλh=>ih (QaS h a.1 a.2)
theorem Qm4(Y:OkM M){f t:ByteArray}(b5:∀e∈M,Qaj t e.1=false)(h:(QcA M f t).1=0):QcA (QcA M f t).2 t f=(0,M):=by
 have h0:Qb5 M f t (Qca M f)=0:=by
  unfold QcA at h;split at h
  .exact h
  rename_i hh;exact fr.1 hh
 obtain⟨T,hT⟩:∃T,(Qca M f).map (λe=>(QaF f t e.1,e.2))=T:=⟨_,rfl⟩;have a3:∀{e:Ent},e∈T↔∃x∈Qca M f,(QaF f t x.1,x.2)=e:=by intro e;rw[<-hT,bM]
 obtain⟨M2,h2⟩:∃M2,QaJ (Qg6 M f) T=M2:=⟨_,rfl⟩;have hm:QcA M f t=(0,M2):=by unfold QcA;rw[ef (by simp[h0]),hT,h2]
 have s2:Sorted M2:=by rw[<-h2];exact Qes _ (QdS Y.sorted f)
 have a6:∀x∈Qca M f,Qam M2 (QaF f t x.1)=some x.2:=λx I=>by
  rw[<-h2];refine Qg2 ⟨_,a3.2 ⟨x,I,rfl⟩,rfl⟩ λe J D=>?_
  obtain⟨y,U,rfl⟩:=a3.1 J;have h1:=congrArg (QaF t f) D;rw[Qcv (QbC.1 U).2,Qcv (QbC.1 I).2]at h1;have a:=QcM Y.sorted (QbC.1 U).1;have b:=QcM Y.sorted (QbC.1 I).1;rw[h1,b]at a;injection a with a;exact a.symm
 have R:∀k,(∀x∈Qca M f,QaF f t x.1≠k)->Qam M2 k=if Qaj f k then none else Qam M k:=λk D=>by
  rw[<-h2,Qeb λe J=>by obtain⟨y,U,rfl⟩:=a3.1 J;exact D y U];unfold Qg6;rw[Qdf (P:=λk=>!Qaj f k)];cases Qaj f k<;>rfl
 have X:∀k,Qaj t k=true->Qam M k=none:=λk D=>by
  cases N:Qam M k with
  |none=>rfl
  |some v=>have:=b5 _ (Qcg N);rw[show((k,v):Ent).1=k from rfl,D]at this;cases this
 have ex:∀(P:Ent->Prop) (L:List Ent),(∃x∈L,P x)\/∀x∈L,¬P x:=λP L=>by
  by_cases h:∃x∈L,P x
  .exact .inl h
  exact .inr λx I hp=>h ⟨x,I,hp⟩
 have a0:∀e∈Qca M2 t,∃x∈Qca M f,QaF f t x.1=e.1/\x.2=e.2:=λe J=>by
  obtain⟨J,hb⟩:=QbC.1 J;have N:=QcM s2 J;rcases ex (λx=>QaF f t x.1=e.1) (Qca M f)with⟨x,I,D⟩|D
  ·have h1:=a6 x I
   rw[D,N]at h1;injection h1 with h1;exact⟨x,I,D,h1.symm⟩
  rw[R _ D,X _ hb]at N;split at N<;>cases N
 rw[hm];show QcA M2 t f=_;have hz:Qb5 M2 t f (Qca M2 t)=0:=Qfq λe J=>by
  obtain⟨x,I,D,-⟩:=a0 e J;obtain⟨a7,a5⟩:=QbC.1 I;rw[<-D,Qcv a5];refine⟨(Y.ok x a7).1,?_⟩;cases N:Qam M2 x.1 with
  |none=>rfl
  | some v=>
    rcases ex (λy=>QaF f t y.1=x.1) (Qca M f)with⟨y,U,Z⟩|Z
    .rw [<-Z,Qd1];rfl
    rw[R _ Z,em a5]at N;cases N
 unfold QcA;rw[ef (by simp[hz])];refine ee rfl ?_;show QaJ (Qg6 M2 t) ((Qca M2 t).map λe=>(QaF t f e.1,e.2))=M;refine QdW (Qes _ (QdS s2 t)) Y.sorted λk=>?_
 rcases ex (λe=>QaF t f e.1=k) (Qca M2 t)with⟨e,J,D⟩|D
 ·obtain ⟨x,I,a1,hv⟩:=a0 e J
  have b6:x.1=k:=by rw[<-D,<-a1,Qcv (QbC.1 I).2]
  have a2:=QcM Y.sorted (QbC.1 I).1;rw[b6]at a2;rw[a2];refine Qg2 ⟨_,bM.2 ⟨e,J,rfl⟩,D⟩ λe' a9 b4=>?_
  obtain⟨y,U,rfl⟩:=bM.1 a9;obtain⟨z,a4,b0,a8⟩:=a0 y U;have b3:z.1=k:=by
   have h1:QaF t f y.1=k:=b4;rw[<-h1,<-b0,Qcv (QbC.1 a4).2]
  have h3:=QcM Y.sorted (QbC.1 a4).1;rw[b3,a2]at h3;injection h3 with h3;show y.2=x.2;rw[<-a8];exact h3.symm
 rw[Qeb λe J=>by obtain⟨y,U,rfl⟩:=bM.1 J;exact D y U];unfold Qg6;rw[Qdf (P:=λk=>!Qaj t k)];cases hb:Qaj t k with
 |true=>rw[X k hb];rfl
 | false=>
   show Qam M2 k=_;rw[R k λx I a1=>by rw[<-a1,Qd1]at hb;cases hb];split
   ·rename_i hf
    cases N:Qam M k with
    |none=>rfl
    | some v=>
      have I:((k,v):Ent)∈Qca M f:=QbC.2 ⟨Qcg N,hf⟩;have h1:((QaF f t k,v):Ent)∈M2:=Qcg (a6 (k,v) I);have h2:Qaj t ((QaF f t k,v):Ent).1=true:=Qd1 f t k;exact absurd (show QaF t f ((QaF f t k,v):Ent).1=k from Qcv hf) (D (QaF f t k,v) (QbC.2 ⟨h1,h2⟩))
   rfl
abbrev Qch(f t:ByteArray):Mu:=.mk 6 f t 0 false zeroV false zeroV []
theorem Qg9(M:List Ent)(f t:ByteArray):runM M (Qch f t)=if QbE (Qch f t)≠0 then(QbE (Qch f t),M)else QcA M f t:=rfl
theorem QiA(f t:ByteArray):QbE (Qch f t)=if Qf8 f&&Qf8 t then 0 else 8:=by
 have D:Qbv 6 f t 0 false zeroV false zeroV 0=true:=by unfold Qbv;rfl
 unfold QbE;rw[ef (by rw[QaT,QaC];decide),QaW];rw[show(([]:List Mu).length)=0 from rfl,D];have z:QfU 6 f t false=(Qf8 f&&Qf8 t):=by unfold QfU;rw[em rfl]
 rw[z];cases I:(Qf8 f&&Qf8 t)with
 |false=>rfl
 |true=>rfl
theorem Qth(J:OkM M){f t:ByteArray}(z:∀e∈M,Qaj t e.1=false)(h:(runM M (Qch f t)).1=0):runM (runM M (Qch f t)).2 (Qch t f)=(0,M):=by
 cases I:(Qf8 f&&Qf8 t)with
 |false=>rw[Qg9,QiA,I]at h;cases h
 | true=>
   have D:(Qf8 t&&Qf8 f)=true:=by rw[Bool.and_comm];exact I
   have R:runM M (Qch f t)=QcA M f t:=by rw[Qg9,QiA,I,ef (by simp)]
   have N:∀L,runM L (Qch t f)=QcA L t f:=λL=>by rw[Qg9,QiA,D,ef (by simp)]
   rw[R]at h ⊢;rw[N];exact Qm4 J z h
abbrev kAi:ByteArray:=⟨#[97,47,49]⟩
abbrev kB1:ByteArray:=⟨#[98,47,49]⟩
abbrev kL1:ByteArray:=⟨#[108]⟩
abbrev kX1:ByteArray:=⟨#[120]⟩
abbrev kY1:ByteArray:=⟨#[121]⟩
abbrev kAs:ByteArray:=⟨#[97,47]⟩
abbrev kBs:ByteArray:=⟨#[98,47]⟩
variable{q:Nat}
theorem Qph{n:Int}(z:q<=64):QbN (Qbs n) q=0:=by
 rw[Qbs,QbN];rw[show QbD 3 false n ByteArray.empty ([]:List Val).length ([]:List ByteArray).length=false by simp[QbD]];rw[ef (by simp),ef (by omega)];rfl
theorem Qil{n:Int}(z : -9223372036854775808<=n)(h1:n<=9223372036854775807):Qbw (Qbs n)=0:=by
 have D:=Lib.itoa_length_le n z h1;unfold Qbw;rw[ef (by simp[Qph (n:=n) (q:=1) (by decide)]),ef (by rw[Qbs,Qbp];decide),ef];rw[Qbs,Qdy,ef (by decide),em rfl];omega
theorem Qr9(n:Int):wfV (Qbs n):=by unfold Qbs wfV;exact⟨rfl,by unfold Qkk;trivial,by unfold Qkk;trivial⟩
theorem Qr2{n:Int}(z : -9223372036854775808<=n)(h1:n<=9223372036854775807):okV (Qbs n):=⟨Qr9 n,Qil z h1⟩
theorem Qr3{l:List Int}(h:∀n∈l,-9223372036854775808<=n/\n<=9223372036854775807)(R:l.length<=40):okV (Qf2 (l.map Qbs)):=by
 have L:∀{l:List Int},Qbz (l.map Qbs) 2=0:=by
  intro l
  induction l with
  |nil=>rw[bp,Qbz]
  |cons a r ih=>rw[aS,Qbz,Qph (by decide),ef (by simp)];exact ih
 have hd:∀{l:List Int},Qa8 (l.map Qbs)<=1:=by
  intro l
  induction l with
  |nil=>rw[bp,Qa8];omega
  | cons a r ih=>
    rw[aS,Qa8];have:Qbp (Qbs a)=1:=by rw[Qbs,Qbp];rfl
    omega
 have D:∀{l:List Int},(∀n∈l,-9223372036854775808<=n/\n<=9223372036854775807)->Qek (l.map Qbs)<=21*l.length:=by
  intro l
  induction l with
  |nil=>intro _;rw[bp,Qek];omega
  | cons a r ih=>
    intro h;have h1:=h a (aw ..);have h2:=ih λn D=>h n (aI _ D)
    have J:Qdy (Qbs a)=(Lib.itoa a).length:=by rw[Qbs,Qdy,ef (by decide),em rfl]
    have N:=Lib.itoa_length_le a h1.1 h1.2;rw[aS,Qek,az];omega
 refine⟨?_,?_⟩
 ·unfold Qf2 wfV
  refine⟨rfl,QiP λj d z=>?_,by unfold Qkk;trivial⟩;rw[ao]at z;cases I:l[j]? with
  |none=>rw[I]at z;cases z
  |some n=>rw[I]at z;injection z with z;rw[<-z];exact Qr9 n
 have h1:QbN (Qf2 (l.map Qbs)) 1=0:=by
  rw[Qf2,QbN];rw[show QbD 5 false 0 ByteArray.empty (l.map Qbs).length ([]:List ByteArray).length=false by simp[QbD]];rw[ef (by simp),ef (by omega),ef (by decide),em rfl];exact L
 have h2:Qbp (Qf2 (l.map Qbs))<=2:=by rw[Qf2,Qbp,em rfl];have:=hd (l:=l);omega
 have J:Qdy (Qf2 (l.map Qbs))<=1024:=by
  rw[Qf2,Qdy,ef (by decide),ef (by decide),ef (by decide),em rfl,aq];have:=D h;omega
 unfold Qbw;rw[ef (by simp[h1]),ef (by omega),ef (by omega)]
abbrev Qhr(k:ByteArray)(n:Int):Mu:=.mk 3 k ByteArray.empty n false zeroV false zeroV []
abbrev QqG(k:ByteArray):Mu:=.mk 2 k ByteArray.empty 0 false zeroV false zeroV []
abbrev Qoc(k:ByteArray)(v:Val):Mu:=.mk 4 k ByteArray.empty 0 true v false zeroV []
abbrev Qkx(k:ByteArray)(v:Val):Mu:=.mk 5 k ByteArray.empty 0 false zeroV false v []
theorem Qgj{D:Int}{k I:ByteArray}{i:Int}{had:Bool}{was:Val}{z:Bool}{v:Val}(R:Qbv D k I i had was z v 0=true)(N:QfU D k I had=true)(J:had=true->Qbw was=0)(L:Qhx D z=true->Qbw v=0):QbE (.mk D k I i had was z v [])=0:=by
 unfold QbE;rw[ef (by rw[QaT,QaC];decide),QaW,show(([]:List Mu).length)=0 from rfl,R,N];rw[ef (by simp),ef (by decide),ef (by simp)];rw[ef (λh=>by simp only[Bool.and_eq_true]at h;rw[J h.1]at h;simp at h),ef (λh=>by simp only[Bool.and_eq_true]at h;rw[L h.1]at h;simp at h),Qce]
theorem Qe6:Qel zeroV=true:=by decide
theorem Qiz{k:ByteArray}{z:Int}{had:Bool}(h:Qbd k=0)(D:z≠6)(I:k.size≠0):QfU z k ByteArray.empty had=true:=by
 unfold QfU;rw[ef D,ef (λe=>I e.2),h];rfl
theorem Qra{k:ByteArray}{n:Int}(h:Qbd k=0)(z:k.size≠0):QbE (Qhr k n)=0:=
 Qgj (by simp[Qbv,Qe6]) (Qiz h (by decide) z) (λh=>by cases h) (λh=>by simp[Qhx]at h)
theorem Qq9{k:ByteArray}(h:Qbd k=0)(z:k.size≠0):QbE (QqG k)=0:=
 Qgj (by simp[Qbv,Qe6]) (Qiz h (by decide) z) (λh=>by cases h) (λh=>by simp[Qhx]at h)
theorem Qq8{k:ByteArray}{v:Val}(h:Qbd k=0)(D:k.size≠0)(z:Qbw v=0):QbE (Qoc k v)=0:=
 Qgj (by simp[Qbv,Qe6]) (Qiz h (by decide) D) (λ_=>z) (λh=>by simp[Qhx]at h)
theorem Qq5{k:ByteArray}{v:Val}(h:Qbd k=0)(D:k.size≠0)(z:Qbw v=0):QbE (Qkx k v)=0:=
 Qgj (by simp[Qbv,Qe6]) (Qiz h (by decide) D) (λh=>by cases h) (λ_=>z)
theorem QpO{k:ByteArray}{n:Int}(h:Qbd k=0)(z:k.size≠0):runM M (Qhr k n)=Qeo M k n:=by
 unfold runM;rw[ef (by simp[Qra h z]),stepM,ef (by decide),ef (by decide),em rfl]
theorem mA:Qbd kAi=0:=by decide +kernel
theorem mB:Qbd kB1=0:=by decide +kernel
theorem mL:Qbd kL1=0:=by decide +kernel
theorem mX:Qbd kX1=0:=by decide +kernel
theorem mY:Qbd kY1=0:=by decide +kernel
theorem QsC:klt kAi kL1=true:=by decide +kernel
theorem QsD:klt kAi kX1=true:=by decide +kernel
theorem QsE:klt kL1 kX1=true:=by decide +kernel
theorem Quh:klt kL1 kB1=false:=by decide +kernel
theorem Qui:klt kL1 kL1=false:=by decide +kernel
theorem Quj:klt kX1 kX1=false:=by decide +kernel
abbrev QaY(a:ByteArray)(v:List Val)(n:Int):List Ent:=[(a,Qbs 5),(kL1,Qf2 v),(kX1,Qbs n)]
theorem QtI:OkM (QaY kAi [] 1):=by
 refine⟨?_,λe z=>?_⟩
 ·unfold Sorted
  simp[QsC,QsD,QsE]
 simp only[List.mem_cons,List.not_mem_nil,or_false]at z;rcases z with rfl|rfl|rfl
 .exact ⟨mA,Qr2 (by decide) (by decide)⟩
 .exact ⟨mL,Qr3 (l:=[]) (by simp) (by simp)⟩
 exact⟨mX,Qr2 (by decide) (by decide)⟩
theorem QuE:kAi≠kX1:=by decide
theorem QuF:kL1≠kX1:=by decide
theorem QuD:kAi≠kL1:=by decide
theorem QsT:runM (QaY kAi [] 1) (Qhr kX1 2)=(0,QaY kAi [] 3):=by
 rw[QpO mX (by decide)];have D:Qam (QaY kAi [] 1) kX1=some (Qbs 1):=by simp[Qam,QuE,QuF]
 unfold Qeo;rw[D];show(if(3:Int)≠3 then _ else Qqx _ _ 1 2)=_;rw[ef (by simp)];unfold Qqx;rw[ef (by decide)];unfold setMu;have z:Qbw (QlO 3)=0:=Qil (n:=3) (by decide) (by decide);rw[ef (by simp[mX]),ef (by simp[z])];simp[Qbq,QsD,QsE,Quj];rfl
theorem QtO:runM (QaY kAi [] 3) (Qkx kL1 (Qbs 7))=(0,QaY kAi [Qbs 7] 3):=by
 unfold runM;rw[ef (by simp[Qq5 mL (by decide) (Qil (n:=7) (by decide) (by decide))]),stepM,ef (by decide),ef (by decide),ef (by decide),ef (by decide),em rfl];have D:Qam (QaY kAi [] 3) kL1=some (Qf2 []):=by simp[Qam,QuD]
 unfold Qqk;rw[D];show(if(5:Int)≠5 then _ else Qma _ _ [] _)=_;rw[ef (by simp)];unfold Qma;rw[ef (by simp)];unfold setMu;have z:Qbw (Qf2 [Qbs 7])=0:=(Qr3 (l:=[7]) (by simp) (by simp)).2;rw[ef (by simp[mL]),ef (by simp[z])];simp[Qbq,QsC,Qui]
theorem Quy:Qaj kAs kAi=true:=by rw[QeN];decide
theorem Quz:Qaj kAs kL1=false:=by rw[QeN];decide
theorem QuA:Qaj kAs kX1=false:=by rw[QeN];decide
theorem QtW:QaF kAs kBs kAi=kB1:=by
 apply dO;apply cZ.1;rw[Qeg];rfl
theorem Qut:runM (QaY kAi [Qbs 7] 3) (Qch kAs kBs)=(0,QaY kB1 [Qbs 7] 3):=by
 rw[Qg9,QiA];have J:(Qf8 kAs&&Qf8 kBs)=true:=by decide +kernel
 rw[J,em rfl,ef (by simp)];have I:Qca (QaY kAi [Qbs 7] 3) kAs=[(kAi,Qbs 5)]:=by unfold Qca;simp[Quy,Quz,QuA]
 have z:Qg6 (QaY kAi [Qbs 7] 3) kAs=[(kL1,Qf2 [Qbs 7]),(kX1,Qbs 3)]:=by unfold Qg6;simp[Quy,Quz,QuA]
 unfold QcA;rw[I,z];have L:Qb5 (QaY kAi [Qbs 7] 3) kAs kBs [(kAi,Qbs 5)]=0:=Qfq λe D=>by
  rw[br.1 D];show Qbd (QaF kAs kBs kAi)=0/\_;rw[QtW];refine⟨mB,?_⟩;have:Qam (QaY kAi [Qbs 7] 3) kB1=none:=by
   simp[Qam,show kAi≠kB1 by decide,show kL1≠kB1 by decide,show kX1≠kB1 by decide]
  rw[this];rfl
 rw[L,ef (by simp)];show(0,QaJ _ [(QaF kAs kBs kAi,Qbs 5)])=_;rw[QtW];simp[QaJ,Qbq,Quh,show kL1≠kB1 by decide]
theorem Qud:(runM (QaY kAi [] 1) (QqG kY1)).1=12:=by
 unfold runM;rw[ef (by simp[Qq9 mY (by decide)]),stepM,ef (by decide),em rfl];have z:Qam (QaY kAi [] 1) kY1=none:=by simp[Qam,show kAi≠kY1 by decide,show kL1≠kY1 by decide,show kX1≠kY1 by decide]
 rw[z];rfl
theorem Quc:(runM (QaY kAi [] 1) (Qoc kX1 (Qbs 2))).1=13:=by
 unfold runM;rw[ef (by simp[Qq8 mX (by decide) (Qil (n:=2) (by decide) (by decide))]),stepM,ef (by decide),ef (by decide),ef (by decide),em rfl];have D:Qam (QaY kAi [] 1) kX1=some (Qbs 1):=by simp[Qam,QuE,QuF]
 have z:asM (QaY kAi [] 1) kX1 true (Qbs 2)=false:=by
  unfold asM;rw[D];have:Qbo (Qbs 1) (Qbs 2)≠0:=by decide +kernel
  simp[this]
 rw[z];rfl
theorem Qug:(runM (QaY kAi [] 1) (Qhr kL1 1)).1=9:=by
 rw[QpO mL (by decide)];have z:Qam (QaY kAi [] 1) kL1=some (Qf2 []):=by simp[Qam,QuD]
 unfold Qeo;rw[z];rfl
open Go.Maps Go.Shelf
structure WV where
 v:Val
 sl:Sl
 so:Sl
def WV.cells(x:WV):List Value:=[.int .i64 x.v.kind,.bool x.v.b,.int .i64 x.v.i,.string x.v.t,.slice x.sl.a x.v.l.length x.sl.c,.slice x.so.a x.v.ok.length x.so.c]
def QbV(xs:List WV):List Value:=xs.flatMap WV.cells
theorem Qfl(x:WV)(xs:List WV):QbV (x::xs)=x.cells++QbV xs:=by simp[QbV]
theorem QoF(xs ys:List WV):QbV (xs++ys)=QbV xs++QbV ys:=by simp[QbV]
theorem QmN(xs:List WV)(y:WV):QbV (xs++[y])=QbV xs++y.cells:=by simp[QbV]
theorem WV.len(x:WV):x.cells.length=6:=rfl
theorem WV.one(x:WV):∀u∈x.cells,u.oneCell'=true:=by
 intro u hu;simp only[WV.cells,List.mem_cons,List.not_mem_nil,or_false]at hu;rcases hu with rfl|rfl|rfl|rfl|rfl|rfl<;>rfl
theorem QoG(xs:List WV):∀u∈QbV xs,u.oneCell'=true:=λu hu=>by
 obtain⟨x,-,z⟩:=ct.1 hu;exact x.one u z
theorem QeU(xs:List WV):(QbV xs).length=xs.length*6:=by
 induction xs with
 |nil=>rfl
 |cons x xs ih=>rw[Qfl,ai,ih,WV.len,az];omega
theorem Qin:∀{xs:List WV} {i:Nat} {x:WV},xs[i]? = some x->∀c,c<6->(QbV xs)[i*6+c]? = x.cells[c]?
 |[],i,x,h,_,_=>by simp at h
 | y :: ys,0,x,h,c,hc=>by
   simp at h;subst h;rw[Qfl,cG,aB,bm (by rw[WV.len];exact hc)]
 | y :: ys,i+1,x,h,c,hc=>by
   simp at h;rw[Qfl,aU (by rw[WV.len];omega),WV.len,show(i+1)*6+c-6=i*6+c from by omega];exact Qin h c hc
variable{w:World}{F:Nat->Prop}{s:Sl}
theorem Ql7{xs:List WV}(h:Rd w F 6 s xs.length (QbV xs)):∃b o,QeM F s xs.length b o/\∀j x,xs[j]? = some x->QaL w b (o+j*6) x.v x.sl x.so:=by
 obtain⟨b,o,h1,h2,D⟩:=h;refine⟨b,o,h1,λj x I=>?_⟩;have z:∀c,c<6->∀u,x.cells[c]? = some u->w.cell? ⟨b,o+j*6+c,none⟩=some u:=λc z u hu=>by
  rw[bF];exact D _ u (by rw[Qin I c z];exact hu)
 exact⟨z 0 (by decide) _ rfl,z 1 (by decide) _ rfl,z 2 (by decide) _ rfl,z 3 (by decide) _ rfl,z 4 (by decide) _ rfl,z 5 (by decide) _ rfl⟩
theorem QtQ{xs:List WV}{b o:Nat}(h:QeM F s xs.length b o)(J:∀j x,xs[j]? = some x->QaL w b (o+j*6) x.v x.sl x.so):Rd w F 6 s xs.length (QbV xs):=by
 refine⟨b,o,h,QeU xs,λp u hu=>?_⟩;have L:=(ah.1 hu).1;rw[QeU]at L;obtain⟨j,c,rfl,z⟩:∃j c,p=j*6+c/\c<6:=⟨p/6,p%6,by omega,by omega⟩;obtain⟨x,I⟩:∃x,xs[j]? = some x:=⟨_,ac (by omega)⟩;have e:=J _ _ I;rw[Qin I c z]at hu;rw[<-bF];have D:c=0\/c=1\/c=2\/c=3\/c=4\/c=5:=by omega
 rcases D with rfl|rfl|rfl|rfl|rfl|rfl
 .exact e.c0.trans hu
 .exact e.c1.trans hu
 .exact e.c2.trans hu
 .exact e.c3.trans hu
 .exact e.c4.trans hu
 exact e.c5.trans hu
def wl(l:List Val)(c:Nat->Sl × Sl):List WV:=l.mapIdx λj d=>⟨d,(c j).1,(c j).2⟩
theorem Qeu(l:List Val)(c:Nat->Sl × Sl):(wl l c).length=l.length:=by simp[wl]
theorem QuL(l:List Val)(c:Nat->Sl × Sl):(wl l c).map WV.v=l:=by
 unfold wl;apply bH;intro j;rw[ao,cX];cases l[j]?<;>rfl
theorem QrL{l:List Val}{c:Nat->Sl × Sl}{x:WV}(h:(wl l c)[j]? = some x):l[j]? = some x.v/\x.sl=(c j).1/\x.so=(c j).2:=by
 unfold wl at h;rw[cX]at h;cases z:l[j]? with
 |none=>rw[z]at h;cases h
 |some d=>rw[z]at h;cases h;exact⟨rfl,rfl,rfl⟩
def QcU:Val->List Val
 |.mk k _ _ _ l _ ov=>if k=5 then l else if k=6 then ov else[]
theorem QkH(v:Val):Qbp v=1+Qa8 (QcU v):=by
 obtain⟨k,b,i,t,l,J,I⟩:=v;unfold Qbp QcU;dsimp only;by_cases z:k=5
 .rw [em z,em z]
 rw[ef z,ef z];by_cases D:k=6
 .rw [em D,em D]
 rw[ef D,ef D,Qa8]
structure OW(w:World)(base n:Nat)(s:Sl)(xs:List WV):Prop where
 own:w.ownsRow base 28 6 (.slice s.a xs.length s.c) xs.length (QbV xs)
 vals:∀x∈xs,RV w (Lt n) x.v x.sl x.so
theorem OW.nil(w:World)(base n:Nat):OW w base n Sl.none []:=⟨World.ownsRow_nil _ _ _ _,λx h=>by simp at h⟩
variable{w':World}
theorem OW.ext{base n:Nat}{xs:List WV}(h:OW w base n s xs)(D:Ext w w')(I:n<=w):OW w' base n s xs:=
 ⟨Qae h.own (D.agree λb (h:Lt w.heap.size b)=>h) (λb z=>(Qaa h.own z).2),λx J=>(h.vals x J).agree (D.agree λb (z:b<n)=>ab z I)⟩
variable{s':Sl}
theorem OW.append{base n:Nat}{xs ys:List WV}(R:n<=base)(U:base<=w.heap.size)(h:OW w base n s xs)(L:∀y∈ys,RV w (Lt n) y.v y.sl y.so)
  (I:w'.ownsRow base 28 6 (.slice s'.a (xs.length+ys.length) s'.c) (xs.length+ys.length) (QbV xs++QbV ys)) (J:Wr w w' s.row):OW w' base n s' (xs++ys):=by
 have z:Agree (Lt n) w w':=J.agree (λi (hi:i<n)=>by omega) (λk N (hF:k<n)=>by have:=(Qaa h.own N).1;omega);refine⟨by rw[ai,QoF];exact I,λx D=>?_⟩;rcases aE.1 D with D|D
 .exact (h.vals x D).agree z
 exact(L x D).agree z
theorem QmG(s:ByteArray)(p:Nat):(Utf8.decode s p).2<=4:=by
 rw[Lib.decode_at];unfold Lib.decodeN
 repeat' split
 all_goals simp
theorem QmK(r:Nat):1<=(Lib.encodeRune (r:Int)).length:=by
 have:=Lib.runeCells_le (r:Int);rw[Lib.runeCells_length]at this;exact this.1
theorem Qng(r:Nat):1<=(Qcf r).length:=by
 unfold Qcf;split
 .exact QmK r
 split<;>simp
theorem QjZ(s:ByteArray):∀(f p:Nat),s.size<=p+f->Lib.validD (s.data.toList.drop p)=true->s.size-p<=4*(Qbf (Qa9 s f p)).length
 |0,p,h,_=>by omega
 | f+1,p,h,z=>by
   by_cases I:s.size<=p
   .omega
   have hs:s.data.toList.length=s.size:=aH;have D:s.data.toList.drop p≠[]:=λe=>by
    have:=congrArg List.length e;rw[au,hs]at this;simp at this;omega
   rw[Lib.validD_step _ D,Lib.decodeL_drop]at z;split at z
   .cases z
   rename_i hn;rw[dY]at z;have hd:Utf8.decode s p≠(65533,1):=λe=>hn (by rw[e];exact⟨rfl,rfl⟩)
   have h1:=Lib.width_pos s p;have L:=QmG s p;have N:=QjZ s f (p+(Utf8.decode s p).2) (by omega) z;rw[Qa9,ef I,ef hd];have J:(Qbf ((p,(Utf8.decode s p).1)::Qa9 s f (p+(Utf8.decode s p).2))).length=(Qcf (Utf8.decode s p).1).length+(Qbf (Qa9 s f (p+(Utf8.decode s p).2))).length:=by simp[Qbf]
   rw[J];have:=Qng (Utf8.decode s p).1;omega
theorem QjY{s:ByteArray}(h:Lib.validD s.data.toList=true):s.size+8<=4*(Qa6 s).size:=by
 have h1:=QjZ s s.size 0 (by omega) (by rw[dw];exact h);unfold Qa6;rw[em h];show s.size+8<=4*((Qb6 s).toArray.size);rw[bu];unfold Qb6 QbA;simp only[List.length_append,List.length_cons,List.length_nil];omega
theorem QqT(n:Int):1<=(Lib.itoa n).length:=by
 unfold Lib.itoa;have:∀u,1<=(Lib.decDigits u).length:=λu=>by
  rw[Lib.decDigits_length];unfold Lib.nDigits
  repeat' split
  all_goals omega
 split
 .rw [az];omega
 exact this _
mutual
theorem Qie:∀(v:Val) (q:Nat),wfV v->QbN v q=0->cntV v<=7*Qdy v
 | .mk k b i t l ok ov,q,hw,h=>by
   obtain⟨X,Y,ho⟩:=hw;rw[QbN]at h;split at h
   .cases h
   rename_i hodd;split at h
   .cases h
   unfold QbD at hodd;split at hodd
   .exact absurd rfl hodd
   rename_i hk;simp only[Bool.or_eq_true,Bool.and_eq_true,bne_iff_ne,ne_eq,not_or,not_and,Decidable.not_not]at hodd;obtain⟨⟨⟨⟨o2,o3⟩,o4⟩,o5⟩,Z⟩:=hodd;have z:k≠4->t.size=0:=o4;have e5:k≠5->l=[]:=λh5=>ar (o5 h5)
   have D:k≠6->ov=[]:=λh6=>ar (by have:=Z h6;omega)
   rw[cntV,Qdy];by_cases U:k=2
   ·have:4≤Qs8 b:=by cases b <;> decide
    rw[em U,z (by omega),e5 (by omega),D (by omega)];simp only[Qd4,QfR];omega
   rw[ef U];by_cases R:k=3
   ·have:=QqT i
    rw[em R,z (by omega),e5 (by omega),D (by omega)];simp only[Qd4,QfR];omega
   rw[ef R];by_cases J:k=4
   ·rw [em J] at h
    have I:Lib.validD t.data.toList=true:=by
     cases I:Lib.validD t.data.toList with
     |true=>rfl
     |false=>rw[I]at h;simp at h
    have:=QjY I;rw[em J,e5 (by omega),D (by omega)];simp only[Qd4,QfR];omega
   rw[ef J]at h ⊢;by_cases N:k=5
   ·rw [em N] at h ⊢
    have:=Qlw l (q+1) Y h;rw[z (by omega),D (by omega)];simp only[QfR];omega
   rw[ef N]at h ⊢;by_cases L:k=6
   ·rw [em L] at h ⊢
    have:=Qlx none ok ov (q+1) ho h;rw[z (by omega),e5 (by omega)];simp only[Qd4];omega
   rw[ef L,z (by omega),e5 (by omega),D (by omega)];simp only[Qd4,QfR];omega
theorem Qlw:∀(l:List Val) (q:Nat),Qkk l->Qbz l q=0->Qd4 l<=7*Qek l
 |[],q,_,_=>by simp[Qd4]
 | d :: r,q,hw,h=>by
   rw[Qbz]at h;obtain⟨hd,D⟩:=hw;by_cases z:QbN d q=0
   ·rw [ef (by simp [z])] at h
    have h1:=Qie d q hd z;have h2:=Qlw r q D h;rw[Qd4,Qek];omega
   rw[em z]at h;exact absurd h z
theorem Qlx:∀(p:Option ByteArray) (ks:List ByteArray) (l:List Val) (q:Nat),Qkk l->Qer p ks l q=0->QfR ks l<=7*Qeq ks l
 |p,ks,[],q,_,_=>by simp[QfR]
 | p,ks,d :: r,q,hw,h=>by
   rw[Qer]at h;obtain⟨hd,D⟩:=hw;split at h
   .cases h
   rename_i hv;split at h
   .cases h
   by_cases z:QbN d q=0
   ·rw [ef (by simp [z])] at h
    have h1:=Qie d q hd z;have h2:=Qlx _ ks.tail r q D h;have I:=QjY (s:=ks.headD ByteArray.empty) (by simpa using hv);rw[QfR,Qeq];omega
   rw[em z]at h;exact absurd h z
end
theorem okV.cnt{v:Val}(h:okV v):cntV v<=7168:=by
 have h1:=Qie v 1 h.1 h.may;have h2:=h.2;unfold Qbw at h2;split at h2
 .exact absurd h2 (by assumption)
 split at h2
 .cases h2
 split at h2
 .cases h2
 omega
theorem QaD(w:World)(v:Val)(sl so:Sl):Calls prog 169 #[aggV v sl so] w λe w'=>e=.returned (.bool (Qel v))/\Ext w w':=by
 obtain⟨k,b,i,t,l,z,Y⟩:=v;show Calls _ _ #[.agg #[.int .i64 k,.bool b,.int .i64 i,.string t,.slice sl.a l.length sl.c,.slice so.a z.length so.c]] _ λe w'=>e=.returned (.bool (k==0 && !b&&i==0&&t.size==0&&l.length==0&&z.length==0))/\Ext w w'
 by_cases J:k=0
 rotate_left
 ·have gk:(k == 0)=false:=eu.2 J
  go_in;go_wp2_with fail;go_ret;exact⟨by simp[J],(fu w).alloc _ _⟩
 subst J;by_cases N:b=true
 ·subst N
  go_in;go_wp2_with fail;go_ret;exact⟨by simp,(fu w).alloc _ _⟩
 obtain rfl:b=false:=by simpa using N
 by_cases hi:i=0
 rotate_left
 ·have Z:(i == 0)=false:=eu.2 hi
  go_in;go_wp2_with fail;go_ret;exact⟨by simp[hi],(fu w).alloc _ _⟩
 subst hi;by_cases I:t.size=0
 rotate_left
 ·have U:=Qbx I
  go_in;go_wp2_with fail;go_ret;exact⟨by simp[I],(fu w).alloc _ _⟩
 have U:=Qbc I;by_cases L:l.length=0
 rotate_left
 ·have X:((l.length:Int) == 0)=false:=eu.2 (by omega)
  go_in;go_wp2_with fail;go_ret;exact⟨by simp[L],(fu w).alloc _ _⟩
 have X:((l.length:Int)==0)=true:=by rw[L];rfl
 cases R:decide (z.length=0)with
 | true=>
   have D:z.length=0:=of_decide_eq_true R;have go:((z.length:Int)==0)=true:=by rw[D];rfl
   go_in;go_wp2_with fail;go_ret;exact⟨by simp[I,L,D],(fu w).alloc _ _⟩
 | false=>
   have D:¬z.length=0:=of_decide_eq_false R;have go:((z.length:Int)==0)=false:=eu.2 (by omega);go_in;go_wp2_with fail;go_ret;exact⟨by simp[D],(fu w).alloc _ _⟩
variable{H:Nat->Prop}{O:Nat}{d:OD}
theorem QkF(h:QcW H w O d)(hm:d.mb=none):Calls prog 23 #[.pointer (some ⟨O,0,none⟩)] w λe w'=>e=.returned (Qau d.T)/\Nw w w':=by
 have c0:w.cell? ⟨O,0,none⟩=some (Qay d.T):=h.blk.cell 0;have c1:w.cell? ⟨O,1,none⟩=some (.map none):=by have:=h.blk.cell 1;rw[hm]at this;exact this
 have lO:=h.blk.lt;obtain⟨r,Y⟩:=Qaq d.T;rw[Qau,Y];rw[Y]at c0;have l1:O<w.heap.size+1:=by omega
 have l2:O<w.heap.size+1+1:=by omega
 clear h hm Y;go_in;go_wp2_with fail;generalize X:World.alloc _ _=W0;obtain⟨L,R,z,D⟩:=Qap w _ _ _ _ W0 X;have a0:=hY L;have Z:=hY z;have a1:=hY D;have a2:=hY R;clear X L z D l1 l2 R;refine((eC (n:=5)).1 (Tryz.QhM none W0)).mono ?_;rintro e w' ⟨rfl,rfl⟩;go_wp2_with fail;refine((eC (n:=5)).1 (Tryz.Qdo W0)).mono ?_;rintro e w2 ⟨v,ss,rfl,rfl,U,J,N⟩;obtain rfl:=J.2 rfl;have I:Nw W0 w2:=(fv ((fu W0).alloc #[.map none] 77)).trans (Sb.new N);have z:=I.blk Z.o;have D:=I.blk a1.o;have q0:w2.cell? ⟨w,0,none⟩=some (.pointer none):=z.cell 0;have q1:w2.cell? ⟨w+1,0,none⟩=some (.pointer r):=D.cell 0;have f0:=z.frozen 0;have k0:=z.lt;have k1:=D.lt;have HN:=hY (show Nw w (w2.setCell ⟨w,0,none⟩ (.pointer r))from
  (((fv a0.o).any (λb=>w<=b)).trans (I.any _)).set (p:=⟨w,0,none⟩) (.inl (an _)) _ |>.mono λi hi e=>by omega)
 clear U J N I z D c0 c1;go_wp2_with fail;go_loopw[23] (λq wr=>q=.int .i64 0/\wr=w2) (λ_ _=>0)
 case atStart=>exact⟨rfl,rfl⟩
 obtain⟨rfl,rfl⟩:=hrel;go_wp2_with fail;refine eD (v:=.agg #[.pointer r]) (by simp[results,results23,go_sem,q0]) rfl ?_;exact⟨rfl,HN.o⟩
def QiT(C:AL SV)(pre:List LE):List ByteArray:=(pre.filter λx=>(Qa5 C x.k).isNone).map LE.k
variable{C:AL SV}{pre:List LE}{x:LE}
theorem Qro(h:Qa5 C x.k=none):QiT C (pre++[x])=QiT C pre++[x.k]:=by
 unfold QiT;rw[cu,aR,bA,em (by rw[h];rfl)];rfl
theorem QsO{s:SV}(h:Qa5 C x.k=some s):QiT C (pre++[x])=QiT C pre:=by
 unfold QiT;rw[cu,aR,bA,ef (by rw[h];simp)];simp
theorem Ql1(C:AL SV)(pre:List LE):(QiT C pre).length<=pre.length:=by
 unfold QiT;rw[aq];exact bY _ _
def QmP(C:AL SV)(p k:ByteArray):Bool:=match Qa5 C k with
 |some s=>s.has&&Qaj p k
 |none=>false
abbrev QbW(l:List UInt8):ByteArray:=⟨l.toArray⟩
def Qdi(C:AL SV)(p:ByteArray)(ss:List (List UInt8)):List ByteArray:=(ss.map QbW).filter (QmP C p)
theorem QoM{p:ByteArray}{ss:List (List UInt8)}{x:List UInt8}(h:QmP C p (QbW x)=true):Qdi C p (ss++[x])=Qdi C p ss++[QbW x]:=by
 unfold Qdi;rw[aR,cu,List.map_singleton,bA,em h];rfl
theorem QlJ{p:ByteArray}{ss:List (List UInt8)}{x:List UInt8}(h:QmP C p (QbW x)=false):Qdi C p (ss++[x])=Qdi C p ss:=by
 unfold Qdi;rw[aR,cu,List.map_singleton,bA,ef (by rw[h];simp)];simp
theorem QoL(C:AL SV)(p:ByteArray)(ss:List (List UInt8)):(Qdi C p ss).length<=ss.length:=by
 unfold Qdi;have:=bY (QmP C p) (ss.map QbW);rwa[aq]at this
theorem QdY(C:AL SV):strKeys (mapA SV.val C)=C.map λq=>QaV q.1:=by
 show(C.map (QrT SV.val)).map _=_;rw[cA];rfl
theorem Qo1{a b:ByteArray}(h:klt a b=true):a≠b:=λe=>by rw[e,Qah]at h;cases h
variable{xs:List LE}
theorem Qpx{p:ByteArray}(hs:Sorted (Qab d.T))(hC:Qav d.C)(hx:xs.map LE.ent=QeB p (Qab d.T)){ss:List (List UInt8)}(hp:ss.Perm (d.C.map λq=>QaV q.1)) :
  (QiT d.C xs++Qdi d.C p ss).Nodup/\∀k,k∈QiT d.C xs++Qdi d.C p ss↔(Qaj p k=true/\(d.now k).isSome=true):=by
 have hsp:(QeB p (Qab d.T)).Pairwise λa b=>klt a.1 b.1=true:=hs.sublist (cg ..)
 rw[<-hx]at hsp;have hk1:(xs.map LE.k).Pairwise λa b=>klt a b=true:=bJ.2 (bJ.1 hsp)
 have hn1:(QiT d.C xs).Nodup:=((bJ.2 ((bJ.1 hk1).sublist (cg ..))).imp λh=>Qo1 h);have hnC:(d.C.map λq=>QaV q.1).Nodup:=bJ.2 (hC.imp λ{a b} h (e:QaV a.1=QaV b.1)=>Qo1 h (congrArg QbW e:QbW (QaV a.1)=QbW (QaV b.1)));have hns:(ss.map QbW).Nodup:=bJ.2 ((hp.nodup_iff.2 hnC).imp λ{a b} h (e:QbW a=QbW b)=>h (congrArg QaV e:QaV (QbW a)=QaV (QbW b)));have hn2:(Qdi d.C p ss).Nodup:=hns.sublist (cg ..);have hm1:∀k,k∈QiT d.C xs↔(Qaj p k=true/\(Qam (Qab d.T) k).isSome=true/\Qa5 d.C k=none):=λk=>by
  have hmem:∀(e:Ent),e∈xs.map LE.ent↔(e∈Qab d.T/\Qaj p e.1=true):=λe=>by rw[hx];exact bX
  unfold QiT;rw[bM];constructor
  ·rintro ⟨x,hx',rfl⟩
   obtain⟨h1,h2⟩:=bX.1 hx';obtain⟨h3,h4⟩:=(hmem x.ent).1 (di h1);exact⟨h4,by have:=QcM hs h3;rw[show x.ent.1=x.k from rfl]at this;rw[this];rfl,Option.isNone_iff_eq_none.1 h2⟩
  rintro⟨h1,h2,h3⟩;obtain⟨v,hv⟩:=cJ.1 h2;obtain⟨x,hx',he⟩:=bM.1 ((hmem (k,v)).2 ⟨Qcg hv,h1⟩);have hxk:x.k=k:=congrArg Prod.fst he;exact⟨x,bX.2 ⟨hx',by rw[hxk,h3];rfl⟩,hxk⟩
 have hm2:∀k,k∈Qdi d.C p ss↔QmP d.C p k=true:=λk=>by
  unfold Qdi;rw[bX];refine⟨λh=>h.2,λh=>⟨?_,h⟩⟩;unfold QmP at h;cases hg:Qa5 d.C k with
  |none=>rw[hg]at h;cases h
  | some s=>
    have h5:QaV k∈ss:=hp.mem_iff.2 (bM.2 ⟨(k,s),QeX hg,rfl⟩);exact bM.2 ⟨QaV k,h5,rfl⟩
 refine⟨List.nodup_append.2 ⟨hn1,hn2,λa ha b hb e=>?_⟩,λk=>?_⟩
 ·subst e
  have h1:=((hm1 a).1 ha).2.2;have h2:=(hm2 a).1 hb;unfold QmP at h2;rw[h1]at h2;cases h2
 rw[aE,hm1,hm2];unfold QmP;cases hg:Qa5 d.C k with
 |none=>rw[QlX hg];simp
 | some s=>
   rw[QlY hg];unfold SV.opt;cases hh:s.has<;>cases Qaj p k<;>simp[hh]
theorem Qsh{x:List UInt8}{J:DataW Value}{L:List MemPlace}{c:Value}(z:∀zd,(mapA SV.val C).atKey (.string x) zd=J)(I:QeZ c=some (J,L)):∃sv,Qa5 C (QbW x)=some sv/\c=sv.val:=by
 have h1:=Qgv SV.val C (QbW x);cases D:Qa5 C (QbW x)with
 | none=>
   simp only[D]at h1;have a:=(h1 .nil).symm.trans (z .nil);have b:=(h1 (.held (.bool true))).symm.trans (z _);rw[<-a]at b;cases b
 | some s=>
   simp only[D]at h1;have a:=(h1 .nil).symm.trans (z .nil);rw[<-a]at I;exact⟨s,rfl,Qe0 I⟩
theorem QkN{p k:ByteArray}{s:SV}(h:Qa5 C k=some s):QmP C p k=(s.has&&Qaj p k):=by unfold QmP;rw[h]
theorem QjL{α:Type}[DecidableEq α]:∀{ss l:List α},ss.Nodup->(∀x∈ss,x∈l)->ss.length<=l.length
 |[],l,_,_=>av _
 | a :: ss,l,hn,hs=>by
   have I:=hs a (aw ..);have z:=List.nodup_cons.1 hn;have:=QjL (ss:=ss) (l:=l.erase a) z.2 λx D=>(List.mem_erase_of_ne (λe=>z.1 (by rw[<-e];exact D))).2 (hs x (aI _ D))
   have J:=List.length_erase_of_mem I;have:0<l.length:=List.length_pos_of_mem I;simp only[List.length_cons];omega
theorem QgC{left:Lit->Bool}{ss:List (List UInt8)}(h:Collected (mapA SV.val C) left ss):ss.length<=C.length:=by
 have h2:=QjL (l:=C.map λq=>QaV q.1) h.1 λx z=>by
  have:=((h.2 x).1 z).1;rw[show Lit.string x=QfF (QbW x)from rfl,QlH]at this;obtain⟨s,hs⟩:=cJ.1 this;exact bM.2 ⟨(QbW x,s),QeX hs,rfl⟩
 rwa[aq]at h2
def Qlm(d:OD)(p:ByteArray)(w:World)(e:Ending)(w':World):Prop:=
 ∃(s:Sl) (ks:List ByteArray),e=.returned (.slice s.a ks.length s.c)/\Nw w w'/\Rd w' (In w.heap.size w'.heap.size) 1 s ks.length (ks.map .string)/\ks.Pairwise (λx y=>klt x y=true)/\∀k,k∈ks↔(Qaj p k=true/\(d.now k).isSome=true)
variable{w1 W w5 w6:World}{B:Nat}
theorem Qpy{p:ByteArray}{ks ts:List ByteArray}(h1:Nw w w1)(hB:w.heap.size<=B)(U:Qdv w1 B ks s W)(R:ks.Nodup)(hm:∀k,k∈ks↔(Qaj p k=true/\(d.now k).isSome=true))
  (X:ts.Perm ks) (hs:(ts.map QaV).Pairwise λx y=>decide (x<=y)=true) (Y:w5.ownsRow (w1.heap.size+2) 9 1 (.slice s.a ts.length s.c) ts.length (ts.map .string)) (I:W.grownBy w5 s.row) {D:Nat} (Z:Sb (λb=>b=D) w5 w6) (hD:w1.heap.size=D) :
  Qlm d p w (.returned (.slice s.a ts.length s.c)) w6:=by
 have hz:=h1.size;have h5:Sb (λb=>s.row=some b) W w5:=⟨I.os,I.tape,I.output,I.size,λi hi R=>I.block i hi λe=>R e.symm⟩;refine⟨s,ts,rfl,?_,?_,Qg7 hs (X.nodup_iff.2 R),λk=>(X.mem_iff).trans (hm k)⟩
 ·have N:Sb (fun b=>B=b∨w1.heap.size≤b) w1 w6:=((U.sb.mono fun i _ e=>.inl e.symm).trans (h5.mono fun i _ e=>.inr (by have:=(U.row e).1;omega))).trans (Z.mono fun i _ e=>.inr (by omega))
  exact((h1.any (λb=>w<=b)).comp N λi hi e=>by rcases e with e|e<;>omega).mono λi hi e=>by omega
 have z:∀b,s.row=some b->w1+2<=b/\b<w5:=λb J=>Qaa Y J
 have L:=Qae Y Z.agree λb J=>⟨(z b J).2,λe=>by have:=(z b J).1;omega⟩
 exact(fE L).mono λi hi=>⟨by have:=hi.1;omega,hi.2⟩
open Go.Sort
attribute [local go_sem] Oper.semAt_some
theorem Qhu(w:World):(Instr.range 77 (.map none)).run prog w=.ok (.pointer (some ⟨w,0,none⟩)) (w.alloc (.mapIter none 0 #[] 0)):=by
 simp[Instr.range,run_underlying underlying77,newObj,fa,eY,Result.andThen];rfl
variable{r:Nat}
theorem QiL(h:w.heap[r]? = some (.mapIter none 0 #[] 0))(D:TypeId):(Instr.next (.pointer (some ⟨r,0,none⟩)) false D).run prog w=.ok (.tuple #[.bool false]) w:=by
 have z:(getObj r).run prog w=.ok (.mapIter none 0 #[] 0) w:=by simp[getObj,Sem.run,h]
 unfold Instr.next;simp only[Sem.run_bind,Sem.run_pure,Result.andThen_ok,z]
variable{P:Program}
theorem Qj2{H:Type}{k:TypeId}{R:Value->Option (DataW H × List MemPlace)}{b r n:Nat}{D:DataW H}{left:Lit->Bool}{cnt:Nat}(h:w.ranges P k R b r n D left cnt)(hb:w'.heap[b]? = w.heap[b]?)(L:w'.heap[r]? = w.heap[r]?):w'.ranges P k R b r n D left cnt:=by
 obtain⟨Y,I,z,J,U,h1,h2,N,Z,X,h6⟩:=h;exact⟨Y,I,z,J,U,hb.trans h1,h2,N,Z,L.trans X,h6⟩
theorem Qnj{H:Type}{k:TypeId}{R:Value->Option (DataW H × List MemPlace)}{b r n:Nat}{D:DataW H}{left:Lit->Bool}{cnt:Nat}(h:w.ranges P k R b r n D left cnt):b<w/\r<w/\(∀t cs,¬Blk w b t cs):=by
 obtain⟨Y,J,I,L,X,h1,h2,U,Z,N,h6⟩:=h;refine⟨(aA.1 h1).1,(aA.1 N).1,λt cs z=>?_⟩;have z:w.heap[b]? = some (.cells cs t (0,0)):=z;rw[h1]at z;cases z
structure Qt5(w1:World)(B r b D:Nat)(C:AL SV)(p:ByteArray)(ks1:List ByteArray)(left:Lit->Bool)(cnt:Nat)(ss:List (List UInt8))(s:Sl)(wr:World):Prop where
 col:Qdv w1 B (ks1++Qdi C p ss) s wr
 rg:wr.ranges prog 9 QeZ b r C.length (mapA SV.val C) left cnt
 co:Collected (mapA SV.val C) left ss
 ne:s.row≠some r
 dk:wr.heap[D]? = some (.deferred (some []))
theorem Qpz(h:QcW H w O d)(hl:(Qab d.T).length<=1000000)(hn:d.us.length<=1000000){p:ByteArray}(hp:p.size<=maxLen) :
  Calls prog 121 #[.pointer (some ⟨O,0,none⟩),.string p] w (Qlm d p w):=by
 obtain⟨i0,hi,q2,o1,o0⟩:=eG Tryz.QkP;have hF:∀b,OvF H w O d b->b<w:=λb L=>L.1
 have j9:=λW=>Qnc W d.T p hp
 have p1:=λW1 (hA:Agree (Lt w) w W1) (hz:w.heap.size<=W1.heap.size) B lo hi op (hB:QdB W1 B d.T lo hi op)=>QpH (lo:=lo) (hi:=hi) (op:=op) (show Qgt (OvF H w O d) d.T W1 from⟨h.tree.agree (hA.mono hF),λb L=>ab (hF b L) hz⟩) h.ok hl hB
 obtain⟨r,i9⟩:=Qaq d.T;simp only[Qau,i9]at j9;have c0:w.cell? ⟨O,0,none⟩=some (.pointer r):=by rw[<-i9];exact h.blk.cell 0
 have lO:=h.blk.lt;have l1:O<w.heap.size+1:=by omega
 have b3:=hY h;have q7:=hY hF;have p4:=hY j9;have p7:=hY p1;clear h hF j9 p1 i9;refine(eC (n:=6)).1 ?_;refine callsIn_of_wp_marks func121 rfl trivial ?_ rfl;simp only[ntmps121,List.size_toArray,List.length_cons,List.length_nil,Nat.reduceAdd,Nat.reduceSub,Array.replicate_succ,Array.replicate_zero,List.push_toArray,List.append_toArray,List.nil_append,List.cons_append];gi_wp2_with fail;generalize o2:World.alloc (World.alloc _ _) _=W0;obtain⟨p0,v3,p8,p6⟩:=Qap w _ _ _ _ W0 o2;have n7:=hY p0;have o9:=hY p8;have o4:=hY p6;clear o2 p0 p8 p6;refine⟨trivial,?_⟩;refine(eC.2 (p4.o W0)).mono ?_;rintro e w1 ⟨B,en,op,rfl,f9,n2,hB,r3⟩;have d4:=Bw.trans n7.o.below f9;have k2:Nw w w1:=(fv n7.o).trans (Sb.new f9);have b7:=hY (b3.o.nw k2);have j3:Blk w1 w.heap.size 36 #[.pointer (some ⟨O,0,none⟩)]:=o9.o.agree (Agree.of_below f9 (F:=Lt W0) λ_ h=>h) (by show _<_;omega);have j4:Blk w1 (w.heap.size+1) 91 #[.slice none 0 0]:=o4.o.agree (Agree.of_below f9 (F:=Lt W0) λ_ h=>h) (by show _<_;omega);have r1:=hY (p7.o w1 (Agree.of_below d4 (F:=Lt w) λ_ h=>h) d4.size B p en op n2);have o7:=hY k2;have l2:=hY j3;have s8:=hY j4;have t8:=hY (r3 (Qab d.T));have v6:=n2.lt;have x1:=d4.size;have l7:w.heap.size<w1.heap.size:=j3.lt;have q4:w.heap.size+1<w1.heap.size:=j4.lt;clear f9 n2 p4 p7 d4 j3 j4 r3 o9 o4 k2;rw[t8.o]at r1;gi_wp2_with fail;refine Qlk (gf:=238) (lb:=Ql6 B) rfl (eO func238 (by kernel_rfl) rfl) r1.o (Agree.refl _) (an _)
  (λb L=>L.elim (λh=>by have:=q7.o b h;omega) (λh=>by omega)) (λ_=>rfl)
  (λpre C W=>∃s:Sl,C=(λb=>b=w.heap.size+1\/s.row=some b)/\Qdv w1 (w.heap.size+1) (QiT d.C pre) s W) (λ_ _ _=>False) (λb=>b=w.heap.size+1)
  (λb L=>⟨by omega,λh=>h.elim (λh=>by have:=q7.o b h;omega) (λh=>by omega)⟩)
  (λh k=>?turn) (λh k=>h) (λW hW hz=>⟨Sl.none,by funext b;simp[Sl.row],Qdv.start s8.o hW hz⟩) ?round ?done ?stop
 case turn=>
  obtain⟨s,e,hc⟩:=h;exact⟨s,e,hc.keep k.sb (by omega) (λb L=>by have:=(hc.row L).1;omega) λb L=>by omega⟩
 case stop=>
  rintro D c pre W hD v7 hX g6;exact hX.elim
 case round=>
  rintro pre C x x3 W1 ⟨s,rfl,c7⟩ t7 w8 s4 i1 hG;obtain⟨ks,J⟩:∃ks,QiT d.C pre=ks:=⟨_,rfl⟩;have q3:ks.length<1000000:=by
   have h1:=(ah.1 hG.at_).1;have h2:=Ql1 d.C pre;have h3:(QeB p (Qab d.T)).length<=1000000:=aj (bY _ _) hl;rw[<-J];omega
  have t5:=hG.key;rw[J]at c7;have i7:=c7.ext i1;have c1:=hY i7;have d8:=hY J;clear c7 i7 i1 hG s4 t7 J;gi_wp2_with fail;refine⟨fu _,λW3 k3=>?_⟩;have I:=c1.o.keep k3.sb (by omega) (λb L=>by have:=(c1.o.row L).1;omega) λb L=>by omega
  have a6:=I.sb;have q0:W3.cell? ⟨w,0,none⟩=some (.pointer (some ⟨O,0,none⟩)):=(a6.blk l2.o (by omega)).cell 0;have q1:W3.cell? ⟨O,1,none⟩=some (.map d.mb):=(a6.blk b7.o.blk (by omega)).cell 1;have lq:O<W3.heap.size:=(a6.blk b7.o.blk (by omega)).lt;have a7:Qbt W3 d.mb d.C:=b7.o.map.heap λb L=>a6.block b (b7.o.map.lt L) λe=>by have:=b3.o.map.lt L;omega
  have f6:=QkV a7 t5;have g9:=hY I;have X:∀b,s.row=some b->w1+2<=b/\b<W3:=λb L=>I.row L
  have c3:W3.cell? ⟨w+1,0,none⟩=some (.slice s.a ks.length s.c):=I.blk.cell 0;have f3:W3.frozen? ⟨w+1,0,none⟩=false:=I.blk.frozen 0;have l3:=I.blk.lt;cases hg:Qa5 d.C x.k with
  | some sv=>
    rw[hg,show Qir d.C x.k=sv by rw[Qir,hg];rfl]at f6;obtain⟨e7,v,sl,so⟩:=sv;have HG:=hY hg;clear hg I a6 a7;gi_wp2_with fail;have d7:=(fu W3).alloc #[.bool e7,.int .i64 v.kind,.bool v.b,.int .i64 v.i,.string v.t,.slice sl.a v.l.length sl.c,.slice so.a v.ok.length so.c] 87;exact⟨_,⟨s,rfl,by rw[QsO HG.o,d8.o];exact g9.o.ext d7⟩,d7.st _,λb L=>.inl L,λb L=>by
     have:=d7.size;rcases L with e|e
     .omega
     have:=(X b e).2;omega⟩
  | none=>
    rw[hg,show Qir d.C x.k=Qh4 by rw[Qir,hg];rfl]at f6;have a0:Ext W3 ((W3.alloc (.cells #[.bool false,.int .i64 0,.bool false,.int .i64 0,.string ByteArray.empty,.slice none 0 0,.slice none 0 0] 87)).alloc (.cells #[.string x.k] 9)):=((fu W3).alloc _ _).alloc _ _;have a4:=Qae I.own (a0.agree (F:=Lt W3) λb L=>L) λb L=>(X b L).2
    have l9:ks.length+1<=maxLen:=by unfold maxLen;omega
    have k4:(ks.length+1)*16<=140737488355328:=by omega
    have v8:=I.sb.size;have d0:w1.heap.size+2<=((W3.alloc (.cells #[.bool false,.int .i64 0,.bool false,.int .i64 0,.string ByteArray.empty,.slice none 0 0,.slice none 0 0] 87)).alloc (.cells #[.string x.k] 9)).heap.size:=by have:=I.sz;simp;omega
    have b0:=hY a0;have c8:=hY a4;have j0:=hY (show Blk ((W3.alloc (.cells #[.bool false,.int .i64 0,.bool false,.int .i64 0,.string ByteArray.empty,.slice none 0 0,.slice none 0 0] 87)).alloc (.cells #[.string x.k] 9)) (W3.heap.size+1) 9 #[.string x.k]by
     have:=fx (W3.alloc (.cells #[.bool false,.int .i64 0,.bool false,.int .i64 0,.string ByteArray.empty,.slice none 0 0,.slice none 0 0] 87)) 9 #[.string x.k];rwa[ew]at this)
    have t0:¬w.heap.size+1=W3.heap.size:=by omega
    have o5:¬w.heap.size+1=W3.heap.size+1:=by omega
    have s9:w.heap.size+1<W3.heap.size+1:=by omega
    have k0:=hY ((a0.frozen (o:=0) l3).trans f3);have k8:s.row≠some (w.heap.size+1):=λe=>by have:=(X _ e).1;omega
    have HG:=hY hg;clear hg I a6 a7 a0 a4;gi_wp2_with(gi_at_builtin;refine Qdb _ rfl (.tmp 32) (.tmp 34) 91 rfl (w1.heap.size+2) 9 i0 _ 1 16 underlying91 hi q2 o1 o0 rfl (by decide) s ks.length (ks.map .string) rfl c8.o (λb=>b=W3.heap.size+1) ⟨some ⟨W3+1,0,none⟩,1⟩ 1 [.string x.k] rfl (fG j0.o (by decide) rfl) (by simp[Value.oneCell']) l9 k4 d0 ?_;intro s3 w5 a5 Z f0;have h5:=Z.cell0 (o:=0) b0.o k8 l3;have c5:w5.cell? ⟨w+1,0,none⟩=some (.slice s.a ks.length s.c):=h5.1.trans c3;have l5:=h5.2;have f5:w5.frozen? ⟨w+1,0,none⟩=false:=(Z.fz _ _).trans (k0.out);have l8:=hY a5;have j8:=hY Z;have j2:=hY f0;clear a5 Z f0 h5);obtain⟨e1,e2,e3,e4⟩:=g9.o.snoc q4 b0.o l8.o j8.o j2.o;exact⟨_,⟨s3,rfl,by rw[Qro HG.o,d8.o];exact e1⟩,e2,λb L=>by
     rcases L with e|e
     .exact .inl (.inl e)
     exact(e3 b e).imp .inr id,e4⟩
 rintro D xs C W hD hS ⟨s,rfl,c7⟩ g6;have d6:=c7.sb;have q0:W.cell? ⟨w,0,none⟩=some (.pointer (some ⟨O,0,none⟩)):=(d6.blk l2.o (by omega)).cell 0;have q1:W.cell? ⟨O,1,none⟩=some (.map d.mb):=(d6.blk b7.o.blk (by omega)).cell 1;have lq:O<W.heap.size:=(d6.blk b7.o.blk (by omega)).lt;have l0:w.heap.size<W.heap.size:=(d6.blk l2.o (by omega)).lt;have a7:Qbt W d.mb d.C:=b7.o.map.heap λb L=>d6.block b (b7.o.map.lt L) λe=>by have:=b3.o.map.lt L;omega
 have g0:(QiT d.C xs).length<=1000000:=by
  have h1:=Ql1 d.C xs;have h2:(xs.map LE.ent).length=(QeB p (Qab d.T)).length:=by rw[hS]
  have h3:(QeB p (Qab d.T)).length<=1000000:=aj (bY _ _) hl;rw[aq]at h2;omega
 have r2:=(aA.1 g6).1;have c1:=hY c7;have HS:=hY hS;have p5:=hY g6;have g8:=hY a7;have HD:=hY hD;clear c7 hS g6 a7 d6 hD;obtain⟨mb,j5⟩:∃mb,d.mb=mb:=⟨_,rfl⟩;rw[j5]at q1;have o3:=hY j5;clear j5;rcases mb with _|b
 ·have r5:=fun w=>Qhu w
  gi_wp2_with fail;generalize k7:World.alloc W _=WW;have e0:WW.heap[W.heap.size]? = some (.mapIter none 0 #[] 0):=by rw[<-k7];exact fg W _
  have b8:Nw W WW:=by rw[<-k7];exact Sb.made (World.grownBy_alloc _ _ _)
  have o6:d.C=[]:=by have:=g8.o;rw[o3.o]at this;exact this
  have a2:=Qpx (p:=p) (ss:=[]) b3.o.ok.sorted b3.o.sorted HS.o (by rw[o6];exact List.Perm.nil);have N:=c1.o.keep (b8.any (λ_=>False)) (λe=>e) (λ_ _ e=>e) (λ_ e=>e.elim);obtain⟨ks,J⟩:∃ks,QiT d.C xs=ks:=⟨_,rfl⟩;rw[show Qdi d.C p []=[]from rfl,bc,J]at a2;rw[J]at N g0;obtain⟨s2,rfl⟩:∃s2,s2=s:=⟨_,rfl⟩;have a9:=hY a2;have a8:=hY N;have t3:=hY e0;have e8:=hY (show WW.heap[D]? = some (.deferred (some []))from(b8.block D r2 (λe=>e)).trans p5.o);have c4:=hY (Qhg N.own (by omega));have c5:WW.cell? ⟨w+1,0,none⟩=some (.slice s2.a ks.length s2.c):=N.blk.cell 0;clear k7 r5 a2 N e0 b8 J q0 q1 lq l0 o6;gi_loopw [] (λwr=>wr=WW) (λ_=>0)
  case atStart=>rfl
  subst hrel;have x2:=QiL t3.o;gi_wp2_with fail;refine⟨trivial,?_⟩;refine(eC.2 c4.o).mono ?_;rintro e w5 ⟨rfl,ts,g4,f8,f7,f4,U⟩;have a3:Sb (λb=>s2.row=some b) wr w5:=⟨U.os,U.tape,U.output,U.size,λi hi hn=>U.block i hi λe=>hn e.symm⟩;have R:=a3.blk a8.o.blk (λe=>by have:=(a8.o.row e).1;omega);have c6:w5.cell? ⟨w+1,0,none⟩=some (.slice s2.a ks.length s2.c):=R.cell 0;have l6:=R.lt;have g5:=hY (show w5.heap[D]? = some (.deferred (some []))from(a3.block D (by have:=(aA.1 e8.o).1;omega) (λe=>by have:=(a8.o.row e).1;have:=HD.o;omega)).trans e8.o);have Y:=Qpy o7.o (cE _) a8.o a9.o.1 a9.o.2 g4 f8 f7 U (St.put (o':=.deferred none) g5.o rfl rfl).sb HD.o.symm;rw[f4]at Y;have c9:=hY Y;clear a3 R g4 f8 f7 f4 U Y;gi_wp2_with fail;refine⟨by simp,.inl ⟨_,_,rfl,ft g5.o,?_⟩⟩;refine⟨.slice s2.a ks.length s2.c,?_,c9.o⟩;simp[results,results121,go_sem]
 have i5:W.ownsMap prog 9 QeZ b d.C.length (mapA SV.val d.C):=by
  have:=g8.o;rw[o3.o]at this;exact this
 have i6:=hY i5;clear i5;gi_wp2_with(first |(gi_at_range;refine wpListIn_range_own _ rfl _ 77 rfl 9 87 Qfc underlying77 QeZ b d.C.length _ rfl i6.o ?_;intro w2 i8 n9 r7)|fail);have b8:Nw W w2:=Sb.made n9;obtain⟨b6,l4⟩:∃b6,QiT d.C xs=b6:=⟨_,rfl⟩;have N:=c1.o.keep (b8.any (λ_=>False)) (λe=>e) (λ_ _ e=>e) (λ_ e=>e.elim);rw[l4]at N g0;have hs:s.row≠some W.heap.size:=λe=>by have:=(c1.o.row e).2;omega
 have t4:=hY (show Qt5 w1 (w.heap.size+1) W.heap.size b D d.C p b6 (Maps.has (mapA SV.val d.C)) (Maps.size (mapA SV.val d.C)) [] s w2 from
  ⟨by rw[show Qdi d.C p []=[]from rfl,bc];exact N,i8,Collected.start _,hs,(b8.block D r2 (λe=>e)).trans p5.o⟩)
 have r6:=hY l4;have v2:w1.heap.size<=W.heap.size:=c1.o.sb.size;clear i8 n9 r7 b8 N hs q0 q1 lq l0 l4;simp only[Act.put,List.setIfInBounds_toArray,List.set_cons_zero,List.set_cons_succ];gi_loopw [] (λwr=>∃(left:Lit->Bool) (cnt:Nat) (ss:List (List UInt8)) (s2:Sl),Qt5 w1 (w.heap.size+1) W.heap.size b D d.C p b6 left cnt ss s2 wr) (λwr=>wr.rangeLeft b W.heap.size)
 case atStart=>exact⟨_,_,_,_,t4.o⟩
 obtain⟨left,cnt,ss,s2,hP⟩:=hrel;have g7:=hP.rg;have r4:=QgC hP.co;have v1:=b3.o.few;have v5:=QoL d.C p ss;have HP:=hY hP;clear hP;gi_wp2_with(first |(gi_at_next;refine wpListIn_next_ranges _ rfl _ rfl 9 Qfc QeZ encStr id (λx0 kl hk=>by obtain⟨x,hx,_⟩:=Maps.keyOf_str underlying9 hk;exact⟨x,hx⟩) (λv _ _=>⟨v,rfl⟩) b W.heap.size _ _ _ _ rfl g7 ?_ ?_)|fail)
 ·intro t6 l7
  have c2:=HP.o.co.perm i6.o Qfc underlying9 l7;rw[QdY]at c2;have a2:=Qpx (p:=p) b3.o.ok.sorted b3.o.sorted HS.o c2;have N:=HP.o.col;rw[r6.o]at a2;obtain⟨ks,J⟩:∃ks,b6++Qdi d.C p ss=ks:=⟨_,rfl⟩;have q3:ks.length<=2000000:=by rw[<-J,ai];omega
  rw[J]at a2 N;have a9:=hY a2;have a8:=hY N;have e8:=hY HP.o.dk;have c4:=hY (Qhg N.own (by omega));have c5:wr.cell? ⟨w+1,0,none⟩=some (.slice s2.a ks.length s2.c):=N.blk.cell 0;clear g7 c2 a2 N J t6 l7;gi_wp2_with fail;refine⟨trivial,?_⟩;refine(eC.2 c4.o).mono ?_;rintro e w5 ⟨rfl,ts,g4,f8,f7,f4,U⟩;have a3:Sb (λb=>s2.row=some b) wr w5:=⟨U.os,U.tape,U.output,U.size,λi hi hn=>U.block i hi λe=>hn e.symm⟩;have R:=a3.blk a8.o.blk (λe=>by have:=(a8.o.row e).1;omega);have c6:w5.cell? ⟨w+1,0,none⟩=some (.slice s2.a ks.length s2.c):=R.cell 0;have l6:=R.lt;have g5:=hY (show w5.heap[D]? = some (.deferred (some []))from(a3.block D (by have:=(aA.1 e8.o).1;omega) (λe=>by have:=(a8.o.row e).1;have:=HD.o;omega)).trans e8.o);have Y:=Qpy o7.o (cE _) a8.o a9.o.1 a9.o.2 g4 f8 f7 U (St.put (o':=.deferred none) g5.o rfl rfl).sb HD.o.symm;rw[f4]at Y;have c9:=hY Y;clear a3 R g4 f8 f7 f4 U Y;gi_wp2_with fail;refine⟨by simp,.inl ⟨_,_,rfl,ft g5.o,?_⟩⟩;refine⟨.slice s2.a ks.length s2.c,?_,c9.o⟩;simp[results,results121,go_sem]
 intro x c kl yd yp w3 p9 i3 f6 hv j1 f2 q8 q5 t2 q9;obtain⟨x',ex,rfl,r8⟩:=Maps.keyOf_str underlying9 i3;obtain rfl:=encStr_inj ex;obtain⟨sv,k5,rfl⟩:=Qsh j1 hv;have g3:Sb (λi=>i=W.heap.size) wr w3:=Sb.grown q5;have a1:=HP.o.col.keep g3 (by omega) (λi hi e=>HP.o.ne (by rw[hi,e])) (λi e=>by omega);have p2:=HP.o.co.step f6 j1;obtain⟨ks,J⟩:∃ks,b6++Qdi d.C p ss=ks:=⟨_,rfl⟩;have q3:ks.length<=2000000:=by rw[<-J,ai];omega
 rw[J]at a1;have i4:w3.heap[D]? = some (.deferred (some [])):=(g3.block D (by have:=(aA.1 HP.o.dk).1;omega) (λe=>by have:=HD.o;omega)).trans HP.o.dk;obtain⟨e7,v,sl,so⟩:=sv;obtain⟨k,hk⟩:∃k,QbW x=k:=⟨_,rfl⟩;have t9:(Instr.entry (.pointer (some ⟨W,0,none⟩))).run prog w3=.ok (.tuple #[.string k,.agg #[.bool e7,.int .i64 v.kind,.bool v.b,.int .i64 v.i,.string v.t,.slice sl.a v.l.length sl.c,.slice so.a v.ok.length so.c]]) w3:=by rw[<-hk];exact q9
 rw[hk]at k5;obtain⟨j7,k9,n6⟩:=Qnj f2;have X:∀i,s2.row=some i->w1+2<=i/\i<w3:=λi hi=>a1.row hi
 have d5:s2.row≠some W.heap.size:=HP.o.ne;have n4:s2.row≠some b:=λe=>by
  rcases a1.own.2 with⟨hv,-⟩ |⟨gg,v4,v9,hv,-,hc,-⟩
  ·injection hv with e1
   rw[Sl.row,e1]at e;cases e
  injection hv with e1;rw[Sl.row,e1]at e;have:gg=b:=by simpa using e
  subst this;exact n6 _ _ hc
 have r9:¬b=w.heap.size+1:=λe=>n6 _ _ (by rw[e];exact a1.blk)
 have c3:w3.cell? ⟨w+1,0,none⟩=some (.slice s2.a ks.length s2.c):=a1.blk.cell 0;have f3:w3.frozen? ⟨w+1,0,none⟩=false:=a1.blk.frozen 0;have l3:=a1.blk.lt;have b5:=hY a1;have t1:=hY p2;have r0:=hY f2;have f1:=hY g7;have d3:=hY i4;have d8:=hY J;have HK:=hY hk;have j6:=hY k5;have k1:=hY q8;rw[show(encStr x)=Value.string k from by rw[<-hk]];clear a1 p2 f2 g7 i4 J k5 j1 hv i3 f6 q5 t2 q8 g3 r8 q9;have i2:∀(s3:Sl) (w6:World),Qdv w1 (w.heap.size+1) (b6++Qdi d.C p (ss++[x])) s3 w6->s3.row≠some W.heap.size->w6.heap[b]? = w3.heap[b]?->w6.heap[W.heap.size]? = w3.heap[W.heap.size]?->w6.heap[D]? = w3.heap[D]?->
   Qt5 w1 (w.heap.size+1) W.heap.size b D d.C p b6 (λz=>left z && !z.sameKey (.string x)) p9 (ss++[x]) s3 w6:=λs3 w6 h1 h2 h3 h4 h5=>⟨h1,Qj2 r0.o h3 h4,t1.o,h2,h5.trans d3.o⟩
 have e6:=hY i2;clear i2;have d7:=(fu w3).alloc #[.bool e7,.int .i64 v.kind,.bool v.b,.int .i64 v.i,.string v.t,.slice sl.a v.l.length sl.c,.slice so.a v.ok.length so.c] 87;have n8:=hY d7;clear d7;cases e7 with
 | false=>
   have k6:QmP d.C p (QbW x)=false:=by rw[HK.o,QkN j6.o];rfl
   have b4:=hY (e6.o s2 _ (by rw[QlJ k6,d8.o];exact b5.o.ext n8.o) d5 (eI _ _ _ j7) (eI _ _ _ k9) (eI _ _ _ (aA.1 d3.o).1));gi_wp2_with fail;refine⟨trivial,?_⟩;gi_wp2_with fail;go_roundw
   case rel=>exact⟨_,_,_,_,b4.o⟩
   rw[b4.o.rg.left_eq,f1.o.left_eq];exact k1.o
 | true=>
   gi_wp2_with fail;refine⟨trivial,?_⟩;refine(eC.2 (QhB _ k p)).mono ?_;rintro e w4 ⟨rfl,rfl⟩;cases o8:Qaj p k with
   | false=>
     have k6:QmP d.C p (QbW x)=false:=by rw[HK.o,QkN j6.o,o8];rfl
     have b4:=hY (e6.o s2 _ (by rw[QlJ k6,d8.o];exact b5.o.ext n8.o) d5 (eI _ _ _ j7) (eI _ _ _ k9) (eI _ _ _ (aA.1 d3.o).1));gi_wp2_with fail;go_roundw
     case rel=>exact⟨_,_,_,_,b4.o⟩
     rw[b4.o.rg.left_eq,f1.o.left_eq];exact k1.o
   | true=>
     have q6:QmP d.C p (QbW x)=true:=by rw[HK.o,QkN j6.o,o8];rfl
     have a0:Ext w3 ((w3.alloc (.cells #[.bool true,.int .i64 v.kind,.bool v.b,.int .i64 v.i,.string v.t,.slice sl.a v.l.length sl.c,.slice so.a v.ok.length so.c] 87)).alloc (.cells #[.string k] 9)):=((fu w3).alloc _ _).alloc _ _;have a4:=Qae b5.o.own (a0.agree (F:=Lt w3) λb L=>L) λb L=>(X b L).2
     have l9:ks.length+1<=maxLen:=by unfold maxLen;omega
     have k4:(ks.length+1)*16<=140737488355328:=by omega
     have d0:w1.heap.size+2<=((w3.alloc (.cells #[.bool true,.int .i64 v.kind,.bool v.b,.int .i64 v.i,.string v.t,.slice sl.a v.l.length sl.c,.slice so.a v.ok.length so.c] 87)).alloc (.cells #[.string k] 9)).heap.size:=by have:=b5.o.sz;simp;omega
     have b0:=hY a0;have c8:=hY a4;have j0:=hY (show Blk ((w3.alloc (.cells #[.bool true,.int .i64 v.kind,.bool v.b,.int .i64 v.i,.string v.t,.slice sl.a v.l.length sl.c,.slice so.a v.ok.length so.c] 87)).alloc (.cells #[.string k] 9)) (w3.heap.size+1) 9 #[.string k]by
      have:=fx (w3.alloc (.cells #[.bool true,.int .i64 v.kind,.bool v.b,.int .i64 v.i,.string v.t,.slice sl.a v.l.length sl.c,.slice so.a v.ok.length so.c] 87)) 9 #[.string k];rwa[ew]at this)
     have t0:¬w.heap.size+1=w3.heap.size:=by omega
     have o5:¬w.heap.size+1=w3.heap.size+1:=by omega
     have s9:w.heap.size+1<w3.heap.size+1:=by omega
     have k0:=hY ((a0.frozen (o:=0) l3).trans f3);have k8:s2.row≠some (w.heap.size+1):=λe=>by have:=(X _ e).1;omega
     clear a0 a4;gi_wp2_with(gi_at_builtin;refine Qdb _ rfl (.tmp 53) (.tmp 55) 91 rfl (w1.heap.size+2) 9 i0 _ 1 16 underlying91 hi q2 o1 o0 rfl (by decide) s2 ks.length (ks.map .string) rfl c8.o (λb=>b=w3.heap.size+1) ⟨some ⟨w3+1,0,none⟩,1⟩ 1 [.string k] rfl (fG j0.o (by decide) rfl) (by simp[Value.oneCell']) l9 k4 d0 ?_;intro s3 w5 a5 Z f0;have h5:=Z.cell0 (o:=0) b0.o k8 l3;have c5:w5.cell? ⟨w+1,0,none⟩=some (.slice s2.a ks.length s2.c):=h5.1.trans c3;have l5:=h5.2;have f5:w5.frozen? ⟨w+1,0,none⟩=false:=(Z.fz _ _).trans (k0.out);have l8:=hY a5;have j8:=hY Z;have j2:=hY f0;clear a5 Z f0 h5);obtain⟨e1,e2,e3,e4⟩:=b5.o.snoc q4 b0.o l8.o j8.o j2.o;have p3:=(aA.1 d3.o).1;have b4:=hY (e6.o s3 _ (by rw[QoM q6,<-aO,d8.o,HK.o];exact e1) (λe=>by
       rcases e3 _ e with h|h
       .exact d5 h
       .omega) (e2.block b j7 λe=>by
       rcases e with e|e
       .exact r9 e
       .exact n4 e) (e2.block _ k9 λe=>by
       rcases e with e|e
       .omega
       .exact d5 e) (e2.block D p3 λe=>by
       rcases e with e|e
       .have:=HD.o;omega
       have:=(X _ e).1;have:=HD.o;omega))
     clear e1 e2 e3 e4;gi_wp2_with fail;go_roundw
     case rel=>exact⟨_,_,_,_,b4.o⟩
     rw[b4.o.rg.left_eq,f1.o.left_eq];exact k1.o
end Go.Proofs.YtkjkafgnnoidpaaGreatDoor
namespace Go.Proofs.YtkjkafgnnoidpaaGreatDoor
open Go.Proofs.Tryz
open Go.RowKit
theorem QcZ:∀(a b:List UInt8),Lib.compareBytes a b=if Op.bytesLess a b then -1 else if Op.bytesLess b a then 1 else 0
 |[],[]=>rfl
 |[],b::v=>by simp[Lib.compareBytes,Op.bytesLess]
 |a::u,[]=>by simp[Lib.compareBytes,Op.bytesLess]
 | a :: u,b :: v=>by
   simp only[Lib.compareBytes,Op.bytesLess];by_cases h1:a<b
   .simp [h1]
   by_cases h2:b<a
   ·have z:¬a=b:=fun e=>by subst e;exact h1 h2
    have D:¬b=a:=λe=>z e.symm
    simp[h1,h2,z,D]
   have z:a=b:=UInt8.le_antisymm (UInt8.not_lt.1 h2) (UInt8.not_lt.1 h1);subst z;simp[h1,QcZ u v]
theorem Qfi(a b:ByteArray):Lib.compareBytes a.data.toList b.data.toList=Qbn a b:=by
 rw[QcZ];unfold Qbn klt;rw[eB,eB]
theorem Qic(w:World)(a b:ByteArray):Calls prog 188 #[.string a,.string b] w λe w'=>e=.returned (.int .i64 (Qbn a b))/\w=w':=by
 rw[<-Qfi];go_in;go_wp2_with fail;rw[run_callFunc_extern func219 (by kernel_rfl) (by kernel_rfl) (by kernel_rfl) (e:=Extern.BytealgCompare.compare) (by kernel_rfl),Lib.run_compareString];simp only[Result.andThen];rw[Oper.upon_value];go_wp2_with fail;go_ret;exact⟨rfl,rfl⟩
theorem QcQ(w:World)(a b:ByteArray):Calls prog 130 #[.string a,.string b] w λe w'=>e=.returned (.int .i64 (Qbn a b))/\w=w':=by
 have h:=Qic w a b;go_in;go_wp2_with fail;refine h.mono ?_;rintro e w1 ⟨rfl,rfl⟩;go_wp2_with fail;go_ret;exact⟨rfl,rfl⟩
theorem QrA(w:World)(b:Bool):Calls prog 128 #[.bool b] w λe w'=>e=.returned (.int .i64 (if b then 1 else 0))/\w=w':=by
 cases b
 all_goals
  go_in;go_wp2_with fail;go_ret;exact⟨rfl,rfl⟩
theorem Qe1(w:World)(a:Int):Calls prog 186 #[.int .i64 a] w λe w'=>e=.returned (.bool false)/\w=w':=by
 go_in;go_wp2_with fail;go_ret;exact⟨by simp,rfl⟩
theorem QgD(w:World)(a b:Int):Calls prog 127 #[.int .i64 a,.int .i64 b] w λe w'=>e=.returned (.int .i64 (Qcp a b))/\w=w':=by
 have I:=Qe1 w a;have J:=Qe1 w b;have z:(Qcp a b = -1/\a<b)\/(Qcp a b=1/\¬a<b/\b<a)\/(Qcp a b=0/\¬a<b/\¬b<a):=by
  unfold Qcp;split
  .exact .inl ⟨rfl,by assumption⟩
  split
  .exact .inr (.inl ⟨rfl,by assumption,by assumption⟩)
  exact .inr (.inr ⟨rfl,by assumption,by assumption⟩)
 rcases z with⟨D,h1⟩ |⟨D,h1,h2⟩ |⟨D,h1,h2⟩
 all_goals
  rw[D];clear D;go_in;go_wp2_with fail;refine I.mono ?_;rintro e w1 ⟨rfl,rfl⟩;go_wp2_with fail;refine J.mono ?_;rintro e w1 ⟨rfl,rfl⟩;go_wp2_with fail;go_ret;exact⟨rfl,rfl⟩
theorem Qep(w:World)(a:Int):Calls prog 187 #[.int .i64 a] w λe w'=>e=.returned (.bool false)/\w=w':=by
 go_in;go_wp2_with fail;go_ret;exact⟨by simp,rfl⟩
theorem QfS(w:World)(a b:Int):Calls prog 129 #[.int .i64 a,.int .i64 b] w λe w'=>e=.returned (.int .i64 (Qcp a b))/\w=w':=by
 have I:=Qep w a;have J:=Qep w b;have z:(Qcp a b = -1/\a<b)\/(Qcp a b=1/\¬a<b/\b<a)\/(Qcp a b=0/\¬a<b/\¬b<a):=by
  unfold Qcp;split
  .exact .inl ⟨rfl,by assumption⟩
  split
  .exact .inr (.inl ⟨rfl,by assumption,by assumption⟩)
  exact .inr (.inr ⟨rfl,by assumption,by assumption⟩)
 rcases z with⟨D,h1⟩ |⟨D,h1,h2⟩ |⟨D,h1,h2⟩
 all_goals
  rw[D];clear D;go_in;go_wp2_with fail;refine I.mono ?_;rintro e w1 ⟨rfl,rfl⟩;go_wp2_with fail;refine J.mono ?_;rintro e w1 ⟨rfl,rfl⟩;go_wp2_with fail;go_ret;exact⟨rfl,rfl⟩
theorem QfE(w:World)(a:Int):Calls prog 220 #[.int .i64 a] w λe w'=>e=.returned (.bool false)/\w=w':=by
 go_in;go_wp2_with fail;go_ret;exact⟨by simp,rfl⟩
theorem Qen(w:World)(a b:Int):Calls prog 189 #[.int .i64 a,.int .i64 b] w λe w'=>e=.returned (.int .i64 (Qcp a b))/\w=w':=by
 have I:=QfE w a;have J:=QfE w b;have z:(Qcp a b = -1/\a<b)\/(Qcp a b=1/\¬a<b/\b<a)\/(Qcp a b=0/\¬a<b/\¬b<a):=by
  unfold Qcp;split
  .exact .inl ⟨rfl,by assumption⟩
  split
  .exact .inr (.inl ⟨rfl,by assumption,by assumption⟩)
  exact .inr (.inr ⟨rfl,by assumption,by assumption⟩)
 rcases z with⟨D,h1⟩ |⟨D,h1,h2⟩ |⟨D,h1,h2⟩
 all_goals
  rw[D];clear D;go_in;go_wp2_with fail;refine I.mono ?_;rintro e w1 ⟨rfl,rfl⟩;go_wp2_with fail;refine J.mono ?_;rintro e w1 ⟨rfl,rfl⟩;go_wp2_with fail;go_ret;exact⟨rfl,rfl⟩
def Qqp(m:Nat):Prop:=∀(x y:Val),SizeOf.sizeOf x<=m->∀(w:World) (sl so sl' so':Sl),RV w (Lt w.heap.size) x sl so->RV w (Lt w.heap.size) y sl' so'->Calls prog 87 #[aggV x sl so,aggV y sl' so'] w (QbX (Qbo x y) w)
theorem QjJ(a b:Nat):∃c:Nat,(if a<b then(a:Int)else(b:Int))=(c:Int)/\(if b<a then(b:Int)else(a:Int))=(c:Int)/\c<=a/\c<=b/\(c=a\/c=b):=by
 by_cases h:a<b
 .exact ⟨a,by rw[em h],by rw[ef (by omega)],by omega,by omega,.inl rfl⟩
 by_cases z:b<a
 .exact ⟨b,by rw[ef h],by rw[em z],by omega,by omega,.inr rfl⟩
 exact⟨a,by rw[ef h];omega,by rw[ef z],by omega,by omega,.inl rfl⟩
variable{w:World}{sl so sl' so':Sl}
theorem QqQ{m:Nat}(a2:Qqp m){x y:Val}(hd:SizeOf.sizeOf x<=m+1)(h:RV w (Lt w.heap.size) x sl so)(h':RV w (Lt w.heap.size) y sl' so') :
  Calls prog 131 #[.slice sl.a x.l.length sl.c,.slice sl'.a y.l.length sl'.c,.func (.func 87) #[] #[]] w (QbX (cmpL x.l y.l) w):=by
 have HI:=hY a2;clear a2;obtain⟨k,b,i,t,l,ok,ov⟩:=x;obtain⟨k',b',i',t',L,d4,d7⟩:=y;show Calls _ _ #[.slice sl.a l.length sl.c,.slice sl'.a L.length sl'.c,_] _ (QbX (cmpL l L) w);cases h with
 |mk bl fl bo fo cl co hl ho hov el rl ek eo ro bk bi bt nl no=>
 cases h' with
 |mk bl' fl' bo' fo' cl' co' hl' ho' hov' el' rl' ek' eo' ro' bk' bi' bt' nl' no'=>
 have a6:∀(j:Nat) (d:Val),l[j]? = some d->SizeOf.sizeOf d<=m:=λj d hj=>bq (ab (Val.Qqm hj) hd)
 have c2:=hY a6;have b8:=hY el;have b7:=hY rl;have a9:=hY el';have b4:=hY rl';clear a6 el rl ek eo ro hov hd el' rl' ek' eo' ro' hov';have d0:l.length<=140737488355328:=by omega
 have c6:L.length<=140737488355328:=by omega
 obtain⟨mn,c1,b5,c3,c4,c7⟩:=QjJ l.length L.length;go_in;go_wp2_with fail;clear c1 b5;go_loopw[14] (λq wr=>∃j:Nat,q=.int .i64 j/\j<=mn/\cmpL l L=cmpL (l.drop j) (L.drop j)/\Ext w wr) (λq _=>mn -(intOf q).toNat)
 case atStart=>exact⟨0,rfl,av _,rfl,fu w⟩
 obtain⟨j,rfl,hj,hp,R⟩:=hrel;have HP:=hY hp;have HX:=hY R;by_cases h1:j<mn
 ·have g1:(j:Int)<(mn:Int):=by omega
  have g2:(j:Int)<(l.length:Int):=by omega
  have g3:(j:Int)<(L.length:Int):=by omega
  obtain⟨d,hd⟩:∃d,l[j]? = some d:=⟨_,ac (by omega)⟩;obtain⟨d',U⟩:∃d,L[j]? = some d:=⟨_,ac (by omega)⟩;have HD:=hY (Qjb hd U);have J:Agree (Lt w.heap.size) w wr:=R.agree λ_ h=>h
  obtain⟨sa,sc⟩:=sl;obtain⟨d6,d3⟩:=sl';obtain⟨rfl,d5,b3⟩:=hl.eq (by omega);obtain⟨rfl,c8,c9⟩:=hl'.eq (by omega);have X:=hl.fits (by omega);have N:=hl'.fits (by omega);obtain⟨v0,v1,v2,v3,v4,v5⟩:=(b8.o j d hd).agree J X;obtain⟨a8,a0,a3,a1,a5,a7⟩:=(a9.o j d' U).agree J N;have b6:=hY (λ(W:World) (D:Ext wr W)=>
   HI.o d d' (c2.o j d hd) W _ _ _ _ (((b7.o j d hd).agree (J.trans (D.agree λ_ h=>ab h R.size))).mono λi hi=>ab hi (aj R.size D.size))
    (((b4.o j d' U).agree (J.trans (D.agree λ_ h=>ab h R.size))).mono λi hi=>ab hi (aj R.size D.size)))
  have Y:bl<wr.heap.size:=ab X R.size;have I:bl'<wr.heap.size:=ab N R.size;have z:=hY (show ∀W,Ext wr W->W.cell? ⟨bl,fl+j*6,none⟩=some (.int .i64 d.kind)/\W.cell? ⟨bl,fl+j*6+1,none⟩=some (.bool d.b)/\W.cell? ⟨bl,fl+j*6+2,none⟩=some (.int .i64 d.i)/\W.cell? ⟨bl,fl+j*6+3,none⟩=some (.string d.t)/\W.cell? ⟨bl,fl+j*6+4,none⟩=some (.slice (cl j).1.a d.l.length (cl j).1.c)/\W.cell? ⟨bl,fl+j*6+5,none⟩=some (.slice (cl j).2.a d.ok.length (cl j).2.c)/\W.cell? ⟨bl',fl'+j*6,none⟩=some (.int .i64 d'.kind)/\W.cell? ⟨bl',fl'+j*6+1,none⟩=some (.bool d'.b)/\W.cell? ⟨bl',fl'+j*6+2,none⟩=some (.int .i64 d'.i)/\W.cell? ⟨bl',fl'+j*6+3,none⟩=some (.string d'.t)/\W.cell? ⟨bl',fl'+j*6+4,none⟩=some (.slice (cl' j).1.a d'.l.length (cl' j).1.c)/\W.cell? ⟨bl',fl'+j*6+5,none⟩=some (.slice (cl' j).2.a d'.ok.length (cl' j).2.c)from
   λW D=>⟨(D.cell Y).trans v0,(D.cell Y).trans v1,(D.cell Y).trans v2,(D.cell Y).trans v3,(D.cell Y).trans v4,(D.cell Y).trans v5,(D.cell I).trans a8,(D.cell I).trans a0,(D.cell I).trans a3,(D.cell I).trans a1,(D.cell I).trans a5,(D.cell I).trans a7⟩)
  clear hp R hd U J X N v0 v1 v2 v3 v4 v5 a8 a0 a3 a1 a5 a7;go_wp2_with fail;refine ez (S:=(λw'=>Ext wr w')) (by kernel_rfl) (((fu wr).drew)) (λhHeld=>?_);refine Qad 0 (some 17) z hHeld ?_;refine Qad 1 (some 18) z hHeld ?_;refine Qad 2 (some 19) z hHeld ?_;refine Qad 3 (some 20) z hHeld ?_;refine Qad 4 (some 21) z hHeld ?_;refine Qad 5 (some 22) z hHeld ?_;refine Qad 6 (some 23) z hHeld ?_;refine Qad 7 (some 24) z hHeld ?_;refine Qad 8 (some 25) z hHeld ?_;refine Qag (i:=9) (by kernel_rfl) rfl (by rfl) (λK hK=>?_);go_simp
  (refine(b6.o _ hHeld).mono ?_;rintro e w2 ⟨rfl,a4⟩)
  refine hK.out _ _ (hHeld.trans a4) (λhHeld=>?_);clear hK K
  try simp only[Act.put,List.setIfInBounds_toArray,List.set_cons_zero,List.set_cons_succ]
  refine Qad 10 (some 8) z hHeld ?_;refine eE (by kernel_rfl) ?_ _;have b0:=hY (HX.o.trans hHeld);clear hHeld a4;by_cases Z:Qbo d d'=0
  ·have c0:(Qbo d d' != 0)=false:=by simp [Z]
   have HC:=hY Z;clear Z;go_wp2_with fail;go_roundw
   case rel=>exact⟨j+1,by go_num,h1,by rw[HP.o,HD.o,ef (by simp[HC.o])],b0.o⟩
   simp[intOf];omega
  have c0:(Qbo d d' != 0)=true:=eK.2 Z;have HC:=hY Z;clear Z;go_wp2_with fail;go_ret;rw[HP.o,HD.o,em HC.o];exact⟨rfl,b0.o⟩
 have g1:¬(j:Int)<(mn:Int):=by omega
 have HE:=hY (Qia (l:=l) (l':=L) (j:=j) (by omega) (by omega) (by omega));have b3:=Qen wr (l.length:Int) (L.length:Int);clear hp R;go_wp2_with fail;refine b3.mono ?_;rintro e w2 ⟨rfl,rfl⟩;go_wp2_with fail;go_ret;rw[HP.o,HE.o];exact⟨rfl,HX.o⟩
def Qrc(x y:ByteArray)(d d':Val):Int:=if Qbn x y≠0 then Qbn x y else Qbo d d'
variable{j:Nat}
theorem QmE{l l':List Val}{k k':List ByteArray}{a b:Val}{x y:ByteArray}(z:l[j]? = some a)(J:l'[j]? = some b)(I:k[j]? = some x)(D:k'[j]? = some y) :
  Qfe (l.drop j) (k.drop j) (k'.drop j) (l'.drop j)=if Qrc x y a b≠0 then Qrc x y a b else Qfe (l.drop (j+1)) (k.drop (j+1)) (k'.drop (j+1)) (l'.drop (j+1)):=by
 rw[Qjc z J I D];unfold Qrc;by_cases h:Qbn x y=0<;>simp[h]
abbrev Qux(k:ByteArray)(d:Val)(sl so:Sl):Value:=.agg #[.string k,.int .i64 d.kind,.bool d.b,.int .i64 d.i,.string d.t,.slice sl.a d.l.length sl.c,.slice so.a d.ok.length so.c]
theorem QkW{m:Nat}(D:Qqp m){d d':Val}(hd:SizeOf.sizeOf d<=m){x y:ByteArray}(h:RV w (Lt w) d sl so)(U:RV w (Lt w) d' sl' so') :
  Calls prog 133 #[Qux x d sl so,Qux y d' sl' so'] w (QbX (Qrc x y d d') w):=by
 have N:=hY (λ(W:World) (J:Ext w W)=>D d d' hd W _ _ _ _ ((h.agree (J.agree λ_ h=>h)).mono λi hi=>ab hi J.size) ((U.agree (J.agree λ_ h=>h)).mono λi hi=>ab hi J.size));have R:=hY (λW=>QcQ W x y);clear D h U hd;by_cases z:Qbn x y=0
 ·have I:Qrc x y d d'=Qbo d d':=by simp [Qrc,z]
  have L:(Qbn x y != 0)=false:=by simp[z]
  rw[I];clear I z;go_in;go_wp2_with fail;refine(R.o _).mono ?_;rintro e w1 ⟨rfl,rfl⟩;go_wp2_with fail;refine(N.o _ (((fu w).alloc _ _).alloc _ _)).mono ?_;rintro e w1 ⟨rfl,X⟩;have Y:=hY ((((fu w).alloc _ _).alloc _ _).trans X);clear X;go_wp2_with fail;go_ret;exact⟨rfl,Y.o⟩
 have I:Qrc x y d d'=Qbn x y:=by simp[Qrc,z]
 have L:(Qbn x y != 0)=true:=eK.2 z;rw[I];clear I z;go_in;go_wp2_with fail;refine(R.o _).mono ?_;rintro e w1 ⟨rfl,rfl⟩;go_wp2_with fail;go_ret;exact⟨rfl,((fu w).alloc _ _).alloc _ _⟩
theorem QqP{m:Nat}(a6:Qqp m){x y:Val}(hd:SizeOf.sizeOf x<=m+1)(h:RV w (Lt w.heap.size) x sl so)(h':RV w (Lt w.heap.size) y sl' so') :
  Calls prog 132 #[.slice so.a x.ok.length so.c,.slice so'.a y.ok.length so'.c,.func (.func 133) #[] #[]] w (QbX (Qfe x.ov x.ok y.ok y.ov) w):=by
 have HI:=hY a6;clear a6;obtain⟨k,b,i,t,l,ok,ov⟩:=x;obtain⟨k',b',i',t',l',D,X⟩:=y;show Calls _ _ #[.slice so.a ok.length so.c,.slice so'.a D.length so'.c,_] _ (QbX (Qfe ov ok D X) w);cases h with
 |mk bl fl bo fo cl co hl ho hov el rl ek eo ro bk bi bt nl no=>
 cases h' with
 |mk bo' fo' bo' fo' cl' co' hl' ho' hov' el' rl' ek' eo' ro' bk' bi' bt' nl' no'=>
 have c0:∀(j:Nat) (d:Val),ov[j]? = some d->SizeOf.sizeOf d<=m:=λj d hj=>bq (ab (Val.Qqn hj) hd)
 have c3:=hY c0;have c6:=hY eo;have c4:=hY ro;have a4:=hY eo';have b3:=hY ro';have c8:=hY ek;have c1:=hY ek';have a1:=hY hov;have N:=hY hov';clear c0 el rl ek eo ro hov hd el' rl' ek' eo' ro' hov';have e0:ok.length<=140737488355328:=by omega
 have d5:D.length<=140737488355328:=by omega
 obtain⟨mn,d0,c7,d3,d4,d6⟩:=QjJ ok.length D.length;go_in;go_wp2_with fail;clear d0 c7;go_loopw[14] (λq wr=>∃j:Nat,q=.int .i64 j/\j<=mn/\Qfe ov ok D X=Qfe (ov.drop j) (ok.drop j) (D.drop j) (X.drop j)/\Ext w wr) (λq _=>mn -(intOf q).toNat)
 case atStart=>exact⟨0,rfl,av _,rfl,fu w⟩
 obtain⟨j,rfl,hj,hp,Y⟩:=hrel;have HP:=hY hp;have HX:=hY Y;by_cases h1:j<mn
 ·have g1:(j:Int)<(mn:Int):=by omega
  have g2:(j:Int)<(ok.length:Int):=by omega
  have g3:(j:Int)<(D.length:Int):=by omega
  obtain⟨d,hd⟩:∃d,ov[j]? = some d:=⟨_,ac (by rw[a1.o];omega)⟩;obtain⟨x,a2⟩:∃d,ok[j]? = some d:=⟨_,ac (by omega)⟩;obtain⟨x',U⟩:∃d,D[j]? = some d:=⟨_,ac (by omega)⟩;obtain⟨d',a0⟩:∃d,X[j]? = some d:=⟨_,ac (by rw[N.o];omega)⟩;have HD:=hY (QmE hd a0 a2 U);have L:Agree (Lt w.heap.size) w wr:=Y.agree λ_ h=>h
  obtain⟨sa,sc⟩:=so;obtain⟨e3,e1⟩:=so';obtain⟨rfl,e2,b8⟩:=ho.eq (by omega);obtain⟨rfl,d7,d8⟩:=ho'.eq (by omega);have Z:=ho.fits (by omega);have R:=ho'.fits (by omega);obtain⟨v0,v1,v2,v3,v4,v5⟩:=(c6.o j d hd).agree L Z;obtain⟨b5,a3,a7,a5,b0,b4⟩:=(a4.o j d' a0).agree L R;have kx:=(L.cell Z).trans (c8.o j x a2).1;have c2:=(L.cell R).trans (c1.o j x' U).1;obtain⟨c,b6⟩:∃c,Qrc x x' d d'=c:=⟨_,rfl⟩;have a9:=hY (λ(W:World) (I:Ext wr W)=>
   QkW HI.o (c3.o j d hd) (x:=x) (y:=x') (((c4.o j d hd).agree (L.trans (I.agree λ_ h=>ab h Y.size))).mono λi hi=>ab hi (aj Y.size I.size))
    (((b3.o j d' a0).agree (L.trans (I.agree λ_ h=>ab h Y.size))).mono λi hi=>ab hi (aj Y.size I.size)))
  have lb:bo<wr.heap.size:=ab Z Y.size;have J:bo'<wr.heap.size:=ab R Y.size;have z:=hY (show ∀W,Ext wr W->W.cell? ⟨bo,fo+j*7,none⟩=some (.string x)/\W.cell? ⟨bo,fo+j*7+1,none⟩=some (.int .i64 d.kind)/\W.cell? ⟨bo,fo+j*7+2,none⟩=some (.bool d.b)/\W.cell? ⟨bo,fo+j*7+3,none⟩=some (.int .i64 d.i)/\W.cell? ⟨bo,fo+j*7+4,none⟩=some (.string d.t)/\W.cell? ⟨bo,fo+j*7+5,none⟩=some (.slice (co j).1.a d.l.length (co j).1.c)/\W.cell? ⟨bo,fo+j*7+6,none⟩=some (.slice (co j).2.a d.ok.length (co j).2.c)/\W.cell? ⟨bo',fo'+j*7,none⟩=some (.string x')/\W.cell? ⟨bo',fo'+j*7+1,none⟩=some (.int .i64 d'.kind)/\W.cell? ⟨bo',fo'+j*7+2,none⟩=some (.bool d'.b)/\W.cell? ⟨bo',fo'+j*7+3,none⟩=some (.int .i64 d'.i)/\W.cell? ⟨bo',fo'+j*7+4,none⟩=some (.string d'.t)/\W.cell? ⟨bo',fo'+j*7+5,none⟩=some (.slice (co' j).1.a d'.l.length (co' j).1.c)/\W.cell? ⟨bo',fo'+j*7+6,none⟩=some (.slice (co' j).2.a d'.ok.length (co' j).2.c)from
   λW I=>⟨(I.cell lb).trans kx,(I.cell lb).trans v0,(I.cell lb).trans v1,(I.cell lb).trans v2,(I.cell lb).trans v3,(I.cell lb).trans v4,(I.cell lb).trans v5,(I.cell J).trans c2,(I.cell J).trans b5,(I.cell J).trans a3,(I.cell J).trans a7,(I.cell J).trans a5,(I.cell J).trans b0,(I.cell J).trans b4⟩)
  rw[b6]at HD a9;clear b6 kx c2 a2 U hp Y hd a0 L Z R v0 v1 v2 v3 v4 v5 b5 a3 a7 a5 b0 b4;go_wp2_with fail;refine ez (S:=(λw'=>Ext wr w')) (by kernel_rfl) (((fu wr).drew)) (λhHeld=>?_);refine Qad 0 (some 17) z hHeld ?_;refine Qad 1 (some 18) z hHeld ?_;refine Qad 2 (some 19) z hHeld ?_;refine Qad 3 (some 20) z hHeld ?_;refine Qad 4 (some 21) z hHeld ?_;refine Qad 5 (some 22) z hHeld ?_;refine Qad 6 (some 23) z hHeld ?_;refine Qad 7 (some 24) z hHeld ?_;refine Qad 8 (some 25) z hHeld ?_;refine Qag (i:=9) (by kernel_rfl) rfl (by rfl) (λK hK=>?_);go_simp
  (refine(a9.o _ hHeld).mono ?_;rintro e w2 ⟨rfl,a8⟩)
  refine hK.out _ _ (hHeld.trans a8) (λhHeld=>?_);clear hK K
  try simp only[Act.put,List.setIfInBounds_toArray,List.set_cons_zero,List.set_cons_succ]
  refine Qad 10 (some 8) z hHeld ?_;refine eE (by kernel_rfl) ?_ _;have b7:=hY (HX.o.trans hHeld);clear hHeld a8;by_cases hc:c=0
  ·have c9:(c != 0)=false:=by simp [hc]
   have HC:=hY hc;clear hc;go_wp2_with fail;go_roundw
   case rel=>exact⟨j+1,by go_num,h1,by rw[HP.o,HD.o,ef (by simp[HC.o])],b7.o⟩
   simp[intOf];omega
  have c9:(c != 0)=true:=eK.2 hc;have HC:=hY hc;clear hc;go_wp2_with fail;go_ret;rw[HP.o,HD.o,em HC.o];exact⟨rfl,b7.o⟩
 have g1:¬(j:Int)<(mn:Int):=by omega
 have HE:=hY (Qib (l:=ov) (l':=X) (k:=ok) (k':=D) (j:=j) (by rw[a1.o,N.o];omega) (by rw[a1.o];omega) (by rw[N.o];omega));have b8:=Qen wr (ok.length:Int) (D.length:Int);clear hp Y;go_wp2_with fail;refine b8.mono ?_;rintro e w2 ⟨rfl,rfl⟩;go_wp2_with fail;go_ret;rw[HP.o,HE.o,a1.o,N.o];exact⟨rfl,HX.o⟩
def Qkz(b:Bool):Int:=if b then 1 else 0
theorem Qn8(a b:Bool):Qcp (Qkz a) (Qkz b)=Qi7 a b:=by cases a<;>cases b<;>rfl
structure BxS(w:World)(b b':Bool)(W:World):Prop where
 ext:Ext w W
 b0:∃v0 v2 v3 v4 v5,Blk W w.heap.size 28 #[v0,.bool b,v2,v3,v4,v5]
 b1:∃v0 v2 v3 v4 v5,Blk W (w.heap.size+1) 28 #[v0,.bool b',v2,v3,v4,v5]
variable{W:World}
theorem BxS.drew{b z:Bool}(h:BxS w b z W):BxS w b z W.drew:=by
 obtain⟨h1,⟨R,Y,L,J,Z,D⟩,⟨c0,U,N,X,c5,I⟩⟩:=h;exact⟨h1.drew,⟨_,_,_,_,_,D.ext ((fu W).drew)⟩,⟨_,_,_,_,_,I.ext ((fu W).drew)⟩⟩
theorem BxS.at0{b D:Bool}(h:BxS w b D W):∃u,W.cell? ⟨w,2,none⟩=some u/\W.frozen? ⟨w,2,none⟩=false/\w.heap.size<W.heap.size:=by
 obtain⟨h1,⟨R,L,J,I,N,z⟩,-⟩:=h;exact⟨_,z.cell 2,z.frozen 2,z.lt⟩
theorem BxS.at1{b D:Bool}(h:BxS w b D W):∃u,W.cell? ⟨w+1,2,none⟩=some u/\W.frozen? ⟨w+1,2,none⟩=false/\w.heap.size+1<W.heap.size:=by
 obtain⟨h1,-,⟨R,L,J,I,N,z⟩⟩:=h;exact⟨_,z.cell 2,z.frozen 2,z.lt⟩
theorem BxS.set0{b z:Bool}(h:BxS w b z W)(v:Value):BxS w b z (W.setCell ⟨w,2,none⟩ v):=by
 obtain⟨h1,⟨R,Y,L,J,Z,D⟩,⟨c0,U,N,X,c5,I⟩⟩:=h;exact⟨h1.setCell (p:=⟨w,2,none⟩) (an _) v,⟨_,_,_,_,_,D.Qdz 2 v⟩,⟨_,_,_,_,_,((St.refl (λb=>b=w.heap.size) W).set (p:=⟨w,2,none⟩) (.inr rfl) v).blk I (by omega)⟩⟩
theorem BxS.set1{b z:Bool}(h:BxS w b z W)(v:Value):BxS w b z (W.setCell ⟨w+1,2,none⟩ v):=by
 obtain⟨h1,⟨R,Y,L,J,Z,D⟩,⟨c0,U,N,X,c5,I⟩⟩:=h;exact⟨h1.setCell (p:=⟨w+1,2,none⟩) (by simp) v,⟨_,_,_,_,_,((St.refl (λb=>b=w.heap.size+1) W).set (p:=⟨w+1,2,none⟩) (.inr rfl) v).blk D (by omega)⟩,⟨_,_,_,_,_,I.Qdz 2 v⟩⟩
theorem BxS.ends{b N:Bool}(h:BxS w b N W)(v z:Value):((W.setCell ⟨w,2,none⟩ v).setCell ⟨w+1,2,none⟩ z).cell? ⟨w,2,none⟩=some v/\((W.setCell ⟨w,2,none⟩ v).setCell ⟨w+1,2,none⟩ z).cell? ⟨w+1,2,none⟩=some z:=by
 obtain⟨h1,⟨a0,a2,X,U,a5,Y⟩,-⟩:=h.set0 v;obtain⟨-,⟨b0,b2,b3,b4,b5,L⟩,⟨c0,c2,Z,c4,c5,R⟩⟩:=h;have D:=((St.refl (λb=>b=w.heap.size) W).set (p:=⟨w,2,none⟩) (.inr rfl) v).blk R (by omega);have I:=L.Qdz 2 v;have J:=((St.refl (λb=>b=w.heap.size+1) (W.setCell ⟨w,2,none⟩ v)).set (p:=⟨w+1,2,none⟩) (.inr rfl) z).blk I (by omega);exact⟨J.cell 2,(D.Qdz 2 z).cell 2⟩
theorem QpI(w:World)(b:Bool):Calls prog 128 #[.bool b] w λe w'=>e=.returned (.int .i64 (Qkz b))/\w=w':=QrA w b
theorem Qsl(m:Nat):Qqp m:=by
 induction m with
 |zero=>intro d y hd;have:=Val.Qb7 d;omega
 |succ m ih=>
 intro x y hd w sl so sl' so' h h';have hv:=λ(W:World) (I:Ext w W)=>QqQ ih hd ((h.agree (I.agree λ_ h=>h)).mono λi hi=>ab hi I.size) ((h'.agree (I.agree λ_ h=>h)).mono λi hi=>ab hi I.size)
 have hm:=λ(W:World) (I:Ext w W)=>QqP ih hd ((h.agree (I.agree λ_ h=>h)).mono λi hi=>ab hi I.size) ((h'.agree (I.agree λ_ h=>h)).mono λi hi=>ab hi I.size)
 clear ih h h' hd;obtain⟨k,b,i,t,l,Z,ov⟩:=x;obtain⟨X,L,i',t',l',J,Y⟩:=y;have HV:=hY (show ∀(W:World) (I:Ext w W),Calls prog 131 #[.slice sl.a l.length sl.c,.slice sl'.a l'.length sl'.c,.func (.func 87) #[] #[]] W (QbX (cmpL l l') W)from hv);have HM:=hY (show ∀(W:World) (I:Ext w W),Calls prog 132 #[.slice so.a Z.length so.c,.slice so'.a J.length so'.c,.func (.func 133) #[] #[]] W (QbX (Qfe ov Z J Y) W)from hm);show Calls _ _ #[.agg #[.int .i64 k,.bool b,.int .i64 i,.string t,.slice sl.a l.length sl.c,.slice so.a Z.length so.c],.agg #[.int .i64 X,.bool L,.int .i64 i',.string t',.slice sl'.a l'.length sl'.c,.slice so'.a J.length so'.c]] _ _;have a7:Qbo (.mk k b i t l Z ov) (.mk X L i' t' l' J Y)=if k≠X then Qcp k X else if k=2 then Qi7 b L else if k=3 then Qcp i i' else if k=4 then Qbn t t' else if k=5 then cmpL l l' else if k=6 then Qfe ov Z J Y else 0:=by
  simp only[Qbo,Val.kind,Val.b,Val.i,Val.t,Val.l,Val.ok,Val.ov];rfl
 rw[a7];clear a7 hv hm;have b0:Ext w ((w.alloc (.cells #[.int .i64 k,.bool b,.int .i64 i,.string t,.slice sl.a l.length sl.c,.slice so.a Z.length so.c] 28)).alloc (.cells #[.int .i64 X,.bool L,.int .i64 i',.string t',.slice sl'.a l'.length sl'.c,.slice so'.a J.length so'.c] 28)):=((fu w).alloc _ _).alloc _ _;have z:=hY b0;have HK:=hY (λW=>QgD W k X);have HI:=hY (λW a b=>QfS W a b);have HT:=hY (λW=>QcQ W t t');have HR:=hY (λW (b:Bool)=>QpI W b);clear b0;by_cases R:k=X
 ·subst R
  have b6:(k != k)=false:=by simp
  rw[ef (by simp)];by_cases h2:k=2
  ·subst h2
   rw[em rfl,<-Qn8];clear z;go_in;go_wp2_with fail;generalize a9:World.alloc (World.alloc _ _) _=W0;obtain⟨b4,b5,a6,a1⟩:=Qap w _ _ _ _ W0 a9;clear a9;have a8:BxS w b L W0:=⟨b4,⟨_,_,_,_,_,a6⟩,⟨_,_,_,_,_,a1⟩⟩;have D:=hY (show ∀W,BxS w b L W->W.cell? ⟨w.heap.size,1,none⟩=some (.bool b)/\W.cell? ⟨w.heap.size+1,1,none⟩=some (.bool L) fromλW I=>by
    obtain⟨-,⟨a0,a2,a3,a4,a5,ha⟩,⟨c0,c2,c3,c4,c5,hc⟩⟩:=I;exact⟨ha.cell 1,hc.cell 1⟩)
   have b3:=hY a8;clear b4 a6 a1 a8 b5;refine ez (S:=(λw'=>BxS w b L w')) (by kernel_rfl) ((b3.o.drew)) (λhHeld=>?_);refine Qad 0 (some 27) D hHeld ?_;refine Qad 1 (some 28) D hHeld ?_;refine Qad 3 (some 30) D hHeld ?_;refine Qad 4 (some 31) D hHeld ?_;refine Qag (i:=2) (by kernel_rfl) rfl (by rfl) (λK N=>?_);go_simp
   (refine(HR.o _ b).mono ?_;rintro e w1 ⟨rfl,rfl⟩)
   refine N.out _ _ (hHeld) (λhHeld=>?_);clear N K
   try simp only[Act.put,List.setIfInBounds_toArray,List.set_cons_zero,List.set_cons_succ]
   refine Qad 6 (some 33) D hHeld ?_;refine Qag (i:=5) (by kernel_rfl) rfl (by rfl) (λK N=>?_);go_simp
   (refine(HR.o _ L).mono ?_;rintro e w1 ⟨rfl,rfl⟩)
   refine N.out _ _ (hHeld) (λhHeld=>?_);clear N K
   try simp only[Act.put,List.setIfInBounds_toArray,List.set_cons_zero,List.set_cons_succ]
   obtain⟨u7,c7,f7,l7⟩:=hHeld.at0;refine Qag (i:=7) (by kernel_rfl) rfl (by rfl) (λK N=>?_);go_simp
   skip
   refine N.out _ _ (hHeld.set0 _) (λhHeld=>?_);clear N K
   try simp only[Act.put,List.setIfInBounds_toArray,List.set_cons_zero,List.set_cons_succ]
   refine Qad 8 (some 34) D hHeld ?_;obtain⟨u9,c9,f9,l9⟩:=hHeld.at1;refine Qag (i:=9) (by kernel_rfl) rfl (by rfl) (λK N=>?_);go_simp
   skip
   refine N.out _ _ (hHeld.set1 _) (λhHeld=>?_);clear N K
   try simp only[Act.put,List.setIfInBounds_toArray,List.set_cons_zero,List.set_cons_succ]
   refine eE (by kernel_rfl) ?_ _;have HH:=hY hHeld;obtain⟨q0,q1⟩:=b3.o.ends (.int .i64 (Qkz b)) (.int .i64 (Qkz L));clear hHeld;generalize (W0.setCell ⟨w.heap.size,2,none⟩ (.int .i64 (Qkz b))).setCell ⟨w.heap.size+1,2,none⟩ (.int .i64 (Qkz L))=W9 at *;go_wp2_with fail;refine(HI.o _ _ _).mono ?_;rintro e w2 ⟨rfl,rfl⟩;go_wp2_with fail;go_ret;exact⟨rfl,HH.o.ext⟩
  have b7:(k==2)=false:=eu.2 h2;by_cases U:k=3
  ·subst U
   rw[ef h2,em rfl];clear h2;go_in;go_wp2_with fail;refine(HI.o _ _ _).mono ?_;rintro e w2 ⟨rfl,rfl⟩;go_wp2_with fail;go_ret;exact⟨rfl,z.o⟩
  have c6:(k==3)=false:=eu.2 U;by_cases h4:k=4
  ·subst h4
   rw[ef h2,ef U,em rfl];clear h2 U;go_in;go_wp2_with fail;refine(HT.o _).mono ?_;rintro e w2 ⟨rfl,rfl⟩;go_wp2_with fail;go_ret;exact⟨rfl,z.o⟩
  have b8:(k==4)=false:=eu.2 h4;rw[ef h2,ef U,ef h4];by_cases h5:k=5
  ·subst h5
   rw[em rfl];clear h2 U h4;go_in;go_wp2_with fail;refine(HV.o _ z.o).mono ?_;rintro e w2 ⟨rfl,hx⟩;have HX:=hY hx;clear hx;go_wp2_with fail;go_ret;exact⟨rfl,z.o.trans HX.o⟩
  have c1:(k==5)=false:=eu.2 h5;rw[ef h5];by_cases h6:k=6
  ·subst h6
   rw[em rfl];clear h2 U h4 h5;go_in;go_wp2_with fail;refine(HM.o _ z.o).mono ?_;rintro e w2 ⟨rfl,hx⟩;have HX:=hY hx;clear hx;go_wp2_with fail;go_ret;exact⟨rfl,z.o.trans HX.o⟩
  have c8:(k==6)=false:=eu.2 h6;rw[ef h6];clear h2 U h4 h5 h6;go_in;go_wp2_with fail;go_ret;exact⟨rfl,z.o⟩
 have b6:(k != X)=true:=eK.2 R;rw[em R];clear R;go_in;go_wp2_with fail;refine(HK.o _).mono ?_;rintro e w2 ⟨rfl,rfl⟩;go_wp2_with fail;go_ret;exact⟨rfl,z.o⟩
def Holds(keep f:Nat)(xs ring:List Value):Prop:=∀j,j<xs.length->xs.length<=j+keep->ring[(f+j)%keep]? = xs[j]?
def pk(i:Int):Nat:=(IntKind.u64.wrap i%5).toNat
theorem QaL.det{b o:Nat}{d d':Val}(h:QaL w b o d sl so)(z:QaL w b o d' sl' so') :
  d.kind=d'.kind/\d.b=d'.b/\d.i=d'.i/\d.t=d'.t/\d.l.length=d'.l.length/\d.ok.length=d'.ok.length/\sl=sl'/\so=so':=by
 have I:=h.c0.symm.trans z.c0;have N:=h.c1.symm.trans z.c1;have L:=h.c2.symm.trans z.c2;have J:=h.c3.symm.trans z.c3;have D:=h.c4.symm.trans z.c4;have e5:=h.c5.symm.trans z.c5;obtain⟨a,c⟩:=sl;obtain⟨Y,R⟩:=sl';obtain⟨f,g⟩:=so;obtain⟨X,U⟩:=so';simp only[Option.some.injEq,Value.int.injEq,Value.bool.injEq,Value.string.injEq,Value.slice.injEq,true_and]at I N L J D e5;obtain⟨rfl,D,rfl⟩:=D;obtain⟨rfl,e5,rfl⟩:=e5;exact⟨I,N,L,J,D,e5,rfl,rfl⟩
variable{F F':Nat->Prop}{s:Sl}
theorem QeM.same{n b o D o':Nat}(h:QeM F s n b o)(I:QeM F' s n D o')(z:0<n):b=D/\o=o':=by
 have e:=(h.eq z).1.symm.trans (I.eq z).1;simpa using e
theorem Val.Qlz{d d':Val}(h1:d.kind=d'.kind)(h2:d.b=d'.b)(z:d.i=d'.i)(I:d.t=d'.t)(D:d.l=d'.l)(J:d.ok=d'.ok)(L:d.ov=d'.ov):d=d':=by
 cases d;cases d';simp only[Val.kind,Val.b,Val.i,Val.t,Val.l,Val.ok,Val.ov]at *
 subst_vars;rfl
theorem RV.det(m:Nat):∀{d d':Val} {sl so:Sl},SizeOf.sizeOf d<=m->RV w F d sl so->RV w F' d' sl so->d.l.length=d'.l.length->d.ok.length=d'.ok.length->d.l=d'.l/\d.ok=d'.ok/\d.ov=d'.ov:=by
 induction m with
 |zero=>intro d _ _ _ hm;have:=Val.Qb7 d;omega
 | succ m ih=>
   intro d d' sl so hm h X N J;cases h with
   |@mk kind vb vi vt l ok ov _ _ bl fl bo fo cl co hl ho hov el rl ek eo ro=>
   cases X with
   |@mk kind' vb' vi' vt' l' ok' ov' _ _ bl' fl' bo' fo' cl' co' hl' ho' hov' el' rl' ek' eo' ro'=>
   have L:∀{b o:Nat} {x D:Val} {s s' t U:Sl},SizeOf.sizeOf x<=m->QaL w b o x s t->QaL w b o D s' U->RV w F x s t->RV w F' D s' U->x=D:=λhs c c' r r'=>by
    obtain⟨h1,h2,Z,h4,h5,h6,rfl,rfl⟩:=c.det c';obtain⟨k1,k2,Y⟩:=ih hs r r' h5 h6;exact Val.Qlz h1 h2 Z h4 k1 k2 Y
   simp only[Val.l,Val.ok,Val.ov]at N J ⊢;refine⟨List.ext_getElem? λj=>?_,bH λj=>?_,bH λj=>?_⟩
   ·by_cases R:j<l.length
    ·obtain ⟨x,I⟩:∃ x,l[j]? = some x:=⟨_,ac R⟩
     obtain⟨D,z⟩:∃D,l'[j]? = some D:=⟨_,ac (by omega)⟩;obtain⟨rfl,rfl⟩:=hl.same (N▸hl') (by omega);rw[I,z,L (by have:=Val.Qqm (k:=kind) (b:=vb) (i:=vi) (t:=vt) (ok:=ok) (ov:=ov) I;omega) (el j x I) (el' j D z) (rl j x I) (rl' j D z)]
    rw[aN (by omega),aN (by omega)]
   ·by_cases R:j<ok.length
    ·obtain ⟨x,I⟩:∃ x,ok[j]? = some x:=⟨_,ac R⟩
     obtain⟨D,z⟩:∃D,ok'[j]? = some D:=⟨_,ac (by omega)⟩;obtain⟨rfl,rfl⟩:=ho.same (J▸ho') (by omega);have e:=(ek j x I).1.symm.trans (ek' j D z).1;simp only[Option.some.injEq,Value.string.injEq]at e;rw[I,z,e]
    rw[aN (by omega),aN (by omega)]
   by_cases R:j<ov.length
   ·obtain ⟨x,I⟩:∃ x,ov[j]? = some x:=⟨_,ac R⟩
    obtain⟨D,z⟩:∃D,ov'[j]? = some D:=⟨_,ac (by omega)⟩;obtain⟨rfl,rfl⟩:=ho.same (J▸ho') (by omega);rw[I,z,L (by have:=Val.Qqn (k:=kind) (b:=vb) (i:=vi) (t:=vt) (l:=l) (ok:=ok) I;omega) (eo j x I) (eo' j D z) (ro j x I) (ro' j D z)]
   rw[aN (by omega),aN (by omega)]
variable{xs ys:List LE}
theorem ES.det(h:ES w F s xs)(N:ES w F' s ys)(hl:xs.length=ys.length):xs.map LE.ent=ys.map LE.ent:=by
 refine bH λj=>?_
 rw[ao,ao];by_cases hj:j<xs.length
 ·obtain ⟨x,I⟩:∃ x,xs[j]? = some x:=⟨_,ac hj⟩
  obtain⟨y,D⟩:∃y,ys[j]? = some y:=⟨_,ac (by omega)⟩;obtain⟨b,o,ha,-,-,-,k1,Y,r1,-⟩:=h.at I;obtain⟨U,o',z,-,-,-,k2,Z,r2,-⟩:=N.at D;obtain⟨rfl,rfl⟩:b=U/\o=o':=by have:=ha.symm.trans z;simpa using this
  have e:=k1.symm.trans k2;simp only[Option.some.injEq,Value.string.injEq]at e;obtain⟨xk,xv,L,a2⟩:=x;obtain⟨yk,yv,a1,a0⟩:=y;obtain⟨h1,h2,h3,h4,h5,h6,e7,X⟩:=Y.det Z;dsimp only at *;subst e7 X;obtain⟨q1,R,J⟩:=RV.det _ (an _) r1 r2 h5 h6;rw[I,D];simp only[Option.map_some,LE.ent,e,Val.Qlz h1 h2 h3 h4 q1 R J]
 rw[aN (by omega),aN (by omega)]
theorem IsN.heights{h z:Nat}{t:PT h}{D:PT z}(a:IsN w F h t)(b:IsN w F' z D)(e:addr h t=addr z D):h=z:=by
 obtain⟨-,_,_,_,_,-,h1⟩:=a.cells;obtain⟨-,_,_,_,_,-,h2⟩:=b.cells;rw[e]at h1;have:=h1.c7.2.2.1.symm.trans h2.c7.2.2.1;simp only[Option.some.injEq,Value.int.injEq,true_and]at this;omega
theorem IsN.det{w:World}{F F':Nat->Prop}:∀{h:Nat} {t U:PT h},IsN w F h t->IsN w F' h U->addr h t=addr h U->t=U
 | 0,(a,es),(a',es'),⟨_,s,xs,h2,h3,D⟩,⟨_,s',xs',h2',h3',z⟩,e=>by
   have e:a=a':=e;subst e;have c:=(h2.c7.1).symm.trans h2'.c7.1;simp only[Option.some.injEq,Value.slice.injEq]at c;obtain⟨sa,sc⟩:=s;obtain⟨Y,J⟩:=s';dsimp only at c;obtain⟨rfl,Z,rfl⟩:=c;have:=h3.det h3' Z;have D:xs.map LE.ent=es:=D;have z:xs'.map LE.ent=es':=z;rw[<-D,<-z,this]
 | h+1,(a,ks),(a',I),⟨_,s,h2,h3,D⟩,⟨_,s',h2',h3',z⟩,e=>by
   have e:a=a':=e;subst e;have c:=(h2.c7.2.1).symm.trans h2'.c7.2.1;simp only[Option.some.injEq,Value.slice.injEq]at c;obtain⟨sa,sc⟩:=s;obtain⟨Y,J⟩:=s';dsimp only at c;obtain⟨rfl,Z,rfl⟩:=c;have D:∀k∈ks,IsN w F h k:=D;have z:∀k∈I,IsN w F' h k:=z;have L:ks=I:=by
    refine bH λj=>?_
    by_cases hj:j<ks.length
    ·obtain ⟨x,X⟩:∃ x,ks[j]? = some x:=⟨_,ac hj⟩
     obtain⟨y,N⟩:∃y,I[j]? = some y:=⟨_,ac (by omega)⟩;obtain⟨b,o,ha,-,-,-,k1⟩:=Rd.Qc4 h3 X;obtain⟨b',o',R,-,-,-,k2⟩:=Rd.Qc4 h3' N;obtain⟨rfl,rfl⟩:b=b'/\o=o':=by have:=ha.symm.trans R;simpa using this
     have e:=k1.symm.trans k2;simp only[Option.some.injEq,Value.pointer.injEq,Addr.mk.injEq,and_true]at e;rw[X,N,IsN.det (D x (al X)) (z y (al N)) e]
    rw[aN (by omega),aN (by omega)]
   rw[L]
variable{T T':RT}
theorem IsT.det(h:IsT w F T)(z:IsT w F' T')(e:Qay T=Qay T'):T=T':=by
 match T,T',h,z,e with
 |none,none,_,_,_=>rfl
 |none,some ⟨_,_⟩,_,_,e=>simp[Qay]at e
 |some ⟨_,_⟩,none,_,_,e=>simp[Qay]at e
 | some ⟨n,t⟩,some ⟨n',t'⟩,h,z,e=>
   have e:addr n t=addr n' t':=by simpa[Qay]using e
   have h:IsN w F n t:=h;have z:IsN w F' n' t':=z;have D:=h.heights z e;subst D;rw[h.det z e]
theorem Qdt{x y:Val}(h:RV w (Lt w) x sl so)(J:RV w (Lt w) y sl' so') :
  Calls prog 50 #[aggV x sl so,aggV y sl' so'] w λe w'=>e=.returned (.bool (decide (Qbo x y=0)))/\Ext w w':=by
 have N:∀W,Ext w W->Calls prog 87 #[aggV x sl so,aggV y sl' so'] W (QbX (Qbo x y) W):=λW I=>
  Qsl _ x y (an _) W _ _ _ _ ((h.agree (I.agree λ_ h=>h)).mono λi hi=>ab hi I.size) ((J.agree (I.agree λ_ h=>h)).mono λi hi=>ab hi I.size)
 have R:=hY N;have L:(Qbo x y==0)=decide (Qbo x y=0):=by by_cases h:Qbo x y=0<;>simp[h]
 have HB:=hY L;clear N h J L;obtain⟨k,b,i,t,l,ok,ov⟩:=x;obtain⟨k',b',i',t',l',a1,a0⟩:=y;go_in;go_wp2_with fail;generalize D:World.alloc (World.alloc _ _) _=W0;obtain⟨z,Z,Y,U⟩:=Qap w _ _ _ _ W0 D;clear D;refine(R.o _ z).mono ?_;rintro e w1 ⟨rfl,X⟩;go_wp2_with fail;go_ret;exact⟨rfl,z.trans X⟩
theorem QpR{x y:LE}(h:RV w (Lt w) x.v x.sl x.so)(X:RV w (Lt w) y.v y.sl y.so) :
  Calls prog 60 #[Qgu x.k x.v x.sl x.so,Qgu y.k y.v y.sl y.so] w λe w'=>e=.returned (.bool (decide (x.k=y.k)&&decide (Qbo x.v y.v=0)))/\Ext w w':=by
 have Z:∀W,Ext w W->Calls prog 50 #[aggV x.v x.sl x.so,aggV y.v y.sl y.so] W λe w'=>e=.returned (.bool (decide (Qbo x.v y.v=0)))/\Ext W w':=λW J=>
  Qdt ((h.agree (J.agree λ_ h=>h)).mono λi hi=>ab hi J.size) ((X.agree (J.agree λ_ h=>h)).mono λi hi=>ab hi J.size)
 have Y:=hY Z;clear Z h X;obtain⟨k,v,sl,so⟩:=x;obtain⟨k',v',sl',so'⟩:=y;dsimp only at Y ⊢;by_cases I:k=k'
 ·subst I
  have N:(k.toList==k.toList)=true:=by simp
  rw[ej (rfl:k=k),dN];go_in;go_wp2_with fail;generalize D:World.alloc (World.alloc _ _) _=W0;obtain⟨z,L,U,R⟩:=Qap w _ _ _ _ W0 D;clear D;refine(Y.o _ z).mono ?_;rintro e w1 ⟨rfl,hx⟩;go_wp2_with fail;go_ret;exact⟨rfl,z.trans hx⟩
 have N:(k.toList==k'.toList)=false:=by rw[beq_toList];exact eh I
 rw[eh I,dI];clear I;go_in;go_wp2_with fail;generalize D:World.alloc (World.alloc _ _) _=W0;obtain⟨z,L,U,R⟩:=Qap w _ _ _ _ W0 D;go_ret;exact⟨rfl,z⟩
variable{s':Sl}
theorem Qij(hs:ES w (Lt w) s xs)(N:ES w (Lt w) s' ys) :
  Calls prog 59 #[.slice s.a xs.length s.c,.slice s'.a ys.length s'.c,.func (.func 60) #[] #[]] w λe w'=>e=.returned (.bool (QcT (xs.map LE.ent) (ys.map LE.ent)))/\Ext w w':=by
 have hf:=hs.few;have b7:xs.length<=140737488355328:=by omega
 by_cases z:xs.length=ys.length
 ·have HS:=hY hs
  have b4:=hY N;have D:=hY z;rw[<-z];clear hs N z hf;go_in;go_wp2_with fail;go_loopw[17] (λq wr=>∃j:Nat,q=.int .i64 j/\j<=xs.length/\QcT (xs.map LE.ent) (ys.map LE.ent)=QcT ((xs.map LE.ent).drop j) ((ys.map LE.ent).drop j)/\Ext w wr) (λq _=>xs.length -(intOf q).toNat)
  case atStart=>exact⟨0,rfl,av _,rfl,fu w⟩
  obtain⟨j,rfl,b6,hp,hx⟩:=hrel;have HP:=hY hp;have HX:=hY hx;by_cases h1:j<xs.length
  ·have g1:(j:Int)<(xs.length:Int):=by omega
   obtain⟨x,I⟩:∃x,xs[j]? = some x:=⟨_,ac h1⟩;obtain⟨y,L⟩:∃y,ys[j]? = some y:=⟨_,ac (by rw[<-D.o];exact h1)⟩;have HD:=hY (QhT (l:=xs.map LE.ent) (m:=ys.map LE.ent) (a:=x.ent) (b:=y.ent) (by rw[ao,I];rfl) (by rw[ao,L];rfl));have e1:=HS.o.ext hx;have e2:=b4.o.ext hx;obtain⟨g,o,hg,lg,hc,b5,kx,⟨v0,v1,v2,v3,v4,v5⟩,rx,-⟩:=e1.at I;obtain⟨g',o',a0,Y,Z,a2,ky,⟨b3,a3,a7,a4,a9,b0⟩,ry,-⟩:=e2.at L;rw[<-D.o]at Z;obtain⟨sa,sc⟩:=s;obtain⟨c2,c0⟩:=s';dsimp only at hg a0 hc Z b5 a2;subst hg a0;have R:∀W,Ext wr W->Calls prog 60 #[Qgu x.k x.v x.sl x.so,Qgu y.k y.v y.sl y.so] W λe w'=>e=.returned (.bool (decide (x.k=y.k)&&decide (Qbo x.v y.v=0)))/\Ext W w':=λW hW=>
    QpR ((rx.agree (hW.agree λ_ h=>h)).mono λi hi=>ab hi hW.size) ((ry.agree (hW.agree λ_ h=>h)).mono λi hi=>ab hi hW.size)
   have a8:=hY R;have lg:g<wr:=lg;have Y:g'<wr:=Y;clear hp hx I L e1 e2 rx ry R;go_wp2_with fail;generalize X:World.alloc (World.alloc _ _) _=W0;obtain⟨J,b8,a6,a5⟩:=Qap wr _ _ _ _ W0 X;clear X;refine(a8.o _ J).mono ?_;rintro e w2 ⟨rfl,U⟩;have a1:=hY ((HX.o.trans J).trans U);clear U J a6 a5 kx ky v0 v1 v2 v3 v4 v5 b3 a3 a7 a4 a9 b0;cases hq:(decide (x.k=y.k)&&decide (Qbo x.v y.v=0))with
   | true=>
     have HQ:=hY hq;clear hq;go_wp2_with fail;go_roundw
     case rel=>exact⟨j+1,by go_num,h1,by rw[HP.o,HD.o,show(decide (x.ent.1=y.ent.1)&&decide (Qbo x.ent.2 y.ent.2=0))=true from HQ.o,dN],a1.o⟩
     simp[intOf];omega
   | false=>
     have HQ:=hY hq;clear hq;go_wp2_with fail;go_ret;exact⟨by rw[HP.o,HD.o,show(decide (x.ent.1=y.ent.1)&&decide (Qbo x.ent.2 y.ent.2=0))=false from HQ.o,dI];rfl,a1.o⟩
  obtain rfl:j=xs.length:=by omega
  clear hp hx;go_wp2_with fail;go_ret;refine⟨?_,HX.o⟩;rw[HP.o,bC (by simp),bC (by simp[D.o])];rfl
 have c1:((xs.length:Int) !=(ys.length:Int))=true:=eK.2 (by omega);have HE:=hY (QiM (l:=xs.map LE.ent) (m:=ys.map LE.ent) (by simpa using z));clear hs N z hf;go_in;go_wp2_with fail;go_ret;exact⟨by rw[HE.o];rfl,fu w⟩
theorem IsT.leads(h:IsT w F T){p:Option Addr}(z:Qay T=.pointer p):Qmq w p:=by
 intro a D;subst D
 match T,h,z with
 |none,_,z=>simp[Qay]at z
 | some ⟨n,t⟩,h,z=>
   have h:IsN w F n t:=h;obtain⟨-,_,_,_,_,-,I⟩:=h.cells;have e:a=⟨addr n t,0,none⟩:=by simpa[Qay,ptr]using z.symm
   subst e;exact⟨_,_,I⟩
open Go.Maps Go.Shelf
variable{C:AL SV}
theorem Qq2{mb:Option Nat}(U:Qbt W mb C){k:ByteArray}(R:k.size<=maxLen) :
  (Instr.lookup 77 (.map mb) (.string k) false).run prog W=.ok (Qir C k).val W:=by
 cases mb with
 | none=>
   have X:C=[]:=U;subst X;rw[Maps.look_nil false Qfc underlying77 (Qgq W) (Qs7 k R)];rfl
 | some b=>
   obtain⟨es,N,Y,F,hs,L⟩:=U;rcases Maps.fit_look false Qfc underlying77 (Qgq W) Y F (Qs7 k R)with⟨z,_,D⟩ |⟨e0,y,_,_,z,I,D,_⟩
   ·rw [z]
    have h1:=D .nil;rw[<-L,Qgv]at h1;unfold Qir;cases J:Qa5 C k with
    |none=>rfl
    |some s=>rw[J]at h1;cases h1
   rw[z];have h1:=D .nil;rw[<-L,Qgv]at h1;have h2:=D (.held (.bool true));rw[<-L,Qgv]at h2;unfold Qir;cases J:Qa5 C k with
   |none=>rw[J]at h1 h2;rw[<-h1]at h2;cases h2
   | some s=>
     rw[J]at h1;obtain⟨y1,Z⟩:=y;dsimp only at h1;rw[<-h1]at I;rw[Qe0 I];rfl
theorem QkS(R:Qav C){ss:List (List UInt8)}(J:ss.Perm (strKeys (mapA SV.val C))):(ss.mergeSort λx y=>decide (x<=y)).map encStr=C.map λp=>.string p.1:=by
 rw[QdY]at J;have N:(ss.mergeSort λx y=>decide (x<=y)).Perm ss:=List.mergeSort_perm ..;have I:(C.map Prod.fst).Pairwise λx y=>klt x y=true:=bJ.2 R
 have U:((ss.mergeSort λx y=>decide (x<=y)).map QbW).map QaV=ss.mergeSort λx y=>decide (x<=y):=Qgy _
 have z:((ss.mergeSort λx y=>decide (x<=y)).map QbW).Perm (C.map Prod.fst):=by
  have h1:=((N.trans J).map QbW);rw[cA]at h1;exact h1
 have D:((ss.mergeSort λx y=>decide (x<=y)).map QbW).Nodup:=z.nodup_iff.2 (I.imp λ{a b} h e=>Qo1 h e);have L:(ss.mergeSort λx y=>decide (x<=y)).map QbW=C.map Prod.fst:=QiK (Qg7 (by rw[U];exact QhK ss) D) I λk=>z.mem_iff
 have h2:(ss.mergeSort λx y=>decide (x<=y)).map encStr=((ss.mergeSort λx y=>decide (x<=y)).map QbW).map .string:=by rw[cA];rfl
 rw[h2,L,cA];rfl
theorem Qps{base e size n:Nat}{v:Value}{xs:List Value}(h:w.ownsRow base e size v n xs):∃s:Sl,v=.slice s.a n s.c:=by
 rcases h.2 with⟨rfl,rfl⟩ |⟨g,z,D,rfl,r⟩
 .exact ⟨Sl.none,rfl⟩
 exact⟨⟨some ⟨g,0,none⟩,z⟩,rfl⟩
def CB(F:Nat->Prop)(w wr:World)(b:Nat):Prop:=(F b\/w.heap.size+2<=b)/\b<wr.heap.size
variable{v0:Value}
theorem QqC{w w2 wr w7 z:World}{D:Option Addr}(Y:w.heap.size+2<=wr.heap.size)(hF:∀b,F b->b<w)(L:Ext wr w7)(I:Ext w7 z)(N:IsT z (Up (CB F w wr) w7 z) T')(R:Qay T'=.pointer D)(U:Blk wr (w.heap.size+1) 41 #[v0])
  (hs:Sb (λc=>c=w.heap.size+1) w2 wr) :
  IsT (z.setCell ⟨w+1,0,none⟩ (.pointer D)) (CB F w (z.setCell ⟨w+1,0,none⟩ (.pointer D))) T'/\Blk (z.setCell ⟨w+1,0,none⟩ (.pointer D)) (w.heap.size+1) 41 #[Qay T']/\Sb (λc=>c=w.heap.size+1) w2 (z.setCell ⟨w+1,0,none⟩ (.pointer D)):=by
 have s7:=L.size;have X:=I.size;refine⟨(N.agree (fA z ⟨w+1,0,none⟩ _ ?_)).mono λi hi=>?_,?_,(hs.ext (L.trans I)).set (p:=⟨w+1,0,none⟩) (.inr rfl) _⟩
 ·rintro (J | J)
  ·rcases J.1 with h | h
   .have:=hF _ h;dsimp only at this;omega
   dsimp only at h;omega
  have:w7.heap.size<=w.heap.size+1:=J.1;omega
 ·rw [CB,eA]
  rcases hi with hi|hi
  .exact ⟨hi.1,by have:=hi.2;omega⟩
  exact⟨.inr (by have:=hi.1;omega),hi.2⟩
 rw[R];exact(U.ext (L.trans I)).Qdz 0 _
def Qff(H:Nat->Prop)(O:Nat)(d:OD)(w:World)(e:Ending)(w':World):Prop:=
 ∃T':RT,e=.returned (Qau T')/\OkR T'/\IsT w' (Up (OvF H w O d) w w') T'/\Qab T'=QfC (Qab d.T) (Qht d.C) (Qab d.T)/\Nw w w'/\(idleC (Qab d.T) (Qht d.C)->T'=d.T)
theorem Qso{B:List Ent}{p:ByteArray × SV}(h:C[j]? = some p)(t:List Ent):QfC B ((Qht C).drop j) t=QfC B ((Qht C).drop (j+1)) (match p.2.opt with
  |some v=>if(Qam B p.1).any (λwas=>decide (Qbo was v=0))then t else Qbq t p.1 v
  |none=>if(Qam B p.1).isSome then Qb2 t p.1 else t):=by
 have h1:(Qht C)[j]? = some (p.1,p.2.opt):=by unfold Qht;rw[ao,h];rfl
 obtain⟨h2,z⟩:=ah.1 h1
 conv=>lhs;rw[aD h2,z]
 cases p.2.opt<;>rfl
theorem Qsw{B:List Ent}(z:Qav C){p:ByteArray × SV}(h:C[j]? = some p)(hi:idleC B (Qht C)):match p.2.opt with
  |some v=>(Qam B p.1).any (λwas=>decide (Qbo was v=0))=true
  |none=>Qam B p.1=none:=
 hi p.1 p.2.opt (by rw[Qd7,Qio z (al h)];rfl)
variable{n:Nat}
theorem QsP{base:Nat}{t:TypeId}{xs:List Value}(h:w.ownsRow base t 1 (.slice s.a n s.c) n xs){i:Nat}{v:Value}(hi:xs[i]? = some v):∃g,s.a=some ⟨g,0,none⟩/\s.row=some g/\base<=g/\g<w/\n<=s.c/\s.c<=maxLen/\w.cell? ⟨g,i,none⟩=some v:=by
 have I:=(ah.1 hi).1;have U:xs.length=n*1:=h.1;obtain⟨g,N,rfl,L,h1,h2,D⟩:=Qa2 h (by omega);obtain⟨b,o,z,X,J⟩:=fE h;obtain⟨R,-,-⟩:=z.eq (by omega);obtain⟨rfl,rfl⟩:g=b/\0=o:=by simpa using R
 exact⟨g,rfl,rfl,L,D.lt,h1,h2,by have:=J i v hi;rwa[aB]at this⟩
variable{H:Nat->Prop}{O:Nat}{d:OD}
theorem QkG(h:QcW H w O d){b:Nat}(hm:d.mb=some b)(hl:(Qab d.T).length+d.C.length<=1000000):Calls prog 23 #[.pointer (some ⟨O,0,none⟩)] w (Qff H O d w):=by
 have c0:w.cell? ⟨O,0,none⟩=some (Qay d.T):=h.blk.cell 0;have c1:w.cell? ⟨O,1,none⟩=some (.map (some b)):=by have:=h.blk.cell 1;rw[hm]at this;exact this
 have lO:=h.blk.lt;obtain⟨r,hr⟩:=Qaq d.T;rw[hr]at c0;have l1:O<w.heap.size+1:=by omega
 have l2:O<w.heap.size+1+1:=by omega
 have hF:∀b,OvF H w O d b->b<w:=λb hb=>hb.1
 obtain⟨n,hn⟩:∃n,d.C.length=n:=⟨_,rfl⟩;rw[hn]at hl;obtain⟨n0,i1⟩:∃n,(Qab d.T).length=n:=⟨_,rfl⟩;rw[i1]at hl;have D:=hY h;have HM:=hY hm;have HN:=hY hn;have l6:=hY i1;have HR:=hY hr;have HF:=hY hF;have LO:=hY lO;clear h hm hr hF hn i1;go_in;go_wp2_with fail;generalize j7:World.alloc _ _=W0;obtain⟨k3,l4,l3,k9⟩:=Qap w _ _ _ _ W0 j7;have j5:=hY k3;have k2:=hY l3;have j8:=hY k9;have l5:=hY l4;clear j7 k3 l3 k9 l1 l2 l4;refine((eC (n:=5)).1 (Tryz.QhM (some b) W0)).mono ?_;rintro e w' ⟨rfl,rfl⟩;go_wp2_with fail;have g3:W0.ownsMap prog 9 QeZ b d.C.length (mapA SV.val d.C):=by
  have h1:=D.o.map;rw[HM.o]at h1;have hb:=D.o.map.lt HM.o;exact QbI h1 ((fv j5.o).block b hb id)
 have i8:Maps.size (mapA SV.val d.C)=n:=by rw[Qj7];exact HN.o
 refine((eC (n:=5)).1 (Tryz.QeD b d.C.length (mapA SV.val d.C) QeZ W0 g3 (by rw[i8];unfold maxLen;omega) (by rw[i8];omega))).mono ?_;rintro e w2 ⟨v,ss,rfl,hp,a2,l7,k7⟩;have g6:ss.length=n:=by have:=hp.length_eq;rw[QdY,aq,HN.o]at this;exact this
 rw[QkS D.o.sorted hp,g6]at a2;obtain⟨s,rfl⟩:=Qps a2;rw[ew,l5.o]at a2;have d7:Nw W0 w2:=(fv ((fu W0).alloc #[.map (some b)] 77)).trans (Sb.new k7);have g9:Nw w w2:=(fv j5.o).trans d7;have f1:=hY g9;have k8:=hY (d7.blk k2.o);have k4:=hY (d7.blk j8.o);have l9:=hY a2;have j6:w.heap.size+2<=w2.heap.size:=by have:=d7.size;have:=l5.o;omega
 have o2:=hY j6;clear g3 i8 hp a2 l7 k7 d7 g9 g6 c0 c1 k2 j8 j6;go_wp2_with fail;go_loopw[23] (λq wr=>∃(j:Nat) (T1:RT),q=.int .i64 j/\j<=n/\OkR T1/\IsT wr (CB (OvF H w O d) w wr) T1/\QfC (Qab d.T) ((Qht d.C).drop j) (Qab T1)=QfC (Qab d.T) (Qht d.C) (Qab d.T)/\(Qab T1).length<=n0+j/\Blk wr (w.heap.size+1) 41 #[Qay T1]/\Sb (λc=>c=w.heap.size+1) w2 wr/\(idleC (Qab d.T) (Qht d.C)->T1=d.T)) (λq _=>n -(intOf q).toNat)
 case atStart=>exact⟨0,d.T,rfl,av _,D.o.ok,(D.o.tree.agree (fC f1.o HF.o)).mono λi hi=>⟨.inl hi,ab hi.1 f1.o.size⟩,rfl,by rw[l6.o];exact an _,by rw[HR.o];exact k4.o,fB _ _,λ_=>rfl⟩
 obtain⟨j,T1,rfl,hj,ok,hT,f7,j1,a3,Z,f3⟩:=hrel;obtain⟨p1,c2⟩:=Qaq T1;have n9:w.heap.size+2<=wr.heap.size:=aj o2.o Z.size;by_cases b8:j<n
 ·have g1:decide ((j:Int)<(n:Int))=true:=ej (by omega)
  have o7:(j:Int)<(n:Int):=by omega
  obtain⟨p,c6⟩:∃p,d.C[j]? = some p:=⟨_,ac (by rw[HN.o];exact b8)⟩;have i9:=al c6;obtain⟨g,j4,o3,o1,l8,n2,n4,d3⟩:=QsP l9.o (i:=j) (v:=.string p.1) (by rw[ao,c6];rfl);obtain⟨sa,sc⟩:=s;dsimp only at j4 n2 n4;subst j4;have o5:=LO.out;have a6:Sb (λc=>c=w.heap.size+1) w wr:=(f1.o.any _).trans Z;have i4:Agree (OvF H w O d) w wr:=λi hi=>a6.block i hi.1 (by have:=hi.1;omega)
  have kc:wr.cell? ⟨g,j,none⟩=some (.string p.1):=(Z.cell l8 (by omega)).trans d3;have kl:g<wr:=ab l8 Z.size;have d5:=a6.blk D.o.blk (by omega);rw[HR.o,HM.o]at d5;have c0:wr.cell? ⟨O,0,none⟩=some (.pointer r):=d5.cell 0;have c1:wr.cell? ⟨O,1,none⟩=some (.map (some b)):=d5.cell 1;have o0:=d5.lt;obtain⟨f4,k5⟩:=D.o.vals p i9;have i7:=Qq2 (W:=wr) (D.o.map.heap λb hb=>a6.block b (D.o.map.lt hb) (by have:=D.o.map.lt hb;omega)) f4;rw[HM.o,show Qir d.C p.1=p.2 by unfold Qir;rw[Qio D.o.sorted i9];rfl]at i7;have b4:∀i,CB (OvF H w O d) w wr i->i<wr:=λi hi=>hi.2
  have i5:(Qab T1).length<=1000000:=by omega
  have hv:RV wr (Lt wr) p.2.v p.2.sl p.2.so:=(k5.1.agree i4).mono λi hi=>by have:=hi.1;show i<_;omega
  have X:=λ(W:World) (Y:Ext wr W)=>Qhj (k:=p.1) (w:=W) (F:=OvF H w O d) (T:=d.T) (λi hi=>by have:=hi.1;have:=Y.size;omega) (D.o.tree.agree (i4.trans (Y.agree λi hi=>by have:=hi.1;omega))) D.o.ok (by rw[l6.o];omega)
  have b0:=λ(W:World) (Y:Ext wr W)=>QpD (k:=p.1) (v:=p.2.v) (sl:=p.2.sl) (so:=p.2.so) (λb hb=>ab (b4 b hb) Y.size) (hT.agree (Y.agree b4)) ok i5 f4 ((hv.agree (Y.agree λ_ h=>h)).mono λi hi=>ab hi Y.size)
  have a9:=λ(W:World) (Y:Ext wr W)=>QmJ (λb hb=>ab (b4 b hb) Y.size) (hT.agree (Y.agree b4)) ok i5 p.1
  have a5:=λ(W:World) (Y:Ext wr W) (x:Val) (xl xo:Sl) (hx:RV W (Lt W) x xl xo)=>Qdt hx ((hv.agree (Y.agree λ_ h=>h)).mono (G:=Lt W) λi hi=>ab hi Y.size)
  have U:=Qso (B:=Qab d.T) c6 (Qab T1);have a7:=Qsw (B:=Qab d.T) D.o.sorted c6;rw[f7]at U;unfold QbO at X;rw[Qau,HR.o]at X;rw[Qau,c2]at b0 a9;have e8:Ext wr (wr.alloc (.cells p.2.cells 87)):=(fu wr).alloc _ _;have f9:=fx wr 87 p.2.cells;have c3:∀W,Ext wr W->IsT W (CB (OvF H w O d) w W) T1/\Blk W (w.heap.size+1) 41 #[Qay T1]/\Sb (λc=>c=w.heap.size+1) w2 W:=λW Y=>
   ⟨(hT.agree (Y.agree b4)).mono λi hi=>⟨hi.1,ab hi.2 Y.size⟩,a3.ext Y,Z.ext Y⟩
  have e0:∀w7 w8 T' p',Ext wr w7->Ext w7 w8->IsT w8 (Up (CB (OvF H w O d) w wr) w7 w8) T'->Qay T'=.pointer p'->_:=λw7 w8 T' p' h7 h8 h1 h2=>QqC (w2:=w2) n9 HF.o h7 h8 h1 h2 a3 Z
  obtain⟨k,e7,v,sl,so⟩:=p;dsimp only at kc f4 i7 hv X b0 a9 a5 U a7 e8 f9;obtain⟨og,l0⟩:∃o,Qam (Qab d.T) k=o:=⟨_,rfl⟩;obtain⟨gv,i6⟩:∃g,og.getD zeroV=g:=⟨_,rfl⟩;obtain⟨gb,i3⟩:∃g,og.isSome=g:=⟨_,rfl⟩;rw[l0]at X U a7;rw[i6,i3]at X;have b5:=hY (show ∀W,Ext (wr.alloc (.cells (SV.cells ⟨e7,v,sl,so⟩) 87)) W->(W.cell? ⟨wr,0,none⟩=some (.bool e7)/\W.cell? ⟨wr,1,none⟩=some (.int .i64 v.kind)/\W.cell? ⟨wr,2,none⟩=some (.bool v.b)/\W.cell? ⟨wr,3,none⟩=some (.int .i64 v.i)/\W.cell? ⟨wr,4,none⟩=some (.string v.t)/\W.cell? ⟨wr,5,none⟩=some (.slice sl.a v.l.length sl.c)/\W.cell? ⟨wr,6,none⟩=some (.slice so.a v.ok.length so.c))/\
    W.cell? ⟨w+1,0,none⟩=some (.pointer p1)/\W.frozen? ⟨w+1,0,none⟩=false/\w.heap.size+1<W.heap.size/\wr.heap.size<W.heap.size fromλW Y=>by
   have h1:=a3.ext (e8.trans Y);rw[c2]at h1;exact⟨(f9.ext Y).c7,h1.cell 0,h1.frozen 0,h1.lt,(f9.ext Y).lt⟩)
  have d6:=hY e8;have i0:=hY X;have g8:=hY b0;have j9:=hY a9;have d4:=hY a5;have J:=hY U;have a8:=hY a7;have c8:=hY c3;have a4:=hY e0;have L:=hY ok;have d0:=hY j1;have g4:=hY f3;clear c6 i9 d3 a6 i4 d5 f4 k5 hv X b0 a9 a5 U a7 e8 f9 c3 e0 l0 ok hT f7 j1 a3 Z f3 b4 i5 c2;go_wp2_with fail;dsimp only[SV.cells]at b5 d6;generalize n7:wr.alloc (.cells _ _)=W3 at *;clear n7 kc kl c0 c1 o0 i7;refine(i0.o W3 d6.o).mono ?_;rintro e w4 ⟨gl,gq,rfl,b6,k6⟩;have b7:=(fu w4).alloc #[.int .i64 gv.kind,.bool gv.b,.int .i64 gv.i,.string gv.t,.slice gl.a gv.l.length gl.c,.slice gq.a gv.ok.length gq.c] 28;have o4:=fx w4 28 #[.int .i64 gv.kind,.bool gv.b,.int .i64 gv.i,.string gv.t,.slice gl.a gv.l.length gl.c,.slice gq.a gv.ok.length gq.c];have g5:=(k6.agree (b7.agree λb hb=>hb.2)).mono (G:=Lt (w4.alloc (.cells #[.int .i64 gv.kind,.bool gv.b,.int .i64 gv.i,.string gv.t,.slice gl.a gv.l.length gl.c,.slice gq.a gv.ok.length gq.c] 28)).heap.size) λb hb=>ab hb.2 b7.size
  have j3:=hY (d4.o _ ((d6.o.trans b6).trans b7) gv gl gq g5);have o6:=hY (d6.o.trans b6);have b3:=hY ((d6.o.trans b6).trans b7);have f8:=hY (b6.trans b7);obtain⟨⟨q0,q1,q2,q3,q4,q5,q6⟩,q7,q8,q9,f6⟩:=b5.o _ b6;clear b6 k6 b7 o4 g5 d4 i0;cases gb with
  | false=>
    have ho:og=none:=by cases og with
     |none=>rfl
     |some x=>cases i3
    cases e7 with
    | false=>
      have z:=J.o;simp only[SV.opt,ho]at z;have HE:=hY z.symm;clear z;go_wp2_with fail;obtain⟨e1,e2,e3⟩:=c8.o _ b3.o;go_roundw
      case rel=>exact⟨j+1,T1,by go_num,b8,L.o,e1,HE.o,by have:=d0.o;omega,e2,e3,g4.o⟩
      simp[intOf];omega
    | true=>
      have z:=J.o;simp only[SV.opt,ho,if_true,Option.any_none,Bool.false_eq_true,if_false]at z;have HE:=hY z.symm;have n6:=a8.o;have c4:=hY (show ¬(match(SV.opt ⟨true,v,sl,so⟩)with
       |some v=>og.any (λd8=>decide (Qbo d8 v=0))=true
       |none=>og=none)by simp[SV.opt,ho])
      clear z n6;go_wp2_with fail;refine(g8.o _ b3.o).mono ?_;rintro e w8 ⟨T',rfl,a0,a1,R⟩;obtain⟨p',N⟩:=Qaq T';rw[Qau,N];obtain⟨-,q7,q8,q9,f6⟩:=b5.o w8 (f8.o.trans R);have c9:=hY (a4.o _ _ T' p' b3.o R a1 N);have I:=hY a0;clear a0 a1 R N;go_wp2_with fail;obtain⟨e1,e2,e3⟩:=c9.o;go_roundw
      case rel=>exact⟨j+1,T',by go_num,b8,I.o.ok L.o,e1,by rw[I.o.ents L.o];exact HE.o,by rw[I.o.ents L.o];have:=d0.o;rcases QcN (Qab T1) k v with h|h<;>omega,e2,e3,λhi=>absurd (a8.o hi) c4.o⟩
      simp[intOf];omega
  | true=>
    obtain⟨x,ho⟩:∃x,og=some x:=cJ.1 i3;have j0:x=gv:=by rw[ho]at i6;exact i6
    cases e7 with
    | false=>
      have z:=J.o;simp only[SV.opt,ho,Bool.false_eq_true,if_false,Option.isSome_some,if_true]at z;have HE:=hY z.symm;have c4:=hY (show ¬(match(SV.opt ⟨false,v,sl,so⟩)with
       |some v=>og.any (λd8=>decide (Qbo d8 v=0))=true
       |none=>og=none)by simp[SV.opt,ho])
      clear z;go_wp2_with fail;refine(j9.o _ b3.o).mono ?_;rintro e w8 ⟨T',rfl,a0,a1,R⟩;obtain⟨p',N⟩:=Qaq T';rw[Qau,N];obtain⟨-,q7,q8,q9,f6⟩:=b5.o w8 (f8.o.trans R);have c9:=hY (a4.o _ _ T' p' b3.o R a1 N);have I:=hY a0;clear a0 a1 R N;go_wp2_with fail;obtain⟨e1,e2,e3⟩:=c9.o;go_roundw
      case rel=>exact⟨j+1,T',by go_num,b8,I.o.ok L.o,e1,by rw[I.o.ents L.o];exact HE.o,by rw[I.o.ents L.o];have:=d0.o;have:=(Qba (Qab T1) k).length_le;omega,e2,e3,λhi=>absurd (a8.o hi) c4.o⟩
      simp[intOf];omega
    | true=>
      obtain⟨sm,f5⟩:∃s,decide (Qbo gv v=0)=s:=⟨_,rfl⟩;have e4:=j3.o;rw[f5]at e4;have g7:=hY e4;clear e4 j3;go_wp2_with fail;refine g7.o.mono ?_;rintro e w6 ⟨rfl,e6⟩;have i2:=hY (b3.o.trans e6);have n8:=hY (f8.o.trans e6);obtain⟨⟨q0,q1,q2,q3,q4,q5,q6⟩,q7,q8,q9,f6⟩:=b5.o w6 (f8.o.trans e6);clear e6 g7;cases sm with
      | true=>
        have z:=J.o;simp only[SV.opt,ho,if_true,Option.any_some,j0,f5]at z;have HE:=hY z.symm;clear z;go_wp2_with fail;obtain⟨e1,e2,e3⟩:=c8.o _ i2.o;go_roundw
        case rel=>exact⟨j+1,T1,by go_num,b8,L.o,e1,HE.o,by have:=d0.o;omega,e2,e3,g4.o⟩
        simp[intOf];omega
      | false=>
        have z:=J.o;simp only[SV.opt,ho,if_true,Option.any_some,j0,f5,Bool.false_eq_true,if_false]at z;have HE:=hY z.symm;have c4:=hY (show ¬(match(SV.opt ⟨true,v,sl,so⟩)with
         |some v=>og.any (λd8=>decide (Qbo d8 v=0))=true
         |none=>og=none)by simp only[SV.opt,ho,if_true,Option.any_some,j0,f5];simp)
        clear z;go_wp2_with fail;refine(g8.o _ i2.o).mono ?_;rintro e w8 ⟨T',rfl,a0,a1,R⟩;obtain⟨p',N⟩:=Qaq T';rw[Qau,N];obtain⟨-,q7,q8,q9,f6⟩:=b5.o w8 (n8.o.trans R);have c9:=hY (a4.o _ _ T' p' i2.o R a1 N);have I:=hY a0;clear a0 a1 R N;go_wp2_with fail;obtain⟨e1,e2,e3⟩:=c9.o;go_roundw
        case rel=>exact⟨j+1,T',by go_num,b8,I.o.ok L.o,e1,by rw[I.o.ents L.o];exact HE.o,by rw[I.o.ents L.o];have:=d0.o;rcases QcN (Qab T1) k v with h|h<;>omega,e2,e3,λhi=>absurd (a8.o hi) c4.o⟩
        simp[intOf];omega
 obtain rfl:j=n:=by omega
 have g1:decide ((j:Int)<(j:Int))=false:=eh (by omega);rw[c2]at a3;have q0:wr.cell? ⟨w+1,0,none⟩=some (.pointer p1):=a3.cell 0;have f2:=Z.blk k8.o (by omega);have q1:wr.cell? ⟨w,0,none⟩=some (.pointer none):=f2.cell 0;have f0:=f2.frozen 0;have k0:=f2.lt;have k1:=a3.lt;have g0:Qff H O d w (.returned (.agg #[.pointer p1])) (wr.setCell ⟨w,0,none⟩ (.pointer p1)):=by
  refine⟨T1,by rw[Qau,c2],ok,?_,?_,?_,f3⟩
  ·refine (hT.agree (fA wr ⟨w,0,none⟩ _ ?_)).mono fun i hi=>?_
   ·rintro ⟨hf | hf,-⟩
    .have:=HF.o _ hf;dsimp only at this;omega
    dsimp only at hf;omega
   rw[Up,eA];rcases hi.1 with h|h
   .exact .inl h
   exact .inr ⟨by omega,hi.2⟩
  .rw [<-f7,bC (by unfold Qht;rw[aq,HN.o];exact an _)];rfl
  have h1:Sb (λc=>c=w.heap.size+1\/c=w.heap.size) w2 (wr.setCell ⟨w,0,none⟩ (.pointer p1)):=(Z.mono λi _ e=>.inl e).set (p:=⟨w,0,none⟩) (.inr (.inr rfl)) _;exact f1.o.comp h1 λi hi e=>by omega
 have j2:=hY g0;clear ok hT f7 j1 a3 Z f3 f2 g0 c2;go_wp2_with fail;refine eD (v:=.agg #[.pointer p1]) (by simp[results,results23,go_sem,q1]) rfl ?_;exact j2.o
theorem Qoi(h:QcW H w O d)(J:(Qab d.T).length+d.C.length<=1000000):Calls prog 23 #[.pointer (some ⟨O,0,none⟩)] w (Qff H O d w):=by
 cases z:d.mb with
 |some b=>exact QkG h z J
 | none=>
   have I:d.C=[]:=by have:=h.map;rw[z]at this;exact this
   exact(QkF h z).mono λe w' ⟨D,hn⟩=>⟨d.T,D,h.ok,(h.tree.agree (fC hn λb L=>L.1)).mono λi hi=>.inl hi,by rw[I];rfl,hn,λ_=>rfl⟩
def QnR(k:ByteArray)(v:Val):Int:=if Qbd k≠0 then 8 else Qbw v
theorem Qry(h:QcW H w O d)(hH:∀b,H b->b<w)(hn:d.us.length<=1000000){k:ByteArray}(Z:k.size<=maxLen){v:Val}(Y:RV w (Lt w) v sl so)(hc:cntV v<=1100000)(X:Qb9 w) :
  Calls prog 14 #[.pointer (some ⟨O,0,none⟩),.string k,aggV v sl so] w λe w'=>e=.returned (.int .i64 (QnR k v))/\((QnR k v=0/\∃sl so mb s,QnP H w O d (d.step k ⟨true,v,sl,so⟩ mb s) w')\/(QnR k v≠0/\Nw w w')):=by
 have z:=λW (I:Nw w W)=>Qdj Z (X.lib.nw I)
 have N:∀W,Nw w W->RV W (Lt W) v sl so:=λW I=>(Y.agree (fC I λb R=>R)).mono λb R=>ab R I.size
 have D:=λW (I:Nw w W)=>Qim (N W I) hc (X.nw I)
 by_cases L:Qbd k=0
 ·rw [L] at z
  have U:QnR k v=Qbw v:=by unfold QnR;rw[ef (by simp[L])]
  rw[U];by_cases J:Qbw v=0
  ·rw [J] at D
   exact(QtN h hH hn Z Y z D).mono λe w' h=>by rw[J];exact⟨h.1,.inl ⟨rfl,h.2⟩⟩
  exact(QpE z D J).mono λe w' h=>⟨h.1,.inr ⟨J,h.2⟩⟩
 have U:QnR k v=8:=by unfold QnR;rw[em L]
 rw[U];exact(Qne z L).mono λe w' h=>⟨h.1,.inr ⟨by decide,h.2⟩⟩
theorem Qqa{O b:Nat}{r sl:Value}{u:UD}{bw Y bo bk:Nat}{o:SV}(J:Blk w O 80 #[r,.map (some b),sl])(D:Qbt w (some b) C)(hs:Qav C)(hC:C.length<maxLen)(hk:u.k.size<=maxLen)
  (a0:Blk w bw 4 #[.bool u.old.isSome]) (I:Blk w Y 87 o.cells) (ho:∀x,u.old=some x->x=o) (R:Blk w bo 36 #[.pointer (some ⟨O,0,none⟩)]) (U:Blk w bk 9 #[.string u.k]) :
  Calls prog 69 #[.pointer (some ⟨bw,0,none⟩),.pointer (some ⟨Y,0,none⟩),.pointer (some ⟨bo,0,none⟩),.pointer (some ⟨bk,0,none⟩)] w λe w'=>(∃r,e=.returned r)/\Qbt w' (some b) (Qhw u C)/\Sb (λc=>c=b) w w':=by
 obtain⟨k,a2⟩:=u;have cw:w.cell? ⟨bw,0,none⟩=some (.bool a2.isSome):=a0.cell 0;have nO:=Qbt.ne D J;have no:=Qbt.ne D R;have nk:=Qbt.ne D U;have nd:=Qbt.ne D I;have Z:=hY D;cases a2 with
 | none=>
   have z:=hY (show ∀W,Sb (λc=>c=b) w W->W.cell? ⟨bo,0,none⟩=some (.pointer (some ⟨O,0,none⟩))/\W.cell? ⟨O,1,none⟩=some (.map (some b))/\W.cell? ⟨bk,0,none⟩=some (.string k)from
    λW N=>⟨(N.blk R no).cell 0,(N.blk J nO).cell 1,(N.blk U nk).cell 0⟩)
   clear J a0 I R U D ho nO no nk nd;go_in;go_wp2_with fail;refine ez (S:=(λw'=>Sb (λc=>c=b) w w')) (by kernel_rfl) (((fB _ w).drew)) (λhHeld=>?_);refine Qad 0 (some 11) z hHeld ?_;refine Qad 1 (some 12) z hHeld ?_;refine Qad 2 (some 13) z hHeld ?_;refine Qad 3 (some 14) z hHeld ?_;refine Qad 4 (some 15) z hHeld ?_;refine Qag (i:=5) (by kernel_rfl) rfl (by rfl) (λK hK=>?_)
   skip
   (refine Qpr (b:=b) (C:=C) (k:=k) rfl rfl rfl (Z.o.heap λ_ _=>rfl) hk ?_;intro w7 L X)
   refine hK.out _ _ (hHeld.trans X) (λhHeld=>?_);clear hK K
   try simp only[Act.put,List.setIfInBounds_toArray,List.set_cons_zero,List.set_cons_succ]
   refine eE (by kernel_rfl) ?_ _;go_end0;exact⟨⟨_,rfl⟩,L,hHeld⟩
 | some x=>
   obtain rfl:=ho x rfl;obtain⟨a1,v,sl',so⟩:=x;have z:=hY (show ∀W,Sb (λc=>c=b) w W->W.cell? ⟨bo,0,none⟩=some (.pointer (some ⟨O,0,none⟩))/\W.cell? ⟨O,1,none⟩=some (.map (some b))/\W.cell? ⟨bk,0,none⟩=some (.string k)/\W.cell? ⟨Y,0,none⟩=some (.bool a1)/\W.cell? ⟨Y,1,none⟩=some (.int .i64 v.kind)/\W.cell? ⟨Y,2,none⟩=some (.bool v.b)/\W.cell? ⟨Y,3,none⟩=some (.int .i64 v.i)/\W.cell? ⟨Y,4,none⟩=some (.string v.t)/\W.cell? ⟨Y,5,none⟩=some (.slice sl'.a v.l.length sl'.c)/\W.cell? ⟨Y,6,none⟩=some (.slice so.a v.ok.length so.c)from
    λW N=>⟨(N.blk R no).cell 0,(N.blk J nO).cell 1,(N.blk U nk).cell 0,(N.blk I nd).cell 0,(N.blk I nd).cell 1,(N.blk I nd).cell 2,(N.blk I nd).cell 3,(N.blk I nd).cell 4,(N.blk I nd).cell 5,(N.blk I nd).cell 6⟩)
   clear J a0 I R U D ho nO no nk nd;go_in;go_wp2_with fail;refine ez (S:=(λw'=>Sb (λc=>c=b) w w')) (by kernel_rfl) (((fB _ w).drew)) (λhHeld=>?_);refine Qad 0 (some 5) z hHeld ?_;refine Qad 1 (some 6) z hHeld ?_;refine Qad 2 (some 7) z hHeld ?_;refine Qad 3 (some 8) z hHeld ?_;refine Qad 4 (some 9) z hHeld ?_;refine Qad 5 (some 10) z hHeld ?_;refine Qag (i:=6) (by kernel_rfl) rfl (by rfl) (λK hK=>?_)
   skip
   (refine QjO (b:=b) (C:=C) (k:=k) (s:=⟨a1,v,sl',so⟩) rfl rfl rfl rfl (Z.o.heap λ_ _=>rfl) hk hC hs ?_;intro w7 L X)
   refine hK.out _ _ (hHeld.trans X) (λhHeld=>?_);clear hK K
   try simp only[Act.put,List.setIfInBounds_toArray,List.set_cons_zero,List.set_cons_succ]
   refine eE (by kernel_rfl) ?_ _;go_end0;exact⟨⟨_,rfl⟩,L,hHeld⟩
theorem QsQ{base e n c:Nat}{a:Option Addr}{xs:List Value}(h:w.ownsRow base e 1 (.slice a n c) n xs){m:Nat}(hm:m<=n):w.ownsRow base e 1 (.slice a m c) m (xs.take m):=by
 have Z:=h.1;rcases h.2 with⟨D,Y⟩ |⟨g,R,z,D,I,N,X,L,J,U⟩
 ·obtain rfl:m=0:=by omega
  subst Y;exact⟨by simp,.inl ⟨D,rfl⟩⟩
 injection D with h1 h2 h3;subst h1 h3;refine⟨by rw[ap];omega,.inr ⟨g,c,z,rfl,I,N,by omega,L,J,?_⟩⟩;rw[<-U,cN];congr 1;omega
section
variable{H : Nat -> Prop}{w : World}{O : Nat}{d : OD}
structure Qgr(w:World)(O:Nat)(d:OD)(xs:List Value)(j:Nat)(W:World):Prop where
 blk:Blk W O 80 #[Qay d.T,.map d.mb,.slice d.s.a d.us.length d.s.c]
 map:Qbt W d.mb (Qdw d.us d.C j)
 row:∃ys,W.ownsRow 0 1 1 (.slice d.s.a d.us.length d.s.c) d.us.length ys/\∀i,i<j->ys[i]? = xs[i]?
 sb:Sb (OvB O d) w W
def Qqo(H:Nat->Prop)(O:Nat)(d:OD)(m:Nat)(w:World)(e:Ending)(w':World):Prop:=
 e=.returned (.int .i64 0)/\QnP H w O d ⟨d.T,d.mb,d.s,d.us.take m,d.Hs.take (m+1),Qdw d.us d.C m⟩ w'
theorem Qlq{m:Nat}(hm:m<=d.us.length)(h:QcW H w O d){xs:List Value}(hl:xs.length=d.us.length)(a5:∀(i:Nat) (u:UD) (v:Value),d.us[i]? = some u->xs[i]? = some v->Qh7 w (OvF H w O d) O u v){W:World}(Z:Qgr w O d xs m W) :
  QnP H w O d ⟨d.T,d.mb,d.s,d.us.take m,d.Hs.take (m+1),Qdw d.us d.C m⟩ (W.setCell ⟨O,2,none⟩ (.slice d.s.a m d.s.c)):=by
 have X:Sb (OvB O d) W (W.setCell ⟨O,2,none⟩ (.slice d.s.a m d.s.c)):=(fB (OvB O d) W).set (p:=⟨O,2,none⟩) (.inr (.inl rfl)) _;have z:=Z.sb.trans X;have D:Sb (λc=>c=O) W (W.setCell ⟨O,2,none⟩ (.slice d.s.a m d.s.c)):=(fB (λc=>c=O) W).set (p:=⟨O,2,none⟩) (.inr rfl) _;have ha:Agree (OvF H w O d) w (W.setCell ⟨O,2,none⟩ (.slice d.s.a m d.s.c)):=λi hi=>z.block i hi.1 hi.2.1
 have J:∀i,OvF H w O d i->OvF H (W.setCell ⟨O,2,none⟩ (.slice d.s.a m d.s.c)) O ⟨d.T,d.mb,d.s,d.us.take m,d.Hs.take (m+1),Qdw d.us d.C m⟩ i:=λi hi=>⟨Nat.lt_of_lt_of_le hi.1 z.size,hi.2.1,hi.2.2⟩
 obtain⟨ys,R,a4⟩:=Z.row;have I:(d.us.take m).length=m:=by rw[ap];omega
 have hC:d.Hs[m]? = some (Qdw d.us d.C m):=h.hist.back h.last (d.us.length-m) m (by omega);have a3:=h.hist.take hm;have a2:∀b,d.mb=some b->b≠O:=λb N e=>h.ne.1 (by rw[N,e])
 have U:∀(A:List UD) (C:AL SV),(∀p∈C,p.1.size<=maxLen/\Qkv w (OvF H w O d) p.2)->(∀u∈A,u.k.size<=maxLen/\∀o,u.old=some o->Qkv w (OvF H w O d) o)->∀p∈A.foldr Qhw C,p.1.size<=maxLen/\Qkv w (OvF H w O d) p.2:=by
  intro A C a6
  induction A with
  |nil=>intro _;exact a6
  | cons u r ih=>
    intro hA p L;have a0:=ih λx hx=>hA x (aI _ hx)
    have hu:=hA u (aw ..);rw[List.foldr_cons,Qhw]at L;cases Y:u.old with
    |none=>rw[Y]at L;exact a0 p (bX.1 L).1
    | some o=>
      rw[Y]at L;rcases QiD L with rfl|L
      .exact ⟨hu.1,hu.2 o Y⟩
      exact a0 p L
 refine⟨⟨?_,?_,⟨ys.take m,?_,?_,?_⟩,?_,?_,a3,?_,?_,Qfz h.sorted _ _,(h.tree.agree ha).mono J,h.ok,h.ne,h.out,?_⟩,z,λb N=>.inl N⟩
 ·have:=Z.blk.Qdz 2 (.slice d.s.a m d.s.c)
  show Blk _ O _ #[_,_,.slice d.s.a (d.us.take m).length d.s.c];rw[I];exact this
 .exact Z.map.heap λb N=>D.block b (Z.map.lt N) (a2 b N)
 ·show (ys.take m).length=(d.us.take m).length
  have:=R.1;rw[I,ap];omega
 ·show World.ownsRow _ 0 _ 1 (.slice d.s.a (d.us.take m).length d.s.c) (d.us.take m).length _
  rw[I];exact Qae (QsQ R hm) D.agree λb N=>⟨(Qaa R N).2,λe=>h.ne.2.1 (by rw[<-e];exact N)⟩
 ·intro i u v hu hv
  have hu:(d.us.take m)[i]? = some u:=hu;have hi:i<m:=by have:=(ah.1 hu).1;omega
  rw[bG hi]at hu hv;rw[a4 i hi]at hv;exact((a5 i u v hu hv).agree ha).mono J
 ·intro p L
  have:=U (d.us.drop m) d.C h.vals (λu hu=>h.olds u (aC hu)) p L;exact⟨this.1,(this.2.agree ha).mono J⟩
 ·intro u hu
  have:=h.olds u (aM hu);exact⟨this.1,λo Y=>((this.2 o Y).agree ha).mono J⟩
 ·show (d.Hs.take (m+1))[0]? = _
  rw[bG (by omega)];exact h.h0
 ·show (d.Hs.take (m+1))[(d.us.take m).length]? = _
  rw[I,bG (by omega)];exact hC
 intro a1;exact h.some_ λe=>a1 (by show d.us.take m=[];rw[e];exact List.take_nil)
theorem Qn5{xs:List Value}{j g b:Nat}(h:QcW H w O d)(R:d.mb=some b)(hg:d.s.a=some ⟨g,0,none⟩){u:UD}(hu:d.us[j]? = some u){W J:World}(U:Qgr w O d xs (j+1) W)(hm:Qbt J (some b) (Qhw u (Qdw d.us d.C (j+1))))(hs:Sb (λc=>c=b) W J) :
  Qgr w O d xs j (J.setCell ⟨g,j,none⟩ Value.nilFunc):=by
 have hj:j<d.us.length:=(ah.1 hu).1;have z:d.s.row=some g:=by rw[Sl.row,hg];rfl
 have N:g≠b:=λe=>h.ne.2.2 b R (by rw[z,e])
 have Z:g≠O:=λe=>h.ne.2.1 (by rw[z,e])
 have Y:b≠O:=λe=>h.ne.1 (by rw[R,e])
 obtain⟨ys,L,X⟩:=U.row;have D:J.ownsRow 0 1 1 (.slice d.s.a d.us.length d.s.c) d.us.length ys:=Qae L hs.agree λi hi=>⟨(Qaa L hi).2,λe=>N (by rw[z]at hi;injection hi with hi;omega)⟩
 have I:Sb (λc=>c=g) J (J.setCell ⟨g,j,none⟩ Value.nilFunc):=(fB (λc=>c=g) J).set (p:=⟨g,j,none⟩) (.inr rfl) _;refine⟨I.blk (hs.blk U.blk λe=>Y e.symm) λe=>Z e.symm,?_,⟨ys.set j Value.nilFunc,?_,λi hi=>?_⟩,?_⟩
 ·rw [R,QhA hu]
  exact hm.heap λi hi=>by
   injection hi with hi;subst hi;exact I.block b (hm.lt rfl) λe=>N e.symm
 ·rw [hg] at D ⊢
  exact QbF D hj _
 ·rw [cY (by omega)]
  exact X i (by omega)
 exact(U.sb.trans (hs.mono λi _ e=>.inr (.inl (by rw[R,e])))).trans (I.mono λi _ e=>.inr (.inr (by rw[z,e])))
end
theorem Qhv(P:Program)(w:World)(a:Addr)(m:Mode):(store a Value.nilFunc m).run P w=stored P w a Value.nilFunc m:=run_store P w a _ m rfl
attribute [local go_sem] Qhv
variable{u:Value}
theorem Qrr{base e n c g:Nat}{xs:List Value}(h:w.ownsRow base e 1 (.slice (some ⟨g,0,none⟩) n c) n xs){i:Nat}(L:xs[i]? = some u):w.cell? ⟨g,i,none⟩=some u/\(n<=c/\c<=maxLen)/\g<w/\w.frozen? ⟨g,i,none⟩=false:=by
 rcases h.2 with⟨D,h0⟩ |⟨g',X,z,D,R,U,I,J,Z,Y⟩
 .cases D
 injection D with h1 h2 h3;injection h1 with h1;injection h1 with h1;subst h1 h3;have hi:i<n:=by have:=(ah.1 L).1;have:=h.1;omega
 have N:Blk w g e z:=U;refine⟨?_,⟨I,J⟩,N.lt,N.frozen i⟩;rw[N.cell i];rw[<-Y,bG (by omega)]at L;simpa using L
theorem Qsi(h:QcW H w O d)(hn:d.us.length<=1000000){m:Nat}(hm:m<=d.us.length):Calls prog 24 #[.pointer (some ⟨O,0,none⟩),.int .i64 (m:Int)] w (Qqo H O d m w):=by
 have c2:w.cell? ⟨O,2,none⟩=some (.slice d.s.a d.us.length d.s.c):=h.blk.cell 2;have lO:=h.blk.lt;obtain⟨xs,hl,Y,a8⟩:=h.row;have g0:decide ((m:Int)<0)=false:=eh (by omega);have g1:decide ((d.us.length:Int)<(m:Int))=false:=eh (by omega);have d3:decide (d.us.length<m)=false:=eh (by omega);have a9:Qgr w O d xs d.us.length w:=⟨h.blk,by rw[Qi2];exact h.map,⟨xs,Y,λ_ _=>rfl⟩,fB _ _⟩;have z:=hY h;have a3:=hY a8;have HL:=hY hl;have a6:=hY a9;clear h a8 hl a9 Y;go_in;go_wp2_with fail;go_loopw[5] (λq wr=>∃(j:Nat) (i:Int),q=.int .i64 i/\i+1=(j:Int)/\m<=j/\j<=d.us.length/\Qgr w O d xs j wr) (λq _=>(intOf q+1).toNat)
 case atStart=>exact⟨d.us.length,_,rfl,by omega,hm,an _,a6.o⟩
 obtain⟨j,i,rfl,b4,c9,c8,I⟩:=hrel;by_cases d0:m<j
 ·obtain ⟨j,rfl⟩:∃ k,j=k+1:=⟨j - 1,by omega⟩
  obtain rfl:i=(j:Int):=by omega
  have g2:decide ((m:Int)<=(j:Int))=true:=ej (by omega);have hu:d.us[j]? = some d.us[j]:=ac (by omega);obtain⟨u,b0⟩:∃u,d.us[j]=u:=⟨_,rfl⟩;rw[b0]at hu;obtain⟨v,N⟩:∃v,xs[j]? = some v:=⟨_,ac (by have:=HL.o;omega)⟩;obtain⟨b,hb⟩:=z.o.some_ (λe=>by rw[e]at hu;simp at hu);obtain⟨bw,bd,bo,bk,o,rfl,⟨fw,fd,fo,fk⟩,kw,kd,ho,ko,kk⟩:=a3.o j u v hu N;obtain⟨ys,J,b5⟩:=I.row;have b6:ys[j]? = some (Qkg bw bd bo bk):=by rw[b5 j (by omega)];exact N
  obtain⟨g,L⟩:∃g,d.s.a=some ⟨g,0,none⟩:=by
   rcases J.2 with⟨-,h0⟩ |⟨g,c4,c0,N,-⟩
   .omega
   injection N with h1;exact⟨g,h1⟩
  rw[L]at J;obtain⟨cj,⟨a1,a2⟩,lg,fj⟩:=Qrr J b6;have b2:wr.cell? ⟨O,2,none⟩=some (.slice d.s.a d.us.length d.s.c):=I.blk.cell 2;rw[L]at b2;have lW:=I.blk.lt;have R:Blk wr O 80 #[Qay d.T,.map (some b),.slice d.s.a d.us.length d.s.c]:=by rw[<-hb];exact I.blk
  have U:Qbt wr (some b) (Qdw d.us d.C (j+1)):=by rw[<-hb];exact I.map
  have X:=Qqa R U (Qfz z.o.sorted d.us (j+1)) (by have:=z.o.hist.short z.o.h0 _ _ (z.o.hist.back z.o.last (d.us.length -(j+1)) (j+1) (by omega));unfold maxLen;omega) (z.o.olds u (al hu)).1 (I.sb.blk kw fw.2.1) (I.sb.blk kd fd.2.1) ho (I.sb.blk ko fo.2.1) (I.sb.blk kk fk.2.1);have a5:d.s.row=some g:=by rw[Sl.row,L];rfl
  have a0:¬g=b:=λe=>z.o.ne.2.2 b hb (by rw[a5,e])
  have b7:¬O=b:=λe=>z.o.ne.1 (by rw[hb,e])
  have HW:=hY I;have HU:=hY hu;have HB:=hY hb;have HA:=hY L;have a4:=hY X;have j0:(0:Int)<=(j:Int):=by omega
  have j1:(j:Int)<(d.us.length:Int):=by omega
  have a7:∀W,Sb (λc=>c=b) wr W->W.frozen? ⟨g,j,none⟩=false/\W.cell? ⟨g,j,none⟩=some (Qkg bw bd bo bk)/\W.cell? ⟨O,2,none⟩=some (.slice (some ⟨g,0,none⟩) d.us.length d.s.c)/\g<W:=λW hS=>
   ⟨(World.frozen?_of_block (hS.block g lg a0)).trans fj,(hS.cell lg a0).trans cj,(hS.cell lW b7).trans b2,ab lg hS.size⟩
  have FJ:=hY a7;clear I b4 c2 hu b0 N hb fw fd fo fk kw kd ho ko kk J b5 b6 L R U X a5 a0 b7 a7 a6;go_wp2_with(go_at_call 69;refine(a4.o).mono ?_;rintro e w1 ⟨⟨r,rfl⟩,b8,Z⟩;obtain⟨f1,c1,b3,l1⟩:=FJ.out w1 Z;have c6:=hY b8;have c3:=hY Z;clear b8 Z FJ);go_roundw
  case rel=>exact⟨j,(j:Int)-1,by go_num,by omega,by omega,by omega,Qn5 z.o HB.o HA.o HU.o HW.o c6.o c3.o⟩
  simp[intOf]
 obtain rfl:j=m:=by omega
 have g2:decide ((j:Int)<=i)=false:=eh (by omega);have b2:wr.cell? ⟨O,2,none⟩=some (.slice d.s.a d.us.length d.s.c):=I.blk.cell 2;have f2:=I.blk.frozen 2;have lW:=I.blk.lt;have HW:=hY I;clear I b4 c2;have c7:(d.s.a=none/\d.us.length=0/\d.s.c=0)\/∃g,d.s.a=some ⟨g,0,none⟩/\d.us.length<=d.s.c/\d.s.c<=maxLen:=by
  obtain⟨ys,J,-⟩:=HW.o.row;rcases J.2 with⟨N,h0⟩ |⟨g,c4,c0,N,-,-,a1,a2,-⟩
  ·injection N with h1 h2 h3
   exact .inl ⟨h1,h0,h3⟩
  injection N with h1 h2 h3;exact .inr ⟨g,h1,by rw[h3];exact a1,by rw[h3];exact a2⟩
 rcases c7 with⟨L,hz,hc⟩ |⟨g,L,a1,a2⟩
 ·obtain rfl:j=0:=by omega
  have HA:=hY L;have HC:=hY hc;have HZ:=hY hz;rw[L,hz,hc]at b2;clear L hc hz;have g3:decide ((0:Int)<=i)=false:=g2;go_wp2_with fail;refine eD (v:=.int .i64 0) (by simp[results,results24,go_sem]) rfl ?_;have D:=Qlq hm z.o HL.o a3.o HW.o;rw[HA.o,HC.o]at D;exact⟨rfl,D⟩
 rw[L]at b2;have HA:=hY L;clear L;have k0:(0:Int)<=(j:Int):=by omega
 have k1:(j:Int)<=(d.s.c:Int):=by omega
 go_wp2_with fail;refine eD (v:=.int .i64 0) (by simp[results,results24,go_sem]) rfl ?_;have D:=Qlq hm z.o HL.o a3.o HW.o;rw[HA.o]at D;exact⟨rfl,D⟩
end Go.Proofs.YtkjkafgnnoidpaaGreatDoor
namespace Go.Proofs.YtkjkafgnnoidpaaGreatDoor
open Go.Proofs.Tryz
open Go.RowKit Go.Maps Go.Shelf
structure OvX(H:Nat->Prop)(w:World)(O:Nat)(d:OD)(M:List Ent):Prop where
 ov:QcW H w O d
 rel:QiS (Qab d.T) (Qht d.C) M
structure GoX(H:Nat->Prop)(w:World)(O:Nat)(d:OD)(M':List Ent)(n:Nat)(w':World)(d':OD):Prop where
 go:QnP H w O d d' w'
 T:d'.T=d.T
 rel:QiS (Qab d.T) (Qht d'.C) M'
 us:d.us <+: d'.us
 hs:d.Hs <+: d'.Hs
 few:d'.us.length<=d.us.length+n
section
variable{H : Nat -> Prop}{w w' w1 w2 : World}{O : Nat}{d d' d1 d2 : OD}{M M1 M2 : List Ent}{n m : Nat}
theorem GoX.at_(h:GoX H w O d M1 n w1 d1):OvX H w1 O d1 M1:=⟨h.go.at_,by rw[h.T];exact h.rel⟩
theorem OvX.nw(h:OvX H w O d M)(k:Nw w w'):OvX H w' O d M:=⟨h.ov.nw k,h.rel⟩
theorem GoX.more(h:GoX H w O d M1 n w1 d1)(k:n<=m):GoX H w O d M1 m w1 d1:=⟨h.go,h.T,h.rel,h.us,h.hs,aj h.few (by omega)⟩
theorem GoX.trans(h:GoX H w O d M1 n w1 d1)(k:GoX H w1 O d1 M2 m w2 d2):GoX H w O d M2 (n+m) w2 d2:=
 ⟨⟨k.go.at_,h.go.sb.comp k.go.sb λi hi e=>(h.go.new i e).elim id λh2=>by omega,λb z=>(k.go.new b z).elim (h.go.new b) λh2=>.inr (aj h.go.sb.size h2)⟩,k.T.trans h.T,by have:=k.rel;rwa[h.T]at this,h.us.trans k.us,h.hs.trans k.hs,by have:=h.few;have:=k.few;omega⟩
theorem GoX.since(k:Nw w w1)(h:GoX H w1 O d M1 n w2 d1):GoX H w O d M1 n w2 d1:=
 ⟨⟨h.go.at_,(k.any _).trans h.go.sb,λb z=>(h.go.new b z).imp id (aj k.size)⟩,h.T,h.rel,h.us,h.hs,h.few⟩
theorem OvX.stay(h:OvX H w O d M)(k:Nw w w'):GoX H w O d M n w' d:=⟨⟨h.ov.nw k,k.any _,λb z=>.inl z⟩,rfl,h.rel,dB _,dB _,dP _ _⟩
theorem OvX.now(h:OvX H w O d M)(k:ByteArray):d.now k=Qam M k:=h.rel.now k
theorem OvX.QtU(h:OvX H w O d M){k:ByteArray}{sv:SV}{mb:Option Nat}{s:Sl}(D:QnP H w O d (d.step k sv mb s) w')(z:QiS (Qab d.T) (Qht (Qc6 d.C k sv)) M1):GoX H w O d M1 1 w' (d.step k sv mb s):=
 ⟨D,rfl,z,dJ _ _,dJ _ _,by show(d.us++_).length<=_;rw[ai];exact an _⟩
theorem Qto(h:OvX H w O d M)(D:(Qab d.T).length<=1000000){k:ByteArray}(z:k.size<=maxLen) :
  Calls prog 44 #[.pointer (some ⟨O,0,none⟩),.string k] w (QbO (Qam M k) w):=by
 have:=QrW h.ov D z;rw[h.now k]at this;exact this
theorem Qql(h:OvX H w O d M)(U:∀b,H b->b<w)(hn:d.us.length<=1000000){k:ByteArray}(X:k.size<=maxLen){v:Val}{sl so:Sl}(L:RV w (Lt w) v sl so)(Y:cntV v<=1100000)(N:Qb9 w) :
  Calls prog 14 #[.pointer (some ⟨O,0,none⟩),.string k,aggV v sl so] w λe w'=>e=.returned (.int .i64 (setMu M k v).1)/\∃d',GoX H w O d (setMu M k v).2 1 w' d':=
 (Qry h.ov U hn X L Y N).mono λe w' ⟨R,hp⟩=>by
   have D:(setMu M k v).1=QnR k v:=by
    unfold setMu QnR;split
    .rfl
    split
    .rfl
    rename_i I;simpa using(fr.1 I).symm
   refine⟨by rw[R,D],?_⟩;rcases hp with⟨z,a0,Z,mb,s,ht⟩ |⟨z,hq⟩
   ·have J:Qbd k=0:=by
     unfold QnR at z;by_cases h1:Qbd k=0
     .exact h1
     rw[em h1]at z;cases z
    have I:Qbw v=0:=by
     unfold QnR at z;rwa[ef (by simp[J])]at z
    have hs:(setMu M k v).2=Qbq M k v:=by
     unfold setMu;rw[ef (by simp[J]),ef (by simp[I])]
    rw[hs];exact⟨_,h.QtU ht (h.rel.put J ⟨L.wf,I⟩ (QhW (QbG h.ov.sorted _ _)) λx=>Ql0 d.C k _ x)⟩
   have hs:(setMu M k v).2=M:=by
    unfold setMu;unfold QnR at z;by_cases h1:Qbd k=0
    ·rw [ef (by simp [h1])] at z
     rw[ef (by simp[h1]),em z]
    rw[em h1]
   rw[hs];exact⟨d,h.stay hq⟩
theorem Que(h:OvX H w O d M)(J:∀b,H b->b<w)(R:d.us.length<=1000000)(N:(Qab d.T).length<=1000000){k:ByteArray}(L:k.size<=maxLen) :
  Calls prog 17 #[.pointer (some ⟨O,0,none⟩),.string k] w λe w'=>e=.returned (.bool (Qam M k).isSome)/\∃d',GoX H w O d (Qb2 M k) 1 w' d':=
 (Qoo h.ov J R N L).mono λe w' ⟨I,hp⟩=>by
   rw[h.now k]at I hp;refine⟨I,?_⟩;rcases hp with⟨D,Y⟩ |⟨D,mb,s,X⟩
   ·have hd:Qb2 M k=M:=by
     refine QdW (QaR h.rel.ok.sorted k) h.rel.ok.sorted λx=>?_
     rw[QcL _ _ _ h.rel.ok.sorted];by_cases z:x=k
     ·rw [em z,z]
      cases U:Qam M k with
      |none=>rfl
      |some y=>rw[U]at D;cases D
     rw[ef z]
    rw[hd];exact⟨d,h.stay Y⟩
   exact⟨_,h.QtU X (h.rel.del (QhW (QbG h.ov.sorted _ _)) λx=>Ql0 d.C k _ x)⟩
theorem Qub(h:OvX H w O d M)(g:GoX H w O d M1 n w1 d1)(J:d1.us.length<=1000000) :
  Calls prog 24 #[.pointer (some ⟨O,0,none⟩),.int .i64 (d.us.length:Int)] w1 λe w'=>e=.returned (.int .i64 0)/\∃d2,GoX H w O d M 0 w' d2/\d2.us=d.us:=
 (Qsi g.go.at_ J (m:=d.us.length) g.us.length_le).mono λe w' ⟨I,z⟩=>by
   have hu:d1.us.take d.us.length=d.us:=(ce.1 g.us).symm;have D:d.Hs.length=d.us.length+1:=h.ov.hist.len;have N:d1.Hs.take (d.us.length+1)=d.Hs:=by rw[<-D];exact(ce.1 g.hs).symm
   have L:Qdw d1.us d1.C d.us.length=d.C:=by
    have h1:=g.go.at_.hist.back g.go.at_.last (d1.us.length-d.us.length) d.us.length (by have:=g.us.length_le;omega);obtain⟨t,z⟩:=g.hs;rw[<-z,bm (by omega),h.ov.last]at h1;injection h1 with h1;exact h1.symm
   refine⟨I,⟨d1.T,d1.mb,d1.s,d1.us.take d.us.length,d1.Hs.take (d.us.length+1),Qdw d1.us d1.C d.us.length⟩,⟨⟨z.at_,g.go.sb.comp z.sb λi hi e=>(g.go.new i e).elim id λh2=>by omega,λb R=>(z.new b R).elim (g.go.new b) λh2=>.inr (aj g.go.sb.size h2)⟩,g.T,?_,?_,?_,?_⟩,hu⟩
   ·show QiS _ (Qht (Qdw d1.us d1.C d.us.length)) M
    rw[L];exact h.rel
   ·show d.us <+: d1.us.take d.us.length
    rw[hu];exact dB _
   ·show d.Hs <+: d1.Hs.take (d.us.length+1)
    rw[N];exact dB _
   show(d1.us.take d.us.length).length<=_;rw[hu];exact an _
theorem QpL{B:List Ent}{C:Slots}(h:QiS B C B):idleC B C:=λk s z=>by
 have h1:=h.now k;rw[Qkq,z]at h1;cases s with
 |none=>exact h1.symm
 | some v=>
   show(Qam B k).any _=true;rw[<-h1];simp[QgA]
theorem QuT(h:OvX H w O d M)(z:(Qab d.T).length+d.C.length<=1000000) :
  Calls prog 23 #[.pointer (some ⟨O,0,none⟩)] w λe w'=>∃T',e=.returned (Qau T')/\OkR T'/\IsT w' (Up (OvF H w O d) w w') T'/\Qab T'=M/\Nw w w'/\(M=Qab d.T->T'=d.T):=
 (Qoi h.ov z).mono λe w' ⟨T',he,ok,hT,hen,hn,hi⟩=>⟨T',he,ok,hT,hen.trans h.rel.com,hn,λD=>hi (QpL (by have:=h.rel;rwa[D]at this))⟩
end
end Go.Proofs.YtkjkafgnnoidpaaGreatDoor
