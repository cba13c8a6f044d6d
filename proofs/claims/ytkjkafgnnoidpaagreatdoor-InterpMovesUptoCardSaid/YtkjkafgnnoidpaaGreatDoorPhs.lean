/- What the theorem needs of the texts MovQ13: no condition of its own. -/
import Derived.Test.YtkjkafgnnoidpaaGreatDoorPho
set_option linter.unusedVariables false
set_option linter.unusedSimpArgs false
set_option linter.unnecessarySimpa false
namespace Go.Proofs.YtkjkafgnnoidpaaGreatDoor
open Go.RowKit
theorem QvX{M:List Ent}{f t:ByteArray}:∀{L:List Ent},Qb5 M f t L=0->∀e∈L,((Qam M (QaF f t e.1)).isSome && !Qaj f (QaF f t e.1))=false
 |[],_,e,z=>by cases z
 | x :: r,h,e,z=>by
   rw[Qb5]at h;by_cases h1:Qbd (QaF f t x.1)=0
   ·rw [ef (by simp [h1])] at h
    split at h
    .cases h
    rename_i h2;rcases aG.1 z with rfl|z
    .simpa using h2
    exact QvX h e z
   rw[em h1]at h;cases h
theorem Qv5:∀{es:List Ent} {k:ByteArray} {v:Val},Qam es k=none->(Qbq es k v).length=es.length+1
 |[],k,v,_=>rfl
 | (a,b) :: r,k,v,h=>by
   have z:a≠k:=λe=>by subst e;simp[Qam]at h
   have D:Qam r k=none:=by
    rw[Qam,ef z]at h;exact h
   rw[Qbq];split
   .rw [av,Qv5 D,av]
   first|rfl |(rw[ef z];rfl)
theorem QvW:∀{l A:List Ent},(∀e∈l,Qam A e.1=none)->l.Pairwise (λa b=>a.1≠b.1)->(QaJ A l).length=A.length+l.length
 |[],A,_,_=>rfl
 | a :: r,A,h,hp=>by
   obtain⟨h1,h2⟩:=aW.1 hp;show(QaJ (Qbq A a.1 a.2) r).length=_;rw[QvW (l:=r) (A:=Qbq A a.1 a.2) (λe z=>by rw[Qdg,ef (h1 e z).symm];exact h e (aI _ z)) h2,Qv5 (h a (az ..)),av];omega
theorem Qwg(M:List Ent)(f:ByteArray):(Qg6 M f).length+(Qca M f).length=M.length:=by
 unfold Qg6 Qca
 induction M with
 |nil=>rfl
 | cons a r ih=>
   cases h:Qaj f a.1
   .rw [du (by simp[h]),List.filter_cons_of_neg (by simp[h]),av,av];omega
   rw[List.filter_cons_of_neg (by simp[h]),du (by simp[h]),av,av];omega
variable{M:List Ent}
theorem QvV{f t:ByteArray}(h:(QcA M f t).1=0):Qb5 M f t (Qca M f)=0/\(QcA M f t).2=QaJ (Qg6 M f) ((Qca M f).map λe=>(QaF f t e.1,e.2)):=by
 unfold QcA at h ⊢;split at h
 .rename_i h1;exact absurd h h1
 rename_i h1;rw[ef h1];exact⟨Decidable.not_not.1 h1,rfl⟩
theorem Qwe(J:OkM M){f t:ByteArray}(h:(QcA M f t).1=0){e:Ent}(I:e∈M):Qam (QcA M f t).2 (if Qaj f e.1 then QaF f t e.1 else e.1)=some e.2:=by
 obtain⟨X,h2⟩:=QvV h;rw[h2];cases N:Qaj f e.1 with
 | true=>
   rw[em rfl];refine Qg2 ⟨_,bE.2 ⟨e,QbC.2 ⟨I,N⟩,rfl⟩,rfl⟩ λx R z=>?_
   obtain⟨y,D,rfl⟩:=bE.1 R;have h1:=congrArg (QaF t f) z;rw[Qcv (QbC.1 D).2,Qcv N]at h1;have a:=QcM J.sorted (QbC.1 D).1;have b:=QcM J.sorted I;rw[h1,b]at a;injection a with a;exact a.symm
 | false=>
   rw[ef (by simp),Qeb λx R z=>?_]
   ·unfold Qg6
    rw[Qdf (P:=λk=>!Qaj f k),N];exact QcM J.sorted I
   obtain⟨y,D,rfl⟩:=bE.1 R;have U:=QvX X y D;have z:QaF f t y.1=e.1:=z;rw[z,QcM J.sorted I,N]at U;cases U
theorem Qwf(Y:OkM M){f t:ByteArray}(h:(QcA M f t).1=0):(QcA M f t).2.length=M.length:=by
 obtain⟨R,h2⟩:=QvV h;rw[h2,QvW,ao,Qwg]
 ·intro x U
  obtain⟨y,N,rfl⟩:=bE.1 U;have D:=QvX R y N;unfold Qg6;show Qam _ (QaF f t y.1)=none;rw[Qdf (P:=λk=>!Qaj f k)];cases I:Qaj f (QaF f t y.1)with
  |true=>rfl
  | false=>
    rw[I]at D;cases J:Qam M (QaF f t y.1)with
    |none=>rfl
    |some v=>rw[J]at D;cases D
 rw[bG];refine List.Pairwise.imp_of_mem (λ{a b} Z I z X=>?_) (cE (ce ..) Y.sorted:(Qca M f).Pairwise λa b=>klt a.1 b.1=true);have h1:=congrArg (QaF t f) X;rw[Qcv (QbC.1 Z).2,Qcv (QbC.1 I).2]at h1;rw[h1]at z;exact absurd z (by simp[Qah])
end Go.Proofs.YtkjkafgnnoidpaaGreatDoor
