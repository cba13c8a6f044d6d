/- What the theorem needs of the texts SeqP: no condition of its own. -/
import Derived.Test.YtkjkafgnnoidpaaGreatDoorPgh
set_option linter.unusedVariables false
set_option linter.unusedSimpArgs false
set_option linter.unnecessarySimpa false
namespace Go.Proofs.YtkjkafgnnoidpaaGreatDoor
open Go.RowKit
theorem QvD(n:Nat):∀(m:Mu) (q:Nat),SizeOf.sizeOf m<=n->QaW m (q+1)=0->QaW m q=0:=by
 induction n with
 |zero=>intro m q h;have:=Mu.Qb7 m;omega
 | succ n ih=>
   intro m q h z;obtain⟨U,k,R,i,I,N,J,v,l⟩:=m;simp only[Mu.mk.sizeOf_spec]at h;have L:∀(l:List Mu) (q:Nat),SizeOf.sizeOf l<=n->Qce l (q+1)=0->Qce l q=0:=by
    intro l
    induction l with
    |nil=>intro q _ _;rw[Qce]
    | cons a r ihr=>
      intro q hs z;simp only[List.cons.sizeOf_spec]at hs;rw[Qce]at z ⊢;by_cases D:QaW a (q+1)=0
      ·rw [ef (fun e=>e D)] at z
       rw[ef (λe=>e (ih a q (by omega) D))];exact ihr q (by omega) z
      rw[em D]at z;exact absurd z D
   rw[QaW]at z ⊢;split at z
   .cases z
   rename_i c1;rw[ef c1];split at z
   .cases z
   rename_i c2;rw[ef (by omega)];split at z
   .cases z
   rename_i c3;rw[ef c3];split at z
   .rename_i c4;rw[em c4];exact z
   rename_i c4;rw[ef c4];split at z
   .rename_i c5;rw[em c5];exact z
   rename_i c5;rw[ef c5];exact L l (q+1) (by omega) z
variable{q:Nat}
theorem QvF{m:Mu}(h:QaW m (q+1)=0):QaW m q=0:=QvD _ m q (an _) h
abbrev Qvv(l:List Mu):Mu:=.mk 7 ByteArray.empty ByteArray.empty 0 false zeroV false zeroV l
theorem Qvy:∀{l:List Mu} {q:Nat} {x:Mu},Qce l q=0->x∈l->QaW x q=0
 | a :: r,q,x,h,D=>by
   rw[Qce]at h;by_cases z:QaW a q=0
   ·rw [ef (fun e=>e z)] at h
    rcases aF.1 D with rfl|D
    .exact z
    exact Qvy h D
   rw[em z]at h;exact absurd h z
theorem Qvw:∀{l:List Mu} {x:Mu},x∈l->QaT x<=QaC l
 | a :: r,x,z=>by
   rw[QaC];rcases aF.1 z with rfl|z
   .omega
   have:=Qvw z;omega
theorem QvB{l:List Mu}(h:QbE (Qvv l)=0):∀m∈l,QbE m=0:=λm z=>by
 unfold QbE at h;split at h
 .cases h
 rename_i hs;rw[QaT]at hs;have h1:=Qvw z;unfold QbE;rw[ef (by omega)];rw[QaW]at h;split at h
 .cases h
 split at h
 .cases h
 split at h
 .cases h
 split at h
 .rename_i c;simp at c
 split at h
 .rename_i c;simp[Qhx]at c
 exact QvF (Qvy h z)
variable{M:List Ent}
theorem QvE(z:OkM M):Qam M ByteArray.empty=none:=by
 cases D:Qam M ByteArray.empty with
 |none=>rfl
 | some v=>
   have h:=(z.get D).1;rw[show Qbd ByteArray.empty=8 by decide +kernel]at h;cases h
theorem run_seq(z:OkM M)(l:List Mu):runM M (Qvv l)=if QbE (Qvv l)≠0 then(QbE (Qvv l),M)else if(Qks l M).1≠0 then((Qks l M).1,M)else Qks l M:=by
 unfold runM;congr 1;rw[stepM];have D:asM M ByteArray.empty false zeroV=true:=by unfold asM;rw[QvE z];rfl
 rw[D];rfl
theorem QvA{m:Mu}(h:QbE m=0):runM M m=stepM m M:=by unfold runM;rw[ef (by simp[h])]
variable{j:Nat}
theorem Qvz{l:List Mu}{x:Mu}(D:l[j]? = some x)(M:List Ent)(h:(Qks (l.take j) M).1=0):Qks (l.take (j+1)) M=if(stepM x (Qks (l.take j) M).2).1≠0 then((stepM x (Qks (l.take j) M).2).1,(Qks (l.take j) M).2)else((stepM x (Qks (l.take j) M).2)):=by
 induction l generalizing j M with
 |nil=>simp at D
 | cons a r ih=>
   cases j with
   | zero=>
     have:a=x:=by simpa using D
     subst this;rw[aT,Qks];simp only[List.take_zero,Qks];split
     .rfl
     rename_i hh;exact ee (fr.1 hh).symm rfl
   | succ j=>
     rw[aT]at h ⊢;rw[aT];by_cases I:(stepM a M).1=0
     ·have J:∀ z,Qks (a :: z) M=Qks z (stepM a M).2:=fun z=>by rw [Qks,ef (fun e=>e I)]
      rw[J]at h ⊢;rw[J];exact ih (by simpa using D) _ h
     rw[Qks,em I]at h;exact absurd h I
theorem QvC{l:List Mu}(h:(Qks (l.take j) M).1≠0):Qks l M=Qks (l.take j) M:=by
 induction l generalizing j M with
 |nil=>simp
 | cons a r ih=>
   cases j with
   |zero=>exact absurd rfl h
   | succ j=>
     rw[aT,Qks]at h ⊢;rw[Qks];by_cases z:(stepM a M).1=0
     ·rw [ef (fun e=>e z)] at h
      rw[ef (λe=>e z),ef (λe=>e z)];exact ih h
     rw[em z,em z]
end Go.Proofs.YtkjkafgnnoidpaaGreatDoor
