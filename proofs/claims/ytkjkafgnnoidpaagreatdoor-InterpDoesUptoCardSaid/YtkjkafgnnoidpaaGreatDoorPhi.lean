/- What the theorem needs of the texts MuV, BackP, KnP13, WV, CntV, MutZ, OvCom0, OvPre2, OvPreW, CmpW, CmpI, CmpA, LogP, Det, VSame, OvCom, OvComW, PutV, OvBack, OvBackW, OvX: no condition of its own. -/
import Derived.Test.YtkjkafgnnoidpaaGreatDoorPhh
set_option linter.unusedVariables false
set_option linter.unusedSimpArgs false
set_option linter.unnecessarySimpa false
set_option maxRecDepth 100000
set_option maxHeartbeats 4000000
namespace Go.Proofs.YtkjkafgnnoidpaaGreatDoor
open Go.Proofs.Tryz
open Go.RowKit
theorem Qdf{P:ByteArray->Bool}:∀{M:List Ent} (k:ByteArray),Qam (M.filter λe=>P e.1) k=if P k then Qam M k else none
 |[],k=>by simp[Qam]
 | e :: r,k=>by
   have D:=Qdf (P:=P) (M:=r) k;rw[bz];by_cases z:e.1=k
   ·subst z
    cases I:P e.1 with
    |true=>simp[Qam]
    |false=>rw[ef (by simp),D,I];simp
   cases I:P e.1 with
   | true=>
     rw[em rfl,Qam,ef z,D];congr 1;rw[Qam,ef z]
   | false=>
     rw[ef (by simp),D];congr 1;rw[Qam,ef z]
def QeT(M:List Ent)(ks:List ByteArray):List Ent:=ks.foldl Qb2 M
variable{ks:List ByteArray}
theorem Qjk:∀{M:List Ent},Sorted M->Sorted (QeT M ks):=by
 induction ks with
 |nil=>exactλh=>h
 |cons k r ih=>exactλh=>ih (QaR h k)
theorem Qon:∀{M:List Ent},Sorted M->∀x,(x∈ks->Qam (QeT M ks) x=none)/\(x∉ks->Qam (QeT M ks) x=Qam M x):=by
 induction ks with
 |nil=>intro M h x;exact⟨λh=>absurd h (by simp),λ_=>rfl⟩
 | cons k r ih=>
   intro M h x;obtain⟨I,D⟩:=ih (QaR h k) x;refine⟨λz=>?_,λz=>?_⟩
   ·show Qam (QeT (Qb2 M k) r) x=_
    by_cases h1:x∈r
    .exact I h1
    have h2:x=k:=(aG.1 z).resolve_right h1;rw[D h1,QcL _ _ _ h,em h2]
   show Qam (QeT (Qb2 M k) r) x=_;rw[D λh1=>z (aI _ h1),QcL _ _ _ h,ef (λe:x=k=>z (by rw[e];exact az ..))]
variable{M:List Ent}
theorem QdS(h:Sorted M)(p:ByteArray):Sorted (Qg6 M p):=h.sublist (ce ..)
theorem QmI(h:Sorted M)(p:ByteArray):QeT M (Qfm (Qaj p) M)=Qg6 M p:=
 QdW (Qjk h) (QdS h p) λx=>by
  obtain⟨J,z⟩:=Qon (ks:=Qfm (Qaj p) M) h x;unfold Qg6;rw[Qdf (P:=λk=>!Qaj p k)];by_cases h1:x∈Qfm (Qaj p) M
  .rw [J h1,ef (by simp[((QgV h).1 h1).1])]
  rw[z h1];cases D:Qaj p x with
  |false=>rw[em (by rfl)]
  | true=>
    rw[ef (by simp)];cases I:Qam M x with
    |none=>rfl
    |some v=>exact absurd ((QgV h).2 ⟨D,by rw[I];rfl⟩) h1
theorem QhO{M:List Ent}{f t:ByteArray}:∀{L:List Ent} {e:Ent},Qb5 M f t L=0->e∈L->Qbd (QaF f t e.1)=0
 |[],e,_,h=>by cases h
 | x :: r,e,h,z=>by
   rw[Qb5]at h;by_cases h1:Qbd (QaF f t x.1)=0
   ·rw [ef (by simp [h1])] at h
    rcases aG.1 z with rfl|z
    .exact h1
    split at h
    .cases h
    exact QhO h z
   rw[em h1]at h;cases h
theorem QhN{M:List Ent}{f t:ByteArray}:∀{L:List Ent} {j:Nat},Qb5 M f t (L.take j)=0->Qb5 M f t L=Qb5 M f t (L.drop j)
 |L,0,_=>rfl
 |[],j+1,_=>by simp
 | x :: r,j+1,h=>by
   rw[aV,Qb5]at h;rw[Qb5,List.drop_succ_cons];by_cases h1:Qbd (QaF f t x.1)=0
   ·rw [ef (by simp [h1])] at h ⊢
    split at h
    .cases h
    rename_i h2;rw[ef h2];exact QhN h
   rw[em h1]at h;cases h
variable{j:Nat}
theorem Qrg{f t:ByteArray}{L:List Ent}{e:Ent}(h:Qb5 M f t (L.take j)=0)(z:L[j]? = some e) :
  Qb5 M f t L=if Qbd (QaF f t e.1)≠0 then 8 else if(Qam M (QaF f t e.1)).isSome && !Qaj f (QaF f t e.1)then 13 else Qb5 M f t (L.drop (j+1)):=by
 obtain⟨h1,h2⟩:=ah.1 z;rw[QhN h,aE h1,h2,Qb5]
theorem QhP{M:List Ent}{f t:ByteArray}:∀{L:List Ent} {j:Nat} {e:Ent},Qb5 M f t (L.take j)=0->L[j]? = some e->Qbd (QaF f t e.1)=0->((Qam M (QaF f t e.1)).isSome && !Qaj f (QaF f t e.1))=false->Qb5 M f t (L.take (j+1))=0
 |[],j,e,_,he,_,_=>by simp at he
 | x :: r,0,e,_,he,h1,h2=>by
   have:x=e:=by simpa using he
   subst this;rw[aV,bO,Qb5,ef (by simp[h1]),ef (by simp[h2]),Qb5]
 | x :: r,j+1,e,h,he,h1,h2=>by
   rw[aV,Qb5]at h ⊢;by_cases z:Qbd (QaF f t x.1)=0
   ·rw [ef (by simp [z])] at h ⊢
    split at h
    .cases h
    rename_i h4;rw[ef h4];exact QhP h (by simpa using he) h1 h2
   rw[em z]at h;cases h
theorem Qjw(M:List Ent)(p:ByteArray):Qfm (Qaj p) M=(Qca M p).map Prod.fst:=rfl
theorem Qhf(M:List Ent)(k:ByteArray)(v:Val):(setMu M k v).2.length<=M.length+1:=by
 unfold setMu;split
 .exact cH _
 split
 .exact cH _
 have:=QcN M k v;show(Qbq M k v).length<=_;omega
theorem Qke(P:Ent->Bool):∀M:List Ent,(M.filter λe=>!P e).length+(M.filter P).length<=M.length
 |[]=>by simp
 | e :: r=>by
   have z:=Qke P r;rw[bz,bz];cases D:P e
   .rw [em (by rfl),ef (by simp)];simp only[List.length_cons];omega
   rw[ef (by simp),em rfl];simp only[List.length_cons];omega
theorem QjK(M:List Ent)(f t:ByteArray):(QcA M f t).2.length<=M.length:=by
 unfold QcA;split
 .exact an _
 have h1:=Qea ((Qca M f).map λe=>(QaF f t e.1,e.2)) (Qg6 M f);rw[ao]at h1;exact al h1 (Qke (λe=>Qaj f e.1) M)
theorem Qmb(M:List Ent)(k:ByteArray)(l:List Val)(x:Val):(Qma M k l x).2.length<=M.length+1:=by
 unfold Qma;split
 .exact cH _
 exact Qhf ..
theorem Qlo(M:List Ent)(k:ByteArray)(n b:Int):(Qqx M k n b).2.length<=M.length+1:=by
 unfold Qqx;split
 .exact cH _
 exact Qhf ..
theorem Qol(M:List Ent)(k:ByteArray):(Qb2 M k).length<=M.length:=(Qba M k).length_le
theorem Qns(n:Nat):∀(m:Mu) (M:List Ent),SizeOf.sizeOf m<=n->(stepM m M).2.length<=M.length+QaT m:=by
 induction n with
 |zero=>intro m M h;have:=Mu.Qb7 m;omega
 | succ n ih=>
   intro m M h;obtain⟨U,k,z,i,D,I,N,v,l⟩:=m;simp only[Mu.mk.sizeOf_spec]at h;have hs:∀(l:List Mu) (M:List Ent),SizeOf.sizeOf l<=n->(Qks l M).2.length<=M.length+QaC l:=by
    intro l
    induction l with
    |nil=>intro M _;simp[Qks,QaC]
    | cons a r ihr=>
      intro M J;simp only[List.cons.sizeOf_spec]at J;unfold Qks QaC;split
      .show M.length<=_;omega
      have h1:=ih a M (by omega);have h2:=ihr (stepM a M).2 (by omega);omega
   unfold stepM QaT;have h1:=Qhf M k v;have h2:=Qol M k;have R:=QjK M k z;have X:=hs l M (by omega);split
   .omega
   split
   ·split
    .show (Qb2 M k).length<=_;omega
    show M.length<=_;omega
   split
   ·unfold Qeo
    split
    ·rename_i x _
     split
     .show M.length<=_;omega
     have:=Qlo M k x.i i;omega
    have:=Qlo M k 0 i;omega
   split
   ·split
    ·split
     .omega
     show(Qb2 M k).length<=_;omega
    show M.length<=_;omega
   split
   ·unfold Qqk
    split
    ·rename_i y _
     split
     .show M.length<=_;omega
     have:=Qmb M k y.l v;omega
    have:=Qmb M k [] v;omega
   split
   .omega
   split
   ·split
    ·split
     .show M.length<=_;omega
     omega
    show M.length<=_;omega
   show M.length<=_;omega
theorem Qp2(m:Mu)(M:List Ent):(stepM m M).2.length<=M.length+QaT m:=Qns _ m M (an _)
theorem Qeb{x:ByteArray}:∀{l A:List Ent},(∀e∈l,e.1≠x)->Qam (QaJ A l) x=Qam A x
 |[],A,_=>rfl
 | a :: r,A,h=>by
   show Qam (QaJ (Qbq A a.1 a.2) r) x=_;rw[Qeb λe z=>h e (aI _ z),Qdg,ef λe=>h a (az ..) e.symm]
theorem Qg2{x:ByteArray}{v:Val}:∀{l A:List Ent},(∃e∈l,e.1=x)->(∀e∈l,e.1=x->e.2=v)->Qam (QaJ A l) x=some v
 |[],A,⟨e,z,_⟩,_=>by cases z
 | a :: r,A,⟨e,z,hx⟩,h=>by
   show Qam (QaJ (Qbq A a.1 a.2) r) x=_;by_cases D:∃e∈r,e.1=x
   .exact Qg2 D λe z=>h e (aI _ z)
   rcases aG.1 z with rfl|z
   .rw [Qeb λy I e=>D ⟨y,I,e⟩,Qdg,em hx.symm,h e (az ..) hx]
   exact absurd ⟨e,z,hx⟩ D
theorem Qeg(f t k:ByteArray):(QaF f t k).data.toList=t.data.toList++k.data.toList.drop f.data.toList.length:=by
 unfold QaF;rw[ByteArray.data_append,dn,dy,Array.toList_extract,List.extract_eq_take_drop];have h1:f.data.toList.length=f.size:=aH;have h2:k.data.toList.length=k.size:=aH;rw[h1,a7];rw[au,h2];exact an _
theorem QeN(p k:ByteArray):Qaj p k=p.data.toList.isPrefixOf k.data.toList:=by
 unfold Qaj;rw[eB,eB]
theorem Qcv{f t k:ByteArray}(h:Qaj f k=true):QaF t f (QaF f t k)=k:=by
 apply dR;apply df.1;rw[Qeg,Qeg,dZ];rw[QeN,bY]at h;obtain⟨r,z⟩:=h;rw[<-z,dZ]
theorem Qfq{M:List Ent}{f t:ByteArray}:∀{L:List Ent},(∀e∈L,Qbd (QaF f t e.1)=0/\((Qam M (QaF f t e.1)).isSome && !Qaj f (QaF f t e.1))=false)->Qb5 M f t L=0
 |[],_=>rfl
 | e :: r,h=>by
   obtain⟨h1,h2⟩:=h e (az ..);rw[Qb5,ef (by simp[h1]),h2,ef (by simp)];exact Qfq λx z=>h x (aI _ z)
theorem QbC{p:ByteArray}{e:Ent}:e∈Qca M p↔e∈M/\Qaj p e.1=true:=by unfold Qca;rw[bI]
abbrev Qch(f t:ByteArray):Mu:=.mk 6 f t 0 false zeroV false zeroV []
theorem Qg9(M:List Ent)(f t:ByteArray):runM M (Qch f t)=if QbE (Qch f t)≠0 then(QbE (Qch f t),M)else QcA M f t:=rfl
theorem QiA(f t:ByteArray):QbE (Qch f t)=if Qf8 f&&Qf8 t then 0 else 8:=by
 have D:Qbv 6 f t 0 false zeroV false zeroV 0=true:=by unfold Qbv;rfl
 unfold QbE;rw[ef (by rw[QaT,QaC];decide),QaW];rw[show(([]:List Mu).length)=0 from rfl,D];have z:QfU 6 f t false=(Qf8 f&&Qf8 t):=by unfold QfU;rw[em rfl]
 rw[z];cases I:(Qf8 f&&Qf8 t)with
 |false=>rfl
 |true=>rfl
abbrev kAi:ByteArray:=⟨#[97,47,49]⟩
abbrev kB1:ByteArray:=⟨#[98,47,49]⟩
abbrev kL1:ByteArray:=⟨#[108]⟩
abbrev kX1:ByteArray:=⟨#[120]⟩
abbrev kY1:ByteArray:=⟨#[121]⟩
abbrev kAs:ByteArray:=⟨#[97,47]⟩
abbrev kBs:ByteArray:=⟨#[98,47]⟩
variable{q:Nat}
theorem Qph{n:Int}(z:q<=64):QbN (Qbs n) q=0:=by
 rw[Qbs,QbN];rw[show QbD 3 false n ByteArray.empty ([]:List Val).length ([]:List ByteArray).length=false by simp[QbD]];rw[ef (by simp),ef (by omega)];rfl
theorem Qil{n:Int}(z : -9223372036854775808<=n)(h1:n<=9223372036854775807):Qbw (Qbs n)=0:=by
 have D:=Lib.itoa_length_le n z h1;unfold Qbw;rw[ef (by simp[Qph (n:=n) (q:=1) (by decide)]),ef (by rw[Qbs,Qbp];decide),ef];rw[Qbs,Qdy,ef (by decide),em rfl];omega
theorem Qr9(n:Int):wfV (Qbs n):=by unfold Qbs wfV;exact⟨rfl,by unfold Qkk;trivial,by unfold Qkk;trivial⟩
theorem Qr2{n:Int}(z : -9223372036854775808<=n)(h1:n<=9223372036854775807):okV (Qbs n):=⟨Qr9 n,Qil z h1⟩
theorem Qr3{l:List Int}(h:∀n∈l,-9223372036854775808<=n/\n<=9223372036854775807)(R:l.length<=40):okV (Qf2 (l.map Qbs)):=by
 have N:∀{l:List Int},Qbz (l.map Qbs) 2=0:=by
  intro l
  induction l with
  |nil=>rw[be,Qbz]
  |cons a r ih=>rw[aR,Qbz,Qph (by decide),ef (by simp)];exact ih
 have hd:∀{l:List Int},Qa8 (l.map Qbs)<=1:=by
  intro l
  induction l with
  |nil=>rw[be,Qa8];omega
  | cons a r ih=>
    rw[aR,Qa8];have:Qbp (Qbs a)=1:=by rw[Qbs,Qbp];rfl
    omega
 have D:∀{l:List Int},(∀n∈l,-9223372036854775808<=n/\n<=9223372036854775807)->Qek (l.map Qbs)<=21*l.length:=by
  intro l
  induction l with
  |nil=>intro _;rw[be,Qek];omega
  | cons a r ih=>
    intro h;have h1:=h a (az ..);have h2:=ih λn D=>h n (aI _ D)
    have J:Qdy (Qbs a)=(Lib.itoa a).length:=by rw[Qbs,Qdy,ef (by decide),em rfl]
    have U:=Lib.itoa_length_le a h1.1 h1.2;rw[aR,Qek,av];omega
 refine⟨?_,?_⟩
 ·unfold Qf2 wfV
  refine⟨rfl,QiP λj d z=>?_,by unfold Qkk;trivial⟩;rw[aq]at z;cases I:l[j]? with
  |none=>rw[I]at z;cases z
  |some n=>rw[I]at z;injection z with z;rw[<-z];exact Qr9 n
 have h1:QbN (Qf2 (l.map Qbs)) 1=0:=by
  rw[Qf2,QbN];rw[show QbD 5 false 0 ByteArray.empty (l.map Qbs).length ([]:List ByteArray).length=false by simp[QbD]];rw[ef (by simp),ef (by omega),ef (by decide),em rfl];exact N
 have h2:Qbp (Qf2 (l.map Qbs))<=2:=by rw[Qf2,Qbp,em rfl];have:=hd (l:=l);omega
 have J:Qdy (Qf2 (l.map Qbs))<=1024:=by
  rw[Qf2,Qdy,ef (by decide),ef (by decide),ef (by decide),em rfl,ao];have:=D h;omega
 unfold Qbw;rw[ef (by simp[h1]),ef (by omega),ef (by omega)]
abbrev Qhr(k:ByteArray)(n:Int):Mu:=.mk 3 k ByteArray.empty n false zeroV false zeroV []
abbrev QqG(k:ByteArray):Mu:=.mk 2 k ByteArray.empty 0 false zeroV false zeroV []
abbrev Qoc(k:ByteArray)(v:Val):Mu:=.mk 4 k ByteArray.empty 0 true v false zeroV []
abbrev Qkx(k:ByteArray)(v:Val):Mu:=.mk 5 k ByteArray.empty 0 false zeroV false v []
theorem Qgj{J:Int}{k N:ByteArray}{i:Int}{z:Bool}{D:Val}{I:Bool}{v:Val}(X:Qbv J k N i z D I v 0=true)(R:QfU J k N z=true)(U:z=true->Qbw D=0)(Y:Qhx J I=true->Qbw v=0):QbE (.mk J k N i z D I v [])=0:=by
 unfold QbE;rw[ef (by rw[QaT,QaC];decide),QaW,show(([]:List Mu).length)=0 from rfl,X,R];rw[ef (by simp),ef (by decide),ef (by simp)];rw[ef (λh=>by simp only[Bool.and_eq_true]at h;rw[U h.1]at h;simp at h),ef (λh=>by simp only[Bool.and_eq_true]at h;rw[Y h.1]at h;simp at h),Qce]
theorem Qe6:Qel zeroV=true:=by decide
theorem Qiz{k:ByteArray}{D:Int}{z:Bool}(h:Qbd k=0)(I:D≠6)(J:k.size≠0):QfU D k ByteArray.empty z=true:=by
 unfold QfU;rw[ef I,ef (λe=>J e.2),h];rfl
theorem Qra{k:ByteArray}{n:Int}(h:Qbd k=0)(z:k.size≠0):QbE (Qhr k n)=0:=
 Qgj (by simp[Qbv,Qe6]) (Qiz h (by decide) z) (λh=>by cases h) (λh=>by simp[Qhx]at h)
theorem Qq9{k:ByteArray}(h:Qbd k=0)(z:k.size≠0):QbE (QqG k)=0:=
 Qgj (by simp[Qbv,Qe6]) (Qiz h (by decide) z) (λh=>by cases h) (λh=>by simp[Qhx]at h)
theorem Qq8{k:ByteArray}{v:Val}(h:Qbd k=0)(z:k.size≠0)(D:Qbw v=0):QbE (Qoc k v)=0:=
 Qgj (by simp[Qbv,Qe6]) (Qiz h (by decide) z) (λ_=>D) (λh=>by simp[Qhx]at h)
theorem Qq5{k:ByteArray}{v:Val}(h:Qbd k=0)(z:k.size≠0)(D:Qbw v=0):QbE (Qkx k v)=0:=
 Qgj (by simp[Qbv,Qe6]) (Qiz h (by decide) z) (λh=>by cases h) (λ_=>D)
theorem QpO{k:ByteArray}{n:Int}(h:Qbd k=0)(z:k.size≠0):runM M (Qhr k n)=Qeo M k n:=by
 unfold runM;rw[ef (by simp[Qra h z]),stepM,ef (by decide),ef (by decide),em rfl]
theorem mA:Qbd kAi=0:=by decide +kernel
theorem mB:Qbd kB1=0:=by decide +kernel
theorem mL:Qbd kL1=0:=by decide +kernel
theorem mX:Qbd kX1=0:=by decide +kernel
theorem mY:Qbd kY1=0:=by decide +kernel
theorem QsC:klt kAi kL1=true:=by decide +kernel
theorem QsD:klt kAi kX1=true:=by decide +kernel
theorem QsE:klt kL1 kX1=true:=by decide +kernel
theorem Quh:klt kL1 kB1=false:=by decide +kernel
theorem Qui:klt kL1 kL1=false:=by decide +kernel
theorem Quj:klt kX1 kX1=false:=by decide +kernel
abbrev QaY(a:ByteArray)(v:List Val)(n:Int):List Ent:=[(a,Qbs 5),(kL1,Qf2 v),(kX1,Qbs n)]
theorem QtI:OkM (QaY kAi [] 1):=by
 refine⟨?_,λe z=>?_⟩
 ·unfold Sorted
  simp[QsC,QsD,QsE]
 simp only[List.mem_cons,List.not_mem_nil,or_false]at z;rcases z with rfl|rfl|rfl
 .exact ⟨mA,Qr2 (by decide) (by decide)⟩
 .exact ⟨mL,Qr3 (l:=[]) (by simp) (by simp)⟩
 exact⟨mX,Qr2 (by decide) (by decide)⟩
theorem QuE:kAi≠kX1:=by decide
theorem QuF:kL1≠kX1:=by decide
theorem QuD:kAi≠kL1:=by decide
theorem QsT:runM (QaY kAi [] 1) (Qhr kX1 2)=(0,QaY kAi [] 3):=by
 rw[QpO mX (by decide)];have z:Qam (QaY kAi [] 1) kX1=some (Qbs 1):=by simp[Qam,QuE,QuF]
 unfold Qeo;rw[z];show(if(3:Int)≠3 then _ else Qqx _ _ 1 2)=_;rw[ef (by simp)];unfold Qqx;rw[ef (by decide)];unfold setMu;have D:Qbw (QlO 3)=0:=Qil (n:=3) (by decide) (by decide);rw[ef (by simp[mX]),ef (by simp[D])];simp[Qbq,QsD,QsE,Quj];rfl
theorem QtO:runM (QaY kAi [] 3) (Qkx kL1 (Qbs 7))=(0,QaY kAi [Qbs 7] 3):=by
 unfold runM;rw[ef (by simp[Qq5 mL (by decide) (Qil (n:=7) (by decide) (by decide))]),stepM,ef (by decide),ef (by decide),ef (by decide),ef (by decide),em rfl];have z:Qam (QaY kAi [] 3) kL1=some (Qf2 []):=by simp[Qam,QuD]
 unfold Qqk;rw[z];show(if(5:Int)≠5 then _ else Qma _ _ [] _)=_;rw[ef (by simp)];unfold Qma;rw[ef (by simp)];unfold setMu;have D:Qbw (Qf2 [Qbs 7])=0:=(Qr3 (l:=[7]) (by simp) (by simp)).2;rw[ef (by simp[mL]),ef (by simp[D])];simp[Qbq,QsC,Qui]
theorem Quy:Qaj kAs kAi=true:=by rw[QeN];decide
theorem Quz:Qaj kAs kL1=false:=by rw[QeN];decide
theorem QuA:Qaj kAs kX1=false:=by rw[QeN];decide
theorem QtW:QaF kAs kBs kAi=kB1:=by
 apply dR;apply df.1;rw[Qeg];rfl
theorem Qut:runM (QaY kAi [Qbs 7] 3) (Qch kAs kBs)=(0,QaY kB1 [Qbs 7] 3):=by
 rw[Qg9,QiA];have z:(Qf8 kAs&&Qf8 kBs)=true:=by decide +kernel
 rw[z,em rfl,ef (by simp)];have D:Qca (QaY kAi [Qbs 7] 3) kAs=[(kAi,Qbs 5)]:=by unfold Qca;simp[Quy,Quz,QuA]
 have J:Qg6 (QaY kAi [Qbs 7] 3) kAs=[(kL1,Qf2 [Qbs 7]),(kX1,Qbs 3)]:=by unfold Qg6;simp[Quy,Quz,QuA]
 unfold QcA;rw[D,J];have I:Qb5 (QaY kAi [Qbs 7] 3) kAs kBs [(kAi,Qbs 5)]=0:=Qfq λe N=>by
  rw[bn.1 N];show Qbd (QaF kAs kBs kAi)=0/\_;rw[QtW];refine⟨mB,?_⟩;have:Qam (QaY kAi [Qbs 7] 3) kB1=none:=by
   simp[Qam,show kAi≠kB1 by decide,show kL1≠kB1 by decide,show kX1≠kB1 by decide]
  rw[this];rfl
 rw[I,ef (by simp)];show(0,QaJ _ [(QaF kAs kBs kAi,Qbs 5)])=_;rw[QtW];simp[QaJ,Qbq,Quh,show kL1≠kB1 by decide]
theorem Qud:(runM (QaY kAi [] 1) (QqG kY1)).1=12:=by
 unfold runM;rw[ef (by simp[Qq9 mY (by decide)]),stepM,ef (by decide),em rfl];have z:Qam (QaY kAi [] 1) kY1=none:=by simp[Qam,show kAi≠kY1 by decide,show kL1≠kY1 by decide,show kX1≠kY1 by decide]
 rw[z];rfl
theorem Quc:(runM (QaY kAi [] 1) (Qoc kX1 (Qbs 2))).1=13:=by
 unfold runM;rw[ef (by simp[Qq8 mX (by decide) (Qil (n:=2) (by decide) (by decide))]),stepM,ef (by decide),ef (by decide),ef (by decide),em rfl];have z:Qam (QaY kAi [] 1) kX1=some (Qbs 1):=by simp[Qam,QuE,QuF]
 have D:asM (QaY kAi [] 1) kX1 true (Qbs 2)=false:=by
  unfold asM;rw[z];have:Qbo (Qbs 1) (Qbs 2)≠0:=by decide +kernel
  simp[this]
 rw[D];rfl
theorem Qug:(runM (QaY kAi [] 1) (Qhr kL1 1)).1=9:=by
 rw[QpO mL (by decide)];have z:Qam (QaY kAi [] 1) kL1=some (Qf2 []):=by simp[Qam,QuD]
 unfold Qeo;rw[z];rfl
open Go.Maps Go.Shelf
structure WV where
 v:Val
 sl:Sl
 so:Sl
def WV.cells(x:WV):List Value:=[.int .i64 x.v.kind,.bool x.v.b,.int .i64 x.v.i,.string x.v.t,.slice x.sl.a x.v.l.length x.sl.c,.slice x.so.a x.v.ok.length x.so.c]
def QbV(xs:List WV):List Value:=xs.flatMap WV.cells
theorem Qfl(x:WV)(xs:List WV):QbV (x::xs)=x.cells++QbV xs:=by simp[QbV]
theorem QoF(xs ys:List WV):QbV (xs++ys)=QbV xs++QbV ys:=by simp[QbV]
theorem QmN(xs:List WV)(y:WV):QbV (xs++[y])=QbV xs++y.cells:=by simp[QbV]
theorem WV.len(x:WV):x.cells.length=6:=rfl
theorem WV.one(x:WV):∀u∈x.cells,u.oneCell'=true:=by
 intro u hu;simp only[WV.cells,List.mem_cons,List.not_mem_nil,or_false]at hu;rcases hu with rfl|rfl|rfl|rfl|rfl|rfl<;>rfl
theorem QoG(xs:List WV):∀u∈QbV xs,u.oneCell'=true:=λu hu=>by
 obtain⟨x,-,z⟩:=cA.1 hu;exact x.one u z
theorem QeU(xs:List WV):(QbV xs).length=xs.length*6:=by
 induction xs with
 |nil=>rfl
 |cons x xs ih=>rw[Qfl,ak,ih,WV.len,av];omega
theorem Qin:∀{xs:List WV} {i:Nat} {x:WV},xs[i]? = some x->∀c,c<6->(QbV xs)[i*6+c]? = x.cells[c]?
 |[],i,x,h,_,_=>by simp at h
 | y :: ys,0,x,h,c,hc=>by
   simp at h;subst h;rw[Qfl,cN,aA,bp (by rw[WV.len];exact hc)]
 | y :: ys,i+1,x,h,c,hc=>by
   simp at h;rw[Qfl,aU (by rw[WV.len];omega),WV.len,show(i+1)*6+c-6=i*6+c from by omega];exact Qin h c hc
variable{w:World}{F:Nat->Prop}{s:Sl}
theorem Ql7{xs:List WV}(h:Rd w F 6 s xs.length (QbV xs)):∃b o,QeM F s xs.length b o/\∀j x,xs[j]? = some x->QaL w b (o+j*6) x.v x.sl x.so:=by
 obtain⟨b,o,h1,h2,I⟩:=h;refine⟨b,o,h1,λj x D=>?_⟩;have z:∀c,c<6->∀u,x.cells[c]? = some u->w.cell? ⟨b,o+j*6+c,none⟩=some u:=λc z u hu=>by
  rw[bH];exact I _ u (by rw[Qin D c z];exact hu)
 exact⟨z 0 (by decide) _ rfl,z 1 (by decide) _ rfl,z 2 (by decide) _ rfl,z 3 (by decide) _ rfl,z 4 (by decide) _ rfl,z 5 (by decide) _ rfl⟩
theorem QtQ{xs:List WV}{b o:Nat}(h:QeM F s xs.length b o)(J:∀j x,xs[j]? = some x->QaL w b (o+j*6) x.v x.sl x.so):Rd w F 6 s xs.length (QbV xs):=by
 refine⟨b,o,h,QeU xs,λp u hu=>?_⟩;have N:=(ah.1 hu).1;rw[QeU]at N;obtain⟨j,c,rfl,z⟩:∃j c,p=j*6+c/\c<6:=⟨p/6,p%6,by omega,by omega⟩;obtain⟨x,I⟩:∃x,xs[j]? = some x:=⟨_,ac (by omega)⟩;have e:=J _ _ I;rw[Qin I c z]at hu;rw[<-bH];have D:c=0\/c=1\/c=2\/c=3\/c=4\/c=5:=by omega
 rcases D with rfl|rfl|rfl|rfl|rfl|rfl
 .exact e.c0.trans hu
 .exact e.c1.trans hu
 .exact e.c2.trans hu
 .exact e.c3.trans hu
 .exact e.c4.trans hu
 exact e.c5.trans hu
def wl(l:List Val)(c:Nat->Sl × Sl):List WV:=l.mapIdx λj d=>⟨d,(c j).1,(c j).2⟩
theorem Qeu(l:List Val)(c:Nat->Sl × Sl):(wl l c).length=l.length:=by simp[wl]
theorem QuL(l:List Val)(c:Nat->Sl × Sl):(wl l c).map WV.v=l:=by
 unfold wl;apply bK;intro j;rw[aq,dd];cases l[j]?<;>rfl
theorem QrL{l:List Val}{c:Nat->Sl × Sl}{x:WV}(h:(wl l c)[j]? = some x):l[j]? = some x.v/\x.sl=(c j).1/\x.so=(c j).2:=by
 unfold wl at h;rw[dd]at h;cases z:l[j]? with
 |none=>rw[z]at h;cases h
 |some d=>rw[z]at h;cases h;exact⟨rfl,rfl,rfl⟩
def QcU:Val->List Val
 |.mk k _ _ _ l _ ov=>if k=5 then l else if k=6 then ov else[]
theorem QkH(v:Val):Qbp v=1+Qa8 (QcU v):=by
 obtain⟨k,b,i,t,l,I,J⟩:=v;unfold Qbp QcU;dsimp only;by_cases D:k=5
 .rw [em D,em D]
 rw[ef D,ef D];by_cases z:k=6
 .rw [em z,em z]
 rw[ef z,ef z,Qa8]
structure OW(w:World)(base n:Nat)(s:Sl)(xs:List WV):Prop where
 own:w.ownsRow base 28 6 (.slice s.a xs.length s.c) xs.length (QbV xs)
 vals:∀x∈xs,RV w (Lt n) x.v x.sl x.so
theorem OW.nil(w:World)(base n:Nat):OW w base n Sl.none []:=⟨World.ownsRow_nil _ _ _ _,λx h=>by simp at h⟩
variable{w':World}
theorem OW.ext{base n:Nat}{xs:List WV}(h:OW w base n s xs)(D:Ext w w')(J:n<=w):OW w' base n s xs:=
 ⟨Qae h.own (D.agree λb (h:Lt w.heap.size b)=>h) (λb z=>(Qaa h.own z).2),λx I=>(h.vals x I).agree (D.agree λb (z:b<n)=>ab z J)⟩
variable{s':Sl}
theorem OW.append{base n:Nat}{xs ys:List WV}(U:n<=base)(X:base<=w.heap.size)(h:OW w base n s xs)(R:∀y∈ys,RV w (Lt n) y.v y.sl y.so)
  (I:w'.ownsRow base 28 6 (.slice s'.a (xs.length+ys.length) s'.c) (xs.length+ys.length) (QbV xs++QbV ys)) (J:Wr w w' s.row):OW w' base n s' (xs++ys):=by
 have z:Agree (Lt n) w w':=J.agree (λi (hi:i<n)=>by omega) (λk N (hF:k<n)=>by have:=(Qaa h.own N).1;omega);refine⟨by rw[ak,QoF];exact I,λx D=>?_⟩;rcases aB.1 D with D|D
 .exact (h.vals x D).agree z
 exact(R x D).agree z
abbrev fb:=@Decidable.not_not
theorem QmG(s:ByteArray)(p:Nat):(Utf8.decode s p).2<=4:=by
 rw[Lib.decode_at];unfold Lib.decodeN
 repeat' split
 all_goals simp
theorem QmK(r:Nat):1<=(Lib.encodeRune (r:Int)).length:=by
 have:=Lib.runeCells_le (r:Int);rw[Lib.runeCells_length]at this;exact this.1
theorem Qng(r:Nat):1<=(Qcf r).length:=by
 unfold Qcf;split
 .exact QmK r
 split<;>simp
theorem QjZ(s:ByteArray):∀(f p:Nat),s.size<=p+f->Lib.validD (s.data.toList.drop p)=true->s.size-p<=4*(Qbf (Qa9 s f p)).length
 |0,p,h,_=>by omega
 | f+1,p,h,z=>by
   by_cases J:s.size<=p
   .omega
   have hs:s.data.toList.length=s.size:=aH;have D:s.data.toList.drop p≠[]:=λe=>by
    have:=congrArg List.length e;rw[au,hs]at this;simp at this;omega
   rw[Lib.validD_step _ D,Lib.decodeL_drop]at z;split at z
   .cases z
   rename_i hn;rw[dY]at z;have hd:Utf8.decode s p≠(65533,1):=λe=>hn (by rw[e];exact⟨rfl,rfl⟩)
   have h1:=Lib.width_pos s p;have R:=QmG s p;have N:=QjZ s f (p+(Utf8.decode s p).2) (by omega) z;rw[Qa9,ef J,ef hd];have I:(Qbf ((p,(Utf8.decode s p).1)::Qa9 s f (p+(Utf8.decode s p).2))).length=(Qcf (Utf8.decode s p).1).length+(Qbf (Qa9 s f (p+(Utf8.decode s p).2))).length:=by simp[Qbf]
   rw[I];have:=Qng (Utf8.decode s p).1;omega
theorem QjY{s:ByteArray}(h:Lib.validD s.data.toList=true):s.size+8<=4*(Qa6 s).size:=by
 have h1:=QjZ s s.size 0 (by omega) (by rw[dz];exact h);unfold Qa6;rw[em h];show s.size+8<=4*((Qb6 s).toArray.size);rw[br];unfold Qb6 QbA;simp only[List.length_append,List.length_cons,List.length_nil];omega
theorem QqT(n:Int):1<=(Lib.itoa n).length:=by
 unfold Lib.itoa;have:∀u,1<=(Lib.decDigits u).length:=λu=>by
  rw[Lib.decDigits_length];unfold Lib.nDigits
  repeat' split
  all_goals omega
 split
 .rw [av];omega
 exact this _
mutual
theorem Qie:∀(v:Val) (q:Nat),wfV v->QbN v q=0->Qb4 v<=7*Qdy v
 | .mk k b i t l ok ov,q,hw,h=>by
   obtain⟨a0,hl,Y⟩:=hw;rw[QbN]at h;split at h
   .cases h
   rename_i hodd;split at h
   .cases h
   unfold QbD at hodd;split at hodd
   .exact absurd rfl hodd
   rename_i hk;simp only[Bool.or_eq_true,Bool.and_eq_true,bne_iff_ne,ne_eq,not_or,not_and,Decidable.not_not]at hodd;obtain⟨⟨⟨⟨o2,o3⟩,o4⟩,o5⟩,Z⟩:=hodd;have z:k≠4->t.size=0:=o4;have e5:k≠5->l=[]:=λh5=>ar (o5 h5)
   have D:k≠6->ov=[]:=λh6=>ar (by have:=Z h6;omega)
   rw[Qb4,Qdy];by_cases U:k=2
   ·have:4≤Qs8 b:=by cases b <;> decide
    rw[em U,z (by omega),e5 (by omega),D (by omega)];simp only[Qd4,QfR];omega
   rw[ef U];by_cases X:k=3
   ·have:=QqT i
    rw[em X,z (by omega),e5 (by omega),D (by omega)];simp only[Qd4,QfR];omega
   rw[ef X];by_cases I:k=4
   ·rw [em I] at h
    have J:Lib.validD t.data.toList=true:=by
     cases J:Lib.validD t.data.toList with
     |true=>rfl
     |false=>rw[J]at h;simp at h
    have:=QjY J;rw[em I,e5 (by omega),D (by omega)];simp only[Qd4,QfR];omega
   rw[ef I]at h ⊢;by_cases N:k=5
   ·rw [em N] at h ⊢
    have:=Qlw l (q+1) hl h;rw[z (by omega),D (by omega)];simp only[QfR];omega
   rw[ef N]at h ⊢;by_cases R:k=6
   ·rw [em R] at h ⊢
    have:=Qlx none ok ov (q+1) Y h;rw[z (by omega),e5 (by omega)];simp only[Qd4];omega
   rw[ef R,z (by omega),e5 (by omega),D (by omega)];simp only[Qd4,QfR];omega
theorem Qlw:∀(l:List Val) (q:Nat),Qkk l->Qbz l q=0->Qd4 l<=7*Qek l
 |[],q,_,_=>by simp[Qd4]
 | d :: r,q,hw,h=>by
   rw[Qbz]at h;obtain⟨hd,D⟩:=hw;by_cases z:QbN d q=0
   ·rw [ef (by simp [z])] at h
    have h1:=Qie d q hd z;have h2:=Qlw r q D h;rw[Qd4,Qek];omega
   rw[em z]at h;exact absurd h z
theorem Qlx:∀(p:Option ByteArray) (ks:List ByteArray) (l:List Val) (q:Nat),Qkk l->Qer p ks l q=0->QfR ks l<=7*Qeq ks l
 |p,ks,[],q,_,_=>by simp[QfR]
 | p,ks,d :: r,q,hw,h=>by
   rw[Qer]at h;obtain⟨hd,D⟩:=hw;split at h
   .cases h
   rename_i hv;split at h
   .cases h
   by_cases z:QbN d q=0
   ·rw [ef (by simp [z])] at h
    have h1:=Qie d q hd z;have h2:=Qlx _ ks.tail r q D h;have I:=QjY (s:=ks.headD ByteArray.empty) (by simpa using hv);rw[QfR,Qeq];omega
   rw[em z]at h;exact absurd h z
end
theorem okV.cnt{v:Val}(h:okV v):Qb4 v<=7168:=by
 have h1:=Qie v 1 h.1 h.may;have h2:=h.2;unfold Qbw at h2;split at h2
 .exact absurd h2 (by assumption)
 split at h2
 .cases h2
 split at h2
 .cases h2
 omega
theorem QaD(w:World)(v:Val)(sl so:Sl):Calls prog 169 #[Qbg v sl so] w λe w'=>e=.returned (.bool (Qel v))/\Ext w w':=by
 obtain⟨k,b,i,t,l,z,ov⟩:=v;show Calls _ _ #[.agg #[.int .i64 k,.bool b,.int .i64 i,.string t,.slice sl.a l.length sl.c,.slice so.a z.length so.c]] _ λe w'=>e=.returned (.bool (k==0 && !b&&i==0&&t.size==0&&l.length==0&&z.length==0))/\Ext w w'
 by_cases J:k=0
 rotate_left
 ·have gk:(k == 0)=false:=eu.2 J
  go_in;go_wp2_with fail;go_ret;exact⟨by simp[J],(fv w).alloc _ _⟩
 subst J;by_cases U:b=true
 ·subst U
  go_in;go_wp2_with fail;go_ret;exact⟨by simp,(fv w).alloc _ _⟩
 obtain rfl:b=false:=by simpa using U
 by_cases hi:i=0
 rotate_left
 ·have Z:(i == 0)=false:=eu.2 hi
  go_in;go_wp2_with fail;go_ret;exact⟨by simp[hi],(fv w).alloc _ _⟩
 subst hi;by_cases I:t.size=0
 rotate_left
 ·have X:=Qbx I
  go_in;go_wp2_with fail;go_ret;exact⟨by simp[I],(fv w).alloc _ _⟩
 have X:=Qbc I;by_cases N:l.length=0
 rotate_left
 ·have Y:((l.length:Int) == 0)=false:=eu.2 (by omega)
  go_in;go_wp2_with fail;go_ret;exact⟨by simp[N],(fv w).alloc _ _⟩
 have Y:((l.length:Int)==0)=true:=by rw[N];rfl
 cases R:decide (z.length=0)with
 | true=>
   have D:z.length=0:=ft R;have go:((z.length:Int)==0)=true:=by rw[D];rfl
   go_in;go_wp2_with fail;go_ret;exact⟨by simp[I,N,D],(fv w).alloc _ _⟩
 | false=>
   have D:¬z.length=0:=of_decide_eq_false R;have go:((z.length:Int)==0)=false:=eu.2 (by omega);go_in;go_wp2_with fail;go_ret;exact⟨by simp[D],(fv w).alloc _ _⟩
variable{H:Nat->Prop}{O:Nat}{d:OD}
theorem QkF(h:QcW H w O d)(hm:d.mb=none):Calls prog 23 #[.pointer (some ⟨O,0,none⟩)] w λe w'=>e=.returned (Qau d.T)/\Nw w w':=by
 have c0:w.cell? ⟨O,0,none⟩=some (Qay d.T):=h.blk.cell 0;have c1:w.cell? ⟨O,1,none⟩=some (.map none):=by have:=h.blk.cell 1;rw[hm]at this;exact this
 have lO:=h.blk.lt;obtain⟨r,hr⟩:=Qaq d.T;rw[Qau,hr];rw[hr]at c0;have l1:O<w.heap.size+1:=by omega
 have l2:O<w.heap.size+1+1:=by omega
 clear h hm hr;go_in;go_wp2_with fail;generalize X:World.alloc _ _=W0;obtain⟨U,R,z,D⟩:=Qap w _ _ _ _ W0 X;have a1:=hY U;have Z:=hY z;have a0:=hY D;have a2:=hY R;clear X U z D l1 l2 R;refine((eC (n:=5)).1 (Tryz.QhM none W0)).mono ?_;rintro e w' ⟨rfl,rfl⟩;go_wp2_with fail;refine((eC (n:=5)).1 (Tryz.Qdo W0)).mono ?_;rintro e w2 ⟨v,ss,rfl,rfl,Y,J,N⟩;obtain rfl:=J.2 rfl;have I:Nw W0 w2:=(fx ((fv W0).alloc #[.map none] 77)).trans (Sb.new N);have z:=I.blk Z.o;have D:=I.blk a0.o;have q0:w2.cell? ⟨w,0,none⟩=some (.pointer none):=z.cell 0;have q1:w2.cell? ⟨w+1,0,none⟩=some (.pointer r):=D.cell 0;have f0:=z.frozen 0;have k0:=z.lt;have k1:=D.lt;have HN:=hY (show Nw w (w2.setCell ⟨w,0,none⟩ (.pointer r))from
  (((fx a1.o).any (λb=>w<=b)).trans (I.any _)).set (p:=⟨w,0,none⟩) (.inl (an _)) _ |>.mono λi hi e=>by omega)
 clear Y J N I z D c0 c1;go_wp2_with fail;go_loopw[23] (λq wr=>q=.int .i64 0/\wr=w2) (λ_ _=>0)
 case atStart=>exact⟨rfl,rfl⟩
 obtain⟨rfl,rfl⟩:=hrel;go_wp2_with fail;refine eD (v:=.agg #[.pointer r]) (by simp[results,results23,go_sem,q0]) rfl ?_;exact⟨rfl,HN.o⟩
def QiT(C:AL SV)(pre:List LE):List ByteArray:=(pre.filter λx=>(Qa5 C x.k).isNone).map LE.k
variable{C:AL SV}{x:LE}
theorem Qro{pre:List LE}(h:Qa5 C x.k=none):QiT C (pre++[x])=QiT C pre++[x.k]:=by
 unfold QiT;rw[bN,aL,bz,em (by rw[h];rfl)];rfl
theorem QsO{pre:List LE}{s:SV}(h:Qa5 C x.k=some s):QiT C (pre++[x])=QiT C pre:=by
 unfold QiT;rw[bN,aL,bz,ef (by rw[h];simp)];simp
theorem Ql1(C:AL SV)(pre:List LE):(QiT C pre).length<=pre.length:=by
 unfold QiT;rw[ao];exact bA _ _
def QmP(C:AL SV)(p k:ByteArray):Bool:=match Qa5 C k with
 |some s=>s.has&&Qaj p k
 |none=>false
abbrev QbW(l:List UInt8):ByteArray:=⟨l.toArray⟩
def Qdi(C:AL SV)(p:ByteArray)(ss:List (List UInt8)):List ByteArray:=(ss.map QbW).filter (QmP C p)
theorem QoM{p:ByteArray}{ss:List (List UInt8)}{x:List UInt8}(h:QmP C p (QbW x)=true):Qdi C p (ss++[x])=Qdi C p ss++[QbW x]:=by
 unfold Qdi;rw[aL,bN,List.map_singleton,bz,em h];rfl
theorem QlJ{p:ByteArray}{ss:List (List UInt8)}{x:List UInt8}(h:QmP C p (QbW x)=false):Qdi C p (ss++[x])=Qdi C p ss:=by
 unfold Qdi;rw[aL,bN,List.map_singleton,bz,ef (by rw[h];simp)];simp
theorem QoL(C:AL SV)(p:ByteArray)(ss:List (List UInt8)):(Qdi C p ss).length<=ss.length:=by
 unfold Qdi;have:=bA (QmP C p) (ss.map QbW);rwa[ao]at this
theorem QdY(C:AL SV):strKeys (mapA SV.val C)=C.map λq=>QaV q.1:=by
 show(C.map (QrT SV.val)).map _=_;rw[cG];rfl
theorem Qo1{a b:ByteArray}(h:klt a b=true):a≠b:=λe=>by rw[e,Qah]at h;cases h
variable{xs:List LE}
theorem Qpx{p:ByteArray}(hs:Sorted (Qab d.T))(hC:Qav d.C)(hx:xs.map LE.ent=QeB p (Qab d.T)){ss:List (List UInt8)}(hp:ss.Perm (d.C.map λq=>QaV q.1)) :
  (QiT d.C xs++Qdi d.C p ss).Nodup/\∀k,k∈QiT d.C xs++Qdi d.C p ss↔(Qaj p k=true/\(d.now k).isSome=true):=by
 have hsp:(QeB p (Qab d.T)).Pairwise λa b=>klt a.1 b.1=true:=hs.sublist (ce ..)
 rw[<-hx]at hsp;have hk1:(xs.map LE.k).Pairwise λa b=>klt a b=true:=bG.2 (bG.1 hsp)
 have hn1:(QiT d.C xs).Nodup:=((bG.2 ((bG.1 hk1).sublist (ce ..))).imp λh=>Qo1 h);have hnC:(d.C.map λq=>QaV q.1).Nodup:=bG.2 (hC.imp λ{a b} h (e:QaV a.1=QaV b.1)=>Qo1 h (congrArg QbW e:QbW (QaV a.1)=QbW (QaV b.1)));have hns:(ss.map QbW).Nodup:=bG.2 ((hp.nodup_iff.2 hnC).imp λ{a b} h (e:QbW a=QbW b)=>h (congrArg QaV e:QaV (QbW a)=QaV (QbW b)));have hn2:(Qdi d.C p ss).Nodup:=hns.sublist (ce ..);have hm1:∀k,k∈QiT d.C xs↔(Qaj p k=true/\(Qam (Qab d.T) k).isSome=true/\Qa5 d.C k=none):=λk=>by
  have hmem:∀(e:Ent),e∈xs.map LE.ent↔(e∈Qab d.T/\Qaj p e.1=true):=λe=>by rw[hx];exact bI
  unfold QiT;rw[bE];constructor
  ·rintro ⟨x,hx',rfl⟩
   obtain⟨h1,h2⟩:=bI.1 hx';obtain⟨h3,h4⟩:=(hmem x.ent).1 (cT h1);exact⟨h4,by have:=QcM hs h3;rw[show x.ent.1=x.k from rfl]at this;rw[this];rfl,Option.isNone_iff_eq_none.1 h2⟩
  rintro⟨h1,h2,h3⟩;obtain⟨v,hv⟩:=cR.1 h2;obtain⟨x,hx',he⟩:=bE.1 ((hmem (k,v)).2 ⟨Qcg hv,h1⟩);have hxk:x.k=k:=congrArg Prod.fst he;exact⟨x,bI.2 ⟨hx',by rw[hxk,h3];rfl⟩,hxk⟩
 have hm2:∀k,k∈Qdi d.C p ss↔QmP d.C p k=true:=λk=>by
  unfold Qdi;rw[bI];refine⟨λh=>h.2,λh=>⟨?_,h⟩⟩;unfold QmP at h;cases hg:Qa5 d.C k with
  |none=>rw[hg]at h;cases h
  | some s=>
    have h5:QaV k∈ss:=hp.mem_iff.2 (bE.2 ⟨(k,s),QeX hg,rfl⟩);exact bE.2 ⟨QaV k,h5,rfl⟩
 refine⟨List.nodup_append.2 ⟨hn1,hn2,λa ha b hb e=>?_⟩,λk=>?_⟩
 ·subst e
  have h1:=((hm1 a).1 ha).2.2;have h2:=(hm2 a).1 hb;unfold QmP at h2;rw[h1]at h2;cases h2
 rw[aB,hm1,hm2];unfold QmP;cases hg:Qa5 d.C k with
 |none=>rw[QlX hg];simp
 | some s=>
   rw[QlY hg];unfold SV.opt;cases hh:s.has<;>cases Qaj p k<;>simp[hh]
theorem Qsh{x:List UInt8}{D:DataW Value}{N:List MemPlace}{c:Value}(z:∀zd,(mapA SV.val C).atKey (.string x) zd=D)(I:QeZ c=some (D,N)):∃sv,Qa5 C (QbW x)=some sv/\c=sv.val:=by
 have h1:=Qgv SV.val C (QbW x);cases J:Qa5 C (QbW x)with
 | none=>
   simp only[J]at h1;have a:=(h1 .nil).symm.trans (z .nil);have b:=(h1 (.held (.bool true))).symm.trans (z _);rw[<-a]at b;cases b
 | some s=>
   simp only[J]at h1;have a:=(h1 .nil).symm.trans (z .nil);rw[<-a]at I;exact⟨s,rfl,Qe0 I⟩
theorem QkN{p k:ByteArray}{s:SV}(h:Qa5 C k=some s):QmP C p k=(s.has&&Qaj p k):=by unfold QmP;rw[h]
theorem QjL{α:Type}[DecidableEq α]:∀{ss l:List α},ss.Nodup->(∀x∈ss,x∈l)->ss.length<=l.length
 |[],l,_,_=>aw _
 | a :: ss,l,hn,hs=>by
   have I:=hs a (az ..);have z:=List.nodup_cons.1 hn;have:=QjL (ss:=ss) (l:=l.erase a) z.2 λx D=>(List.mem_erase_of_ne (λe=>z.1 (by rw[<-e];exact D))).2 (hs x (aI _ D))
   have J:=List.length_erase_of_mem I;have:0<l.length:=List.length_pos_of_mem I;simp only[List.length_cons];omega
theorem QgC{left:Lit->Bool}{ss:List (List UInt8)}(h:Collected (mapA SV.val C) left ss):ss.length<=C.length:=by
 have h2:=QjL (l:=C.map λq=>QaV q.1) h.1 λx z=>by
  have:=((h.2 x).1 z).1;rw[show Lit.string x=QfF (QbW x)from rfl,QlH]at this;obtain⟨s,hs⟩:=cR.1 this;exact bE.2 ⟨(QbW x,s),QeX hs,rfl⟩
 rwa[ao]at h2
def Qlm(d:OD)(p:ByteArray)(w:World)(e:Ending)(w':World):Prop:=
 ∃(s:Sl) (ks:List ByteArray),e=.returned (.slice s.a ks.length s.c)/\Nw w w'/\Rd w' (In w.heap.size w'.heap.size) 1 s ks.length (ks.map .string)/\ks.Pairwise (λx y=>klt x y=true)/\∀k,k∈ks↔(Qaj p k=true/\(d.now k).isSome=true)
variable{w1 W w5 w6:World}{B:Nat}
theorem Qpy{p:ByteArray}{ks ts:List ByteArray}(h1:Nw w w1)(hB:w.heap.size<=B)(Y:Qdv w1 B ks s W)(R:ks.Nodup)(hm:∀k,k∈ks↔(Qaj p k=true/\(d.now k).isSome=true))
  (Z:ts.Perm ks) (hs:(ts.map QaV).Pairwise λx y=>decide (x<=y)=true) (X:w5.ownsRow (w1.heap.size+2) 9 1 (.slice s.a ts.length s.c) ts.length (ts.map .string)) (I:W.grownBy w5 s.row) {D:Nat} (h6:Sb (λb=>b=D) w5 w6) (hD:w1.heap.size=D) :
  Qlm d p w (.returned (.slice s.a ts.length s.c)) w6:=by
 have hz:=h1.size;have h5:Sb (λb=>s.row=some b) W w5:=⟨I.os,I.tape,I.output,I.size,λi hi R=>I.block i hi λe=>R e.symm⟩;refine⟨s,ts,rfl,?_,?_,Qg7 hs (Z.nodup_iff.2 R),λk=>(Z.mem_iff).trans (hm k)⟩
 ·have N:Sb (fun b=>B=b∨w1.heap.size≤b) w1 w6:=((Y.sb.mono fun i _ e=>.inl e.symm).trans (h5.mono fun i _ e=>.inr (by have:=(Y.row e).1;omega))).trans (h6.mono fun i _ e=>.inr (by omega))
  exact((h1.any (λb=>w<=b)).comp N λi hi e=>by rcases e with e|e<;>omega).mono λi hi e=>by omega
 have z:∀b,s.row=some b->w1+2<=b/\b<w5:=λb J=>Qaa X J
 have U:=Qae X h6.agree λb J=>⟨(z b J).2,λe=>by have:=(z b J).1;omega⟩
 exact(fE U).mono λi hi=>⟨by have:=hi.1;omega,hi.2⟩
open Go.Sort
attribute [local go_sem] Oper.semAt_some
theorem Qhu(w:World):(Instr.range 77 (.map none)).run prog w=.ok (.pointer (some ⟨w,0,none⟩)) (w.alloc (.mapIter none 0 #[] 0)):=by
 simp[Instr.range,run_underlying underlying77,newObj,fa,eZ,Result.andThen];rfl
variable{r:Nat}
theorem QiL(h:w.heap[r]? = some (.mapIter none 0 #[] 0))(z:TypeId):(Instr.next (.pointer (some ⟨r,0,none⟩)) false z).run prog w=.ok (.tuple #[.bool false]) w:=by
 have D:(getObj r).run prog w=.ok (.mapIter none 0 #[] 0) w:=by simp[getObj,Sem.run,h]
 unfold Instr.next;simp only[Sem.run_bind,Sem.run_pure,Result.andThen_ok,D]
variable{P:Program}
theorem Qj2{H:Type}{k:TypeId}{R:Value->Option (DataW H × List MemPlace)}{b r n:Nat}{D:DataW H}{left:Lit->Bool}{cnt:Nat}(h:w.ranges P k R b r n D left cnt)(Z:w'.heap[b]? = w.heap[b]?)(hr:w'.heap[r]? = w.heap[r]?):w'.ranges P k R b r n D left cnt:=by
 obtain⟨es,I,z,J,N,h1,h2,X,h4,Y,U⟩:=h;exact⟨es,I,z,J,N,Z.trans h1,h2,X,h4,hr.trans Y,U⟩
theorem Qnj{H:Type}{k:TypeId}{R:Value->Option (DataW H × List MemPlace)}{b r n:Nat}{D:DataW H}{left:Lit->Bool}{cnt:Nat}(h:w.ranges P k R b r n D left cnt):b<w/\r<w/\(∀t cs,¬Blk w b t cs):=by
 obtain⟨es,J,I,N,X,h1,h2,Z,h4,U,Y⟩:=h;refine⟨(aC.1 h1).1,(aC.1 U).1,λt cs z=>?_⟩;have z:w.heap[b]? = some (.cells cs t (0,0)):=z;rw[h1]at z;cases z
structure Qt5(w1:World)(B r b D:Nat)(C:AL SV)(p:ByteArray)(ks1:List ByteArray)(left:Lit->Bool)(cnt:Nat)(ss:List (List UInt8))(s:Sl)(wr:World):Prop where
 col:Qdv w1 B (ks1++Qdi C p ss) s wr
 rg:wr.ranges prog 9 QeZ b r C.length (mapA SV.val C) left cnt
 co:Collected (mapA SV.val C) left ss
 ne:s.row≠some r
 dk:wr.heap[D]? = some (.deferred (some []))
theorem Qpz(h:QcW H w O d)(hl:(Qab d.T).length<=1000000)(hn:d.us.length<=1000000){p:ByteArray}(hp:p.size<=maxLen) :
  Calls prog 121 #[.pointer (some ⟨O,0,none⟩),.string p] w (Qlm d p w):=by
 obtain⟨i0,hi,o2,p7,r7⟩:=eG Tryz.QkP;have hF:∀b,OvF H w O d b->b<w:=λb N=>N.1
 have k5:=λW=>Qnc W d.T p hp
 have o4:=λW1 (hA:Agree (Lt w) w W1) (hz:w.heap.size<=W1.heap.size) B lo hi op (hB:QdB W1 B d.T lo hi op)=>QpH (lo:=lo) (hi:=hi) (op:=op) (show Qgt (OvF H w O d) d.T W1 from⟨h.tree.agree (hA.mono hF),λb N=>ab (hF b N) hz⟩) h.ok hl hB
 obtain⟨r,k8⟩:=Qaq d.T;simp only[Qau,k8]at k5;have c0:w.cell? ⟨O,0,none⟩=some (.pointer r):=by rw[<-k8];exact h.blk.cell 0
 have lO:=h.blk.lt;have l1:O<w.heap.size+1:=by omega
 have c2:=hY h;have p5:=hY hF;have o1:=hY k5;have r4:=hY o4;clear h hF k5 o4 k8;refine(eC (n:=6)).1 ?_;refine callsIn_of_wp_marks func121 rfl trivial ?_ rfl;simp only[ntmps121,List.size_toArray,List.length_cons,List.length_nil,Nat.reduceAdd,Nat.reduceSub,Array.replicate_succ,Array.replicate_zero,List.push_toArray,List.append_toArray,List.nil_append,List.cons_append];gi_wp2_with fail;generalize o6:World.alloc (World.alloc _ _) _=W0;obtain⟨r5,v4,p0,o0⟩:=Qap w _ _ _ _ W0 o6;have q6:=hY r5;have p1:=hY p0;have q5:=hY o0;clear o6 r5 p0 o0;refine⟨trivial,?_⟩;refine(eC.2 (o1.o W0)).mono ?_;rintro e w1 ⟨B,en,op,rfl,f4,k1,hB,r6⟩;have d8:=Bw.trans q6.o.below f4;have n4:Nw w w1:=(fx q6.o).trans (Sb.new f4);have b4:=hY (c2.o.nw n4);have j9:Blk w1 w.heap.size 36 #[.pointer (some ⟨O,0,none⟩)]:=p1.o.agree (Agree.of_below f4 (F:=Lt W0) λ_ h=>h) (by show _<_;omega);have l2:Blk w1 (w.heap.size+1) 91 #[.slice none 0 0]:=q5.o.agree (Agree.of_below f4 (F:=Lt W0) λ_ h=>h) (by show _<_;omega);have o3:=hY (r4.o w1 (Agree.of_below d8 (F:=Lt w) λ_ h=>h) d8.size B p en op k1);have r2:=hY n4;have k2:=hY j9;have t3:=hY l2;have v2:=hY (r6 (Qab d.T));have x1:=k1.lt;have x4:=d8.size;have k4:w.heap.size<w1.heap.size:=j9.lt;have r3:w.heap.size+1<w1.heap.size:=l2.lt;clear f4 k1 o1 r4 d8 j9 l2 r6 p1 q5 n4;rw[v2.o]at o3;gi_wp2_with fail;refine Qlk (gf:=238) (lb:=Ql6 B) rfl (eO func238 (by kernel_rfl) rfl) o3.o (Agree.refl _) (an _)
  (λb N=>N.elim (λh=>by have:=p5.o b h;omega) (λh=>by omega)) (λ_=>rfl)
  (λf6 C W=>∃s:Sl,C=(λb=>b=w.heap.size+1\/s.row=some b)/\Qdv w1 (w.heap.size+1) (QiT d.C f6) s W) (λ_ _ _=>False) (λb=>b=w.heap.size+1)
  (λb N=>⟨by omega,λh=>h.elim (λh=>by have:=p5.o b h;omega) (λh=>by omega)⟩)
  (λh k=>?turn) (λh k=>h) (λW hW hz=>⟨Sl.none,by funext b;simp[Sl.row],Qdv.start t3.o hW hz⟩) ?round ?done ?stop
 case turn=>
  obtain⟨s,e,hc⟩:=h;exact⟨s,e,hc.keep k.sb (by omega) (λb N=>by have:=(hc.row N).1;omega) λb N=>by omega⟩
 case stop=>
  rintro D c f6 W hD v9 hX i1;exact hX.elim
 case round=>
  rintro f6 C x x2 W1 ⟨s,rfl,c4⟩ v1 x5 t1 i6 hG;obtain⟨ks,I⟩:∃ks,QiT d.C f6=ks:=⟨_,rfl⟩;have q7:ks.length<1000000:=by
   have h1:=(ah.1 hG.at_).1;have h2:=Ql1 d.C f6;have h3:(QeB p (Qab d.T)).length<=1000000:=al (bA _ _) hl;rw[<-I];omega
  have t7:=hG.key;rw[I]at c4;have j1:=c4.ext i6;have d3:=hY j1;have e7:=hY I;clear c4 j1 i6 hG t1 v1 I;gi_wp2_with fail;refine⟨fv _,λW3 k3=>?_⟩;have J:=d3.o.keep k3.sb (by omega) (λb N=>by have:=(d3.o.row N).1;omega) λb N=>by omega
  have b0:=J.sb;have q0:W3.cell? ⟨w,0,none⟩=some (.pointer (some ⟨O,0,none⟩)):=(b0.blk k2.o (by omega)).cell 0;have q1:W3.cell? ⟨O,1,none⟩=some (.map d.mb):=(b0.blk b4.o.blk (by omega)).cell 1;have lq:O<W3.heap.size:=(b0.blk b4.o.blk (by omega)).lt;have a9:Qbt W3 d.mb d.C:=b4.o.map.heap λb N=>b0.block b (b4.o.map.lt N) λe=>by have:=c2.o.map.lt N;omega
  have g6:=QkV a9 t7;have j0:=hY J;have U:∀b,s.row=some b->w1+2<=b/\b<W3:=λb N=>J.row N
  have c3:W3.cell? ⟨w+1,0,none⟩=some (.slice s.a ks.length s.c):=J.blk.cell 0;have f3:W3.frozen? ⟨w+1,0,none⟩=false:=J.blk.frozen 0;have l3:=J.blk.lt;cases hg:Qa5 d.C x.k with
  | some sv=>
    rw[hg,show Qir d.C x.k=sv by rw[Qir,hg];rfl]at g6;obtain⟨f2,v,sl,so⟩:=sv;have HG:=hY hg;clear hg J b0 a9;gi_wp2_with fail;have e0:=(fv W3).alloc #[.bool f2,.int .i64 v.kind,.bool v.b,.int .i64 v.i,.string v.t,.slice sl.a v.l.length sl.c,.slice so.a v.ok.length so.c] 87;exact⟨_,⟨s,rfl,by rw[QsO HG.o,e7.o];exact j0.o.ext e0⟩,e0.st _,λb N=>.inl N,λb N=>by
     have:=e0.size;rcases N with e|e
     .omega
     have:=(U b e).2;omega⟩
  | none=>
    rw[hg,show Qir d.C x.k=Qh4 by rw[Qir,hg];rfl]at g6;have a1:Ext W3 ((W3.alloc (.cells #[.bool false,.int .i64 0,.bool false,.int .i64 0,.string ByteArray.empty,.slice none 0 0,.slice none 0 0] 87)).alloc (.cells #[.string x.k] 9)):=((fv W3).alloc _ _).alloc _ _;have a5:=Qae J.own (a1.agree (F:=Lt W3) λb N=>N) λb N=>(U b N).2
    have j6:ks.length+1<=maxLen:=by unfold maxLen;omega
    have l4:(ks.length+1)*16<=140737488355328:=by omega
    have x3:=J.sb.size;have d5:w1.heap.size+2<=((W3.alloc (.cells #[.bool false,.int .i64 0,.bool false,.int .i64 0,.string ByteArray.empty,.slice none 0 0,.slice none 0 0] 87)).alloc (.cells #[.string x.k] 9)).heap.size:=by have:=J.sz;simp;omega
    have c1:=hY a1;have c8:=hY a5;have j7:=hY (show Blk ((W3.alloc (.cells #[.bool false,.int .i64 0,.bool false,.int .i64 0,.string ByteArray.empty,.slice none 0 0,.slice none 0 0] 87)).alloc (.cells #[.string x.k] 9)) (W3.heap.size+1) 9 #[.string x.k]by
     have:=fA (W3.alloc (.cells #[.bool false,.int .i64 0,.bool false,.int .i64 0,.string ByteArray.empty,.slice none 0 0,.slice none 0 0] 87)) 9 #[.string x.k];rwa[ey]at this)
    have v3:¬w.heap.size+1=W3.heap.size:=by omega
    have r0:¬w.heap.size+1=W3.heap.size+1:=by omega
    have t0:w.heap.size+1<W3.heap.size+1:=by omega
    have k0:=hY ((a1.frozen (o:=0) l3).trans f3);have n2:s.row≠some (w.heap.size+1):=λe=>by have:=(U _ e).1;omega
    have HG:=hY hg;clear hg J b0 a9 a1 a5;gi_wp2_with(gi_at_builtin;refine Qdb _ rfl (.tmp 32) (.tmp 34) 91 rfl (w1.heap.size+2) 9 i0 _ 1 16 underlying91 hi o2 p7 r7 rfl (by decide) s ks.length (ks.map .string) rfl c8.o (λb=>b=W3.heap.size+1) ⟨some ⟨W3+1,0,none⟩,1⟩ 1 [.string x.k] rfl (fH j7.o (by decide) rfl) (by simp[Value.oneCell']) j6 l4 d5 ?_;intro s3 w5 a6 a2 f7;have h5:=a2.cell0 (o:=0) c1.o n2 l3;have c5:w5.cell? ⟨w+1,0,none⟩=some (.slice s.a ks.length s.c):=h5.1.trans c3;have l5:=h5.2;have f5:w5.frozen? ⟨w+1,0,none⟩=false:=(a2.fz _ _).trans (k0.out);have n8:=hY a6;have j5:=hY a2;have j4:=hY f7;clear a6 a2 f7 h5);obtain⟨e1,e2,e3,e4⟩:=j0.o.snoc r3 c1.o n8.o j5.o j4.o;exact⟨_,⟨s3,rfl,by rw[Qro HG.o,e7.o];exact e1⟩,e2,λb N=>by
     rcases N with e|e
     .exact .inl (.inl e)
     exact(e3 b e).imp .inr id,e4⟩
 rintro D xs C W hD hS ⟨s,rfl,c4⟩ i1;have e6:=c4.sb;have q0:W.cell? ⟨w,0,none⟩=some (.pointer (some ⟨O,0,none⟩)):=(e6.blk k2.o (by omega)).cell 0;have q1:W.cell? ⟨O,1,none⟩=some (.map d.mb):=(e6.blk b4.o.blk (by omega)).cell 1;have lq:O<W.heap.size:=(e6.blk b4.o.blk (by omega)).lt;have l0:w.heap.size<W.heap.size:=(e6.blk k2.o (by omega)).lt;have a9:Qbt W d.mb d.C:=b4.o.map.heap λb N=>e6.block b (b4.o.map.lt N) λe=>by have:=c2.o.map.lt N;omega
 have g8:(QiT d.C xs).length<=1000000:=by
  have h1:=Ql1 d.C xs;have h2:(xs.map LE.ent).length=(QeB p (Qab d.T)).length:=by rw[hS]
  have h3:(QeB p (Qab d.T)).length<=1000000:=al (bA _ _) hl;rw[ao]at h2;omega
 have p6:=(aC.1 i1).1;have d3:=hY c4;have HS:=hY hS;have p9:=hY i1;have j2:=hY a9;have HD:=hY hD;clear c4 hS i1 a9 e6 hD;obtain⟨mb,n6⟩:∃mb,d.mb=mb:=⟨_,rfl⟩;rw[n6]at q1;have o8:=hY n6;clear n6;rcases mb with _|b
 ·have t2:=fun w=>Qhu w
  gi_wp2_with fail;generalize j3:World.alloc W _=WW;have f0:WW.heap[W.heap.size]? = some (.mapIter none 0 #[] 0):=by rw[<-j3];exact fh W _
  have c9:Nw W WW:=by rw[<-j3];exact Sb.made (World.grownBy_alloc _ _ _)
  have q2:d.C=[]:=by have:=j2.o;rw[o8.o]at this;exact this
  have a3:=Qpx (p:=p) (ss:=[]) c2.o.ok.sorted c2.o.sorted HS.o (by rw[q2];exact List.Perm.nil);have Z:=d3.o.keep (c9.any (λ_=>False)) (λe=>e) (λ_ _ e=>e) (λ_ e=>e.elim);obtain⟨ks,I⟩:∃ks,QiT d.C xs=ks:=⟨_,rfl⟩;rw[show Qdi d.C p []=[]from rfl,aY,I]at a3;rw[I]at Z g8;obtain⟨s2,rfl⟩:∃s2,s2=s:=⟨_,rfl⟩;have b6:=hY a3;have b3:=hY Z;have t6:=hY f0;have e8:=hY (show WW.heap[D]? = some (.deferred (some []))from(c9.block D p6 (λe=>e)).trans p9.o);have d4:=hY (Qhg Z.own (by omega));have c5:WW.cell? ⟨w+1,0,none⟩=some (.slice s2.a ks.length s2.c):=Z.blk.cell 0;clear j3 t2 a3 Z f0 c9 I q0 q1 lq l0 q2;gi_loopw [] (λwr=>wr=WW) (λ_=>0)
  case atStart=>rfl
  subst hrel;have x0:=QiL t6.o;gi_wp2_with fail;refine⟨trivial,?_⟩;refine(eC.2 d4.o).mono ?_;rintro e w5 ⟨rfl,ts,g5,g0,f8,g7,X⟩;have a4:Sb (λb=>s2.row=some b) wr w5:=⟨X.os,X.tape,X.output,X.size,λi hi hn=>X.block i hi λe=>hn e.symm⟩;have R:=a4.blk b3.o.blk (λe=>by have:=(b3.o.row e).1;omega);have c6:w5.cell? ⟨w+1,0,none⟩=some (.slice s2.a ks.length s2.c):=R.cell 0;have l6:=R.lt;have g3:=hY (show w5.heap[D]? = some (.deferred (some []))from(a4.block D (by have:=(aC.1 e8.o).1;omega) (λe=>by have:=(b3.o.row e).1;have:=HD.o;omega)).trans e8.o);have Y:=Qpy r2.o (cH _) b3.o b6.o.1 b6.o.2 g5 g0 f8 X (St.put (o':=.deferred none) g3.o rfl rfl).sb HD.o.symm;rw[g7]at Y;have d0:=hY Y;clear a4 R g5 g0 f8 g7 X Y;gi_wp2_with fail;refine⟨by simp,.inl ⟨_,_,rfl,fu g3.o,?_⟩⟩;refine⟨.slice s2.a ks.length s2.c,?_,d0.o⟩;simp[results,results121,go_sem]
 have i8:W.ownsMap prog 9 QeZ b d.C.length (mapA SV.val d.C):=by
  have:=j2.o;rw[o8.o]at this;exact this
 have i3:=hY i8;clear i8;gi_wp2_with(first |(gi_at_range;refine wpListIn_range_own _ rfl _ 77 rfl 9 87 Qfc underlying77 QeZ b d.C.length _ rfl i3.o ?_;intro w2 i9 q9 s9)|fail);have c9:Nw W w2:=Sb.made q9;obtain⟨b8,l8⟩:∃b8,QiT d.C xs=b8:=⟨_,rfl⟩;have Z:=d3.o.keep (c9.any (λ_=>False)) (λe=>e) (λ_ _ e=>e) (λ_ e=>e.elim);rw[l8]at Z g8;have hs:s.row≠some W.heap.size:=λe=>by have:=(d3.o.row e).2;omega
 have t9:=hY (show Qt5 w1 (w.heap.size+1) W.heap.size b D d.C p b8 (Maps.has (mapA SV.val d.C)) (Maps.size (mapA SV.val d.C)) [] s w2 from
  ⟨by rw[show Qdi d.C p []=[]from rfl,aY];exact Z,i9,Collected.start _,hs,(c9.block D p6 (λe=>e)).trans p9.o⟩)
 have s4:=hY l8;have v7:w1.heap.size<=W.heap.size:=d3.o.sb.size;clear i9 q9 s9 c9 Z hs q0 q1 lq l0 l8;simp only[Act.put,List.setIfInBounds_toArray,List.set_cons_zero,List.set_cons_succ];gi_loopw [] (λwr=>∃(left:Lit->Bool) (cnt:Nat) (ss:List (List UInt8)) (s2:Sl),Qt5 w1 (w.heap.size+1) W.heap.size b D d.C p b8 left cnt ss s2 wr) (λwr=>wr.rangeLeft b W.heap.size)
 case atStart=>exact⟨_,_,_,_,t9.o⟩
 obtain⟨left,cnt,ss,s2,hP⟩:=hrel;have i2:=hP.rg;have r8:=QgC hP.co;have v6:=c2.o.few;have x6:=QoL d.C p ss;have HP:=hY hP;clear hP;gi_wp2_with(first |(gi_at_next;refine wpListIn_next_ranges _ rfl _ rfl 9 Qfc QeZ encStr id (λx7 kl hk=>by obtain⟨x,hx,_⟩:=Maps.keyOf_str underlying9 hk;exact⟨x,hx⟩) (λv _ _=>⟨v,rfl⟩) b W.heap.size _ _ _ _ rfl i2 ?_ ?_)|fail)
 ·intro s8 k4
  have c7:=HP.o.co.perm i3.o Qfc underlying9 k4;rw[QdY]at c7;have a3:=Qpx (p:=p) c2.o.ok.sorted c2.o.sorted HS.o c7;have Z:=HP.o.col;rw[s4.o]at a3;obtain⟨ks,I⟩:∃ks,b8++Qdi d.C p ss=ks:=⟨_,rfl⟩;have q7:ks.length<=2000000:=by rw[<-I,ak];omega
  rw[I]at a3 Z;have b6:=hY a3;have b3:=hY Z;have e8:=hY HP.o.dk;have d4:=hY (Qhg Z.own (by omega));have c5:wr.cell? ⟨w+1,0,none⟩=some (.slice s2.a ks.length s2.c):=Z.blk.cell 0;clear i2 c7 a3 Z I s8 k4;gi_wp2_with fail;refine⟨trivial,?_⟩;refine(eC.2 d4.o).mono ?_;rintro e w5 ⟨rfl,ts,g5,g0,f8,g7,X⟩;have a4:Sb (λb=>s2.row=some b) wr w5:=⟨X.os,X.tape,X.output,X.size,λi hi hn=>X.block i hi λe=>hn e.symm⟩;have R:=a4.blk b3.o.blk (λe=>by have:=(b3.o.row e).1;omega);have c6:w5.cell? ⟨w+1,0,none⟩=some (.slice s2.a ks.length s2.c):=R.cell 0;have l6:=R.lt;have g3:=hY (show w5.heap[D]? = some (.deferred (some []))from(a4.block D (by have:=(aC.1 e8.o).1;omega) (λe=>by have:=(b3.o.row e).1;have:=HD.o;omega)).trans e8.o);have Y:=Qpy r2.o (cH _) b3.o b6.o.1 b6.o.2 g5 g0 f8 X (St.put (o':=.deferred none) g3.o rfl rfl).sb HD.o.symm;rw[g7]at Y;have d0:=hY Y;clear a4 R g5 g0 f8 g7 X Y;gi_wp2_with fail;refine⟨by simp,.inl ⟨_,_,rfl,fu g3.o,?_⟩⟩;refine⟨.slice s2.a ks.length s2.c,?_,d0.o⟩;simp[results,results121,go_sem]
 intro x c kl yd yp w3 p3 i4 g6 hv l7 f1 r1 p8 t4 o5;obtain⟨x',ex,rfl,r9⟩:=Maps.keyOf_str underlying9 i4;obtain rfl:=encStr_inj ex;obtain⟨sv,k6,rfl⟩:=Qsh l7 hv;have g9:Sb (λi=>i=W.heap.size) wr w3:=Sb.grown p8;have a0:=HP.o.col.keep g9 (by omega) (λi hi e=>HP.o.ne (by rw[hi,e])) (λi e=>by omega);have o7:=HP.o.co.step g6 l7;obtain⟨ks,I⟩:∃ks,b8++Qdi d.C p ss=ks:=⟨_,rfl⟩;have q7:ks.length<=2000000:=by rw[<-I,ak];omega
 rw[I]at a0;have i5:w3.heap[D]? = some (.deferred (some [])):=(g9.block D (by have:=(aC.1 HP.o.dk).1;omega) (λe=>by have:=HD.o;omega)).trans HP.o.dk;obtain⟨f2,v,sl,so⟩:=sv;obtain⟨k,hk⟩:∃k,QbW x=k:=⟨_,rfl⟩;have v5:(Instr.entry (.pointer (some ⟨W,0,none⟩))).run prog w3=.ok (.tuple #[.string k,.agg #[.bool f2,.int .i64 v.kind,.bool v.b,.int .i64 v.i,.string v.t,.slice sl.a v.l.length sl.c,.slice so.a v.ok.length so.c]]) w3:=by rw[<-hk];exact o5
 rw[hk]at k6;obtain⟨k9,j8,o9⟩:=Qnj f1;have U:∀i,s2.row=some i->w1+2<=i/\i<w3:=λi hi=>a0.row hi
 have d7:s2.row≠some W.heap.size:=HP.o.ne;have n9:s2.row≠some b:=λe=>by
  rcases a0.own.2 with⟨hv,-⟩ |⟨gg,w8,v8,hv,-,hc,-⟩
  ·injection hv with e1
   rw[Sl.row,e1]at e;cases e
  injection hv with e1;rw[Sl.row,e1]at e;have:gg=b:=by simpa using e
  subst this;exact o9 _ _ hc
 have t5:¬b=w.heap.size+1:=λe=>o9 _ _ (by rw[e];exact a0.blk)
 have c3:w3.cell? ⟨w+1,0,none⟩=some (.slice s2.a ks.length s2.c):=a0.blk.cell 0;have f3:w3.frozen? ⟨w+1,0,none⟩=false:=a0.blk.frozen 0;have l3:=a0.blk.lt;have b7:=hY a0;have t8:=hY o7;have q4:=hY f1;have g4:=hY i2;have d6:=hY i5;have e7:=hY I;have HK:=hY hk;have k7:=hY k6;have l9:=hY r1;rw[show(encStr x)=Value.string k from by rw[<-hk]];clear a0 o7 f1 i2 i5 I k6 l7 hv i4 g6 p8 t4 r1 g9 r9 o5;have i7:∀(s3:Sl) (w6:World),Qdv w1 (w.heap.size+1) (b8++Qdi d.C p (ss++[x])) s3 w6->s3.row≠some W.heap.size->w6.heap[b]? = w3.heap[b]?->w6.heap[W.heap.size]? = w3.heap[W.heap.size]?->w6.heap[D]? = w3.heap[D]?->
   Qt5 w1 (w.heap.size+1) W.heap.size b D d.C p b8 (λz=>left z && !z.sameKey (.string x)) p3 (ss++[x]) s3 w6:=λs3 w6 h1 h2 h3 h4 h5=>⟨h1,Qj2 q4.o h3 h4,t8.o,h2,h5.trans d6.o⟩
 have f9:=hY i7;clear i7;have e0:=(fv w3).alloc #[.bool f2,.int .i64 v.kind,.bool v.b,.int .i64 v.i,.string v.t,.slice sl.a v.l.length sl.c,.slice so.a v.ok.length so.c] 87;have p2:=hY e0;clear e0;cases f2 with
 | false=>
   have n7:QmP d.C p (QbW x)=false:=by rw[HK.o,QkN k7.o];rfl
   have b5:=hY (f9.o s2 _ (by rw[QlJ n7,e7.o];exact b7.o.ext p2.o) d7 (eJ _ _ _ k9) (eJ _ _ _ j8) (eJ _ _ _ (aC.1 d6.o).1));gi_wp2_with fail;refine⟨trivial,?_⟩;gi_wp2_with fail;go_roundw
   case rel=>exact⟨_,_,_,_,b5.o⟩
   rw[b5.o.rg.left_eq,g4.o.left_eq];exact l9.o
 | true=>
   gi_wp2_with fail;refine⟨trivial,?_⟩;refine(eC.2 (QhB _ k p)).mono ?_;rintro e w4 ⟨rfl,rfl⟩;cases q3:Qaj p k with
   | false=>
     have n7:QmP d.C p (QbW x)=false:=by rw[HK.o,QkN k7.o,q3];rfl
     have b5:=hY (f9.o s2 _ (by rw[QlJ n7,e7.o];exact b7.o.ext p2.o) d7 (eJ _ _ _ k9) (eJ _ _ _ j8) (eJ _ _ _ (aC.1 d6.o).1));gi_wp2_with fail;go_roundw
     case rel=>exact⟨_,_,_,_,b5.o⟩
     rw[b5.o.rg.left_eq,g4.o.left_eq];exact l9.o
   | true=>
     have q8:QmP d.C p (QbW x)=true:=by rw[HK.o,QkN k7.o,q3];rfl
     have a1:Ext w3 ((w3.alloc (.cells #[.bool true,.int .i64 v.kind,.bool v.b,.int .i64 v.i,.string v.t,.slice sl.a v.l.length sl.c,.slice so.a v.ok.length so.c] 87)).alloc (.cells #[.string k] 9)):=((fv w3).alloc _ _).alloc _ _;have a5:=Qae b7.o.own (a1.agree (F:=Lt w3) λb N=>N) λb N=>(U b N).2
     have j6:ks.length+1<=maxLen:=by unfold maxLen;omega
     have l4:(ks.length+1)*16<=140737488355328:=by omega
     have d5:w1.heap.size+2<=((w3.alloc (.cells #[.bool true,.int .i64 v.kind,.bool v.b,.int .i64 v.i,.string v.t,.slice sl.a v.l.length sl.c,.slice so.a v.ok.length so.c] 87)).alloc (.cells #[.string k] 9)).heap.size:=by have:=b7.o.sz;simp;omega
     have c1:=hY a1;have c8:=hY a5;have j7:=hY (show Blk ((w3.alloc (.cells #[.bool true,.int .i64 v.kind,.bool v.b,.int .i64 v.i,.string v.t,.slice sl.a v.l.length sl.c,.slice so.a v.ok.length so.c] 87)).alloc (.cells #[.string k] 9)) (w3.heap.size+1) 9 #[.string k]by
      have:=fA (w3.alloc (.cells #[.bool true,.int .i64 v.kind,.bool v.b,.int .i64 v.i,.string v.t,.slice sl.a v.l.length sl.c,.slice so.a v.ok.length so.c] 87)) 9 #[.string k];rwa[ey]at this)
     have v3:¬w.heap.size+1=w3.heap.size:=by omega
     have r0:¬w.heap.size+1=w3.heap.size+1:=by omega
     have t0:w.heap.size+1<w3.heap.size+1:=by omega
     have k0:=hY ((a1.frozen (o:=0) l3).trans f3);have n2:s2.row≠some (w.heap.size+1):=λe=>by have:=(U _ e).1;omega
     clear a1 a5;gi_wp2_with(gi_at_builtin;refine Qdb _ rfl (.tmp 53) (.tmp 55) 91 rfl (w1.heap.size+2) 9 i0 _ 1 16 underlying91 hi o2 p7 r7 rfl (by decide) s2 ks.length (ks.map .string) rfl c8.o (λb=>b=w3.heap.size+1) ⟨some ⟨w3+1,0,none⟩,1⟩ 1 [.string k] rfl (fH j7.o (by decide) rfl) (by simp[Value.oneCell']) j6 l4 d5 ?_;intro s3 w5 a6 a2 f7;have h5:=a2.cell0 (o:=0) c1.o n2 l3;have c5:w5.cell? ⟨w+1,0,none⟩=some (.slice s2.a ks.length s2.c):=h5.1.trans c3;have l5:=h5.2;have f5:w5.frozen? ⟨w+1,0,none⟩=false:=(a2.fz _ _).trans (k0.out);have n8:=hY a6;have j5:=hY a2;have j4:=hY f7;clear a6 a2 f7 h5);obtain⟨e1,e2,e3,e4⟩:=b7.o.snoc r3 c1.o n8.o j5.o j4.o;have p4:=(aC.1 d6.o).1;have b5:=hY (f9.o s3 _ (by rw[QoM q8,<-aS,e7.o,HK.o];exact e1) (λe=>by
       rcases e3 _ e with h|h
       .exact d7 h
       .omega) (e2.block b k9 λe=>by
       rcases e with e|e
       .exact t5 e
       .exact n9 e) (e2.block _ j8 λe=>by
       rcases e with e|e
       .omega
       .exact d7 e) (e2.block D p4 λe=>by
       rcases e with e|e
       .have:=HD.o;omega
       have:=(U _ e).1;have:=HD.o;omega))
     clear e1 e2 e3 e4;gi_wp2_with fail;go_roundw
     case rel=>exact⟨_,_,_,_,b5.o⟩
     rw[b5.o.rg.left_eq,g4.o.left_eq];exact l9.o
end Go.Proofs.YtkjkafgnnoidpaaGreatDoor
namespace Go.Proofs.YtkjkafgnnoidpaaGreatDoor
open Go.Proofs.Tryz
open Go.RowKit
theorem QcZ:∀(a b:List UInt8),Lib.compareBytes a b=if Op.bytesLess a b then -1 else if Op.bytesLess b a then 1 else 0
 |[],[]=>rfl
 |[],b::v=>by simp[Lib.compareBytes,Op.bytesLess]
 |a::u,[]=>by simp[Lib.compareBytes,Op.bytesLess]
 | a :: u,b :: v=>by
   simp only[Lib.compareBytes,Op.bytesLess];by_cases h1:a<b
   .simp [h1]
   by_cases h2:b<a
   ·have z:¬a=b:=fun e=>by subst e;exact h1 h2
    have D:¬b=a:=λe=>z e.symm
    simp[h1,h2,z,D]
   have z:a=b:=UInt8.le_antisymm (UInt8.not_lt.1 h2) (UInt8.not_lt.1 h1);subst z;simp[h1,QcZ u v]
theorem Qfi(a b:ByteArray):Lib.compareBytes a.data.toList b.data.toList=Qbn a b:=by
 rw[QcZ];unfold Qbn klt;rw[eB,eB]
theorem Qic(w:World)(a b:ByteArray):Calls prog 188 #[.string a,.string b] w λe w'=>e=.returned (.int .i64 (Qbn a b))/\w=w':=by
 rw[<-Qfi];go_in;go_wp2_with fail;rw[run_callFunc_extern func219 (by kernel_rfl) (by kernel_rfl) (by kernel_rfl) (e:=Extern.BytealgCompare.compare) (by kernel_rfl),Lib.run_compareString];simp only[Result.andThen];rw[Oper.upon_value];go_wp2_with fail;go_ret;exact⟨rfl,rfl⟩
theorem QcQ(w:World)(a b:ByteArray):Calls prog 130 #[.string a,.string b] w λe w'=>e=.returned (.int .i64 (Qbn a b))/\w=w':=by
 have h:=Qic w a b;go_in;go_wp2_with fail;refine h.mono ?_;rintro e w1 ⟨rfl,rfl⟩;go_wp2_with fail;go_ret;exact⟨rfl,rfl⟩
theorem QrA(w:World)(b:Bool):Calls prog 128 #[.bool b] w λe w'=>e=.returned (.int .i64 (if b then 1 else 0))/\w=w':=by
 cases b
 all_goals
  go_in;go_wp2_with fail;go_ret;exact⟨rfl,rfl⟩
theorem Qe1(w:World)(a:Int):Calls prog 186 #[.int .i64 a] w λe w'=>e=.returned (.bool false)/\w=w':=by
 go_in;go_wp2_with fail;go_ret;exact⟨by simp,rfl⟩
theorem QgD(w:World)(a b:Int):Calls prog 127 #[.int .i64 a,.int .i64 b] w λe w'=>e=.returned (.int .i64 (Qcp a b))/\w=w':=by
 have I:=Qe1 w a;have J:=Qe1 w b;have z:(Qcp a b = -1/\a<b)\/(Qcp a b=1/\¬a<b/\b<a)\/(Qcp a b=0/\¬a<b/\¬b<a):=by
  unfold Qcp;split
  .exact .inl ⟨rfl,by assumption⟩
  split
  .exact .inr (.inl ⟨rfl,by assumption,by assumption⟩)
  exact .inr (.inr ⟨rfl,by assumption,by assumption⟩)
 rcases z with⟨D,h1⟩ |⟨D,h1,h2⟩ |⟨D,h1,h2⟩
 all_goals
  rw[D];clear D;go_in;go_wp2_with fail;refine I.mono ?_;rintro e w1 ⟨rfl,rfl⟩;go_wp2_with fail;refine J.mono ?_;rintro e w1 ⟨rfl,rfl⟩;go_wp2_with fail;go_ret;exact⟨rfl,rfl⟩
theorem Qep(w:World)(a:Int):Calls prog 187 #[.int .i64 a] w λe w'=>e=.returned (.bool false)/\w=w':=by
 go_in;go_wp2_with fail;go_ret;exact⟨by simp,rfl⟩
theorem QfS(w:World)(a b:Int):Calls prog 129 #[.int .i64 a,.int .i64 b] w λe w'=>e=.returned (.int .i64 (Qcp a b))/\w=w':=by
 have I:=Qep w a;have J:=Qep w b;have z:(Qcp a b = -1/\a<b)\/(Qcp a b=1/\¬a<b/\b<a)\/(Qcp a b=0/\¬a<b/\¬b<a):=by
  unfold Qcp;split
  .exact .inl ⟨rfl,by assumption⟩
  split
  .exact .inr (.inl ⟨rfl,by assumption,by assumption⟩)
  exact .inr (.inr ⟨rfl,by assumption,by assumption⟩)
 rcases z with⟨D,h1⟩ |⟨D,h1,h2⟩ |⟨D,h1,h2⟩
 all_goals
  rw[D];clear D;go_in;go_wp2_with fail;refine I.mono ?_;rintro e w1 ⟨rfl,rfl⟩;go_wp2_with fail;refine J.mono ?_;rintro e w1 ⟨rfl,rfl⟩;go_wp2_with fail;go_ret;exact⟨rfl,rfl⟩
theorem QfE(w:World)(a:Int):Calls prog 220 #[.int .i64 a] w λe w'=>e=.returned (.bool false)/\w=w':=by
 go_in;go_wp2_with fail;go_ret;exact⟨by simp,rfl⟩
theorem Qen(w:World)(a b:Int):Calls prog 189 #[.int .i64 a,.int .i64 b] w λe w'=>e=.returned (.int .i64 (Qcp a b))/\w=w':=by
 have I:=QfE w a;have J:=QfE w b;have z:(Qcp a b = -1/\a<b)\/(Qcp a b=1/\¬a<b/\b<a)\/(Qcp a b=0/\¬a<b/\¬b<a):=by
  unfold Qcp;split
  .exact .inl ⟨rfl,by assumption⟩
  split
  .exact .inr (.inl ⟨rfl,by assumption,by assumption⟩)
  exact .inr (.inr ⟨rfl,by assumption,by assumption⟩)
 rcases z with⟨D,h1⟩ |⟨D,h1,h2⟩ |⟨D,h1,h2⟩
 all_goals
  rw[D];clear D;go_in;go_wp2_with fail;refine I.mono ?_;rintro e w1 ⟨rfl,rfl⟩;go_wp2_with fail;refine J.mono ?_;rintro e w1 ⟨rfl,rfl⟩;go_wp2_with fail;go_ret;exact⟨rfl,rfl⟩
def Qqp(m:Nat):Prop:=∀(x y:Val),SizeOf.sizeOf x<=m->∀(w:World) (sl so sl' so':Sl),RV w (Lt w.heap.size) x sl so->RV w (Lt w.heap.size) y sl' so'->Calls prog 87 #[Qbg x sl so,Qbg y sl' so'] w (QbX (Qbo x y) w)
theorem QjJ(a b:Nat):∃c:Nat,(if a<b then(a:Int)else(b:Int))=(c:Int)/\(if b<a then(b:Int)else(a:Int))=(c:Int)/\c<=a/\c<=b/\(c=a\/c=b):=by
 by_cases h:a<b
 .exact ⟨a,by rw[em h],by rw[ef (by omega)],by omega,by omega,.inl rfl⟩
 by_cases z:b<a
 .exact ⟨b,by rw[ef h],by rw[em z],by omega,by omega,.inr rfl⟩
 exact⟨a,by rw[ef h];omega,by rw[ef z],by omega,by omega,.inl rfl⟩
variable{w:World}{sl so sl' so':Sl}
theorem QqQ{m:Nat}(a2:Qqp m){x y:Val}(hd:SizeOf.sizeOf x<=m+1)(h:RV w (Lt w.heap.size) x sl so)(h':RV w (Lt w.heap.size) y sl' so') :
  Calls prog 131 #[.slice sl.a x.l.length sl.c,.slice sl'.a y.l.length sl'.c,.func (.func 87) #[] #[]] w (QbX (cmpL x.l y.l) w):=by
 have HI:=hY a2;clear a2;obtain⟨k,b,i,t,l,ok,ov⟩:=x;obtain⟨k',b',i',t',J,d8,d4⟩:=y;show Calls _ _ #[.slice sl.a l.length sl.c,.slice sl'.a J.length sl'.c,_] _ (QbX (cmpL l J) w);cases h with
 |mk bl fl bo fo cl co hl ho hov el rl ek eo ro bk bi bt nl no=>
 cases h' with
 |mk bl' fl' bo' fo' cl' co' hl' ho' hov' el' rl' ek' eo' ro' bk' bi' bt' nl' no'=>
 have b6:∀(j:Nat) (d:Val),l[j]? = some d->SizeOf.sizeOf d<=m:=λj d hj=>bq (ab (Val.Qqm hj) hd)
 have c4:=hY b6;have c0:=hY el;have b7:=hY rl;have b3:=hY el';have a1:=hY rl';clear b6 el rl ek eo ro hov hd el' rl' ek' eo' ro' hov';have d7:l.length<=140737488355328:=by omega
 have c6:J.length<=140737488355328:=by omega
 obtain⟨mn,c1,b8,d3,c8,d0⟩:=QjJ l.length J.length;go_in;go_wp2_with fail;clear c1 b8;go_loopw[14] (λq wr=>∃j:Nat,q=.int .i64 j/\j<=mn/\cmpL l J=cmpL (l.drop j) (J.drop j)/\Ext w wr) (λq _=>mn -(intOf q).toNat)
 case atStart=>exact⟨0,rfl,aw _,rfl,fv w⟩
 obtain⟨j,rfl,hj,hp,U⟩:=hrel;have HP:=hY hp;have HX:=hY U;by_cases h1:j<mn
 ·have g1:(j:Int)<(mn:Int):=by omega
  have g2:(j:Int)<(l.length:Int):=by omega
  have g3:(j:Int)<(J.length:Int):=by omega
  obtain⟨d,hd⟩:∃d,l[j]? = some d:=⟨_,ac (by omega)⟩;obtain⟨d',X⟩:∃d,J[j]? = some d:=⟨_,ac (by omega)⟩;have HD:=hY (Qjb hd X);have N:Agree (Lt w.heap.size) w wr:=U.agree λ_ h=>h
  obtain⟨sa,sc⟩:=sl;obtain⟨d6,d5⟩:=sl';obtain⟨rfl,e0,a0⟩:=hl.eq (by omega);obtain⟨rfl,c7,c9⟩:=hl'.eq (by omega);have Y:=hl.fits (by omega);have R:=hl'.fits (by omega);obtain⟨v0,v1,v2,v3,v4,v5⟩:=(c0.o j d hd).agree N Y;obtain⟨a4,b5,a9,a6,b0,b4⟩:=(b3.o j d' X).agree N R;have c2:=hY (λ(W:World) (D:Ext wr W)=>
   HI.o d d' (c4.o j d hd) W _ _ _ _ (((b7.o j d hd).agree (N.trans (D.agree λ_ h=>ab h U.size))).mono λi hi=>ab hi (al U.size D.size))
    (((a1.o j d' X).agree (N.trans (D.agree λ_ h=>ab h U.size))).mono λi hi=>ab hi (al U.size D.size)))
  have lb:bl<wr.heap.size:=ab Y U.size;have I:bl'<wr.heap.size:=ab R U.size;have z:=hY (show ∀W,Ext wr W->W.cell? ⟨bl,fl+j*6,none⟩=some (.int .i64 d.kind)/\W.cell? ⟨bl,fl+j*6+1,none⟩=some (.bool d.b)/\W.cell? ⟨bl,fl+j*6+2,none⟩=some (.int .i64 d.i)/\W.cell? ⟨bl,fl+j*6+3,none⟩=some (.string d.t)/\W.cell? ⟨bl,fl+j*6+4,none⟩=some (.slice (cl j).1.a d.l.length (cl j).1.c)/\W.cell? ⟨bl,fl+j*6+5,none⟩=some (.slice (cl j).2.a d.ok.length (cl j).2.c)/\W.cell? ⟨bl',fl'+j*6,none⟩=some (.int .i64 d'.kind)/\W.cell? ⟨bl',fl'+j*6+1,none⟩=some (.bool d'.b)/\W.cell? ⟨bl',fl'+j*6+2,none⟩=some (.int .i64 d'.i)/\W.cell? ⟨bl',fl'+j*6+3,none⟩=some (.string d'.t)/\W.cell? ⟨bl',fl'+j*6+4,none⟩=some (.slice (cl' j).1.a d'.l.length (cl' j).1.c)/\W.cell? ⟨bl',fl'+j*6+5,none⟩=some (.slice (cl' j).2.a d'.ok.length (cl' j).2.c)from
   λW D=>⟨(D.cell lb).trans v0,(D.cell lb).trans v1,(D.cell lb).trans v2,(D.cell lb).trans v3,(D.cell lb).trans v4,(D.cell lb).trans v5,(D.cell I).trans a4,(D.cell I).trans b5,(D.cell I).trans a9,(D.cell I).trans a6,(D.cell I).trans b0,(D.cell I).trans b4⟩)
  clear hp U hd X N Y R v0 v1 v2 v3 v4 v5 a4 b5 a9 a6 b0 b4;go_wp2_with fail;refine ez (S:=(λw'=>Ext wr w')) (by kernel_rfl) (((fv wr).drew)) (λhHeld=>?_);refine Qad 0 (some 17) z hHeld ?_;refine Qad 1 (some 18) z hHeld ?_;refine Qad 2 (some 19) z hHeld ?_;refine Qad 3 (some 20) z hHeld ?_;refine Qad 4 (some 21) z hHeld ?_;refine Qad 5 (some 22) z hHeld ?_;refine Qad 6 (some 23) z hHeld ?_;refine Qad 7 (some 24) z hHeld ?_;refine Qad 8 (some 25) z hHeld ?_;refine Qag (i:=9) (by kernel_rfl) rfl (by rfl) (λK hK=>?_);go_simp
  (refine(c2.o _ hHeld).mono ?_;rintro e w2 ⟨rfl,a3⟩)
  refine hK.out _ _ (hHeld.trans a3) (λhHeld=>?_);clear hK K
  try simp only[Act.put,List.setIfInBounds_toArray,List.set_cons_zero,List.set_cons_succ]
  refine Qad 10 (some 8) z hHeld ?_;refine eE (by kernel_rfl) ?_ _;have a5:=hY (HX.o.trans hHeld);clear hHeld a3;by_cases Z:Qbo d d'=0
  ·have c3:(Qbo d d' != 0)=false:=by simp [Z]
   have HC:=hY Z;clear Z;go_wp2_with fail;go_roundw
   case rel=>exact⟨j+1,by go_num,h1,by rw[HP.o,HD.o,ef (by simp[HC.o])],a5.o⟩
   simp[intOf];omega
  have c3:(Qbo d d' != 0)=true:=eL.2 Z;have HC:=hY Z;clear Z;go_wp2_with fail;go_ret;rw[HP.o,HD.o,em HC.o];exact⟨rfl,a5.o⟩
 have g1:¬(j:Int)<(mn:Int):=by omega
 have HE:=hY (Qia (l:=l) (l':=J) (j:=j) (by omega) (by omega) (by omega));have a0:=Qen wr (l.length:Int) (J.length:Int);clear hp U;go_wp2_with fail;refine a0.mono ?_;rintro e w2 ⟨rfl,rfl⟩;go_wp2_with fail;go_ret;rw[HP.o,HE.o];exact⟨rfl,HX.o⟩
def Qrc(x y:ByteArray)(d d':Val):Int:=if Qbn x y≠0 then Qbn x y else Qbo d d'
variable{j:Nat}
theorem QmE{l l':List Val}{k k':List ByteArray}{a b:Val}{x y:ByteArray}(I:l[j]? = some a)(D:l'[j]? = some b)(z:k[j]? = some x)(J:k'[j]? = some y) :
  Qfe (l.drop j) (k.drop j) (k'.drop j) (l'.drop j)=if Qrc x y a b≠0 then Qrc x y a b else Qfe (l.drop (j+1)) (k.drop (j+1)) (k'.drop (j+1)) (l'.drop (j+1)):=by
 rw[Qjc I D z J];unfold Qrc;by_cases h:Qbn x y=0<;>simp[h]
abbrev Qux(k:ByteArray)(d:Val)(sl so:Sl):Value:=.agg #[.string k,.int .i64 d.kind,.bool d.b,.int .i64 d.i,.string d.t,.slice sl.a d.l.length sl.c,.slice so.a d.ok.length so.c]
theorem QkW{m:Nat}(I:Qqp m){d d':Val}(hd:SizeOf.sizeOf d<=m){x y:ByteArray}(h:RV w (Lt w) d sl so)(Y:RV w (Lt w) d' sl' so') :
  Calls prog 133 #[Qux x d sl so,Qux y d' sl' so'] w (QbX (Qrc x y d d') w):=by
 have R:=hY (λ(W:World) (J:Ext w W)=>I d d' hd W _ _ _ _ ((h.agree (J.agree λ_ h=>h)).mono λi hi=>ab hi J.size) ((Y.agree (J.agree λ_ h=>h)).mono λi hi=>ab hi J.size));have U:=hY (λW=>QcQ W x y);clear I h Y hd;by_cases z:Qbn x y=0
 ·have D:Qrc x y d d'=Qbo d d':=by simp [Qrc,z]
  have N:(Qbn x y != 0)=false:=by simp[z]
  rw[D];clear D z;go_in;go_wp2_with fail;refine(U.o _).mono ?_;rintro e w1 ⟨rfl,rfl⟩;go_wp2_with fail;refine(R.o _ (((fv w).alloc _ _).alloc _ _)).mono ?_;rintro e w1 ⟨rfl,X⟩;have Z:=hY ((((fv w).alloc _ _).alloc _ _).trans X);clear X;go_wp2_with fail;go_ret;exact⟨rfl,Z.o⟩
 have D:Qrc x y d d'=Qbn x y:=by simp[Qrc,z]
 have N:(Qbn x y != 0)=true:=eL.2 z;rw[D];clear D z;go_in;go_wp2_with fail;refine(U.o _).mono ?_;rintro e w1 ⟨rfl,rfl⟩;go_wp2_with fail;go_ret;exact⟨rfl,((fv w).alloc _ _).alloc _ _⟩
theorem QqP{m:Nat}(b0:Qqp m){x y:Val}(hd:SizeOf.sizeOf x<=m+1)(h:RV w (Lt w.heap.size) x sl so)(h':RV w (Lt w.heap.size) y sl' so') :
  Calls prog 132 #[.slice so.a x.ok.length so.c,.slice so'.a y.ok.length so'.c,.func (.func 133) #[] #[]] w (QbX (Qfe x.ov x.ok y.ok y.ov) w):=by
 have HI:=hY b0;clear b0;obtain⟨k,b,i,t,l,ok,ov⟩:=x;obtain⟨k',b',i',t',l',D,X⟩:=y;show Calls _ _ #[.slice so.a ok.length so.c,.slice so'.a D.length so'.c,_] _ (QbX (Qfe ov ok D X) w);cases h with
 |mk bl fl bo fo cl co hl ho hov el rl ek eo ro bk bi bt nl no=>
 cases h' with
 |mk bo' fo' bo' fo' cl' co' hl' ho' hov' el' rl' ek' eo' ro' bk' bi' bt' nl' no'=>
 have c0:∀(j:Nat) (d:Val),ov[j]? = some d->SizeOf.sizeOf d<=m:=λj d hj=>bq (ab (Val.Qqn hj) hd)
 have c9:=hY c0;have d0:=hY eo;have d4:=hY ro;have c4:=hY eo';have a6:=hY ro';have c7:=hY ek;have a4:=hY ek';have a1:=hY hov;have R:=hY hov';clear c0 el rl ek eo ro hov hd el' rl' ek' eo' ro' hov';have e6:ok.length<=140737488355328:=by omega
 have d6:D.length<=140737488355328:=by omega
 obtain⟨mn,d3,c8,e2,d8,e1⟩:=QjJ ok.length D.length;go_in;go_wp2_with fail;clear d3 c8;go_loopw[14] (λq wr=>∃j:Nat,q=.int .i64 j/\j<=mn/\Qfe ov ok D X=Qfe (ov.drop j) (ok.drop j) (D.drop j) (X.drop j)/\Ext w wr) (λq _=>mn -(intOf q).toNat)
 case atStart=>exact⟨0,rfl,aw _,rfl,fv w⟩
 obtain⟨j,rfl,hj,hp,Z⟩:=hrel;have HP:=hY hp;have HX:=hY Z;by_cases h1:j<mn
 ·have g1:(j:Int)<(mn:Int):=by omega
  have g2:(j:Int)<(ok.length:Int):=by omega
  have g3:(j:Int)<(D.length:Int):=by omega
  obtain⟨d,hd⟩:∃d,ov[j]? = some d:=⟨_,ac (by rw[a1.o];omega)⟩;obtain⟨x,a3⟩:∃d,ok[j]? = some d:=⟨_,ac (by omega)⟩;obtain⟨x',Y⟩:∃d,D[j]? = some d:=⟨_,ac (by omega)⟩;obtain⟨d',a2⟩:∃d,X[j]? = some d:=⟨_,ac (by rw[R.o];omega)⟩;have HD:=hY (QmE hd a2 a3 Y);have N:Agree (Lt w.heap.size) w wr:=Z.agree λ_ h=>h
  obtain⟨sa,sc⟩:=so;obtain⟨e4,e3⟩:=so';obtain⟨rfl,e7,a5⟩:=ho.eq (by omega);obtain⟨rfl,d7,e0⟩:=ho'.eq (by omega);have a0:=ho.fits (by omega);have U:=ho'.fits (by omega);obtain⟨v0,v1,v2,v3,v4,v5⟩:=(d0.o j d hd).agree N a0;obtain⟨b4,c6,b8,b6,c2,c3⟩:=(c4.o j d' a2).agree N U;have kx:=(N.cell a0).trans (c7.o j x a3).1;have b7:=(N.cell U).trans (a4.o j x' Y).1;obtain⟨c,a9⟩:∃c,Qrc x x' d d'=c:=⟨_,rfl⟩;have c1:=hY (λ(W:World) (I:Ext wr W)=>
   QkW HI.o (c9.o j d hd) (x:=x) (y:=x') (((d4.o j d hd).agree (N.trans (I.agree λ_ h=>ab h Z.size))).mono λi hi=>ab hi (al Z.size I.size))
    (((a6.o j d' a2).agree (N.trans (I.agree λ_ h=>ab h Z.size))).mono λi hi=>ab hi (al Z.size I.size)))
  have lb:bo<wr.heap.size:=ab a0 Z.size;have J:bo'<wr.heap.size:=ab U Z.size;have z:=hY (show ∀W,Ext wr W->W.cell? ⟨bo,fo+j*7,none⟩=some (.string x)/\W.cell? ⟨bo,fo+j*7+1,none⟩=some (.int .i64 d.kind)/\W.cell? ⟨bo,fo+j*7+2,none⟩=some (.bool d.b)/\W.cell? ⟨bo,fo+j*7+3,none⟩=some (.int .i64 d.i)/\W.cell? ⟨bo,fo+j*7+4,none⟩=some (.string d.t)/\W.cell? ⟨bo,fo+j*7+5,none⟩=some (.slice (co j).1.a d.l.length (co j).1.c)/\W.cell? ⟨bo,fo+j*7+6,none⟩=some (.slice (co j).2.a d.ok.length (co j).2.c)/\W.cell? ⟨bo',fo'+j*7,none⟩=some (.string x')/\W.cell? ⟨bo',fo'+j*7+1,none⟩=some (.int .i64 d'.kind)/\W.cell? ⟨bo',fo'+j*7+2,none⟩=some (.bool d'.b)/\W.cell? ⟨bo',fo'+j*7+3,none⟩=some (.int .i64 d'.i)/\W.cell? ⟨bo',fo'+j*7+4,none⟩=some (.string d'.t)/\W.cell? ⟨bo',fo'+j*7+5,none⟩=some (.slice (co' j).1.a d'.l.length (co' j).1.c)/\W.cell? ⟨bo',fo'+j*7+6,none⟩=some (.slice (co' j).2.a d'.ok.length (co' j).2.c)from
   λW I=>⟨(I.cell lb).trans kx,(I.cell lb).trans v0,(I.cell lb).trans v1,(I.cell lb).trans v2,(I.cell lb).trans v3,(I.cell lb).trans v4,(I.cell lb).trans v5,(I.cell J).trans b7,(I.cell J).trans b4,(I.cell J).trans c6,(I.cell J).trans b8,(I.cell J).trans b6,(I.cell J).trans c2,(I.cell J).trans c3⟩)
  rw[a9]at HD c1;clear a9 kx b7 a3 Y hp Z hd a2 N a0 U v0 v1 v2 v3 v4 v5 b4 c6 b8 b6 c2 c3;go_wp2_with fail;refine ez (S:=(λw'=>Ext wr w')) (by kernel_rfl) (((fv wr).drew)) (λhHeld=>?_);refine Qad 0 (some 17) z hHeld ?_;refine Qad 1 (some 18) z hHeld ?_;refine Qad 2 (some 19) z hHeld ?_;refine Qad 3 (some 20) z hHeld ?_;refine Qad 4 (some 21) z hHeld ?_;refine Qad 5 (some 22) z hHeld ?_;refine Qad 6 (some 23) z hHeld ?_;refine Qad 7 (some 24) z hHeld ?_;refine Qad 8 (some 25) z hHeld ?_;refine Qag (i:=9) (by kernel_rfl) rfl (by rfl) (λK hK=>?_);go_simp
  (refine(c1.o _ hHeld).mono ?_;rintro e w2 ⟨rfl,b3⟩)
  refine hK.out _ _ (hHeld.trans b3) (λhHeld=>?_);clear hK K
  try simp only[Act.put,List.setIfInBounds_toArray,List.set_cons_zero,List.set_cons_succ]
  refine Qad 10 (some 8) z hHeld ?_;refine eE (by kernel_rfl) ?_ _;have b5:=hY (HX.o.trans hHeld);clear hHeld b3;by_cases hc:c=0
  ·have d5:(c != 0)=false:=by simp [hc]
   have HC:=hY hc;clear hc;go_wp2_with fail;go_roundw
   case rel=>exact⟨j+1,by go_num,h1,by rw[HP.o,HD.o,ef (by simp[HC.o])],b5.o⟩
   simp[intOf];omega
  have d5:(c != 0)=true:=eL.2 hc;have HC:=hY hc;clear hc;go_wp2_with fail;go_ret;rw[HP.o,HD.o,em HC.o];exact⟨rfl,b5.o⟩
 have g1:¬(j:Int)<(mn:Int):=by omega
 have HE:=hY (Qib (l:=ov) (l':=X) (k:=ok) (k':=D) (j:=j) (by rw[a1.o,R.o];omega) (by rw[a1.o];omega) (by rw[R.o];omega));have a5:=Qen wr (ok.length:Int) (D.length:Int);clear hp Z;go_wp2_with fail;refine a5.mono ?_;rintro e w2 ⟨rfl,rfl⟩;go_wp2_with fail;go_ret;rw[HP.o,HE.o,a1.o,R.o];exact⟨rfl,HX.o⟩
def Qkz(b:Bool):Int:=if b then 1 else 0
theorem Qn8(a b:Bool):Qcp (Qkz a) (Qkz b)=Qi7 a b:=by cases a<;>cases b<;>rfl
structure BxS(w:World)(b b':Bool)(W:World):Prop where
 ext:Ext w W
 b0:∃v0 v2 v3 v4 v5,Blk W w.heap.size 28 #[v0,.bool b,v2,v3,v4,v5]
 b1:∃v0 v2 v3 v4 v5,Blk W (w.heap.size+1) 28 #[v0,.bool b',v2,v3,v4,v5]
variable{W:World}
theorem BxS.drew{b z:Bool}(h:BxS w b z W):BxS w b z W.drew:=by
 obtain⟨h1,⟨a0,U,J,Z,Y,I⟩,⟨X,c2,N,R,c5,D⟩⟩:=h;exact⟨h1.drew,⟨_,_,_,_,_,I.ext ((fv W).drew)⟩,⟨_,_,_,_,_,D.ext ((fv W).drew)⟩⟩
theorem BxS.at0{b D:Bool}(h:BxS w b D W):∃u,W.cell? ⟨w,2,none⟩=some u/\W.frozen? ⟨w,2,none⟩=false/\w.heap.size<W.heap.size:=by
 obtain⟨h1,⟨U,R,N,J,I,z⟩,-⟩:=h;exact⟨_,z.cell 2,z.frozen 2,z.lt⟩
theorem BxS.at1{b D:Bool}(h:BxS w b D W):∃u,W.cell? ⟨w+1,2,none⟩=some u/\W.frozen? ⟨w+1,2,none⟩=false/\w.heap.size+1<W.heap.size:=by
 obtain⟨h1,-,⟨U,R,N,J,I,z⟩⟩:=h;exact⟨_,z.cell 2,z.frozen 2,z.lt⟩
theorem BxS.set0{b z:Bool}(h:BxS w b z W)(v:Value):BxS w b z (W.setCell ⟨w,2,none⟩ v):=by
 obtain⟨h1,⟨a0,U,J,Z,Y,I⟩,⟨X,c2,N,R,c5,D⟩⟩:=h;exact⟨h1.setCell (p:=⟨w,2,none⟩) (an _) v,⟨_,_,_,_,_,I.Qdz 2 v⟩,⟨_,_,_,_,_,((St.refl (λb=>b=w.heap.size) W).set (p:=⟨w,2,none⟩) (.inr rfl) v).blk D (by omega)⟩⟩
theorem BxS.set1{b z:Bool}(h:BxS w b z W)(v:Value):BxS w b z (W.setCell ⟨w+1,2,none⟩ v):=by
 obtain⟨h1,⟨a0,U,J,Z,Y,I⟩,⟨X,c2,N,R,c5,D⟩⟩:=h;exact⟨h1.setCell (p:=⟨w+1,2,none⟩) (by simp) v,⟨_,_,_,_,_,((St.refl (λb=>b=w.heap.size+1) W).set (p:=⟨w+1,2,none⟩) (.inr rfl) v).blk I (by omega)⟩,⟨_,_,_,_,_,D.Qdz 2 v⟩⟩
theorem BxS.ends{b R:Bool}(h:BxS w b R W)(v z:Value):((W.setCell ⟨w,2,none⟩ v).setCell ⟨w+1,2,none⟩ z).cell? ⟨w,2,none⟩=some v/\((W.setCell ⟨w,2,none⟩ v).setCell ⟨w+1,2,none⟩ z).cell? ⟨w+1,2,none⟩=some z:=by
 obtain⟨h1,⟨a0,a2,X,a4,a5,ha⟩,-⟩:=h.set0 v;obtain⟨-,⟨b0,b2,b3,Y,b5,U⟩,⟨c0,c2,Z,c4,c5,N⟩⟩:=h;have I:=((St.refl (λb=>b=w.heap.size) W).set (p:=⟨w,2,none⟩) (.inr rfl) v).blk N (by omega);have D:=U.Qdz 2 v;have J:=((St.refl (λb=>b=w.heap.size+1) (W.setCell ⟨w,2,none⟩ v)).set (p:=⟨w+1,2,none⟩) (.inr rfl) z).blk D (by omega);exact⟨J.cell 2,(I.Qdz 2 z).cell 2⟩
theorem QpI(w:World)(b:Bool):Calls prog 128 #[.bool b] w λe w'=>e=.returned (.int .i64 (Qkz b))/\w=w':=QrA w b
theorem Qsl(m:Nat):Qqp m:=by
 induction m with
 |zero=>intro d y hd;have:=Val.Qb7 d;omega
 |succ m ih=>
 intro x y hd w sl so sl' so' h h';have hv:=λ(W:World) (D:Ext w W)=>QqQ ih hd ((h.agree (D.agree λ_ h=>h)).mono λi hi=>ab hi D.size) ((h'.agree (D.agree λ_ h=>h)).mono λi hi=>ab hi D.size)
 have hm:=λ(W:World) (D:Ext w W)=>QqP ih hd ((h.agree (D.agree λ_ h=>h)).mono λi hi=>ab hi D.size) ((h'.agree (D.agree λ_ h=>h)).mono λi hi=>ab hi D.size)
 clear ih h h' hd;obtain⟨k,b,i,t,l,ok,ov⟩:=x;obtain⟨Y,R,i',t',l',J,Z⟩:=y;have HV:=hY (show ∀(W:World) (D:Ext w W),Calls prog 131 #[.slice sl.a l.length sl.c,.slice sl'.a l'.length sl'.c,.func (.func 87) #[] #[]] W (QbX (cmpL l l') W)from hv);have HM:=hY (show ∀(W:World) (D:Ext w W),Calls prog 132 #[.slice so.a ok.length so.c,.slice so'.a J.length so'.c,.func (.func 133) #[] #[]] W (QbX (Qfe ov ok J Z) W)from hm);show Calls _ _ #[.agg #[.int .i64 k,.bool b,.int .i64 i,.string t,.slice sl.a l.length sl.c,.slice so.a ok.length so.c],.agg #[.int .i64 Y,.bool R,.int .i64 i',.string t',.slice sl'.a l'.length sl'.c,.slice so'.a J.length so'.c]] _ _;have b4:Qbo (.mk k b i t l ok ov) (.mk Y R i' t' l' J Z)=if k≠Y then Qcp k Y else if k=2 then Qi7 b R else if k=3 then Qcp i i' else if k=4 then Qbn t t' else if k=5 then cmpL l l' else if k=6 then Qfe ov ok J Z else 0:=by
  simp only[Qbo,Val.kind,Val.b,Val.i,Val.t,Val.l,Val.ok,Val.ov];rfl
 rw[b4];clear b4 hv hm;have a6:Ext w ((w.alloc (.cells #[.int .i64 k,.bool b,.int .i64 i,.string t,.slice sl.a l.length sl.c,.slice so.a ok.length so.c] 28)).alloc (.cells #[.int .i64 Y,.bool R,.int .i64 i',.string t',.slice sl'.a l'.length sl'.c,.slice so'.a J.length so'.c] 28)):=((fv w).alloc _ _).alloc _ _;have z:=hY a6;have HK:=hY (λW=>QgD W k Y);have HI:=hY (λW a b=>QfS W a b);have HT:=hY (λW=>QcQ W t t');have HR:=hY (λW (b:Bool)=>QpI W b);clear a6;by_cases U:k=Y
 ·subst U
  have b8:(k != k)=false:=by simp
  rw[ef (by simp)];by_cases h2:k=2
  ·subst h2
   rw[em rfl,<-Qn8];clear z;go_in;go_wp2_with fail;generalize a9:World.alloc (World.alloc _ _) _=W0;obtain⟨b6,b7,b3,a1⟩:=Qap w _ _ _ _ W0 a9;clear a9;have b0:BxS w b R W0:=⟨b6,⟨_,_,_,_,_,b3⟩,⟨_,_,_,_,_,a1⟩⟩;have I:=hY (show ∀W,BxS w b R W->W.cell? ⟨w.heap.size,1,none⟩=some (.bool b)/\W.cell? ⟨w.heap.size+1,1,none⟩=some (.bool R) fromλW D=>by
    obtain⟨-,⟨a0,a2,a3,a4,a5,ha⟩,⟨c0,c2,c3,c4,c5,hc⟩⟩:=D;exact⟨ha.cell 1,hc.cell 1⟩)
   have b5:=hY b0;clear b6 b3 a1 b0 b7;refine ez (S:=(λw'=>BxS w b R w')) (by kernel_rfl) ((b5.o.drew)) (λhHeld=>?_);refine Qad 0 (some 27) I hHeld ?_;refine Qad 1 (some 28) I hHeld ?_;refine Qad 3 (some 30) I hHeld ?_;refine Qad 4 (some 31) I hHeld ?_;refine Qag (i:=2) (by kernel_rfl) rfl (by rfl) (λK N=>?_);go_simp
   (refine(HR.o _ b).mono ?_;rintro e w1 ⟨rfl,rfl⟩)
   refine N.out _ _ (hHeld) (λhHeld=>?_);clear N K
   try simp only[Act.put,List.setIfInBounds_toArray,List.set_cons_zero,List.set_cons_succ]
   refine Qad 6 (some 33) I hHeld ?_;refine Qag (i:=5) (by kernel_rfl) rfl (by rfl) (λK N=>?_);go_simp
   (refine(HR.o _ R).mono ?_;rintro e w1 ⟨rfl,rfl⟩)
   refine N.out _ _ (hHeld) (λhHeld=>?_);clear N K
   try simp only[Act.put,List.setIfInBounds_toArray,List.set_cons_zero,List.set_cons_succ]
   obtain⟨u7,c7,f7,l7⟩:=hHeld.at0;refine Qag (i:=7) (by kernel_rfl) rfl (by rfl) (λK N=>?_);go_simp
   skip
   refine N.out _ _ (hHeld.set0 _) (λhHeld=>?_);clear N K
   try simp only[Act.put,List.setIfInBounds_toArray,List.set_cons_zero,List.set_cons_succ]
   refine Qad 8 (some 34) I hHeld ?_;obtain⟨u9,c9,f9,l9⟩:=hHeld.at1;refine Qag (i:=9) (by kernel_rfl) rfl (by rfl) (λK N=>?_);go_simp
   skip
   refine N.out _ _ (hHeld.set1 _) (λhHeld=>?_);clear N K
   try simp only[Act.put,List.setIfInBounds_toArray,List.set_cons_zero,List.set_cons_succ]
   refine eE (by kernel_rfl) ?_ _;have HH:=hY hHeld;obtain⟨q0,q1⟩:=b5.o.ends (.int .i64 (Qkz b)) (.int .i64 (Qkz R));clear hHeld;generalize (W0.setCell ⟨w.heap.size,2,none⟩ (.int .i64 (Qkz b))).setCell ⟨w.heap.size+1,2,none⟩ (.int .i64 (Qkz R))=W9 at *;go_wp2_with fail;refine(HI.o _ _ _).mono ?_;rintro e w2 ⟨rfl,rfl⟩;go_wp2_with fail;go_ret;exact⟨rfl,HH.o.ext⟩
  have c1:(k==2)=false:=eu.2 h2;by_cases X:k=3
  ·subst X
   rw[ef h2,em rfl];clear h2;go_in;go_wp2_with fail;refine(HI.o _ _ _).mono ?_;rintro e w2 ⟨rfl,rfl⟩;go_wp2_with fail;go_ret;exact⟨rfl,z.o⟩
  have c6:(k==3)=false:=eu.2 X;by_cases h4:k=4
  ·subst h4
   rw[ef h2,ef X,em rfl];clear h2 X;go_in;go_wp2_with fail;refine(HT.o _).mono ?_;rintro e w2 ⟨rfl,rfl⟩;go_wp2_with fail;go_ret;exact⟨rfl,z.o⟩
  have d0:(k==4)=false:=eu.2 h4;rw[ef h2,ef X,ef h4];by_cases h5:k=5
  ·subst h5
   rw[em rfl];clear h2 X h4;go_in;go_wp2_with fail;refine(HV.o _ z.o).mono ?_;rintro e w2 ⟨rfl,hx⟩;have HX:=hY hx;clear hx;go_wp2_with fail;go_ret;exact⟨rfl,z.o.trans HX.o⟩
  have d3:(k==5)=false:=eu.2 h5;rw[ef h5];by_cases h6:k=6
  ·subst h6
   rw[em rfl];clear h2 X h4 h5;go_in;go_wp2_with fail;refine(HM.o _ z.o).mono ?_;rintro e w2 ⟨rfl,hx⟩;have HX:=hY hx;clear hx;go_wp2_with fail;go_ret;exact⟨rfl,z.o.trans HX.o⟩
  have c8:(k==6)=false:=eu.2 h6;rw[ef h6];clear h2 X h4 h5 h6;go_in;go_wp2_with fail;go_ret;exact⟨rfl,z.o⟩
 have b8:(k != Y)=true:=eL.2 U;rw[em U];clear U;go_in;go_wp2_with fail;refine(HK.o _).mono ?_;rintro e w2 ⟨rfl,rfl⟩;go_wp2_with fail;go_ret;exact⟨rfl,z.o⟩
def Holds(keep f:Nat)(xs ring:List Value):Prop:=∀j,j<xs.length->xs.length<=j+keep->ring[(f+j)%keep]? = xs[j]?
def pk(i:Int):Nat:=(IntKind.u64.wrap i%5).toNat
theorem QaL.det{b o:Nat}{d d':Val}(h:QaL w b o d sl so)(z:QaL w b o d' sl' so') :
  d.kind=d'.kind/\d.b=d'.b/\d.i=d'.i/\d.t=d'.t/\d.l.length=d'.l.length/\d.ok.length=d'.ok.length/\sl=sl'/\so=so':=by
 have R:=h.c0.symm.trans z.c0;have I:=h.c1.symm.trans z.c1;have J:=h.c2.symm.trans z.c2;have N:=h.c3.symm.trans z.c3;have D:=h.c4.symm.trans z.c4;have e5:=h.c5.symm.trans z.c5;obtain⟨a,c⟩:=sl;obtain⟨U,Z⟩:=sl';obtain⟨f,g⟩:=so;obtain⟨X,Y⟩:=so';simp only[Option.some.injEq,Value.int.injEq,Value.bool.injEq,Value.string.injEq,Value.slice.injEq,true_and]at R I J N D e5;obtain⟨rfl,D,rfl⟩:=D;obtain⟨rfl,e5,rfl⟩:=e5;exact⟨R,I,J,N,D,e5,rfl,rfl⟩
variable{F F':Nat->Prop}{s:Sl}
theorem QeM.same{n b o D o':Nat}(h:QeM F s n b o)(I:QeM F' s n D o')(z:0<n):b=D/\o=o':=by
 have e:=(h.eq z).1.symm.trans (I.eq z).1;simpa using e
theorem Val.Qlz{d d':Val}(h1:d.kind=d'.kind)(h2:d.b=d'.b)(D:d.i=d'.i)(N:d.t=d'.t)(I:d.l=d'.l)(z:d.ok=d'.ok)(J:d.ov=d'.ov):d=d':=by
 cases d;cases d';simp only[Val.kind,Val.b,Val.i,Val.t,Val.l,Val.ok,Val.ov]at *
 subst_vars;rfl
theorem RV.det(m:Nat):∀{d d':Val} {sl so:Sl},SizeOf.sizeOf d<=m->RV w F d sl so->RV w F' d' sl so->d.l.length=d'.l.length->d.ok.length=d'.ok.length->d.l=d'.l/\d.ok=d'.ok/\d.ov=d'.ov:=by
 induction m with
 |zero=>intro d _ _ _ hm;have:=Val.Qb7 d;omega
 | succ m ih=>
   intro d d' sl so hm h h' U J;cases h with
   |@mk kind vb vi vt l ok ov _ _ bl fl bo fo cl co hl ho hov el rl ek eo ro=>
   cases h' with
   |@mk kind' vb' vi' vt' l' ok' ov' _ _ bl' fl' bo' fo' cl' co' hl' ho' hov' el' rl' ek' eo' ro'=>
   have R:∀{b o:Nat} {x D:Val} {s s' t X:Sl},SizeOf.sizeOf x<=m->QaL w b o x s t->QaL w b o D s' X->RV w F x s t->RV w F' D s' X->x=D:=λhs c c' r r'=>by
    obtain⟨h1,h2,h3,h4,Z,Y,rfl,rfl⟩:=c.det c';obtain⟨k1,k2,k3⟩:=ih hs r r' Z Y;exact Val.Qlz h1 h2 h3 h4 k1 k2 k3
   simp only[Val.l,Val.ok,Val.ov]at U J ⊢;refine⟨List.ext_getElem? λj=>?_,bK λj=>?_,bK λj=>?_⟩
   ·by_cases N:j<l.length
    ·obtain ⟨x,I⟩:∃ x,l[j]? = some x:=⟨_,ac N⟩
     obtain⟨D,z⟩:∃D,l'[j]? = some D:=⟨_,ac (by omega)⟩;obtain⟨rfl,rfl⟩:=hl.same (U▸hl') (by omega);rw[I,z,R (by have:=Val.Qqm (k:=kind) (b:=vb) (i:=vi) (t:=vt) (ok:=ok) (ov:=ov) I;omega) (el j x I) (el' j D z) (rl j x I) (rl' j D z)]
    rw[aQ (by omega),aQ (by omega)]
   ·by_cases N:j<ok.length
    ·obtain ⟨x,I⟩:∃ x,ok[j]? = some x:=⟨_,ac N⟩
     obtain⟨D,z⟩:∃D,ok'[j]? = some D:=⟨_,ac (by omega)⟩;obtain⟨rfl,rfl⟩:=ho.same (J▸ho') (by omega);have e:=(ek j x I).1.symm.trans (ek' j D z).1;simp only[Option.some.injEq,Value.string.injEq]at e;rw[I,z,e]
    rw[aQ (by omega),aQ (by omega)]
   by_cases N:j<ov.length
   ·obtain ⟨x,I⟩:∃ x,ov[j]? = some x:=⟨_,ac N⟩
    obtain⟨D,z⟩:∃D,ov'[j]? = some D:=⟨_,ac (by omega)⟩;obtain⟨rfl,rfl⟩:=ho.same (J▸ho') (by omega);rw[I,z,R (by have:=Val.Qqn (k:=kind) (b:=vb) (i:=vi) (t:=vt) (l:=l) (ok:=ok) I;omega) (eo j x I) (eo' j D z) (ro j x I) (ro' j D z)]
   rw[aQ (by omega),aQ (by omega)]
variable{xs ys:List LE}
theorem ES.det(h:ES w F s xs)(h':ES w F' s ys)(hl:xs.length=ys.length):xs.map LE.ent=ys.map LE.ent:=by
 refine bK λj=>?_
 rw[aq,aq];by_cases R:j<xs.length
 ·obtain ⟨x,I⟩:∃ x,xs[j]? = some x:=⟨_,ac R⟩
  obtain⟨y,D⟩:∃y,ys[j]? = some y:=⟨_,ac (by omega)⟩;obtain⟨b,o,ha,-,-,-,k1,c1,r1,-⟩:=h.at I;obtain⟨N,o',z,-,-,-,k2,c2,r2,-⟩:=h'.at D;obtain⟨rfl,rfl⟩:b=N/\o=o':=by have:=ha.symm.trans z;simpa using this
  have e:=k1.symm.trans k2;simp only[Option.some.injEq,Value.string.injEq]at e;obtain⟨xk,xv,Z,a1⟩:=x;obtain⟨yk,yv,a2,a0⟩:=y;obtain⟨h1,h2,h3,h4,Y,X,e7,e8⟩:=c1.det c2;dsimp only at *;subst e7 e8;obtain⟨q1,J,U⟩:=RV.det _ (an _) r1 r2 Y X;rw[I,D];simp only[Option.map_some,LE.ent,e,Val.Qlz h1 h2 h3 h4 q1 J U]
 rw[aQ (by omega),aQ (by omega)]
theorem IsN.heights{h z:Nat}{t:PT h}{D:PT z}(a:IsN w F h t)(b:IsN w F' z D)(e:addr h t=addr z D):h=z:=by
 obtain⟨-,_,_,_,_,-,h1⟩:=a.cells;obtain⟨-,_,_,_,_,-,h2⟩:=b.cells;rw[e]at h1;have:=h1.c7.2.2.1.symm.trans h2.c7.2.2.1;simp only[Option.some.injEq,Value.int.injEq,true_and]at this;omega
theorem IsN.det{w:World}{F F':Nat->Prop}:∀{h:Nat} {t J:PT h},IsN w F h t->IsN w F' h J->addr h t=addr h J->t=J
 | 0,(a,es),(a',es'),⟨_,s,xs,h2,h3,I⟩,⟨_,s',xs',h2',h3',z⟩,e=>by
   have e:a=a':=e;subst e;have c:=(h2.c7.1).symm.trans h2'.c7.1;simp only[Option.some.injEq,Value.slice.injEq]at c;obtain⟨sa,sc⟩:=s;obtain⟨R,N⟩:=s';dsimp only at c;obtain⟨rfl,hl,rfl⟩:=c;have:=h3.det h3' hl;have I:xs.map LE.ent=es:=I;have z:xs'.map LE.ent=es':=z;rw[<-I,<-z,this]
 | h+1,(a,ks),(a',D),⟨_,s,h2,h3,I⟩,⟨_,s',h2',h3',z⟩,e=>by
   have e:a=a':=e;subst e;have c:=(h2.c7.2.1).symm.trans h2'.c7.2.1;simp only[Option.some.injEq,Value.slice.injEq]at c;obtain⟨sa,sc⟩:=s;obtain⟨R,N⟩:=s';dsimp only at c;obtain⟨rfl,hl,rfl⟩:=c;have I:∀k∈ks,IsN w F h k:=I;have z:∀k∈D,IsN w F' h k:=z;have Z:ks=D:=by
    refine bK λj=>?_
    by_cases hj:j<ks.length
    ·obtain ⟨x,X⟩:∃ x,ks[j]? = some x:=⟨_,ac hj⟩
     obtain⟨y,U⟩:∃y,D[j]? = some y:=⟨_,ac (by omega)⟩;obtain⟨b,o,ha,-,-,-,k1⟩:=Rd.Qc4 h3 X;obtain⟨b',o',Y,-,-,-,k2⟩:=Rd.Qc4 h3' U;obtain⟨rfl,rfl⟩:b=b'/\o=o':=by have:=ha.symm.trans Y;simpa using this
     have e:=k1.symm.trans k2;simp only[Option.some.injEq,Value.pointer.injEq,Addr.mk.injEq,and_true]at e;rw[X,U,IsN.det (I x (am X)) (z y (am U)) e]
    rw[aQ (by omega),aQ (by omega)]
   rw[Z]
variable{T T':RT}
theorem IsT.det(h:IsT w F T)(z:IsT w F' T')(e:Qay T=Qay T'):T=T':=by
 match T,T',h,z,e with
 |none,none,_,_,_=>rfl
 |none,some ⟨_,_⟩,_,_,e=>simp[Qay]at e
 |some ⟨_,_⟩,none,_,_,e=>simp[Qay]at e
 | some ⟨n,t⟩,some ⟨n',t'⟩,h,z,e=>
   have e:addr n t=addr n' t':=by simpa[Qay]using e
   have h:IsN w F n t:=h;have z:IsN w F' n' t':=z;have D:=h.heights z e;subst D;rw[h.det z e]
theorem Qdt{x y:Val}(h:RV w (Lt w) x sl so)(N:RV w (Lt w) y sl' so') :
  Calls prog 50 #[Qbg x sl so,Qbg y sl' so'] w λe w'=>e=.returned (.bool (decide (Qbo x y=0)))/\Ext w w':=by
 have J:∀W,Ext w W->Calls prog 87 #[Qbg x sl so,Qbg y sl' so'] W (QbX (Qbo x y) W):=λW I=>
  Qsl _ x y (an _) W _ _ _ _ ((h.agree (I.agree λ_ h=>h)).mono λi hi=>ab hi I.size) ((N.agree (I.agree λ_ h=>h)).mono λi hi=>ab hi I.size)
 have HC:=hY J;have R:(Qbo x y==0)=decide (Qbo x y=0):=by by_cases h:Qbo x y=0<;>simp[h]
 have HB:=hY R;clear J h N R;obtain⟨k,b,i,t,l,ok,ov⟩:=x;obtain⟨k',b',i',t',l',a0,X⟩:=y;go_in;go_wp2_with fail;generalize D:World.alloc (World.alloc _ _) _=W0;obtain⟨z,Y,a1,U⟩:=Qap w _ _ _ _ W0 D;clear D;refine(HC.o _ z).mono ?_;rintro e w1 ⟨rfl,Z⟩;go_wp2_with fail;go_ret;exact⟨rfl,z.trans Z⟩
theorem QpR{x y:LE}(h:RV w (Lt w) x.v x.sl x.so)(h':RV w (Lt w) y.v y.sl y.so) :
  Calls prog 60 #[Qgu x.k x.v x.sl x.so,Qgu y.k y.v y.sl y.so] w λe w'=>e=.returned (.bool (decide (x.k=y.k)&&decide (Qbo x.v y.v=0)))/\Ext w w':=by
 have Y:∀W,Ext w W->Calls prog 50 #[Qbg x.v x.sl x.so,Qbg y.v y.sl y.so] W λe w'=>e=.returned (.bool (decide (Qbo x.v y.v=0)))/\Ext W w':=λW J=>
  Qdt ((h.agree (J.agree λ_ h=>h)).mono λi hi=>ab hi J.size) ((h'.agree (J.agree λ_ h=>h)).mono λi hi=>ab hi J.size)
 have Z:=hY Y;clear Y h h';obtain⟨k,v,sl,so⟩:=x;obtain⟨k',v',sl',so'⟩:=y;dsimp only at Z ⊢;by_cases I:k=k'
 ·subst I
  have U:(k.toList==k.toList)=true:=by simp
  rw[ej (rfl:k=k),dQ];go_in;go_wp2_with fail;generalize D:World.alloc (World.alloc _ _) _=W0;obtain⟨z,R,X,N⟩:=Qap w _ _ _ _ W0 D;clear D;refine(Z.o _ z).mono ?_;rintro e w1 ⟨rfl,hx⟩;go_wp2_with fail;go_ret;exact⟨rfl,z.trans hx⟩
 have U:(k.toList==k'.toList)=false:=by rw[beq_toList];exact eh I
 rw[eh I,dM];clear I;go_in;go_wp2_with fail;generalize D:World.alloc (World.alloc _ _) _=W0;obtain⟨z,R,X,N⟩:=Qap w _ _ _ _ W0 D;go_ret;exact⟨rfl,z⟩
variable{s':Sl}
theorem Qij(hs:ES w (Lt w) s xs)(I:ES w (Lt w) s' ys) :
  Calls prog 59 #[.slice s.a xs.length s.c,.slice s'.a ys.length s'.c,.func (.func 60) #[] #[]] w λe w'=>e=.returned (.bool (QcT (xs.map LE.ent) (ys.map LE.ent)))/\Ext w w':=by
 have hf:=hs.few;have c4:xs.length<=140737488355328:=by omega
 by_cases z:xs.length=ys.length
 ·have HS:=hY hs
  have a6:=hY I;have D:=hY z;rw[<-z];clear hs I z hf;go_in;go_wp2_with fail;go_loopw[17] (λq wr=>∃j:Nat,q=.int .i64 j/\j<=xs.length/\QcT (xs.map LE.ent) (ys.map LE.ent)=QcT ((xs.map LE.ent).drop j) ((ys.map LE.ent).drop j)/\Ext w wr) (λq _=>xs.length -(intOf q).toNat)
  case atStart=>exact⟨0,rfl,aw _,rfl,fv w⟩
  obtain⟨j,rfl,c1,hp,hx⟩:=hrel;have HP:=hY hp;have HX:=hY hx;by_cases h1:j<xs.length
  ·have g1:(j:Int)<(xs.length:Int):=by omega
   obtain⟨x,R⟩:∃x,xs[j]? = some x:=⟨_,ac h1⟩;obtain⟨y,J⟩:∃y,ys[j]? = some y:=⟨_,ac (by rw[<-D.o];exact h1)⟩;have HD:=hY (QhT (l:=xs.map LE.ent) (m:=ys.map LE.ent) (a:=x.ent) (b:=y.ent) (by rw[aq,R];rfl) (by rw[aq,J];rfl));have e1:=HS.o.ext hx;have e2:=a6.o.ext hx;obtain⟨g,o,hg,lg,hc,a4,kx,⟨v0,v1,v2,v3,v4,v5⟩,rx,-⟩:=e1.at R;obtain⟨g',o',a3,a2,U,a0,ky,⟨a9,b8,b4,b3,b6,b7⟩,ry,-⟩:=e2.at J;rw[<-D.o]at U;obtain⟨sa,sc⟩:=s;obtain⟨c3,c0⟩:=s';dsimp only at hg a3 hc U a4 a0;subst hg a3;have Z:∀W,Ext wr W->Calls prog 60 #[Qgu x.k x.v x.sl x.so,Qgu y.k y.v y.sl y.so] W λe w'=>e=.returned (.bool (decide (x.k=y.k)&&decide (Qbo x.v y.v=0)))/\Ext W w':=λW hW=>
    QpR ((rx.agree (hW.agree λ_ h=>h)).mono λi hi=>ab hi hW.size) ((ry.agree (hW.agree λ_ h=>h)).mono λi hi=>ab hi hW.size)
   have b5:=hY Z;have lg:g<wr:=lg;have a2:g'<wr:=a2;clear hp hx R J e1 e2 rx ry Z;go_wp2_with fail;generalize Y:World.alloc (World.alloc _ _) _=W0;obtain⟨N,c2,b0,a5⟩:=Qap wr _ _ _ _ W0 Y;clear Y;refine(b5.o _ N).mono ?_;rintro e w2 ⟨rfl,X⟩;have a1:=hY ((HX.o.trans N).trans X);clear X N b0 a5 kx ky v0 v1 v2 v3 v4 v5 a9 b8 b4 b3 b6 b7;cases hq:(decide (x.k=y.k)&&decide (Qbo x.v y.v=0))with
   | true=>
     have HQ:=hY hq;clear hq;go_wp2_with fail;go_roundw
     case rel=>exact⟨j+1,by go_num,h1,by rw[HP.o,HD.o,show(decide (x.ent.1=y.ent.1)&&decide (Qbo x.ent.2 y.ent.2=0))=true from HQ.o,dQ],a1.o⟩
     simp[intOf];omega
   | false=>
     have HQ:=hY hq;clear hq;go_wp2_with fail;go_ret;exact⟨by rw[HP.o,HD.o,show(decide (x.ent.1=y.ent.1)&&decide (Qbo x.ent.2 y.ent.2=0))=false from HQ.o,dM];rfl,a1.o⟩
  obtain rfl:j=xs.length:=by omega
  clear hp hx;go_wp2_with fail;go_ret;refine⟨?_,HX.o⟩;rw[HP.o,bC (by simp),bC (by simp[D.o])];rfl
 have c6:((xs.length:Int) !=(ys.length:Int))=true:=eL.2 (by omega);have HE:=hY (QiM (l:=xs.map LE.ent) (m:=ys.map LE.ent) (by simpa using z));clear hs I z hf;go_in;go_wp2_with fail;go_ret;exact⟨by rw[HE.o];rfl,fv w⟩
theorem IsT.leads(h:IsT w F T){p:Option Addr}(z:Qay T=.pointer p):Qmq w p:=by
 intro a D;subst D
 match T,h,z with
 |none,_,z=>simp[Qay]at z
 | some ⟨n,t⟩,h,z=>
   have h:IsN w F n t:=h;obtain⟨-,_,_,_,_,-,I⟩:=h.cells;have e:a=⟨addr n t,0,none⟩:=by simpa[Qay,ptr]using z.symm
   subst e;exact⟨_,_,I⟩
open Go.Maps Go.Shelf
variable{C:AL SV}
theorem Qq2{mb:Option Nat}(X:Qbt W mb C){k:ByteArray}(U:k.size<=maxLen) :
  (Instr.lookup 77 (.map mb) (.string k) false).run prog W=.ok (Qir C k).val W:=by
 cases mb with
 | none=>
   have Y:C=[]:=X;subst Y;rw[Maps.look_nil false Qfc underlying77 (Qgq W) (Qs7 k U)];rfl
 | some b=>
   obtain⟨es,N,Z,F,hs,R⟩:=X;rcases Maps.fit_look false Qfc underlying77 (Qgq W) Z F (Qs7 k U)with⟨z,_,D⟩ |⟨e0,y,_,_,z,I,D,_⟩
   ·rw [z]
    have h1:=D .nil;rw[<-R,Qgv]at h1;unfold Qir;cases J:Qa5 C k with
    |none=>rfl
    |some s=>rw[J]at h1;cases h1
   rw[z];have h1:=D .nil;rw[<-R,Qgv]at h1;have h2:=D (.held (.bool true));rw[<-R,Qgv]at h2;unfold Qir;cases J:Qa5 C k with
   |none=>rw[J]at h1 h2;rw[<-h1]at h2;cases h2
   | some s=>
     rw[J]at h1;obtain⟨y1,y2⟩:=y;dsimp only at h1;rw[<-h1]at I;rw[Qe0 I];rfl
theorem QkS(R:Qav C){ss:List (List UInt8)}(I:ss.Perm (strKeys (mapA SV.val C))):(ss.mergeSort λx y=>decide (x<=y)).map encStr=C.map λp=>.string p.1:=by
 rw[QdY]at I;have N:(ss.mergeSort λx y=>decide (x<=y)).Perm ss:=List.mergeSort_perm ..;have J:(C.map Prod.fst).Pairwise λx y=>klt x y=true:=bG.2 R
 have X:((ss.mergeSort λx y=>decide (x<=y)).map QbW).map QaV=ss.mergeSort λx y=>decide (x<=y):=Qgy _
 have z:((ss.mergeSort λx y=>decide (x<=y)).map QbW).Perm (C.map Prod.fst):=by
  have h1:=((N.trans I).map QbW);rw[cG]at h1;exact h1
 have D:((ss.mergeSort λx y=>decide (x<=y)).map QbW).Nodup:=z.nodup_iff.2 (J.imp λ{a b} h e=>Qo1 h e);have U:(ss.mergeSort λx y=>decide (x<=y)).map QbW=C.map Prod.fst:=QiK (Qg7 (by rw[X];exact QhK ss) D) J λk=>z.mem_iff
 have h2:(ss.mergeSort λx y=>decide (x<=y)).map encStr=((ss.mergeSort λx y=>decide (x<=y)).map QbW).map .string:=by rw[cG];rfl
 rw[h2,U,cG];rfl
theorem Qps{base e size n:Nat}{v:Value}{xs:List Value}(h:w.ownsRow base e size v n xs):∃s:Sl,v=.slice s.a n s.c:=by
 rcases h.2 with⟨rfl,rfl⟩ |⟨g,z,D,rfl,r⟩
 .exact ⟨Sl.none,rfl⟩
 exact⟨⟨some ⟨g,0,none⟩,z⟩,rfl⟩
def CB(F:Nat->Prop)(w wr:World)(b:Nat):Prop:=(F b\/w.heap.size+2<=b)/\b<wr.heap.size
variable{v0:Value}
theorem QqC{w w2 wr w7 z:World}{D:Option Addr}(Y:w.heap.size+2<=wr.heap.size)(hF:∀b,F b->b<w)(N:Ext wr w7)(I:Ext w7 z)(X:IsT z (Up (CB F w wr) w7 z) T')(R:Qay T'=.pointer D)(U:Blk wr (w.heap.size+1) 41 #[v0])
  (hs:Sb (λc=>c=w.heap.size+1) w2 wr) :
  IsT (z.setCell ⟨w+1,0,none⟩ (.pointer D)) (CB F w (z.setCell ⟨w+1,0,none⟩ (.pointer D))) T'/\Blk (z.setCell ⟨w+1,0,none⟩ (.pointer D)) (w.heap.size+1) 41 #[Qay T']/\Sb (λc=>c=w.heap.size+1) w2 (z.setCell ⟨w+1,0,none⟩ (.pointer D)):=by
 have s7:=N.size;have Z:=I.size;refine⟨(X.agree (fC z ⟨w+1,0,none⟩ _ ?_)).mono λi hi=>?_,?_,(hs.ext (N.trans I)).set (p:=⟨w+1,0,none⟩) (.inr rfl) _⟩
 ·rintro (J | J)
  ·rcases J.1 with h | h
   .have:=hF _ h;dsimp only at this;omega
   dsimp only at h;omega
  have:w7.heap.size<=w.heap.size+1:=J.1;omega
 ·rw [CB,eA]
  rcases hi with hi|hi
  .exact ⟨hi.1,by have:=hi.2;omega⟩
  exact⟨.inr (by have:=hi.1;omega),hi.2⟩
 rw[R];exact(U.ext (N.trans I)).Qdz 0 _
def Qff(H:Nat->Prop)(O:Nat)(d:OD)(w:World)(e:Ending)(w':World):Prop:=
 ∃T':RT,e=.returned (Qau T')/\OkR T'/\IsT w' (Up (OvF H w O d) w w') T'/\Qab T'=QfC (Qab d.T) (Qht d.C) (Qab d.T)/\Nw w w'/\(idleC (Qab d.T) (Qht d.C)->T'=d.T)
theorem Qso{B:List Ent}{p:ByteArray × SV}(h:C[j]? = some p)(t:List Ent):QfC B ((Qht C).drop j) t=QfC B ((Qht C).drop (j+1)) (match p.2.opt with
  |some v=>if(Qam B p.1).any (λz=>decide (Qbo z v=0))then t else Qbq t p.1 v
  |none=>if(Qam B p.1).isSome then Qb2 t p.1 else t):=by
 have h1:(Qht C)[j]? = some (p.1,p.2.opt):=by unfold Qht;rw[aq,h];rfl
 obtain⟨h2,D⟩:=ah.1 h1
 conv=>lhs;rw[aE h2,D]
 cases p.2.opt<;>rfl
theorem Qsw{B:List Ent}(D:Qav C){p:ByteArray × SV}(h:C[j]? = some p)(hi:idleC B (Qht C)):match p.2.opt with
  |some v=>(Qam B p.1).any (λz=>decide (Qbo z v=0))=true
  |none=>Qam B p.1=none:=
 hi p.1 p.2.opt (by rw[Qd7,Qio D (am h)];rfl)
variable{n:Nat}
theorem QsP{base:Nat}{t:TypeId}{xs:List Value}(h:w.ownsRow base t 1 (.slice s.a n s.c) n xs){i:Nat}{v:Value}(hi:xs[i]? = some v):∃g,s.a=some ⟨g,0,none⟩/\s.row=some g/\base<=g/\g<w/\n<=s.c/\s.c<=maxLen/\w.cell? ⟨g,i,none⟩=some v:=by
 have z:=(ah.1 hi).1;have X:xs.length=n*1:=h.1;obtain⟨g,J,rfl,I,h1,h2,N⟩:=Qa2 h (by omega);obtain⟨b,o,R,Y,U⟩:=fE h;obtain⟨D,-,-⟩:=R.eq (by omega);obtain⟨rfl,rfl⟩:g=b/\0=o:=by simpa using D
 exact⟨g,rfl,rfl,I,N.lt,h1,h2,by have:=U i v hi;rwa[aA]at this⟩
variable{H:Nat->Prop}{O:Nat}{d:OD}
theorem QkG(h:QcW H w O d){b:Nat}(hm:d.mb=some b)(hl:(Qab d.T).length+d.C.length<=1000000):Calls prog 23 #[.pointer (some ⟨O,0,none⟩)] w (Qff H O d w):=by
 have c0:w.cell? ⟨O,0,none⟩=some (Qay d.T):=h.blk.cell 0;have c1:w.cell? ⟨O,1,none⟩=some (.map (some b)):=by have:=h.blk.cell 1;rw[hm]at this;exact this
 have lO:=h.blk.lt;obtain⟨r,hr⟩:=Qaq d.T;rw[hr]at c0;have l1:O<w.heap.size+1:=by omega
 have l2:O<w.heap.size+1+1:=by omega
 have hF:∀b,OvF H w O d b->b<w:=λb hb=>hb.1
 obtain⟨n,hn⟩:∃n,d.C.length=n:=⟨_,rfl⟩;rw[hn]at hl;obtain⟨n0,j0⟩:∃n,(Qab d.T).length=n:=⟨_,rfl⟩;rw[j0]at hl;have D:=hY h;have HM:=hY hm;have HN:=hY hn;have l9:=hY j0;have HR:=hY hr;have HF:=hY hF;have LO:=hY lO;clear h hm hr hF hn j0;go_in;go_wp2_with fail;generalize j9:World.alloc _ _=W0;obtain⟨n2,j7,k5,j5⟩:=Qap w _ _ _ _ W0 j9;have l4:=hY n2;have k6:=hY k5;have l3:=hY j5;have k8:=hY j7;clear j9 n2 k5 j5 l1 l2 j7;refine((eC (n:=5)).1 (Tryz.QhM (some b) W0)).mono ?_;rintro e w' ⟨rfl,rfl⟩;go_wp2_with fail;have g7:W0.ownsMap prog 9 QeZ b d.C.length (mapA SV.val d.C):=by
  have h1:=D.o.map;rw[HM.o]at h1;have hb:=D.o.map.lt HM.o;exact QbI h1 ((fx l4.o).block b hb id)
 have j3:Maps.size (mapA SV.val d.C)=n:=by rw[Qj7];exact HN.o
 refine((eC (n:=5)).1 (Tryz.QeD b d.C.length (mapA SV.val d.C) QeZ W0 g7 (by rw[j3];unfold maxLen;omega) (by rw[j3];omega))).mono ?_;rintro e w2 ⟨v,ss,rfl,hp,a4,l6,l0⟩;have g6:ss.length=n:=by have:=hp.length_eq;rw[QdY,ao,HN.o]at this;exact this
 rw[QkS D.o.sorted hp,g6]at a4;obtain⟨s,rfl⟩:=Qps a4;rw[ey,k8.o]at a4;have d0:Nw W0 w2:=(fx ((fv W0).alloc #[.map (some b)] 77)).trans (Sb.new l0);have i3:Nw w w2:=(fx l4.o).trans d0;have f2:=hY i3;have k9:=hY (d0.blk k6.o);have l5:=hY (d0.blk l3.o);have l7:=hY a4;have n6:w.heap.size+2<=w2.heap.size:=by have:=d0.size;have:=k8.o;omega
 have o1:=hY n6;clear g7 j3 hp a4 l6 l0 d0 i3 g6 c0 c1 k6 l3 n6;go_wp2_with fail;go_loopw[23] (λq wr=>∃(j:Nat) (T1:RT),q=.int .i64 j/\j<=n/\OkR T1/\IsT wr (CB (OvF H w O d) w wr) T1/\QfC (Qab d.T) ((Qht d.C).drop j) (Qab T1)=QfC (Qab d.T) (Qht d.C) (Qab d.T)/\(Qab T1).length<=n0+j/\Blk wr (w.heap.size+1) 41 #[Qay T1]/\Sb (λc=>c=w.heap.size+1) w2 wr/\(idleC (Qab d.T) (Qht d.C)->T1=d.T)) (λq _=>n -(intOf q).toNat)
 case atStart=>exact⟨0,d.T,rfl,aw _,D.o.ok,(D.o.tree.agree (fB f2.o HF.o)).mono λi hi=>⟨.inl hi,ab hi.1 f2.o.size⟩,rfl,by rw[l9.o];exact an _,by rw[HR.o];exact l5.o,fD _ _,λ_=>rfl⟩
 obtain⟨j,T1,rfl,hj,ok,hT,f7,i6,a1,a0,f4⟩:=hrel;obtain⟨p1,b6⟩:=Qaq T1;have o7:w.heap.size+2<=wr.heap.size:=al o1.o a0.size;by_cases c3:j<n
 ·have g1:decide ((j:Int)<(n:Int))=true:=ej (by omega)
  have o8:(j:Int)<(n:Int):=by omega
  obtain⟨p,c9⟩:∃p,d.C[j]? = some p:=⟨_,ac (by rw[HN.o];exact c3)⟩;have i4:=am c9;obtain⟨g,l8,o0,o4,j6,o5,n7,d4⟩:=QsP l7.o (i:=j) (v:=.string p.1) (by rw[aq,c9];rfl);obtain⟨sa,sc⟩:=s;dsimp only at l8 o5 n7;subst l8;have p0:=LO.out;have b4:Sb (λc=>c=w.heap.size+1) w wr:=(f2.o.any _).trans a0;have j4:Agree (OvF H w O d) w wr:=λi hi=>b4.block i hi.1 (by have:=hi.1;omega)
  have kc:wr.cell? ⟨g,j,none⟩=some (.string p.1):=(a0.cell j6 (by omega)).trans d4;have kl:g<wr:=ab j6 a0.size;have e8:=b4.blk D.o.blk (by omega);rw[HR.o,HM.o]at e8;have c0:wr.cell? ⟨O,0,none⟩=some (.pointer r):=e8.cell 0;have c1:wr.cell? ⟨O,1,none⟩=some (.map (some b)):=e8.cell 1;have o2:=e8.lt;obtain⟨f8,k7⟩:=D.o.vals p i4;have j2:=Qq2 (W:=wr) (D.o.map.heap λb hb=>b4.block b (D.o.map.lt hb) (by have:=D.o.map.lt hb;omega)) f8;rw[HM.o,show Qir d.C p.1=p.2 by unfold Qir;rw[Qio D.o.sorted i4];rfl]at j2;have b7:∀i,CB (OvF H w O d) w wr i->i<wr:=λi hi=>hi.2
  have j1:(Qab T1).length<=1000000:=by omega
  have hv:RV wr (Lt wr) p.2.v p.2.sl p.2.so:=(k7.1.agree j4).mono λi hi=>by have:=hi.1;show i<_;omega
  have Y:=λ(W:World) (Z:Ext wr W)=>Qhj (k:=p.1) (w:=W) (F:=OvF H w O d) (T:=d.T) (λi hi=>by have:=hi.1;have:=Z.size;omega) (D.o.tree.agree (j4.trans (Z.agree λi hi=>by have:=hi.1;omega))) D.o.ok (by rw[l9.o];omega)
  have b3:=λ(W:World) (Z:Ext wr W)=>QpD (k:=p.1) (v:=p.2.v) (sl:=p.2.sl) (so:=p.2.so) (λb hb=>ab (b7 b hb) Z.size) (hT.agree (Z.agree b7)) ok j1 f8 ((hv.agree (Z.agree λ_ h=>h)).mono λi hi=>ab hi Z.size)
  have b0:=λ(W:World) (Z:Ext wr W)=>QmJ (λb hb=>ab (b7 b hb) Z.size) (hT.agree (Z.agree b7)) ok j1 p.1
  have a5:=λ(W:World) (Z:Ext wr W) (x:Val) (xl xo:Sl) (hx:RV W (Lt W) x xl xo)=>Qdt hx ((hv.agree (Z.agree λ_ h=>h)).mono (G:=Lt W) λi hi=>ab hi Z.size)
  have X:=Qso (B:=Qab d.T) c9 (Qab T1);have b5:=Qsw (B:=Qab d.T) D.o.sorted c9;rw[f7]at X;unfold QbO at Y;rw[Qau,HR.o]at Y;rw[Qau,b6]at b3 b0;have g4:Ext wr (wr.alloc (.cells p.2.cells 87)):=(fv wr).alloc _ _;have g0:=fA wr 87 p.2.cells;have d6:∀W,Ext wr W->IsT W (CB (OvF H w O d) w W) T1/\Blk W (w.heap.size+1) 41 #[Qay T1]/\Sb (λc=>c=w.heap.size+1) w2 W:=λW Z=>
   ⟨(hT.agree (Z.agree b7)).mono λi hi=>⟨hi.1,ab hi.2 Z.size⟩,a1.ext Z,a0.ext Z⟩
  have e7:∀w7 w8 T' p',Ext wr w7->Ext w7 w8->IsT w8 (Up (CB (OvF H w O d) w wr) w7 w8) T'->Qay T'=.pointer p'->_:=λw7 w8 T' p' h7 h8 h1 h2=>QqC (w2:=w2) o7 HF.o h7 h8 h1 h2 a1 a0
  obtain⟨k,f1,v,sl,so⟩:=p;dsimp only at kc f8 j2 hv Y b3 b0 a5 X b5 g4 g0;obtain⟨og,k3⟩:∃o,Qam (Qab d.T) k=o:=⟨_,rfl⟩;obtain⟨gv,i8⟩:∃g,og.getD zeroV=g:=⟨_,rfl⟩;obtain⟨gb,i5⟩:∃g,og.isSome=g:=⟨_,rfl⟩;rw[k3]at Y X b5;rw[i8,i5]at Y;have b8:=hY (show ∀W,Ext (wr.alloc (.cells (SV.cells ⟨f1,v,sl,so⟩) 87)) W->(W.cell? ⟨wr,0,none⟩=some (.bool f1)/\W.cell? ⟨wr,1,none⟩=some (.int .i64 v.kind)/\W.cell? ⟨wr,2,none⟩=some (.bool v.b)/\W.cell? ⟨wr,3,none⟩=some (.int .i64 v.i)/\W.cell? ⟨wr,4,none⟩=some (.string v.t)/\W.cell? ⟨wr,5,none⟩=some (.slice sl.a v.l.length sl.c)/\W.cell? ⟨wr,6,none⟩=some (.slice so.a v.ok.length so.c))/\
    W.cell? ⟨w+1,0,none⟩=some (.pointer p1)/\W.frozen? ⟨w+1,0,none⟩=false/\w.heap.size+1<W.heap.size/\wr.heap.size<W.heap.size fromλW Z=>by
   have h1:=a1.ext (g4.trans Z);rw[b6]at h1;exact⟨(g0.ext Z).c7,h1.cell 0,h1.frozen 0,h1.lt,(g0.ext Z).lt⟩)
  have d8:=hY g4;have i1:=hY Y;have g5:=hY b3;have n4:=hY b0;have d3:=hY a5;have R:=hY X;have a9:=hY b5;have e6:=hY d6;have a6:=hY e7;have I:=hY ok;have d7:=hY i6;have i0:=hY f4;clear c9 i4 d4 b4 j4 e8 f8 k7 hv Y b3 b0 a5 X b5 g4 g0 d6 e7 k3 ok hT f7 i6 a1 a0 f4 b7 j1 b6;go_wp2_with fail;dsimp only[SV.cells]at b8 d8;generalize n9:wr.alloc (.cells _ _)=W3 at *;clear n9 kc kl c0 c1 o2 j2;refine(i1.o W3 d8.o).mono ?_;rintro e w4 ⟨gl,gq,rfl,c2,k4⟩;have c6:=(fv w4).alloc #[.int .i64 gv.kind,.bool gv.b,.int .i64 gv.i,.string gv.t,.slice gl.a gv.l.length gl.c,.slice gq.a gv.ok.length gq.c] 28;have n8:=fA w4 28 #[.int .i64 gv.kind,.bool gv.b,.int .i64 gv.i,.string gv.t,.slice gl.a gv.l.length gl.c,.slice gq.a gv.ok.length gq.c];have i2:=(k4.agree (c6.agree λb hb=>hb.2)).mono (G:=Lt (w4.alloc (.cells #[.int .i64 gv.kind,.bool gv.b,.int .i64 gv.i,.string gv.t,.slice gl.a gv.l.length gl.c,.slice gq.a gv.ok.length gq.c] 28)).heap.size) λb hb=>ab hb.2 c6.size
  have k2:=hY (d3.o _ ((d8.o.trans c2).trans c6) gv gl gq i2);have o9:=hY (d8.o.trans c2);have c4:=hY ((d8.o.trans c2).trans c6);have f9:=hY (c2.trans c6);obtain⟨⟨q0,q1,q2,q3,q4,q5,q6⟩,q7,q8,q9,f3⟩:=b8.o _ c2;clear c2 k4 c6 n8 i2 d3 i1;cases gb with
  | false=>
    have ho:og=none:=by cases og with
     |none=>rfl
     |some x=>cases i5
    cases f1 with
    | false=>
      have z:=R.o;simp only[SV.opt,ho]at z;have HE:=hY z.symm;clear z;go_wp2_with fail;obtain⟨e1,e2,e3⟩:=e6.o _ c4.o;go_roundw
      case rel=>exact⟨j+1,T1,by go_num,c3,I.o,e1,HE.o,by have:=d7.o;omega,e2,e3,i0.o⟩
      simp[intOf];omega
    | true=>
      have z:=R.o;simp only[SV.opt,ho,if_true,Option.any_none,Bool.false_eq_true,if_false]at z;have HE:=hY z.symm;have o6:=a9.o;have e0:=hY (show ¬(match(SV.opt ⟨true,v,sl,so⟩)with
       |some v=>og.any (λe4=>decide (Qbo e4 v=0))=true
       |none=>og=none)by simp[SV.opt,ho])
      clear z o6;go_wp2_with fail;refine(g5.o _ c4.o).mono ?_;rintro e w8 ⟨T',rfl,a3,a2,N⟩;obtain⟨p',J⟩:=Qaq T';rw[Qau,J];obtain⟨-,q7,q8,q9,f3⟩:=b8.o w8 (f9.o.trans N);have c8:=hY (a6.o _ _ T' p' c4.o N a2 J);have U:=hY a3;clear a3 a2 N J;go_wp2_with fail;obtain⟨e1,e2,e3⟩:=c8.o;go_roundw
      case rel=>exact⟨j+1,T',by go_num,c3,U.o.ok I.o,e1,by rw[U.o.ents I.o];exact HE.o,by rw[U.o.ents I.o];have:=d7.o;rcases QcN (Qab T1) k v with h|h<;>omega,e2,e3,λhi=>absurd (a9.o hi) e0.o⟩
      simp[intOf];omega
  | true=>
    obtain⟨x,ho⟩:∃x,og=some x:=cR.1 i5;have i7:x=gv:=by rw[ho]at i8;exact i8
    cases f1 with
    | false=>
      have z:=R.o;simp only[SV.opt,ho,Bool.false_eq_true,if_false,Option.isSome_some,if_true]at z;have HE:=hY z.symm;have e0:=hY (show ¬(match(SV.opt ⟨false,v,sl,so⟩)with
       |some v=>og.any (λe4=>decide (Qbo e4 v=0))=true
       |none=>og=none)by simp[SV.opt,ho])
      clear z;go_wp2_with fail;refine(n4.o _ c4.o).mono ?_;rintro e w8 ⟨T',rfl,a3,a2,N⟩;obtain⟨p',J⟩:=Qaq T';rw[Qau,J];obtain⟨-,q7,q8,q9,f3⟩:=b8.o w8 (f9.o.trans N);have c8:=hY (a6.o _ _ T' p' c4.o N a2 J);have U:=hY a3;clear a3 a2 N J;go_wp2_with fail;obtain⟨e1,e2,e3⟩:=c8.o;go_roundw
      case rel=>exact⟨j+1,T',by go_num,c3,U.o.ok I.o,e1,by rw[U.o.ents I.o];exact HE.o,by rw[U.o.ents I.o];have:=d7.o;have:=(Qba (Qab T1) k).length_le;omega,e2,e3,λhi=>absurd (a9.o hi) e0.o⟩
      simp[intOf];omega
    | true=>
      obtain⟨sm,f6⟩:∃s,decide (Qbo gv v=0)=s:=⟨_,rfl⟩;have d5:=k2.o;rw[f6]at d5;have g9:=hY d5;clear d5 k2;go_wp2_with fail;refine g9.o.mono ?_;rintro e w6 ⟨rfl,f5⟩;have i9:=hY (c4.o.trans f5);have o3:=hY (f9.o.trans f5);obtain⟨⟨q0,q1,q2,q3,q4,q5,q6⟩,q7,q8,q9,f3⟩:=b8.o w6 (f9.o.trans f5);clear f5 g9;cases sm with
      | true=>
        have z:=R.o;simp only[SV.opt,ho,if_true,Option.any_some,i7,f6]at z;have HE:=hY z.symm;clear z;go_wp2_with fail;obtain⟨e1,e2,e3⟩:=e6.o _ i9.o;go_roundw
        case rel=>exact⟨j+1,T1,by go_num,c3,I.o,e1,HE.o,by have:=d7.o;omega,e2,e3,i0.o⟩
        simp[intOf];omega
      | false=>
        have z:=R.o;simp only[SV.opt,ho,if_true,Option.any_some,i7,f6,Bool.false_eq_true,if_false]at z;have HE:=hY z.symm;have e0:=hY (show ¬(match(SV.opt ⟨true,v,sl,so⟩)with
         |some v=>og.any (λe4=>decide (Qbo e4 v=0))=true
         |none=>og=none)by simp only[SV.opt,ho,if_true,Option.any_some,i7,f6];simp)
        clear z;go_wp2_with fail;refine(g5.o _ i9.o).mono ?_;rintro e w8 ⟨T',rfl,a3,a2,N⟩;obtain⟨p',J⟩:=Qaq T';rw[Qau,J];obtain⟨-,q7,q8,q9,f3⟩:=b8.o w8 (o3.o.trans N);have c8:=hY (a6.o _ _ T' p' i9.o N a2 J);have U:=hY a3;clear a3 a2 N J;go_wp2_with fail;obtain⟨e1,e2,e3⟩:=c8.o;go_roundw
        case rel=>exact⟨j+1,T',by go_num,c3,U.o.ok I.o,e1,by rw[U.o.ents I.o];exact HE.o,by rw[U.o.ents I.o];have:=d7.o;rcases QcN (Qab T1) k v with h|h<;>omega,e2,e3,λhi=>absurd (a9.o hi) e0.o⟩
        simp[intOf];omega
 obtain rfl:j=n:=by omega
 have g1:decide ((j:Int)<(j:Int))=false:=eh (by omega);rw[b6]at a1;have q0:wr.cell? ⟨w+1,0,none⟩=some (.pointer p1):=a1.cell 0;have g3:=a0.blk k9.o (by omega);have q1:wr.cell? ⟨w,0,none⟩=some (.pointer none):=g3.cell 0;have f0:=g3.frozen 0;have k0:=g3.lt;have k1:=a1.lt;have g8:Qff H O d w (.returned (.agg #[.pointer p1])) (wr.setCell ⟨w,0,none⟩ (.pointer p1)):=by
  refine⟨T1,by rw[Qau,b6],ok,?_,?_,?_,f4⟩
  ·refine (hT.agree (fC wr ⟨w,0,none⟩ _ ?_)).mono fun i hi=>?_
   ·rintro ⟨hf | hf,-⟩
    .have:=HF.o _ hf;dsimp only at this;omega
    dsimp only at hf;omega
   rw[Up,eA];rcases hi.1 with h|h
   .exact .inl h
   exact .inr ⟨by omega,hi.2⟩
  .rw [<-f7,bC (by unfold Qht;rw[ao,HN.o];exact an _)];rfl
  have h1:Sb (λc=>c=w.heap.size+1\/c=w.heap.size) w2 (wr.setCell ⟨w,0,none⟩ (.pointer p1)):=(a0.mono λi _ e=>.inl e).set (p:=⟨w,0,none⟩) (.inr (.inr rfl)) _;exact f2.o.comp h1 λi hi e=>by omega
 have j8:=hY g8;clear ok hT f7 i6 a1 a0 f4 g3 g8 b6;go_wp2_with fail;refine eD (v:=.agg #[.pointer p1]) (by simp[results,results23,go_sem,q1]) rfl ?_;exact j8.o
theorem Qoi(h:QcW H w O d)(D:(Qab d.T).length+d.C.length<=1000000):Calls prog 23 #[.pointer (some ⟨O,0,none⟩)] w (Qff H O d w):=by
 cases z:d.mb with
 |some b=>exact QkG h z D
 | none=>
   have N:d.C=[]:=by have:=h.map;rw[z]at this;exact this
   exact(QkF h z).mono λe w' ⟨I,hn⟩=>⟨d.T,I,h.ok,(h.tree.agree (fB hn λb J=>J.1)).mono λi hi=>.inl hi,by rw[N];rfl,hn,λ_=>rfl⟩
def QnR(k:ByteArray)(v:Val):Int:=if Qbd k≠0 then 8 else Qbw v
theorem Qry(h:QcW H w O d)(hH:∀b,H b->b<w)(hn:d.us.length<=1000000){k:ByteArray}(Y:k.size<=maxLen){v:Val}(hv:RV w (Lt w) v sl so)(hc:Qb4 v<=1100000)(Z:Qb9 w) :
  Calls prog 14 #[.pointer (some ⟨O,0,none⟩),.string k,Qbg v sl so] w λe w'=>e=.returned (.int .i64 (QnR k v))/\((QnR k v=0/\∃sl so mb s,QnP H w O d (d.step k ⟨true,v,sl,so⟩ mb s) w')\/(QnR k v≠0/\Nw w w')):=by
 have z:=λW (I:Nw w W)=>Qdj Y (Z.lib.nw I)
 have R:∀W,Nw w W->RV W (Lt W) v sl so:=λW I=>(hv.agree (fB I λb X=>X)).mono λb X=>ab X I.size
 have D:=λW (I:Nw w W)=>Qim (R W I) hc (Z.nw I)
 by_cases N:Qbd k=0
 ·rw [N] at z
  have U:QnR k v=Qbw v:=by unfold QnR;rw[ef (by simp[N])]
  rw[U];by_cases J:Qbw v=0
  ·rw [J] at D
   exact(QtN h hH hn Y hv z D).mono λe w' h=>by rw[J];exact⟨h.1,.inl ⟨rfl,h.2⟩⟩
  exact(QpE z D J).mono λe w' h=>⟨h.1,.inr ⟨J,h.2⟩⟩
 have U:QnR k v=8:=by unfold QnR;rw[em N]
 rw[U];exact(Qne z N).mono λe w' h=>⟨h.1,.inr ⟨by decide,h.2⟩⟩
theorem Qqa{O b:Nat}{r sl:Value}{u:UD}{bw Z bo bk:Nat}{o:SV}(J:Blk w O 80 #[r,.map (some b),sl])(D:Qbt w (some b) C)(hs:Qav C)(hC:C.length<maxLen)(hk:u.k.size<=maxLen)
  (a1:Blk w bw 4 #[.bool u.old.isSome]) (I:Blk w Z 87 o.cells) (ho:∀x,u.old=some x->x=o) (Y:Blk w bo 36 #[.pointer (some ⟨O,0,none⟩)]) (U:Blk w bk 9 #[.string u.k]) :
  Calls prog 69 #[.pointer (some ⟨bw,0,none⟩),.pointer (some ⟨Z,0,none⟩),.pointer (some ⟨bo,0,none⟩),.pointer (some ⟨bk,0,none⟩)] w λe w'=>(∃r,e=.returned r)/\Qbt w' (some b) (Qhw u C)/\Sb (λc=>c=b) w w':=by
 obtain⟨k,a2⟩:=u;have cw:w.cell? ⟨bw,0,none⟩=some (.bool a2.isSome):=a1.cell 0;have nO:=Qbt.ne D J;have no:=Qbt.ne D Y;have nk:=Qbt.ne D U;have nd:=Qbt.ne D I;have a0:=hY D;cases a2 with
 | none=>
   have z:=hY (show ∀W,Sb (λc=>c=b) w W->W.cell? ⟨bo,0,none⟩=some (.pointer (some ⟨O,0,none⟩))/\W.cell? ⟨O,1,none⟩=some (.map (some b))/\W.cell? ⟨bk,0,none⟩=some (.string k)from
    λW R=>⟨(R.blk Y no).cell 0,(R.blk J nO).cell 1,(R.blk U nk).cell 0⟩)
   clear J a1 I Y U D ho nO no nk nd;go_in;go_wp2_with fail;refine ez (S:=(λw'=>Sb (λc=>c=b) w w')) (by kernel_rfl) (((fD _ w).drew)) (λhHeld=>?_);refine Qad 0 (some 11) z hHeld ?_;refine Qad 1 (some 12) z hHeld ?_;refine Qad 2 (some 13) z hHeld ?_;refine Qad 3 (some 14) z hHeld ?_;refine Qad 4 (some 15) z hHeld ?_;refine Qag (i:=5) (by kernel_rfl) rfl (by rfl) (λK hK=>?_)
   skip
   (refine Qpr (b:=b) (C:=C) (k:=k) rfl rfl rfl (a0.o.heap λ_ _=>rfl) hk ?_;intro w7 N X)
   refine hK.out _ _ (hHeld.trans X) (λhHeld=>?_);clear hK K
   try simp only[Act.put,List.setIfInBounds_toArray,List.set_cons_zero,List.set_cons_succ]
   refine eE (by kernel_rfl) ?_ _;go_end0;exact⟨⟨_,rfl⟩,N,hHeld⟩
 | some x=>
   obtain rfl:=ho x rfl;obtain⟨a3,v,sl',so⟩:=x;have z:=hY (show ∀W,Sb (λc=>c=b) w W->W.cell? ⟨bo,0,none⟩=some (.pointer (some ⟨O,0,none⟩))/\W.cell? ⟨O,1,none⟩=some (.map (some b))/\W.cell? ⟨bk,0,none⟩=some (.string k)/\W.cell? ⟨Z,0,none⟩=some (.bool a3)/\W.cell? ⟨Z,1,none⟩=some (.int .i64 v.kind)/\W.cell? ⟨Z,2,none⟩=some (.bool v.b)/\W.cell? ⟨Z,3,none⟩=some (.int .i64 v.i)/\W.cell? ⟨Z,4,none⟩=some (.string v.t)/\W.cell? ⟨Z,5,none⟩=some (.slice sl'.a v.l.length sl'.c)/\W.cell? ⟨Z,6,none⟩=some (.slice so.a v.ok.length so.c)from
    λW R=>⟨(R.blk Y no).cell 0,(R.blk J nO).cell 1,(R.blk U nk).cell 0,(R.blk I nd).cell 0,(R.blk I nd).cell 1,(R.blk I nd).cell 2,(R.blk I nd).cell 3,(R.blk I nd).cell 4,(R.blk I nd).cell 5,(R.blk I nd).cell 6⟩)
   clear J a1 I Y U D ho nO no nk nd;go_in;go_wp2_with fail;refine ez (S:=(λw'=>Sb (λc=>c=b) w w')) (by kernel_rfl) (((fD _ w).drew)) (λhHeld=>?_);refine Qad 0 (some 5) z hHeld ?_;refine Qad 1 (some 6) z hHeld ?_;refine Qad 2 (some 7) z hHeld ?_;refine Qad 3 (some 8) z hHeld ?_;refine Qad 4 (some 9) z hHeld ?_;refine Qad 5 (some 10) z hHeld ?_;refine Qag (i:=6) (by kernel_rfl) rfl (by rfl) (λK hK=>?_)
   skip
   (refine QjO (b:=b) (C:=C) (k:=k) (s:=⟨a3,v,sl',so⟩) rfl rfl rfl rfl (a0.o.heap λ_ _=>rfl) hk hC hs ?_;intro w7 N X)
   refine hK.out _ _ (hHeld.trans X) (λhHeld=>?_);clear hK K
   try simp only[Act.put,List.setIfInBounds_toArray,List.set_cons_zero,List.set_cons_succ]
   refine eE (by kernel_rfl) ?_ _;go_end0;exact⟨⟨_,rfl⟩,N,hHeld⟩
theorem QsQ{base e n c:Nat}{a:Option Addr}{xs:List Value}(h:w.ownsRow base e 1 (.slice a n c) n xs){m:Nat}(hm:m<=n):w.ownsRow base e 1 (.slice a m c) m (xs.take m):=by
 have hl:=h.1;rcases h.2 with⟨J,X⟩ |⟨g,R,I,J,D,U,Z,z,N,Y⟩
 ·obtain rfl:m=0:=by omega
  subst X;exact⟨by simp,.inl ⟨J,rfl⟩⟩
 injection J with h1 h2 h3;subst h1 h3;refine⟨by rw[ap];omega,.inr ⟨g,c,I,rfl,D,U,by omega,z,N,?_⟩⟩;rw[<-Y,cU];congr 1;omega
section
variable{H : Nat -> Prop}{w : World}{O : Nat}{d : OD}
structure Qgr(w:World)(O:Nat)(d:OD)(xs:List Value)(j:Nat)(W:World):Prop where
 blk:Blk W O 80 #[Qay d.T,.map d.mb,.slice d.s.a d.us.length d.s.c]
 map:Qbt W d.mb (Qdw d.us d.C j)
 row:∃ys,W.ownsRow 0 1 1 (.slice d.s.a d.us.length d.s.c) d.us.length ys/\∀i,i<j->ys[i]? = xs[i]?
 sb:Sb (OvB O d) w W
def Qqo(H:Nat->Prop)(O:Nat)(d:OD)(m:Nat)(w:World)(e:Ending)(w':World):Prop:=
 e=.returned (.int .i64 0)/\QnP H w O d ⟨d.T,d.mb,d.s,d.us.take m,d.Hs.take (m+1),Qdw d.us d.C m⟩ w'
theorem Qlq{m:Nat}(hm:m<=d.us.length)(h:QcW H w O d){xs:List Value}(hl:xs.length=d.us.length)(a5:∀(i:Nat) (u:UD) (v:Value),d.us[i]? = some u->xs[i]? = some v->Qh7 w (OvF H w O d) O u v){W:World}(hW:Qgr w O d xs m W) :
  QnP H w O d ⟨d.T,d.mb,d.s,d.us.take m,d.Hs.take (m+1),Qdw d.us d.C m⟩ (W.setCell ⟨O,2,none⟩ (.slice d.s.a m d.s.c)):=by
 have Z:Sb (OvB O d) W (W.setCell ⟨O,2,none⟩ (.slice d.s.a m d.s.c)):=(fD (OvB O d) W).set (p:=⟨O,2,none⟩) (.inr (.inl rfl)) _;have D:=hW.sb.trans Z;have z:Sb (λc=>c=O) W (W.setCell ⟨O,2,none⟩ (.slice d.s.a m d.s.c)):=(fD (λc=>c=O) W).set (p:=⟨O,2,none⟩) (.inr rfl) _;have ha:Agree (OvF H w O d) w (W.setCell ⟨O,2,none⟩ (.slice d.s.a m d.s.c)):=λi hi=>D.block i hi.1 hi.2.1
 have I:∀i,OvF H w O d i->OvF H (W.setCell ⟨O,2,none⟩ (.slice d.s.a m d.s.c)) O ⟨d.T,d.mb,d.s,d.us.take m,d.Hs.take (m+1),Qdw d.us d.C m⟩ i:=λi hi=>⟨Nat.lt_of_lt_of_le hi.1 D.size,hi.2.1,hi.2.2⟩
 obtain⟨ys,U,a2⟩:=hW.row;have J:(d.us.take m).length=m:=by rw[ap];omega
 have hC:d.Hs[m]? = some (Qdw d.us d.C m):=h.hist.back h.last (d.us.length-m) m (by omega);have a6:=h.hist.take hm;have a3:∀b,d.mb=some b->b≠O:=λb R e=>h.ne.1 (by rw[R,e])
 have a0:∀(A:List UD) (C:AL SV),(∀p∈C,p.1.size<=maxLen/\Qkv w (OvF H w O d) p.2)->(∀u∈A,u.k.size<=maxLen/\∀o,u.old=some o->Qkv w (OvF H w O d) o)->∀p∈A.foldr Qhw C,p.1.size<=maxLen/\Qkv w (OvF H w O d) p.2:=by
  intro A C a1
  induction A with
  |nil=>intro _;exact a1
  | cons u r ih=>
    intro hA p N;have Y:=ih λx hx=>hA x (aI _ hx)
    have hu:=hA u (az ..);rw[List.foldr_cons,Qhw]at N;cases X:u.old with
    |none=>rw[X]at N;exact Y p (bI.1 N).1
    | some o=>
      rw[X]at N;rcases QiD N with rfl|N
      .exact ⟨hu.1,hu.2 o X⟩
      exact Y p N
 refine⟨⟨?_,?_,⟨ys.take m,?_,?_,?_⟩,?_,?_,a6,?_,?_,Qfz h.sorted _ _,(h.tree.agree ha).mono I,h.ok,h.ne,h.out,?_⟩,D,λb R=>.inl R⟩
 ·have:=hW.blk.Qdz 2 (.slice d.s.a m d.s.c)
  show Blk _ O _ #[_,_,.slice d.s.a (d.us.take m).length d.s.c];rw[J];exact this
 .exact hW.map.heap λb R=>z.block b (hW.map.lt R) (a3 b R)
 ·show (ys.take m).length=(d.us.take m).length
  have:=U.1;rw[J,ap];omega
 ·show World.ownsRow _ 0 _ 1 (.slice d.s.a (d.us.take m).length d.s.c) (d.us.take m).length _
  rw[J];exact Qae (QsQ U hm) z.agree λb R=>⟨(Qaa U R).2,λe=>h.ne.2.1 (by rw[<-e];exact R)⟩
 ·intro i u v hu hv
  have hu:(d.us.take m)[i]? = some u:=hu;have hi:i<m:=by have:=(ah.1 hu).1;omega
  rw[bJ hi]at hu hv;rw[a2 i hi]at hv;exact((a5 i u v hu hv).agree ha).mono I
 ·intro p N
  have:=a0 (d.us.drop m) d.C h.vals (λu hu=>h.olds u (aD hu)) p N;exact⟨this.1,(this.2.agree ha).mono I⟩
 ·intro u hu
  have:=h.olds u (aN hu);exact⟨this.1,λo X=>((this.2 o X).agree ha).mono I⟩
 ·show (d.Hs.take (m+1))[0]? = _
  rw[bJ (by omega)];exact h.h0
 ·show (d.Hs.take (m+1))[(d.us.take m).length]? = _
  rw[J,bJ (by omega)];exact hC
 intro a4;exact h.some_ λe=>a4 (by show d.us.take m=[];rw[e];exact List.take_nil)
theorem Qn5{xs:List Value}{j g b:Nat}(h:QcW H w O d)(U:d.mb=some b)(hg:d.s.a=some ⟨g,0,none⟩){u:UD}(hu:d.us[j]? = some u){W J:World}(Z:Qgr w O d xs (j+1) W)(hm:Qbt J (some b) (Qhw u (Qdw d.us d.C (j+1))))(hs:Sb (λc=>c=b) W J) :
  Qgr w O d xs j (J.setCell ⟨g,j,none⟩ Value.nilFunc):=by
 have hj:j<d.us.length:=(ah.1 hu).1;have z:d.s.row=some g:=by rw[Sl.row,hg];rfl
 have N:g≠b:=λe=>h.ne.2.2 b U (by rw[z,e])
 have X:g≠O:=λe=>h.ne.2.1 (by rw[z,e])
 have a0:b≠O:=λe=>h.ne.1 (by rw[U,e])
 obtain⟨ys,R,Y⟩:=Z.row;have I:J.ownsRow 0 1 1 (.slice d.s.a d.us.length d.s.c) d.us.length ys:=Qae R hs.agree λi hi=>⟨(Qaa R hi).2,λe=>N (by rw[z]at hi;injection hi with hi;omega)⟩
 have D:Sb (λc=>c=g) J (J.setCell ⟨g,j,none⟩ Value.nilFunc):=(fD (λc=>c=g) J).set (p:=⟨g,j,none⟩) (.inr rfl) _;refine⟨D.blk (hs.blk Z.blk λe=>a0 e.symm) λe=>X e.symm,?_,⟨ys.set j Value.nilFunc,?_,λi hi=>?_⟩,?_⟩
 ·rw [U,QhA hu]
  exact hm.heap λi hi=>by
   injection hi with hi;subst hi;exact D.block b (hm.lt rfl) λe=>N e.symm
 ·rw [hg] at I ⊢
  exact QbF I hj _
 ·rw [de (by omega)]
  exact Y i (by omega)
 exact(Z.sb.trans (hs.mono λi _ e=>.inr (.inl (by rw[U,e])))).trans (D.mono λi _ e=>.inr (.inr (by rw[z,e])))
end
theorem Qhv(P:Program)(w:World)(a:Addr)(m:Mode):(store a Value.nilFunc m).run P w=stored P w a Value.nilFunc m:=run_store P w a _ m rfl
attribute [local go_sem] Qhv
variable{u:Value}
theorem Qrr{base e n c g:Nat}{xs:List Value}(h:w.ownsRow base e 1 (.slice (some ⟨g,0,none⟩) n c) n xs){i:Nat}(D:xs[i]? = some u):w.cell? ⟨g,i,none⟩=some u/\(n<=c/\c<=maxLen)/\g<w/\w.frozen? ⟨g,i,none⟩=false:=by
 rcases h.2 with⟨R,h0⟩ |⟨g',X,J,R,U,Y,I,z,a0,Z⟩
 .cases R
 injection R with h1 h2 h3;injection h1 with h1;injection h1 with h1;subst h1 h3;have hi:i<n:=by have:=(ah.1 D).1;have:=h.1;omega
 have N:Blk w g e J:=Y;refine⟨?_,⟨I,z⟩,N.lt,N.frozen i⟩;rw[N.cell i];rw[<-Z,bJ (by omega)]at D;simpa using D
theorem Qsi(h:QcW H w O d)(hn:d.us.length<=1000000){m:Nat}(hm:m<=d.us.length):Calls prog 24 #[.pointer (some ⟨O,0,none⟩),.int .i64 (m:Int)] w (Qqo H O d m w):=by
 have c2:w.cell? ⟨O,2,none⟩=some (.slice d.s.a d.us.length d.s.c):=h.blk.cell 2;have lO:=h.blk.lt;obtain⟨xs,hl,Z,b8⟩:=h.row;have g0:decide ((m:Int)<0)=false:=eh (by omega);have g1:decide ((d.us.length:Int)<(m:Int))=false:=eh (by omega);have d3:decide (d.us.length<m)=false:=eh (by omega);have a6:Qgr w O d xs d.us.length w:=⟨h.blk,by rw[Qi2];exact h.map,⟨xs,Z,λ_ _=>rfl⟩,fD _ _⟩;have z:=hY h;have a3:=hY b8;have HL:=hY hl;have b0:=hY a6;clear h b8 hl a6 Z;go_in;go_wp2_with fail;go_loopw[5] (λq wr=>∃(j:Nat) (i:Int),q=.int .i64 i/\i+1=(j:Int)/\m<=j/\j<=d.us.length/\Qgr w O d xs j wr) (λq _=>(intOf q+1).toNat)
 case atStart=>exact⟨d.us.length,_,rfl,by omega,hm,an _,b0.o⟩
 obtain⟨j,i,rfl,a5,d6,d4,I⟩:=hrel;by_cases d5:m<j
 ·obtain ⟨j,rfl⟩:∃ k,j=k+1:=⟨j - 1,by omega⟩
  obtain rfl:i=(j:Int):=by omega
  have g2:decide ((m:Int)<=(j:Int))=true:=ej (by omega);have hu:d.us[j]? = some d.us[j]:=ac (by omega);obtain⟨u,a9⟩:∃u,d.us[j]=u:=⟨_,rfl⟩;rw[a9]at hu;obtain⟨v,R⟩:∃v,xs[j]? = some v:=⟨_,ac (by have:=HL.o;omega)⟩;obtain⟨b,hb⟩:=z.o.some_ (λe=>by rw[e]at hu;simp at hu);obtain⟨bw,bd,bo,bk,o,rfl,⟨fw,fd,fo,fk⟩,kw,kd,ho,ko,kk⟩:=a3.o j u v hu R;obtain⟨ys,N,b5⟩:=I.row;have b7:ys[j]? = some (Qkg bw bd bo bk):=by rw[b5 j (by omega)];exact R
  obtain⟨g,J⟩:∃g,d.s.a=some ⟨g,0,none⟩:=by
   rcases N.2 with⟨-,h0⟩ |⟨g,c9,d0,R,-⟩
   .omega
   injection R with h1;exact⟨g,h1⟩
  rw[J]at N;obtain⟨cj,⟨a4,a0⟩,lg,fj⟩:=Qrr N b7;have b2:wr.cell? ⟨O,2,none⟩=some (.slice d.s.a d.us.length d.s.c):=I.blk.cell 2;rw[J]at b2;have lW:=I.blk.lt;have Y:Blk wr O 80 #[Qay d.T,.map (some b),.slice d.s.a d.us.length d.s.c]:=by rw[<-hb];exact I.blk
  have X:Qbt wr (some b) (Qdw d.us d.C (j+1)):=by rw[<-hb];exact I.map
  have U:=Qqa Y X (Qfz z.o.sorted d.us (j+1)) (by have:=z.o.hist.short z.o.h0 _ _ (z.o.hist.back z.o.last (d.us.length -(j+1)) (j+1) (by omega));unfold maxLen;omega) (z.o.olds u (am hu)).1 (I.sb.blk kw fw.2.1) (I.sb.blk kd fd.2.1) ho (I.sb.blk ko fo.2.1) (I.sb.blk kk fk.2.1);have c0:d.s.row=some g:=by rw[Sl.row,J];rfl
  have a1:¬g=b:=λe=>z.o.ne.2.2 b hb (by rw[c0,e])
  have b6:¬O=b:=λe=>z.o.ne.1 (by rw[hb,e])
  have HW:=hY I;have HU:=hY hu;have HB:=hY hb;have HA:=hY J;have c4:=hY U;have j0:(0:Int)<=(j:Int):=by omega
  have j1:(j:Int)<(d.us.length:Int):=by omega
  have c3:∀W,Sb (λc=>c=b) wr W->W.frozen? ⟨g,j,none⟩=false/\W.cell? ⟨g,j,none⟩=some (Qkg bw bd bo bk)/\W.cell? ⟨O,2,none⟩=some (.slice (some ⟨g,0,none⟩) d.us.length d.s.c)/\g<W:=λW hS=>
   ⟨(World.frozen?_of_block (hS.block g lg a1)).trans fj,(hS.cell lg a1).trans cj,(hS.cell lW b6).trans b2,ab lg hS.size⟩
  have FJ:=hY c3;clear I a5 c2 hu a9 R hb fw fd fo fk kw kd ho ko kk N b5 b7 J Y X U c0 a1 b6 c3 b0;go_wp2_with(go_at_call 69;refine(c4.o).mono ?_;rintro e w1 ⟨⟨r,rfl⟩,b4,a2⟩;obtain⟨f1,c1,b3,l1⟩:=FJ.out w1 a2;have c7:=hY b4;have c6:=hY a2;clear b4 a2 FJ);go_roundw
  case rel=>exact⟨j,(j:Int)-1,by go_num,by omega,by omega,by omega,Qn5 z.o HB.o HA.o HU.o HW.o c7.o c6.o⟩
  simp[intOf]
 obtain rfl:j=m:=by omega
 have g2:decide ((j:Int)<=i)=false:=eh (by omega);have b2:wr.cell? ⟨O,2,none⟩=some (.slice d.s.a d.us.length d.s.c):=I.blk.cell 2;have f2:=I.blk.frozen 2;have lW:=I.blk.lt;have HW:=hY I;clear I a5 c2;have c8:(d.s.a=none/\d.us.length=0/\d.s.c=0)\/∃g,d.s.a=some ⟨g,0,none⟩/\d.us.length<=d.s.c/\d.s.c<=maxLen:=by
  obtain⟨ys,N,-⟩:=HW.o.row;rcases N.2 with⟨R,h0⟩ |⟨g,c9,d0,R,-,-,a4,a0,-⟩
  ·injection R with h1 h2 h3
   exact .inl ⟨h1,h0,h3⟩
  injection R with h1 h2 h3;exact .inr ⟨g,h1,by rw[h3];exact a4,by rw[h3];exact a0⟩
 rcases c8 with⟨J,hz,hc⟩ |⟨g,J,a4,a0⟩
 ·obtain rfl:j=0:=by omega
  have HA:=hY J;have HC:=hY hc;have HZ:=hY hz;rw[J,hz,hc]at b2;clear J hc hz;have g3:decide ((0:Int)<=i)=false:=g2;go_wp2_with fail;refine eD (v:=.int .i64 0) (by simp[results,results24,go_sem]) rfl ?_;have D:=Qlq hm z.o HL.o a3.o HW.o;rw[HA.o,HC.o]at D;exact⟨rfl,D⟩
 rw[J]at b2;have HA:=hY J;clear J;have k0:(0:Int)<=(j:Int):=by omega
 have k1:(j:Int)<=(d.s.c:Int):=by omega
 go_wp2_with fail;refine eD (v:=.int .i64 0) (by simp[results,results24,go_sem]) rfl ?_;have D:=Qlq hm z.o HL.o a3.o HW.o;rw[HA.o]at D;exact⟨rfl,D⟩
end Go.Proofs.YtkjkafgnnoidpaaGreatDoor
namespace Go.Proofs.YtkjkafgnnoidpaaGreatDoor
open Go.Proofs.Tryz
open Go.RowKit Go.Maps Go.Shelf
structure OvX(H:Nat->Prop)(w:World)(O:Nat)(d:OD)(M:List Ent):Prop where
 ov:QcW H w O d
 rel:QiS (Qab d.T) (Qht d.C) M
structure GoX(H:Nat->Prop)(w:World)(O:Nat)(d:OD)(M':List Ent)(n:Nat)(w':World)(d':OD):Prop where
 go:QnP H w O d d' w'
 T:d'.T=d.T
 rel:QiS (Qab d.T) (Qht d'.C) M'
 us:d.us <+: d'.us
 hs:d.Hs <+: d'.Hs
 few:d'.us.length<=d.us.length+n
section
variable{H : Nat -> Prop}{w w' w1 w2 : World}{O : Nat}{d d' d1 d2 : OD}{M M1 M2 : List Ent}{n m : Nat}
theorem GoX.at_(h:GoX H w O d M1 n w1 d1):OvX H w1 O d1 M1:=⟨h.go.at_,by rw[h.T];exact h.rel⟩
theorem OvX.nw(h:OvX H w O d M)(k:Nw w w'):OvX H w' O d M:=⟨h.ov.nw k,h.rel⟩
theorem GoX.more(h:GoX H w O d M1 n w1 d1)(k:n<=m):GoX H w O d M1 m w1 d1:=⟨h.go,h.T,h.rel,h.us,h.hs,al h.few (by omega)⟩
theorem GoX.trans(h:GoX H w O d M1 n w1 d1)(k:GoX H w1 O d1 M2 m w2 d2):GoX H w O d M2 (n+m) w2 d2:=
 ⟨⟨k.go.at_,h.go.sb.comp k.go.sb λi hi e=>(h.go.new i e).elim id λh2=>by omega,λb z=>(k.go.new b z).elim (h.go.new b) λh2=>.inr (al h.go.sb.size h2)⟩,k.T.trans h.T,by have:=k.rel;rwa[h.T]at this,h.us.trans k.us,h.hs.trans k.hs,by have:=h.few;have:=k.few;omega⟩
theorem GoX.since(k:Nw w w1)(h:GoX H w1 O d M1 n w2 d1):GoX H w O d M1 n w2 d1:=
 ⟨⟨h.go.at_,(k.any _).trans h.go.sb,λb z=>(h.go.new b z).imp id (al k.size)⟩,h.T,h.rel,h.us,h.hs,h.few⟩
theorem OvX.stay(h:OvX H w O d M)(k:Nw w w'):GoX H w O d M n w' d:=⟨⟨h.ov.nw k,k.any _,λb z=>.inl z⟩,rfl,h.rel,dF _,dF _,di _ _⟩
theorem OvX.now(h:OvX H w O d M)(k:ByteArray):d.now k=Qam M k:=h.rel.now k
theorem OvX.QtU(h:OvX H w O d M){k:ByteArray}{sv:SV}{mb:Option Nat}{s:Sl}(D:QnP H w O d (d.step k sv mb s) w')(z:QiS (Qab d.T) (Qht (Qc6 d.C k sv)) M1):GoX H w O d M1 1 w' (d.step k sv mb s):=
 ⟨D,rfl,z,List.prefix_append _ _,List.prefix_append _ _,by show(d.us++_).length<=_;rw[ak];exact an _⟩
theorem Qto(h:OvX H w O d M)(z:(Qab d.T).length<=1000000){k:ByteArray}(D:k.size<=maxLen) :
  Calls prog 44 #[.pointer (some ⟨O,0,none⟩),.string k] w (QbO (Qam M k) w):=by
 have:=QrW h.ov z D;rw[h.now k]at this;exact this
theorem Qql(h:OvX H w O d M)(hH:∀b,H b->b<w)(hn:d.us.length<=1000000){k:ByteArray}(Z:k.size<=maxLen){v:Val}{sl so:Sl}(N:RV w (Lt w) v sl so)(U:Qb4 v<=1100000)(hL:Qb9 w) :
  Calls prog 14 #[.pointer (some ⟨O,0,none⟩),.string k,Qbg v sl so] w λe w'=>e=.returned (.int .i64 (setMu M k v).1)/\∃d',GoX H w O d (setMu M k v).2 1 w' d':=
 (Qry h.ov hH hn Z N U hL).mono λe w' ⟨he,hp⟩=>by
   have D:(setMu M k v).1=QnR k v:=by
    unfold setMu QnR;split
    .rfl
    split
    .rfl
    rename_i I;simpa using(fb.1 I).symm
   refine⟨by rw[he,D],?_⟩;rcases hp with⟨z,X,R,mb,s,Y⟩ |⟨z,hq⟩
   ·have J:Qbd k=0:=by
     unfold QnR at z;by_cases h1:Qbd k=0
     .exact h1
     rw[em h1]at z;cases z
    have I:Qbw v=0:=by
     unfold QnR at z;rwa[ef (by simp[J])]at z
    have hs:(setMu M k v).2=Qbq M k v:=by
     unfold setMu;rw[ef (by simp[J]),ef (by simp[I])]
    rw[hs];exact⟨_,h.QtU Y (h.rel.put J ⟨N.wf,I⟩ (QhW (QbG h.ov.sorted _ _)) λx=>Ql0 d.C k _ x)⟩
   have hs:(setMu M k v).2=M:=by
    unfold setMu;unfold QnR at z;by_cases h1:Qbd k=0
    ·rw [ef (by simp [h1])] at z
     rw[ef (by simp[h1]),em z]
    rw[em h1]
   rw[hs];exact⟨d,h.stay hq⟩
theorem Que(h:OvX H w O d M)(Y:∀b,H b->b<w)(X:d.us.length<=1000000)(U:(Qab d.T).length<=1000000){k:ByteArray}(R:k.size<=maxLen) :
  Calls prog 17 #[.pointer (some ⟨O,0,none⟩),.string k] w λe w'=>e=.returned (.bool (Qam M k).isSome)/\∃d',GoX H w O d (Qb2 M k) 1 w' d':=
 (Qoo h.ov Y X U R).mono λe w' ⟨I,hp⟩=>by
   rw[h.now k]at I hp;refine⟨I,?_⟩;rcases hp with⟨z,Z⟩ |⟨z,mb,s,N⟩
   ·have hd:Qb2 M k=M:=by
     refine QdW (QaR h.rel.ok.sorted k) h.rel.ok.sorted λx=>?_
     rw[QcL _ _ _ h.rel.ok.sorted];by_cases D:x=k
     ·rw [em D,D]
      cases J:Qam M k with
      |none=>rfl
      |some y=>rw[J]at z;cases z
     rw[ef D]
    rw[hd];exact⟨d,h.stay Z⟩
   exact⟨_,h.QtU N (h.rel.del (QhW (QbG h.ov.sorted _ _)) λx=>Ql0 d.C k _ x)⟩
theorem Qub(h:OvX H w O d M)(g:GoX H w O d M1 n w1 d1)(N:d1.us.length<=1000000) :
  Calls prog 24 #[.pointer (some ⟨O,0,none⟩),.int .i64 (d.us.length:Int)] w1 λe w'=>e=.returned (.int .i64 0)/\∃d2,GoX H w O d M 0 w' d2/\d2.us=d.us:=
 (Qsi g.go.at_ N (m:=d.us.length) g.us.length_le).mono λe w' ⟨J,z⟩=>by
   have hu:d1.us.take d.us.length=d.us:=(cm.1 g.us).symm;have D:d.Hs.length=d.us.length+1:=h.ov.hist.len;have U:d1.Hs.take (d.us.length+1)=d.Hs:=by rw[<-D];exact(cm.1 g.hs).symm
   have I:Qdw d1.us d1.C d.us.length=d.C:=by
    have h1:=g.go.at_.hist.back g.go.at_.last (d1.us.length-d.us.length) d.us.length (by have:=g.us.length_le;omega);obtain⟨t,z⟩:=g.hs;rw[<-z,bp (by omega),h.ov.last]at h1;injection h1 with h1;exact h1.symm
   refine⟨J,⟨d1.T,d1.mb,d1.s,d1.us.take d.us.length,d1.Hs.take (d.us.length+1),Qdw d1.us d1.C d.us.length⟩,⟨⟨z.at_,g.go.sb.comp z.sb λi hi e=>(g.go.new i e).elim id λh2=>by omega,λb R=>(z.new b R).elim (g.go.new b) λh2=>.inr (al g.go.sb.size h2)⟩,g.T,?_,?_,?_,?_⟩,hu⟩
   ·show QiS _ (Qht (Qdw d1.us d1.C d.us.length)) M
    rw[I];exact h.rel
   ·show d.us <+: d1.us.take d.us.length
    rw[hu];exact dF _
   ·show d.Hs <+: d1.Hs.take (d.us.length+1)
    rw[U];exact dF _
   show(d1.us.take d.us.length).length<=_;rw[hu];exact an _
theorem QpL{B:List Ent}{C:Slots}(h:QiS B C B):idleC B C:=λk s z=>by
 have h1:=h.now k;rw[Qkq,z]at h1;cases s with
 |none=>exact h1.symm
 | some v=>
   show(Qam B k).any _=true;rw[<-h1];simp[QgA]
theorem QuT(h:OvX H w O d M)(D:(Qab d.T).length+d.C.length<=1000000) :
  Calls prog 23 #[.pointer (some ⟨O,0,none⟩)] w λe w'=>∃T',e=.returned (Qau T')/\OkR T'/\IsT w' (Up (OvF H w O d) w w') T'/\Qab T'=M/\Nw w w'/\(M=Qab d.T->T'=d.T):=
 (Qoi h.ov D).mono λe w' ⟨T',he,ok,hT,hen,hn,hi⟩=>⟨T',he,ok,hT,hen.trans h.rel.com,hn,λz=>hi (QpL (by have:=h.rel;rwa[z]at this))⟩
end
end Go.Proofs.YtkjkafgnnoidpaaGreatDoor
