/- What the theorem needs of the texts KnP13, WV, CntV, MutZ: no condition of its own. -/
import Derived.Test.YtdiecmkpbadgjaaGreatDoorPng
set_option linter.unusedVariables false
set_option linter.unusedSimpArgs false
set_option linter.unnecessarySimpa false
set_option maxRecDepth 100000
set_option maxHeartbeats 1000000
namespace Go.Proofs.YtdiecmkpbadgjaaGreatDoor
open Go.Proofs.Tryz
open Go.RowKit
abbrev kB1:ByteArray:=⟨#[98,47,49]⟩
variable{q:Nat}
theorem Qtt{n:Int}(I:q<=64):Qda (Qi0 n) q=0:=by
 rw[Qi0,Qda];rw[show Qb0 3 false n ByteArray.empty ([]:List Val).length ([]:List ByteArray).length=false by simp[Qb0]];rw[eh sM,eh oM];rfl
theorem Qpd{n:Int}(I : -9223372036854775808<=n)(h1:n<=9223372036854775807):QcP (Qi0 n)=0:=by
 have N:=Lib.itoa_length_le n I h1;unfold QcP;rw[eh (by simp[Qtt (n:=n) (q:=1) oN]),eh (by rw[Qi0,Qdv];decide),eh];rw[Qi0,QgI,eh oN,eu rfl];omega
theorem QuX(n:Int):wfV (Qi0 n):=by unfold Qi0 wfV;exact⟨rfl,by unfold QkR;trivial,by unfold QkR;trivial⟩
theorem QuE{n:Int}(I : -9223372036854775808<=n)(h1:n<=9223372036854775807):okV (Qi0 n):=⟨QuX n,Qpd I h1⟩
abbrev Qfg(k:ByteArray)(n:Int):Mu:=.mk 3 k ByteArray.empty n false zeroV false zeroV []
abbrev Qil(k:ByteArray):Mu:=.mk 2 k ByteArray.empty 0 false zeroV false zeroV []
theorem Qmk{kd:Int}{k tk:ByteArray}{i:Int}{I:Bool}{N:Val}{Z:Bool}{v:Val}(hb:QbJ kd k tk i I N Z v 0=true)(hk:QgF kd k tk I=true)(hw:I=true->QcP N=0)(hv:QhW kd Z=true->QcP v=0):QbP (.mk kd k tk i I N Z v [])=0:=by
 unfold QbP;rw[eh (by rw[Qa0,QaF];decide),QaS,show(([]:List Mu).length)=0 from rfl,hb,hk];rw[eh sM,eh oN,eh sM];rw[eh (λh=>by simp only[Bool.and_eq_true]at h;rw[hw h.1]at h;simp at h),eh (λh=>by simp only[Bool.and_eq_true]at h;rw[hv h.1]at h;simp at h),Qb5]
theorem Qj2:Qd9 zeroV=true:=oN
theorem QpL{k:ByteArray}{N:Int}{I:Bool}(h:Qci k=0)(Z:N≠6)(h0:k.size≠0):QgF N k ByteArray.empty I=true:=by
 unfold QgF;rw[eh Z,eh (λe=>h0 e.2),h];rfl
theorem QrO{k:ByteArray}{n:Int}(h:Qci k=0)(I:k.size≠0):QbP (Qfg k n)=0:=
 Qmk (by simp[QbJ,Qj2]) (QpL h oN I) (λh=>by cases h) (λh=>by simp[QhW]at h)
theorem QrN{k:ByteArray}(h:Qci k=0)(I:k.size≠0):QbP (Qil k)=0:=
 Qmk (by simp[QbJ,Qj2]) (QpL h oN I) (λh=>by cases h) (λh=>by simp[QhW]at h)
variable{M:List Ent}
theorem Qqp{k:ByteArray}{n:Int}(h:Qci k=0)(I:k.size≠0):runM M (Qfg k n)=Qeb M k n:=by
 unfold runM;rw[eh (by simp[QrO h I]),stepM,eh oN,eh oN,eu rfl]
theorem mB:Qci kB1=0:=by decide +kernel
open Go.Maps Go.Shelf
structure WV where
 v:Val
 sl:Sl
 so:Sl
def WV.cells(x:WV):List Value:=[.int .i64 x.v.kind,.bool x.v.b,.int .i64 x.v.i,.string x.v.t,.slice x.sl.a x.v.l.length x.sl.c,.slice x.so.a x.v.ok.length x.so.c]
def QeF(xs:List WV):List Value:=xs.flatMap WV.cells
theorem Qff(x:WV)(xs:List WV):QeF (x::xs)=x.cells++QeF xs:=by simp[QeF]
theorem Qya(xs ys:List WV):QeF (xs++ys)=QeF xs++QeF ys:=by simp[QeF]
theorem Qne(xs:List WV)(y:WV):QeF (xs++[y])=QeF xs++y.cells:=by simp[QeF]
theorem WV.len(x:WV):x.cells.length=6:=rfl
theorem WV.one(x:WV):∀u∈x.cells,u.oneCell'=true:=by
 intro u hu;simp only[WV.cells,List.mem_cons,List.not_mem_nil,or_false]at hu;rcases hu with rfl|rfl|rfl|rfl|rfl|rfl<;>rfl
theorem Qxc(xs:List WV):∀u∈QeF xs,u.oneCell'=true:=λu hu=>by
 obtain⟨x,-,I⟩:=cF.1 hu;exact x.one u I
theorem QeG(xs:List WV):(QeF xs).length=xs.length*6:=by
 induction xs with
 |nil=>rfl
 |cons x xs ih=>rw[Qff,aj,ih,WV.len,aB];omega
theorem Qip:∀{xs:List WV} {i:Nat} {x:WV},xs[i]? = some x->∀c,c<6->(QeF xs)[i*6+c]? = x.cells[c]?
 |[],i,x,h,_,_=>by simp at h
 | y :: ys,0,x,h,c,hc=>by
   simp at h;subst h;rw[Qff,cq,aD,bn (by rw[WV.len];exact hc)]
 | y :: ys,i+1,x,h,c,hc=>by
   simp at h;rw[Qff,aQ (by rw[WV.len];omega),WV.len,show(i+1)*6+c-6=i*6+c from oM];exact Qip h c hc
variable{w:World}{F:Nat->Prop}{s:Sl}
theorem Qsg{xs:List WV}(h:Rd w F 6 s xs.length (QeF xs)):∃b o,Qd5 F s xs.length b o/\∀j x,xs[j]? = some x->QaV w b (o+j*6) x.v x.sl x.so:=by
 obtain⟨b,o,h1,h2,Z⟩:=h;refine⟨b,o,h1,λj x N=>?_⟩;have I:∀c,c<6->∀u,x.cells[c]? = some u->w.cell? ⟨b,o+j*6+c,none⟩=some u:=λc I u hu=>by
  rw[bH];exact Z _ u (by rw[Qip N c I];exact hu)
 exact⟨I 0 oN _ rfl,I 1 oN _ rfl,I 2 oN _ rfl,I 3 oN _ rfl,I 4 oN _ rfl,I 5 oN _ rfl⟩
theorem Qvw{xs:List WV}{b o:Nat}(h:Qd5 F s xs.length b o)(hc:∀j x,xs[j]? = some x->QaV w b (o+j*6) x.v x.sl x.so):Rd w F 6 s xs.length (QeF xs):=by
 refine⟨b,o,h,QeG xs,λp u hu=>?_⟩;have hp:=(ai.1 hu).1;rw[QeG]at hp;obtain⟨j,c,rfl,N⟩:∃j c,p=j*6+c/\c<6:=⟨p/6,p%6,oM,oM⟩;obtain⟨x,Z⟩:∃x,xs[j]? = some x:=⟨_,ac oM⟩;have e:=hc _ _ Z;rw[Qip Z c N]at hu;rw[<-bH];have I:c=0\/c=1\/c=2\/c=3\/c=4\/c=5:=oM
 rcases I with rfl|rfl|rfl|rfl|rfl|rfl
 .exact e.c0.trans hu
 .exact e.c1.trans hu
 .exact e.c2.trans hu
 .exact e.c3.trans hu
 .exact e.c4.trans hu
 exact e.c5.trans hu
def wl(l:List Val)(c:Nat->Sl × Sl):List WV:=l.mapIdx λj d=>⟨d,(c j).1,(c j).2⟩
theorem QhX(l:List Val)(c:Nat->Sl × Sl):(wl l c).length=l.length:=by simp[wl]
theorem QvV(l:List Val)(c:Nat->Sl × Sl):(wl l c).map WV.v=l:=by
 unfold wl;apply bI;intro j;rw[au,da];cases l[j]?<;>rfl
variable{j:Nat}
theorem QuY{l:List Val}{c:Nat->Sl × Sl}{x:WV}(h:(wl l c)[j]? = some x):l[j]? = some x.v/\x.sl=(c j).1/\x.so=(c j).2:=by
 unfold wl at h;rw[da]at h;cases I:l[j]? with
 |none=>rw[I]at h;cases h
 |some d=>rw[I]at h;cases h;exact⟨rfl,rfl,rfl⟩
def Qwg:Val->List Val
 |.mk k _ _ _ l _ ov=>if k=5 then l else if k=6 then ov else[]
theorem Qxr(v:Val):Qdv v=1+Qb1 (Qwg v):=by
 obtain⟨k,b,i,t,l,Z,ov⟩:=v;unfold Qdv Qwg;dsimp only;by_cases N:k=5
 .rw [eu N,eu N]
 rw[eh N,eh N];by_cases I:k=6
 .rw [eu I,eu I]
 rw[eh I,eh I,Qb1]
structure OW(w:World)(base n:Nat)(s:Sl)(xs:List WV):Prop where
 own:w.ownsRow base 34 6 (.slice s.a xs.length s.c) xs.length (QeF xs)
 vals:∀x∈xs,RV w (Lt n) x.v x.sl x.so
theorem OW.nil(w:World)(base n:Nat):OW w base n Sl.none []:=⟨World.ownsRow_nil _ _ _ _,λx h=>by simp at h⟩
variable{w':World}
theorem OW.ext{base n:Nat}{xs:List WV}(h:OW w base n s xs)(N:Ext w w')(Z:n<=w):OW w' base n s xs:=
 ⟨Qab h.own (N.agree λb (h:Lt w.heap.size b)=>h) (λb I=>(Qad h.own I).2),λx hx=>(h.vals x hx).agree (N.agree λb (I:b<n)=>ab I Z)⟩
variable{s':Sl}
theorem OW.append{base n:Nat}{xs ys:List WV}(hn:n<=base)(hb:base<=w.heap.size)(h:OW w base n s xs)(hv:∀y∈ys,RV w (Lt n) y.v y.sl y.so)
  (I:w'.ownsRow base 34 6 (.slice s'.a (xs.length+ys.length) s'.c) (xs.length+ys.length) (QeF xs++QeF ys)) (a0:Wr w w' s.row):OW w' base n s' (xs++ys):=by
 have N:Agree (Lt n) w w':=a0.agree (λi (hi:i<n)=>oM) (λk hk (hF:k<n)=>by have:=(Qad h.own hk).1;omega);refine⟨by rw[aj,Qya];exact I,λx Z=>?_⟩;rcases aS.1 Z with Z|Z
 .exact (h.vals x Z).agree N
 exact(hv x Z).agree N
theorem Qm6(s:ByteArray)(p:Nat):(Utf8.decode s p).2<=4:=by
 rw[Lib.decode_at];unfold Lib.decodeN
 repeat' split
 all_goals simp
theorem Qna(r:Nat):1<=(Lib.encodeRune (r:Int)).length:=by
 have:=Lib.runeCells_le (r:Int);rw[Lib.runeCells_length]at this;exact this.1
theorem QnN(r:Nat):1<=(QcZ r).length:=by
 unfold QcZ;split
 .exact Qna r
 split<;>simp
theorem Qki(s:ByteArray):∀(f p:Nat),s.size<=p+f->Lib.validD (s.data.toList.drop p)=true->s.size-p<=4*(Qbo (Qbb s f p)).length
 |0,p,h,_=>oM
 | f+1,p,h,I=>by
   by_cases hp:s.size<=p
   .omega
   have hs:s.data.toList.length=s.size:=aP;have N:s.data.toList.drop p≠[]:=λe=>by
    have:=congrArg List.length e;rw[aw,hs]at this;simp at this;omega
   rw[Lib.validD_step _ N,Lib.decodeL_drop]at I;split at I
   .cases I
   rename_i hn;rw[ee]at I;have hd:Utf8.decode s p≠(65533,1):=λe=>hn (by rw[e];exact⟨rfl,rfl⟩)
   have h1:=Lib.width_pos s p;have h4:=Qm6 s p;have ih:=Qki s f (p+(Utf8.decode s p).2) oM I;rw[Qbb,eh hp,eh hd];have Z:(Qbo ((p,(Utf8.decode s p).1)::Qbb s f (p+(Utf8.decode s p).2))).length=(QcZ (Utf8.decode s p).1).length+(Qbo (Qbb s f (p+(Utf8.decode s p).2))).length:=by simp[Qbo]
   rw[Z];have:=QnN (Utf8.decode s p).1;omega
theorem Qkh{s:ByteArray}(h:Lib.validD s.data.toList=true):s.size+8<=4*(Qbf s).size:=by
 have h1:=Qki s s.size 0 oM (by rw[cZ];exact h);unfold Qbf;rw[eu h];show s.size+8<=4*((QdG s).toArray.size);rw[bm];unfold QdG Qdn;simp only[List.length_append,List.length_cons,List.length_nil];omega
theorem QrA(n:Int):1<=(Lib.itoa n).length:=by
 unfold Lib.itoa;have:∀u,1<=(Lib.decDigits u).length:=λu=>by
  rw[Lib.decDigits_length];unfold Lib.nDigits
  repeat' split
  all_goals omega
 split
 .rw [aB];omega
 exact this _
mutual
theorem Qig:∀(v:Val) (q:Nat),wfV v->Qda v q=0->QcI v<=7*QgI v
 | .mk k b i t l ok ov,q,hw,h=>by
   obtain⟨a0,hl,ho⟩:=hw;rw[Qda]at h;split at h
   .cases h
   rename_i hodd;split at h
   .cases h
   unfold Qb0 at hodd;split at hodd
   .exact absurd rfl hodd
   rename_i hk;simp only[Bool.or_eq_true,Bool.and_eq_true,bne_iff_ne,ne_eq,not_or,not_and,Decidable.not_not]at hodd;obtain⟨⟨⟨⟨o2,o3⟩,o4⟩,o5⟩,o6⟩:=hodd;have I:k≠4->t.size=0:=o4;have e5:k≠5->l=[]:=λh5=>ar (o5 h5)
   have N:k≠6->ov=[]:=λh6=>ar (by have:=o6 h6;omega)
   rw[QcI,QgI];by_cases k2:k=2
   ·have:4≤Qut b:=by cases b <;> decide
    rw[eu k2,I oM,e5 oM,N oM];simp only[QdR,QfL];omega
   rw[eh k2];by_cases k3:k=3
   ·have:=QrA i
    rw[eu k3,I oM,e5 oM,N oM];simp only[QdR,QfL];omega
   rw[eh k3];by_cases k4:k=4
   ·rw [eu k4] at h
    have Z:Lib.validD t.data.toList=true:=by
     cases Z:Lib.validD t.data.toList with
     |true=>rfl
     |false=>rw[Z]at h;simp at h
    have:=Qkh Z;rw[eu k4,e5 oM,N oM];simp only[QdR,QfL];omega
   rw[eh k4]at h ⊢;by_cases k5:k=5
   ·rw [eu k5] at h ⊢
    have:=QlW l (q+1) hl h;rw[I oM,N oM];simp only[QfL];omega
   rw[eh k5]at h ⊢;by_cases k6:k=6
   ·rw [eu k6] at h ⊢
    have:=QlX none ok ov (q+1) ho h;rw[I oM,e5 oM];simp only[QdR];omega
   rw[eh k6,I oM,e5 oM,N oM];simp only[QdR,QfL];omega
theorem QlW:∀(l:List Val) (q:Nat),QkR l->Qd8 l q=0->QdR l<=7*QfC l
 |[],q,_,_=>by simp[QdR]
 | d :: r,q,hw,h=>by
   rw[Qd8]at h;obtain⟨hd,N⟩:=hw;by_cases I:Qda d q=0
   ·rw [eh (by simp [I])] at h
    have h1:=Qig d q hd I;have h2:=QlW r q N h;rw[QdR,QfC];omega
   rw[eu I]at h;exact absurd h I
theorem QlX:∀(p:Option ByteArray) (ks:List ByteArray) (l:List Val) (q:Nat),QkR l->QhA p ks l q=0->QfL ks l<=7*Qfl ks l
 |p,ks,[],q,_,_=>by simp[QfL]
 | p,ks,d :: r,q,hw,h=>by
   rw[QhA]at h;obtain⟨hd,N⟩:=hw;split at h
   .cases h
   rename_i hv;split at h
   .cases h
   by_cases I:Qda d q=0
   ·rw [eh (by simp [I])] at h
    have h1:=Qig d q hd I;have h2:=QlX _ ks.tail r q N h;have Z:=Qkh (s:=ks.headD ByteArray.empty) (by simpa using hv);rw[QfL,Qfl];omega
   rw[eu I]at h;exact absurd h I
end
theorem okV.cnt{v:Val}(h:okV v):QcI v<=7168:=by
 have h1:=Qig v 1 h.1 h.may;have h2:=h.2;unfold QcP at h2;split at h2
 .exact absurd h2 (by assumption)
 split at h2
 .cases h2
 split at h2
 .cases h2
 omega
theorem QaE(w:World)(v:Val)(sl so:Sl):Calls prog 204 #[QbV v sl so] w λe w'=>e=.returned (.bool (Qd9 v))/\Ext w w':=by
 obtain⟨k,b,i,t,l,I,ov⟩:=v;show Calls _ _ #[.agg #[.int .i64 k,.bool b,.int .i64 i,.string t,.slice sl.a l.length sl.c,.slice so.a I.length so.c]] _ λe w'=>e=.returned (.bool (k==0 && !b&&i==0&&t.size==0&&l.length==0&&I.length==0))/\Ext w w'
 by_cases hk:k=0
 rotate_left
 ·have gk:(k == 0)=false:=ev.2 hk
  go_in;go_wp2_with fail;go_ret;exact⟨by simp[hk],(fI w).alloc _ _⟩
 subst hk;by_cases hb:b=true
 ·subst hb
  go_in;go_wp2_with fail;go_ret;exact⟨sM,(fI w).alloc _ _⟩
 obtain rfl:b=false:=by simpa using hb
 by_cases hi:i=0
 rotate_left
 ·have gi:(i == 0)=false:=ev.2 hi
  go_in;go_wp2_with fail;go_ret;exact⟨by simp[hi],(fI w).alloc _ _⟩
 subst hi;by_cases N:t.size=0
 rotate_left
 ·have gt:=Qbr N
  go_in;go_wp2_with fail;go_ret;exact⟨by simp[N],(fI w).alloc _ _⟩
 have gt:=Qa9 N;by_cases hl:l.length=0
 rotate_left
 ·have gl:((l.length:Int) == 0)=false:=ev.2 oM
  go_in;go_wp2_with fail;go_ret;exact⟨by simp[hl],(fI w).alloc _ _⟩
 have gl:((l.length:Int)==0)=true:=by rw[hl];rfl
 cases hz:decide (I.length=0)with
 | true=>
   have Z:I.length=0:=of_decide_eq_true hz;have go:((I.length:Int)==0)=true:=by rw[Z];rfl
   go_in;go_wp2_with fail;go_ret;exact⟨by simp[N,hl,Z],(fI w).alloc _ _⟩
 | false=>
   have Z:¬I.length=0:=of_decide_eq_false hz;have go:((I.length:Int)==0)=false:=ev.2 oM;go_in;go_wp2_with fail;go_ret;exact⟨by simp[Z],(fI w).alloc _ _⟩
end Go.Proofs.YtdiecmkpbadgjaaGreatDoor
