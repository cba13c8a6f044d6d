/- What the theorem needs of the texts KnP13, WV, CntV, MutZ: no condition of its own. -/
import Derived.Test.YtdiecmkpbadgjaaGreatDoorPqg
set_option linter.unusedVariables false
set_option linter.unusedSimpArgs false
set_option linter.unnecessarySimpa false
set_option maxRecDepth 100000
set_option maxHeartbeats 1000000
namespace Go.Proofs.YtdiecmkpbadgjaaGreatDoor
open Go.Proofs.Tryz
open Go.RowKit
abbrev kB1:ByteArray:=⟨#[98,47,49]⟩
variable{q:Nat}
theorem Qtt{n:Int}(I:q<=64):Qda (Qi0 n) q=0:=by
 rw[Qi0,Qda];rw[show Qb0 3 false n ByteArray.empty ([]:List Val).length ([]:List ByteArray).length=false by simp[Qb0]];rw[ev sM,ev oM];rfl
theorem Qpd{n:Int}(I : -9223372036854775808<=n)(h1:n<=9223372036854775807):QcP (Qi0 n)=0:=by
 have N:=Lib.itoa_length_le n I h1;unfold QcP;rw[ev (by simp[Qtt (n:=n) (q:=1) oN]),ev (by rw[Qi0,Qdv];decide),ev];rw[Qi0,QgI,ev oN,ez rfl];omega
theorem QuX(n:Int):wfV (Qi0 n):=by unfold Qi0 wfV;exact⟨rfl,by unfold QkR;trivial,by unfold QkR;trivial⟩
theorem QuE{n:Int}(I : -9223372036854775808<=n)(h1:n<=9223372036854775807):okV (Qi0 n):=⟨QuX n,Qpd I h1⟩
abbrev Qfg(k:ByteArray)(n:Int):Mu:=.mk 3 k ByteArray.empty n false zeroV false zeroV []
abbrev Qil(k:ByteArray):Mu:=.mk 2 k ByteArray.empty 0 false zeroV false zeroV []
theorem Qmk{kd:Int}{k tk:ByteArray}{i:Int}{I:Bool}{N:Val}{Z:Bool}{v:Val}(hb:QbJ kd k tk i I N Z v 0=true)(hk:QgF kd k tk I=true)(hw:I=true->QcP N=0)(hv:QhW kd Z=true->QcP v=0):QbP (.mk kd k tk i I N Z v [])=0:=by
 unfold QbP;rw[ev (by rw[Qa0,QaF];decide),QaS,show(([]:List Mu).length)=0 from rfl,hb,hk];rw[ev sM,ev oN,ev sM];rw[ev (λh=>by simp only[Bool.and_eq_true]at h;rw[hw h.1]at h;simp at h),ev (λh=>by simp only[Bool.and_eq_true]at h;rw[hv h.1]at h;simp at h),Qb5]
theorem Qj2:Qd9 zeroV=true:=oN
theorem QpL{k:ByteArray}{N:Int}{I:Bool}(h:Qci k=0)(h6:N≠6)(Z:k.size≠0):QgF N k ByteArray.empty I=true:=by
 unfold QgF;rw[ev h6,ev (λe=>Z e.2),h];rfl
theorem QrO{k:ByteArray}{n:Int}(h:Qci k=0)(I:k.size≠0):QbP (Qfg k n)=0:=
 Qmk (by simp[QbJ,Qj2]) (QpL h oN I) (λh=>by cases h) (λh=>by simp[QhW]at h)
theorem QrN{k:ByteArray}(h:Qci k=0)(I:k.size≠0):QbP (Qil k)=0:=
 Qmk (by simp[QbJ,Qj2]) (QpL h oN I) (λh=>by cases h) (λh=>by simp[QhW]at h)
variable{M:List Ent}
theorem Qqp{k:ByteArray}{n:Int}(h:Qci k=0)(I:k.size≠0):runM M (Qfg k n)=Qeb M k n:=by
 unfold runM;rw[ev (by simp[QrO h I]),stepM,ev oN,ev oN,ez rfl]
theorem mB:Qci kB1=0:=by decide +kernel
open Go.Maps Go.Shelf
structure WV where
 v:Val
 sl:Sl
 so:Sl
def WV.cells(x:WV):List Value:=[.int .i64 x.v.kind,.bool x.v.b,.int .i64 x.v.i,.string x.v.t,.slice x.sl.a x.v.l.length x.sl.c,.slice x.so.a x.v.ok.length x.so.c]
def QeF(xs:List WV):List Value:=xs.flatMap WV.cells
theorem Qff(x:WV)(xs:List WV):QeF (x::xs)=x.cells++QeF xs:=by simp[QeF]
theorem Qya(xs ys:List WV):QeF (xs++ys)=QeF xs++QeF ys:=by simp[QeF]
theorem Qne(xs:List WV)(y:WV):QeF (xs++[y])=QeF xs++y.cells:=by simp[QeF]
theorem WV.len(x:WV):x.cells.length=6:=rfl
theorem WV.one(x:WV):∀u∈x.cells,u.oneCell'=true:=by
 intro u hu;simp only[WV.cells,List.mem_cons,List.not_mem_nil,or_false]at hu;rcases hu with rfl|rfl|rfl|rfl|rfl|rfl<;>rfl
theorem Qxc(xs:List WV):∀u∈QeF xs,u.oneCell'=true:=λu hu=>by
 obtain⟨x,-,I⟩:=cG.1 hu;exact x.one u I
theorem QeG(xs:List WV):(QeF xs).length=xs.length*6:=by
 induction xs with
 |nil=>rfl
 |cons x xs ih=>rw[Qff,aj,ih,WV.len,aB];omega
theorem Qip:∀{xs:List WV} {i:Nat} {x:WV},xs[i]? = some x->∀c,c<6->(QeF xs)[i*6+c]? = x.cells[c]?
 |[],i,x,h,_,_=>by simp at h
 | y :: ys,0,x,h,c,hc=>by
   simp at h;subst h;rw[Qff,cC,aI,bp (by rw[WV.len];exact hc)]
 | y :: ys,i+1,x,h,c,hc=>by
   simp at h;rw[Qff,aM (by rw[WV.len];omega),WV.len,show(i+1)*6+c-6=i*6+c from oM];exact Qip h c hc
variable{w:World}{F:Nat->Prop}{s:Sl}
theorem Qsg{xs:List WV}(h:Rd w F 6 s xs.length (QeF xs)):∃b o,Qd5 F s xs.length b o/\∀j x,xs[j]? = some x->QaV w b (o+j*6) x.v x.sl x.so:=by
 obtain⟨b,o,h1,h2,Z⟩:=h;refine⟨b,o,h1,λj x N=>?_⟩;have I:∀c,c<6->∀u,x.cells[c]? = some u->w.cell? ⟨b,o+j*6+c,none⟩=some u:=λc I u hu=>by
  rw[bG];exact Z _ u (by rw[Qip N c I];exact hu)
 exact⟨I 0 oN _ rfl,I 1 oN _ rfl,I 2 oN _ rfl,I 3 oN _ rfl,I 4 oN _ rfl,I 5 oN _ rfl⟩
theorem Qvw{xs:List WV}{b o:Nat}(h:Qd5 F s xs.length b o)(hc:∀j x,xs[j]? = some x->QaV w b (o+j*6) x.v x.sl x.so):Rd w F 6 s xs.length (QeF xs):=by
 refine⟨b,o,h,QeG xs,λp u hu=>?_⟩;have hp:=(ai.1 hu).1;rw[QeG]at hp;obtain⟨j,c,rfl,I⟩:∃j c,p=j*6+c/\c<6:=⟨p/6,p%6,oM,oM⟩;obtain⟨x,Z⟩:∃x,xs[j]? = some x:=⟨_,ac oM⟩;have e:=hc _ _ Z;rw[Qip Z c I]at hu;rw[<-bG];have N:c=0\/c=1\/c=2\/c=3\/c=4\/c=5:=oM
 rcases N with rfl|rfl|rfl|rfl|rfl|rfl
 .exact e.c0.trans hu
 .exact e.c1.trans hu
 .exact e.c2.trans hu
 .exact e.c3.trans hu
 .exact e.c4.trans hu
 exact e.c5.trans hu
def wl(l:List Val)(c:Nat->Sl × Sl):List WV:=l.mapIdx λj d=>⟨d,(c j).1,(c j).2⟩
theorem QhX(l:List Val)(c:Nat->Sl × Sl):(wl l c).length=l.length:=by simp[wl]
theorem QvV(l:List Val)(c:Nat->Sl × Sl):(wl l c).map WV.v=l:=by
 unfold wl;apply bK;intro j;rw[au,db];cases l[j]?<;>rfl
variable{j:Nat}
theorem QuY{l:List Val}{c:Nat->Sl × Sl}{x:WV}(h:(wl l c)[j]? = some x):l[j]? = some x.v/\x.sl=(c j).1/\x.so=(c j).2:=by
 unfold wl at h;rw[db]at h;cases I:l[j]? with
 |none=>rw[I]at h;cases h
 |some d=>rw[I]at h;cases h;exact⟨rfl,rfl,rfl⟩
def Qwg:Val->List Val
 |.mk k _ _ _ l _ ov=>if k=5 then l else if k=6 then ov else[]
theorem Qxr(v:Val):Qdv v=1+Qb1 (Qwg v):=by
 obtain⟨k,b,i,t,l,Z,ov⟩:=v;unfold Qdv Qwg;dsimp only;by_cases I:k=5
 .rw [ez I,ez I]
 rw[ev I,ev I];by_cases N:k=6
 .rw [ez N,ez N]
 rw[ev N,ev N,Qb1]
structure OW(w:World)(base n:Nat)(s:Sl)(xs:List WV):Prop where
 own:w.ownsRow base 34 6 (.slice s.a xs.length s.c) xs.length (QeF xs)
 vals:∀x∈xs,RV w (Lt n) x.v x.sl x.so
theorem OW.nil(w:World)(base n:Nat):OW w base n Sl.none []:=⟨World.ownsRow_nil _ _ _ _,λx h=>by simp at h⟩
variable{w':World}
theorem OW.ext{base n:Nat}{xs:List WV}(h:OW w base n s xs)(N:Ext w w')(hn:n<=w):OW w' base n s xs:=
 ⟨Qab h.own (N.agree λb (h:Lt w.heap.size b)=>h) (λb I=>(Qad h.own I).2),λx Z=>(h.vals x Z).agree (N.agree λb (I:b<n)=>ab I hn)⟩
variable{s':Sl}
theorem OW.append{base n:Nat}{xs ys:List WV}(hn:n<=base)(hb:base<=w.heap.size)(h:OW w base n s xs)(hv:∀y∈ys,RV w (Lt n) y.v y.sl y.so)
  (I:w'.ownsRow base 34 6 (.slice s'.a (xs.length+ys.length) s'.c) (xs.length+ys.length) (QeF xs++QeF ys)) (a0:Wr w w' s.row):OW w' base n s' (xs++ys):=by
 have N:Agree (Lt n) w w':=a0.agree (λi (hi:i<n)=>oM) (λk hk (hF:k<n)=>by have:=(Qad h.own hk).1;omega);refine⟨by rw[aj,Qya];exact I,λx Z=>?_⟩;rcases aS.1 Z with Z|Z
 .exact (h.vals x Z).agree N
 exact(hv x Z).agree N
theorem Qm6(s:ByteArray)(p:Nat):(Utf8.decode s p).2<=4:=by
 rw[Lib.decode_at];unfold Lib.decodeN
 repeat' split
 all_goals simp
theorem Qna(r:Nat):1<=(Lib.encodeRune (r:Int)).length:=by
 have:=Lib.runeCells_le (r:Int);rw[Lib.runeCells_length]at this;exact this.1
theorem QnN(r:Nat):1<=(QcZ r).length:=by
 unfold QcZ;split
 .exact Qna r
 split<;>simp
theorem Qki(s:ByteArray):∀(f p:Nat),s.size<=p+f->Lib.validD (s.data.toList.drop p)=true->s.size-p<=4*(Qbo (Qbb s f p)).length
 |0,p,h,_=>oM
 | f+1,p,h,I=>by
   by_cases Z:s.size<=p
   .omega
   have hs:s.data.toList.length=s.size:=aR;have N:s.data.toList.drop p≠[]:=λe=>by
    have:=congrArg List.length e;rw[aA,hs]at this;simp at this;omega
   rw[Lib.validD_step _ N,Lib.decodeL_drop]at I;split at I
   .cases I
   rename_i hn;rw[ej]at I;have hd:Utf8.decode s p≠(65533,1):=λe=>hn (by rw[e];exact⟨rfl,rfl⟩)
   have h1:=Lib.width_pos s p;have h4:=Qm6 s p;have ih:=Qki s f (p+(Utf8.decode s p).2) oM I;rw[Qbb,ev Z,ev hd];have hq:(Qbo ((p,(Utf8.decode s p).1)::Qbb s f (p+(Utf8.decode s p).2))).length=(QcZ (Utf8.decode s p).1).length+(Qbo (Qbb s f (p+(Utf8.decode s p).2))).length:=by simp[Qbo]
   rw[hq];have:=QnN (Utf8.decode s p).1;omega
theorem Qkh{s:ByteArray}(h:Lib.validD s.data.toList=true):s.size+8<=4*(Qbf s).size:=by
 have h1:=Qki s s.size 0 oM (by rw[da];exact h);unfold Qbf;rw[ez h];show s.size+8<=4*((QdG s).toArray.size);rw[bm];unfold QdG Qdn;simp only[List.length_append,List.length_cons,List.length_nil];omega
theorem QrA(n:Int):1<=(Lib.itoa n).length:=by
 unfold Lib.itoa;have:∀u,1<=(Lib.decDigits u).length:=λu=>by
  rw[Lib.decDigits_length];unfold Lib.nDigits
  repeat' split
  all_goals omega
 split
 .rw [aB];omega
 exact this _
mutual
theorem Qig:∀(v:Val) (q:Nat),wfV v->Qda v q=0->QcI v<=7*QgI v
 | .mk k b i t l ok ov,q,hw,h=>by
   obtain⟨a0,hl,ho⟩:=hw;rw[Qda]at h;split at h
   .cases h
   rename_i hodd;split at h
   .cases h
   unfold Qb0 at hodd;split at hodd
   .exact absurd rfl hodd
   rename_i hk;simp only[Bool.or_eq_true,Bool.and_eq_true,bne_iff_ne,ne_eq,not_or,not_and,Decidable.not_not]at hodd;obtain⟨⟨⟨⟨o2,o3⟩,o4⟩,o5⟩,o6⟩:=hodd;have N:k≠4->t.size=0:=o4;have e5:k≠5->l=[]:=λh5=>av (o5 h5)
   have I:k≠6->ov=[]:=λh6=>av (by have:=o6 h6;omega)
   rw[QcI,QgI];by_cases k2:k=2
   ·have:4≤Qut b:=by cases b <;> decide
    rw[ez k2,N oM,e5 oM,I oM];simp only[QdR,QfL];omega
   rw[ev k2];by_cases k3:k=3
   ·have:=QrA i
    rw[ez k3,N oM,e5 oM,I oM];simp only[QdR,QfL];omega
   rw[ev k3];by_cases Z:k=4
   ·rw [ez Z] at h
    have hv:Lib.validD t.data.toList=true:=by
     cases hv:Lib.validD t.data.toList with
     |true=>rfl
     |false=>rw[hv]at h;simp at h
    have:=Qkh hv;rw[ez Z,e5 oM,I oM];simp only[QdR,QfL];omega
   rw[ev Z]at h ⊢;by_cases k5:k=5
   ·rw [ez k5] at h ⊢
    have:=QlW l (q+1) hl h;rw[N oM,I oM];simp only[QfL];omega
   rw[ev k5]at h ⊢;by_cases k6:k=6
   ·rw [ez k6] at h ⊢
    have:=QlX none ok ov (q+1) ho h;rw[N oM,e5 oM];simp only[QdR];omega
   rw[ev k6,N oM,e5 oM,I oM];simp only[QdR,QfL];omega
theorem QlW:∀(l:List Val) (q:Nat),QkR l->Qd8 l q=0->QdR l<=7*QfC l
 |[],q,_,_=>by simp[QdR]
 | d :: r,q,hw,h=>by
   rw[Qd8]at h;obtain⟨hd,N⟩:=hw;by_cases I:Qda d q=0
   ·rw [ev (by simp [I])] at h
    have h1:=Qig d q hd I;have h2:=QlW r q N h;rw[QdR,QfC];omega
   rw[ez I]at h;exact absurd h I
theorem QlX:∀(p:Option ByteArray) (ks:List ByteArray) (l:List Val) (q:Nat),QkR l->QhA p ks l q=0->QfL ks l<=7*Qfl ks l
 |p,ks,[],q,_,_=>by simp[QfL]
 | p,ks,d :: r,q,hw,h=>by
   rw[QhA]at h;obtain⟨hd,N⟩:=hw;split at h
   .cases h
   rename_i hv;split at h
   .cases h
   by_cases I:Qda d q=0
   ·rw [ev (by simp [I])] at h
    have h1:=Qig d q hd I;have h2:=QlX _ ks.tail r q N h;have Z:=Qkh (s:=ks.headD ByteArray.empty) (by simpa using hv);rw[QfL,Qfl];omega
   rw[ez I]at h;exact absurd h I
end
theorem okV.cnt{v:Val}(h:okV v):QcI v<=7168:=by
 have h1:=Qig v 1 h.1 h.may;have h2:=h.2;unfold QcP at h2;split at h2
 .exact absurd h2 (by assumption)
 split at h2
 .cases h2
 split at h2
 .cases h2
 omega
theorem QaE(w:World)(v:Val)(sl so:Sl):Calls prog 204 #[QbV v sl so] w λe w'=>e=.returned (.bool (Qd9 v))/\Ext w w':=by
 obtain⟨k,b,i,t,l,I,ov⟩:=v;show Calls _ _ #[.agg #[.int .i64 k,.bool b,.int .i64 i,.string t,.slice sl.a l.length sl.c,.slice so.a I.length so.c]] _ λe w'=>e=.returned (.bool (k==0 && !b&&i==0&&t.size==0&&l.length==0&&I.length==0))/\Ext w w'
 by_cases hk:k=0
 rotate_left
 ·have gk:(k == 0)=false:=eA.2 hk
  go_in;go_wp2_with fail;go_ret;exact⟨by simp[hk],(fQ w).alloc _ _⟩
 subst hk;by_cases hb:b=true
 ·subst hb
  go_in;go_wp2_with fail;go_ret;exact⟨sM,(fQ w).alloc _ _⟩
 obtain rfl:b=false:=by simpa using hb
 by_cases hi:i=0
 rotate_left
 ·have gi:(i == 0)=false:=eA.2 hi
  go_in;go_wp2_with fail;go_ret;exact⟨by simp[hi],(fQ w).alloc _ _⟩
 subst hi;by_cases N:t.size=0
 rotate_left
 ·have gt:=Qbr N
  go_in;go_wp2_with fail;go_ret;exact⟨by simp[N],(fQ w).alloc _ _⟩
 have gt:=Qa9 N;by_cases hl:l.length=0
 rotate_left
 ·have gl:((l.length:Int) == 0)=false:=eA.2 oM
  go_in;go_wp2_with fail;go_ret;exact⟨by simp[hl],(fQ w).alloc _ _⟩
 have gl:((l.length:Int)==0)=true:=by rw[hl];rfl
 cases hz:decide (I.length=0)with
 | true=>
   have Z:I.length=0:=of_decide_eq_true hz;have go:((I.length:Int)==0)=true:=by rw[Z];rfl
   go_in;go_wp2_with fail;go_ret;exact⟨by simp[N,hl,Z],(fQ w).alloc _ _⟩
 | false=>
   have Z:¬I.length=0:=of_decide_eq_false hz;have go:((I.length:Int)==0)=false:=eA.2 oM;go_in;go_wp2_with fail;go_ret;exact⟨by simp[Z],(fQ w).alloc _ _⟩
end Go.Proofs.YtdiecmkpbadgjaaGreatDoor
