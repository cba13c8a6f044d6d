/- What the theorem needs of the texts CmpA, LogP, Det, VSame, OvCom, OvComW, PutV, OvBack, OvBackW, OvX, HeldL, MuW, MuX, Nm: no condition of its own. -/
import Derived.Test.YtdiecmkpbadgjaaGreatDoorPnj
set_option linter.unusedVariables false
set_option linter.unusedSimpArgs false
set_option linter.unnecessarySimpa false
set_option maxRecDepth 100000
set_option maxHeartbeats 4000000
namespace Go.Proofs.YtdiecmkpbadgjaaGreatDoor
open Go.Proofs.Tryz
open Go.RowKit
def QkV(b:Bool):Int:=if b then 1 else 0
theorem QoE(a b:Bool):Qcj (QkV a) (QkV b)=Qjg a b:=by cases a<;>cases b<;>rfl
structure BxS(w:World)(b b':Bool)(W:World):Prop where
 ext:Ext w W
 b0:∃v0 v2 v3 v4 v5,Blk W w.heap.size 34 #[v0,.bool b,v2,v3,v4,v5]
 b1:∃v0 v2 v3 v4 v5,Blk W (w.heap.size+1) 34 #[v0,.bool b',v2,v3,v4,v5]
variable{w W:World}
theorem BxS.drew{b I:Bool}(h:BxS w b I W):BxS w b I W.drew:=by
 obtain⟨h1,⟨a0,a2,a3,a4,a5,Z⟩,⟨c0,c2,c3,c4,c5,N⟩⟩:=h;exact⟨h1.drew,⟨_,_,_,_,_,Z.ext ((fI W).drew)⟩,⟨_,_,_,_,_,N.ext ((fI W).drew)⟩⟩
theorem BxS.at0{b N:Bool}(h:BxS w b N W):∃u,W.cell? ⟨w,2,none⟩=some u/\W.frozen? ⟨w,2,none⟩=false/\w.heap.size<W.heap.size:=by
 obtain⟨h1,⟨a0,Z,a3,a4,a5,I⟩,-⟩:=h;exact⟨_,I.cell 2,I.frozen 2,I.lt⟩
theorem BxS.at1{b N:Bool}(h:BxS w b N W):∃u,W.cell? ⟨w+1,2,none⟩=some u/\W.frozen? ⟨w+1,2,none⟩=false/\w.heap.size+1<W.heap.size:=by
 obtain⟨h1,-,⟨a0,Z,a3,a4,a5,I⟩⟩:=h;exact⟨_,I.cell 2,I.frozen 2,I.lt⟩
theorem BxS.set0{b I:Bool}(h:BxS w b I W)(v:Value):BxS w b I (W.setCell ⟨w,2,none⟩ v):=by
 obtain⟨h1,⟨a0,a2,a3,a4,a5,Z⟩,⟨c0,c2,c3,c4,c5,N⟩⟩:=h;exact⟨h1.setCell (p:=⟨w,2,none⟩) (ao _) v,⟨_,_,_,_,_,Z.QbH 2 v⟩,⟨_,_,_,_,_,((fQ (λb=>b=w.heap.size) W).set (p:=⟨w,2,none⟩) (.inr rfl) v).blk N oM⟩⟩
theorem BxS.set1{b I:Bool}(h:BxS w b I W)(v:Value):BxS w b I (W.setCell ⟨w+1,2,none⟩ v):=by
 obtain⟨h1,⟨a0,a2,a3,a4,a5,Z⟩,⟨c0,c2,c3,c4,c5,N⟩⟩:=h;exact⟨h1.setCell (p:=⟨w+1,2,none⟩) sM v,⟨_,_,_,_,_,((fQ (λb=>b=w.heap.size+1) W).set (p:=⟨w+1,2,none⟩) (.inr rfl) v).blk Z oM⟩,⟨_,_,_,_,_,N.QbH 2 v⟩⟩
theorem BxS.ends{b b':Bool}(h:BxS w b b' W)(v I:Value):((W.setCell ⟨w,2,none⟩ v).setCell ⟨w+1,2,none⟩ I).cell? ⟨w,2,none⟩=some v/\((W.setCell ⟨w,2,none⟩ v).setCell ⟨w+1,2,none⟩ I).cell? ⟨w+1,2,none⟩=some I:=by
 obtain⟨h1,⟨a0,a2,a3,a4,a5,ha⟩,-⟩:=h.set0 v;obtain⟨-,⟨b0,b2,b3,b4,b5,hb⟩,⟨c0,c2,c3,c4,c5,hc⟩⟩:=h;have N:=((fQ (λb=>b=w.heap.size) W).set (p:=⟨w,2,none⟩) (.inr rfl) v).blk hc oM;have Z:=hb.QbH 2 v;have a1:=((fQ (λb=>b=w.heap.size+1) (W.setCell ⟨w,2,none⟩ v)).set (p:=⟨w+1,2,none⟩) (.inr rfl) I).blk Z oM;exact⟨a1.cell 2,(N.QbH 2 I).cell 2⟩
theorem Qqj(w:World)(b:Bool):Calls prog 104 #[.bool b] w λe w'=>e=.returned (.int .i64 (QkV b))/\w=w':=Qsf w b
theorem Qs0(m:Nat):QqU m:=by
 induction m with
 |zero=>intro d y hd;have:=Val.Qb6 d;omega
 |succ m ih=>
 intro x y hd w sl so sl' so' h h';have hv:=λ(W:World) (N:Ext w W)=>Qrw ih hd ((h.agree (N.agree λ_ h=>h)).mono λi hi=>ab hi N.size) ((h'.agree (N.agree λ_ h=>h)).mono λi hi=>ab hi N.size)
 have hm:=λ(W:World) (N:Ext w W)=>Qrv ih hd ((h.agree (N.agree λ_ h=>h)).mono λi hi=>ab hi N.size) ((h'.agree (N.agree λ_ h=>h)).mono λi hi=>ab hi N.size)
 clear ih h h' hd;obtain⟨k,b,i,t,l,ok,ov⟩:=x;obtain⟨k',b',i',t',l',Z,a7⟩:=y;obtain⟨HV,HM⟩:=Yb (show ∀(W:World) (N:Ext w W),Calls prog 107 #[.slice sl.a l.length sl.c,.slice sl'.a l'.length sl'.c,.func (.func 74) #[] #[]] W (QbN (cmpL l l') W)from hv) (show ∀(W:World) (N:Ext w W),Calls prog 108 #[.slice so.a ok.length so.c,.slice so'.a Z.length so'.c,.func (.func 109) #[] #[]] W (QbN (Qe5 ov ok Z a7) W)from hm);show Calls _ _ #[.agg #[.int .i64 k,.bool b,.int .i64 i,.string t,.slice sl.a l.length sl.c,.slice so.a ok.length so.c],.agg #[.int .i64 k',.bool b',.int .i64 i',.string t',.slice sl'.a l'.length sl'.c,.slice so'.a Z.length so'.c]] _ _;have b5:Qbq (.mk k b i t l ok ov) (.mk k' b' i' t' l' Z a7)=if k≠k' then Qcj k k' else if k=2 then Qjg b b' else if k=3 then Qcj i i' else if k=4 then Qbn t t' else if k=5 then cmpL l l' else if k=6 then Qe5 ov ok Z a7 else 0:=by
  simp only[Qbq,Val.kind,Val.b,Val.i,Val.t,Val.l,Val.ok,Val.ov];rfl
 rw[b5];clear b5 hv hm;have a9:Ext w ((w.alloc (.cells #[.int .i64 k,.bool b,.int .i64 i,.string t,.slice sl.a l.length sl.c,.slice so.a ok.length so.c] 34)).alloc (.cells #[.int .i64 k',.bool b',.int .i64 i',.string t',.slice sl'.a l'.length sl'.c,.slice so'.a Z.length so'.c] 34)):=((fI w).alloc _ _).alloc _ _;obtain⟨I,HK,HI,HT,HR⟩:=Yf a9 (λW=>Qgr W k k') (λW a b=>QfM W a b) (λW=>QcB W t t') (λW (b:Bool)=>Qqj W b);clear a9;by_cases a6:k=k'
 ·subst a6
  have b9:(k != k)=false:=sM
  rw[eh sM];by_cases h2:k=2
  ·subst h2
   rw[eu rfl,<-QoE];clear I;go_in;go_wp2_with fail;generalize a8:World.alloc (World.alloc _ _) _=W0;obtain⟨b4,b8,b0,b7⟩:=Qas w _ _ _ _ W0 a8;clear a8;have b6:BxS w b b' W0:=⟨b4,⟨_,_,_,_,_,b0⟩,⟨_,_,_,_,_,b7⟩⟩;have a1:=hY (show ∀W,BxS w b b' W->W.cell? ⟨w.heap.size,1,none⟩=some (.bool b)/\W.cell? ⟨w.heap.size+1,1,none⟩=some (.bool b') fromλW N=>by
    obtain⟨-,⟨a0,a2,a3,a4,a5,ha⟩,⟨c0,c2,c3,c4,c5,hc⟩⟩:=N;exact⟨ha.cell 1,hc.cell 1⟩)
   have b3:=hY b6;clear b4 b0 b7 b6 b8;refine eA (S:=(λw'=>BxS w b b' w')) kM ((b3.o.drew)) (λhHeld=>?_);refine Qaf 0 (some 27) a1 hHeld ?_;refine Qaf 1 (some 28) a1 hHeld ?_;refine Qaf 3 (some 30) a1 hHeld ?_;refine Qaf 4 (some 31) a1 hHeld ?_;refine Qac (i:=2) kM rfl (by rfl) (λK hK=>?_);go_simp
   (refine(HR.o _ b).mono ?_;rintro e w1 ⟨rfl,rfl⟩)
   refine hK.out _ _ (hHeld) (λhHeld=>?_);clear hK K
   try go_frame
   refine Qaf 6 (some 33) a1 hHeld ?_;refine Qac (i:=5) kM rfl (by rfl) (λK hK=>?_);go_simp
   (refine(HR.o _ b').mono ?_;rintro e w1 ⟨rfl,rfl⟩)
   refine hK.out _ _ (hHeld) (λhHeld=>?_);clear hK K
   try go_frame
   obtain⟨u7,c7,f7,l7⟩:=hHeld.at0;refine Qac (i:=7) kM rfl (by rfl) (λK hK=>?_);go_simp
   skip
   refine hK.out _ _ (hHeld.set0 _) (λhHeld=>?_);clear hK K
   try go_frame
   refine Qaf 8 (some 34) a1 hHeld ?_;obtain⟨u9,c9,f9,l9⟩:=hHeld.at1;refine Qac (i:=9) kM rfl (by rfl) (λK hK=>?_);go_simp
   skip
   refine hK.out _ _ (hHeld.set1 _) (λhHeld=>?_);clear hK K
   try go_frame
   refine eF kM ?_ _;have HH:=hY hHeld;obtain⟨q0,q1⟩:=b3.o.ends (.int .i64 (QkV b)) (.int .i64 (QkV b'));clear hHeld;generalize (W0.setCell ⟨w.heap.size,2,none⟩ (.int .i64 (QkV b))).setCell ⟨w.heap.size+1,2,none⟩ (.int .i64 (QkV b'))=W9 at *;go_wp2_with fail;refine(HI.o _ _ _).mono ?_;rintro e w2 ⟨rfl,rfl⟩;go_wp2_with fail;go_ret;exact⟨rfl,HH.o.ext⟩
  have d0:(k==2)=false:=ev.2 h2;by_cases h3:k=3
  ·subst h3
   rw[eh h2,eu rfl];clear h2;go_in;go_wp2_with fail;refine(HI.o _ _ _).mono ?_;rintro e w2 ⟨rfl,rfl⟩;go_wp2_with fail;go_ret;exact⟨rfl,I.o⟩
  have c8:(k==3)=false:=ev.2 h3;by_cases h4:k=4
  ·subst h4
   rw[eh h2,eh h3,eu rfl];clear h2 h3;go_in;go_wp2_with fail;refine(HT.o _).mono ?_;rintro e w2 ⟨rfl,rfl⟩;go_wp2_with fail;go_ret;exact⟨rfl,I.o⟩
  have c1:(k==4)=false:=ev.2 h4;rw[eh h2,eh h3,eh h4];by_cases h5:k=5
  ·subst h5
   rw[eu rfl];clear h2 h3 h4;go_in;go_wp2_with fail;refine(HV.o _ I.o).mono ?_;rintro e w2 ⟨rfl,hx⟩;have HX:=hY hx;clear hx;go_wp2_with fail;go_ret;exact⟨rfl,I.o.trans HX.o⟩
  have c6:(k==5)=false:=ev.2 h5;rw[eh h5];by_cases h6:k=6
  ·subst h6
   rw[eu rfl];clear h2 h3 h4 h5;go_in;go_wp2_with fail;refine(HM.o _ I.o).mono ?_;rintro e w2 ⟨rfl,hx⟩;have HX:=hY hx;clear hx;go_wp2_with fail;go_ret;exact⟨rfl,I.o.trans HX.o⟩
  have d3:(k==6)=false:=ev.2 h6;rw[eh h6];clear h2 h3 h4 h5 h6;go_in;go_wp2_with fail;go_ret;exact⟨rfl,I.o⟩
 have b9:(k != k')=true:=eQ.2 a6;rw[eu a6];clear a6;go_in;go_wp2_with fail;refine(HK.o _).mono ?_;rintro e w2 ⟨rfl,rfl⟩;go_wp2_with fail;go_ret;exact⟨rfl,I.o⟩
def Holds(keep f:Nat)(xs ring:List Value):Prop:=∀j,j<xs.length->xs.length<=j+keep->ring[(f+j)%keep]? = xs[j]?
def pk(i:Int):Nat:=(IntKind.u64.wrap i%5).toNat
variable{sl so sl' so':Sl}
theorem QaV.det{b o:Nat}{d d':Val}(h:QaV w b o d sl so)(I:QaV w b o d' sl' so') :
  d.kind=d'.kind/\d.b=d'.b/\d.i=d'.i/\d.t=d'.t/\d.l.length=d'.l.length/\d.ok.length=d'.ok.length/\sl=sl'/\so=so':=by
 have e0:=h.c0.symm.trans I.c0;have e1:=h.c1.symm.trans I.c1;have Z:=h.c2.symm.trans I.c2;have e3:=h.c3.symm.trans I.c3;have N:=h.c4.symm.trans I.c4;have e5:=h.c5.symm.trans I.c5;obtain⟨a,c⟩:=sl;obtain⟨a',c'⟩:=sl';obtain⟨f,g⟩:=so;obtain⟨f',g'⟩:=so';simp only[Option.some.injEq,Value.int.injEq,Value.bool.injEq,Value.string.injEq,Value.slice.injEq,true_and]at e0 e1 Z e3 N e5;obtain⟨rfl,N,rfl⟩:=N;obtain⟨rfl,e5,rfl⟩:=e5;exact⟨e0,e1,Z,e3,N,e5,rfl,rfl⟩
variable{F F':Nat->Prop}{s:Sl}
theorem Qd5.same{n b o N o':Nat}(h:Qd5 F s n b o)(Z:Qd5 F' s n N o')(I:0<n):b=N/\o=o':=by
 have e:=(h.eq I).1.symm.trans (Z.eq I).1;simpa using e
theorem Val.QlZ{d d':Val}(h1:d.kind=d'.kind)(h2:d.b=d'.b)(h3:d.i=d'.i)(Z:d.t=d'.t)(h5:d.l=d'.l)(N:d.ok=d'.ok)(I:d.ov=d'.ov):d=d':=by
 cases d;cases d';simp only[Val.kind,Val.b,Val.i,Val.t,Val.l,Val.ok,Val.ov]at *
 subst_vars;rfl
theorem RV.det(m:Nat):∀{d d':Val} {sl so:Sl},SizeOf.sizeOf d<=m->RV w F d sl so->RV w F' d' sl so->d.l.length=d'.l.length->d.ok.length=d'.ok.length->d.l=d'.l/\d.ok=d'.ok/\d.ov=d'.ov:=by
 induction m with
 |zero=>intro d _ _ _ hm;have:=Val.Qb6 d;omega
 | succ m ih=>
   intro d d' sl so hm h h' a1 a0;cases h with
   |@mk kind vb vi vt l ok ov _ _ bl fl bo fo cl co hl ho hov el rl ek eo ro=>
   cases h' with
   |@mk kind' vb' vi' vt' l' ok' ov' _ _ bl' fl' bo' fo' cl' co' hl' ho' hov' el' rl' ek' eo' ro'=>
   have a2:∀{b o:Nat} {x N:Val} {s s' t t':Sl},SizeOf.sizeOf x<=m->QaV w b o x s t->QaV w b o N s' t'->RV w F x s t->RV w F' N s' t'->x=N:=λhs c c' r r'=>by
    obtain⟨h1,h2,h3,h4,h5,h6,rfl,rfl⟩:=c.det c';obtain⟨k1,k2,k3⟩:=ih hs r r' h5 h6;exact Val.QlZ h1 h2 h3 h4 k1 k2 k3
   simp only[Val.l,Val.ok,Val.ov]at a1 a0 ⊢;refine⟨List.ext_getElem? λj=>?_,bI λj=>?_,bI λj=>?_⟩
   ·by_cases hj:j<l.length
    ·obtain ⟨x,Z⟩:∃ x,l[j]? = some x:=⟨_,ac hj⟩
     obtain⟨N,I⟩:∃N,l'[j]? = some N:=⟨_,ac oM⟩;obtain⟨rfl,rfl⟩:=hl.same (a1▸hl') oM;rw[Z,I,a2 (by have:=Val.QtM (k:=kind) (b:=vb) (i:=vi) (t:=vt) (ok:=ok) (ov:=ov) Z;omega) (el j x Z) (el' j N I) (rl j x Z) (rl' j N I)]
    rw[aJ oM,aJ oM]
   ·by_cases hj:j<ok.length
    ·obtain ⟨x,Z⟩:∃ x,ok[j]? = some x:=⟨_,ac hj⟩
     obtain⟨N,I⟩:∃N,ok'[j]? = some N:=⟨_,ac oM⟩;obtain⟨rfl,rfl⟩:=ho.same (a0▸ho') oM;have e:=(ek j x Z).1.symm.trans (ek' j N I).1;simp only[Option.some.injEq,Value.string.injEq]at e;rw[Z,I,e]
    rw[aJ oM,aJ oM]
   by_cases hj:j<ov.length
   ·obtain ⟨x,Z⟩:∃ x,ov[j]? = some x:=⟨_,ac hj⟩
    obtain⟨N,I⟩:∃N,ov'[j]? = some N:=⟨_,ac oM⟩;obtain⟨rfl,rfl⟩:=ho.same (a0▸ho') oM;rw[Z,I,a2 (by have:=Val.QtN (k:=kind) (b:=vb) (i:=vi) (t:=vt) (l:=l) (ok:=ok) Z;omega) (eo j x Z) (eo' j N I) (ro j x Z) (ro' j N I)]
   rw[aJ oM,aJ oM]
variable{xs ys:List LE}
theorem ES.det(h:ES w F s xs)(h':ES w F' s ys)(hl:xs.length=ys.length):xs.map LE.ent=ys.map LE.ent:=by
 refine bI λj=>?_
 rw[au,au];by_cases hj:j<xs.length
 ·obtain ⟨x,Z⟩:∃ x,xs[j]? = some x:=⟨_,ac hj⟩
  obtain⟨y,N⟩:∃y,ys[j]? = some y:=⟨_,ac oM⟩;obtain⟨b,o,ha,-,-,-,k1,c1,r1,-⟩:=h.at Z;obtain⟨b',o',I,-,-,-,k2,c2,r2,-⟩:=h'.at N;obtain⟨rfl,rfl⟩:b=b'/\o=o':=by have:=ha.symm.trans I;simpa using this
  have e:=k1.symm.trans k2;simp only[Option.some.injEq,Value.string.injEq]at e;obtain⟨xk,xv,a1,a2⟩:=x;obtain⟨yk,yv,a0,a3⟩:=y;obtain⟨h1,h2,h3,h4,h5,h6,e7,e8⟩:=c1.det c2;dsimp only at *;subst e7 e8;obtain⟨q1,q2,q3⟩:=RV.det _ (ao _) r1 r2 h5 h6;rw[Z,N];simp only[Option.map_some,LE.ent,e,Val.QlZ h1 h2 h3 h4 q1 q2 q3]
 rw[aJ oM,aJ oM]
theorem IsN.heights{h I:Nat}{t:PT h}{N:PT I}(a:IsN w F h t)(b:IsN w F' I N)(e:addr h t=addr I N):h=I:=by
 obtain⟨-,_,_,_,_,-,h1⟩:=a.cells;obtain⟨-,_,_,_,_,-,h2⟩:=b.cells;rw[e]at h1;have:=h1.c7.2.2.1.symm.trans h2.c7.2.2.1;simp only[Option.some.injEq,Value.int.injEq,true_and]at this;omega
theorem IsN.det{w:World}{F F':Nat->Prop}:∀{h:Nat} {t t':PT h},IsN w F h t->IsN w F' h t'->addr h t=addr h t'->t=t'
 | 0,(a,es),(a',es'),⟨_,s,xs,h2,h3,Z⟩,⟨_,s',xs',h2',h3',I⟩,e=>by
   have e:a=a':=e;subst e;have c:=(h2.c7.1).symm.trans h2'.c7.1;simp only[Option.some.injEq,Value.slice.injEq]at c;obtain⟨sa,sc⟩:=s;obtain⟨a1,a2⟩:=s';dsimp only at c;obtain⟨rfl,hl,rfl⟩:=c;have:=h3.det h3' hl;have Z:xs.map LE.ent=es:=Z;have I:xs'.map LE.ent=es':=I;rw[<-Z,<-I,this]
 | h+1,(a,ks),(a',N),⟨_,s,h2,h3,Z⟩,⟨_,s',h2',h3',I⟩,e=>by
   have e:a=a':=e;subst e;have c:=(h2.c7.2.1).symm.trans h2'.c7.2.1;simp only[Option.some.injEq,Value.slice.injEq]at c;obtain⟨sa,sc⟩:=s;obtain⟨a1,a2⟩:=s';dsimp only at c;obtain⟨rfl,hl,rfl⟩:=c;have Z:∀k∈ks,IsN w F h k:=Z;have I:∀k∈N,IsN w F' h k:=I;have a0:ks=N:=by
    refine bI λj=>?_
    by_cases hj:j<ks.length
    ·obtain ⟨x,hx⟩:∃ x,ks[j]? = some x:=⟨_,ac hj⟩
     obtain⟨y,hy⟩:∃y,N[j]? = some y:=⟨_,ac oM⟩;obtain⟨b,o,ha,-,-,-,k1⟩:=Rd.QcV h3 hx;obtain⟨b',o',a3,-,-,-,k2⟩:=Rd.QcV h3' hy;obtain⟨rfl,rfl⟩:b=b'/\o=o':=by have:=ha.symm.trans a3;simpa using this
     have e:=k1.symm.trans k2;simp only[Option.some.injEq,Value.pointer.injEq,Addr.mk.injEq,and_true]at e;rw[hx,hy,IsN.det (Z x (ap hx)) (I y (ap hy)) e]
    rw[aJ oM,aJ oM]
   rw[a0]
variable{T T':RT}
theorem IsT.det(h:IsT w F T)(I:IsT w F' T')(e:QaK T=QaK T'):T=T':=by
 match T,T',h,I,e with
 |none,none,_,_,_=>rfl
 |none,some ⟨_,_⟩,_,_,e=>simp[QaK]at e
 |some ⟨_,_⟩,none,_,_,e=>simp[QaK]at e
 | some ⟨n,t⟩,some ⟨n',t'⟩,h,I,e=>
   have e:addr n t=addr n' t':=by simpa[QaK]using e
   have h:IsN w F n t:=h;have I:IsN w F' n' t':=I;have N:=h.heights I e;subst N;rw[h.det I e]
theorem Qdk{x y:Val}(h:RV w (Lt w) x sl so)(h':RV w (Lt w) y sl' so') :
  Calls prog 49 #[QbV x sl so,QbV y sl' so'] w λe w'=>e=.returned (.bool (decide (Qbq x y=0)))/\Ext w w':=by
 have hc:∀W,Ext w W->Calls prog 74 #[QbV x sl so,QbV y sl' so'] W (QbN (Qbq x y) W):=λW Z=>
  Qs0 _ x y (ao _) W _ _ _ _ ((h.agree (Z.agree λ_ h=>h)).mono λi hi=>ab hi Z.size) ((h'.agree (Z.agree λ_ h=>h)).mono λi hi=>ab hi Z.size)
 have HC:=hY hc;have hb:(Qbq x y==0)=decide (Qbq x y=0):=by by_cases h:Qbq x y=0<;>simp[h]
 have HB:=hY hb;clear hc h h' hb;obtain⟨k,b,i,t,l,ok,ov⟩:=x;obtain⟨k',b',i',t',l',a1,a3⟩:=y;go_in;go_wp2_with fail;generalize N:World.alloc (World.alloc _ _) _=W0;obtain⟨I,a2,a0,a4⟩:=Qas w _ _ _ _ W0 N;clear N;refine(HC.o _ I).mono ?_;rintro e w1 ⟨rfl,hx⟩;go_wp2_with fail;go_ret;exact⟨rfl,I.trans hx⟩
theorem IsT.leads(h:IsT w F T){p:Option Addr}(I:QaK T=.pointer p):QsP w p:=by
 intro a Z;subst Z
 match T,h,I with
 |none,_,I=>simp[QaK]at I
 | some ⟨n,t⟩,h,I=>
   have h:IsN w F n t:=h;obtain⟨-,_,_,_,_,-,N⟩:=h.cells;have e:a=⟨addr n t,0,none⟩:=by simpa[QaK,ptr]using I.symm
   subst e;exact⟨_,_,N⟩
open Go.Maps Go.Shelf
variable{C:AL SV}
theorem QrI{mb:Option Nat}(hm:Qbp W mb C){k:ByteArray}(hk:k.size<=maxLen) :
  (Instr.lookup 181 (.map mb) (.string k) false).run prog W=.ok (Qiw C k).val W:=by
 cases mb with
 | none=>
   have hC:C=[]:=hm;subst hC;rw[Maps.look_nil false Qe2 underlying181 (Qgd W) (QtW k hk)];rfl
 | some b=>
   obtain⟨es,a0,hb,F,hs,hD⟩:=hm;rcases Maps.fit_look false Qe2 underlying181 (Qgd W) hb F (QtW k hk)with⟨I,_,N⟩ |⟨e0,y,_,_,I,Z,N,_⟩
   ·rw [I]
    have h1:=N .nil;rw[<-hD,Qgh]at h1;unfold Qiw;cases hg:QaZ C k with
    |none=>rfl
    |some s=>rw[hg]at h1;cases h1
   rw[I];have h1:=N .nil;rw[<-hD,Qgh]at h1;have h2:=N (.held (.bool true));rw[<-hD,Qgh]at h2;unfold Qiw;cases hg:QaZ C k with
   |none=>rw[hg]at h1 h2;rw[<-h1]at h2;cases h2
   | some s=>
     rw[hg]at h1;obtain⟨y1,y2⟩:=y;dsimp only at h1;rw[<-h1]at Z;rw[QeP Z];rfl
theorem Qld(hC:Qay C){ss:List (List UInt8)}(hp:ss.Perm (strKeys (mapA SV.val C))):(ss.mergeSort λx y=>decide (x<=y)).map encStr=C.map λp=>.string p.1:=by
 rw[QdL]at hp;have hm:(ss.mergeSort λx y=>decide (x<=y)).Perm ss:=List.mergeSort_perm ..;have Z:(C.map Prod.fst).Pairwise λx y=>klt x y=true:=bO.2 hC
 have hb:((ss.mergeSort λx y=>decide (x<=y)).map QbL).map QaP=ss.mergeSort λx y=>decide (x<=y):=Qgl _
 have I:((ss.mergeSort λx y=>decide (x<=y)).map QbL).Perm (C.map Prod.fst):=by
  have h1:=((hm.trans hp).map QbL);rw[cA]at h1;exact h1
 have N:((ss.mergeSort λx y=>decide (x<=y)).map QbL).Nodup:=I.nodup_iff.2 (Z.imp λ{a b} h e=>Qpy h e);have he:(ss.mergeSort λx y=>decide (x<=y)).map QbL=C.map Prod.fst:=QiP (QgT (by rw[hb];exact Qhx ss) N) Z λk=>I.mem_iff
 have h2:(ss.mergeSort λx y=>decide (x<=y)).map encStr=((ss.mergeSort λx y=>decide (x<=y)).map QbL).map .string:=by rw[cA];rfl
 rw[h2,he,cA];rfl
theorem Qp3{base e size n:Nat}{v:Value}{xs:List Value}(h:w.ownsRow base e size v n xs):∃s:Sl,v=.slice s.a n s.c:=by
 rcases h.2 with⟨rfl,rfl⟩ |⟨g,I,N,rfl,r⟩
 .exact ⟨Sl.none,rfl⟩
 exact⟨⟨some ⟨g,0,none⟩,I⟩,rfl⟩
def CB(F:Nat->Prop)(w wr:World)(b:Nat):Prop:=(F b\/w.heap.size+2<=b)/\b<wr.heap.size
variable{v0:Value}
theorem Qrb{w w2 wr w7 I:World}{N:Option Addr}(hz:w.heap.size+2<=wr.heap.size)(hF:∀b,F b->b<w.heap.size)(Z:Ext wr w7)(h8:Ext w7 I)(hT:IsT I (Up (CB F w wr) w7 I) T')(hp:QaK T'=.pointer N)(hb:Blk wr (w.heap.size+1) 48 #[v0])
  (hs:Sb (λc=>c=w.heap.size+1) w2 wr) :
  IsT (I.setCell ⟨w+1,0,none⟩ (.pointer N)) (CB F w (I.setCell ⟨w+1,0,none⟩ (.pointer N))) T'/\Blk (I.setCell ⟨w+1,0,none⟩ (.pointer N)) (w.heap.size+1) 48 #[QaK T']/\Sb (λc=>c=w.heap.size+1) w2 (I.setCell ⟨w+1,0,none⟩ (.pointer N)):=by
 have s7:=Z.size;have s8:=h8.size;refine⟨(hT.agree (fO I ⟨w+1,0,none⟩ _ ?_)).mono λi hi=>?_,?_,(hs.ext (Z.trans h8)).set (p:=⟨w+1,0,none⟩) (.inr rfl) _⟩
 ·rintro (hf | hf)
  ·rcases hf.1 with h | h
   .have:=hF _ h;dsimp only at this;omega
   dsimp only at h;omega
  have:w7.heap.size<=w.heap.size+1:=hf.1;omega
 ·rw [CB,eC]
  rcases hi with hi|hi
  .exact ⟨hi.1,by have:=hi.2;omega⟩
  exact⟨.inr (by have:=hi.1;omega),hi.2⟩
 rw[hp];exact(hb.ext (Z.trans h8)).QbH 0 _
def Qe7(H:Nat->Prop)(O:Nat)(d:OD)(w:World)(e:Ending)(w':World):Prop:=
 ∃T':RT,e=.returned (Qao T')/\OkR T'/\IsT w' (Up (OvF H w O d) w w') T'/\Qaa T'=Qfw (Qaa d.T) (Qhe d.C) (Qaa d.T)/\Nw w w'/\(idleC (Qaa d.T) (Qhe d.C)->T'=d.T)
variable{j:Nat}
theorem Qs3{B:List Ent}{p:ByteArray × SV}(h:C[j]? = some p)(t:List Ent):Qfw B ((Qhe C).drop j) t=Qfw B ((Qhe C).drop (j+1)) (match p.2.opt with
  |some v=>if(Qaq B p.1).any (λI=>decide (Qbq I v=0))then t else QbY t p.1 v
  |none=>if(Qaq B p.1).isSome then QbM t p.1 else t):=by
 have h1:(Qhe C)[j]? = some (p.1,p.2.opt):=by unfold Qhe;rw[au,h];rfl
 obtain⟨h2,N⟩:=ai.1 h1
 conv=>lhs;rw[aE h2,N]
 cases p.2.opt<;>rfl
theorem Qtd{B:List Ent}(N:Qay C){p:ByteArray × SV}(h:C[j]? = some p)(hi:idleC B (Qhe C)):match p.2.opt with
  |some v=>(Qaq B p.1).any (λI=>decide (Qbq I v=0))=true
  |none=>Qaq B p.1=none:=
 hi p.1 p.2.opt (by rw[QdU,Qir N (ap h)];rfl)
variable{n:Nat}
theorem QtB{base:Nat}{t:TypeId}{xs:List Value}(h:w.ownsRow base t 1 (.slice s.a n s.c) n xs){i:Nat}{v:Value}(hi:xs[i]? = some v):∃g,s.a=some ⟨g,0,none⟩/\s.row=some g/\base<=g/\g<w.heap.size/\n<=s.c/\s.c<=maxLen/\w.cell? ⟨g,i,none⟩=some v:=by
 have a0:=(ai.1 hi).1;have hn:xs.length=n*1:=h.1;obtain⟨g,I,rfl,N,h1,h2,hf⟩:=QaJ h oM;obtain⟨b,o,h3,h4,Z⟩:=fP h;obtain⟨e1,-,-⟩:=h3.eq oM;obtain⟨rfl,rfl⟩:g=b/\0=o:=by simpa using e1
 exact⟨g,rfl,rfl,N,hf.lt,h1,h2,by have:=Z i v hi;rwa[aD]at this⟩
variable{H:Nat->Prop}{O:Nat}{d:OD}
theorem Qk2(h:QcK H w O d){b:Nat}(hm:d.mb=some b)(hl:(Qaa d.T).length+d.C.length<=1000000):Calls prog 96 #[.pointer (some ⟨O,0,none⟩)] w (Qe7 H O d w):=by
 have c0:w.cell? ⟨O,0,none⟩=some (QaK d.T):=h.blk.cell 0;have c1:w.cell? ⟨O,1,none⟩=some (.map (some b)):=by have:=h.blk.cell 1;rw[hm]at this;exact this
 have lO:=h.blk.lt;obtain⟨r,hr⟩:=Qaj d.T;rw[hr]at c0;have l1:O<w.heap.size+1:=oM
 have l2:O<w.heap.size+1+1:=oM
 have hF:∀b,OvF H w O d b->b<w.heap.size:=λb hb=>hb.1
 obtain⟨n,hn⟩:∃n,d.C.length=n:=⟨_,rfl⟩;rw[hn]at hl;obtain⟨n0,i8⟩:∃n,(Qaa d.T).length=n:=⟨_,rfl⟩;rw[i8]at hl;obtain⟨N,HM,HN,l8,HR,HF,LO⟩:=Yh h hm hn i8 hr hF lO;clear h hm hr hF hn i8;go_in;go_wp2_with fail;generalize l6:World.alloc _ _=W0;obtain⟨k6,k2,l9,n8⟩:=Qas w _ _ _ _ W0 l6;obtain⟨n2,k5,l4,l0⟩:=Ye k6 l9 n8 k2;clear l6 k6 l9 n8 l1 l2 k2;refine((ez (n:=5)).1 (Tryz.Qhz (some b) W0)).mono ?_;rintro e w' ⟨rfl,rfl⟩;go_wp2_with fail;have g9:W0.ownsMap prog 9 QeO b d.C.length (mapA SV.val d.C):=by
  have h1:=N.o.map;rw[HM.o]at h1;have hb:=N.o.map.lt HM.o;exact Qbx h1 ((fJ n2.o).block b hb id)
 have j2:Maps.size (mapA SV.val d.C)=n:=by rw[Qkt];exact HN.o
 refine((ez (n:=5)).1 (Tryz.Qer b d.C.length (mapA SV.val d.C) QeO W0 g9 (by rw[j2];unfold maxLen;omega) (by rw[j2];omega))).mono ?_;rintro e w2 ⟨v,ss,rfl,hp,a8,k3,l5⟩;have i4:ss.length=n:=by have:=hp.length_eq;rw[QdL,aq,HN.o]at this;exact this
 rw[Qld N.o.sorted hp,i4]at a8;obtain⟨s,rfl⟩:=Qp3 a8;rw[ew,l0.o]at a8;have d3:Nw W0 w2:=(fJ ((fI W0).alloc #[.map (some b)] 181)).trans (Sb.new l5);have g8:Nw w w2:=(fJ n2.o).trans d3;obtain⟨f4,k9,l7,n9⟩:=Ye g8 (d3.blk k5.o) (d3.blk l4.o) a8;have j9:w.heap.size+2<=w2.heap.size:=by have:=d3.size;have:=l0.o;omega
 have o3:=hY j9;clear g9 j2 hp a8 k3 l5 d3 g8 i4 c0 c1 k5 l4 j9;go_wp2_with fail;go_loopw[23] (λq wr=>∃(j:Nat) (T1:RT),q=.int .i64 j/\j<=n/\OkR T1/\IsT wr (CB (OvF H w O d) w wr) T1/\Qfw (Qaa d.T) ((Qhe d.C).drop j) (Qaa T1)=Qfw (Qaa d.T) (Qhe d.C) (Qaa d.T)/\(Qaa T1).length<=n0+j/\Blk wr (w.heap.size+1) 48 #[QaK T1]/\Sb (λc=>c=w.heap.size+1) w2 wr/\(idleC (Qaa d.T) (Qhe d.C)->T1=d.T)) (λq _=>n -(intOf q).toNat)
 case atStart=>exact⟨0,d.T,rfl,aA _,N.o.ok,(N.o.tree.agree (fN f4.o HF.o)).mono λi hi=>⟨.inl hi,ab hi.1 f4.o.size⟩,rfl,by rw[l8.o];exact ao _,by rw[HR.o];exact l7.o,fM _ _,λ_=>rfl⟩
 obtain⟨j,T1,rfl,hj,ok,hT,g0,j1,a9,a6,f8⟩:=hrel;obtain⟨p1,c4⟩:=Qaj T1;have o9:w.heap.size+2<=wr.heap.size:=an o3.o a6.size;by_cases c6:j<n
 ·have g1:decide ((j:Int)<(n:Int))=true:=em oM
  have p3:(j:Int)<(n:Int):=oM
  obtain⟨p,e8⟩:∃p,d.C[j]? = some p:=⟨_,ac (by rw[HN.o];exact c6)⟩;have j5:=ap e8;obtain⟨g,k8,o6,p0,n6,o8,o7,f3⟩:=QtB n9.o (i:=j) (v:=.string p.1) (by rw[au,e8];rfl);obtain⟨sa,sc⟩:=s;dsimp only at k8 o8 o7;subst k8;have p2:=LO.out;have b6:Sb (λc=>c=w.heap.size+1) w wr:=(f4.o.any _).trans a6;have j4:Agree (OvF H w O d) w wr:=λi hi=>b6.block i hi.1 (by have:=hi.1;omega)
  have kc:wr.cell? ⟨g,j,none⟩=some (.string p.1):=(a6.cell n6 oM).trans f3;have kl:g<wr:=ab n6 a6.size;have f1:=b6.blk N.o.blk oM;rw[HR.o,HM.o]at f1;have c0:wr.cell? ⟨O,0,none⟩=some (.pointer r):=f1.cell 0;have c1:wr.cell? ⟨O,1,none⟩=some (.map (some b)):=f1.cell 1;have o2:=f1.lt;obtain⟨f6,k4⟩:=N.o.vals p j5;have i9:=QrI (W:=wr) (N.o.map.heap λb hb=>b6.block b (N.o.map.lt hb) (by have:=N.o.map.lt hb;omega)) f6;rw[HM.o,show Qiw d.C p.1=p.2 by unfold Qiw;rw[Qir N.o.sorted j5];rfl]at i9;have c9:∀i,CB (OvF H w O d) w wr i->i<wr.heap.size:=λi hi=>hi.2
  have i7:(Qaa T1).length<=1000000:=oM
  have hv:RV wr (Lt wr) p.2.v p.2.sl p.2.so:=(k4.1.agree j4).mono λi hi=>by have:=hi.1;show i<_;omega
  have a5:=λ(W:World) (hW:Ext wr W)=>Qg2 (k:=p.1) (w:=W) (F:=OvF H w O d) (T:=d.T) (λi hi=>by have:=hi.1;have:=hW.size;omega) (N.o.tree.agree (j4.trans (hW.agree λi hi=>by have:=hi.1;omega))) N.o.ok (by rw[l8.o];omega)
  have b8:=λ(W:World) (hW:Ext wr W)=>Qqf (k:=p.1) (v:=p.2.v) (sl:=p.2.sl) (so:=p.2.so) (λb hb=>ab (c9 b hb) hW.size) (hT.agree (hW.agree c9)) ok i7 f6 ((hv.agree (hW.agree λ_ h=>h)).mono λi hi=>ab hi hW.size)
  have b7:=λ(W:World) (hW:Ext wr W)=>Qm9 (λb hb=>ab (c9 b hb) hW.size) (hT.agree (hW.agree c9)) ok i7 p.1
  have b4:=λ(W:World) (hW:Ext wr W) (x:Val) (xl xo:Sl) (hx:RV W (Lt W) x xl xo)=>Qdk hx ((hv.agree (hW.agree λ_ h=>h)).mono (G:=Lt W) λi hi=>ab hi hW.size)
  have a4:=Qs3 (B:=Qaa d.T) e8 (Qaa T1);have b5:=Qtd (B:=Qaa d.T) N.o.sorted e8;rw[g0]at a4;unfold QbC at a5;rw[Qao,HR.o]at a5;rw[Qao,c4]at b8 b7;have g5:Ext wr (wr.alloc (.cells p.2.cells 192)):=(fI wr).alloc _ _;have g7:=fK wr 192 p.2.cells;have e7:∀W,Ext wr W->IsT W (CB (OvF H w O d) w W) T1/\Blk W (w.heap.size+1) 48 #[QaK T1]/\Sb (λc=>c=w.heap.size+1) w2 W:=λW hW=>
   ⟨(hT.agree (hW.agree c9)).mono λi hi=>⟨hi.1,ab hi.2 hW.size⟩,a9.ext hW,a6.ext hW⟩
  have d4:∀w7 w8 T' p',Ext wr w7->Ext w7 w8->IsT w8 (Up (CB (OvF H w O d) w wr) w7 w8) T'->QaK T'=.pointer p'->_:=λw7 w8 T' p' h7 h8 h1 h2=>Qrb (w2:=w2) o9 HF.o h7 h8 h1 h2 a9 a6
  obtain⟨k,g3,v,sl,so⟩:=p;dsimp only at kc f6 i9 hv a5 b8 b7 b4 a4 b5 g5 g7;obtain⟨og,n7⟩:∃o,Qaq (Qaa d.T) k=o:=⟨_,rfl⟩;obtain⟨gv,j6⟩:∃g,og.getD zeroV=g:=⟨_,rfl⟩;obtain⟨gb,j0⟩:∃g,og.isSome=g:=⟨_,rfl⟩;rw[n7]at a5 a4 b5;rw[j6,j0]at a5;have c8:=hY (show ∀W,Ext (wr.alloc (.cells (SV.cells ⟨g3,v,sl,so⟩) 192)) W->(W.cell? ⟨wr,0,none⟩=some (.bool g3)/\W.cell? ⟨wr,1,none⟩=some (.int .i64 v.kind)/\W.cell? ⟨wr,2,none⟩=some (.bool v.b)/\W.cell? ⟨wr,3,none⟩=some (.int .i64 v.i)/\W.cell? ⟨wr,4,none⟩=some (.string v.t)/\W.cell? ⟨wr,5,none⟩=some (.slice sl.a v.l.length sl.c)/\W.cell? ⟨wr,6,none⟩=some (.slice so.a v.ok.length so.c))/\
    W.cell? ⟨w+1,0,none⟩=some (.pointer p1)/\W.frozen? ⟨w+1,0,none⟩=false/\w.heap.size+1<W.heap.size/\wr.heap.size<W.heap.size fromλW hW=>by
   have h1:=a9.ext (g5.trans hW);rw[c4]at h1;exact⟨(g7.ext hW).c7,h1.cell 0,h1.frozen 0,h1.lt,(g7.ext hW).lt⟩)
  obtain⟨d8,i0,i2,l3,e6,a3,b9⟩:=Yh g5 a5 b8 b7 b4 a4 b5;obtain⟨d5,b3,Z,f2,i5⟩:=Yf e7 d4 ok j1 f8;clear e8 j5 f3 b6 j4 f1 f6 k4 hv a5 b8 b7 b4 a4 b5 g5 g7 e7 d4 n7 ok hT g0 j1 a9 a6 f8 c9 i7 c4;go_wp2_with fail;dsimp only[SV.cells]at c8 d8;generalize o0:wr.alloc (.cells _ _)=W3 at *;clear o0 kc kl c0 c1 o2 i9;refine(i0.o W3 d8.o).mono ?_;rintro e w4 ⟨gl,gq,rfl,d0,j8⟩;have c3:=(fI w4).alloc #[.int .i64 gv.kind,.bool gv.b,.int .i64 gv.i,.string gv.t,.slice gl.a gv.l.length gl.c,.slice gq.a gv.ok.length gq.c] 34;have o4:=fK w4 34 #[.int .i64 gv.kind,.bool gv.b,.int .i64 gv.i,.string gv.t,.slice gl.a gv.l.length gl.c,.slice gq.a gv.ok.length gq.c];have i1:=(j8.agree (c3.agree λb hb=>hb.2)).mono (G:=Lt (w4.alloc (.cells #[.int .i64 gv.kind,.bool gv.b,.int .i64 gv.i,.string gv.t,.slice gl.a gv.l.length gl.c,.slice gq.a gv.ok.length gq.c] 34)).heap.size) λb hb=>ab hb.2 c3.size
  obtain⟨k7,p4,c2,f5⟩:=Ye (e6.o _ ((d8.o.trans d0).trans c3) gv gl gq i1) (d8.o.trans d0) ((d8.o.trans d0).trans c3) (d0.trans c3);obtain⟨⟨q0,q1,q2,q3,q4,q5,q6⟩,q7,q8,q9,f7⟩:=c8.o _ d0;clear d0 j8 c3 o4 i1 e6 i0;cases gb with
  | false=>
    have ho:og=none:=by cases og with
     |none=>rfl
     |some x=>cases j0
    cases g3 with
    | false=>
      have I:=a3.o;simp only[SV.opt,ho]at I;have HE:=hY I.symm;clear I;go_wp2_with fail;obtain⟨e1,e2,e3⟩:=d5.o _ c2.o;go_roundw
      case rel=>exact⟨j+1,T1,by go_num,c6,Z.o,e1,HE.o,by have:=f2.o;omega,e2,e3,i5.o⟩
      simp[intOf];omega
    | true=>
      have I:=a3.o;simp only[SV.opt,ho,if_true,Option.any_none,Bool.false_eq_true,if_false]at I;have HE:=hY I.symm;have o1:=b9.o;have d6:=hY (show ¬(match(SV.opt ⟨true,v,sl,so⟩)with
       |some v=>og.any (λe4=>decide (Qbq e4 v=0))=true
       |none=>og=none)by simp[SV.opt,ho])
      clear I o1;go_wp2_with fail;refine(i2.o _ c2.o).mono ?_;rintro e w8 ⟨T',rfl,a7,b0,a0⟩;obtain⟨p',a2⟩:=Qaj T';rw[Qao,a2];obtain⟨-,q7,q8,q9,f7⟩:=c8.o w8 (f5.o.trans a0);obtain⟨e0,a1⟩:=Yb (b3.o _ _ T' p' c2.o a0 b0 a2) a7;clear a7 b0 a0 a2;go_wp2_with fail;obtain⟨e1,e2,e3⟩:=e0.o;go_roundw
      case rel=>exact⟨j+1,T',by go_num,c6,a1.o.ok Z.o,e1,by rw[a1.o.ents Z.o];exact HE.o,by rw[a1.o.ents Z.o];have:=f2.o;rcases QcA (Qaa T1) k v with h|h<;>omega,e2,e3,λhi=>absurd (b9.o hi) d6.o⟩
      simp[intOf];omega
  | true=>
    obtain⟨x,ho⟩:∃x,og=some x:=cN.1 j0;have j7:x=gv:=by rw[ho]at j6;exact j6
    cases g3 with
    | false=>
      have I:=a3.o;simp only[SV.opt,ho,Bool.false_eq_true,if_false,Option.isSome_some,if_true]at I;have HE:=hY I.symm;have d6:=hY (show ¬(match(SV.opt ⟨false,v,sl,so⟩)with
       |some v=>og.any (λe4=>decide (Qbq e4 v=0))=true
       |none=>og=none)by simp[SV.opt,ho])
      clear I;go_wp2_with fail;refine(l3.o _ c2.o).mono ?_;rintro e w8 ⟨T',rfl,a7,b0,a0⟩;obtain⟨p',a2⟩:=Qaj T';rw[Qao,a2];obtain⟨-,q7,q8,q9,f7⟩:=c8.o w8 (f5.o.trans a0);obtain⟨e0,a1⟩:=Yb (b3.o _ _ T' p' c2.o a0 b0 a2) a7;clear a7 b0 a0 a2;go_wp2_with fail;obtain⟨e1,e2,e3⟩:=e0.o;go_roundw
      case rel=>exact⟨j+1,T',by go_num,c6,a1.o.ok Z.o,e1,by rw[a1.o.ents Z.o];exact HE.o,by rw[a1.o.ents Z.o];have:=f2.o;have:=(Qa3 (Qaa T1) k).length_le;omega,e2,e3,λhi=>absurd (b9.o hi) d6.o⟩
      simp[intOf];omega
    | true=>
      obtain⟨sm,g6⟩:∃s,decide (Qbq gv v=0)=s:=⟨_,rfl⟩;have d7:=k7.o;rw[g6]at d7;have i6:=hY d7;clear d7 k7;go_wp2_with fail;refine i6.o.mono ?_;rintro e w6 ⟨rfl,f9⟩;obtain⟨j3,o5⟩:=Yb (c2.o.trans f9) (f5.o.trans f9);obtain⟨⟨q0,q1,q2,q3,q4,q5,q6⟩,q7,q8,q9,f7⟩:=c8.o w6 (f5.o.trans f9);clear f9 i6;cases sm with
      | true=>
        have I:=a3.o;simp only[SV.opt,ho,if_true,Option.any_some,j7,g6]at I;have HE:=hY I.symm;clear I;go_wp2_with fail;obtain⟨e1,e2,e3⟩:=d5.o _ j3.o;go_roundw
        case rel=>exact⟨j+1,T1,by go_num,c6,Z.o,e1,HE.o,by have:=f2.o;omega,e2,e3,i5.o⟩
        simp[intOf];omega
      | false=>
        have I:=a3.o;simp only[SV.opt,ho,if_true,Option.any_some,j7,g6,Bool.false_eq_true,if_false]at I;have HE:=hY I.symm;have d6:=hY (show ¬(match(SV.opt ⟨true,v,sl,so⟩)with
         |some v=>og.any (λe4=>decide (Qbq e4 v=0))=true
         |none=>og=none)by simp only[SV.opt,ho,if_true,Option.any_some,j7,g6];simp)
        clear I;go_wp2_with fail;refine(i2.o _ j3.o).mono ?_;rintro e w8 ⟨T',rfl,a7,b0,a0⟩;obtain⟨p',a2⟩:=Qaj T';rw[Qao,a2];obtain⟨-,q7,q8,q9,f7⟩:=c8.o w8 (o5.o.trans a0);obtain⟨e0,a1⟩:=Yb (b3.o _ _ T' p' j3.o a0 b0 a2) a7;clear a7 b0 a0 a2;go_wp2_with fail;obtain⟨e1,e2,e3⟩:=e0.o;go_roundw
        case rel=>exact⟨j+1,T',by go_num,c6,a1.o.ok Z.o,e1,by rw[a1.o.ents Z.o];exact HE.o,by rw[a1.o.ents Z.o];have:=f2.o;rcases QcA (Qaa T1) k v with h|h<;>omega,e2,e3,λhi=>absurd (b9.o hi) d6.o⟩
        simp[intOf];omega
 obtain rfl:j=n:=oM
 have g1:decide ((j:Int)<(j:Int))=false:=ej oM;rw[c4]at a9;have q0:wr.cell? ⟨w+1,0,none⟩=some (.pointer p1):=a9.cell 0;have g4:=a6.blk k9.o oM;have q1:wr.cell? ⟨w,0,none⟩=some (.pointer none):=g4.cell 0;have f0:=g4.frozen 0;have k0:=g4.lt;have k1:=a9.lt;have i3:Qe7 H O d w (.returned (.agg #[.pointer p1])) (wr.setCell ⟨w,0,none⟩ (.pointer p1)):=by
  refine⟨T1,by rw[Qao,c4],ok,?_,?_,?_,f8⟩
  ·refine (hT.agree (fO wr ⟨w,0,none⟩ _ ?_)).mono fun i hi=>?_
   ·rintro ⟨hf | hf,-⟩
    .have:=HF.o _ hf;dsimp only at this;omega
    dsimp only at hf;omega
   rw[Up,eC];rcases hi.1 with h|h
   .exact .inl h
   exact .inr ⟨oM,hi.2⟩
  .rw [<-g0,bS (by unfold Qhe;rw[aq,HN.o];exact ao _)];rfl
  have h1:Sb (λc=>c=w.heap.size+1\/c=w.heap.size) w2 (wr.setCell ⟨w,0,none⟩ (.pointer p1)):=(a6.mono λi _ e=>.inl e).set (p:=⟨w,0,none⟩) (.inr (.inr rfl)) _;exact f4.o.comp h1 λi hi e=>oM
 have n4:=hY i3;clear ok hT g0 j1 a9 a6 f8 g4 i3 c4;go_wp2_with fail;refine eB (v:=.agg #[.pointer p1]) (by simp[results,results96,go_sem,q1]) rfl ?_;exact n4.o
theorem QoR(h:QcK H w O d)(Z:(Qaa d.T).length+d.C.length<=1000000):Calls prog 96 #[.pointer (some ⟨O,0,none⟩)] w (Qe7 H O d w):=by
 cases I:d.mb with
 |some b=>exact Qk2 h I Z
 | none=>
   have hC:d.C=[]:=by have:=h.map;rw[I]at this;exact this
   exact(Qk1 h I).mono λe w' ⟨he,hn⟩=>⟨d.T,he,h.ok,(h.tree.agree (fN hn λb N=>N.1)).mono λi hi=>.inl hi,by rw[hC];rfl,hn,λ_=>rfl⟩
def Qon(k:ByteArray)(v:Val):Int:=if Qci k≠0 then 8 else QcP v
theorem Qsd(h:QcK H w O d)(hH:∀b,H b->b<w.heap.size)(hn:d.us.length<=1000000){k:ByteArray}(hk:k.size<=maxLen){v:Val}(hv:RV w (Lt w) v sl so)(hc:QcI v<=1100000)(hL:Qb4 w) :
  Calls prog 167 #[.pointer (some ⟨O,0,none⟩),.string k,QbV v sl so] w λe w'=>e=.returned (.int .i64 (Qon k v))/\((Qon k v=0/\∃sl so mb s,Qok H w O d (d.step k ⟨true,v,sl,so⟩ mb s) w')\/(Qon k v≠0/\Nw w w')):=by
 have I:=λW (Z:Nw w W)=>Qc8 hk (hL.lib.nw Z)
 have a0:∀W,Nw w W->RV W (Lt W) v sl so:=λW Z=>(hv.agree (fN Z λb hb=>hb)).mono λb hb=>ab hb Z.size
 have N:=λW (Z:Nw w W)=>Qio (a0 W Z) hc (hL.nw Z)
 by_cases hm:Qci k=0
 ·rw [hm] at I
  have hp:Qon k v=QcP v:=by unfold Qon;rw[eh (by simp[hm])]
  rw[hp];by_cases hf:QcP v=0
  ·rw [hf] at N
   exact(QuM h hH hn hk hv I N).mono λe w' h=>by rw[hf];exact⟨h.1,.inl ⟨rfl,h.2⟩⟩
  exact(Qqg I N hf).mono λe w' h=>⟨h.1,.inr ⟨hf,h.2⟩⟩
 have hp:Qon k v=8:=by unfold Qon;rw[eu hm]
 rw[hp];exact(QnL I hm).mono λe w' h=>⟨h.1,.inr ⟨oN,h.2⟩⟩
theorem QqI{O b:Nat}{r sl:Value}{u:UD}{bw bd bo bk:Nat}{o:SV}(a0:Blk w O 184 #[r,.map (some b),sl])(N:Qbp w (some b) C)(hs:Qay C)(hC:C.length<maxLen)(hk:u.k.size<=maxLen)
  (a6:Blk w bw 4 #[.bool u.old.isSome]) (Z:Blk w bd 192 o.cells) (ho:∀x,u.old=some x->x=o) (a2:Blk w bo 151 #[.pointer (some ⟨O,0,none⟩)]) (a3:Blk w bk 9 #[.string u.k]) :
  Calls prog 211 #[.pointer (some ⟨bw,0,none⟩),.pointer (some ⟨bd,0,none⟩),.pointer (some ⟨bo,0,none⟩),.pointer (some ⟨bk,0,none⟩)] w λe w'=>(∃r,e=.returned r)/\Qbp w' (some b) (Qhh u C)/\Sb (λc=>c=b) w w':=by
 obtain⟨k,a8⟩:=u;have cw:w.cell? ⟨bw,0,none⟩=some (.bool a8.isSome):=a6.cell 0;have nO:=Qbp.ne N a0;have no:=Qbp.ne N a2;have nk:=Qbp.ne N a3;have nd:=Qbp.ne N Z;have a5:=hY N;cases a8 with
 | none=>
   have I:=hY (show ∀W,Sb (λc=>c=b) w W->W.cell? ⟨bo,0,none⟩=some (.pointer (some ⟨O,0,none⟩))/\W.cell? ⟨O,1,none⟩=some (.map (some b))/\W.cell? ⟨bk,0,none⟩=some (.string k)from
    λW hW=>⟨(hW.blk a2 no).cell 0,(hW.blk a0 nO).cell 1,(hW.blk a3 nk).cell 0⟩)
   clear a0 a6 Z a2 a3 N ho nO no nk nd;go_in;go_wp2_with fail;refine eA (S:=(λw'=>Sb (λc=>c=b) w w')) kM (((fM _ w).drew)) (λhHeld=>?_);refine Qaf 0 (some 11) I hHeld ?_;refine Qaf 1 (some 12) I hHeld ?_;refine Qaf 2 (some 13) I hHeld ?_;refine Qaf 3 (some 14) I hHeld ?_;refine Qaf 4 (some 15) I hHeld ?_;refine Qac (i:=5) kM rfl (by rfl) (λK hK=>?_)
   skip
   (refine Qp1 (b:=b) (C:=C) (k:=k) rfl rfl rfl (a5.o.heap λ_ _=>rfl) hk ?_;intro w7 a1 a4)
   refine hK.out _ _ (hHeld.trans a4) (λhHeld=>?_);clear hK K
   try go_frame
   refine eF kM ?_ _;go_end0;exact⟨⟨_,rfl⟩,a1,hHeld⟩
 | some x=>
   obtain rfl:=ho x rfl;obtain⟨a7,v,sl',so⟩:=x;have I:=hY (show ∀W,Sb (λc=>c=b) w W->W.cell? ⟨bo,0,none⟩=some (.pointer (some ⟨O,0,none⟩))/\W.cell? ⟨O,1,none⟩=some (.map (some b))/\W.cell? ⟨bk,0,none⟩=some (.string k)/\W.cell? ⟨bd,0,none⟩=some (.bool a7)/\W.cell? ⟨bd,1,none⟩=some (.int .i64 v.kind)/\W.cell? ⟨bd,2,none⟩=some (.bool v.b)/\W.cell? ⟨bd,3,none⟩=some (.int .i64 v.i)/\W.cell? ⟨bd,4,none⟩=some (.string v.t)/\W.cell? ⟨bd,5,none⟩=some (.slice sl'.a v.l.length sl'.c)/\W.cell? ⟨bd,6,none⟩=some (.slice so.a v.ok.length so.c)from
    λW hW=>⟨(hW.blk a2 no).cell 0,(hW.blk a0 nO).cell 1,(hW.blk a3 nk).cell 0,(hW.blk Z nd).cell 0,(hW.blk Z nd).cell 1,(hW.blk Z nd).cell 2,(hW.blk Z nd).cell 3,(hW.blk Z nd).cell 4,(hW.blk Z nd).cell 5,(hW.blk Z nd).cell 6⟩)
   clear a0 a6 Z a2 a3 N ho nO no nk nd;go_in;go_wp2_with fail;refine eA (S:=(λw'=>Sb (λc=>c=b) w w')) kM (((fM _ w).drew)) (λhHeld=>?_);refine Qaf 0 (some 5) I hHeld ?_;refine Qaf 1 (some 6) I hHeld ?_;refine Qaf 2 (some 7) I hHeld ?_;refine Qaf 3 (some 8) I hHeld ?_;refine Qaf 4 (some 9) I hHeld ?_;refine Qaf 5 (some 10) I hHeld ?_;refine Qac (i:=6) kM rfl (by rfl) (λK hK=>?_)
   skip
   (refine Qj9 (b:=b) (C:=C) (k:=k) (s:=⟨a7,v,sl',so⟩) rfl rfl rfl rfl (a5.o.heap λ_ _=>rfl) hk hC hs ?_;intro w7 a1 a4)
   refine hK.out _ _ (hHeld.trans a4) (λhHeld=>?_);clear hK K
   try go_frame
   refine eF kM ?_ _;go_end0;exact⟨⟨_,rfl⟩,a1,hHeld⟩
theorem QtC{base e n c:Nat}{a:Option Addr}{xs:List Value}(h:w.ownsRow base e 1 (.slice a n c) n xs){m:Nat}(hm:m<=n):w.ownsRow base e 1 (.slice a m c) m (xs.take m):=by
 have hl:=h.1;rcases h.2 with⟨N,h0⟩ |⟨g,a2,I,N,a1,hg,a3,Z,a0,ht⟩
 ·obtain rfl:m=0:=oM
  subst h0;exact⟨sM,.inl ⟨N,rfl⟩⟩
 injection N with h1 h2 h3;subst h1 h3;refine⟨by rw[av];omega,.inr ⟨g,c,I,rfl,a1,hg,oM,Z,a0,?_⟩⟩;rw[<-ht,cG];congr 1;omega
section
variable{H : Nat -> Prop}{w : World}{O : Nat}{d : OD}
structure Qge(w:World)(O:Nat)(d:OD)(xs:List Value)(j:Nat)(W:World):Prop where
 blk:Blk W O 184 #[QaK d.T,.map d.mb,.slice d.s.a d.us.length d.s.c]
 map:Qbp W d.mb (Qdp d.us d.C j)
 row:∃ys,W.ownsRow 0 1 1 (.slice d.s.a d.us.length d.s.c) d.us.length ys/\∀i,i<j->ys[i]? = xs[i]?
 sb:Sb (OvB O d) w W
def QqT(H:Nat->Prop)(O:Nat)(d:OD)(m:Nat)(w:World)(e:Ending)(w':World):Prop:=
 e=.returned (.int .i64 0)/\Qok H w O d ⟨d.T,d.mb,d.s,d.us.take m,d.Hs.take (m+1),Qdp d.us d.C m⟩ w'
theorem QlQ{m:Nat}(hm:m<=d.us.length)(h:QcK H w O d){xs:List Value}(hl:xs.length=d.us.length)(b0:∀(i:Nat) (u:UD) (v:Value),d.us[i]? = some u->xs[i]? = some v->Qh2 w (OvF H w O d) O u v){W:World}(hW:Qge w O d xs m W) :
  Qok H w O d ⟨d.T,d.mb,d.s,d.us.take m,d.Hs.take (m+1),Qdp d.us d.C m⟩ (W.setCell ⟨O,2,none⟩ (.slice d.s.a m d.s.c)):=by
 have a4:Sb (OvB O d) W (W.setCell ⟨O,2,none⟩ (.slice d.s.a m d.s.c)):=(fM (OvB O d) W).set (p:=⟨O,2,none⟩) (.inr (.inl rfl)) _;have I:=hW.sb.trans a4;have N:Sb (λc=>c=O) W (W.setCell ⟨O,2,none⟩ (.slice d.s.a m d.s.c)):=(fM (λc=>c=O) W).set (p:=⟨O,2,none⟩) (.inr rfl) _;have ha:Agree (OvF H w O d) w (W.setCell ⟨O,2,none⟩ (.slice d.s.a m d.s.c)):=λi hi=>I.block i hi.1 hi.2.1
 have Z:∀i,OvF H w O d i->OvF H (W.setCell ⟨O,2,none⟩ (.slice d.s.a m d.s.c)) O ⟨d.T,d.mb,d.s,d.us.take m,d.Hs.take (m+1),Qdp d.us d.C m⟩ i:=λi hi=>⟨Nat.lt_of_lt_of_le hi.1 I.size,hi.2.1,hi.2.2⟩
 obtain⟨ys,a1,a5⟩:=hW.row;have a0:(d.us.take m).length=m:=by rw[av];omega
 have hC:d.Hs[m]? = some (Qdp d.us d.C m):=h.hist.back h.last (d.us.length-m) m oM;have a9:=h.hist.take hm;have a8:∀b,d.mb=some b->b≠O:=λb hb e=>h.ne.1 (by rw[hb,e])
 have a3:∀(A:List UD) (C:AL SV),(∀p∈C,p.1.size<=maxLen/\QkU w (OvF H w O d) p.2)->(∀u∈A,u.k.size<=maxLen/\∀o,u.old=some o->QkU w (OvF H w O d) o)->∀p∈A.foldr Qhh C,p.1.size<=maxLen/\QkU w (OvF H w O d) p.2:=by
  intro A C a7
  induction A with
  |nil=>intro _;exact a7
  | cons u r ih=>
    intro hA p hp;have a2:=ih λx hx=>hA x (aR _ hx)
    have hu:=hA u (aF ..);rw[List.foldr_cons,Qhh]at hp;cases ho:u.old with
    |none=>rw[ho]at hp;exact a2 p (cf.1 hp).1
    | some o=>
      rw[ho]at hp;rcases QiH hp with rfl|hp
      .exact ⟨hu.1,hu.2 o ho⟩
      exact a2 p hp
 refine⟨⟨?_,?_,⟨ys.take m,?_,?_,?_⟩,?_,?_,a9,?_,?_,Qfv h.sorted _ _,(h.tree.agree ha).mono Z,h.ok,h.ne,h.out,?_⟩,I,λb hb=>.inl hb⟩
 ·have:=hW.blk.QbH 2 (.slice d.s.a m d.s.c)
  show Blk _ O _ #[_,_,.slice d.s.a (d.us.take m).length d.s.c];rw[a0];exact this
 .exact hW.map.heap λb hb=>N.block b (hW.map.lt hb) (a8 b hb)
 ·show (ys.take m).length=(d.us.take m).length
  have:=a1.1;rw[a0,av];omega
 ·show World.ownsRow _ 0 _ 1 (.slice d.s.a (d.us.take m).length d.s.c) (d.us.take m).length _
  rw[a0];exact Qab (QtC a1 hm) N.agree λb hb=>⟨(Qad a1 hb).2,λe=>h.ne.2.1 (by rw[<-e];exact hb)⟩
 ·intro i u v hu hv
  have hu:(d.us.take m)[i]? = some u:=hu;have hi:i<m:=by have:=(ai.1 hu).1;omega
  rw[bN hi]at hu hv;rw[a5 i hi]at hv;exact((b0 i u v hu hv).agree ha).mono Z
 ·intro p hp
  have:=a3 (d.us.drop m) d.C h.vals (λu hu=>h.olds u (aM hu)) p hp;exact⟨this.1,(this.2.agree ha).mono Z⟩
 ·intro u hu
  have:=h.olds u (ba hu);exact⟨this.1,λo ho=>((this.2 o ho).agree ha).mono Z⟩
 ·show (d.Hs.take (m+1))[0]? = _
  rw[bN oM];exact h.h0
 ·show (d.Hs.take (m+1))[(d.us.take m).length]? = _
  rw[a0,bN oM];exact hC
 intro a6;exact h.some_ λe=>a6 (by show d.us.take m=[];rw[e];exact List.take_nil)
theorem QoB{xs:List Value}{j g b:Nat}(h:QcK H w O d)(hb:d.mb=some b)(hg:d.s.a=some ⟨g,0,none⟩){u:UD}(hu:d.us[j]? = some u){W W1:World}(hW:Qge w O d xs (j+1) W)(hm:Qbp W1 (some b) (Qhh u (Qdp d.us d.C (j+1))))(hs:Sb (λc=>c=b) W W1) :
  Qge w O d xs j (W1.setCell ⟨g,j,none⟩ Value.nilFunc):=by
 have hj:j<d.us.length:=(ai.1 hu).1;have I:d.s.row=some g:=by rw[Sl.row,hg];rfl
 have a0:g≠b:=λe=>h.ne.2.2 b hb (by rw[I,e])
 have a3:g≠O:=λe=>h.ne.2.1 (by rw[I,e])
 have a2:b≠O:=λe=>h.ne.1 (by rw[hb,e])
 obtain⟨ys,a1,a4⟩:=hW.row;have N:W1.ownsRow 0 1 1 (.slice d.s.a d.us.length d.s.c) d.us.length ys:=Qab a1 hs.agree λi hi=>⟨(Qad a1 hi).2,λe=>a0 (by rw[I]at hi;injection hi with hi;omega)⟩
 have Z:Sb (λc=>c=g) W1 (W1.setCell ⟨g,j,none⟩ Value.nilFunc):=(fM (λc=>c=g) W1).set (p:=⟨g,j,none⟩) (.inr rfl) _;refine⟨Z.blk (hs.blk hW.blk λe=>a2 e.symm) λe=>a3 e.symm,?_,⟨ys.set j Value.nilFunc,?_,λi hi=>?_⟩,?_⟩
 ·rw [hb,Qhk hu]
  exact hm.heap λi hi=>by
   injection hi with hi;subst hi;exact Z.block b (hm.lt rfl) λe=>a0 e.symm
 ·rw [hg] at N ⊢
  exact Qbt N hj _
 ·rw [db oM]
  exact a4 i oM
 exact(hW.sb.trans (hs.mono λi _ e=>.inr (.inl (by rw[hb,e])))).trans (Z.mono λi _ e=>.inr (.inr (by rw[I,e])))
end
theorem Qhg(P:Program)(w:World)(a:Addr)(m:Mode):(store a Value.nilFunc m).run P w=stored P w a Value.nilFunc m:=run_store P w a _ m rfl
attribute [local go_sem] Qhg
variable{u:Value}
theorem Qr7{base e n c g:Nat}{xs:List Value}(h:w.ownsRow base e 1 (.slice (some ⟨g,0,none⟩) n c) n xs){i:Nat}(hx:xs[i]? = some u):w.cell? ⟨g,i,none⟩=some u/\(n<=c/\c<=maxLen)/\g<w/\w.frozen? ⟨g,i,none⟩=false:=by
 rcases h.2 with⟨N,h0⟩ |⟨g',a1,I,N,a3,hg,a0,Z,a2,ht⟩
 .cases N
 injection N with h1 h2 h3;injection h1 with h1;injection h1 with h1;subst h1 h3;have hi:i<n:=by have:=(ai.1 hx).1;have:=h.1;omega
 have hb:Blk w g e I:=hg;refine⟨?_,⟨a0,Z⟩,hb.lt,hb.frozen i⟩;rw[hb.cell i];rw[<-ht,bN oM]at hx;simpa using hx
theorem QsX(h:QcK H w O d)(hn:d.us.length<=1000000){m:Nat}(hm:m<=d.us.length):Calls prog 166 #[.pointer (some ⟨O,0,none⟩),.int .i64 (m:Int)] w (QqT H O d m w):=by
 have c2:w.cell? ⟨O,2,none⟩=some (.slice d.s.a d.us.length d.s.c):=h.blk.cell 2;have lO:=h.blk.lt;obtain⟨xs,hl,a4,b7⟩:=h.row;have g0:decide ((m:Int)<0)=false:=ej oM;have g1:decide ((d.us.length:Int)<(m:Int))=false:=ej oM;have d5:decide (d.us.length<m)=false:=ej oM;have b5:Qge w O d xs d.us.length w:=⟨h.blk,by rw[Qjb];exact h.map,⟨xs,a4,λ_ _=>rfl⟩,fM _ _⟩;obtain⟨I,a5,HL,c3⟩:=Ye h b7 hl b5;clear h b7 hl b5 a4;go_in;go_wp2_with fail;go_loopw[5] (λq wr=>∃(j:Nat) (i:Int),q=.int .i64 i/\i+1=(j:Int)/\m<=j/\j<=d.us.length/\Qge w O d xs j wr) (λq _=>(intOf q+1).toNat)
 case atStart=>exact⟨d.us.length,_,rfl,oM,hm,ao _,c3.o⟩
 obtain⟨j,i,rfl,b8,d7,d8,Z⟩:=hrel;by_cases d6:m<j
 ·obtain ⟨j,rfl⟩:∃ k,j=k+1:=⟨j - 1,oM⟩
  obtain rfl:i=(j:Int):=oM
  have g2:decide ((m:Int)<=(j:Int))=true:=em oM;have hu:d.us[j]? = some d.us[j]:=ac oM;obtain⟨u,b6⟩:∃u,d.us[j]=u:=⟨_,rfl⟩;rw[b6]at hu;obtain⟨v,hv⟩:∃v,xs[j]? = some v:=⟨_,ac (by have:=HL.o;omega)⟩;obtain⟨b,hb⟩:=I.o.some_ (λe=>by rw[e]at hu;simp at hu);obtain⟨bw,bd,bo,bk,o,rfl,⟨fw,fd,fo,fk⟩,kw,kd,ho,ko,kk⟩:=a5.o j u v hu hv;obtain⟨ys,a0,c6⟩:=Z.row;have c4:ys[j]? = some (QkE bw bd bo bk):=by rw[c6 j oM];exact hv
  obtain⟨g,ha⟩:∃g,d.s.a=some ⟨g,0,none⟩:=by
   rcases a0.2 with⟨-,h0⟩ |⟨g,c9,c8,hv,-⟩
   .omega
   injection hv with h1;exact⟨g,h1⟩
  rw[ha]at a0;obtain⟨cj,⟨a8,a7⟩,lg,fj⟩:=Qr7 a0 c4;have b2:wr.cell? ⟨O,2,none⟩=some (.slice d.s.a d.us.length d.s.c):=Z.blk.cell 2;rw[ha]at b2;have lW:=Z.blk.lt;have a3:Blk wr O 184 #[QaK d.T,.map (some b),.slice d.s.a d.us.length d.s.c]:=by rw[<-hb];exact Z.blk
  have a1:Qbp wr (some b) (Qdp d.us d.C (j+1)):=by rw[<-hb];exact Z.map
  have a2:=QqI a3 a1 (Qfv I.o.sorted d.us (j+1)) (by have:=I.o.hist.short I.o.h0 _ _ (I.o.hist.back I.o.last (d.us.length -(j+1)) (j+1) oM);unfold maxLen;omega) (I.o.olds u (ap hu)).1 (Z.sb.blk kw fw.2.1) (Z.sb.blk kd fd.2.1) ho (Z.sb.blk ko fo.2.1) (Z.sb.blk kk fk.2.1);have b4:d.s.row=some g:=by rw[Sl.row,ha];rfl
  have a9:¬g=b:=λe=>I.o.ne.2.2 b hb (by rw[b4,e])
  have b0:¬O=b:=λe=>I.o.ne.1 (by rw[hb,e])
  obtain⟨HW,HU,HB,HA,c0⟩:=Yf Z hu hb ha a2;have j0:(0:Int)<=(j:Int):=oM
  have j1:(j:Int)<(d.us.length:Int):=oM
  have c7:∀W,Sb (λc=>c=b) wr W->W.frozen? ⟨g,j,none⟩=false/\W.cell? ⟨g,j,none⟩=some (QkE bw bd bo bk)/\W.cell? ⟨O,2,none⟩=some (.slice (some ⟨g,0,none⟩) d.us.length d.s.c)/\g<W:=λW hS=>
   ⟨(World.frozen?_of_block (hS.block g lg a9)).trans fj,(hS.cell lg a9).trans cj,(hS.cell lW b0).trans b2,ab lg hS.size⟩
  have FJ:=hY c7;clear Z b8 c2 hu b6 hv hb fw fd fo fk kw kd ho ko kk a0 c6 c4 ha a3 a1 a2 b4 a9 b0 c7 c3;go_wp2_with(go_at_call 211;refine(c0.o).mono ?_;rintro e w1 ⟨⟨r,rfl⟩,b9,a6⟩;obtain⟨f1,c1,b3,l1⟩:=FJ.out w1 a6;have d0:=hY b9;have d4:=hY a6;clear b9 a6 FJ);go_roundw
  case rel=>exact⟨j,(j:Int)-1,by go_num,oM,oM,oM,QoB I.o HB.o HA.o HU.o HW.o d0.o d4.o⟩
  simp[intOf]
 obtain rfl:j=m:=oM
 have g2:decide ((j:Int)<=i)=false:=ej oM;have b2:wr.cell? ⟨O,2,none⟩=some (.slice d.s.a d.us.length d.s.c):=Z.blk.cell 2;have f2:=Z.blk.frozen 2;have lW:=Z.blk.lt;have HW:=hY Z;clear Z b8 c2;have d3:(d.s.a=none/\d.us.length=0/\d.s.c=0)\/∃g,d.s.a=some ⟨g,0,none⟩/\d.us.length<=d.s.c/\d.s.c<=maxLen:=by
  obtain⟨ys,a0,-⟩:=HW.o.row;rcases a0.2 with⟨hv,h0⟩ |⟨g,c9,c8,hv,-,-,a8,a7,-⟩
  ·injection hv with h1 h2 h3
   exact .inl ⟨h1,h0,h3⟩
  injection hv with h1 h2 h3;exact .inr ⟨g,h1,by rw[h3];exact a8,by rw[h3];exact a7⟩
 rcases d3 with⟨ha,hz,hc⟩ |⟨g,ha,a8,a7⟩
 ·obtain rfl:j=0:=oM
  obtain⟨HA,HC,HZ⟩:=Yc ha hc hz;rw[ha,hz,hc]at b2;clear ha hc hz;have g3:decide ((0:Int)<=i)=false:=g2;go_wp2_with fail;refine eB (v:=.int .i64 0) (by simp[results,results166,go_sem]) rfl ?_;have N:=QlQ hm I.o HL.o a5.o HW.o;rw[HA.o,HC.o]at N;exact⟨rfl,N⟩
 rw[ha]at b2;have HA:=hY ha;clear ha;have k0:(0:Int)<=(j:Int):=oM
 have k1:(j:Int)<=(d.s.c:Int):=oM
 go_wp2_with fail;refine eB (v:=.int .i64 0) (by simp[results,results166,go_sem]) rfl ?_;have N:=QlQ hm I.o HL.o a5.o HW.o;rw[HA.o]at N;exact⟨rfl,N⟩
end Go.Proofs.YtdiecmkpbadgjaaGreatDoor
namespace Go.Proofs.YtdiecmkpbadgjaaGreatDoor
open Go.Proofs.Tryz
open Go.RowKit Go.Maps Go.Shelf
structure OvX(H:Nat->Prop)(w:World)(O:Nat)(d:OD)(M:List Ent):Prop where
 ov:QcK H w O d
 rel:QiZ (Qaa d.T) (Qhe d.C) M
structure GoX(H:Nat->Prop)(w:World)(O:Nat)(d:OD)(M':List Ent)(n:Nat)(w':World)(d':OD):Prop where
 go:Qok H w O d d' w'
 T:d'.T=d.T
 rel:QiZ (Qaa d.T) (Qhe d'.C) M'
 us:d.us <+: d'.us
 hs:d.Hs <+: d'.Hs
 few:d'.us.length<=d.us.length+n
section
variable{H : Nat -> Prop}{w w' w1 w2 : World}{O : Nat}{d d' d1 d2 : OD}{M M1 M2 : List Ent}{n m : Nat}
theorem GoX.at_(h:GoX H w O d M1 n w1 d1):OvX H w1 O d1 M1:=⟨h.go.at_,by rw[h.T];exact h.rel⟩
theorem OvX.nw(h:OvX H w O d M)(k:Nw w w'):OvX H w' O d M:=⟨h.ov.nw k,h.rel⟩
theorem GoX.more(h:GoX H w O d M1 n w1 d1)(k:n<=m):GoX H w O d M1 m w1 d1:=⟨h.go,h.T,h.rel,h.us,h.hs,an h.few oM⟩
theorem GoX.trans(h:GoX H w O d M1 n w1 d1)(k:GoX H w1 O d1 M2 m w2 d2):GoX H w O d M2 (n+m) w2 d2:=
 ⟨⟨k.go.at_,h.go.sb.comp k.go.sb λi hi e=>(h.go.new i e).elim id λh2=>oM,λb I=>(k.go.new b I).elim (h.go.new b) λh2=>.inr (an h.go.sb.size h2)⟩,k.T.trans h.T,by have:=k.rel;rwa[h.T]at this,h.us.trans k.us,h.hs.trans k.hs,by have:=h.few;have:=k.few;omega⟩
theorem GoX.since(k:Nw w w1)(h:GoX H w1 O d M1 n w2 d1):GoX H w O d M1 n w2 d1:=
 ⟨⟨h.go.at_,(k.any _).trans h.go.sb,λb I=>(h.go.new b I).imp id (an k.size)⟩,h.T,h.rel,h.us,h.hs,h.few⟩
theorem OvX.stay(h:OvX H w O d M)(k:Nw w w'):GoX H w O d M n w' d:=⟨⟨h.ov.nw k,k.any _,λb I=>.inl I⟩,rfl,h.rel,dF _,dF _,dG _ _⟩
theorem OvX.now(h:OvX H w O d M)(k:ByteArray):d.now k=Qaq M k:=h.rel.now k
theorem OvX.QuU(h:OvX H w O d M){k:ByteArray}{sv:SV}{mb:Option Nat}{s:Sl}(N:Qok H w O d (d.step k sv mb s) w')(I:QiZ (Qaa d.T) (Qhe (QcX d.C k sv)) M1):GoX H w O d M1 1 w' (d.step k sv mb s):=
 ⟨N,rfl,I,List.prefix_append _ _,List.prefix_append _ _,by show(d.us++_).length<=_;rw[aj];exact ao _⟩
theorem Quh(h:OvX H w O d M)(I:(Qaa d.T).length<=1000000){k:ByteArray}(N:k.size<=maxLen) :
  Calls prog 196 #[.pointer (some ⟨O,0,none⟩),.string k] w (QbC (Qaq M k) w):=by
 have:=QsA h.ov I N;rw[h.now k]at this;exact this
theorem QqS(h:OvX H w O d M)(hH:∀b,H b->b<w.heap.size)(hn:d.us.length<=1000000){k:ByteArray}(hk:k.size<=maxLen){v:Val}{sl so:Sl}(hv:RV w (Lt w) v sl so)(hc:QcI v<=1100000)(hL:Qb4 w) :
  Calls prog 167 #[.pointer (some ⟨O,0,none⟩),.string k,QbV v sl so] w λe w'=>e=.returned (.int .i64 (setMu M k v).1)/\∃d',GoX H w O d (setMu M k v).2 1 w' d':=
 (Qsd h.ov hH hn hk hv hc hL).mono λe w' ⟨he,hp⟩=>by
   have N:(setMu M k v).1=Qon k v:=by
    unfold setMu Qon;split
    .rfl
    split
    .rfl
    rename_i Z;simpa using(Decidable.not_not.1 Z).symm
   refine⟨by rw[he,N],?_⟩;rcases hp with⟨I,a0,a1,mb,s,ht⟩ |⟨I,hq⟩
   ·have hm:Qci k=0:=by
     unfold Qon at I;by_cases h1:Qci k=0
     .exact h1
     rw[eu h1]at I;cases I
    have Z:QcP v=0:=by
     unfold Qon at I;rwa[eh (by simp[hm])]at I
    have hs:(setMu M k v).2=QbY M k v:=by
     unfold setMu;rw[eh (by simp[hm]),eh (by simp[Z])]
    rw[hs];exact⟨_,h.QuU ht (h.rel.put hm ⟨hv.wf,Z⟩ (QhM (Qbu h.ov.sorted _ _)) λx=>Qms d.C k _ x)⟩
   have hs:(setMu M k v).2=M:=by
    unfold setMu;unfold Qon at I;by_cases h1:Qci k=0
    ·rw [eh (by simp [h1])] at I
     rw[eh (by simp[h1]),eu I]
    rw[eu h1]
   rw[hs];exact⟨d,h.stay hq⟩
theorem Qvk(h:OvX H w O d M)(hH:∀b,H b->b<w.heap.size)(hn:d.us.length<=1000000)(hl:(Qaa d.T).length<=1000000){k:ByteArray}(hk:k.size<=maxLen) :
  Calls prog 168 #[.pointer (some ⟨O,0,none⟩),.string k] w λe w'=>e=.returned (.bool (Qaq M k).isSome)/\∃d',GoX H w O d (QbM M k) 1 w' d':=
 (QoZ h.ov hH hn hl hk).mono λe w' ⟨Z,hp⟩=>by
   rw[h.now k]at Z hp;refine⟨Z,?_⟩;rcases hp with⟨I,hq⟩ |⟨I,mb,s,ht⟩
   ·have hd:QbM M k=M:=by
     refine Qe0 (QaN h.rel.ok.sorted k) h.rel.ok.sorted λx=>?_
     rw[Qcx _ _ _ h.rel.ok.sorted];by_cases N:x=k
     ·rw [eu N,N]
      cases hg:Qaq M k with
      |none=>rfl
      |some y=>rw[hg]at I;cases I
     rw[eh N]
    rw[hd];exact⟨d,h.stay hq⟩
   exact⟨_,h.QuU ht (h.rel.del (QhM (Qbu h.ov.sorted _ _)) λx=>Qms d.C k _ x)⟩
theorem Qvj(h:OvX H w O d M)(g:GoX H w O d M1 n w1 d1)(Z:d1.us.length<=1000000) :
  Calls prog 166 #[.pointer (some ⟨O,0,none⟩),.int .i64 (d.us.length:Int)] w1 λe w'=>e=.returned (.int .i64 0)/\∃d2,GoX H w O d M 0 w' d2/\d2.us=d.us:=
 (QsX g.go.at_ Z (m:=d.us.length) g.us.length_le).mono λe w' ⟨he,I⟩=>by
   have hu:d1.us.take d.us.length=d.us:=(cQ.1 g.us).symm;have N:d.Hs.length=d.us.length+1:=h.ov.hist.len;have hh:d1.Hs.take (d.us.length+1)=d.Hs:=by rw[<-N];exact(cQ.1 g.hs).symm
   have hC:Qdp d1.us d1.C d.us.length=d.C:=by
    have h1:=g.go.at_.hist.back g.go.at_.last (d1.us.length-d.us.length) d.us.length (by have:=g.us.length_le;omega);obtain⟨t,I⟩:=g.hs;rw[<-I,bn oM,h.ov.last]at h1;injection h1 with h1;exact h1.symm
   refine⟨he,⟨d1.T,d1.mb,d1.s,d1.us.take d.us.length,d1.Hs.take (d.us.length+1),Qdp d1.us d1.C d.us.length⟩,⟨⟨I.at_,g.go.sb.comp I.sb λi hi e=>(g.go.new i e).elim id λh2=>oM,λb hb=>(I.new b hb).elim (g.go.new b) λh2=>.inr (an g.go.sb.size h2)⟩,g.T,?_,?_,?_,?_⟩,hu⟩
   ·show QiZ _ (Qhe (Qdp d1.us d1.C d.us.length)) M
    rw[hC];exact h.rel
   ·show d.us <+: d1.us.take d.us.length
    rw[hu];exact dF _
   ·show d.Hs <+: d1.Hs.take (d.us.length+1)
    rw[hh];exact dF _
   show(d1.us.take d.us.length).length<=_;rw[hu];exact ao _
theorem Qql{B:List Ent}{C:Slots}(h:QiZ B C B):idleC B C:=λk s I=>by
 have h1:=h.now k;rw[QkO,I]at h1;cases s with
 |none=>exact h1.symm
 | some v=>
   show(Qaq B k).any _=true;rw[<-h1];simp[QcN]
theorem QvR(h:OvX H w O d M)(N:(Qaa d.T).length+d.C.length<=1000000) :
  Calls prog 96 #[.pointer (some ⟨O,0,none⟩)] w λe w'=>∃T',e=.returned (Qao T')/\OkR T'/\IsT w' (Up (OvF H w O d) w w') T'/\Qaa T'=M/\Nw w w'/\(M=Qaa d.T->T'=d.T):=
 (QoR h.ov N).mono λe w' ⟨T',he,ok,hT,hen,hn,hi⟩=>⟨T',he,ok,hT,hen.trans h.rel.com,hn,λI=>hi (Qql (by have:=h.rel;rwa[I]at this))⟩
end
section
variable{P : Program}{ops : Array Oper}{Q : Exit -> Act -> World -> Prop}{md : Region.Mode}{S : World -> Prop}
theorem Qrs(i:Nat)(d:Option Tmp)(ty:TypeId)(x:Operand){b o:Nat}{cs:Array Value}{ds:TypeDesc}{Z:Oper}{N:Nat}{I l':Array Bool}{a a':Act}{w:World}(hC:Yd (∀W,S W->W.rangeAt b o cs.toList))(hS:S w)
  (hT:P.underlying ty=some ds/\ds.isRow=true/\(P.info? ty).map (·.size)=some cs.size) (h:wpAnyH P md ops Q S N l' a' w)
  (hi:ops[i]? = some Z:=by rfl) (ho:Z.op=.load ty x:=by rfl) (hx:a.eval x=.pointer (some ⟨b,o,none⟩):=by rfl) (hd:Z.dst=d:=by rfl) (hs:Region.noSelect ops=true:=by kernel_rfl) (hf:Region.free md ops I i=true:=by kernel_rfl) (hr:(Region.ready md ops I).contains i=true:=by kernel_rfl)
  (hQ:∀c a w,Q (.panic c) (a.put d (.agg cs)) w->Q (.panic c) a w:=by exactλ_ _ _ h=>h) (hw:Region.wanted Z (yielded ops a.tmps)=true:=by rfl)
  (hl:I.setIfInBounds i true=l':=by first |(simp only[List.setIfInBounds_toArray,List.set_cons_zero,List.set_cons_succ];rfl)|rfl)
  (hp:a.put d (.agg cs)=a':=by first |(go_frame;rfl)|rfl):wpAnyH P md ops Q S (N+1) I a w:=by
 subst hl hp;refine Qk8 hi hd hs hf hr hQ hw hS (λW hW=>?_) h;unfold execOp;simp only[ho,hx,Instr.loadAt,Instr.sureAddr,Sem.run_bind,Sem.run_pure,Result.andThen_ok,run_loadVar_mid W b o ty cs.toList ds (hC.out W hW) hT.1 hT.2.1 (by rw[Array.length_toList];exact hT.2.2),Array.toArray_toList]
end
variable{w:World}
theorem Qe3{b t n:Nat}{cs:Array Value}(h:Blk w b t cs)(I:n<=cs.size):w.there b 0 n:=λj N=>
 ⟨by rw[h.cell];simp;omega,h.frozen _⟩
theorem Ext.setCells{w:World}{b:Nat}(I:w<=b):∀(vs:List Value) (o:Nat) {W:World},Ext w W->Ext w (W.setCells b o vs)
 |[],_,_,h=>h
 | v :: vs,o,W,h=>by
   rw[World.setCells];exact Ext.setCells I vs (o+1) (h.setCell (p:=⟨b,o,none⟩) I v)
abbrev fg:=@wpList_store_mid
abbrev fC:=@World.rangeAt_setCells_same
abbrev Qa2(m:Mu)(c:MuS):Array Value:=(Qan m c).toArray
theorem QfD(m:Mu)(c:MuS):(Qan m c).length=19:=rfl
theorem Tryz.Qem:(prog.info? 37).map (·.size)=some 19:=kM
variable{c:MuS}
theorem MuC.range{b o:Nat}{m:Mu}(h:MuC w b o m c):w.rangeAt b o (Qan m c):=h
theorem MuC.Qax{w:World}{b:Nat}{t:TypeId}{m:Mu}{c:MuS}(h:Blk w b t (Qa2 m c)):MuC w b 0 m c:=λj u hu=>by
 rw[aD,h.cell];simpa using hu
theorem MuC.lt{b o:Nat}{m:Mu}(h:MuC w b o m c):b<w:=eH w _ (h 0 _ rfl)
variable{w':World}
theorem MuC.ext{b o:Nat}{m:Mu}(h:MuC w b o m c)(k:Ext w w'):MuC w' b o m c:=λj u hu=>(k.cell h.lt).trans (h j u hu)
variable{ops:Array Oper}{a:Act}{Q:Exit->Act->World->Prop}
theorem Qah{rest:List Oper}{op:Oper}(I:op.guard=none)(x:Operand)(N:op.op=.load 37 x)
  (b o:Nat) (Z:a.eval x=.pointer (some ⟨b,o,none⟩)) (m:Mu) (c:MuS) (hc:MuC w b o m c) (h:wpList prog ops Q rest (a.put op.dst (Qaz m c)) w):wpList prog ops Q (op::rest) a w:=
 wpList_load_mid I 37 x N b o Z (Qan m c) _ hc.range underlying37 rfl (by rw[QfD];exact Tryz.Qem) h
theorem Qcv{b:Nat}{t:TypeId}:∀(vs:List Value) (o:Nat) {w:World} {z:Array Value},Blk w b t z->∃I,Blk (w.setCells b o vs) b t I/\I.size=z.size
 |[],_,_,z,h=>⟨z,h,rfl⟩
 | v :: vs,o,w,z,h=>by
   obtain⟨I,h1,h2⟩:=Qcv vs (o+1) (h.QbH o v);exact⟨I,h1,by rw[h2];simp⟩
variable{w0:World}
theorem QiR{rest:List Oper}{op:Oper}(a0:op.guard=none)(x y:Operand)(ho:op.op=.store 37 x y)
  (m:Mu) (c:MuS) {b:Nat} (hb:w0.heap.size=b) (hw:Ext w0 w) {z:Array Value} (hz:Blk w b 37 z) (Z:z.size=19) (hx:a.eval x=.pointer (some ⟨b,0,none⟩)) (hy:a.eval y=Qaz m c)
  (h:∀w',Ext w0 w'->Blk w' b 37 (Qa2 m c)->wpList prog ops Q rest (a.put op.dst undef) w'):wpList prog ops Q (op::rest) a w:=by
 have I:w.there b 0 (Qa2 m c).size:=Qe3 hz (by rw[Z];exact ao 19);refine fg a0 37 x y ho b 0 (Qa2 m c) hx hy I (by exact Tryz.Qem) ?_ (h _ (Ext.setCells oM _ _ hw) ?_)
 ·show ((Qan m c).toArray.all _)=true
  simp[Qan,Value.oneCell']
 have hr:=fC w b 0 (Qan m c) I;obtain⟨z',h1,h2⟩:=Qcv (Qan m c) 0 hz;have a1:z'.toList=Qan m c:=by
  refine bI λj=>?_
  rw[bJ];by_cases hj:j<19
  ·obtain ⟨v,hv⟩:∃ v,(Qan m c)[j]? = some v:=⟨_,ac hj⟩
   have h3:=hr j v hv;rw[aD,h1.cell]at h3;rw[h3,hv]
  rw[Array.getElem?_eq_none oM,aJ (by rw[QfD];omega)]
 have N:z'=Qa2 m c:=dE.1 (a1.trans (bT).symm);have e:(Qa2 m c).toList=Qan m c:=bT;rw[e,<-N];exact h1
theorem QiJ(m:Mu)(c:MuS):∃I,prog.underlying 37=some I/\I.isRow=true/\(prog.info? 37).map (·.size)=some (Qa2 m c).size:=⟨_,underlying37,rfl,Tryz.Qem⟩
abbrev fT:=@MuC.Qax
abbrev fv:=@all_oneCell_toArray
def QuS:List Value->Nat->List Value->List Value
 |l,_,[]=>l
 |l,o,v::vs=>QuS (l.set o v) (o+1) vs
theorem Qh4{b:Nat}{t:TypeId}:∀(vs:List Value) (o:Nat) {w:World} {l:List Value},Blk w b t l.toArray->Blk (w.setCells b o vs) b t (QuS l o vs).toArray
 |[],_,_,_,h=>h
 | v :: vs,o,w,l,h=>by
   have h2:=h.QbH o v;rw[ae]at h2;exact Qh4 vs (o+1) h2
theorem Qfq(w:World)(b o:Nat)(ty:TypeId){v:Value}(I:Array Value)(hv:v.cells=I)(ht:w.there b o I.size)(hi:(prog.info? ty).map (·.size)=some I.size)(h1:I.all (·.oneCell')=true) :
  (storeVar ty ⟨b,o,none⟩ v).run prog w=.ok () (w.setCells b o I.toList):=by
 have:=run_storeCells_cells (P:=prog) b o I.toList 0 w (λj Z=>by simpa using(ht j (by simpa using Z)).1) (λj Z=>by simpa using(ht j (by simpa using Z)).2)
  (λv hv=>(Array.all_eq_true_iff_forall_mem.1 h1) v (by simpa using hv))
 cases N:prog.info? ty with
 |none=>simp[N]at hi
 | some i=>
   have hs:I.size=i.size:=by simp[N]at hi;omega
   simp only[Nat.add_zero]at this;simp[storeVar,sizeOf,typeInfo,N,hv,hs,this]
variable{K:Act->World->Prop}
theorem QiV{op:Oper}(ty:TypeId)(x y:Operand)(ho:op.op=.store ty x y)
  (b o:Nat) (I:Array Value) (hx:a.eval x=.pointer (some ⟨b,o,none⟩)) {v:Value} (Z:a.eval y=v) (hv:v.cells=I)
  (N:w.there b o I.size) (hi:(prog.info? ty).map (·.size)=some I.size) (h1:I.all (·.oneCell')=true)
  (h:K (a.put op.dst undef) (w.setCells b o I.toList)):op.wp prog a w K Q:=by
 unfold Oper.wp execOp;simp only[ho,hx,Z,Instr.storeAt,Instr.sureAddr,Sem.run_bind,Sem.run_pure,Result.andThen_ok,Qfq w b o ty I hv N hi h1];exact h
variable{c':MuS}
theorem QuL{rest:List Oper}{op:Oper}(N:op.guard=none)(hd:op.dst=none){T:TypeId}{x y:Operand}(ho:op.op=.store T x y)
  (vs:List Value) {v:Value} (hy:a.eval y=v) (hv:v.cells=vs.toArray) (hi:(prog.info? T).map (·.size)=some vs.length) (h1:vs.all (·.oneCell')=true)
 {b:Nat} (hb:w0.heap.size≤b) (hw:Ext w0 w) {m:Mu} (hz:Blk w b 37 (Qa2 m c)) (o:Nat) (hl:o+vs.length≤19) (hx:a.eval x=.pointer (some ⟨b,o,none⟩))
  {m':Mu} (he:QuS (Qan m c) o vs=Qan m' c') (h:∀w',Ext w0 w'->Blk w' b 37 (Qa2 m' c')->wpList prog ops Q rest a w'):wpList prog ops Q (op::rest) a w:=by
 have Z:w.there b o vs.toArray.size:=λj hj=>by
  have a0:j<vs.length:=by simpa using hj
  refine⟨?_,hz.frozen _⟩;rw[hz.cell,cg (by rw[bm,QfD];omega)];rfl
 have h2:=Qh4 vs o hz;rw[he]at h2;have I:=h _ (Ext.setCells hb vs o hw) h2;have ep:a.put op.dst undef=a:=by rw[hd];rfl
 refine fA N λK hK=>QiV T x y ho b o vs.toArray hx hy hv Z (by rw[hi,bm]) (fv (df.1 h1)) (hK _ _ ?_)
 rw[ep];exact I
theorem QaR{rest:List Oper}{op:Oper}(N:op.guard=none)(hd:op.dst=none){x y:Operand}(Z:op.op=.store 37 x y)
  (m:Mu) (c:MuS) {b:Nat} (hb:w0.heap.size=b) (hw:Ext w0 w) {z:Array Value} (hz:Blk w b 37 z) (I:z.size=19) (hx:a.eval x=.pointer (some ⟨b,0,none⟩)) (hy:a.eval y=Qaz m c)
  (h:∀w',Ext w0 w'->Blk w' b 37 (Qa2 m c)->wpList prog ops Q rest a w'):wpList prog ops Q (op::rest) a w:=
 QiR N x y Z m c hb hw hz I hx hy λw' h1 h2=>by
  have ep:a.put op.dst undef=a:=by rw[hd];rfl
  rw[ep];exact h w' h1 h2
def QlN(n:Nat)(w:World)(s:Sl)(b:Nat):Prop:=n<=b/\b<w.heap.size/\s.row≠some b
theorem Qam{rest:List Oper}{T T':TypeId}{x y:Operand}{ps:String}{af:Array Edge} 
  (vs:List Value) (I:(a.eval y).cells=vs.toArray) (hi:(prog.info? T).map (·.size)=some vs.length) (h1:vs.all (·.oneCell')=true)
 {b:Nat} (Z:w0.heap.size≤b) (hw:Ext w0 w) {m:Mu} (hz:Blk w b 37 (Qa2 m c)) (o:Nat) (hl:o+vs.length≤19) (hx:a.eval x=.pointer (some ⟨b,o,none⟩))
  (m':Mu) (c':MuS) (N:QuS (Qan m c) o vs=Qan m' c') (h:∀w',Ext w0 w'->Blk w' b 37 (Qa2 m' c')->wpList prog ops Q rest a w') :
  wpList prog ops Q (⟨none,.store T x y,T',ps,af,none⟩::rest) a w:=
 QuL rfl rfl rfl vs rfl I hi h1 Z hw hz o hl hx N h
theorem Qiq{α:Type}{f:α->List Value}{k:Nat}(I:∀a,(f a).length=k):∀(l:List α) (j:Nat) (a:α),l[j]? = some a->∀i u,(f a)[i]? = some u->(l.flatMap f)[j*k+i]? = some u
 |[],j,a,h,_,_,_=>by simp at h
 | x :: r,0,a,h,i,u,hu=>by
   have:x=a:=by simpa using h
   subst this;rw[aZ,cq,aD,bn (ai.1 hu).1];exact hu
 | x :: r,j+1,a,h,i,u,hu=>by
   rw[aZ,aQ (by rw[I,Nat.succ_mul];omega),I,show(j+1)*k+i-k=j*k+i by rw[Nat.succ_mul];omega];exact Qiq I r j a (by simpa using h) i u hu
theorem Qml(p:Mu × MuS):∀u∈Qan p.1 p.2,u.oneCell'=true:=by
 intro u hu;simp only[Qan,List.mem_cons,List.not_mem_nil,or_false]at hu;rcases hu with rfl|rfl|rfl|rfl|rfl|rfl|rfl|rfl|rfl|rfl|rfl|rfl|rfl|rfl|rfl|rfl|rfl|rfl|rfl<;>rfl
theorem Qba(g:Nat):∀(vs:List Value) (o:Nat) (W:World),Agree (λb=>b≠g) W (W.setCells g o vs)/\(W.setCells g o vs).heap.size=W.heap.size
 |[],_,W=>⟨Agree.refl _,rfl⟩
 | v :: vs,o,W=>by
   obtain⟨h1,h2⟩:=Qba g vs (o+1) (W.setCell ⟨g,o,none⟩ v);exact⟨(fO W ⟨g,o,none⟩ v λh=>h rfl).trans h1,h2.trans (eC _ _ _)⟩
variable{vs:List Value}
theorem Qp6{w v:World}{b o:Nat}{T:TypeId}{m m':Mu}(I:Blk w b T (Qa2 m c))(h:w.setCells b o vs=v)(N:QuS (Qan m c) o vs=Qan m' c'):Blk v b T (Qa2 m' c')/\Agree (λi=>i≠b) w v/\v.heap.size=w.heap.size:=by
 subst h;obtain⟨h1,h2⟩:=Qba b vs o w;exact⟨by have:=Qh4 vs o I;rwa[N]at this,h1,h2⟩
structure Nm where
 id:Int
 m:Mu
instance : Inhabited Nm :=⟨⟨0, default⟩⟩
def Qbw(n:Nm)(c:MuS):List Value:=.int .u64 n.id::Qan n.m c
abbrev QqR(n:Nm)(c:MuS):Value:=.agg (Qbw n c).toArray
abbrev Qh5(n:Nm)(c:MuS):Array Value:=(Qbw n c).toArray
theorem Qtp(n:Nm)(c:MuS):(Qbw n c).length=20:=rfl
theorem Qtw(p:Nm × MuS):∀u∈Qbw p.1 p.2,u.oneCell'=true:=by
 intro u hu;rcases aH.1 hu with rfl|hu
 .rfl
 exact Qml (p.1.m,p.2) u hu
def NmC(w:World)(b o:Nat)(n:Nm)(c:MuS):Prop:=∀(j:Nat) (u:Value),(Qbw n c)[j]? = some u->w.cell? ⟨b,o+j,none⟩=some u
variable{F:Nat->Prop}
theorem NmC.agree{b o:Nat}{n:Nm}(h:NmC w b o n c)(N:Agree F w w')(I:F b):NmC w' b o n c:=λj u hu=>(N.cell I).trans (h j u hu)
theorem NmC.mu{b o:Nat}{n:Nm}(h:NmC w b o n c):MuC w b (o+1) n.m c:=λj u hu=>by
 have h1:=h (j+1) u hu;rwa[show o+(j+1)=o+1+j by omega]at h1
theorem NmC.id{b o:Nat}{n:Nm}(h:NmC w b o n c):w.cell? ⟨b,o,none⟩=some (.int .u64 n.id):=h 0 _ rfl
theorem NmC.range{b o:Nat}{n:Nm}(h:NmC w b o n c):w.rangeAt b o (Qbw n c):=h
theorem NmC.Qax{b:Nat}{t:TypeId}{n:Nm}(h:Blk w b t (Qh5 n c)):NmC w b 0 n c:=λj u hu=>by
 rw[aD,h.cell];simpa using hu
theorem NmC.lt{b o:Nat}{n:Nm}(h:NmC w b o n c):b<w:=eH w _ (h 0 _ rfl)
theorem NmC.ext{b o:Nat}{n:Nm}(h:NmC w b o n c)(k:Ext w w'):NmC w' b o n c:=λj u hu=>(k.cell h.lt).trans (h j u hu)
structure Qa7(w:World)(F:Nat->Prop)(s:Sl)(l:List Nm):Prop where
 ex:∃(b o:Nat) (c:Nat->MuS),Qd5 F s l.length b o/\(∀j n,l[j]? = some n->NmC w b (o+j*20) n (c j))/\∀j n,l[j]? = some n->RMu w F n.m (c j)
 wf:∀n∈l,(Lit.int .u64 n.id).wf=true
 len:l.length*272<=140737488355328
variable{s:Sl}
theorem Qa7.agree{l:List Nm}(h:Qa7 w F s l)(N:Agree F w w'):Qa7 w' F s l:=by
 obtain⟨b,o,c,h1,h2,Z⟩:=h.ex;exact⟨⟨b,o,c,h1,λj n I=>(h2 j n I).agree N (h1.fits (QaW I)),λj n I=>(Z j n I).agree N⟩,h.wf,h.len⟩
variable{G:Nat->Prop}
theorem Qa7.mono{l:List Nm}(h:Qa7 w F s l)(I:∀b,F b->G b):Qa7 w G s l:=by
 obtain⟨b,o,c,h1,h2,Z⟩:=h.ex;exact⟨⟨b,o,c,h1.mono I,h2,λj n N=>(Z j n N).mono I⟩,h.wf,h.len⟩
theorem Qa7.ext{l:List Nm}(h:Qa7 w F s l)(k:Ext w w')(hF:∀b,F b->b<w.heap.size):Qa7 w' F s l:=h.agree (k.agree hF)
theorem Qa7.nil(w:World)(F:Nat->Prop):Qa7 w F Sl.none []:=⟨⟨0,0,λ_=>default,.nil _ _,λj n h=>by simp at h,λj n h=>by simp at h⟩,λn h=>(by cases h),sM⟩
variable{j:Nat}
theorem Qa7.at{l:List Nm}(h:Qa7 w F s l){x:Nm}(I:l[j]? = some x) :
  ∃b o y,s.a=some ⟨b,o,none⟩/\F b/\l.length<=s.c/\s.c<=maxLen/\NmC w b (o+j*20) x y/\RMu w F x.m y:=by
 obtain⟨b,o,c,h1,h2,h3⟩:=h.ex;obtain⟨N,e2,Z⟩:=h1.eq (QaW I);exact⟨b,o,c j,N,h1.fits (QaW I),e2,Z,h2 j x I,h3 j x I⟩
theorem RMu.mk'{m:Mu}(h:RMu w F m c)(h1:RV w' G m.was c'.w1 c'.w2)(h2:RV w' G m.v c'.v1 c'.v2){bl fl:Nat}{cl:Nat->MuS}(Z:Qd5 G c'.s m.l.length bl fl)
  (I:∀j x,m.l[j]? = some x->MuC w' bl (fl+j*19) x (cl j)) (N:∀j x,m.l[j]? = some x->RMu w' G x (cl j)):RMu w' G m c':=by
 cases h with
 |mk bl0 fl0 cl0 rw_ rv hl0 el0 rl0 bk bt bkd bi nl=>exact .mk bl fl cl h1 h2 Z I N bk bt bkd bi nl
theorem QuJ{base n c:Nat}{a:Option Addr}{e:TypeId}{ys:List (Mu × MuS)}(h:w.ownsRow base e 19 (.slice a n c) n (ys.flatMap λp=>Qan p.1 p.2))(Z:ys.length=n) :
  ∃bl fl,Qd5 (In base w.heap.size) ⟨a,c⟩ n bl fl/\∀j p,ys[j]? = some p->MuC w bl (fl+j*19) p.1 p.2:=by
 obtain⟨b,o,h1,h2,N⟩:=fP h;refine⟨b,o,h1,λj p I i u hu=>?_⟩;have:=N (j*19+i) u (Qiq (f:=λp:Mu × MuS=>Qan p.1 p.2) (λ_=>rfl) ys j p I i u hu);rwa[show o+(j*19+i)=o+j*19+i by omega]at this
theorem QuK{base n c:Nat}{a:Option Addr}{e:TypeId}{ys:List (Nm × MuS)}(h:w.ownsRow base e 20 (.slice a n c) n (ys.flatMap λp=>Qbw p.1 p.2))(Z:ys.length=n) :
  ∃bl fl,Qd5 (In base w.heap.size) ⟨a,c⟩ n bl fl/\∀j p,ys[j]? = some p->NmC w bl (fl+j*20) p.1 p.2:=by
 obtain⟨b,o,h1,h2,N⟩:=fP h;refine⟨b,o,h1,λj p I i u hu=>?_⟩;have:=N (j*20+i) u (Qiq (f:=λp:Nm × MuS=>Qbw p.1 p.2) (λ_=>rfl) ys j p I i u hu);rwa[show o+(j*20+i)=o+j*20+i by omega]at this
end Go.Proofs.YtdiecmkpbadgjaaGreatDoor
