/- Steps to the theorem. -/
import Derived.Test.YtdiecmkpbadgjaaGreatDoorPsi
set_option linter.all false
set_option maxRecDepth 100000
set_option maxHeartbeats 4000000
namespace Go.Proofs.YtdiecmkpbadgjaaGreatDoor
open Go.Proofs.Tryz
open Go.RowKit Go.Maps Go.Shelf
abbrev QvG:List (Nm × MuS):=[(⟨1,Qfg kN 1⟩,yS),(⟨2,Qil kN⟩,yS),(⟨3,Qfg kN 1⟩,yS)]
variable{w:World}{B:Nat}
theorem Quw{l:List (Nm × MuS)}(hb:Blk w B 39 (Qd6 l).toArray)(Z:∀p∈l,RMu w (Lt w) p.1.m p.2/\(Lit.int .u64 p.1.id).wf=true)(hl:l.length<=1000):Qa7 w (Lt w) ⟨some B,l.length⟩ (l.map Prod.fst):=by
 refine⟨⟨B,0,λj=>((l[j]?).getD default).2,?_,λj n I=>?_,λj n I=>?_⟩,λn hn=>?_,by rw[aq];omega⟩
 ·rw [aq]
  exact .some _ _ _ _ (ao _) (ak hl oN) hb.lt
 ·rw [ar] at I
  cases N:l[j]? with
  |none=>rw[N]at I;cases I
  | some p=>
    rw[N]at I;injection I with I;subst I;intro i u hu;have hu:(Qbw p.1 p.2)[i]? = some u:=by
     have h:=hu;dsimp only at h;rw[N]at h;exact h
    rw[aD,hb.cell,List.getElem?_toArray];exact Qiq (f:=λp:Nm × MuS=>Qbw p.1 p.2) (λ_=>rfl) l j p N i u hu
 ·rw [ar] at I
  cases N:l[j]? with
  |none=>rw[N]at I;cases I
  | some p=>
    rw[N]at I;injection I with I;subst I;dsimp only;rw[N];exact(Z p (am N)).1
 obtain⟨p,N,rfl⟩:=bY.1 hn;exact(Z p N).2
variable{F:Nat->Prop}{s s':Sl}
theorem Qa7.drop{l:List Nm}(h:Qa7 w F s l){k:Nat}(hk:k<=l.length)(ha:s'.a=if s.c=k then s.a else s.a.map (·.add (k*20)))(hc:s'.c=s.c-k):Qa7 w F s' (l.drop k):=by
 obtain⟨b,o,c,hs,Z,hr⟩:=h.ex;obtain⟨a1,a2⟩:=s';dsimp only at ha hc;subst ha hc;have a0:=h.len;refine⟨⟨b,o+k*20,λj=>c (k+j),?_,λj n N=>?_,λj n N=>?_⟩,λn hn=>h.wf n (aN hn),by rw[aw];omega⟩
 ·rw [aw]
  generalize l.length=n at hs hk;cases hs with
  | nil=>
    obtain rfl:k=0:=oM
    exact .nil _ _
  | some _ cc _ _ h1 h2 h3=>
    dsimp only;by_cases I:cc=k
    ·subst I
     rw[eH rfl,cu,show n-cc=0 by omega];exact .zero _ _ _
    rw[eE I,bK,Qbc];exact .some _ _ _ _ oM oM h3
  | zero a=>
    obtain rfl:k=0:=oM
    exact .zero _ _ _
 ·rw [bc] at N
  have:=Z (k+j) n N;rwa[show o+(k+j)*20=o+k*20+j*20 by omega]at this
 rw[bc]at N;exact hr (k+j) n N
def QsZ:Array Value:=(Qd6 QvG).toArray
variable{w':World}
theorem Qa7.nw{l:List Nm}(h:Qa7 w (Lt w) s l)(k:Nw w w'):Qa7 w' (Lt w') s l:=(h.agree (gp k λb I=>I)).mono λb I=>ab I k.size
theorem Qa7.up{l:List Nm}(h:Qa7 w F s l)(hF:∀b,F b->b<w.heap.size)(k:Nw w w'):Qa7 w' (Lt w') s l:=(h.mono (G:=Lt w) hF).nw k
variable{cs:List Value}
theorem Rd.nw{k n:Nat}(h:Rd w F k s n cs)(hF:∀b,F b->b<w.heap.size)(e:Nw w w'):Rd w' (Lt w') k s n cs:=(h.agree (gp e hF)).mono λb I=>ab (hF b I) e.size
abbrev l24:List Nm:=[⟨1,Qfg kN 1⟩,⟨2,Qil kN⟩,⟨3,Qfg kN 1⟩]
abbrev muI:Mu:=Qfg kN 1
abbrev muD:Mu:=Qil kN
theorem QoH:prog.built 37 [(0,.int .i64 3),(1,.string kN),(3,.int .i64 1)]=some (Qa2 muI yS):=kM
theorem QoG:prog.built 37 [(0,.int .i64 2),(1,.string kN)]=some (Qa2 muD yS):=kM
theorem QuV:Qcc (Qe6 l24)<=1099000:=by decide +kernel
theorem Qtm:QbK 1 l24=l24.drop 1:=by simp[QbK]
variable{T:RT}
theorem Qvx{l:List Nm}(Z:IsT w F T)(hF:∀b,F b->6<=b/\b<w.heap.size)(ok:OkR T)(hM:OkM (Qaa T))(hl:(Qaa T).length<=1)(I:Qa7 w (Lt w) s l)(hs:l.length<=3)(N:Qcc (Qe6 l)<=1099000)(hL:Qb4 w):Qey w F (Lt w) T s l:=
 ⟨Z,hF,ok,hM,I,λb hb=>hb,hL,oM,N⟩
def Qxj(s:ByteArray)(i:Nat):Nat->Nat->Nat->Option Nat
 |0,_,r=>some r
 |m+1,j,r=>if(s.get! (i+j)).toNat<128\/192<=(s.get! (i+j)).toNat then none else Qxj s i m (j+1) (64*r+(s.get! (i+j)).toNat-128)
def Qy6(n least:Nat)(r:Option Nat):Nat × Nat:=match r with
 |none=>(0,0)
 |some r=>if r<least\/1114111<r\/(55296<=r/\r<57344)then(0,0)else(r,n)
def Qwv(s:ByteArray)(i n base least:Nat):Nat × Nat:=if s.size<i+n then(0,0)else Qy6 n least (Qxj s i (n-1) 1 ((s.get! i).toNat-base))
def Qwc(s:ByteArray)(i:Nat):Nat × Nat:=
 if s.size<=i then(0,0)else if(s.get! i).toNat<128 then((s.get! i).toNat,1)
 else if 192<=(s.get! i).toNat/\(s.get! i).toNat<224 then Qwv s i 2 192 128
 else if 224<=(s.get! i).toNat/\(s.get! i).toNat<240 then Qwv s i 3 224 2048
 else if 240<=(s.get! i).toNat/\(s.get! i).toNat<248 then Qwv s i 4 240 65536 else(0,0)
theorem Qwm(b:UInt8):b.toNat<256:=b.toNat_lt
theorem Qwb:(if((65533,1):Nat × Nat)=(65533,1)then((0,0):Nat × Nat)else(65533,1))=(0,0):=eH rfl
theorem Qx9{v m:Nat}(h:m≠1):(if((v,m):Nat × Nat)=(65533,1)then((0,0):Nat × Nat)else(v,m))=(v,m):=eE (by intro e;injection e with _ e;exact h e)
theorem Qzj(n I b1 b2 N:Nat)(Z:192<=I/\I<224)(h1:b1<256):Lib.decodeN n I b1 b2 N=if n<2\/(b1<128\/192<=b1)\/64*(I-192)+b1-128<128 then(65533,1)else(64*(I-192)+b1-128,2):=by
 unfold Lib.decodeN
 repeat' split
 all_goals first |(exfalso;omega) |(rw[Prod.mk.injEq];omega)
theorem Qzk(n I b1 b2 N:Nat)(Z:224<=I/\I<240)(h1:b1<256)(h2:b2<256):Lib.decodeN n I b1 b2 N=if n<3\/(b1<128\/192<=b1)\/(b2<128\/192<=b2)\/(64*(64*(I-224)+b1-128)+b2-128<2048\/(55296<=64*(64*(I-224)+b1-128)+b2-128/\64*(64*(I-224)+b1-128)+b2-128<57344))then(65533,1)else(64*(64*(I-224)+b1-128)+b2-128,3):=by
 unfold Lib.decodeN
 repeat' split
 all_goals first |(exfalso;omega) |(rw[Prod.mk.injEq];omega)
theorem Qzl(n N b1 b2 I:Nat)(Z:240<=N/\N<248)(h1:b1<256)(h2:b2<256)(h3:I<256):Lib.decodeN n N b1 b2 I=if n<4\/(b1<128\/192<=b1)\/(b2<128\/192<=b2)\/(I<128\/192<=I)\/(64*(64*(64*(N-240)+b1-128)+b2-128)+I-128<65536\/1114111<64*(64*(64*(N-240)+b1-128)+b2-128)+I-128)then(65533,1)else(64*(64*(64*(N-240)+b1-128)+b2-128)+I-128,4):=by
 unfold Lib.decodeN
 repeat' split
 all_goals first |(exfalso;omega) |(rw[Prod.mk.injEq];omega)
theorem Qzi(n I b1 b2 N:Nat)(h0:128<=I)(h2:¬(192<=I/\I<224))(h3:¬(224<=I/\I<240))(Z:¬(240<=I/\I<248)):Lib.decodeN n I b1 b2 N=(65533,1):=by
 unfold Lib.decodeN
 repeat' split
 all_goals first |(exfalso;omega) |(rw[Prod.mk.injEq];omega)
theorem Qyo(s:ByteArray)(i:Nat):Qwc s i=if s.size<=i\/Utf8.decode s i=(65533,1)then(0,0)else Utf8.decode s i:=by
 unfold Qwc;by_cases hi:s.size<=i
 .rw [eH hi,eH (.inl hi)]
 rw[eE hi];simp only[hi,false_or];rw[Lib.decode_at];unfold Qwv Qy6;have e1:∀m j r,Qxj s i (m+1) j r=if(s.get! (i+j)).toNat<128\/192<=(s.get! (i+j)).toNat then none else Qxj s i m (j+1) (64*r+(s.get! (i+j)).toNat-128):=λ_ _ _=>rfl
 have e0:∀j r,Qxj s i 0 j r=some r:=λ_ _=>rfl
 have h0:=Qwm (s.get! i);have h1:=Qwm (s.get! (i+1));have h2:=Qwm (s.get! (i+2));have h3:=Qwm (s.get! (i+3));simp only[Nat.reduceSub,e1,e0,Nat.reduceAdd];generalize (s.get! i).toNat=N at *;generalize (s.get! (i+1)).toNat=b1 at *;generalize (s.get! (i+2)).toNat=b2 at *;generalize (s.get! (i+3)).toNat=b3 at *;generalize hn:s.size-i=n;have a0:(s.size<i+2)=(n<2):=propext ⟨λh=>oM,λh=>oM⟩;have a1:(s.size<i+3)=(n<3):=propext ⟨λh=>oM,λh=>oM⟩;have a2:(s.size<i+4)=(n<4):=propext ⟨λh=>oM,λh=>oM⟩;simp only[a0,a1,a2];clear a0 a1 a2 e1 e0 hn hi;by_cases c1:N<128
 .rw [eH c1,Lib.decodeN_ascii n N b1 b2 b3 c1,eE (by intro e;injection e with e;omega)]
 rw[eE c1];by_cases c2:192<=N/\N<224
 ·rw [eH c2]
  have hd:=Qzj n N b1 b2 b3 c2 h1;by_cases I:n<2
  ·rw [eH (.inl I)] at hd
   rw[eH I,hd,Qwb]
  by_cases Z:b1<128\/192<=b1
  ·rw [eH (.inr (.inl Z))] at hd
   rw[eE I,eH Z,hd,Qwb]
  by_cases q3:64*(N-192)+b1-128<128
  ·rw [eH (.inr (.inr q3))] at hd
   rw[eE I,eE Z,hd,Qwb];show(if _ then _ else _)=_;rw[eH (.inl q3)]
  rw[eE oM]at hd;rw[eE I,eE Z,hd,Qx9 oN];show(if _ then _ else _)=_;rw[eE oM]
 rw[eE c2];by_cases c3:224<=N/\N<240
 ·rw [eH c3]
  have hd:=Qzk n N b1 b2 b3 c3 h1 h2;by_cases I:n<3
  ·rw [eH (.inl I)] at hd
   rw[eH I,hd,Qwb]
  by_cases Z:b1<128\/192<=b1
  ·rw [eH (.inr (.inl Z))] at hd
   rw[eE I,eH Z,hd,Qwb]
  by_cases q3:b2<128\/192<=b2
  ·rw [eH (.inr (.inr (.inl q3)))] at hd
   rw[eE I,eE Z,eH q3,hd,Qwb]
  by_cases q4:64*(64*(N-224)+b1-128)+b2-128<2048\/(55296<=64*(64*(N-224)+b1-128)+b2-128/\64*(64*(N-224)+b1-128)+b2-128<57344)
  ·rw [eH (.inr (.inr (.inr q4)))] at hd
   rw[eE I,eE Z,eE q3,hd,Qwb];show(if _ then _ else _)=_;rw[eH oM]
  rw[eE oM]at hd;rw[eE I,eE Z,eE q3,hd,Qx9 oN];show(if _ then _ else _)=_;rw[eE oM]
 rw[eE c3];by_cases c4:240<=N/\N<248
 ·rw [eH c4]
  have hd:=Qzl n N b1 b2 b3 c4 h1 h2 h3;by_cases I:n<4
  ·rw [eH (.inl I)] at hd
   rw[eH I,hd,Qwb]
  by_cases Z:b1<128\/192<=b1
  ·rw [eH (.inr (.inl Z))] at hd
   rw[eE I,eH Z,hd,Qwb]
  by_cases q3:b2<128\/192<=b2
  ·rw [eH (.inr (.inr (.inl q3)))] at hd
   rw[eE I,eE Z,eH q3,hd,Qwb]
  by_cases q5:b3<128\/192<=b3
  ·rw [eH (.inr (.inr (.inr (.inl q5))))] at hd
   rw[eE I,eE Z,eE q3,eH q5,hd,Qwb]
  by_cases q4:64*(64*(64*(N-240)+b1-128)+b2-128)+b3-128<65536\/1114111<64*(64*(64*(N-240)+b1-128)+b2-128)+b3-128
  ·rw [eH (.inr (.inr (.inr (.inr q4))))] at hd
   rw[eE I,eE Z,eE q3,eE q5,hd,Qwb];show(if _ then _ else _)=_;rw[eH oM]
  rw[eE oM]at hd;rw[eE I,eE Z,eE q3,eE q5,hd,Qx9 oN];show(if _ then _ else _)=_;rw[eE oM]
 rw[eE c4,Qzi n N b1 b2 b3 oM c2 c3 c4,Qwb]
theorem QwE(s:ByteArray)(i:Nat)(h:i<s.size):s.get! i=s[i]'h:=by
 cases s with
 |mk d=>exact getElem!_pos d i h
variable{r j:Nat}
theorem QwR(I:j<=4)(h:r<64^j):r<16777216:=ab h (ak (Nat.pow_le_pow_right oN I) oN)
theorem Qw3{r d j:Nat}(h:r<64^j)(hd:d<192):64*r+d-128<64^(j+1):=by
 rw[Nat.pow_succ];omega
theorem QwT(s:ByteArray)(i m j r:Nat)(I:0<m):Qxj s i m j r=if(s.get! (i+j)).toNat<128\/192<=(s.get! (i+j)).toNat then none else Qxj s i (m-1) (j+1) (64*r+(s.get! (i+j)).toNat-128):=by
 cases m with
 |zero=>omega
 |succ m=>rfl
theorem Qxz(w:World)(s:ByteArray)(i:Nat)(hs:s.size<=1000000000000):Calls prog 153 #[s,.int .i64 (i:Int)] w λe w'=>e=.returned (.tuple #[.int .i64 ((Qwc s i).1:Int),.int .i64 ((Qwc s i).2:Int)])/\w'=w:=by
 by_cases hi:s.size<=i
 ·have g0:decide ((s.size:Int)≤(i:Int))=true:=eI oM
  have HR:=hY (show Qwc s i=(0,0)by unfold Qwc;rw[eH hi]);go_in;go_wp2_with fail;go_ret2;exact⟨by rw[HR.o];rfl,rfl⟩
 have g0:decide ((s.size:Int)<=(i:Int))=false:=eG oM;have z0:(0:Int)<=(i:Int):=oM
 have z1:(i:Int)<(s.size:Int):=oM
 obtain⟨c,a1⟩:∃c,(s.get! i).toNat=c:=⟨_,rfl⟩;have hc:(s[i]' oM).toNat=c:=by rw[<-a1,QwE s i oM]
 have a5:c<256:=by rw[<-a1];exact Qwm _
 have hr:Qwc s i=if c<128 then(c,1)else if 192<=c/\c<224 then Qwv s i 2 192 128 else if 224<=c/\c<240 then Qwv s i 3 224 2048 else if 240<=c/\c<248 then Qwv s i 4 240 65536 else(0,0):=by
  unfold Qwc;rw[eE hi,a1]
 obtain⟨a2,HR⟩:=Yb a1 hr;clear a1 hr;have dT (k:Nat) (h:c<k):decide ((c:Int)<k)=true:=eI oM;have dF (k:Nat) (h:k<=c):decide ((c:Int)<k)=false:=eG oM;have eT (k:Nat) (h:k<=c):decide ((k:Int)<=(c:Int))=true:=eI oM;have eF (k:Nat) (h:c<k):decide ((k:Int)<=(c:Int))=false:=eG oM;by_cases h1:c<128
 ·have d1:decide ((c:Int)<128)=true:=dT 128 h1
  have HV:=hY (HR.o.trans (eH h1));clear h1 dT dF eT eF;go_in;go_wp2_with fail;go_ret2;exact⟨by rw[HV.o];rfl,rfl⟩
 have d1:decide ((c:Int)<128)=false:=dF 128 oM;by_cases h0:c<192\/248<=c
 ·have HV:=hY (show Qwc s i=(0,0) by rw [HR.o,eE h1,eE oM,eE oM,eE oM])
  rcases h0 with h0|h0
  ·have d2:decide ((192:Int)≤(c:Int))=false:=eF 192 h0
   have d3:decide ((224:Int)<=(c:Int))=false:=eF 224 oM;have d4:decide ((240:Int)<=(c:Int))=false:=eF 240 oM;clear h0 h1 dT dF eT eF;go_in;go_wp2_with fail;go_ret2;exact⟨by rw[HV.o];rfl,rfl⟩
  have d2:decide ((192:Int)<=(c:Int))=true:=eT 192 oM;have d3:decide ((c:Int)<224)=false:=dF 224 oM;have d4:decide ((224:Int)<=(c:Int))=true:=eT 224 oM;have d5:decide ((c:Int)<240)=false:=dF 240 oM;have d6:decide ((240:Int)<=(c:Int))=true:=eT 240 oM;have d7:decide ((c:Int)<248)=false:=dF 248 h0;clear h0 h1 dT dF eT eF;go_in;go_wp2_with fail;go_ret2;exact⟨by rw[HV.o];rfl,rfl⟩
 have d2:decide ((192:Int)<=(c:Int))=true:=eT 192 oM;go_in;go_upto_block 0 with fail;go_cut [7,8,9] (λv7 v8 v9 wc=>∃n r0 I:Nat,v7=.int .i64 (n:Int)/\v8=.int .i64 (r0:Int)/\v9=.int .i64 (I:Int)/\2<=n/\n<=4/\r0<64/\I<=65536/\Yd (Qwc s i=if s.size<i+n then(0,0)else Qy6 n I (Qxj s i (n-1) 1 r0))/\w=wc)
 case first=>
  by_cases h2:c<224
  ·have d3:decide ((c:Int)<224)=true:=dT 224 h2
   have w1:IntKind.i64.wrap ((c:Int)-192)=((c-192:Nat):Int):=by rw[eM];omega
   have HV:=hY (show Qwc s i=Qwv s i 2 192 128 by rw[HR.o,eE h1,eH oM]);clear h0 h1 dT dF eT eF;go_wp2_with fail;go_meet;exact⟨2,c-192,128,rfl,rfl,rfl,oN,oN,oM,oN,hY (by rw[HV.o,Qwv,a2.o]),rfl⟩
  have d3:decide ((c:Int)<224)=false:=dF 224 oM;have d4:decide ((224:Int)<=(c:Int))=true:=eT 224 oM;by_cases h3:c<240
  ·have d5:decide ((c:Int)<240)=true:=dT 240 h3
   have w1:IntKind.i64.wrap ((c:Int)-224)=((c-224:Nat):Int):=by rw[eM];omega
   have HV:=hY (show Qwc s i=Qwv s i 3 224 2048 by rw[HR.o,eE h1,eE oM,eH oM]);clear h0 h1 h2 dT dF eT eF;go_wp2_with fail;go_meet;exact⟨3,c-224,2048,rfl,rfl,rfl,oN,oN,oM,oN,hY (by rw[HV.o,Qwv,a2.o]),rfl⟩
  have d5:decide ((c:Int)<240)=false:=dF 240 oM;have d6:decide ((240:Int)<=(c:Int))=true:=eT 240 oM;have d7:decide ((c:Int)<248)=true:=dT 248 oM;have w1:IntKind.i64.wrap ((c:Int)-240)=((c-240:Nat):Int):=by rw[eM];omega
  have HV:=hY (show Qwc s i=Qwv s i 4 240 65536 by rw[HR.o,eE h1,eE oM,eE oM,eH oM]);clear h0 h1 h2 h3 dT dF eT eF;go_wp2_with fail;go_meet;exact⟨4,c-240,65536,rfl,rfl,rfl,oN,oN,oM,oN,hY (by rw[HV.o,Qwv,a2.o]),rfl⟩
 case rest=>
 obtain⟨n,r0,I,rfl,rfl,rfl,a7,a9,b0,b4,HV,rfl⟩:=hcut;clear dT dF eT eF h0 h1 HR d1 d2;have w0:IntKind.i64.wrap ((i:Int)+(n:Int))=(i:Int)+(n:Int):=by rw[eM];omega
 by_cases hn:s.size<i+n
 ·have p0:decide ((s.size:Int)<(i:Int)+(n:Int))=true:=eI oM
  have HR:=hY (HV.o.trans (eH hn));clear hn;go_wp2_with fail;go_ret2;exact⟨by rw[HR.o];rfl,rfl⟩
 have p0:decide ((s.size:Int)<(i:Int)+(n:Int))=false:=eG oM;obtain⟨X,hX⟩:∃X,Qxj s i (n-1) 1 r0=X:=⟨_,rfl⟩;obtain⟨HR,HX⟩:=Yb (show Qwc s i=Qy6 n I X by rw[HV.o,eE hn,hX]) hX;clear hX HV;go_wp2_with fail;go_loopw[8,10] (λrv jv wr=>∃j r:Nat,rv=.int .i64 (r:Int)/\jv=.int .i64 (j:Int)/\1<=j/\j<=n/\Yd (r<64^j/\Qxj s i (n-j) j r=X)/\wr=w) (λ_ jv _=>n -(intOf jv).toNat)
 case atStart=>exact⟨1,r0,rfl,rfl,ao _,oM,hY ⟨oM,HX.o⟩,rfl⟩
 obtain⟨j,r,rfl,rfl,b5,b3,HJ,rfl⟩:=hrel;have hr:=QwR (show j<=4 by omega) HJ.o.1;by_cases a4:j<n
 ·have e1:decide ((j:Int)<(n:Int))=true:=eI oM
  have v0:IntKind.i64.wrap ((i:Int)+(j:Int))=(i:Int)+(j:Int):=by rw[eM];omega
  have v1:(0:Int)<=(i:Int)+(j:Int):=oM
  have v2:(i:Int)+(j:Int)<(s.size:Int):=oM
  have v3:((i:Int)+(j:Int)).toNat=i+j:=oM
  obtain⟨d,hd⟩:∃d,(s.get! (i+j)).toNat=d:=⟨_,rfl⟩;have a8:(s[i+j]' oM).toNat=d:=by rw[<-hd,QwE s (i+j) oM]
  have a6:d<256:=by rw[<-hd];exact Qwm _
  have a0:=QwT s i (n-j) j r oM;rw[HJ.o.2,hd]at a0;have a3:=hY a0;clear a0 hd;by_cases q0:d<128\/192<=d
  ·have HE:=hY (show Qwc s i=(0,0) by rw [HR.o,a3.o,eH q0];rfl)
   rcases q0 with q1|q2
   ·have e2:decide ((d:Int)<128)=true:=eI oM
    clear q1;go_wp2_with fail;go_ret2;exact⟨by rw[HE.o];rfl,rfl⟩
   have e2:decide ((d:Int)<128)=false:=eG oM;have e3:decide ((192:Int)<=(d:Int))=true:=eI oM;clear q2;go_wp2_with fail;go_ret2;exact⟨by rw[HE.o];rfl,rfl⟩
  have e2:decide ((d:Int)<128)=false:=eG oM;have e3:decide ((192:Int)<=(d:Int))=false:=eG oM;have u0:IntKind.i64.wrap (64*(r:Int))=64*(r:Int):=by rw[eM];omega
  have u1:IntKind.i64.wrap (64*(r:Int)+(d:Int))=64*(r:Int)+(d:Int):=by rw[eM];omega
  have u2:IntKind.i64.wrap (64*(r:Int)+(d:Int)-128)=((64*r+d-128:Nat):Int):=by rw[eM];omega
  have HN:=hY (show 64*r+d-128<64^(j+1)/\Qxj s i (n -(j+1)) (j+1) (64*r+d-128)=X from⟨Qw3 HJ.o.1 oM,by rw[a3.o,eE q0];rfl⟩);clear a3 q0;go_wp2_with fail;go_roundw
  case rel=>exact⟨j+1,64*r+d-128,by rfl,by go_num,oM,oM,HN,trivial⟩
  simp[intOf];omega
 obtain rfl:j=n:=oM
 have HE:=hY (show Qwc s i=if r<I\/1114111<r\/(55296<=r/\r<57344)then(0,0)else(r,j)by
  have:X=some r:=by rw[<-HJ.o.2,cu];rfl
  rw[HR.o,this];rfl)
 have e1:decide ((j:Int)<(j:Int))=false:=eG oM;have Z:(r<I\/1114111<r\/(55296<=r/\r<57344))->Yd (Qwc s i=(0,0)):=λh=>HE.o.trans (eH h)
 have N:¬(r<I\/1114111<r\/(55296<=r/\r<57344))->Yd (Qwc s i=(r,j)):=λh=>HE.o.trans (eE h)
 clear a4 HJ HR HX;by_cases q1:r<I
 ·have e2:decide ((r:Int)<(I:Int))=true:=eI oM
  have HF:=Z (.inl q1);clear Z N;go_wp2_with fail;go_ret2;exact⟨by rw[HF.o];rfl,rfl⟩
 have e2:decide ((r:Int)<(I:Int))=false:=eG oM;by_cases q2:1114111<r
 ·have e3:decide ((1114111:Int)<(r:Int))=true:=eI oM
  have HF:=Z (.inr (.inl q2));clear q2 Z N;go_wp2_with fail;go_ret2;exact⟨by rw[HF.o];rfl,rfl⟩
 have e3:decide ((1114111:Int)<(r:Int))=false:=eG oM;by_cases q3:55296<=r/\r<57344
 ·have e4:decide ((55296:Int)≤(r:Int))=true:=eI oM
  have e5:decide ((r:Int)<57344)=true:=eI oM;have HF:=Z (.inr (.inr q3));clear q2 q3 Z N;go_wp2_with fail;go_ret2;exact⟨by rw[HF.o];rfl,rfl⟩
 have HF:=N oM;by_cases q4:55296<=r
 ·have e4:decide ((55296:Int)≤(r:Int))=true:=eI oM
  have e5:decide ((r:Int)<57344)=false:=eG oM;clear q2 q3 q4 Z N;go_wp2_with fail;go_ret2;exact⟨by rw[HF.o];rfl,rfl⟩
 have e4:decide ((55296:Int)<=(r:Int))=false:=eG oM;clear q2 q3 q4 Z N;go_wp2_with fail;go_ret2;exact⟨by rw[HF.o];rfl,rfl⟩
theorem QxS{s:ByteArray}{p f:Nat}(hp:p<s.size)(hf:s.size<=p+f):Lib.validGoD f (s.data.toList.drop p)=if Utf8.decode s p=(65533,1)then false else Lib.validGoD (f-1) (s.data.toList.drop (p+(Utf8.decode s p).2)):=by
 cases f with
 |zero=>omega
 | succ f=>
   have Z:s.data.toList.length=s.size:=by rw[aL];rfl
   have N:s.data.toList.drop p≠[]:=by
    intro e;have:=congrArg List.length e;rw[aw,Z]at this;simp at this;omega
   rw[Lib.validGoD,eE N,Lib.decodeL_drop,eA];by_cases I:Utf8.decode s p=(65533,1)
   .rw [eH I,eH (by rw[I];exact⟨rfl,rfl⟩)]
   rw[eE I,eE (λh=>I (eC h.1 h.2))];rfl
theorem QxT{s:ByteArray}{p f:Nat}(I:s.size<=p):Lib.validGoD f (s.data.toList.drop p)=true:=by
 have N:s.data.toList.length=s.size:=by rw[aL];rfl
 rw[bX oM];cases f<;>rfl
theorem Qwe(w:World)(s:ByteArray)(hs:s.size<=1000000000000):Calls prog 122 #[s] w λe w'=>e=.returned (Lib.validD s.data.toList)/\w'=w:=by
 obtain⟨V,hV⟩:∃V,Lib.validD s.data.toList=V:=⟨_,rfl⟩;rw[hV];have hl:s.data.toList.length=s.size:=by rw[aL];rfl
 have a4:=λ(p:Nat)=>Qxz w s p hs
 obtain⟨a6,HV,a5⟩:=Yc a4 hV hl;clear a4 hV hl;go_in;go_wp2_with fail;go_loopw[3] (λv wr=>∃p f:Nat,v=.int .i64 (p:Int)/\p<=s.size/\Yd (Lib.validGoD f (s.data.toList.drop p)=V/\s.size<=p+f)/\wr=w) (λv _=>s.size -(intOf v).toNat)
 case atStart=>exact⟨0,s.size,rfl,aA _,hY ⟨by rw[dn,<-a5.o];exact HV.o,oM⟩,rfl⟩
 obtain⟨p,f,rfl,hp,HS,rfl⟩:=hrel;by_cases a3:p<s.size
 ·have e1:decide ((p:Int)<(s.size:Int))=true:=eI oM
  have I:=QxS a3 HS.o.2;rw[HS.o.1]at I;obtain⟨Z,a0,hr⟩:=Qgs a3;have N:=Qyo s p;go_wp2_with fail;refine(a6.o p).mono ?_;rintro e w2 ⟨rfl,rfl⟩;obtain⟨r,z,hd⟩:∃r z,Utf8.decode s p=(r,z):=⟨_,_,rfl⟩;by_cases hb:Utf8.decode s p=(65533,1)
  ·rw [eH (.inr hb)] at N
   rw[eH hb]at I;rw[N];have a1:=hY I;clear N I hb hd Z a0 hr;go_wp2_with fail;go_ret;exact⟨by rw[a1.o];rfl,rfl⟩
  rw[eE (λh=>h.elim (λh=>absurd h oM) hb)]at N;rw[eE hb]at I;rw[N];rw[hd]at I Z a0 ⊢;dsimp only at I Z a0 ⊢;have e2:((z:Int)==0)=false:=eJ.2 oM;have e3:IntKind.i64.wrap ((p:Int)+(z:Int))=(p:Int)+(z:Int):=by rw[eM];omega
  have a1:=hY I.symm;have HF:=HS.o.2;have a2:=hY Z;clear N I hb hd hr Z;go_wp2_with fail;go_roundw
  case rel=>exact⟨p+z,f-1,by go_num,a0,hY ⟨a1.o,by have:=a2.o;omega⟩,trivial⟩
  have:=a2.o;simp[intOf];omega
 obtain rfl:p=s.size:=oM
 have e1:decide ((s.size:Int)<(s.size:Int))=false:=eG oM;have HE:=hY (show V=true by rw[<-HS.o.1];exact QxT (ao _));go_wp2_with fail;go_ret;exact⟨by rw[HE.o];rfl,rfl⟩
theorem QwP(w:World)(k:ByteArray)(hk:k.size<=maxLen):Calls prog 85 #[k] w λe w'=>e=.returned (Qci k)/\w'=w:=by
 obtain⟨r,I⟩:∃r,Qci k=r:=⟨_,rfl⟩;rw[I];unfold Qci at I;by_cases Z:k.size=0
 ·rw [eH Z] at I
  subst I;have e0:((k.size:Int)==0)=true:=by rw[Z];rfl
  clear Z;go_in;go_wp2_with fail;go_ret;exact⟨rfl,rfl⟩
 rw[eE Z]at I;have e0:((k.size:Int)==0)=false:=eJ.2 oM;by_cases h1:64<k.size
 ·rw [eH h1] at I
  subst I;have e1:decide ((64:Int)<(k.size:Int))=true:=eI oM;go_in;go_wp2_with fail;go_ret;exact⟨rfl,rfl⟩
 rw[eE h1]at I;have e1:decide ((64:Int)<(k.size:Int))=false:=eG oM;have N:=hY (Qwe w k oM);cases hv:Lib.validD k.data.toList with
 | true=>
   rw[hv,eH rfl]at I;rw[hv]at N;subst I;go_in;go_wp2_with fail;refine N.o.mono ?_;rintro e w1 ⟨rfl,rfl⟩;go_wp2_with fail;go_ret;exact⟨rfl,rfl⟩
 | false=>
   rw[hv,eE oN]at I;rw[hv]at N;subst I;go_in;go_wp2_with fail;refine N.o.mono ?_;rintro e w1 ⟨rfl,rfl⟩;go_wp2_with fail;go_ret;exact⟨rfl,rfl⟩
theorem Qyy(w:World)(v:Val)(sl so:Sl):Calls prog 183 #[QbV v sl so] w λe w'=>e=.returned (.bool (!QvH v))/\Ext w w':=by
 obtain⟨k,b,i,t,l,I,ov⟩:=v;show Calls _ _ #[.agg #[k,b,i,t,.slice sl.a l.length sl.c,.slice so.a I.length so.c]] _ λe w'=>e=.returned (.bool (!Qb0 k b i t l.length I.length))/\Ext w w'
 by_cases N:I.length=0
 ·have Z:((I.length:Int) == 0)=true:=by rw [N];rfl
  go_in;go_wp2_with fail
  all_goals
   go_ret;refine⟨?_,(gh w).alloc _ _⟩;refine congrArg (λx=>Ending.returned (Value.bool x)) ?_;unfold Qb0
   first
    |(simp[*];done)
    |(rw[eE oM];simp[*];done)
    |(rw[eE oM,show k=1 by omega];simp[*])
 have Z:((I.length:Int)==0)=false:=eJ.2 oM;go_in;go_wp2_with fail
 all_goals
  go_ret;refine⟨?_,(gh w).alloc _ _⟩;refine congrArg (λx=>Ending.returned (Value.bool x)) ?_;unfold Qb0
  first
   |(simp[*];done)
   |(rw[eE oM];simp[*];done)
   |(rw[eE oM,show k=1 by omega];simp[*])
theorem QxR{t:ByteArray}(h:t.size=0):Lib.validD t.data.toList=true:=by
 have I:t.data.toList.length=t.size:=by rw[aL];rfl
 have:t.data.toList=[]:=au oM;rw[this];rfl
theorem Qyi(k:Int)(b:Bool)(i:Int)(t:ByteArray)(l:List Val)(ok:List ByteArray)(ov:List Val)(q:Nat)(Z:ov.length=ok.length):Qda (.mk k b i t l ok ov) q =
  if Qb0 k b i t l.length ok.length=true then 9 else if 64<q then 5 else if Lib.validD t.data.toList=false then 3 else if Qd8 l (q+1)≠0 then Qd8 l (q+1)else QhA none ok ov (q+1):=by
 unfold Qda;by_cases ho:Qb0 k b i t l.length ok.length=true
 .rw [eH ho,eH ho]
 rw[eE ho,eE ho];by_cases hq:64<q
 .rw [eH hq,eH hq]
 rw[eE hq,eE hq];have I:Qb0 k b i t l.length ok.length=false:=by simpa using ho
 unfold Qb0 at I;have N:¬(k<1\/6<k):=by
  intro h;rw[eH h]at I;cases I
 rw[eE N]at I;simp only[Bool.or_eq_false_iff,Bool.and_eq_false_iff,bne_eq_false_iff_eq]at I;obtain⟨⟨⟨⟨-,-⟩,h4⟩,h5⟩,h6⟩:=I;by_cases k4:k=4
 ·subst k4
  have hl:l=[]:=au (h5.resolve_left oN);have N:ok=[]:=au (h6.resolve_left oN);subst hl N;have hv:ov=[]:=au Z;subst hv;rw[eH rfl];cases Lib.validD t.data.toList<;>simp[Qd8,QhA]
 rw[eE k4];have ht:Lib.validD t.data.toList=true:=QxR (h4.resolve_left k4);rw[ht,eE (show ¬(true=false)by decide)];by_cases k5:k=5
 ·subst k5
  have N:ok=[]:=au (h6.resolve_left oN);subst N;have hv:ov=[]:=au Z;subst hv;rw[eH rfl];by_cases hz:Qd8 l (q+1)=0
  .rw [eE (by simp[hz]),hz];rfl
  rw[eH hz]
 rw[eE k5];have hl:l=[]:=au (h5.resolve_left k5);subst hl;rw[show(if Qd8 [] (q+1)≠0 then Qd8 [] (q+1)else QhA none ok ov (q+1))=QhA none ok ov (q+1)from eE (by simp[Qd8])];by_cases k6:k=6
 .rw [eH k6]
 rw[eE k6];have N:ok=[]:=au (h6.resolve_left k6);subst N;have hv:ov=[]:=au Z;subst hv;rfl
def Qxs(ok:List ByteArray)(j:Nat):ByteArray:=(prevK ok j).getD ByteArray.empty
theorem QyV(m:Nat):∀(d:Val),SizeOf.sizeOf d<=m->QcI d<=1100000->∀(w:World) (sl so:Sl) (q:Nat),q<=65->RV w (Lt w) d sl so->
  Calls prog 154 #[QbV d sl so,.int .i64 (q:Int)] w λe w'=>e=.returned (.int .i64 (Qda d q))/\Ext w w':=by
 induction m with
 |zero=>intro d hd;have:=Val.Qb6 d;omega
 |succ m ih=>
 intro d hd d4 w sl so q hq h;have HI:=hY ih;clear ih;obtain⟨k,b,i,t,l,N,ov⟩:=d;have c4:=λW=>Qyy W (.mk k b i t l N ov) sl so
 show Calls _ _ #[.agg #[k,b,.int .i64 i,t,.slice sl.a l.length sl.c,.slice so.a N.length so.c],.int .i64 q] _ _;cases h with
 |mk bl fl bo fo cl co hl ho hov el rl ek eo ro bk bi bt nl no=>
 have e0:∀(j:Nat) (d:Val),l[j]? = some d->SizeOf.sizeOf d<=m:=λj d hj=>bv (ab (Val.QtM hj) hd)
 have d6:∀(j:Nat) (d:Val),ov[j]? = some d->SizeOf.sizeOf d<=m:=λj d hj=>bv (ab (Val.QtN hj) hd)
 unfold QcI at d4;have hu:=λW=>Qwe W t oM
 obtain⟨f0,e7,f1,f2,f4,e8,f6⟩:=Yh e0 d6 el rl ek eo ro;obtain⟨e4,HU,c2,c1,c0,c8⟩:=Yg hov hu c4 hl ho d4;obtain⟨r,hr⟩:∃r,Qda (.mk k b i t l N ov) q=r:=⟨_,rfl⟩;rw[hr];rw[Qyi _ _ _ _ _ _ _ _ hov]at hr;clear e0 d6 el rl ek eo ro hov hd hu c4;go_in;go_wp2_with fail;have e2:=(gh w).alloc #[.int .i64 k,.bool b,.int .i64 i,.string t,.slice sl.a l.length sl.c,.slice so.a N.length so.c] 34;have b5:=gm w 34 #[.int .i64 k,.bool b,.int .i64 i,.string t,.slice sl.a l.length sl.c,.slice so.a N.length so.c];refine(c2.o _).mono ?_;rintro e w1 ⟨rfl,b0⟩;obtain⟨q0,q1,q2,q3,q4,q5⟩:=(b5.ext b0).c6;have lq:=(b5.ext b0).lt;obtain⟨HX,HB⟩:=Yb (e2.trans b0) (b5.ext b0);clear e2 b0 b5 c2;unfold QvH;dsimp only[Val.kind,Val.b,Val.i,Val.t,Val.l,Val.ok];by_cases b7:Qb0 k b i t l.length N.length=true
 ·rw [eH b7] at hr
  subst hr;rw[b7];go_wp2_with fail;go_ret;exact⟨rfl,HX.o⟩
 rw[eE b7]at hr;rw[show Qb0 k b i t l.length N.length=false by simpa using b7];by_cases c3:64<q
 ·rw [eH c3] at hr
  subst hr;have g0:decide ((64:Int)<(q:Int))=true:=eI oM;go_wp2_with fail;go_ret;exact⟨rfl,HX.o⟩
 rw[eE c3]at hr;have g0:decide ((64:Int)<(q:Int))=false:=eG oM;go_wp2_with fail;refine(HU.o _).mono ?_;rintro e w2 ⟨rfl,rfl⟩;cases hv:Lib.validD t.data.toList with
 | false=>
   rw[hv,eH rfl]at hr;subst hr;go_wp2_with fail;go_ret;exact⟨rfl,HX.o⟩
 |true=>
 rw[hv,eE oN]at hr;obtain⟨b9,d3⟩:∃x,Qd8 l (q+1)=x:=⟨_,rfl⟩;obtain⟨rm,d0⟩:∃x,QhA none N ov (q+1)=x:=⟨_,rfl⟩;rw[d3,d0]at hr;obtain⟨HR,d7,f3⟩:=Yc hr d3 d0;clear hr d3 d0;go_wp2_with fail;go_loopw[5] (λqq wr=>∃j:Nat,qq=.int .i64 j/\j<=l.length/\Yd (Qd8 (l.drop j) (q+1)=b9)/\Ext w2 wr) (λqq _=>l.length -(intOf qq).toNat)
 case atStart=>exact⟨0,rfl,aA _,d7,gh _⟩
 obtain⟨j,rfl,hj,HM,hn⟩:=hrel;obtain⟨p0,p1,p2,p3,p4,p5⟩:=(HB.o.ext hn).c6;have lp:=(HB.o.ext hn).lt;by_cases a6:j<l.length
 ·have g1:(j:Int)<(l.length:Int):=oM
  have f7:decide ((j:Int)<(l.length:Int))=true:=eI g1;obtain⟨d,hd⟩:∃d,l[j]? = some d:=⟨_,ac a6⟩;have a2:Ext w wr:=HX.o.trans hn;have a4:Agree (Lt w) w wr:=a2.agree λ_ h=>h
  obtain⟨b4,c9,c7⟩:=c1.o.eq oM;have a3:=c1.o.fits (show 0<l.length by omega);obtain⟨sa,sc⟩:=sl;dsimp only at b4 c9 c7;subst b4;obtain⟨v0,v1,v2,v3,v4,v5⟩:=(f1.o j d hd).agree a4 a3;have lb:bl<wr:=ab a3 a2.size;have a8:Calls prog 154 #[QbV d (cl j).1 (cl j).2,.int .i64 ((q:Int)+1)] wr λe w'=>e=.returned (.int .i64 (Qda d (q+1)))/\Ext wr w':=by
   rw[show(q:Int)+1=((q+1:Nat):Int)by omega];exact HI.o d (f0.o j d hd) (by have:=QoO hd;have:=c8.o;omega) wr _ _ (q+1) oM (((f2.o j d hd).agree a4).mono λi hi=>ab hi a2.size)
  have I:=Qtr (j:=q+1) hd;rw[HM.o]at I;have g2:IntKind.i64.wrap ((q:Int)+1)=(q:Int)+1:=by rw[eM];omega
  obtain⟨a7,Z,HN⟩:=Yc a8 I hn;clear hd a2 a4 a8 I hn;go_wp2_with fail;refine a7.o.mono ?_;rintro e w3 ⟨rfl,e1⟩;have d5:=hY (HN.o.trans e1);have I:=Z.o;clear e1 v0 v1 v2 v3 v4 v5 a7 Z HN p0 p1 p2 p3 p4 p5;generalize Qda d (q+1)=c at I;by_cases hc:c=0
  ·subst hc
   rw[eE oO]at I;have Z:=hY I.symm;clear I;go_wp2_with fail;go_roundw
   case rel=>exact⟨j+1,by go_num,a6,Z,d5.o⟩
   simp[intOf];omega
  rw[eH hc]at I;subst I;have g3:(b9 != 0)=true:=by simpa using hc
  obtain⟨HE,a0⟩:=Yb (show r=b9 by rw[<-HR.o,eH hc]) (HX.o.trans d5.o);clear hc;go_wp2_with fail;go_ret;exact⟨by rw[HE.o];rfl,a0.o⟩
 obtain rfl:j=l.length:=oM
 have g1:decide ((l.length:Int)<(l.length:Int))=false:=eG oM;have hz:b9=0:=by rw[<-HM.o,cQ,Qd8]
 obtain⟨HE,HN⟩:=Yb (show rm=r by rw[<-HR.o,eE (by simp[hz])]) hn;clear hn hz HM;go_wp2_with fail;clear p0 p1 p2 p3 p4 p5 lp;go_loopw[7,8] (λlv qq wr=>∃j:Nat,lv=.string (Qxs N j)/\qq=.int .i64 j/\j<=N.length/\Yd (QhA (prevK N j) (N.drop j) (ov.drop j) (q+1)=rm)/\Ext w2 wr) (λ_ qq _=>N.length -(intOf qq).toNat)
 case atStart=>exact⟨0,rfl,rfl,aA _,f3,HN.o⟩
 obtain⟨j,rfl,rfl,hj,HM,hn⟩:=hrel;obtain⟨p0,p1,p2,p3,p4,p5⟩:=(HB.o.ext hn).c6;have lp:=(HB.o.ext hn).lt;by_cases a6:j<N.length
 ·have g2:(j:Int)<(N.length:Int):=oM
  have f8:decide ((j:Int)<(N.length:Int))=true:=eI g2;obtain⟨kk,hk⟩:∃kk,N[j]? = some kk:=⟨_,ac a6⟩;obtain⟨d,hd⟩:∃d,ov[j]? = some d:=⟨_,ac (by rw[e4.o];exact a6)⟩;have a2:Ext w wr:=HX.o.trans hn;have a4:Agree (Lt w) w wr:=a2.agree λ_ h=>h
  obtain⟨b4,c9,c7⟩:=c0.o.eq oM;have a3:=c0.o.fits (show 0<N.length by omega);obtain⟨sa,sc⟩:=so;dsimp only at b4 c9 c7;subst b4;obtain⟨v0,v1,v2,v3,v4,v5⟩:=(e8.o j d hd).agree a4 a3;have lb:bo<wr:=ab a3 a2.size;have kc:wr.cell? ⟨bo,fo+j*7,none⟩=some (.string kk):=(a4.cell a3).trans (f4.o j kk hk).1;have a8:Calls prog 154 #[QbV d (co j).1 (co j).2,.int .i64 ((q:Int)+1)] wr λe w'=>e=.returned (.int .i64 (Qda d (q+1)))/\Ext wr w':=by
   rw[show(q:Int)+1=((q+1:Nat):Int)by omega];exact HI.o d (e7.o j d hd) (by have:=QkY hd hk;have:=c8.o;omega) wr _ _ (q+1) oM (((f6.o j d hd).agree a4).mono λi hi=>ab hi a2.size)
  have e3:=λW=>Qwe W kk (by have:=QkY hd hk;have:=c8.o;omega)
  have I:=Qts (p:=prevK N j) (Q:=q+1) hd hk;rw[HM.o]at I;have g3:IntKind.i64.wrap ((q:Int)+1)=(q:Int)+1:=by rw[eM];omega
  obtain⟨a7,Z,e6,HN,b6⟩:=Yf a8 I e3 hn hk;clear hd a2 a4 a8 I hn HM e3 hk;go_wp2_with fail;refine(e6.o _).mono ?_;rintro e w9 ⟨rfl,rfl⟩;have I:=Z.o;clear Z e6;cases hv:Lib.validD kk.data.toList with
  | false=>
    rw[hv,eH oN]at I;obtain⟨a1,a0⟩:=Yb (show r=3 by rw[<-HE.o];exact I) (HX.o.trans HN.o);clear I;go_wp2_with fail;go_ret;exact⟨by rw[a1.o];rfl,a0.o⟩
  | true=>
    rw[hv,eE oN]at I;by_cases b8:j=0
    ·subst b8
     rw[show prevK N 0=none from rfl,ey,eE oN]at I;have gg:decide ((0:Int)<((0:Nat):Int))=false:=oN
     have Z:=hY I;clear I;go_wp2_with fail;refine a7.o.mono ?_;rintro e w4 ⟨rfl,a9⟩;have b3:=hY (HN.o.trans a9);have I:=Z.o;clear a9 a7 Z v0 v1 v2 v3 v4 v5 kc p0 p1 p2 p3 p4 p5;generalize Qda d (q+1)=c at I;by_cases hc:c=0
     ·subst hc
      rw[eE oO]at I;have Z:=hY (show QhA (prevK N (0+1)) (N.drop (0+1)) (ov.drop (0+1)) (q+1)=rm by rw[show prevK N (0+1)=some kk from b6.o];exact I.symm);clear I;go_wp2_with fail;go_roundw
      case rel=>exact⟨0+1,by rw[show Qxs N (0+1)=kk by unfold Qxs;rw[show prevK N (0+1)=some kk from b6.o];rfl],by go_num,a6,Z,b3.o⟩
      simp[intOf];omega
     rw[eH hc]at I;have a1:=hY (show r=c by rw[<-HE.o];exact I);have g4:(c != 0)=true:=by simpa using hc
     have a0:=hY (HX.o.trans b3.o);clear hc I;go_wp2_with fail;go_ret;exact⟨by rw[a1.o];rfl,a0.o⟩
    obtain⟨i,rfl⟩:∃i,j=i+1:=⟨j-1,oM⟩;obtain⟨y,hy⟩:∃y,N[i]? = some y:=⟨_,ac oM⟩;rw[show prevK N (i+1)=some y from hy,dB]at I;rw[show Qxs N (i+1)=y by unfold Qxs;rw[show prevK N (i+1)=some y from hy];rfl];have gg:decide ((0:Int)<((i+1:Nat):Int))=true:=eI oM;have f9:(0:Int)<((i+1:Nat):Int):=oM
    cases a5:klt y kk with
    | false=>
      rw[a5,eH oN]at I;obtain⟨a1,a0⟩:=Yb (show r=8 by rw[<-HE.o];exact I) (HX.o.trans HN.o);cases d8:klt kk y with
      | true=>
        have a3:Op.bytesLess kk.toList y.toList=true:=d8;clear hy b8 I;go_wp2_with fail;go_ret;exact⟨by rw[a1.o];rfl,a0.o⟩
      | false=>
        obtain rfl:y=kk:=QbE a5 d8;have a3:Op.bytesLess y.toList y.toList=false:=a5;have f5:(y.toList==y.toList)=true:=oO
        clear hy b8 I;go_wp2_with fail;go_ret;exact⟨by rw[a1.o];rfl,a0.o⟩
    | true=>
      rw[a5,eE oN]at I;have a3:Op.bytesLess kk.toList y.toList=false:=Qus a5;have f5:(kk.toList==y.toList)=false:=QtO (λe=>by rw[e,Qag]at a5;cases a5);have Z:=hY I;clear I hy b8;go_wp2_with fail;refine a7.o.mono ?_;rintro e w4 ⟨rfl,a9⟩;have b3:=hY (HN.o.trans a9);have I:=Z.o;clear a9 a7 Z v0 v1 v2 v3 v4 v5 kc p0 p1 p2 p3 p4 p5;generalize Qda d (q+1)=c at I;by_cases hc:c=0
      ·subst hc
       rw[eE oO]at I;have Z:=hY (show QhA (prevK N ((i+1)+1)) (N.drop ((i+1)+1)) (ov.drop ((i+1)+1)) (q+1)=rm by rw[show prevK N ((i+1)+1)=some kk from b6.o];exact I.symm);clear I;go_wp2_with fail;go_roundw
       case rel=>exact⟨(i+1)+1,by rw[show Qxs N ((i+1)+1)=kk by unfold Qxs;rw[show prevK N ((i+1)+1)=some kk from b6.o];rfl],by go_num,a6,Z,b3.o⟩
       simp[intOf];omega
      rw[eH hc]at I;have a1:=hY (show r=c by rw[<-HE.o];exact I);have g4:(c != 0)=true:=by simpa using hc
      have a0:=hY (HX.o.trans b3.o);clear hc I;go_wp2_with fail;go_ret;exact⟨by rw[a1.o];rfl,a0.o⟩
 obtain rfl:j=N.length:=oM
 have g2:decide ((N.length:Int)<(N.length:Int))=false:=eG oM;have hz:rm=0:=by rw[<-HM.o,<-e4.o,cQ (l:=ov),QhA]
 obtain⟨a1,a0⟩:=Yb (show r=0 by rw[<-HE.o];exact hz) (HX.o.trans hn);clear hn hz;go_wp2_with fail;go_ret;exact⟨by rw[a1.o];rfl,a0.o⟩
variable{sl so:Sl}
theorem Qyg{v:Val}(h:RV w (Lt w) v sl so)(hc:QcI v<=1100000):Calls prog 123 #[QbV v sl so] w λe w'=>e=.returned (Qda v 1)/\Ext w w':=by
 have I:=(gh w).alloc #[.int .i64 v.kind,.bool v.b,.int .i64 v.i,.string v.t,.slice sl.a v.l.length sl.c,.slice so.a v.ok.length so.c] 34;have ho:=QyV _ v (ao _) hc (w.alloc (.cells #[v.kind,v.b,v.i,v.t,.slice sl.a v.l.length sl.c,.slice so.a v.ok.length so.c] 34)) sl so 1 oN ((h.agree (I.agree λ_ h=>h)).mono λi hi=>ab hi I.size);obtain⟨HO,N⟩:=Yb ho I;clear ho h I;go_in;go_wp2_with fail;refine HO.o.mono ?_;rintro e w1 ⟨rfl,Z⟩;have HX:=hY (N.o.trans Z);clear Z N HO;go_wp2_with fail;go_ret;exact⟨rfl,HX.o⟩
theorem Qyu{v d:Val}(h:(Qwg v)[j]? = some d):SizeOf.sizeOf d<SizeOf.sizeOf v:=by
 obtain⟨k,b,i,t,l,I,N⟩:=v;unfold Qwg at h;dsimp only at h;split at h
 .exact Val.QtM h
 split at h
 .exact Val.QtN h
 simp at h
def QxF(v:Val)(w:World)(e:Ending)(w':World):Prop:=
 ∃(s:Sl) (xs:List WV),e=.returned (.slice s.a xs.length s.c)/\xs.map WV.v=Qwg v/\Rd w' (Lt w'.heap.size) 6 s xs.length (QeF xs)/\(∀x∈xs,RV w' (Lt w.heap.size) x.v x.sl x.so)/\Ext w w'
theorem QxU{v:Val}(h:RV w (Lt w) v sl so):Calls prog 155 #[QbV v sl so] w (QxF v w):=by
 obtain⟨k,b,i,t,l,N,ov⟩:=v;obtain⟨i0,hi,d4,c7,c3⟩:=eR Tryz.QjM;show Calls _ _ #[.agg #[k,b,i,t,.slice sl.a l.length sl.c,.slice so.a N.length so.c]] _ _;cases h with
 |mk bl fl bo fo cl co hl ho hov el rl ek eo ro bk bi bt nl no=>
 obtain⟨f6,g3,f2,i2,g8,b9,c1⟩:=Yh el rl eo ek ro hov hl;obtain⟨a8,d6,b6⟩:=Yc ho nl no;clear el rl ek eo ro hov hl ho nl no bk bi bt;go_in;by_cases h5:k=5
 ·subst h5
  have a3:=(gh w).alloc #[.int .i64 5,.bool b,.int .i64 i,.string t,.slice sl.a l.length sl.c,.slice so.a N.length so.c] 34;have b8:Rd w (Lt w) 6 sl (wl l cl).length (QeF (wl l cl)):=by
   refine Qvw (by rw[QhX];exact c1.o) λj x hx=>?_
   obtain⟨e1,e2,e3⟩:=QuY hx;rw[e2,e3];exact f6.o j _ e1
  rw[QhX]at b8;obtain⟨g7,b3⟩:=Yb ((b8.agree (a3.agree λ_ h=>h)).mono λi (hi:i<w)=>(show i<w.heap.size+1 by omega)) a3;have b7:0+l.length<=maxLen:=by have:=d6.o;unfold maxLen;omega
  have b5:(0+l.length)*88<=140737488355328:=by have:=d6.o;omega
  clear b8 a3;go_wp2_with(at_builtin;refine Qak _ rfl (.tmp 8) (.tmp 10) 31 rfl (w.heap.size+1) 34 i0 _ 6 88 underlying31 hi d4 c7 c3 rfl oN Sl.none 0 [] rfl (eS _ _ _ _) (Lt (w.heap.size+1)) sl l.length (QeF (wl l cl)) rfl g7.o (Qxc _) b7 b5 (by rw[eK];exact ao _) ?_;intro s' w3 I a2 b4;have a4:=(gm w 34 #[.int .i64 5,.bool b,.int .i64 i,.string t,.slice sl.a l.length sl.c,.slice so.a N.length so.c]).agree (a2.agree (F:=λb=>b=w.heap.size) (λi hi=>by rw[eK];omega) (λk hk _=>by cases hk)) rfl;obtain⟨q0,q1,q2,q3,q4,q5⟩:=a4.c6;have lq:=a4.lt;have a1:=hY I;have Z:=hY a2;clear I a2 b4 a4);go_ret;have d3:Ext w w3:=b3.o.wr Z.o (λi hi=>by cases hi);have I:=a1.o;rw[aD,aG]at I;refine⟨s',wl l cl,by rw[QhX];rfl,by rw[QvV];rfl,?_,λx hx=>?_,d3⟩
  ·rw [QhX]
   exact(gz I).mono λi hi=>hi.2
  obtain⟨j,hj⟩:=bz hx;obtain⟨e1,e2,e3⟩:=QuY hj;rw[e2,e3];exact(g3.o j _ e1).agree (d3.agree λ_ h=>h)
 have g5:(k==5)=false:=by simpa using h5
 by_cases h6:k=6
 ·subst h6
  have a3:=(gh w).alloc #[.int .i64 6,.bool b,.int .i64 i,.string t,.slice sl.a l.length sl.c,.slice so.a N.length so.c] 34;have c2:=gm w 34 #[.int .i64 6,.bool b,.int .i64 i,.string t,.slice sl.a l.length sl.c,.slice so.a N.length so.c];obtain⟨b3,g4,g0⟩:=Yc a3 c2 (OW.nil (w.alloc (.cells #[.int .i64 6,b,i,t,.slice sl.a l.length sl.c,.slice so.a N.length so.c] 34)) (w.heap.size+1) w.heap.size);have a9:(w.alloc (.cells #[.int .i64 6,b,i,t,.slice sl.a l.length sl.c,.slice so.a N.length so.c] 34)).heap.size=w.heap.size+1:=eK _ _;have e8:=hY a9;clear a3 c2 a9;go_wp2_with fail;go_loopw[3,4] (λou qq wr=>∃(j:Nat) (s:Sl) (xs:List WV),ou=.slice s.a xs.length s.c/\qq=.int .i64 j/\j<=N.length/\Yd (xs.map WV.v=ov.take j)/\Yd (OW wr (w.heap.size+1) w.heap.size s xs)/\Yd (Blk wr w.heap.size 34 #[.int .i64 6,.bool b,.int .i64 i,.string t,.slice sl.a l.length sl.c,.slice so.a N.length so.c])/\Yd (Ext w wr/\w.heap.size+1<=wr.heap.size)) (λ_ qq _=>N.length -(intOf qq).toNat)
  case atStart=>exact⟨0,Sl.none,[],rfl,rfl,aA _,hY rfl,g0,g4,hY ⟨b3.o,Nat.le_of_eq e8.o.symm⟩⟩
  obtain⟨j,s,xs,rfl,rfl,hj,a6,HO,HB,HX⟩:=hrel;obtain⟨p0,p1,p2,p3,p4,p5⟩:=HB.o.c6;have lp:=HB.o.lt;by_cases d7:j<N.length
  ·have g1:(j:Int)<(N.length:Int):=oM
   have i1:decide ((j:Int)<(N.length:Int))=true:=eI g1;obtain⟨d,hd⟩:∃d,ov[j]? = some d:=⟨_,ac (by rw[b9.o];exact d7)⟩;have b0:Agree (Lt w) w wr:=HX.o.1.agree λ_ h=>h
   obtain⟨e4,f9,f1⟩:=a8.o.eq oM;have c0:=a8.o.fits (show 0<N.length by omega);obtain⟨sa,sc⟩:=so;dsimp only at e4 f9 f1;subst e4;obtain⟨v0,v1,v2,v3,v4,v5⟩:=(f2.o j d hd).agree b0 c0;have lb:bo<wr:=ab c0 HX.o.1.size;have e0:xs.length=j:=by rw[<-aq (f:=WV.v),a6.o,av,b9.o];omega
   have a7:Ext wr (wr.alloc (.cells #[.int .i64 d.kind,.bool d.b,.int .i64 d.i,.string d.t,.slice (co j).1.a d.l.length (co j).1.c,.slice (co j).2.a d.ok.length (co j).2.c] 34)):=(gh _).alloc _ _;have d8:RV wr (Lt w) d (co j).1 (co j).2:=(g8.o j d hd).agree b0;obtain⟨f8,d5,f4,e7,HD⟩:=Yf (d8.agree (a7.agree λb (hb:b<w)=>ab hb HX.o.1.size)) (HO.o.ext a7 HX.o.1.size) (gm wr 34 #[.int .i64 d.kind,.bool d.b,.int .i64 d.i,.string d.t,.slice (co j).1.a d.l.length (co j).1.c,.slice (co j).2.a d.ok.length (co j).2.c]) a7 hd;have i3:=b6.o;have b7:xs.length+1<=maxLen:=by have:=b6.o;unfold maxLen;omega
   have b5:(xs.length+1)*88<=140737488355328:=by have:=b6.o;omega
   have a0:w.heap.size+1<=(wr.alloc (.cells #[.int .i64 d.kind,.bool d.b,.int .i64 d.i,.string d.t,.slice (co j).1.a d.l.length (co j).1.c,.slice (co j).2.a d.ok.length (co j).2.c] 34)).heap.size:=by rw[eK];have:=HX.o.2;omega
   have c4:=(⟨d,(co j).1,(co j).2⟩:WV).one;have g9:=hY e0;clear hd b0 a7 d8 e0 c0;go_wp2_with(at_builtin;refine Qak _ rfl (.tmp 22) (.tmp 29) 31 rfl (w.heap.size+1) 34 i0 _ 6 88 underlying31 hi d4 c7 c3 rfl oN s xs.length (QeF xs) rfl d5.o.own (λb=>b=wr.heap.size) ⟨some wr,1⟩ 1 (⟨d,(co j).1,(co j).2⟩:WV).cells rfl (gA f4.o oN rfl) c4 b7 b5 a0 ?_;intro s' w3 I a2 b4;have a1:=hY I;have Z:=hY a2;clear I a2 b4);have a5:∀b,s.row=some b->w.heap.size+1<=b:=λb hb=>(Qad HO.o.own hb).1
   have c8:OW w3 (w.heap.size+1) w.heap.size s' (xs++[⟨d,(co j).1,(co j).2⟩]):=OW.append (cG _) a0 d5.o (λy hy=>by simp only[List.mem_singleton]at hy;subst hy;exact f8.o) (by rw[show QeF [(⟨d,(co j).1,(co j).2⟩:WV)]=(⟨d,(co j).1,(co j).2⟩:WV).cells by simp[QeF]];exact a1.o) Z.o;have a4:Blk w3 w.heap.size 34 #[.int .i64 6,.bool b,.int .i64 i,.string t,.slice sl.a l.length sl.c,.slice (some ⟨bo,fo,none⟩) N.length sc]:=(HB.o.ext e7.o).agree (Z.o.agree (F:=λb=>b=w.heap.size) (λi hi=>by rw[eK];omega) (λk hk e=>by have:=a5 k hk;omega)) rfl;have d0:Ext w w3:=(HX.o.1.trans e7.o).wr Z.o (λi hi=>by have:=a5 i hi;omega);have c9:w.heap.size+1<=w3.heap.size:=ak a0 Z.o.grown.size;obtain⟨f3,f0,f5⟩:=Yc c8 a4 (And.intro d0 c9);clear c8 a4 d0 c9 a5 a1 Z;go_roundw
   case rel=>exact⟨j+1,s',xs++[⟨d,(co j).1,(co j).2⟩],by rw[aj];rfl,by go_num,d7,hY (by rw[aB,a6.o,aJ,HD.o];rfl),f3,f0,f5⟩
   simp[intOf];omega
  obtain rfl:j=N.length:=oM
  have g1:decide ((N.length:Int)<(N.length:Int))=false:=eG oM;have e6:xs.map WV.v=ov:=by rw[a6.o,<-b9.o,aR]
  have f7:=hY e6;clear e6 a6;go_wp2_with fail;go_ret;refine⟨s,xs,rfl,by rw[f7.o];rfl,(gz HO.o.own).mono λi hi=>hi.2,HO.o.vals,HX.o.1⟩
 have g6:(k==6)=false:=by simpa using h6
 go_wp2_with fail;go_ret;refine⟨Sl.none,[],rfl,?_,Rd.nil _ _ _,λx hx=>by simp at hx,(gh w).alloc _ _⟩;unfold Qwg;dsimp only;rw[eE h5,eE h6];rfl
theorem QyA(m:Nat):∀(d:Val),SizeOf.sizeOf d<=m->Qdv d<=1000000->∀(w:World) (sl so:Sl),RV w (Lt w) d sl so->
  Calls prog 124 #[QbV d sl so] w λe w'=>e=.returned (.int .i64 (Qdv d:Int))/\Ext w w':=by
 induction m with
 |zero=>intro d hd;have:=Val.Qb6 d;omega
 |succ m ih=>
 intro d hd b3 w sl so h;have HI:=hY ih;clear ih;have c8:∀(j:Nat) (x:Val),(Qwg d)[j]? = some x->SizeOf.sizeOf x<=m:=λj x hj=>bv (ab (Qyu hj) hd)
 have b9:=hY c8;rw[Qxr]at b3 ⊢;have N:=(gh w).alloc #[.int .i64 d.kind,.bool d.b,.int .i64 d.i,.string d.t,.slice sl.a d.l.length sl.c,.slice so.a d.ok.length so.c] 34;have ho:=QxU ((h.agree (N.agree λ_ h=>h)).mono λi (hi:i<w)=>ab hi N.size);obtain⟨HO,a9⟩:=Yb ho N;clear ho h N hd c8;go_in;go_wp2_with fail;refine HO.o.mono ?_;rintro e w1 ⟨s,xs,rfl,a3,c7,b4,a1⟩;obtain⟨b,o,c1,b5⟩:=Qsg c7;have c0:xs.length=(Qwg d).length:=by rw[<-a3,aq]
 have b7:∀(j:Nat) (x:WV),xs[j]? = some x->(Qwg d)[j]? = some x.v:=λj x hj=>by rw[<-a3,ar,hj];rfl
 obtain⟨HX,d5,a7,a8,d3,a5⟩:=Yg (a9.o.trans a1) (λx hx=>(b4 x hx).mono λi (hi:i<_)=>ab hi a1.size) b7 c1 b5 c0;clear a3 c7 b4 a1 c1 b5 c0 b7 HO a9;obtain⟨W,hW⟩:∃W,Qwg d=W:=⟨_,rfl⟩;rw[hW]at b9 a7 a5 b3;have HW:=hY hW;clear hW;go_wp2_with fail;go_loopw[3,5] (λdp qq wr=>∃j:Nat,dp=.int .i64 (Qb1 (W.take j):Int)/\qq=.int .i64 j/\j<=xs.length/\Ext w1 wr) (λ_ qq _=>xs.length -(intOf qq).toNat)
 case atStart=>exact⟨0,rfl,rfl,aA _,gh _⟩
 obtain⟨j,rfl,rfl,hj,Z⟩:=hrel;by_cases a2:j<xs.length
 ·have g1:(j:Int)<(xs.length:Int):=oM
  have d7:decide ((j:Int)<(xs.length:Int))=true:=eI g1;obtain⟨x,hx⟩:∃x,xs[j]? = some x:=⟨_,ac a2⟩;have d0:Ext w wr:=HX.o.trans Z;have a0:Agree (Lt w1) w1 wr:=Z.agree λ_ h=>h
  obtain⟨c4,d4,a4⟩:=a8.o.eq oM;have c9:=a8.o.fits (show 0<xs.length by omega);obtain⟨sa,sc⟩:=s;dsimp only at c4 d4 a4;subst c4;obtain⟨v0,v1,v2,v3,v4,v5⟩:=(d3.o j x hx).agree a0 c9;have lb:b<wr:=ab c9 Z.size;have I:=a7.o j x hx;have e0:=Qii I;have a6:Calls prog 124 #[QbV x.v x.sl x.so] wr λe w'=>e=.returned (.int .i64 (Qdv x.v:Int))/\Ext wr w':=
   HI.o x.v (b9.o j x.v I) oM wr _ _ (((d5.o x (am hx)).agree a0).mono λi (hi:i<w1)=>ab hi Z.size)
  have c6:=Qfc I;have d6:Qb1 (W.take j)<=1000000:=by have:=Qx8 W j;omega
  have d8:xs.length<=9223372036854775807:=by unfold maxLen at a4;omega
  obtain⟨c3,b8,HN⟩:=Yc a6 c6 Z;clear hx d0 a0 a6 Z c6 I;go_wp2_with fail;refine c3.o.mono ?_;rintro e w3 ⟨rfl,c2⟩;have b0:=hY (HN.o.trans c2);clear c2 v0 v1 v2 v3 v4 v5 c3 HN;by_cases b6:Qb1 (W.take j)<Qdv x.v
  ·have g4:decide ((Qb1 (W.take j):Int)<(Qdv x.v:Int))=true:=eI oM
   go_wp2_with fail;go_roundw
   case rel=>exact⟨j+1,by rw[b8.o,Nat.max_eq_right (bZ b6)],by go_num,a2,b0.o⟩
   simp[intOf];omega
  have g4:decide ((Qb1 (W.take j):Int)<(Qdv x.v:Int))=false:=eG oM;go_wp2_with fail;go_roundw
  case rel=>exact⟨j+1,by rw[b8.o,Nat.max_eq_left (Nat.le_of_not_lt b6)],by go_num,a2,b0.o⟩
  simp[intOf];omega
 obtain rfl:j=xs.length:=oM
 have g1:decide ((xs.length:Int)<(xs.length:Int))=false:=eG oM;rw[a5.o,aR];have g2:IntKind.i64.wrap ((Qb1 W:Int)+1)=(Qb1 W:Int)+1:=by rw[eM];omega
 obtain⟨HZ,HN⟩:=Yb (show((1+Qb1 W:Nat):Int)=(Qb1 W:Int)+1 by omega) (HX.o.trans Z);clear Z;go_wp2_with fail;go_ret;exact⟨by rw[HW.o,HZ.o];rfl,HN.o⟩
theorem Tryz.Qyd:(prog.info? 3).map (λi=>(i.zero,i.size,i.bytes))=some (some (.int .i64 0),1,8):=kM
def Qwp(s1 s2:Sl):Prop:=∀b,s1.row=some b->s2.row≠some b
variable{s1 s2:Sl}
theorem Qwp.comm(h:Qwp s1 s2):Qwp s2 s1:=λb I e=>h b e I
variable{W:World}
theorem Qwp.grow{base e size n:Nat}{xs:List Value}(h:Qwp s1 s2)(ho:w.ownsRow base e size (.slice s2.a n s2.c) n xs)(hW:w.heap.size<=W.heap.size)(hs:s'.a=s1.a\/s'.a=some ⟨W,0,none⟩):Qwp s' s2:=by
 intro b I N;have Z:=(Qad ho N).2;rcases hs with hs|hs
 .exact h b (by unfold Sl.row at I ⊢;rw[<-hs];exact I) N
 have:b=W.heap.size:=by unfold Sl.row at I;rw[hs]at I;simpa using I.symm
 omega
theorem Qxg{base e size n:Nat}{xs:List Value}(h:Qwp s1 s2)(I:w.ownsRow base e size (.slice s2.a n s2.c) n xs)(Z:Wr w w' s1.row):w'.ownsRow base e size (.slice s2.a n s2.c) n xs:=
 Qab I (Z.agree (F:=λb=>s2.row=some b) (λi hi=>(Qad I hi).2) (λk N e=>h k N e)) λb hb=>hb
def QwU(D:List (Nat × Nat)):List Value:=D.map λx=>.int .i64 (x.2:Int)
def QwQ(D:List (Nat × Nat)):List Value:=D.map λx=>.int .i64 (x.1:Int)
def QxZ(s:ByteArray)(w:World)(e:Ending)(w':World):Prop:=
 ∃(s1:Sl) (v2:Value),e=.returned (.tuple #[.slice s1.a (Qdn s).length s1.c,v2])/\Rd w' (Lt w'.heap.size) 1 s1 (Qdn s).length (QwU (Qdn s))/\Ext w w'
theorem Qxt(w:World)(s:ByteArray)(hs:s.size<=1000000000):Calls prog 184 #[s] w (QxZ s w):=by
 obtain⟨iN,nI,f0,d8,d6⟩:=eR Tryz.Qyd;have c6:=λ(W:World) (p:Nat)=>Qxz W s p oM
 have f4:=hY c6;clear c6;go_in;go_wp2_with fail;go_loopw[4,5,6] (λv1 v2 v3 wr=>∃(p f:Nat) (s1 s2:Sl) (D:List (Nat × Nat)),v1=.slice s1.a D.length s1.c/\v2=.slice s2.a D.length s2.c/\v3=.int .i64 (p:Int)/\p<=s.size/\D.length<=p/\Yd (D++Qbb s f p=Qdn s/\s.size<=p+f)/\Yd (wr.ownsRow w.heap.size 3 1 (.slice s1.a D.length s1.c) D.length (QwU D))/\Yd (wr.ownsRow w.heap.size 3 1 (.slice s2.a D.length s2.c) D.length (QwQ D))/\Yd (Qwp s1 s2)/\Yd (Ext w wr)) (λ_ _ v _=>s.size -(intOf v).toNat)
 case atStart=>exact⟨0,s.size,Sl.none,Sl.none,[],rfl,rfl,rfl,aA _,aA _,hY ⟨rfl,oM⟩,hY (eS _ _ _ _),hY (eS _ _ _ _),hY (λb Z=>by cases Z),hY (gh _)⟩
 obtain⟨p,f,s1,s2,D,rfl,rfl,rfl,hp,g6,HD,a1,b8,HA,HX⟩:=hrel;by_cases d4:p<s.size
 ·have e1:decide ((p:Int)<(s.size:Int))=true:=eI oM
  obtain⟨a3,a6,hr⟩:=Qgs d4;have a0:=Qyo s p;go_wp2_with fail;refine(f4.o _ p).mono ?_;rintro e w2 ⟨rfl,f3⟩;obtain rfl:=f3.symm;obtain⟨r,z,hd⟩:∃r z,Utf8.decode s p=(r,z):=⟨_,_,rfl⟩;by_cases Z:Utf8.decode s p=(65533,1)
  ·rw [eH (.inr Z)] at a0
   rw[a0];have I:=HD.o.1;rw[Qlx Z,aU]at I;have HF:=hY I;clear a0 Z hd a3 a6 hr I;go_wp2_with fail;go_ret2;refine⟨s1,_,by rw[<-HF.o];rfl,?_,HX.o⟩;rw[<-HF.o];exact(gz a1.o).mono λi hi=>hi.2
  rw[eE (λh=>h.elim (λh=>absurd h oM) Z)]at a0;rw[a0];have N:=QhI d4 HD.o.2 Z;rw[hd]at a3 a6 N ⊢;dsimp only at a3 a6 N ⊢;have I:=HD.o.1;rw[N]at I;have HF:=hY (show(D++[(p,r)])++Qbb s (f-1) (p+z)=Qdn s by rw[aT];exact I);have e2:((z:Int)==0)=false:=eJ.2 oM;have e3:IntKind.i64.wrap ((p:Int)+(z:Int))=(p:Int)+(z:Int):=by rw[eM];omega
  obtain⟨f8,c8⟩:=Yb HD.o.2 a3;have a8:Ext wr (wr.alloc (.cells #[.int .i64 (r:Int)] 3)):=(gh _).alloc _ _;have c2:=hY (gm wr 3 #[.int .i64 (r:Int)]);have e8:=Qab a1.o (a8.agree λb (h:b<wr)=>h) λb Z=>(Qad a1.o Z).2
  have b9:=Qab b8.o (a8.agree λb (h:b<wr)=>h) λb Z=>(Qad b8.o Z).2
  obtain⟨c9,b5,c3⟩:=Yc e8 b9 (HX.o.trans a8);have e7:D.length+1<=maxLen:=by unfold maxLen;omega
  have d5:(D.length+1)*8<=140737488355328:=oM
  have g4:=HX.o.size;have a5:w.heap.size<=(wr.alloc (.cells #[.int .i64 (r:Int)] 3)).heap.size:=by rw[eK];omega
  clear a0 Z hd hr a3 N I e8 b9 a8;go_upto_region 7 with(at_builtin;refine Qak _ rfl (.tmp 21) (.tmp 23) 50 rfl w.heap.size 3 iN _ 1 8 underlying50 nI f0 d8 d6 rfl oN s1 D.length (QwU D) rfl c9.o (λb=>b=wr.heap.size) ⟨some wr,1⟩ 1 [.int .i64 (r:Int)] rfl (gA c2.o oN rfl) (by simp[Value.oneCell']) e7 d5 a5 ?_;intro b6 w6 a2 b3 c0;have d7:=hY a2;have b0:=hY b3;have e0:=hY c0;clear a2 b3 c0);have f5:=b0.o.grown.size;have d0:Qwp b6 s2:=HA.o.grow b5.o (ao _) (e0.o.imp id And.left);have b7:=Qxg HA.o b5.o b0.o;have d3:Ext w w6:=c3.o.wr b0.o λi hi=>(Qad a1.o hi).1
  have a7:Ext w6 (w6.alloc (.cells #[.int .i64 (p:Int)] 3)):=(gh _).alloc _ _;obtain⟨f6,c7,f1,g3,e4⟩:=Yf (gm w6 3 #[.int .i64 (p:Int)]) (Qab d7.o (a7.agree λb (h:b<w6)=>h) λb Z=>(Qad d7.o Z).2) (Qab b7 (a7.agree λb (h:b<w6)=>h) λb Z=>(Qad b7 Z).2) (d3.trans a7) d0;have a9:w.heap.size<=(w6.alloc (.cells #[.int .i64 (p:Int)] 3)).heap.size:=by rw[eK];omega
  clear d0 b7 d3 a7 c9 b5 b0 e0 c2 a1 b8 c3 HX g4 f5 a5;go_wp2_with(at_builtin;refine Qak _ rfl (.tmp 25) (.tmp 27) 50 rfl w.heap.size 3 iN _ 1 8 underlying50 nI f0 d8 d6 rfl oN s2 D.length (QwQ D) rfl f1.o (λb=>b=w6.heap.size) ⟨some w6,1⟩ 1 [.int .i64 (p:Int)] rfl (gA f6.o oN rfl) (by simp[Value.oneCell']) e7 d5 a9 ?_;intro c1 w9 a4 b4 c4;have f9:=hY a4;have e6:=hY b4;have f2:=hY c4;clear a4 b4 c4);go_roundw
  case rel=>
   have g5:Qwp c1 b6:=e4.o.comm.grow c7.o (ao _) (f2.o.imp id And.left);have f7:=Qxg e4.o.comm c7.o e6.o;have g0:Ext w w9:=g3.o.wr e6.o λi hi=>(Qad f1.o hi).1
   have hz:=c8.o;refine⟨p+z,f-1,b6,c1,D++[(p,r)],by rw[aj];rfl,by rw[aj];rfl,by go_num,a6,?_,hY ⟨HF.o,by have:=f8.o;omega⟩,hY ?_,hY ?_,hY g5.comm,hY g0⟩
   .rw [aj];show D.length+1<=_;omega
   .rw [aj,show QwU (D++[(p,r)])=QwU D++[.int .i64 (r:Int)]by simp[QwU]];exact f7
   rw[aj,show QwQ (D++[(p,r)])=QwQ D++[.int .i64 (p:Int)]by simp[QwQ]];exact f9.o
  have:=c8.o;simp[intOf];omega
 obtain rfl:p=s.size:=oM
 have e1:decide ((s.size:Int)<(s.size:Int))=false:=eG oM;have I:=HD.o.1;rw[Qkq (ao _),aU]at I;have HF:=hY I;clear I;go_wp2_with fail;go_ret2;refine⟨s1,_,by rw[<-HF.o];rfl,?_,HX.o⟩;rw[<-HF.o];exact(gz a1.o).mono λi hi=>hi.2
def Qxq:Nat->Nat
 |0=>34
 |1=>92
 |2=>47
 |3=>8
 |4=>12
 |5=>10
 |6=>13
 |_=>9
theorem QxH(w:World)(k:Nat)(N:k<8):Calls prog 185 #[.int .i64 (k:Int)] w λe w'=>e=.returned (.int .i64 (Qxq k:Int))/\Ext w w':=by
 have I:k=0\/k=1\/k=2\/k=3\/k=4\/k=5\/k=6\/k=7:=oM
 clear N;rcases I with rfl|rfl|rfl|rfl|rfl|rfl|rfl|rfl
 all_goals
  go_in;go_wp2_with fail;go_ret;exact⟨rfl,(gh w).alloc _ _⟩
def QxA(r:Nat):Nat:=if r<128 then 1 else if r<2048 then 2 else if r<65536 then 3 else 4
theorem QyE(h:r<=1114111):(Lib.encodeRune (r:Int)).length=QxA r:=by
 unfold Lib.encodeRune QxA;rw[aq];unfold Lib.encodeRuneZ;by_cases h1:r<128
 .rw [eH oM,eH h1];rfl
 rw[eE oM,eE h1];by_cases h2:r<2048
 .rw [eH oM,eH h2];rfl
 rw[eE oM,eE h2];by_cases I:r<65536
 ·rw [eH I]
  by_cases N:((2048:Int)<=(r:Int)/\(r:Int)<55296)\/((57343:Int)<(r:Int)/\(r:Int)<=65535)
  .rw [eH N];rfl
  rw[eE N,eE oM];rfl
 rw[eE oM,eH oM,eE I];rfl
theorem QwX(q:List UInt8)(W:World)(b:Nat)(cs:Array Value)(t:TypeId)(I:Blk W b t cs)(h:cs.toList=q.map λx=>Value.int .u8 (x.toNat:Int)):(convert 249 9 (.slice (some b) q.length q.length)).run prog W=.ok (.string ⟨q.toArray⟩) W:=
 run_convert_bytes_back (P:=prog) W 249 9 5 b q.length q underlying249 underlying5 underlying9 (λj N=>by
  rw[Qbc,aD,I.cell,<-bT,h,ar,ac N];rfl)
variable{n:Nat}
theorem QyP(h:n<256):((UInt8.ofNat n).toNat:Int)=(n:Int):=by
 rw[UInt8.toNat_ofNat',Nat.mod_eq_of_lt oM]
theorem QwM(xs:List Int)(W:World)(b:Nat)(t:TypeId)(I:Blk W b t (xs.map (Value.int .u8)).toArray)(h:∀x∈xs,0<=x/\x<256):∃q:ByteArray,q.size=xs.length/\(convert 249 9 (.slice (some b) xs.length xs.length)).run prog W=.ok (.string q) W:=by
 refine⟨⟨(xs.map λx=>UInt8.ofNat x.toNat).toArray⟩,by simp[ByteArray.size],?_⟩;have:=QwX (xs.map λx=>UInt8.ofNat x.toNat) W b _ t I (by
  rw[cN];show xs.map (Value.int .u8)=_;apply List.map_congr_left;intro x N;have:=h x N;show Value.int .u8 x=Value.int .u8 (((UInt8.ofNat x.toNat).toNat:Nat):Int);rw[QyP oM];congr 1;omega)
 rwa[aq]at this
theorem Qxp(w:World)(r:Nat)(hr:r<=1114111):Calls prog 186 #[.int .i64 (r:Int)] w λe w'=>∃t:ByteArray,e=.returned t/\t.size=QxA r/\Ext w w':=by
 go_in;by_cases h1:r<128
 ·have e1:decide ((r:Int)<128)=true:=eI oM
  have e2:IntKind.u8.wrap (r:Int)=(r:Int):=by rw[IntKind.wrap_u8];omega
  have Z:(convert 249 9 (.slice (some w) 1 1)).run prog (w.alloc (.cells #[.int .u8 (r:Int)] 5))=.ok (.string ⟨#[UInt8.ofNat r]⟩) (w.alloc (.cells #[.int .u8 (r:Int)] 5)):=
   QwX [UInt8.ofNat r] _ _ _ _ (gm w 5 #[.int .u8 (r:Int)]) (by rw[bn,QyP oM];rfl)
  have HL:=hY (show 1=QxA r by unfold QxA;rw[eH h1]);clear h1 hr;go_wp2_with fail;go_ret;exact⟨_,rfl,HL.o,(gh w).alloc _ _⟩
 have f1:decide ((r:Int)<128)=false:=eG oM;by_cases h2:r<2048
 ·have e1:decide ((r:Int)<2048)=true:=eI oM
  obtain⟨q,I,Z⟩:∃q:ByteArray,q.size=2/\(convert 249 9 (.slice (some w) 2 2)).run prog (w.alloc (.cells #[.int .u8 (192+(r:Int)/64),.int .u8 (128+(r:Int)%64)] 5))=.ok (.string q) (w.alloc (.cells #[.int .u8 (192+(r:Int)/64),.int .u8 (128+(r:Int)%64)] 5)):=
   QwM [192+(r:Int)/64,128+(r:Int)%64] _ _ _ (gm w 5 #[.int .u8 (192+(r:Int)/64),.int .u8 (128+(r:Int)%64)]) (by intro x N;simp only[List.mem_cons,List.not_mem_nil,or_false]at N;rcases N with rfl|rfl<;>omega)
  have HL:=hY (show q.size=QxA r by unfold QxA;rw[I];rw[eE h1,eH h2]);clear I;go_wp2_with fail;go_ret;exact⟨_,rfl,HL.o,(gh w).alloc _ _⟩
 have f2:decide ((r:Int)<2048)=false:=eG oM;by_cases h3:r<65536
 ·have e1:decide ((r:Int)<65536)=true:=eI oM
  obtain⟨q,I,Z⟩:∃q:ByteArray,q.size=3/\(convert 249 9 (.slice (some w) 3 3)).run prog (w.alloc (.cells #[.int .u8 (224+(r:Int)/4096),.int .u8 (128+(r:Int)/64%64),.int .u8 (128+(r:Int)%64)] 5))=.ok (.string q) (w.alloc (.cells #[.int .u8 (224+(r:Int)/4096),.int .u8 (128+(r:Int)/64%64),.int .u8 (128+(r:Int)%64)] 5)):=
   QwM [224+(r:Int)/4096,128+(r:Int)/64%64,128+(r:Int)%64] _ _ _ (gm w 5 #[.int .u8 (224+(r:Int)/4096),.int .u8 (128+(r:Int)/64%64),.int .u8 (128+(r:Int)%64)]) (by intro x N;simp only[List.mem_cons,List.not_mem_nil,or_false]at N;rcases N with rfl|rfl|rfl<;>omega)
  have HL:=hY (show q.size=QxA r by unfold QxA;rw[I];rw[eE h1,eE h2,eH h3]);clear I;go_wp2_with fail;go_ret;exact⟨_,rfl,HL.o,(gh w).alloc _ _⟩
 have e1:decide ((r:Int)<65536)=false:=eG oM;obtain⟨q,I,Z⟩:∃q:ByteArray,q.size=4/\(convert 249 9 (.slice (some w) 4 4)).run prog (w.alloc (.cells #[.int .u8 (240+(r:Int)/262144),.int .u8 (128+(r:Int)/4096%64),.int .u8 (128+(r:Int)/64%64),.int .u8 (128+(r:Int)%64)] 5))=.ok (.string q) (w.alloc (.cells #[.int .u8 (240+(r:Int)/262144),.int .u8 (128+(r:Int)/4096%64),.int .u8 (128+(r:Int)/64%64),.int .u8 (128+(r:Int)%64)] 5)):=
  QwM [240+(r:Int)/262144,128+(r:Int)/4096%64,128+(r:Int)/64%64,128+(r:Int)%64] _ _ _ (gm w 5 #[.int .u8 (240+(r:Int)/262144),.int .u8 (128+(r:Int)/4096%64),.int .u8 (128+(r:Int)/64%64),.int .u8 (128+(r:Int)%64)]) (by intro x N;simp only[List.mem_cons,List.not_mem_nil,or_false]at N;rcases N with rfl|rfl|rfl|rfl<;>omega)
 have HL:=hY (show q.size=QxA r by unfold QxA;rw[I];rw[eE h1,eE h2,eE h3]);clear I;go_wp2_with fail;go_ret;exact⟨_,rfl,HL.o,(gh w).alloc _ _⟩
theorem Qyn{r k:Nat}(N:k<8)(h2:k≠2)(h:Qxq k=r):(QcZ r).length=2:=by
 have I:k=0\/k=1\/k=3\/k=4\/k=5\/k=6\/k=7:=oM
 subst h;rcases I with rfl|rfl|rfl|rfl|rfl|rfl|rfl<;>rfl
theorem QxM(h:∀i,i<8->i=2\/Qxq i≠r)(I:r<=1114111):(QcZ r).length=if r<32 then 6 else QxA r:=by
 have Z:34≠r:=(h 0 oN).resolve_left oN;have h1:92≠r:=(h 1 oN).resolve_left oN;have h3:8≠r:=(h 3 oN).resolve_left oN;have N:12≠r:=(h 4 oN).resolve_left oN;have h5:10≠r:=(h 5 oN).resolve_left oN;have h6:13≠r:=(h 6 oN).resolve_left oN;have h7:9≠r:=(h 7 oN).resolve_left oN;unfold QcZ Qb3;by_cases hs:r<32
 ·rw [eH hs,eE (by simp;omega)]
  unfold Qbs;rw[eE (Ne.symm Z),eE (Ne.symm h1),eE (Ne.symm h3),eE (Ne.symm h7),eE (Ne.symm h5),eE (Ne.symm N),eE (Ne.symm h6)];rfl
 rw[eE hs,eH (by simp;omega),QyE I]
def QxY(r k:Nat):Prop:=∀i,i<k->i=2\/Qxq i≠r
theorem QwS(w:World)(s:ByteArray)(hs:s.size<=100000000)(hv:Lib.validD s.data.toList=true):Calls prog 157 #[s] w λe w'=>∃t:ByteArray,e=.returned (.tuple #[t,.int .i64 0])/\t.size=(QdG s).length/\Ext w w':=by
 have N:=Qwe w s oM;rw[hv]at N;have a3:=Qxt w s oM;obtain⟨a2,a5⟩:=Yb N a3;clear N a3 hv;go_in;go_wp2_with fail;refine a2.o.mono ?_;rintro e w1 ⟨rfl,hw⟩;obtain rfl:=hw.symm;go_wp2_with fail;refine a5.o.mono ?_;rintro e w1 ⟨s1,v2,rfl,c8,c1⟩;have a7:∀x∈Qdn s,x.2<=1114111:=λx hx=>(QfH hx).1
 have b5:(Qdn s).length<=s.size:=ak (Qdc s s.size 0) (Nat.sub_le _ _);obtain⟨Q,hQ⟩:∃Q,(QdG s).length=Q:=⟨_,rfl⟩;have a6:Q=(Qbo (Qdn s)).length+2:=by rw[<-hQ];unfold QdG;simp
 have HQ:=hY hQ;generalize Qdn s=D at a7 b5 a6 c8;obtain⟨b,o,c4,d5,c2⟩:=c8;obtain⟨b9,d3,d0,d7,e0⟩:=Yf c4 c2 a7 c1 a6;clear hQ a6 a7 c4 d5 c2 c1 a2 a5;go_wp2_with fail;go_loopw[4,8] (λou qq wr=>∃(j:Nat) (t:ByteArray),ou=.string t/\qq=.int .i64 (j:Int)/\j<=D.length/\Yd (t.size=1+(Qbo (D.take j)).length)/\Yd (Ext w1 wr)) (λ_ qq _=>D.length -(intOf qq).toNat)
 case atStart=>exact⟨0,_,rfl,rfl,aA _,hY rfl,hY (gh _)⟩
 obtain⟨j,t,rfl,rfl,hj,HT,HX⟩:=hrel;by_cases a1:j<D.length
 ·have e1:decide ((j:Int)<(D.length:Int))=true:=eI oM
  have e2:(j:Int)<(D.length:Int):=oM
  obtain⟨x,hx⟩:∃x,D[j]? = some x:=⟨_,ac a1⟩;obtain⟨p,r⟩:=x;have d4:t.size<=1000000000:=by
   have h1:=QdZ (D.take j);rw[HT.o];rw[av]at h1;omega
  have hr:r<=1114111:=d0.o _ (am hx);obtain⟨c7,d6,c9⟩:=b9.o.eq oM;have b4:=b9.o.fits (show 0<D.length by omega);obtain⟨sa,sc⟩:=s1;dsimp only at c7 d6 c9;subst c7;have c0:wr.cell? ⟨b,o+j,none⟩=some (.int .i64 (r:Int)):=(HX.o.agree λb (h:Lt w1.heap.size b)=>h).cell b4 |>.trans (d3.o j _ (by unfold QwU;rw[ar,hx];rfl))
  have lb:b<wr:=ab b4 HX.o.size;have b0:=hY hx;clear hx;go_wp2_with fail;have a9:=hY (λ(W:World) (k:Nat) (hk:k<8)=>QxH W k hk);clear c0 lb b4;go_loopw[10] (λkk wr=>∃k:Nat,kk=.int .i64 (k:Int)/\k<=8/\Yd (QxY r k)/\Yd (Ext w1 wr)) (λkk _=>8 -(intOf kk).toNat)
  case atStart=>exact⟨0,rfl,aA _,hY (λi hi=>absurd hi (ew _)),HX⟩
  clear HX;obtain⟨k,rfl,hk,HM,HX⟩:=hrel;by_cases a8:k<8
  ·have f1:decide ((k:Int)<8)=true:=eI oM
   by_cases b7:k=2
   ·subst b7
    have b3:=hY (show QxY r (2+1) fromλi hi=>by by_cases h:i<2;exact HM.o i h;exact .inl oM);go_wp2_with fail;go_roundw
    case rel=>exact⟨2+1,by go_num,oN,b3,HX⟩
    simp[intOf]
   have f2:((k:Int)==2)=false:=eJ.2 oM;go_wp2_with fail;refine(a9.o _ k a8).mono ?_;rintro e w2 ⟨rfl,Z⟩;have a0:=hY (HX.o.trans Z);clear Z;by_cases hc:Qxq k=r
   ·have c3:=hY (Qyn a8 b7 hc)
    have f3:((Qxq k:Int) !=(r:Int))=false:=by rw[hc];simp
    have s1:¬9223372036854775807<t.size+1:=oM
    have s2:¬9223372036854775807<t.size+1+(min (k+1) 8-k):=oM
    clear hc;go_wp2_with fail;go_roundw
    case rel=>
     refine⟨j+1,_,rfl,by go_num,a1,hY ?_,a0⟩;rw[aJ,b0.o,ec,Qep,aj,c3.o,aK,aK,bW,HT.o];show _+1+(min (k+1) 8-k)=_;omega
    simp[intOf];omega
   have f3:((Qxq k:Int) !=(r:Int))=true:=by simp;omega
   have b3:=hY (show QxY r (k+1) fromλi hi=>by by_cases h:i<k;exact HM.o i h;exact .inr (by rw[show i=k by omega];exact hc));clear hc;go_wp2_with fail;go_roundw
   case rel=>exact⟨k+1,by go_num,a8,b3,a0⟩
   simp[intOf];omega
  obtain rfl:k=8:=oM
  have I:=hY (QxM HM.o hr);by_cases a4:r<32
  ·have f3:decide ((r:Int)<32)=true:=eI oM
   have s1:¬9223372036854775807<t.size+4:=oM
   go_wp2_with fail;go_quiet (fail);go_wp2_with fail;go_roundw
   case rel=>
    refine⟨j+1,_,rfl,by go_num,a1,hY ?_,hY (HX.o.trans ((gh wr).drewN _))⟩;rw[aJ,b0.o,ec,Qep,aj,I.o,eH a4,aK,aK,aK,bW,bW,HT.o];show _+4+(min (r/16+1) 16-r/16)+(min (r%16+1) 16-r%16)=_;omega
   simp[intOf];omega
  have f3:decide ((r:Int)<32)=false:=eG oM;have b8:=Qxp wr r hr;have e3:QxA r<=4:=by unfold QxA;split;decide;split;decide;split<;>decide
  have b6:=hY b8;clear b8;go_wp2_with fail;refine b6.o.mono ?_;rintro e w2 ⟨q,rfl,hq,Z⟩;have s1:¬9223372036854775807<t.size+q.size:=oM
  obtain⟨d8,a0⟩:=Yb hq (HX.o.trans Z);clear Z hq b6;go_wp2_with fail;go_roundw
  case rel=>
   refine⟨j+1,_,rfl,by go_num,a1,hY ?_,a0⟩;rw[aJ,b0.o,ec,Qep,aj,I.o,eE a4,aK,HT.o,d8.o];omega
  simp[intOf];omega
 obtain rfl:j=D.length:=oM
 have e1:decide ((D.length:Int)<(D.length:Int))=false:=eG oM;have d4:t.size<=1000000000:=by
  have h1:=QdZ (D.take D.length);rw[HT.o];rw[av]at h1;omega
 have s1:¬9223372036854775807<t.size+1:=oM
 have hT:=HT.o;rw[aR]at hT;have c6:=hY (show t.size+1=(QdG s).length by rw[HQ.o,e0.o,hT];omega);clear hT;go_wp2_with fail;go_ret2;exact⟨_,rfl,by rw[aK];exact c6.o,d7.o.trans HX.o⟩
def nd(u:Nat):Nat:=if u=0 then 0 else Lib.nDigits u
theorem Qyl{u:Nat}(h:u≠0):nd u=nd (u/10)+1:=by
 unfold nd;rw[eE h];by_cases h1:u<10
 .rw [Lib.nDigits_small h1,eH oM]
 rw[Lib.nDigits_big h1,eE oM]
theorem Qxb(w:World)(n:Int)(h0 : -9223372036854775808<=n)(h1:n<=9223372036854775807):Calls prog 156 #[n] w λe w'=>∃t:ByteArray,e=.returned t/\t.size=(Lib.itoa n).length/\Ext w w':=by
 by_cases hz:n=0
 ·subst hz
  go_in;go_wp2_with fail;go_ret;refine⟨_,rfl,?_,gh _⟩;rw[show Lib.itoa 0=Lib.decDigits 0 from rfl,Lib.decDigits_length,Lib.nDigits_small oN];rfl
 have a6:(n==0)=false:=by simpa using hz
 go_in;go_wp2_with fail;have a2:nd n.natAbs<=20:=by unfold nd;rw[eE oM];exact Lib.nDigits_le20 _ oM
 have a0:(Lib.itoa n).length=if n<0 then 1+nd n.natAbs else nd n.natAbs:=by
  rw[show nd n.natAbs=Lib.nDigits n.natAbs by unfold nd;rw[eE oM]];unfold Lib.itoa;by_cases I:n<0
  .rw [eH I,eH I,aC,Lib.decDigits_length];omega
  rw[eE I,eE I,Lib.decDigits_length,show n.toNat=n.natAbs by omega]
 have a1:=hY a0;clear a0;go_loopw[3,4] (λsv mv wr=>∃(t:ByteArray) (m:Int),sv=.string t/\mv=.int .i64 m/\-9223372036854775808<=m/\m<=9223372036854775807/\Yd (t.size+nd m.natAbs=nd n.natAbs)/\Yd (Ext w wr)) (λ_ mv _=>(intOf mv).natAbs)
 case atStart=>exact⟨_,n,rfl,rfl,h0,h1,hY (aD _),hY (gh _)⟩
 obtain⟨t,m,rfl,rfl,a4,a5,HT,HX⟩:=hrel;have a3:t.size<=20:=by have:=HT.o;omega
 by_cases hm:m=0
 ·subst hm
  have N:t.size=nd n.natAbs:=HT.o;by_cases I:n<0
  ·have g1:decide (n<0)=true:=eI I
   have s1:¬9223372036854775807<1+t.size:=oM
   have HS:=hY (show 1+t.size=(Lib.itoa n).length by rw[a1.o,eH I,N]);clear N;go_wp2_with fail;go_ret;exact⟨_,rfl,by rw[aK];exact HS.o,HX.o⟩
  have g1:decide (n<0)=false:=eG I;have HS:=hY (show t.size=(Lib.itoa n).length by rw[a1.o,eE I,N]);clear N;go_wp2_with fail;go_ret;exact⟨_,rfl,HS.o,HX.o⟩
 by_cases I:m<0
 ·obtain ⟨u,rfl⟩:∃ u:Nat,m = -(u:Int):=⟨m.natAbs,oM⟩
  have g0:(-(u:Int) != 0)=true:=by simpa using hm
  have N:t.size+nd u=nd n.natAbs:=by have:=HT.o;rwa[show(-(u:Int)).natAbs=u by omega]at this
  rw[Qyl oM]at N;have Z:=hY (show 1+t.size+nd (-((u:Int)/10)).natAbs=nd n.natAbs by rw[show(-((u:Int)/10)).natAbs=u/10 by omega];omega);have s1:¬9223372036854775807<min (u%10+1) 10-u%10+t.size:=oM
  have s2:¬9223372036854775807<1+t.size:=oM
  by_cases hq:u%10=0
  ·have g1:((u:Int) % 10)=0:=oM
   clear N;go_wp2_with fail;go_roundw
   case rel=>
    refine⟨_,_,rfl,rfl,oM,oM,hY ?_,HX⟩;rw[aK];exact Z.o
   simp[intOf];omega
  have g1:decide ((0:Int)<(u:Int)%10)=true:=eI oM;clear N;go_wp2_with fail;go_roundw
  case rel=>
   refine⟨_,_,rfl,rfl,oM,oM,hY ?_,HX⟩;rw[aK,bW];show min (u%10+1) 10-u%10+t.size+_=_;have:=Z.o;omega
  simp[intOf];omega
 obtain⟨u,rfl⟩:∃u:Nat,m=(u:Int):=⟨m.toNat,oM⟩;have g0:((u:Int) != 0)=true:=by simpa using hm
 have N:t.size+nd u=nd n.natAbs:=HT.o;rw[Qyl oM]at N;have Z:=hY (show 1+t.size+nd ((u:Int)/10).natAbs=nd n.natAbs by rw[show((u:Int)/10).natAbs=u/10 by omega];omega);have s1:¬9223372036854775807<min (u%10+1) 10-u%10+t.size:=oM
 clear N;go_wp2_with fail;go_roundw
 case rel=>
  refine⟨_,_,rfl,rfl,oM,oM,hY ?_,HX⟩;rw[aK,bW];show min (u%10+1) 10-u%10+t.size+_=_;have:=Z.o;omega
 simp[intOf];omega
theorem QxB:∀{l:List Val} {q j:Nat} {d:Val},Qd8 l q=0->l[j]? = some d->Qda d q=0
 |[],q,j,d,_,h=>by simp at h
 | x :: r,q,j,d,h0,h=>by
   rw[Qd8]at h0;by_cases I:Qda x q=0
   ·rw [eE (by simp [I])] at h0
    cases j with
    |zero=>simp at h;subst h;exact I
    |succ j=>exact QxB h0 (by simpa using h)
   rw[eH I]at h0;exact absurd h0 I
theorem QwG:∀{p:Option ByteArray} {ks:List ByteArray} {l:List Val} {q j:Nat} {d:Val} {k:ByteArray},QhA p ks l q=0->l[j]? = some d->ks[j]? = some k->Lib.validD k.data.toList=true/\Qda d q=0
 |p,ks,[],q,j,d,k,_,h,_=>by simp at h
 |p,[],x::r,q,j,d,k,_,_,hk=>by simp at hk
 | p,y :: ks,x :: r,q,j,d,k,I,h,hk=>by
   rw[QhA,dg,cp]at I;cases Z:Lib.validD y.data.toList with
   |false=>rw[Z,eH oN]at I;cases I
   |true=>
   rw[Z,eE oN]at I;split at I
   .cases I
   by_cases N:Qda x q=0
   ·rw [eE (by simp [N])] at I
    cases j with
    |zero=>simp at h hk;subst h hk;exact⟨Z,N⟩
    |succ j=>exact QwG I (by simpa using h) (by simpa using hk)
   rw[eH N]at I;exact absurd I N
variable{q:Nat}
theorem Qyh{k:Int}{b:Bool}{i:Int}{t:ByteArray}{l:List Val}{ok:List ByteArray}{ov:List Val}(I:ov.length=ok.length)(h:Qda (.mk k b i t l ok ov) q=0) :
  (1<=k/\k<=6)/\Lib.validD t.data.toList=true/\Qd8 l (q+1)=0/\QhA none ok ov (q+1)=0:=by
 rw[Qyi _ _ _ _ _ _ _ _ I]at h;split at h
 .cases h
 rename_i ho;split at h
 .cases h
 split at h
 .cases h
 rename_i hv;split at h
 .rename_i h1;exact absurd h h1
 rename_i h1;refine⟨?_,by simpa using hv,by simpa using h1,h⟩;unfold Qb0 at ho;by_cases N:k<1\/6<k
 .rw [eH N]at ho;exact absurd rfl ho
 omega
theorem QwD{t:ByteArray}(h:Lib.validD t.data.toList=true):(Qbf t).size=(QdG t).length:=by
 unfold Qbf;rw[eH h];show(QdG t).toArray.size=_;rw[bm]
theorem QyM(m:Nat):∀(d:Val),SizeOf.sizeOf d<=m->QcI d<=1100000->∀(q:Nat),Qda d q=0->∀(w:World) (sl so:Sl),RV w (Lt w) d sl so->
  Calls prog 125 #[QbV d sl so] w λe w'=>∃t:ByteArray,e=.returned t/\t.size=QgI d/\Ext w w':=by
 induction m with
 |zero=>intro d hd;have:=Val.Qb6 d;omega
 |succ m ih=>
 intro d hd d8 q c8 w sl so h;have HI:=hY ih;have b5:=QiE _ w d sl so h;clear ih;obtain⟨k,b,i,t,l,Z,ov⟩:=d;show Calls _ _ #[.agg #[k,b,i,t,.slice sl.a l.length sl.c,.slice so.a Z.length so.c]] _ _;cases h with
 |mk bl fl bo fo cl co hl ho hov el rl ek eo ro bk bi bt nl no=>
 have f1:∀(j:Nat) (d:Val),l[j]? = some d->SizeOf.sizeOf d<=m:=λj d hj=>bv (ab (Val.QtM hj) hd)
 have f0:∀(j:Nat) (d:Val),ov[j]? = some d->SizeOf.sizeOf d<=m:=λj d hj=>bv (ab (Val.QtN hj) hd)
 obtain⟨e2,d3,e8,f2⟩:=Qyh hov c8;have e1:QgI (.mk k b i t l Z ov)<=6600000:=oM
 unfold QcI at d8;have f6 : -9223372036854775808<=i:=by simp[Lit.wf,IntKind.min,IntKind.max,IntKind.signed,IntKind.bits]at bi;omega
 have g4:i<=9223372036854775807:=by simp[Lit.wf,IntKind.min,IntKind.max,IntKind.signed,IntKind.bits]at bi;omega
 obtain⟨g0,e0,g3,g5,g8,e3,f4⟩:=Yh f1 f0 el rl ek eo ro;obtain⟨d7,c7,c4,b4,f7,d4⟩:=Yg hov hl ho d8 e8 f2;have f3:=(gh w).alloc #[.int .i64 k,.bool b,.int .i64 i,.string t,.slice sl.a l.length sl.c,.slice so.a Z.length so.c] 34;have e4:=gm w 34 #[.int .i64 k,.bool b,.int .i64 i,.string t,.slice sl.a l.length sl.c,.slice so.a Z.length so.c];obtain⟨a0,a2⟩:=Yb f3 e4;clear f1 f0 el rl ek eo ro hov hl ho e8 f2 c8 hd b5 bi bk f3 e4;obtain⟨n,hn⟩:∃n,QgI (.mk k b i t l Z ov)=n:=⟨_,rfl⟩;rw[hn]at e1 ⊢;unfold QgI at hn;go_in;have f9:k=1\/k=2\/k=3\/k=4\/k=5\/k=6:=oM
 clear e2;rcases f9 with rfl|rfl|rfl|rfl|rfl|rfl
 ·have HN:=hY (show 4=n from hn)
  clear hn;go_wp2_with fail;go_ret;exact⟨_,rfl,HN.o,a0.o⟩
 ·have HN:=hY (show Qut b=n from hn)
  clear hn;cases b
  ·go_wp2_with fail
   go_ret;exact⟨_,rfl,HN.o,a0.o⟩
  go_wp2_with fail;go_ret;exact⟨_,rfl,HN.o,a0.o⟩
 ·have HN:=hY (show (Lib.itoa i).length=n from hn)
  have HD:=hY (Qxb (w.alloc (.cells #[.int .i64 3,b,i,t,.slice sl.a l.length sl.c,.slice so.a Z.length so.c] 34)) i f6 g4);clear hn;go_wp2_with fail;refine HD.o.mono ?_;rintro e w2 ⟨u,rfl,hu,I⟩;obtain⟨HU,N⟩:=Yb (hu.trans HN.o) (a0.o.trans I);clear hu I;go_wp2_with fail;go_ret;exact⟨_,rfl,HU.o,N.o⟩
 ·have HN:=hY (show (Qbf t).size=n from hn)
  obtain⟨HD,HQ⟩:=Yb (QwS (w.alloc (.cells #[.int .i64 4,b,i,t,.slice sl.a l.length sl.c,.slice so.a Z.length so.c] 34)) t (by have:=b4.o;omega) d3) (QwD d3);clear hn d3;go_wp2_with fail;refine HD.o.mono ?_;rintro e w2 ⟨u,rfl,hu,I⟩;obtain⟨HU,N⟩:=Yb (show u.size=n by rw[hu,<-HQ.o,HN.o]) (a0.o.trans I);clear hu I;go_wp2_with fail;go_ret;exact⟨_,rfl,HU.o,N.o⟩
 ·have HN:=hY (show 2+QfC l+(l.length - 1)=n from hn)
  clear hn;go_wp2_with fail;generalize b9:World.alloc w _=w1;rw[b9]at a0 a2;clear b9;go_loopw[5,6] (λsv qq wr=>∃(j:Nat) (u:ByteArray),sv=.string u/\qq=.int .i64 j/\j<=l.length/\Yd (u.size=1+QfC (l.take j)+(j-1))/\Yd (Ext w1 wr)) (λ_ qq _=>l.length -(intOf qq).toNat)
  case atStart=>exact⟨0,_,rfl,rfl,aA _,hY rfl,hY (gh _)⟩
  obtain⟨j,u,rfl,rfl,hj,HU,HX⟩:=hrel;obtain⟨p0,p1,p2,p3,p4,p5⟩:=(a2.o.ext HX.o).c6;have lp:=(a2.o.ext HX.o).lt;have g9:u.size<=7000000:=by have:=HU.o;have:=QrE l j;have:=HN.o;omega
  by_cases a6:j<l.length
  ·have g1:(j:Int)<(l.length:Int):=oM
   have f8:decide ((j:Int)<(l.length:Int))=true:=eI g1;obtain⟨d,hd⟩:∃d,l[j]? = some d:=⟨_,ac a6⟩;have a4:Ext w wr:=a0.o.trans HX.o;have a9:Agree (Lt w) w wr:=a4.agree λ_ h=>h
   obtain⟨b8,b5,c9⟩:=c7.o.eq oM;have a7:=c7.o.fits (show 0<l.length by omega);obtain⟨sa,sc⟩:=sl;dsimp only at b8 b5 c9;subst b8;obtain⟨v0,v1,v2,v3,v4,v5⟩:=(g3.o j d hd).agree a9 a7;have lb:bl<wr:=ab a7 a4.size;have a5:Calls prog 125 #[QbV d (cl j).1 (cl j).2] wr λe w'=>∃t:ByteArray,e=.returned t/\t.size=QgI d/\Ext wr w':=
    HI.o d (g0.o j d hd) (by have:=QoO hd;have:=b4.o;omega) _ (QxB f7.o hd) wr _ _ (((g5.o j d hd).agree a9).mono λi hi=>ab hi a4.size)
   have c1:=QjX hd;have g6:QgI d<=7000000:=by have:=QrE l (j+1);have:=HN.o;omega
   obtain⟨a3,b7⟩:=Yb a5 c1;clear hd a4 a9 a5 c1;by_cases c0:j=0
   ·have gg:decide ((0:Int)<(j:Int))=false:=eG oM
    have d6:=hY c0;have gn:¬0<j:=oM
    have gi:¬(0:Int)<(j:Int):=oM
    clear c0;go_wp2_with fail;refine a3.o.mono ?_;rintro e w2 ⟨x,rfl,hx,I⟩;have s1:¬9223372036854775807<u.size+x.size:=oM
    obtain⟨N,HS⟩:=Yb (HX.o.trans I) (show u.size+x.size=1+QfC (l.take (j+1))+(j+1-1)by have:=d6.o;have:=HU.o;rw[b7.o,hx];omega);clear I hx a3 v0 v1 v2 v3 v4 v5 p0 p1 p2 p3 p4 p5;go_wp2_with fail;go_roundw
    case rel=>exact⟨j+1,_,rfl,by go_num,a6,hY (by rw[aK];exact HS.o),N⟩
    simp[intOf];omega
   have gg:decide ((0:Int)<(j:Int))=true:=eI oM;have s0:¬9223372036854775807<u.size+1:=oM
   go_wp2_with fail;refine a3.o.mono ?_;rintro e w2 ⟨x,rfl,hx,I⟩;have s1:¬9223372036854775807<u.size+1+x.size:=oM
   obtain⟨N,HS⟩:=Yb (HX.o.trans I) (show u.size+1+x.size=1+QfC (l.take (j+1))+(j+1-1)by have:=HU.o;rw[b7.o,hx];omega);clear I hx a3 v0 v1 v2 v3 v4 v5 p0 p1 p2 p3 p4 p5;go_wp2_with fail;go_roundw
   case rel=>exact⟨j+1,_,rfl,by go_num,a6,hY (by rw[aK,aK];exact HS.o),N⟩
   simp[intOf];omega
  obtain rfl:j=l.length:=oM
  have g1:decide ((l.length:Int)<(l.length:Int))=false:=eG oM;have s1:¬9223372036854775807<u.size+1:=oM
  obtain⟨HS,N⟩:=Yb (show u.size+1=n by have:=HU.o;rw[aR]at this;have:=HN.o;omega) (a0.o.trans HX.o);go_wp2_with fail;go_ret;exact⟨_,rfl,by rw[aK];exact HS.o,N.o⟩
 have HN:=hY (show 2+Qfl Z ov+(ov.length-1)=n from hn);clear hn;go_wp2_with fail;generalize b9:World.alloc w _=w1;rw[b9]at a0 a2;clear b9;go_loopw[7,8] (λsv qq wr=>∃(j:Nat) (u:ByteArray),sv=.string u/\qq=.int .i64 j/\j<=Z.length/\Yd (u.size=1+Qfl Z (ov.take j)+(j-1))/\Yd (Ext w1 wr)) (λ_ qq _=>Z.length -(intOf qq).toNat)
 case atStart=>exact⟨0,_,rfl,rfl,aA _,hY (by rw[cq,Qfl];rfl),hY (gh _)⟩
 obtain⟨j,u,rfl,rfl,hj,HU,HX⟩:=hrel;obtain⟨p0,p1,p2,p3,p4,p5⟩:=(a2.o.ext HX.o).c6;have lp:=(a2.o.ext HX.o).lt;have g9:u.size<=7000000:=by have:=HU.o;have:=Qmi Z ov j;have:=HN.o;have:=d7.o;omega
 by_cases a6:j<Z.length
 ·have g1:(j:Int)<(Z.length:Int):=oM
  have f8:decide ((j:Int)<(Z.length:Int))=true:=eI g1;obtain⟨kk,hk⟩:∃kk,Z[j]? = some kk:=⟨_,ac a6⟩;obtain⟨d,hd⟩:∃d,ov[j]? = some d:=⟨_,ac (by rw[d7.o];exact a6)⟩;have a4:Ext w wr:=a0.o.trans HX.o;have a9:Agree (Lt w) w wr:=a4.agree λ_ h=>h
  obtain⟨b8,b5,c9⟩:=c4.o.eq oM;have a7:=c4.o.fits (show 0<Z.length by omega);obtain⟨sa,sc⟩:=so;dsimp only at b8 b5 c9;subst b8;have lb:bo<wr:=ab a7 a4.size;have kc:wr.cell? ⟨bo,fo+j*7,none⟩=some (.string kk):=(a9.cell a7).trans (g8.o j kk hk).1;have d5:=(QwG d4.o hd hk).1;have e7:=QwS wr kk (by have:=QkY hd hk;have:=b4.o;omega) d5;have c1:=QjY (ks:=Z) hd hk;have g6:(Qbf kk).size+1+QgI d<=7000000:=by have:=Qmi Z ov (j+1);have:=HN.o;omega
  obtain⟨e6,c2,b7,a8,c3,HK,HD⟩:=Yh (QwD d5) e7 c1 a4 a7 hk hd;clear hd hk a4 a9 e7 c1 d5 a7;by_cases c0:j=0
  ·have gg:decide ((0:Int)<(j:Int))=false:=eG oM
   have d6:=hY c0;have gn:¬0<j:=oM
   have gi:¬(0:Int)<(j:Int):=oM
   clear c0;go_wp2_with fail;refine c2.o.mono ?_;rintro e w2 ⟨y,rfl,hy,I⟩;obtain⟨p0,p1,p2,p3,p4,p5⟩:=(a2.o.ext (HX.o.trans I)).c6;have g7:=(a2.o.ext (HX.o.trans I)).lt;have a1:Agree (Lt w) w w2:=(a8.o.trans I).agree λ_ h=>h
   obtain⟨v0,v1,v2,v3,v4,v5⟩:=(e3.o j d HD.o).agree a1 c3.o;have f5:bo<w2:=ab c3.o (a8.o.trans I).size;have a5:Calls prog 125 #[QbV d (co j).1 (co j).2] w2 λe w'=>∃t:ByteArray,e=.returned t/\t.size=QgI d/\Ext w2 w':=
    HI.o d (e0.o j d HD.o) (by have:=QkY HD.o HK.o;have:=b4.o;omega) _ (QwG d4.o HD.o HK.o).2 w2 _ _ (((f4.o j d HD.o).agree a1).mono λi hi=>ab hi (a8.o.trans I).size)
   have a3:=hY a5;have b0:y.size=(Qbf kk).size:=by rw[hy,e6.o]
   have s1:¬9223372036854775807<u.size+y.size:=oM
   have s2:¬9223372036854775807<u.size+y.size+1:=oM
   obtain⟨b3,N⟩:=Yb b0 (HX.o.trans I);clear a1 a5 I hy b0 lp lb kc c2;go_wp2_with fail;refine a3.o.mono ?_;rintro e w3 ⟨x,rfl,hx,b6⟩;have s3:¬9223372036854775807<u.size+y.size+1+x.size:=by have:=b3.o;omega
   obtain⟨d0,HS⟩:=Yb (N.o.trans b6) (show u.size+y.size+1+x.size=1+Qfl Z (ov.take (j+1))+(j+1-1)by have:=d6.o;have:=HU.o;have:=b3.o;rw[b7.o,hx];omega);clear b6 hx a3 v0 v1 v2 v3 v4 v5 p0 p1 p2 p3 p4 p5;go_wp2_with fail;go_roundw
   case rel=>exact⟨j+1,_,rfl,by go_num,a6,hY (by rw[aK,aK,aK];exact HS.o),d0⟩
   simp[intOf];omega
  skip
  have gg:decide ((0:Int)<(j:Int))=true:=eI oM;have s0:¬9223372036854775807<u.size+1:=oM
  go_wp2_with fail;refine c2.o.mono ?_;rintro e w2 ⟨y,rfl,hy,I⟩;obtain⟨p0,p1,p2,p3,p4,p5⟩:=(a2.o.ext (HX.o.trans I)).c6;have g7:=(a2.o.ext (HX.o.trans I)).lt;have a1:Agree (Lt w) w w2:=(a8.o.trans I).agree λ_ h=>h
  obtain⟨v0,v1,v2,v3,v4,v5⟩:=(e3.o j d HD.o).agree a1 c3.o;have f5:bo<w2:=ab c3.o (a8.o.trans I).size;have a5:Calls prog 125 #[QbV d (co j).1 (co j).2] w2 λe w'=>∃t:ByteArray,e=.returned t/\t.size=QgI d/\Ext w2 w':=
   HI.o d (e0.o j d HD.o) (by have:=QkY HD.o HK.o;have:=b4.o;omega) _ (QwG d4.o HD.o HK.o).2 w2 _ _ (((f4.o j d HD.o).agree a1).mono λi hi=>ab hi (a8.o.trans I).size)
  have a3:=hY a5;have b0:y.size=(Qbf kk).size:=by rw[hy,e6.o]
  have s1:¬9223372036854775807<u.size+1+y.size:=oM
  have s2:¬9223372036854775807<u.size+1+y.size+1:=oM
  obtain⟨b3,N⟩:=Yb b0 (HX.o.trans I);clear a1 a5 I hy b0 lp lb kc c2;go_wp2_with fail;refine a3.o.mono ?_;rintro e w3 ⟨x,rfl,hx,b6⟩;have s3:¬9223372036854775807<u.size+1+y.size+1+x.size:=by have:=b3.o;omega
  obtain⟨d0,HS⟩:=Yb (N.o.trans b6) (show u.size+1+y.size+1+x.size=1+Qfl Z (ov.take (j+1))+(j+1-1)by have:=HU.o;have:=b3.o;rw[b7.o,hx];omega);clear b6 hx a3 v0 v1 v2 v3 v4 v5 p0 p1 p2 p3 p4 p5;go_wp2_with fail;go_roundw
  case rel=>exact⟨j+1,_,rfl,by go_num,a6,hY (by rw[aK,aK,aK,aK];exact HS.o),d0⟩
  simp[intOf];omega
 obtain rfl:j=Z.length:=oM
 have g1:decide ((Z.length:Int)<(Z.length:Int))=false:=eG oM;have s1:¬9223372036854775807<u.size+1:=oM
 obtain⟨HS,N⟩:=Yb (show u.size+1=n by have:=HU.o;rw[<-d7.o,aR]at this;have:=HN.o;omega) (a0.o.trans HX.o);go_wp2_with fail;go_ret;exact⟨_,rfl,by rw[aK];exact HS.o,N.o⟩
theorem Qwu{d:Val}(h:RV w (Lt w) d sl so)(hc:QcI d<=1100000):Calls prog 86 #[QbV d sl so] w λe w'=>e=.returned (QcP d)/\Ext w w':=by
 have a2:∀W,Ext w W->RV W (Lt W) d sl so:=λW hW=>(h.agree (hW.agree λb hb=>hb)).mono λb hb=>ab hb hW.size
 obtain⟨HM,HD,HT⟩:=Yc (λW (hW:Ext w W)=>Qyg (a2 W hW) hc) (λW (hW:Ext w W) (hq:Qdv d<=1000000)=>QyA _ d (ao _) hq W sl so (a2 W hW)) (λW (hW:Ext w W) (Z:Qda d 1=0)=>QyM _ d (ao _) hc 1 Z W sl so (a2 W hW));obtain⟨r,I⟩:∃r,QcP d=r:=⟨_,rfl⟩;rw[I];have HR:=hY I;clear I a2 h;go_in;go_wp2_with fail;have a4:=(gh w).alloc (QtS d sl so) 34;have a1:=gm w 34 (QtS d sl so);refine(HM.o _ a4).mono ?_;rintro e w1 ⟨rfl,N⟩;have I:=HR.o;unfold QcP at I;obtain⟨q0,q1,q2,q3,q4,q5⟩:=(a1.ext N).c6;have lq:=(a1.ext N).lt;obtain⟨HB,HX⟩:=Yb (a1.ext N) (a4.trans N);clear a4 N a1 HM;by_cases Z:Qda d 1=0
 ·rw [eE (by simp [Z])] at I
  have b0:=Qij d 1 Z;have a9:=hY (λW hW=>HT.o W hW Z);rw[Z];have a8:=hY I;clear I Z;go_wp2_with fail;refine(HD.o _ HX.o oM).mono ?_;rintro e w2 ⟨rfl,a0⟩;obtain⟨p0,p1,p2,p3,p4,p5⟩:=(HB.o.ext a0).c6;have lp:=(HB.o.ext a0).lt;have a3:=hY (HX.o.trans a0);have I:=a8.o;clear a0 q0 q1 q2 q3 q4 q5 lq;by_cases hd:16<Qdv d
  ·rw [eH hd] at I
   have g1:decide ((16:Int)<(Qdv d:Int))=true:=eI oM;have HE:=hY I;clear I;go_wp2_with fail;go_ret;exact⟨by rw[<-HE.o];rfl,a3.o⟩
  rw[eE hd]at I;have g1:decide ((16:Int)<(Qdv d:Int))=false:=eG oM;have a5:=hY I;clear I;go_wp2_with fail;refine(a9.o _ a3.o).mono ?_;rintro e w3 ⟨t,rfl,ht,a7⟩;have a6:=hY (a3.o.trans a7);have I:=a5.o;rw[<-ht]at I;clear a7 ht;by_cases hl:1024<t.size
  ·rw [eH hl] at I
   have g2:decide ((1024:Int)<(t.size:Int))=true:=eI oM;have HE:=hY I;clear I;go_wp2_with fail;go_ret;exact⟨by rw[<-HE.o];rfl,a6.o⟩
  rw[eE hl]at I;have g2:decide ((1024:Int)<(t.size:Int))=false:=eG oM;have HE:=hY I;clear I;go_wp2_with fail;go_ret;exact⟨by rw[<-HE.o];rfl,a6.o⟩
 rw[eH Z]at I;have g1:(Qda d 1 != 0)=true:=by simpa using Z
 have HE:=hY I;clear I Z;go_wp2_with fail;go_ret;exact⟨by rw[<-HE.o];rfl,HX.o⟩
theorem Tryz.Qye:(prog.info? 42).map (λi=>(i.zero,i.size,i.bytes))=some (some (.pointer none),1,8):=kM
abbrev Qwj(m:Nat):Value:=.pointer (some ⟨m,0,none⟩)
structure R12(H:Nat->Prop)(w:World)(base R M:Nat)(s:Sl)(es:List Ent)(ms:List Nat)(hs:List (List Ent)):Prop where
 below:∀b,H b->b<w.heap.size
 old:base<=w.heap.size
 hR:H R
 hrow:∀b,s.row=some b->H b
 blk:Blk w R 115 #[Qwj M,.slice s.a hs.length s.c]
 own:w.ownsRow base 42 1 (.slice s.a hs.length s.c) hs.length (ms.map Qwj)
 cur:MapAt H w M es
 len:ms.length=hs.length
 dist:ms.Nodup
 maps:∀(j m:Nat) (es':List Ent),ms[j]? = some m->hs[j]? = some es'->MapAt H w m es'/\m≠M
variable{H:Nat->Prop}
theorem MapAt.QyO{M:Nat}{es:List Ent}(h:MapAt H w M es):∃v,Blk w M 56 #[v]:=by
 obtain⟨-,s,xs,I,-⟩:=h;exact⟨_,I⟩
theorem Qx3{a b:Nat}{t t':TypeId}{cs N:Array Value}(h:Blk w a t cs)(I:Blk w b t' N)(Z:t≠t'):a≠b:=by
 rintro rfl;unfold Blk at h I;rw[h]at I;injection I with I;injection I with h3 h4;exact Z h4
variable{ms:List Nat}{hs:List (List Ent)}
theorem R12.Qzh{base R M:Nat}{es:List Ent}(h:R12 H w base R M s es ms hs):R≠M:=by
 obtain⟨v,I⟩:=h.cur.QyO;exact Qx3 h.blk I oN
theorem R12.Qzb{base R M:Nat}{es:List Ent}(h:R12 H w base R M s es ms hs):s.row≠some M:=by
 obtain⟨v,I⟩:=h.cur.QyO;exact Qwf h.own I oN
theorem R12.QyY{base R M:Nat}{es:List Ent}(h:R12 H w base R M s es ms hs):s.row≠some R:=Qwf h.own h.blk oN
theorem R12.ext{base R M:Nat}{es:List Ent}(h:R12 H w base R M s es ms hs)(k:Ext w w'):R12 H w' base R M s es ms hs:=
 ⟨λb I=>ab (h.below b I) k.size,ak h.old k.size,h.hR,h.hrow,h.blk.ext k,Qab h.own (k.agree λb (I:b<w)=>I) (λb I=>(Qad h.own I).2),h.cur.ext k,h.len,h.dist,λj m e Z N=>⟨(h.maps j m e Z N).1.ext k,(h.maps j m e Z N).2⟩⟩
variable{s5:Sl}
theorem R12.step{w3 N w5:World}{base R M M':Nat}{es:List Ent}{c:Array Value}{t:TypeId}(h:R12 H w3 base R M s es ms hs)(a8:Ext w3 N)(c4:w3.heap.size<=M')(b0:MapAt (λb=>H b\/b=M') N M' es)
  (a0:w5.ownsRow base 42 1 (.slice s5.a (hs.length+1) s5.c) (hs.length+1) (ms.map Qwj++[Qwj M'])) (b3:Wr (N.alloc (.cells c t)) w5 s.row) (a9:s5.a=s.a\/s5.a=some ⟨(N.alloc (.cells c t)).heap.size,0,none⟩/\Wr (N.alloc (.cells c t)) w5 none) (a6:Blk w5 R 115 #[Qwj M,.slice s.a hs.length s.c]) :
  ∃H':Nat->Prop,(∀b,H b->H' b)/\(∀b,H' b->H b\/w3.heap.size<=b)/\R12 H' (w5.setCell ⟨R,1,none⟩ (.slice s5.a (hs.length+1) s5.c)) base R M s5 es (ms++[M']) (hs++[es])/\St (λb=>b=R\/s.row=some b) w3 (w5.setCell ⟨R,1,none⟩ (.slice s5.a (hs.length+1) s5.c))/\(∀b,s5.row=some b->s.row=some b\/w3.heap.size<=b):=by
 have b8:Ext N (N.alloc (.cells c t)):=(gh N).alloc _ _;have b9:=a8.size;have c0:(N.alloc (.cells c t)).heap.size=N.heap.size+1:=eK _ _;have c3:=b3.grown.size;have c2:M'<N.heap.size:=by obtain⟨v,hv⟩:=b0.QyO;exact hv.lt
 have c1:=h.blk.lt;have b6:M<w3.heap.size:=by obtain⟨v,hv⟩:=h.cur.QyO;exact hv.lt
 have Z:∀b,s5.row=some b->H b\/N.heap.size<b:=λb I=>by
  rcases a9 with e |⟨e,-⟩
  .exact .inl (h.hrow b (by unfold Sl.row at I ⊢;rw[<-e];exact I))
  right;have:b=(N.alloc (.cells c t)).heap.size:=by unfold Sl.row at I;rw[e]at I;simpa using I.symm
  omega
 have k4:St (λb=>b=R\/s.row=some b) N (w5.setCell ⟨R,1,none⟩ (.slice s5.a (hs.length+1) s5.c)):=
  St.set (H:=λb=>b=R\/s.row=some b) ((b8.st _).trans (b3.st λi hi=>.inr hi)) (p:=⟨R,1,none⟩) (.inr (.inl rfl)) _
 have k3:St (λb=>b=R\/s.row=some b) w3 (w5.setCell ⟨R,1,none⟩ (.slice s5.a (hs.length+1) s5.c)):=(a8.st _).trans k4;have a3:St (λb=>b=R) w5 (w5.setCell ⟨R,1,none⟩ (.slice s5.a (hs.length+1) s5.c)):=St.set (H:=λb=>b=R) (gB _ _) (p:=⟨R,1,none⟩) (.inr rfl) _;have b4:s5.row≠some R:=λe=>Qwf a0 a6 oN e
 have a7:∀b,(b=R\/s.row=some b)->H b:=λb I=>I.elim (λe=>e▸h.hR) (h.hrow b)
 have b5:∀m,(∃v,Blk w3 m 56 #[v])->¬(m=R\/s.row=some m):=λm ⟨v,hv⟩ hh=>hh.elim (λe=>Qx3 h.blk hv oN e.symm) λe=>Qwf h.own hv oN e
 have a2:∀m e',MapAt H w3 m e'->MapAt (λb=>H b\/b=M'\/s5.row=some b) (w5.setCell ⟨R,1,none⟩ (.slice s5.a (hs.length+1) s5.c)) m e':=λm e' hm=>
  (hm.more (G:=λb=>H b\/b=M'\/s5.row=some b) (λb I=>.inl I) λb I hg=>by
    rcases hg with hg|hg|hg
    .exact hg
    .omega
    rcases Z b hg with h1|h1
    .exact h1
    omega).st k3 (λb I=>.inl (a7 b I)) (b5 m hm.QyO)
 have a5:∀b,s5.row=some b->s.row=some b\/w3.heap.size<=b:=λb I=>by
  rcases a9 with e |⟨e,-⟩
  .exact .inl (by unfold Sl.row at I ⊢;rw[<-e];exact I)
  right;have:b=(N.alloc (.cells c t)).heap.size:=by unfold Sl.row at I;rw[e]at I;simpa using I.symm
  omega
 refine⟨λb=>H b\/b=M'\/s5.row=some b,λb I=>.inl I,λb I=>?_,?_,k3,a5⟩
 ·rcases I with I | I | I
  .exact .inl I
  .right;omega
  rcases Z b I with h1|h1
  .exact .inl h1
  right;omega
 have hz:=a3.size;refine⟨λb I=>?_,?_,.inl h.hR,λb I=>.inr (.inr I),?_,?_,a2 M es h.cur,by rw[aj,aj,h.len];rfl,?_,λj m a4 hj he=>?_⟩
 ·rcases I with I | I | I
  .have:=h.below b I;omega
  .omega
  have:=(Qad a0 I).2;omega
 .have:=h.old;omega
 ·have:=a6.QbH 1 (.slice s5.a (hs.length+1) s5.c)
  rw[aj];exact this
 ·rw [aj,aB]
  exact Qab a0 (F:=λb=>s5.row=some b) (λb I=>a3.block b (Qad a0 I).2 λe=>b4 (e▸I)) λb I=>I
 ·rw [List.nodup_append]
  refine⟨h.dist,oO,λa ha b I e=>?_⟩;rw[aV]at I;obtain⟨j,hj⟩:=bz ha;have a1:=(ae.1 hj).1;obtain⟨x,hx⟩:=(h.maps j a _ hj (ac (by rw[<-h.len];exact a1))).1.QyO;have:=hx.lt;omega
 by_cases a1:j<ms.length
 ·rw [bu a1] at hj
  rw[bu (by rw[<-h.len];exact a1)]at he;exact⟨a2 m a4 (h.maps j m a4 hj he).1,(h.maps j m a4 hj he).2⟩
 rw[aP oM]at hj;rw[aP (by rw[<-h.len];omega)]at he;have b7:j-ms.length=0:=by
  have:=(ae.1 hj).1;simp at this;omega
 rw[<-h.len]at he;rw[b7]at hj he;simp at hj he;subst hj he;refine⟨(b0.more (G:=λb=>H b\/b=M'\/s5.row=some b) (λb I=>I.elim .inl λe=>.inr (.inl e)) λb I hg=>by
  rcases hg with hg|hg|hg
  .exact .inl hg
  .exact .inr hg
  rcases Z b hg with h1|h1
  .exact .inl h1
  omega).st k4 (λb I=>.inl (a7 b I)) ?_,oM⟩
 rintro(e|e)
 .omega
 have:=h.below _ (h.hrow _ e);omega
theorem R12.turned{base R M:Nat}{es N:List Ent}(h:R12 H w base R M s es ms hs)(hm:MapAt H w' M N)(k:St (λb=>b=M) w w'):R12 H w' base R M s N ms hs:=
 ⟨λb I=>ab (h.below b I) k.size,ak h.old k.size,h.hR,h.hrow,k.blk h.blk h.Qzh,Qab h.own (F:=λb=>s.row=some b) (λb I=>k.block b (Qad h.own I).2 λe=>h.Qzb (e▸I)) (λb I=>I),hm,h.len,h.dist,
   λj m e hj Z=>⟨(h.maps j m e hj Z).1.st k (λb I=>I▸h.cur.hm) (λe'=>(h.maps j m e hj Z).2 e'),(h.maps j m e hj Z).2⟩⟩
def Qze(H:Nat->Prop)(w:World)(base R M:Nat)(s:Sl)(es:List Ent)(ms:List Nat)(hs:List (List Ent))(k:ByteArray)(v:Val)(e:Ending)(w':World):Prop:=
 (Qci k≠0/\e=.returned (.int .i64 8)/\Ext w w')\/(Qci k=0/\QcP v≠0/\e=.returned (.int .i64 (QcP v))/\Ext w w')\/
 (Qci k=0/\QcP v=0/\e=.returned (.int .i64 0)/\∃(H':Nat->Prop) (s':Sl) (M':Nat),(∀b,H b->H' b)/\(∀b,H' b->H b\/w.heap.size<=b)/\R12 H' w' base R M s' (QbY es k v) (ms++[M']) (hs++[es])/\St (λb=>b=R\/b=M\/s.row=some b) w w'/\(∀b,s'.row=some b->s.row=some b\/w.heap.size<=b)/\w.heap.size<=M')
theorem QxL{H H':Nat->Prop}{w w3 W5:World}{base R M:Nat}{es:List Ent}{ms a2:List Nat}{hs a4:List (List Ent)}{k:ByteArray}{v:Val}(h:R12 H w base R M s es ms hs)(hv:RV w (NH H w) v sl so)(a0:Ext w w3)(a6:∀b,H b->H' b)(a1:∀b,H' b->H b\/w3.heap.size<=b)
  (Z:R12 H' W5 base R M s5 es a2 a4) (N:St (λb=>b=R\/s.row=some b) w3 W5) (a5:Sorted es) (hc:es.length<=1000000) (hk:k.size<=maxLen) :
  ∀W,Ext W5 W->Calls prog 43 #[.pointer (some M),k,QbV v sl so] W (Qxx H' M (QbY es k v) W):=λW hW=>by
 have h3:=a0.size;have h5:=N.size;have a3:Agree (NH H w) w W5:=λb I=>(N.block b (ab I.1 h3) (λhh=>I.2 (hh.elim (λe=>e▸h.hR) (h.hrow b)))).trans (a0.heap I.1)
 have hw:=hW.size;refine QxC (Z.cur.ext hW) (λb I=>ab (Z.below b I) hw) a5 hc hk (((hv.agree a3).agree (hW.agree λb I=>ab I.1 (ak h3 h5))).mono λb I=>⟨by have:=I.1;omega,λhh=>?_⟩);rcases a1 b hh with h1|h1
 .exact I.2 h1
 have:=I.1;omega
theorem Qym{base R M:Nat}{es:List Ent}(h:R12 H w base R M s es ms hs)(j1:Sorted es)(hc:es.length<=1000000)(hn:hs.length<=1000000){k:ByteArray}(hk:k.size<=maxLen){v:Val}(hv:RV w (NH H w) v sl so)(i2:QcI v<=1100000) :
  Calls prog 57 #[.pointer (some R),k,QbV v sl so] w (Qze H w base R M s es ms hs k v):=by
 obtain⟨i0,hi,j2,i7,i4⟩:=eR Tryz.Qye;have b9:=(gh w).alloc #[.int .i64 v.kind,.bool v.b,.int .i64 v.i,.string v.t,.slice sl.a v.l.length sl.c,.slice so.a v.ok.length so.c] 34;have a7:=gm w 34 #[.int .i64 v.kind,.bool v.b,.int .i64 v.i,.string v.t,.slice sl.a v.l.length sl.c,.slice so.a v.ok.length so.c];have a9:=QwP (w.alloc (.cells #[v.kind,v.b,v.i,v.t,.slice sl.a v.l.length sl.c,.slice so.a v.ok.length so.c] 34)) k hk;have a6:=Qwu (w:=w.alloc (.cells #[v.kind,v.b,v.i,v.t,.slice sl.a v.l.length sl.c,.slice so.a v.ok.length so.c] 34)) (((hv.mono λb hb=>hb.1).agree (b9.agree λ_ h=>h)).mono λi hi=>ab hi b9.size) i2;generalize j9:w.alloc (.cells #[v.kind,v.b,v.i,v.t,.slice sl.a v.l.length sl.c,.slice so.a v.ok.length so.c] 34)=w1 at b9 a7 a9 a6;obtain⟨b0,b1,b2,b3,b4,b5⟩:=a7.c6;have lb:=a7.lt;obtain⟨f0,f6,c7,d0,HH,HV⟩:=Yg b9 a7 a9 a6 h hv;clear b9 a7 a9 a6 h hv;go_in;go_wp2_with fail;clear j9;refine c7.o.mono ?_;rintro e w2 ⟨rfl,i6⟩;obtain rfl:=i6.symm;clear c7;by_cases hm:Qci k=0
 ·have g0:(Qci k != 0)=false:=by simpa using hm
  rw[hm];go_wp2_with fail;refine d0.o.mono ?_;rintro e w3 ⟨rfl,d6⟩;obtain⟨a2,g9⟩:=Yb (f0.o.trans d6) (f6.o.ext d6);clear d6 d0 f6 b0 b1 b2 b3 b4 b5 lb;by_cases hf:QcP v=0
  ·rw [hf]
   have a1:=HH.o.ext a2.o;have c0:w3.cell? R=some (Qwj M):=a1.blk.cell 0;have c1:w3.cell? ⟨R,1,none⟩=some (.slice s.a hs.length s.c):=a1.blk.cell 1;have lR:=a1.blk.lt;have g3:=hY a1;have g7:∀b,H b->b<w3.heap.size:=a1.below;have c2:=QwN (w:=w3.drew) (a1.cur.ext ((gh w3).drew)) g7 hc;have d5:=hY c2;have e8:∀M':Nat,∀u∈[Qwj M'],u.oneCell'=true:=λM'=>by simp[Value.oneCell']
   have j7:hs.length+1<=maxLen:=by unfold maxLen;omega
   have j3:(hs.length+1)*8<=140737488355328:=oM
   have a0:=hY (show ∀W:World,True->True fromλ_ h=>h);clear a1 c2;go_wp2_with fail;refine eO (S:=(λ_=>True)) kM (trivial) (λhHeld=>?_);refine Qaf 0 (some 16) a0 hHeld ?_;refine Qaf 1 (some 17) a0 hHeld ?_;refine Qaf 2 (some 18) a0 hHeld ?_;refine Qaf 3 (some 19) a0 hHeld ?_;refine Qaf 5 (some 21) a0 hHeld ?_;refine Qaf 6 (some 22) a0 hHeld ?_;refine Qaf 7 (some 23) a0 hHeld ?_;have pm:=Tag.mk 0;have pa:=Tag.mk 1000
   repeat' (first
    |(have:=(pm:Tag 0);have:=(pa:Tag 1000);refine Quj 4 8 (λK N I=>?_) (λK N I=>?_))
    |(have:=(pm:Tag 0);have:=(pa:Tag 1001);refine Qrr 8 (λK N I=>?_))
    |(have:=(pm:Tag 1);have:=(pa:Tag 1000);refine Quj 4 9 (λK N I=>?_) (λK N I=>?_))
    |(have:=(pm:Tag 1);have:=(pa:Tag 1001);refine Qrr 9 (λK N I=>?_))
    |(have:=(pm:Tag 2);have:=(pa:Tag 1000);refine Quj 4 10 (λK N I=>?_) (λK N I=>?_))
    |(have:=(pm:Tag 2);have:=(pa:Tag 1001);refine Qrr 10 (λK N I=>?_))
    |(have:=(pm:Tag 3);have:=(pa:Tag 1000);refine Qrr 4 (λK N I=>?_))
    |(have:=(pm:Tag 3);have:=(pa:Tag 1001);refine Qrr 11 (λK N I=>?_))
    |(have:=(pm:Tag 4);have:=(pa:Tag 1000);refine Qrr 4 (λK N I=>?_))
    |(have:=(pm:Tag 4);have:=(pa:Tag 1001);refine Qrr 14 (λK N I=>?_))
    | (have:=(N:Tag 4)
       clear this N;clear pa;have pa:=Tag.mk 1001;go_simp
       skip
       refine I.out _ _ (trivial) (λhHeld=>?_);clear I K
       try go_frame)
    | (have:=(N:Tag 8)
       clear this N;clear pm;have pm:=Tag.mk 1;go_simp
       skip
       refine I.out _ _ (trivial) (λhHeld=>?_);clear I K
       try go_frame)
    | (have:=(N:Tag 9)
       clear this N;clear pm;have pm:=Tag.mk 2;go_simp
       (refine d5.o.mono ?_;rintro e w4 ⟨M',rfl,e7,d3,g6⟩;have e1:Ext w3 w4:=((gh w3).drew).trans d3;have a8:=g3.o.ext e1;have c0:w4.cell? R=some (Qwj M):=a8.blk.cell 0;have c1:w4.cell? ⟨R,1,none⟩=some (.slice s.a hs.length s.c):=a8.blk.cell 1;have j5:=a8.blk.lt;have e2:Ext w4 (w4.alloc (.cells #[Qwj M'] 42)):=(gh w4).alloc _ _;have a5:=hY (a8.ext e2);have c9:=hY (gA (size:=1) (n:=1) (cs:=[Qwj M']) (gm w4 42 #[Qwj M']) oN rfl);have e6:=hY e1;have j0:=hY e2;have f7:=hY g6;have d4:=hY e7;clear d3 e1 a8 e2 g6 e7)
       refine I.out _ _ (trivial) (λhHeld=>?_);clear I K
       try go_frame)
    | (have:=(N:Tag 10)
       clear this N;clear pm;have pm:=Tag.mk 3;go_simp
       skip
       refine I.out _ _ (trivial) (λhHeld=>?_);clear I K
       try go_frame)
    | (have:=(N:Tag 11)
       clear this N;clear pm;have pm:=Tag.mk 4;refine Qdl _ (.tmp 20) (.tmp 26) 113 rfl base 42 i0 _ 1 8 underlying113 hi j2 i7 i4 rfl oN s hs.length (ms.map Qwj) (by rfl) a5.o.own (λb=>b=w4.heap.size) ⟨some w4,1⟩ 1 [Qwj M'] (by rfl) c9.o (e8 M') j7 j3 a5.o.old ?_;intro s5 w5 b6 b7 f1;obtain⟨f5,f9,f2⟩:=Yc b6 b7 f1;have b8:Blk w5 R 115 #[Qwj M,.slice s.a hs.length s.c]:=a5.o.blk.agree (b7.agree (F:=λb=>b=R) (λi hi=>by rw[hi];exact a5.o.blk.lt) (λk hk e=>a5.o.QyY (by rw[hk,e]))) rfl;have j6:w5.cell? ⟨R,1,none⟩=some (.slice s.a hs.length s.c):=b8.cell 1;have i9:=b8.lt;have i8:w5.frozen? ⟨R,1,none⟩=false:=b8.frozen 1;have g5:=hY b8;clear b6 b7 f1 b8;refine I.out _ _ (trivial) (λhHeld=>?_);clear I K
       try go_frame
       refine Qaf 12 (some 28) a0 hHeld ?_;refine Qaf 13 (some 29) a0 hHeld ?_)
    | (have:=(N:Tag 14)
       clear this N;clear pm;have pm:=Tag.mk 5;go_simp
       skip
       refine I.out _ _ (trivial) (λhHeld=>?_);clear I K
       try go_frame)
    | (have:=(pm:Tag 5);have:=(pa:Tag 1001);refine eV kM ?_ _
       obtain⟨H',e0,d7,d8,a3,c8⟩:=R12.step g3.o e6.o d4.o f7.o f5.o f9.o f2.o g5.o;have c4:=QxL HH.o HV.o a2.o e0 d7 d8 a3 j1 hc hk;obtain⟨j4,f3,c3,i1,f4,k0,i3⟩:=Yh (a3.blk g9.o (by rintro(e|e);exact absurd (HH.o.below _ (e▸HH.o.hR)) (da _);exact absurd (HH.o.below _ (HH.o.hrow _ e)) (da _))) c4 d8 (show(∀b,s5.row=some b->s.row=some b\/w.heap.size<=b)/\w.heap.size<=M' from⟨λb hb=>(c8 b hb).imp id (ak a2.o.size),ak a2.o.size d4.o⟩) a3 e0 d7;obtain⟨HM,HF⟩:=Yb hm hf;clear c8 c4 d8 a3 e0 d7 hm hf f5 f9 f2 g5 f7 d4 e6 j0 a5 c9 c0 c1 j6 i8 i9 j5 lR;generalize w5.setCell ⟨R,1,none⟩ (.slice s5.a (hs.length+1) s5.c)=W5 at *;have j8:Blk W5 R 115 #[Qwj M,.slice s5.a (hs++[es]).length s5.c]:=c3.o.blk;have f8:Blk W5 w.heap.size 34 (QtS v sl so):=j4.o;obtain⟨e3,a4⟩:=Yb (And.intro c3.o.Qzh (show w.heap.size≠M fromλe=>by obtain⟨v',g8⟩:=c3.o.cur.QyO;exact Qx3 f8 g8 oN e)) (show ∀W,(Blk W R 115 #[Qwj M,.slice s5.a (hs++[es]).length s5.c]/\Blk W w.heap.size 34 (QtS v sl so))->_ fromλW h=>(⟨h.1.cell 0,h.1.lt,h.2.c6,h.2.lt⟩:W.cell? R=some (Qwj M)/\R<W.heap.size/\_/\w.heap.size<W.heap.size));go_wp2_with fail;refine eO (S:=(λW=>Blk W R 115 #[Qwj M,.slice s5.a (hs++[es]).length s5.c]/\Blk W w.heap.size 34 (QtS v sl so))) kM (⟨j8,f8⟩) (λhHeld=>?_);refine Qaf 0 (some 30) a4 hHeld ?_;refine Qaf 1 (some 31) a4 hHeld ?_;refine Qaf 2 (some 32) a4 hHeld ?_;refine Qaf 3 (some 33) a4 hHeld ?_;refine Qaf 4 (some 34) a4 hHeld ?_;refine Qaf 5 (some 35) a4 hHeld ?_;refine Qac (i:=6) kM rfl (by rfl) (λK I=>?_);go_simp
       (refine(f3.o _ ((gh W5).drew)).mono ?_;rintro e w8 ⟨⟨r,rfl⟩,e4,Z⟩)
       refine I.out _ _ (⟨Z.blk hHeld.1 e3.o.1,Z.blk hHeld.2 e3.o.2⟩) (λhHeld=>?_);clear I K
       try go_frame
       refine eV kM ?_ _;obtain⟨i5,g4⟩:=Yb e4 Z;clear e4 Z;go_wp2_with fail;go_ret;have Z:St (λb=>b=M) W5 w8:=(((gh W5).drew).st _).trans g4.o;exact .inr (.inr ⟨HM.o,HF.o,rfl,H',s5,M',k0.o,λb hb=>(i3.o b hb).imp id (ak a2.o.size),c3.o.turned i5.o Z,(a2.o.st _).trans ((f4.o.mono λi _ hi=>hi.elim .inl λe=>.inr (.inr e)).trans (Z.mono λi _ hi=>.inr (.inl hi))),i1.o⟩)))
  have g1:(QcP v != 0)=true:=by simpa using hf
  obtain⟨HM,HF⟩:=Yb hm hf;clear hm hf;go_wp2_with fail;go_ret;exact .inr (.inl ⟨HM.o,HF.o,rfl,a2.o⟩)
 have g0:(Qci k != 0)=true:=by simpa using hm
 have HM:=hY hm;clear hm;go_wp2_with fail;go_ret;exact .inl ⟨HM.o,rfl,f0.o⟩
variable{M0:Nat}
theorem Qxl{es:List Ent}(h:MapAt H w M0 es)(hH:∀b,H b->b<w.heap.size)(hc:es.length<=1000000):Calls prog 56 #[.pointer (some M0)] w λe w'=>
  ∃R M,e=.returned (.pointer (some ⟨R,0,none⟩))/\w.heap.size<=R/\w.heap.size<=M/\Ext w w'/\R12 (λb=>(H b\/b=M)\/b=R) w' w.heap.size R M Sl.none es [] []:=by
 have a5:=QwN h hH hc;obtain⟨a6,HH⟩:=Yb a5 hH;clear a5 h hH;go_in;go_wp2_with fail;refine a6.o.mono ?_;rintro e w1 ⟨M,rfl,hM,Z,a1⟩;have a4:Ext w1 (w1.alloc (.cells #[.pointer (some ⟨M,0,none⟩),.slice none 0 0] 115)):=(gh w1).alloc _ _;have N:=gm w1 115 #[.pointer (some ⟨M,0,none⟩),.slice none 0 0];obtain⟨a2,a3,a7,a0,HM⟩:=Yf Z a4 N a1 hM;clear Z a4 N a1 hM;go_wp2_with fail;go_ret;have a8:=a2.o.size;have b0:M<w1.heap.size:=by obtain⟨v,hv⟩:=a0.o.QyO;exact hv.lt
 refine⟨w1,M,rfl,a8,HM.o,a2.o.trans a3.o,?_⟩;have b3:(w1.alloc (.cells #[.pointer (some ⟨M,0,none⟩),.slice none 0 0] 115)).heap.size=w1.heap.size+1:=eK _ _;refine⟨λb I=>?_,oM,.inr rfl,λb I=>(by cases I),a7.o,eS _ _ _ _,?_,rfl,List.nodup_nil,λj m a9 hj=>by simp at hj⟩
 ·rcases I with (I | I) | I
  .have:=HH.o b I;omega
  .omega
  omega
 exact(a0.o.more (G:=λb=>(H b\/b=M)\/b=w1.heap.size) (λb I=>.inl I) λb I hg=>hg.elim id λe=>oM).ext a3.o
def QwI(H:Nat->Prop)(w:World)(es:List Ent)(M:Nat)(w':World):Prop:=
 ∃H':Nat->Prop,(∀b,H b->H' b)/\(∀b,H' b->H b\/w.heap.size<=b)/\(∀b,H' b->b<w'.heap.size)/\w.heap.size<=M/\MapAt H' w' M es/\Nw w w'
theorem Qwn{es:List Ent}(h:MapAt H w M0 es)(hH:∀b,H b->b<w.heap.size)(e2:Sorted es)(hc:es.length<=1000000){k:ByteArray}(hk:k.size<=maxLen){v:Val}(hv:RV w (NH H w) v sl so)(e0:QcI v<=1100000) :
  Calls prog 34 #[.pointer (some M0),k,QbV v sl so] w λe w'=>∃M',e=.returned (.tuple #[.pointer (some ⟨M',0,none⟩),.int .i64 (setMu es k v).1])/\QwI H w (setMu es k v).2 M' w':=by
 have a8:=(gh w).alloc (QtS v sl so) 34;have c8:=gm w 34 (QtS v sl so);have d4:(w.alloc (.cells (QtS v sl so) 34)).heap.size=w.heap.size+1:=eK _ _;have d7:=Qxl (h.ext a8) (λb Z=>ab (hH b Z) a8.size) hc;obtain⟨d5,d0,d6,a6,HV,HH⟩:=Yg d7 a8 c8 d4 hv hH;clear d7 a8 c8 d4 hv hH h;go_in;go_wp2_with fail;refine d5.o.mono ?_;rintro e w1 ⟨R,M,rfl,hR,hM,c0,hr⟩;have a0:=d0.o.trans c0;have c4:=d6.o.ext c0;obtain⟨b0,b1,b2,b3,b4,b5⟩:=c4.c6;have hz:=a6.o;have b7:=Qym hr e2 hc (aA _) hk (v:=v) (sl:=sl) (so:=so) ((HV.o.agree (a0.agree λb Z=>Z.1)).mono λb Z=>⟨Nat.lt_of_lt_of_le Z.1 a0.size,λe=>by
  rcases e with(e|e)|e
  .exact Z.2 e
  .have:=Z.1;omega
  have:=Z.1;omega⟩) e0
 obtain⟨b6,HR,a7,c2⟩:=Ye b7 hr a0 (And.intro hR hM);clear b7 hr a0 c0 c4 hR hM hz d6 d0 d5;go_wp2_with fail;refine b6.o.mono ?_;rintro e w2 hp;obtain⟨c,rfl,c3,b9,e3,s2,N,I,c9,b8,a9,a5,c7⟩:∃c,e=.returned (.int .i64 c)/\c=(setMu es k v).1/\∃(b9:List Ent) (H2:Nat->Prop) (s2:Sl) (N:List Nat) (I:List (List Ent)),b9=(setMu es k v).2/\(∀b,H b->H2 b)/\(∀b,H2 b->H b\/w.heap.size<=b)/\R12 H2 w2 (w.heap.size+1) R M s2 b9 N I/\Nw w w2:=by
  have h1:=c2.o;have hz:=a6.o;have d3:∀{W:World},Ext w1 W->∃(H2:Nat->Prop) (s2:Sl) (N:List Nat) (I:List (List Ent)),(∀b,H b->H2 b)/\(∀b,H2 b->H b\/w.heap.size<=b)/\R12 H2 W (w.heap.size+1) R M s2 es N I/\Nw w W:=λ{W} hW=>
   ⟨λb=>(H b\/b=M)\/b=R,Sl.none,[],[],λb Z=>.inl (.inl Z),λb Z=>by
     rcases Z with(e|e)|e
     .exact .inl e
     .right;omega
     right;omega,by have:=HR.o.ext hW;rwa[hz]at this,gj (a7.o.trans hW)⟩
  rcases hp with⟨hm,rfl,hx⟩ |⟨hm,hf,rfl,hx⟩ |⟨hm,hf,rfl,H2,s2,M2,a1,a2,a3,a4,-,-⟩
  ·obtain ⟨H2,s2,N,I,q1,q2,q3,q4⟩:=d3 hx
   have e1:setMu es k v=(8,es):=by unfold setMu;rw[eH hm]
   rw[e1];exact⟨_,rfl,rfl,es,H2,s2,N,I,rfl,q1,q2,q3,q4⟩
  ·obtain ⟨H2,s2,N,I,q1,q2,q3,q4⟩:=d3 hx
   have e1:setMu es k v=(QcP v,es):=by unfold setMu;rw[eE (by simp[hm]),eH hf]
   rw[e1];exact⟨_,rfl,rfl,es,H2,s2,N,I,rfl,q1,q2,q3,q4⟩
  have e1:setMu es k v=(0,QbY es k v):=by unfold setMu;rw[eE (by simp[hm]),eE (by simp[hf])]
  rw[e1];refine⟨_,rfl,rfl,_,H2,s2,_,_,rfl,λb Z=>a1 b (.inl (.inl Z)),λb Z=>?_,by rwa[hz]at a3,?_⟩
  ·rcases a2 b Z with ((e | e) | e) | e
   .exact .inl e
   .right;omega
   .right;omega
   right;have:=a7.o.size;omega
  refine(gj a7.o).comp (a4.sb) λi hi e=>?_
  rcases e with e|e|e
  .omega
  .omega
  simp[Sl.row,Sl.none]at e
 subst c3;have q0:w2.cell? R=some (.pointer (some M)):=a5.blk.cell 0;obtain⟨e4,HQ⟩:=Yb a5 (show QwI H w (setMu es k v).2 M w2 from⟨e3,b8,a9,a5.below,by have:=c2.o;have:=a6.o;omega,c9▸a5.cur,c7⟩);obtain⟨r,c1⟩:∃r,setMu es k v=r:=⟨_,rfl⟩;have d8:=hY c1;rw[c1]at HQ ⊢;clear hp c9 b8 a9 a5 c7 b6 HR a7 c2 a6 c1;go_wp2_with fail;refine eN (v:=.tuple #[.pointer (some M),.int .i64 r.1]) (by simp[results,results34,go_sem,q0]) rfl ?_;exact⟨M,by rw[d8.o],by rw[d8.o];exact HQ.o⟩
def Qwi(l:List Ent):List Ent:=l.filter λe=>Qci e.1==0&&QcP e.2==0
theorem QwW(l:List Ent)(e:Ent):Qwi (l++[e])=if Qci e.1=0/\QcP e.2=0 then Qwi l++[e]else Qwi l:=by
 unfold Qwi;rw[bP];by_cases h:Qci e.1=0/\QcP e.2=0
 .rw [eH h];simp[h.1,h.2]
 rw[eE h];have:(Qci e.1==0&&QcP e.2==0)=false:=by
  cases h1:(Qci e.1==0&&QcP e.2==0)with
  |false=>rfl
  |true=>simp only[Bool.and_eq_true,beq_iff_eq]at h1;exact absurd h1 h
 simp[this]
theorem Qww:∀{l A:List Ent},OkM A->(∀e∈l,Qci e.1=0/\okV e.2)->OkM (QdC A l)
 |[],A,h,_=>h
 |a::r,A,h,hl=>Qww (l:=r) (h.put (hl a (aF ..)).1 (hl a (aF ..)).2) λe I=>hl e (aS _ I)
structure Qwa(w:World)(l:List LE)(wr:World)(j M:Nat)(s:Sl)(xs:List LE)(H:Nat->Prop):Prop where
 ents:xs.map LE.ent=Qwi ((l.take j).map LE.ent)
 sub:∀x∈xs,x∈l
 map:MapAt H wr M (QdC [] (xs.map LE.ent))
 own:wr.ownsRow w.heap.size 78 7 (.slice s.a xs.length s.c) xs.length (QaD xs)
 low:∀b,H b->w.heap.size<=b
 below:∀b,H b->b<wr.heap.size
 row:∀b,s.row=some b->H b
 nw:Nw w wr
 few:xs.length<=j
section
variable{w wr w2 w7 w9 : World}{l : List LE}{j M M' : Nat}{s s7 : Sl}{xs : List LE}{H : Nat -> Prop}{x : LE}
theorem QwB{es:List Ent}(h:MapAt H w M es)(k:Nw w w2):MapAt H w2 M es:=h.sb k (λb I=>I.elim) λI=>I.elim
theorem Qwa.skip(h:Qwa w l wr j M s xs H)(hx:l[j]? = some x)(k:Nw wr w2)(hn:¬(Qci x.k=0/\QcP x.v=0)):Qwa w l w2 (j+1) M s xs H where
 ents:=by
  rw[aJ,hx,aB];show _=Qwi (_++[(x.k,x.v)]);rw[QwW,eE hn];exact h.ents
 sub:=h.sub
 map:=QwB h.map k
 own:=Qab h.own (F:=Lt wr) (gp k λb hb=>hb) λb hb=>(Qad h.own hb).2
 low:=h.low
 below:=λb hb=>ab (h.below b hb) k.size
 row:=h.row
 nw:=h.nw.trans k
 few:=ef h.few
theorem Qwa.more(h:Qwa w l wr j M s xs H)(hx:l[j]? = some x)(hp:QwI H wr (QbY (QdC [] (xs.map LE.ent)) x.k x.v) M' w2)(hy:Qci x.k=0/\QcP x.v=0)(k:Nw w2 w7)(Z:w9.ownsRow w.heap.size 78 7 (.slice s7.a (xs.length+1) s7.c) (xs.length+1) (QaD xs++x.cells))(hw:Wr w7 w9 s.row)(hs:s7.a=s.a\/s7.a=some ⟨w7,0,none⟩/\Wr w7 w9 none) :
  ∃H',Qwa w l w9 (j+1) M' s7 (xs++[x]) H':=by
 obtain⟨H2,h1,h2,h3,h4,h5,h6⟩:=hp;have hz:=h.nw.size;have z6:=h6.size;have z7:=k.size;have z9:=hw.grown.size;have a1:MapAt H2 w7 M' (QbY (QdC [] (xs.map LE.ent)) x.k x.v):=QwB h5 k;have N:∀b,s7.row=some b->s.row=some b\/b=w7.heap.size:=λb I=>by
  rcases hs with e |⟨e,-⟩
  .left;unfold Sl.row at I ⊢;rwa[e]at I
  right;unfold Sl.row at I;rw[e]at I;simpa using I.symm
 have a3:M'<w7.heap.size:=ab (h3 M' h5.hm) z7;have a0:s.row≠some M':=λe=>by have:=(Qad h.own e).2;omega
 refine⟨λb=>H2 b\/s7.row=some b,?_,?_,?_,?_,?_,?_,λb I=>.inr I,?_,?_⟩
 ·rw [aB,h.ents,aJ,hx,aB]
  show _=Qwi (_++[(x.k,x.v)]);rw[QwW,eH hy];rfl
 ·intro y hy
  rcases aO.1 hy with hy|hy
  .exact h.sub y hy
  rw[aV.1 hy];exact am hx
 ·rw [aB]
  show MapAt _ _ _ (QdC [] (_++[(x.k,x.v)]));rw[Qls];have a2:St (λb=>s.row=some b) w7 w9:=hw.st λi hi=>hi
  refine MapAt.st (G:=λb=>s.row=some b) (a1.more (G:=λb=>H2 b\/s7.row=some b) (λb I=>.inl I) λb I hg=>?_) a2 (λb I=>.inl (h1 b (h.row b I))) a0;rcases hg with hg|hg
  .exact hg
  rcases N b hg with e|e
  .exact h1 b (h.row b e)
  omega
 ·rw [aj,Qcp,show QaD [x]=x.cells by simp [QaD]]
  exact Z
 ·rintro b (I | I)
  ·rcases h2 b I with e | e
   .exact h.low b e
   omega
  rcases N b I with e|e
  .exact h.low b (h.row b e)
  omega
 ·rintro b (I | I)
  .have:=h3 b I;omega
  exact(Qad Z I).2
 .exact ((h.nw.trans h6).trans k).comp ⟨hw.grown.os,hw.grown.tape,hw.grown.output,hw.grown.size,λi hi hn=>hw.grown.block i hi λe=>hn e.symm⟩ λi hi e=>by have:=h.low i (h.row i e);omega
 rw[aj];exact Nat.succ_le_succ h.few
end
def Qxk(w:World)(l:List LE)(e:Ending)(w':World):Prop:=
 ∃(M:Nat) (s:Sl) (xs:List LE) (H:Nat->Prop),e=.returned (.tuple #[.pointer (some ⟨M,0,none⟩),.slice s.a xs.length s.c])/\Qwa w l w' l.length M s xs H
variable{M:List Ent}
theorem Qwx{k:ByteArray}{v:Val}:(setMu M k v).1=0↔Qci k=0/\QcP v=0:=by
 unfold setMu;by_cases h:Qci k=0
 ·rw [eE (by simp [h])]
  by_cases h2:QcP v=0
  .rw [eE (by simp[h2])];simp[h,h2]
  rw[eH h2];simp[h,h2]
 rw[eH h];simp[h]
theorem Qxi{k:ByteArray}{v:Val}(h:Qci k=0/\QcP v=0):(setMu M k v).2=QbY M k v:=by
 unfold setMu;rw[eE (by simp[h.1]),eE (by simp[h.2])]
theorem QwI.nw{es:List Ent}{M:Nat}(h:QwI H w es M w'):Nw w w':=by
 obtain⟨N,-,-,-,-,-,I⟩:=h;exact I
variable{xs:List LE}
theorem Qwa.nwS{w wr w2:World}{l:List LE}{j M:Nat}(h:Qwa w l wr j M s xs H)(k:Nw wr w2):Qwa w l w2 j M s xs H:=
 ⟨h.ents,h.sub,QwB h.map k,Qab h.own (F:=Lt wr) (gp k λb I=>I) (λb I=>(Qad h.own I).2),h.low,λb I=>ab (h.below b I) k.size,h.row,h.nw.trans k,h.few⟩
theorem QwC(l:List Ent):∀{es:List Ent},Sorted es->Sorted (QdC es l):=by
 induction l with
 |nil=>exactλh=>h
 |cons a l ih=>exactλh=>ih (Qa1 h a.1 a.2)
variable{s0:Sl}
theorem Qwq{l:List LE}(hs:ES w (Lt w.heap.size) s0 l)(hl:l.length<=1000)(hc:∀x∈l,QcI x.v<=1100000):Calls prog 14 #[.slice s0.a l.length s0.c] w (Qxk w l):=by
 obtain⟨i0,hi,e2,e0,d6⟩:=eR Tryz.Qa8;obtain⟨HS,HC⟩:=Yb hs hc;clear hs hc;go_in;go_wp2_with fail;generalize a6:World.alloc w _=w0;have d0:Ext w w0:=by rw[<-a6];exact(gh w).alloc _ _
 have a1:Blk w0 w.heap.size 56 #[.slice none 0 0]:=by rw[<-a6];exact gm w _ _
 have hz:w0.heap.size=w.heap.size+1:=by rw[<-a6];exact eK _ _
 have b8:=hY (show Qwa w l w0 0 w.heap.size Sl.none [] (λb=>b=w.heap.size)from
  ⟨rfl,(λx hx=>by cases hx),⟨rfl,Sl.none,[],a1,⟨Rd.nil _ _ _,λx h=>by simp at h,oN⟩,rfl⟩,eS _ _ _ _,(λb hb=>oM),(λb hb=>oM),(λb hb=>by simp[Sl.row,Sl.none]at hb),gj d0,ao _⟩)
 clear a6 d0 a1 hz;go_loopw[4,5,6] (λv4 v5 v6 wr=>∃(j M:Nat) (s:Sl) (xs:List LE) (H:Nat->Prop),v4=.pointer (some M)/\v5=.slice s.a xs.length s.c/\v6=.int .i64 (j:Int)/\j<=l.length/\Yd (Qwa w l wr j M s xs H)) (λ_ _ v _=>l.length -(intOf v).toNat)
 case atStart=>exact⟨0,w.heap.size,Sl.none,[],_,rfl,rfl,rfl,aA _,b8⟩
 obtain⟨j,M,s,xs,H,rfl,rfl,rfl,hj,N⟩:=hrel;by_cases b6:j<l.length
 ·have l1:(j:Int)<(l.length:Int):=oM
  have f5:decide ((j:Int)<(l.length:Int))=true:=eI l1;have l0:(0:Int)<=(j:Int):=oM
  obtain⟨x,hx⟩:∃x,l[j]? = some x:=⟨_,ac b6⟩;have b9:=am hx;obtain⟨b0,o0,c9,a1,f3,f2,cK,a4,c7,b7⟩:=HS.o.at hx;have b5:∀W,Nw w W->W.cell? ⟨b0,o0+j*7,none⟩=some (.string x.k)/\QaV W b0 (o0+j*7+1) x.v x.sl x.so:=λW hW=>⟨(gp hW (F:=Lt w.heap.size) λb hb=>hb).cell a1 |>.trans cK,a4.agree (gp hW (F:=Lt w.heap.size) λb hb=>hb) a1⟩
  obtain⟨d7,d4,f4⟩:=Yc b5 hx b7;have I:=hY (show ∀W,Nw wr W->W.cell? ⟨b0,o0+j*7,none⟩=some (.string x.k)/\W.cell? ⟨b0,o0+j*7+1,none⟩=some (.int .i64 x.v.kind)/\W.cell? ⟨b0,o0+j*7+1+1,none⟩=some (.bool x.v.b)/\W.cell? ⟨b0,o0+j*7+1+2,none⟩=some (.int .i64 x.v.i)/\W.cell? ⟨b0,o0+j*7+1+3,none⟩=some (.string x.v.t)/\W.cell? ⟨b0,o0+j*7+1+4,none⟩=some (.slice x.sl.a x.v.l.length x.sl.c)/\W.cell? ⟨b0,o0+j*7+1+5,none⟩=some (.slice x.so.a x.v.ok.length x.so.c)from
   λW hW=>by
    obtain⟨h1,h2⟩:=b5 W (N.o.nw.trans hW);exact⟨h1,h2.c0,h2.c1,h2.c2,h2.c3,h2.c4,h2.c5⟩)
  have a7:=hY (show ∀W,Nw wr W->Calls prog 34 #[.pointer (some M),.string x.k,QbV x.v x.sl x.so] W λe w'=>∃M',e=.returned (.tuple #[.pointer (some ⟨M',0,none⟩),.int .i64 (setMu (QdC [] (xs.map LE.ent)) x.k x.v).1])/\QwI H W (setMu (QdC [] (xs.map LE.ent)) x.k x.v).2 M' w' fromλW hW=>by
   have a0:=N.o.nwS hW;exact Qwn a0.map a0.below (QwC _ List.Pairwise.nil) (by have h1:=QnJ (xs.map LE.ent) [];rw[aq]at h1;have h2:=a0.few;simp only[List.length_nil]at h1;omega) b7 ((c7.agree (gp a0.nw λb hb=>hb)).mono λb hb=>⟨Nat.lt_of_lt_of_le hb a0.nw.size,λhh=>by have:=a0.low b hh;have:b<w.heap.size:=hb;omega⟩) (HC.o x b9))
  rw[c9];clear b5 hx b9 c9 a1 cK a4 c7 b7;obtain⟨r,hr⟩:∃r,setMu (QdC [] (xs.map LE.ent)) x.k x.v=r:=⟨_,rfl⟩;rw[hr]at a7;have HR:=hY hr;clear hr;go_wp2_with fail;refine eO (S:=(λw'=>Nw wr w')) kM ((gj ((gh wr).drew))) (λhHeld=>?_);refine Qaf 0 (some 18) I hHeld ?_;refine Qaf 1 (some 19) I hHeld ?_;refine Qaf 2 (some 20) I hHeld ?_;refine Qaf 3 (some 21) I hHeld ?_;refine Qaf 4 (some 22) I hHeld ?_;refine Qaf 5 (some 23) I hHeld ?_;refine Qaf 6 (some 24) I hHeld ?_;refine Qaf 7 (some 25) I hHeld ?_;refine Qaf 8 (some 26) I hHeld ?_;refine Qaf 9 (some 27) I hHeld ?_;refine Qaf 10 (some 28) I hHeld ?_;refine Qac (i:=11) kM rfl (by rfl) (λK hK=>?_);go_simp
  (have f1:=hY hHeld;refine(a7.o _ hHeld).mono ?_;rintro e w2 ⟨M2,rfl,Z⟩;have a9:=hY Z;clear Z)
  refine hK.out _ _ (hHeld.trans a9.o.nw) (λhHeld=>?_);clear hK K
  try go_frame
  refine Qaf 12 (some 17) I hHeld ?_;refine Qaf 13 (some 30) I hHeld ?_;refine Qaf 14 (some 31) I hHeld ?_;refine Qaf 15 (some 7) I hHeld ?_;refine Qaf 16 (some 8) I hHeld ?_;refine eV kM ?_ _;by_cases h0:r.1=0
  ·have g0:(r.1 == 0)=true:=by simp [h0]
   have hy:=Qwx.1 (by rw[HR.o];exact h0:(setMu (QdC [] (xs.map LE.ent)) x.k x.v).1=0);obtain⟨HY,a8⟩:=Yb hy hHeld;have Z:=a9.o;rw[<-HR.o,Qxi hy]at Z;have b4:=hY Z;obtain⟨cK,a4⟩:=d7.o w2 (N.o.nw.trans hHeld);obtain⟨c0,c1,c2,c3,c4,c5⟩:=a4;have d8:=hY (gm w2 78 x.cells.toArray);have a5:Nw w2 (w2.alloc (.cells x.cells.toArray 78)):=gj ((gh w2).alloc _ _);have e1:=hY a5;have e3:=hY (N.o.nwS (hHeld.trans a5)).own;have d3:xs.length+1<=maxLen:=by have:=N.o.few;unfold maxLen;omega
   have c8:(xs.length+1)*104<=140737488355328:=by have:=N.o.few;omega
   have a3:w.heap.size<=(w2.alloc (.cells x.cells.toArray 78)).heap.size:=((N.o.nw.trans hHeld).trans a5).size;obtain⟨e4,e6,e8⟩:=Yc d3 c8 a3;clear h0 hy Z hHeld a5 d3 c8 a3;go_wp2_with(at_builtin;refine Qak _ rfl (.tmp 35) (.tmp 40) 41 rfl w.heap.size 78 i0 _ 7 104 underlying41 hi e2 e0 d6 rfl oN s xs.length (QaD xs) rfl e3.o (λb=>b=w2.heap.size) ⟨some w2,1⟩ 1 x.cells rfl (gA d8.o oN rfl) (LE.one _) e4.o e6.o e8.o ?_;intro s7 w9 a2 b3 c6;have e7:=hY a2;have f0:=hY b3;have d5:=hY c6;clear a2 b3 c6);go_roundw
   case measure=>simp[intOf];omega
   obtain⟨H',a0⟩:=(N.o.nwS f1.o).more d4.o b4.o HY.o e1.o e7.o f0.o d5.o;exact⟨j+1,M2,s7,xs++[x],H',rfl,by rw[aj];rfl,by go_num,b6,hY a0⟩
  have g0:(r.1==0)=false:=eJ.2 h0;obtain⟨HY,a8⟩:=Yb (show ¬(Qci x.k=0/\QcP x.v=0) fromλhy=>h0 (by rw[<-HR.o];exact Qwx.2 hy)) hHeld;clear h0 hHeld;go_wp2_with fail;go_roundw
  case measure=>simp[intOf];omega
  exact⟨j+1,M,s,xs,H,rfl,rfl,by go_num,b6,hY (N.o.skip d4.o a8.o HY.o)⟩
 obtain rfl:j=l.length:=oM
 have l1:decide ((l.length:Int)<(l.length:Int))=false:=eG oM;go_wp2_with fail;refine eN (v:=.tuple #[.pointer (some M),.slice s.a xs.length s.c]) (by simp[results,results14,go_sem]) rfl ?_;exact⟨M,s,xs,H,rfl,N.o⟩
theorem Qxm{f k:ByteArray}(h:Qau f k=true):f.size<=k.size:=by
 unfold Qau at h;rw[eQ,eQ]at h;have h1:=(cT.1 h).length_le;rw[aL,aL]at h1;exact h1
theorem QxQ(f t k:ByteArray):(QbB f t k).size<=t.size+k.size:=by
 unfold QbB;rw[aK,bW];omega
section
variable{es : List Ent}{f t : ByteArray}{j : Nat}{e : Ent}
theorem QwY(es:List Ent)(f:ByteArray)(j:Nat):QjI es f=QjI (es.take j) f++QjI (es.drop j) f:=by
 unfold QjI;rw[<-bP,aX]
theorem Qwr(es:List Ent)(f:ByteArray)(j:Nat):(QjI es f).take (QjI (es.take j) f).length=QjI (es.take j) f:=by
 rw[QwY es f j,dI]
theorem QwF(I:es[j]? = some e)(N:Qau f e.1=true):(QjI es f)[(QjI (es.take j) f).length]? = some e:=by
 obtain⟨h1,h2⟩:=ae.1 I;rw[QwY es f j,aP (ao _),cu,aE h1,h2];unfold QjI;rw[List.filter_cons_of_pos (by exact N)];rfl
theorem QwO(I:es[j]? = some e):QjI (es.take (j+1)) f=if Qau f e.1 then QjI (es.take j) f++[e]else QjI (es.take j) f:=by
 unfold QjI;rw[aJ,I,bP];cases h:Qau f e.1<;>simp[h]
theorem Qxh(I:es[j]? = some e):Qqm (es.take (j+1)) f=if Qau f e.1 then Qqm (es.take j) f else Qqm (es.take j) f++[e]:=by
 unfold Qqm;rw[aJ,I,bP];cases h:Qau f e.1<;>simp[h]
theorem QxJ{L:List Ent}{k:ByteArray}{v:Val}(h:Sorted (L++[(k,v)])):QbY L k v=L++[(k,v)]:=by
 have h1:=Qiz (A:=L) (k:=k) (v:=v) (λe I=>(cF.1 h).2.2 e I (k,v) (aV.2 rfl)) [];rw[aU]at h1;rw[h1];rfl
theorem QyJ(hs:Sorted es)(I:es[j]? = some e)(N:Qau f e.1=false):QbY (Qqm (es.take j) f) e.1 e.2=Qqm (es.take (j+1)) f:=by
 have h:=Qkn (hs.sublist (List.take_sublist (j+1) es)) f;rw[Qxh I,N]at h ⊢;exact QxJ h
theorem Qw2{M:List Ent}{f t:ByteArray}:∀{L:List Ent},QcF M f t L=0->∀e∈L,Qci (QbB f t e.1)=0
 |[],_,e,I=>by cases I
 | x :: r,h,e,I=>by
   rw[QcF]at h;by_cases h1:Qci (QbB f t x.1)=0
   ·rw [eE (by simp [h1])] at h
    rcases aH.1 I with rfl|I
    .exact h1
    split at h
    .cases h
    exact Qw2 h e I
   rw[eH h1]at h;cases h
theorem Qy9(Z:QcF es f t (QjI (es.take j) f)=0)(I:es[j]? = some e)(N:Qau f e.1=true)(hk:Qci (QbB f t e.1)≠0):QgM es f t=(8,es):=by
 have h:=QrU (L:=QjI es f) (by rw[Qwr es f j];exact Z) (QwF I N);rw[eH hk]at h;unfold QgM;rw[h,eH oN]
theorem QyX(Z:QcF es f t (QjI (es.take j) f)=0)(I:es[j]? = some e)(N:Qau f e.1=true)(hk:Qci (QbB f t e.1)=0)(hg:((Qaq es (QbB f t e.1)).isSome && !Qau f (QbB f t e.1))=true):QgM es f t=(13,es):=by
 have h:=QrU (L:=QjI es f) (by rw[Qwr es f j];exact Z) (QwF I N);rw[eE (by simp[hk]),eH hg]at h;unfold QgM;rw[h,eH oN]
theorem Qyk(Z:QcF es f t (QjI (es.take j) f)=0)(I:es[j]? = some e)(N:Qau f e.1=true)(hk:Qci (QbB f t e.1)=0)(hg:((Qaq es (QbB f t e.1)).isSome && !Qau f (QbB f t e.1))=false):QcF es f t (QjI (es.take (j+1)) f)=0:=by
 have h:=QhD (L:=QjI es f) (by rw[Qwr es f j];exact Z) (QwF I N) hk hg;rw[QwO I,N,eH rfl,<-Qwr es f j];rw[aJ,QwF I N]at h;exact h
theorem Qxf(I:es[j]? = some e)(N:Qau f e.1=false):QjI (es.take (j+1)) f=QjI (es.take j) f:=by rw[QwO I,N];rfl
end
theorem Qws(h:OkM M){k:ByteArray}{v:Val}(I:wfV v):OkM (setMu M k v).2:=by
 unfold setMu;split
 .exact h
 rename_i h1;split
 .exact h
 rename_i h2;exact h.put (fD.1 h1) ⟨I,fD.1 h2⟩
variable{y:Val}
theorem QyQ(N:wfV y){x:Val}(Z:wfV x):wfV (QuP (y.l++[x])):=by
 obtain⟨k,b,i,t,l,ok,ov⟩:=y;unfold wfV at N;have h:∀l:List Val,QkR l->QkR (l++[x]):=λl=>by
  induction l with
  |nil=>intro _;rw[aG];unfold QkR;exact⟨Z,by unfold QkR;trivial⟩
  |cons a r ih=>intro I;unfold QkR at I;rw[aM];unfold QkR;exact⟨I.1,ih I.2⟩
 unfold QuP wfV;exact⟨rfl,h l N.2.1,by unfold QkR;trivial⟩
theorem QyS(h:OkM M)(k:ByteArray)(n:Int):OkM (Qeb M k n).2:=by
 have I:∀q,OkM (Qoy M k q n).2:=λq=>by
  unfold Qoy;split
  .exact h
  exact Qws h (by unfold Qlb wfV;exact⟨rfl,by unfold QkR;trivial,by unfold QkR;trivial⟩)
 unfold Qeb;split
 ·split
  .exact h
  exact I _
 exact I 0
theorem QyR(h:OkM M)(k:ByteArray){x:Val}(I:wfV x):OkM (Qq1 M k x).2:=by
 unfold Qq1;split
 ·rename_i y hy
  split
  .exact h
  unfold Qoo;split
  .exact h
  exact Qws h (QyQ (h.get hy).2.1 I)
 unfold Qoo;split
 .exact h
 exact Qws h (QyQ (y:=zeroV) (by unfold zeroV wfV;exact⟨rfl,by unfold QkR;trivial,by unfold QkR;trivial⟩) I)
theorem QyF(h:OkM M)(f t:ByteArray):OkM (QgM M f t).2:=by
 unfold QgM;split
 .exact h
 rename_i h0;refine Qww ⟨Qkn h.sorted f,λe I=>h.ok e (bQ.1 I).1⟩ λe I=>?_
 obtain⟨x,N,rfl⟩:=bY.1 I;exact⟨Qw2 (fD.1 h0) x N,(h.ok x (bQ.1 N).1).2⟩
theorem QxD(m:Mu)(M:List Ent):stepM m M=if m.kd=1 then setMu M m.k m.v else if m.kd=2 then(if(Qaq M m.k).isSome then(0,QbM M m.k)else(12,M))else if m.kd=3 then Qeb M m.k m.i else if m.kd=4 then(if asM M m.k m.had m.was then(if m.has then setMu M m.k m.v else(0,QbM M m.k))else(13,M))else if m.kd=5 then Qq1 M m.k m.v else if m.kd=6 then QgM M m.k m.tk else if m.kd=7 then(if asM M m.k m.had m.was then(if(QkQ m.l M).1≠0 then((QkQ m.l M).1,M)else QkQ m.l M)else(13,M))else(9,M):=by
 obtain⟨kd,k,tk,i,I,N,Z,v,l⟩:=m;rw[stepM];rfl
theorem Qyt(n:Nat):∀(m:Mu),SizeOf.sizeOf m<=n->∀{w:World} {F:Nat->Prop} {c:MuS},RMu w F m c->∀{M:List Ent},OkM M->OkM (stepM m M).2:=by
 induction n with
 |zero=>intro m h;have:=Mu.Qb6 m;omega
 | succ n ih=>
   intro m hn w F c hm M h;have I:wfV m.v:=hm.parts.2.1.wf;have hq:∀(l:List Mu),(∀x∈l,∃(y:MuS),RMu w F x y/\SizeOf.sizeOf x<=n)->∀{M:List Ent},OkM M->OkM (QkQ l M).2:=by
    intro l
    induction l with
    |nil=>intro _ M h;rw[QkQ];exact h
    | cons a r ihr=>
      intro Z M h;obtain⟨y,hy,hs⟩:=Z a (aF ..);rw[QkQ];split
      .exact h
      exact ihr (λx N=>Z x (aS _ N)) (ih a hs hy h)
   have hl:∀x∈m.l,∃(y:MuS),RMu w F x y/\SizeOf.sizeOf x<=n:=λx N=>by
    obtain⟨j,hj⟩:=bz N;obtain⟨b,o,y,-,-,-,-,-,hr⟩:=hm.at hj;exact⟨y,hr,by have:=Mu.Qsr hj;omega⟩
   rw[QxD];split
   .exact Qws h I
   split
   ·split
    .exact h.del _
    exact h
   split
   .exact QyS h _ _
   split
   ·split
    ·split
     .exact Qws h I
     exact h.del _
    exact h
   split
   .exact QyR h _ I
   split
   .exact QyF h _ _
   split
   ·split
    ·split
     .exact h
     exact hq m.l hl h
    exact h
   exact h
variable{c:MuS}
theorem QxE{m:Mu}(I:RMu w F m c)(h:OkM M):OkM (stepM m M).2:=Qyt _ m (ao _) I h
theorem Qyq{l:List Mu}{x:Mu}(Z:l[j]? = some x)(M:List Ent)(h:(QkQ (l.take j) M).1=0):QkQ (l.take (j+1)) M=if(stepM x (QkQ (l.take j) M).2).1≠0 then((stepM x (QkQ (l.take j) M).2).1,(QkQ (l.take j) M).2)else((stepM x (QkQ (l.take j) M).2)):=by
 induction l generalizing j M with
 |nil=>simp at Z
 | cons a r ih=>
   cases j with
   | zero=>
     have:a=x:=by simpa using Z
     subst this;rw[bp,QkQ];simp only[List.take_zero,QkQ];split
     .rfl
     rename_i hh;exact eC (fD.1 hh).symm rfl
   | succ j=>
     rw[bp]at h ⊢;rw[bp];by_cases I:(stepM a M).1=0
     ·have e1:∀ N,QkQ (a :: N) M=QkQ N (stepM a M).2:=fun N=>by rw [QkQ,eE (fun e=>e I)]
      rw[e1]at h ⊢;rw[e1];exact ih (by simpa using Z) _ h
     rw[QkQ,eH I]at h;exact absurd h I
theorem Qyp{l:List Mu}(h:(QkQ (l.take j) M).1≠0):QkQ l M=QkQ (l.take j) M:=by
 induction l generalizing j M with
 |nil=>simp
 | cons a r ih=>
   cases j with
   |zero=>exact absurd rfl h
   | succ j=>
     rw[bp,QkQ]at h ⊢;rw[QkQ];by_cases I:(stepM a M).1=0
     ·rw [eE (fun e=>e I)] at h
      rw[eE (λe=>e I),eE (λe=>e I)];exact ih h
     rw[eH I,eH I]
def Qwd(H:Nat->Prop)(w:World)(es:List Ent)(M:Nat)(w':World):Prop:=
 ∃H':Nat->Prop,(∀b,H b->H' b)/\(∀b,H' b->H b\/w.heap.size<=b)/\(∀b,H' b->b<w'.heap.size)/\MapAt H' w' M es/\Nw w w'
def Qwh(H:Nat->Prop)(w:World)(r:Int × List Ent)(e:Ending)(w':World):Prop:=∃M',e=.returned (.tuple #[.pointer (some ⟨M',0,none⟩),.int .i64 r.1])/\Qwd H w r.2 M' w'
section
variable{H : Nat -> Prop}{w w1 w' : World}{es : List Ent}{M : Nat}
theorem QwI.old(h:QwI H w es M w'):Qwd H w es M w':=by
 obtain⟨H',a,b,c,-,d,e⟩:=h;exact⟨H',a,b,c,d,e⟩
theorem Qwd.pre(h:Qwd H w1 es M w')(k:Nw w w1):Qwd H w es M w':=by
 obtain⟨H',a,b,c,d,e⟩:=h;exact⟨H',a,λi hi=>(b i hi).imp id (ak k.size),c,d,k.trans e⟩
theorem Qwd.self(h:MapAt H w M es)(N:∀b,H b->b<w.heap.size)(k:Nw w w'):Qwd H w es M w':=
 ⟨H,λ_ h=>h,λ_ h=>.inl h,λi hi=>ab (N i hi) k.size,h.sb k (λb I=>I.elim) λI=>I.elim,k⟩
end
theorem Qxy{n b:Int}(hn : -9223372036854775808<=n/\n<=9223372036854775807)(hb : -9223372036854775808<=b/\b<=9223372036854775807)(es:List Ent)(k:ByteArray) :
  (decide (0<b)=true/\decide (wrap64 (9223372036854775807-b)<n)=true/\Qoy es k n b=(7,es))\/
  (decide (0<b)=true/\decide (wrap64 (9223372036854775807-b)<n)=false/\decide (b<0)=false/\Qoy es k n b=setMu es k (Qlb (wrap64 (n+b))))\/
  (decide (0<b)=false/\decide (b<0)=true/\decide (n<wrap64 (-9223372036854775808-b))=true/\Qoy es k n b=(7,es))\/
  (decide (0<b)=false/\decide (b<0)=true/\decide (n<wrap64 (-9223372036854775808-b))=false/\Qoy es k n b=setMu es k (Qlb (wrap64 (n+b))))\/
  (decide (0<b)=false/\decide (b<0)=false/\Qoy es k n b=setMu es k (Qlb (wrap64 (n+b)))):=by
 have h3:=(Ql9 hn hb).2.2;unfold Qoy;by_cases N:0<b
 ·have Z:wrap64 (9223372036854775807 - b)=9223372036854775807 - b:=by unfold wrap64;omega
  rw[Z];by_cases h1:9223372036854775807-b<n
  .exact .inl ⟨decide_eq_true N,eI h1,eH (.inl ⟨N,h1⟩)⟩
  have I:¬((0<b/\9223372036854775807-b<n)\/(b<0/\n < -9223372036854775808-b)):=oM
  exact .inr (.inl ⟨decide_eq_true N,eG h1,eG oM,by rw[eE I,h3 I]⟩)
 by_cases h2:b<0
 ·have Z:wrap64 (-9223372036854775808 - b) = -9223372036854775808 - b:=by unfold wrap64;omega
  rw[Z];by_cases h1:n < -9223372036854775808-b
  .exact .inr (.inr (.inl ⟨decide_eq_false N,eI h2,eI h1,eH (.inr ⟨h2,h1⟩)⟩))
  have I:¬((0<b/\9223372036854775807-b<n)\/(b<0/\n < -9223372036854775808-b)):=oM
  exact .inr (.inr (.inr (.inl ⟨decide_eq_false N,eI h2,eG h1,by rw[eE I,h3 I]⟩)))
 have I:¬((0<b/\9223372036854775807-b<n)\/(b<0/\n < -9223372036854775808-b)):=oM
 exact .inr (.inr (.inr (.inr ⟨decide_eq_false N,eG h2,by rw[eE I,h3 I]⟩)))
theorem QyC(M:List Ent)(k:ByteArray)(b:Int)(o:Option Val)(h:Qaq M k=o):(o=none/\Qeb M k b=Qoy M k 0 b)\/(∃x,o=some x/\(x.kind != 3)=true/\Qeb M k b=(9,M))\/∃x,o=some x/\(x.kind != 3)=false/\Qeb M k b=Qoy M k x.i b:=by
 unfold Qeb;rw[h];cases o with
 |none=>exact .inl ⟨rfl,rfl⟩
 | some x=>
   by_cases I:x.kind=3
   .exact .inr (.inr ⟨x,rfl,by simp[I],eE (by simp[I])⟩)
   exact .inr (.inl ⟨x,rfl,by simp[I],eH I⟩)
theorem Qyc{es:List Ent}(h:MapAt H w M0 es)(hH:∀b,H b->b<w.heap.size)(a5:Sorted es)(hc:es.length<=1000000){k:ByteArray}(hk:k.size<=maxLen){n:Int}(hn : -9223372036854775808<=n/\n<=9223372036854775807) :
  Calls prog 90 #[.pointer (some M0),k,n] w (Qwh H w (Qeb es k n)):=by
 have HG:=hY (Qzg h a5 k);have a1:∀W,Nw w W->Qwd H w es M0 W:=λW hW=>Qwd.self h hH hW
 have a3:∀q W,Nw w W->Calls prog 34 #[.pointer (some M0),k,QbV (Qlb (wrap64 q)) Sl.none Sl.none] W λe w'=>∃M',e=.returned (.tuple #[.pointer (some ⟨M',0,none⟩),.int .i64 (setMu es k (Qlb (wrap64 q))).1])/\QwI H W (setMu es k (Qlb (wrap64 q))).2 M' w':=λq W hW=>
  Qwn (h.sb hW (λb hb=>hb.elim) λhb=>hb.elim) (λb hb=>ab (hH b hb) hW.size) a5 hc hk (RV.flat _ _ _ _ _ _ oN (WalkArith.wf_i64 (by unfold wrap64;omega)) oN) (show 7+0+0+0<=1100000 by decide)
 obtain⟨N,a2⟩:=Yb a1 a3;obtain⟨r,hr⟩:∃r,Qeb es k n=r:=⟨_,rfl⟩;have hw:=QyC es k n _ rfl;obtain⟨og,a4⟩:∃o,Qaq es k=o:=⟨_,rfl⟩;rw[a4,hr]at hw;rw[hr];rw[a4]at HG;obtain⟨HN,HW⟩:=Yb hn hw;clear h hH a5 hc hk a1 a3 a4 hr hw hn;go_in;go_wp2_with fail;refine HG.o.mono ?_;rintro e w1 ⟨s1,s2,rfl,a9,a7⟩;obtain⟨HI,b3⟩:=Yb a7.int a9;clear a9 a7;go_upto_region 2 with fail;generalize a6:World.alloc w1 _=w2;obtain⟨b0,a8⟩:Ext w1 w2/\Blk w2 w1.heap.size 34 _:=by rw[<-a6];exact⟨(gh w1).alloc _ _,gm w1 _ _⟩
 obtain⟨d0,-,d2,-,-,-⟩:=a8.c6;have Z:=hY (gj (b3.o.trans b0));clear a6 b0 a8;rcases HW.o with⟨rfl,hr⟩ |⟨x,rfl,h3,rfl⟩ |⟨x,rfl,h3,hr⟩
 ·rcases Qxy (n:=0) oN HN.o es k with ⟨f1,f2,hz⟩ | ⟨f1,f2,f3,hz⟩ | ⟨f1,f2,f3,hz⟩ | ⟨f1,f2,f3,hz⟩ | ⟨f1,f2,hz⟩
  all_goals (
   rw[hz]at hr
   (try simp only[Int.zero_add]at hr)
   have HR:=hY hr;clear hz hr;go_wp2_with fail
   first
   |(go_ret2;exact⟨M0,by rw[HR.o]<;>rfl,by rw[HR.o];exact N.o _ Z.o⟩)
   | (refine (a2.o _ _ Z.o).mono ?_
      rintro e w3 ⟨M',rfl,I⟩;have a0:=hY (I.old.pre Z.o);clear I;go_wp2_with fail;go_ret2;exact⟨M',by rw[HR.o]<;>rfl,by rw[HR.o];exact a0.o⟩))
 ·go_wp2_with fail
  go_ret2;exact⟨M0,rfl,N.o _ Z.o⟩
 rcases Qxy (n:=x.i) HI.o HN.o es k with⟨f1,f2,hz⟩ |⟨f1,f2,f3,hz⟩ |⟨f1,f2,f3,hz⟩ |⟨f1,f2,f3,hz⟩ |⟨f1,f2,hz⟩
 all_goals (
  rw[hz]at hr;have HR:=hY hr;clear hz hr;go_wp2_with fail
  first
  |(go_ret2;exact⟨M0,by rw[HR.o]<;>rfl,by rw[HR.o];exact N.o _ Z.o⟩)
  | (refine (a2.o _ _ Z.o).mono ?_
     rintro e w3 ⟨M',rfl,I⟩;have a0:=hY (I.old.pre Z.o);clear I;go_wp2_with fail;go_ret2;exact⟨M',by rw[HR.o]<;>rfl,by rw[HR.o];exact a0.o⟩))
end Go.Proofs.YtdiecmkpbadgjaaGreatDoor
