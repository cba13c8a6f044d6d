/- What the theorem needs of the texts PairN, Mend, Mend2, Without, Del, Is, Sbs, OvMem, OvStep, OvGet, MeetO, OvStepW, OvPut: no condition of its own. -/
import Derived.Deep.CutBlock
import Derived.Test.YtkjkafgnnoidpaaGreatDoorPgd
set_option linter.unusedVariables false
set_option linter.unusedSimpArgs false
set_option linter.unnecessarySimpa false
set_option maxRecDepth 100000
set_option maxHeartbeats 4000000
namespace Go.Proofs.YtkjkafgnnoidpaaGreatDoor
open Go.Proofs.Tryz
open Go.RowKit
abbrev QdD(sl sr:Sl):Nat->Prop:=λb=>sl.row=some b\/sr.row=some b
def Qfx(P:Nat->World->Prop)(W:World)(e:Ending)(W':World):Prop:=∃a,e=.returned (.pointer (some ⟨a,0,none⟩))/\W.heap.size<=a/\P a W'/\Ext W W'
variable{w W:World}{s:Sl}{G:Nat->Prop}
theorem Qk0{base n:Nat}{xs:List Value}(h:w.ownsRow base 39 1 (.slice s.a n s.c) n xs)(hs:St G w W)(D:∀b,s.row=some b->¬G b):W.ownsRow base 39 1 (.slice s.a n s.c) n xs:=
 Qae h hs.agree λb z=>⟨(Qaa h z).2,D b z⟩
variable{F:Nat->Prop}{cs:List Value}
theorem QrC{n m:Nat}(h:Rd w F 1 s n cs)(z:m<=n):Rd w F 1 s m (cs.take (m*1)):=h.take z
variable{n:Nat}
theorem Qul{ls:List Value}(D:ls.length=n*1)(J:0<n)(z:∀u∈ls,∃p,u=Value.pointer p):∃v0:Option Addr,ls.drop ((n-1)*1)=[.pointer v0]:=by
 have h:(ls.drop ((n-1)*1)).length=1:=by rw[au,D];omega
 match hd:ls.drop ((n-1)*1),h with
 |[x],_=>obtain⟨p,I⟩:=z x (aC (by rw[hd];exact br.2 rfl));exact⟨p,by rw[I]⟩
section
variable{w : World}{base m nr : Nat}{sl sr : Sl}{ls rs : List Value}{P1 P2 : Nat -> World -> Prop}
theorem Qna(hL:w.ownsRow base 39 1 (.slice sl.a (m+1) sl.c) (m+1) ls)(hR:w.ownsRow base 39 1 (.slice sr.a nr sr.c) nr rs)(hb:base<=w.heap.size)(Z:∀b,sl.row=some b->sr.row≠some b)
  (a8:∀u∈ls,u.oneCell'=true) (b5:∀u∈rs,u.oneCell'=true) (d3:∀u∈ls,∃p,u=Value.pointer p) (h4:4<m+1) (h8:m+1<=8) (r8:nr<=8)
  (b3:∀(W:World) (s:Sl),St (QdD sl sr) w W->Rd W (Lt W) 1 s m (ls.take (m*1))->Calls prog 64 #[.slice s.a m s.c] W (Qfx P1 W))
  (a4:∀(W:World) (s:Sl),St (QdD sl sr) w W->Rd W (Lt W) 1 s (nr+1) (ls.drop (m*1)++rs)->Calls prog 64 #[.slice s.a (nr+1) s.c] W (Qfx P2 W))
  (a9:∀a W W',St (QdD sl sr) w W->P1 a W->St (QdD sl sr) W W'->P1 a W') :
  Calls prog 191 #[.slice sl.a (m+1) sl.c,.slice sr.a nr sr.c,.func (.func 64) #[] #[]] w λe w'=>∃a b,e=.returned (.tuple #[.pointer (some ⟨a,0,none⟩),.pointer (some ⟨b,0,none⟩)])/\w<=a/\w<=b/\P1 a w'/\P2 b w'/\St (QdD sl sr) w w':=by
 obtain⟨i0,hi,e3,e8,e6⟩:=eG Tryz.QbQ;obtain⟨v0,D⟩:=Qul hL.1 (by omega) d3;rw[Nat.add_sub_cancel]at D;obtain⟨L,z,rfl,e7,d6,a5,I⟩:=Qa2 hL (by omega);have c9:L<w:=I.lt;have X:∀b,sr.row=some b->b<w:=λb hb=>(Qaa hR hb).2
 have b4:∀W,St (λb=>sr.row=some b) w W->∀j u,ls[j]? = some u->W.cell? ⟨L,j,none⟩=some u:=λW N j u hj=>by
  obtain⟨b,o,h1,h2,h3⟩:=fE hL;obtain⟨e1,-,-⟩:=h1.eq (by omega);obtain⟨rfl,rfl⟩:L=b/\0=o:=by simpa using e1
  have:=h3 j u hj;rw[aB]at this;exact(N.cell c9 (Z L rfl)).trans this
 have b0:∀(c:Nat) (u:Value),([.pointer v0]:List Value)[c]? = some u->ls[m*1+c]? = some u:=λc u hu=>by rw[<-D,be]at hu;exact hu
 have hS:∀W,St (λb=>sr.row=some b) w W->W.cell? ⟨L,m,none⟩=some (.pointer v0):=λW N=>by have:=b4 W N _ _ (b0 0 _ rfl);simpa using this
 have f2:(4:Int)<(m:Int)+1:=by omega
 have f0:(m:Int)<=(z:Int):=by omega
 have f1:(m:Int)<(m:Int)+1:=by omega
 have d7:(z:Int)<=9223372036854775807:=by unfold maxLen at a5;omega
 have d8:IntKind.i64.wrap ((m:Int)+1)=(m:Int)+1:=by rw[ey];omega
 have a3:∀W,St (λb=>sr.row=some b) w W->Calls prog 64 #[.slice (some ⟨L,0,none⟩) m z] W (Qfx P1 W):=λW N=>
  b3 W ⟨some ⟨L,0,none⟩,z⟩ (N.mono λi _ hi=>.inr hi) (QrC ((fE (Qk0 (s:=⟨some ⟨L,0,none⟩,z⟩) hL N (λb hb=>Z b hb))).mono λi hi=>hi.2) (by omega))
 have R:∀W vb,Ext w W->Blk W vb 39 #[.pointer v0]->w<=vb->Calls prog 107 #[.slice sr.a nr sr.c,.int .i64 0,.slice (some ⟨vb,0,none⟩) 1 1] W (QeL base sr nr 0 rs [.pointer v0] W):=λW vb N hv e2=>
  QlN (Qk0 hR (N.st (λ_=>False)) (λ_ _ h=>h)) (aj hb N.size) (by omega) (av _) rfl hv (λe=>by have:=X vb e;omega) (λu hu=>a8 u (aC (D▸hu))) b5
 have U:=hY hS;have c8:=hY a3;have c4:=hY a4;have HI:=hY R;have c3:=hY a9;have HL:=hY D;clear hS a3 b3 a4 R a9 D b0 b4 a8 b5 hL hR I Z;go_in;go_wp2_with fail;have s0:=(St.refl (λb=>sr.row=some b) w).drew;have k0:=U.o _ s0;have e0:=(fu w).drew;have sA:=((((fu w).alloc #[.pointer v0] 39).drew).st (λb=>sr.row=some b));have d4:=hY (show Blk (w.alloc (.cells #[.pointer v0] 39)).drew w.heap.size 39 #[.pointer v0]from fx w 39 _);go_region_held3 (λW=>W.cell? ⟨L,m,none⟩=some (.pointer v0)) (first |(with_reducible exact U.o _ s0) |(with_reducible exact U.o _ (s0.alloc _ _)) |(with_reducible exact U.o _ s1) |(with_reducible exact U.o _ (s1.alloc _ _)) |(with_reducible exact U.o _ s2) |(with_reducible exact U.o _ b6) |(with_reducible exact U.o _ sA)|go_keep)
  (first
    |(go_at_call_of 64 (Value.slice (some ⟨L,0,none⟩) m z);refine(c8.o _ (by first|exact s0|exact s0.alloc _ _)).mono ?_;rintro e w1 ⟨a1,rfl,c0,b7,Y⟩;have s1:=(show St (λb=>sr.row=some b) w _ from by first|exact s0|exact s0.alloc _ _).ext Y;have e1:=(show Ext w _ from by first|exact e0|exact e0.alloc _ _).trans Y;have d0:=hY b7;clear b7)
    |(go_at_call 107;refine(HI.o _ _ (by first |(with_reducible exact e1)|exact e1.alloc _ _) (by first|exact(fx _ _ _)|exact Blk.ext d4.o Y) (by first|exact e1.size|exact an _)).mono ?_;rintro e w2 ⟨s3,rfl,a6,J,c2⟩;have c7:=(show St (QdD ⟨some ⟨L,0,none⟩,z⟩ sr) w1 w2 from by first|exact(J.st λi hi=>.inr hi)|exact(((fu w1).alloc _ _).st _).trans (J.st λi hi=>.inr hi));have s2:=s1.trans (show St (λb=>sr.row=some b) w1 w2 from by first|exact(J.st λi hi=>hi)|exact(((fu w1).alloc _ _).st _).trans (J.st λi hi=>hi));have d5:=hY a6;clear a6 J c2)
    |(go_at_call 64;refine(c4.o w2 s3 (s2.mono λi _ hi=>.inr hi) ?_).mono ?_;(have h:=fE d5.o;simp only[Nat.zero_mul,List.take_zero,List.nil_append,List.drop_zero]at h;rw[<-HL.o]at h;exact h.mono λi hi=>hi.2);rintro e w3 ⟨a2,rfl,c6,a0,a7⟩;have b6:=s2.ext a7;have b8:=hY a0;clear a0))
 all_goals
  go_wp2_with fail;go_ret2;have e4:=s1.size;have c1:=s2.size;refine⟨a1,a2,rfl,?_,aj c1 c6,c3.o a1 w1 w3 (s1.mono λi _ hi=>.inr hi) d0.o (c7.ext a7),b8.o,b6.mono λi _ hi=>.inr hi⟩;simp only[World.size_alloc,World.size_drew]at c0;omega
end
theorem Qtn{rs:List Value}(D:rs.length=n*1)(J:0<n)(z:∀u∈rs,∃p,u=Value.pointer p):∃v0:Option Addr,rs.take 1=[.pointer v0]:=by
 have h:(rs.take 1).length=1:=by rw[ap,D];omega
 match hd:rs.take 1,h with
 |[x],_=>obtain⟨p,I⟩:=z x (aM (by rw[hd];exact br.2 rfl));exact⟨p,by rw[I]⟩
section
variable{w : World}{base nl m : Nat}{sl sr : Sl}{ls rs : List Value}{P1 P2 : Nat -> World -> Prop}
theorem Qk2(hL:w.ownsRow base 39 1 (.slice sl.a nl sl.c) nl ls)(hR:w.ownsRow base 39 1 (.slice sr.a (m+1) sr.c) (m+1) rs)(hb:base<=w.heap.size)(b0:∀b,sl.row=some b->sr.row≠some b)
  (a8:∀u∈ls,u.oneCell'=true) (b4:∀u∈rs,u.oneCell'=true) (e4:∀u∈rs,∃p,u=Value.pointer p) (h4:nl<=4) (h5:4<m+1) (h8:m+1<=8)
  (b3:∀(W:World) (s:Sl),St (QdD sl sr) w W->Rd W (Lt W) 1 s (nl+1) (ls++rs.take 1)->Calls prog 64 #[.slice s.a (nl+1) s.c] W (Qfx P1 W))
  (a3:∀(W:World) (s:Sl),St (QdD sl sr) w W->Rd W (Lt W) 1 s m (rs.drop 1)->Calls prog 64 #[.slice s.a m s.c] W (Qfx P2 W))
  (a9:∀a W W',St (QdD sl sr) w W->P1 a W->St (QdD sl sr) W W'->P1 a W') :
  Calls prog 191 #[.slice sl.a nl sl.c,.slice sr.a (m+1) sr.c,.func (.func 64) #[] #[]] w λe w'=>∃a b,e=.returned (.tuple #[.pointer (some ⟨a,0,none⟩),.pointer (some ⟨b,0,none⟩)])/\w<=a/\w<=b/\P1 a w'/\P2 b w'/\St (QdD sl sr) w w':=by
 obtain⟨i0,hi,c3,d4,d3⟩:=eG Tryz.QbQ;obtain⟨v0,z⟩:=Qtn hR.1 (by omega) e4;obtain⟨I,D,rfl,f5,f0,Z,L⟩:=Qa2 hR (by omega);have c6:I<w:=L.lt;have N:∀b,sl.row=some b->b≠I:=λb hb e=>b0 b hb (by simp[Sl.row,e])
 have Y:Rd w (λb=>b=I) 1 ⟨some ⟨I,0,none⟩,D⟩ (m+1) rs:=by
  obtain⟨b,o,h1,h2,h3⟩:=fE hR;obtain⟨e1,d8,e2⟩:=h1.eq (by omega);obtain⟨rfl,rfl⟩:I=b/\0=o:=by simpa using e1
  exact⟨I,0,.some _ _ _ _ d8 e2 rfl,h2,h3⟩
 have a5:∀W,St (λb=>sl.row=some b) w W->∀j u,rs[j]? = some u->W.cell? ⟨I,j,none⟩=some u:=λW R j u hj=>by
  obtain⟨b,o,h1,h2,h3⟩:=fE hR;obtain⟨e1,-,-⟩:=h1.eq (by omega);obtain⟨rfl,rfl⟩:I=b/\0=o:=by simpa using e1
  have:=h3 j u hj;rw[aB]at this;exact(R.cell c6 (λe=>N I e rfl)).trans this
 have a7:∀(c:Nat) (u:Value),([.pointer v0]:List Value)[c]? = some u->rs[c]? = some u:=λc u hu=>by
  rw[<-z,bg]at hu;split at hu
  .exact hu
  cases hu
 have hS:∀W,St (λb=>sl.row=some b) w W->W.cell? ⟨I,0,none⟩=some (.pointer v0):=λW R=>a5 W R _ _ (a7 0 _ rfl)
 have f6:¬(4:Int)<(nl:Int):=by omega
 have f7:(4:Int)<(m:Int)+1:=by omega
 have f8:(0:Int)<(m:Int)+1:=by omega
 have f9:(1:Int)<=(m:Int)+1:=by omega
 have f2:¬D=1:=by omega
 have f3:IntKind.i64.wrap ((m:Int)+1)=(m:Int)+1:=by rw[ey];omega
 have f1:(D:Int)<=9223372036854775807:=by unfold maxLen at Z;omega
 have g0:(m:Int)+1<=(D:Int):=by omega
 have e6:nl+1<=maxLen:=by unfold maxLen;omega
 have e3:(nl+1)*8<=140737488355328:=by omega
 have U:∀W,Ext w W->W.ownsRow base 39 1 (.slice sl.a nl sl.c) nl ls:=λW R=>Qk0 hL (R.st (λ_=>False)) (λ_ _ h=>h)
 have a4:∀W,St (λb=>sl.row=some b) w W->Calls prog 64 #[.slice (some ⟨I,1,none⟩) m (D-1)] W (Qfx P2 W):=λW R=>by
  refine a3 W ⟨some ⟨I,1,none⟩,D-1⟩ (R.mono λi _ hi=>.inl hi) ?_;have h:=((Y.agree (R.agree.mono λi (hi:i=I)=>⟨by omega,λe=>N i e hi⟩)).drop (m:=1) (by omega)).mono (G:=Lt W) λi (hi:i=I)=>by have:=R.size;show i<_;omega
  simpa using h
 have X:=hY hS;have d6:=hY b3;have c8:=hY a4;have c7:=hY a9;have HF:=hY z;have b6:=hY U;have f4:=hY a8;have c2:Yd (∀u∈([.pointer v0]:List Value),u.oneCell'=true):=hY λu hu=>b4 u (aM (z▸hu))
 clear hS a4 b3 a3 a9 z a5 a7 a8 b4 hL hR L b0 N U Y;go_in;go_wp2_with fail;have s0:=(St.refl (λb=>sl.row=some b) w).drew;have e0:=(fu w).drew;have sA:=((((fu w).alloc #[.pointer v0] 39).drew).st (λb=>sl.row=some b));have k0:=X.o _ s0;have e7:=hY (show Blk (w.alloc (.cells #[.pointer v0] 39)).drew w.heap.size 39 #[.pointer v0]from fx w 39 _);go_region_held3 (λW=>W.cell? ⟨I,0,none⟩=some (.pointer v0)) (first |(with_reducible exact X.o _ s0) |(with_reducible exact X.o _ sA) |(with_reducible exact X.o _ s1) |(with_reducible exact X.o _ s2) |(with_reducible exact X.o _ s3)|go_keep)
  (first
    |(refine Qdp _ rfl (.tmp 35) (.tmp 39) 114 rfl base 39 i0 _ 1 8 underlying114 hi c3 d4 d3 rfl (by decide) sl nl ls (by rfl) (b6.o _ (((fu w).alloc _ _).drew)) (λb=>b=w.heap.size) ⟨some ⟨w,0,none⟩,1⟩ 1 [.pointer v0] (by rfl) (fG e7.o (by decide) rfl) c2.o e6 e3 (by rw[ff,ew];omega) ?_;intro sx w1 J b5 e8;have s1:=sA.trans (b5.st λi hi=>hi);have d0:=hY J;clear J e8)
    |(go_at_call 64;refine(c8.o w2 s2).mono ?_;rintro e w3 ⟨a2,rfl,d5,a0,a6⟩;have s3:=s2.ext a6;have b8:=hY a0;clear a0)
    |(go_at_call 64;refine(d6.o w1 sx (s1.mono λi _ hi=>.inl hi) ?_).mono ?_;(have h:=fE d0.o;rw[<-HF.o]at h;exact h.mono λi hi=>hi.2);rintro e w2 ⟨a1,rfl,c0,b7,c4⟩;have s2:=s1.ext c4;have d7:=hY b7;clear b7))
 all_goals
  go_wp2_with fail;go_ret2;have c9:=s1.size;have c1:=s2.size;exact⟨a1,a2,rfl,aj c9 c0,aj c1 d5,c7.o a1 w2 w3 (s2.mono λi _ hi=>.inl hi) d7.o (a6.st _),b8.o,s3.mono λi _ hi=>.inl hi⟩
theorem Qm9{nr:Nat}(hL:w.ownsRow base 39 1 (.slice sl.a nl sl.c) nl ls)(hR:w.ownsRow base 39 1 (.slice sr.a nr sr.c) nr rs)(hb:base<=w.heap.size)
  (J:∀u∈rs,u.oneCell'=true) (h4:nl<=4) (r4:nr<=4)
  (I:∀(W:World) (s:Sl),St (QdD sl sr) w W->Rd W (Lt W) 1 s (nl+nr) (ls++rs)->Calls prog 64 #[.slice s.a (nl+nr) s.c] W (Qfx P1 W)) :
  Calls prog 191 #[.slice sl.a nl sl.c,.slice sr.a nr sr.c,.func (.func 64) #[] #[]] w λe w'=>∃a,e=.returned (.tuple #[.pointer (some ⟨a,0,none⟩),.pointer none])/\w<=a/\P1 a w'/\St (QdD sl sr) w w':=by
 obtain⟨i0,hi,R,a0,Z⟩:=eG Tryz.QbQ;have a5:¬(4:Int)<(nl:Int):=by omega
 have a4:¬(4:Int)<(nr:Int):=by omega
 have Y:nl+nr<=maxLen:=by unfold maxLen;omega
 have X:(nl+nr)*8<=140737488355328:=by omega
 have a3:=hY I;have HR:=hY (fE hR);have HL:=hY hL;have H1:=hY J;clear I hR hL J;go_in;go_wp2_with(at_builtin;refine Qac _ rfl (.tmp 47) (.tmp 48) 114 rfl base 39 i0 _ 1 8 underlying114 hi R a0 Z rfl (by decide) sl nl ls rfl HL.o (In base w.heap.size) sr nr rs rfl HR.o H1.o Y X hb ?_;intro sx w1 z D a2);have s1:St (λb=>sl.row=some b) w w1:=D.st λi hi=>hi
 refine(a3.o w1 sx (s1.mono λi _ hi=>.inl hi) ((fE z).mono λi hi=>hi.2)).mono ?_;rintro e w2 ⟨a1,rfl,N,L,U⟩;have HP:=hY L;clear L z D a2;go_wp2_with fail;go_ret2;exact⟨a1,rfl,aj s1.size N,HP.o,(s1.ext U).mono λi _ hi=>.inl hi⟩
end
def Qf7(F:Nat->Prop)(h:Nat)(l r:PT h)(w:World)(e:Ending)(w':World):Prop:=
 ∃ts:List (PT h),e=two h ts/\Qew w.heap.size h l r ts/\(∀u∈ts,IsN w' (Up F w w') h u)
variable{xs:List LE}
theorem QtP(z:n=xs.length)(D:Rd w F 7 s n (Qai xs))(I:Qmw w F xs)(J:xs.length<=1000):ES w F s xs:=by
 subst z;exact⟨D,I,by omega⟩
theorem QiE{α:Type}{P:α->Prop}{x y:α}(D:P x)(z:P y):∀u∈[x,y],P u:=λu hu=>by
 rcases aF.1 hu with rfl|hu
 .exact D
 obtain rfl:=br.1 hu;exact z
theorem QiC{α:Type}{P:α->Prop}{x:α}(z:P x):∀u∈[x],P u:=λu hu=>by
 obtain rfl:=br.1 hu;exact z
theorem QjG(D:St G w W)(Z:∀b,G b->b<w)(L:n=xs.length)(U:xs.length<=8)(N:Rd W (Lt W) 7 s n (Qai xs))(R:Qmw w (NH G w) xs)(z:QbH xs) :
  Calls prog 106 #[.slice s.a n s.c] W (Qfw (λa W'=>w<=a/\IsN W' (λb=>w<=b/\b<W') 0 (a,xs.map LE.ent)) W):=by
 have I:ES W (Lt W) s xs:=QtP L N ((R.agree D.agree).mono λi hi=>ab hi.1 D.size) (by omega);refine(QdZ I L z U).mono ?_;rintro e w' ⟨t,rfl,h1,h2,J,X⟩;refine⟨addr 0 t,rfl,h2,⟨Nat.le_trans D.size h2,?_⟩,X⟩;have Y:t=(t.1,xs.map LE.ent):=by rw[<-h1];rfl
 rw[Y]at J;exact J.mono λi hi=>⟨Nat.le_trans D.size hi.1,hi.2⟩
variable{W':World}{h:Nat}
theorem QlP(D:∀b,G b->b<w){t:PT h}(z:IsN W (λb=>w<=b/\b<W) h t)(hs:St G W W'):IsN W' (λb=>w<=b/\b<W') h t:=
 (z.agree (hs.agree.mono λi hi=>⟨hi.2,λI=>by have:=D i I;omega⟩)).mono λi hi=>⟨hi.1,ab hi.2 hs.size⟩
variable{ys:List LE}
theorem QjQ{base:Nat}{sl sr:Sl}(hL:OE w base sl xs)(hR:OE w base sr ys)(U:base<=w.heap.size)(Z:∀b,sl.row=some b->sr.row≠some b)
  (L:Qmw w (NH (QdC sl sr) w) xs) (J:Qmw w (NH (QdC sl sr) w) ys) (z:QbH (xs++ys)) (x8:xs.length<=8) (y8:ys.length<=8) (D:xs.length+ys.length<=11) {l r:PT 0} (el:xs.map LE.ent=l.2) (er:ys.map LE.ent=r.2) :
  Calls prog 190 #[.slice sl.a xs.length sl.c,.slice sr.a ys.length sr.c,.func (.func 106) #[] #[]] w λe w'=>Qf7 (λ_=>False) 0 l r w e w'/\St (QdC sl sr) w w':=by
 have X:∀b,QdC sl sr b->b<w:=λb U=>U.elim (λh=>(Qaa hL.own h).2) (λh=>(Qaa hR.own h).2)
 have QfO:∀(w':World) (a b:Nat) (zs R:List LE),(w<=a/\IsN w' (λb=>w<=b/\b<w') 0 (a,zs.map LE.ent))->(w<=b/\IsN w' (λb=>w<=b/\b<w') 0 (b,R.map LE.ent))->
   QcR l.2 r.2=[zs.map LE.ent,R.map LE.ent]->Qf7 (λ_=>False) 0 l r w (.returned (.tuple #[.pointer (some ⟨a,0,none⟩),.pointer (some ⟨b,0,none⟩)])) w':=λw' a b zs R ha U hp=>by
  refine⟨[((a,zs.map LE.ent):PT 0),((b,R.map LE.ent):PT 0)],rfl,⟨hp.symm,QiE (α:=PT 0) ha.1 U.1⟩,QiE (α:=PT 0) (ha.2.mono λi hi=>.inr hi) (U.2.mono λi hi=>.inr hi)⟩
 have e1:l.2.length=xs.length:=by rw[<-el,aq]
 have e2:r.2.length=ys.length:=by rw[<-er,aq]
 by_cases h4:4<xs.length
 ·obtain ⟨m,hm⟩:∃ m,xs.length=m+1:=⟨xs.length - 1,by omega⟩
  have Y:(Qai xs).take (m*7)=Qai (xs.take m):=Qc1 xs m;have t2:(Qai xs).drop (m*7)++Qai ys=Qai (xs.drop m++ys):=by rw[Qc0,QaA]
  have a0:=hL.own;rw[hm]at a0 ⊢;refine(Qm8 (P1:=λa W'=>w<=a/\IsN W' (λb=>w<=b/\b<W') 0 (a,(xs.take m).map LE.ent)) (P2:=λa W'=>w<=a/\IsN W' (λb=>w<=b/\b<W') 0 (a,(xs.drop m++ys).map LE.ent))
   a0 hR.own U Z (QaM xs) (QaM ys) trivial (by omega) (by omega) y8 (λW s N I=>?_) (λW s N I=>?_) (λa W W' _ h hs=>⟨h.1,QlP X h.2 hs⟩)).mono ?_
  ·rw [Y] at I
   exact QjG N X (by rw[ap];omega) (by rw[ap];omega) I (λx D=>L x (aM D)) (by have:=z.take m;rwa[aW (by omega)]at this)
  ·rw [t2] at I
   exact QjG N X (by rw[ai,au];omega) (by rw[ai,au];omega) I (λx D=>by
    rcases aE.1 D with D|D
    .exact L x (aC D)
    exact J x D) (by have:=z.drop m;rwa[List.drop_append_of_le_length (by omega)]at this)
  rintro e w' ⟨a,b,rfl,-,-,h1,h2,hs⟩;refine⟨QfO w' a b _ _ h1 h2 ?_,hs⟩;rw[QcR,em (by omega),<-el,<-er,aR,cT,cH,aq,hm];rfl
 by_cases h5:4<ys.length
 ·obtain ⟨m,hm⟩:∃ m,ys.length=m+1:=⟨ys.length - 1,by omega⟩
  have Y:Qai xs++(Qai ys).take 7=Qai (xs++ys.take 1):=by rw[QaA,<-Qc1]
  have t2:(Qai ys).drop 7=Qai (ys.drop 1):=by rw[<-Qc0]
  have a1:=hR.own;rw[hm]at a1 ⊢;refine(Qk1 (P1:=λa W'=>w<=a/\IsN W' (λb=>w<=b/\b<W') 0 (a,(xs++ys.take 1).map LE.ent)) (P2:=λa W'=>w<=a/\IsN W' (λb=>w<=b/\b<W') 0 (a,(ys.drop 1).map LE.ent))
   hL.own a1 U Z (QaM xs) (QaM ys) trivial (by omega) (by omega) (by omega) (λW s N I=>?_) (λW s N I=>?_) (λa W W' _ h hs=>⟨h.1,QlP X h.2 hs⟩)).mono ?_
  ·rw [Y] at I
   exact QjG N X (by rw[ai,ap];omega) (by rw[ai,ap];omega) I (λx D=>by
    rcases aE.1 D with D|D
    .exact L x D
    exact J x (aM D)) (by have:=z.take (xs.length+1);rwa[List.take_length_add_append]at this)
  ·rw [t2] at I
   exact QjG N X (by rw[au];omega) (by rw[au];omega) I (λx D=>J x (aC D)) (by have:=z.drop (xs.length+1);rwa[cW]at this)
  rintro e w' ⟨a,b,rfl,-,-,h1,h2,hs⟩;refine⟨QfO w' a b _ _ h1 h2 ?_,hs⟩;rw[QcR,ef (by omega),em (by omega),<-el,<-er,aR,cT,cH]
 have Y:Qai xs++Qai ys=Qai (xs++ys):=by rw[QaA]
 refine(Qm7 (P1:=λa W'=>w<=a/\IsN W' (λb=>w<=b/\b<W') 0 (a,(xs++ys).map LE.ent)) hL.own hR.own U (QaM ys) (by omega) (by omega) (λW s N I=>?_)).mono ?_
 ·rw [Y] at I
  exact QjG N X (by rw[ai]) (by rw[ai];omega) I (λx D=>by
   rcases aE.1 D with D|D
   .exact L x D
   exact J x D) z
 rintro e w' ⟨a,rfl,-,h1,hs⟩;refine⟨⟨[((a,(xs++ys).map LE.ent):PT 0)],rfl,⟨?_,QiC (α:=PT 0) h1.1⟩,QiC (α:=PT 0) (h1.2.mono λi hi=>.inr hi)⟩,hs⟩;show[(xs++ys).map LE.ent]=_;rw[QcR,ef (by omega),ef (by omega),<-el,<-er,aR]
theorem Qjz(D:∀b,G b->b<w)(hF:∀b,F b->b<w/\¬G b)(I:w.heap.size<=W.heap.size){t:PT h}(z:IsN W (Up F w W) h t)(hs:St G W W'):IsN W' (Up F w W') h t:=
 (z.agree (hs.agree.mono λi hi=>hi.elim (λh=>⟨Nat.lt_of_lt_of_le (hF i h).1 I,(hF i h).2⟩) λh=>⟨h.2,λJ=>by have:=D i J;omega⟩)).mono λi hi=>hi.imp_right λh=>⟨h.1,ab h.2 hs.size⟩
theorem QgM{ks:List (PT h)}(D:St G w W)(hF:∀b,F b->¬G b)(R:n=ks.length)(h2:2<=ks.length)(N:ks.length<=8)(L:Rd W (Lt W) 1 s n (ptrs h ks))(z:Kids w F h ks) :
  Calls prog 64 #[.slice s.a n s.c] W (Qfx (λa W'=>w<=a/\IsN W' (Up F w W') (h+1) (a,ks)) W):=by
 subst R;have I:Kids W F h ks:=⟨λb Z=>ab (z.lt b Z) D.size,λx Y=>(z.isn x Y).agree (D.agree.mono λi hi=>⟨z.lt i hi,hF i hi⟩),z.rise,z.pos,z.sz,z.cn,z.hh⟩;refine(Qct L rfl I h2 N).mono ?_;rintro e w' ⟨t,rfl,h1,h2,J,U⟩;refine⟨addr (h+1) t,rfl,h2,⟨Nat.le_trans D.size h2,?_⟩,U⟩;have X:t=(t.1,ks):=by subst h1;rfl
 rw[X]at J;exact J.mono λi hi=>hi.imp_right λh=>⟨Nat.le_trans D.size h.1,h.2⟩
theorem Ql5(h:Nat)(ks:List (PT h)):∀u∈ptrs h ks,∃p,u=Value.pointer p:=λu hu=>by
 obtain⟨k,-,rfl⟩:=bM.1 hu;exact⟨_,rfl⟩
theorem Qdl(h:Nat)(a b:List (PT h)):ptrs h (a++b)=ptrs h a++ptrs h b:=by simp[ptrs]
theorem Qc5(h:Nat)(a:List (PT h))(i:Nat):ptrs h (a.drop i)=(ptrs h a).drop i:=by simp[ptrs,List.map_drop]
theorem QjS{base h:Nat}{sl sr:Sl}{l r:PT (h+1)}(Z:w.ownsRow base 39 1 (.slice sl.a l.2.length sl.c) l.2.length (ptrs h l.2))(hR:w.ownsRow base 39 1 (.slice sr.a r.2.length sr.c) r.2.length (ptrs h r.2))(D:base<=w.heap.size)(R:∀b,sl.row=some b->sr.row≠some b)
  (hF:∀b,F b->¬QdD sl sr b) (L:Kids w F h (l.2++r.2)) (l2:3<=l.2.length) (r2:3<=r.2.length) (l8:l.2.length<=8) (r8:r.2.length<=8) (hx:l.2.length+r.2.length<=11) :
  Calls prog 191 #[.slice sl.a l.2.length sl.c,.slice sr.a r.2.length sr.c,.func (.func 64) #[] #[]] w λe w'=>Qf7 F (h+1) l r w e w'/\St (QdD sl sr) w w':=by
 have hG:∀b,QdD sl sr b->b<w:=λb D=>D.elim (λh=>(Qaa Z h).2) (λh=>(Qaa hR h).2)
 have Y:∀b,F b->b<w/\¬QdD sl sr b:=λb D=>⟨L.lt b D,hF b D⟩
 have QfO:∀(w':World) (a b:Nat) (zs J:List (PT h)),(w<=a/\IsN w' (Up F w w') (h+1) (a,zs))->(w<=b/\IsN w' (Up F w w') (h+1) (b,J))->
   QcR l.2 r.2=[zs,J]->Qf7 F (h+1) l r w (.returned (.tuple #[.pointer (some ⟨a,0,none⟩),.pointer (some ⟨b,0,none⟩)])) w':=λw' a b zs J ha D hp=>by
  refine⟨[((a,zs):PT (h+1)),((b,J):PT (h+1))],rfl,⟨hp.symm,QiE (α:=PT (h+1)) ha.1 D.1⟩,QiE (α:=PT (h+1)) ha.2 D.2⟩
 by_cases h4:4<l.2.length
 ·obtain ⟨m,hm⟩:∃ m,l.2.length=m+1:=⟨l.2.length - 1,by omega⟩
  have N:(ptrs h l.2).take (m*1)=ptrs h (l.2.take m):=by rw[b9,QcC]
  have t2:(ptrs h l.2).drop (m*1)++ptrs h r.2=ptrs h (l.2.drop m++r.2):=by rw[Qdl,Qc5,b9]
  have U:=Z;rw[hm]at U ⊢;refine(Qna (P1:=λa W'=>w<=a/\IsN W' (Up F w W') (h+1) (a,l.2.take m)) (P2:=λa W'=>w<=a/\IsN W' (Up F w W') (h+1) (a,l.2.drop m++r.2))
   U hR D R (QbT h l.2) (QbT h r.2) (Ql5 h l.2) (by omega) (by omega) r8 (λW s I z=>?_) (λW s I z=>?_) (λa W W' hw h hs=>⟨h.1,Qjz hG Y hw.size h.2 hs⟩)).mono ?_
  ·rw [N] at z
   exact QgM I hF (by rw[ap];omega) (by rw[ap];omega) (by rw[ap];omega) z (by have:=L.take m;rwa[aW (by omega)]at this)
  ·rw [t2] at z
   exact QgM I hF (by rw[ai,au];omega) (by rw[ai,au];omega) (by rw[ai,au];omega) z (by have:=L.drop m;rwa[List.drop_append_of_le_length (by omega)]at this)
  rintro e w' ⟨a,b,rfl,-,-,h1,h2,hs⟩;refine⟨QfO w' a b _ _ h1 h2 ?_,hs⟩;rw[QcR,em (by omega),hm];rfl
 by_cases h5:4<r.2.length
 ·obtain ⟨m,hm⟩:∃ m,r.2.length=m+1:=⟨r.2.length - 1,by omega⟩
  have N:ptrs h l.2++(ptrs h r.2).take 1=ptrs h (l.2++r.2.take 1):=by rw[Qdl,QcC]
  have t2:(ptrs h r.2).drop 1=ptrs h (r.2.drop 1):=by rw[Qc5]
  have X:=hR;rw[hm]at X ⊢;refine(Qk2 (P1:=λa W'=>w<=a/\IsN W' (Up F w W') (h+1) (a,l.2++r.2.take 1)) (P2:=λa W'=>w<=a/\IsN W' (Up F w W') (h+1) (a,r.2.drop 1))
   Z X D R (QbT h l.2) (QbT h r.2) (Ql5 h r.2) (by omega) (by omega) (by omega) (λW s I z=>?_) (λW s I z=>?_) (λa W W' hw h hs=>⟨h.1,Qjz hG Y hw.size h.2 hs⟩)).mono ?_
  ·rw [N] at z
   exact QgM I hF (by rw[ai,ap];omega) (by rw[ai,ap];omega) (by rw[ai,ap];omega) z (by have:=L.take (l.2.length+1);rwa[List.take_length_add_append]at this)
  ·rw [t2] at z
   exact QgM I hF (by rw[au];omega) (by rw[au];omega) (by rw[au];omega) z (by have:=L.drop (l.2.length+1);rwa[cW]at this)
  rintro e w' ⟨a,b,rfl,-,-,h1,h2,hs⟩;refine⟨QfO w' a b _ _ h1 h2 ?_,hs⟩;rw[QcR,ef (by omega),em (by omega)]
 have N:ptrs h l.2++ptrs h r.2=ptrs h (l.2++r.2):=by rw[Qdl]
 refine(Qm9 (P1:=λa W'=>w<=a/\IsN W' (Up F w W') (h+1) (a,l.2++r.2)) Z hR D (QbT h r.2) (by omega) (by omega) (λW s I z=>?_)).mono ?_
 ·rw [N] at z
  exact QgM I hF (by rw[ai]) (by rw[ai];omega) (by rw[ai];omega) z L
 rintro e w' ⟨a,rfl,-,h1,hs⟩;refine⟨⟨[((a,l.2++r.2):PT (h+1))],rfl,⟨?_,QiC (α:=PT (h+1)) h1.1⟩,QiC (α:=PT (h+1)) h1.2⟩,hs⟩;show[l.2++r.2]=_;rw[QcR,ef (by omega),ef (by omega)]
def Qbk(F:Nat->Prop)(base h:Nat)(s:Sl)(ks:List (PT h))(i:Nat)(w:World)(e:Ending)(w':World):Prop:=
 ∃(s':Sl) (ks':List (PT h)),e=.returned (.slice s'.a ks'.length s'.c)/\w'.ownsRow base 39 1 (.slice s'.a ks'.length s'.c) ks'.length (ptrs h ks')/\QrN w.heap.size h ks i ks'/\(∀u∈ks',IsN w' (Up F w w') h u)/\St (λb=>s.row=some b) w w'
structure QiX(w:World)(F:Nat->Prop)(base h:Nat)(s:Sl)(ks:List (PT h))(i:Nat)(l r:PT h):Prop where
 own:w.ownsRow base 39 1 (.slice s.a ks.length s.c) ks.length (ptrs h ks)
 base:base<=w.heap.size
 lt:∀b,F b->b<w.heap.size/\s.row≠some b
 isn:∀k∈ks,IsN w F h k
 ok:∀k∈ks,OkT h k/\3<=size h k
 hl:ks[i-1]? = some l
 hr:ks[i-1+1]? = some r
 sum:size h l+size h r<=11
 sorted:Sorted (ks.flatMap (ents h))
 few:(ks.flatMap (ents h)).length<=1000000
 n8:ks.length<=8
 hh:h<=1000000
variable{j:Nat}
theorem Qeh{ks:List (PT h)}{l r:PT h}(hs:Sorted (ks.flatMap (ents h)))(z:ks[j]? = some l)(D:ks[j+1]? = some r):Sorted (ents h l++ents h r):=by
 rw[QiO z D]at hs;simp only[List.flatMap_append,List.flatMap_cons]at hs;have h2:=(Qcs hs).2.1;rw[<-aO]at h2;exact(Qcs h2).1
theorem Qp9{ks:List (PT h)}{l r:PT h}(z:ks[j]? = some l)(D:ks[j+1]? = some r):(ents h l).length+(ents h r).length<=(ks.flatMap (ents h)).length:=by
 conv=>rhs;rw[QiO z D]
 simp only[List.flatMap_append,List.flatMap_cons,List.length_append];omega
theorem Qe5{α:Type}{ks:List α}{l r:α}(D:ks[j]? = some l)(z:ks[j+1]? = some r)(a b:α):(ks.set j a).set (j+1) b=ks.take j++[a,b]++ks.drop (j+2):=by
 have h1:=(ah.1 D).1;have h2:=(ah.1 z).1
 conv=>lhs;rw[QiO D z]
 rw[dz _ _ (by rw[ap];omega),ap,bz (by omega),dg,ak,dz _ _ (by rw[ap];omega),ap,bz (by omega),show j+1-j=1 from by omega];simp
theorem Qd9{α:Type}{ks:List α}{l r:α}(D:ks[j]? = some l)(J:ks[j+1]? = some r)(a:α):(ks.set j a).take (j+1)++(ks.set j a).drop (j+2)=ks.take j++[a]++ks.drop (j+2):=by
 have h1:=(ah.1 D).1;rw[bS,em h1];have z:(ks.take j++[a]).length=j+1:=by simp;omega
 have I:ks.take j++a::ks.drop (j+1)=(ks.take j++[a])++ks.drop (j+1):=by simp
 rw[I,aW (by omega),bj (by omega),show j+2=(ks.take j++[a]).length+1 from by omega,cW,dY,z]
theorem QiI{A B e size n:Nat}{v:Value}{xs:List Value}(h:w.ownsRow B e size v n xs)(D:A<=B):w.ownsRow A e size v n xs:=by
 refine⟨h.1,?_⟩;rcases h.2 with N |⟨g,I,z,L,J,r⟩
 .exact .inl N
 exact .inr ⟨g,I,z,L,aj D J,r⟩
variable{A B:Nat}
theorem OE.base(h:OE w B s xs)(z:A<=B):OE w A s xs:=⟨QiI h.own z,h.vals.mono λi hi=>⟨⟨Nat.le_trans z hi.1.1,hi.1.2⟩,hi.2⟩,h.few⟩
theorem Qm2{base:Nat}{ks:List (PT (0))}{l r:PT (0)}(hm:QiX w F base (0) s ks (0) l r) :
  Calls prog 135 #[.slice s.a ks.length s.c,.int .i64 0] w (Qbk F base (0) s ks (0) w):=by
 have hj:1<ks.length:=(ah.1 hm.hr).1;obtain⟨g,I,rfl,i4,i5,i6,a1⟩:=Qa2 hm.own (by omega);have D:=hm.own;have U:=hY hm;have a8:ks[0]? = some l:=hm.hl;have a9:ks[1]? = some r:=hm.hr;have cc:∀q u,(ptrs (0) ks)[q]? = some u->w.cell? ⟨g,q,none⟩=some u:=λq u hq=>by
  have:=D.cells (g:=g) rfl q u hq;rwa[Qbu,aB]at this
 have cl:w.cell? ⟨g,0,none⟩=some (ptr (0) l):=cc 0 _ (by rw[ptrs,ao,a8];rfl);have cr:w.cell? ⟨g,1,none⟩=some (ptr (0) r):=cc (1) _ (by rw[ptrs,ao,a9];rfl);have e6:=al a8;have g3:=al a9;have g7:=a1.lt;have i8:=hm.n8;have i2:(0:Int)<(ks.length:Int):=by omega
 have i7:(1:Int)<(ks.length:Int):=by omega
 have hz:True:=trivial;have i0:=hY (λW (hW:Agree F w W)=>QaO ((hm.isn l e6).agree hW));have N:=hY a8;have J:=hY a9;have g0:=hY a1.frozen;clear D cc a1 hm a8 a9 e6 g3;go_in;go_wp2_with fail;go_quiet (fail);go_wp2_with fail;have Y:Ext w (w.drewN nq):=(fu w).drewN nq;refine(i0.o _ (fH w nq)).mono ?_;rintro e w0 ⟨rfl,rfl⟩;generalize w.drewN nq=W at *;clear cl cr;have c1:=Qbh (w:=W) ((((U.o.isn l (al N.o)).agree (Y.agree λb z=>(U.o.lt b z).1))).mono λb z=>ab (U.o.lt b z).1 Y.size);have c4:∀W',Ext W W'->Calls prog 101 #[ptr 0 r] W' (QaQ (ents 0 r) W'):=λW' d5=>Qbh ((((U.o.isn r (al J.o)).agree ((Y.trans d5).agree λb z=>(U.o.lt b z).1))).mono λb z=>ab (U.o.lt b z).1 (Y.trans d5).size)
 have g5:=hY c4;have f8:=hY Y;clear c4 Y;go_wp2_with fail;refine c1.mono ?_;intro e w1 hp;obtain⟨sx,xs,rfl,f4,f6,c8⟩:=hp;have b7:=hY f4;have b5:=hY f6;have f7:=hY c8;have e4:=g5.o w1 c8;clear c1 f4 f6 c8;go_wp2_with fail;refine e4.mono ?_;intro e w2 hp;obtain⟨sy,ys,rfl,a4,a0,a3⟩:=hp;have b6:∀b,sx.row=some b->W.heap.size<=b/\b<w1.heap.size:=λb z=>Qaa b5.o.own z
 have b4:∀b,sy.row=some b->w1.heap.size<=b/\b<w2.heap.size:=λb z=>Qaa a0.own z
 have e7:=f7.o.size;have d8:=a3.size;have c6:=b5.o.ext a3;have c2:OE w2 W.heap.size sy ys:=a0.base e7
 have f0:xs.length≤8:=by have:=(U.o.ok l (al N.o)).1;have e1:xs.length=l.2.length:=by rw [show l.2=ents 0 l from rfl,←b7.o,aq]
                         rw[e1];exact this
 have f1:ys.length≤8:=by have:=(U.o.ok r (al J.o)).1;have e1:ys.length=r.2.length:=by rw [show r.2=ents 0 r from rfl,←a4,aq]
                         rw[e1];exact this
 have c3:xs.length+ys.length<=11:=by
  have e1:xs.length=size 0 l:=by rw[show size 0 l=(ents 0 l).length from rfl,<-b7.o,aq]
  have e2:ys.length=size 0 r:=by rw[show size 0 r=(ents 0 r).length from rfl,<-a4,aq]
  rw[e1,e2];exact U.o.sum
 have a7:QbH (xs++ys):=Qc8 (by rw[aR,b7.o,a4];exact Qeh U.o.sorted N.o J.o);have d6:=QjQ c6 c2 (aj e7 d8) (λb z g4=>by have:=b6 b z;have:=b4 b g4;omega)
  (λx hx=>⟨((b5.o.vals x hx).1.agree (a3.agree λb z=>z.1.2)).mono λb z=>⟨Nat.lt_of_lt_of_le z.1.2 d8,λh=>h.elim (λh=>z.2 h) (λh=>by have:=b4 b h;have:=z.1.2;omega)⟩,(b5.o.vals x hx).2⟩)
  (λx hx=>⟨(a0.vals x hx).1.mono λb z=>⟨z.1.2,λh=>h.elim (λh=>by have:=b6 b h;have:=z.1.1;omega) (λh=>z.2 h)⟩,(a0.vals x hx).2⟩)
  a7 f0 f1 c3 (l:=l) (r:=r) b7.o a4
 have e8:=f8.o.trans (f7.o.trans a3);have d4:=hY e8;have g9:=hY b6;have g6:=hY b4;have i3:=f8.o.size;clear e4 a4 a0 a3 b6 b4 c6 c2 a7 f0 f1 c3 e8;go_wp2_with fail;refine d6.mono ?_;rintro e w3 ⟨⟨ts,rfl,hP,hI⟩,f3⟩;have d7:Yd (Ext w w3/\Qew w.heap.size 0 l r ts/\∀u∈ts,IsN w3 (Up F w w3) 0 u):=hY ⟨d4.o.step f3 (λb z=>z.elim (λh=>by have:=g9.o b h;omega) (λh=>by have:=g6.o b h;omega)),hP.mono (d4.o.size),λu hu=>(hI u hu).mono λi hi=>hi.elim (λh=>h.elim) λh=>.inr ⟨Nat.le_trans d4.o.size h.1,h.2⟩⟩;clear d6 hP hI f3;obtain⟨a2,hP,hI⟩:=d7.o;have X:w3.ownsRow base 39 1 (.slice (some ⟨g,0,none⟩) ks.length I) ks.length (ptrs (0) ks):=Qae (s:=⟨some ⟨g,0,none⟩,I⟩) U.o.own (a2.agree (F:=Lt w.heap.size) λ_ h=>h) λb z=>(Qaa U.o.own z).2
 have i1:∀o,w3.frozen? ⟨g,o,none⟩=false:=λo=>(a2.frozen g7).trans (g0.o o)
 have d3:∀q u,(ptrs (0) ks)[q]? = some u->w3.cell? ⟨g,q,none⟩=some u:=λq u hq=>by
  have:=X.cells (g:=g) rfl q u hq;rwa[Qbu,aB]at this
 have dl:w3.cell? ⟨g,0,none⟩=some (ptr (0) l):=d3 0 _ (by rw[ptrs,ao,N.o];rfl);have dr:w3.cell? ⟨g,1,none⟩=some (ptr (0) r):=d3 (1) _ (by rw[ptrs,ao,J.o];rfl);have e3:0<ks.length:=by omega
 have a5:=hY X;have c7:=hY a2;have HP:=hY hP;have HI:=hY hI;have R:=hP.len;have f5:∀W' x,F x\/(w.heap.size<=x/\x<W')->x≠g:=λW' x hx e=>by
  subst e;rcases hx with h|h
  .exact (U.o.lt x h).2 rfl
  omega
 have b8:∀x,F x->x<w.heap.size:=λx hx=>(U.o.lt x hx).1
 have f2:∀k∈ks,IsN w3 (Up F w w3) (0) k:=λk hk=>((U.o.isn k hk).agree (a2.agree b8)).mono λi hi=>.inl hi
 have b0:=hY f2;have b3:=hY f5;clear X d3 a2 hP hI f2 f5;rcases R with R|R
 ·obtain ⟨a,rfl⟩:=cm.1 R
  rw[show two (0) [a]=Ending.returned (.tuple #[ptr (0) a,.pointer none])from rfl];have L:∀w5,Wr (w3.setCell ⟨g,0,none⟩ (ptr (0) a)) w5 (some g)->w5.ownsRow base 39 1 (.slice (some ⟨g,0,none⟩) (ks.length-1) I) (ks.length-1) (((ptrs (0) ks).set 0 (ptr (0) a)).take ((1)*1)++((ptrs (0) ks).set 0 (ptr (0) a)).drop ((1+1)*1))->
    Qbk F base (0) ⟨some ⟨g,0,none⟩,I⟩ ks (0) w (.returned (.slice (some ⟨g,0,none⟩) (ks.length-1) I)) w5:=λw5 d0 D=>by
   have hz:w3.heap.size<=w5.heap.size:=by have:=d0.grown.size;rwa[eA]at this
   have c9:Agree (Up F w w3) w3 w5:=(fA w3 ⟨g,0,none⟩ _ (λh=>b3.o _ g h rfl)).trans (d0.agree (λi hi=>by rw[eA];exact hi.elim (λh=>ab (b8 i h) c7.o.size) λh=>h.2) (λk hk h=>by cases hk;exact b3.o _ g h rfl));have f9:∀i,Up F w w3 i->Up F w w5 i:=λi hi=>hi.imp_right λh=>⟨h.1,ab h.2 hz⟩
   have e0:(ptrs (0) ks).set 0 (ptr (0) a)=ptrs (0) (ks.set 0 a):=by rw[ptrs,ptrs,bI]
   have e1:((ptrs (0) ks).set 0 (ptr (0) a)).take ((1)*1)++((ptrs (0) ks).set 0 (ptr (0) a)).drop ((1+1)*1)=ptrs (0) (ks.take 0++[a]++ks.drop (0+2)):=by
    rw[e0,b9,b9,<-QcC,<-Qc5,<-Qdl,Qd9 N.o J.o]
   have e2:(ks.take 0++[a]++ks.drop (0+2)).length=ks.length-1:=by simp only[List.length_append,List.length_take,List.length_drop,List.length_cons,List.length_nil];omega
   rw[e1]at D;refine⟨⟨some ⟨g,0,none⟩,I⟩,ks.take 0++[a]++ks.drop (0+2),by rw[e2],by rw[e2];exact D,⟨l,r,[a],N.o,J.o,HP.o,rfl⟩,λu hu=>?_,(((c7.o.st (λb=>(⟨some ⟨g,0,none⟩,I⟩:Sl).row=some b)).set (p:=⟨g,0,none⟩) (.inr rfl) _).trans (d0.st λi hi=>hi))⟩;refine IsN.mono f9 (IsN.agree c9 ?_);rcases aE.1 hu with hu|hu
   ·rcases aE.1 hu with hu | hu
    .exact b0.o u (aM hu)
    exact HI.o u hu
   exact b0.o u (aC hu)
  have hd:=Qgd (s:=⟨some ⟨g,0,none⟩,I⟩) (n:=ks.length) (xs:=(ptrs (0) ks).set 0 (ptr (0) a)) (i:=1) (QbF a5.o e3 (ptr (0) a)) (by omega) (by omega) (λu hu=>by
   rcases bB hu with hu|rfl
   .exact QbT (0) ks u hu
   rfl)
  have q1:((1:Nat):Int)=(1:Int):=by omega
  have q2:(1:Int)+1=(2:Int):=by omega
  rw[q1,q2]at hd;have HD:=hY hd;have Z:=hY L;clear hd L q1 q2 b8;go_wp2_with fail;refine HD.o.mono ?_;rintro e w5 ⟨rfl,a6,c0⟩;have g8:=hY (Z.o w5 c0 a6);clear a6 c0;go_wp2_with fail;go_ret;exact g8.o
 obtain⟨a,b,rfl⟩:∃a b,ts=[a,b]:=by
  match ts,R with
  |[a,b],_=>exact⟨a,b,rfl⟩
 rw[show two (0) [a,b]=Ending.returned (.tuple #[ptr (0) a,ptr (0) b])from rfl];have L:Qbk F base (0) ⟨some ⟨g,0,none⟩,I⟩ ks (0) w (.returned (.slice (some ⟨g,0,none⟩) ks.length I)) ((w3.setCell ⟨g,0,none⟩ (ptr (0) a)).setCell ⟨g,1,none⟩ (ptr (0) b)):=by
  have c9:Agree (Up F w w3) w3 ((w3.setCell ⟨g,0,none⟩ (ptr (0) a)).setCell ⟨g,1,none⟩ (ptr (0) b)):=(fA w3 ⟨g,0,none⟩ _ (λh=>b3.o _ g h rfl)).trans (fA _ ⟨g,1,none⟩ _ (λh=>b3.o _ g h rfl));have e0:((ptrs (0) ks).set 0 (ptr (0) a)).set (1) (ptr (0) b)=ptrs (0) ((ks.set 0 a).set (1) b):=by rw[ptrs,ptrs,bI,bI]
  have e2:(ks.take 0++[a,b]++ks.drop (0+2)).length=ks.length:=by simp only[List.length_append,List.length_take,List.length_drop,List.length_cons,List.length_nil];omega
  have D:=QbF (QbF a5.o e3 (ptr (0) a)) (i:=1) (by omega) (ptr (0) b);rw[e0,Qe5 N.o J.o]at D;refine⟨⟨some ⟨g,0,none⟩,I⟩,ks.take 0++[a,b]++ks.drop (0+2),by rw[e2],by rw[e2];exact D,⟨l,r,[a,b],N.o,J.o,HP.o,rfl⟩,λu hu=>?_,(((c7.o.st (λb=>(⟨some ⟨g,0,none⟩,I⟩:Sl).row=some b)).set (p:=⟨g,0,none⟩) (.inr rfl) _).set (p:=⟨g,1,none⟩) (.inr rfl) _)⟩;refine IsN.mono (λi hi=>hi.imp_right λh=>⟨h.1,by simpa using h.2⟩) (IsN.agree c9 ?_);rcases aE.1 hu with hu|hu
  ·rcases aE.1 hu with hu | hu
   .exact b0.o u (aM hu)
   exact HI.o u hu
  exact b0.o u (aC hu)
 have Z:=hY L;clear L b8;go_wp2_with fail;go_ret;exact Z.o
theorem Qm3{base j:Nat}{ks:List (PT (0))}{l r:PT (0)}(hm:QiX w F base (0) s ks (j+1) l r) :
  Calls prog 135 #[.slice s.a ks.length s.c,.int .i64 ((j:Int)+1)] w (Qbk F base (0) s ks (j+1) w):=by
 have hj:j+1<ks.length:=(ah.1 hm.hr).1;obtain⟨g,I,rfl,i4,i6,i7,a5⟩:=Qa2 hm.own (by omega);have D:=hm.own;have U:=hY hm;have a8:ks[j]? = some l:=hm.hl;have a9:ks[j+1]? = some r:=hm.hr;have cc:∀q u,(ptrs (0) ks)[q]? = some u->w.cell? ⟨g,q,none⟩=some u:=λq u hq=>by
  have:=D.cells (g:=g) rfl q u hq;rwa[Qbu,aB]at this
 have cl:w.cell? ⟨g,j,none⟩=some (ptr (0) l):=cc j _ (by rw[ptrs,ao,a8];rfl);have cr:w.cell? ⟨g,j+1,none⟩=some (ptr (0) r):=cc (j+1) _ (by rw[ptrs,ao,a9];rfl);have e3:=al a8;have g0:=al a9;have g8:=a5.lt;have j2:=hm.n8;have i2:(j:Int)<(ks.length:Int):=by omega
 have i8:(j:Int)+1<(ks.length:Int):=by omega
 have j1:(0:Int)<=(j:Int):=by omega
 have j0:(0:Int)<=(j:Int)+1:=by omega
 have i3:IntKind.i64.wrap ((j:Int)+1)=(j:Int)+1:=by rw[ey];omega
 have i5:((j:Int)+1).toNat=j+1:=by omega
 have hz:True:=trivial;have g4:=hY (λW (hW:Agree F w W)=>QaO ((hm.isn l e3).agree hW));have N:=hY a8;have J:=hY a9;have f9:=hY a5.frozen;clear D cc a5 hm a8 a9 e3 g0;go_in;go_wp2_with fail;go_quiet (fail);go_wp2_with fail;have Y:Ext w (w.drewN nq):=(fu w).drewN nq;refine(g4.o _ (fH w nq)).mono ?_;rintro e w0 ⟨rfl,rfl⟩;generalize w.drewN nq=W at *;clear cl cr;have c3:=Qbh (w:=W) ((((U.o.isn l (al N.o)).agree (Y.agree λb z=>(U.o.lt b z).1))).mono λb z=>ab (U.o.lt b z).1 Y.size);have c4:∀W',Ext W W'->Calls prog 101 #[ptr 0 r] W' (QaQ (ents 0 r) W'):=λW' d5=>Qbh ((((U.o.isn r (al J.o)).agree ((Y.trans d5).agree λb z=>(U.o.lt b z).1))).mono λb z=>ab (U.o.lt b z).1 (Y.trans d5).size)
 have g3:=hY c4;have f1:=hY Y;clear c4 Y;go_wp2_with fail;refine c3.mono ?_;intro e w1 hp;obtain⟨sx,xs,rfl,e7,f8,d3⟩:=hp;have b7:=hY e7;have b5:=hY f8;have f0:=hY d3;have d8:=g3.o w1 d3;clear c3 e7 f8 d3;go_wp2_with fail;refine d8.mono ?_;intro e w2 hp;obtain⟨sy,ys,rfl,a2,a4,a1⟩:=hp;have b6:∀b,sx.row=some b->W.heap.size<=b/\b<w1.heap.size:=λb z=>Qaa b5.o.own z
 have b4:∀b,sy.row=some b->w1.heap.size<=b/\b<w2.heap.size:=λb z=>Qaa a4.own z
 have f4:=f0.o.size;have f2:=a1.size;have c2:=b5.o.ext a1;have c1:OE w2 W.heap.size sy ys:=a4.base f4
 have f6:xs.length≤8:=by have:=(U.o.ok l (al N.o)).1;have e1:xs.length=l.2.length:=by rw [show l.2=ents 0 l from rfl,←b7.o,aq]
                         rw[e1];exact this
 have e4:ys.length≤8:=by have:=(U.o.ok r (al J.o)).1;have e1:ys.length=r.2.length:=by rw [show r.2=ents 0 r from rfl,←a2,aq]
                         rw[e1];exact this
 have c6:xs.length+ys.length<=11:=by
  have e1:xs.length=size 0 l:=by rw[show size 0 l=(ents 0 l).length from rfl,<-b7.o,aq]
  have e2:ys.length=size 0 r:=by rw[show size 0 r=(ents 0 r).length from rfl,<-a2,aq]
  rw[e1,e2];exact U.o.sum
 have a3:QbH (xs++ys):=Qc8 (by rw[aR,b7.o,a2];exact Qeh U.o.sorted N.o J.o);have d6:=QjQ c2 c1 (aj f4 f2) (λb z g6=>by have:=b6 b z;have:=b4 b g6;omega)
  (λx hx=>⟨((b5.o.vals x hx).1.agree (a1.agree λb z=>z.1.2)).mono λb z=>⟨Nat.lt_of_lt_of_le z.1.2 f2,λh=>h.elim (λh=>z.2 h) (λh=>by have:=b4 b h;have:=z.1.2;omega)⟩,(b5.o.vals x hx).2⟩)
  (λx hx=>⟨(a4.vals x hx).1.mono λb z=>⟨z.1.2,λh=>h.elim (λh=>by have:=b6 b h;have:=z.1.1;omega) (λh=>z.2 h)⟩,(a4.vals x hx).2⟩)
  a3 f6 e4 c6 (l:=l) (r:=r) b7.o a2
 have f5:=f1.o.trans (f0.o.trans a1);have d4:=hY f5;have i0:=hY b6;have g7:=hY b4;have i9:=f1.o.size;clear d8 a2 a4 a1 b6 b4 c2 c1 a3 f6 e4 c6 f5;go_wp2_with fail;refine d6.mono ?_;rintro e w3 ⟨⟨ts,rfl,hP,hI⟩,f7⟩;have d7:Yd (Ext w w3/\Qew w.heap.size 0 l r ts/\∀u∈ts,IsN w3 (Up F w w3) 0 u):=hY ⟨d4.o.step f7 (λb z=>z.elim (λh=>by have:=i0.o b h;omega) (λh=>by have:=g7.o b h;omega)),hP.mono (d4.o.size),λu hu=>(hI u hu).mono λi hi=>hi.elim (λh=>h.elim) λh=>.inr ⟨Nat.le_trans d4.o.size h.1,h.2⟩⟩;clear d6 hP hI f7;obtain⟨a0,hP,hI⟩:=d7.o;have X:w3.ownsRow base 39 1 (.slice (some ⟨g,0,none⟩) ks.length I) ks.length (ptrs (0) ks):=Qae (s:=⟨some ⟨g,0,none⟩,I⟩) U.o.own (a0.agree (F:=Lt w.heap.size) λ_ h=>h) λb z=>(Qaa U.o.own z).2
 have i1:∀o,w3.frozen? ⟨g,o,none⟩=false:=λo=>(a0.frozen g8).trans (f9.o o)
 have c9:∀q u,(ptrs (0) ks)[q]? = some u->w3.cell? ⟨g,q,none⟩=some u:=λq u hq=>by
  have:=X.cells (g:=g) rfl q u hq;rwa[Qbu,aB]at this
 have dl:w3.cell? ⟨g,j,none⟩=some (ptr (0) l):=c9 j _ (by rw[ptrs,ao,N.o];rfl);have dr:w3.cell? ⟨g,j+1,none⟩=some (ptr (0) r):=c9 (j+1) _ (by rw[ptrs,ao,J.o];rfl);have f3:j<ks.length:=by omega
 have a6:=hY X;have d0:=hY a0;have HP:=hY hP;have HI:=hY hI;have R:=hP.len;have e8:∀W' x,F x\/(w.heap.size<=x/\x<W')->x≠g:=λW' x hx e=>by
  subst e;rcases hx with h|h
  .exact (U.o.lt x h).2 rfl
  omega
 have b8:∀x,F x->x<w.heap.size:=λx hx=>(U.o.lt x hx).1
 have e6:∀k∈ks,IsN w3 (Up F w w3) (0) k:=λk hk=>((U.o.isn k hk).agree (a0.agree b8)).mono λi hi=>.inl hi
 have b0:=hY e6;have b3:=hY e8;clear X c9 a0 hP hI e6 e8;rcases R with R|R
 ·obtain ⟨a,rfl⟩:=cm.1 R
  rw[show two (0) [a]=Ending.returned (.tuple #[ptr (0) a,.pointer none])from rfl];have L:∀w5,Wr (w3.setCell ⟨g,j,none⟩ (ptr (0) a)) w5 (some g)->w5.ownsRow base 39 1 (.slice (some ⟨g,0,none⟩) (ks.length-1) I) (ks.length-1) (((ptrs (0) ks).set j (ptr (0) a)).take ((j+1)*1)++((ptrs (0) ks).set j (ptr (0) a)).drop ((j+1+1)*1))->
    Qbk F base (0) ⟨some ⟨g,0,none⟩,I⟩ ks (j+1) w (.returned (.slice (some ⟨g,0,none⟩) (ks.length-1) I)) w5:=λw5 c8 D=>by
   have hz:w3.heap.size<=w5.heap.size:=by have:=c8.grown.size;rwa[eA]at this
   have c7:Agree (Up F w w3) w3 w5:=(fA w3 ⟨g,j,none⟩ _ (λh=>b3.o _ g h rfl)).trans (c8.agree (λi hi=>by rw[eA];exact hi.elim (λh=>ab (b8 i h) d0.o.size) λh=>h.2) (λk hk h=>by cases hk;exact b3.o _ g h rfl));have g5:∀i,Up F w w3 i->Up F w w5 i:=λi hi=>hi.imp_right λh=>⟨h.1,ab h.2 hz⟩
   have e0:(ptrs (0) ks).set j (ptr (0) a)=ptrs (0) (ks.set j a):=by rw[ptrs,ptrs,bI]
   have e1:((ptrs (0) ks).set j (ptr (0) a)).take ((j+1)*1)++((ptrs (0) ks).set j (ptr (0) a)).drop ((j+1+1)*1)=ptrs (0) (ks.take j++[a]++ks.drop (j+2)):=by
    rw[e0,b9,b9,<-QcC,<-Qc5,<-Qdl,Qd9 N.o J.o]
   have e2:(ks.take j++[a]++ks.drop (j+2)).length=ks.length-1:=by simp only[List.length_append,List.length_take,List.length_drop,List.length_cons,List.length_nil];omega
   rw[e1]at D;refine⟨⟨some ⟨g,0,none⟩,I⟩,ks.take j++[a]++ks.drop (j+2),by rw[e2],by rw[e2];exact D,⟨l,r,[a],N.o,J.o,HP.o,rfl⟩,λu hu=>?_,(((d0.o.st (λb=>(⟨some ⟨g,0,none⟩,I⟩:Sl).row=some b)).set (p:=⟨g,j,none⟩) (.inr rfl) _).trans (c8.st λi hi=>hi))⟩;refine IsN.mono g5 (IsN.agree c7 ?_);rcases aE.1 hu with hu|hu
   ·rcases aE.1 hu with hu | hu
    .exact b0.o u (aM hu)
    exact HI.o u hu
   exact b0.o u (aC hu)
  have hd:=Qgd (s:=⟨some ⟨g,0,none⟩,I⟩) (n:=ks.length) (xs:=(ptrs (0) ks).set j (ptr (0) a)) (i:=j+1) (QbF a6.o f3 (ptr (0) a)) (by omega) (by omega) (λu hu=>by
   rcases bB hu with hu|rfl
   .exact QbT (0) ks u hu
   rfl)
  have q1:((j+1:Nat):Int)=((j:Int)+1):=by omega
  have q2:((j:Int)+1)+1=((j:Int)+2):=by omega
  rw[q1,q2]at hd;have HD:=hY hd;have Z:=hY L;clear hd L q1 q2 b8;go_wp2_with fail;refine HD.o.mono ?_;rintro e w5 ⟨rfl,a7,c0⟩;have g9:=hY (Z.o w5 c0 a7);clear a7 c0;go_wp2_with fail;go_ret;exact g9.o
 obtain⟨a,b,rfl⟩:∃a b,ts=[a,b]:=by
  match ts,R with
  |[a,b],_=>exact⟨a,b,rfl⟩
 rw[show two (0) [a,b]=Ending.returned (.tuple #[ptr (0) a,ptr (0) b])from rfl];have L:Qbk F base (0) ⟨some ⟨g,0,none⟩,I⟩ ks (j+1) w (.returned (.slice (some ⟨g,0,none⟩) ks.length I)) ((w3.setCell ⟨g,j,none⟩ (ptr (0) a)).setCell ⟨g,j+1,none⟩ (ptr (0) b)):=by
  have c7:Agree (Up F w w3) w3 ((w3.setCell ⟨g,j,none⟩ (ptr (0) a)).setCell ⟨g,j+1,none⟩ (ptr (0) b)):=(fA w3 ⟨g,j,none⟩ _ (λh=>b3.o _ g h rfl)).trans (fA _ ⟨g,j+1,none⟩ _ (λh=>b3.o _ g h rfl));have e0:((ptrs (0) ks).set j (ptr (0) a)).set (j+1) (ptr (0) b)=ptrs (0) ((ks.set j a).set (j+1) b):=by rw[ptrs,ptrs,bI,bI]
  have e2:(ks.take j++[a,b]++ks.drop (j+2)).length=ks.length:=by simp only[List.length_append,List.length_take,List.length_drop,List.length_cons,List.length_nil];omega
  have D:=QbF (QbF a6.o f3 (ptr (0) a)) (i:=j+1) (by omega) (ptr (0) b);rw[e0,Qe5 N.o J.o]at D;refine⟨⟨some ⟨g,0,none⟩,I⟩,ks.take j++[a,b]++ks.drop (j+2),by rw[e2],by rw[e2];exact D,⟨l,r,[a,b],N.o,J.o,HP.o,rfl⟩,λu hu=>?_,(((d0.o.st (λb=>(⟨some ⟨g,0,none⟩,I⟩:Sl).row=some b)).set (p:=⟨g,j,none⟩) (.inr rfl) _).set (p:=⟨g,j+1,none⟩) (.inr rfl) _)⟩;refine IsN.mono (λi hi=>hi.imp_right λh=>⟨h.1,by simpa using h.2⟩) (IsN.agree c7 ?_);rcases aE.1 hu with hu|hu
  ·rcases aE.1 hu with hu | hu
   .exact b0.o u (aM hu)
   exact HI.o u hu
  exact b0.o u (aC hu)
 have Z:=hY L;clear L b8;go_wp2_with fail;go_ret;exact Z.o
theorem Qm0{base h:Nat}{ks:List (PT (h+1))}{l r:PT (h+1)}(hm:QiX w F base (h+1) s ks (0) l r) :
  Calls prog 135 #[.slice s.a ks.length s.c,.int .i64 0] w (Qbk F base (h+1) s ks (0) w):=by
 have hj:1<ks.length:=(ah.1 hm.hr).1;obtain⟨g,D,rfl,i5,i6,i7,a3⟩:=Qa2 hm.own (by omega);have z:=hm.own;have N:=hY hm;have b3:ks[0]? = some l:=hm.hl;have b4:ks[1]? = some r:=hm.hr;have cc:∀q u,(ptrs (h+1) ks)[q]? = some u->w.cell? ⟨g,q,none⟩=some u:=λq u hq=>by
  have:=z.cells (g:=g) rfl q u hq;rwa[Qbu,aB]at this
 have cl:w.cell? ⟨g,0,none⟩=some (ptr (h+1) l):=cc 0 _ (by rw[ptrs,ao,b3];rfl);have cr:w.cell? ⟨g,1,none⟩=some (ptr (h+1) r):=cc (1) _ (by rw[ptrs,ao,b4];rfl);have e7:=al b3;have g4:=al b4;have i0:=a3.lt;have j0:=hm.n8;have i4:(0:Int)<(ks.length:Int):=by omega
 have i8:(1:Int)<(ks.length:Int):=by omega
 have hz:(((h:Int)+1)==0)=false:=eu.2 (by omega);have g5:=hY (λW (hW:Agree F w W)=>QaO ((hm.isn l e7).agree hW));have L:=hY b3;have J:=hY b4;have g3:=hY a3.frozen;clear z cc a3 hm b3 b4 e7 g4;go_in;go_wp2_with fail;go_quiet (fail);go_wp2_with fail;have d7:Ext w (w.drewN nq):=(fu w).drewN nq;refine(g5.o _ (fH w nq)).mono ?_;rintro e w0 ⟨rfl,rfl⟩;generalize w.drewN nq=W at *;clear cl cr;have d3:∀W',Ext W W'->∀x,x∈ks->Calls prog 95 #[ptr (h+1) x] W' (QeI 39 x.2.length (ptrs h x.2) W'):=λW' g0 x I=>QcO ((N.o.isn x I).agree ((d7.trans g0).agree λb R=>(N.o.lt b R).1)) (by have:=(N.o.ok x I).1.2.1;omega)
 have c6:=d3 W (fu W) l (al L.o);have g8:=hY d3;have f3:=hY d7;clear d3 d7;go_wp2_with fail;refine c6.mono ?_;rintro e w1 ⟨sx,rfl,f8,d6⟩;have f6:=hY f8;have f2:=hY d6;have e6:=g8.o w1 d6 r (al J.o);clear c6 f8 d6;go_wp2_with fail;refine e6.mono ?_;rintro e w2 ⟨sy,rfl,d0,b0⟩;have a5:∀b,sx.row=some b->W<=b/\b<w1:=λb R=>Qaa f6.o R
 have b7:∀b,sy.row=some b->w1<=b/\b<w2:=λb R=>Qaa d0 R
 have f5:=f2.o.size;have g7:=b0.size;have i9:=f3.o.size;have c4:w2.ownsRow W.heap.size 39 1 (.slice sx.a l.2.length sx.c) l.2.length (ptrs h l.2):=Qae f6.o (b0.agree (F:=Lt w1) λ_ h=>h) λb R=>(a5 b R).2
 have c2:w2.ownsRow W.heap.size 39 1 (.slice sy.a r.2.length sy.c) r.2.length (ptrs h r.2):=QiI d0 f5;have a4:=N.o.ok l (al L.o);have a9:=N.o.ok r (al J.o);have b8:=f3.o.trans (f2.o.trans b0);have f1:=Qeh N.o.sorted L.o J.o;have f9:=Qp9 (ks:=ks) L.o J.o;have a2:∀x∈l.2++r.2,OkT h x/\4<=size h x/\IsN w F h x:=λx I=>by
  rcases aE.1 I with I|I
  .exact ⟨(a4.1.2.2 x I).1,(a4.1.2.2 x I).2,(N.o.isn l (al L.o)).2.choose_spec.2.2 x I⟩
  exact⟨(a9.1.2.2 x I).1,(a9.1.2.2 x I).2,(N.o.isn r (al J.o)).2.choose_spec.2.2 x I⟩
 have Z:∀x∈l.2++r.2,0<(ents h x).length:=λx I=>QbB h x (a2 x I).1 (by have:=(a2 x I).2.1;omega)
 have c3:Sorted ((l.2++r.2).flatMap (ents h)):=by rw[aK];exact f1
 have a8:Kids w2 F h (l.2++r.2):=⟨λb R=>ab (N.o.lt b R).1 b8.size,λx I=>(a2 x I).2.2.agree (b8.agree λb R=>(N.o.lt b R).1),QdT c3 Z,Z,λx I=>by have:=Qdn (a2 x I).1;omega,by
  unfold cnt;rw[aK,ai];have h1:(ents (h+1) l).length+(ents (h+1) r).length<=1000000:=aj f9 N.o.few;have h2:(l.2.flatMap (ents h)).length=(ents (h+1) l).length:=rfl;have h3:(r.2.flatMap (ents h)).length=(ents (h+1) r).length:=rfl;omega,by have:=N.o.hh;omega⟩
 have e3:=QjS (F:=F) (l:=l) (r:=r) c4 c2 (aj f5 g7) (λb R d4=>by have:=a5 b R;have:=b7 b d4;omega)
  (λb R d4=>by
    have:=(N.o.lt b R).1;rcases d4 with h|h
    .have:=a5 b h;omega
    have:=b7 b h;omega) a8 a4.2 a9.2 a4.1.2.1 a9.1.2.1 N.o.sum
 have d8:=hY b8;have i2:=hY a5;have g9:=hY b7;clear e6 d0 b0 a5 b7 c4 c2 b8 f1 f9 a2 Z c3 a8 a4 a9;go_wp2_with fail;refine e3.mono ?_;rintro e w3 ⟨⟨ts,rfl,hP,hI⟩,f7⟩;have e4:Yd (Ext w w3/\Qew w.heap.size (h+1) l r ts/\∀u∈ts,IsN w3 (Up F w w3) (h+1) u):=hY ⟨d8.o.step f7 (λb R=>R.elim (λh=>by have:=i2.o b h;omega) (λh=>by have:=g9.o b h;omega)),hP.mono (d8.o.size),λu hu=>(hI u hu).mono λi hi=>hi.imp_right λh=>⟨Nat.le_trans d8.o.size h.1,h.2⟩⟩;clear e3 hP hI f7;obtain⟨a1,hP,hI⟩:=e4.o;have Y:w3.ownsRow base 39 1 (.slice (some ⟨g,0,none⟩) ks.length D) ks.length (ptrs (h+1) ks):=Qae (s:=⟨some ⟨g,0,none⟩,D⟩) N.o.own (a1.agree (F:=Lt w) λ_ h=>h) λb R=>(Qaa N.o.own R).2
 have i3:∀o,w3.frozen? ⟨g,o,none⟩=false:=λo=>(a1.frozen i0).trans (g3.o o)
 have c9:∀q u,(ptrs (h+1) ks)[q]? = some u->w3.cell? ⟨g,q,none⟩=some u:=λq u hq=>by
  have:=Y.cells (g:=g) rfl q u hq;rwa[Qbu,aB]at this
 have dl:w3.cell? ⟨g,0,none⟩=some (ptr (h+1) l):=c9 0 _ (by rw[ptrs,ao,L.o];rfl);have dr:w3.cell? ⟨g,1,none⟩=some (ptr (h+1) r):=c9 (1) _ (by rw[ptrs,ao,J.o];rfl);have f4:0<ks.length:=by omega
 have a6:=hY Y;have d5:=hY a1;have HP:=hY hP;have HI:=hY hI;have X:=hP.len;have f0:∀W' x,F x\/(w<=x/\x<W')->x≠g:=λW' x I e=>by
  subst e;rcases I with h|h
  .exact (N.o.lt x h).2 rfl
  omega
 have c0:∀x,F x->x<w:=λx I=>(N.o.lt x I).1
 have e8:∀k∈ks,IsN w3 (Up F w w3) (h+1) k:=λk hk=>((N.o.isn k hk).agree (a1.agree c0)).mono λi hi=>.inl hi
 have b5:=hY e8;have b6:=hY f0;clear Y c9 a1 hP hI e8 f0;rcases X with X|X
 ·obtain ⟨a,rfl⟩:=cm.1 X
  rw[show two (h+1) [a]=Ending.returned (.tuple #[ptr (h+1) a,.pointer none])from rfl];have U:∀w5,Wr (w3.setCell ⟨g,0,none⟩ (ptr (h+1) a)) w5 (some g)->w5.ownsRow base 39 1 (.slice (some ⟨g,0,none⟩) (ks.length-1) D) (ks.length-1) (((ptrs (h+1) ks).set 0 (ptr (h+1) a)).take ((1)*1)++((ptrs (h+1) ks).set 0 (ptr (h+1) a)).drop ((1+1)*1))->
    Qbk F base (h+1) ⟨some ⟨g,0,none⟩,D⟩ ks (0) w (.returned (.slice (some ⟨g,0,none⟩) (ks.length-1) D)) w5:=λw5 c8 z=>by
   have hz:w3.heap.size<=w5.heap.size:=by have:=c8.grown.size;rwa[eA]at this
   have c7:Agree (Up F w w3) w3 w5:=(fA w3 ⟨g,0,none⟩ _ (λh=>b6.o _ g h rfl)).trans (c8.agree (λi hi=>by rw[eA];exact hi.elim (λh=>ab (c0 i h) d5.o.size) λh=>h.2) (λk hk h=>by cases hk;exact b6.o _ g h rfl));have g6:∀i,Up F w w3 i->Up F w w5 i:=λi hi=>hi.imp_right λh=>⟨h.1,ab h.2 hz⟩
   have e0:(ptrs (h+1) ks).set 0 (ptr (h+1) a)=ptrs (h+1) (ks.set 0 a):=by rw[ptrs,ptrs,bI]
   have e1:((ptrs (h+1) ks).set 0 (ptr (h+1) a)).take ((1)*1)++((ptrs (h+1) ks).set 0 (ptr (h+1) a)).drop ((1+1)*1)=ptrs (h+1) (ks.take 0++[a]++ks.drop (0+2)):=by
    rw[e0,b9,b9,<-QcC,<-Qc5,<-Qdl,Qd9 L.o J.o]
   have e2:(ks.take 0++[a]++ks.drop (0+2)).length=ks.length-1:=by simp only[List.length_append,List.length_take,List.length_drop,List.length_cons,List.length_nil];omega
   rw[e1]at z;refine⟨⟨some ⟨g,0,none⟩,D⟩,ks.take 0++[a]++ks.drop (0+2),by rw[e2],by rw[e2];exact z,⟨l,r,[a],L.o,J.o,HP.o,rfl⟩,λu hu=>?_,(((d5.o.st (λb=>(⟨some ⟨g,0,none⟩,D⟩:Sl).row=some b)).set (p:=⟨g,0,none⟩) (.inr rfl) _).trans (c8.st λi hi=>hi))⟩;refine IsN.mono g6 (IsN.agree c7 ?_);rcases aE.1 hu with hu|hu
   ·rcases aE.1 hu with hu | hu
    .exact b5.o u (aM hu)
    exact HI.o u hu
   exact b5.o u (aC hu)
  have hd:=Qgd (s:=⟨some ⟨g,0,none⟩,D⟩) (n:=ks.length) (xs:=(ptrs (h+1) ks).set 0 (ptr (h+1) a)) (i:=1) (QbF a6.o f4 (ptr (h+1) a)) (by omega) (by omega) (λu hu=>by
   rcases bB hu with hu|rfl
   .exact QbT (h+1) ks u hu
   rfl)
  have q1:((1:Nat):Int)=(1:Int):=by omega
  have q2:(1:Int)+1=(2:Int):=by omega
  rw[q1,q2]at hd;have HD:=hY hd;have a0:=hY U;clear hd U q1 q2 c0;go_wp2_with fail;refine HD.o.mono ?_;rintro e w5 ⟨rfl,a7,c1⟩;have i1:=hY (a0.o w5 c1 a7);clear a7 c1;go_wp2_with fail;go_ret;exact i1.o
 obtain⟨a,b,rfl⟩:∃a b,ts=[a,b]:=by
  match ts,X with
  |[a,b],_=>exact⟨a,b,rfl⟩
 rw[show two (h+1) [a,b]=Ending.returned (.tuple #[ptr (h+1) a,ptr (h+1) b])from rfl];have U:Qbk F base (h+1) ⟨some ⟨g,0,none⟩,D⟩ ks (0) w (.returned (.slice (some ⟨g,0,none⟩) ks.length D)) ((w3.setCell ⟨g,0,none⟩ (ptr (h+1) a)).setCell ⟨g,1,none⟩ (ptr (h+1) b)):=by
  have c7:Agree (Up F w w3) w3 ((w3.setCell ⟨g,0,none⟩ (ptr (h+1) a)).setCell ⟨g,1,none⟩ (ptr (h+1) b)):=(fA w3 ⟨g,0,none⟩ _ (λh=>b6.o _ g h rfl)).trans (fA _ ⟨g,1,none⟩ _ (λh=>b6.o _ g h rfl));have e0:((ptrs (h+1) ks).set 0 (ptr (h+1) a)).set (1) (ptr (h+1) b)=ptrs (h+1) ((ks.set 0 a).set (1) b):=by rw[ptrs,ptrs,bI,bI]
  have e2:(ks.take 0++[a,b]++ks.drop (0+2)).length=ks.length:=by simp only[List.length_append,List.length_take,List.length_drop,List.length_cons,List.length_nil];omega
  have z:=QbF (QbF a6.o f4 (ptr (h+1) a)) (i:=1) (by omega) (ptr (h+1) b);rw[e0,Qe5 L.o J.o]at z;refine⟨⟨some ⟨g,0,none⟩,D⟩,ks.take 0++[a,b]++ks.drop (0+2),by rw[e2],by rw[e2];exact z,⟨l,r,[a,b],L.o,J.o,HP.o,rfl⟩,λu hu=>?_,(((d5.o.st (λb=>(⟨some ⟨g,0,none⟩,D⟩:Sl).row=some b)).set (p:=⟨g,0,none⟩) (.inr rfl) _).set (p:=⟨g,1,none⟩) (.inr rfl) _)⟩;refine IsN.mono (λi hi=>hi.imp_right λh=>⟨h.1,by simpa using h.2⟩) (IsN.agree c7 ?_);rcases aE.1 hu with hu|hu
  ·rcases aE.1 hu with hu | hu
   .exact b5.o u (aM hu)
   exact HI.o u hu
  exact b5.o u (aC hu)
 have a0:=hY U;clear U c0;go_wp2_with fail;go_ret;exact a0.o
theorem Qm1{base h j:Nat}{ks:List (PT (h+1))}{l r:PT (h+1)}(hm:QiX w F base (h+1) s ks (j+1) l r) :
  Calls prog 135 #[.slice s.a ks.length s.c,.int .i64 ((j:Int)+1)] w (Qbk F base (h+1) s ks (j+1) w):=by
 have hj:j+1<ks.length:=(ah.1 hm.hr).1;obtain⟨g,D,rfl,i6,i8,i9,a3⟩:=Qa2 hm.own (by omega);have z:=hm.own;have N:=hY hm;have b3:ks[j]? = some l:=hm.hl;have b4:ks[j+1]? = some r:=hm.hr;have cc:∀q u,(ptrs (h+1) ks)[q]? = some u->w.cell? ⟨g,q,none⟩=some u:=λq u hq=>by
  have:=z.cells (g:=g) rfl q u hq;rwa[Qbu,aB]at this
 have cl:w.cell? ⟨g,j,none⟩=some (ptr (h+1) l):=cc j _ (by rw[ptrs,ao,b3];rfl);have cr:w.cell? ⟨g,j+1,none⟩=some (ptr (h+1) r):=cc (j+1) _ (by rw[ptrs,ao,b4];rfl);have e7:=al b3;have g4:=al b4;have i0:=a3.lt;have j4:=hm.n8;have i4:(j:Int)<(ks.length:Int):=by omega
 have j0:(j:Int)+1<(ks.length:Int):=by omega
 have j3:(0:Int)<=(j:Int):=by omega
 have j2:(0:Int)<=(j:Int)+1:=by omega
 have i5:IntKind.i64.wrap ((j:Int)+1)=(j:Int)+1:=by rw[ey];omega
 have i7:((j:Int)+1).toNat=j+1:=by omega
 have hz:(((h:Int)+1)==0)=false:=eu.2 (by omega);have g5:=hY (λW (hW:Agree F w W)=>QaO ((hm.isn l e7).agree hW));have L:=hY b3;have J:=hY b4;have g3:=hY a3.frozen;clear z cc a3 hm b3 b4 e7 g4;go_in;go_wp2_with fail;go_quiet (fail);go_wp2_with fail;have d7:Ext w (w.drewN nq):=(fu w).drewN nq;refine(g5.o _ (fH w nq)).mono ?_;rintro e w0 ⟨rfl,rfl⟩;generalize w.drewN nq=W at *;clear cl cr;have d3:∀W',Ext W W'->∀x,x∈ks->Calls prog 95 #[ptr (h+1) x] W' (QeI 39 x.2.length (ptrs h x.2) W'):=λW' g0 x I=>QcO ((N.o.isn x I).agree ((d7.trans g0).agree λb R=>(N.o.lt b R).1)) (by have:=(N.o.ok x I).1.2.1;omega)
 have c6:=d3 W (fu W) l (al L.o);have g8:=hY d3;have f3:=hY d7;clear d3 d7;go_wp2_with fail;refine c6.mono ?_;rintro e w1 ⟨sx,rfl,f8,d6⟩;have f6:=hY f8;have f2:=hY d6;have e6:=g8.o w1 d6 r (al J.o);clear c6 f8 d6;go_wp2_with fail;refine e6.mono ?_;rintro e w2 ⟨sy,rfl,d0,b0⟩;have a5:∀b,sx.row=some b->W<=b/\b<w1:=λb R=>Qaa f6.o R
 have b7:∀b,sy.row=some b->w1<=b/\b<w2:=λb R=>Qaa d0 R
 have f5:=f2.o.size;have g7:=b0.size;have j1:=f3.o.size;have c4:w2.ownsRow W.heap.size 39 1 (.slice sx.a l.2.length sx.c) l.2.length (ptrs h l.2):=Qae f6.o (b0.agree (F:=Lt w1) λ_ h=>h) λb R=>(a5 b R).2
 have c2:w2.ownsRow W.heap.size 39 1 (.slice sy.a r.2.length sy.c) r.2.length (ptrs h r.2):=QiI d0 f5;have a4:=N.o.ok l (al L.o);have a9:=N.o.ok r (al J.o);have b8:=f3.o.trans (f2.o.trans b0);have f1:=Qeh N.o.sorted L.o J.o;have f9:=Qp9 (ks:=ks) L.o J.o;have a2:∀x∈l.2++r.2,OkT h x/\4<=size h x/\IsN w F h x:=λx I=>by
  rcases aE.1 I with I|I
  .exact ⟨(a4.1.2.2 x I).1,(a4.1.2.2 x I).2,(N.o.isn l (al L.o)).2.choose_spec.2.2 x I⟩
  exact⟨(a9.1.2.2 x I).1,(a9.1.2.2 x I).2,(N.o.isn r (al J.o)).2.choose_spec.2.2 x I⟩
 have Z:∀x∈l.2++r.2,0<(ents h x).length:=λx I=>QbB h x (a2 x I).1 (by have:=(a2 x I).2.1;omega)
 have c3:Sorted ((l.2++r.2).flatMap (ents h)):=by rw[aK];exact f1
 have a8:Kids w2 F h (l.2++r.2):=⟨λb R=>ab (N.o.lt b R).1 b8.size,λx I=>(a2 x I).2.2.agree (b8.agree λb R=>(N.o.lt b R).1),QdT c3 Z,Z,λx I=>by have:=Qdn (a2 x I).1;omega,by
  unfold cnt;rw[aK,ai];have h1:(ents (h+1) l).length+(ents (h+1) r).length<=1000000:=aj f9 N.o.few;have h2:(l.2.flatMap (ents h)).length=(ents (h+1) l).length:=rfl;have h3:(r.2.flatMap (ents h)).length=(ents (h+1) r).length:=rfl;omega,by have:=N.o.hh;omega⟩
 have e3:=QjS (F:=F) (l:=l) (r:=r) c4 c2 (aj f5 g7) (λb R d4=>by have:=a5 b R;have:=b7 b d4;omega)
  (λb R d4=>by
    have:=(N.o.lt b R).1;rcases d4 with h|h
    .have:=a5 b h;omega
    have:=b7 b h;omega) a8 a4.2 a9.2 a4.1.2.1 a9.1.2.1 N.o.sum
 have d8:=hY b8;have i2:=hY a5;have g9:=hY b7;clear e6 d0 b0 a5 b7 c4 c2 b8 f1 f9 a2 Z c3 a8 a4 a9;go_wp2_with fail;refine e3.mono ?_;rintro e w3 ⟨⟨ts,rfl,hP,hI⟩,f7⟩;have e4:Yd (Ext w w3/\Qew w.heap.size (h+1) l r ts/\∀u∈ts,IsN w3 (Up F w w3) (h+1) u):=hY ⟨d8.o.step f7 (λb R=>R.elim (λh=>by have:=i2.o b h;omega) (λh=>by have:=g9.o b h;omega)),hP.mono (d8.o.size),λu hu=>(hI u hu).mono λi hi=>hi.imp_right λh=>⟨Nat.le_trans d8.o.size h.1,h.2⟩⟩;clear e3 hP hI f7;obtain⟨a1,hP,hI⟩:=e4.o;have Y:w3.ownsRow base 39 1 (.slice (some ⟨g,0,none⟩) ks.length D) ks.length (ptrs (h+1) ks):=Qae (s:=⟨some ⟨g,0,none⟩,D⟩) N.o.own (a1.agree (F:=Lt w) λ_ h=>h) λb R=>(Qaa N.o.own R).2
 have i3:∀o,w3.frozen? ⟨g,o,none⟩=false:=λo=>(a1.frozen i0).trans (g3.o o)
 have c9:∀q u,(ptrs (h+1) ks)[q]? = some u->w3.cell? ⟨g,q,none⟩=some u:=λq u hq=>by
  have:=Y.cells (g:=g) rfl q u hq;rwa[Qbu,aB]at this
 have dl:w3.cell? ⟨g,j,none⟩=some (ptr (h+1) l):=c9 j _ (by rw[ptrs,ao,L.o];rfl);have dr:w3.cell? ⟨g,j+1,none⟩=some (ptr (h+1) r):=c9 (j+1) _ (by rw[ptrs,ao,J.o];rfl);have f4:j<ks.length:=by omega
 have a6:=hY Y;have d5:=hY a1;have HP:=hY hP;have HI:=hY hI;have X:=hP.len;have f0:∀W' x,F x\/(w<=x/\x<W')->x≠g:=λW' x I e=>by
  subst e;rcases I with h|h
  .exact (N.o.lt x h).2 rfl
  omega
 have c0:∀x,F x->x<w:=λx I=>(N.o.lt x I).1
 have e8:∀k∈ks,IsN w3 (Up F w w3) (h+1) k:=λk hk=>((N.o.isn k hk).agree (a1.agree c0)).mono λi hi=>.inl hi
 have b5:=hY e8;have b6:=hY f0;clear Y c9 a1 hP hI e8 f0;rcases X with X|X
 ·obtain ⟨a,rfl⟩:=cm.1 X
  rw[show two (h+1) [a]=Ending.returned (.tuple #[ptr (h+1) a,.pointer none])from rfl];have U:∀w5,Wr (w3.setCell ⟨g,j,none⟩ (ptr (h+1) a)) w5 (some g)->w5.ownsRow base 39 1 (.slice (some ⟨g,0,none⟩) (ks.length-1) D) (ks.length-1) (((ptrs (h+1) ks).set j (ptr (h+1) a)).take ((j+1)*1)++((ptrs (h+1) ks).set j (ptr (h+1) a)).drop ((j+1+1)*1))->
    Qbk F base (h+1) ⟨some ⟨g,0,none⟩,D⟩ ks (j+1) w (.returned (.slice (some ⟨g,0,none⟩) (ks.length-1) D)) w5:=λw5 c8 z=>by
   have hz:w3.heap.size<=w5.heap.size:=by have:=c8.grown.size;rwa[eA]at this
   have c7:Agree (Up F w w3) w3 w5:=(fA w3 ⟨g,j,none⟩ _ (λh=>b6.o _ g h rfl)).trans (c8.agree (λi hi=>by rw[eA];exact hi.elim (λh=>ab (c0 i h) d5.o.size) λh=>h.2) (λk hk h=>by cases hk;exact b6.o _ g h rfl));have g6:∀i,Up F w w3 i->Up F w w5 i:=λi hi=>hi.imp_right λh=>⟨h.1,ab h.2 hz⟩
   have e0:(ptrs (h+1) ks).set j (ptr (h+1) a)=ptrs (h+1) (ks.set j a):=by rw[ptrs,ptrs,bI]
   have e1:((ptrs (h+1) ks).set j (ptr (h+1) a)).take ((j+1)*1)++((ptrs (h+1) ks).set j (ptr (h+1) a)).drop ((j+1+1)*1)=ptrs (h+1) (ks.take j++[a]++ks.drop (j+2)):=by
    rw[e0,b9,b9,<-QcC,<-Qc5,<-Qdl,Qd9 L.o J.o]
   have e2:(ks.take j++[a]++ks.drop (j+2)).length=ks.length-1:=by simp only[List.length_append,List.length_take,List.length_drop,List.length_cons,List.length_nil];omega
   rw[e1]at z;refine⟨⟨some ⟨g,0,none⟩,D⟩,ks.take j++[a]++ks.drop (j+2),by rw[e2],by rw[e2];exact z,⟨l,r,[a],L.o,J.o,HP.o,rfl⟩,λu hu=>?_,(((d5.o.st (λb=>(⟨some ⟨g,0,none⟩,D⟩:Sl).row=some b)).set (p:=⟨g,j,none⟩) (.inr rfl) _).trans (c8.st λi hi=>hi))⟩;refine IsN.mono g6 (IsN.agree c7 ?_);rcases aE.1 hu with hu|hu
   ·rcases aE.1 hu with hu | hu
    .exact b5.o u (aM hu)
    exact HI.o u hu
   exact b5.o u (aC hu)
  have hd:=Qgd (s:=⟨some ⟨g,0,none⟩,D⟩) (n:=ks.length) (xs:=(ptrs (h+1) ks).set j (ptr (h+1) a)) (i:=j+1) (QbF a6.o f4 (ptr (h+1) a)) (by omega) (by omega) (λu hu=>by
   rcases bB hu with hu|rfl
   .exact QbT (h+1) ks u hu
   rfl)
  have q1:((j+1:Nat):Int)=((j:Int)+1):=by omega
  have q2:((j:Int)+1)+1=((j:Int)+2):=by omega
  rw[q1,q2]at hd;have HD:=hY hd;have a0:=hY U;clear hd U q1 q2 c0;go_wp2_with fail;refine HD.o.mono ?_;rintro e w5 ⟨rfl,a7,c1⟩;have i1:=hY (a0.o w5 c1 a7);clear a7 c1;go_wp2_with fail;go_ret;exact i1.o
 obtain⟨a,b,rfl⟩:∃a b,ts=[a,b]:=by
  match ts,X with
  |[a,b],_=>exact⟨a,b,rfl⟩
 rw[show two (h+1) [a,b]=Ending.returned (.tuple #[ptr (h+1) a,ptr (h+1) b])from rfl];have U:Qbk F base (h+1) ⟨some ⟨g,0,none⟩,D⟩ ks (j+1) w (.returned (.slice (some ⟨g,0,none⟩) ks.length D)) ((w3.setCell ⟨g,j,none⟩ (ptr (h+1) a)).setCell ⟨g,j+1,none⟩ (ptr (h+1) b)):=by
  have c7:Agree (Up F w w3) w3 ((w3.setCell ⟨g,j,none⟩ (ptr (h+1) a)).setCell ⟨g,j+1,none⟩ (ptr (h+1) b)):=(fA w3 ⟨g,j,none⟩ _ (λh=>b6.o _ g h rfl)).trans (fA _ ⟨g,j+1,none⟩ _ (λh=>b6.o _ g h rfl));have e0:((ptrs (h+1) ks).set j (ptr (h+1) a)).set (j+1) (ptr (h+1) b)=ptrs (h+1) ((ks.set j a).set (j+1) b):=by rw[ptrs,ptrs,bI,bI]
  have e2:(ks.take j++[a,b]++ks.drop (j+2)).length=ks.length:=by simp only[List.length_append,List.length_take,List.length_drop,List.length_cons,List.length_nil];omega
  have z:=QbF (QbF a6.o f4 (ptr (h+1) a)) (i:=j+1) (by omega) (ptr (h+1) b);rw[e0,Qe5 L.o J.o]at z;refine⟨⟨some ⟨g,0,none⟩,D⟩,ks.take j++[a,b]++ks.drop (j+2),by rw[e2],by rw[e2];exact z,⟨l,r,[a,b],L.o,J.o,HP.o,rfl⟩,λu hu=>?_,(((d5.o.st (λb=>(⟨some ⟨g,0,none⟩,D⟩:Sl).row=some b)).set (p:=⟨g,j,none⟩) (.inr rfl) _).set (p:=⟨g,j+1,none⟩) (.inr rfl) _)⟩;refine IsN.mono (λi hi=>hi.imp_right λh=>⟨h.1,by simpa using h.2⟩) (IsN.agree c7 ?_);rcases aE.1 hu with hu|hu
  ·rcases aE.1 hu with hu | hu
   .exact b5.o u (aM hu)
   exact HI.o u hu
  exact b5.o u (aC hu)
 have a0:=hY U;clear U c0;go_wp2_with fail;go_ret;exact a0.o
theorem Qrf{base h i:Nat}{ks:List (PT h)}{l r:PT h}(z:QiX w F base h s ks i l r) :
  Calls prog 135 #[.slice s.a ks.length s.c,.int .i64 i] w (Qbk F base h s ks i w):=by
 match h,i,ks,l,r,z with
 |0,0,_,_,_,z=>exact Qm2 z
 |0,j+1,_,_,_,z=>exact Qm3 z
 |h+1,0,_,_,_,z=>exact Qm0 z
 |h+1,j+1,_,_,_,z=>exact Qm1 z
def Qsf(nv:Value)(es:List Ent)(k:ByteArray)(w:World)(e:Ending)(w':World):Prop:=
 Ext w w'/\((Qam es k=none/\e=.returned (.tuple #[nv,.bool false]))\/
  ((Qam es k).isSome=true/\∃u:PT 0,e=.returned (.tuple #[ptr 0 u,.bool true])/\u.2=Qb2 es k/\w.heap.size<=u.1/\IsN w' (In w.heap.size w'.heap.size) 0 u))
theorem QjU{es:List Ent}(hs:Sorted es)(k:ByteArray):decide ((es[Qcc es k]?).map Prod.fst=some k)=(Qam es k).isSome:=by
 rw[Qip hs];cases D:es[Qcc es k]? with
 |none=>simp
 |some e=>by_cases z:e.1=k<;>simp[z]
variable{nv:Value}
theorem Qd3{es:List Ent}(Y:∃p,nv=.pointer p)(hh:Calls prog 94 #[nv] w λe w'=>e=.returned (.int .i64 0)/\w=w')(he:Calls prog 101 #[nv] w (QaQ es w))
  (hs:Sorted es) (h8:es.length<=8) (k:ByteArray):Calls prog 88 #[nv,.string k] w (Qsf nv es k w):=by
 obtain⟨pp,rfl⟩:=Y;have HS:=hY hs;clear hs;go_in;go_wp2_with fail;refine hh.mono ?_;rintro e w1 ⟨rfl,rfl⟩;go_wp2_with fail;refine he.mono ?_;intro e w1 Y;obtain⟨s,xs,rfl,I,ho,a4⟩:=Y;have z:=QjT (w:=w1) (s:=s) (xs:=xs) (ho.es.mono λi hi=>hi.2) k (by rw[I];exact HS.o);rw[I]at z;have a3:xs.length=es.length:=by rw[<-I,aq]
 have b5:=hY I;have HO:=hY ho;have a7:=hY a4;have c1:xs.length<=8:=by omega
 have b8:=hY a3;obtain⟨p,Y⟩:∃p,Qcc es k=p:=⟨_,rfl⟩;unfold Qgs at z;rw[QjU HS.o,Y]at z;have HP:=hY Y;clear I ho a4 he hh a3 Y;cases N:Qam es k with
 | none=>
   rw[N]at z;have HG:=hY N;clear N;go_wp2_with fail;refine z.mono ?_;rintro e w2 ⟨rfl,D⟩;have Z:=hY (a7.o.trans D);clear z D;go_wp2_with fail;go_ret2;exact⟨Z.o,.inl ⟨HG.o,rfl⟩⟩
 | some v=>
   rw[N]at z;have b4:p<xs.length:=by
    have h1:=Qip HS.o k;rw[N,HP.o]at h1;rcases dQ p xs.length with h|h
    .exact h
    rw[aN (by rw[<-b8.o];exact h)]at h1;cases h1
   have a9:Qb2 es k=es.take p++es.drop (p+1):=by
    have h1:=QqF HS.o k;have h2:=QjU HS.o k;rw[N]at h2;rw[em (of_decide_eq_true h2),HP.o]at h1;exact h1
   have HG:=hY N;have b6:=hY a9;have c0:IntKind.i64.wrap ((p:Int)+1)=(p:Int)+1:=by rw[ey];omega
   clear N a9;go_wp2_with fail;refine z.mono ?_;rintro e w2 ⟨rfl,D⟩;have X:=HO.o.ext D;have hd:=QqE (i:=p) X.own (by omega) b4 (QaM xs);have a1:=hY X;have Z:=hY (a7.o.trans D);clear z D X;go_wp2_with fail;refine hd.mono ?_;rintro e w3 ⟨rfl,J,L⟩;have R:∀i,s.row=some i->w<=i/\i<w2:=λi hi=>Qaa a1.o.own hi
   have e1:(Qai xs).take (p*7)++(Qai xs).drop ((p+1)*7)=Qai (xs.take p++xs.drop (p+1)):=by rw[Qc1,Qc0,QaA]
   rw[e1]at J;have a5:Ext w w3:=Z.o.wr L (λi hi=>(R i hi).1);have a6:ES w3 (Lt w3) s (xs.take p++xs.drop (p+1)):=QtP (by rw[ai,ap,au];omega) ((fE J).mono λi hi=>hi.2)
    (λx hx=>by
      have b0:x∈xs:=by
       rcases aE.1 hx with hx|hx
       .exact aM hx
       exact aC hx
      exact⟨((a1.o.vals x b0).1.agree (L.agree (λi hi=>hi.1.2) (λk hk h=>h.2 hk))).mono λi hi=>ab hi.1.2 L.grown.size,(a1.o.vals x b0).2⟩) (by rw[ai,ap,au];omega)
   have U:(xs.take p++xs.drop (p+1)).map LE.ent=Qb2 es k:=by rw[aR,cT,cH,b5.o,b6.o]
   have a2:=QdZ (n:=xs.length-1) a6 (by rw[ai,ap,au];omega) (Qc8 (by rw[U];exact QaR HS.o k)) (by rw[ai,ap,au];omega);rw[U]at a2;have a0:=hY a5;clear hd J L R e1 a5 a6 U;go_wp2_with fail;refine a2.mono ?_;rintro e w4 ⟨u,rfl,hu,b7,a8,b3⟩;have HU:=hY a8;clear a2 a8;go_wp2_with fail;go_ret2;exact⟨a0.o.trans b3,.inr ⟨by rw[HG.o];rfl,u,rfl,hu,aj a0.o.size b7,HU.o.mono λi hi=>⟨Nat.le_trans a0.o.size hi.1,hi.2⟩⟩⟩
def Qn2(F:Nat->Prop)(h:Nat)(t:PT h)(k:ByteArray)(w:World)(e:Ending)(w':World):Prop:=
 Ext w w'/\((Qam (ents h t) k=none/\e=.returned (.tuple #[ptr h t,.bool false]))\/
  ((Qam (ents h t) k).isSome=true/\∃u:PT h,e=.returned (.tuple #[ptr h u,.bool true])/\QiV w.heap.size k h t u/\IsN w' (Up F w w') h u))
def Qsg(F:Nat->Prop)(h:Nat)(t:PT (h+1))(k:ByteArray)(w:World)(e:Ending)(w':World):Prop:=
 Ext w w'/\((Qam (ents (h+1) t) k=none/\e=.returned (.tuple #[ptr (h+1) t,.bool false]))\/
  ((Qam (ents (h+1) t) k).isSome=true∧∃ ks':List (PT h),Qmp w.heap.size k h (QiV w.heap.size k h) t.2 ks'∧
    ((∃ u,ks'=[u]∧e=.returned (.tuple #[ptr h u,.bool true])∧IsN w' (Up F w w') h u)∨
     (2<=ks'.length/\∃c:PT (h+1),c.2=ks'/\w.heap.size<=addr (h+1) c/\e=.returned (.tuple #[ptr (h+1) c,.bool true])/\IsN w' (Up F w w') (h+1) c))))
def Qsc(F:Nat->Prop)(h:Nat)(ks':List (PT h))(w:World)(e:Ending)(w':World):Prop:=
 Ext w w'/\((∃u,ks'=[u]/\e=.returned (ptr h u)/\IsN w' (Up F w w') h u)\/(2<=ks'.length/\∃c:PT (h+1),c.2=ks'/\w.heap.size<=addr (h+1) c/\e=.returned (ptr (h+1) c)/\IsN w' (Up F w w') (h+1) c))
variable{w6:World}
theorem Qhm{k:ByteArray}{t:PT (h+1)}{s6:Sl}{z:List (PT h)}(hF:∀b,F b->b<w)(ok:OkT (h+1) t)(hs:Sorted (ents (h+1) t))(hc:(ents (h+1) t).length<=1000000)(hh:h+1<1000000)(hg:(Qam (ents (h+1) t) k).isSome=true)
  (N:Ext w w6) (J:w6.ownsRow w.heap.size 39 1 (.slice s6.a z.length s6.c) z.length (ptrs h z)) (hD:Qmp w.heap.size k h (QiV w.heap.size k h) t.2 z) (hI:∀u∈z,IsN w6 (Up F w w6) h u) :
  Calls prog 64 #[.slice s6.a z.length s6.c] w6 λe w'=>Qsc F h z w e w':=by
 obtain⟨h1,h2,h3⟩:=QdH hD ok hs hg;have a1:=ok.1;have a0:=ok.2.1;by_cases L:z.length=1
 ·obtain ⟨u,rfl⟩:=cm.1 L
  refine(QnJ (s:=s6) (k:=u) (fE J)).mono ?_;rintro e w' ⟨rfl,rfl⟩;exact⟨N,.inl ⟨u,rfl,rfl,hI u (br.2 rfl)⟩⟩
 have R:=hD.ents hs (Qb3 ok) (by omega) (λx y D hr=>hr.ents (ok.2.2 x D).1 (QaK hs x D));have X:Sorted (z.flatMap (ents h)):=by rw[R];exact QaR hs k
 have I:∀x∈z,0<(ents h x).length:=λx D=>QbB h x (h1 x D).1 (by have:=(h1 x D).2;omega)
 have hk:Kids w6 (Up F w w6) h z:=⟨λb hb=>hb.elim (λh=>ab (hF b h) N.size) λh=>h.2,hI,QdT X I,I,λx D=>by have:=Qdn (h1 x D).1;omega,by
  unfold cnt;rw[R];have h5:(Qb2 (t.2.flatMap (ents h)) k).length<=(t.2.flatMap (ents h)).length:=(Qba _ k).length_le;have h6:(t.2.flatMap (ents h)).length<=1000000:=hc;omega,by omega⟩
 refine(Qct ((fE J).mono λi hi=>hi.2) rfl hk (by omega) (by omega)).mono ?_;rintro e w' ⟨c,rfl,Y,U,Z,D⟩;refine⟨N.trans D,.inr ⟨by omega,c,Y,aj N.size U,rfl,Z.mono λi hi=>?_⟩⟩;rcases hi with(hi|hi)|hi
 .exact .inl hi
 .exact .inr ⟨hi.1,ab hi.2 D.size⟩
 exact .inr ⟨Nat.le_trans N.size hi.1,hi.2⟩
theorem QfP{k:ByteArray}
  (ih:∀(w:World) (F:Nat->Prop) (t:PT h),(∀b,F b->b<w)->IsN w F h t->OkT h t->4<=size h t->Sorted (ents h t)->(ents h t).length<=1000000->Calls prog 88 #[ptr h t,.string k] w (Qn2 F h t k w))
 {t:PT (h+1)} (hF:∀ b,F b→b<w) (hn:IsN w F (h+1) t) (ok:OkT (h+1) t) (hs:Sorted (ents (h+1) t)) (hc:(ents (h+1) t).length≤1000000) :
  Calls prog 88 #[ptr (h+1) t,.string k] w (Qsg F h t k w):=by
 have a6:=Qb3 ok;have hh:h+1<1000000:=ab (Qc2 (h+1) t ok (by have:=ok.1;show 1<=t.2.length;omega)) hc;obtain⟨z,I,hA,hC⟩:=Qbb (h:=h) (ks:=t.2) hs a6 (by have:=ok.1;omega) k;have R:=al I;have k4:=(ah.1 I).1;have k6:=ok.2.1;have k2:=ok.1;have b6:∀x∈t.2,IsN w F h x:=hn.2.choose_spec.2.2;have a8:(ents h z).length<=1000000:=aj (by
  show _<=(t.2.flatMap (ents h)).length;rw[QbU I];simp only[List.flatMap_append,List.flatMap_cons,List.length_append];omega) hc
 have d7:Qam (ents (h+1) t) k=Qam (ents h z) k:=Qge I hA hC;have a3:∀W,Ext w W->Calls prog 88 #[ptr h z,.string k] W (Qn2 F h z k W):=λW hW=>
  ih W F z (λb J=>ab (hF b J) hW.size) ((b6 z R).agree (hW.agree hF)) (ok.2.2 z R).1 (ok.2.2 z R).2 (QaK hs z R) a8
 have f8:∀B u,(Qam (ents (h+1) t) k).isSome=true->QiV B k h z u->OkT h u/\size h z<=size h u+1/\size h u<=size h z:=λB u hg hr=>hr.ok (ok.2.2 z R).1 (ok.2.2 z R).2 (QaK hs z R) (by rw[<-d7];exact hg)
 have HF:=hY hF;have HN:=hY hn;have HS:=hY hs;have HP:=hY a6;have j4:=hY a3;have j1:=hY b6;have X:=hY I;have i4:=hY d7;have a5:=hY ok;have HC:=hY hc;have j2:=hY f8;have n7:(((h:Int)+1)==0)=false:=eu.2 (by omega);clear hF hn ok hs hc a6 a3 b6 I hA hC ih a8 d7 f8;go_in;go_wp2_with fail;refine(QaO HN.o).mono ?_;rintro e w1 ⟨rfl,rfl⟩;have a8:=QcO HN.o (by omega);go_wp2_with fail;refine a8.mono ?_;rintro e w1 ⟨s',rfl,b0,c7⟩;have g8:Rd w1 (Lt w1) 1 s' t.2.length (ptrs h t.2):=(fE b0).mono λi hi=>hi.2
 have e8:=Qhk g8 (λx L=>(j1.o x L).agree (c7.agree HF.o)) (λb J=>ab (HF.o b J) c7.size) HP.o k HS.o (by omega);obtain⟨i,hi⟩:∃i,Qat h t.2 k=i:=⟨_,rfl⟩;rw[hi]at e8 k4;have HI:=hY hi;have j9:=hY e8;have e2:=hY b0;have k1:=hY c7;clear hi e8 b0 g8 a8 c7;go_wp2_with fail;refine j9.o.mono ?_;rintro e w2 ⟨rfl,d6⟩;have f1:=k1.o.trans d6;obtain⟨g,N,rfl,a9,n2,n4,i0⟩:=Qa2 e2.o (by omega);have c2:w2.ownsRow w.heap.size 39 1 (.slice (some ⟨g,0,none⟩) t.2.length N) t.2.length (ptrs h t.2):=Qae (s:=⟨some ⟨g,0,none⟩,N⟩) e2.o (d6.agree (F:=Lt w1) λ_ h=>h) λb J=>(Qaa e2.o J).2
 have j3:w2.cell? ⟨g,i,none⟩=some (ptr h z):=by
  have:=c2.cells (g:=g) rfl i (ptr h z) (by rw[ptrs,ao,<-HI.o,X.o];rfl);rwa[Qbu,aB]at this
 have l6:(i:Int)<(t.2.length:Int):=by omega
 have k8:g<w2:=(Qaa (s:=⟨some ⟨g,0,none⟩,N⟩) c2 rfl).2;have a3:=j4.o w2 f1;have j0:=hY c2;have b8:=hY f1;clear d6 c2 f1 i0;go_wp2_with fail;refine a3.mono ?_;rintro e w3 ⟨Y,(⟨hg,rfl⟩ |⟨hg,u,rfl,c4,g0⟩)⟩
 ·have k7:=hY (b8.o.trans Y)
  have HG:=hY hg;clear Y hg a3;go_wp2_with fail;go_ret2;exact⟨k7.o,.inl ⟨by rw[i4.o];exact HG.o,rfl⟩⟩
 have f0:(Qam (ents (h+1) t) k).isSome=true:=by rw[i4.o];exact hg
 obtain⟨ou,n9,l7⟩:=j2.o _ u f0 c4;have i8:3<=size h u:=by have:=(a5.o.2.2 z (al X.o)).2;omega
 have l4:size h u<=8:=Qdn ou;have l3:=Y.size;have i1:=b8.o.size;have d8:∀b,Up F w2 w3 b->b≠g:=λb J e=>by
  subst e;rcases J with J|J
  .have:=HF.o _ J;have a9:w<=b:=a9;omega
  omega
 have a1:w3.ownsRow w.heap.size 39 1 (.slice (some ⟨g,0,none⟩) t.2.length N) t.2.length (ptrs h t.2):=Qae (s:=⟨some ⟨g,0,none⟩,N⟩) j0.o (Y.agree (F:=Lt w2) λ_ h=>h) λb J=>(Qaa (s:=⟨some ⟨g,0,none⟩,N⟩) j0.o J).2
 have Z:=QbF a1 (i:=i) (by omega) (ptr h u);have e0:(ptrs h t.2).set i (ptr h u)=ptrs h (t.2.set i u):=by rw[ptrs,ptrs,bI]
 rw[e0]at Z;have j7:w3.cell? ⟨g,i,none⟩=some (ptr h z):=(Y.cell k8).trans j3;have l1:∀o,w3.frozen? ⟨g,o,none⟩=false:=by
  obtain⟨g',g6,e1,-,-,-,c9⟩:=Qa2 (s:=⟨some ⟨g,0,none⟩,N⟩) a1 (by omega);obtain⟨rfl,rfl⟩:g=g'/\N=g6:=by simpa using e1
  exact c9.frozen
 have i9:=(b8.o.trans Y).setCell (p:=⟨g,i,none⟩) a9 (ptr h u);have a7:Agree (Up F w2 w3) w3 (w3.setCell ⟨g,i,none⟩ (ptr h u)):=fA w3 ⟨g,i,none⟩ _ (λh=>d8 g h rfl);have e6:∀x∈t.2.set i u,IsN (w3.setCell ⟨g,i,none⟩ (ptr h u)) (Up F w2 w3) h x:=λx L=>by
  rcases bB L with L|rfl
  .exact (((j1.o x L).agree ((b8.o.trans Y).agree HF.o)).mono λb J=>.inl J).agree a7
  exact g0.agree a7
 have f3:=e6 u (List.mem_set (by omega) u);have f5:=Qgo f3 (by omega);have i3:(w3.setCell ⟨g,i,none⟩ (ptr h u)).heap.size=w3.heap.size:=by simp
 have d0:=c4.mono i1;have I:=X.o;rw[HI.o]at I;have g9:∀c3,((4<=size h u/\c3=t.2.set i u)\/(size h u<4/\QrN w.heap.size h (t.2.set i u) i c3))->Qmp w.heap.size k h (QiV w.heap.size k h) t.2 c3:=λc3 b6=>by
  refine⟨z,u,X.o,d0,?_⟩;rw[HI.o];exact b6
 have d5:(t.2.set i u).flatMap (ents h)=Qb2 (t.2.flatMap (ents h)) k:=by
  obtain⟨l5,e3,hA,hC⟩:=Qbb (h:=h) (ks:=t.2) HS.o HP.o (by omega) k;rw[X.o]at e3;simp only[Option.some.injEq]at e3;subst e3;rw[HI.o]at hA hC;rw[set_mid I];simp only[List.flatMap_append,List.flatMap_cons];have e1:=c4.ents (a5.o.2.2 z (al I)).1 (QaK HS.o z (al I))
  conv=>rhs;rw[QbU I]
  rw[aK,ba,Qig hA,QgG hC,e1]
 have g4:Sorted ((t.2.set i u).flatMap (ents h)):=by
  rw[d5];exact QaR HS.o k
 have c9:((t.2.set i u).flatMap (ents h)).length<=1000000:=by
  rw[d5];exact aj (Qba _ k).length_le HC.o
 have k9:=hY c9;have HU:=hY f5;have g5:=hY g9;have j5:=hY i9;have l0:=hY Z;have j8:=hY e6;have k3:=hY g4;have a4:=hY f0;have k0:=hY ou;have k5:=hY d8;have l8:g<w3:=by omega
 clear a3 hg c4 g0 f0 ou a1 Z e0 i9 a7 e6 f3 f5 d0 I g9 d5 g4 c9 Y d8;go_wp2_with fail;generalize j6:World.setCell _ _ _=W4 at *;refine HU.o.mono ?_;rintro e w5 ⟨rfl,q,rfl⟩;have i2:=j5.o.drewN q;have d3:Agree (Up F w2 w3) W4 (W4.drewN q):=fH W4 q;have i7:(W4.drewN q).ownsRow w.heap.size 39 1 (.slice (some ⟨g,0,none⟩) t.2.length N) t.2.length (ptrs h (t.2.set i u)):=l0.o;have f7:(W4.drewN q).heap.size=w3.heap.size:=i3;have f6:∀x∈t.2.set i u,IsN (W4.drewN q) (Up F w2 w3) h x:=λx L=>(j8.o x L).agree d3
 generalize W4.drewN q=W5 at *;have c8:=hY i2;have i6:=hY i7;have g3:=hY f6;have f2:=hY f7;have a2:(t.2.set i u).length=t.2.length:=by rw[bO]
 clear i2 d3 i7 f6 f7 j7 l1 i3 j6;by_cases h4:size h u<4
 ·have l2:(size h u:Int)<4:=by omega
  obtain⟨l,hl⟩:∃l,(t.2.set i u)[i-1]? = some l:=⟨_,ac (by omega)⟩;obtain⟨r,hr⟩:∃r,(t.2.set i u)[i-1+1]? = some r:=⟨_,ac (by omega)⟩;have b3:∀x∈t.2.set i u,OkT h x/\3<=size h x:=λx L=>by
   rcases bB L with L|rfl
   .exact ⟨(a5.o.2.2 x L).1,by have:=(a5.o.2.2 x L).2;omega⟩
   exact⟨k0.o,i8⟩
  have d4:size h l+size h r<=11:=by
   have h8:∀x∈t.2.set i u,size h x<=8:=λx L=>Qdn (b3 x L).1
   have n8:=h8 l (al hl);have l9:=h8 r (al hr);have g7:(t.2.set i u)[i]? = some u:=by rw[cO (by omega)]
   by_cases h0:i=0
   ·subst h0
    rw[g7]at hl;simp only[Option.some.injEq]at hl;subst hl;omega
   rw[show i-1+1=i from by omega,g7]at hr;simp only[Option.some.injEq]at hr;subst hr;omega
  have a0:=Qrf (w:=W5) (F:=Up F w2 w3) (base:=w) (s:=⟨some ⟨g,0,none⟩,N⟩) (i:=i) (ks:=t.2.set i u) (l:=l) (r:=r)
   ⟨by rw[a2];exact i6.o,c8.o.size,λb J=>⟨by rw[f2.o];exact J.elim (λh=>by have:=HF.o b h;have:=b8.o.size;omega) λh=>h.2,λe=>by simp[Sl.row]at e;exact k5.o b J e.symm⟩,g3.o,b3,hl,hr,d4,k3.o,by
     have:=k9.o;omega,by omega,by omega⟩
  rw[a2]at a0;have HM:=hY a0;clear hl hr b3 d4 a0;go_wp2_with fail;refine HM.o.mono ?_;rintro e w6 ⟨s6,c6,rfl,c1,f4,f9,c0⟩;have i5:Ext w w6:=c8.o.step c0 (λb J=>by simp only[Sl.row,Option.map_some,Option.some.injEq]at J;have a9:w<=g:=a9;omega);have D:=g5.o c6 (.inr ⟨h4,f4.mono c8.o.size⟩);have b7:∀x∈c6,IsN w6 (Up F w w6) h x:=λx L=>(f9 x L).mono λb J=>by
   have hz:=f2.o;have n6:=c0.size;rcases J with(J|J)|J
   .exact .inl J
   .exact .inr ⟨by omega,by omega⟩
   exact .inr ⟨by omega,J.2⟩
  have U:=Qhm HF.o a5.o HS.o HC.o hh a4.o i5 c1 D b7;have HD:=hY D;have HE:=hY U;clear c1 f4 f9 c0 i5 D b7 U;go_wp2_with fail;refine HE.o.mono ?_;rintro e w7 ⟨L,(⟨v,hv,rfl,b5⟩ |⟨hv,c,e7,e4,rfl,b4⟩)⟩
  ·have H1:=hY L
   have H2:=hY b5;clear L b5;go_wp2_with fail;go_ret2;exact⟨H1.o,.inr ⟨a4.o,c6,HD.o,.inl ⟨v,hv,rfl,H2.o⟩⟩⟩
  have H1:=hY L;have H2:=hY b4;clear L b4;go_wp2_with fail;go_ret2;exact⟨H1.o,.inr ⟨a4.o,c6,HD.o,.inr ⟨hv,c,e7,e4,rfl,H2.o⟩⟩⟩
 have l2:¬(size h u:Int)<4:=by omega
 have D:=g5.o _ (.inl ⟨by omega,rfl⟩);have b7:∀x∈t.2.set i u,IsN W5 (Up F w W5) h x:=λx L=>(g3.o x L).mono λb J=>by
  have hz:=f2.o;rcases J with J|J
  .exact .inl J
  exact .inr ⟨by omega,by omega⟩
 have U:=Qhm (s6:=⟨some ⟨g,0,none⟩,N⟩) HF.o a5.o HS.o HC.o hh a4.o c8.o (by rw[a2];exact i6.o) D b7;rw[a2]at U;have HD:=hY D;have HE:=hY U;clear D b7 U;go_wp2_with fail;refine HE.o.mono ?_;rintro e w7 ⟨L,(⟨v,hv,rfl,b5⟩ |⟨hv,c,e7,e4,rfl,b4⟩)⟩
 ·have H1:=hY L
  have H2:=hY b5;clear L b5;go_wp2_with fail;go_ret2;exact⟨H1.o,.inr ⟨a4.o,_,HD.o,.inl ⟨v,hv,rfl,H2.o⟩⟩⟩
 have H1:=hY L;have H2:=hY b4;clear L b4;go_wp2_with fail;go_ret2;exact⟨H1.o,.inr ⟨a4.o,_,HD.o,.inr ⟨hv,c,e7,e4,rfl,H2.o⟩⟩⟩
theorem Qhl{k:ByteArray}:∀(h:Nat) (w:World) (F:Nat->Prop) (t:PT h),(∀b,F b->b<w)->IsN w F h t->OkT h t->4<=size h t->Sorted (ents h t)->(ents h t).length<=1000000->Calls prog 88 #[ptr h t,.string k] w (Qn2 F h t k w)
 | 0,w,F,t,hF,hn,ok,J,hs,hc=>by
   refine(Qd3 ⟨_,rfl⟩ (QaO hn) (Qbh (hn.mono hF)) hs (show t.2.length<=8 from ok) k).mono ?_;rintro e w' ⟨I,(⟨z,rfl⟩ |⟨z,u,rfl,hu,L,D⟩)⟩
   .exact ⟨I,.inl ⟨z,rfl⟩⟩
   exact⟨I,.inr ⟨z,u,rfl,⟨hu,L⟩,D.mono λi hi=>.inr hi⟩⟩
 | h+1,w,F,t,hF,hn,ok,J,hs,hc=>by
   refine(QfP (Qhl (k:=k) h) hF hn ok hs hc).mono ?_;rintro e w' ⟨I,(⟨z,rfl⟩ |⟨z,N,hd,h2⟩)⟩
   .exact ⟨I,.inl ⟨z,rfl⟩⟩
   have J:4<=t.2.length:=J;have:=(QdH hd ok hs z).2.2;rcases h2 with⟨u,rfl,-,-⟩ |⟨-,c,rfl,L,rfl,D⟩
   .simp only[List.length_cons,List.length_nil]at this;omega
   exact⟨I,.inr ⟨z,c,rfl,⟨hd,L⟩,D⟩⟩
def Qn3(F:Nat->Prop)(T:RT)(k:ByteArray)(w:World)(e:Ending)(w':World):Prop:=
 Ext w w'/\((Qam (Qab T) k=none/\e=.returned (.tuple #[Qay T,.bool false]))\/
  ((Qam (Qab T) k).isSome=true∧∃ (h:Nat) (u:PT h),e=.returned (.tuple #[ptr h u,.bool true])∧IsN w' (Up F w w') h u∧
    ((ents h u=[]/\Qkp w.heap.size k T none)\/(0<(ents h u).length/\Qkp w.heap.size k T (some ⟨h,u⟩)))))
variable{T:RT}
theorem Qkn(hF:∀b,F b->b<w)(hT:IsT w F T)(ok:OkR T)(U:(Qab T).length<=1000000)(k:ByteArray) :
  Calls prog 88 #[Qay T,.string k] w (Qn3 F T k w):=by
 match T,hT,ok,U with
 | none,_,_,_=>
   refine(Qd3 (nv:=.pointer none) (es:=[]) ⟨none,rfl⟩ (Qd8 w) ((Qey w).mono ?_) List.Pairwise.nil (by simp) k).mono ?_
   ·rintro e w' ⟨rfl,rfl⟩
    exact⟨Sl.none,[],rfl,rfl,OE.nil _ _,fu _⟩
   rintro e w' ⟨I,(⟨z,rfl⟩ |⟨z,u,rfl,hu,R,D⟩)⟩
   .exact ⟨I,.inl ⟨z,rfl⟩⟩
   simp[Qam]at z
 | some ⟨0,t⟩,J,ok,U=>
   have J:IsN w F 0 t:=J;refine(Qd3 ⟨_,rfl⟩ (QaO J) (Qbh (J.mono hF)) ok.2.2 (show t.2.length<=8 from ok.1) k).mono ?_;rintro e w' ⟨I,(⟨z,rfl⟩ |⟨z,u,rfl,hu,R,D⟩)⟩
   .exact ⟨I,.inl ⟨z,rfl⟩⟩
   refine⟨I,.inr ⟨z,0,u,rfl,D.mono λi hi=>.inr hi,?_⟩⟩;by_cases X:ents 0 u=[]
   .exact .inl ⟨X,.gone z ⟨hu,R⟩ X⟩
   have:=List.length_pos_iff.2 X;exact .inr ⟨this,.same z ⟨hu,R⟩ this (.inl rfl)⟩
 | some ⟨h+1,t⟩,J,ok,U=>
   refine(QfP (Qhl (k:=k) h) hF J ok.1 ok.2.2 U).mono ?_;rintro e w' ⟨I,(⟨z,rfl⟩ |⟨z,a0,hd,h2⟩)⟩
   .exact ⟨I,.inl ⟨z,rfl⟩⟩
   have N:=(QdH hd ok.1 ok.2.2 z).1;rcases h2 with⟨u,rfl,rfl,D⟩ |⟨hl,c,rfl,R,rfl,D⟩
   ·have:=N u (br.2 rfl)
    exact⟨I,.inr ⟨z,h,u,rfl,D,.inr ⟨QbB h u this.1 (by omega),.down z hd⟩⟩⟩
   have Y:0<(ents (h+1) c).length:=by
    obtain⟨x,L⟩:=List.exists_mem_of_length_pos (show 0<c.2.length by omega);have h1:=N x L;have h2:=QbB h x h1.1 (by omega);show 0<(c.2.flatMap (ents h)).length;obtain⟨e,Z⟩:=List.exists_mem_of_length_pos h2;exact List.length_pos_of_mem (ct.2 ⟨x,L,Z⟩)
   exact⟨I,.inr ⟨z,h+1,c,rfl,D,.inr ⟨Y,.same z ⟨hd,R⟩ Y (.inr hl)⟩⟩⟩
def Qsb(F:Nat->Prop)(T:RT)(k:ByteArray)(w:World)(e:Ending)(w':World):Prop:=
 ∃T',e=.returned (.tuple #[Qau T',.bool (Qam (Qab T) k).isSome])/\Qkp w.heap.size k T T'/\IsT w' (Up F w w') T'/\Ext w w'
theorem QmJ(hF:∀b,F b->b<w)(hT:IsT w F T)(ok:OkR T)(hc:(Qab T).length<=1000000)(k:ByteArray) :
  Calls prog 51 #[Qau T,.string k] w (Qsb F T k w):=by
 have X:∀W,Ext w W->Calls prog 88 #[Qay T,.string k] W (Qn3 F T k W):=λW hW=>
  Qkn (λb hb=>ab (hF b hb) hW.size) (hT.agree (hW.agree hF)) ok hc k
 have Y:∀W,Ext w W->Calls prog 58 #[Qay T] W λe w'=>e=.returned (.int .i64 (Qab T).length)/\W=w':=λW hW=>Qfj (hT.agree (hW.agree hF))
 have U:Qab T=[]->T=none:=λz=>by
  match T,ok,z with
  |none,_,_=>rfl
  |some ⟨h,t⟩,ok,z=>have:=QbB h t ok.1 ok.2.1;have z:ents h t=[]:=z;rw[z]at this;cases this
 have c4:∃p,Qay T=.pointer p:=Qaq T;obtain⟨rp,J⟩:=c4;rw[J]at X Y;have HW:=hY X;have c8:=hY Y;have HF:=hY hF;have d0:=hY ok;have HT:=hY hT;have a9:=hY U;have c1:=hY J;clear hF hT ok X Y U;rw[Qau,J];clear J;go_in;go_wp2_with fail;have Z:Ext w ((w.alloc (.cells #[.pointer rp] 41)).alloc (.cells #[.pointer none] 41)):=((fu w).alloc _ _).alloc _ _;have b4:Blk ((w.alloc (.cells #[.pointer rp] 41)).alloc (.cells #[.pointer none] 41)) (w.heap.size+1) 41 #[.pointer none]:=by
  have:=fx (w.alloc (.cells #[.pointer rp] 41)) 41 #[.pointer none];simpa using this
 generalize a5:World.alloc _ _=W3 at *;have c7:W3.heap.size=w.heap.size+1+1:=by rw[<-a5];simp
 clear a5;refine(HW.o _ Z).mono ?_;rintro e I ⟨a1,b5⟩;have L:=b4.ext a1;have b0:=Z.trans a1;have q4:I.cell? ⟨w+1,0,none⟩=some (.pointer none):=L.cell 0;have f4:=L.frozen 0;have c9:=L.lt;have HX:=hY b0;have a6:∀W',¬Up F W3 W' (w.heap.size+1):=λW' hf=>by
  rcases hf with hf|hf
  .have:=HF.o _ hf;omega
  have:=hf.1;omega
 have b7:=hY a6;have a0:w.heap.size<=W3.heap.size:=by omega
 clear b4 L b0 Z a1 a6;have a8:∃D b,e=.returned (.tuple #[Qay D,.bool b])/\b=(Qam (Qab T) k).isSome/\IsT I (Up F W3 I) D/\((Qab D).length=0->Qkp w.heap.size k T none)/\((Qab D).length≠0->Qkp w.heap.size k T D):=by
  rcases b5 with⟨hg,rfl⟩ |⟨hg,h,u,rfl,b8,hd⟩
  ·refine ⟨T,false,by rw [c1.o],by rw [hg];rfl,(HT.o.agree (HX.o.agree HF.o)).mono fun i hi=>.inl hi,fun z=>?_,fun _=>.no hg⟩
   have:=a9.o (ar z);subst this;exact .no hg
  refine⟨some ⟨h,u⟩,true,rfl,hg.symm,b8,λz=>?_,λz=>?_⟩
  .exact (hd.resolve_right λhc=>by have z:(ents h u).length=0:=z;omega).2.mono a0
  exact(hd.resolve_left λh=>z (by show(ents _ u).length=0;rw[h.1];rfl)).2.mono a0
 obtain⟨D,b,rfl,hb,a2,a7,b3⟩:=a8;have a3:=Qfj a2;obtain⟨p1,N⟩:=Qaq D;have R:∀W',Agree (Up F W3 I) I W'->I.heap.size<=W'.heap.size->IsT W' (Up F w W') D:=λW' ha hs=>(a2.agree ha).mono λi hi=>hi.elim .inl λhi=>.inr ⟨Nat.le_trans a0 hi.1,ab hi.2 hs⟩
 rw[N]at a3;have c0:=hY N;have c6:=hY a3;have HB:=hY hb;have a4:=hY R;have b6:=hY a7;have c3:=hY b3;rw[N];clear b5 N a3 hb R a7 b3 a2;go_wp2_with fail;refine c6.o.mono ?_;rintro e w5 ⟨rfl,rfl⟩;by_cases z:(Qab D).length=0
 ·have c2:(((Qab D).length:Int) == 0)=true:=by simp [z]
  go_wp2_with fail;have q0:(I.setCell ⟨w+1,0,none⟩ (.pointer none)).cell? ⟨w+1,0,none⟩=some (.pointer none):=eM I _ _ q4;refine eD (v:=.tuple #[Qau none,.bool b]) (by simp[results,results51,go_sem,q0];rfl) rfl ?_;rw[HB.o];exact⟨none,rfl,b6.o z,trivial,HX.o.setCell (p:=⟨w+1,0,none⟩) (by show w.heap.size<=w.heap.size+1;omega) _⟩
 have c2:(((Qab D).length:Int)==0)=false:=eu.2 (by omega);go_wp2_with fail;have q0:(I.setCell ⟨w+1,0,none⟩ (.pointer p1)).cell? ⟨w+1,0,none⟩=some (.pointer p1):=eM I _ _ q4;refine eD (v:=.tuple #[Qau D,.bool b]) (by rw[Qau,c0.o];simp[results,results51,go_sem,q0]) rfl ?_;rw[HB.o];exact⟨D,rfl,c3.o z,a4.o _ (fA I ⟨w+1,0,none⟩ _ (b7.o I)) (by simp),HX.o.setCell (p:=⟨w+1,0,none⟩) (by show w.heap.size<=w.heap.size+1;omega) _⟩
variable{P:Program}
theorem Qjq(w:World){z D:TypeId}(a:Addr)(I:P.underlying z=some (.pointer D)) :
  (binOp .eql z (.pointer none) (.pointer (some a))).run P w=.ok (.bool false) w:=by
 have h:∀d:Nat,(Op.equalIn (d+1) z (.pointer none) (.pointer (some a))).run P w=.ok false w:=λd=>by
  simp[Op.equalIn,run_underlying I]
 simp only[binOp];simp[Op.equal,Op.maxDepth,h 9999]
theorem QoY:∃j,prog.info? 144=some j/\j.size≠0:=by
 have h:((prog.info? 144).map λi=>decide (i.size≠0))=some true:=by kernel_rfl
 cases z:prog.info? 144 with
 |none=>rw[z]at h;cases h
 |some j=>rw[z]at h;exact⟨j,rfl,by simpa using h⟩
theorem QkQ(w:World)(p:Option Addr):Calls prog 29 #[.agg #[.pointer p],.agg #[.pointer p]] w λe w'=>e=.returned (.bool true)/\Ext w w':=by
 obtain⟨j,z,-⟩:=QoY;cases p with
 | none=>
   go_in;go_wp2_with fail;go_ret;exact⟨rfl,((fu w).alloc _ _).alloc _ _⟩
 | some a=>
   have hs:=λW=>run_eql_ptr_same (P:=prog) W a underlying39 z
   go_in;go_wp2_with fail;go_ret;exact⟨rfl,((fu w).alloc _ _).alloc _ _⟩
def Qmq(w:World)(p:Option Addr):Prop:=∀a,p=some a->∃c t,w.heap[a.block]? = some (.cells c t (0,0))
variable{w':World}
theorem Qmq.ext{p:Option Addr}(h:Qmq w p)(D:Ext w w'):Qmq w' p:=λa e=>by
 obtain⟨c,t,z⟩:=h a e;have I:a.block<w.heap.size:=(aA.1 z).1;exact⟨c,t,(D.heap I).trans z⟩
theorem Qtr(w:World)(p q:Option Addr)(J:Qmq w p)(N:Qmq w q):Calls prog 29 #[.agg #[.pointer p],.agg #[.pointer q]] w λe w'=>e=.returned (.bool (decide (p=q)))/\Ext w w':=by
 by_cases z:p=q
 .subst z;rw[ej rfl];exact QkQ w p
 rw[eh z];obtain⟨j,U,X⟩:=QoY;cases q with
 | none=>
   cases p with
   |none=>exact absurd rfl z
   | some a=>
     go_in;go_wp2_with fail;go_ret;exact⟨rfl,((fu w).alloc _ _).alloc _ _⟩
 | some b=>
   cases p with
   | none=>
     have hs:=λW=>Qjq (P:=prog) W b underlying39
     go_in;go_wp2_with fail;go_ret;exact⟨rfl,((fu w).alloc _ _).alloc _ _⟩
   | some a=>
     have L:=((fu w).alloc #[.pointer (some a)] 41).alloc #[.pointer (some b)] 41;obtain⟨ca,Z,I⟩:=(J.ext L) a rfl;obtain⟨cb,Y,R⟩:=(N.ext L) b rfl;have D:a≠b:=λe=>z (by rw[e])
     have hs:=run_eql_ptr_other (P:=prog) _ underlying39 U X D I R;clear J N z I R;go_in;go_wp2_with fail;go_ret;exact⟨rfl,((fu w).alloc _ _).alloc _ _⟩
open Go.Maps
structure Sb(H:Nat->Prop)(w w':World):Prop where
 os:w'.os=w.os
 tape:w'.tape=w.tape
 output:w'.output=w.output
 size:w.heap.size<=w'.heap.size
 block:∀b,b<w.heap.size->¬H b->w'.heap[b]? = w.heap[b]?
variable{H:Nat->Prop}
theorem St.sb(h:St H w w'):Sb H w w':=⟨h.os,h.tape,h.output,h.size,h.block⟩
theorem Ext.sb(h:Ext w w')(H:Nat->Prop):Sb H w w':=(h.st H).sb
theorem Sb.refl(H:Nat->Prop)(w:World):Sb H w w:=(fu w).sb H
theorem Sb.trans{a b c:World}(h:Sb H a b)(k:Sb H b c):Sb H a c:=
 ⟨k.os.trans h.os,k.tape.trans h.tape,k.output.trans h.output,aj h.size k.size,λi hi z=>(k.block i (ab hi h.size) z).trans (h.block i hi z)⟩
theorem Sb.comp{a b c:World}(h:Sb H a b)(k:Sb G b c)(D:∀i,i<a.heap.size->G i->H i):Sb H a c:=
 ⟨k.os.trans h.os,k.tape.trans h.tape,k.output.trans h.output,aj h.size k.size,λi hi z=>(k.block i (ab hi h.size) λI=>z (D i hi I)).trans (h.block i hi z)⟩
theorem Sb.mono{a b:World}(h:Sb H a b)(D:∀i,i<a.heap.size->H i->G i):Sb G a b:=
 ⟨h.os,h.tape,h.output,h.size,λi hi z=>h.block i hi λI=>z (D i hi I)⟩
theorem Sb.of_below(h:Below n w w'):Sb (λb=>n<=b) w w':=⟨h.os,h.tape,h.output,h.size,λb _ z=>h.block b (by omega)⟩
theorem Sb.new(h:Below w.heap.size w w'):Sb H w w':=(Sb.of_below h).mono λi hi z=>by omega
theorem Sb.cell(h:Sb H w w'){b o:Nat}(D:b<w)(z:¬H b):w'.cell? ⟨b,o,none⟩=w.cell? ⟨b,o,none⟩:=
 eS (w:=w) (a:=⟨b,o,none⟩) (h.block b D z)
variable{g:Nat}
theorem Sb.blk{t:TypeId}{cs:Array Value}(h:Sb H w w')(z:Blk w g t cs)(D:¬H g):Blk w' g t cs:=(h.block g z.lt D).trans z
theorem Sb.agree(h:Sb H w w'):Agree (NH H w) w w':=λb z=>h.block b z.1 z.2
theorem Sb.ext{a b c:World}(h:Sb H a b)(k:Ext b c):Sb H a c:=h.trans (k.sb H)
theorem Sb.drew{a w:World}(h:Sb H a w):Sb H a w.drew:=h.ext ((fu w).drew)
theorem Sb.set{a w:World}(h:Sb H a w){p:Addr}(z:a.heap.size<=p.block\/H p.block)(u:Value):Sb H a (w.setCell p u):=
 ⟨h.os,h.tape,h.output,by simpa[World.setCell]using h.size,λi hi D=>(eP w p u i (by
   rintro rfl;rcases z with z|z
   .omega
   exact D z)).trans (h.block i hi D)⟩
theorem Sb.grown{b:Nat}(h:w.grownBy w' (some b)):Sb (λi=>i=b) w w':=
 ⟨h.os,h.tape,h.output,h.size,λi hi z=>h.block i hi (by intro e;injection e with e;exact z e)⟩
theorem Sb.made(h:w.grownBy w' none):Sb H w w':=⟨h.os,h.tape,h.output,h.size,λi hi z=>h.block i hi (by simp)⟩
theorem QbI{H:Type}{k:TypeId}{R:Value->Option (DataW H × List MemPlace)}{b n:Nat}{D:DataW H}(h:w.ownsMap P k R b n D)(L:w'.heap[b]? = w.heap[b]?):w'.ownsMap P k R b n D:=by
 obtain⟨J,z,h1,F,h2,I⟩:=h;exact⟨J,z,L.trans h1,F,h2,I⟩
theorem MapAt.sb{M:Nat}{es:List Ent}(h:MapAt H w M es)(k:Sb G w w')(D:∀b,G b->H b)(I:¬G M):MapAt H w' M es:=by
 obtain⟨N,s,xs,z,hs,L⟩:=h;exact⟨N,s,xs,k.blk z I,(hs.agree λb z=>k.block b z.1 λJ=>z.2 (D b J)).mono λb z=>⟨Nat.lt_of_lt_of_le z.1 k.size,z.2⟩,L⟩
theorem QcP{base e size n m:Nat}{xs:List Value}{t:TypeId}{cs:Array Value}(R:w.ownsRow base e size (.slice s.a n s.c) n xs)(U:Blk w m t cs)(I:e≠t):¬s.row=some m:=λz=>by
 rcases R.2 with⟨D,-⟩ |⟨J,cap,L,D,-,N,-⟩
 ·injection D with e1
  rw[Sl.row,e1]at z;cases z
 injection D with e1;rw[Sl.row,e1]at z;have:J=m:=by simpa using z
 subst this;have h2:w.heap[J]? = some (.cells cs t (0,0)):=U;rw[N]at h2;injection h2 with h2;injection h2 with h3 h4;exact I h4
abbrev fB:=@Sb.refl
structure OD where
 T:RT
 mb:Option Nat
 s:Sl
 us:List UD
 Hs:List (AL SV)
 C:AL SV
def OvB(O:Nat)(d:OD):Nat->Prop:=λb=>b=O\/d.mb=some b\/d.s.row=some b
def OvF(H:Nat->Prop)(w:World)(O:Nat)(d:OD):Nat->Prop:=λb=>b<w.heap.size/\¬OvB O d b/\¬H b
theorem Qcj(w:World)(F:Nat->Prop):RV w F zeroV Sl.none Sl.none:=RV.flat _ _ _ _ _ _ (by decide) (by decide) (by decide)
def Qkv(w:World)(F:Nat->Prop)(s:SV):Prop:=RV w F s.v s.sl s.so/\(s.has=false->s.v=zeroV)
theorem Qkv.agree{s:SV}(h:Qkv w F s)(z:Agree F w w'):Qkv w' F s:=⟨h.1.agree z,h.2⟩
theorem Qkv.mono{s:SV}(h:Qkv w F s)(z:∀i,F i->G i):Qkv w G s:=⟨h.1.mono z,h.2⟩
def Qh7(w:World)(F:Nat->Prop)(O:Nat)(u:UD)(v:Value):Prop:=
 ∃(bw bd bo bk:Nat) (o:SV),v=.func (.func 69) #[] #[.pointer (some ⟨bw,0,none⟩),.pointer (some ⟨bd,0,none⟩),.pointer (some ⟨bo,0,none⟩),.pointer (some ⟨bk,0,none⟩)]/\
  (F bw/\F bd/\F bo/\F bk)/\Blk w bw 4 #[.bool u.old.isSome]/\Blk w bd 87 o.cells/\(∀x,u.old=some x->x=o)/\Blk w bo 36 #[.pointer (some ⟨O,0,none⟩)]/\Blk w bk 9 #[.string u.k]
variable{O:Nat}
theorem Qh7.agree{u:UD}{v:Value}(h:Qh7 w F O u v)(z:Agree F w w'):Qh7 w' F O u v:=by
 obtain⟨R,Z,U,bk,o,h1,⟨I,D,L,J⟩,h2,N,Y,X,h6⟩:=h;exact⟨R,Z,U,bk,o,h1,⟨I,D,L,J⟩,h2.agree z I,N.agree z D,Y,X.agree z L,h6.agree z J⟩
theorem Qh7.mono{u:UD}{v:Value}(h:Qh7 w F O u v)(z:∀i,F i->G i):Qh7 w G O u v:=by
 obtain⟨D,L,X,U,o,h1,⟨R,I,N,J⟩,r⟩:=h;exact⟨D,L,X,U,o,h1,⟨z _ R,z _ I,z _ N,z _ J⟩,r⟩
def Qbt(w:World)(mb:Option Nat)(C:AL SV):Prop:=match mb with
 |none=>C=[]
 |some b=>w.ownsMap prog 9 QeZ b C.length (mapA SV.val C)
variable{C:AL SV}
theorem Qbt.heap{mb:Option Nat}(h:Qbt w mb C)(z:∀b,mb=some b->w'.heap[b]? = w.heap[b]?):Qbt w' mb C:=by
 cases mb with
 |none=>exact h
 |some b=>exact QbI h (z b rfl)
theorem Qbt.lt{mb:Option Nat}(h:Qbt w mb C){b:Nat}(z:mb=some b):b<w:=by
 subst z;exact World.ownsMap.lt h
theorem Qe7{b n:Nat}(h:w.ownsMap prog 9 QeZ b n (mapA SV.val C)):w.ownsMap prog 9 QeZ b C.length (mapA SV.val C):=by
 obtain⟨I,z,h1,F,h2,D⟩:=h;refine⟨I,z,h1,F,?_,D⟩;have:=congrArg Maps.size D;rw[Qj7]at this;simp[Maps.size,length_sorted]at this;omega
def Qt4(w:World)(F:Nat->Prop)(O:Nat)(s:Sl)(us:List UD):Prop:=
 ∃xs:List Value,xs.length=us.length/\w.ownsRow 0 1 1 (.slice s.a us.length s.c) us.length xs/\∀(i:Nat) (u:UD) (v:Value),us[i]? = some u->xs[i]? = some v->Qh7 w F O u v
structure QcW(H:Nat->Prop)(w:World)(O:Nat)(d:OD):Prop where
 blk:Blk w O 80 #[Qay d.T,.map d.mb,.slice d.s.a d.us.length d.s.c]
 map:Qbt w d.mb d.C
 row:Qt4 w (OvF H w O d) O d.s d.us
 vals:∀p∈d.C,p.1.size<=maxLen/\Qkv w (OvF H w O d) p.2
 olds:∀u∈d.us,u.k.size<=maxLen/\∀o,u.old=some o->Qkv w (OvF H w O d) o
 hist:Chain d.us d.Hs
 h0:d.Hs[0]? = some []
 last:d.Hs[d.us.length]? = some d.C
 sorted:Qav d.C
 tree:IsT w (OvF H w O d) d.T
 ok:OkR d.T
 ne:d.mb≠some O/\d.s.row≠some O/\∀b,d.mb=some b->d.s.row≠some b
 out:∀b,OvB O d b->¬H b
 some_:d.us≠[]->∃b,d.mb=some b
theorem Chain.short{z:List UD}{D:List (AL SV)}(h:Chain z D)(I:D[0]? = some []):∀(i:Nat) (C:AL SV),D[i]? = some C->C.length<=i
 |0,C,hC=>by rw[I]at hC;injection hC with hC;subst hC;exact an _
 | i+1,C,hC=>by
   have hi:i<z.length:=by have:=(ah.1 hC).1;have:=h.len;omega
   obtain⟨J,s,h1,h2,N,L⟩:=h.step i _ (ac hi);rw[L]at hC;injection hC with hC;subst hC;have:=h.short I i J h1;have:=Qrx (C:=J) (k:=(z[i]'hi).k) (v:=s);omega
section
variable{H : Nat -> Prop}{w w' : World}{O : Nat}{d : OD}
theorem QcW.few(h:QcW H w O d):d.C.length<=d.us.length:=h.hist.short h.h0 _ _ h.last
theorem QcW.Qj4(h:QcW H w O d){b:Nat}(z:d.s.row=some b):b<w:=by
 obtain⟨xs,-,h2,-⟩:=h.row;exact(Qaa h2 z).2
theorem QcW.Qbe(h:QcW H w O d){b:Nat}(z:OvB O d b):b<w:=by
 rcases z with rfl|z|z
 .exact h.blk.lt
 .exact h.map.lt z
 exact h.Qj4 z
theorem QcW.sb{G:Nat->Prop}(h:QcW H w O d)(k:Sb G w w')(L:∀b,G b->H b):QcW H w' O d:=by
 have D:Agree (OvF H w O d) w w':=λb z=>k.block b z.1 λhh=>z.2.2 (L b hh)
 have I:∀i,OvF H w O d i->OvF H w' O d i:=λi hi=>⟨Nat.lt_of_lt_of_le hi.1 k.size,hi.2⟩
 have J:∀b,OvB O d b->¬G b:=λb z Y=>h.out b z (L b Y)
 obtain⟨xs,Z,R,X⟩:=h.row;exact⟨k.blk h.blk (J O (.inl rfl)),h.map.heap λb z=>k.block b (h.map.lt z) (J b (.inr (.inl z))),
  ⟨xs,Z,Qae R k.agree λb z=>⟨h.Qj4 z,J b (.inr (.inr z))⟩,λi u v hu U=>((X i u v hu U).agree D).mono I⟩,
  λp N=>⟨(h.vals p N).1,((h.vals p N).2.agree D).mono I⟩,λu hu=>⟨(h.olds u hu).1,λo ho=>(((h.olds u hu).2 o ho).agree D).mono I⟩,
  h.hist,h.h0,h.last,h.sorted,(h.tree.agree D).mono I,h.ok,h.ne,h.out,h.some_⟩
theorem QcW.ext(h:QcW H w O d)(k:Ext w w'):QcW H w' O d:=h.sb (k.sb λ_=>False) λ_ z=>z.elim
theorem QcW.more{G:Nat->Prop}(h:QcW H w O d)(I:∀b,b<w.heap.size->G b->H b):QcW G w O d:=by
 have z:∀i,OvF H w O d i->OvF G w O d i:=λi hi=>⟨hi.1,hi.2.1,λD=>hi.2.2 (I i hi.1 D)⟩
 obtain⟨xs,X,N,U⟩:=h.row;exact⟨h.blk,h.map,⟨xs,X,N,λi u v hu R=>(U i u v hu R).mono z⟩,λp J=>⟨(h.vals p J).1,(h.vals p J).2.mono z⟩,
  λu hu=>⟨(h.olds u hu).1,λo Y=>((h.olds u hu).2 o Y).mono z⟩,h.hist,h.h0,h.last,h.sorted,h.tree.mono z,h.ok,h.ne,λb L D=>h.out b L (I b (h.Qbe L) D),h.some_⟩
end
theorem Qfc:Keyed prog 9:=string_keyed underlying9
theorem Qs7(k:ByteArray)(z:k.size<=maxLen):keyOf prog 9 (.string k)=some (QfF k):=Go.WideMaps.keyOf_string_mk underlying9 z
structure QnP(H:Nat->Prop)(w:World)(O:Nat)(d d':OD)(w':World):Prop where
 at_:QcW H w' O d'
 sb:Sb (OvB O d) w w'
 new:∀b,OvB O d' b->OvB O d b\/w.heap.size<=b
abbrev Qh4:SV:=⟨false,zeroV,Sl.none,Sl.none⟩
theorem Qgq(w:World):(zeroValue 87).run prog w=.ok Qh4.val w:=by kernel_rfl
theorem Tryz.Qtq:(prog.info? 1).map (λi=>(i.zero,i.size,i.bytes))=some (some Value.nilFunc,1,8):=by kernel_rfl
def Qir(C:AL SV)(k:ByteArray):SV:=(Qa5 C k).getD Qh4
theorem QkV{mb:Option Nat}(L:Qbt W mb C){k:ByteArray}(J:k.size<=maxLen) :
  (Instr.lookup 77 (.map mb) (.string k) true).run prog W=.ok (.tuple #[(Qir C k).val,.bool (Qa5 C k).isSome]) W:=by
 cases mb with
 | none=>
   have N:C=[]:=L;subst N;rw[Maps.look_nil true Qfc underlying77 (Qgq W) (Qs7 k J)];rfl
 | some b=>
   obtain⟨v,R,D,z⟩:=World.ownsMap.look_ok L Qfc underlying77 (Qgq W) (zd:=.held Qh4.val) (zp:=[]) rfl (Qs7 k J);rw[Qgv]at z;rw[D,QlH];unfold Qir;cases I:Qa5 C k with
   |none=>rw[I]at z;rw[Qe0 z];rfl
   |some s=>rw[I]at z;rw[Qe0 z];rfl
variable{a:Act}{Q:Exit->Act->World->Prop}{K:Act->World->Prop}
theorem QjO{o:Oper}{m x v:Operand}(I:o.op=Op.mapUpdate 77 m x v)
  {b:Nat} {k:ByteArray} {s:SV} (U:a.eval m=.map (some b)) (Y:a.eval x=.string k) (N:a.eval v=s.val) (z:Qbt w (some b) C) (R:k.size<=maxLen) (X:C.length<maxLen) (hs:Qav C)
  (Z:∀w',Qbt w' (some b) (Qc6 C k s)->Sb (λc=>c=b) w w'->K (a.put o.dst undef) w'):Oper.wp prog o a w K Q:=by
 obtain⟨w',D,J,L⟩:=World.ownsMap.store z Qfc underlying77 X (Qs7 k R) (val:=s.val) (d:=.held s.val) (ps:=[]) rfl;unfold Oper.wp;simp[execOp,I,U,Y,N,D,Result.andThen];rw[Qrz SV.val hs]at J;exact Z _ (Qe7 J) (Sb.grown L.grown)
theorem Qpr{o:Oper}{m x:Operand}(I:o.op=Op.call { callee:=Callee.builtin Builtin.delete,args:=#[m,x],argTypes:=#[77,9] })
  {b:Nat} {k:ByteArray} (X:a.eval m=.map (some b)) (R:a.eval x=.string k) (z:Qbt w (some b) C) (N:k.size<=maxLen)
  (U:∀w',Qbt w' (some b) (Qjj C k)->Sb (λc=>c=b) w w'->K (a.put o.dst (.tuple #[])) w'):Oper.wp prog o a w K Q:=by
 obtain⟨w',D,J,L⟩:=World.ownsMap.drop z Qfc underlying77 (Qs7 k N) o.type;unfold Oper.wp;simp[execOp,I,resolve,invoke,builtin,X,R,D,Result.andThen];rw[QqH SV.val]at J;exact U _ (Qe7 J) (Sb.grown L.grown)
theorem Qbt.ne{b g:Nat}{t:TypeId}{cs:Array Value}(h:Qbt w (some b) C)(D:Blk w g t cs):g≠b:=by
 rintro rfl;obtain⟨I,z,h1,-⟩:=h;have h2:w.heap[g]? = some (.cells cs t (0,0)):=D;rw[h1]at h2;cases h2
theorem QqO{J:List UD}{I:List (AL SV)}(h:Chain J I)(D:I[J.length]? = some C):∃z,I=z++[C]:=by
 have L:=h.len;rcases List.eq_nil_or_concat I with rfl |⟨z,c,rfl⟩
 .simp at L
 refine⟨z,?_⟩;rw[List.concat_eq_append]at *;rw[ai,cz]at L;rw[aU (by omega),show J.length-z.length=0 by omega]at D;injection D with D;rw[D]
section
variable{H : Nat -> Prop}{w wc : World}{O : Nat}{d : OD}
theorem QcW.made(h:QcW H w O d)(hm:d.mb=none){b:Nat}(hb:w.heap.size<=b)(X:∀b,H b->b<w.heap.size)(k:Sb (λc=>c=O) w wc)
  (D:Blk wc O 80 #[Qay d.T,.map (some b),.slice d.s.a d.us.length d.s.c]) (I:wc.ownsMap prog 9 QeZ b 0 (mapA SV.val [])):QcW H wc O { d with mb:=some b }:=by
 have hC:d.C=[]:=by have:=h.map;rw[hm]at this;exact this
 have J:Agree (OvF H w O d) w wc:=λi hi=>k.block i hi.1 λe=>hi.2.1 (.inl e)
 have z:∀i,OvF H w O d i->OvF H wc O { d with mb:=some b } i:=λi hi=>⟨Nat.lt_of_lt_of_le hi.1 k.size,λe=>by
  rcases e with e|e|e
  .exact hi.2.1 (.inl e)
  ·have e:some b=some i:=e
   injection e with e;have:=hi.1;omega
  exact hi.2.1 (.inr (.inr e)),hi.2.2⟩
 obtain⟨xs,r1,U,Z⟩:=h.row;refine⟨D,?_,⟨xs,r1,Qae U k.agree λi hi=>⟨h.Qj4 hi,λe=>h.ne.2.1 (by rw[<-e];exact hi)⟩,λi u v hu Y=>((Z i u v hu Y).agree J).mono z⟩,
  λp N=>⟨(h.vals p N).1,((h.vals p N).2.agree J).mono z⟩,λu hu=>⟨(h.olds u hu).1,λo ho=>(((h.olds u hu).2 o ho).agree J).mono z⟩,
  h.hist,h.h0,h.last,h.sorted,(h.tree.agree J).mono z,h.ok,⟨?_,h.ne.2.1,?_⟩,?_,λ_=>⟨b,rfl⟩⟩
 ·show wc.ownsMap _ _ _ _ _ _
  rw[hC];exact I
 ·intro e
  have e:some b=some O:=e;injection e with e;have:=h.blk.lt;omega
 ·intro i hi R
  have hi:some b=some i:=hi;injection hi with hi;have:=h.Qj4 R;omega
 rintro i (hi|hi|hi) L
 .exact h.out i (.inl hi) L
 ·have hi:some b=some i:=hi
  injection hi with hi;have:=X i L;omega
 exact h.out i (.inr (.inr hi)) L
structure Qn1(H:Nat->Prop)(w:World)(O:Nat)(d:OD)(k:ByteArray)(sv:SV)(b:Nat)(wc:World):Prop where
 at_:QcW H wc O { d with mb:=some b }
 sb:Sb (OvB O d) w wc
 mb:d.mb=some b\/w.heap.size<=b
 big:w.heap.size+3<=wc.heap.size
 bo:Blk wc w.heap.size 36 #[.pointer (some ⟨O,0,none⟩)]
 bk:Blk wc (w.heap.size+1) 9 #[.string k]
 bs:Blk wc (w.heap.size+1+1) 87 sv.cells
 ok:Qkv wc (OvF H wc O { d with mb:=some b }) sv
def Qqw(H:Nat->Prop)(O:Nat)(d:OD)(k:ByteArray)(sv:SV)(w:World)(e:Ending)(w':World):Prop:=
 (∃r,e=.returned r)/\∃mb s,QnP H w O d ⟨d.T,mb,s,d.us++[⟨k,Qa5 d.C k⟩],d.Hs++[Qc6 d.C k sv],Qc6 d.C k sv⟩ w'
abbrev Qkg(bw bd bo bk:Nat):Value:=.func (.func 69) #[] #[.pointer (some ⟨bw,0,none⟩),.pointer (some ⟨bd,0,none⟩),.pointer (some ⟨bo,0,none⟩),.pointer (some ⟨bk,0,none⟩)]
theorem step_end{k:ByteArray}{sv:SV}{b:Nat}{Z W w5 w7:World}(z:Qn1 H w O d k sv b wc)(c7:O<w.heap.size)(U:∀i,d.s.row=some i->i<w.heap.size)(hH:∀b,H b->b<w.heap.size)(hk:k.size<=maxLen)(X:Ext wc Z)
  {bw bd:Nat} (a4:wc.heap.size<=bw/\bw<Z.heap.size) (b3:wc.heap.size<=bd/\bd<Z.heap.size) (b7:Blk Z bd 87 (Qir d.C k).cells) (c0:Blk Z bw 4 #[.bool (Qa5 d.C k).isSome]) (hx:Ext Z W)
  {xs:List Value} (hl:xs.length=d.us.length) (b8:∀(i:Nat) (u:UD) (v:Value),d.us[i]? = some u->xs[i]? = some v->Qh7 wc (OvF H wc O { d with mb:=some b }) O u v) {s5:Sl}
  (Y:w5.ownsRow 0 1 1 (.slice s5.a (d.us.length+1) s5.c) (d.us.length+1) (xs++[Qkg bw bd w.heap.size (w.heap.size+1)])) (N:Wr W w5 d.s.row) (hs:s5.a=d.s.a\/s5.a=some ⟨W.heap.size,0,none⟩/\Wr W w5 none)
  (h7:Qbt w7 (some b) (Qc6 d.C k sv)) (J:Sb (λc=>c=b) (w5.setCell ⟨O,2,none⟩ (.slice s5.a (d.us.length+1) s5.c)) w7) :
  QnP H w O d ⟨d.T,some b,s5,d.us++[⟨k,Qa5 d.C k⟩],d.Hs++[Qc6 d.C k sv],Qc6 d.C k sv⟩ w7:=by
 have c3:=z.big;have d0:=X.size;have c8:=hx.size;have c9:=N.grown.size;have b6:=J.size;rw[eA]at b6;have c6:b<wc.heap.size:=z.at_.map.lt rfl;have a7:b≠O:=λe=>z.at_.ne.1 (by rw[e])
 have b5:d.s.row≠some b:=λe=>z.at_.ne.2.2 b rfl e
 have b4:d.s.row≠some O:=z.at_.ne.2.1;have D:∀i,s5.row=some i->d.s.row=some i\/i=W.heap.size:=λi hi=>by
  rcases hs with h |⟨h,-⟩
  .left;rw[Sl.row,<-h];exact hi
  right;rw[Sl.row,h]at hi;simpa using hi.symm
 have a6:s5.row≠some O:=λe=>by
  rcases D O e with h|h
  .exact b4 h
  omega
 have b0:s5.row≠some b:=λe=>by
  rcases D b e with h|h
  .exact b5 h
  omega
 -- what turns between wc and the end
 have hW:Sb (λ_=>False) wc W:=(X.trans hx).sb _;have h5:Sb (λc=>d.s.row=some c) W w5:=⟨N.grown.os,N.grown.tape,N.grown.output,N.grown.size,λi hi hn=>N.grown.block i hi λe=>hn e.symm⟩;have h6:Sb (λc=>c=O) w5 (w5.setCell ⟨O,2,none⟩ (.slice s5.a (d.us.length+1) s5.c)):=(fB (λc=>c=O) w5).set (p:=⟨O,2,none⟩) (.inr rfl) _;have R:Sb (OvB O { d with mb:=some b }) wc w7:=
  (((hW.mono λi _ h=>h.elim).trans (h5.mono λi _ h=>.inr (.inr h))).trans (h6.mono λi _ h=>.inl h)).trans (J.mono λi _ h=>.inr (.inl (by rw[h])))
 have I:∀{g t cs},Blk Z g t cs->g≠O->g≠b->d.s.row≠some g->Blk w7 g t cs:=λhb h1 h2 h3=>
  J.blk (h6.blk (h5.blk (hb.ext hx) h3) h1) h2
 have L:∀i,wc.heap.size<=i\/(i=w.heap.size\/i=w.heap.size+1)->i<Z.heap.size->i≠b->OvF H w7 O ⟨d.T,some b,s5,d.us++[⟨k,Qa5 d.C k⟩],d.Hs++[Qc6 d.C k sv],Qc6 d.C k sv⟩ i:=λi hi d3 c1=>
  ⟨by omega,λe=>by
    rcases e with e|e|e
    .omega
    ·have e:some b=some i:=e
     injection e with e;exact c1 e.symm
    rcases D i e with h|h
    .have:=U i h;omega
    omega,λhh=>by have:=hH i hh;omega⟩
 have a5:=z.bo;have a3:=z.bk;have a8:=Qbt.ne z.at_.map a5;have a9:=Qbt.ne z.at_.map a3;have ha:Agree (OvF H wc O { d with mb:=some b }) wc w7:=λi hi=>R.block i hi.1 hi.2.1
 have hm:∀i,OvF H wc O { d with mb:=some b } i->OvF H w7 O ⟨d.T,some b,s5,d.us++[⟨k,Qa5 d.C k⟩],d.Hs++[Qc6 d.C k sv],Qc6 d.C k sv⟩ i:=λi hi=>
  ⟨Nat.lt_of_lt_of_le hi.1 R.size,λe=>by
    rcases e with e|e|e
    .exact hi.2.1 (.inl e)
    .exact hi.2.1 (.inr (.inl e))
    rcases D i e with h|h
    .exact hi.2.1 (.inr (.inr h))
    have:=hi.1;omega,hi.2.2⟩
 obtain⟨Ps,a2⟩:=QqO z.at_.hist z.at_.last;have a2:d.Hs=Ps++[d.C]:=a2;have a1:Chain d.us d.Hs:=z.at_.hist;have c2:d.Hs[d.us.length]? = some d.C:=z.at_.last;have c4:=a1.len;have a0:Qav d.C:=z.at_.sorted;refine⟨⟨?_,h7,⟨xs++[Qkg bw bd w.heap.size (w.heap.size+1)],by simp[hl],?_,?_⟩,?_,?_,?_,?_,?_,QbG a0 _ _,(z.at_.tree.agree ha).mono hm,z.at_.ok,⟨?_,a6,?_⟩,?_,λ_=>⟨b,rfl⟩⟩,?_,?_⟩
 ·have h8:Blk (w5.setCell ⟨O,2,none⟩ (.slice s5.a (d.us.length+1) s5.c)) O 80 #[Qay d.T,.map (some b),.slice s5.a (d.us.length+1) s5.c]:=(h5.blk ((z.at_.blk.ext X).ext hx) b4).Qdz 2 _
  have h9:=J.blk h8 (λe=>a7 e.symm);show Blk w7 O _ #[_,_,.slice s5.a (d.us++[(⟨k,Qa5 d.C k⟩:UD)]).length s5.c];rw[ai,cz];exact h9
 ·show w7.ownsRow 0 _ 1 (.slice s5.a (d.us++[(⟨k,Qa5 d.C k⟩:UD)]).length s5.c) (d.us++[(⟨k,Qa5 d.C k⟩:UD)]).length _
  rw[ai,cz];exact Qae (Qae Y h6.agree λi hi=>⟨(Qaa Y hi).2,λe=>a6 (by rw[<-e];exact hi)⟩) J.agree λi hi=>⟨by rw[eA];exact(Qaa Y hi).2,λe=>b0 (by rw[<-e];exact hi)⟩
 ·intro i u v hu hv
  rcases dQ i d.us.length with hi|hi
  ·have hu:(d.us++[(⟨k,Qa5 d.C k⟩:UD)])[i]? = some u:=hu
   rw[bm hi]at hu;rw[bm (by omega)]at hv;exact((b8 i u v hu hv).agree ha).mono hm
  have hu:(d.us++[(⟨k,Qa5 d.C k⟩:UD)])[i]? = some u:=hu;rw[aU hi]at hu;rw[aU (by omega)]at hv;have h0:i-d.us.length=0:=by have:=(ah.1 hu).1;simpa using this
  rw[h0]at hu;rw[show i-xs.length=0 by omega]at hv;have hu:(⟨k,Qa5 d.C k⟩:UD)=u:=by simpa using hu
  have hv:Qkg bw bd w.heap.size (w.heap.size+1)=v:=by simpa using hv
  subst hu hv;refine⟨bw,bd,w.heap.size,w.heap.size+1,Qir d.C k,rfl,⟨L _ (.inl a4.1) a4.2 (by omega),L _ (.inl b3.1) b3.2 (by omega),L _ (.inr (.inl rfl)) (by omega) a8,L _ (.inr (.inr rfl)) (by omega) a9⟩,?_,?_,?_,?_,?_⟩
  .exact I c0 (by omega) (by omega) λe=>by have:=U _ e;omega
  .exact I b7 (by omega) (by omega) λe=>by have:=U _ e;omega
  ·intro x hx
   have hx:Qa5 d.C k=some x:=hx;unfold Qir;rw[hx];rfl
  .exact I (a5.ext X) (by omega) a8 λe=>by have:=U _ e;omega
  exact I (a3.ext X) (by omega) a9 λe=>by have:=U _ e;omega
 ·intro p hp
  rcases QiD hp with rfl|hp
  .exact ⟨hk,(z.ok.agree ha).mono hm⟩
  exact⟨(z.at_.vals p hp).1,((z.at_.vals p hp).2.agree ha).mono hm⟩
 ·intro u hu
  rcases aE.1 hu with hu|hu
  .exact ⟨(z.at_.olds u hu).1,λo ho=>(((z.at_.olds u hu).2 o ho).agree ha).mono hm⟩
  rw[br.1 hu];exact⟨hk,λo ho=>((((z.at_.vals (k,o) (QeX ho)).2).agree ha).mono hm)⟩
 ·show Chain (d.us++[(⟨k,Qa5 d.C k⟩:UD)]) (d.Hs++[Qc6 d.C k sv])
  rw[a2]at a1 ⊢;exact a1.snoc a0 k sv
 ·have h0:d.Hs[0]? = some []:=z.at_.h0
  show(d.Hs++[Qc6 d.C k sv])[0]? = _;rw[bm (by omega)];exact h0
 ·show (d.Hs++[Qc6 d.C k sv])[(d.us++[(⟨k,Qa5 d.C k⟩:UD)]).length]? = some (Qc6 d.C k sv)
  rw[ai,cz,aU (by omega),show d.us.length+1-d.Hs.length=0 by omega];rfl
 ·intro e
  have e:some b=some O:=e;injection e with e;exact a7 e
 ·intro i hi
  have hi:some b=some i:=hi;injection hi with hi;subst hi;exact b0
 ·rintro i (hi | hi | hi) hh
  .exact z.at_.out i (.inl hi) hh
  .exact z.at_.out i (.inr (.inl hi)) hh
  rcases D i hi with h|h
  .exact z.at_.out i (.inr (.inr h)) hh
  have:=hH i hh;omega
 ·refine z.sb.comp R fun i hi h=>?_
  rcases h with h|h|h
  .exact .inl h
  ·have h:some b=some i:=h
   injection h with h;subst h;rcases z.mb with h|h
   .exact .inr (.inl h)
   omega
  exact .inr (.inr h)
 rintro i (hi|hi|hi)
 .exact .inl (.inl hi)
 ·have hi:some b=some i:=hi
  injection hi with hi;subst hi;rcases z.mb with h|h
  .exact .inl (.inr (.inl h))
  exact .inr h
 rcases D i hi with h|h
 .exact .inl (.inr (.inr h))
 right;omega
end
abbrev od0(T:RT):OD:=⟨T,none,Sl.none,[],[[]],[]⟩
theorem QcW.fresh(z:Blk w O 80 #[Qay T,.map none,.slice none 0 0])(J:IsT w F T)(ok:OkR T)(hF:∀b,F b->b<w/\¬H b/\b≠O)(D:¬H O):QcW H w O (od0 T):=
 ⟨z,rfl,⟨[],rfl,eJ _ _ _ _,λi u v hu=>by simp at hu⟩,λp I=>(by cases I),λu hu=>(by cases hu),Chain.nil [],rfl,rfl,List.Pairwise.nil,
   J.mono λb z=>⟨(hF b z).1,⟨λh=>by
    rcases h with h|h|h
    .exact (hF b z).2.2 h
    .cases h
    (cases h),(hF b z).2.1⟩⟩,ok,⟨by simp,by simp[Sl.row],λb z=>(by cases z)⟩,λb z=>by
   rcases z with rfl|h|h
   .exact D
   .cases h
   (cases h),λh=>absurd rfl h⟩
theorem Qqz(U:IsT w F T)(ok:OkR T)(hF:∀b,F b->b<w/\¬H b)(R:∀b,H b->b<w) :
  Calls prog 12 #[Qau T] w λe w'=>∃O,e=.returned (.pointer (some ⟨O,0,none⟩))/\w.heap.size<=O/\QcW H w' O (od0 T)/\Ext w w':=by
 obtain⟨p,N⟩:=Qaq T;rw[Qau,N];have Y:=hY U;have I:=hY hF;have Z:=hY R;have HP:=hY N;clear U hF R N;go_in;go_wp2_with fail;generalize L:World.alloc _ _=W0;obtain⟨z,X,-,J⟩:=Qap w _ _ _ _ W0 L;refine eD (v:=.pointer (some ⟨w+1,0,none⟩)) (by simp[results,results12,go_sem]) rfl ?_;refine⟨w+1,rfl,cE _,QcW.fresh (by rw[HP.o];exact J) (Y.o.agree (z.agree λb D=>(I.o b D).1)) ok (λb D=>⟨by have:=(I.o b D).1;omega,(I.o b D).2,by have:=(I.o b D).1;omega⟩) (λh=>by have:=Z.o _ h;omega),z⟩
variable{d:OD}
theorem QdN(h:QcW H w O d):Calls prog 19 #[.pointer (some ⟨O,0,none⟩)] w λe w'=>e=.returned (.int .i64 (d.us.length:Int))/\Ext w w':=by
 have z:w.cell? ⟨O,2,none⟩=some (.slice d.s.a d.us.length d.s.c):=h.blk.cell 2;clear h;go_in;go_wp2_with fail;go_ret;exact⟨rfl,fu w⟩
abbrev OD.now(d:OD)(k:ByteArray):Option Val:=Qkq (Qab d.T) (Qht d.C) k
theorem QlX{k:ByteArray}(h:Qa5 d.C k=none):d.now k=Qam (Qab d.T) k:=by
 unfold OD.now Qkq;rw[Qd7,h];rfl
theorem QlY{k:ByteArray}{s:SV}(h:Qa5 d.C k=some s):d.now k=s.opt:=by
 unfold OD.now Qkq;rw[Qd7,h];rfl
theorem QsN{s:SV}(h:Qkv w F s):s.opt.getD zeroV=s.v/\s.opt.isSome=s.has:=by
 unfold SV.opt;cases z:s.has with
 |true=>simp
 |false=>simp[h.2 z]
theorem QrW(h:QcW H w O d)(hl:(Qab d.T).length<=1000000){k:ByteArray}(hk:k.size<=maxLen) :
  Calls prog 44 #[.pointer (some ⟨O,0,none⟩),.string k] w (QbO (d.now k) w):=by
 have lO:=h.blk.lt;have c1:w.cell? ⟨O,1,none⟩=some (.map d.mb):=h.blk.cell 1;have c0:w.cell? ⟨O,0,none⟩=some (Qay d.T):=h.blk.cell 0;have X:∀cs t,(Instr.lookup 77 (.map d.mb) (.string k) true).run prog (w.alloc (.cells cs t))=.ok (.tuple #[(Qir d.C k).val,.bool (Qa5 d.C k).isSome]) (w.alloc (.cells cs t)):=λcs t=>
  QkV (h.map.heap λb z=>eI _ _ _ (h.map.lt z)) hk
 cases hg:Qa5 d.C k with
 | none=>
   rw[QlX hg];simp only[hg,Qir,Option.getD_none,Option.isSome_none]at X;have hF:∀b,OvF H w O d b->b<w.heap.size:=λb z=>z.1
   have a4:=λW (hW:Ext w W)=>Qhj (w:=W) (λb z=>ab (hF b z) hW.size) (h.tree.agree (hW.agree hF)) h.ok hl k
   generalize Qam (Qab d.T) k=D at *;obtain⟨p,hp⟩:=Qaq d.T;rw[hp]at c0;simp only[Qau,hp]at a4;have a7:=hY a4;clear a4 h hF hg hp;go_in;go_wp2_with fail;generalize R:World.alloc _ _=W0;obtain⟨I,N,J,U⟩:=Qap w _ _ _ _ W0 R;have Y:=hY I;have a1:=hY J;have HZ:=hY N;clear R J U N X;refine(a7.o W0 I).mono ?_;rintro e w1 ⟨sl,so,rfl,a0,Z⟩;have z:=a1.o.ext a0;obtain⟨q0,q1,q2,q3,q4,q5⟩:=z.c6;have f2:=z.frozen;have lb:=z.lt;have b0:=hY a0;have a9:=hY Z;clear z a0 Z I a7;go_wp2_with fail;refine eD (v:=.tuple #[aggV (D.getD zeroV) sl so,.bool D.isSome]) (by simp[results,results44,go_sem,q0,q1,q2,q3,q4,q5]) rfl ?_;exact QeA (Y.o.trans b0.o) (b:=w.heap.size) (lo:=W0.heap.size) (by omega) (by rw[HZ.o];omega) a9.o
 | some s=>
   rw[QlY hg];have hs:=(h.vals (k,s) (QeX hg)).2;have hv:s.opt.getD zeroV=s.v/\s.opt.isSome=s.has:=QsN hs;simp only[hg,Qir,Option.getD_some,Option.isSome_some]at X;have a5:=λW (hW:Ext w W)=>Qga _ s.v (an _) W s.sl s.so ((hs.1.agree (hW.agree λb z=>z.1)).mono λb z=>ab z.1 hW.size)
   obtain⟨D,a6⟩:∃D,s.opt=D:=⟨_,rfl⟩;rw[a6]at hv ⊢;obtain⟨b5,v,sl,so⟩:=s;obtain⟨rfl,rfl⟩:=hv;have b3:=hY a5;clear a5 h hg hs a6;go_in;go_wp2_with fail;generalize R:World.alloc _ _=W0;obtain⟨I,N,J,U⟩:=Qap w _ _ _ _ W0 R;have L:=hY (show ∀W,St (λb=>b=w.heap.size) W0 W->W.cell? ⟨w.heap.size+1,0,none⟩=some (.bool D.isSome)/\W.cell? ⟨w.heap.size+1,1,none⟩=some (.int .i64 (D.getD zeroV).kind)/\W.cell? ⟨w.heap.size+1,2,none⟩=some (.bool (D.getD zeroV).b)/\W.cell? ⟨w.heap.size+1,3,none⟩=some (.int .i64 (D.getD zeroV).i)/\W.cell? ⟨w.heap.size+1,4,none⟩=some (.string (D.getD zeroV).t)/\W.cell? ⟨w.heap.size+1,5,none⟩=some (.slice sl.a (D.getD zeroV).l.length sl.c)/\W.cell? ⟨w.heap.size+1,6,none⟩=some (.slice so.a (D.getD zeroV).ok.length so.c)from
    λW hW=>by
     have z:=hW.blk U (by omega);exact⟨z.cell 0,z.cell 1,z.cell 2,z.cell 3,z.cell 4,z.cell 5,z.cell 6⟩)
   have Y:=hY I;have a1:=hY J;have HZ:=hY N;have l0:=J.lt;clear R I J U N X;refine ez (S:=(λw'=>St (λb=>b=w.heap.size) W0 w')) (by kernel_rfl) (((St.refl _ W0).drew)) (λhHeld=>?_);refine Qad 0 (some 21) L hHeld ?_;refine Qad 1 (some 22) L hHeld ?_;refine Qad 3 (some 24) L hHeld ?_;refine Qad 4 (some 25) L hHeld ?_;refine Qag (i:=2) (by kernel_rfl) rfl (by rfl) (λK hK=>?_);go_simp
   (refine(b3.o _ (Y.o.drew)).mono ?_;rintro e w2 ⟨b4,a8,rfl,a3,Z⟩;have a2:=(a1.o.ext ((fu W0).drew)).ext a3;obtain⟨q0,q1,q2,q3,q4,q5⟩:=a2.c6;have f2:=a2.frozen;have lb:=a2.lt)
   refine hK.out _ _ (hHeld.ext a3) (λhHeld=>?_);clear hK K
   try simp only[Act.put,List.setIfInBounds_toArray,List.set_cons_zero,List.set_cons_succ]
   refine Qag (i:=5) (by kernel_rfl) rfl (by rfl) (λK hK=>?_);go_simp
   skip
   refine hK.out _ _ (hHeld.QdP (.inr rfl) 0 _ _ _) (λhHeld=>?_);clear hK K
   try simp only[Act.put,List.setIfInBounds_toArray,List.set_cons_zero,List.set_cons_succ]
   refine Qad 6 (some 5) L hHeld ?_;refine eE (by kernel_rfl) ?_ _;go_wp2_with fail;refine eD (v:=.tuple #[aggV (D.getD zeroV) b4 a8,.bool D.isSome]) (by simp[results,results44,go_sem,q0,q1,q2,q3,q4,q5]) rfl ?_;exact QeA ((Y.o.drew).trans a3) (b:=w.heap.size) (lo:=W0.heap.size) (by omega) (by rw[HZ.o];omega) Z
def QtJ(R:Act->World->Prop):Exit->Act->World->Prop
 |.normal,a,w=>R a w
 |_,_,_=>False
theorem QiG{R:Act->World->Prop}(h:R a w):QtJ R .normal a w:=h
def Qr5(tm:Array Value):List (Nat × Value)->Array Value
 |[]=>tm
 |(i,v)::l=>Qr5 (tm.setIfInBounds i v) l
theorem Qmm{c:Code}{α:Type}(I:World->α->Prop)(J:List Nat)(z:α->List (Nat × Value))
  (h1:c.wp P (QtJ λD w'=>∃x,I w' x/\D.defers=a.defers/\D.tmps=Qr5 a.tmps ((J.map λd=>(d,D.tmps.getD d undef))++z x)) a w)
  (h2:∀(w':World) (x:α) (R:Nat->Value),I w' x->Q .normal { tmps:=Qr5 a.tmps ((J.map λd=>(d,R d))++z x),defers:=a.defers } w'):c.wp P Q a w:=
 wp_mono h1 λe D w' h=>by
  cases e with
  | normal=>
    obtain⟨x,L,hd,N⟩:=h;have:=h2 w' x (λd=>D.tmps.getD d undef) L;rw[<-N,<-hd]at this;exact this
  |_=>exact h.elim
theorem Qmi(w:World)(D I:TypeId)(J z:Array Value):∀W,((w.alloc (.cells J D)).alloc (.cells z I)).drew=W->
  Ext w W/\W.heap.size=w.heap.size+2/\Blk W w.heap.size D J/\Blk W (w.heap.size+1) I z:=by
 rintro W rfl;obtain⟨N,L,R,h1⟩:=Qap w D I J z _ rfl;exact⟨N.drew,L,R,h1⟩
theorem Qp3{t z D I:TypeId}{cs N J L:Array Value}(hb:Blk w O t cs):∀W,((((w.setCell ⟨O,1,none⟩ (.map (some (w.heap.size+1+1+1)))).alloc (.cells N z)).alloc (.cells J D)).alloc (.cells L I)).alloc (.map #[] 0)=W->
  Sb (λc=>c=O) w W/\w.heap.size+3<=W.heap.size/\Blk W O t (cs.setIfInBounds 1 (.map (some (w.heap.size+1+1+1))))/\Blk W w.heap.size z N/\Blk W (w.heap.size+1) D J/\Blk W (w.heap.size+1+1) I L/\W.ownsMap prog 9 QeZ (w.heap.size+1+1+1) 0 (mapA SV.val []):=by
 rintro W rfl;have hz:(w.setCell ⟨O,1,none⟩ (.map (some (w.heap.size+1+1+1)))).heap.size=w.heap.size:=eA _ _ _;have U:Sb (λc=>c=O) w (w.setCell ⟨O,1,none⟩ (.map (some (w.heap.size+1+1+1)))):=(fB (λc=>c=O) w).set (p:=⟨O,1,none⟩) (.inr rfl) _;have X:=hb.Qdz 1 (.map (some (w.heap.size+1+1+1)));generalize w.setCell ⟨O,1,none⟩ (.map (some (w.heap.size+1+1+1)))=W0 at *;obtain⟨hx,R,h0,h1,h2⟩:=Qas W0 z D I N J L _ rfl;rw[hz]at h0 h1 h2 R;generalize ((W0.alloc (.cells N z)).alloc (.cells J D)).alloc (.cells L I)=Z at *;have Y:=World.ownsMap_made Z prog 9 QeZ;rw[show Z.heap.size=w.heap.size+1+1+1 by omega]at Y;exact⟨(U.trans (hx.sb _)).trans (Sb.made (World.grownBy_alloc _ _ _)),by simp;omega,(X.ext hx).alloc _,h0.alloc _,h1.alloc _,h2.alloc _,Y⟩
variable{sv:SV}
theorem Qmf(h:QcW H w O d)(hH:∀b,H b->b<w.heap.size)(hn:d.us.length<=1000000){k:ByteArray}(hk:k.size<=maxLen)(f8:Qkv w (OvF H w O d) sv) :
  Calls prog 41 #[.pointer (some ⟨O,0,none⟩),.string k,sv.val] w (Qqw H O d k sv w):=by
 obtain⟨i0,hi,e0,i2,i1⟩:=eG Tryz.Qtq;have j8:=@run_makeMap prog;have j9:∀(w:World) (r:Option Nat),(binOp .eql 77 (.map r) (.map none)).run prog w=.ok (.bool r.isNone) w:=λw r=>run_eql_map_nil w _ _ _ r underlying77
 have c1:w.cell? ⟨O,1,none⟩=some (.map d.mb):=h.blk.cell 1;have f1:=h.blk.frozen 1;have lO:=h.blk.lt;have g5:∀i,d.s.row=some i->i<w.heap.size:=λi hi=>h.Qj4 hi
 have a4:=hY h;have g3:=hY hH;have f4:=hY f8;have a5:=hY g5;clear h hH f8 g5;obtain⟨a8,v,sl,so⟩:=sv;show Calls _ _ #[_,_,.agg #[.bool a8,.int .i64 v.kind,.bool v.b,.int .i64 v.i,.string v.t,.slice sl.a v.l.length sl.c,.slice so.a v.ok.length so.c]] _ _;have l1:O<w.heap.size+1:=by omega
 have l2:O<w.heap.size+1+1:=by omega
 go_in;go_upto_if 12 with fail;go_cut [] (λwc=>∃b,Qn1 H w O d k ⟨a8,v,sl,so⟩ b wc)
 case first=>
  obtain⟨mb,c9⟩:∃mb,d.mb=mb:=⟨_,rfl⟩;rw[c9]at c1 ⊢;have c8:=hY c9;clear c9;rcases mb with _|b
  ·go_wp2_with fail
   generalize a3:World.alloc _ _=W0;obtain⟨a7,e0,j2,d7,a1,Z,Y⟩:=Qp3 a4.o.blk W0 a3;clear a3;go_meet;have c4:=a4.o.made c8.o (b:=w.heap.size+1+1+1) (by omega) g3.o a7 j2 Y;refine⟨_,c4,a7.mono λi _ h=>.inl h,.inr (by omega),e0,d7,a1,Z,?_⟩;refine(f4.o.agree (λi hi=>a7.block i hi.1 λe=>hi.2.1 (.inl e))).mono λi hi=>⟨Nat.lt_of_lt_of_le hi.1 a7.size,λe=>?_,hi.2.2⟩
   rcases e with e|e|e
   .exact hi.2.1 (.inl e)
   ·have e:some (w.heap.size+1+1+1)=some i:=e
    injection e with e;have:=hi.1;omega
   exact hi.2.1 (.inr (.inr e))
  go_wp2_with fail;generalize a3:World.alloc _ _=W0;obtain⟨a9,j6,d7,a1,Z⟩:=Qas w _ _ _ _ _ _ W0 a3;clear a3;go_meet;have c4:=a4.o.ext a9;have hd:d={ d with mb:=some b }:=by rw[<-c8.o]
  refine⟨b,by rw[<-hd];exact c4,a9.sb _,.inl c8.o,by omega,d7,a1,Z,?_⟩;rw[<-hd];exact(f4.o.agree (a9.agree λb hb=>hb.1)).mono λi hi=>⟨Nat.lt_of_lt_of_le hi.1 a9.size,hi.2⟩
 obtain⟨b,hM⟩:=hcut;have d6:∀W,Ext wc W->(Instr.lookup 77 (.map (some b)) (.string k) true).run prog W=.ok (.tuple #[(Qir d.C k).val,.bool (Qa5 d.C k).isSome]) W:=λW L=>
  QkV (hM.at_.ext L).map hk
 obtain⟨o,ho⟩:∃o,Qir d.C k=o:=⟨_,rfl⟩;obtain⟨g,hg⟩:∃g,(Qa5 d.C k).isSome=g:=⟨_,rfl⟩;rw[ho,hg]at d6;obtain⟨oh,ov,b3,b6⟩:=o;have HO:=hY ho;have HG:=hY hg;have j3:O<wc.heap.size:=hM.at_.blk.lt;have j5:=hM.big;have R:=hY hM;have z:=hY (show ∀W,Ext wc W->W.cell? ⟨w.heap.size,0,none⟩=some (.pointer (some ⟨O,0,none⟩))/\W.cell? ⟨O,1,none⟩=some (.map (some b))/\W.cell? ⟨w.heap.size+1,0,none⟩=some (.string k)/\
   (Instr.lookup 77 (.map (some b)) (.string k) true).run prog W=.ok (.tuple #[.agg #[.bool oh,.int .i64 ov.kind,.bool ov.b,.int .i64 ov.i,.string ov.t,.slice b3.a ov.l.length b3.c,.slice b6.a ov.ok.length b6.c],.bool g]) W from
  λW L=>⟨(hM.bo.ext L).cell 0,((hM.at_.ext L).blk).cell 1,(hM.bk.ext L).cell 0,d6 W L⟩)
 clear hM d6 ho hg c1 f1 l1 l2;go_wp2_with fail;refine Qmm (α:=Nat × Nat) (λw' x=>Ext wc w'/\(wc.heap.size<=x.1/\x.1<w'.heap.size)/\(wc.heap.size<=x.2/\x.2<w'.heap.size)/\Blk w' x.1 87 #[.bool oh,.int .i64 ov.kind,.bool ov.b,.int .i64 ov.i,.string ov.t,.slice b3.a ov.l.length b3.c,.slice b6.a ov.ok.length b6.c]/\Blk w' x.2 4 #[.bool g]) [17,18,19,20,21,22,23,24,25] (λx=>[(6,.pointer (some ⟨x.1,0,none⟩)),(7,.pointer (some ⟨x.2,0,none⟩))]) ?h1 ?h2
 case h1=>
  refine ez (S:=(λw'=>Ext wc w')) (by kernel_rfl) (((fu wc).drew)) (λhHeld=>?_);refine Qad 0 (some 18) z hHeld ?_;refine Qad 1 (some 19) z hHeld ?_;refine Qad 2 (some 20) z hHeld ?_;refine Qad 3 (some 21) z hHeld ?_;refine Qad 4 (some 22) z hHeld ?_;refine Qad 5 (some 23) z hHeld ?_;refine Qad 6 (some 17) z hHeld ?_;refine Qad 7 (some 24) z hHeld ?_;refine Qad 8 (some 25) z hHeld ?_;refine QlI (i:=9) (j:=10) (by kernel_rfl) rfl rfl (by rfl) (by rfl) (λK D=>?_) (λK D=>?_)
  ·go_simp
   skip
   refine D.out _ _ ((by first|exact(((fu _).drew).alloc _ _).alloc _ _|exact((fu _).drew).alloc _ _)) (λhHeld=>?_);clear D K
   try simp only[Act.put,List.setIfInBounds_toArray,List.set_cons_zero,List.set_cons_succ]
   refine Qag (i:=10) (by kernel_rfl) rfl (by rfl) (λK D=>?_);go_simp
   skip
   refine D.out _ _ ((by first|exact(((fu _).drew).alloc _ _).alloc _ _|exact((fu _).drew).alloc _ _)) (λhHeld=>?_);clear D K
   try simp only[Act.put,List.setIfInBounds_toArray,List.set_cons_zero,List.set_cons_succ]
   refine Qag (i:=11) (by kernel_rfl) rfl (by rfl) (λK D=>?_);go_simp
   skip
   refine D.out _ _ ((by first|exact(((fu _).drew).alloc _ _).alloc _ _|exact(((fu _).alloc _ _).alloc _ _).drew)) (λhHeld=>?_);clear D K
   try simp only[Act.put,List.setIfInBounds_toArray,List.set_cons_zero,List.set_cons_succ]
   refine Qag (i:=12) (by kernel_rfl) rfl (by rfl) (λK D=>?_);go_simp
   skip
   refine D.out _ _ ((by first|exact(((fu _).drew).alloc _ _).alloc _ _|exact(((fu _).alloc _ _).alloc _ _).drew)) (λhHeld=>?_);clear D K
   try simp only[Act.put,List.setIfInBounds_toArray,List.set_cons_zero,List.set_cons_succ]
   refine eE (by kernel_rfl) ?_ _;generalize e1:World.drew _=I;obtain⟨N,g9,a1,Z⟩:=Qmi wc _ _ _ _ I e1;refine QiG ⟨(wc.heap.size,wc.heap.size+1),⟨N,⟨Nat.le_refl _,by show wc.heap.size<_;omega⟩,⟨Nat.le_succ _,by show wc.heap.size+1<_;omega⟩,a1,Z⟩,by kernel_rfl,?_⟩;simp only[Qr5,List.map_cons,List.map_nil,List.cons_append,List.nil_append,List.setIfInBounds_toArray,List.set_cons_zero,List.set_cons_succ]
   kernel_rfl
  go_simp
  skip
  refine D.out _ _ ((by first|exact(((fu _).drew).alloc _ _).alloc _ _|exact((fu _).drew).alloc _ _)) (λhHeld=>?_);clear D K
  try simp only[Act.put,List.setIfInBounds_toArray,List.set_cons_zero,List.set_cons_succ]
  refine Qag (i:=9) (by kernel_rfl) rfl (by rfl) (λK D=>?_);go_simp
  skip
  refine D.out _ _ ((by first|exact(((fu _).drew).alloc _ _).alloc _ _|exact((fu _).drew).alloc _ _)) (λhHeld=>?_);clear D K
  try simp only[Act.put,List.setIfInBounds_toArray,List.set_cons_zero,List.set_cons_succ]
  refine Qag (i:=11) (by kernel_rfl) rfl (by rfl) (λK D=>?_);go_simp
  skip
  refine D.out _ _ ((by first|exact(((fu _).drew).alloc _ _).alloc _ _|exact(((fu _).alloc _ _).alloc _ _).drew)) (λhHeld=>?_);clear D K
  try simp only[Act.put,List.setIfInBounds_toArray,List.set_cons_zero,List.set_cons_succ]
  refine Qag (i:=12) (by kernel_rfl) rfl (by rfl) (λK D=>?_);go_simp
  skip
  refine D.out _ _ ((by first|exact(((fu _).drew).alloc _ _).alloc _ _|exact(((fu _).alloc _ _).alloc _ _).drew)) (λhHeld=>?_);clear D K
  try simp only[Act.put,List.setIfInBounds_toArray,List.set_cons_zero,List.set_cons_succ]
  refine eE (by kernel_rfl) ?_ _;generalize e1:World.drew _=I;obtain⟨N,g9,a1,Z⟩:=Qmi wc _ _ _ _ I e1;refine QiG ⟨(wc.heap.size+1,wc.heap.size),⟨N,⟨Nat.le_succ _,by show wc.heap.size+1<_;omega⟩,⟨Nat.le_refl _,by show wc.heap.size<_;omega⟩,Z,a1⟩,by kernel_rfl,?_⟩;simp only[Qr5,List.map_cons,List.map_nil,List.cons_append,List.nil_append,List.setIfInBounds_toArray,List.set_cons_zero,List.set_cons_succ]
  kernel_rfl
 rintro I ⟨bd,bw⟩ uu ⟨N,d3,c0,d8,e3⟩;simp only[Qr5,List.map_cons,List.map_nil,List.cons_append,List.nil_append,List.setIfInBounds_toArray,List.set_cons_zero,List.set_cons_succ];dsimp only at d3 c0 d8 e3;have b5:=R.o.at_.blk.ext N;have c2:I.cell? ⟨O,2,none⟩=some (.slice d.s.a d.us.length d.s.c):=b5.cell 2;have f2:=b5.frozen 2;have c7:=b5.lt;have d4:=R.o.bo.ext N;have c3:I.cell? ⟨w.heap.size,0,none⟩=some (.pointer (some ⟨O,0,none⟩)):=d4.cell 0;have l3:=d4.lt;obtain⟨xs,hl,Y,g4⟩:=R.o.at_.row;have HL:=hY (show xs.length=d.us.length from hl);have i6:=hY g4;have i9:=hY (show ∀W,Ext I W->W.ownsRow 0 1 1 (.slice d.s.a d.us.length d.s.c) d.us.length xs fromλW L=>Qae Y ((N.trans L).agree λb (hb:b<wc.heap.size)=>hb) λb hb=>(Qaa Y hb).2);have g0:d.s.row≠some O:=R.o.at_.ne.2.1;have j0:d.s.row≠some w.heap.size:=λe=>by have:=a5.o _ e;omega
 have b7:∀u∈[Qkg bw bd w.heap.size (w.heap.size+1)],u.oneCell'=true:=by simp[Value.oneCell']
 have g6:d.us.length+1<=maxLen:=by unfold maxLen;omega
 have f7:(d.us.length+1)*8<=140737488355328:=by omega
 have g8:=hY N;have i8:=hY d8;have i7:=hY e3;have i3:=hY c0;have j1:=hY d3;clear d8 e3 c0 d3 b5 d4 hl g4 Y N z;go_wp2_with fail;refine Qmm (α:=Sl × World × World) (λw' x=>Ext I x.2.1/\x.2.2.ownsRow 0 1 1 (.slice x.1.a (d.us.length+1) x.1.c) (d.us.length+1) (xs++[Qkg bw bd w.heap.size (w.heap.size+1)])/\Wr x.2.1 x.2.2 d.s.row/\(x.1.a=d.s.a\/x.1.a=some ⟨x.2.1.heap.size,0,none⟩/\Wr x.2.1 x.2.2 none)/\w'=x.2.2.setCell ⟨O,2,none⟩ (.slice x.1.a (d.us.length+1) x.1.c)) [26,27,28,29,30,31,32,33,34,35] (λ_=>[]) ?g1 ?g2
 case g1=>
  go_region_law (refine Qdp _ rfl (.tmp 30) (.tmp 32) 78 rfl 0 1 i0 _ 1 8 underlying78 hi e0 i2 i1 rfl (by decide) d.s d.us.length xs (by rfl) (i9.o _ (by first|exact((fu I).drew).alloc _ _|exact((fu I).alloc _ _).drew)) (λb=>b=I.heap.size) ⟨some ⟨I.heap.size,0,none⟩,1⟩ 1 [Qkg bw bd w.heap.size (w.heap.size+1)] (by rfl) (fG (fx _ _ _) (by decide) rfl) b7 g6 f7 (av _) ?_;intro s5 w5 a6 U a2;have d5:=U.cell0 (w:=I) (o:=2) (by first|exact((fu I).drew).alloc _ _|exact((fu I).alloc _ _).drew) g0 c7;have k3:=d5.1.trans c2;have j7:=d5.2;have f9:=U.cell0 (w:=I) (o:=0) (by first|exact((fu I).drew).alloc _ _|exact((fu I).alloc _ _).drew) j0 l3;have k4:=f9.1.trans c3;have f5:w5.frozen? ⟨O,2,none⟩=false:=(U.fz _ _).trans (((by first|exact((fu I).drew).alloc _ _|exact((fu I).alloc _ _).drew:Ext I _).frozen (o:=2) c7).trans f2);have e6:=hY a6;have d0:=hY U;have c6:=hY a2;clear a6 U a2 d5 f9)
  all_goals
   refine QiG ⟨(s5,_,w5),⟨by first|exact((fu I).drew).alloc _ _|exact((fu I).alloc _ _).drew,e6.o,d0.o,c6.o,rfl⟩,by kernel_rfl,?_⟩;simp only[Qr5,List.map_cons,List.map_nil,List.append_nil,List.cons_append,List.nil_append,List.setIfInBounds_toArray,List.set_cons_zero,List.set_cons_succ]
   kernel_rfl
 rintro w6 ⟨s5,W5,w5⟩ vv ⟨b4,e7,J,a2,rfl⟩;simp only[Qr5,List.map_cons,List.map_nil,List.append_nil,List.cons_append,List.nil_append,List.setIfInBounds_toArray,List.set_cons_zero,List.set_cons_succ];dsimp only at b4 e7 J a2;have b0:Ext wc W5:=g8.o.trans b4;have X:Sb (λc=>c=O\/d.s.row=some c) wc (w5.setCell ⟨O,2,none⟩ (.slice s5.a (d.us.length+1) s5.c)):=
  ((b0.sb _).trans ⟨J.grown.os,J.grown.tape,J.grown.output,J.grown.size,λi hi hn=>J.grown.block i hi λe=>hn (.inr e.symm)⟩).trans ((fB _ w5).set (p:=⟨O,2,none⟩) (.inr (.inl rfl)) _)
 have b8:Blk w5 O 80 #[Qay d.T,.map (some b),.slice d.s.a d.us.length d.s.c]:=(J.agree (F:=λc=>c=O) (λi hi=>by rw[hi];exact ab j3 b0.size) (λi hi e=>g0 (by rw[hi,e])) O rfl).trans (R.o.at_.blk.ext b0);have e8:=b8.Qdz 2 (.slice s5.a (d.us.length+1) s5.c);have f6:¬O=b:=λe=>R.o.at_.ne.1 (by rw[e])
 have n0:=Qbt.ne R.o.at_.map R.o.bo;have n1:=Qbt.ne R.o.at_.map R.o.bk;have n2:=Qbt.ne R.o.at_.map R.o.bs;have k0:=X.blk R.o.bo (λe=>by
  rcases e with e|e
  .omega
  have:=a5.o _ e;omega)
 have k1:=X.blk R.o.bk (λe=>by
  rcases e with e|e
  .omega
  have:=a5.o _ e;omega)
 have k2:=X.blk R.o.bs (λe=>by
  rcases e with e|e
  .omega
  have:=a5.o _ e;omega)
 have a0:Qbt (w5.setCell ⟨O,2,none⟩ (.slice s5.a (d.us.length+1) s5.c)) (some b) d.C:=R.o.at_.map.heap λi hi=>by
  injection hi with hi;subst hi;exact X.block b (R.o.at_.map.lt rfl) λe=>by
   rcases e with e|e
   .exact f6 e.symm
   exact R.o.at_.ne.2.2 b rfl e
 have j4:=hY b4;have e6:=hY e7;have d0:=hY J;have c6:=hY a2;obtain⟨W6,e4⟩:∃W6,w5.setCell ⟨O,2,none⟩ (.slice s5.a (d.us.length+1) s5.c)=W6:=⟨_,rfl⟩;rw[e4]at e8 k0 k1 k2 a0 ⊢;have i4:=hY e4;have f0:=hY a0;have z:=hY (show ∀W,Sb (λc=>c=b) W6 W->W.cell? ⟨w.heap.size,0,none⟩=some (.pointer (some ⟨O,0,none⟩))/\W.cell? ⟨O,1,none⟩=some (.map (some b))/\W.cell? ⟨w.heap.size+1,0,none⟩=some (.string k)/\W.cell? ⟨w.heap.size+1+1,0,none⟩=some (.bool a8)/\W.cell? ⟨w.heap.size+1+1,1,none⟩=some (.int .i64 v.kind)/\W.cell? ⟨w.heap.size+1+1,2,none⟩=some (.bool v.b)/\W.cell? ⟨w.heap.size+1+1,3,none⟩=some (.int .i64 v.i)/\W.cell? ⟨w.heap.size+1+1,4,none⟩=some (.string v.t)/\W.cell? ⟨w.heap.size+1+1,5,none⟩=some (.slice sl.a v.l.length sl.c)/\W.cell? ⟨w.heap.size+1+1,6,none⟩=some (.slice so.a v.ok.length so.c)from
  λW L=>⟨(L.blk k0 n0).cell 0,(L.blk e8 f6).cell 1,(L.blk k1 n1).cell 0,(L.blk k2 n2).cell 0,(L.blk k2 n2).cell 1,(L.blk k2 n2).cell 2,(L.blk k2 n2).cell 3,(L.blk k2 n2).cell 4,(L.blk k2 n2).cell 5,(L.blk k2 n2).cell 6⟩)
 have i5:d.C.length<maxLen:=by have:=a4.o.few;unfold maxLen;omega
 clear b0 X b8 e8 n0 n1 n2 k0 k1 k2 a0 b4 e7 J a2 e4 c2 f2 c7 c3 l3 b7 g6 f7;go_wp2_with fail;refine ez (S:=(λw'=>Sb (λc=>c=b) W6 w')) (by kernel_rfl) (((fB _ W6).drew)) (λhHeld=>?_);refine Qad 0 (some 36) z hHeld ?_;refine Qad 1 (some 37) z hHeld ?_;refine Qad 2 (some 38) z hHeld ?_;refine Qad 3 (some 39) z hHeld ?_;refine Qad 4 (some 40) z hHeld ?_;refine Qad 5 (some 41) z hHeld ?_;refine Qag (i:=6) (by kernel_rfl) rfl (by rfl) (λK D=>?_)
 skip
 (refine QjO (b:=b) (C:=d.C) (k:=k) (s:=⟨a8,v,sl,so⟩) rfl rfl rfl rfl (f0.o.heap λ_ _=>rfl) hk i5 a4.o.sorted ?_;intro w7 e2 g7)
 refine D.out _ _ (hHeld.trans g7) (λhHeld=>?_);clear D K
 try simp only[Act.put,List.setIfInBounds_toArray,List.set_cons_zero,List.set_cons_succ]
 refine eE (by kernel_rfl) ?_ _;have h7:Sb (λc=>c=b) (w5.setCell ⟨O,2,none⟩ (.slice s5.a (d.us.length+1) s5.c)) w7:=by rw[i4.o];exact hHeld
 have f3:=step_end R.o lO a5.o g3.o hk g8.o i3.o j1.o (by rw[HO.o];exact i8.o) (by rw[HG.o];exact i7.o) j4.o HL.o i6.o e6.o d0.o c6.o e2 h7;go_end0;exact⟨⟨_,rfl⟩,_,_,f3⟩
abbrev Nw(w w':World):Prop:=Sb (λ_=>False) w w'
theorem Nw.any(h:Nw w w')(H:Nat->Prop):Sb H w w':=h.mono λ_ _ e=>e.elim
theorem Nw.blk(h:Nw w w'){t:TypeId}{cs:Array Value}(z:Blk w g t cs):Blk w' g t cs:=Sb.blk h z λe=>e
theorem Nw.agree{w w':World}(h:Nw w w'){F:Nat->Prop}(hF:∀b,F b->b<w):Agree F w w':=λb z=>h.block b (hF b z) λe=>e
theorem Nw.of{w w':World}(h:Ext w w'):Nw w w':=h.sb _
section
variable{H : Nat -> Prop}{w w' : World}{O : Nat}{d d' : OD}
theorem QcW.nw(h:QcW H w O d)(k:Nw w w'):QcW H w' O d:=h.sb k λ_ z=>z.elim
theorem QnP.after{w0:World}(h:QnP H w O d d' w')(k:Nw w0 w):QnP H w0 O d d' w':=
 ⟨h.at_,(k.any _).trans h.sb,λb D=>(h.new b D).imp id λz=>aj k.size z⟩
def OD.step(d:OD)(k:ByteArray)(sv:SV)(mb:Option Nat)(s:Sl):OD:=⟨d.T,mb,s,d.us++[⟨k,Qa5 d.C k⟩],d.Hs++[Qc6 d.C k sv],Qc6 d.C k sv⟩
end
def Qll(H:Nat->Prop)(O:Nat)(d:OD)(k:ByteArray)(w:World)(e:Ending)(w':World):Prop:=
 e=.returned (.bool (d.now k).isSome)/\(((d.now k).isSome=false/\Nw w w')\/((d.now k).isSome=true/\∃mb s,QnP H w O d (d.step k Qh4 mb s) w'))
theorem Qoo(h:QcW H w O d)(U:∀b,H b->b<w)(hn:d.us.length<=1000000)(hl:(Qab d.T).length<=1000000){k:ByteArray}(X:k.size<=maxLen) :
  Calls prog 17 #[.pointer (some ⟨O,0,none⟩),.string k] w (Qll H O d k w):=by
 have Z:=QrW h hl X;have I:=λW (Y:Ext w W)=>Qmf (h.ext Y) (λb hb=>ab (U b hb) Y.size) hn X (sv:=Qh4) ⟨Qcj _ _,λ_=>rfl⟩
 unfold Qll;generalize d.now k=og at *;have N:=hY I;have HG:=hY Z;clear h U I Z;go_in;go_wp2_with fail;refine HG.o.mono ?_;rintro e w1 ⟨sl,so,rfl,D,-⟩;have J:=hY D;clear D;cases og with
 | none=>
   go_wp2_with fail;go_ret;exact⟨rfl,.inl ⟨rfl,Nw.of (J.o.alloc _ _)⟩⟩
 | some v=>
   go_wp2_with fail;have z:=J.o.alloc (w:=w1) #[.int .i64 v.kind,.bool v.b,.int .i64 v.i,.string v.t,.slice sl.a v.l.length sl.c,.slice so.a v.ok.length so.c] 28;refine(N.o _ z).mono ?_;rintro e w3 ⟨⟨r,rfl⟩,mb,s,L⟩;have R:=hY (L.after (Nw.of z));clear L z;go_wp2_with fail;go_ret;exact⟨rfl,.inr ⟨rfl,mb,s,R.o⟩⟩
variable{sl so:Sl}
theorem Qne{k:ByteArray}{v:Val}{c:Int}(z:∀W,Nw w W->Calls prog 39 #[.string k] W λe w'=>e=.returned (.int .i64 c)/\Nw W w')(L:c≠0) :
  Calls prog 14 #[.pointer (some ⟨O,0,none⟩),.string k,aggV v sl so] w λe w'=>e=.returned (.int .i64 8)/\Nw w w':=by
 have N:=hY z;have R:(c != 0)=true:=eK.2 L;clear z L;go_in;go_wp2_with fail;have D:Ext w (w.alloc (.cells #[.int .i64 v.kind,.bool v.b,.int .i64 v.i,.string v.t,.slice sl.a v.l.length sl.c,.slice so.a v.ok.length so.c] 28)):=(fu w).alloc _ _;refine(N.o _ (Nw.of D)).mono ?_;rintro e w1 ⟨rfl,I⟩;have J:=hY ((Nw.of D).trans I);clear D I;go_wp2_with fail;go_ret;exact⟨rfl,J.o⟩
theorem QpE{k:ByteArray}{v:Val}{c:Int}(D:∀W,Nw w W->Calls prog 39 #[.string k] W λe w'=>e=.returned (.int .i64 0)/\Nw W w')
  (I:∀W,Nw w W->Calls prog 40 #[aggV v sl so] W λe w'=>e=.returned (.int .i64 c)/\Nw W w') (Y:c≠0) :
  Calls prog 14 #[.pointer (some ⟨O,0,none⟩),.string k,aggV v sl so] w λe w'=>e=.returned (.int .i64 c)/\Nw w w':=by
 have HM:=hY D;have HF:=hY I;have g0:(c != 0)=true:=eK.2 Y;clear D Y I;go_in;go_wp2_with fail;have L:Ext w (w.alloc (.cells #[.int .i64 v.kind,.bool v.b,.int .i64 v.i,.string v.t,.slice sl.a v.l.length sl.c,.slice so.a v.ok.length so.c] 28)):=(fu w).alloc _ _;have U:=fx w 28 #[.int .i64 v.kind,.bool v.b,.int .i64 v.i,.string v.t,.slice sl.a v.l.length sl.c,.slice so.a v.ok.length so.c];refine(HM.o _ (Nw.of L)).mono ?_;rintro e w1 ⟨rfl,J⟩;obtain⟨q0,q1,q2,q3,q4,Z⟩:=(J.blk U).c6;have z:=(Nw.of L).trans J;have R:=hY z;clear L J z U;go_wp2_with fail;refine(HF.o _ R.o).mono ?_;rintro e w2 ⟨rfl,N⟩;have X:=hY (R.o.trans N);clear N q0 q1 q2 q3 q4 Z;go_wp2_with fail;go_ret;exact⟨rfl,X.o⟩
def Qqv(H:Nat->Prop)(O:Nat)(d:OD)(k:ByteArray)(v:Val)(w:World)(e:Ending)(w':World):Prop:=
 e=.returned (.int .i64 0)/\∃sl so mb s,QnP H w O d (d.step k ⟨true,v,sl,so⟩ mb s) w'
theorem QtN(h:QcW H w O d)(hH:∀b,H b->b<w)(hn:d.us.length<=1000000){k:ByteArray}(hk:k.size<=maxLen){v:Val}(hv:RV w (Lt w) v sl so)
  (R:∀W,Nw w W->Calls prog 39 #[.string k] W λe w'=>e=.returned (.int .i64 0)/\Nw W w')
  (J:∀W,Nw w W->Calls prog 40 #[aggV v sl so] W λe w'=>e=.returned (.int .i64 0)/\Nw W w') :
  Calls prog 14 #[.pointer (some ⟨O,0,none⟩),.string k,aggV v sl so] w (Qqv H O d k v w):=by
 have a3:=λW (hW:Nw w W) sv hsv=>Qmf (h.nw hW) (λb hb=>ab (hH b hb) hW.size) hn hk (sv:=sv) hsv
 have a2:=λW (hW:Nw w W)=>Qga _ v (an _) W sl so ((hv.agree (hW.agree λb hb=>hb)).mono λb hb=>ab hb hW.size)
 have L:∀b,OvB O d b->b<w:=λb hb=>h.Qbe hb
 have HM:=hY R;have HF:=hY J;have a7:=hY a3;have b4:=hY a2;have a6:=hY L;have b8:=hY hH;clear R J h hv a3 a2 L hH;go_in;go_wp2_with fail;have Y:Ext w (w.alloc (.cells #[.int .i64 v.kind,.bool v.b,.int .i64 v.i,.string v.t,.slice sl.a v.l.length sl.c,.slice so.a v.ok.length so.c] 28)):=(fu w).alloc _ _;have a4:=fx w 28 #[.int .i64 v.kind,.bool v.b,.int .i64 v.i,.string v.t,.slice sl.a v.l.length sl.c,.slice so.a v.ok.length so.c];refine(HM.o _ (Nw.of Y)).mono ?_;rintro e w1 ⟨rfl,X⟩;have Z:=X.blk a4;obtain⟨q0,q1,q2,q3,q4,q5⟩:=Z.c6;have N:=(Nw.of Y).trans X;have a8:=hY N;have b5:=hY Z;clear Y X N a4 Z HM;go_wp2_with fail;refine(HF.o _ a8.o).mono ?_;rintro e w2 ⟨rfl,a0⟩;have a5:=a0.blk b5.o;have U:=a8.o.trans a0;have I:=hY U;clear a0 q0 q1 q2 q3 q4 q5 b5 HF;obtain⟨q0,q1,q2,q3,q4,q5⟩:=a5.c6;clear a5 U;go_wp2_with fail;refine(b4.o _ I.o).mono ?_;rintro e w3 ⟨sl',so',rfl,a9,b6⟩;have D:=I.o.trans (Nw.of a9);have b3:Qkv w3 (OvF H w3 O d) ⟨true,v,sl',so'⟩:=⟨b6.mono λi hi=>⟨hi.2,λe=>by have:=a6.o i e;have:=I.o.size;have:=hi.1;omega,λe=>by have:=b8.o i e;have:=I.o.size;have:=hi.1;omega⟩,λe=>by cases e⟩;have z:=a7.o w3 D _ b3;have c0:=hY D;have a1:=hY z;clear a9 b6 D b3 z q0 q1 q2 q3 q4 q5 b4 a7;go_wp2_with fail;refine a1.o.mono ?_;rintro e w4 ⟨⟨r,rfl⟩,mb,s,b0⟩;have b7:=hY (b0.after c0.o);clear b0;go_wp2_with fail;go_ret;exact⟨rfl,sl',so',mb,s,b7.o⟩
abbrev fv:=@Nw.of
abbrev fC:=@Nw.agree
end Go.Proofs.YtkjkafgnnoidpaaGreatDoor
