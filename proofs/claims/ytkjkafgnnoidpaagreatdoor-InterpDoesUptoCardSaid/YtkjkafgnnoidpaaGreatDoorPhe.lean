/- What the theorem needs of the texts PairE, PairN, Mend, Mend2, Without, Del, Is, Sbs, OvMem, OvStep, OvGet, MeetO, OvStepW: no condition of its own. -/
import Derived.Deep.CutBlock
import Derived.Test.YtkjkafgnnoidpaaGreatDoorPhd
set_option linter.unusedVariables false
set_option linter.unusedSimpArgs false
set_option linter.unnecessarySimpa false
set_option maxRecDepth 100000
set_option maxHeartbeats 4000000
namespace Go.Proofs.YtkjkafgnnoidpaaGreatDoor
open Go.Proofs.Tryz
open Go.RowKit
abbrev QdC(sl sr:Sl):Nat->Prop:=λb=>sl.row=some b\/sr.row=some b
def Qfw(P:Nat->World->Prop)(W:World)(e:Ending)(W':World):Prop:=∃a,e=.returned (.pointer (some ⟨a,0,none⟩))/\W.heap.size<=a/\P a W'/\Ext W W'
variable{w W:World}{s:Sl}{G:Nat->Prop}
theorem QkZ{base n:Nat}{xs:List Value}(h:w.ownsRow base 70 7 (.slice s.a n s.c) n xs)(hs:St G w W)(D:∀b,s.row=some b->¬G b):W.ownsRow base 70 7 (.slice s.a n s.c) n xs:=
 Qae h hs.agree λb z=>⟨(Qaa h z).2,D b z⟩
variable{F:Nat->Prop}{cs:List Value}
theorem QrB{n m:Nat}(h:Rd w F 7 s n cs)(z:m<=n):Rd w F 7 s m (cs.take (m*7)):=h.take z
variable{n:Nat}
theorem Quk{ls:List Value}(U:ls.length=n*7)(X:0<n)(Y:True):∃v0 J z R I D N:Value,ls.drop ((n-1)*7)=[v0,J,z,R,I,D,N]:=by
 have h:(ls.drop ((n-1)*7)).length=7:=by rw[au,U];omega
 match hd:ls.drop ((n-1)*7),h with
 |[v0,J,z,R,I,D,N],_=>exact⟨v0,J,z,R,I,D,N,rfl⟩
section
variable{w : World}{base m nr : Nat}{sl sr : Sl}{ls rs : List Value}{P1 P2 : Nat -> World -> Prop}
theorem Qm8(hL:w.ownsRow base 70 7 (.slice sl.a (m+1) sl.c) (m+1) ls)(hR:w.ownsRow base 70 7 (.slice sr.a nr sr.c) nr rs)(hb:base<=w.heap.size)(a4:∀b,sl.row=some b->sr.row≠some b)
  (c0:∀u∈ls,u.oneCell'=true) (b8:∀u∈rs,u.oneCell'=true) (c6:True) (h4:4<m+1) (h8:m+1<=8) (r8:nr<=8)
  (b7:∀(W:World) (s:Sl),St (QdC sl sr) w W->Rd W (Lt W) 7 s m (ls.take (m*7))->Calls prog 106 #[.slice s.a m s.c] W (Qfw P1 W))
  (c2:∀(W:World) (s:Sl),St (QdC sl sr) w W->Rd W (Lt W) 7 s (nr+1) (ls.drop (m*7)++rs)->Calls prog 106 #[.slice s.a (nr+1) s.c] W (Qfw P2 W))
  (b6:∀a W W',St (QdC sl sr) w W->P1 a W->St (QdC sl sr) W W'->P1 a W') :
  Calls prog 190 #[.slice sl.a (m+1) sl.c,.slice sr.a nr sr.c,.func (.func 106) #[] #[]] w λe w'=>∃a b,e=.returned (.tuple #[.pointer (some ⟨a,0,none⟩),.pointer (some ⟨b,0,none⟩)])/\w<=a/\w<=b/\P1 a w'/\P2 b w'/\St (QdC sl sr) w w':=by
 obtain⟨i0,hi,e8,f5,f6⟩:=eG Tryz.Qa1;obtain⟨v0,v1,v2,v3,Z,Y,v6,D⟩:=Quk hL.1 (by omega) c6;rw[Nat.add_sub_cancel]at D;obtain⟨z,I,rfl,e7,e4,b4,U⟩:=Qa2 hL (by omega);have c8:z<w:=U.lt;have a3:∀b,sr.row=some b->b<w:=λb hb=>(Qaa hR hb).2
 have J:∀W,St (λb=>sr.row=some b) w W->∀j u,ls[j]? = some u->W.cell? ⟨z,j,none⟩=some u:=λW R j u hj=>by
  obtain⟨b,o,h1,h2,h3⟩:=fE hL;obtain⟨e1,-,-⟩:=h1.eq (by omega);obtain⟨rfl,rfl⟩:z=b/\0=o:=by simpa using e1
  have:=h3 j u hj;rw[aA]at this;exact(R.cell c8 (a4 z rfl)).trans this
 have N:∀(c:Nat) (u:Value),([v0,v1,v2,v3,Z,Y,v6]:List Value)[c]? = some u->ls[m*7+c]? = some u:=λc u hu=>by rw[<-D,bj]at hu;exact hu
 have hS:∀W,St (λb=>sr.row=some b) w W->W.cell? ⟨z,m*7,none⟩=some v0/\W.cell? ⟨z,m*7+1,none⟩=some v1/\W.cell? ⟨z,m*7+2,none⟩=some v2/\W.cell? ⟨z,m*7+3,none⟩=some v3/\W.cell? ⟨z,m*7+4,none⟩=some Z/\W.cell? ⟨z,m*7+5,none⟩=some Y/\W.cell? ⟨z,m*7+6,none⟩=some v6:=λW R=>⟨J W R _ _ (N 0 _ rfl),J W R _ _ (N 1 _ rfl),J W R _ _ (N 2 _ rfl),J W R _ _ (N 3 _ rfl),J W R _ _ (N 4 _ rfl),J W R _ _ (N 5 _ rfl),J W R _ _ (N 6 _ rfl)⟩
 have f3:(4:Int)<(m:Int)+1:=by omega
 have f1:(m:Int)<=(I:Int):=by omega
 have f2:(m:Int)<(m:Int)+1:=by omega
 have e3:(I:Int)<=9223372036854775807:=by unfold maxLen at b4;omega
 have f4:IntKind.i64.wrap ((m:Int)+1)=(m:Int)+1:=by rw[ew];omega
 have a6:∀W,St (λb=>sr.row=some b) w W->Calls prog 106 #[.slice (some ⟨z,0,none⟩) m I] W (Qfw P1 W):=λW R=>
  b7 W ⟨some ⟨z,0,none⟩,I⟩ (R.mono λi _ hi=>.inr hi) (QrB ((fE (QkZ (s:=⟨some ⟨z,0,none⟩,I⟩) hL R (λb hb=>a4 b hb))).mono λi hi=>hi.2) (by omega))
 have a0:∀W vb,Ext w W->Blk W vb 70 #[v0,v1,v2,v3,Z,Y,v6]->w<=vb->Calls prog 104 #[.slice sr.a nr sr.c,.int .i64 0,.slice (some ⟨vb,0,none⟩) 1 1] W (QeK base sr nr 0 rs [v0,v1,v2,v3,Z,Y,v6] W):=λW vb R hv e6=>
  QlL (QkZ hR (R.st (λ_=>False)) (λ_ _ h=>h)) (al hb R.size) (by omega) (aw _) rfl hv (λe=>by have:=a3 vb e;omega) (λu hu=>c0 u (aD (D▸hu))) b8
 have HS:=hY hS;have d0:=hY a6;have c4:=hY c2;have HI:=hY a0;have d8:=hY b6;have HL:=hY D;clear hS a6 b7 c2 a0 b6 D N J c0 b8 hL hR U a4;go_in;go_wp2_with fail;have s0:=(St.refl (λb=>sr.row=some b) w).drew;have k0:=HS.o _ s0;have e0:=(fv w).drew;have sA:=((((fv w).alloc #[v0,v1,v2,v3,Z,Y,v6] 70).drew).st (λb=>sr.row=some b));have d6:=hY (show Blk (w.alloc (.cells #[v0,v1,v2,v3,Z,Y,v6] 70)).drew w.heap.size 70 #[v0,v1,v2,v3,Z,Y,v6]from fA w 70 _);go_region_held3 (λW=>W.cell? ⟨z,m*7,none⟩=some v0/\W.cell? ⟨z,m*7+1,none⟩=some v1/\W.cell? ⟨z,m*7+2,none⟩=some v2/\W.cell? ⟨z,m*7+3,none⟩=some v3/\W.cell? ⟨z,m*7+4,none⟩=some Z/\W.cell? ⟨z,m*7+5,none⟩=some Y/\W.cell? ⟨z,m*7+6,none⟩=some v6) (first |(with_reducible exact HS.o _ s0) |(with_reducible exact HS.o _ (s0.alloc _ _)) |(with_reducible exact HS.o _ s1) |(with_reducible exact HS.o _ (s1.alloc _ _)) |(with_reducible exact HS.o _ s2) |(with_reducible exact HS.o _ b0) |(with_reducible exact HS.o _ sA)|go_keep)
  (first
    |(go_at_call_of 106 (Value.slice (some ⟨z,0,none⟩) m I);refine(d0.o _ (by first|exact s0|exact s0.alloc _ _)).mono ?_;rintro e w1 ⟨a1,rfl,c7,b3,a5⟩;have s1:=(show St (λb=>sr.row=some b) w _ from by first|exact s0|exact s0.alloc _ _).ext a5;have e1:=(show Ext w _ from by first|exact e0|exact e0.alloc _ _).trans a5;have d7:=hY b3;clear b3)
    |(go_at_call 104;refine(HI.o _ _ (by first |(with_reducible exact e1)|exact e1.alloc _ _) (by first|exact(fA _ _ _)|exact Blk.ext d6.o a5) (by first|exact e1.size|exact an _)).mono ?_;rintro e w2 ⟨s3,rfl,b5,X,e2⟩;have d5:=(show St (QdC ⟨some ⟨z,0,none⟩,I⟩ sr) w1 w2 from by first|exact(X.st λi hi=>.inr hi)|exact(((fv w1).alloc _ _).st _).trans (X.st λi hi=>.inr hi));have s2:=s1.trans (show St (λb=>sr.row=some b) w1 w2 from by first|exact(X.st λi hi=>hi)|exact(((fv w1).alloc _ _).st _).trans (X.st λi hi=>hi));have c3:=hY b5;clear b5 X e2)
    |(go_at_call 106;refine(c4.o w2 s3 (s2.mono λi _ hi=>.inr hi) ?_).mono ?_;(have h:=fE c3.o;simp only[Nat.zero_mul,List.take_zero,List.nil_append,List.drop_zero]at h;rw[<-HL.o]at h;exact h.mono λi hi=>hi.2);rintro e w3 ⟨a2,rfl,d4,a9,c1⟩;have b0:=s2.ext c1;have d3:=hY a9;clear a9))
 all_goals
  go_wp2_with fail;go_ret2;have f0:=s1.size;have c9:=s2.size;refine⟨a1,a2,rfl,?_,al c9 d4,d8.o a1 w1 w3 (s1.mono λi _ hi=>.inr hi) d7.o (d5.ext c1),d3.o,b0.mono λi _ hi=>.inr hi⟩;simp only[World.size_alloc,World.size_drew]at c7;omega
end
theorem Qtm{rs:List Value}(U:rs.length=n*7)(X:0<n)(Y:True):∃v0 J z R I D N:Value,rs.take 7=[v0,J,z,R,I,D,N]:=by
 have h:(rs.take 7).length=7:=by rw[ap,U];omega
 match hd:rs.take 7,h with
 |[v0,J,z,R,I,D,N],_=>exact⟨v0,J,z,R,I,D,N,rfl⟩
section
variable{w : World}{base nl m : Nat}{sl sr : Sl}{ls rs : List Value}{P1 P2 : Nat -> World -> Prop}
theorem Qk1(hL:w.ownsRow base 70 7 (.slice sl.a nl sl.c) nl ls)(hR:w.ownsRow base 70 7 (.slice sr.a (m+1) sr.c) (m+1) rs)(hb:base<=w.heap.size)(b7:∀b,sl.row=some b->sr.row≠some b)
  (b3:∀u∈ls,u.oneCell'=true) (b0:∀u∈rs,u.oneCell'=true) (c4:True) (h4:nl<=4) (h5:4<m+1) (h8:m+1<=8)
  (a9:∀(W:World) (s:Sl),St (QdC sl sr) w W->Rd W (Lt W) 7 s (nl+1) (ls++rs.take 7)->Calls prog 106 #[.slice s.a (nl+1) s.c] W (Qfw P1 W))
  (c1:∀(W:World) (s:Sl),St (QdC sl sr) w W->Rd W (Lt W) 7 s m (rs.drop 7)->Calls prog 106 #[.slice s.a m s.c] W (Qfw P2 W))
  (a6:∀a W W',St (QdC sl sr) w W->P1 a W->St (QdC sl sr) W W'->P1 a W') :
  Calls prog 190 #[.slice sl.a nl sl.c,.slice sr.a (m+1) sr.c,.func (.func 106) #[] #[]] w λe w'=>∃a b,e=.returned (.tuple #[.pointer (some ⟨a,0,none⟩),.pointer (some ⟨b,0,none⟩)])/\w<=a/\w<=b/\P1 a w'/\P2 b w'/\St (QdC sl sr) w w':=by
 obtain⟨i0,hi,c7,f1,f2⟩:=eG Tryz.Qa1;obtain⟨v0,v1,v2,v3,v4,Z,v6,D⟩:=Qtm hR.1 (by omega) c4;obtain⟨z,I,rfl,f5,f3,b5,Y⟩:=Qa2 hR (by omega);have e8:z<w:=Y.lt;have U:∀b,sl.row=some b->b≠z:=λb hb e=>b7 b hb (by simp[Sl.row,e])
 have b6:Rd w (λb=>b=z) 7 ⟨some ⟨z,0,none⟩,I⟩ (m+1) rs:=by
  obtain⟨b,o,h1,h2,h3⟩:=fE hR;obtain⟨e1,f0,c2⟩:=h1.eq (by omega);obtain⟨rfl,rfl⟩:z=b/\0=o:=by simpa using e1
  exact⟨z,0,.some _ _ _ _ f0 c2 rfl,h2,h3⟩
 have J:∀W,St (λb=>sl.row=some b) w W->∀j u,rs[j]? = some u->W.cell? ⟨z,j,none⟩=some u:=λW R j u hj=>by
  obtain⟨b,o,h1,h2,h3⟩:=fE hR;obtain⟨e1,-,-⟩:=h1.eq (by omega);obtain⟨rfl,rfl⟩:z=b/\0=o:=by simpa using e1
  have:=h3 j u hj;rw[aA]at this;exact(R.cell e8 (λe=>U z e rfl)).trans this
 have N:∀(c:Nat) (u:Value),([v0,v1,v2,v3,v4,Z,v6]:List Value)[c]? = some u->rs[c]? = some u:=λc u hu=>by
  rw[<-D,bm]at hu;split at hu
  .exact hu
  cases hu
 have hS:∀W,St (λb=>sl.row=some b) w W->W.cell? ⟨z,0,none⟩=some v0/\W.cell? ⟨z,1,none⟩=some v1/\W.cell? ⟨z,2,none⟩=some v2/\W.cell? ⟨z,3,none⟩=some v3/\W.cell? ⟨z,4,none⟩=some v4/\W.cell? ⟨z,5,none⟩=some Z/\W.cell? ⟨z,6,none⟩=some v6:=λW R=>⟨J W R _ _ (N 0 _ rfl),J W R _ _ (N 1 _ rfl),J W R _ _ (N 2 _ rfl),J W R _ _ (N 3 _ rfl),J W R _ _ (N 4 _ rfl),J W R _ _ (N 5 _ rfl),J W R _ _ (N 6 _ rfl)⟩
 have g0:¬(4:Int)<(nl:Int):=by omega
 have f9:(4:Int)<(m:Int)+1:=by omega
 have f8:(0:Int)<(m:Int)+1:=by omega
 have g3:(1:Int)<=(m:Int)+1:=by omega
 have g5:¬I=1:=by omega
 have g4:IntKind.i64.wrap ((m:Int)+1)=(m:Int)+1:=by rw[ew];omega
 have f4:(I:Int)<=9223372036854775807:=by unfold maxLen at b5;omega
 have f6:(m:Int)+1<=(I:Int):=by omega
 have d5:nl+1<=maxLen:=by unfold maxLen;omega
 have c9:(nl+1)*104<=140737488355328:=by omega
 have a0:∀W,Ext w W->W.ownsRow base 70 7 (.slice sl.a nl sl.c) nl ls:=λW R=>QkZ hL (R.st (λ_=>False)) (λ_ _ h=>h)
 have b4:∀W,St (λb=>sl.row=some b) w W->Calls prog 106 #[.slice (some ⟨z,7,none⟩) m (I-1)] W (Qfw P2 W):=λW R=>by
  refine c1 W ⟨some ⟨z,7,none⟩,I-1⟩ (R.mono λi _ hi=>.inl hi) ?_;have h:=((b6.agree (R.agree.mono λi (hi:i=z)=>⟨by omega,λe=>U i e hi⟩)).drop (m:=1) (by omega)).mono (G:=Lt W) λi (hi:i=z)=>by have:=R.size;show i<_;omega
  simpa using h
 have HS:=hY hS;have d0:=hY a9;have c3:=hY b4;have e7:=hY a6;have HF:=hY D;have a5:=hY a0;have f7:=hY b3;have d6:Yd (∀u∈([v0,v1,v2,v3,v4,Z,v6]:List Value),u.oneCell'=true):=hY λu hu=>b0 u (aN (D▸hu))
 clear hS b4 a9 c1 a6 D J N b3 b0 hL hR Y b7 U a0 b6;go_in;go_wp2_with fail;have s0:=(St.refl (λb=>sl.row=some b) w).drew;have e0:=(fv w).drew;have sA:=((((fv w).alloc #[v0,v1,v2,v3,v4,Z,v6] 70).drew).st (λb=>sl.row=some b));have k0:=HS.o _ s0;have e4:=hY (show Blk (w.alloc (.cells #[v0,v1,v2,v3,v4,Z,v6] 70)).drew w.heap.size 70 #[v0,v1,v2,v3,v4,Z,v6]from fA w 70 _);go_region_held3 (λW=>W.cell? ⟨z,0,none⟩=some v0/\W.cell? ⟨z,1,none⟩=some v1/\W.cell? ⟨z,2,none⟩=some v2/\W.cell? ⟨z,3,none⟩=some v3/\W.cell? ⟨z,4,none⟩=some v4/\W.cell? ⟨z,5,none⟩=some Z/\W.cell? ⟨z,6,none⟩=some v6) (first |(with_reducible exact HS.o _ s0) |(with_reducible exact HS.o _ sA) |(with_reducible exact HS.o _ s1) |(with_reducible exact HS.o _ s2) |(with_reducible exact HS.o _ s3)|go_keep)
  (first
    |(refine Qdp _ rfl (.tmp 35) (.tmp 39) 22 rfl base 70 i0 _ 7 104 underlying22 hi c7 f1 f2 rfl (by decide) sl nl ls (by rfl) (a5.o _ (((fv w).alloc _ _).drew)) (λb=>b=w.heap.size) ⟨some ⟨w,0,none⟩,1⟩ 1 [v0,v1,v2,v3,v4,Z,v6] (by rfl) (fH e4.o (by decide) rfl) d6.o d5 c9 (by rw[fg,ey];omega) ?_;intro sx w1 X c0 e3;have s1:=sA.trans (c0.st λi hi=>hi);have e2:=hY X;clear X e3)
    |(go_at_call 106;refine(c3.o w2 s2).mono ?_;rintro e w3 ⟨a2,rfl,d8,a3,b8⟩;have s3:=s2.ext b8;have d7:=hY a3;clear a3)
    |(go_at_call 106;refine(d0.o w1 sx (s1.mono λi _ hi=>.inl hi) ?_).mono ?_;(have h:=fE e2.o;rw[<-HF.o]at h;exact h.mono λi hi=>hi.2);rintro e w2 ⟨a1,rfl,c6,a4,d4⟩;have s2:=s1.ext d4;have e6:=hY a4;clear a4))
 all_goals
  go_wp2_with fail;go_ret2;have d3:=s1.size;have c8:=s2.size;exact⟨a1,a2,rfl,al d3 c6,al c8 d8,e7.o a1 w2 w3 (s2.mono λi _ hi=>.inl hi) e6.o (b8.st _),d7.o,s3.mono λi _ hi=>.inl hi⟩
theorem Qm7{nr:Nat}(hL:w.ownsRow base 70 7 (.slice sl.a nl sl.c) nl ls)(hR:w.ownsRow base 70 7 (.slice sr.a nr sr.c) nr rs)(hb:base<=w.heap.size)
  (N:∀u∈rs,u.oneCell'=true) (h4:nl<=4) (r4:nr<=4)
  (J:∀(W:World) (s:Sl),St (QdC sl sr) w W->Rd W (Lt W) 7 s (nl+nr) (ls++rs)->Calls prog 106 #[.slice s.a (nl+nr) s.c] W (Qfw P1 W)) :
  Calls prog 190 #[.slice sl.a nl sl.c,.slice sr.a nr sr.c,.func (.func 106) #[] #[]] w λe w'=>∃a,e=.returned (.tuple #[.pointer (some ⟨a,0,none⟩),.pointer none])/\w<=a/\P1 a w'/\St (QdC sl sr) w w':=by
 obtain⟨i0,hi,U,a3,a4⟩:=eG Tryz.Qa1;have a5:¬(4:Int)<(nl:Int):=by omega
 have a6:¬(4:Int)<(nr:Int):=by omega
 have a2:nl+nr<=maxLen:=by unfold maxLen;omega
 have X:(nl+nr)*104<=140737488355328:=by omega
 have Y:=hY J;have HR:=hY (fE hR);have HL:=hY hL;have H1:=hY N;clear J hR hL N;go_in;go_wp2_with(at_builtin;refine Qac _ rfl (.tmp 47) (.tmp 48) 22 rfl base 70 i0 _ 7 104 underlying22 hi U a3 a4 rfl (by decide) sl nl ls rfl HL.o (In base w.heap.size) sr nr rs rfl HR.o H1.o a2 X hb ?_;intro sx w1 z D Z);have s1:St (λb=>sl.row=some b) w w1:=D.st λi hi=>hi
 refine(Y.o w1 sx (s1.mono λi _ hi=>.inl hi) ((fE z).mono λi hi=>hi.2)).mono ?_;rintro e w2 ⟨a1,rfl,R,I,a0⟩;have HP:=hY I;clear I z D Z;go_wp2_with fail;go_ret2;exact⟨a1,rfl,al s1.size R,HP.o,(s1.ext a0).mono λi _ hi=>.inl hi⟩
end
abbrev QdD(sl sr:Sl):Nat->Prop:=λb=>sl.row=some b\/sr.row=some b
def Qfx(P:Nat->World->Prop)(W:World)(e:Ending)(W':World):Prop:=∃a,e=.returned (.pointer (some ⟨a,0,none⟩))/\W.heap.size<=a/\P a W'/\Ext W W'
theorem Qk0{base n:Nat}{xs:List Value}(h:w.ownsRow base 39 1 (.slice s.a n s.c) n xs)(hs:St G w W)(D:∀b,s.row=some b->¬G b):W.ownsRow base 39 1 (.slice s.a n s.c) n xs:=
 Qae h hs.agree λb z=>⟨(Qaa h z).2,D b z⟩
theorem QrC{n m:Nat}(h:Rd w F 1 s n cs)(z:m<=n):Rd w F 1 s m (cs.take (m*1)):=h.take z
theorem Qul{ls:List Value}(z:ls.length=n*1)(J:0<n)(I:∀u∈ls,∃p,u=Value.pointer p):∃v0:Option Addr,ls.drop ((n-1)*1)=[.pointer v0]:=by
 have h:(ls.drop ((n-1)*1)).length=1:=by rw[au,z];omega
 match hd:ls.drop ((n-1)*1),h with
 |[x],_=>obtain⟨p,D⟩:=I x (aD (by rw[hd];exact bn.2 rfl));exact⟨p,by rw[D]⟩
section
variable{w : World}{base m nr : Nat}{sl sr : Sl}{ls rs : List Value}{P1 P2 : Nat -> World -> Prop}
theorem Qna(hL:w.ownsRow base 39 1 (.slice sl.a (m+1) sl.c) (m+1) ls)(hR:w.ownsRow base 39 1 (.slice sr.a nr sr.c) nr rs)(hb:base<=w.heap.size)(Z:∀b,sl.row=some b->sr.row≠some b)
  (b7:∀u∈ls,u.oneCell'=true) (b6:∀u∈rs,u.oneCell'=true) (c4:∀u∈ls,∃p,u=Value.pointer p) (h4:4<m+1) (h8:m+1<=8) (r8:nr<=8)
  (b5:∀(W:World) (s:Sl),St (QdD sl sr) w W->Rd W (Lt W) 1 s m (ls.take (m*1))->Calls prog 64 #[.slice s.a m s.c] W (Qfx P1 W))
  (c1:∀(W:World) (s:Sl),St (QdD sl sr) w W->Rd W (Lt W) 1 s (nr+1) (ls.drop (m*1)++rs)->Calls prog 64 #[.slice s.a (nr+1) s.c] W (Qfx P2 W))
  (b4:∀a W W',St (QdD sl sr) w W->P1 a W->St (QdD sl sr) W W'->P1 a W') :
  Calls prog 191 #[.slice sl.a (m+1) sl.c,.slice sr.a nr sr.c,.func (.func 64) #[] #[]] w λe w'=>∃a b,e=.returned (.tuple #[.pointer (some ⟨a,0,none⟩),.pointer (some ⟨b,0,none⟩)])/\w<=a/\w<=b/\P1 a w'/\P2 b w'/\St (QdD sl sr) w w':=by
 obtain⟨i0,hi,e7,f4,f5⟩:=eG Tryz.QbQ;obtain⟨v0,z⟩:=Qul hL.1 (by omega) c4;rw[Nat.add_sub_cancel]at z;obtain⟨I,D,rfl,e6,e3,a9,J⟩:=Qa2 hL (by omega);have c7:I<w:=J.lt;have Y:∀b,sr.row=some b->b<w:=λb hb=>(Qaa hR hb).2
 have b3:∀W,St (λb=>sr.row=some b) w W->∀j u,ls[j]? = some u->W.cell? ⟨I,j,none⟩=some u:=λW R j u hj=>by
  obtain⟨b,o,h1,h2,h3⟩:=fE hL;obtain⟨e1,-,-⟩:=h1.eq (by omega);obtain⟨rfl,rfl⟩:I=b/\0=o:=by simpa using e1
  have:=h3 j u hj;rw[aA]at this;exact(R.cell c7 (Z I rfl)).trans this
 have c0:∀(c:Nat) (u:Value),([.pointer v0]:List Value)[c]? = some u->ls[m*1+c]? = some u:=λc u hu=>by rw[<-z,bj]at hu;exact hu
 have hS:∀W,St (λb=>sr.row=some b) w W->W.cell? ⟨I,m,none⟩=some (.pointer v0):=λW R=>by have:=b3 W R _ _ (c0 0 _ rfl);simpa using this
 have f2:(4:Int)<(m:Int)+1:=by omega
 have f0:(m:Int)<=(D:Int):=by omega
 have f1:(m:Int)<(m:Int)+1:=by omega
 have e2:(D:Int)<=9223372036854775807:=by unfold maxLen at a9;omega
 have f3:IntKind.i64.wrap ((m:Int)+1)=(m:Int)+1:=by rw[ew];omega
 have a3:∀W,St (λb=>sr.row=some b) w W->Calls prog 64 #[.slice (some ⟨I,0,none⟩) m D] W (Qfx P1 W):=λW R=>
  b5 W ⟨some ⟨I,0,none⟩,D⟩ (R.mono λi _ hi=>.inr hi) (QrC ((fE (Qk0 (s:=⟨some ⟨I,0,none⟩,D⟩) hL R (λb hb=>Z b hb))).mono λi hi=>hi.2) (by omega))
 have U:∀W vb,Ext w W->Blk W vb 39 #[.pointer v0]->w<=vb->Calls prog 107 #[.slice sr.a nr sr.c,.int .i64 0,.slice (some ⟨vb,0,none⟩) 1 1] W (QeL base sr nr 0 rs [.pointer v0] W):=λW vb R hv e4=>
  QlN (Qk0 hR (R.st (λ_=>False)) (λ_ _ h=>h)) (al hb R.size) (by omega) (aw _) rfl hv (λe=>by have:=Y vb e;omega) (λu hu=>b7 u (aD (z▸hu))) b6
 have X:=hY hS;have c9:=hY a3;have c3:=hY c1;have HI:=hY U;have d7:=hY b4;have HL:=hY z;clear hS a3 b5 c1 U b4 z c0 b3 b7 b6 hL hR J Z;go_in;go_wp2_with fail;have s0:=(St.refl (λb=>sr.row=some b) w).drew;have k0:=X.o _ s0;have e0:=(fv w).drew;have sA:=((((fv w).alloc #[.pointer v0] 39).drew).st (λb=>sr.row=some b));have d5:=hY (show Blk (w.alloc (.cells #[.pointer v0] 39)).drew w.heap.size 39 #[.pointer v0]from fA w 39 _);go_region_held3 (λW=>W.cell? ⟨I,m,none⟩=some (.pointer v0)) (first |(with_reducible exact X.o _ s0) |(with_reducible exact X.o _ (s0.alloc _ _)) |(with_reducible exact X.o _ s1) |(with_reducible exact X.o _ (s1.alloc _ _)) |(with_reducible exact X.o _ s2) |(with_reducible exact X.o _ a5) |(with_reducible exact X.o _ sA)|go_keep)
  (first
    |(go_at_call_of 64 (Value.slice (some ⟨I,0,none⟩) m D);refine(c9.o _ (by first|exact s0|exact s0.alloc _ _)).mono ?_;rintro e w1 ⟨a1,rfl,c6,a6,a0⟩;have s1:=(show St (λb=>sr.row=some b) w _ from by first|exact s0|exact s0.alloc _ _).ext a0;have e1:=(show Ext w _ from by first|exact e0|exact e0.alloc _ _).trans a0;have d6:=hY a6;clear a6)
    |(go_at_call 107;refine(HI.o _ _ (by first |(with_reducible exact e1)|exact e1.alloc _ _) (by first|exact(fA _ _ _)|exact Blk.ext d5.o a0) (by first|exact e1.size|exact an _)).mono ?_;rintro e w2 ⟨s3,rfl,b0,N,d8⟩;have d4:=(show St (QdD ⟨some ⟨I,0,none⟩,D⟩ sr) w1 w2 from by first|exact(N.st λi hi=>.inr hi)|exact(((fv w1).alloc _ _).st _).trans (N.st λi hi=>.inr hi));have s2:=s1.trans (show St (λb=>sr.row=some b) w1 w2 from by first|exact(N.st λi hi=>hi)|exact(((fv w1).alloc _ _).st _).trans (N.st λi hi=>hi));have c2:=hY b0;clear b0 N d8)
    |(go_at_call 64;refine(c3.o w2 s3 (s2.mono λi _ hi=>.inr hi) ?_).mono ?_;(have h:=fE c2.o;simp only[Nat.zero_mul,List.take_zero,List.nil_append,List.drop_zero]at h;rw[<-HL.o]at h;exact h.mono λi hi=>hi.2);rintro e w3 ⟨a2,rfl,d3,a4,b8⟩;have a5:=s2.ext b8;have d0:=hY a4;clear a4))
 all_goals
  go_wp2_with fail;go_ret2;have e8:=s1.size;have c8:=s2.size;refine⟨a1,a2,rfl,?_,al c8 d3,d7.o a1 w1 w3 (s1.mono λi _ hi=>.inr hi) d6.o (d4.ext b8),d0.o,a5.mono λi _ hi=>.inr hi⟩;simp only[World.size_alloc,World.size_drew]at c6;omega
end
theorem Qtn{rs:List Value}(z:rs.length=n*1)(J:0<n)(I:∀u∈rs,∃p,u=Value.pointer p):∃v0:Option Addr,rs.take 1=[.pointer v0]:=by
 have h:(rs.take 1).length=1:=by rw[ap,z];omega
 match hd:rs.take 1,h with
 |[x],_=>obtain⟨p,D⟩:=I x (aN (by rw[hd];exact bn.2 rfl));exact⟨p,by rw[D]⟩
section
variable{w : World}{base nl m : Nat}{sl sr : Sl}{ls rs : List Value}{P1 P2 : Nat -> World -> Prop}
theorem Qk2(hL:w.ownsRow base 39 1 (.slice sl.a nl sl.c) nl ls)(hR:w.ownsRow base 39 1 (.slice sr.a (m+1) sr.c) (m+1) rs)(hb:base<=w.heap.size)(b7:∀b,sl.row=some b->sr.row≠some b)
  (b3:∀u∈ls,u.oneCell'=true) (a9:∀u∈rs,u.oneCell'=true) (c4:∀u∈rs,∃p,u=Value.pointer p) (h4:nl<=4) (h5:4<m+1) (h8:m+1<=8)
  (a6:∀(W:World) (s:Sl),St (QdD sl sr) w W->Rd W (Lt W) 1 s (nl+1) (ls++rs.take 1)->Calls prog 64 #[.slice s.a (nl+1) s.c] W (Qfx P1 W))
  (c1:∀(W:World) (s:Sl),St (QdD sl sr) w W->Rd W (Lt W) 1 s m (rs.drop 1)->Calls prog 64 #[.slice s.a m s.c] W (Qfx P2 W))
  (a5:∀a W W',St (QdD sl sr) w W->P1 a W->St (QdD sl sr) W W'->P1 a W') :
  Calls prog 191 #[.slice sl.a nl sl.c,.slice sr.a (m+1) sr.c,.func (.func 64) #[] #[]] w λe w'=>∃a b,e=.returned (.tuple #[.pointer (some ⟨a,0,none⟩),.pointer (some ⟨b,0,none⟩)])/\w<=a/\w<=b/\P1 a w'/\P2 b w'/\St (QdD sl sr) w w':=by
 obtain⟨i0,hi,c7,f1,f2⟩:=eG Tryz.QbQ;obtain⟨v0,z⟩:=Qtn hR.1 (by omega) c4;obtain⟨I,D,rfl,f5,f3,b5,R⟩:=Qa2 hR (by omega);have e8:I<w:=R.lt;have J:∀b,sl.row=some b->b≠I:=λb hb e=>b7 b hb (by simp[Sl.row,e])
 have b6:Rd w (λb=>b=I) 1 ⟨some ⟨I,0,none⟩,D⟩ (m+1) rs:=by
  obtain⟨b,o,h1,h2,h3⟩:=fE hR;obtain⟨e1,f0,c2⟩:=h1.eq (by omega);obtain⟨rfl,rfl⟩:I=b/\0=o:=by simpa using e1
  exact⟨I,0,.some _ _ _ _ f0 c2 rfl,h2,h3⟩
 have Z:∀W,St (λb=>sl.row=some b) w W->∀j u,rs[j]? = some u->W.cell? ⟨I,j,none⟩=some u:=λW U j u hj=>by
  obtain⟨b,o,h1,h2,h3⟩:=fE hR;obtain⟨e1,-,-⟩:=h1.eq (by omega);obtain⟨rfl,rfl⟩:I=b/\0=o:=by simpa using e1
  have:=h3 j u hj;rw[aA]at this;exact(U.cell e8 (λe=>J I e rfl)).trans this
 have b0:∀(c:Nat) (u:Value),([.pointer v0]:List Value)[c]? = some u->rs[c]? = some u:=λc u hu=>by
  rw[<-z,bm]at hu;split at hu
  .exact hu
  cases hu
 have hS:∀W,St (λb=>sl.row=some b) w W->W.cell? ⟨I,0,none⟩=some (.pointer v0):=λW U=>Z W U _ _ (b0 0 _ rfl)
 have g0:¬(4:Int)<(nl:Int):=by omega
 have f9:(4:Int)<(m:Int)+1:=by omega
 have f8:(0:Int)<(m:Int)+1:=by omega
 have g3:(1:Int)<=(m:Int)+1:=by omega
 have g5:¬D=1:=by omega
 have g4:IntKind.i64.wrap ((m:Int)+1)=(m:Int)+1:=by rw[ew];omega
 have f4:(D:Int)<=9223372036854775807:=by unfold maxLen at b5;omega
 have f6:(m:Int)+1<=(D:Int):=by omega
 have d5:nl+1<=maxLen:=by unfold maxLen;omega
 have c9:(nl+1)*8<=140737488355328:=by omega
 have X:∀W,Ext w W->W.ownsRow base 39 1 (.slice sl.a nl sl.c) nl ls:=λW U=>Qk0 hL (U.st (λ_=>False)) (λ_ _ h=>h)
 have b4:∀W,St (λb=>sl.row=some b) w W->Calls prog 64 #[.slice (some ⟨I,1,none⟩) m (D-1)] W (Qfx P2 W):=λW U=>by
  refine c1 W ⟨some ⟨I,1,none⟩,D-1⟩ (U.mono λi _ hi=>.inl hi) ?_;have h:=((b6.agree (U.agree.mono λi (hi:i=I)=>⟨by omega,λe=>J i e hi⟩)).drop (m:=1) (by omega)).mono (G:=Lt W) λi (hi:i=I)=>by have:=U.size;show i<_;omega
  simpa using h
 have Y:=hY hS;have d0:=hY a6;have c3:=hY b4;have e7:=hY a5;have HF:=hY z;have a4:=hY X;have f7:=hY b3;have d6:Yd (∀u∈([.pointer v0]:List Value),u.oneCell'=true):=hY λu hu=>a9 u (aN (z▸hu))
 clear hS b4 a6 c1 a5 z Z b0 b3 a9 hL hR R b7 J X b6;go_in;go_wp2_with fail;have s0:=(St.refl (λb=>sl.row=some b) w).drew;have e0:=(fv w).drew;have sA:=((((fv w).alloc #[.pointer v0] 39).drew).st (λb=>sl.row=some b));have k0:=Y.o _ s0;have e4:=hY (show Blk (w.alloc (.cells #[.pointer v0] 39)).drew w.heap.size 39 #[.pointer v0]from fA w 39 _);go_region_held3 (λW=>W.cell? ⟨I,0,none⟩=some (.pointer v0)) (first |(with_reducible exact Y.o _ s0) |(with_reducible exact Y.o _ sA) |(with_reducible exact Y.o _ s1) |(with_reducible exact Y.o _ s2) |(with_reducible exact Y.o _ s3)|go_keep)
  (first
    |(refine Qdp _ rfl (.tmp 35) (.tmp 39) 114 rfl base 39 i0 _ 1 8 underlying114 hi c7 f1 f2 rfl (by decide) sl nl ls (by rfl) (a4.o _ (((fv w).alloc _ _).drew)) (λb=>b=w.heap.size) ⟨some ⟨w,0,none⟩,1⟩ 1 [.pointer v0] (by rfl) (fH e4.o (by decide) rfl) d6.o d5 c9 (by rw[fg,ey];omega) ?_;intro sx w1 N c0 e3;have s1:=sA.trans (c0.st λi hi=>hi);have e2:=hY N;clear N e3)
    |(go_at_call 64;refine(c3.o w2 s2).mono ?_;rintro e w3 ⟨a2,rfl,d8,a0,b8⟩;have s3:=s2.ext b8;have d7:=hY a0;clear a0)
    |(go_at_call 64;refine(d0.o w1 sx (s1.mono λi _ hi=>.inl hi) ?_).mono ?_;(have h:=fE e2.o;rw[<-HF.o]at h;exact h.mono λi hi=>hi.2);rintro e w2 ⟨a1,rfl,c6,a3,d4⟩;have s2:=s1.ext d4;have e6:=hY a3;clear a3))
 all_goals
  go_wp2_with fail;go_ret2;have d3:=s1.size;have c8:=s2.size;exact⟨a1,a2,rfl,al d3 c6,al c8 d8,e7.o a1 w2 w3 (s2.mono λi _ hi=>.inl hi) e6.o (b8.st _),d7.o,s3.mono λi _ hi=>.inl hi⟩
theorem Qm9{nr:Nat}(hL:w.ownsRow base 39 1 (.slice sl.a nl sl.c) nl ls)(hR:w.ownsRow base 39 1 (.slice sr.a nr sr.c) nr rs)(hb:base<=w.heap.size)
  (N:∀u∈rs,u.oneCell'=true) (h4:nl<=4) (r4:nr<=4)
  (J:∀(W:World) (s:Sl),St (QdD sl sr) w W->Rd W (Lt W) 1 s (nl+nr) (ls++rs)->Calls prog 64 #[.slice s.a (nl+nr) s.c] W (Qfx P1 W)) :
  Calls prog 191 #[.slice sl.a nl sl.c,.slice sr.a nr sr.c,.func (.func 64) #[] #[]] w λe w'=>∃a,e=.returned (.tuple #[.pointer (some ⟨a,0,none⟩),.pointer none])/\w<=a/\P1 a w'/\St (QdD sl sr) w w':=by
 obtain⟨i0,hi,U,a3,a4⟩:=eG Tryz.QbQ;have a5:¬(4:Int)<(nl:Int):=by omega
 have a6:¬(4:Int)<(nr:Int):=by omega
 have a2:nl+nr<=maxLen:=by unfold maxLen;omega
 have X:(nl+nr)*8<=140737488355328:=by omega
 have Y:=hY J;have HR:=hY (fE hR);have HL:=hY hL;have H1:=hY N;clear J hR hL N;go_in;go_wp2_with(at_builtin;refine Qac _ rfl (.tmp 47) (.tmp 48) 114 rfl base 39 i0 _ 1 8 underlying114 hi U a3 a4 rfl (by decide) sl nl ls rfl HL.o (In base w.heap.size) sr nr rs rfl HR.o H1.o a2 X hb ?_;intro sx w1 z D Z);have s1:St (λb=>sl.row=some b) w w1:=D.st λi hi=>hi
 refine(Y.o w1 sx (s1.mono λi _ hi=>.inl hi) ((fE z).mono λi hi=>hi.2)).mono ?_;rintro e w2 ⟨a1,rfl,R,I,a0⟩;have HP:=hY I;clear I z D Z;go_wp2_with fail;go_ret2;exact⟨a1,rfl,al s1.size R,HP.o,(s1.ext a0).mono λi _ hi=>.inl hi⟩
end
def Qf7(F:Nat->Prop)(h:Nat)(l r:PT h)(w:World)(e:Ending)(w':World):Prop:=
 ∃ts:List (PT h),e=two h ts/\Qew w.heap.size h l r ts/\(∀u∈ts,IsN w' (Up F w w') h u)
variable{xs:List LE}
theorem QtP(D:n=xs.length)(z:Rd w F 7 s n (Qai xs))(I:Qmw w F xs)(J:xs.length<=1000):ES w F s xs:=by
 subst D;exact⟨z,I,by omega⟩
theorem QiE{α:Type}{P:α->Prop}{x y:α}(z:P x)(D:P y):∀u∈[x,y],P u:=λu hu=>by
 rcases aG.1 hu with rfl|hu
 .exact z
 obtain rfl:=bn.1 hu;exact D
theorem QiC{α:Type}{P:α->Prop}{x:α}(z:P x):∀u∈[x],P u:=λu hu=>by
 obtain rfl:=bn.1 hu;exact z
theorem QjG(D:St G w W)(hG:∀b,G b->b<w)(N:n=xs.length)(U:xs.length<=8)(Y:Rd W (Lt W) 7 s n (Qai xs))(X:Qmw w (NH G w) xs)(z:QbH xs) :
  Calls prog 106 #[.slice s.a n s.c] W (Qfw (λa W'=>w<=a/\IsN W' (λb=>w<=b/\b<W') 0 (a,xs.map LE.ent)) W):=by
 have I:ES W (Lt W) s xs:=QtP N Y ((X.agree D.agree).mono λi hi=>ab hi.1 D.size) (by omega);refine(QdZ I N z U).mono ?_;rintro e w' ⟨t,rfl,h1,h2,J,Z⟩;refine⟨addr 0 t,rfl,h2,⟨Nat.le_trans D.size h2,?_⟩,Z⟩;have R:t=(t.1,xs.map LE.ent):=by rw[<-h1];rfl
 rw[R]at J;exact J.mono λi hi=>⟨Nat.le_trans D.size hi.1,hi.2⟩
variable{W':World}{h:Nat}
theorem QlP(D:∀b,G b->b<w){t:PT h}(z:IsN W (λb=>w<=b/\b<W) h t)(hs:St G W W'):IsN W' (λb=>w<=b/\b<W') h t:=
 (z.agree (hs.agree.mono λi hi=>⟨hi.2,λI=>by have:=D i I;omega⟩)).mono λi hi=>⟨hi.1,ab hi.2 hs.size⟩
variable{ys:List LE}
theorem QjQ{base:Nat}{sl sr:Sl}(hL:OE w base sl xs)(hR:OE w base sr ys)(X:base<=w.heap.size)(Z:∀b,sl.row=some b->sr.row≠some b)
  (R:Qmw w (NH (QdC sl sr) w) xs) (J:Qmw w (NH (QdC sl sr) w) ys) (z:QbH (xs++ys)) (x8:xs.length<=8) (y8:ys.length<=8) (D:xs.length+ys.length<=11) {l r:PT 0} (el:xs.map LE.ent=l.2) (er:ys.map LE.ent=r.2) :
  Calls prog 190 #[.slice sl.a xs.length sl.c,.slice sr.a ys.length sr.c,.func (.func 106) #[] #[]] w λe w'=>Qf7 (λ_=>False) 0 l r w e w'/\St (QdC sl sr) w w':=by
 have Y:∀b,QdC sl sr b->b<w:=λb X=>X.elim (λh=>(Qaa hL.own h).2) (λh=>(Qaa hR.own h).2)
 have QfO:∀(w':World) (a b:Nat) (zs N:List LE),(w<=a/\IsN w' (λb=>w<=b/\b<w') 0 (a,zs.map LE.ent))->(w<=b/\IsN w' (λb=>w<=b/\b<w') 0 (b,N.map LE.ent))->
   QcR l.2 r.2=[zs.map LE.ent,N.map LE.ent]->Qf7 (λ_=>False) 0 l r w (.returned (.tuple #[.pointer (some ⟨a,0,none⟩),.pointer (some ⟨b,0,none⟩)])) w':=λw' a b zs N ha X hp=>by
  refine⟨[((a,zs.map LE.ent):PT 0),((b,N.map LE.ent):PT 0)],rfl,⟨hp.symm,QiE (α:=PT 0) ha.1 X.1⟩,QiE (α:=PT 0) (ha.2.mono λi hi=>.inr hi) (X.2.mono λi hi=>.inr hi)⟩
 have e1:l.2.length=xs.length:=by rw[<-el,ao]
 have e2:r.2.length=ys.length:=by rw[<-er,ao]
 by_cases h4:4<xs.length
 ·obtain ⟨m,hm⟩:∃ m,xs.length=m+1:=⟨xs.length - 1,by omega⟩
  have t1:(Qai xs).take (m*7)=Qai (xs.take m):=Qc1 xs m;have t2:(Qai xs).drop (m*7)++Qai ys=Qai (xs.drop m++ys):=by rw[Qc0,QaA]
  have a1:=hL.own;rw[hm]at a1 ⊢;refine(Qm8 (P1:=λa W'=>w<=a/\IsN W' (λb=>w<=b/\b<W') 0 (a,(xs.take m).map LE.ent)) (P2:=λa W'=>w<=a/\IsN W' (λb=>w<=b/\b<W') 0 (a,(xs.drop m++ys).map LE.ent))
   a1 hR.own X Z (QaM xs) (QaM ys) trivial (by omega) (by omega) y8 (λW s U I=>?_) (λW s U I=>?_) (λa W W' _ h hs=>⟨h.1,QlP Y h.2 hs⟩)).mono ?_
  ·rw [t1] at I
   exact QjG U Y (by rw[ap];omega) (by rw[ap];omega) I (λx D=>R x (aN D)) (by have:=z.take m;rwa[aZ (by omega)]at this)
  ·rw [t2] at I
   exact QjG U Y (by rw[ak,au];omega) (by rw[ak,au];omega) I (λx D=>by
    rcases aB.1 D with D|D
    .exact R x (aD D)
    exact J x D) (by have:=z.drop m;rwa[List.drop_append_of_le_length (by omega)]at this)
  rintro e w' ⟨a,b,rfl,-,-,h1,h2,hs⟩;refine⟨QfO w' a b _ _ h1 h2 ?_,hs⟩;rw[QcR,em (by omega),<-el,<-er,aL,cO,cy,ao,hm];rfl
 by_cases h5:4<ys.length
 ·obtain ⟨m,hm⟩:∃ m,ys.length=m+1:=⟨ys.length - 1,by omega⟩
  have t1:Qai xs++(Qai ys).take 7=Qai (xs++ys.take 1):=by rw[QaA,<-Qc1]
  have t2:(Qai ys).drop 7=Qai (ys.drop 1):=by rw[<-Qc0]
  have a0:=hR.own;rw[hm]at a0 ⊢;refine(Qk1 (P1:=λa W'=>w<=a/\IsN W' (λb=>w<=b/\b<W') 0 (a,(xs++ys.take 1).map LE.ent)) (P2:=λa W'=>w<=a/\IsN W' (λb=>w<=b/\b<W') 0 (a,(ys.drop 1).map LE.ent))
   hL.own a0 X Z (QaM xs) (QaM ys) trivial (by omega) (by omega) (by omega) (λW s U I=>?_) (λW s U I=>?_) (λa W W' _ h hs=>⟨h.1,QlP Y h.2 hs⟩)).mono ?_
  ·rw [t1] at I
   exact QjG U Y (by rw[ak,ap];omega) (by rw[ak,ap];omega) I (λx D=>by
    rcases aB.1 D with D|D
    .exact R x D
    exact J x (aN D)) (by have:=z.take (xs.length+1);rwa[List.take_length_add_append]at this)
  ·rw [t2] at I
   exact QjG U Y (by rw[au];omega) (by rw[au];omega) I (λx D=>J x (aD D)) (by have:=z.drop (xs.length+1);rwa[cZ]at this)
  rintro e w' ⟨a,b,rfl,-,-,h1,h2,hs⟩;refine⟨QfO w' a b _ _ h1 h2 ?_,hs⟩;rw[QcR,ef (by omega),em (by omega),<-el,<-er,aL,cO,cy]
 have t1:Qai xs++Qai ys=Qai (xs++ys):=by rw[QaA]
 refine(Qm7 (P1:=λa W'=>w<=a/\IsN W' (λb=>w<=b/\b<W') 0 (a,(xs++ys).map LE.ent)) hL.own hR.own X (QaM ys) (by omega) (by omega) (λW s U I=>?_)).mono ?_
 ·rw [t1] at I
  exact QjG U Y (by rw[ak]) (by rw[ak];omega) I (λx D=>by
   rcases aB.1 D with D|D
   .exact R x D
   exact J x D) z
 rintro e w' ⟨a,rfl,-,h1,hs⟩;refine⟨⟨[((a,(xs++ys).map LE.ent):PT 0)],rfl,⟨?_,QiC (α:=PT 0) h1.1⟩,QiC (α:=PT 0) (h1.2.mono λi hi=>.inr hi)⟩,hs⟩;show[(xs++ys).map LE.ent]=_;rw[QcR,ef (by omega),ef (by omega),<-el,<-er,aL]
theorem Qjz(I:∀b,G b->b<w)(hF:∀b,F b->b<w/\¬G b)(z:w.heap.size<=W.heap.size){t:PT h}(D:IsN W (Up F w W) h t)(hs:St G W W'):IsN W' (Up F w W') h t:=
 (D.agree (hs.agree.mono λi hi=>hi.elim (λh=>⟨Nat.lt_of_lt_of_le (hF i h).1 z,(hF i h).2⟩) λh=>⟨h.2,λJ=>by have:=I i J;omega⟩)).mono λi hi=>hi.imp_right λh=>⟨h.1,ab h.2 hs.size⟩
theorem QgM{ks:List (PT h)}(D:St G w W)(hF:∀b,F b->¬G b)(X:n=ks.length)(h2:2<=ks.length)(R:ks.length<=8)(Z:Rd W (Lt W) 1 s n (ptrs h ks))(z:Kids w F h ks) :
  Calls prog 64 #[.slice s.a n s.c] W (Qfx (λa W'=>w<=a/\IsN W' (Up F w W') (h+1) (a,ks)) W):=by
 subst X;have I:Kids W F h ks:=⟨λb Y=>ab (z.lt b Y) D.size,λx U=>(z.isn x U).agree (D.agree.mono λi hi=>⟨z.lt i hi,hF i hi⟩),z.rise,z.pos,z.sz,z.cn,z.hh⟩;refine(Qct Z rfl I h2 R).mono ?_;rintro e w' ⟨t,rfl,h1,h2,J,h4⟩;refine⟨addr (h+1) t,rfl,h2,⟨Nat.le_trans D.size h2,?_⟩,h4⟩;have N:t=(t.1,ks):=by subst h1;rfl
 rw[N]at J;exact J.mono λi hi=>hi.imp_right λh=>⟨Nat.le_trans D.size h.1,h.2⟩
theorem Ql5(h:Nat)(ks:List (PT h)):∀u∈ptrs h ks,∃p,u=Value.pointer p:=λu hu=>by
 obtain⟨k,-,rfl⟩:=bE.1 hu;exact⟨_,rfl⟩
theorem Qdl(h:Nat)(a b:List (PT h)):ptrs h (a++b)=ptrs h a++ptrs h b:=by simp[ptrs]
theorem Qc5(h:Nat)(a:List (PT h))(i:Nat):ptrs h (a.drop i)=(ptrs h a).drop i:=by simp[ptrs,List.map_drop]
theorem QjS{base h:Nat}{sl sr:Sl}{l r:PT (h+1)}(hL:w.ownsRow base 39 1 (.slice sl.a l.2.length sl.c) l.2.length (ptrs h l.2))(hR:w.ownsRow base 39 1 (.slice sr.a r.2.length sr.c) r.2.length (ptrs h r.2))(D:base<=w.heap.size)(R:∀b,sl.row=some b->sr.row≠some b)
  (hF:∀b,F b->¬QdD sl sr b) (N:Kids w F h (l.2++r.2)) (l2:3<=l.2.length) (r2:3<=r.2.length) (l8:l.2.length<=8) (r8:r.2.length<=8) (hx:l.2.length+r.2.length<=11) :
  Calls prog 191 #[.slice sl.a l.2.length sl.c,.slice sr.a r.2.length sr.c,.func (.func 64) #[] #[]] w λe w'=>Qf7 F (h+1) l r w e w'/\St (QdD sl sr) w w':=by
 have hG:∀b,QdD sl sr b->b<w:=λb D=>D.elim (λh=>(Qaa hL h).2) (λh=>(Qaa hR h).2)
 have Y:∀b,F b->b<w/\¬QdD sl sr b:=λb D=>⟨N.lt b D,hF b D⟩
 have QfO:∀(w':World) (a b:Nat) (zs I:List (PT h)),(w<=a/\IsN w' (Up F w w') (h+1) (a,zs))->(w<=b/\IsN w' (Up F w w') (h+1) (b,I))->
   QcR l.2 r.2=[zs,I]->Qf7 F (h+1) l r w (.returned (.tuple #[.pointer (some ⟨a,0,none⟩),.pointer (some ⟨b,0,none⟩)])) w':=λw' a b zs I ha D hp=>by
  refine⟨[((a,zs):PT (h+1)),((b,I):PT (h+1))],rfl,⟨hp.symm,QiE (α:=PT (h+1)) ha.1 D.1⟩,QiE (α:=PT (h+1)) ha.2 D.2⟩
 by_cases h4:4<l.2.length
 ·obtain ⟨m,hm⟩:∃ m,l.2.length=m+1:=⟨l.2.length - 1,by omega⟩
  have X:(ptrs h l.2).take (m*1)=ptrs h (l.2.take m):=by rw[ci,QcC]
  have t2:(ptrs h l.2).drop (m*1)++ptrs h r.2=ptrs h (l.2.drop m++r.2):=by rw[Qdl,Qc5,ci]
  have Z:=hL;rw[hm]at Z ⊢;refine(Qna (P1:=λa W'=>w<=a/\IsN W' (Up F w W') (h+1) (a,l.2.take m)) (P2:=λa W'=>w<=a/\IsN W' (Up F w W') (h+1) (a,l.2.drop m++r.2))
   Z hR D R (QbT h l.2) (QbT h r.2) (Ql5 h l.2) (by omega) (by omega) r8 (λW s J z=>?_) (λW s J z=>?_) (λa W W' hw h hs=>⟨h.1,Qjz hG Y hw.size h.2 hs⟩)).mono ?_
  ·rw [X] at z
   exact QgM J hF (by rw[ap];omega) (by rw[ap];omega) (by rw[ap];omega) z (by have:=N.take m;rwa[aZ (by omega)]at this)
  ·rw [t2] at z
   exact QgM J hF (by rw[ak,au];omega) (by rw[ak,au];omega) (by rw[ak,au];omega) z (by have:=N.drop m;rwa[List.drop_append_of_le_length (by omega)]at this)
  rintro e w' ⟨a,b,rfl,-,-,h1,h2,hs⟩;refine⟨QfO w' a b _ _ h1 h2 ?_,hs⟩;rw[QcR,em (by omega),hm];rfl
 by_cases h5:4<r.2.length
 ·obtain ⟨m,hm⟩:∃ m,r.2.length=m+1:=⟨r.2.length - 1,by omega⟩
  have X:ptrs h l.2++(ptrs h r.2).take 1=ptrs h (l.2++r.2.take 1):=by rw[Qdl,QcC]
  have t2:(ptrs h r.2).drop 1=ptrs h (r.2.drop 1):=by rw[Qc5]
  have U:=hR;rw[hm]at U ⊢;refine(Qk2 (P1:=λa W'=>w<=a/\IsN W' (Up F w W') (h+1) (a,l.2++r.2.take 1)) (P2:=λa W'=>w<=a/\IsN W' (Up F w W') (h+1) (a,r.2.drop 1))
   hL U D R (QbT h l.2) (QbT h r.2) (Ql5 h r.2) (by omega) (by omega) (by omega) (λW s J z=>?_) (λW s J z=>?_) (λa W W' hw h hs=>⟨h.1,Qjz hG Y hw.size h.2 hs⟩)).mono ?_
  ·rw [X] at z
   exact QgM J hF (by rw[ak,ap];omega) (by rw[ak,ap];omega) (by rw[ak,ap];omega) z (by have:=N.take (l.2.length+1);rwa[List.take_length_add_append]at this)
  ·rw [t2] at z
   exact QgM J hF (by rw[au];omega) (by rw[au];omega) (by rw[au];omega) z (by have:=N.drop (l.2.length+1);rwa[cZ]at this)
  rintro e w' ⟨a,b,rfl,-,-,h1,h2,hs⟩;refine⟨QfO w' a b _ _ h1 h2 ?_,hs⟩;rw[QcR,ef (by omega),em (by omega)]
 have X:ptrs h l.2++ptrs h r.2=ptrs h (l.2++r.2):=by rw[Qdl]
 refine(Qm9 (P1:=λa W'=>w<=a/\IsN W' (Up F w W') (h+1) (a,l.2++r.2)) hL hR D (QbT h r.2) (by omega) (by omega) (λW s J z=>?_)).mono ?_
 ·rw [X] at z
  exact QgM J hF (by rw[ak]) (by rw[ak];omega) (by rw[ak];omega) z N
 rintro e w' ⟨a,rfl,-,h1,hs⟩;refine⟨⟨[((a,l.2++r.2):PT (h+1))],rfl,⟨?_,QiC (α:=PT (h+1)) h1.1⟩,QiC (α:=PT (h+1)) h1.2⟩,hs⟩;show[l.2++r.2]=_;rw[QcR,ef (by omega),ef (by omega)]
def Qbk(F:Nat->Prop)(base h:Nat)(s:Sl)(ks:List (PT h))(i:Nat)(w:World)(e:Ending)(w':World):Prop:=
 ∃(s':Sl) (ks':List (PT h)),e=.returned (.slice s'.a ks'.length s'.c)/\w'.ownsRow base 39 1 (.slice s'.a ks'.length s'.c) ks'.length (ptrs h ks')/\QrN w.heap.size h ks i ks'/\(∀u∈ks',IsN w' (Up F w w') h u)/\St (λb=>s.row=some b) w w'
structure QiX(w:World)(F:Nat->Prop)(base h:Nat)(s:Sl)(ks:List (PT h))(i:Nat)(l r:PT h):Prop where
 own:w.ownsRow base 39 1 (.slice s.a ks.length s.c) ks.length (ptrs h ks)
 base:base<=w.heap.size
 lt:∀b,F b->b<w.heap.size/\s.row≠some b
 isn:∀k∈ks,IsN w F h k
 ok:∀k∈ks,OkT h k/\3<=size h k
 hl:ks[i-1]? = some l
 hr:ks[i-1+1]? = some r
 sum:size h l+size h r<=11
 sorted:Sorted (ks.flatMap (ents h))
 few:(ks.flatMap (ents h)).length<=1000000
 n8:ks.length<=8
 hh:h<=1000000
variable{j:Nat}
theorem Qeh{ks:List (PT h)}{l r:PT h}(hs:Sorted (ks.flatMap (ents h)))(z:ks[j]? = some l)(D:ks[j+1]? = some r):Sorted (ents h l++ents h r):=by
 rw[QiO z D]at hs;simp only[List.flatMap_append,List.flatMap_cons]at hs;have h2:=(Qcs hs).2.1;rw[<-aS]at h2;exact(Qcs h2).1
theorem Qp9{ks:List (PT h)}{l r:PT h}(z:ks[j]? = some l)(D:ks[j+1]? = some r):(ents h l).length+(ents h r).length<=(ks.flatMap (ents h)).length:=by
 conv=>rhs;rw[QiO z D]
 simp only[List.flatMap_append,List.flatMap_cons,List.length_append];omega
theorem Qe5{α:Type}{ks:List α}{l r:α}(z:ks[j]? = some l)(D:ks[j+1]? = some r)(a b:α):(ks.set j a).set (j+1) b=ks.take j++[a,b]++ks.drop (j+2):=by
 have h1:=(ah.1 z).1;have h2:=(ah.1 D).1
 conv=>lhs;rw[QiO z D]
 rw[dD _ _ (by rw[ap];omega),ap,bx (by omega),cW,ai,dD _ _ (by rw[ap];omega),ap,bx (by omega),show j+1-j=1 from by omega];simp
theorem Qd9{α:Type}{ks:List α}{l r:α}(I:ks[j]? = some l)(J:ks[j+1]? = some r)(a:α):(ks.set j a).take (j+1)++(ks.set j a).drop (j+2)=ks.take j++[a]++ks.drop (j+2):=by
 have h1:=(ah.1 I).1;rw[bW,em h1];have z:(ks.take j++[a]).length=j+1:=by simp;omega
 have D:ks.take j++a::ks.drop (j+1)=(ks.take j++[a])++ks.drop (j+1):=by simp
 rw[D,aZ (by omega),a7 (by omega),show j+2=(ks.take j++[a]).length+1 from by omega,cZ,dY,z]
theorem QiI{A B e size n:Nat}{v:Value}{xs:List Value}(h:w.ownsRow B e size v n xs)(I:A<=B):w.ownsRow A e size v n xs:=by
 refine⟨h.1,?_⟩;rcases h.2 with J |⟨g,D,z,N,R,r⟩
 .exact .inl J
 exact .inr ⟨g,D,z,N,al I R,r⟩
variable{A B:Nat}
theorem OE.base(h:OE w B s xs)(z:A<=B):OE w A s xs:=⟨QiI h.own z,h.vals.mono λi hi=>⟨⟨Nat.le_trans z hi.1.1,hi.1.2⟩,hi.2⟩,h.few⟩
theorem Qm2{base:Nat}{ks:List (PT (0))}{l r:PT (0)}(hm:QiX w F base (0) s ks (0) l r) :
  Calls prog 135 #[.slice s.a ks.length s.c,.int .i64 0] w (Qbk F base (0) s ks (0) w):=by
 have hj:1<ks.length:=(ah.1 hm.hr).1;obtain⟨g,I,rfl,i6,j1,i5,b0⟩:=Qa2 hm.own (by omega);have D:=hm.own;have Y:=hY hm;have c2:ks[0]? = some l:=hm.hl;have b4:ks[1]? = some r:=hm.hr;have cc:∀q u,(ptrs (0) ks)[q]? = some u->w.cell? ⟨g,q,none⟩=some u:=λq u hq=>by
  have:=D.cells (g:=g) rfl q u hq;rwa[Qbu,aA]at this
 have cl:w.cell? ⟨g,0,none⟩=some (ptr (0) l):=cc 0 _ (by rw[ptrs,aq,c2];rfl);have cr:w.cell? ⟨g,1,none⟩=some (ptr (0) r):=cc (1) _ (by rw[ptrs,aq,b4];rfl);have f4:=am c2;have i0:=am b4;have g5:=b0.lt;have i7:=hm.n8;have i9:(0:Int)<(ks.length:Int):=by omega
 have i8:(1:Int)<(ks.length:Int):=by omega
 have hz:True:=trivial;have g4:=hY (λW (hW:Agree F w W)=>QaO ((hm.isn l f4).agree hW));have J:=hY c2;have U:=hY b4;have g8:=hY b0.frozen;clear D cc b0 hm c2 b4 f4 i0;go_in;go_wp2_with fail;go_quiet (fail);go_wp2_with fail;have Z:Ext w (w.drewN nq):=(fv w).drewN nq;refine(g4.o _ (fJ w nq)).mono ?_;rintro e w0 ⟨rfl,rfl⟩;generalize w.drewN nq=W at *;clear cl cr;have c4:=Qbh (w:=W) ((((Y.o.isn l (am J.o)).agree (Z.agree λb z=>(Y.o.lt b z).1))).mono λb z=>ab (Y.o.lt b z).1 Z.size);have c6:∀W',Ext W W'->Calls prog 101 #[ptr 0 r] W' (QaQ (ents 0 r) W'):=λW' e7=>Qbh ((((Y.o.isn r (am U.o)).agree ((Z.trans e7).agree λb z=>(Y.o.lt b z).1))).mono λb z=>ab (Y.o.lt b z).1 (Z.trans e7).size)
 have g9:=hY c6;have f6:=hY Z;clear c6 Z;go_wp2_with fail;refine c4.mono ?_;intro e w1 hp;obtain⟨sx,xs,rfl,e8,g0,d6⟩:=hp;have b8:=hY e8;have c0:=hY g0;have f8:=hY d6;have f9:=g9.o w1 d6;clear c4 e8 g0 d6;go_wp2_with fail;refine f9.mono ?_;intro e w2 hp;obtain⟨sy,ys,rfl,a6,a9,a1⟩:=hp;have b3:∀b,sx.row=some b->W.heap.size<=b/\b<w1.heap.size:=λb z=>Qaa c0.o.own z
 have b5:∀b,sy.row=some b->w1.heap.size<=b/\b<w2.heap.size:=λb z=>Qaa a9.own z
 have e4:=f8.o.size;have e3:=a1.size;have c3:=c0.o.ext a1;have c7:OE w2 W.heap.size sy ys:=a9.base e4
 have f1:xs.length≤8:=by have:=(Y.o.ok l (am J.o)).1;have e1:xs.length=l.2.length:=by rw [show l.2=ents 0 l from rfl,←b8.o,ao]
                         rw[e1];exact this
 have f0:ys.length≤8:=by have:=(Y.o.ok r (am U.o)).1;have e1:ys.length=r.2.length:=by rw [show r.2=ents 0 r from rfl,←a6,ao]
                         rw[e1];exact this
 have c9:xs.length+ys.length<=11:=by
  have e1:xs.length=size 0 l:=by rw[show size 0 l=(ents 0 l).length from rfl,<-b8.o,ao]
  have e2:ys.length=size 0 r:=by rw[show size 0 r=(ents 0 r).length from rfl,<-a6,ao]
  rw[e1,e2];exact Y.o.sum
 have a2:QbH (xs++ys):=Qc8 (by rw[aL,b8.o,a6];exact Qeh Y.o.sorted J.o U.o);have g3:=QjQ c3 c7 (al e4 e3) (λb z g6=>by have:=b3 b z;have:=b5 b g6;omega)
  (λx hx=>⟨((c0.o.vals x hx).1.agree (a1.agree λb z=>z.1.2)).mono λb z=>⟨Nat.lt_of_lt_of_le z.1.2 e3,λh=>h.elim (λh=>z.2 h) (λh=>by have:=b5 b h;have:=z.1.2;omega)⟩,(c0.o.vals x hx).2⟩)
  (λx hx=>⟨(a9.vals x hx).1.mono λb z=>⟨z.1.2,λh=>h.elim (λh=>by have:=b3 b h;have:=z.1.1;omega) (λh=>z.2 h)⟩,(a9.vals x hx).2⟩)
  a2 f1 f0 c9 (l:=l) (r:=r) b8.o a6
 have d8:=f6.o.trans (f8.o.trans a1);have d3:=hY d8;have i3:=hY b3;have i2:=hY b5;have j0:=f6.o.size;clear f9 a6 a9 a1 b3 b5 c3 c7 a2 f1 f0 c9 d8;go_wp2_with fail;refine g3.mono ?_;rintro e w3 ⟨⟨ts,rfl,hP,hI⟩,e6⟩;have f7:Yd (Ext w w3/\Qew w.heap.size 0 l r ts/\∀u∈ts,IsN w3 (Up F w w3) 0 u):=hY ⟨d3.o.step e6 (λb z=>z.elim (λh=>by have:=i3.o b h;omega) (λh=>by have:=i2.o b h;omega)),hP.mono (d3.o.size),λu hu=>(hI u hu).mono λi hi=>hi.elim (λh=>h.elim) λh=>.inr ⟨Nat.le_trans d3.o.size h.1,h.2⟩⟩;clear g3 hP hI e6;obtain⟨a4,hP,hI⟩:=f7.o;have X:w3.ownsRow base 39 1 (.slice (some ⟨g,0,none⟩) ks.length I) ks.length (ptrs (0) ks):=Qae (s:=⟨some ⟨g,0,none⟩,I⟩) Y.o.own (a4.agree (F:=Lt w.heap.size) λ_ h=>h) λb z=>(Qaa Y.o.own z).2
 have i4:∀o,w3.frozen? ⟨g,o,none⟩=false:=λo=>(a4.frozen g5).trans (g8.o o)
 have d0:∀q u,(ptrs (0) ks)[q]? = some u->w3.cell? ⟨g,q,none⟩=some u:=λq u hq=>by
  have:=X.cells (g:=g) rfl q u hq;rwa[Qbu,aA]at this
 have dl:w3.cell? ⟨g,0,none⟩=some (ptr (0) l):=d0 0 _ (by rw[ptrs,aq,J.o];rfl);have dr:w3.cell? ⟨g,1,none⟩=some (ptr (0) r):=d0 (1) _ (by rw[ptrs,aq,U.o];rfl);have f3:0<ks.length:=by omega
 have a3:=hY X;have d4:=hY a4;have HP:=hY hP;have HI:=hY hI;have N:=hP.len;have f2:∀W' x,F x\/(w.heap.size<=x/\x<W')->x≠g:=λW' x hx e=>by
  subst e;rcases hx with h|h
  .exact (Y.o.lt x h).2 rfl
  omega
 have b7:∀x,F x->x<w.heap.size:=λx hx=>(Y.o.lt x hx).1
 have f5:∀k∈ks,IsN w3 (Up F w w3) (0) k:=λk hk=>((Y.o.isn k hk).agree (a4.agree b7)).mono λi hi=>.inl hi
 have b6:=hY f5;have c1:=hY f2;clear X d0 a4 hP hI f5 f2;rcases N with N|N
 ·obtain ⟨a,rfl⟩:=cu.1 N
  rw[show two (0) [a]=Ending.returned (.tuple #[ptr (0) a,.pointer none])from rfl];have R:∀w5,Wr (w3.setCell ⟨g,0,none⟩ (ptr (0) a)) w5 (some g)->w5.ownsRow base 39 1 (.slice (some ⟨g,0,none⟩) (ks.length-1) I) (ks.length-1) (((ptrs (0) ks).set 0 (ptr (0) a)).take ((1)*1)++((ptrs (0) ks).set 0 (ptr (0) a)).drop ((1+1)*1))->
    Qbk F base (0) ⟨some ⟨g,0,none⟩,I⟩ ks (0) w (.returned (.slice (some ⟨g,0,none⟩) (ks.length-1) I)) w5:=λw5 d5 D=>by
   have hz:w3.heap.size<=w5.heap.size:=by have:=d5.grown.size;rwa[eA]at this
   have d7:Agree (Up F w w3) w3 w5:=(fC w3 ⟨g,0,none⟩ _ (λh=>c1.o _ g h rfl)).trans (d5.agree (λi hi=>by rw[eA];exact hi.elim (λh=>ab (b7 i h) d4.o.size) λh=>h.2) (λk hk h=>by cases hk;exact c1.o _ g h rfl));have g7:∀i,Up F w w3 i->Up F w w5 i:=λi hi=>hi.imp_right λh=>⟨h.1,ab h.2 hz⟩
   have e0:(ptrs (0) ks).set 0 (ptr (0) a)=ptrs (0) (ks.set 0 a):=by rw[ptrs,ptrs,bL]
   have e1:((ptrs (0) ks).set 0 (ptr (0) a)).take ((1)*1)++((ptrs (0) ks).set 0 (ptr (0) a)).drop ((1+1)*1)=ptrs (0) (ks.take 0++[a]++ks.drop (0+2)):=by
    rw[e0,ci,ci,<-QcC,<-Qc5,<-Qdl,Qd9 J.o U.o]
   have e2:(ks.take 0++[a]++ks.drop (0+2)).length=ks.length-1:=by simp only[List.length_append,List.length_take,List.length_drop,List.length_cons,List.length_nil];omega
   rw[e1]at D;refine⟨⟨some ⟨g,0,none⟩,I⟩,ks.take 0++[a]++ks.drop (0+2),by rw[e2],by rw[e2];exact D,⟨l,r,[a],J.o,U.o,HP.o,rfl⟩,λu hu=>?_,(((d4.o.st (λb=>(⟨some ⟨g,0,none⟩,I⟩:Sl).row=some b)).set (p:=⟨g,0,none⟩) (.inr rfl) _).trans (d5.st λi hi=>hi))⟩;refine IsN.mono g7 (IsN.agree d7 ?_);rcases aB.1 hu with hu|hu
   ·rcases aB.1 hu with hu | hu
    .exact b6.o u (aN hu)
    exact HI.o u hu
   exact b6.o u (aD hu)
  have hd:=Qgd (s:=⟨some ⟨g,0,none⟩,I⟩) (n:=ks.length) (xs:=(ptrs (0) ks).set 0 (ptr (0) a)) (i:=1) (QbF a3.o f3 (ptr (0) a)) (by omega) (by omega) (λu hu=>by
   rcases bB hu with hu|rfl
   .exact QbT (0) ks u hu
   rfl)
  have q1:((1:Nat):Int)=(1:Int):=by omega
  have q2:(1:Int)+1=(2:Int):=by omega
  rw[q1,q2]at hd;have HD:=hY hd;have a0:=hY R;clear hd R q1 q2 b7;go_wp2_with fail;refine HD.o.mono ?_;rintro e w5 ⟨rfl,a5,c8⟩;have i1:=hY (a0.o w5 c8 a5);clear a5 c8;go_wp2_with fail;go_ret;exact i1.o
 obtain⟨a,b,rfl⟩:∃a b,ts=[a,b]:=by
  match ts,N with
  |[a,b],_=>exact⟨a,b,rfl⟩
 rw[show two (0) [a,b]=Ending.returned (.tuple #[ptr (0) a,ptr (0) b])from rfl];have R:Qbk F base (0) ⟨some ⟨g,0,none⟩,I⟩ ks (0) w (.returned (.slice (some ⟨g,0,none⟩) ks.length I)) ((w3.setCell ⟨g,0,none⟩ (ptr (0) a)).setCell ⟨g,1,none⟩ (ptr (0) b)):=by
  have d7:Agree (Up F w w3) w3 ((w3.setCell ⟨g,0,none⟩ (ptr (0) a)).setCell ⟨g,1,none⟩ (ptr (0) b)):=(fC w3 ⟨g,0,none⟩ _ (λh=>c1.o _ g h rfl)).trans (fC _ ⟨g,1,none⟩ _ (λh=>c1.o _ g h rfl));have e0:((ptrs (0) ks).set 0 (ptr (0) a)).set (1) (ptr (0) b)=ptrs (0) ((ks.set 0 a).set (1) b):=by rw[ptrs,ptrs,bL,bL]
  have e2:(ks.take 0++[a,b]++ks.drop (0+2)).length=ks.length:=by simp only[List.length_append,List.length_take,List.length_drop,List.length_cons,List.length_nil];omega
  have D:=QbF (QbF a3.o f3 (ptr (0) a)) (i:=1) (by omega) (ptr (0) b);rw[e0,Qe5 J.o U.o]at D;refine⟨⟨some ⟨g,0,none⟩,I⟩,ks.take 0++[a,b]++ks.drop (0+2),by rw[e2],by rw[e2];exact D,⟨l,r,[a,b],J.o,U.o,HP.o,rfl⟩,λu hu=>?_,(((d4.o.st (λb=>(⟨some ⟨g,0,none⟩,I⟩:Sl).row=some b)).set (p:=⟨g,0,none⟩) (.inr rfl) _).set (p:=⟨g,1,none⟩) (.inr rfl) _)⟩;refine IsN.mono (λi hi=>hi.imp_right λh=>⟨h.1,by simpa using h.2⟩) (IsN.agree d7 ?_);rcases aB.1 hu with hu|hu
  ·rcases aB.1 hu with hu | hu
   .exact b6.o u (aN hu)
   exact HI.o u hu
  exact b6.o u (aD hu)
 have a0:=hY R;clear R b7;go_wp2_with fail;go_ret;exact a0.o
theorem Qm3{base j:Nat}{ks:List (PT (0))}{l r:PT (0)}(hm:QiX w F base (0) s ks (j+1) l r) :
  Calls prog 135 #[.slice s.a ks.length s.c,.int .i64 ((j:Int)+1)] w (Qbk F base (0) s ks (j+1) w):=by
 have hj:j+1<ks.length:=(ah.1 hm.hr).1;obtain⟨g,I,rfl,j1,j5,i5,b0⟩:=Qa2 hm.own (by omega);have D:=hm.own;have Y:=hY hm;have b6:ks[j]? = some l:=hm.hl;have b8:ks[j+1]? = some r:=hm.hr;have cc:∀q u,(ptrs (0) ks)[q]? = some u->w.cell? ⟨g,q,none⟩=some u:=λq u hq=>by
  have:=D.cells (g:=g) rfl q u hq;rwa[Qbu,aA]at this
 have cl:w.cell? ⟨g,j,none⟩=some (ptr (0) l):=cc j _ (by rw[ptrs,aq,b6];rfl);have cr:w.cell? ⟨g,j+1,none⟩=some (ptr (0) r):=cc (j+1) _ (by rw[ptrs,aq,b8];rfl);have f8:=am b6;have i0:=am b8;have g5:=b0.lt;have i6:=hm.n8;have j3:(j:Int)<(ks.length:Int):=by omega
 have j2:(j:Int)+1<(ks.length:Int):=by omega
 have j4:(0:Int)<=(j:Int):=by omega
 have j0:(0:Int)<=(j:Int)+1:=by omega
 have i9:IntKind.i64.wrap ((j:Int)+1)=(j:Int)+1:=by rw[ew];omega
 have i7:((j:Int)+1).toNat=j+1:=by omega
 have hz:True:=trivial;have g4:=hY (λW (hW:Agree F w W)=>QaO ((hm.isn l f8).agree hW));have U:=hY b6;have R:=hY b8;have g8:=hY b0.frozen;clear D cc b0 hm b6 b8 f8 i0;go_in;go_wp2_with fail;go_quiet (fail);go_wp2_with fail;have Z:Ext w (w.drewN nq):=(fv w).drewN nq;refine(g4.o _ (fJ w nq)).mono ?_;rintro e w0 ⟨rfl,rfl⟩;generalize w.drewN nq=W at *;clear cl cr;have c4:=Qbh (w:=W) ((((Y.o.isn l (am U.o)).agree (Z.agree λb z=>(Y.o.lt b z).1))).mono λb z=>ab (Y.o.lt b z).1 Z.size);have c6:∀W',Ext W W'->Calls prog 101 #[ptr 0 r] W' (QaQ (ents 0 r) W'):=λW' f2=>Qbh ((((Y.o.isn r (am R.o)).agree ((Z.trans f2).agree λb z=>(Y.o.lt b z).1))).mono λb z=>ab (Y.o.lt b z).1 (Z.trans f2).size)
 have g9:=hY c6;have g0:=hY Z;clear c6 Z;go_wp2_with fail;refine c4.mono ?_;intro e w1 hp;obtain⟨sx,xs,rfl,f3,g3,d3⟩:=hp;have c1:=hY f3;have c2:=hY g3;have e4:=hY d3;have e6:=g9.o w1 d3;clear c4 f3 g3 d3;go_wp2_with fail;refine e6.mono ?_;intro e w2 hp;obtain⟨sy,ys,rfl,a9,a4,a1⟩:=hp;have b7:∀b,sx.row=some b->W.heap.size<=b/\b<w1.heap.size:=λb z=>Qaa c2.o.own z
 have b3:∀b,sy.row=some b->w1.heap.size<=b/\b<w2.heap.size:=λb z=>Qaa a4.own z
 have f1:=e4.o.size;have f0:=a1.size;have c3:=c2.o.ext a1;have c7:OE w2 W.heap.size sy ys:=a4.base f1
 have f5:xs.length≤8:=by have:=(Y.o.ok l (am U.o)).1;have e1:xs.length=l.2.length:=by rw [show l.2=ents 0 l from rfl,←c1.o,ao]
                         rw[e1];exact this
 have f4:ys.length≤8:=by have:=(Y.o.ok r (am R.o)).1;have e1:ys.length=r.2.length:=by rw [show r.2=ents 0 r from rfl,←a9,ao]
                         rw[e1];exact this
 have c9:xs.length+ys.length<=11:=by
  have e1:xs.length=size 0 l:=by rw[show size 0 l=(ents 0 l).length from rfl,<-c1.o,ao]
  have e2:ys.length=size 0 r:=by rw[show size 0 r=(ents 0 r).length from rfl,<-a9,ao]
  rw[e1,e2];exact Y.o.sum
 have a5:QbH (xs++ys):=Qc8 (by rw[aL,c1.o,a9];exact Qeh Y.o.sorted U.o R.o);have e7:=QjQ c3 c7 (al f1 f0) (λb z g6=>by have:=b7 b z;have:=b3 b g6;omega)
  (λx hx=>⟨((c2.o.vals x hx).1.agree (a1.agree λb z=>z.1.2)).mono λb z=>⟨Nat.lt_of_lt_of_le z.1.2 f0,λh=>h.elim (λh=>z.2 h) (λh=>by have:=b3 b h;have:=z.1.2;omega)⟩,(c2.o.vals x hx).2⟩)
  (λx hx=>⟨(a4.vals x hx).1.mono λb z=>⟨z.1.2,λh=>h.elim (λh=>by have:=b7 b h;have:=z.1.1;omega) (λh=>z.2 h)⟩,(a4.vals x hx).2⟩)
  a5 f5 f4 c9 (l:=l) (r:=r) c1.o a9
 have e8:=g0.o.trans (e4.o.trans a1);have d4:=hY e8;have i3:=hY b7;have i2:=hY b3;have i8:=g0.o.size;clear e6 a9 a4 a1 b7 b3 c3 c7 a5 f5 f4 c9 e8;go_wp2_with fail;refine e7.mono ?_;rintro e w3 ⟨⟨ts,rfl,hP,hI⟩,d8⟩;have e3:Yd (Ext w w3/\Qew w.heap.size 0 l r ts/\∀u∈ts,IsN w3 (Up F w w3) 0 u):=hY ⟨d4.o.step d8 (λb z=>z.elim (λh=>by have:=i3.o b h;omega) (λh=>by have:=i2.o b h;omega)),hP.mono (d4.o.size),λu hu=>(hI u hu).mono λi hi=>hi.elim (λh=>h.elim) λh=>.inr ⟨Nat.le_trans d4.o.size h.1,h.2⟩⟩;clear e7 hP hI d8;obtain⟨a3,hP,hI⟩:=e3.o;have X:w3.ownsRow base 39 1 (.slice (some ⟨g,0,none⟩) ks.length I) ks.length (ptrs (0) ks):=Qae (s:=⟨some ⟨g,0,none⟩,I⟩) Y.o.own (a3.agree (F:=Lt w.heap.size) λ_ h=>h) λb z=>(Qaa Y.o.own z).2
 have i4:∀o,w3.frozen? ⟨g,o,none⟩=false:=λo=>(a3.frozen g5).trans (g8.o o)
 have d0:∀q u,(ptrs (0) ks)[q]? = some u->w3.cell? ⟨g,q,none⟩=some u:=λq u hq=>by
  have:=X.cells (g:=g) rfl q u hq;rwa[Qbu,aA]at this
 have dl:w3.cell? ⟨g,j,none⟩=some (ptr (0) l):=d0 j _ (by rw[ptrs,aq,U.o];rfl);have dr:w3.cell? ⟨g,j+1,none⟩=some (ptr (0) r):=d0 (j+1) _ (by rw[ptrs,aq,R.o];rfl);have f7:j<ks.length:=by omega
 have a2:=hY X;have d5:=hY a3;have HP:=hY hP;have HI:=hY hI;have J:=hP.len;have f6:∀W' x,F x\/(w.heap.size<=x/\x<W')->x≠g:=λW' x hx e=>by
  subst e;rcases hx with h|h
  .exact (Y.o.lt x h).2 rfl
  omega
 have b4:∀x,F x->x<w.heap.size:=λx hx=>(Y.o.lt x hx).1
 have f9:∀k∈ks,IsN w3 (Up F w w3) (0) k:=λk hk=>((Y.o.isn k hk).agree (a3.agree b4)).mono λi hi=>.inl hi
 have c0:=hY f9;have b5:=hY f6;clear X d0 a3 hP hI f9 f6;rcases J with J|J
 ·obtain ⟨a,rfl⟩:=cu.1 J
  rw[show two (0) [a]=Ending.returned (.tuple #[ptr (0) a,.pointer none])from rfl];have N:∀w5,Wr (w3.setCell ⟨g,j,none⟩ (ptr (0) a)) w5 (some g)->w5.ownsRow base 39 1 (.slice (some ⟨g,0,none⟩) (ks.length-1) I) (ks.length-1) (((ptrs (0) ks).set j (ptr (0) a)).take ((j+1)*1)++((ptrs (0) ks).set j (ptr (0) a)).drop ((j+1+1)*1))->
    Qbk F base (0) ⟨some ⟨g,0,none⟩,I⟩ ks (j+1) w (.returned (.slice (some ⟨g,0,none⟩) (ks.length-1) I)) w5:=λw5 d6 D=>by
   have hz:w3.heap.size<=w5.heap.size:=by have:=d6.grown.size;rwa[eA]at this
   have d7:Agree (Up F w w3) w3 w5:=(fC w3 ⟨g,j,none⟩ _ (λh=>b5.o _ g h rfl)).trans (d6.agree (λi hi=>by rw[eA];exact hi.elim (λh=>ab (b4 i h) d5.o.size) λh=>h.2) (λk hk h=>by cases hk;exact b5.o _ g h rfl));have g7:∀i,Up F w w3 i->Up F w w5 i:=λi hi=>hi.imp_right λh=>⟨h.1,ab h.2 hz⟩
   have e0:(ptrs (0) ks).set j (ptr (0) a)=ptrs (0) (ks.set j a):=by rw[ptrs,ptrs,bL]
   have e1:((ptrs (0) ks).set j (ptr (0) a)).take ((j+1)*1)++((ptrs (0) ks).set j (ptr (0) a)).drop ((j+1+1)*1)=ptrs (0) (ks.take j++[a]++ks.drop (j+2)):=by
    rw[e0,ci,ci,<-QcC,<-Qc5,<-Qdl,Qd9 U.o R.o]
   have e2:(ks.take j++[a]++ks.drop (j+2)).length=ks.length-1:=by simp only[List.length_append,List.length_take,List.length_drop,List.length_cons,List.length_nil];omega
   rw[e1]at D;refine⟨⟨some ⟨g,0,none⟩,I⟩,ks.take j++[a]++ks.drop (j+2),by rw[e2],by rw[e2];exact D,⟨l,r,[a],U.o,R.o,HP.o,rfl⟩,λu hu=>?_,(((d5.o.st (λb=>(⟨some ⟨g,0,none⟩,I⟩:Sl).row=some b)).set (p:=⟨g,j,none⟩) (.inr rfl) _).trans (d6.st λi hi=>hi))⟩;refine IsN.mono g7 (IsN.agree d7 ?_);rcases aB.1 hu with hu|hu
   ·rcases aB.1 hu with hu | hu
    .exact c0.o u (aN hu)
    exact HI.o u hu
   exact c0.o u (aD hu)
  have hd:=Qgd (s:=⟨some ⟨g,0,none⟩,I⟩) (n:=ks.length) (xs:=(ptrs (0) ks).set j (ptr (0) a)) (i:=j+1) (QbF a2.o f7 (ptr (0) a)) (by omega) (by omega) (λu hu=>by
   rcases bB hu with hu|rfl
   .exact QbT (0) ks u hu
   rfl)
  have q1:((j+1:Nat):Int)=((j:Int)+1):=by omega
  have q2:((j:Int)+1)+1=((j:Int)+2):=by omega
  rw[q1,q2]at hd;have HD:=hY hd;have a0:=hY N;clear hd N q1 q2 b4;go_wp2_with fail;refine HD.o.mono ?_;rintro e w5 ⟨rfl,a6,c8⟩;have i1:=hY (a0.o w5 c8 a6);clear a6 c8;go_wp2_with fail;go_ret;exact i1.o
 obtain⟨a,b,rfl⟩:∃a b,ts=[a,b]:=by
  match ts,J with
  |[a,b],_=>exact⟨a,b,rfl⟩
 rw[show two (0) [a,b]=Ending.returned (.tuple #[ptr (0) a,ptr (0) b])from rfl];have N:Qbk F base (0) ⟨some ⟨g,0,none⟩,I⟩ ks (j+1) w (.returned (.slice (some ⟨g,0,none⟩) ks.length I)) ((w3.setCell ⟨g,j,none⟩ (ptr (0) a)).setCell ⟨g,j+1,none⟩ (ptr (0) b)):=by
  have d7:Agree (Up F w w3) w3 ((w3.setCell ⟨g,j,none⟩ (ptr (0) a)).setCell ⟨g,j+1,none⟩ (ptr (0) b)):=(fC w3 ⟨g,j,none⟩ _ (λh=>b5.o _ g h rfl)).trans (fC _ ⟨g,j+1,none⟩ _ (λh=>b5.o _ g h rfl));have e0:((ptrs (0) ks).set j (ptr (0) a)).set (j+1) (ptr (0) b)=ptrs (0) ((ks.set j a).set (j+1) b):=by rw[ptrs,ptrs,bL,bL]
  have e2:(ks.take j++[a,b]++ks.drop (j+2)).length=ks.length:=by simp only[List.length_append,List.length_take,List.length_drop,List.length_cons,List.length_nil];omega
  have D:=QbF (QbF a2.o f7 (ptr (0) a)) (i:=j+1) (by omega) (ptr (0) b);rw[e0,Qe5 U.o R.o]at D;refine⟨⟨some ⟨g,0,none⟩,I⟩,ks.take j++[a,b]++ks.drop (j+2),by rw[e2],by rw[e2];exact D,⟨l,r,[a,b],U.o,R.o,HP.o,rfl⟩,λu hu=>?_,(((d5.o.st (λb=>(⟨some ⟨g,0,none⟩,I⟩:Sl).row=some b)).set (p:=⟨g,j,none⟩) (.inr rfl) _).set (p:=⟨g,j+1,none⟩) (.inr rfl) _)⟩;refine IsN.mono (λi hi=>hi.imp_right λh=>⟨h.1,by simpa using h.2⟩) (IsN.agree d7 ?_);rcases aB.1 hu with hu|hu
  ·rcases aB.1 hu with hu | hu
   .exact c0.o u (aN hu)
   exact HI.o u hu
  exact c0.o u (aD hu)
 have a0:=hY N;clear N b4;go_wp2_with fail;go_ret;exact a0.o
theorem Qm0{base h:Nat}{ks:List (PT (h+1))}{l r:PT (h+1)}(hm:QiX w F base (h+1) s ks (0) l r) :
  Calls prog 135 #[.slice s.a ks.length s.c,.int .i64 0] w (Qbk F base (h+1) s ks (0) w):=by
 have hj:1<ks.length:=(ah.1 hm.hr).1;obtain⟨g,D,rfl,j0,j3,i7,b4⟩:=Qa2 hm.own (by omega);have z:=hm.own;have R:=hY hm;have c0:ks[0]? = some l:=hm.hl;have c1:ks[1]? = some r:=hm.hr;have cc:∀q u,(ptrs (h+1) ks)[q]? = some u->w.cell? ⟨g,q,none⟩=some u:=λq u hq=>by
  have:=z.cells (g:=g) rfl q u hq;rwa[Qbu,aA]at this
 have cl:w.cell? ⟨g,0,none⟩=some (ptr (h+1) l):=cc 0 _ (by rw[ptrs,aq,c0];rfl);have cr:w.cell? ⟨g,1,none⟩=some (ptr (h+1) r):=cc (1) _ (by rw[ptrs,aq,c1];rfl);have f9:=am c0;have i1:=am c1;have g6:=b4.lt;have i8:=hm.n8;have j2:(0:Int)<(ks.length:Int):=by omega
 have j1:(1:Int)<(ks.length:Int):=by omega
 have hz:(((h:Int)+1)==0)=false:=eu.2 (by omega);have g5:=hY (λW (hW:Agree F w W)=>QaO ((hm.isn l f9).agree hW));have N:=hY c0;have J:=hY c1;have i0:=hY b4.frozen;clear z cc b4 hm c0 c1 f9 i1;go_in;go_wp2_with fail;go_quiet (fail);go_wp2_with fail;have d3:Ext w (w.drewN nq):=(fv w).drewN nq;refine(g5.o _ (fJ w nq)).mono ?_;rintro e w0 ⟨rfl,rfl⟩;generalize w.drewN nq=W at *;clear cl cr;have d4:∀W',Ext W W'->∀x,x∈ks->Calls prog 95 #[ptr (h+1) x] W' (QeI 39 x.2.length (ptrs h x.2) W'):=λW' g8 x I=>QcO ((R.o.isn x I).agree ((d3.trans g8).agree λb U=>(R.o.lt b U).1)) (by have:=(R.o.ok x I).1.2.1;omega)
 have c7:=d4 W (fv W) l (am N.o);have i2:=hY d4;have g3:=hY d3;clear d4 d3;go_wp2_with fail;refine c7.mono ?_;rintro e w1 ⟨sx,rfl,g4,d6⟩;have f6:=hY g4;have f1:=hY d6;have f2:=i2.o w1 d6 r (am J.o);clear c7 g4 d6;go_wp2_with fail;refine f2.mono ?_;rintro e w2 ⟨sy,rfl,d5,b6⟩;have a5:∀b,sx.row=some b->W<=b/\b<w1:=λb U=>Qaa f6.o U
 have b5:∀b,sy.row=some b->w1<=b/\b<w2:=λb U=>Qaa d5 U
 have f4:=f1.o.size;have g7:=b6.size;have i9:=g3.o.size;have c4:w2.ownsRow W.heap.size 39 1 (.slice sx.a l.2.length sx.c) l.2.length (ptrs h l.2):=Qae f6.o (b6.agree (F:=Lt w1) λ_ h=>h) λb U=>(a5 b U).2
 have c8:w2.ownsRow W.heap.size 39 1 (.slice sy.a r.2.length sy.c) r.2.length (ptrs h r.2):=QiI d5 f4;have a4:=R.o.ok l (am N.o);have b0:=R.o.ok r (am J.o);have c2:=g3.o.trans (f1.o.trans b6);have e8:=Qeh R.o.sorted N.o J.o;have f5:=Qp9 (ks:=ks) N.o J.o;have a9:∀x∈l.2++r.2,OkT h x/\4<=size h x/\IsN w F h x:=λx I=>by
  rcases aB.1 I with I|I
  .exact ⟨(a4.1.2.2 x I).1,(a4.1.2.2 x I).2,(R.o.isn l (am N.o)).2.choose_spec.2.2 x I⟩
  exact⟨(b0.1.2.2 x I).1,(b0.1.2.2 x I).2,(R.o.isn r (am J.o)).2.choose_spec.2.2 x I⟩
 have a1:∀x∈l.2++r.2,0<(ents h x).length:=λx I=>QbB h x (a9 x I).1 (by have:=(a9 x I).2.1;omega)
 have c6:Sorted ((l.2++r.2).flatMap (ents h)):=by rw[aP];exact e8
 have b3:Kids w2 F h (l.2++r.2):=⟨λb U=>ab (R.o.lt b U).1 c2.size,λx I=>(a9 x I).2.2.agree (c2.agree λb U=>(R.o.lt b U).1),QdT c6 a1,a1,λx I=>by have:=Qdn (a9 x I).1;omega,by
  unfold cnt;rw[aP,ak];have h1:(ents (h+1) l).length+(ents (h+1) r).length<=1000000:=al f5 R.o.few;have h2:(l.2.flatMap (ents h)).length=(ents (h+1) l).length:=rfl;have h3:(r.2.flatMap (ents h)).length=(ents (h+1) r).length:=rfl;omega,by have:=R.o.hh;omega⟩
 have f3:=QjS (F:=F) (l:=l) (r:=r) c4 c8 (al f4 g7) (λb U d7=>by have:=a5 b U;have:=b5 b d7;omega)
  (λb U d7=>by
    have:=(R.o.lt b U).1;rcases d7 with h|h
    .have:=a5 b h;omega
    have:=b5 b h;omega) b3 a4.2 b0.2 a4.1.2.1 b0.1.2.1 R.o.sum
 have d8:=hY c2;have i5:=hY a5;have i4:=hY b5;clear f2 d5 b6 a5 b5 c4 c8 c2 e8 f5 a9 a1 c6 b3 a4 b0;go_wp2_with fail;refine f3.mono ?_;rintro e w3 ⟨⟨ts,rfl,hP,hI⟩,e7⟩;have f0:Yd (Ext w w3/\Qew w.heap.size (h+1) l r ts/\∀u∈ts,IsN w3 (Up F w w3) (h+1) u):=hY ⟨d8.o.step e7 (λb U=>U.elim (λh=>by have:=i5.o b h;omega) (λh=>by have:=i4.o b h;omega)),hP.mono (d8.o.size),λu hu=>(hI u hu).mono λi hi=>hi.imp_right λh=>⟨Nat.le_trans d8.o.size h.1,h.2⟩⟩;clear f3 hP hI e7;obtain⟨a3,hP,hI⟩:=f0.o;have Z:w3.ownsRow base 39 1 (.slice (some ⟨g,0,none⟩) ks.length D) ks.length (ptrs (h+1) ks):=Qae (s:=⟨some ⟨g,0,none⟩,D⟩) R.o.own (a3.agree (F:=Lt w) λ_ h=>h) λb U=>(Qaa R.o.own U).2
 have i6:∀o,w3.frozen? ⟨g,o,none⟩=false:=λo=>(a3.frozen g6).trans (i0.o o)
 have d0:∀q u,(ptrs (h+1) ks)[q]? = some u->w3.cell? ⟨g,q,none⟩=some u:=λq u hq=>by
  have:=Z.cells (g:=g) rfl q u hq;rwa[Qbu,aA]at this
 have dl:w3.cell? ⟨g,0,none⟩=some (ptr (h+1) l):=d0 0 _ (by rw[ptrs,aq,N.o];rfl);have dr:w3.cell? ⟨g,1,none⟩=some (ptr (h+1) r):=d0 (1) _ (by rw[ptrs,aq,J.o];rfl);have f8:0<ks.length:=by omega
 have a2:=hY Z;have e3:=hY a3;have HP:=hY hP;have HI:=hY hI;have X:=hP.len;have f7:∀W' x,F x\/(w<=x/\x<W')->x≠g:=λW' x I e=>by
  subst e;rcases I with h|h
  .exact (R.o.lt x h).2 rfl
  omega
 have b7:∀x,F x->x<w:=λx I=>(R.o.lt x I).1
 have g0:∀k∈ks,IsN w3 (Up F w w3) (h+1) k:=λk hk=>((R.o.isn k hk).agree (a3.agree b7)).mono λi hi=>.inl hi
 have c3:=hY g0;have b8:=hY f7;clear Z d0 a3 hP hI g0 f7;rcases X with X|X
 ·obtain ⟨a,rfl⟩:=cu.1 X
  rw[show two (h+1) [a]=Ending.returned (.tuple #[ptr (h+1) a,.pointer none])from rfl];have Y:∀w5,Wr (w3.setCell ⟨g,0,none⟩ (ptr (h+1) a)) w5 (some g)->w5.ownsRow base 39 1 (.slice (some ⟨g,0,none⟩) (ks.length-1) D) (ks.length-1) (((ptrs (h+1) ks).set 0 (ptr (h+1) a)).take ((1)*1)++((ptrs (h+1) ks).set 0 (ptr (h+1) a)).drop ((1+1)*1))->
    Qbk F base (h+1) ⟨some ⟨g,0,none⟩,D⟩ ks (0) w (.returned (.slice (some ⟨g,0,none⟩) (ks.length-1) D)) w5:=λw5 e4 z=>by
   have hz:w3.heap.size<=w5.heap.size:=by have:=e4.grown.size;rwa[eA]at this
   have e6:Agree (Up F w w3) w3 w5:=(fC w3 ⟨g,0,none⟩ _ (λh=>b8.o _ g h rfl)).trans (e4.agree (λi hi=>by rw[eA];exact hi.elim (λh=>ab (b7 i h) e3.o.size) λh=>h.2) (λk hk h=>by cases hk;exact b8.o _ g h rfl));have g9:∀i,Up F w w3 i->Up F w w5 i:=λi hi=>hi.imp_right λh=>⟨h.1,ab h.2 hz⟩
   have e0:(ptrs (h+1) ks).set 0 (ptr (h+1) a)=ptrs (h+1) (ks.set 0 a):=by rw[ptrs,ptrs,bL]
   have e1:((ptrs (h+1) ks).set 0 (ptr (h+1) a)).take ((1)*1)++((ptrs (h+1) ks).set 0 (ptr (h+1) a)).drop ((1+1)*1)=ptrs (h+1) (ks.take 0++[a]++ks.drop (0+2)):=by
    rw[e0,ci,ci,<-QcC,<-Qc5,<-Qdl,Qd9 N.o J.o]
   have e2:(ks.take 0++[a]++ks.drop (0+2)).length=ks.length-1:=by simp only[List.length_append,List.length_take,List.length_drop,List.length_cons,List.length_nil];omega
   rw[e1]at z;refine⟨⟨some ⟨g,0,none⟩,D⟩,ks.take 0++[a]++ks.drop (0+2),by rw[e2],by rw[e2];exact z,⟨l,r,[a],N.o,J.o,HP.o,rfl⟩,λu hu=>?_,(((e3.o.st (λb=>(⟨some ⟨g,0,none⟩,D⟩:Sl).row=some b)).set (p:=⟨g,0,none⟩) (.inr rfl) _).trans (e4.st λi hi=>hi))⟩;refine IsN.mono g9 (IsN.agree e6 ?_);rcases aB.1 hu with hu|hu
   ·rcases aB.1 hu with hu | hu
    .exact c3.o u (aN hu)
    exact HI.o u hu
   exact c3.o u (aD hu)
  have hd:=Qgd (s:=⟨some ⟨g,0,none⟩,D⟩) (n:=ks.length) (xs:=(ptrs (h+1) ks).set 0 (ptr (h+1) a)) (i:=1) (QbF a2.o f8 (ptr (h+1) a)) (by omega) (by omega) (λu hu=>by
   rcases bB hu with hu|rfl
   .exact QbT (h+1) ks u hu
   rfl)
  have q1:((1:Nat):Int)=(1:Int):=by omega
  have q2:(1:Int)+1=(2:Int):=by omega
  rw[q1,q2]at hd;have HD:=hY hd;have a0:=hY Y;clear hd Y q1 q2 b7;go_wp2_with fail;refine HD.o.mono ?_;rintro e w5 ⟨rfl,a6,c9⟩;have i3:=hY (a0.o w5 c9 a6);clear a6 c9;go_wp2_with fail;go_ret;exact i3.o
 obtain⟨a,b,rfl⟩:∃a b,ts=[a,b]:=by
  match ts,X with
  |[a,b],_=>exact⟨a,b,rfl⟩
 rw[show two (h+1) [a,b]=Ending.returned (.tuple #[ptr (h+1) a,ptr (h+1) b])from rfl];have Y:Qbk F base (h+1) ⟨some ⟨g,0,none⟩,D⟩ ks (0) w (.returned (.slice (some ⟨g,0,none⟩) ks.length D)) ((w3.setCell ⟨g,0,none⟩ (ptr (h+1) a)).setCell ⟨g,1,none⟩ (ptr (h+1) b)):=by
  have e6:Agree (Up F w w3) w3 ((w3.setCell ⟨g,0,none⟩ (ptr (h+1) a)).setCell ⟨g,1,none⟩ (ptr (h+1) b)):=(fC w3 ⟨g,0,none⟩ _ (λh=>b8.o _ g h rfl)).trans (fC _ ⟨g,1,none⟩ _ (λh=>b8.o _ g h rfl));have e0:((ptrs (h+1) ks).set 0 (ptr (h+1) a)).set (1) (ptr (h+1) b)=ptrs (h+1) ((ks.set 0 a).set (1) b):=by rw[ptrs,ptrs,bL,bL]
  have e2:(ks.take 0++[a,b]++ks.drop (0+2)).length=ks.length:=by simp only[List.length_append,List.length_take,List.length_drop,List.length_cons,List.length_nil];omega
  have z:=QbF (QbF a2.o f8 (ptr (h+1) a)) (i:=1) (by omega) (ptr (h+1) b);rw[e0,Qe5 N.o J.o]at z;refine⟨⟨some ⟨g,0,none⟩,D⟩,ks.take 0++[a,b]++ks.drop (0+2),by rw[e2],by rw[e2];exact z,⟨l,r,[a,b],N.o,J.o,HP.o,rfl⟩,λu hu=>?_,(((e3.o.st (λb=>(⟨some ⟨g,0,none⟩,D⟩:Sl).row=some b)).set (p:=⟨g,0,none⟩) (.inr rfl) _).set (p:=⟨g,1,none⟩) (.inr rfl) _)⟩;refine IsN.mono (λi hi=>hi.imp_right λh=>⟨h.1,by simpa using h.2⟩) (IsN.agree e6 ?_);rcases aB.1 hu with hu|hu
  ·rcases aB.1 hu with hu | hu
   .exact c3.o u (aN hu)
   exact HI.o u hu
  exact c3.o u (aD hu)
 have a0:=hY Y;clear Y b7;go_wp2_with fail;go_ret;exact a0.o
theorem Qm1{base h j:Nat}{ks:List (PT (h+1))}{l r:PT (h+1)}(hm:QiX w F base (h+1) s ks (j+1) l r) :
  Calls prog 135 #[.slice s.a ks.length s.c,.int .i64 ((j:Int)+1)] w (Qbk F base (h+1) s ks (j+1) w):=by
 have hj:j+1<ks.length:=(ah.1 hm.hr).1;obtain⟨g,D,rfl,j3,j7,i7,b4⟩:=Qa2 hm.own (by omega);have z:=hm.own;have R:=hY hm;have c0:ks[j]? = some l:=hm.hl;have c1:ks[j+1]? = some r:=hm.hr;have cc:∀q u,(ptrs (h+1) ks)[q]? = some u->w.cell? ⟨g,q,none⟩=some u:=λq u hq=>by
  have:=z.cells (g:=g) rfl q u hq;rwa[Qbu,aA]at this
 have cl:w.cell? ⟨g,j,none⟩=some (ptr (h+1) l):=cc j _ (by rw[ptrs,aq,c0];rfl);have cr:w.cell? ⟨g,j+1,none⟩=some (ptr (h+1) r):=cc (j+1) _ (by rw[ptrs,aq,c1];rfl);have f9:=am c0;have i1:=am c1;have g6:=b4.lt;have i8:=hm.n8;have j5:(j:Int)<(ks.length:Int):=by omega
 have j4:(j:Int)+1<(ks.length:Int):=by omega
 have j6:(0:Int)<=(j:Int):=by omega
 have j2:(0:Int)<=(j:Int)+1:=by omega
 have j1:IntKind.i64.wrap ((j:Int)+1)=(j:Int)+1:=by rw[ew];omega
 have i9:((j:Int)+1).toNat=j+1:=by omega
 have hz:(((h:Int)+1)==0)=false:=eu.2 (by omega);have g5:=hY (λW (hW:Agree F w W)=>QaO ((hm.isn l f9).agree hW));have N:=hY c0;have J:=hY c1;have i0:=hY b4.frozen;clear z cc b4 hm c0 c1 f9 i1;go_in;go_wp2_with fail;go_quiet (fail);go_wp2_with fail;have d3:Ext w (w.drewN nq):=(fv w).drewN nq;refine(g5.o _ (fJ w nq)).mono ?_;rintro e w0 ⟨rfl,rfl⟩;generalize w.drewN nq=W at *;clear cl cr;have d4:∀W',Ext W W'->∀x,x∈ks->Calls prog 95 #[ptr (h+1) x] W' (QeI 39 x.2.length (ptrs h x.2) W'):=λW' g8 x I=>QcO ((R.o.isn x I).agree ((d3.trans g8).agree λb U=>(R.o.lt b U).1)) (by have:=(R.o.ok x I).1.2.1;omega)
 have c7:=d4 W (fv W) l (am N.o);have i2:=hY d4;have g3:=hY d3;clear d4 d3;go_wp2_with fail;refine c7.mono ?_;rintro e w1 ⟨sx,rfl,g4,d6⟩;have f6:=hY g4;have f1:=hY d6;have f2:=i2.o w1 d6 r (am J.o);clear c7 g4 d6;go_wp2_with fail;refine f2.mono ?_;rintro e w2 ⟨sy,rfl,d5,b6⟩;have a5:∀b,sx.row=some b->W<=b/\b<w1:=λb U=>Qaa f6.o U
 have b5:∀b,sy.row=some b->w1<=b/\b<w2:=λb U=>Qaa d5 U
 have f4:=f1.o.size;have g7:=b6.size;have j0:=g3.o.size;have c4:w2.ownsRow W.heap.size 39 1 (.slice sx.a l.2.length sx.c) l.2.length (ptrs h l.2):=Qae f6.o (b6.agree (F:=Lt w1) λ_ h=>h) λb U=>(a5 b U).2
 have c8:w2.ownsRow W.heap.size 39 1 (.slice sy.a r.2.length sy.c) r.2.length (ptrs h r.2):=QiI d5 f4;have a4:=R.o.ok l (am N.o);have b0:=R.o.ok r (am J.o);have c2:=g3.o.trans (f1.o.trans b6);have e8:=Qeh R.o.sorted N.o J.o;have f5:=Qp9 (ks:=ks) N.o J.o;have a9:∀x∈l.2++r.2,OkT h x/\4<=size h x/\IsN w F h x:=λx I=>by
  rcases aB.1 I with I|I
  .exact ⟨(a4.1.2.2 x I).1,(a4.1.2.2 x I).2,(R.o.isn l (am N.o)).2.choose_spec.2.2 x I⟩
  exact⟨(b0.1.2.2 x I).1,(b0.1.2.2 x I).2,(R.o.isn r (am J.o)).2.choose_spec.2.2 x I⟩
 have a1:∀x∈l.2++r.2,0<(ents h x).length:=λx I=>QbB h x (a9 x I).1 (by have:=(a9 x I).2.1;omega)
 have c6:Sorted ((l.2++r.2).flatMap (ents h)):=by rw[aP];exact e8
 have b3:Kids w2 F h (l.2++r.2):=⟨λb U=>ab (R.o.lt b U).1 c2.size,λx I=>(a9 x I).2.2.agree (c2.agree λb U=>(R.o.lt b U).1),QdT c6 a1,a1,λx I=>by have:=Qdn (a9 x I).1;omega,by
  unfold cnt;rw[aP,ak];have h1:(ents (h+1) l).length+(ents (h+1) r).length<=1000000:=al f5 R.o.few;have h2:(l.2.flatMap (ents h)).length=(ents (h+1) l).length:=rfl;have h3:(r.2.flatMap (ents h)).length=(ents (h+1) r).length:=rfl;omega,by have:=R.o.hh;omega⟩
 have f3:=QjS (F:=F) (l:=l) (r:=r) c4 c8 (al f4 g7) (λb U d7=>by have:=a5 b U;have:=b5 b d7;omega)
  (λb U d7=>by
    have:=(R.o.lt b U).1;rcases d7 with h|h
    .have:=a5 b h;omega
    have:=b5 b h;omega) b3 a4.2 b0.2 a4.1.2.1 b0.1.2.1 R.o.sum
 have d8:=hY c2;have i5:=hY a5;have i4:=hY b5;clear f2 d5 b6 a5 b5 c4 c8 c2 e8 f5 a9 a1 c6 b3 a4 b0;go_wp2_with fail;refine f3.mono ?_;rintro e w3 ⟨⟨ts,rfl,hP,hI⟩,e7⟩;have f0:Yd (Ext w w3/\Qew w.heap.size (h+1) l r ts/\∀u∈ts,IsN w3 (Up F w w3) (h+1) u):=hY ⟨d8.o.step e7 (λb U=>U.elim (λh=>by have:=i5.o b h;omega) (λh=>by have:=i4.o b h;omega)),hP.mono (d8.o.size),λu hu=>(hI u hu).mono λi hi=>hi.imp_right λh=>⟨Nat.le_trans d8.o.size h.1,h.2⟩⟩;clear f3 hP hI e7;obtain⟨a3,hP,hI⟩:=f0.o;have Z:w3.ownsRow base 39 1 (.slice (some ⟨g,0,none⟩) ks.length D) ks.length (ptrs (h+1) ks):=Qae (s:=⟨some ⟨g,0,none⟩,D⟩) R.o.own (a3.agree (F:=Lt w) λ_ h=>h) λb U=>(Qaa R.o.own U).2
 have i6:∀o,w3.frozen? ⟨g,o,none⟩=false:=λo=>(a3.frozen g6).trans (i0.o o)
 have d0:∀q u,(ptrs (h+1) ks)[q]? = some u->w3.cell? ⟨g,q,none⟩=some u:=λq u hq=>by
  have:=Z.cells (g:=g) rfl q u hq;rwa[Qbu,aA]at this
 have dl:w3.cell? ⟨g,j,none⟩=some (ptr (h+1) l):=d0 j _ (by rw[ptrs,aq,N.o];rfl);have dr:w3.cell? ⟨g,j+1,none⟩=some (ptr (h+1) r):=d0 (j+1) _ (by rw[ptrs,aq,J.o];rfl);have f8:j<ks.length:=by omega
 have a2:=hY Z;have e3:=hY a3;have HP:=hY hP;have HI:=hY hI;have X:=hP.len;have f7:∀W' x,F x\/(w<=x/\x<W')->x≠g:=λW' x I e=>by
  subst e;rcases I with h|h
  .exact (R.o.lt x h).2 rfl
  omega
 have b7:∀x,F x->x<w:=λx I=>(R.o.lt x I).1
 have g0:∀k∈ks,IsN w3 (Up F w w3) (h+1) k:=λk hk=>((R.o.isn k hk).agree (a3.agree b7)).mono λi hi=>.inl hi
 have c3:=hY g0;have b8:=hY f7;clear Z d0 a3 hP hI g0 f7;rcases X with X|X
 ·obtain ⟨a,rfl⟩:=cu.1 X
  rw[show two (h+1) [a]=Ending.returned (.tuple #[ptr (h+1) a,.pointer none])from rfl];have Y:∀w5,Wr (w3.setCell ⟨g,j,none⟩ (ptr (h+1) a)) w5 (some g)->w5.ownsRow base 39 1 (.slice (some ⟨g,0,none⟩) (ks.length-1) D) (ks.length-1) (((ptrs (h+1) ks).set j (ptr (h+1) a)).take ((j+1)*1)++((ptrs (h+1) ks).set j (ptr (h+1) a)).drop ((j+1+1)*1))->
    Qbk F base (h+1) ⟨some ⟨g,0,none⟩,D⟩ ks (j+1) w (.returned (.slice (some ⟨g,0,none⟩) (ks.length-1) D)) w5:=λw5 e4 z=>by
   have hz:w3.heap.size<=w5.heap.size:=by have:=e4.grown.size;rwa[eA]at this
   have e6:Agree (Up F w w3) w3 w5:=(fC w3 ⟨g,j,none⟩ _ (λh=>b8.o _ g h rfl)).trans (e4.agree (λi hi=>by rw[eA];exact hi.elim (λh=>ab (b7 i h) e3.o.size) λh=>h.2) (λk hk h=>by cases hk;exact b8.o _ g h rfl));have g9:∀i,Up F w w3 i->Up F w w5 i:=λi hi=>hi.imp_right λh=>⟨h.1,ab h.2 hz⟩
   have e0:(ptrs (h+1) ks).set j (ptr (h+1) a)=ptrs (h+1) (ks.set j a):=by rw[ptrs,ptrs,bL]
   have e1:((ptrs (h+1) ks).set j (ptr (h+1) a)).take ((j+1)*1)++((ptrs (h+1) ks).set j (ptr (h+1) a)).drop ((j+1+1)*1)=ptrs (h+1) (ks.take j++[a]++ks.drop (j+2)):=by
    rw[e0,ci,ci,<-QcC,<-Qc5,<-Qdl,Qd9 N.o J.o]
   have e2:(ks.take j++[a]++ks.drop (j+2)).length=ks.length-1:=by simp only[List.length_append,List.length_take,List.length_drop,List.length_cons,List.length_nil];omega
   rw[e1]at z;refine⟨⟨some ⟨g,0,none⟩,D⟩,ks.take j++[a]++ks.drop (j+2),by rw[e2],by rw[e2];exact z,⟨l,r,[a],N.o,J.o,HP.o,rfl⟩,λu hu=>?_,(((e3.o.st (λb=>(⟨some ⟨g,0,none⟩,D⟩:Sl).row=some b)).set (p:=⟨g,j,none⟩) (.inr rfl) _).trans (e4.st λi hi=>hi))⟩;refine IsN.mono g9 (IsN.agree e6 ?_);rcases aB.1 hu with hu|hu
   ·rcases aB.1 hu with hu | hu
    .exact c3.o u (aN hu)
    exact HI.o u hu
   exact c3.o u (aD hu)
  have hd:=Qgd (s:=⟨some ⟨g,0,none⟩,D⟩) (n:=ks.length) (xs:=(ptrs (h+1) ks).set j (ptr (h+1) a)) (i:=j+1) (QbF a2.o f8 (ptr (h+1) a)) (by omega) (by omega) (λu hu=>by
   rcases bB hu with hu|rfl
   .exact QbT (h+1) ks u hu
   rfl)
  have q1:((j+1:Nat):Int)=((j:Int)+1):=by omega
  have q2:((j:Int)+1)+1=((j:Int)+2):=by omega
  rw[q1,q2]at hd;have HD:=hY hd;have a0:=hY Y;clear hd Y q1 q2 b7;go_wp2_with fail;refine HD.o.mono ?_;rintro e w5 ⟨rfl,a6,c9⟩;have i3:=hY (a0.o w5 c9 a6);clear a6 c9;go_wp2_with fail;go_ret;exact i3.o
 obtain⟨a,b,rfl⟩:∃a b,ts=[a,b]:=by
  match ts,X with
  |[a,b],_=>exact⟨a,b,rfl⟩
 rw[show two (h+1) [a,b]=Ending.returned (.tuple #[ptr (h+1) a,ptr (h+1) b])from rfl];have Y:Qbk F base (h+1) ⟨some ⟨g,0,none⟩,D⟩ ks (j+1) w (.returned (.slice (some ⟨g,0,none⟩) ks.length D)) ((w3.setCell ⟨g,j,none⟩ (ptr (h+1) a)).setCell ⟨g,j+1,none⟩ (ptr (h+1) b)):=by
  have e6:Agree (Up F w w3) w3 ((w3.setCell ⟨g,j,none⟩ (ptr (h+1) a)).setCell ⟨g,j+1,none⟩ (ptr (h+1) b)):=(fC w3 ⟨g,j,none⟩ _ (λh=>b8.o _ g h rfl)).trans (fC _ ⟨g,j+1,none⟩ _ (λh=>b8.o _ g h rfl));have e0:((ptrs (h+1) ks).set j (ptr (h+1) a)).set (j+1) (ptr (h+1) b)=ptrs (h+1) ((ks.set j a).set (j+1) b):=by rw[ptrs,ptrs,bL,bL]
  have e2:(ks.take j++[a,b]++ks.drop (j+2)).length=ks.length:=by simp only[List.length_append,List.length_take,List.length_drop,List.length_cons,List.length_nil];omega
  have z:=QbF (QbF a2.o f8 (ptr (h+1) a)) (i:=j+1) (by omega) (ptr (h+1) b);rw[e0,Qe5 N.o J.o]at z;refine⟨⟨some ⟨g,0,none⟩,D⟩,ks.take j++[a,b]++ks.drop (j+2),by rw[e2],by rw[e2];exact z,⟨l,r,[a,b],N.o,J.o,HP.o,rfl⟩,λu hu=>?_,(((e3.o.st (λb=>(⟨some ⟨g,0,none⟩,D⟩:Sl).row=some b)).set (p:=⟨g,j,none⟩) (.inr rfl) _).set (p:=⟨g,j+1,none⟩) (.inr rfl) _)⟩;refine IsN.mono (λi hi=>hi.imp_right λh=>⟨h.1,by simpa using h.2⟩) (IsN.agree e6 ?_);rcases aB.1 hu with hu|hu
  ·rcases aB.1 hu with hu | hu
   .exact c3.o u (aN hu)
   exact HI.o u hu
  exact c3.o u (aD hu)
 have a0:=hY Y;clear Y b7;go_wp2_with fail;go_ret;exact a0.o
theorem Qrf{base h i:Nat}{ks:List (PT h)}{l r:PT h}(z:QiX w F base h s ks i l r) :
  Calls prog 135 #[.slice s.a ks.length s.c,.int .i64 i] w (Qbk F base h s ks i w):=by
 match h,i,ks,l,r,z with
 |0,0,_,_,_,z=>exact Qm2 z
 |0,j+1,_,_,_,z=>exact Qm3 z
 |h+1,0,_,_,_,z=>exact Qm0 z
 |h+1,j+1,_,_,_,z=>exact Qm1 z
def Qsf(nv:Value)(es:List Ent)(k:ByteArray)(w:World)(e:Ending)(w':World):Prop:=
 Ext w w'/\((Qam es k=none/\e=.returned (.tuple #[nv,.bool false]))\/
  ((Qam es k).isSome=true/\∃u:PT 0,e=.returned (.tuple #[ptr 0 u,.bool true])/\u.2=Qb2 es k/\w.heap.size<=u.1/\IsN w' (In w.heap.size w'.heap.size) 0 u))
theorem QjU{es:List Ent}(hs:Sorted es)(k:ByteArray):decide ((es[Qcc es k]?).map Prod.fst=some k)=(Qam es k).isSome:=by
 rw[Qip hs];cases D:es[Qcc es k]? with
 |none=>simp
 |some e=>by_cases z:e.1=k<;>simp[z]
variable{nv:Value}
theorem Qd3{es:List Ent}(hp:∃p,nv=.pointer p)(hh:Calls prog 94 #[nv] w λe w'=>e=.returned (.int .i64 0)/\w=w')(he:Calls prog 101 #[nv] w (QaQ es w))
  (hs:Sorted es) (h8:es.length<=8) (k:ByteArray):Calls prog 88 #[nv,.string k] w (Qsf nv es k w):=by
 obtain⟨pp,rfl⟩:=hp;have HS:=hY hs;clear hs;go_in;go_wp2_with fail;refine hh.mono ?_;rintro e w1 ⟨rfl,rfl⟩;go_wp2_with fail;refine he.mono ?_;intro e w1 hp;obtain⟨s,xs,rfl,J,ho,a5⟩:=hp;have z:=QjT (w:=w1) (s:=s) (xs:=xs) (ho.es.mono λi hi=>hi.2) k (by rw[J];exact HS.o);rw[J]at z;have a3:xs.length=es.length:=by rw[<-J,ao]
 have b8:=hY J;have HO:=hY ho;have b3:=hY a5;have c2:xs.length<=8:=by omega
 have c0:=hY a3;obtain⟨p,hp⟩:∃p,Qcc es k=p:=⟨_,rfl⟩;unfold Qgs at z;rw[QjU HS.o,hp]at z;have HP:=hY hp;clear J ho a5 he hh a3 hp;cases R:Qam es k with
 | none=>
   rw[R]at z;have HG:=hY R;clear R;go_wp2_with fail;refine z.mono ?_;rintro e w2 ⟨rfl,D⟩;have a2:=hY (b3.o.trans D);clear z D;go_wp2_with fail;go_ret2;exact⟨a2.o,.inl ⟨HG.o,rfl⟩⟩
 | some v=>
   rw[R]at z;have b7:p<xs.length:=by
    have h1:=Qip HS.o k;rw[R,HP.o]at h1;rcases dL p xs.length with h|h
    .exact h
    rw[aQ (by rw[<-c0.o];exact h)]at h1;cases h1
   have b0:Qb2 es k=es.take p++es.drop (p+1):=by
    have h1:=QqF HS.o k;have h2:=QjU HS.o k;rw[R]at h2;rw[em (ft h2),HP.o]at h1;exact h1
   have HG:=hY R;have c1:=hY b0;have c3:IntKind.i64.wrap ((p:Int)+1)=(p:Int)+1:=by rw[ew];omega
   clear R b0;go_wp2_with fail;refine z.mono ?_;rintro e w2 ⟨rfl,D⟩;have a1:=HO.o.ext D;have hd:=QqE (i:=p) a1.own (by omega) b7 (QaM xs);have Z:=hY a1;have a2:=hY (b3.o.trans D);clear z D a1;go_wp2_with fail;refine hd.mono ?_;rintro e w3 ⟨rfl,I,N⟩;have U:∀i,s.row=some i->w<=i/\i<w2:=λi hi=>Qaa Z.o.own hi
   have e1:(Qai xs).take (p*7)++(Qai xs).drop ((p+1)*7)=Qai (xs.take p++xs.drop (p+1)):=by rw[Qc1,Qc0,QaA]
   rw[e1]at I;have a6:Ext w w3:=a2.o.wr N (λi hi=>(U i hi).1);have b4:ES w3 (Lt w3) s (xs.take p++xs.drop (p+1)):=QtP (by rw[ak,ap,au];omega) ((fE I).mono λi hi=>hi.2)
    (λx hx=>by
      have a4:x∈xs:=by
       rcases aB.1 hx with hx|hx
       .exact aN hx
       exact aD hx
      exact⟨((Z.o.vals x a4).1.agree (N.agree (λi hi=>hi.1.2) (λk hk h=>h.2 hk))).mono λi hi=>ab hi.1.2 N.grown.size,(Z.o.vals x a4).2⟩) (by rw[ak,ap,au];omega)
   have a0:(xs.take p++xs.drop (p+1)).map LE.ent=Qb2 es k:=by rw[aL,cO,cy,b8.o,c1.o]
   have X:=QdZ (n:=xs.length-1) b4 (by rw[ak,ap,au];omega) (Qc8 (by rw[a0];exact QaR HS.o k)) (by rw[ak,ap,au];omega);rw[a0]at X;have Y:=hY a6;clear hd I N U e1 a6 b4 a0;go_wp2_with fail;refine X.mono ?_;rintro e w4 ⟨u,rfl,hu,b6,a9,b5⟩;have HU:=hY a9;clear X a9;go_wp2_with fail;go_ret2;exact⟨Y.o.trans b5,.inr ⟨by rw[HG.o];rfl,u,rfl,hu,al Y.o.size b6,HU.o.mono λi hi=>⟨Nat.le_trans Y.o.size hi.1,hi.2⟩⟩⟩
def Qn2(F:Nat->Prop)(h:Nat)(t:PT h)(k:ByteArray)(w:World)(e:Ending)(w':World):Prop:=
 Ext w w'/\((Qam (ents h t) k=none/\e=.returned (.tuple #[ptr h t,.bool false]))\/
  ((Qam (ents h t) k).isSome=true/\∃u:PT h,e=.returned (.tuple #[ptr h u,.bool true])/\QiV w.heap.size k h t u/\IsN w' (Up F w w') h u))
def Qsg(F:Nat->Prop)(h:Nat)(t:PT (h+1))(k:ByteArray)(w:World)(e:Ending)(w':World):Prop:=
 Ext w w'/\((Qam (ents (h+1) t) k=none/\e=.returned (.tuple #[ptr (h+1) t,.bool false]))\/
  ((Qam (ents (h+1) t) k).isSome=true∧∃ ks':List (PT h),Qmp w.heap.size k h (QiV w.heap.size k h) t.2 ks'∧
    ((∃ u,ks'=[u]∧e=.returned (.tuple #[ptr h u,.bool true])∧IsN w' (Up F w w') h u)∨
     (2<=ks'.length/\∃c:PT (h+1),c.2=ks'/\w.heap.size<=addr (h+1) c/\e=.returned (.tuple #[ptr (h+1) c,.bool true])/\IsN w' (Up F w w') (h+1) c))))
def Qsc(F:Nat->Prop)(h:Nat)(ks':List (PT h))(w:World)(e:Ending)(w':World):Prop:=
 Ext w w'/\((∃u,ks'=[u]/\e=.returned (ptr h u)/\IsN w' (Up F w w') h u)\/(2<=ks'.length/\∃c:PT (h+1),c.2=ks'/\w.heap.size<=addr (h+1) c/\e=.returned (ptr (h+1) c)/\IsN w' (Up F w w') (h+1) c))
variable{w6:World}
theorem Qhm{k:ByteArray}{t:PT (h+1)}{s6:Sl}{z:List (PT h)}(hF:∀b,F b->b<w)(ok:OkT (h+1) t)(hs:Sorted (ents (h+1) t))(hc:(ents (h+1) t).length<=1000000)(hh:h+1<1000000)(hg:(Qam (ents (h+1) t) k).isSome=true)
  (R:Ext w w6) (J:w6.ownsRow w.heap.size 39 1 (.slice s6.a z.length s6.c) z.length (ptrs h z)) (hD:Qmp w.heap.size k h (QiV w.heap.size k h) t.2 z) (hI:∀u∈z,IsN w6 (Up F w w6) h u) :
  Calls prog 64 #[.slice s6.a z.length s6.c] w6 λe w'=>Qsc F h z w e w':=by
 obtain⟨h1,h2,h3⟩:=QdH hD ok hs hg;have a2:=ok.1;have a1:=ok.2.1;by_cases N:z.length=1
 ·obtain ⟨u,rfl⟩:=cu.1 N
  refine(QnJ (s:=s6) (k:=u) (fE J)).mono ?_;rintro e w' ⟨rfl,rfl⟩;exact⟨R,.inl ⟨u,rfl,rfl,hI u (bn.2 rfl)⟩⟩
 have U:=hD.ents hs (Qb3 ok) (by omega) (λx y D hr=>hr.ents (ok.2.2 x D).1 (QaK hs x D));have X:Sorted (z.flatMap (ents h)):=by rw[U];exact QaR hs k
 have I:∀x∈z,0<(ents h x).length:=λx D=>QbB h x (h1 x D).1 (by have:=(h1 x D).2;omega)
 have hk:Kids w6 (Up F w w6) h z:=⟨λb hb=>hb.elim (λh=>ab (hF b h) R.size) λh=>h.2,hI,QdT X I,I,λx D=>by have:=Qdn (h1 x D).1;omega,by
  unfold cnt;rw[U];have h5:(Qb2 (t.2.flatMap (ents h)) k).length<=(t.2.flatMap (ents h)).length:=(Qba _ k).length_le;have h6:(t.2.flatMap (ents h)).length<=1000000:=hc;omega,by omega⟩
 refine(Qct ((fE J).mono λi hi=>hi.2) rfl hk (by omega) (by omega)).mono ?_;rintro e w' ⟨c,rfl,a0,Z,Y,D⟩;refine⟨R.trans D,.inr ⟨by omega,c,a0,al R.size Z,rfl,Y.mono λi hi=>?_⟩⟩;rcases hi with(hi|hi)|hi
 .exact .inl hi
 .exact .inr ⟨hi.1,ab hi.2 D.size⟩
 exact .inr ⟨Nat.le_trans R.size hi.1,hi.2⟩
theorem QfP{k:ByteArray}
  (ih:∀(w:World) (F:Nat->Prop) (t:PT h),(∀b,F b->b<w)->IsN w F h t->OkT h t->4<=size h t->Sorted (ents h t)->(ents h t).length<=1000000->Calls prog 88 #[ptr h t,.string k] w (Qn2 F h t k w))
 {t:PT (h+1)} (hF:∀ b,F b→b<w) (hn:IsN w F (h+1) t) (ok:OkT (h+1) t) (hs:Sorted (ents (h+1) t)) (hc:(ents (h+1) t).length≤1000000) :
  Calls prog 88 #[ptr (h+1) t,.string k] w (Qsg F h t k w):=by
 have a9:=Qb3 ok;have hh:h+1<1000000:=ab (Qc2 (h+1) t ok (by have:=ok.1;show 1<=t.2.length;omega)) hc;obtain⟨z,I,hA,hC⟩:=Qbb (h:=h) (ks:=t.2) hs a9 (by have:=ok.1;omega) k;have R:=am I;have j6:=(ah.1 I).1;have k9:=ok.2.1;have k1:=ok.1;have b7:∀x∈t.2,IsN w F h x:=hn.2.choose_spec.2.2;have b0:(ents h z).length<=1000000:=al (by
  show _<=(t.2.flatMap (ents h)).length;rw[QbU I];simp only[List.flatMap_append,List.flatMap_cons,List.length_append];omega) hc
 have e3:Qam (ents (h+1) t) k=Qam (ents h z) k:=Qge I hA hC;have a5:∀W,Ext w W->Calls prog 88 #[ptr h z,.string k] W (Qn2 F h z k W):=λW hW=>
  ih W F z (λb J=>ab (hF b J) hW.size) ((b7 z R).agree (hW.agree hF)) (ok.2.2 z R).1 (ok.2.2 z R).2 (QaK hs z R) b0
 have i0:∀B u,(Qam (ents (h+1) t) k).isSome=true->QiV B k h z u->OkT h u/\size h z<=size h u+1/\size h u<=size h z:=λB u hg hr=>hr.ok (ok.2.2 z R).1 (ok.2.2 z R).2 (QaK hs z R) (by rw[<-e3];exact hg)
 have HF:=hY hF;have HN:=hY hn;have HS:=hY hs;have HP:=hY a9;have l5:=hY a5;have j0:=hY b7;have Y:=hY I;have i7:=hY e3;have a4:=hY ok;have HC:=hY hc;have l2:=hY i0;have n7:(((h:Int)+1)==0)=false:=eu.2 (by omega);clear hF hn ok hs hc a9 a5 b7 I hA hC ih b0 e3 i0;go_in;go_wp2_with fail;refine(QaO HN.o).mono ?_;rintro e w1 ⟨rfl,rfl⟩;have b0:=QcO HN.o (by omega);go_wp2_with fail;refine b0.mono ?_;rintro e w1 ⟨s',rfl,b4,c8⟩;have g6:Rd w1 (Lt w1) 1 s' t.2.length (ptrs h t.2):=(fE b4).mono λi hi=>hi.2
 have f2:=Qhk g6 (λx N=>(j0.o x N).agree (c8.agree HF.o)) (λb J=>ab (HF.o b J) c8.size) HP.o k HS.o (by omega);obtain⟨i,hi⟩:∃i,Qat h t.2 k=i:=⟨_,rfl⟩;rw[hi]at f2 j6;have HI:=hY hi;have k5:=hY f2;have e7:=hY b4;have k2:=hY c8;clear hi f2 b4 g6 b0 c8;go_wp2_with fail;refine k5.o.mono ?_;rintro e w2 ⟨rfl,e2⟩;have f1:=k2.o.trans e2;obtain⟨g,U,rfl,b8,o2,n2,j4⟩:=Qa2 e7.o (by omega);have c7:w2.ownsRow w.heap.size 39 1 (.slice (some ⟨g,0,none⟩) t.2.length U) t.2.length (ptrs h t.2):=Qae (s:=⟨some ⟨g,0,none⟩,U⟩) e7.o (e2.agree (F:=Lt w1) λ_ h=>h) λb J=>(Qaa e7.o J).2
 have k7:w2.cell? ⟨g,i,none⟩=some (ptr h z):=by
  have:=c7.cells (g:=g) rfl i (ptr h z) (by rw[ptrs,aq,<-HI.o,Y.o];rfl);rwa[Qbu,aA]at this
 have l7:(i:Int)<(t.2.length:Int):=by omega
 have k4:g<w2:=(Qaa (s:=⟨some ⟨g,0,none⟩,U⟩) c7 rfl).2;have a5:=l5.o w2 f1;have f6:=hY c7;have c1:=hY f1;clear e2 c7 f1 j4;go_wp2_with fail;refine a5.mono ?_;rintro e w3 ⟨Z,(⟨hg,rfl⟩ |⟨hg,u,rfl,c6,i6⟩)⟩
 ·have k8:=hY (c1.o.trans Z)
  have HG:=hY hg;clear Z hg a5;go_wp2_with fail;go_ret2;exact⟨k8.o,.inl ⟨by rw[i7.o];exact HG.o,rfl⟩⟩
 have f3:(Qam (ents (h+1) t) k).isSome=true:=by rw[i7.o];exact hg
 obtain⟨ou,o1,n8⟩:=l2.o _ u f3 c6;have f9:3<=size h u:=by have:=(a4.o.2.2 z (am Y.o)).2;omega
 have l6:size h u<=8:=Qdn ou;have l9:=Z.size;have i1:=c1.o.size;have f0:∀b,Up F w2 w3 b->b≠g:=λb J e=>by
  subst e;rcases J with J|J
  .have:=HF.o _ J;have b8:w<=b:=b8;omega
  omega
 have a0:w3.ownsRow w.heap.size 39 1 (.slice (some ⟨g,0,none⟩) t.2.length U) t.2.length (ptrs h t.2):=Qae (s:=⟨some ⟨g,0,none⟩,U⟩) f6.o (Z.agree (F:=Lt w2) λ_ h=>h) λb J=>(Qaa (s:=⟨some ⟨g,0,none⟩,U⟩) f6.o J).2
 have a1:=QbF a0 (i:=i) (by omega) (ptr h u);have e0:(ptrs h t.2).set i (ptr h u)=ptrs h (t.2.set i u):=by rw[ptrs,ptrs,bL]
 rw[e0]at a1;have k6:w3.cell? ⟨g,i,none⟩=some (ptr h z):=(Z.cell k4).trans k7;have k0:∀o,w3.frozen? ⟨g,o,none⟩=false:=by
  obtain⟨g',i4,e1,-,-,-,d4⟩:=Qa2 (s:=⟨some ⟨g,0,none⟩,U⟩) a0 (by omega);obtain⟨rfl,rfl⟩:g=g'/\U=i4:=by simpa using e1
  exact d4.frozen
 have f8:=(c1.o.trans Z).setCell (p:=⟨g,i,none⟩) b8 (ptr h u);have b3:Agree (Up F w2 w3) w3 (w3.setCell ⟨g,i,none⟩ (ptr h u)):=fC w3 ⟨g,i,none⟩ _ (λh=>f0 g h rfl);have f4:∀x∈t.2.set i u,IsN (w3.setCell ⟨g,i,none⟩ (ptr h u)) (Up F w2 w3) h x:=λx N=>by
  rcases bB N with N|rfl
  .exact (((j0.o x N).agree ((c1.o.trans Z).agree HF.o)).mono λb J=>.inl J).agree b3
  exact i6.agree b3
 have j2:=f4 u (List.mem_set (by omega) u);have g4:=Qgo j2 (by omega);have f7:(w3.setCell ⟨g,i,none⟩ (ptr h u)).heap.size=w3.heap.size:=by simp
 have d6:=c6.mono i1;have I:=Y.o;rw[HI.o]at I;have g7:∀d0,((4<=size h u/\d0=t.2.set i u)\/(size h u<4/\QrN w.heap.size h (t.2.set i u) i d0))->Qmp w.heap.size k h (QiV w.heap.size k h) t.2 d0:=λd0 b7=>by
  refine⟨z,u,Y.o,d6,?_⟩;rw[HI.o];exact b7
 have e6:(t.2.set i u).flatMap (ents h)=Qb2 (t.2.flatMap (ents h)) k:=by
  obtain⟨l8,f5,hA,hC⟩:=Qbb (h:=h) (ks:=t.2) HS.o HP.o (by omega) k;rw[Y.o]at f5;simp only[Option.some.injEq]at f5;subst f5;rw[HI.o]at hA hC;rw[set_mid I];simp only[List.flatMap_append,List.flatMap_cons];have e1:=c6.ents (a4.o.2.2 z (am I)).1 (QaK HS.o z (am I))
  conv=>rhs;rw[QbU I]
  rw[aP,bc,Qig hA,QgG hC,e1]
 have g5:Sorted ((t.2.set i u).flatMap (ents h)):=by
  rw[e6];exact QaR HS.o k
 have d4:((t.2.set i u).flatMap (ents h)).length<=1000000:=by
  rw[e6];exact al (Qba _ k).length_le HC.o
 have j8:=hY d4;have HU:=hY g4;have i3:=hY g7;have j7:=hY f8;have j9:=hY a1;have l1:=hY f4;have j5:=hY g5;have a6:=hY f3;have k3:=hY ou;have l3:=hY f0;have n4:g<w3:=by omega
 clear a5 hg c6 i6 f3 ou a0 a1 e0 f8 b3 f4 j2 g4 d6 I g7 e6 g5 d4 Z f0;go_wp2_with fail;generalize l4:World.setCell _ _ _=W4 at *;refine HU.o.mono ?_;rintro e w5 ⟨rfl,q,rfl⟩;have j1:=j7.o.drewN q;have d5:Agree (Up F w2 w3) W4 (W4.drewN q):=fJ W4 q;have i8:(W4.drewN q).ownsRow w.heap.size 39 1 (.slice (some ⟨g,0,none⟩) t.2.length U) t.2.length (ptrs h (t.2.set i u)):=j9.o;have i9:(W4.drewN q).heap.size=w3.heap.size:=f7;have g9:∀x∈t.2.set i u,IsN (W4.drewN q) (Up F w2 w3) h x:=λx N=>(l1.o x N).agree d5
 generalize W4.drewN q=W5 at *;have c9:=hY j1;have j3:=hY i8;have i5:=hY g9;have e8:=hY i9;have a3:(t.2.set i u).length=t.2.length:=by rw[bS]
 clear j1 d5 i8 g9 i9 k6 k0 f7 l4;by_cases h4:size h u<4
 ·have l0:(size h u:Int)<4:=by omega
  obtain⟨l,hl⟩:∃l,(t.2.set i u)[i-1]? = some l:=⟨_,ac (by omega)⟩;obtain⟨r,hr⟩:∃r,(t.2.set i u)[i-1+1]? = some r:=⟨_,ac (by omega)⟩;have b6:∀x∈t.2.set i u,OkT h x/\3<=size h x:=λx N=>by
   rcases bB N with N|rfl
   .exact ⟨(a4.o.2.2 x N).1,by have:=(a4.o.2.2 x N).2;omega⟩
   exact⟨k3.o,f9⟩
  have d7:size h l+size h r<=11:=by
   have h8:∀x∈t.2.set i u,size h x<=8:=λx N=>Qdn (b6 x N).1
   have o0:=h8 l (am hl);have n9:=h8 r (am hr);have g0:(t.2.set i u)[i]? = some u:=by rw[cV (by omega)]
   by_cases h0:i=0
   ·subst h0
    rw[g0]at hl;simp only[Option.some.injEq]at hl;subst hl;omega
   rw[show i-1+1=i from by omega,g0]at hr;simp only[Option.some.injEq]at hr;subst hr;omega
  have a2:=Qrf (w:=W5) (F:=Up F w2 w3) (base:=w) (s:=⟨some ⟨g,0,none⟩,U⟩) (i:=i) (ks:=t.2.set i u) (l:=l) (r:=r)
   ⟨by rw[a3];exact j3.o,c9.o.size,λb J=>⟨by rw[e8.o];exact J.elim (λh=>by have:=HF.o b h;have:=c1.o.size;omega) λh=>h.2,λe=>by simp[Sl.row]at e;exact l3.o b J e.symm⟩,i5.o,b6,hl,hr,d7,j5.o,by
     have:=j8.o;omega,by omega,by omega⟩
  rw[a3]at a2;have HM:=hY a2;clear hl hr b6 d7 a2;go_wp2_with fail;refine HM.o.mono ?_;rintro e w6 ⟨s6,d3,rfl,b5,g3,g8,c4⟩;have i2:Ext w w6:=c9.o.step c4 (λb J=>by simp only[Sl.row,Option.map_some,Option.some.injEq]at J;have b8:w<=g:=b8;omega);have D:=i3.o d3 (.inr ⟨h4,g3.mono c9.o.size⟩);have c2:∀x∈d3,IsN w6 (Up F w w6) h x:=λx N=>(g8 x N).mono λb J=>by
   have hz:=e8.o;have n6:=c4.size;rcases J with(J|J)|J
   .exact .inl J
   .exact .inr ⟨by omega,by omega⟩
   exact .inr ⟨by omega,J.2⟩
  have X:=Qhm HF.o a4.o HS.o HC.o hh a6.o i2 b5 D c2;have HD:=hY D;have HE:=hY X;clear b5 g3 g8 c4 i2 D c2 X;go_wp2_with fail;refine HE.o.mono ?_;rintro e w7 ⟨N,(⟨v,hv,rfl,c3⟩ |⟨hv,c,d8,e4,rfl,c0⟩)⟩
  ·have H1:=hY N
   have H2:=hY c3;clear N c3;go_wp2_with fail;go_ret2;exact⟨H1.o,.inr ⟨a6.o,d3,HD.o,.inl ⟨v,hv,rfl,H2.o⟩⟩⟩
  have H1:=hY N;have H2:=hY c0;clear N c0;go_wp2_with fail;go_ret2;exact⟨H1.o,.inr ⟨a6.o,d3,HD.o,.inr ⟨hv,c,d8,e4,rfl,H2.o⟩⟩⟩
 have l0:¬(size h u:Int)<4:=by omega
 have D:=i3.o _ (.inl ⟨by omega,rfl⟩);have c2:∀x∈t.2.set i u,IsN W5 (Up F w W5) h x:=λx N=>(i5.o x N).mono λb J=>by
  have hz:=e8.o;rcases J with J|J
  .exact .inl J
  exact .inr ⟨by omega,by omega⟩
 have X:=Qhm (s6:=⟨some ⟨g,0,none⟩,U⟩) HF.o a4.o HS.o HC.o hh a6.o c9.o (by rw[a3];exact j3.o) D c2;rw[a3]at X;have HD:=hY D;have HE:=hY X;clear D c2 X;go_wp2_with fail;refine HE.o.mono ?_;rintro e w7 ⟨N,(⟨v,hv,rfl,c3⟩ |⟨hv,c,d8,e4,rfl,c0⟩)⟩
 ·have H1:=hY N
  have H2:=hY c3;clear N c3;go_wp2_with fail;go_ret2;exact⟨H1.o,.inr ⟨a6.o,_,HD.o,.inl ⟨v,hv,rfl,H2.o⟩⟩⟩
 have H1:=hY N;have H2:=hY c0;clear N c0;go_wp2_with fail;go_ret2;exact⟨H1.o,.inr ⟨a6.o,_,HD.o,.inr ⟨hv,c,d8,e4,rfl,H2.o⟩⟩⟩
theorem Qhl{k:ByteArray}:∀(h:Nat) (w:World) (F:Nat->Prop) (t:PT h),(∀b,F b->b<w)->IsN w F h t->OkT h t->4<=size h t->Sorted (ents h t)->(ents h t).length<=1000000->Calls prog 88 #[ptr h t,.string k] w (Qn2 F h t k w)
 | 0,w,F,t,hF,hn,ok,N,hs,hc=>by
   refine(Qd3 ⟨_,rfl⟩ (QaO hn) (Qbh (hn.mono hF)) hs (show t.2.length<=8 from ok) k).mono ?_;rintro e w' ⟨I,(⟨z,rfl⟩ |⟨z,u,rfl,hu,J,D⟩)⟩
   .exact ⟨I,.inl ⟨z,rfl⟩⟩
   exact⟨I,.inr ⟨z,u,rfl,⟨hu,J⟩,D.mono λi hi=>.inr hi⟩⟩
 | h+1,w,F,t,hF,hn,ok,N,hs,hc=>by
   refine(QfP (Qhl (k:=k) h) hF hn ok hs hc).mono ?_;rintro e w' ⟨I,(⟨z,rfl⟩ |⟨z,R,hd,h2⟩)⟩
   .exact ⟨I,.inl ⟨z,rfl⟩⟩
   have N:4<=t.2.length:=N;have:=(QdH hd ok hs z).2.2;rcases h2 with⟨u,rfl,-,-⟩ |⟨-,c,rfl,J,rfl,D⟩
   .simp only[List.length_cons,List.length_nil]at this;omega
   exact⟨I,.inr ⟨z,c,rfl,⟨hd,J⟩,D⟩⟩
def Qn3(F:Nat->Prop)(T:RT)(k:ByteArray)(w:World)(e:Ending)(w':World):Prop:=
 Ext w w'/\((Qam (Qab T) k=none/\e=.returned (.tuple #[Qay T,.bool false]))\/
  ((Qam (Qab T) k).isSome=true∧∃ (h:Nat) (u:PT h),e=.returned (.tuple #[ptr h u,.bool true])∧IsN w' (Up F w w') h u∧
    ((ents h u=[]/\Qkp w.heap.size k T none)\/(0<(ents h u).length/\Qkp w.heap.size k T (some ⟨h,u⟩)))))
variable{T:RT}
theorem Qkn(hF:∀b,F b->b<w)(hT:IsT w F T)(ok:OkR T)(X:(Qab T).length<=1000000)(k:ByteArray) :
  Calls prog 88 #[Qay T,.string k] w (Qn3 F T k w):=by
 match T,hT,ok,X with
 | none,_,_,_=>
   refine(Qd3 (nv:=.pointer none) (es:=[]) ⟨none,rfl⟩ (Qd8 w) ((Qey w).mono ?_) List.Pairwise.nil (by simp) k).mono ?_
   ·rintro e w' ⟨rfl,rfl⟩
    exact⟨Sl.none,[],rfl,rfl,OE.nil _ _,fv _⟩
   rintro e w' ⟨I,(⟨z,rfl⟩ |⟨z,u,rfl,hu,U,D⟩)⟩
   .exact ⟨I,.inl ⟨z,rfl⟩⟩
   simp[Qam]at z
 | some ⟨0,t⟩,J,ok,X=>
   have J:IsN w F 0 t:=J;refine(Qd3 ⟨_,rfl⟩ (QaO J) (Qbh (J.mono hF)) ok.2.2 (show t.2.length<=8 from ok.1) k).mono ?_;rintro e w' ⟨I,(⟨z,rfl⟩ |⟨z,u,rfl,hu,U,D⟩)⟩
   .exact ⟨I,.inl ⟨z,rfl⟩⟩
   refine⟨I,.inr ⟨z,0,u,rfl,D.mono λi hi=>.inr hi,?_⟩⟩;by_cases Y:ents 0 u=[]
   .exact .inl ⟨Y,.gone z ⟨hu,U⟩ Y⟩
   have:=List.length_pos_iff.2 Y;exact .inr ⟨this,.same z ⟨hu,U⟩ this (.inl rfl)⟩
 | some ⟨h+1,t⟩,J,ok,X=>
   refine(QfP (Qhl (k:=k) h) hF J ok.1 ok.2.2 X).mono ?_;rintro e w' ⟨I,(⟨z,rfl⟩ |⟨z,a0,hd,h2⟩)⟩
   .exact ⟨I,.inl ⟨z,rfl⟩⟩
   have R:=(QdH hd ok.1 ok.2.2 z).1;rcases h2 with⟨u,rfl,rfl,D⟩ |⟨hl,c,rfl,U,rfl,D⟩
   ·have:=R u (bn.2 rfl)
    exact⟨I,.inr ⟨z,h,u,rfl,D,.inr ⟨QbB h u this.1 (by omega),.down z hd⟩⟩⟩
   have Z:0<(ents (h+1) c).length:=by
    obtain⟨x,N⟩:=List.exists_mem_of_length_pos (show 0<c.2.length by omega);have h1:=R x N;have h2:=QbB h x h1.1 (by omega);show 0<(c.2.flatMap (ents h)).length;obtain⟨e,he⟩:=List.exists_mem_of_length_pos h2;exact List.length_pos_of_mem (cA.2 ⟨x,N,he⟩)
   exact⟨I,.inr ⟨z,h+1,c,rfl,D,.inr ⟨Z,.same z ⟨hd,U⟩ Z (.inr hl)⟩⟩⟩
def Qsb(F:Nat->Prop)(T:RT)(k:ByteArray)(w:World)(e:Ending)(w':World):Prop:=
 ∃T',e=.returned (.tuple #[Qau T',.bool (Qam (Qab T) k).isSome])/\Qkp w.heap.size k T T'/\IsT w' (Up F w w') T'/\Ext w w'
theorem QmJ(hF:∀b,F b->b<w)(hT:IsT w F T)(ok:OkR T)(hc:(Qab T).length<=1000000)(k:ByteArray) :
  Calls prog 51 #[Qau T,.string k] w (Qsb F T k w):=by
 have a4:∀W,Ext w W->Calls prog 88 #[Qay T,.string k] W (Qn3 F T k W):=λW hW=>
  Qkn (λb hb=>ab (hF b hb) hW.size) (hT.agree (hW.agree hF)) ok hc k
 have Z:∀W,Ext w W->Calls prog 58 #[Qay T] W λe w'=>e=.returned (.int .i64 (Qab T).length)/\W=w':=λW hW=>Qfj (hT.agree (hW.agree hF))
 have U:Qab T=[]->T=none:=λz=>by
  match T,ok,z with
  |none,_,_=>rfl
  |some ⟨h,t⟩,ok,z=>have:=QbB h t ok.1 ok.2.1;have z:ents h t=[]:=z;rw[z]at this;cases this
 have c4:∃p,Qay T=.pointer p:=Qaq T;obtain⟨rp,N⟩:=c4;rw[N]at a4 Z;have HW:=hY a4;have d3:=hY Z;have HF:=hY hF;have d0:=hY ok;have HT:=hY hT;have b8:=hY U;have c0:=hY N;clear hF hT ok a4 Z U;rw[Qau,N];clear N;go_in;go_wp2_with fail;have a3:Ext w ((w.alloc (.cells #[.pointer rp] 41)).alloc (.cells #[.pointer none] 41)):=((fv w).alloc _ _).alloc _ _;have b5:Blk ((w.alloc (.cells #[.pointer rp] 41)).alloc (.cells #[.pointer none] 41)) (w.heap.size+1) 41 #[.pointer none]:=by
  have:=fA (w.alloc (.cells #[.pointer rp] 41)) 41 #[.pointer none];simpa using this
 generalize b4:World.alloc _ _=W3 at *;have d5:W3.heap.size=w.heap.size+1+1:=by rw[<-b4];simp
 clear b4;refine(HW.o _ a3).mono ?_;rintro e I ⟨a1,a5⟩;have J:=b5.ext a1;have a9:=a3.trans a1;have q4:I.cell? ⟨w+1,0,none⟩=some (.pointer none):=J.cell 0;have f4:=J.frozen 0;have d4:=J.lt;have HX:=hY a9;have b6:∀W',¬Up F W3 W' (w.heap.size+1):=λW' hf=>by
  rcases hf with hf|hf
  .have:=HF.o _ hf;omega
  have:=hf.1;omega
 have c7:=hY b6;have Y:w.heap.size<=W3.heap.size:=by omega
 clear b5 J a9 a3 a1 b6;have b3:∃D b,e=.returned (.tuple #[Qay D,.bool b])/\b=(Qam (Qab T) k).isSome/\IsT I (Up F W3 I) D/\((Qab D).length=0->Qkp w.heap.size k T none)/\((Qab D).length≠0->Qkp w.heap.size k T D):=by
  rcases a5 with⟨hg,rfl⟩ |⟨hg,h,u,rfl,c1,hd⟩
  ·refine ⟨T,false,by rw [c0.o],by rw [hg];rfl,(HT.o.agree (HX.o.agree HF.o)).mono fun i hi=>.inl hi,fun z=>?_,fun _=>.no hg⟩
   have:=b8.o (ar z);subst this;exact .no hg
  refine⟨some ⟨h,u⟩,true,rfl,hg.symm,c1,λz=>?_,λz=>?_⟩
  .exact (hd.resolve_right λhc=>by have z:(ents h u).length=0:=z;omega).2.mono Y
  exact(hd.resolve_left λh=>z (by show(ents _ u).length=0;rw[h.1];rfl)).2.mono Y
 obtain⟨D,b,rfl,hb,a2,b7,a6⟩:=b3;have a0:=Qfj a2;obtain⟨p1,R⟩:=Qaq D;have X:∀W',Agree (Up F W3 I) I W'->I.heap.size<=W'.heap.size->IsT W' (Up F w W') D:=λW' ha hs=>(a2.agree ha).mono λi hi=>hi.elim .inl λhi=>.inr ⟨Nat.le_trans Y hi.1,ab hi.2 hs⟩
 rw[R]at a0;have c6:=hY R;have c9:=hY a0;have HB:=hY hb;have b0:=hY X;have c8:=hY b7;have c2:=hY a6;rw[R];clear a5 R a0 hb X b7 a6 a2;go_wp2_with fail;refine c9.o.mono ?_;rintro e w5 ⟨rfl,rfl⟩;by_cases z:(Qab D).length=0
 ·have c3:(((Qab D).length:Int) == 0)=true:=by simp [z]
  go_wp2_with fail;have q0:(I.setCell ⟨w+1,0,none⟩ (.pointer none)).cell? ⟨w+1,0,none⟩=some (.pointer none):=eM I _ _ q4;refine eD (v:=.tuple #[Qau none,.bool b]) (by simp[results,results51,go_sem,q0];rfl) rfl ?_;rw[HB.o];exact⟨none,rfl,c8.o z,trivial,HX.o.setCell (p:=⟨w+1,0,none⟩) (by show w.heap.size<=w.heap.size+1;omega) _⟩
 have c3:(((Qab D).length:Int)==0)=false:=eu.2 (by omega);go_wp2_with fail;have q0:(I.setCell ⟨w+1,0,none⟩ (.pointer p1)).cell? ⟨w+1,0,none⟩=some (.pointer p1):=eM I _ _ q4;refine eD (v:=.tuple #[Qau D,.bool b]) (by rw[Qau,c6.o];simp[results,results51,go_sem,q0]) rfl ?_;rw[HB.o];exact⟨D,rfl,c2.o z,b0.o _ (fC I ⟨w+1,0,none⟩ _ (c7.o I)) (by simp),HX.o.setCell (p:=⟨w+1,0,none⟩) (by show w.heap.size<=w.heap.size+1;omega) _⟩
variable{P:Program}
theorem Qjq(w:World){z D:TypeId}(a:Addr)(I:P.underlying z=some (.pointer D)) :
  (binOp .eql z (.pointer none) (.pointer (some a))).run P w=.ok (.bool false) w:=by
 have h:∀d:Nat,(Op.equalIn (d+1) z (.pointer none) (.pointer (some a))).run P w=.ok false w:=λd=>by
  simp[Op.equalIn,run_underlying I]
 simp only[binOp];simp[Op.equal,Op.maxDepth,h 9999]
theorem QoY:∃j,prog.info? 144=some j/\j.size≠0:=by
 have h:((prog.info? 144).map λi=>decide (i.size≠0))=some true:=by kernel_rfl
 cases z:prog.info? 144 with
 |none=>rw[z]at h;cases h
 |some j=>rw[z]at h;exact⟨j,rfl,by simpa using h⟩
theorem QkQ(w:World)(p:Option Addr):Calls prog 29 #[.agg #[.pointer p],.agg #[.pointer p]] w λe w'=>e=.returned (.bool true)/\Ext w w':=by
 obtain⟨j,z,-⟩:=QoY;cases p with
 | none=>
   go_in;go_wp2_with fail;go_ret;exact⟨rfl,((fv w).alloc _ _).alloc _ _⟩
 | some a=>
   have hs:=λW=>run_eql_ptr_same (P:=prog) W a underlying39 z
   go_in;go_wp2_with fail;go_ret;exact⟨rfl,((fv w).alloc _ _).alloc _ _⟩
def Qmq(w:World)(p:Option Addr):Prop:=∀a,p=some a->∃c t,w.heap[a.block]? = some (.cells c t (0,0))
variable{w':World}
theorem Qmq.ext{p:Option Addr}(h:Qmq w p)(I:Ext w w'):Qmq w' p:=λa e=>by
 obtain⟨c,t,z⟩:=h a e;have D:a.block<w.heap.size:=(aC.1 z).1;exact⟨c,t,(I.heap D).trans z⟩
theorem Qtr(w:World)(p q:Option Addr)(J:Qmq w p)(R:Qmq w q):Calls prog 29 #[.agg #[.pointer p],.agg #[.pointer q]] w λe w'=>e=.returned (.bool (decide (p=q)))/\Ext w w':=by
 by_cases z:p=q
 .subst z;rw[ej rfl];exact QkQ w p
 rw[eh z];obtain⟨j,Y,X⟩:=QoY;cases q with
 | none=>
   cases p with
   |none=>exact absurd rfl z
   | some a=>
     go_in;go_wp2_with fail;go_ret;exact⟨rfl,((fv w).alloc _ _).alloc _ _⟩
 | some b=>
   cases p with
   | none=>
     have hs:=λW=>Qjq (P:=prog) W b underlying39
     go_in;go_wp2_with fail;go_ret;exact⟨rfl,((fv w).alloc _ _).alloc _ _⟩
   | some a=>
     have I:=((fv w).alloc #[.pointer (some a)] 41).alloc #[.pointer (some b)] 41;obtain⟨ca,Z,U⟩:=(J.ext I) a rfl;obtain⟨cb,tb,N⟩:=(R.ext I) b rfl;have D:a≠b:=λe=>z (by rw[e])
     have hs:=run_eql_ptr_other (P:=prog) _ underlying39 Y X D U N;clear J R z U N;go_in;go_wp2_with fail;go_ret;exact⟨rfl,((fv w).alloc _ _).alloc _ _⟩
open Go.Maps
structure Sb(H:Nat->Prop)(w w':World):Prop where
 os:w'.os=w.os
 tape:w'.tape=w.tape
 output:w'.output=w.output
 size:w.heap.size<=w'.heap.size
 block:∀b,b<w.heap.size->¬H b->w'.heap[b]? = w.heap[b]?
variable{H:Nat->Prop}
theorem St.sb(h:St H w w'):Sb H w w':=⟨h.os,h.tape,h.output,h.size,h.block⟩
theorem Ext.sb(h:Ext w w')(H:Nat->Prop):Sb H w w':=(h.st H).sb
theorem Sb.refl(H:Nat->Prop)(w:World):Sb H w w:=(fv w).sb H
theorem Sb.trans{a b c:World}(h:Sb H a b)(k:Sb H b c):Sb H a c:=
 ⟨k.os.trans h.os,k.tape.trans h.tape,k.output.trans h.output,al h.size k.size,λi hi z=>(k.block i (ab hi h.size) z).trans (h.block i hi z)⟩
theorem Sb.comp{a b c:World}(h:Sb H a b)(k:Sb G b c)(I:∀i,i<a.heap.size->G i->H i):Sb H a c:=
 ⟨k.os.trans h.os,k.tape.trans h.tape,k.output.trans h.output,al h.size k.size,λi hi z=>(k.block i (ab hi h.size) λD=>z (I i hi D)).trans (h.block i hi z)⟩
theorem Sb.mono{a b:World}(h:Sb H a b)(z:∀i,i<a.heap.size->H i->G i):Sb G a b:=
 ⟨h.os,h.tape,h.output,h.size,λi hi I=>h.block i hi λD=>I (z i hi D)⟩
theorem Sb.of_below(h:Below n w w'):Sb (λb=>n<=b) w w':=⟨h.os,h.tape,h.output,h.size,λb _ z=>h.block b (by omega)⟩
theorem Sb.new(h:Below w.heap.size w w'):Sb H w w':=(Sb.of_below h).mono λi hi z=>by omega
theorem Sb.cell(h:Sb H w w'){b o:Nat}(D:b<w)(z:¬H b):w'.cell? ⟨b,o,none⟩=w.cell? ⟨b,o,none⟩:=
 eS (w:=w) (a:=⟨b,o,none⟩) (h.block b D z)
variable{g:Nat}
theorem Sb.blk{t:TypeId}{cs:Array Value}(h:Sb H w w')(z:Blk w g t cs)(D:¬H g):Blk w' g t cs:=(h.block g z.lt D).trans z
theorem Sb.agree(h:Sb H w w'):Agree (NH H w) w w':=λb z=>h.block b z.1 z.2
theorem Sb.ext{a b c:World}(h:Sb H a b)(k:Ext b c):Sb H a c:=h.trans (k.sb H)
theorem Sb.drew{a w:World}(h:Sb H a w):Sb H a w.drew:=h.ext ((fv w).drew)
theorem Sb.set{a w:World}(h:Sb H a w){p:Addr}(z:a.heap.size<=p.block\/H p.block)(u:Value):Sb H a (w.setCell p u):=
 ⟨h.os,h.tape,h.output,by simpa[World.setCell]using h.size,λi hi D=>(eP w p u i (by
   rintro rfl;rcases z with z|z
   .omega
   exact D z)).trans (h.block i hi D)⟩
theorem Sb.grown{b:Nat}(h:w.grownBy w' (some b)):Sb (λi=>i=b) w w':=
 ⟨h.os,h.tape,h.output,h.size,λi hi z=>h.block i hi (by intro e;injection e with e;exact z e)⟩
theorem Sb.made(h:w.grownBy w' none):Sb H w w':=⟨h.os,h.tape,h.output,h.size,λi hi z=>h.block i hi (by simp)⟩
theorem QbI{H:Type}{k:TypeId}{R:Value->Option (DataW H × List MemPlace)}{b n:Nat}{D:DataW H}(h:w.ownsMap P k R b n D)(J:w'.heap[b]? = w.heap[b]?):w'.ownsMap P k R b n D:=by
 obtain⟨es,z,h1,F,h2,I⟩:=h;exact⟨es,z,J.trans h1,F,h2,I⟩
theorem MapAt.sb{M:Nat}{es:List Ent}(h:MapAt H w M es)(k:Sb G w w')(N:∀b,G b->H b)(J:¬G M):MapAt H w' M es:=by
 obtain⟨R,s,xs,z,hs,D⟩:=h;exact⟨R,s,xs,k.blk z J,(hs.agree λb z=>k.block b z.1 λI=>z.2 (N b I)).mono λb z=>⟨Nat.lt_of_lt_of_le z.1 k.size,z.2⟩,D⟩
theorem QcP{base e size n m:Nat}{xs:List Value}{t:TypeId}{cs:Array Value}(N:w.ownsRow base e size (.slice s.a n s.c) n xs)(X:Blk w m t cs)(I:e≠t):¬s.row=some m:=λz=>by
 rcases N.2 with⟨D,-⟩ |⟨J,cap,U,D,-,R,-⟩
 ·injection D with e1
  rw[Sl.row,e1]at z;cases z
 injection D with e1;rw[Sl.row,e1]at z;have:J=m:=by simpa using z
 subst this;have h2:w.heap[J]? = some (.cells cs t (0,0)):=X;rw[R]at h2;injection h2 with h2;injection h2 with h3 h4;exact I h4
abbrev fD:=@Sb.refl
structure OD where
 T:RT
 mb:Option Nat
 s:Sl
 us:List UD
 Hs:List (AL SV)
 C:AL SV
def OvB(O:Nat)(d:OD):Nat->Prop:=λb=>b=O\/d.mb=some b\/d.s.row=some b
def OvF(H:Nat->Prop)(w:World)(O:Nat)(d:OD):Nat->Prop:=λb=>b<w.heap.size/\¬OvB O d b/\¬H b
theorem Qcj(w:World)(F:Nat->Prop):RV w F zeroV Sl.none Sl.none:=RV.flat _ _ _ _ _ _ (by decide) (by decide) (by decide)
def Qkv(w:World)(F:Nat->Prop)(s:SV):Prop:=RV w F s.v s.sl s.so/\(s.has=false->s.v=zeroV)
theorem Qkv.agree{s:SV}(h:Qkv w F s)(z:Agree F w w'):Qkv w' F s:=⟨h.1.agree z,h.2⟩
theorem Qkv.mono{s:SV}(h:Qkv w F s)(z:∀i,F i->G i):Qkv w G s:=⟨h.1.mono z,h.2⟩
def Qh7(w:World)(F:Nat->Prop)(O:Nat)(u:UD)(v:Value):Prop:=
 ∃(bw bd bo bk:Nat) (o:SV),v=.func (.func 69) #[] #[.pointer (some ⟨bw,0,none⟩),.pointer (some ⟨bd,0,none⟩),.pointer (some ⟨bo,0,none⟩),.pointer (some ⟨bk,0,none⟩)]/\
  (F bw/\F bd/\F bo/\F bk)/\Blk w bw 4 #[.bool u.old.isSome]/\Blk w bd 87 o.cells/\(∀x,u.old=some x->x=o)/\Blk w bo 36 #[.pointer (some ⟨O,0,none⟩)]/\Blk w bk 9 #[.string u.k]
variable{O:Nat}
theorem Qh7.agree{u:UD}{v:Value}(h:Qh7 w F O u v)(z:Agree F w w'):Qh7 w' F O u v:=by
 obtain⟨Y,U,R,X,o,h1,⟨I,N,J,D⟩,h2,h3,h4,h5,Z⟩:=h;exact⟨Y,U,R,X,o,h1,⟨I,N,J,D⟩,h2.agree z I,h3.agree z N,h4,h5.agree z J,Z.agree z D⟩
theorem Qh7.mono{u:UD}{v:Value}(h:Qh7 w F O u v)(z:∀i,F i->G i):Qh7 w G O u v:=by
 obtain⟨Y,J,I,N,o,h1,⟨X,U,D,R⟩,r⟩:=h;exact⟨Y,J,I,N,o,h1,⟨z _ X,z _ U,z _ D,z _ R⟩,r⟩
def Qbt(w:World)(mb:Option Nat)(C:AL SV):Prop:=match mb with
 |none=>C=[]
 |some b=>w.ownsMap prog 9 QeZ b C.length (mapA SV.val C)
variable{C:AL SV}
theorem Qbt.heap{mb:Option Nat}(h:Qbt w mb C)(z:∀b,mb=some b->w'.heap[b]? = w.heap[b]?):Qbt w' mb C:=by
 cases mb with
 |none=>exact h
 |some b=>exact QbI h (z b rfl)
theorem Qbt.lt{mb:Option Nat}(h:Qbt w mb C){b:Nat}(z:mb=some b):b<w:=by
 subst z;exact World.ownsMap.lt h
theorem Qe7{b n:Nat}(h:w.ownsMap prog 9 QeZ b n (mapA SV.val C)):w.ownsMap prog 9 QeZ b C.length (mapA SV.val C):=by
 obtain⟨es,z,h1,F,h2,D⟩:=h;refine⟨es,z,h1,F,?_,D⟩;have:=congrArg Maps.size D;rw[Qj7]at this;simp[Maps.size,length_sorted]at this;omega
def Qt4(w:World)(F:Nat->Prop)(O:Nat)(s:Sl)(us:List UD):Prop:=
 ∃xs:List Value,xs.length=us.length/\w.ownsRow 0 1 1 (.slice s.a us.length s.c) us.length xs/\∀(i:Nat) (u:UD) (v:Value),us[i]? = some u->xs[i]? = some v->Qh7 w F O u v
structure QcW(H:Nat->Prop)(w:World)(O:Nat)(d:OD):Prop where
 blk:Blk w O 80 #[Qay d.T,.map d.mb,.slice d.s.a d.us.length d.s.c]
 map:Qbt w d.mb d.C
 row:Qt4 w (OvF H w O d) O d.s d.us
 vals:∀p∈d.C,p.1.size<=maxLen/\Qkv w (OvF H w O d) p.2
 olds:∀u∈d.us,u.k.size<=maxLen/\∀o,u.old=some o->Qkv w (OvF H w O d) o
 hist:Chain d.us d.Hs
 h0:d.Hs[0]? = some []
 last:d.Hs[d.us.length]? = some d.C
 sorted:Qav d.C
 tree:IsT w (OvF H w O d) d.T
 ok:OkR d.T
 ne:d.mb≠some O/\d.s.row≠some O/\∀b,d.mb=some b->d.s.row≠some b
 out:∀b,OvB O d b->¬H b
 some_:d.us≠[]->∃b,d.mb=some b
theorem Chain.short{D:List UD}{z:List (AL SV)}(h:Chain D z)(J:z[0]? = some []):∀(i:Nat) (C:AL SV),z[i]? = some C->C.length<=i
 |0,C,hC=>by rw[J]at hC;injection hC with hC;subst hC;exact an _
 | i+1,C,hC=>by
   have hi:i<D.length:=by have:=(ah.1 hC).1;have:=h.len;omega
   obtain⟨I,s,h1,h2,R,N⟩:=h.step i _ (ac hi);rw[N]at hC;injection hC with hC;subst hC;have:=h.short J i I h1;have:=Qrx (C:=I) (k:=(D[i]'hi).k) (v:=s);omega
section
variable{H : Nat -> Prop}{w w' : World}{O : Nat}{d : OD}
theorem QcW.few(h:QcW H w O d):d.C.length<=d.us.length:=h.hist.short h.h0 _ _ h.last
theorem QcW.Qj4(h:QcW H w O d){b:Nat}(z:d.s.row=some b):b<w:=by
 obtain⟨xs,-,h2,-⟩:=h.row;exact(Qaa h2 z).2
theorem QcW.Qbe(h:QcW H w O d){b:Nat}(z:OvB O d b):b<w:=by
 rcases z with rfl|z|z
 .exact h.blk.lt
 .exact h.map.lt z
 exact h.Qj4 z
theorem QcW.sb{G:Nat->Prop}(h:QcW H w O d)(k:Sb G w w')(R:∀b,G b->H b):QcW H w' O d:=by
 have D:Agree (OvF H w O d) w w':=λb z=>k.block b z.1 λhh=>z.2.2 (R b hh)
 have I:∀i,OvF H w O d i->OvF H w' O d i:=λi hi=>⟨Nat.lt_of_lt_of_le hi.1 k.size,hi.2⟩
 have J:∀b,OvB O d b->¬G b:=λb z X=>h.out b z (R b X)
 obtain⟨xs,r1,Z,Y⟩:=h.row;exact⟨k.blk h.blk (J O (.inl rfl)),h.map.heap λb z=>k.block b (h.map.lt z) (J b (.inr (.inl z))),
  ⟨xs,r1,Qae Z k.agree λb z=>⟨h.Qj4 z,J b (.inr (.inr z))⟩,λi u v hu hv=>((Y i u v hu hv).agree D).mono I⟩,
  λp N=>⟨(h.vals p N).1,((h.vals p N).2.agree D).mono I⟩,λu hu=>⟨(h.olds u hu).1,λo U=>(((h.olds u hu).2 o U).agree D).mono I⟩,
  h.hist,h.h0,h.last,h.sorted,(h.tree.agree D).mono I,h.ok,h.ne,h.out,h.some_⟩
theorem QcW.ext(h:QcW H w O d)(k:Ext w w'):QcW H w' O d:=h.sb (k.sb λ_=>False) λ_ z=>z.elim
theorem QcW.more{G:Nat->Prop}(h:QcW H w O d)(N:∀b,b<w.heap.size->G b->H b):QcW G w O d:=by
 have z:∀i,OvF H w O d i->OvF G w O d i:=λi hi=>⟨hi.1,hi.2.1,λD=>hi.2.2 (N i hi.1 D)⟩
 obtain⟨xs,Z,X,U⟩:=h.row;exact⟨h.blk,h.map,⟨xs,Z,X,λi u v hu Y=>(U i u v hu Y).mono z⟩,λp I=>⟨(h.vals p I).1,(h.vals p I).2.mono z⟩,
  λu hu=>⟨(h.olds u hu).1,λo R=>((h.olds u hu).2 o R).mono z⟩,h.hist,h.h0,h.last,h.sorted,h.tree.mono z,h.ok,h.ne,λb J D=>h.out b J (N b (h.Qbe J) D),h.some_⟩
end
theorem Qfc:Keyed prog 9:=string_keyed underlying9
theorem Qs7(k:ByteArray)(z:k.size<=maxLen):keyOf prog 9 (.string k)=some (QfF k):=Go.WideMaps.keyOf_string_mk underlying9 z
structure QnP(H:Nat->Prop)(w:World)(O:Nat)(d d':OD)(w':World):Prop where
 at_:QcW H w' O d'
 sb:Sb (OvB O d) w w'
 new:∀b,OvB O d' b->OvB O d b\/w.heap.size<=b
abbrev Qh4:SV:=⟨false,zeroV,Sl.none,Sl.none⟩
theorem Qgq(w:World):(zeroValue 87).run prog w=.ok Qh4.val w:=by kernel_rfl
theorem Tryz.Qtq:(prog.info? 1).map (λi=>(i.zero,i.size,i.bytes))=some (some Value.nilFunc,1,8):=by kernel_rfl
def Qir(C:AL SV)(k:ByteArray):SV:=(Qa5 C k).getD Qh4
theorem QkV{mb:Option Nat}(N:Qbt W mb C){k:ByteArray}(I:k.size<=maxLen) :
  (Instr.lookup 77 (.map mb) (.string k) true).run prog W=.ok (.tuple #[(Qir C k).val,.bool (Qa5 C k).isSome]) W:=by
 cases mb with
 | none=>
   have R:C=[]:=N;subst R;rw[Maps.look_nil true Qfc underlying77 (Qgq W) (Qs7 k I)];rfl
 | some b=>
   obtain⟨v,U,D,z⟩:=World.ownsMap.look_ok N Qfc underlying77 (Qgq W) (zd:=.held Qh4.val) (zp:=[]) rfl (Qs7 k I);rw[Qgv]at z;rw[D,QlH];unfold Qir;cases J:Qa5 C k with
   |none=>rw[J]at z;rw[Qe0 z];rfl
   |some s=>rw[J]at z;rw[Qe0 z];rfl
variable{a:Act}{Q:Exit->Act->World->Prop}{K:Act->World->Prop}
theorem QjO{o:Oper}{m x v:Operand}(I:o.op=Op.mapUpdate 77 m x v)
  {b:Nat} {k:ByteArray} {s:SV} (hm:a.eval m=.map (some b)) (U:a.eval x=.string k) (Z:a.eval v=s.val) (D:Qbt w (some b) C) (X:k.size<=maxLen) (R:C.length<maxLen) (hs:Qav C)
  (N:∀w',Qbt w' (some b) (Qc6 C k s)->Sb (λc=>c=b) w w'->K (a.put o.dst undef) w'):Oper.wp prog o a w K Q:=by
 obtain⟨w',z,J,Y⟩:=World.ownsMap.store D Qfc underlying77 R (Qs7 k X) (val:=s.val) (d:=.held s.val) (ps:=[]) rfl;unfold Oper.wp;simp[execOp,I,hm,U,Z,z,Result.andThen];rw[Qrz SV.val hs]at J;exact N _ (Qe7 J) (Sb.grown Y.grown)
theorem Qpr{o:Oper}{m x:Operand}(I:o.op=Op.call { callee:=Callee.builtin Builtin.delete,args:=#[m,x],argTypes:=#[77,9] })
  {b:Nat} {k:ByteArray} (Y:a.eval m=.map (some b)) (N:a.eval x=.string k) (D:Qbt w (some b) C) (R:k.size<=maxLen)
  (X:∀w',Qbt w' (some b) (Qjj C k)->Sb (λc=>c=b) w w'->K (a.put o.dst (.tuple #[])) w'):Oper.wp prog o a w K Q:=by
 obtain⟨w',z,J,U⟩:=World.ownsMap.drop D Qfc underlying77 (Qs7 k R) o.type;unfold Oper.wp;simp[execOp,I,resolve,invoke,builtin,Y,N,z,Result.andThen];rw[QqH SV.val]at J;exact X _ (Qe7 J) (Sb.grown U.grown)
theorem Qbt.ne{b g:Nat}{t:TypeId}{cs:Array Value}(h:Qbt w (some b) C)(D:Blk w g t cs):g≠b:=by
 rintro rfl;obtain⟨es,z,h1,-⟩:=h;have h2:w.heap[g]? = some (.cells cs t (0,0)):=D;rw[h1]at h2;cases h2
theorem QqO{J:List UD}{I:List (AL SV)}(h:Chain J I)(z:I[J.length]? = some C):∃D,I=D++[C]:=by
 have N:=h.len;rcases List.eq_nil_or_concat I with rfl |⟨D,c,rfl⟩
 .simp at N
 refine⟨D,?_⟩;rw[List.concat_eq_append]at *;rw[ak,cF]at N;rw[aU (by omega),show J.length-D.length=0 by omega]at z;injection z with z;rw[z]
section
variable{H : Nat -> Prop}{w wc : World}{O : Nat}{d : OD}
theorem QcW.made(h:QcW H w O d)(hm:d.mb=none){b:Nat}(hb:w.heap.size<=b)(hH:∀b,H b->b<w.heap.size)(k:Sb (λc=>c=O) w wc)
  (D:Blk wc O 80 #[Qay d.T,.map (some b),.slice d.s.a d.us.length d.s.c]) (I:wc.ownsMap prog 9 QeZ b 0 (mapA SV.val [])):QcW H wc O { d with mb:=some b }:=by
 have X:d.C=[]:=by have:=h.map;rw[hm]at this;exact this
 have J:Agree (OvF H w O d) w wc:=λi hi=>k.block i hi.1 λe=>hi.2.1 (.inl e)
 have z:∀i,OvF H w O d i->OvF H wc O { d with mb:=some b } i:=λi hi=>⟨Nat.lt_of_lt_of_le hi.1 k.size,λe=>by
  rcases e with e|e|e
  .exact hi.2.1 (.inl e)
  ·have e:some b=some i:=e
   injection e with e;have:=hi.1;omega
  exact hi.2.1 (.inr (.inr e)),hi.2.2⟩
 obtain⟨xs,r1,Z,Y⟩:=h.row;refine⟨D,?_,⟨xs,r1,Qae Z k.agree λi hi=>⟨h.Qj4 hi,λe=>h.ne.2.1 (by rw[<-e];exact hi)⟩,λi u v hu hv=>((Y i u v hu hv).agree J).mono z⟩,
  λp R=>⟨(h.vals p R).1,((h.vals p R).2.agree J).mono z⟩,λu hu=>⟨(h.olds u hu).1,λo U=>(((h.olds u hu).2 o U).agree J).mono z⟩,
  h.hist,h.h0,h.last,h.sorted,(h.tree.agree J).mono z,h.ok,⟨?_,h.ne.2.1,?_⟩,?_,λ_=>⟨b,rfl⟩⟩
 ·show wc.ownsMap _ _ _ _ _ _
  rw[X];exact I
 ·intro e
  have e:some b=some O:=e;injection e with e;have:=h.blk.lt;omega
 ·intro i hi hr
  have hi:some b=some i:=hi;injection hi with hi;have:=h.Qj4 hr;omega
 rintro i (hi|hi|hi) N
 .exact h.out i (.inl hi) N
 ·have hi:some b=some i:=hi
  injection hi with hi;have:=hH i N;omega
 exact h.out i (.inr (.inr hi)) N
structure Qn1(H:Nat->Prop)(w:World)(O:Nat)(d:OD)(k:ByteArray)(sv:SV)(b:Nat)(wc:World):Prop where
 at_:QcW H wc O { d with mb:=some b }
 sb:Sb (OvB O d) w wc
 mb:d.mb=some b\/w.heap.size<=b
 big:w.heap.size+3<=wc.heap.size
 bo:Blk wc w.heap.size 36 #[.pointer (some ⟨O,0,none⟩)]
 bk:Blk wc (w.heap.size+1) 9 #[.string k]
 bs:Blk wc (w.heap.size+1+1) 87 sv.cells
 ok:Qkv wc (OvF H wc O { d with mb:=some b }) sv
def Qqw(H:Nat->Prop)(O:Nat)(d:OD)(k:ByteArray)(sv:SV)(w:World)(e:Ending)(w':World):Prop:=
 (∃r,e=.returned r)/\∃mb s,QnP H w O d ⟨d.T,mb,s,d.us++[⟨k,Qa5 d.C k⟩],d.Hs++[Qc6 d.C k sv],Qc6 d.C k sv⟩ w'
abbrev Qkg(bw bd bo bk:Nat):Value:=.func (.func 69) #[] #[.pointer (some ⟨bw,0,none⟩),.pointer (some ⟨bd,0,none⟩),.pointer (some ⟨bo,0,none⟩),.pointer (some ⟨bk,0,none⟩)]
theorem step_end{k:ByteArray}{sv:SV}{b:Nat}{wm W w5 w7:World}(z:Qn1 H w O d k sv b wc)(d5:O<w.heap.size)(Z:∀i,d.s.row=some i->i<w.heap.size)(hH:∀b,H b->b<w.heap.size)(hk:k.size<=maxLen)(X:Ext wc wm)
  {bw bd:Nat} (a9:wc.heap.size<=bw/\bw<wm.heap.size) (a4:wc.heap.size<=bd/\bd<wm.heap.size) (c1:Blk wm bd 87 (Qir d.C k).cells) (c0:Blk wm bw 4 #[.bool (Qa5 d.C k).isSome]) (hx:Ext wm W)
  {xs:List Value} (hl:xs.length=d.us.length) (c2:∀(i:Nat) (u:UD) (v:Value),d.us[i]? = some u->xs[i]? = some v->Qh7 wc (OvF H wc O { d with mb:=some b }) O u v) {s5:Sl}
  (Y:w5.ownsRow 0 1 1 (.slice s5.a (d.us.length+1) s5.c) (d.us.length+1) (xs++[Qkg bw bd w.heap.size (w.heap.size+1)])) (R:Wr W w5 d.s.row) (hs:s5.a=d.s.a\/s5.a=some ⟨W.heap.size,0,none⟩/\Wr W w5 none)
  (h7:Qbt w7 (some b) (Qc6 d.C k sv)) (J:Sb (λc=>c=b) (w5.setCell ⟨O,2,none⟩ (.slice s5.a (d.us.length+1) s5.c)) w7) :
  QnP H w O d ⟨d.T,some b,s5,d.us++[⟨k,Qa5 d.C k⟩],d.Hs++[Qc6 d.C k sv],Qc6 d.C k sv⟩ w7:=by
 have c6:=z.big;have c8:=X.size;have d3:=hx.size;have d0:=R.grown.size;have c4:=J.size;rw[eA]at c4;have c9:b<wc.heap.size:=z.at_.map.lt rfl;have b0:b≠O:=λe=>z.at_.ne.1 (by rw[e])
 have b8:d.s.row≠some b:=λe=>z.at_.ne.2.2 b rfl e
 have b5:d.s.row≠some O:=z.at_.ne.2.1;have D:∀i,s5.row=some i->d.s.row=some i\/i=W.heap.size:=λi hi=>by
  rcases hs with h |⟨h,-⟩
  .left;rw[Sl.row,<-h];exact hi
  right;rw[Sl.row,h]at hi;simpa using hi.symm
 have b4:s5.row≠some O:=λe=>by
  rcases D O e with h|h
  .exact b5 h
  omega
 have b6:s5.row≠some b:=λe=>by
  rcases D b e with h|h
  .exact b8 h
  omega
 -- what turns between wc and the end
 have hW:Sb (λ_=>False) wc W:=(X.trans hx).sb _;have h5:Sb (λc=>d.s.row=some c) W w5:=⟨R.grown.os,R.grown.tape,R.grown.output,R.grown.size,λi hi hn=>R.grown.block i hi λe=>hn e.symm⟩;have h6:Sb (λc=>c=O) w5 (w5.setCell ⟨O,2,none⟩ (.slice s5.a (d.us.length+1) s5.c)):=(fD (λc=>c=O) w5).set (p:=⟨O,2,none⟩) (.inr rfl) _;have U:Sb (OvB O { d with mb:=some b }) wc w7:=
  (((hW.mono λi _ h=>h.elim).trans (h5.mono λi _ h=>.inr (.inr h))).trans (h6.mono λi _ h=>.inl h)).trans (J.mono λi _ h=>.inr (.inl (by rw[h])))
 have I:∀{g t cs},Blk wm g t cs->g≠O->g≠b->d.s.row≠some g->Blk w7 g t cs:=λhb h1 h2 h3=>
  J.blk (h6.blk (h5.blk (hb.ext hx) h3) h1) h2
 have N:∀i,wc.heap.size<=i\/(i=w.heap.size\/i=w.heap.size+1)->i<wm.heap.size->i≠b->OvF H w7 O ⟨d.T,some b,s5,d.us++[⟨k,Qa5 d.C k⟩],d.Hs++[Qc6 d.C k sv],Qc6 d.C k sv⟩ i:=λi hi d4 b7=>
  ⟨by omega,λe=>by
    rcases e with e|e|e
    .omega
    ·have e:some b=some i:=e
     injection e with e;exact b7 e.symm
    rcases D i e with h|h
    .have:=Z i h;omega
    omega,λhh=>by have:=hH i hh;omega⟩
 have a5:=z.bo;have a3:=z.bk;have a6:=Qbt.ne z.at_.map a5;have b3:=Qbt.ne z.at_.map a3;have ha:Agree (OvF H wc O { d with mb:=some b }) wc w7:=λi hi=>U.block i hi.1 hi.2.1
 have hm:∀i,OvF H wc O { d with mb:=some b } i->OvF H w7 O ⟨d.T,some b,s5,d.us++[⟨k,Qa5 d.C k⟩],d.Hs++[Qc6 d.C k sv],Qc6 d.C k sv⟩ i:=λi hi=>
  ⟨Nat.lt_of_lt_of_le hi.1 U.size,λe=>by
    rcases e with e|e|e
    .exact hi.2.1 (.inl e)
    .exact hi.2.1 (.inr (.inl e))
    rcases D i e with h|h
    .exact hi.2.1 (.inr (.inr h))
    have:=hi.1;omega,hi.2.2⟩
 obtain⟨Ps,a1⟩:=QqO z.at_.hist z.at_.last;have a1:d.Hs=Ps++[d.C]:=a1;have a2:Chain d.us d.Hs:=z.at_.hist;have c3:d.Hs[d.us.length]? = some d.C:=z.at_.last;have c7:=a2.len;have a0:Qav d.C:=z.at_.sorted;refine⟨⟨?_,h7,⟨xs++[Qkg bw bd w.heap.size (w.heap.size+1)],by simp[hl],?_,?_⟩,?_,?_,?_,?_,?_,QbG a0 _ _,(z.at_.tree.agree ha).mono hm,z.at_.ok,⟨?_,b4,?_⟩,?_,λ_=>⟨b,rfl⟩⟩,?_,?_⟩
 ·have h8:Blk (w5.setCell ⟨O,2,none⟩ (.slice s5.a (d.us.length+1) s5.c)) O 80 #[Qay d.T,.map (some b),.slice s5.a (d.us.length+1) s5.c]:=(h5.blk ((z.at_.blk.ext X).ext hx) b5).Qdz 2 _
  have h9:=J.blk h8 (λe=>b0 e.symm);show Blk w7 O _ #[_,_,.slice s5.a (d.us++[(⟨k,Qa5 d.C k⟩:UD)]).length s5.c];rw[ak,cF];exact h9
 ·show w7.ownsRow 0 _ 1 (.slice s5.a (d.us++[(⟨k,Qa5 d.C k⟩:UD)]).length s5.c) (d.us++[(⟨k,Qa5 d.C k⟩:UD)]).length _
  rw[ak,cF];exact Qae (Qae Y h6.agree λi hi=>⟨(Qaa Y hi).2,λe=>b4 (by rw[<-e];exact hi)⟩) J.agree λi hi=>⟨by rw[eA];exact(Qaa Y hi).2,λe=>b6 (by rw[<-e];exact hi)⟩
 ·intro i u v hu hv
  rcases dL i d.us.length with hi|hi
  ·have hu:(d.us++[(⟨k,Qa5 d.C k⟩:UD)])[i]? = some u:=hu
   rw[bp hi]at hu;rw[bp (by omega)]at hv;exact((c2 i u v hu hv).agree ha).mono hm
  have hu:(d.us++[(⟨k,Qa5 d.C k⟩:UD)])[i]? = some u:=hu;rw[aU hi]at hu;rw[aU (by omega)]at hv;have h0:i-d.us.length=0:=by have:=(ah.1 hu).1;simpa using this
  rw[h0]at hu;rw[show i-xs.length=0 by omega]at hv;have hu:(⟨k,Qa5 d.C k⟩:UD)=u:=by simpa using hu
  have hv:Qkg bw bd w.heap.size (w.heap.size+1)=v:=by simpa using hv
  subst hu hv;refine⟨bw,bd,w.heap.size,w.heap.size+1,Qir d.C k,rfl,⟨N _ (.inl a9.1) a9.2 (by omega),N _ (.inl a4.1) a4.2 (by omega),N _ (.inr (.inl rfl)) (by omega) a6,N _ (.inr (.inr rfl)) (by omega) b3⟩,?_,?_,?_,?_,?_⟩
  .exact I c0 (by omega) (by omega) λe=>by have:=Z _ e;omega
  .exact I c1 (by omega) (by omega) λe=>by have:=Z _ e;omega
  ·intro x hx
   have hx:Qa5 d.C k=some x:=hx;unfold Qir;rw[hx];rfl
  .exact I (a5.ext X) (by omega) a6 λe=>by have:=Z _ e;omega
  exact I (a3.ext X) (by omega) b3 λe=>by have:=Z _ e;omega
 ·intro p hp
  rcases QiD hp with rfl|hp
  .exact ⟨hk,(z.ok.agree ha).mono hm⟩
  exact⟨(z.at_.vals p hp).1,((z.at_.vals p hp).2.agree ha).mono hm⟩
 ·intro u hu
  rcases aB.1 hu with hu|hu
  .exact ⟨(z.at_.olds u hu).1,λo ho=>(((z.at_.olds u hu).2 o ho).agree ha).mono hm⟩
  rw[bn.1 hu];exact⟨hk,λo ho=>((((z.at_.vals (k,o) (QeX ho)).2).agree ha).mono hm)⟩
 ·show Chain (d.us++[(⟨k,Qa5 d.C k⟩:UD)]) (d.Hs++[Qc6 d.C k sv])
  rw[a1]at a2 ⊢;exact a2.snoc a0 k sv
 ·have h0:d.Hs[0]? = some []:=z.at_.h0
  show(d.Hs++[Qc6 d.C k sv])[0]? = _;rw[bp (by omega)];exact h0
 ·show (d.Hs++[Qc6 d.C k sv])[(d.us++[(⟨k,Qa5 d.C k⟩:UD)]).length]? = some (Qc6 d.C k sv)
  rw[ak,cF,aU (by omega),show d.us.length+1-d.Hs.length=0 by omega];rfl
 ·intro e
  have e:some b=some O:=e;injection e with e;exact b0 e
 ·intro i hi
  have hi:some b=some i:=hi;injection hi with hi;subst hi;exact b6
 ·rintro i (hi | hi | hi) hh
  .exact z.at_.out i (.inl hi) hh
  .exact z.at_.out i (.inr (.inl hi)) hh
  rcases D i hi with h|h
  .exact z.at_.out i (.inr (.inr h)) hh
  have:=hH i hh;omega
 ·refine z.sb.comp U fun i hi h=>?_
  rcases h with h|h|h
  .exact .inl h
  ·have h:some b=some i:=h
   injection h with h;subst h;rcases z.mb with h|h
   .exact .inr (.inl h)
   omega
  exact .inr (.inr h)
 rintro i (hi|hi|hi)
 .exact .inl (.inl hi)
 ·have hi:some b=some i:=hi
  injection hi with hi;subst hi;rcases z.mb with h|h
  .exact .inl (.inr (.inl h))
  exact .inr h
 rcases D i hi with h|h
 .exact .inl (.inr (.inr h))
 right;omega
end
abbrev od0(T:RT):OD:=⟨T,none,Sl.none,[],[[]],[]⟩
theorem QcW.fresh(z:Blk w O 80 #[Qay T,.map none,.slice none 0 0])(D:IsT w F T)(ok:OkR T)(hF:∀b,F b->b<w/\¬H b/\b≠O)(I:¬H O):QcW H w O (od0 T):=
 ⟨z,rfl,⟨[],rfl,eI _ _ _ _,λi u v hu=>by simp at hu⟩,λp J=>(by cases J),λu hu=>(by cases hu),Chain.nil [],rfl,rfl,List.Pairwise.nil,
   D.mono λb z=>⟨(hF b z).1,⟨λh=>by
    rcases h with h|h|h
    .exact (hF b z).2.2 h
    .cases h
    (cases h),(hF b z).2.1⟩⟩,ok,⟨by simp,by simp[Sl.row],λb z=>(by cases z)⟩,λb z=>by
   rcases z with rfl|h|h
   .exact I
   .cases h
   (cases h),λh=>absurd rfl h⟩
theorem Qqz(U:IsT w F T)(ok:OkR T)(hF:∀b,F b->b<w/\¬H b)(X:∀b,H b->b<w) :
  Calls prog 12 #[Qau T] w λe w'=>∃O,e=.returned (.pointer (some ⟨O,0,none⟩))/\w.heap.size<=O/\QcW H w' O (od0 T)/\Ext w w':=by
 obtain⟨p,R⟩:=Qaq T;rw[Qau,R];have HT:=hY U;have I:=hY hF;have Y:=hY X;have HP:=hY R;clear U hF X R;go_in;go_wp2_with fail;generalize N:World.alloc _ _=W0;obtain⟨z,Z,-,J⟩:=Qap w _ _ _ _ W0 N;refine eD (v:=.pointer (some ⟨w+1,0,none⟩)) (by simp[results,results12,go_sem]) rfl ?_;refine⟨w+1,rfl,cH _,QcW.fresh (by rw[HP.o];exact J) (HT.o.agree (z.agree λb D=>(I.o b D).1)) ok (λb D=>⟨by have:=(I.o b D).1;omega,(I.o b D).2,by have:=(I.o b D).1;omega⟩) (λh=>by have:=Y.o _ h;omega),z⟩
variable{d:OD}
theorem QdN(h:QcW H w O d):Calls prog 19 #[.pointer (some ⟨O,0,none⟩)] w λe w'=>e=.returned (.int .i64 (d.us.length:Int))/\Ext w w':=by
 have z:w.cell? ⟨O,2,none⟩=some (.slice d.s.a d.us.length d.s.c):=h.blk.cell 2;clear h;go_in;go_wp2_with fail;go_ret;exact⟨rfl,fv w⟩
abbrev OD.now(d:OD)(k:ByteArray):Option Val:=Qkq (Qab d.T) (Qht d.C) k
theorem QlX{k:ByteArray}(h:Qa5 d.C k=none):d.now k=Qam (Qab d.T) k:=by
 unfold OD.now Qkq;rw[Qd7,h];rfl
theorem QlY{k:ByteArray}{s:SV}(h:Qa5 d.C k=some s):d.now k=s.opt:=by
 unfold OD.now Qkq;rw[Qd7,h];rfl
theorem QsN{s:SV}(h:Qkv w F s):s.opt.getD zeroV=s.v/\s.opt.isSome=s.has:=by
 unfold SV.opt;cases z:s.has with
 |true=>simp
 |false=>simp[h.2 z]
theorem QrW(h:QcW H w O d)(hl:(Qab d.T).length<=1000000){k:ByteArray}(hk:k.size<=maxLen) :
  Calls prog 44 #[.pointer (some ⟨O,0,none⟩),.string k] w (QbO (d.now k) w):=by
 have lO:=h.blk.lt;have c1:w.cell? ⟨O,1,none⟩=some (.map d.mb):=h.blk.cell 1;have c0:w.cell? ⟨O,0,none⟩=some (Qay d.T):=h.blk.cell 0;have Y:∀cs t,(Instr.lookup 77 (.map d.mb) (.string k) true).run prog (w.alloc (.cells cs t))=.ok (.tuple #[(Qir d.C k).val,.bool (Qa5 d.C k).isSome]) (w.alloc (.cells cs t)):=λcs t=>
  QkV (h.map.heap λb z=>eJ _ _ _ (h.map.lt z)) hk
 cases hg:Qa5 d.C k with
 | none=>
   rw[QlX hg];simp only[hg,Qir,Option.getD_none,Option.isSome_none]at Y;have hF:∀b,OvF H w O d b->b<w.heap.size:=λb z=>z.1
   have a1:=λW (hW:Ext w W)=>Qhj (w:=W) (λb z=>ab (hF b z) hW.size) (h.tree.agree (hW.agree hF)) h.ok hl k
   generalize Qam (Qab d.T) k=D at *;obtain⟨p,hp⟩:=Qaq d.T;rw[hp]at c0;simp only[Qau,hp]at a1;have a9:=hY a1;clear a1 h hF hg hp;go_in;go_wp2_with fail;generalize U:World.alloc _ _=W0;obtain⟨I,R,J,X⟩:=Qap w _ _ _ _ W0 U;have Z:=hY I;have a2:=hY J;have HZ:=hY R;clear U J X R Y;refine(a9.o W0 I).mono ?_;rintro e w1 ⟨sl,so,rfl,a4,a0⟩;have z:=a2.o.ext a4;obtain⟨q0,q1,q2,q3,q4,q5⟩:=z.c6;have f2:=z.frozen;have lb:=z.lt;have b7:=hY a4;have b6:=hY a0;clear z a4 a0 I a9;go_wp2_with fail;refine eD (v:=.tuple #[Qbg (D.getD zeroV) sl so,.bool D.isSome]) (by simp[results,results44,go_sem,q0,q1,q2,q3,q4,q5]) rfl ?_;exact QeA (Z.o.trans b7.o) (b:=w.heap.size) (lo:=W0.heap.size) (by omega) (by rw[HZ.o];omega) b6.o
 | some s=>
   rw[QlY hg];have hs:=(h.vals (k,s) (QeX hg)).2;have hv:s.opt.getD zeroV=s.v/\s.opt.isSome=s.has:=QsN hs;simp only[hg,Qir,Option.getD_some,Option.isSome_some]at Y;have a6:=λW (hW:Ext w W)=>Qga _ s.v (an _) W s.sl s.so ((hs.1.agree (hW.agree λb z=>z.1)).mono λb z=>ab z.1 hW.size)
   obtain⟨D,b0⟩:∃D,s.opt=D:=⟨_,rfl⟩;rw[b0]at hv ⊢;obtain⟨b8,v,sl,so⟩:=s;obtain⟨rfl,rfl⟩:=hv;have b5:=hY a6;clear a6 h hg hs b0;go_in;go_wp2_with fail;generalize U:World.alloc _ _=W0;obtain⟨I,R,J,X⟩:=Qap w _ _ _ _ W0 U;have N:=hY (show ∀W,St (λb=>b=w.heap.size) W0 W->W.cell? ⟨w.heap.size+1,0,none⟩=some (.bool D.isSome)/\W.cell? ⟨w.heap.size+1,1,none⟩=some (.int .i64 (D.getD zeroV).kind)/\W.cell? ⟨w.heap.size+1,2,none⟩=some (.bool (D.getD zeroV).b)/\W.cell? ⟨w.heap.size+1,3,none⟩=some (.int .i64 (D.getD zeroV).i)/\W.cell? ⟨w.heap.size+1,4,none⟩=some (.string (D.getD zeroV).t)/\W.cell? ⟨w.heap.size+1,5,none⟩=some (.slice sl.a (D.getD zeroV).l.length sl.c)/\W.cell? ⟨w.heap.size+1,6,none⟩=some (.slice so.a (D.getD zeroV).ok.length so.c)from
    λW hW=>by
     have z:=hW.blk X (by omega);exact⟨z.cell 0,z.cell 1,z.cell 2,z.cell 3,z.cell 4,z.cell 5,z.cell 6⟩)
   have Z:=hY I;have a2:=hY J;have HZ:=hY R;have l0:=J.lt;clear U I J X R Y;refine ez (S:=(λw'=>St (λb=>b=w.heap.size) W0 w')) (by kernel_rfl) (((St.refl _ W0).drew)) (λhHeld=>?_);refine Qad 0 (some 21) N hHeld ?_;refine Qad 1 (some 22) N hHeld ?_;refine Qad 3 (some 24) N hHeld ?_;refine Qad 4 (some 25) N hHeld ?_;refine Qag (i:=2) (by kernel_rfl) rfl (by rfl) (λK hK=>?_);go_simp
   (refine(b5.o _ (Z.o.drew)).mono ?_;rintro e w2 ⟨b4,b3,rfl,a3,a0⟩;have a5:=(a2.o.ext ((fv W0).drew)).ext a3;obtain⟨q0,q1,q2,q3,q4,q5⟩:=a5.c6;have f2:=a5.frozen;have lb:=a5.lt)
   refine hK.out _ _ (hHeld.ext a3) (λhHeld=>?_);clear hK K
   try simp only[Act.put,List.setIfInBounds_toArray,List.set_cons_zero,List.set_cons_succ]
   refine Qag (i:=5) (by kernel_rfl) rfl (by rfl) (λK hK=>?_);go_simp
   skip
   refine hK.out _ _ (hHeld.QdP (.inr rfl) 0 _ _ _) (λhHeld=>?_);clear hK K
   try simp only[Act.put,List.setIfInBounds_toArray,List.set_cons_zero,List.set_cons_succ]
   refine Qad 6 (some 5) N hHeld ?_;refine eE (by kernel_rfl) ?_ _;go_wp2_with fail;refine eD (v:=.tuple #[Qbg (D.getD zeroV) b4 b3,.bool D.isSome]) (by simp[results,results44,go_sem,q0,q1,q2,q3,q4,q5]) rfl ?_;exact QeA ((Z.o.drew).trans a3) (b:=w.heap.size) (lo:=W0.heap.size) (by omega) (by rw[HZ.o];omega) a0
def QtJ(R:Act->World->Prop):Exit->Act->World->Prop
 |.normal,a,w=>R a w
 |_,_,_=>False
theorem QiG{R:Act->World->Prop}(h:R a w):QtJ R .normal a w:=h
def Qr5(tm:Array Value):List (Nat × Value)->Array Value
 |[]=>tm
 |(i,v)::l=>Qr5 (tm.setIfInBounds i v) l
theorem Qmm{c:Code}{α:Type}(I:World->α->Prop)(J:List Nat)(z:α->List (Nat × Value))
  (h1:c.wp P (QtJ λD w'=>∃x,I w' x/\D.defers=a.defers/\D.tmps=Qr5 a.tmps ((J.map λd=>(d,D.tmps.getD d undef))++z x)) a w)
  (h2:∀(w':World) (x:α) (N:Nat->Value),I w' x->Q .normal { tmps:=Qr5 a.tmps ((J.map λd=>(d,N d))++z x),defers:=a.defers } w'):c.wp P Q a w:=
 wp_mono h1 λe D w' h=>by
  cases e with
  | normal=>
    obtain⟨x,R,hd,U⟩:=h;have:=h2 w' x (λd=>D.tmps.getD d undef) R;rw[<-U,<-hd]at this;exact this
  |_=>exact h.elim
theorem Qmi(w:World)(I z:TypeId)(J D:Array Value):∀W,((w.alloc (.cells J I)).alloc (.cells D z)).drew=W->
  Ext w W/\W.heap.size=w.heap.size+2/\Blk W w.heap.size I J/\Blk W (w.heap.size+1) z D:=by
 rintro W rfl;obtain⟨N,U,R,h1⟩:=Qap w I z J D _ rfl;exact⟨N.drew,U,R,h1⟩
theorem Qp3{t N z D:TypeId}{cs J I R:Array Value}(hb:Blk w O t cs):∀W,((((w.setCell ⟨O,1,none⟩ (.map (some (w.heap.size+1+1+1)))).alloc (.cells J N)).alloc (.cells I z)).alloc (.cells R D)).alloc (.map #[] 0)=W->
  Sb (λc=>c=O) w W/\w.heap.size+3<=W.heap.size/\Blk W O t (cs.setIfInBounds 1 (.map (some (w.heap.size+1+1+1))))/\Blk W w.heap.size N J/\Blk W (w.heap.size+1) z I/\Blk W (w.heap.size+1+1) D R/\W.ownsMap prog 9 QeZ (w.heap.size+1+1+1) 0 (mapA SV.val []):=by
 rintro W rfl;have hz:(w.setCell ⟨O,1,none⟩ (.map (some (w.heap.size+1+1+1)))).heap.size=w.heap.size:=eA _ _ _;have X:Sb (λc=>c=O) w (w.setCell ⟨O,1,none⟩ (.map (some (w.heap.size+1+1+1)))):=(fD (λc=>c=O) w).set (p:=⟨O,1,none⟩) (.inr rfl) _;have Y:=hb.Qdz 1 (.map (some (w.heap.size+1+1+1)));generalize w.setCell ⟨O,1,none⟩ (.map (some (w.heap.size+1+1+1)))=W0 at *;obtain⟨hx,U,h0,h1,h2⟩:=Qas W0 N z D J I R _ rfl;rw[hz]at h0 h1 h2 U;generalize ((W0.alloc (.cells J N)).alloc (.cells I z)).alloc (.cells R D)=Z at *;have hm:=World.ownsMap_made Z prog 9 QeZ;rw[show Z.heap.size=w.heap.size+1+1+1 by omega]at hm;exact⟨(X.trans (hx.sb _)).trans (Sb.made (World.grownBy_alloc _ _ _)),by simp;omega,(Y.ext hx).alloc _,h0.alloc _,h1.alloc _,h2.alloc _,hm⟩
variable{sv:SV}
theorem Qmf(h:QcW H w O d)(hH:∀b,H b->b<w.heap.size)(hn:d.us.length<=1000000){k:ByteArray}(hk:k.size<=maxLen)(g6:Qkv w (OvF H w O d) sv) :
  Calls prog 41 #[.pointer (some ⟨O,0,none⟩),.string k,sv.val] w (Qqw H O d k sv w):=by
 obtain⟨i0,hi,c8,i8,j7⟩:=eG Tryz.Qtq;have k6:=@run_makeMap prog;have k5:∀(w:World) (r:Option Nat),(binOp .eql 77 (.map r) (.map none)).run prog w=.ok (.bool r.isNone) w:=λw r=>run_eql_map_nil w _ _ _ r underlying77
 have c1:w.cell? ⟨O,1,none⟩=some (.map d.mb):=h.blk.cell 1;have f1:=h.blk.frozen 1;have lO:=h.blk.lt;have g4:∀i,d.s.row=some i->i<w.heap.size:=λi hi=>h.Qj4 hi
 have a9:=hY h;have f9:=hY hH;have g8:=hY g6;have a5:=hY g4;clear h hH g6 g4;obtain⟨b4,v,sl,so⟩:=sv;show Calls _ _ #[_,_,.agg #[.bool b4,.int .i64 v.kind,.bool v.b,.int .i64 v.i,.string v.t,.slice sl.a v.l.length sl.c,.slice so.a v.ok.length so.c]] _ _;have l1:O<w.heap.size+1:=by omega
 have l2:O<w.heap.size+1+1:=by omega
 go_in;go_upto_if 12 with fail;go_cut [] (λwc=>∃b,Qn1 H w O d k ⟨b4,v,sl,so⟩ b wc)
 case first=>
  obtain⟨mb,e8⟩:∃mb,d.mb=mb:=⟨_,rfl⟩;rw[e8]at c1 ⊢;have d4:=hY e8;clear e8;rcases mb with _|b
  ·go_wp2_with fail
   generalize a4:World.alloc _ _=W0;obtain⟨b3,c8,i6,d5,a0,a1,Y⟩:=Qp3 a9.o.blk W0 a4;clear a4;go_meet;have e3:=a9.o.made d4.o (b:=w.heap.size+1+1+1) (by omega) f9.o b3 i6 Y;refine⟨_,e3,b3.mono λi _ h=>.inl h,.inr (by omega),c8,d5,a0,a1,?_⟩;refine(g8.o.agree (λi hi=>b3.block i hi.1 λe=>hi.2.1 (.inl e))).mono λi hi=>⟨Nat.lt_of_lt_of_le hi.1 b3.size,λe=>?_,hi.2.2⟩
   rcases e with e|e|e
   .exact hi.2.1 (.inl e)
   ·have e:some (w.heap.size+1+1+1)=some i:=e
    injection e with e;have:=hi.1;omega
   exact hi.2.1 (.inr (.inr e))
  go_wp2_with fail;generalize a4:World.alloc _ _=W0;obtain⟨b7,j8,d5,a0,a1⟩:=Qas w _ _ _ _ _ _ W0 a4;clear a4;go_meet;have e3:=a9.o.ext b7;have hd:d={ d with mb:=some b }:=by rw[<-d4.o]
  refine⟨b,by rw[<-hd];exact e3,b7.sb _,.inl d4.o,by omega,d5,a0,a1,?_⟩;rw[<-hd];exact(g8.o.agree (b7.agree λb hb=>hb.1)).mono λi hi=>⟨Nat.lt_of_lt_of_le hi.1 b7.size,hi.2⟩
 obtain⟨b,hM⟩:=hcut;have e7:∀W,Ext wc W->(Instr.lookup 77 (.map (some b)) (.string k) true).run prog W=.ok (.tuple #[(Qir d.C k).val,.bool (Qa5 d.C k).isSome]) W:=λW N=>
  QkV (hM.at_.ext N).map hk
 obtain⟨o,ho⟩:∃o,Qir d.C k=o:=⟨_,rfl⟩;obtain⟨g,hg⟩:∃g,(Qa5 d.C k).isSome=g:=⟨_,rfl⟩;rw[ho,hg]at e7;obtain⟨oh,ov,b6,b8⟩:=o;have HO:=hY ho;have HG:=hY hg;have j3:O<wc.heap.size:=hM.at_.blk.lt;have j9:=hM.big;have J:=hY hM;have z:=hY (show ∀W,Ext wc W->W.cell? ⟨w.heap.size,0,none⟩=some (.pointer (some ⟨O,0,none⟩))/\W.cell? ⟨O,1,none⟩=some (.map (some b))/\W.cell? ⟨w.heap.size+1,0,none⟩=some (.string k)/\
   (Instr.lookup 77 (.map (some b)) (.string k) true).run prog W=.ok (.tuple #[.agg #[.bool oh,.int .i64 ov.kind,.bool ov.b,.int .i64 ov.i,.string ov.t,.slice b6.a ov.l.length b6.c,.slice b8.a ov.ok.length b8.c],.bool g]) W from
  λW N=>⟨(hM.bo.ext N).cell 0,((hM.at_.ext N).blk).cell 1,(hM.bk.ext N).cell 0,e7 W N⟩)
 clear hM e7 ho hg c1 f1 l1 l2;go_wp2_with fail;refine Qmm (α:=Nat × Nat) (λw' x=>Ext wc w'/\(wc.heap.size<=x.1/\x.1<w'.heap.size)/\(wc.heap.size<=x.2/\x.2<w'.heap.size)/\Blk w' x.1 87 #[.bool oh,.int .i64 ov.kind,.bool ov.b,.int .i64 ov.i,.string ov.t,.slice b6.a ov.l.length b6.c,.slice b8.a ov.ok.length b8.c]/\Blk w' x.2 4 #[.bool g]) [17,18,19,20,21,22,23,24,25] (λx=>[(6,.pointer (some ⟨x.1,0,none⟩)),(7,.pointer (some ⟨x.2,0,none⟩))]) ?h1 ?h2
 case h1=>
  refine ez (S:=(λw'=>Ext wc w')) (by kernel_rfl) (((fv wc).drew)) (λhHeld=>?_);refine Qad 0 (some 18) z hHeld ?_;refine Qad 1 (some 19) z hHeld ?_;refine Qad 2 (some 20) z hHeld ?_;refine Qad 3 (some 21) z hHeld ?_;refine Qad 4 (some 22) z hHeld ?_;refine Qad 5 (some 23) z hHeld ?_;refine Qad 6 (some 17) z hHeld ?_;refine Qad 7 (some 24) z hHeld ?_;refine Qad 8 (some 25) z hHeld ?_;refine QlI (i:=9) (j:=10) (by kernel_rfl) rfl rfl (by rfl) (by rfl) (λK D=>?_) (λK D=>?_)
  ·go_simp
   skip
   refine D.out _ _ ((by first|exact(((fv _).drew).alloc _ _).alloc _ _|exact((fv _).drew).alloc _ _)) (λhHeld=>?_);clear D K
   try simp only[Act.put,List.setIfInBounds_toArray,List.set_cons_zero,List.set_cons_succ]
   refine Qag (i:=10) (by kernel_rfl) rfl (by rfl) (λK D=>?_);go_simp
   skip
   refine D.out _ _ ((by first|exact(((fv _).drew).alloc _ _).alloc _ _|exact((fv _).drew).alloc _ _)) (λhHeld=>?_);clear D K
   try simp only[Act.put,List.setIfInBounds_toArray,List.set_cons_zero,List.set_cons_succ]
   refine Qag (i:=11) (by kernel_rfl) rfl (by rfl) (λK D=>?_);go_simp
   skip
   refine D.out _ _ ((by first|exact(((fv _).drew).alloc _ _).alloc _ _|exact(((fv _).alloc _ _).alloc _ _).drew)) (λhHeld=>?_);clear D K
   try simp only[Act.put,List.setIfInBounds_toArray,List.set_cons_zero,List.set_cons_succ]
   refine Qag (i:=12) (by kernel_rfl) rfl (by rfl) (λK D=>?_);go_simp
   skip
   refine D.out _ _ ((by first|exact(((fv _).drew).alloc _ _).alloc _ _|exact(((fv _).alloc _ _).alloc _ _).drew)) (λhHeld=>?_);clear D K
   try simp only[Act.put,List.setIfInBounds_toArray,List.set_cons_zero,List.set_cons_succ]
   refine eE (by kernel_rfl) ?_ _;generalize e4:World.drew _=I;obtain⟨R,j0,a0,a1⟩:=Qmi wc _ _ _ _ I e4;refine QiG ⟨(wc.heap.size,wc.heap.size+1),⟨R,⟨Nat.le_refl _,by show wc.heap.size<_;omega⟩,⟨Nat.le_succ _,by show wc.heap.size+1<_;omega⟩,a0,a1⟩,by kernel_rfl,?_⟩;simp only[Qr5,List.map_cons,List.map_nil,List.cons_append,List.nil_append,List.setIfInBounds_toArray,List.set_cons_zero,List.set_cons_succ]
   kernel_rfl
  go_simp
  skip
  refine D.out _ _ ((by first|exact(((fv _).drew).alloc _ _).alloc _ _|exact((fv _).drew).alloc _ _)) (λhHeld=>?_);clear D K
  try simp only[Act.put,List.setIfInBounds_toArray,List.set_cons_zero,List.set_cons_succ]
  refine Qag (i:=9) (by kernel_rfl) rfl (by rfl) (λK D=>?_);go_simp
  skip
  refine D.out _ _ ((by first|exact(((fv _).drew).alloc _ _).alloc _ _|exact((fv _).drew).alloc _ _)) (λhHeld=>?_);clear D K
  try simp only[Act.put,List.setIfInBounds_toArray,List.set_cons_zero,List.set_cons_succ]
  refine Qag (i:=11) (by kernel_rfl) rfl (by rfl) (λK D=>?_);go_simp
  skip
  refine D.out _ _ ((by first|exact(((fv _).drew).alloc _ _).alloc _ _|exact(((fv _).alloc _ _).alloc _ _).drew)) (λhHeld=>?_);clear D K
  try simp only[Act.put,List.setIfInBounds_toArray,List.set_cons_zero,List.set_cons_succ]
  refine Qag (i:=12) (by kernel_rfl) rfl (by rfl) (λK D=>?_);go_simp
  skip
  refine D.out _ _ ((by first|exact(((fv _).drew).alloc _ _).alloc _ _|exact(((fv _).alloc _ _).alloc _ _).drew)) (λhHeld=>?_);clear D K
  try simp only[Act.put,List.setIfInBounds_toArray,List.set_cons_zero,List.set_cons_succ]
  refine eE (by kernel_rfl) ?_ _;generalize e4:World.drew _=I;obtain⟨R,j0,a0,a1⟩:=Qmi wc _ _ _ _ I e4;refine QiG ⟨(wc.heap.size+1,wc.heap.size),⟨R,⟨Nat.le_succ _,by show wc.heap.size+1<_;omega⟩,⟨Nat.le_refl _,by show wc.heap.size<_;omega⟩,a1,a0⟩,by kernel_rfl,?_⟩;simp only[Qr5,List.map_cons,List.map_nil,List.cons_append,List.nil_append,List.setIfInBounds_toArray,List.set_cons_zero,List.set_cons_succ]
  kernel_rfl
 rintro I ⟨bd,bw⟩ uu ⟨R,c7,d7,e6,d6⟩;simp only[Qr5,List.map_cons,List.map_nil,List.cons_append,List.nil_append,List.setIfInBounds_toArray,List.set_cons_zero,List.set_cons_succ];dsimp only at c7 d7 e6 d6;have b5:=J.o.at_.blk.ext R;have c2:I.cell? ⟨O,2,none⟩=some (.slice d.s.a d.us.length d.s.c):=b5.cell 2;have f2:=b5.frozen 2;have f0:=b5.lt;have f4:=J.o.bo.ext R;have c3:I.cell? ⟨w.heap.size,0,none⟩=some (.pointer (some ⟨O,0,none⟩)):=f4.cell 0;have l3:=f4.lt;obtain⟨xs,hl,Y,g5⟩:=J.o.at_.row;have HL:=hY (show xs.length=d.us.length from hl);have j6:=hY g5;have j2:=hY (show ∀W,Ext I W->W.ownsRow 0 1 1 (.slice d.s.a d.us.length d.s.c) d.us.length xs fromλW N=>Qae Y ((R.trans N).agree λb (hb:b<wc.heap.size)=>hb) λb hb=>(Qaa Y hb).2);have g0:d.s.row≠some O:=J.o.at_.ne.2.1;have i9:d.s.row≠some w.heap.size:=λe=>by have:=a5.o _ e;omega
 have c6:∀u∈[Qkg bw bd w.heap.size (w.heap.size+1)],u.oneCell'=true:=by simp[Value.oneCell']
 have f8:d.us.length+1<=maxLen:=by unfold maxLen;omega
 have g9:(d.us.length+1)*8<=140737488355328:=by omega
 have i1:=hY R;have i3:=hY e6;have j5:=hY d6;have i5:=hY d7;have j4:=hY c7;clear e6 d6 d7 c7 b5 f4 hl g5 Y R z;go_wp2_with fail;refine Qmm (α:=Sl × World × World) (λw' x=>Ext I x.2.1/\x.2.2.ownsRow 0 1 1 (.slice x.1.a (d.us.length+1) x.1.c) (d.us.length+1) (xs++[Qkg bw bd w.heap.size (w.heap.size+1)])/\Wr x.2.1 x.2.2 d.s.row/\(x.1.a=d.s.a\/x.1.a=some ⟨x.2.1.heap.size,0,none⟩/\Wr x.2.1 x.2.2 none)/\w'=x.2.2.setCell ⟨O,2,none⟩ (.slice x.1.a (d.us.length+1) x.1.c)) [26,27,28,29,30,31,32,33,34,35] (λ_=>[]) ?g1 ?g2
 case g1=>
  go_region_law (refine Qdp _ rfl (.tmp 30) (.tmp 32) 78 rfl 0 1 i0 _ 1 8 underlying78 hi c8 i8 j7 rfl (by decide) d.s d.us.length xs (by rfl) (j2.o _ (by first|exact((fv I).drew).alloc _ _|exact((fv I).alloc _ _).drew)) (λb=>b=I.heap.size) ⟨some ⟨I.heap.size,0,none⟩,1⟩ 1 [Qkg bw bd w.heap.size (w.heap.size+1)] (by rfl) (fH (fA _ _ _) (by decide) rfl) c6 f8 g9 (aw _) ?_;intro s5 w5 a6 Z a3;have d3:=Z.cell0 (w:=I) (o:=2) (by first|exact((fv I).drew).alloc _ _|exact((fv I).alloc _ _).drew) g0 f0;have k4:=d3.1.trans c2;have k7:=d3.2;have f6:=Z.cell0 (w:=I) (o:=0) (by first|exact((fv I).drew).alloc _ _|exact((fv I).alloc _ _).drew) i9 l3;have k3:=f6.1.trans c3;have f5:w5.frozen? ⟨O,2,none⟩=false:=(Z.fz _ _).trans (((by first|exact((fv I).drew).alloc _ _|exact((fv I).alloc _ _).drew:Ext I _).frozen (o:=2) f0).trans f2);have f3:=hY a6;have d0:=hY Z;have c9:=hY a3;clear a6 Z a3 d3 f6)
  all_goals
   refine QiG ⟨(s5,_,w5),⟨by first|exact((fv I).drew).alloc _ _|exact((fv I).alloc _ _).drew,f3.o,d0.o,c9.o,rfl⟩,by kernel_rfl,?_⟩;simp only[Qr5,List.map_cons,List.map_nil,List.append_nil,List.cons_append,List.nil_append,List.setIfInBounds_toArray,List.set_cons_zero,List.set_cons_succ]
   kernel_rfl
 rintro w6 ⟨s5,W5,w5⟩ vv ⟨c0,e1,U,a3,rfl⟩;simp only[Qr5,List.map_cons,List.map_nil,List.append_nil,List.cons_append,List.nil_append,List.setIfInBounds_toArray,List.set_cons_zero,List.set_cons_succ];dsimp only at c0 e1 U a3;have b0:Ext wc W5:=i1.o.trans c0;have X:Sb (λc=>c=O\/d.s.row=some c) wc (w5.setCell ⟨O,2,none⟩ (.slice s5.a (d.us.length+1) s5.c)):=
  ((b0.sb _).trans ⟨U.grown.os,U.grown.tape,U.grown.output,U.grown.size,λi hi hn=>U.grown.block i hi λe=>hn (.inr e.symm)⟩).trans ((fD _ w5).set (p:=⟨O,2,none⟩) (.inr (.inl rfl)) _)
 have c4:Blk w5 O 80 #[Qay d.T,.map (some b),.slice d.s.a d.us.length d.s.c]:=(U.agree (F:=λc=>c=O) (λi hi=>by rw[hi];exact ab j3 b0.size) (λi hi e=>g0 (by rw[hi,e])) O rfl).trans (J.o.at_.blk.ext b0);have e0:=c4.Qdz 2 (.slice s5.a (d.us.length+1) s5.c);have f7:¬O=b:=λe=>J.o.at_.ne.1 (by rw[e])
 have n0:=Qbt.ne J.o.at_.map J.o.bo;have n1:=Qbt.ne J.o.at_.map J.o.bk;have n2:=Qbt.ne J.o.at_.map J.o.bs;have k0:=X.blk J.o.bo (λe=>by
  rcases e with e|e
  .omega
  have:=a5.o _ e;omega)
 have k1:=X.blk J.o.bk (λe=>by
  rcases e with e|e
  .omega
  have:=a5.o _ e;omega)
 have k2:=X.blk J.o.bs (λe=>by
  rcases e with e|e
  .omega
  have:=a5.o _ e;omega)
 have a2:Qbt (w5.setCell ⟨O,2,none⟩ (.slice s5.a (d.us.length+1) s5.c)) (some b) d.C:=J.o.at_.map.heap λi hi=>by
  injection hi with hi;subst hi;exact X.block b (J.o.at_.map.lt rfl) λe=>by
   rcases e with e|e
   .exact f7 e.symm
   exact J.o.at_.ne.2.2 b rfl e
 have j1:=hY c0;have f3:=hY e1;have d0:=hY U;have c9:=hY a3;obtain⟨W6,d8⟩:∃W6,w5.setCell ⟨O,2,none⟩ (.slice s5.a (d.us.length+1) s5.c)=W6:=⟨_,rfl⟩;rw[d8]at e0 k0 k1 k2 a2 ⊢;have i7:=hY d8;have i2:=hY a2;have z:=hY (show ∀W,Sb (λc=>c=b) W6 W->W.cell? ⟨w.heap.size,0,none⟩=some (.pointer (some ⟨O,0,none⟩))/\W.cell? ⟨O,1,none⟩=some (.map (some b))/\W.cell? ⟨w.heap.size+1,0,none⟩=some (.string k)/\W.cell? ⟨w.heap.size+1+1,0,none⟩=some (.bool b4)/\W.cell? ⟨w.heap.size+1+1,1,none⟩=some (.int .i64 v.kind)/\W.cell? ⟨w.heap.size+1+1,2,none⟩=some (.bool v.b)/\W.cell? ⟨w.heap.size+1+1,3,none⟩=some (.int .i64 v.i)/\W.cell? ⟨w.heap.size+1+1,4,none⟩=some (.string v.t)/\W.cell? ⟨w.heap.size+1+1,5,none⟩=some (.slice sl.a v.l.length sl.c)/\W.cell? ⟨w.heap.size+1+1,6,none⟩=some (.slice so.a v.ok.length so.c)from
  λW N=>⟨(N.blk k0 n0).cell 0,(N.blk e0 f7).cell 1,(N.blk k1 n1).cell 0,(N.blk k2 n2).cell 0,(N.blk k2 n2).cell 1,(N.blk k2 n2).cell 2,(N.blk k2 n2).cell 3,(N.blk k2 n2).cell 4,(N.blk k2 n2).cell 5,(N.blk k2 n2).cell 6⟩)
 have i4:d.C.length<maxLen:=by have:=a9.o.few;unfold maxLen;omega
 clear b0 X c4 e0 n0 n1 n2 k0 k1 k2 a2 c0 e1 U a3 d8 c2 f2 f0 c3 l3 c6 f8 g9;go_wp2_with fail;refine ez (S:=(λw'=>Sb (λc=>c=b) W6 w')) (by kernel_rfl) (((fD _ W6).drew)) (λhHeld=>?_);refine Qad 0 (some 36) z hHeld ?_;refine Qad 1 (some 37) z hHeld ?_;refine Qad 2 (some 38) z hHeld ?_;refine Qad 3 (some 39) z hHeld ?_;refine Qad 4 (some 40) z hHeld ?_;refine Qad 5 (some 41) z hHeld ?_;refine Qag (i:=6) (by kernel_rfl) rfl (by rfl) (λK D=>?_)
 skip
 (refine QjO (b:=b) (C:=d.C) (k:=k) (s:=⟨b4,v,sl,so⟩) rfl rfl rfl rfl (i2.o.heap λ_ _=>rfl) hk i4 a9.o.sorted ?_;intro w7 e2 g7)
 refine D.out _ _ (hHeld.trans g7) (λhHeld=>?_);clear D K
 try simp only[Act.put,List.setIfInBounds_toArray,List.set_cons_zero,List.set_cons_succ]
 refine eE (by kernel_rfl) ?_ _;have h7:Sb (λc=>c=b) (w5.setCell ⟨O,2,none⟩ (.slice s5.a (d.us.length+1) s5.c)) w7:=by rw[i7.o];exact hHeld
 have g3:=step_end J.o lO a5.o f9.o hk i1.o i5.o j4.o (by rw[HO.o];exact i3.o) (by rw[HG.o];exact j5.o) j1.o HL.o j6.o f3.o d0.o c9.o e2 h7;go_end0;exact⟨⟨_,rfl⟩,_,_,g3⟩
end Go.Proofs.YtkjkafgnnoidpaaGreatDoor
