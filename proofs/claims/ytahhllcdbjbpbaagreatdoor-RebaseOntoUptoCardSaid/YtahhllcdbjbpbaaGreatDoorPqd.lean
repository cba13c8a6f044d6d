/- Steps to the theorem. -/
import Derived.Deep.CutBlock
import Derived.Test.YtahhllcdbjbpbaaGreatDoorPqc
set_option linter.all false
set_option maxRecDepth 100000
set_option maxHeartbeats 4000000
namespace Go.Proofs.YtahhllcdbjbpbaaGreatDoor
open Go.Proofs.Tryz
open Go.RowKit
abbrev C5(sl sr:Sl):Nat->Prop:=λb=>sl.row=some b\/sr.row=some b
def FY(P:Nat->AB->Prop)(W:AB)(e:AC)(W':AB):Prop:=∃a,e=.returned (.pointer (some ⟨a,0,none⟩))/\W.heap.size<=a/\P a W'/\Ext W W'
variable{w W:AB}{s:Sl}{G:Nat->Prop}
def N8{base n:Nat}{xs:List Value}(h:w.ownsRow base 65 7 (.slice s.a n s.c) n xs)(hs:St G w W)(N:∀b,s.row=some b->¬G b):W.ownsRow base 65 7 (.slice s.a n s.c) n xs:=
 AZ h hs.agree λb I=>⟨(AM h I).2,N b I⟩
variable{F:Nat->Prop}{cs:List Value}
def iQ{n m:Nat}(h:Rd w F 7 s n cs)(I:m<=n):Rd w F 7 s m (cs.take (m*7)):=h.take I
variable{n:Nat}
def Xd{ls:List Value}(hl:ls.length=n*7)(hn:0<n)(hp:True):∃v0 v1 I v3 v4 N Z:Value,ls.drop ((n-1)*7)=[v0,v1,I,v3,v4,N,Z]:=by
 have h:(ls.drop ((n-1)*7)).length=7:=by rw[az,hl];omega
 match hd:ls.drop ((n-1)*7),h with
 |[v0,v1,I,v3,v4,N,Z],_=>exact⟨v0,v1,I,v3,v4,N,Z,rfl⟩
section
variable{w : AB}{base m nr : Nat}{sl sr : Sl}{ls rs : List Value}{P1 P2 : Nat -> AB -> Prop}
def Xq(hL:w.ownsRow base 65 7 (.slice sl.a (m+1) sl.c) (m+1) ls)(hR:w.ownsRow base 65 7 (.slice sr.a nr sr.c) nr rs)(hb:base<=w.heap.size)(a9:∀b,sl.row=some b->sr.row≠some b)
  (b7:∀u∈ls,u.oneCell'=true) (c6:∀u∈rs,u.oneCell'=true) (e2:True) (h4:4<m+1) (h8:m+1<=8) (r8:nr<=8)
  (b5:∀(W:AB) (s:Sl),St (C5 sl sr) w W->Rd W (Lt W) 7 s m (ls.take (m*7))->Calls prog 53 #[.slice s.a m s.c] W (FY P1 W))
  (c7:∀(W:AB) (s:Sl),St (C5 sl sr) w W->Rd W (Lt W) 7 s (nr+1) (ls.drop (m*7)++rs)->Calls prog 53 #[.slice s.a (nr+1) s.c] W (FY P2 W))
  (b3:∀a W W',St (C5 sl sr) w W->P1 a W->St (C5 sl sr) W W'->P1 a W') :
  Calls prog 208 #[.slice sl.a (m+1) sl.c,.slice sr.a nr sr.c,.func (.func 53) #[] #[]] w λe w'=>∃a b,e=.returned (.tuple #[.pointer (some ⟨a,0,none⟩),.pointer (some ⟨b,0,none⟩)])/\w.heap.size<=a/\w.heap.size<=b/\P1 a w'/\P2 b w'/\St (C5 sl sr) w w':=by
 obtain⟨i0,hi,f6,f9,f7⟩:=eZ Tryz.DK;obtain⟨v0,v1,v2,v3,v4,v5,v6,I⟩:=Xd hL.1 oM e2;rw[Nat.add_sub_cancel]at I;obtain⟨N,Z,rfl,f3,f1,b6,a5⟩:=Dg hL oM;have d0:N<w:=a5.lt;have a8:∀b,sr.row=some b->b<w.heap.size:=λb hb=>(AM hR hb).2
 have a3:∀W,St (λb=>sr.row=some b) w W->∀j u,ls[j]? = some u->W.cell? ⟨N,j,none⟩=some u:=λW hW j u hj=>by
  obtain⟨b,o,h1,h2,h3⟩:=gF hL;obtain⟨e1,-,-⟩:=h1.eq oM;obtain⟨rfl,rfl⟩:N=b/\0=o:=by simpa using e1
  have:=h3 j u hj;rw[aF]at this;exact(hW.cell d0 (a9 N rfl)).trans this
 have a0:∀(c:Nat) (u:Value),([v0,v1,v2,v3,v4,v5,v6]:List Value)[c]? = some u->ls[m*7+c]? = some u:=λc u hu=>by rw[<-I,bm]at hu;exact hu
 have hS:∀W,St (λb=>sr.row=some b) w W->W.cell? ⟨N,m*7,none⟩=some v0/\W.cell? ⟨N,m*7+1,none⟩=some v1/\W.cell? ⟨N,m*7+2,none⟩=some v2/\W.cell? ⟨N,m*7+3,none⟩=some v3/\W.cell? ⟨N,m*7+4,none⟩=some v4/\W.cell? ⟨N,m*7+5,none⟩=some v5/\W.cell? ⟨N,m*7+6,none⟩=some v6:=λW hW=>⟨a3 W hW _ _ (a0 0 _ rfl),a3 W hW _ _ (a0 1 _ rfl),a3 W hW _ _ (a0 2 _ rfl),a3 W hW _ _ (a0 3 _ rfl),a3 W hW _ _ (a0 4 _ rfl),a3 W hW _ _ (a0 5 _ rfl),a3 W hW _ _ (a0 6 _ rfl)⟩
 have f4:(4:Int)<(m:Int)+1:=oM
 have f8:(m:Int)<=(Z:Int):=oM
 have f2:(m:Int)<(m:Int)+1:=oM
 have f0:(Z:Int)<=9223372036854775807:=by unfold maxLen at b6;omega
 have f5:IntKind.i64.wrap ((m:Int)+1)=(m:Int)+1:=by rw[eS];omega
 have b0:∀W,St (λb=>sr.row=some b) w W->Calls prog 53 #[.slice (some N) m Z] W (FY P1 W):=λW hW=>
  b5 W ⟨some N,Z⟩ (hW.mono λi _ hi=>.inr hi) (iQ ((gF (N8 (s:=⟨some N,Z⟩) hL hW (λb hb=>a9 b hb))).mono λi hi=>hi.2) oM)
 have a6:∀W vb,Ext w W->AE W vb 65 #[v0,v1,v2,v3,v4,v5,v6]->w.heap.size<=vb->Calls prog 51 #[.slice sr.a nr sr.c,.int .i64 0,.slice (some ⟨vb,0,none⟩) 1 1] W (Iy base sr nr 0 rs [v0,v1,v2,v3,v4,v5,v6] W):=λW vb hW hv g3=>
  RH (N8 hR (hW.st (λ_=>False)) (λ_ _ h=>h)) (an hb hW.size) oM (aw _) rfl hv (λe=>by have:=a8 vb e;omega) (λu hu=>b7 u (aS (I▸hu))) c6
 obtain⟨HS,d9,e8,HI,d5,HL⟩:=Yg hS b0 c7 a6 b3 I;clear hS b0 b5 c7 a6 b3 I a0 a3 b7 c6 hL hR a5 a9;go_in;go_wp2_with fail;have s0:=(gH (λb=>sr.row=some b) w).drew;have k0:=HS.o _ s0;have e0:=(gz w).drew;have sA:=((((gz w).alloc #[v0,v1,v2,v3,v4,v5,v6] 65).drew).st (λb=>sr.row=some b));have d3:=hY (show AE (w.alloc (.cells #[v0,v1,v2,v3,v4,v5,v6] 65)).drew w.heap.size 65 #[v0,v1,v2,v3,v4,v5,v6]from gB w 65 _);go_region_held3 (λW=>W.cell? ⟨N,m*7,none⟩=some v0/\W.cell? ⟨N,m*7+1,none⟩=some v1/\W.cell? ⟨N,m*7+2,none⟩=some v2/\W.cell? ⟨N,m*7+3,none⟩=some v3/\W.cell? ⟨N,m*7+4,none⟩=some v4/\W.cell? ⟨N,m*7+5,none⟩=some v5/\W.cell? ⟨N,m*7+6,none⟩=some v6) (first |(with_reducible exact HS.o _ s0) |(with_reducible exact HS.o _ (s0.alloc _ _)) |(with_reducible exact HS.o _ s1) |(with_reducible exact HS.o _ (s1.alloc _ _)) |(with_reducible exact HS.o _ s2) |(with_reducible exact HS.o _ b4) |(with_reducible exact HS.o _ sA)|go_keep)
  (first
    |(go_at_call_of 53 (Value.slice (some N) m Z);refine(d9.o _ (by first|exact s0|exact s0.alloc _ _)).mono ?_;rintro e w1 ⟨a1,rfl,e7,b9,a7⟩;have s1:=(show St (λb=>sr.row=some b) w _ from by first|exact s0|exact s0.alloc _ _).ext a7;have e1:=(show Ext w _ from by first|exact e0|exact e0.alloc _ _).trans a7;have e4:=hY b9;clear b9)
    |(go_at_call 51;refine(HI.o _ _ (by first |(with_reducible exact e1)|exact e1.alloc _ _) (by first|exact(gB _ _ _)|exact AE.ext d3.o a7) (by first|exact e1.size|exact ao _)).mono ?_;rintro e w2 ⟨s3,rfl,b8,a4,d6⟩;have e3:=(show St (C5 ⟨some N,Z⟩ sr) w1 w2 from by first|exact(a4.st λi hi=>.inr hi)|exact(((gz w1).alloc _ _).st _).trans (a4.st λi hi=>.inr hi));have s2:=s1.trans (show St (λb=>sr.row=some b) w1 w2 from by first|exact(a4.st λi hi=>hi)|exact(((gz w1).alloc _ _).st _).trans (a4.st λi hi=>hi));have d7:=hY b8;clear b8 a4 d6)
    |(go_at_call 53;refine(e8.o w2 s3 (s2.mono λi _ hi=>.inr hi) ?_).mono ?_;(have h:=gF d7.o;simp only[Nat.zero_mul,List.take_zero,List.nil_append,List.drop_zero]at h;rw[<-HL.o]at h;exact h.mono λi hi=>hi.2);rintro e w3 ⟨a2,rfl,e6,c8,c9⟩;have b4:=s2.ext c9;have d8:=hY c8;clear c8))
 all_goals
  go_wp2_with fail;go_ret2;have g0:=s1.size;have d4:=s2.size;refine⟨a1,a2,rfl,?_,an d4 e6,d5.o a1 w1 w3 (s1.mono λi _ hi=>.inr hi) e4.o (e3.ext c9),d8.o,b4.mono λi _ hi=>.inr hi⟩;simp only[World.size_alloc,World.size_drew]at e7;omega
end
def pY{rs:List Value}(hl:rs.length=n*7)(hn:0<n)(hp:True):∃v0 v1 I v3 v4 N Z:Value,rs.take 7=[v0,v1,I,v3,v4,N,Z]:=by
 have h:(rs.take 7).length=7:=by rw[au,hl];omega
 match hd:rs.take 7,h with
 |[v0,v1,I,v3,v4,N,Z],_=>exact⟨v0,v1,I,v3,v4,N,Z,rfl⟩
section
variable{w : AB}{base nl m : Nat}{sl sr : Sl}{ls rs : List Value}{P1 P2 : Nat -> AB -> Prop}
def XE(hL:w.ownsRow base 65 7 (.slice sl.a nl sl.c) nl ls)(hR:w.ownsRow base 65 7 (.slice sr.a (m+1) sr.c) (m+1) rs)(hb:base<=w.heap.size)(b9:∀b,sl.row=some b->sr.row≠some b)
  (b4:∀u∈ls,u.oneCell'=true) (b7:∀u∈rs,u.oneCell'=true) (e3:True) (h4:nl<=4) (h5:4<m+1) (h8:m+1<=8)
  (b0:∀(W:AB) (s:Sl),St (C5 sl sr) w W->Rd W (Lt W) 7 s (nl+1) (ls++rs.take 7)->Calls prog 53 #[.slice s.a (nl+1) s.c] W (FY P1 W))
  (b8:∀(W:AB) (s:Sl),St (C5 sl sr) w W->Rd W (Lt W) 7 s m (rs.drop 7)->Calls prog 53 #[.slice s.a m s.c] W (FY P2 W))
  (a9:∀a W W',St (C5 sl sr) w W->P1 a W->St (C5 sl sr) W W'->P1 a W') :
  Calls prog 208 #[.slice sl.a nl sl.c,.slice sr.a (m+1) sr.c,.func (.func 53) #[] #[]] w λe w'=>∃a b,e=.returned (.tuple #[.pointer (some ⟨a,0,none⟩),.pointer (some ⟨b,0,none⟩)])/\w.heap.size<=a/\w.heap.size<=b/\P1 a w'/\P2 b w'/\St (C5 sl sr) w w':=by
 obtain⟨i0,hi,e2,f6,e7⟩:=eZ Tryz.DK;obtain⟨v0,v1,v2,v3,v4,v5,v6,N⟩:=pY hR.1 oM e3;obtain⟨I,Z,rfl,g4,g0,a8,a4⟩:=Dg hR oM;have f1:I<w:=a4.lt;have a5:∀b,sl.row=some b->b≠I:=λb hb e=>b9 b hb (by simp[Sl.row,e])
 have c9:Rd w (λb=>b=I) 7 ⟨some I,Z⟩ (m+1) rs:=by
  obtain⟨b,o,h1,h2,h3⟩:=gF hR;obtain⟨e1,d5,e6⟩:=h1.eq oM;obtain⟨rfl,rfl⟩:I=b/\0=o:=by simpa using e1
  exact⟨I,0,.some _ _ _ _ d5 e6 rfl,h2,h3⟩
 have a0:∀W,St (λb=>sl.row=some b) w W->∀j u,rs[j]? = some u->W.cell? ⟨I,j,none⟩=some u:=λW hW j u hj=>by
  obtain⟨b,o,h1,h2,h3⟩:=gF hR;obtain⟨e1,-,-⟩:=h1.eq oM;obtain⟨rfl,rfl⟩:I=b/\0=o:=by simpa using e1
  have:=h3 j u hj;rw[aF]at this;exact(hW.cell f1 (λe=>a5 I e rfl)).trans this
 have a3:∀(c:Nat) (u:Value),([v0,v1,v2,v3,v4,v5,v6]:List Value)[c]? = some u->rs[c]? = some u:=λc u hu=>by
  rw[<-N,bv]at hu;split at hu
  .exact hu
  cases hu
 have hS:∀W,St (λb=>sl.row=some b) w W->W.cell? I=some v0/\W.cell? ⟨I,1,none⟩=some v1/\W.cell? ⟨I,2,none⟩=some v2/\W.cell? ⟨I,3,none⟩=some v3/\W.cell? ⟨I,4,none⟩=some v4/\W.cell? ⟨I,5,none⟩=some v5/\W.cell? ⟨I,6,none⟩=some v6:=λW hW=>⟨a0 W hW _ _ (a3 0 _ rfl),a0 W hW _ _ (a3 1 _ rfl),a0 W hW _ _ (a3 2 _ rfl),a0 W hW _ _ (a3 3 _ rfl),a0 W hW _ _ (a3 4 _ rfl),a0 W hW _ _ (a3 5 _ rfl),a0 W hW _ _ (a3 6 _ rfl)⟩
 have g3:¬(4:Int)<(nl:Int):=oM
 have g5:(4:Int)<(m:Int)+1:=oM
 have g6:(0:Int)<(m:Int)+1:=oM
 have g7:(1:Int)<=(m:Int)+1:=oM
 have g9:¬Z=1:=oM
 have g8:IntKind.i64.wrap ((m:Int)+1)=(m:Int)+1:=by rw[eS];omega
 have f9:(Z:Int)<=9223372036854775807:=by unfold maxLen at a8;omega
 have i1:(m:Int)+1<=(Z:Int):=oM
 have d4:nl+1<=maxLen:=by unfold maxLen;omega
 have e8:(nl+1)*104<=140737488355328:=oM
 have a7:∀W,Ext w W->W.ownsRow base 65 7 (.slice sl.a nl sl.c) nl ls:=λW hW=>N8 hL (hW.st (λ_=>False)) (λ_ _ h=>h)
 have b3:∀W,St (λb=>sl.row=some b) w W->Calls prog 53 #[.slice (some ⟨I,7,none⟩) m (Z-1)] W (FY P2 W):=λW hW=>by
  refine b8 W ⟨some ⟨I,7,none⟩,Z-1⟩ (hW.mono λi _ hi=>.inl hi) ?_;have h:=((c9.agree (hW.agree.mono λi (hi:i=I)=>⟨oM,λe=>a5 i e hi⟩)).drop (m:=1) oM).mono (G:=Lt W) λi (hi:i=I)=>by have:=hW.size;show i<_;omega
  simpa using h
 obtain⟨HS,d9,f7,d7,HF,b5,i2⟩:=Yh hS b0 b3 a9 N a7 b4;have f0:Yd (∀u∈([v0,v1,v2,v3,v4,v5,v6]:List Value),u.oneCell'=true):=hY λu hu=>b7 u (bj (N▸hu))
 clear hS b3 b0 b8 a9 N a0 a3 b4 b7 hL hR a4 b9 a5 a7 c9;go_in;go_wp2_with fail;have s0:=(gH (λb=>sl.row=some b) w).drew;have e0:=(gz w).drew;have sA:=((((gz w).alloc #[v0,v1,v2,v3,v4,v5,v6] 65).drew).st (λb=>sl.row=some b));have k0:=HS.o _ s0;have d3:=hY (show AE (w.alloc (.cells #[v0,v1,v2,v3,v4,v5,v6] 65)).drew w.heap.size 65 #[v0,v1,v2,v3,v4,v5,v6]from gB w 65 _);go_region_held3 (λW=>W.cell? I=some v0/\W.cell? ⟨I,1,none⟩=some v1/\W.cell? ⟨I,2,none⟩=some v2/\W.cell? ⟨I,3,none⟩=some v3/\W.cell? ⟨I,4,none⟩=some v4/\W.cell? ⟨I,5,none⟩=some v5/\W.cell? ⟨I,6,none⟩=some v6) (first |(with_reducible exact HS.o _ s0) |(with_reducible exact HS.o _ sA) |(with_reducible exact HS.o _ s1) |(with_reducible exact HS.o _ s2) |(with_reducible exact HS.o _ s3)|go_keep)
  (first
    |(refine IK _ rfl (.tmp 35) (.tmp 39) 22 rfl base 65 i0 _ 7 104 underlying22 hi e2 f6 e7 rfl oN sl nl ls (by rfl) (b5.o _ (((gz w).alloc _ _).drew)) (λb=>b=w.heap.size) ⟨some w,1⟩ 1 [v0,v1,v2,v3,v4,v5,v6] (by rfl) (gG d3.o oN rfl) f0.o d4 e8 (by rw[fI,eQ];omega) ?_;intro sx w1 a6 c7 e4;have s1:=sA.trans (c7.st λi hi=>hi);have f3:=hY a6;clear a6 e4)
    |(go_at_call 53;refine(f7.o w2 s2).mono ?_;rintro e w3 ⟨a2,rfl,f4,c6,c8⟩;have s3:=s2.ext c8;have d8:=hY c6;clear c6)
    |(go_at_call 53;refine(d9.o w1 sx (s1.mono λi _ hi=>.inl hi) ?_).mono ?_;(have h:=gF f3.o;rw[<-HF.o]at h;exact h.mono λi hi=>hi.2);rintro e w2 ⟨a1,rfl,f5,b6,d0⟩;have s2:=s1.ext d0;have f2:=hY b6;clear b6))
 all_goals
  go_wp2_with fail;go_ret2;have f8:=s1.size;have d6:=s2.size;exact⟨a1,a2,rfl,an f8 f5,an d6 f4,d7.o a1 w2 w3 (s2.mono λi _ hi=>.inl hi) f2.o (c8.st _),d8.o,s3.mono λi _ hi=>.inl hi⟩
def nj{nr:Nat}(hL:w.ownsRow base 65 7 (.slice sl.a nl sl.c) nl ls)(hR:w.ownsRow base 65 7 (.slice sr.a nr sr.c) nr rs)(hb:base<=w.heap.size)
  (a0:∀u∈rs,u.oneCell'=true) (h4:nl<=4) (r4:nr<=4)
  (a2:∀(W:AB) (s:Sl),St (C5 sl sr) w W->Rd W (Lt W) 7 s (nl+nr) (ls++rs)->Calls prog 53 #[.slice s.a (nl+nr) s.c] W (FY P1 W)) :
  Calls prog 208 #[.slice sl.a nl sl.c,.slice sr.a nr sr.c,.func (.func 53) #[] #[]] w λe w'=>∃a,e=.returned (.tuple #[.pointer (some ⟨a,0,none⟩),.pointer none])/\w.heap.size<=a/\P1 a w'/\St (C5 sl sr) w w':=by
 obtain⟨i0,hi,b0,a9,a5⟩:=eZ Tryz.DK;have b5:¬(4:Int)<(nl:Int):=oM
 have b4:¬(4:Int)<(nr:Int):=oM
 have a7:nl+nr<=maxLen:=by unfold maxLen;omega
 have a6:(nl+nr)*104<=140737488355328:=oM
 obtain⟨b3,HR,HL,H1⟩:=Ye a2 (gF hR) hL a0;clear a2 hR hL a0;go_in;go_wp2_with(at_builtin;refine Bq _ rfl (.tmp 47) (.tmp 48) 22 rfl base 65 i0 _ 7 104 underlying22 hi b0 a9 a5 rfl oN sl nl ls rfl HL.o (In base w.heap.size) sr nr rs rfl HR.o H1.o a7 a6 hb ?_;intro sx w1 I N a3);have s1:St (λb=>sl.row=some b) w w1:=N.st λi hi=>hi
 refine(b3.o w1 sx (s1.mono λi _ hi=>.inl hi) ((gF I).mono λi hi=>hi.2)).mono ?_;rintro e w2 ⟨a1,rfl,a8,Z,a4⟩;have HP:=hY Z;clear Z I N a3;go_wp2_with fail;go_ret2;exact⟨a1,rfl,an s1.size a8,HP.o,(s1.ext a4).mono λi _ hi=>.inl hi⟩
end
abbrev Dd(sl sr:Sl):Nat->Prop:=λb=>sl.row=some b\/sr.row=some b
def F6(P:Nat->AB->Prop)(W:AB)(e:AC)(W':AB):Prop:=∃a,e=.returned (.pointer (some ⟨a,0,none⟩))/\W.heap.size<=a/\P a W'/\Ext W W'
def OS{base n:Nat}{xs:List Value}(h:w.ownsRow base 34 1 (.slice s.a n s.c) n xs)(hs:St G w W)(N:∀b,s.row=some b->¬G b):W.ownsRow base 34 1 (.slice s.a n s.c) n xs:=
 AZ h hs.agree λb I=>⟨(AM h I).2,N b I⟩
def Zi{n m:Nat}(h:Rd w F 1 s n cs)(I:m<=n):Rd w F 1 s m (cs.take (m*1)):=h.take I
def ZU{ls:List Value}(Z:ls.length=n*1)(hn:0<n)(N:∀u∈ls,∃p,u=Value.pointer p):∃v0:Option Addr,ls.drop ((n-1)*1)=[.pointer v0]:=by
 have h:(ls.drop ((n-1)*1)).length=1:=by rw[az,Z];omega
 match hd:ls.drop ((n-1)*1),h with
 |[x],_=>obtain⟨p,I⟩:=N x (aS (by rw[hd];exact aV.2 rfl));exact⟨p,by rw[I]⟩
section
variable{w : AB}{base m nr : Nat}{sl sr : Sl}{ls rs : List Value}{P1 P2 : Nat -> AB -> Prop}
def pn(hL:w.ownsRow base 34 1 (.slice sl.a (m+1) sl.c) (m+1) ls)(hR:w.ownsRow base 34 1 (.slice sr.a nr sr.c) nr rs)(hb:base<=w.heap.size)(a6:∀b,sl.row=some b->sr.row≠some b)
  (b5:∀u∈ls,u.oneCell'=true) (b8:∀u∈rs,u.oneCell'=true) (d9:∀u∈ls,∃p,u=Value.pointer p) (h4:4<m+1) (h8:m+1<=8) (r8:nr<=8)
  (b3:∀(W:AB) (s:Sl),St (Dd sl sr) w W->Rd W (Lt W) 1 s m (ls.take (m*1))->Calls prog 32 #[.slice s.a m s.c] W (F6 P1 W))
  (b9:∀(W:AB) (s:Sl),St (Dd sl sr) w W->Rd W (Lt W) 1 s (nr+1) (ls.drop (m*1)++rs)->Calls prog 32 #[.slice s.a (nr+1) s.c] W (F6 P2 W))
  (a9:∀a W W',St (Dd sl sr) w W->P1 a W->St (Dd sl sr) W W'->P1 a W') :
  Calls prog 209 #[.slice sl.a (m+1) sl.c,.slice sr.a nr sr.c,.func (.func 32) #[] #[]] w λe w'=>∃a b,e=.returned (.tuple #[.pointer (some ⟨a,0,none⟩),.pointer (some ⟨b,0,none⟩)])/\w.heap.size<=a/\w.heap.size<=b/\P1 a w'/\P2 b w'/\St (Dd sl sr) w w':=by
 obtain⟨i0,hi,f5,f8,f6⟩:=eZ Tryz.Ec;obtain⟨v0,I⟩:=ZU hL.1 oM d9;rw[Nat.add_sub_cancel]at I;obtain⟨gl,N,rfl,f2,f0,b4,a0⟩:=Dg hL oM;have c9:gl<w:=a0.lt;have a5:∀b,sr.row=some b->b<w.heap.size:=λb hb=>(AM hR hb).2
 have c7:∀W,St (λb=>sr.row=some b) w W->∀j u,ls[j]? = some u->W.cell? ⟨gl,j,none⟩=some u:=λW hW j u hj=>by
  obtain⟨b,o,h1,h2,h3⟩:=gF hL;obtain⟨e1,-,-⟩:=h1.eq oM;obtain⟨rfl,rfl⟩:gl=b/\0=o:=by simpa using e1
  have:=h3 j u hj;rw[aF]at this;exact(hW.cell c9 (a6 gl rfl)).trans this
 have a7:∀(c:Nat) (u:Value),([.pointer v0]:List Value)[c]? = some u->ls[m*1+c]? = some u:=λc u hu=>by rw[<-I,bm]at hu;exact hu
 have hS:∀W,St (λb=>sr.row=some b) w W->W.cell? ⟨gl,m,none⟩=some (.pointer v0):=λW hW=>by have:=c7 W hW _ _ (a7 0 _ rfl);simpa using this
 have f3:(4:Int)<(m:Int)+1:=oM
 have f7:(m:Int)<=(N:Int):=oM
 have f1:(m:Int)<(m:Int)+1:=oM
 have e8:(N:Int)<=9223372036854775807:=by unfold maxLen at b4;omega
 have f4:IntKind.i64.wrap ((m:Int)+1)=(m:Int)+1:=by rw[eS];omega
 have a8:∀W,St (λb=>sr.row=some b) w W->Calls prog 32 #[.slice (some gl) m N] W (F6 P1 W):=λW hW=>
  b3 W ⟨some gl,N⟩ (hW.mono λi _ hi=>.inr hi) (Zi ((gF (OS (s:=⟨some gl,N⟩) hL hW (λb hb=>a6 b hb))).mono λi hi=>hi.2) oM)
 have a3:∀W vb,Ext w W->AE W vb 34 #[.pointer v0]->w.heap.size<=vb->Calls prog 56 #[.slice sr.a nr sr.c,.int .i64 0,.slice (some ⟨vb,0,none⟩) 1 1] W (JM base sr nr 0 rs [.pointer v0] W):=λW vb hW hv g0=>
  O4 (OS hR (hW.st (λ_=>False)) (λ_ _ h=>h)) (an hb hW.size) oM (aw _) rfl hv (λe=>by have:=a5 vb e;omega) (λu hu=>b5 u (aS (I▸hu))) b8
 obtain⟨HS,d8,e7,HI,d4,HL⟩:=Yg hS a8 b9 a3 a9 I;clear hS a8 b3 b9 a3 a9 I a7 c7 b5 b8 hL hR a0 a6;go_in;go_wp2_with fail;have s0:=(gH (λb=>sr.row=some b) w).drew;have k0:=HS.o _ s0;have e0:=(gz w).drew;have sA:=((((gz w).alloc #[.pointer v0] 34).drew).st (λb=>sr.row=some b));have d0:=hY (show AE (w.alloc (.cells #[.pointer v0] 34)).drew w.heap.size 34 #[.pointer v0]from gB w 34 _);go_region_held3 (λW=>W.cell? ⟨gl,m,none⟩=some (.pointer v0)) (first |(with_reducible exact HS.o _ s0) |(with_reducible exact HS.o _ (s0.alloc _ _)) |(with_reducible exact HS.o _ s1) |(with_reducible exact HS.o _ (s1.alloc _ _)) |(with_reducible exact HS.o _ s2) |(with_reducible exact HS.o _ b0) |(with_reducible exact HS.o _ sA)|go_keep)
  (first
    |(go_at_call_of 32 (Value.slice (some gl) m N);refine(d8.o _ (by first|exact s0|exact s0.alloc _ _)).mono ?_;rintro e w1 ⟨a1,rfl,e6,b7,a4⟩;have s1:=(show St (λb=>sr.row=some b) w _ from by first|exact s0|exact s0.alloc _ _).ext a4;have e1:=(show Ext w _ from by first|exact e0|exact e0.alloc _ _).trans a4;have e3:=hY b7;clear b7)
    |(go_at_call 56;refine(HI.o _ _ (by first |(with_reducible exact e1)|exact e1.alloc _ _) (by first|exact(gB _ _ _)|exact AE.ext d0.o a4) (by first|exact e1.size|exact ao _)).mono ?_;rintro e w2 ⟨s3,rfl,b6,Z,d5⟩;have e2:=(show St (Dd ⟨some gl,N⟩ sr) w1 w2 from by first|exact(Z.st λi hi=>.inr hi)|exact(((gz w1).alloc _ _).st _).trans (Z.st λi hi=>.inr hi));have s2:=s1.trans (show St (λb=>sr.row=some b) w1 w2 from by first|exact(Z.st λi hi=>hi)|exact(((gz w1).alloc _ _).st _).trans (Z.st λi hi=>hi));have d6:=hY b6;clear b6 Z d5)
    |(go_at_call 32;refine(e7.o w2 s3 (s2.mono λi _ hi=>.inr hi) ?_).mono ?_;(have h:=gF d6.o;simp only[Nat.zero_mul,List.take_zero,List.nil_append,List.drop_zero]at h;rw[<-HL.o]at h;exact h.mono λi hi=>hi.2);rintro e w3 ⟨a2,rfl,e4,c6,c8⟩;have b0:=s2.ext c8;have d7:=hY c6;clear c6))
 all_goals
  go_wp2_with fail;go_ret2;have f9:=s1.size;have d3:=s2.size;refine⟨a1,a2,rfl,?_,an d3 e4,d4.o a1 w1 w3 (s1.mono λi _ hi=>.inr hi) e3.o (e2.ext c8),d7.o,b0.mono λi _ hi=>.inr hi⟩;simp only[World.size_alloc,World.size_drew]at e6;omega
end
def jT{rs:List Value}(Z:rs.length=n*1)(hn:0<n)(N:∀u∈rs,∃p,u=Value.pointer p):∃v0:Option Addr,rs.take 1=[.pointer v0]:=by
 have h:(rs.take 1).length=1:=by rw[au,Z];omega
 match hd:rs.take 1,h with
 |[x],_=>obtain⟨p,I⟩:=N x (bj (by rw[hd];exact aV.2 rfl));exact⟨p,by rw[I]⟩
section
variable{w : AB}{base nl m : Nat}{sl sr : Sl}{ls rs : List Value}{P1 P2 : Nat -> AB -> Prop}
def WX(hL:w.ownsRow base 34 1 (.slice sl.a nl sl.c) nl ls)(hR:w.ownsRow base 34 1 (.slice sr.a (m+1) sr.c) (m+1) rs)(hb:base<=w.heap.size)(b8:∀b,sl.row=some b->sr.row≠some b)
  (b0:∀u∈ls,u.oneCell'=true) (b6:∀u∈rs,u.oneCell'=true) (e3:∀u∈rs,∃p,u=Value.pointer p) (h4:nl<=4) (h5:4<m+1) (h8:m+1<=8)
  (a8:∀(W:AB) (s:Sl),St (Dd sl sr) w W->Rd W (Lt W) 1 s (nl+1) (ls++rs.take 1)->Calls prog 32 #[.slice s.a (nl+1) s.c] W (F6 P1 W))
  (b7:∀(W:AB) (s:Sl),St (Dd sl sr) w W->Rd W (Lt W) 1 s m (rs.drop 1)->Calls prog 32 #[.slice s.a m s.c] W (F6 P2 W))
  (a7:∀a W W',St (Dd sl sr) w W->P1 a W->St (Dd sl sr) W W'->P1 a W') :
  Calls prog 209 #[.slice sl.a nl sl.c,.slice sr.a (m+1) sr.c,.func (.func 32) #[] #[]] w λe w'=>∃a b,e=.returned (.tuple #[.pointer (some ⟨a,0,none⟩),.pointer (some ⟨b,0,none⟩)])/\w.heap.size<=a/\w.heap.size<=b/\P1 a w'/\P2 b w'/\St (Dd sl sr) w w':=by
 obtain⟨i0,hi,e2,f6,e7⟩:=eZ Tryz.Ec;obtain⟨v0,I⟩:=jT hR.1 oM e3;obtain⟨Z,N,rfl,g4,g0,a6,a4⟩:=Dg hR oM;have f1:Z<w:=a4.lt;have a0:∀b,sl.row=some b->b≠Z:=λb hb e=>b8 b hb (by simp[Sl.row,e])
 have c9:Rd w (λb=>b=Z) 1 ⟨some Z,N⟩ (m+1) rs:=by
  obtain⟨b,o,h1,h2,h3⟩:=gF hR;obtain⟨e1,d5,e6⟩:=h1.eq oM;obtain⟨rfl,rfl⟩:Z=b/\0=o:=by simpa using e1
  exact⟨Z,0,.some _ _ _ _ d5 e6 rfl,h2,h3⟩
 have b5:∀W,St (λb=>sl.row=some b) w W->∀j u,rs[j]? = some u->W.cell? ⟨Z,j,none⟩=some u:=λW hW j u hj=>by
  obtain⟨b,o,h1,h2,h3⟩:=gF hR;obtain⟨e1,-,-⟩:=h1.eq oM;obtain⟨rfl,rfl⟩:Z=b/\0=o:=by simpa using e1
  have:=h3 j u hj;rw[aF]at this;exact(hW.cell f1 (λe=>a0 Z e rfl)).trans this
 have c6:∀(c:Nat) (u:Value),([.pointer v0]:List Value)[c]? = some u->rs[c]? = some u:=λc u hu=>by
  rw[<-I,bv]at hu;split at hu
  .exact hu
  cases hu
 have hS:∀W,St (λb=>sl.row=some b) w W->W.cell? Z=some (.pointer v0):=λW hW=>b5 W hW _ _ (c6 0 _ rfl)
 have g3:¬(4:Int)<(nl:Int):=oM
 have g5:(4:Int)<(m:Int)+1:=oM
 have g6:(0:Int)<(m:Int)+1:=oM
 have g7:(1:Int)<=(m:Int)+1:=oM
 have g9:¬N=1:=oM
 have g8:IntKind.i64.wrap ((m:Int)+1)=(m:Int)+1:=by rw[eS];omega
 have f9:(N:Int)<=9223372036854775807:=by unfold maxLen at a6;omega
 have i1:(m:Int)+1<=(N:Int):=oM
 have d4:nl+1<=maxLen:=by unfold maxLen;omega
 have e8:(nl+1)*8<=140737488355328:=oM
 have a5:∀W,Ext w W->W.ownsRow base 34 1 (.slice sl.a nl sl.c) nl ls:=λW hW=>OS hL (hW.st (λ_=>False)) (λ_ _ h=>h)
 have a9:∀W,St (λb=>sl.row=some b) w W->Calls prog 32 #[.slice (some ⟨Z,1,none⟩) m (N-1)] W (F6 P2 W):=λW hW=>by
  refine b7 W ⟨some ⟨Z,1,none⟩,N-1⟩ (hW.mono λi _ hi=>.inl hi) ?_;have h:=((c9.agree (hW.agree.mono λi (hi:i=Z)=>⟨oM,λe=>a0 i e hi⟩)).drop (m:=1) oM).mono (G:=Lt W) λi (hi:i=Z)=>by have:=hW.size;show i<_;omega
  simpa using h
 obtain⟨HS,d9,f7,d7,HF,b3,i2⟩:=Yh hS a8 a9 a7 I a5 b0;have f0:Yd (∀u∈([.pointer v0]:List Value),u.oneCell'=true):=hY λu hu=>b6 u (bj (I▸hu))
 clear hS a9 a8 b7 a7 I b5 c6 b0 b6 hL hR a4 b8 a0 a5 c9;go_in;go_wp2_with fail;have s0:=(gH (λb=>sl.row=some b) w).drew;have e0:=(gz w).drew;have sA:=((((gz w).alloc #[.pointer v0] 34).drew).st (λb=>sl.row=some b));have k0:=HS.o _ s0;have d3:=hY (show AE (w.alloc (.cells #[.pointer v0] 34)).drew w.heap.size 34 #[.pointer v0]from gB w 34 _);go_region_held3 (λW=>W.cell? Z=some (.pointer v0)) (first |(with_reducible exact HS.o _ s0) |(with_reducible exact HS.o _ sA) |(with_reducible exact HS.o _ s1) |(with_reducible exact HS.o _ s2) |(with_reducible exact HS.o _ s3)|go_keep)
  (first
    |(refine IK _ rfl (.tmp 35) (.tmp 39) 87 rfl base 34 i0 _ 1 8 underlying87 hi e2 f6 e7 rfl oN sl nl ls (by rfl) (b3.o _ (((gz w).alloc _ _).drew)) (λb=>b=w.heap.size) ⟨some w,1⟩ 1 [.pointer v0] (by rfl) (gG d3.o oN rfl) f0.o d4 e8 (by rw[fI,eQ];omega) ?_;intro sx w1 a3 c7 e4;have s1:=sA.trans (c7.st λi hi=>hi);have f3:=hY a3;clear a3 e4)
    |(go_at_call 32;refine(f7.o w2 s2).mono ?_;rintro e w3 ⟨a2,rfl,f4,b9,c8⟩;have s3:=s2.ext c8;have d8:=hY b9;clear b9)
    |(go_at_call 32;refine(d9.o w1 sx (s1.mono λi _ hi=>.inl hi) ?_).mono ?_;(have h:=gF f3.o;rw[<-HF.o]at h;exact h.mono λi hi=>hi.2);rintro e w2 ⟨a1,rfl,f5,b4,d0⟩;have s2:=s1.ext d0;have f2:=hY b4;clear b4))
 all_goals
  go_wp2_with fail;go_ret2;have f8:=s1.size;have d6:=s2.size;exact⟨a1,a2,rfl,an f8 f5,an d6 f4,d7.o a1 w2 w3 (s2.mono λi _ hi=>.inl hi) f2.o (c8.st _),d8.o,s3.mono λi _ hi=>.inl hi⟩
def nB{nr:Nat}(hL:w.ownsRow base 34 1 (.slice sl.a nl sl.c) nl ls)(hR:w.ownsRow base 34 1 (.slice sr.a nr sr.c) nr rs)(hb:base<=w.heap.size)
  (a0:∀u∈rs,u.oneCell'=true) (h4:nl<=4) (r4:nr<=4)
  (a2:∀(W:AB) (s:Sl),St (Dd sl sr) w W->Rd W (Lt W) 1 s (nl+nr) (ls++rs)->Calls prog 32 #[.slice s.a (nl+nr) s.c] W (F6 P1 W)) :
  Calls prog 209 #[.slice sl.a nl sl.c,.slice sr.a nr sr.c,.func (.func 32) #[] #[]] w λe w'=>∃a,e=.returned (.tuple #[.pointer (some ⟨a,0,none⟩),.pointer none])/\w.heap.size<=a/\P1 a w'/\St (Dd sl sr) w w':=by
 obtain⟨i0,hi,b0,a9,a5⟩:=eZ Tryz.Ec;have b5:¬(4:Int)<(nl:Int):=oM
 have b4:¬(4:Int)<(nr:Int):=oM
 have a7:nl+nr<=maxLen:=by unfold maxLen;omega
 have a6:(nl+nr)*8<=140737488355328:=oM
 obtain⟨b3,HR,HL,H1⟩:=Ye a2 (gF hR) hL a0;clear a2 hR hL a0;go_in;go_wp2_with(at_builtin;refine Bq _ rfl (.tmp 47) (.tmp 48) 87 rfl base 34 i0 _ 1 8 underlying87 hi b0 a9 a5 rfl oN sl nl ls rfl HL.o (In base w.heap.size) sr nr rs rfl HR.o H1.o a7 a6 hb ?_;intro sx w1 I N a3);have s1:St (λb=>sl.row=some b) w w1:=N.st λi hi=>hi
 refine(b3.o w1 sx (s1.mono λi _ hi=>.inl hi) ((gF I).mono λi hi=>hi.2)).mono ?_;rintro e w2 ⟨a1,rfl,a8,Z,a4⟩;have HP:=hY Z;clear Z I N a3;go_wp2_with fail;go_ret2;exact⟨a1,rfl,an s1.size a8,HP.o,(s1.ext a4).mono λi _ hi=>.inl hi⟩
end
def Ja(F:Nat->Prop)(h:Nat)(l r:PT h)(w:AB)(e:AC)(w':AB):Prop:=
 ∃ts:List (PT h),e=two h ts/\Dy w.heap.size h l r ts/\(∀u∈ts,AJ w' (Up F w w') h u)
variable{xs:List LE}
def Ot(N:n=xs.length)(Z:Rd w F 7 s n (AP xs))(I:D2 w F xs)(hf:xs.length<=1000):ES w F s xs:=by
 subst N;exact⟨Z,I,oM⟩
def Jb{α:Type}{P:α->Prop}{x y:α}(N:P x)(I:P y):∀u∈[x,y],P u:=λu hu=>by
 rcases aH.1 hu with rfl|hu
 .exact N
 obtain rfl:=aV.1 hu;exact I
def Ld{α:Type}{P:α->Prop}{x:α}(I:P x):∀u∈[x],P u:=λu hu=>by
 obtain rfl:=aV.1 hu;exact I
def IW(N:St G w W)(hG:∀b,G b->b<w.heap.size)(hn:n=xs.length)(h8:xs.length<=8)(hr:Rd W (Lt W) 7 s n (AP xs))(hv:D2 w (NH G w) xs)(I:Dp xs) :
  Calls prog 53 #[.slice s.a n s.c] W (FY (λa W'=>w<=a/\AJ W' (λb=>w<=b/\b<W') 0 (a,xs.map LE.ent)) W):=by
 have Z:ES W (Lt W) s xs:=Ot hn hr ((hv.agree N.agree).mono λi hi=>ab hi.1 N.size) oM;refine(Is Z hn I h8).mono ?_;rintro e w' ⟨t,rfl,h1,h2,h3,h4⟩;refine⟨addr 0 t,rfl,h2,⟨Nat.le_trans N.size h2,?_⟩,h4⟩;have e1:t=(t.1,xs.map LE.ent):=by rw[<-h1];rfl
 rw[e1]at h3;exact h3.mono λi hi=>⟨Nat.le_trans N.size hi.1,hi.2⟩
variable{W':AB}{h:Nat}
def VI(I:∀b,G b->b<w.heap.size){t:PT h}(Z:AJ W (λb=>w<=b/\b<W) h t)(hs:St G W W'):AJ W' (λb=>w<=b/\b<W') h t:=
 (Z.agree (hs.agree.mono λi hi=>⟨hi.2,λN=>by have:=I i N;omega⟩)).mono λi hi=>⟨hi.1,ab hi.2 hs.size⟩
variable{ys:List LE}
def nh{base:Nat}{sl sr:Sl}(hL:OE w base sl xs)(hR:OE w base sr ys)(hb:base<=w.heap.size)(a4:∀b,sl.row=some b->sr.row≠some b)
  (a0:D2 w (NH (C5 sl sr) w) xs) (a2:D2 w (NH (C5 sl sr) w) ys) (I:Dp (xs++ys)) (x8:xs.length<=8) (y8:ys.length<=8) (N:xs.length+ys.length<=11) {l r:PT 0} (el:xs.map LE.ent=l.2) (er:ys.map LE.ent=r.2) :
  Calls prog 208 #[.slice sl.a xs.length sl.c,.slice sr.a ys.length sr.c,.func (.func 53) #[] #[]] w λe w'=>Ja (λ_=>False) 0 l r w e w'/\St (C5 sl sr) w w':=by
 have hG:∀b,C5 sl sr b->b<w.heap.size:=λb hb=>hb.elim (λh=>(AM hL.own h).2) (λh=>(AM hR.own h).2)
 have F8:∀(w':AB) (a b:Nat) (zs a1:List LE),(w<=a/\AJ w' (λb=>w<=b/\b<w') 0 (a,zs.map LE.ent))->(w<=b/\AJ w' (λb=>w<=b/\b<w') 0 (b,a1.map LE.ent))->
   CY l.2 r.2=[zs.map LE.ent,a1.map LE.ent]->Ja (λ_=>False) 0 l r w (.returned (.tuple #[.pointer (some a),.pointer (some ⟨b,0,none⟩)])) w':=λw' a b zs a1 ha hb hp=>by
  refine⟨[((a,zs.map LE.ent):PT 0),((b,a1.map LE.ent):PT 0)],rfl,⟨hp.symm,Jb (α:=PT 0) ha.1 hb.1⟩,Jb (α:=PT 0) (ha.2.mono λi hi=>.inr hi) (hb.2.mono λi hi=>.inr hi)⟩
 have e1:l.2.length=xs.length:=by rw[<-el,aq]
 have e2:r.2.length=ys.length:=by rw[<-er,aq]
 by_cases h4:4<xs.length
 ·obtain ⟨m,hm⟩:∃ m,xs.length=m+1:=⟨xs.length - 1,oM⟩
  have t1:(AP xs).take (m*7)=AP (xs.take m):=IP xs m;have t2:(AP xs).drop (m*7)++AP ys=AP (xs.drop m++ys):=by rw[IC,D5]
  have a3:=hL.own;rw[hm]at a3 ⊢;refine(Xq (P1:=λa W'=>w<=a/\AJ W' (λb=>w<=b/\b<W') 0 (a,(xs.take m).map LE.ent)) (P2:=λa W'=>w<=a/\AJ W' (λb=>w<=b/\b<W') 0 (a,(xs.drop m++ys).map LE.ent))
   a3 hR.own hb a4 (Ds xs) (Ds ys) trivial oM oM y8 (λW s hW Z=>?_) (λW s hW Z=>?_) (λa W W' _ h hs=>⟨h.1,VI hG h.2 hs⟩)).mono ?_
  ·rw [t1] at Z
   exact IW hW hG (by rw[au];omega) (by rw[au];omega) Z (λx N=>a0 x (bj N)) (by have:=I.take m;rwa[bn oM]at this)
  ·rw [t2] at Z
   exact IW hW hG (by rw[aj,az];omega) (by rw[aj,az];omega) Z (λx N=>by
    rcases aL.1 N with N|N
    .exact a0 x (aS N)
    exact a2 x N) (by have:=I.drop m;rwa[List.drop_append_of_le_length oM]at this)
  rintro e w' ⟨a,b,rfl,-,-,h1,h2,hs⟩;refine⟨F8 w' a b _ _ h1 h2 ?_,hs⟩;rw[CY,eN oM,<-el,<-er,aB,db,cR,aq,hm];rfl
 by_cases h5:4<ys.length
 ·obtain ⟨m,hm⟩:∃ m,ys.length=m+1:=⟨ys.length - 1,oM⟩
  have t1:AP xs++(AP ys).take 7=AP (xs++ys.take 1):=by rw[D5,<-IP]
  have t2:(AP ys).drop 7=AP (ys.drop 1):=by rw[<-IC]
  have a5:=hR.own;rw[hm]at a5 ⊢;refine(XE (P1:=λa W'=>w<=a/\AJ W' (λb=>w<=b/\b<W') 0 (a,(xs++ys.take 1).map LE.ent)) (P2:=λa W'=>w<=a/\AJ W' (λb=>w<=b/\b<W') 0 (a,(ys.drop 1).map LE.ent))
   hL.own a5 hb a4 (Ds xs) (Ds ys) trivial oM oM oM (λW s hW Z=>?_) (λW s hW Z=>?_) (λa W W' _ h hs=>⟨h.1,VI hG h.2 hs⟩)).mono ?_
  ·rw [t1] at Z
   exact IW hW hG (by rw[aj,au];omega) (by rw[aj,au];omega) Z (λx N=>by
    rcases aL.1 N with N|N
    .exact a0 x N
    exact a2 x (bj N)) (by have:=I.take (xs.length+1);rwa[List.take_length_add_append]at this)
  ·rw [t2] at Z
   exact IW hW hG (by rw[az];omega) (by rw[az];omega) Z (λx N=>a2 x (aS N)) (by have:=I.drop (xs.length+1);rwa[dn]at this)
  rintro e w' ⟨a,b,rfl,-,-,h1,h2,hs⟩;refine⟨F8 w' a b _ _ h1 h2 ?_,hs⟩;rw[CY,eL oM,eN oM,<-el,<-er,aB,db,cR]
 have t1:AP xs++AP ys=AP (xs++ys):=by rw[D5]
 refine(nj (P1:=λa W'=>w<=a/\AJ W' (λb=>w<=b/\b<W') 0 (a,(xs++ys).map LE.ent)) hL.own hR.own hb (Ds ys) oM oM (λW s hW Z=>?_)).mono ?_
 ·rw [t1] at Z
  exact IW hW hG (by rw[aj]) (by rw[aj];omega) Z (λx N=>by
   rcases aL.1 N with N|N
   .exact a0 x N
   exact a2 x N) I
 rintro e w' ⟨a,rfl,-,h1,hs⟩;refine⟨⟨[((a,(xs++ys).map LE.ent):PT 0)],rfl,⟨?_,Ld (α:=PT 0) h1.1⟩,Ld (α:=PT 0) (h1.2.mono λi hi=>.inr hi)⟩,hs⟩;show[(xs++ys).map LE.ent]=_;rw[CY,eL oM,eL oM,<-el,<-er,aB]
def Pm(I:∀b,G b->b<w.heap.size)(hF:∀b,F b->b<w.heap.size/\¬G b)(N:w.heap.size<=W.heap.size){t:PT h}(Z:AJ W (Up F w W) h t)(hs:St G W W'):AJ W' (Up F w W') h t:=
 (Z.agree (hs.agree.mono λi hi=>hi.elim (λh=>⟨Nat.lt_of_lt_of_le (hF i h).1 N,(hF i h).2⟩) λh=>⟨h.2,λhh=>by have:=I i hh;omega⟩)).mono λi hi=>hi.imp_right λh=>⟨h.1,ab h.2 hs.size⟩
def JI{ks:List (PT h)}(N:St G w W)(hF:∀b,F b->¬G b)(hn:n=ks.length)(h2:2<=ks.length)(h8:ks.length<=8)(hr:Rd W (Lt W) 1 s n (ptrs h ks))(I:Kids w F h ks) :
  Calls prog 32 #[.slice s.a n s.c] W (F6 (λa W'=>w<=a/\AJ W' (Up F w W') (h+1) (a,ks)) W):=by
 subst hn;have Z:Kids W F h ks:=⟨λb hb=>ab (I.lt b hb) N.size,λx hx=>(I.isn x hx).agree (N.agree.mono λi hi=>⟨I.lt i hi,hF i hi⟩),I.rise,I.pos,I.sz,I.cn,I.hh⟩;refine(IG hr rfl Z h2 h8).mono ?_;rintro e w' ⟨t,rfl,h1,h2,h3,h4⟩;refine⟨addr (h+1) t,rfl,h2,⟨Nat.le_trans N.size h2,?_⟩,h4⟩;have e1:t=(t.1,ks):=by subst h1;rfl
 rw[e1]at h3;exact h3.mono λi hi=>hi.imp_right λh=>⟨Nat.le_trans N.size h.1,h.2⟩
def Pj(h:Nat)(ks:List (PT h)):∀u∈ptrs h ks,∃p,u=Value.pointer p:=λu hu=>by
 obtain⟨k,-,rfl⟩:=bX.1 hu;exact⟨_,rfl⟩
def LM(h:Nat)(a b:List (PT h)):ptrs h (a++b)=ptrs h a++ptrs h b:=by simp[ptrs]
def L3(h:Nat)(a:List (PT h))(i:Nat):ptrs h (a.drop i)=(ptrs h a).drop i:=by simp[ptrs,List.map_drop]
def WJ{base h:Nat}{sl sr:Sl}{l r:PT (h+1)}(hL:w.ownsRow base 34 1 (.slice sl.a l.2.length sl.c) l.2.length (ptrs h l.2))(hR:w.ownsRow base 34 1 (.slice sr.a r.2.length sr.c) r.2.length (ptrs h r.2))(N:base<=w.heap.size)(a2:∀b,sl.row=some b->sr.row≠some b)
  (hF:∀b,F b->¬Dd sl sr b) (hk:Kids w F h (l.2++r.2)) (l2:3<=l.2.length) (r2:3<=r.2.length) (l8:l.2.length<=8) (r8:r.2.length<=8) (hx:l.2.length+r.2.length<=11) :
  Calls prog 209 #[.slice sl.a l.2.length sl.c,.slice sr.a r.2.length sr.c,.func (.func 32) #[] #[]] w λe w'=>Ja F (h+1) l r w e w'/\St (Dd sl sr) w w':=by
 have hG:∀b,Dd sl sr b->b<w.heap.size:=λb N=>N.elim (λh=>(AM hL h).2) (λh=>(AM hR h).2)
 have a0:∀b,F b->b<w.heap.size/\¬Dd sl sr b:=λb N=>⟨hk.lt b N,hF b N⟩
 have F8:∀(w':AB) (a b:Nat) (zs Z:List (PT h)),(w<=a/\AJ w' (Up F w w') (h+1) (a,zs))->(w<=b/\AJ w' (Up F w w') (h+1) (b,Z))->
   CY l.2 r.2=[zs,Z]->Ja F (h+1) l r w (.returned (.tuple #[.pointer (some a),.pointer (some ⟨b,0,none⟩)])) w':=λw' a b zs Z ha N hp=>by
  refine⟨[((a,zs):PT (h+1)),((b,Z):PT (h+1))],rfl,⟨hp.symm,Jb (α:=PT (h+1)) ha.1 N.1⟩,Jb (α:=PT (h+1)) ha.2 N.2⟩
 by_cases h4:4<l.2.length
 ·obtain ⟨m,hm⟩:∃ m,l.2.length=m+1:=⟨l.2.length - 1,oM⟩
  have t1:(ptrs h l.2).take (m*1)=ptrs h (l.2.take m):=by rw[dH,Lf]
  have t2:(ptrs h l.2).drop (m*1)++ptrs h r.2=ptrs h (l.2.drop m++r.2):=by rw[LM,L3,dH]
  have a1:=hL;rw[hm]at a1 ⊢;refine(pn (P1:=λa W'=>w<=a/\AJ W' (Up F w W') (h+1) (a,l.2.take m)) (P2:=λa W'=>w<=a/\AJ W' (Up F w W') (h+1) (a,l.2.drop m++r.2))
   a1 hR N a2 (Fe h l.2) (Fe h r.2) (Pj h l.2) oM oM r8 (λW s hW I=>?_) (λW s hW I=>?_) (λa W W' hw h hs=>⟨h.1,Pm hG a0 hw.size h.2 hs⟩)).mono ?_
  ·rw [t1] at I
   exact JI hW hF (by rw[au];omega) (by rw[au];omega) (by rw[au];omega) I (by have:=hk.take m;rwa[bn oM]at this)
  ·rw [t2] at I
   exact JI hW hF (by rw[aj,az];omega) (by rw[aj,az];omega) (by rw[aj,az];omega) I (by have:=hk.drop m;rwa[List.drop_append_of_le_length oM]at this)
  rintro e w' ⟨a,b,rfl,-,-,h1,h2,hs⟩;refine⟨F8 w' a b _ _ h1 h2 ?_,hs⟩;rw[CY,eN oM,hm];rfl
 by_cases h5:4<r.2.length
 ·obtain ⟨m,hm⟩:∃ m,r.2.length=m+1:=⟨r.2.length - 1,oM⟩
  have t1:ptrs h l.2++(ptrs h r.2).take 1=ptrs h (l.2++r.2.take 1):=by rw[LM,Lf]
  have t2:(ptrs h r.2).drop 1=ptrs h (r.2.drop 1):=by rw[L3]
  have a3:=hR;rw[hm]at a3 ⊢;refine(WX (P1:=λa W'=>w<=a/\AJ W' (Up F w W') (h+1) (a,l.2++r.2.take 1)) (P2:=λa W'=>w<=a/\AJ W' (Up F w W') (h+1) (a,r.2.drop 1))
   hL a3 N a2 (Fe h l.2) (Fe h r.2) (Pj h r.2) oM oM oM (λW s hW I=>?_) (λW s hW I=>?_) (λa W W' hw h hs=>⟨h.1,Pm hG a0 hw.size h.2 hs⟩)).mono ?_
  ·rw [t1] at I
   exact JI hW hF (by rw[aj,au];omega) (by rw[aj,au];omega) (by rw[aj,au];omega) I (by have:=hk.take (l.2.length+1);rwa[List.take_length_add_append]at this)
  ·rw [t2] at I
   exact JI hW hF (by rw[az];omega) (by rw[az];omega) (by rw[az];omega) I (by have:=hk.drop (l.2.length+1);rwa[dn]at this)
  rintro e w' ⟨a,b,rfl,-,-,h1,h2,hs⟩;refine⟨F8 w' a b _ _ h1 h2 ?_,hs⟩;rw[CY,eL oM,eN oM]
 have t1:ptrs h l.2++ptrs h r.2=ptrs h (l.2++r.2):=by rw[LM]
 refine(nB (P1:=λa W'=>w<=a/\AJ W' (Up F w W') (h+1) (a,l.2++r.2)) hL hR N (Fe h r.2) oM oM (λW s hW I=>?_)).mono ?_
 ·rw [t1] at I
  exact JI hW hF (by rw[aj]) (by rw[aj];omega) (by rw[aj];omega) I hk
 rintro e w' ⟨a,rfl,-,h1,hs⟩;refine⟨⟨[((a,l.2++r.2):PT (h+1))],rfl,⟨?_,Ld (α:=PT (h+1)) h1.1⟩,Ld (α:=PT (h+1)) h1.2⟩,hs⟩;show[l.2++r.2]=_;rw[CY,eL oM,eL oM]
def M4(F:Nat->Prop)(base h:Nat)(s:Sl)(ks:List (PT h))(i:Nat)(w:AB)(e:AC)(w':AB):Prop:=
 ∃(s':Sl) (ks':List (PT h)),e=.returned (.slice s'.a ks'.length s'.c)/\w'.ownsRow base 34 1 (.slice s'.a ks'.length s'.c) ks'.length (ptrs h ks')/\F2 w.heap.size h ks i ks'/\(∀u∈ks',AJ w' (Up F w w') h u)/\St (λb=>s.row=some b) w w'
structure nb(w:AB)(F:Nat->Prop)(base h:Nat)(s:Sl)(ks:List (PT h))(i:Nat)(l r:PT h):Prop where
 own:w.ownsRow base 34 1 (.slice s.a ks.length s.c) ks.length (ptrs h ks)
 base:base<=w.heap.size
 lt:∀b,F b->b<w.heap.size/\s.row≠some b
 isn:∀k∈ks,AJ w F h k
 ok:∀k∈ks,Aj h k/\3<=size h k
 hl:ks[i-1]? = some l
 hr:ks[i-1+1]? = some r
 sum:size h l+size h r<=11
 sorted:Sorted (ks.flatMap (ents h))
 few:(ks.flatMap (ents h)).length<=1000000
 n8:ks.length<=8
 hh:h<=1000000
variable{j:Nat}
def S'{ks:List (PT h)}{l r:PT h}(hs:Sorted (ks.flatMap (ents h)))(N:ks[j]? = some l)(I:ks[j+1]? = some r):Sorted (ents h l++ents h r):=by
 rw[LS N I]at hs;simp only[List.flatMap_append,List.flatMap_cons]at hs;have h2:=(G9 hs).2.1;rw[<-aU]at h2;exact(G9 h2).1
def oP{ks:List (PT h)}{l r:PT h}(N:ks[j]? = some l)(I:ks[j+1]? = some r):(ents h l).length+(ents h r).length<=(ks.flatMap (ents h)).length:=by
 conv=>rhs;rw[LS N I]
 simp only[List.flatMap_append,List.flatMap_cons,List.length_append];omega
def nG{α:Type}{ks:List α}{l r:α}(I:ks[j]? = some l)(N:ks[j+1]? = some r)(a b:α):(ks.set j a).set (j+1) b=ks.take j++[a,b]++ks.drop (j+2):=by
 have h1:=(ai.1 I).1;have h2:=(ai.1 N).1
 conv=>lhs;rw[LS I N]
 rw[dQ _ _ (by rw[au];omega),au,bL oM,cE,ak,dQ _ _ (by rw[au];omega),au,bL oM,show j+1-j=1 from oM];simp
def Yp{α:Type}{ks:List α}{l r:α}(N:ks[j]? = some l)(hr:ks[j+1]? = some r)(a:α):(ks.set j a).take (j+1)++(ks.set j a).drop (j+2)=ks.take j++[a]++ks.drop (j+2):=by
 have h1:=(ai.1 N).1;rw[cp,eN h1];have I:(ks.take j++[a]).length=j+1:=by simp;omega
 have Z:ks.take j++a::ks.drop (j+1)=(ks.take j++[a])++ks.drop (j+1):=oO
 rw[Z,bn oM,aM oM,show j+2=(ks.take j++[a]).length+1 from oM,dn,eH,I]
def Sw{A B e size n:Nat}{v:Value}{xs:List Value}(h:w.ownsRow B e size v n xs)(I:A<=B):w.ownsRow A e size v n xs:=by
 refine⟨h.1,?_⟩;rcases h.2 with hl |⟨g,N,Z,hv,hg,r⟩
 .exact .inl hl
 exact .inr ⟨g,N,Z,hv,an I hg,r⟩
variable{A B:Nat}
def OE.base(h:OE w B s xs)(I:A<=B):OE w A s xs:=⟨Sw h.own I,h.vals.mono λi hi=>⟨⟨Nat.le_trans I hi.1.1,hi.1.2⟩,hi.2⟩,h.few⟩
def SR{ts:List (PT h)}(I:ts.length=1\/ts.length=2):∃u v,two h ts=.returned (.tuple #[u,v]):=by
 match ts,I with
 |[a],_=>exact⟨_,_,rfl⟩
 |[a,b],_=>exact⟨_,_,rfl⟩
def nY{base h i:Nat}{ks:List (PT h)}{l r:PT h}(hm:nb w F base h s ks i l r) :
  Calls prog 180 #[.slice s.a ks.length s.c,.int .i64 (i:Int)] w (M4 F base h s ks i w):=by
 obtain⟨j,g7⟩:∃j,i-1=j:=⟨_,rfl⟩;have hj:j+1<ks.length:=by have:=(ai.1 hm.hr).1;omega
 obtain⟨g,a3,rfl,l3,l0,l6,e7⟩:=Dg hm.own oM;have a2:=hm.own;have Z:=hY hm;have g3:ks[j]? = some l:=by rw[<-g7];exact hm.hl
 have g6:ks[j+1]? = some r:=by rw[<-g7];exact hm.hr
 have cc:∀q u,(ptrs h ks)[q]? = some u->w.cell? ⟨g,q,none⟩=some u:=λq u hq=>by
  have:=a2.cells (g:=g) rfl q u hq;rwa[Cb,aF]at this
 have cl:w.cell? ⟨g,j,none⟩=some (ptr h l):=cc j _ (by rw[ptrs,ar,g3];rfl);have cr:w.cell? ⟨g,j+1,none⟩=some (ptr h r):=cc (j+1) _ (by rw[ptrs,ar,g6];rfl);have j2:=ap g3;have k1:=ap g6;have k2:=e7.lt;have l7:=hm.n8;have l8:(j:Int)<(ks.length:Int):=oM
 have k9:(j:Int)+1<(ks.length:Int):=oM
 have l5:(0:Int)<=(j:Int):=oM
 have l1:(0:Int)<=(j:Int)+1:=oM
 have l2:((j:Int)+1).toNat=j+1:=oM
 obtain⟨c6,k7,a0,a1,k5⟩:=Yf g7 (λW (hW:Agree F w W)=>Dw ((hm.isn l j2).agree hW)) g3 g6 e7.frozen;clear a2 cc e7 hm g3 g6 j2 k1 g7;go_in;go_upto_region 1 with fail;go_cut [1] (λv wc=>v=.int .i64 (j:Int)/\w=wc)
 case first=>
  have h0:=c6.o;rcases i with _|i
  ·obtain rfl:0=j:=h0
   go_wp2_with fail;go_meet;exact⟨rfl,rfl⟩
  obtain rfl:i=j:=h0;go_wp2_with fail;go_meet;exact⟨by go_num,rfl⟩
 case rest=>
 obtain⟨rfl,rfl⟩:=hcut;have l4:IntKind.i64.wrap ((j:Int)+1)=(j:Int)+1:=by rw[eS];omega
 go_wp2_with fail;go_quiet (fail);go_wp2_with fail;have a9:Ext w (w.drewN nq):=(gz w).drewN nq;refine(k7.o _ (Agree.drewN w nq)).mono ?_;rintro e w0 ⟨rfl,rfl⟩;generalize w.drewN nq=W at *;clear cl cr;go_upto_if 21 with fail;go_cut [5,6] (λv5 v6 wc=>∃ts:List (PT h),two h ts=.returned (.tuple #[v5,v6])/\Yd (Ext w wc/\Dy w.heap.size h l r ts/\∀u∈ts,AJ wc (Up F w wc) h u))
 case first=>
  cases h with
  | zero=>
    have b3:=Gl (w:=W) ((((Z.o.isn l (ap a0.o)).agree (a9.agree λb I=>(Z.o.lt b I).1))).mono λb I=>ab (Z.o.lt b I).1 a9.size);have g9:∀W',Ext W W'->Calls prog 49 #[ptr 0 r] W' (Et (ents 0 r) W'):=λW' g0=>Gl ((((Z.o.isn r (ap a1.o)).agree ((a9.trans g0).agree λb I=>(Z.o.lt b I).1))).mono λb I=>ab (Z.o.lt b I).1 (a9.trans g0).size)
    obtain⟨k0,e4⟩:=Yb g9 a9;clear g9 a9;go_wp2_with fail;refine b3.mono ?_;intro e w1 hp;obtain⟨sx,xs,rfl,j6,e8,b8⟩:=hp;obtain⟨g5,c7,d0⟩:=Yc j6 e8 b8;have d6:=k0.o w1 b8;clear b3 j6 e8 b8;go_wp2_with fail;refine d6.mono ?_;intro e w2 hp;obtain⟨sy,ys,rfl,d9,a8,a5⟩:=hp;have a6:∀b,sx.row=some b->W.heap.size<=b/\b<w1.heap.size:=λb I=>AM c7.o.own I
    have a7:∀b,sy.row=some b->w1.heap.size<=b/\b<w2.heap.size:=λb I=>AM a8.own I
    have f6:=d0.o.size;have g4:=a5.size;have b5:=c7.o.ext a5;have b6:OE w2 W.heap.size sy ys:=a8.base f6
    have j4:xs.length≤8:=by have:=(Z.o.ok l (ap a0.o)).1;have e1:xs.length=l.2.length:=by rw [show l.2=ents 0 l from rfl,←g5.o,aq]
                            rw[e1];exact this
    have j0:ys.length≤8:=by have:=(Z.o.ok r (ap a1.o)).1;have e1:ys.length=r.2.length:=by rw [show r.2=ents 0 r from rfl,←d9,aq]
                            rw[e1];exact this
    have i0:xs.length+ys.length<=11:=by
     have e1:xs.length=size 0 l:=by rw[show size 0 l=(ents 0 l).length from rfl,<-g5.o,aq]
     have e2:ys.length=size 0 r:=by rw[show size 0 r=(ents 0 r).length from rfl,<-d9,aq]
     rw[e1,e2];exact Z.o.sum
    have d3:Dp (xs++ys):=Lv (by rw[aB,g5.o,d9];exact S' Z.o.sorted a0.o a1.o);have f4:=nh b5 b6 (an f6 g4) (λb I d8=>by have:=a6 b I;have:=a7 b d8;omega)
     (λx N=>⟨((c7.o.vals x N).1.agree (a5.agree λb I=>I.1.2)).mono λb I=>⟨Nat.lt_of_lt_of_le I.1.2 g4,λh=>h.elim (λh=>I.2 h) (λh=>by have:=a7 b h;have:=I.1.2;omega)⟩,(c7.o.vals x N).2⟩)
     (λx N=>⟨(a8.vals x N).1.mono λb I=>⟨I.1.2,λh=>h.elim (λh=>by have:=a6 b h;have:=I.1.1;omega) (λh=>I.2 h)⟩,(a8.vals x N).2⟩)
     d3 j4 j0 i0 (l:=l) (r:=r) g5.o d9
    have c8:=e4.o.trans (d0.o.trans a5);obtain⟨b7,i4,i8⟩:=Yc c8 a6 a7;have k4:=e4.o.size;clear d6 d9 a8 a5 a6 a7 b5 b6 d3 j4 j0 i0 c8;go_wp2_with fail;refine f4.mono ?_;rintro e w3 ⟨⟨ts,rfl,hP,hI⟩,e6⟩;have a4:Yd (Ext w w3/\Dy w.heap.size 0 l r ts/\∀u∈ts,AJ w3 (Up F w w3) 0 u):=hY ⟨b7.o.step e6 (λb I=>I.elim (λh=>by have:=i4.o b h;omega) (λh=>by have:=i8.o b h;omega)),hP.mono (b7.o.size),λu hu=>(hI u hu).mono λi hi=>hi.elim (λh=>h.elim) λh=>.inr ⟨Nat.le_trans b7.o.size h.1,h.2⟩⟩;clear f4 hP hI e6;obtain⟨u,v,e3⟩:=SR (a4.o.2.1.len);rw[e3];go_wp2_with fail;go_meet;exact⟨ts,e3,a4⟩
  | succ h=>
    have hz:(((h:Int)+1)==0)=false:=eP.2 oM;have i6:∀W',Ext W W'->∀x,x∈ks->Calls prog 54 #[ptr (h+1) x] W' (NK 34 x.2.length (ptrs h x.2) W'):=λW' g0 x N=>FZ ((Z.o.isn x N).agree ((a9.trans g0).agree λb I=>(Z.o.lt b I).1)) (by have:=(Z.o.ok x N).1.2.1;omega)
    have b3:=i6 W (gz W) l (ap a0.o);obtain⟨j9,e4⟩:=Yb i6 a9;clear i6 a9;go_wp2_with fail;refine b3.mono ?_;rintro e w1 ⟨sx,rfl,e8,b8⟩;obtain⟨c7,d0⟩:=Yb e8 b8;have d6:=j9.o w1 b8 r (ap a1.o);clear b3 e8 b8;go_wp2_with fail;refine d6.mono ?_;rintro e w2 ⟨sy,rfl,a8,a5⟩;have a6:∀b,sx.row=some b->W.heap.size<=b/\b<w1.heap.size:=λb I=>AM c7.o I
    have a7:∀b,sy.row=some b->w1.heap.size<=b/\b<w2.heap.size:=λb I=>AM a8 I
    have f6:=d0.o.size;have g4:=a5.size;have k4:=e4.o.size;have b5:w2.ownsRow W.heap.size 34 1 (.slice sx.a l.2.length sx.c) l.2.length (ptrs h l.2):=AZ c7.o (a5.agree (F:=Lt w1) λ_ h=>h) λb I=>(a6 b I).2
    have b6:w2.ownsRow W.heap.size 34 1 (.slice sy.a r.2.length sy.c) r.2.length (ptrs h r.2):=Sw a8 f6;have d5:=Z.o.ok l (ap a0.o);have f0:=Z.o.ok r (ap a1.o);have c8:=e4.o.trans (d0.o.trans a5);have i9:=S' Z.o.sorted a0.o a1.o;have j7:=oP (ks:=ks) a0.o a1.o;have c9:∀x∈l.2++r.2,Aj h x/\4<=size h x/\AJ w F h x:=λx N=>by
     rcases aL.1 N with N|N
     .exact ⟨(d5.1.2.2 x N).1,(d5.1.2.2 x N).2,(Z.o.isn l (ap a0.o)).2.choose_spec.2.2 x N⟩
     exact⟨(f0.1.2.2 x N).1,(f0.1.2.2 x N).2,(Z.o.isn r (ap a1.o)).2.choose_spec.2.2 x N⟩
    have f2:∀x∈l.2++r.2,0<(ents h x).length:=λx N=>ER h x (c9 x N).1 (by have:=(c9 x N).2.1;omega)
    have i1:Sorted ((l.2++r.2).flatMap (ents h)):=by rw[aT];exact i9
    have f3:Kids w2 F h (l.2++r.2):=⟨λb I=>ab (Z.o.lt b I).1 c8.size,λx N=>(c9 x N).2.2.agree (c8.agree λb I=>(Z.o.lt b I).1),Jg i1 f2,f2,λx N=>by have:=G8 (c9 x N).1;omega,by
     unfold cnt;rw[aT,aj];have h1:(ents (h+1) l).length+(ents (h+1) r).length<=1000000:=an j7 Z.o.few;have h2:(l.2.flatMap (ents h)).length=(ents (h+1) l).length:=rfl;have h3:(r.2.flatMap (ents h)).length=(ents (h+1) r).length:=rfl;omega,by have:=Z.o.hh;omega⟩
    have f4:=WJ (F:=F) (l:=l) (r:=r) b5 b6 (an f6 g4) (λb I d8=>by have:=a6 b I;have:=a7 b d8;omega)
     (λb I d8=>by
       have:=(Z.o.lt b I).1;rcases d8 with h|h
       .have:=a6 b h;omega
       have:=a7 b h;omega) f3 d5.2 f0.2 d5.1.2.1 f0.1.2.1 Z.o.sum
    obtain⟨b7,i4,i8⟩:=Yc c8 a6 a7;clear d6 a8 a5 a6 a7 b5 b6 c8 i9 j7 c9 f2 i1 f3 d5 f0;go_wp2_with fail;refine f4.mono ?_;rintro e w3 ⟨⟨ts,rfl,hP,hI⟩,e6⟩;have a4:Yd (Ext w w3/\Dy w.heap.size (h+1) l r ts/\∀u∈ts,AJ w3 (Up F w w3) (h+1) u):=hY ⟨b7.o.step e6 (λb I=>I.elim (λh=>by have:=i4.o b h;omega) (λh=>by have:=i8.o b h;omega)),hP.mono (b7.o.size),λu hu=>(hI u hu).mono λi hi=>hi.imp_right λh=>⟨Nat.le_trans b7.o.size h.1,h.2⟩⟩;clear f4 hP hI e6;obtain⟨u,v,e3⟩:=SR (a4.o.2.1.len);rw[e3];go_wp2_with fail;go_meet;exact⟨ts,e3,a4⟩
 case rest=>
 obtain⟨ts,j3,a4⟩:=hcut;obtain⟨f1,hP,hI⟩:=a4.o;have b9:wc.ownsRow base 34 1 (.slice (some g) ks.length a3) ks.length (ptrs h ks):=AZ (s:=⟨some g,a3⟩) Z.o.own (f1.agree (F:=Lt w) λ_ h=>h) λb I=>(AM Z.o.own I).2
 have k8:∀o,wc.frozen? ⟨g,o,none⟩=false:=λo=>(f1.frozen k2).trans (k5.o o)
 have i5:∀q u,(ptrs h ks)[q]? = some u->wc.cell? ⟨g,q,none⟩=some u:=λq u hq=>by
  have:=b9.cells (g:=g) rfl q u hq;rwa[Cb,aF]at this
 have dl:wc.cell? ⟨g,j,none⟩=some (ptr h l):=i5 j _ (by rw[ptrs,ar,a0.o];rfl);have dr:wc.cell? ⟨g,j+1,none⟩=some (ptr h r):=i5 (j+1) _ (by rw[ptrs,ar,a1.o];rfl);have j8:j<ks.length:=oM
 obtain⟨f5,i7,HP,HI⟩:=Ye b9 f1 hP hI;have b0:=hP.len;have j5:∀W' x,F x\/(w.heap.size<=x/\x<W')->x≠g:=λW' x N e=>by
  subst e;rcases N with h|h
  .exact (Z.o.lt x h).2 rfl
  omega
 have f9:∀x,F x->x<w.heap.size:=λx N=>(Z.o.lt x N).1
 have j1:∀k∈ks,AJ wc (Up F w wc) h k:=λk hk=>((Z.o.isn k hk).agree (f1.agree f9)).mono λi hi=>.inl hi
 obtain⟨f7,f8⟩:=Yb j1 j5;clear b9 i5 f1 hP hI j1 j5;rcases b0 with b0|b0
 ·obtain ⟨a,rfl⟩:=List.length_eq_one_iff.1 b0
  cases(show Ending.returned (.tuple #[ptr h a,.pointer none])=_ from j3);have b4:∀w5,Wr (wc.setCell ⟨g,j,none⟩ (ptr h a)) w5 (some g)->w5.ownsRow base 34 1 (.slice (some g) (ks.length-1) a3) (ks.length-1) (((ptrs h ks).set j (ptr h a)).take ((j+1)*1)++((ptrs h ks).set j (ptr h a)).drop ((j+1+1)*1))->
    M4 F base h ⟨some g,a3⟩ ks i w (.returned (.slice (some g) (ks.length-1) a3)) w5:=λw5 i2 a2=>by
   have hz:wc.heap.size<=w5.heap.size:=by have:=i2.grown.size;rwa[eX]at this
   have i3:Agree (Up F w wc) wc w5:=(gD wc ⟨g,j,none⟩ _ (λh=>f8.o _ g h rfl)).trans (i2.agree (λi hi=>by rw[eX];exact hi.elim (λh=>ab (f9 i h) i7.o.size) λh=>h.2) (λk hk h=>by cases hk;exact f8.o _ g h rfl));have k6:∀i,Up F w wc i->Up F w w5 i:=λi hi=>hi.imp_right λh=>⟨h.1,ab h.2 hz⟩
   have e0:(ptrs h ks).set j (ptr h a)=ptrs h (ks.set j a):=by rw[ptrs,ptrs,dK]
   have e1:((ptrs h ks).set j (ptr h a)).take ((j+1)*1)++((ptrs h ks).set j (ptr h a)).drop ((j+1+1)*1)=ptrs h (ks.take j++[a]++ks.drop (j+2)):=by
    rw[e0,dH,dH,<-Lf,<-L3,<-LM,Yp a0.o a1.o]
   have e2:(ks.take j++[a]++ks.drop (j+2)).length=ks.length-1:=by simp only[List.length_append,List.length_take,List.length_drop,List.length_cons,List.length_nil];omega
   rw[e1]at a2;refine⟨⟨some g,a3⟩,ks.take j++[a]++ks.drop (j+2),by rw[e2],by rw[e2];exact a2,⟨l,r,[a],by rw[c6.o];exact a0.o,by rw[c6.o];exact a1.o,HP.o,by rw[c6.o]⟩,λu hu=>?_,(((i7.o.st (λb=>(⟨some g,a3⟩:Sl).row=some b)).set (p:=⟨g,j,none⟩) (.inr rfl) _).trans (i2.st λi hi=>hi))⟩;refine AJ.mono k6 (AJ.agree i3 ?_);rcases aL.1 hu with hu|hu
   ·rcases aL.1 hu with hu | hu
    .exact f7.o u (bj hu)
    exact HI.o u hu
   exact f7.o u (aS hu)
  have hd:=oG (s:=⟨some g,a3⟩) (n:=ks.length) (xs:=(ptrs h ks).set j (ptr h a)) (i:=j+1) (G1 f5.o j8 (ptr h a)) oM oM (λu hu=>by
   rcases cG hu with hu|rfl
   .exact Fe h ks u hu
   rfl)
  have q1:((j+1:Nat):Int)=((j:Int)+1):=oM
  have q2:((j:Int)+1)+1=((j:Int)+2):=oM
  rw[q1,q2]at hd;obtain⟨HD,d7⟩:=Yb hd b4;clear hd b4 q1 q2 f9;go_wp2_with fail;refine HD.o.mono ?_;rintro e w5 ⟨rfl,d4,g8⟩;have k3:=hY (d7.o w5 g8 d4);clear d4 g8;go_wp2_with fail;go_ret;exact k3.o
 obtain⟨a,b,rfl⟩:∃a b,ts=[a,b]:=by
  match ts,b0 with
  |[a,b],_=>exact⟨a,b,rfl⟩
 cases(show Ending.returned (.tuple #[ptr h a,ptr h b])=_ from j3);have b4:M4 F base h ⟨some g,a3⟩ ks i w (.returned (.slice (some g) ks.length a3)) ((wc.setCell ⟨g,j,none⟩ (ptr h a)).setCell ⟨g,j+1,none⟩ (ptr h b)):=by
  have i3:Agree (Up F w wc) wc ((wc.setCell ⟨g,j,none⟩ (ptr h a)).setCell ⟨g,j+1,none⟩ (ptr h b)):=(gD wc ⟨g,j,none⟩ _ (λh=>f8.o _ g h rfl)).trans (gD _ ⟨g,j+1,none⟩ _ (λh=>f8.o _ g h rfl));have e0:((ptrs h ks).set j (ptr h a)).set (j+1) (ptr h b)=ptrs h ((ks.set j a).set (j+1) b):=by rw[ptrs,ptrs,dK,dK]
  have e2:(ks.take j++[a,b]++ks.drop (j+2)).length=ks.length:=by simp only[List.length_append,List.length_take,List.length_drop,List.length_cons,List.length_nil];omega
  have a2:=G1 (G1 f5.o j8 (ptr h a)) (i:=j+1) oM (ptr h b);rw[e0,nG a0.o a1.o]at a2;refine⟨⟨some g,a3⟩,ks.take j++[a,b]++ks.drop (j+2),by rw[e2],by rw[e2];exact a2,⟨l,r,[a,b],by rw[c6.o];exact a0.o,by rw[c6.o];exact a1.o,HP.o,by rw[c6.o]⟩,λu hu=>?_,(((i7.o.st (λb=>(⟨some g,a3⟩:Sl).row=some b)).set (p:=⟨g,j,none⟩) (.inr rfl) _).set (p:=⟨g,j+1,none⟩) (.inr rfl) _)⟩;refine AJ.mono (λi hi=>hi.imp_right λh=>⟨h.1,by simpa using h.2⟩) (AJ.agree i3 ?_);rcases aL.1 hu with hu|hu
  ·rcases aL.1 hu with hu | hu
   .exact f7.o u (bj hu)
   exact HI.o u hu
  exact f7.o u (aS hu)
 have d7:=hY b4;clear b4 f9;go_wp2_with fail;go_ret;exact d7.o
def Wk(nv:Value)(es:List AD)(k:AA)(w:AB)(e:AC)(w':AB):Prop:=
 Ext w w'/\((AH es k=none/\e=.returned (.tuple #[nv,.bool false]))\/
  ((AH es k).isSome=true/\∃u:PT 0,e=.returned (.tuple #[ptr 0 u,.bool true])/\u.2=Ac es k/\w.heap.size<=u.1/\AJ w' (In w.heap.size w'.heap.size) 0 u))
def TQ{es:List AD}(hs:Sorted es)(k:AA):decide ((es[Aq es k]?).map Prod.fst=some k)=(AH es k).isSome:=by
 rw[I9 hs];cases N:es[Aq es k]? with
 |none=>simp
 |some e=>by_cases I:e.1=k<;>simp[I]
variable{nv:Value}
def OC{es:List AD}(hp:∃p,nv=.pointer p)(hh:Calls prog 48 #[nv] w λe w'=>e=.returned (.int .i64 0)/\w=w')(he:Calls prog 49 #[nv] w (Et es w))
  (hs:Sorted es) (h8:es.length<=8) (k:AA):Calls prog 145 #[nv,k] w (Wk nv es k w):=by
 obtain⟨pp,rfl⟩:=hp;have HS:=hY hs;clear hs;go_in;go_wp2_with fail;refine hh.mono ?_;rintro e w1 ⟨rfl,rfl⟩;go_wp2_with fail;refine he.mono ?_;intro e w1 hp;obtain⟨s,xs,rfl,Z,ho,b7⟩:=hp;have I:=T4 (w:=w1) (s:=s) (xs:=xs) (ho.es.mono λi hi=>hi.2) k (by rw[Z];exact HS.o);rw[Z]at I;have b5:xs.length=es.length:=by rw[<-Z,aq]
 obtain⟨c9,HO,b0⟩:=Yc Z ho b7;have d3:xs.length<=8:=oM
 have b9:=hY b5;obtain⟨p,hp⟩:∃p,Aq es k=p:=⟨_,rfl⟩;unfold M6 at I;rw[TQ HS.o,hp]at I;have HP:=hY hp;clear Z ho b7 he hh b5 hp;cases hg:AH es k with
 | none=>
   rw[hg]at I;have HG:=hY hg;clear hg;go_wp2_with fail;refine I.mono ?_;rintro e w2 ⟨rfl,N⟩;have a5:=hY (b0.o.trans N);clear I N;go_wp2_with fail;go_ret2;exact⟨a5.o,.inl ⟨HG.o,rfl⟩⟩
 | some v=>
   rw[hg]at I;have c8:p<xs.length:=by
    have h1:=I9 HS.o k;rw[hg,HP.o]at h1;rcases eh p xs.length with h|h
    .exact h
    rw[aN (by rw[<-b9.o];exact h)]at h1;cases h1
   have b8:Ac es k=es.take p++es.drop (p+1):=by
    have h1:=Uj HS.o k;have h2:=TQ HS.o k;rw[hg]at h2;rw[eN (gp h2),HP.o]at h1;exact h1
   obtain⟨HG,c6⟩:=Yb hg b8;have d4:IntKind.i64.wrap ((p:Int)+1)=(p:Int)+1:=by rw[eS];omega
   clear hg b8;go_wp2_with fail;refine I.mono ?_;rintro e w2 ⟨rfl,N⟩;have a3:=HO.o.ext N;have hd:=Y3 (i:=p) a3.own oM c8 (Ds xs);obtain⟨a6,a5⟩:=Yb a3 (b0.o.trans N);clear I N a3;go_wp2_with fail;refine hd.mono ?_;rintro e w3 ⟨rfl,a0,a1⟩;have a2:∀i,s.row=some i->w.heap.size<=i/\i<w2.heap.size:=λi hi=>AM a6.o.own hi
   have e1:(AP xs).take (p*7)++(AP xs).drop ((p+1)*7)=AP (xs.take p++xs.drop (p+1)):=by rw[IP,IC,D5]
   rw[e1]at a0;have b3:Ext w w3:=a5.o.wr a1 (λi hi=>(a2 i hi).1);have b6:ES w3 (Lt w3) s (xs.take p++xs.drop (p+1)):=Ot (by rw[aj,au,az];omega) ((gF a0).mono λi hi=>hi.2)
    (λx hx=>by
      have a9:x∈xs:=by
       rcases aL.1 hx with hx|hx
       .exact bj hx
       exact aS hx
      exact⟨((a6.o.vals x a9).1.agree (a1.agree (λi hi=>hi.1.2) (λk hk h=>h.2 hk))).mono λi hi=>ab hi.1.2 a1.grown.size,(a6.o.vals x a9).2⟩) (by rw[aj,au,az];omega)
   have a8:(xs.take p++xs.drop (p+1)).map LE.ent=Ac es k:=by rw[aB,db,cR,c9.o,c6.o]
   have a7:=Is (n:=xs.length-1) b6 (by rw[aj,au,az];omega) (Lv (by rw[a8];exact EI HS.o k)) (by rw[aj,au,az];omega);rw[a8]at a7;have a4:=hY b3;clear hd a0 a1 a2 e1 b3 b6 a8;go_wp2_with fail;refine a7.mono ?_;rintro e w4 ⟨u,rfl,hu,d0,b4,c7⟩;have HU:=hY b4;clear a7 b4;go_wp2_with fail;go_ret2;exact⟨a4.o.trans c7,.inr ⟨by rw[HG.o];rfl,u,rfl,hu,an a4.o.size d0,HU.o.mono λi hi=>⟨Nat.le_trans a4.o.size hi.1,hi.2⟩⟩⟩
def OB(F:Nat->Prop)(h:Nat)(t:PT h)(k:AA)(w:AB)(e:AC)(w':AB):Prop:=
 Ext w w'/\((AH (ents h t) k=none/\e=.returned (.tuple #[ptr h t,.bool false]))\/
  ((AH (ents h t) k).isSome=true/\∃u:PT h,e=.returned (.tuple #[ptr h u,.bool true])/\C9 w.heap.size k h t u/\AJ w' (Up F w w') h u))
def nP(F:Nat->Prop)(h:Nat)(t:PT (h+1))(k:AA)(w:AB)(e:AC)(w':AB):Prop:=
 Ext w w'/\((AH (ents (h+1) t) k=none/\e=.returned (.tuple #[ptr (h+1) t,.bool false]))\/
  ((AH (ents (h+1) t) k).isSome=true∧∃ ks':List (PT h),D3 w.heap.size k h (C9 w.heap.size k h) t.2 ks'∧
    ((∃ u,ks'=[u]∧e=.returned (.tuple #[ptr h u,.bool true])∧AJ w' (Up F w w') h u)∨
     (2<=ks'.length/\∃c:PT (h+1),c.2=ks'/\w.heap.size<=addr (h+1) c/\e=.returned (.tuple #[ptr (h+1) c,.bool true])/\AJ w' (Up F w w') (h+1) c))))
def om(F:Nat->Prop)(h:Nat)(ks':List (PT h))(w:AB)(e:AC)(w':AB):Prop:=
 Ext w w'/\((∃u,ks'=[u]/\e=.returned (ptr h u)/\AJ w' (Up F w w') h u)\/(2<=ks'.length/\∃c:PT (h+1),c.2=ks'/\w.heap.size<=addr (h+1) c/\e=.returned (ptr (h+1) c)/\AJ w' (Up F w w') (h+1) c))
variable{w6:AB}
def Sg{k:AA}{t:PT (h+1)}{s6:Sl}{I:List (PT h)}(hF:∀b,F b->b<w.heap.size)(ok:Aj (h+1) t)(hs:Sorted (ents (h+1) t))(hc:(ents (h+1) t).length<=1000000)(hh:h+1<1000000)(hg:(AH (ents (h+1) t) k).isSome=true)
  (hX:Ext w w6) (Z:w6.ownsRow w.heap.size 34 1 (.slice s6.a I.length s6.c) I.length (ptrs h I)) (hD:D3 w.heap.size k h (C9 w.heap.size k h) t.2 I) (hI:∀u∈I,AJ w6 (Up F w w6) h u) :
  Calls prog 32 #[.slice s6.a I.length s6.c] w6 λe w'=>om F h I w e w':=by
 obtain⟨h1,h2,h3⟩:=JS hD ok hs hg;have a7:=ok.1;have a8:=ok.2.1;by_cases a2:I.length=1
 ·obtain ⟨u,rfl⟩:=List.length_eq_one_iff.1 a2
  refine(XI (s:=s6) (k:=u) (gF Z)).mono ?_;rintro e w' ⟨rfl,rfl⟩;exact⟨hX,.inl ⟨u,rfl,rfl,hI u (aV.2 rfl)⟩⟩
 have a1:=hD.ents hs (Er ok) oM (λx y N hr=>hr.ents (ok.2.2 x N).1 (Dh hs x N));have a3:Sorted (I.flatMap (ents h)):=by rw[a1];exact EI hs k
 have a0:∀x∈I,0<(ents h x).length:=λx N=>ER h x (h1 x N).1 (by have:=(h1 x N).2;omega)
 have hk:Kids w6 (Up F w w6) h I:=⟨λb hb=>hb.elim (λh=>ab (hF b h) hX.size) λh=>h.2,hI,Jg a3 a0,a0,λx N=>by have:=G8 (h1 x N).1;omega,by
  unfold cnt;rw[a1];have h5:(Ac (t.2.flatMap (ents h)) k).length<=(t.2.flatMap (ents h)).length:=(Fz _ k).length_le;have h6:(t.2.flatMap (ents h)).length<=1000000:=hc;omega,oM⟩
 refine(IG ((gF Z).mono λi hi=>hi.2) rfl hk oM oM).mono ?_;rintro e w' ⟨c,rfl,a6,a5,a4,N⟩;refine⟨hX.trans N,.inr ⟨oM,c,a6,an hX.size a5,rfl,a4.mono λi hi=>?_⟩⟩;rcases hi with(hi|hi)|hi
 .exact .inl hi
 .exact .inr ⟨hi.1,ab hi.2 N.size⟩
 exact .inr ⟨Nat.le_trans hX.size hi.1,hi.2⟩
def Ov{k:AA}
  (ih:∀(w:AB) (F:Nat->Prop) (t:PT h),(∀b,F b->b<w.heap.size)->AJ w F h t->Aj h t->4<=size h t->Sorted (ents h t)->(ents h t).length<=1000000->Calls prog 145 #[ptr h t,k] w (OB F h t k w))
 {t:PT (h+1)} (hF:∀ b,F b→b<w.heap.size) (hn:AJ w F (h+1) t) (ok:Aj (h+1) t) (hs:Sorted (ents (h+1) t)) (hc:(ents (h+1) t).length≤1000000) :
  Calls prog 145 #[ptr (h+1) t,k] w (nP F h t k w):=by
 have c6:=Er ok;have hh:h+1<1000000:=ab (G6 (h+1) t ok (by have:=ok.1;show 1<=t.2.length;omega)) hc;obtain⟨I,N,hA,hC⟩:=FM (h:=h) (ks:=t.2) hs c6 (by have:=ok.1;omega) k;have a1:=ap N;have l8:=(ai.1 N).1;have k2:=ok.2.1;have l7:=ok.1;have c7:∀x∈t.2,AJ w F h x:=hn.2.choose_spec.2.2;have d4:(ents h I).length<=1000000:=an (by
  show _<=(t.2.flatMap (ents h)).length;rw[Ef N];simp only[List.flatMap_append,List.flatMap_cons,List.length_append];omega) hc
 have f0:AH (ents (h+1) t) k=AH (ents h I) k:=Lb N hA hC;have b0:∀W,Ext w W->Calls prog 145 #[ptr h I,k] W (OB F h I k W):=λW hW=>
  ih W F I (λb Z=>ab (hF b Z) hW.size) ((c7 I a1).agree (hW.agree hF)) (ok.2.2 I a1).1 (ok.2.2 I a1).2 (Dh hs I a1) d4
 have i1:∀B u,(AH (ents (h+1) t) k).isSome=true->C9 B k h I u->Aj h u/\size h I<=size h u+1/\size h u<=size h I:=λB u hg hr=>hr.ok (ok.2.2 I a1).1 (ok.2.2 I a1).2 (Dh hs I a1) (by rw[<-f0];exact hg)
 obtain⟨HF,HN,HS,HP,k5,j1,a3⟩:=Yh hF hn hs c6 b0 c7 N;obtain⟨k0,a9,HC,k9⟩:=Ye f0 ok hc i1;have o2:(((h:Int)+1)==0)=false:=eP.2 oM;clear hF hn ok hs hc c6 b0 c7 N hA hC ih d4 f0 i1;go_in;go_wp2_with fail;refine(Dw HN.o).mono ?_;rintro e w1 ⟨rfl,rfl⟩;have d4:=FZ HN.o oM;go_wp2_with fail;refine d4.mono ?_;rintro e w1 ⟨s',rfl,b7,d8⟩;have j9:Rd w1 (Lt w1) 1 s' t.2.length (ptrs h t.2):=(gF b7).mono λi hi=>hi.2
 have f4:=M7 j9 (λx hx=>(j1.o x hx).agree (d8.agree HF.o)) (λb Z=>ab (HF.o b Z) d8.size) HP.o k HS.o oM;obtain⟨i,hi⟩:∃i,A6 h t.2 k=i:=⟨_,rfl⟩;rw[hi]at f4 l8;obtain⟨HI,k6,f7,k3⟩:=Ye hi f4 b7 d8;clear hi f4 b7 j9 d4 d8;go_wp2_with fail;refine k6.o.mono ?_;rintro e w2 ⟨rfl,e8⟩;have f9:=k3.o.trans e8;obtain⟨g,a0,rfl,b6,o3,o7,i8⟩:=Dg f7.o oM;have d9:w2.ownsRow w.heap.size 34 1 (.slice (some g) t.2.length a0) t.2.length (ptrs h t.2):=AZ (s:=⟨some g,a0⟩) f7.o (e8.agree (F:=Lt w1) λ_ h=>h) λb Z=>(AM f7.o Z).2
 have k1:w2.cell? ⟨g,i,none⟩=some (ptr h I):=by
  have:=d9.cells (g:=g) rfl i (ptr h I) (by rw[ptrs,ar,<-HI.o,a3.o];rfl);rwa[Cb,aF]at this
 have n9:(i:Int)<(t.2.length:Int):=oM
 have l9:g<w2:=(AM (s:=⟨some g,a0⟩) d9 rfl).2;have b0:=k5.o w2 f9;obtain⟨i0,b5⟩:=Yb d9 f9;clear e8 d9 f9 i8;go_wp2_with fail;refine b0.mono ?_;rintro e w3 ⟨a4,(⟨hg,rfl⟩ |⟨hg,u,rfl,e2,g4⟩)⟩
 ·have l4:=hY (b5.o.trans a4)
  have HG:=hY hg;clear a4 hg b0;go_wp2_with fail;go_ret2;exact⟨l4.o,.inl ⟨by rw[k0.o];exact HG.o,rfl⟩⟩
 have f1:(AH (ents (h+1) t) k).isSome=true:=by rw[k0.o];exact hg
 obtain⟨ou,o8,o6⟩:=k9.o _ u f1 e2;have i7:3<=size h u:=by have:=(a9.o.2.2 I (ap a3.o)).2;omega
 have n8:size h u<=8:=G8 ou;have n7:=a4.size;have g8:=b5.o.size;have f8:∀b,Up F w2 w3 b->b≠g:=λb Z e=>by
  subst e;rcases Z with Z|Z
  .have:=HF.o _ Z;have b6:w<=b:=b6;omega
  omega
 have a5:w3.ownsRow w.heap.size 34 1 (.slice (some g) t.2.length a0) t.2.length (ptrs h t.2):=AZ (s:=⟨some g,a0⟩) i0.o (a4.agree (F:=Lt w2) λ_ h=>h) λb Z=>(AM (s:=⟨some g,a0⟩) i0.o Z).2
 have a7:=G1 a5 (i:=i) oM (ptr h u);have e0:(ptrs h t.2).set i (ptr h u)=ptrs h (t.2.set i u):=by rw[ptrs,ptrs,dK]
 rw[e0]at a7;have n4:w3.cell? ⟨g,i,none⟩=some (ptr h I):=(a4.cell l9).trans k1;have l5:∀o,w3.frozen? ⟨g,o,none⟩=false:=by
  obtain⟨g',j2,e1,-,-,-,d5⟩:=Dg (s:=⟨some g,a0⟩) a5 oM;obtain⟨rfl,rfl⟩:g=g'/\a0=j2:=by simpa using e1
  exact d5.frozen
 have j8:=(b5.o.trans a4).setCell (p:=⟨g,i,none⟩) b6 (ptr h u);have c8:Agree (Up F w2 w3) w3 (w3.setCell ⟨g,i,none⟩ (ptr h u)):=gD w3 ⟨g,i,none⟩ _ (λh=>f8 g h rfl);have f2:∀x∈t.2.set i u,AJ (w3.setCell ⟨g,i,none⟩ (ptr h u)) (Up F w2 w3) h x:=λx hx=>by
  rcases cG hx with hx|rfl
  .exact (((j1.o x hx).agree ((b5.o.trans a4).agree HF.o)).mono λb Z=>.inl Z).agree c8
  exact g4.agree c8
 have i2:=f2 u (List.mem_set oM u);have g9:=LX i2 oM;have j3:(w3.setCell ⟨g,i,none⟩ (ptr h u)).heap.size=w3.heap.size:=oO
 have e6:=e2.mono g8;have N:=a3.o;rw[HI.o]at N;have j6:∀e3,((4<=size h u/\e3=t.2.set i u)\/(size h u<4/\F2 w.heap.size h (t.2.set i u) i e3))->D3 w.heap.size k h (C9 w.heap.size k h) t.2 e3:=λe3 c7=>by
  refine⟨I,u,a3.o,e6,?_⟩;rw[HI.o];exact c7
 have f6:(t.2.set i u).flatMap (ents h)=Ac (t.2.flatMap (ents h)) k:=by
  obtain⟨n6,g0,hA,hC⟩:=FM (h:=h) (ks:=t.2) HS.o HP.o oM k;rw[a3.o]at g0;simp only[Option.some.injEq]at g0;subst g0;rw[HI.o]at hA hC;rw[set_mid N];simp only[List.flatMap_append,List.flatMap_cons];have e1:=e2.ents (a9.o.2.2 I (ap N)).1 (Dh HS.o I (ap N))
  conv=>rhs;rw[Ef N]
  rw[aT,bc,OF hA,MV hC,e1]
 have g5:Sorted ((t.2.set i u).flatMap (ents h)):=by
  rw[f6];exact EI HS.o k
 have d5:((t.2.set i u).flatMap (ents h)).length<=1000000:=by
  rw[f6];exact an (Fz _ k).length_le HC.o
 obtain⟨l0,HU,i6,n2,l1,k4,l2⟩:=Yh d5 g9 j6 j8 a7 f2 g5;obtain⟨b3,k8,k7⟩:=Yc f1 ou f8;have o4:g<w3:=oM
 clear b0 hg e2 g4 f1 ou a5 a7 e0 j8 c8 f2 i2 g9 e6 N j6 f6 g5 d5 a4 f8;go_wp2_with fail;generalize l3:World.setCell _ _ _=W4 at *;refine HU.o.mono ?_;rintro e w5 ⟨rfl,q,rfl⟩;have g7:=n2.o.drewN q;have e7:Agree (Up F w2 w3) W4 (W4.drewN q):=Agree.drewN W4 q;have g6:(W4.drewN q).ownsRow w.heap.size 34 1 (.slice (some g) t.2.length a0) t.2.length (ptrs h (t.2.set i u)):=l1.o;have i3:(W4.drewN q).heap.size=w3.heap.size:=j3;have i9:∀x∈t.2.set i u,AJ (W4.drewN q) (Up F w2 w3) h x:=λx hx=>(k4.o x hx).agree e7
 generalize W4.drewN q=W5 at *;obtain⟨d7,j0,j7,g3⟩:=Ye g7 g6 i9 i3;have a8:(t.2.set i u).length=t.2.length:=by rw[cf]
 clear g7 e7 g6 i9 i3 n4 l5 j3 l3;by_cases h4:size h u<4
 ·have l6:(size h u:Int)<4:=oM
  obtain⟨l,hl⟩:∃l,(t.2.set i u)[i-1]? = some l:=⟨_,ac oM⟩;obtain⟨r,hr⟩:∃r,(t.2.set i u)[i-1+1]? = some r:=⟨_,ac oM⟩;have d3:∀x∈t.2.set i u,Aj h x/\3<=size h x:=λx hx=>by
   rcases cG hx with hx|rfl
   .exact ⟨(a9.o.2.2 x hx).1,by have:=(a9.o.2.2 x hx).2;omega⟩
   exact⟨k8.o,i7⟩
  have e4:size h l+size h r<=11:=by
   have h8:∀x∈t.2.set i u,size h x<=8:=λx hx=>G8 (d3 x hx).1
   have o5:=h8 l (ap hl);have o1:=h8 r (ap hr);have i5:(t.2.set i u)[i]? = some u:=by rw[dh oM]
   by_cases h0:i=0
   ·subst h0
    rw[i5]at hl;simp only[Option.some.injEq]at hl;subst hl;omega
   rw[show i-1+1=i from oM,i5]at hr;simp only[Option.some.injEq]at hr;subst hr;omega
  have a6:=nY (w:=W5) (F:=Up F w2 w3) (base:=w) (s:=⟨some g,a0⟩) (i:=i) (ks:=t.2.set i u) (l:=l) (r:=r)
   ⟨by rw[a8];exact j0.o,d7.o.size,λb Z=>⟨by rw[g3.o];exact Z.elim (λh=>by have:=HF.o b h;have:=b5.o.size;omega) λh=>h.2,λe=>by simp[Sl.row]at e;exact k7.o b Z e.symm⟩,j7.o,d3,hl,hr,e4,l2.o,by
     have:=l0.o;omega,oM,oM⟩
  rw[a8]at a6;have HM:=hY a6;clear hl hr d3 e4 a6;go_wp2_with fail;refine HM.o.mono ?_;rintro e w6 ⟨s6,d6,rfl,c9,j4,j5,b4⟩;have i4:Ext w w6:=d7.o.step b4 (λb Z=>by simp only[Sl.row,Option.map_some,Option.some.injEq]at Z;have b6:w<=g:=b6;omega);have D:=i6.o d6 (.inr ⟨h4,j4.mono d7.o.size⟩);have b9:∀x∈d6,AJ w6 (Up F w w6) h x:=λx hx=>(j5 x hx).mono λb Z=>by
   have hz:=g3.o;have o0:=b4.size;rcases Z with(Z|Z)|Z
   .exact .inl Z
   .exact .inr ⟨oM,oM⟩
   exact .inr ⟨oM,Z.2⟩
  have a2:=Sg HF.o a9.o HS.o HC.o hh b3.o i4 c9 D b9;obtain⟨HD,HE⟩:=Yb D a2;clear c9 j4 j5 b4 i4 D b9 a2;go_wp2_with fail;refine HE.o.mono ?_;rintro e w7 ⟨hx,(⟨v,hv,rfl,b8⟩ |⟨hv,c,f3,f5,rfl,d0⟩)⟩
  ·have H1:=hY hx
   have H2:=hY b8;clear hx b8;go_wp2_with fail;go_ret2;exact⟨H1.o,.inr ⟨b3.o,d6,HD.o,.inl ⟨v,hv,rfl,H2.o⟩⟩⟩
  obtain⟨H1,H2⟩:=Yb hx d0;clear hx d0;go_wp2_with fail;go_ret2;exact⟨H1.o,.inr ⟨b3.o,d6,HD.o,.inr ⟨hv,c,f3,f5,rfl,H2.o⟩⟩⟩
 have l6:¬(size h u:Int)<4:=oM
 have D:=i6.o _ (.inl ⟨oM,rfl⟩);have b9:∀x∈t.2.set i u,AJ W5 (Up F w W5) h x:=λx hx=>(j7.o x hx).mono λb Z=>by
  have hz:=g3.o;rcases Z with Z|Z
  .exact .inl Z
  exact .inr ⟨oM,oM⟩
 have a2:=Sg (s6:=⟨some g,a0⟩) HF.o a9.o HS.o HC.o hh b3.o d7.o (by rw[a8];exact j0.o) D b9;rw[a8]at a2;obtain⟨HD,HE⟩:=Yb D a2;clear D b9 a2;go_wp2_with fail;refine HE.o.mono ?_;rintro e w7 ⟨hx,(⟨v,hv,rfl,b8⟩ |⟨hv,c,f3,f5,rfl,d0⟩)⟩
 ·have H1:=hY hx
  have H2:=hY b8;clear hx b8;go_wp2_with fail;go_ret2;exact⟨H1.o,.inr ⟨b3.o,_,HD.o,.inl ⟨v,hv,rfl,H2.o⟩⟩⟩
 obtain⟨H1,H2⟩:=Yb hx d0;clear hx d0;go_wp2_with fail;go_ret2;exact⟨H1.o,.inr ⟨b3.o,_,HD.o,.inr ⟨hv,c,f3,f5,rfl,H2.o⟩⟩⟩
def R7{k:AA}:∀(h:Nat) (w:AB) (F:Nat->Prop) (t:PT h),(∀b,F b->b<w.heap.size)->AJ w F h t->Aj h t->4<=size h t->Sorted (ents h t)->(ents h t).length<=1000000->Calls prog 145 #[ptr h t,k] w (OB F h t k w)
 | 0,w,F,t,hF,hn,ok,h4,hs,hc=>by
   refine(OC ⟨_,rfl⟩ (Dw hn) (Gl (hn.mono hF)) hs (show t.2.length<=8 from ok) k).mono ?_;rintro e w' ⟨Z,(⟨I,rfl⟩ |⟨I,u,rfl,hu,hb,N⟩)⟩
   .exact ⟨Z,.inl ⟨I,rfl⟩⟩
   exact⟨Z,.inr ⟨I,u,rfl,⟨hu,hb⟩,N.mono λi hi=>.inr hi⟩⟩
 | h+1,w,F,t,hF,hn,ok,h4,hs,hc=>by
   refine(Ov (R7 (k:=k) h) hF hn ok hs hc).mono ?_;rintro e w' ⟨Z,(⟨I,rfl⟩ |⟨I,a0,hd,h2⟩)⟩
   .exact ⟨Z,.inl ⟨I,rfl⟩⟩
   have h4:4<=t.2.length:=h4;have:=(JS hd ok hs I).2.2;rcases h2 with⟨u,rfl,-,-⟩ |⟨-,c,rfl,hb,rfl,N⟩
   .simp only[List.length_cons,List.length_nil]at this;omega
   exact⟨Z,.inr ⟨I,c,rfl,⟨hd,hb⟩,N⟩⟩
def Pr(F:Nat->Prop)(T:RT)(k:AA)(w:AB)(e:AC)(w':AB):Prop:=
 Ext w w'/\((AH (AG T) k=none/\e=.returned (.tuple #[Aa T,.bool false]))\/
  ((AH (AG T) k).isSome=true∧∃ (h:Nat) (u:PT h),e=.returned (.tuple #[ptr h u,.bool true])∧AJ w' (Up F w w') h u∧
    ((ents h u=[]/\DW w.heap.size k T none)\/(0<(ents h u).length/\DW w.heap.size k T (some ⟨h,u⟩)))))
variable{T:RT}
def XS(hF:∀b,F b->b<w.heap.size)(hT:AV w F T)(ok:Am T)(hc:(AG T).length<=1000000)(k:AA) :
  Calls prog 145 #[Aa T,k] w (Pr F T k w):=by
 match T,hT,ok,hc with
 | none,_,_,_=>
   refine(OC (nv:=.pointer none) (es:=[]) ⟨none,rfl⟩ (J5 w) ((N0 w).mono ?_) List.Pairwise.nil oO k).mono ?_
   ·rintro e w' ⟨rfl,rfl⟩
    exact⟨Sl.none,[],rfl,rfl,OE.nil _ _,gz _⟩
   rintro e w' ⟨Z,(⟨I,rfl⟩ |⟨I,u,rfl,hu,hb,N⟩)⟩
   .exact ⟨Z,.inl ⟨I,rfl⟩⟩
   simp[AH]at I
 | some ⟨0,t⟩,hn,ok,hc=>
   have hn:AJ w F 0 t:=hn;refine(OC ⟨_,rfl⟩ (Dw hn) (Gl (hn.mono hF)) ok.2.2 (show t.2.length<=8 from ok.1) k).mono ?_;rintro e w' ⟨Z,(⟨I,rfl⟩ |⟨I,u,rfl,hu,hb,N⟩)⟩
   .exact ⟨Z,.inl ⟨I,rfl⟩⟩
   refine⟨Z,.inr ⟨I,0,u,rfl,N.mono λi hi=>.inr hi,?_⟩⟩;by_cases h0:ents 0 u=[]
   .exact .inl ⟨h0,.gone I ⟨hu,hb⟩ h0⟩
   have:=List.length_pos_iff.2 h0;exact .inr ⟨this,.same I ⟨hu,hb⟩ this (.inl rfl)⟩
 | some ⟨h+1,t⟩,hn,ok,hc=>
   refine(Ov (R7 (k:=k) h) hF hn ok.1 ok.2.2 hc).mono ?_;rintro e w' ⟨Z,(⟨I,rfl⟩ |⟨I,a2,hd,h2⟩)⟩
   .exact ⟨Z,.inl ⟨I,rfl⟩⟩
   have a1:=(JS hd ok.1 ok.2.2 I).1;rcases h2 with⟨u,rfl,rfl,N⟩ |⟨hl,c,rfl,hb,rfl,N⟩
   ·have:=a1 u (aV.2 rfl)
    exact⟨Z,.inr ⟨I,h,u,rfl,N,.inr ⟨ER h u this.1 oM,.down I hd⟩⟩⟩
   have hp:0<(ents (h+1) c).length:=by
    obtain⟨x,a0⟩:=List.exists_mem_of_length_pos (show 0<c.2.length by omega);have h1:=a1 x a0;have h2:=ER h x h1.1 oM;show 0<(c.2.flatMap (ents h)).length;obtain⟨e,he⟩:=List.exists_mem_of_length_pos h2;exact List.length_pos_of_mem (cU.2 ⟨x,a0,he⟩)
   exact⟨Z,.inr ⟨I,h+1,c,rfl,N,.inr ⟨hp,.same I ⟨hd,hb⟩ hp (.inr hl)⟩⟩⟩
def jx(F:Nat->Prop)(T:RT)(k:AA)(w:AB)(e:AC)(w':AB):Prop:=
 ∃T',e=.returned (.tuple #[AO T',.bool (AH (AG T) k).isSome])/\DW w.heap.size k T T'/\AV w' (Up F w w') T'/\Ext w w'
def lU(hF:∀b,F b->b<w.heap.size)(hT:AV w F T)(ok:Am T)(hc:(AG T).length<=1000000)(k:AA) :
  Calls prog 105 #[AO T,k] w (jx F T k w):=by
 have a7:∀W,Ext w W->Calls prog 145 #[Aa T,k] W (Pr F T k W):=λW hW=>
  XS (λb hb=>ab (hF b hb) hW.size) (hT.agree (hW.agree hF)) ok hc k
 have a6:∀W,Ext w W->Calls prog 76 #[Aa T] W λe w'=>e=.returned (.int .i64 (AG T).length)/\W=w':=λW hW=>OO (hT.agree (hW.agree hF))
 have a3:AG T=[]->T=none:=λI=>by
  match T,ok,I with
  |none,_,_=>rfl
  |some ⟨h,t⟩,ok,I=>have:=ER h t ok.1 ok.2.1;have I:ents h t=[]:=I;rw[I]at this;cases this
 have d8:∃p,Aa T=.pointer p:=BM T;obtain⟨rp,a2⟩:=d8;rw[a2]at a7 a6;obtain⟨HW,e1,HF,e3,HT,c7,d5⟩:=Yh a7 a6 hF ok hT a3 a2;clear hF hT ok a7 a6 a3;rw[AO,a2];clear a2;go_in;go_wp2_with fail;have b3:Ext w ((w.alloc (.cells #[.pointer rp] 36)).alloc (.cells #[.pointer none] 36)):=((gz w).alloc _ _).alloc _ _;have c6:AE ((w.alloc (.cells #[.pointer rp] 36)).alloc (.cells #[.pointer none] 36)) (w.heap.size+1) 36 #[.pointer none]:=by
  have:=gB (w.alloc (.cells #[.pointer rp] 36)) 36 #[.pointer none];simpa using this
 generalize c9:World.alloc _ _=W3 at *;have e4:W3.heap.size=w.heap.size+1+1:=by rw[<-c9];simp
 clear c9;refine(HW.o _ b3).mono ?_;rintro e Z ⟨a8,b4⟩;have a1:=c6.ext a8;have b6:=b3.trans a8;have q4:Z.cell? ⟨w+1,0,none⟩=some (.pointer none):=a1.cell 0;have f4:=a1.frozen 0;have e2:=a1.lt;have HX:=hY b6;have b5:∀W',¬Up F W3 W' (w.heap.size+1):=λW' hf=>by
  rcases hf with hf|hf
  .have:=HF.o _ hf;omega
  have:=hf.1;omega
 have d6:=hY b5;have a5:w.heap.size<=W3.heap.size:=oM
 clear c6 a1 b6 b3 a8 b5;have c8:∃N b,e=.returned (.tuple #[Aa N,.bool b])/\b=(AH (AG T) k).isSome/\AV Z (Up F W3 Z) N/\((AG N).length=0->DW w.heap.size k T none)/\((AG N).length≠0->DW w.heap.size k T N):=by
  rcases b4 with⟨hg,rfl⟩ |⟨hg,h,u,rfl,d3,hd⟩
  ·refine ⟨T,false,by rw [d5.o],by rw [hg];rfl,(HT.o.agree (HX.o.agree HF.o)).mono fun i hi=>.inl hi,fun I=>?_,fun _=>.no hg⟩
   have:=c7.o (av I);subst this;exact .no hg
  refine⟨some ⟨h,u⟩,true,rfl,hg.symm,d3,λI=>?_,λI=>?_⟩
  .exact (hd.resolve_right λhc=>by have I:(ents h u).length=0:=I;omega).2.mono a5
  exact(hd.resolve_left λh=>I (by show(ents _ u).length=0;rw[h.1];rfl)).2.mono a5
 obtain⟨N,b,rfl,hb,a9,b9,b8⟩:=c8;have b0:=OO a9;obtain⟨p1,a0⟩:=BM N;have a4:∀W',Agree (Up F W3 Z) Z W'->Z.heap.size<=W'.heap.size->AV W' (Up F w W') N:=λW' ha hs=>(a9.agree ha).mono λi hi=>hi.elim .inl λhi=>.inr ⟨Nat.le_trans a5 hi.1,ab hi.2 hs⟩
 rw[a0]at b0;obtain⟨d4,d7,HB,b7,d0,e0⟩:=Yg a0 b0 hb a4 b9 b8;rw[a0];clear b4 a0 b0 hb a4 b9 b8 a9;go_wp2_with fail;refine d7.o.mono ?_;rintro e w5 ⟨rfl,rfl⟩;by_cases I:(AG N).length=0
 ·have d9:(((AG N).length:Int) == 0)=true:=by simp [I]
  go_wp2_with fail;have q0:(Z.setCell ⟨w+1,0,none⟩ (.pointer none)).cell? ⟨w+1,0,none⟩=some (.pointer none):=fm Z _ _ q4;refine eU (v:=.tuple #[AO none,.bool b]) (by simp[results,results105,go_sem,q0];rfl) rfl ?_;rw[HB.o];exact⟨none,rfl,d0.o I,trivial,HX.o.setCell (p:=⟨w+1,0,none⟩) (by show w.heap.size<=w.heap.size+1;omega) _⟩
 have d9:(((AG N).length:Int)==0)=false:=eP.2 oM;go_wp2_with fail;have q0:(Z.setCell ⟨w+1,0,none⟩ (.pointer p1)).cell? ⟨w+1,0,none⟩=some (.pointer p1):=fm Z _ _ q4;refine eU (v:=.tuple #[AO N,.bool b]) (by rw[AO,d4.o];simp[results,results105,go_sem,q0]) rfl ?_;rw[HB.o];exact⟨N,rfl,e0.o I,b7.o _ (gD Z ⟨w+1,0,none⟩ _ (d6.o Z)) oO,HX.o.setCell (p:=⟨w+1,0,none⟩) (by show w.heap.size<=w.heap.size+1;omega) _⟩
variable{P:Program}
def qP(w:AB){I N:TypeId}(a:Addr)(Z:P.underlying I=some (.pointer N)) :
  (binOp .eql I (.pointer none) (.pointer (some a))).run P w=.ok (.bool false) w:=by
 have h:∀d:Nat,(Op.equalIn (d+1) I (.pointer none) (.pointer (some a))).run P w=.ok false w:=λd=>by
  simp[Op.equalIn,run_underlying Z]
 simp only[binOp];simp[Op.equal,Op.maxDepth,h 9999]
def Y7:∃j,prog.info? 138=some j/\j.size≠0:=by
 have h:((prog.info? 138).map λi=>decide (i.size≠0))=some true:=kM
 cases I:prog.info? 138 with
 |none=>rw[I]at h;cases h
 |some j=>rw[I]at h;exact⟨j,rfl,by simpa using h⟩
def Me(w:AB)(p:Option Addr):Prop:=∀a,p=some a->∃c t,w.heap[a.block]? = some (.cells c t (0,0))
open Go.Maps
structure Sb(H:Nat->Prop)(w w':AB):Prop where
 os:w'.os=w.os
 tape:w'.tape=w.tape
 output:w'.output=w.output
 size:w.heap.size<=w'.heap.size
 block:∀b,b<w.heap.size->¬H b->w'.heap[b]? = w.heap[b]?
variable{H:Nat->Prop}{w':AB}
def St.sb(h:St H w w'):Sb H w w':=⟨h.os,h.tape,h.output,h.size,h.block⟩
def Ext.sb(h:Ext w w')(H:Nat->Prop):Sb H w w':=(h.st H).sb
def Sb.refl(H:Nat->Prop)(w:AB):Sb H w w:=(gz w).sb H
def Sb.trans{a b c:AB}(h:Sb H a b)(k:Sb H b c):Sb H a c:=
 ⟨k.os.trans h.os,k.tape.trans h.tape,k.output.trans h.output,an h.size k.size,λi hi I=>(k.block i (ab hi h.size) I).trans (h.block i hi I)⟩
def Sb.comp{a b c:AB}(h:Sb H a b)(k:Sb G b c)(Z:∀i,i<a.heap.size->G i->H i):Sb H a c:=
 ⟨k.os.trans h.os,k.tape.trans h.tape,k.output.trans h.output,an h.size k.size,λi hi I=>(k.block i (ab hi h.size) λN=>I (Z i hi N)).trans (h.block i hi I)⟩
def Sb.mono{a b:AB}(h:Sb H a b)(I:∀i,i<a.heap.size->H i->G i):Sb G a b:=
 ⟨h.os,h.tape,h.output,h.size,λi hi N=>h.block i hi λZ=>N (I i hi Z)⟩
def Sb.of_below(h:Below n w w'):Sb (λb=>n<=b) w w':=⟨h.os,h.tape,h.output,h.size,λb _ I=>h.block b oM⟩
def Sb.new(h:Below w.heap.size w w'):Sb H w w':=(Sb.of_below h).mono λi hi I=>oM
def Sb.cell(h:Sb H w w'){b o:Nat}(I:b<w)(N:¬H b):w'.cell? ⟨b,o,none⟩=w.cell? ⟨b,o,none⟩:=
 fi (w:=w) (a:=⟨b,o,none⟩) (h.block b I N)
variable{g:Nat}
def Sb.blk{t:TypeId}{cs:Array Value}(h:Sb H w w')(I:AE w g t cs)(N:¬H g):AE w' g t cs:=(h.block g I.lt N).trans I
def Sb.agree(h:Sb H w w'):Agree (NH H w) w w':=λb I=>h.block b I.1 I.2
def Sb.ext{a b c:AB}(h:Sb H a b)(k:Ext b c):Sb H a c:=h.trans (k.sb H)
def Sb.drew{a w:AB}(h:Sb H a w):Sb H a w.drew:=h.ext ((gz w).drew)
def Sb.set{a w:AB}(h:Sb H a w){p:Addr}(I:a.heap.size<=p.block\/H p.block)(u:Value):Sb H a (w.setCell p u):=
 ⟨h.os,h.tape,h.output,by simpa[World.setCell]using h.size,λi hi N=>(ft w p u i (by
   rintro rfl;rcases I with I|I
   .omega
   exact N I)).trans (h.block i hi N)⟩
def Sb.grown{b:Nat}(h:w.grownBy w' (some b)):Sb (λi=>i=b) w w':=
 ⟨h.os,h.tape,h.output,h.size,λi hi I=>h.block i hi (by intro e;injection e with e;exact I e)⟩
def Sb.made(h:w.grownBy w' none):Sb H w w':=⟨h.os,h.tape,h.output,h.size,λi hi I=>h.block i hi oO⟩
def IT{H:Type}{k:TypeId}{R:Value->Option (DataW H × List MemPlace)}{b n:Nat}{D:DataW H}(h:w.ownsMap P k R b n D)(N:w'.heap[b]? = w.heap[b]?):w'.ownsMap P k R b n D:=by
 obtain⟨es,I,h1,F,h2,Z⟩:=h;exact⟨es,I,N.trans h1,F,h2,Z⟩
def MapAt.sb{M:Nat}{es:List AD}(h:MapAt H w M es)(k:Sb G w w')(N:∀b,G b->H b)(hM:¬G M):MapAt H w' M es:=by
 obtain⟨hm,s,xs,I,hs,Z⟩:=h;exact⟨hm,s,xs,k.blk I hM,(hs.agree λb I=>k.block b I.1 λhh=>I.2 (N b hh)).mono λb I=>⟨Nat.lt_of_lt_of_le I.1 k.size,I.2⟩,Z⟩
def Lo{base e size n m:Nat}{xs:List Value}{t:TypeId}{cs:Array Value}(ho:w.ownsRow base e size (.slice s.a n s.c) n xs)(hb:AE w m t cs)(N:e≠t):¬s.row=some m:=λI=>by
 rcases ho.2 with⟨Z,-⟩ |⟨gg,cap,a0,Z,-,hc,-⟩
 ·injection Z with e1
  rw[Sl.row,e1]at I;cases I
 injection Z with e1;rw[Sl.row,e1]at I;have:gg=m:=by simpa using I
 subst this;have h2:w.heap[gg]? = some (.cells cs t (0,0)):=hb;rw[hc]at h2;injection h2 with h2;injection h2 with h3 h4;exact N h4
abbrev gE:=@Sb.refl
structure OD where
 T:RT
 mb:Option Nat
 s:Sl
 us:List UD
 Hs:List (AL SV)
 C:AL SV
def DZ(O:Nat)(d:OD):Nat->Prop:=λb=>b=O\/d.mb=some b\/d.s.row=some b
def BL(H:Nat->Prop)(w:AB)(O:Nat)(d:OD):Nat->Prop:=λb=>b<w.heap.size/\¬DZ O d b/\¬H b
def JQ(w:AB)(F:Nat->Prop):RV w F zeroV Sl.none Sl.none:=RV.flat _ _ _ _ _ _ oN oN oN
def Db(w:AB)(F:Nat->Prop)(s:SV):Prop:=RV w F s.v s.sl s.so/\(s.has=false->s.v=zeroV)
def Db.agree{s:SV}(h:Db w F s)(I:Agree F w w'):Db w' F s:=⟨h.1.agree I,h.2⟩
def Db.mono{s:SV}(h:Db w F s)(I:∀i,F i->G i):Db w G s:=⟨h.1.mono I,h.2⟩
def FG(w:AB)(F:Nat->Prop)(O:Nat)(u:UD)(v:Value):Prop:=
 ∃(bw bd bo bk:Nat) (o:SV),v=.func (.func 189) #[] #[.pointer (some ⟨bw,0,none⟩),.pointer (some ⟨bd,0,none⟩),.pointer (some ⟨bo,0,none⟩),.pointer (some ⟨bk,0,none⟩)]/\
  (F bw/\F bd/\F bo/\F bk)/\AE w bw 4 #[.bool u.old.isSome]/\AE w bd 166 o.cells/\(∀x,u.old=some x->x=o)/\AE w bo 128 #[.pointer (some ⟨O,0,none⟩)]/\AE w bk 9 #[.string u.k]
variable{O:Nat}
def FG.agree{u:UD}{v:Value}(h:FG w F O u v)(I:Agree F w w'):FG w' F O u v:=by
 obtain⟨bw,bd,bo,bk,o,h1,⟨f1,N,Z,f4⟩,h2,h3,h4,h5,h6⟩:=h;exact⟨bw,bd,bo,bk,o,h1,⟨f1,N,Z,f4⟩,h2.agree I f1,h3.agree I N,h4,h5.agree I Z,h6.agree I f4⟩
def FG.mono{u:UD}{v:Value}(h:FG w F O u v)(I:∀i,F i->G i):FG w G O u v:=by
 obtain⟨bw,bd,bo,bk,o,h1,⟨f1,N,Z,f4⟩,r⟩:=h;exact⟨bw,bd,bo,bk,o,h1,⟨I _ f1,I _ N,I _ Z,I _ f4⟩,r⟩
def Bj(w:AB)(mb:Option Nat)(C:AL SV):Prop:=match mb with
 |none=>C=[]
 |some b=>w.ownsMap prog 9 Dx b C.length (mapA SV.val C)
variable{C:AL SV}
def Bj.heap{mb:Option Nat}(h:Bj w mb C)(I:∀b,mb=some b->w'.heap[b]? = w.heap[b]?):Bj w' mb C:=by
 cases mb with
 |none=>exact h
 |some b=>exact IT h (I b rfl)
def Bj.lt{mb:Option Nat}(h:Bj w mb C){b:Nat}(I:mb=some b):b<w:=by
 subst I;exact World.ownsMap.lt h
def Se{b n:Nat}(h:w.ownsMap prog 9 Dx b n (mapA SV.val C)):w.ownsMap prog 9 Dx b C.length (mapA SV.val C):=by
 obtain⟨es,I,h1,F,h2,N⟩:=h;refine⟨es,I,h1,F,?_,N⟩;have:=congrArg Maps.size N;rw[RD]at this;simp[Maps.size,length_sorted]at this;omega
def YG(w:AB)(F:Nat->Prop)(O:Nat)(s:Sl)(us:List UD):Prop:=
 ∃xs:List Value,xs.length=us.length/\w.ownsRow 0 1 1 (.slice s.a us.length s.c) us.length xs/\∀(i:Nat) (u:UD) (v:Value),us[i]? = some u->xs[i]? = some v->FG w F O u v
structure BC(H:Nat->Prop)(w:AB)(O:Nat)(d:OD):Prop where
 blk:AE w O 158 #[Aa d.T,.map d.mb,.slice d.s.a d.us.length d.s.c]
 map:Bj w d.mb d.C
 row:YG w (BL H w O d) O d.s d.us
 vals:∀p∈d.C,p.1.size<=maxLen/\Db w (BL H w O d) p.2
 olds:∀u∈d.us,u.k.size<=maxLen/\∀o,u.old=some o->Db w (BL H w O d) o
 hist:Chain d.us d.Hs
 h0:d.Hs[0]? = some []
 last:d.Hs[d.us.length]? = some d.C
 sorted:Bd d.C
 tree:AV w (BL H w O d) d.T
 ok:Am d.T
 ne:d.mb≠some O/\d.s.row≠some O/\∀b,d.mb=some b->d.s.row≠some b
 out:∀b,DZ O d b->¬H b
 some_:d.us≠[]->∃b,d.mb=some b
def Chain.short{I:List UD}{N:List (AL SV)}(h:Chain I N)(Z:N[0]? = some []):∀(i:Nat) (C:AL SV),N[i]? = some C->C.length<=i
 |0,C,hC=>by rw[Z]at hC;injection hC with hC;subst hC;exact ao _
 | i+1,C,hC=>by
   have hi:i<I.length:=by have:=(ai.1 hC).1;have:=h.len;omega
   obtain⟨C',s,h1,h2,h3,h4⟩:=h.step i _ (ac hi);rw[h4]at hC;injection hC with hC;subst hC;have:=h.short Z i C' h1;have:=XU (C:=C') (k:=(I[i]'hi).k) (v:=s);omega
section
variable{H : Nat -> Prop}{w w' : AB}{O : Nat}{d : OD}
def BC.few(h:BC H w O d):d.C.length<=d.us.length:=h.hist.short h.h0 _ _ h.last
def BC.Ik(h:BC H w O d){b:Nat}(I:d.s.row=some b):b<w:=by
 obtain⟨xs,-,h2,-⟩:=h.row;exact(AM h2 I).2
def BC.CC(h:BC H w O d){b:Nat}(I:DZ O d b):b<w:=by
 rcases I with rfl|I|I
 .exact h.blk.lt
 .exact h.map.lt I
 exact h.Ik I
def BC.sb{G:Nat->Prop}(h:BC H w O d)(k:Sb G w w')(hG:∀b,G b->H b):BC H w' O d:=by
 have Z:Agree (BL H w O d) w w':=λb I=>k.block b I.1 λhh=>I.2.2 (hG b hh)
 have N:∀i,BL H w O d i->BL H w' O d i:=λi hi=>⟨Nat.lt_of_lt_of_le hi.1 k.size,hi.2⟩
 have hn:∀b,DZ O d b->¬G b:=λb I hg=>h.out b I (hG b hg)
 obtain⟨xs,r1,r2,r3⟩:=h.row;exact⟨k.blk h.blk (hn O (.inl rfl)),h.map.heap λb I=>k.block b (h.map.lt I) (hn b (.inr (.inl I))),
  ⟨xs,r1,AZ r2 k.agree λb I=>⟨h.Ik I,hn b (.inr (.inr I))⟩,λi u v hu hv=>((r3 i u v hu hv).agree Z).mono N⟩,
  λp hp=>⟨(h.vals p hp).1,((h.vals p hp).2.agree Z).mono N⟩,λu hu=>⟨(h.olds u hu).1,λo ho=>(((h.olds u hu).2 o ho).agree Z).mono N⟩,
  h.hist,h.h0,h.last,h.sorted,(h.tree.agree Z).mono N,h.ok,h.ne,h.out,h.some_⟩
def BC.ext(h:BC H w O d)(k:Ext w w'):BC H w' O d:=h.sb (k.sb λ_=>False) λ_ I=>I.elim
def BC.more{G:Nat->Prop}(h:BC H w O d)(hG:∀b,b<w.heap.size->G b->H b):BC G w O d:=by
 have I:∀i,BL H w O d i->BL G w O d i:=λi hi=>⟨hi.1,hi.2.1,λN=>hi.2.2 (hG i hi.1 N)⟩
 obtain⟨xs,r1,r2,r3⟩:=h.row;exact⟨h.blk,h.map,⟨xs,r1,r2,λi u v hu hv=>(r3 i u v hu hv).mono I⟩,λp hp=>⟨(h.vals p hp).1,(h.vals p hp).2.mono I⟩,
  λu hu=>⟨(h.olds u hu).1,λo ho=>((h.olds u hu).2 o ho).mono I⟩,h.hist,h.h0,h.last,h.sorted,h.tree.mono I,h.ok,h.ne,λb Z N=>h.out b Z (hG b (h.CC Z) N),h.some_⟩
end
def FP:Keyed prog 9:=string_keyed underlying9
def Gz(k:AA)(I:k.size<=maxLen):keyOf prog 9 (.string k)=some (B1 k):=Go.WideMaps.keyOf_string_mk underlying9 I
structure EK(H:Nat->Prop)(w:AB)(O:Nat)(d d':OD)(w':AB):Prop where
 at_:BC H w' O d'
 sb:Sb (DZ O d) w w'
 new:∀b,DZ O d' b->DZ O d b\/w.heap.size<=b
abbrev ID:SV:=⟨false,zeroV,Sl.none,Sl.none⟩
def LP(w:AB):(zeroValue 166).run prog w=.ok ID.val w:=kM
def Tryz.po:(prog.info? 1).map (λi=>(i.zero,i.size,i.bytes))=some (some Value.nilFunc,1,8):=kM
def Cm(C:AL SV)(k:AA):SV:=(AQ C k).getD ID
def NL{mb:Option Nat}(hm:Bj W mb C){k:AA}(hk:k.size<=maxLen) :
  (Instr.lookup 155 (.map mb) (.string k) true).run prog W=.ok (.tuple #[(Cm C k).val,.bool (AQ C k).isSome]) W:=by
 cases mb with
 | none=>
   have hC:C=[]:=hm;subst hC;rw[Maps.look_nil true FP underlying155 (LP W) (Gz k hk)];rfl
 | some b=>
   obtain⟨v,ps,N,I⟩:=World.ownsMap.look_ok hm FP underlying155 (LP W) (zd:=.held ID.val) (zp:=[]) rfl (Gz k hk);rw[IU]at I;rw[N,VO];unfold Cm;cases Z:AQ C k with
   |none=>rw[Z]at I;rw[Ln I];rfl
   |some s=>rw[Z]at I;rw[Ln I];rfl
variable{a:Act}{Q:Exit->Act->AB->Prop}{K:Act->AB->Prop}
def RG{o:Oper}{m x v:Operand}(Z:o.op=Op.mapUpdate 155 m x v)
  {b:Nat} {k:AA} {s:SV} (hm:a.eval m=.map (some b)) (hx:a.eval x=.string k) (hv:a.eval v=s.val) (I:Bj w (some b) C) (hk:k.size<=maxLen) (hC:C.length<maxLen) (hs:Bd C)
  (hK:∀w',Bj w' (some b) (BG C k s)->Sb (λc=>c=b) w w'->K (a.put o.dst undef) w'):Oper.wp prog o a w K Q:=by
 obtain⟨w',N,r1,r2⟩:=World.ownsMap.store I FP underlying155 hC (Gz k hk) (val:=s.val) (d:=.held s.val) (ps:=[]) rfl;unfold Oper.wp;simp[execOp,Z,hm,hx,hv,N,Result.andThen];rw[pO SV.val hs]at r1;exact hK _ (Se r1) (Sb.grown r2.grown)
def Yu{o:Oper}{m x:Operand}(Z:o.op=Op.call { callee:=Callee.builtin Builtin.delete,args:=#[m,x],argTypes:=#[155,9] })
  {b:Nat} {k:AA} (hm:a.eval m=.map (some b)) (hx:a.eval x=.string k) (I:Bj w (some b) C) (hk:k.size<=maxLen)
  (hK:∀w',Bj w' (some b) (DF C k)->Sb (λc=>c=b) w w'->K (a.put o.dst (.tuple #[])) w'):Oper.wp prog o a w K Q:=by
 obtain⟨w',N,r1,r2⟩:=World.ownsMap.drop I FP underlying155 (Gz k hk) o.type;unfold Oper.wp;simp[execOp,Z,resolve,invoke,builtin,hm,hx,N,Result.andThen];rw[XY SV.val]at r1;exact hK _ (Se r1) (Sb.grown r2.grown)
def Bj.ne{b g:Nat}{t:TypeId}{cs:Array Value}(h:Bj w (some b) C)(N:AE w g t cs):g≠b:=by
 rintro rfl;obtain⟨es,I,h1,-⟩:=h;have h2:w.heap[g]? = some (.cells cs t (0,0)):=N;rw[h1]at h2;cases h2
def pZ{us:List UD}{Z:List (AL SV)}(h:Chain us Z)(N:Z[us.length]? = some C):∃I,Z=I++[C]:=by
 have hn:=h.len;rcases List.eq_nil_or_concat Z with rfl |⟨I,c,rfl⟩
 .simp at hn
 refine⟨I,?_⟩;rw[List.concat_eq_append]at *;rw[aj,bg]at hn;rw[aO oM,show us.length-I.length=0 by omega]at N;injection N with N;rw[N]
section
variable{H : Nat -> Prop}{w wc : AB}{O : Nat}{d : OD}
def BC.made(h:BC H w O d)(hm:d.mb=none){b:Nat}(hb:w.heap.size<=b)(hH:∀b,H b->b<w.heap.size)(k:Sb (λc=>c=O) w wc)
  (Z:AE wc O 158 #[Aa d.T,.map (some b),.slice d.s.a d.us.length d.s.c]) (N:wc.ownsMap prog 9 Dx b 0 (mapA SV.val [])):BC H wc O { d with mb:=some b }:=by
 have hC:d.C=[]:=by have:=h.map;rw[hm]at this;exact this
 have ha:Agree (BL H w O d) w wc:=λi hi=>k.block i hi.1 λe=>hi.2.1 (.inl e)
 have I:∀i,BL H w O d i->BL H wc O { d with mb:=some b } i:=λi hi=>⟨Nat.lt_of_lt_of_le hi.1 k.size,λe=>by
  rcases e with e|e|e
  .exact hi.2.1 (.inl e)
  ·have e:some b=some i:=e
   injection e with e;have:=hi.1;omega
  exact hi.2.1 (.inr (.inr e)),hi.2.2⟩
 obtain⟨xs,r1,r2,r3⟩:=h.row;refine⟨Z,?_,⟨xs,r1,AZ r2 k.agree λi hi=>⟨h.Ik hi,λe=>h.ne.2.1 (by rw[<-e];exact hi)⟩,λi u v hu hv=>((r3 i u v hu hv).agree ha).mono I⟩,
  λp hp=>⟨(h.vals p hp).1,((h.vals p hp).2.agree ha).mono I⟩,λu hu=>⟨(h.olds u hu).1,λo ho=>(((h.olds u hu).2 o ho).agree ha).mono I⟩,
  h.hist,h.h0,h.last,h.sorted,(h.tree.agree ha).mono I,h.ok,⟨?_,h.ne.2.1,?_⟩,?_,λ_=>⟨b,rfl⟩⟩
 ·show wc.ownsMap _ _ _ _ _ _
  rw[hC];exact N
 ·intro e
  have e:some b=some O:=e;injection e with e;have:=h.blk.lt;omega
 ·intro i hi hr
  have hi:some b=some i:=hi;injection hi with hi;have:=h.Ik hr;omega
 rintro i (hi|hi|hi) hh
 .exact h.out i (.inl hi) hh
 ·have hi:some b=some i:=hi
  injection hi with hi;have:=hH i hh;omega
 exact h.out i (.inr (.inr hi)) hh
structure UU(H:Nat->Prop)(w:AB)(O:Nat)(d:OD)(k:AA)(sv:SV)(b:Nat)(wc:AB):Prop where
 at_:BC H wc O { d with mb:=some b }
 sb:Sb (DZ O d) w wc
 mb:d.mb=some b\/w.heap.size<=b
 big:w.heap.size+3<=wc.heap.size
 bo:AE wc w.heap.size 128 #[.pointer (some ⟨O,0,none⟩)]
 bk:AE wc (w.heap.size+1) 9 #[.string k]
 bs:AE wc (w.heap.size+1+1) 166 sv.cells
 ok:Db wc (BL H wc O { d with mb:=some b }) sv
def iR(H:Nat->Prop)(O:Nat)(d:OD)(k:AA)(sv:SV)(w:AB)(e:AC)(w':AB):Prop:=
 (∃r,e=.returned r)/\∃mb s,EK H w O d ⟨d.T,mb,s,d.us++[⟨k,AQ d.C k⟩],d.Hs++[BG d.C k sv],BG d.C k sv⟩ w'
abbrev Fx(bw bd bo bk:Nat):Value:=.func (.func 189) #[] #[.pointer (some ⟨bw,0,none⟩),.pointer (some ⟨bd,0,none⟩),.pointer (some ⟨bo,0,none⟩),.pointer (some ⟨bk,0,none⟩)]
def step_end{k:AA}{sv:SV}{b:Nat}{wm W w5 w7:AB}(I:UU H w O d k sv b wc)(e1:O<w.heap.size)(a3:∀i,d.s.row=some i->i<w.heap.size)(hH:∀b,H b->b<w.heap.size)(hk:k.size<=maxLen)(a4:Ext wc wm)
  {bw bd:Nat} (b6:wc.heap.size<=bw/\bw<wm.heap.size) (b8:wc.heap.size<=bd/\bd<wm.heap.size) (d0:AE wm bd 166 (Cm d.C k).cells) (d6:AE wm bw 4 #[.bool (AQ d.C k).isSome]) (hx:Ext wm W)
  {xs:List Value} (hl:xs.length=d.us.length) (d5:∀(i:Nat) (u:UD) (v:Value),d.us[i]? = some u->xs[i]? = some v->FG wc (BL H wc O { d with mb:=some b }) O u v) {s5:Sl}
  (a6:w5.ownsRow 0 1 1 (.slice s5.a (d.us.length+1) s5.c) (d.us.length+1) (xs++[Fx bw bd w.heap.size (w.heap.size+1)])) (a2:Wr W w5 d.s.row) (hs:s5.a=d.s.a\/s5.a=some ⟨W.heap.size,0,none⟩/\Wr W w5 none)
  (h7:Bj w7 (some b) (BG d.C k sv)) (a0:Sb (λc=>c=b) (w5.setCell ⟨O,2,none⟩ (.slice s5.a (d.us.length+1) s5.c)) w7) :
  EK H w O d ⟨d.T,some b,s5,d.us++[⟨k,AQ d.C k⟩],d.Hs++[BG d.C k sv],BG d.C k sv⟩ w7:=by
 have d8:=I.big;have d9:=a4.size;have e3:=hx.size;have e2:=a2.grown.size;have c8:=a0.size;rw[eX]at c8;have e4:b<wc.heap.size:=I.at_.map.lt rfl;have c6:b≠O:=λe=>I.at_.ne.1 (by rw[e])
 have c9:d.s.row≠some b:=λe=>I.at_.ne.2.2 b rfl e
 have b5:d.s.row≠some O:=I.at_.ne.2.1;have N:∀i,s5.row=some i->d.s.row=some i\/i=W.heap.size:=λi hi=>by
  rcases hs with h |⟨h,-⟩
  .left;rw[Sl.row,<-h];exact hi
  right;rw[Sl.row,h]at hi;simpa using hi.symm
 have b7:s5.row≠some O:=λe=>by
  rcases N O e with h|h
  .exact b5 h
  omega
 have b0:s5.row≠some b:=λe=>by
  rcases N b e with h|h
  .exact c9 h
  omega
 -- what turns between wc and the end
 have hW:Sb (λ_=>False) wc W:=(a4.trans hx).sb _;have h5:Sb (λc=>d.s.row=some c) W w5:=⟨a2.grown.os,a2.grown.tape,a2.grown.output,a2.grown.size,λi hi hn=>a2.grown.block i hi λe=>hn e.symm⟩;have h6:Sb (λc=>c=O) w5 (w5.setCell ⟨O,2,none⟩ (.slice s5.a (d.us.length+1) s5.c)):=(gE (λc=>c=O) w5).set (p:=⟨O,2,none⟩) (.inr rfl) _;have a5:Sb (DZ O { d with mb:=some b }) wc w7:=
  (((hW.mono λi _ h=>h.elim).trans (h5.mono λi _ h=>.inr (.inr h))).trans (h6.mono λi _ h=>.inl h)).trans (a0.mono λi _ h=>.inr (.inl (by rw[h])))
 have Z:∀{g t cs},AE wm g t cs->g≠O->g≠b->d.s.row≠some g->AE w7 g t cs:=λhb h1 h2 h3=>
  a0.blk (h6.blk (h5.blk (hb.ext hx) h3) h1) h2
 have a1:∀i,wc.heap.size<=i\/(i=w.heap.size\/i=w.heap.size+1)->i<wm.heap.size->i≠b->BL H w7 O ⟨d.T,some b,s5,d.us++[⟨k,AQ d.C k⟩],d.Hs++[BG d.C k sv],BG d.C k sv⟩ i:=λi hi e0 d4=>
  ⟨oM,λe=>by
    rcases e with e|e|e
    .omega
    ·have e:some b=some i:=e
     injection e with e;exact d4 e.symm
    rcases N i e with h|h
    .have:=a3 i h;omega
    omega,λhh=>by have:=hH i hh;omega⟩
 have c7:=I.bo;have b3:=I.bk;have b9:=Bj.ne I.at_.map c7;have b4:=Bj.ne I.at_.map b3;have ha:Agree (BL H wc O { d with mb:=some b }) wc w7:=λi hi=>a5.block i hi.1 hi.2.1
 have hm:∀i,BL H wc O { d with mb:=some b } i->BL H w7 O ⟨d.T,some b,s5,d.us++[⟨k,AQ d.C k⟩],d.Hs++[BG d.C k sv],BG d.C k sv⟩ i:=λi hi=>
  ⟨Nat.lt_of_lt_of_le hi.1 a5.size,λe=>by
    rcases e with e|e|e
    .exact hi.2.1 (.inl e)
    .exact hi.2.1 (.inr (.inl e))
    rcases N i e with h|h
    .exact hi.2.1 (.inr (.inr h))
    have:=hi.1;omega,hi.2.2⟩
 obtain⟨Ps,a8⟩:=pZ I.at_.hist I.at_.last;have a8:d.Hs=Ps++[d.C]:=a8;have a9:Chain d.us d.Hs:=I.at_.hist;have d3:d.Hs[d.us.length]? = some d.C:=I.at_.last;have d7:=a9.len;have a7:Bd d.C:=I.at_.sorted;refine⟨⟨?_,h7,⟨xs++[Fx bw bd w.heap.size (w.heap.size+1)],by simp[hl],?_,?_⟩,?_,?_,?_,?_,?_,Gm a7 _ _,(I.at_.tree.agree ha).mono hm,I.at_.ok,⟨?_,b7,?_⟩,?_,λ_=>⟨b,rfl⟩⟩,?_,?_⟩
 ·have h8:AE (w5.setCell ⟨O,2,none⟩ (.slice s5.a (d.us.length+1) s5.c)) O 158 #[Aa d.T,.map (some b),.slice s5.a (d.us.length+1) s5.c]:=(h5.blk ((I.at_.blk.ext a4).ext hx) b5).AX 2 _
  have h9:=a0.blk h8 (λe=>c6 e.symm);show AE w7 O _ #[_,_,.slice s5.a (d.us++[(⟨k,AQ d.C k⟩:UD)]).length s5.c];rw[aj,bg];exact h9
 ·show w7.ownsRow 0 _ 1 (.slice s5.a (d.us++[(⟨k,AQ d.C k⟩:UD)]).length s5.c) (d.us++[(⟨k,AQ d.C k⟩:UD)]).length _
  rw[aj,bg];exact AZ (AZ a6 h6.agree λi hi=>⟨(AM a6 hi).2,λe=>b7 (by rw[<-e];exact hi)⟩) a0.agree λi hi=>⟨by rw[eX];exact(AM a6 hi).2,λe=>b0 (by rw[<-e];exact hi)⟩
 ·intro i u v hu hv
  rcases eh i d.us.length with hi|hi
  ·have hu:(d.us++[(⟨k,AQ d.C k⟩:UD)])[i]? = some u:=hu
   rw[bu hi]at hu;rw[bu oM]at hv;exact((d5 i u v hu hv).agree ha).mono hm
  have hu:(d.us++[(⟨k,AQ d.C k⟩:UD)])[i]? = some u:=hu;rw[aO hi]at hu;rw[aO oM]at hv;have h0:i-d.us.length=0:=by have:=(ai.1 hu).1;simpa using this
  rw[h0]at hu;rw[show i-xs.length=0 by omega]at hv;have hu:(⟨k,AQ d.C k⟩:UD)=u:=by simpa using hu
  have hv:Fx bw bd w.heap.size (w.heap.size+1)=v:=by simpa using hv
  subst hu hv;refine⟨bw,bd,w.heap.size,w.heap.size+1,Cm d.C k,rfl,⟨a1 _ (.inl b6.1) b6.2 oM,a1 _ (.inl b8.1) b8.2 oM,a1 _ (.inr (.inl rfl)) oM b9,a1 _ (.inr (.inr rfl)) oM b4⟩,?_,?_,?_,?_,?_⟩
  .exact Z d6 oM oM λe=>by have:=a3 _ e;omega
  .exact Z d0 oM oM λe=>by have:=a3 _ e;omega
  ·intro x hx
   have hx:AQ d.C k=some x:=hx;unfold Cm;rw[hx];rfl
  .exact Z (c7.ext a4) oM b9 λe=>by have:=a3 _ e;omega
  exact Z (b3.ext a4) oM b4 λe=>by have:=a3 _ e;omega
 ·intro p hp
  rcases NB hp with rfl|hp
  .exact ⟨hk,(I.ok.agree ha).mono hm⟩
  exact⟨(I.at_.vals p hp).1,((I.at_.vals p hp).2.agree ha).mono hm⟩
 ·intro u hu
  rcases aL.1 hu with hu|hu
  .exact ⟨(I.at_.olds u hu).1,λo ho=>(((I.at_.olds u hu).2 o ho).agree ha).mono hm⟩
  rw[aV.1 hu];exact⟨hk,λo ho=>((((I.at_.vals (k,o) (LV ho)).2).agree ha).mono hm)⟩
 ·show Chain (d.us++[(⟨k,AQ d.C k⟩:UD)]) (d.Hs++[BG d.C k sv])
  rw[a8]at a9 ⊢;exact a9.snoc a7 k sv
 ·have h0:d.Hs[0]? = some []:=I.at_.h0
  show(d.Hs++[BG d.C k sv])[0]? = _;rw[bu oM];exact h0
 ·show (d.Hs++[BG d.C k sv])[(d.us++[(⟨k,AQ d.C k⟩:UD)]).length]? = some (BG d.C k sv)
  rw[aj,bg,aO oM,show d.us.length+1-d.Hs.length=0 by omega];rfl
 ·intro e
  have e:some b=some O:=e;injection e with e;exact c6 e
 ·intro i hi
  have hi:some b=some i:=hi;injection hi with hi;subst hi;exact b0
 ·rintro i (hi | hi | hi) hh
  .exact I.at_.out i (.inl hi) hh
  .exact I.at_.out i (.inr (.inl hi)) hh
  rcases N i hi with h|h
  .exact I.at_.out i (.inr (.inr h)) hh
  have:=hH i hh;omega
 ·refine I.sb.comp a5 fun i hi h=>?_
  rcases h with h|h|h
  .exact .inl h
  ·have h:some b=some i:=h
   injection h with h;subst h;rcases I.mb with h|h
   .exact .inr (.inl h)
   omega
  exact .inr (.inr h)
 rintro i (hi|hi|hi)
 .exact .inl (.inl hi)
 ·have hi:some b=some i:=hi
  injection hi with hi;subst hi;rcases I.mb with h|h
  .exact .inl (.inr (.inl h))
  exact .inr h
 rcases N i hi with h|h
 .exact .inl (.inr (.inr h))
 right;omega
end
abbrev od0(T:RT):OD:=⟨T,none,Sl.none,[],[[]],[]⟩
def BC.fresh(I:AE w O 158 #[Aa T,.map none,.slice none 0 0])(Z:AV w F T)(ok:Am T)(hF:∀b,F b->b<w.heap.size/\¬H b/\b≠O)(hO:¬H O):BC H w O (od0 T):=
 ⟨I,rfl,⟨[],rfl,e9 _ _ _ _,λi u v hu=>by simp at hu⟩,λp N=>(by cases N),λu hu=>(by cases hu),Chain.nil [],rfl,rfl,List.Pairwise.nil,
   Z.mono λb I=>⟨(hF b I).1,⟨λh=>by
    rcases h with h|h|h
    .exact (hF b I).2.2 h
    .cases h
    (cases h),(hF b I).2.1⟩⟩,ok,⟨oO,by simp[Sl.row],λb I=>(by cases I)⟩,λb I=>by
   rcases I with rfl|h|h
   .exact hO
   .cases h
   (cases h),λh=>absurd rfl h⟩
def gY(hT:AV w F T)(ok:Am T)(hF:∀b,F b->b<w.heap.size/\¬H b)(hH:∀b,H b->b<w.heap.size) :
  Calls prog 69 #[AO T] w λe w'=>∃O,e=.returned (.pointer (some ⟨O,0,none⟩))/\w.heap.size<=O/\BC H w' O (od0 T)/\Ext w w':=by
 obtain⟨p,hp⟩:=BM T;rw[AO,hp];obtain⟨HT,Z,HH,HP⟩:=Ye hT hF hH hp;clear hT hF hH hp;go_in;go_wp2_with fail;generalize a1:World.alloc _ _=W0;obtain⟨I,a2,-,a0⟩:=CH w _ _ _ _ W0 a1;refine eU (v:=.pointer (some ⟨w+1,0,none⟩)) (by simp[results,results69,go_sem]) rfl ?_;refine⟨w+1,rfl,cN _,BC.fresh (by rw[HP.o];exact a0) (HT.o.agree (I.agree λb N=>(Z.o b N).1)) ok (λb N=>⟨by have:=(Z.o b N).1;omega,(Z.o b N).2,by have:=(Z.o b N).1;omega⟩) (λh=>by have:=HH.o _ h;omega),I⟩
variable{d:OD}
def F5(h:BC H w O d):Calls prog 130 #[.pointer (some O)] w λe w'=>e=.returned (.int .i64 (d.us.length:Int))/\Ext w w':=by
 have I:w.cell? ⟨O,2,none⟩=some (.slice d.s.a d.us.length d.s.c):=h.blk.cell 2;clear h;go_in;go_wp2_with fail;go_ret;exact⟨rfl,gz w⟩
abbrev OD.now(d:OD)(k:AA):Option Val:=DX (AG d.T) (CZ d.C) k
def Pd{k:AA}(h:AQ d.C k=none):d.now k=AH (AG d.T) k:=by
 unfold OD.now DX;rw[Gt,h];rfl
def Ow{k:AA}{s:SV}(h:AQ d.C k=some s):d.now k=s.opt:=by
 unfold OD.now DX;rw[Gt,h];rfl
def Ym{s:SV}(h:Db w F s):s.opt.getD zeroV=s.v/\s.opt.isSome=s.has:=by
 unfold SV.opt;cases I:s.has with
 |true=>simp
 |false=>simp[h.2 I]
def SB(h:BC H w O d)(hl:(AG d.T).length<=1000000){k:AA}(hk:k.size<=maxLen) :
  Calls prog 163 #[.pointer (some O),k] w (Dn (d.now k) w):=by
 have lO:=h.blk.lt;have c1:w.cell? ⟨O,1,none⟩=some (.map d.mb):=h.blk.cell 1;have c0:w.cell? O=some (Aa d.T):=h.blk.cell 0;have a6:∀cs t,(Instr.lookup 155 (.map d.mb) (.string k) true).run prog (w.alloc (.cells cs t))=.ok (.tuple #[(Cm d.C k).val,.bool (AQ d.C k).isSome]) (w.alloc (.cells cs t)):=λcs t=>
  NL (h.map.heap λb I=>fe _ _ _ (h.map.lt I)) hk
 cases hg:AQ d.C k with
 | none=>
   rw[Pd hg];simp only[hg,Cm,Option.getD_none,Option.isSome_none]at a6;have hF:∀b,BL H w O d b->b<w.heap.size:=λb I=>I.1
   have a9:=λW (hW:Ext w W)=>Rs (w:=W) (λb I=>ab (hF b I) hW.size) (h.tree.agree (hW.agree hF)) h.ok hl k
   generalize AH (AG d.T) k=N at *;obtain⟨p,hp⟩:=BM d.T;rw[hp]at c0;simp only[AO,hp]at a9;have b7:=hY a9;clear a9 h hF hg hp;go_in;go_wp2_with fail;generalize a2:World.alloc _ _=W0;obtain⟨Z,a3,a0,a5⟩:=CH w _ _ _ _ W0 a2;obtain⟨a4,b4,HZ⟩:=Yc Z a0 a3;clear a2 a0 a5 a3 a6;refine(b7.o W0 Z).mono ?_;rintro e w1 ⟨sl,so,rfl,b3,a7⟩;have I:=b4.o.ext b3;obtain⟨q0,q1,q2,q3,q4,q5⟩:=I.c6;have f2:=I.frozen;have lb:=I.lt;obtain⟨b8,c8⟩:=Yb b3 a7;clear I b3 a7 Z b7;go_wp2_with fail;refine eU (v:=.tuple #[AS (N.getD zeroV) sl so,.bool N.isSome]) (by simp[results,results163,go_sem,q0,q1,q2,q3,q4,q5]) rfl ?_;exact L5 (a4.o.trans b8.o) (b:=w.heap.size) (lo:=W0.heap.size) oM (by rw[HZ.o];omega) c8.o
 | some s=>
   rw[Ow hg];have hs:=(h.vals (k,s) (LV hg)).2;have hv:s.opt.getD zeroV=s.v/\s.opt.isSome=s.has:=Ym hs;simp only[hg,Cm,Option.getD_some,Option.isSome_some]at a6;have b6:=λW (hW:Ext w W)=>IL _ s.v (ao _) W s.sl s.so ((hs.1.agree (hW.agree λb I=>I.1)).mono λb I=>ab I.1 hW.size)
   obtain⟨N,b5⟩:∃N,s.opt=N:=⟨_,rfl⟩;rw[b5]at hv ⊢;obtain⟨d0,v,sl,so⟩:=s;obtain⟨rfl,rfl⟩:=hv;have c7:=hY b6;clear b6 h hg hs b5;go_in;go_wp2_with fail;generalize a2:World.alloc _ _=W0;obtain⟨Z,a3,a0,a5⟩:=CH w _ _ _ _ W0 a2;have a1:=hY (show ∀W,St (λb=>b=w.heap.size) W0 W->W.cell? ⟨w.heap.size+1,0,none⟩=some (.bool N.isSome)/\W.cell? ⟨w.heap.size+1,1,none⟩=some (.int .i64 (N.getD zeroV).kind)/\W.cell? ⟨w.heap.size+1,2,none⟩=some (.bool (N.getD zeroV).b)/\W.cell? ⟨w.heap.size+1,3,none⟩=some (.int .i64 (N.getD zeroV).i)/\W.cell? ⟨w.heap.size+1,4,none⟩=some (.string (N.getD zeroV).t)/\W.cell? ⟨w.heap.size+1,5,none⟩=some (.slice sl.a (N.getD zeroV).l.length sl.c)/\W.cell? ⟨w.heap.size+1,6,none⟩=some (.slice so.a (N.getD zeroV).ok.length so.c)from
    λW hW=>by
     have I:=hW.blk a5 oM;exact⟨I.cell 0,I.cell 1,I.cell 2,I.cell 3,I.cell 4,I.cell 5,I.cell 6⟩)
   obtain⟨a4,b4,HZ⟩:=Yc Z a0 a3;have l0:=a0.lt;clear a2 Z a0 a5 a3 a6;refine eV (S:=(λw'=>St (λb=>b=w.heap.size) W0 w')) kM (((gH _ W0).drew)) (λhHeld=>?_);refine AF 0 (some 21) a1 hHeld ?_;refine AF 1 (some 22) a1 hHeld ?_;refine AF 3 (some 24) a1 hHeld ?_;refine AF 4 (some 25) a1 hHeld ?_;refine Af (i:=2) kM rfl (by rfl) (λK hK=>?_);go_simp
   (refine(c7.o _ (a4.o.drew)).mono ?_;rintro e w2 ⟨c9,b9,rfl,a8,a7⟩;have b0:=(b4.o.ext ((gz W0).drew)).ext a8;obtain⟨q0,q1,q2,q3,q4,q5⟩:=b0.c6;have f2:=b0.frozen;have lb:=b0.lt)
   refine hK.out _ _ (hHeld.ext a8) (λhHeld=>?_);clear hK K
   try go_frame
   refine Af (i:=5) kM rfl (by rfl) (λK hK=>?_);go_simp
   skip
   refine hK.out _ _ (hHeld.BN (.inr rfl) 0 _ _ _) (λhHeld=>?_);clear hK K
   try go_frame
   refine AF 6 (some 5) a1 hHeld ?_;refine fa kM ?_ _;go_wp2_with fail;refine eU (v:=.tuple #[AS (N.getD zeroV) c9 b9,.bool N.isSome]) (by simp[results,results163,go_sem,q0,q1,q2,q3,q4,q5]) rfl ?_;exact L5 ((a4.o.drew).trans a8) (b:=w.heap.size) (lo:=W0.heap.size) oM (by rw[HZ.o];omega) a7
def SJ(R:Act->AB->Prop):Exit->Act->AB->Prop
 |.normal,a,w=>R a w
 |_,_,_=>False
def Od{R:Act->AB->Prop}(h:R a w):SJ R .normal a w:=h
def F7(tm:Array Value):List (Nat × Value)->Array Value
 |[]=>tm
 |(i,v)::l=>F7 (tm.setIfInBounds i v) l
def UX{c:Code}{α:Type}(Z:AB->α->Prop)(ds:List Nat)(I:α->List (Nat × Value))
  (h1:c.wp P (SJ λN w'=>∃x,Z w' x/\N.defers=a.defers/\N.tmps=F7 a.tmps ((ds.map λd=>(d,N.tmps.getD d undef))++I x)) a w)
  (h2:∀(w':AB) (x:α) (vs:Nat->Value),Z w' x->Q .normal { tmps:=F7 a.tmps ((ds.map λd=>(d,vs d))++I x),defers:=a.defers } w'):c.wp P Q a w:=
 wp_mono h1 λe N w' h=>by
  cases e with
  | normal=>
    obtain⟨x,hr,hd,ht⟩:=h;have:=h2 w' x (λd=>N.tmps.getD d undef) hr;rw[<-ht,<-hd]at this;exact this
  |_=>exact h.elim
def Va(w:AB)(N I:TypeId)(c0 c1:Array Value):∀W,((w.alloc (.cells c0 N)).alloc (.cells c1 I)).drew=W->
  Ext w W/\W.heap.size=w.heap.size+2/\AE W w.heap.size N c0/\AE W (w.heap.size+1) I c1:=by
 rintro W rfl;obtain⟨hx,Z,h0,h1⟩:=CH w N I c0 c1 _ rfl;exact⟨hx.drew,Z,h0,h1⟩
def oQ{t Z N I:TypeId}{cs c0 c1 c2:Array Value}(hb:AE w O t cs):∀W,((((w.setCell ⟨O,1,none⟩ (.map (some (w.heap.size+1+1+1)))).alloc (.cells c0 Z)).alloc (.cells c1 N)).alloc (.cells c2 I)).alloc (.map #[] 0)=W->
  Sb (λc=>c=O) w W/\w.heap.size+3<=W.heap.size/\AE W O t (cs.setIfInBounds 1 (.map (some (w.heap.size+1+1+1))))/\AE W w.heap.size Z c0/\AE W (w.heap.size+1) N c1/\AE W (w.heap.size+1+1) I c2/\W.ownsMap prog 9 Dx (w.heap.size+1+1+1) 0 (mapA SV.val []):=by
 rintro W rfl;have hz:(w.setCell ⟨O,1,none⟩ (.map (some (w.heap.size+1+1+1)))).heap.size=w.heap.size:=eX _ _ _;have a1:Sb (λc=>c=O) w (w.setCell ⟨O,1,none⟩ (.map (some (w.heap.size+1+1+1)))):=(gE (λc=>c=O) w).set (p:=⟨O,1,none⟩) (.inr rfl) _;have a2:=hb.AX 1 (.map (some (w.heap.size+1+1+1)));generalize w.setCell ⟨O,1,none⟩ (.map (some (w.heap.size+1+1+1)))=W0 at *;obtain⟨hx,a0,h0,h1,h2⟩:=Ch W0 Z N I c0 c1 c2 _ rfl;rw[hz]at h0 h1 h2 a0;generalize ((W0.alloc (.cells c0 Z)).alloc (.cells c1 N)).alloc (.cells c2 I)=W3 at *;have hm:=World.ownsMap_made W3 prog 9 Dx;rw[show W3.heap.size=w.heap.size+1+1+1 by omega]at hm;exact⟨(a1.trans (hx.sb _)).trans (Sb.made (World.grownBy_alloc _ _ _)),by simp;omega,(a2.ext hx).alloc _,h0.alloc _,h1.alloc _,h2.alloc _,hm⟩
variable{sv:SV}
def TE(h:BC H w O d)(hH:∀b,H b->b<w.heap.size)(hn:d.us.length<=1000000){k:AA}(hk:k.size<=maxLen)(g5:Db w (BL H w O d) sv) :
  Calls prog 162 #[.pointer (some O),k,sv.val] w (iR H O d k sv w):=by
 obtain⟨i0,hi,d8,j7,j2⟩:=eZ Tryz.po;have l0:=@run_makeMap prog;have k6:∀(w:AB) (r:Option Nat),(binOp .eql 155 (.map r) (.map none)).run prog w=.ok (.bool r.isNone) w:=λw r=>run_eql_map_nil w _ _ _ r underlying155
 have c1:w.cell? ⟨O,1,none⟩=some (.map d.mb):=h.blk.cell 1;have f1:=h.blk.frozen 1;have lO:=h.blk.lt;have f9:∀i,d.s.row=some i->i<w.heap.size:=λi hi=>h.Ik hi
 obtain⟨b4,i1,g4,b0⟩:=Ye h hH g5 f9;clear h hH g5 f9;obtain⟨b7,v,sl,so⟩:=sv;show Calls _ _ #[_,_,.agg #[b7,v.kind,.bool v.b,.int .i64 v.i,v.t,.slice sl.a v.l.length sl.c,.slice so.a v.ok.length so.c]] _ _;have l1:O<w.heap.size+1:=oM
 have l2:O<w.heap.size+1+1:=oM
 go_in;go_upto_if 12 with fail;go_cut [] (λwc=>∃b,UU H w O d k ⟨b7,v,sl,so⟩ b wc)
 case first=>
  obtain⟨mb,e8⟩:∃mb,d.mb=mb:=⟨_,rfl⟩;rw[e8]at c1 ⊢;have e0:=hY e8;clear e8;rcases mb with _|b
  ·go_wp2_with fail
   generalize b3:World.alloc _ _=W0;obtain⟨c8,d8,j6,e6,a5,a6,a3⟩:=oQ b4.o.blk W0 b3;clear b3;go_meet;have d5:=b4.o.made e0.o (b:=w.heap.size+1+1+1) oM i1.o c8 j6 a3;refine⟨_,d5,c8.mono λi _ h=>.inl h,.inr oM,d8,e6,a5,a6,?_⟩;refine(g4.o.agree (λi hi=>c8.block i hi.1 λe=>hi.2.1 (.inl e))).mono λi hi=>⟨Nat.lt_of_lt_of_le hi.1 c8.size,λe=>?_,hi.2.2⟩
   rcases e with e|e|e
   .exact hi.2.1 (.inl e)
   ·have e:some (w.heap.size+1+1+1)=some i:=e
    injection e with e;have:=hi.1;omega
   exact hi.2.1 (.inr (.inr e))
  go_wp2_with fail;generalize b3:World.alloc _ _=W0;obtain⟨b9,k4,e6,a5,a6⟩:=Ch w _ _ _ _ _ _ W0 b3;clear b3;go_meet;have d5:=b4.o.ext b9;have hd:d={ d with mb:=some b }:=by rw[<-e0.o]
  refine⟨b,by rw[<-hd];exact d5,b9.sb _,.inl e0.o,oM,e6,a5,a6,?_⟩;rw[<-hd];exact(g4.o.agree (b9.agree λb hb=>hb.1)).mono λi hi=>⟨Nat.lt_of_lt_of_le hi.1 b9.size,hi.2⟩
 obtain⟨b,hM⟩:=hcut;have e2:∀W,Ext wc W->(Instr.lookup 155 (.map (some b)) (.string k) true).run prog W=.ok (.tuple #[(Cm d.C k).val,.bool (AQ d.C k).isSome]) W:=λW hW=>
  NL (hM.at_.ext hW).map hk
 obtain⟨o,ho⟩:∃o,Cm d.C k=o:=⟨_,rfl⟩;obtain⟨g,hg⟩:∃g,(AQ d.C k).isSome=g:=⟨_,rfl⟩;rw[ho,hg]at e2;obtain⟨oh,ov,b6,c6⟩:=o;obtain⟨HO,HG⟩:=Yb ho hg;have j0:O<wc.heap.size:=hM.at_.blk.lt;have k5:=hM.big;have HM:=hY hM;have I:=hY (show ∀W,Ext wc W->W.cell? w=some (.pointer (some O))/\W.cell? ⟨O,1,none⟩=some (.map (some b))/\W.cell? ⟨w.heap.size+1,0,none⟩=some (.string k)/\
   (Instr.lookup 155 (.map (some b)) (.string k) true).run prog W=.ok (.tuple #[.agg #[oh,ov.kind,.bool ov.b,.int .i64 ov.i,ov.t,.slice b6.a ov.l.length b6.c,.slice c6.a ov.ok.length c6.c],.bool g]) W from
  λW hW=>⟨(hM.bo.ext hW).cell 0,((hM.at_.ext hW).blk).cell 1,(hM.bk.ext hW).cell 0,e2 W hW⟩)
 clear hM e2 ho hg c1 f1 l1 l2;go_wp2_with fail;refine UX (α:=Nat × Nat) (λw' x=>Ext wc w'/\(wc.heap.size<=x.1/\x.1<w'.heap.size)/\(wc.heap.size<=x.2/\x.2<w'.heap.size)/\AE w' x.1 166 #[.bool oh,.int .i64 ov.kind,.bool ov.b,.int .i64 ov.i,.string ov.t,.slice b6.a ov.l.length b6.c,.slice c6.a ov.ok.length c6.c]/\AE w' x.2 4 #[.bool g]) [17,18,19,20,21,22,23,24,25] (λx=>[(6,.pointer (some x.1)),(7,.pointer (some x.2))]) ?h1 ?h2
 case h1=>
  refine eV (S:=(λw'=>Ext wc w')) kM (((gz wc).drew)) (λhHeld=>?_);refine AF 0 (some 18) I hHeld ?_;refine AF 1 (some 19) I hHeld ?_;refine AF 2 (some 20) I hHeld ?_;refine AF 3 (some 21) I hHeld ?_;refine AF 4 (some 22) I hHeld ?_;refine AF 5 (some 23) I hHeld ?_;refine AF 6 (some 17) I hHeld ?_;refine AF 7 (some 24) I hHeld ?_;refine AF 8 (some 25) I hHeld ?_;refine JY (i:=9) (j:=10) kM rfl rfl (by rfl) (by rfl) (λK N=>?_) (λK N=>?_)
  ·go_simp
   skip
   refine N.out _ _ ((by first|exact(((gz _).drew).alloc _ _).alloc _ _|exact((gz _).drew).alloc _ _)) (λhHeld=>?_);clear N K
   try go_frame
   refine Af (i:=10) kM rfl (by rfl) (λK N=>?_);go_simp
   skip
   refine N.out _ _ ((by first|exact(((gz _).drew).alloc _ _).alloc _ _|exact((gz _).drew).alloc _ _)) (λhHeld=>?_);clear N K
   try go_frame
   refine Af (i:=11) kM rfl (by rfl) (λK N=>?_);go_simp
   skip
   refine N.out _ _ ((by first|exact(((gz _).drew).alloc _ _).alloc _ _|exact(((gz _).alloc _ _).alloc _ _).drew)) (λhHeld=>?_);clear N K
   try go_frame
   refine Af (i:=12) kM rfl (by rfl) (λK N=>?_);go_simp
   skip
   refine N.out _ _ ((by first|exact(((gz _).drew).alloc _ _).alloc _ _|exact(((gz _).alloc _ _).alloc _ _).drew)) (λhHeld=>?_);clear N K
   try go_frame
   refine fa kM ?_ _;generalize e4:World.drew _=Z;obtain⟨a1,i9,a5,a6⟩:=Va wc _ _ _ _ Z e4;refine Od ⟨(wc.heap.size,wc.heap.size+1),⟨a1,⟨Nat.le_refl _,by show wc.heap.size<_;omega⟩,⟨Nat.le_succ _,by show wc.heap.size+1<_;omega⟩,a5,a6⟩,kM,?_⟩;simp only[F7,List.map_cons,List.map_nil,List.cons_append,List.nil_append,List.setIfInBounds_toArray,List.set_cons_zero,List.set_cons_succ]
   kernel_rfl
  go_simp
  skip
  refine N.out _ _ ((by first|exact(((gz _).drew).alloc _ _).alloc _ _|exact((gz _).drew).alloc _ _)) (λhHeld=>?_);clear N K
  try go_frame
  refine Af (i:=9) kM rfl (by rfl) (λK N=>?_);go_simp
  skip
  refine N.out _ _ ((by first|exact(((gz _).drew).alloc _ _).alloc _ _|exact((gz _).drew).alloc _ _)) (λhHeld=>?_);clear N K
  try go_frame
  refine Af (i:=11) kM rfl (by rfl) (λK N=>?_);go_simp
  skip
  refine N.out _ _ ((by first|exact(((gz _).drew).alloc _ _).alloc _ _|exact(((gz _).alloc _ _).alloc _ _).drew)) (λhHeld=>?_);clear N K
  try go_frame
  refine Af (i:=12) kM rfl (by rfl) (λK N=>?_);go_simp
  skip
  refine N.out _ _ ((by first|exact(((gz _).drew).alloc _ _).alloc _ _|exact(((gz _).alloc _ _).alloc _ _).drew)) (λhHeld=>?_);clear N K
  try go_frame
  refine fa kM ?_ _;generalize e4:World.drew _=Z;obtain⟨a1,i9,a5,a6⟩:=Va wc _ _ _ _ Z e4;refine Od ⟨(wc.heap.size+1,wc.heap.size),⟨a1,⟨Nat.le_succ _,by show wc.heap.size+1<_;omega⟩,⟨Nat.le_refl _,by show wc.heap.size<_;omega⟩,a6,a5⟩,kM,?_⟩;simp only[F7,List.map_cons,List.map_nil,List.cons_append,List.nil_append,List.setIfInBounds_toArray,List.set_cons_zero,List.set_cons_succ]
  kernel_rfl
 rintro Z ⟨bd,bw⟩ uu ⟨a1,f6,f4,d7,e3⟩;simp only[F7,List.map_cons,List.map_nil,List.cons_append,List.nil_append,List.setIfInBounds_toArray,List.set_cons_zero,List.set_cons_succ];dsimp only at f6 f4 d7 e3;have b8:=HM.o.at_.blk.ext a1;have c2:Z.cell? ⟨O,2,none⟩=some (.slice d.s.a d.us.length d.s.c):=b8.cell 2;have f2:=b8.frozen 2;have d4:=b8.lt;have d6:=HM.o.bo.ext a1;have c3:Z.cell? w=some (.pointer (some O)):=d6.cell 0;have l3:=d6.lt;obtain⟨xs,hl,a3,i5⟩:=HM.o.at_.row;obtain⟨HL,j9,j4⟩:=Yc (show xs.length=d.us.length from hl) i5 (show ∀W,Ext Z W->W.ownsRow 0 1 1 (.slice d.s.a d.us.length d.s.c) d.us.length xs fromλW hW=>AZ a3 ((a1.trans hW).agree λb (hb:b<wc.heap.size)=>hb) λb hb=>(AM a3 hb).2);have g3:d.s.row≠some O:=HM.o.at_.ne.2.1;have j3:d.s.row≠some w.heap.size:=λe=>by have:=b0.o _ e;omega
 have c9:∀u∈[Fx bw bd w.heap.size (w.heap.size+1)],u.oneCell'=true:=by simp[Value.oneCell']
 have g0:d.us.length+1<=maxLen:=by unfold maxLen;omega
 have i3:(d.us.length+1)*8<=140737488355328:=oM
 obtain⟨g7,j8,j5,j1,k3⟩:=Yf a1 d7 e3 f4 f6;clear d7 e3 f4 f6 b8 d6 hl i5 a3 a1 I;go_wp2_with fail;refine UX (α:=Sl × AB × AB) (λw' x=>Ext Z x.2.1/\x.2.2.ownsRow 0 1 1 (.slice x.1.a (d.us.length+1) x.1.c) (d.us.length+1) (xs++[Fx bw bd w.heap.size (w.heap.size+1)])/\Wr x.2.1 x.2.2 d.s.row/\(x.1.a=d.s.a\/x.1.a=some ⟨x.2.1.heap.size,0,none⟩/\Wr x.2.1 x.2.2 none)/\w'=x.2.2.setCell ⟨O,2,none⟩ (.slice x.1.a (d.us.length+1) x.1.c)) [26,27,28,29,30,31,32,33,34,35] (λ_=>[]) ?g1 ?g2
 case g1=>
  go_region_law (refine IK _ rfl (.tmp 30) (.tmp 32) 156 rfl 0 1 i0 _ 1 8 underlying156 hi d8 j7 j2 rfl oN d.s d.us.length xs (by rfl) (j4.o _ (by first|exact((gz Z).drew).alloc _ _|exact((gz Z).alloc _ _).drew)) (λb=>b=Z.heap.size) ⟨some Z,1⟩ 1 [Fx bw bd w.heap.size (w.heap.size+1)] (by rfl) (gG (gB _ _ _) oN rfl) c9 g0 i3 (aw _) ?_;intro s5 w5 a9 a2 a8;have e7:=a2.cell0 (w:=Z) (o:=2) (by first|exact((gz Z).drew).alloc _ _|exact((gz Z).alloc _ _).drew) g3 d4;have k9:=e7.1.trans c2;have k8:=e7.2;have i4:=a2.cell0 (w:=Z) (o:=0) (by first|exact((gz Z).drew).alloc _ _|exact((gz Z).alloc _ _).drew) j3 l3;have k7:=i4.1.trans c3;have f5:w5.frozen? ⟨O,2,none⟩=false:=(a2.fz _ _).trans (((by first|exact((gz Z).drew).alloc _ _|exact((gz Z).alloc _ _).drew:Ext Z _).frozen (o:=2) d4).trans f2);have f0:=hY a9;have f8:=hY a2;have e1:=hY a8;clear a9 a2 a8 e7 i4)
  all_goals
   refine Od ⟨(s5,_,w5),⟨by first|exact((gz Z).drew).alloc _ _|exact((gz Z).alloc _ _).drew,f0.o,f8.o,e1.o,rfl⟩,kM,?_⟩;simp only[F7,List.map_cons,List.map_nil,List.append_nil,List.cons_append,List.nil_append,List.setIfInBounds_toArray,List.set_cons_zero,List.set_cons_succ]
   kernel_rfl
 rintro w6 ⟨s5,W5,w5⟩ vv ⟨b5,d3,a0,a8,rfl⟩;simp only[F7,List.map_cons,List.map_nil,List.append_nil,List.cons_append,List.nil_append,List.setIfInBounds_toArray,List.set_cons_zero,List.set_cons_succ];dsimp only at b5 d3 a0 a8;have c7:Ext wc W5:=g7.o.trans b5;have a4:Sb (λc=>c=O\/d.s.row=some c) wc (w5.setCell ⟨O,2,none⟩ (.slice s5.a (d.us.length+1) s5.c)):=
  ((c7.sb _).trans ⟨a0.grown.os,a0.grown.tape,a0.grown.output,a0.grown.size,λi hi hn=>a0.grown.block i hi λe=>hn (.inr e.symm)⟩).trans ((gE _ w5).set (p:=⟨O,2,none⟩) (.inr (.inl rfl)) _)
 have d0:AE w5 O 158 #[Aa d.T,.map (some b),.slice d.s.a d.us.length d.s.c]:=(a0.agree (F:=λc=>c=O) (λi hi=>by rw[hi];exact ab j0 c7.size) (λi hi e=>g3 (by rw[hi,e])) O rfl).trans (HM.o.at_.blk.ext c7);have f3:=d0.AX 2 (.slice s5.a (d.us.length+1) s5.c);have g9:¬O=b:=λe=>HM.o.at_.ne.1 (by rw[e])
 have n0:=Bj.ne HM.o.at_.map HM.o.bo;have n1:=Bj.ne HM.o.at_.map HM.o.bk;have n2:=Bj.ne HM.o.at_.map HM.o.bs;have k0:=a4.blk HM.o.bo (λe=>by
  rcases e with e|e
  .omega
  have:=b0.o _ e;omega)
 have k1:=a4.blk HM.o.bk (λe=>by
  rcases e with e|e
  .omega
  have:=b0.o _ e;omega)
 have k2:=a4.blk HM.o.bs (λe=>by
  rcases e with e|e
  .omega
  have:=b0.o _ e;omega)
 have a7:Bj (w5.setCell ⟨O,2,none⟩ (.slice s5.a (d.us.length+1) s5.c)) (some b) d.C:=HM.o.at_.map.heap λi hi=>by
  injection hi with hi;subst hi;exact a4.block b (HM.o.at_.map.lt rfl) λe=>by
   rcases e with e|e
   .exact g9 e.symm
   exact HM.o.at_.ne.2.2 b rfl e
 obtain⟨i7,f0,f8,e1⟩:=Ye b5 d3 a0 a8;obtain⟨W6,f7⟩:∃W6,w5.setCell ⟨O,2,none⟩ (.slice s5.a (d.us.length+1) s5.c)=W6:=⟨_,rfl⟩;rw[f7]at f3 k0 k1 k2 a7 ⊢;obtain⟨i6,g6⟩:=Yb f7 a7;have I:=hY (show ∀W,Sb (λc=>c=b) W6 W->W.cell? w=some (.pointer (some O))/\W.cell? ⟨O,1,none⟩=some (.map (some b))/\W.cell? ⟨w.heap.size+1,0,none⟩=some (.string k)/\W.cell? ⟨w.heap.size+1+1,0,none⟩=some (.bool b7)/\W.cell? ⟨w.heap.size+1+1,1,none⟩=some (.int .i64 v.kind)/\W.cell? ⟨w.heap.size+1+1,2,none⟩=some (.bool v.b)/\W.cell? ⟨w.heap.size+1+1,3,none⟩=some (.int .i64 v.i)/\W.cell? ⟨w.heap.size+1+1,4,none⟩=some (.string v.t)/\W.cell? ⟨w.heap.size+1+1,5,none⟩=some (.slice sl.a v.l.length sl.c)/\W.cell? ⟨w.heap.size+1+1,6,none⟩=some (.slice so.a v.ok.length so.c)from
  λW hW=>⟨(hW.blk k0 n0).cell 0,(hW.blk f3 g9).cell 1,(hW.blk k1 n1).cell 0,(hW.blk k2 n2).cell 0,(hW.blk k2 n2).cell 1,(hW.blk k2 n2).cell 2,(hW.blk k2 n2).cell 3,(hW.blk k2 n2).cell 4,(hW.blk k2 n2).cell 5,(hW.blk k2 n2).cell 6⟩)
 have i8:d.C.length<maxLen:=by have:=b4.o.few;unfold maxLen;omega
 clear c7 a4 d0 f3 n0 n1 n2 k0 k1 k2 a7 b5 d3 a0 a8 f7 c2 f2 d4 c3 l3 c9 g0 i3;go_wp2_with fail;refine eV (S:=(λw'=>Sb (λc=>c=b) W6 w')) kM (((gE _ W6).drew)) (λhHeld=>?_);refine AF 0 (some 36) I hHeld ?_;refine AF 1 (some 37) I hHeld ?_;refine AF 2 (some 38) I hHeld ?_;refine AF 3 (some 39) I hHeld ?_;refine AF 4 (some 40) I hHeld ?_;refine AF 5 (some 41) I hHeld ?_;refine Af (i:=6) kM rfl (by rfl) (λK N=>?_)
 skip
 (refine RG (b:=b) (C:=d.C) (k:=k) (s:=⟨b7,v,sl,so⟩) rfl rfl rfl rfl (g6.o.heap λ_ _=>rfl) hk i8 b4.o.sorted ?_;intro w7 d9 g8)
 refine N.out _ _ (hHeld.trans g8) (λhHeld=>?_);clear N K
 try go_frame
 refine fa kM ?_ _;have h7:Sb (λc=>c=b) (w5.setCell ⟨O,2,none⟩ (.slice s5.a (d.us.length+1) s5.c)) w7:=by rw[i6.o];exact hHeld
 have i2:=step_end HM.o lO b0.o i1.o hk g7.o j1.o k3.o (by rw[HO.o];exact j8.o) (by rw[HG.o];exact j5.o) i7.o HL.o j9.o f0.o f8.o e1.o d9 h7;go_end0;exact⟨⟨_,rfl⟩,_,_,i2⟩
abbrev Nw(w w':AB):Prop:=Sb (λ_=>False) w w'
def Nw.any(h:Nw w w')(H:Nat->Prop):Sb H w w':=h.mono λ_ _ e=>e.elim
def Nw.blk{w w':AB}(h:Nw w w'){g:Nat}{t:TypeId}{cs:Array Value}(I:AE w g t cs):AE w' g t cs:=Sb.blk h I λe=>e
def Nw.agree{w w':AB}(h:Nw w w'){F:Nat->Prop}(hF:∀b,F b->b<w.heap.size):Agree F w w':=λb I=>h.block b (hF b I) λe=>e
def Nw.of{w w':AB}(h:Ext w w'):Nw w w':=h.sb _
section
variable{H : Nat -> Prop}{w w' : AB}{O : Nat}{d d' : OD}
def BC.nw(h:BC H w O d)(k:Nw w w'):BC H w' O d:=h.sb k λ_ I=>I.elim
def EK.after{w0:AB}(h:EK H w O d d' w')(k:Nw w0 w):EK H w0 O d d' w':=
 ⟨h.at_,(k.any _).trans h.sb,λb I=>(h.new b I).imp id λN=>an k.size N⟩
def OD.step(d:OD)(k:AA)(sv:SV)(mb:Option Nat)(s:Sl):OD:=⟨d.T,mb,s,d.us++[⟨k,AQ d.C k⟩],d.Hs++[BG d.C k sv],BG d.C k sv⟩
end
def Rz(H:Nat->Prop)(O:Nat)(d:OD)(k:AA)(w:AB)(e:AC)(w':AB):Prop:=
 e=.returned (.bool (d.now k).isSome)/\(((d.now k).isSome=false/\Nw w w')\/((d.now k).isSome=true/\∃mb s,EK H w O d (d.step k ID mb s) w'))
def WG(h:BC H w O d)(hH:∀b,H b->b<w.heap.size)(hn:d.us.length<=1000000)(hl:(AG d.T).length<=1000000){k:AA}(hk:k.size<=maxLen) :
  Calls prog 134 #[.pointer (some O),k] w (Rz H O d k w):=by
 have hg:=SB h hl hk;have a1:=λW (hW:Ext w W)=>TE (h.ext hW) (λb hb=>ab (hH b hb) hW.size) hn hk (sv:=ID) ⟨JQ _ _,λ_=>rfl⟩
 unfold Rz;generalize d.now k=og at *;obtain⟨a2,HG⟩:=Yb a1 hg;clear h hH a1 hg;go_in;go_wp2_with fail;refine HG.o.mono ?_;rintro e w1 ⟨sl,so,rfl,a0,-⟩;have Z:=hY a0;clear a0;cases og with
 | none=>
   go_wp2_with fail;go_ret;exact⟨rfl,.inl ⟨rfl,Nw.of (Z.o.alloc _ _)⟩⟩
 | some v=>
   go_wp2_with fail;have I:=Z.o.alloc (w:=w1) #[.int .i64 v.kind,.bool v.b,.int .i64 v.i,.string v.t,.slice sl.a v.l.length sl.c,.slice so.a v.ok.length so.c] 54;refine(a2.o _ I).mono ?_;rintro e w3 ⟨⟨r,rfl⟩,mb,s,N⟩;have a3:=hY (N.after (Nw.of I));clear N I;go_wp2_with fail;go_ret;exact⟨rfl,.inr ⟨rfl,mb,s,a3.o⟩⟩
variable{sl so:Sl}
def YM{k:AA}{v:Val}{c:Int}(I:∀W,Nw w W->Calls prog 161 #[k] W λe w'=>e=.returned c/\Nw W w')(hc:c≠0) :
  Calls prog 133 #[.pointer (some O),k,AS v sl so] w λe w'=>e=.returned (.int .i64 8)/\Nw w w':=by
 have HM:=hY I;have g0:(c != 0)=true:=fg.2 hc;clear I hc;go_in;go_wp2_with fail;have N:Ext w (w.alloc (.cells #[v.kind,v.b,v.i,v.t,.slice sl.a v.l.length sl.c,.slice so.a v.ok.length so.c] 54)):=(gz w).alloc _ _;refine(HM.o _ (Nw.of N)).mono ?_;rintro e w1 ⟨rfl,Z⟩;have a0:=hY ((Nw.of N).trans Z);clear N Z;go_wp2_with fail;go_ret;exact⟨rfl,a0.o⟩
def XK{k:AA}{v:Val}{c:Int}(N:∀W,Nw w W->Calls prog 161 #[k] W λe w'=>e=.returned (.int .i64 0)/\Nw W w')
  (I:∀W,Nw w W->Calls prog 160 #[AS v sl so] W λe w'=>e=.returned c/\Nw W w') (hc:c≠0) :
  Calls prog 133 #[.pointer (some O),k,AS v sl so] w λe w'=>e=.returned c/\Nw w w':=by
 obtain⟨HM,HF⟩:=Yb N I;have g0:(c != 0)=true:=fg.2 hc;clear N hc I;go_in;go_wp2_with fail;have a0:Ext w (w.alloc (.cells #[v.kind,v.b,v.i,v.t,.slice sl.a v.l.length sl.c,.slice so.a v.ok.length so.c] 54)):=(gz w).alloc _ _;have a4:=gB w 54 #[.int .i64 v.kind,.bool v.b,.int .i64 v.i,.string v.t,.slice sl.a v.l.length sl.c,.slice so.a v.ok.length so.c];refine(HM.o _ (Nw.of a0)).mono ?_;rintro e w1 ⟨rfl,a1⟩;obtain⟨q0,q1,q2,q3,q4,q5⟩:=(a1.blk a4).c6;have Z:=(Nw.of a0).trans a1;have a2:=hY Z;clear a0 a1 Z a4;go_wp2_with fail;refine(HF.o _ a2.o).mono ?_;rintro e w2 ⟨rfl,a3⟩;have a5:=hY (a2.o.trans a3);clear a3 q0 q1 q2 q3 q4 q5;go_wp2_with fail;go_ret;exact⟨rfl,a5.o⟩
def V7(H:Nat->Prop)(O:Nat)(d:OD)(k:AA)(v:Val)(w:AB)(e:AC)(w':AB):Prop:=
 e=.returned (.int .i64 0)/\∃sl so mb s,EK H w O d (d.step k ⟨true,v,sl,so⟩ mb s) w'
def qO(h:BC H w O d)(hH:∀b,H b->b<w.heap.size)(hn:d.us.length<=1000000){k:AA}(hk:k.size<=maxLen){v:Val}(hv:RV w (Lt w) v sl so)
  (a1:∀W,Nw w W->Calls prog 161 #[k] W λe w'=>e=.returned (.int .i64 0)/\Nw W w')
  (a0:∀W,Nw w W->Calls prog 160 #[AS v sl so] W λe w'=>e=.returned (.int .i64 0)/\Nw W w') :
  Calls prog 133 #[.pointer (some O),k,AS v sl so] w (V7 H O d k v w):=by
 have c8:=λW (hW:Nw w W) sv hsv=>TE (h.nw hW) (λb hb=>ab (hH b hb) hW.size) hn hk (sv:=sv) hsv
 have b5:=λW (hW:Nw w W)=>IL _ v (ao _) W sl so ((hv.agree (hW.agree λb hb=>hb)).mono λb hb=>ab hb hW.size)
 have a4:∀b,DZ O d b->b<w.heap.size:=λb hb=>h.CC hb
 obtain⟨HM,HF,b7,b6,b3,d4⟩:=Yg a1 a0 c8 b5 a4 hH;clear a1 a0 h hv c8 b5 a4 hH;go_in;go_wp2_with fail;have a8:Ext w (w.alloc (.cells #[v.kind,.bool v.b,v.i,v.t,.slice sl.a v.l.length sl.c,.slice so.a v.ok.length so.c] 54)):=(gz w).alloc _ _;have c9:=gB w 54 #[.int .i64 v.kind,.bool v.b,.int .i64 v.i,.string v.t,.slice sl.a v.l.length sl.c,.slice so.a v.ok.length so.c];refine(HM.o _ (Nw.of a8)).mono ?_;rintro e w1 ⟨rfl,a9⟩;have a5:=a9.blk c9;obtain⟨q0,q1,q2,q3,q4,q5⟩:=a5.c6;have a3:=(Nw.of a8).trans a9;obtain⟨b4,c7⟩:=Yb a3 a5;clear a8 a9 a3 c9 a5 HM;go_wp2_with fail;refine(HF.o _ b4.o).mono ?_;rintro e w2 ⟨rfl,a6⟩;have b8:=a6.blk c7.o;have a2:=b4.o.trans a6;have Z:=hY a2;clear a6 q0 q1 q2 q3 q4 q5 c7 HF;obtain⟨q0,q1,q2,q3,q4,q5⟩:=b8.c6;clear b8 a2;go_wp2_with fail;refine(b6.o _ Z.o).mono ?_;rintro e w3 ⟨sl',so',rfl,b9,d3⟩;have I:=Z.o.trans (Nw.of b9);have d0:Db w3 (BL H w3 O d) ⟨true,v,sl',so'⟩:=⟨d3.mono λi hi=>⟨hi.2,λe=>by have:=b3.o i e;have:=Z.o.size;have:=hi.1;omega,λe=>by have:=d4.o i e;have:=Z.o.size;have:=hi.1;omega⟩,λe=>by cases e⟩;have N:=b7.o w3 I _ d0;obtain⟨d5,a7⟩:=Yb I N;clear b9 d3 I d0 N q0 q1 q2 q3 q4 q5 b6 b7;go_wp2_with fail;refine a7.o.mono ?_;rintro e w4 ⟨⟨r,rfl⟩,mb,s,b0⟩;have d6:=hY (b0.after d5.o);clear b0;go_wp2_with fail;go_ret;exact⟨rfl,sl',so',mb,s,d6.o⟩
abbrev gA:=@Nw.of
abbrev gC:=@Nw.agree
abbrev gK:=@Nw.blk
end Go.Proofs.YtahhllcdbjbpbaaGreatDoor
