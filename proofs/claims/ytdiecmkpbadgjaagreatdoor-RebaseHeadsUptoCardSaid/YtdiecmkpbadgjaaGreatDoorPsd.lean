/- What the theorem needs: no condition of its own. -/
import Derived.Deep.CutBlock
import Derived.Test.YtdiecmkpbadgjaaGreatDoorPsc
set_option linter.all false
set_option maxRecDepth 100000
set_option maxHeartbeats 4000000
namespace Go.Proofs.YtdiecmkpbadgjaaGreatDoor
open Go.Proofs.Tryz
open Go.RowKit
abbrev Qdt(sl sr:Sl):Nat->Prop:=λb=>sl.row=some b\/sr.row=some b
def Qft(P:Nat->World->Prop)(W:World)(e:Ending)(W':World):Prop:=∃a,e=.returned (.pointer (some ⟨a,0,none⟩))/\W.heap.size<=a/\P a W'/\Ext W W'
variable{w W:World}{s:Sl}{G:Nat->Prop}
theorem Qlo{base n:Nat}{xs:List Value}(h:w.ownsRow base 46 1 (.slice s.a n s.c) n xs)(hs:St G w W)(N:∀b,s.row=some b->¬G b):W.ownsRow base 46 1 (.slice s.a n s.c) n xs:=
 Qab h hs.agree λb I=>⟨(Qad h I).2,N b I⟩
variable{F:Nat->Prop}{cs:List Value}
theorem Qsi{n m:Nat}(h:Rd w F 1 s n cs)(I:m<=n):Rd w F 1 s m (cs.take (m*1)):=h.take I
variable{n:Nat}
theorem Qvn{ls:List Value}(Z:ls.length=n*1)(hn:0<n)(I:∀u∈ls,∃p,u=Value.pointer p):∃v0:Option Addr,ls.drop ((n-1)*1)=[.pointer v0]:=by
 have h:(ls.drop ((n-1)*1)).length=1:=by rw[aw,Z];omega
 match hd:ls.drop ((n-1)*1),h with
 |[x],_=>obtain⟨p,N⟩:=I x (aN (by rw[hd];exact aV.2 rfl));exact⟨p,by rw[N]⟩
section
variable{w : World}{base m nr : Nat}{sl sr : Sl}{ls rs : List Value}{P1 P2 : Nat -> World -> Prop}
theorem QnF(hL:w.ownsRow base 46 1 (.slice sl.a (m+1) sl.c) (m+1) ls)(hR:w.ownsRow base 46 1 (.slice sr.a nr sr.c) nr rs)(hb:base<=w.heap.size)(a6:∀b,sl.row=some b->sr.row≠some b)
  (a8:∀u∈ls,u.oneCell'=true) (c2:∀u∈rs,u.oneCell'=true) (c7:∀u∈ls,∃p,u=Value.pointer p) (h4:4<m+1) (h8:m+1<=8) (r8:nr<=8)
  (b9:∀(W:World) (s:Sl),St (Qdt sl sr) w W->Rd W (Lt W) 1 s m (ls.take (m*1))->Calls prog 54 #[.slice s.a m s.c] W (Qft P1 W))
  (b4:∀(W:World) (s:Sl),St (Qdt sl sr) w W->Rd W (Lt W) 1 s (nr+1) (ls.drop (m*1)++rs)->Calls prog 54 #[.slice s.a (nr+1) s.c] W (Qft P2 W))
  (b3:∀a W W',St (Qdt sl sr) w W->P1 a W->St (Qdt sl sr) W W'->P1 a W') :
  Calls prog 147 #[.slice sl.a (m+1) sl.c,.slice sr.a nr sr.c,.func (.func 54) #[] #[]] w λe w'=>∃a b,e=.returned (.tuple #[.pointer (some ⟨a,0,none⟩),.pointer (some ⟨b,0,none⟩)])/\w.heap.size<=a/\w.heap.size<=b/\P1 a w'/\P2 b w'/\St (Qdt sl sr) w w':=by
 obtain⟨i0,hi,f4,f0,e7⟩:=eR Tryz.Qbg;obtain⟨v0,I⟩:=Qvn hL.1 oM c7;rw[Nat.add_sub_cancel]at I;obtain⟨gl,N,rfl,e8,e3,b8,a0⟩:=QaJ hL oM;have c6:gl<w:=a0.lt;have a5:∀b,sr.row=some b->b<w.heap.size:=λb hb=>(Qad hR hb).2
 have b6:∀W,St (λb=>sr.row=some b) w W->∀j u,ls[j]? = some u->W.cell? ⟨gl,j,none⟩=some u:=λW hW j u hj=>by
  obtain⟨b,o,h1,h2,h3⟩:=gz hL;obtain⟨e1,-,-⟩:=h1.eq oM;obtain⟨rfl,rfl⟩:gl=b/\0=o:=by simpa using e1
  have:=h3 j u hj;rw[aD]at this;exact(hW.cell c6 (a6 gl rfl)).trans this
 have b5:∀(c:Nat) (u:Value),([.pointer v0]:List Value)[c]? = some u->ls[m*1+c]? = some u:=λc u hu=>by rw[<-I,bc]at hu;exact hu
 have hS:∀W,St (λb=>sr.row=some b) w W->W.cell? ⟨gl,m,none⟩=some (.pointer v0):=λW hW=>by have:=b6 W hW _ _ (b5 0 _ rfl);simpa using this
 have f2:(4:Int)<(m:Int)+1:=oM
 have f6:(m:Int)<=(N:Int):=oM
 have f1:(m:Int)<(m:Int)+1:=oM
 have e4:(N:Int)<=9223372036854775807:=by unfold maxLen at b8;omega
 have f5:IntKind.i64.wrap ((m:Int)+1)=(m:Int)+1:=by rw[eM];omega
 have a9:∀W,St (λb=>sr.row=some b) w W->Calls prog 54 #[.slice (some gl) m N] W (Qft P1 W):=λW hW=>
  b9 W ⟨some gl,N⟩ (hW.mono λi _ hi=>.inr hi) (Qsi ((gz (Qlo (s:=⟨some gl,N⟩) hL hW (λb hb=>a6 b hb))).mono λi hi=>hi.2) oM)
 have a3:∀W vb,Ext w W->Blk W vb 46 #[.pointer v0]->w.heap.size<=vb->Calls prog 81 #[.slice sr.a nr sr.c,.int .i64 0,.slice (some vb) 1 1] W (Qew base sr nr 0 rs [.pointer v0] W):=λW vb hW hv e6=>
  Qmb (Qlo hR (hW.st (λ_=>False)) (λ_ _ h=>h)) (ak hb hW.size) oM (aA _) rfl hv (λe=>by have:=a5 vb e;omega) (λu hu=>a8 u (aN (I▸hu))) c2
 obtain⟨HS,c8,c9,HI,d3,HL⟩:=Yg hS a9 b4 a3 b3 I;clear hS a9 b9 b4 a3 b3 I b5 b6 a8 c2 hL hR a0 a6;go_in;go_wp2_with fail;have s0:=(gB (λb=>sr.row=some b) w).drew;have k0:=HS.o _ s0;have e0:=(gh w).drew;have sA:=((((gh w).alloc #[.pointer v0] 46).drew).st (λb=>sr.row=some b));have d7:=hY (show Blk (w.alloc (.cells #[.pointer v0] 46)).drew w.heap.size 46 #[.pointer v0]from gm w 46 _);go_region_held3 (λW=>W.cell? ⟨gl,m,none⟩=some (.pointer v0)) (first |(with_reducible exact HS.o _ s0) |(with_reducible exact HS.o _ (s0.alloc _ _)) |(with_reducible exact HS.o _ s1) |(with_reducible exact HS.o _ (s1.alloc _ _)) |(with_reducible exact HS.o _ s2) |(with_reducible exact HS.o _ c1) |(with_reducible exact HS.o _ sA)|go_keep)
  (first
    |(go_at_call_of 54 (Value.slice (some gl) m N);refine(c8.o _ (by first|exact s0|exact s0.alloc _ _)).mono ?_;rintro e w1 ⟨a1,rfl,e2,b0,a4⟩;have s1:=(show St (λb=>sr.row=some b) w _ from by first|exact s0|exact s0.alloc _ _).ext a4;have e1:=(show Ext w _ from by first|exact e0|exact e0.alloc _ _).trans a4;have d8:=hY b0;clear b0)
    |(go_at_call 81;refine(HI.o _ _ (by first |(with_reducible exact e1)|exact e1.alloc _ _) (by first|exact(gm _ _ _)|exact Blk.ext d7.o a4) (by first|exact e1.size|exact ao _)).mono ?_;rintro e w2 ⟨s3,rfl,a7,Z,d0⟩;have d6:=(show St (Qdt ⟨some gl,N⟩ sr) w1 w2 from by first|exact(Z.st λi hi=>.inr hi)|exact(((gh w1).alloc _ _).st _).trans (Z.st λi hi=>.inr hi));have s2:=s1.trans (show St (λb=>sr.row=some b) w1 w2 from by first|exact(Z.st λi hi=>hi)|exact(((gh w1).alloc _ _).st _).trans (Z.st λi hi=>hi));have d4:=hY a7;clear a7 Z d0)
    |(go_at_call 54;refine(c9.o w2 s3 (s2.mono λi _ hi=>.inr hi) ?_).mono ?_;(have h:=gz d4.o;simp only[Nat.zero_mul,List.take_zero,List.nil_append,List.drop_zero]at h;rw[<-HL.o]at h;exact h.mono λi hi=>hi.2);rintro e w3 ⟨a2,rfl,c4,c0,b7⟩;have c1:=s2.ext b7;have c3:=hY c0;clear c0))
 all_goals
  go_wp2_with fail;go_ret2;have f3:=s1.size;have d5:=s2.size;refine⟨a1,a2,rfl,?_,ak d5 c4,d3.o a1 w1 w3 (s1.mono λi _ hi=>.inr hi) d8.o (d6.ext b7),c3.o,c1.mono λi _ hi=>.inr hi⟩;simp only[World.size_alloc,World.size_drew]at e2;omega
end
theorem Qug{rs:List Value}(Z:rs.length=n*1)(hn:0<n)(I:∀u∈rs,∃p,u=Value.pointer p):∃v0:Option Addr,rs.take 1=[.pointer v0]:=by
 have h:(rs.take 1).length=1:=by rw[av,Z];omega
 match hd:rs.take 1,h with
 |[x],_=>obtain⟨p,N⟩:=I x (ba (by rw[hd];exact aV.2 rfl));exact⟨p,by rw[N]⟩
section
variable{w : World}{base nl m : Nat}{sl sr : Sl}{ls rs : List Value}{P1 P2 : Nat -> World -> Prop}
theorem Qlq(hL:w.ownsRow base 46 1 (.slice sl.a nl sl.c) nl ls)(hR:w.ownsRow base 46 1 (.slice sr.a (m+1) sr.c) (m+1) rs)(hb:base<=w.heap.size)(b5:∀b,sl.row=some b->sr.row≠some b)
  (a6:∀u∈ls,u.oneCell'=true) (c2:∀u∈rs,u.oneCell'=true) (c8:∀u∈rs,∃p,u=Value.pointer p) (h4:nl<=4) (h5:4<m+1) (h8:m+1<=8)
  (b6:∀(W:World) (s:Sl),St (Qdt sl sr) w W->Rd W (Lt W) 1 s (nl+1) (ls++rs.take 1)->Calls prog 54 #[.slice s.a (nl+1) s.c] W (Qft P1 W))
  (b0:∀(W:World) (s:Sl),St (Qdt sl sr) w W->Rd W (Lt W) 1 s m (rs.drop 1)->Calls prog 54 #[.slice s.a m s.c] W (Qft P2 W))
  (a9:∀a W W',St (Qdt sl sr) w W->P1 a W->St (Qdt sl sr) W W'->P1 a W') :
  Calls prog 147 #[.slice sl.a nl sl.c,.slice sr.a (m+1) sr.c,.func (.func 54) #[] #[]] w λe w'=>∃a b,e=.returned (.tuple #[.pointer (some ⟨a,0,none⟩),.pointer (some ⟨b,0,none⟩)])/\w.heap.size<=a/\w.heap.size<=b/\P1 a w'/\P2 b w'/\St (Qdt sl sr) w w':=by
 obtain⟨i0,hi,e2,d5,d3⟩:=eR Tryz.Qbg;obtain⟨v0,I⟩:=Qug hR.1 oM c8;obtain⟨Z,N,rfl,f8,f5,b8,a0⟩:=QaJ hR oM;have f0:Z<w:=a0.lt;have a3:∀b,sl.row=some b->b≠Z:=λb hb e=>b5 b hb (by simp[Sl.row,e])
 have c3:Rd w (λb=>b=Z) 1 ⟨some Z,N⟩ (m+1) rs:=by
  obtain⟨b,o,h1,h2,h3⟩:=gz hR;obtain⟨e1,d6,c7⟩:=h1.eq oM;obtain⟨rfl,rfl⟩:Z=b/\0=o:=by simpa using e1
  exact⟨Z,0,.some _ _ _ _ d6 c7 rfl,h2,h3⟩
 have c1:∀W,St (λb=>sl.row=some b) w W->∀j u,rs[j]? = some u->W.cell? ⟨Z,j,none⟩=some u:=λW hW j u hj=>by
  obtain⟨b,o,h1,h2,h3⟩:=gz hR;obtain⟨e1,-,-⟩:=h1.eq oM;obtain⟨rfl,rfl⟩:Z=b/\0=o:=by simpa using e1
  have:=h3 j u hj;rw[aD]at this;exact(hW.cell f0 (λe=>a3 Z e rfl)).trans this
 have b9:∀(c:Nat) (u:Value),([.pointer v0]:List Value)[c]? = some u->rs[c]? = some u:=λc u hu=>by
  rw[<-I,br]at hu;split at hu
  .exact hu
  cases hu
 have hS:∀W,St (λb=>sl.row=some b) w W->W.cell? Z=some (.pointer v0):=λW hW=>c1 W hW _ _ (b9 0 _ rfl)
 have f9:¬(4:Int)<(nl:Int):=oM
 have g0:(4:Int)<(m:Int)+1:=oM
 have g5:(0:Int)<(m:Int)+1:=oM
 have g7:(1:Int)<=(m:Int)+1:=oM
 have g6:¬N=1:=oM
 have g4:IntKind.i64.wrap ((m:Int)+1)=(m:Int)+1:=by rw[eM];omega
 have f6:(N:Int)<=9223372036854775807:=by unfold maxLen at b8;omega
 have f7:(m:Int)+1<=(N:Int):=oM
 have e8:nl+1<=maxLen:=by unfold maxLen;omega
 have e4:(nl+1)*8<=140737488355328:=oM
 have a5:∀W,Ext w W->W.ownsRow base 46 1 (.slice sl.a nl sl.c) nl ls:=λW hW=>Qlo hL (hW.st (λ_=>False)) (λ_ _ h=>h)
 have b7:∀W,St (λb=>sl.row=some b) w W->Calls prog 54 #[.slice (some ⟨Z,1,none⟩) m (N-1)] W (Qft P2 W):=λW hW=>by
  refine b0 W ⟨some ⟨Z,1,none⟩,N-1⟩ (hW.mono λi _ hi=>.inl hi) ?_;have h:=((c3.agree (hW.agree.mono λi (hi:i=Z)=>⟨oM,λe=>a3 i e hi⟩)).drop (m:=1) oM).mono (G:=Lt W) λi (hi:i=Z)=>by have:=hW.size;show i<_;omega
  simpa using h
 obtain⟨HS,c9,d4,d7,HF,a7,g3⟩:=Yh hS b6 b7 a9 I a5 a6;have e7:Yd (∀u∈([.pointer v0]:List Value),u.oneCell'=true):=hY λu hu=>c2 u (ba (I▸hu))
 clear hS b7 b6 b0 a9 I c1 b9 a6 c2 hL hR a0 b5 a3 a5 c3;go_in;go_wp2_with fail;have s0:=(gB (λb=>sl.row=some b) w).drew;have e0:=(gh w).drew;have sA:=((((gh w).alloc #[.pointer v0] 46).drew).st (λb=>sl.row=some b));have k0:=HS.o _ s0;have f1:=hY (show Blk (w.alloc (.cells #[.pointer v0] 46)).drew w.heap.size 46 #[.pointer v0]from gm w 46 _);go_region_held3 (λW=>W.cell? Z=some (.pointer v0)) (first |(with_reducible exact HS.o _ s0) |(with_reducible exact HS.o _ sA) |(with_reducible exact HS.o _ s1) |(with_reducible exact HS.o _ s2) |(with_reducible exact HS.o _ s3)|go_keep)
  (first
    |(refine Qdi _ rfl (.tmp 35) (.tmp 39) 108 rfl base 46 i0 _ 1 8 underlying108 hi e2 d5 d3 rfl oN sl nl ls (by rfl) (a7.o _ (((gh w).alloc _ _).drew)) (λb=>b=w.heap.size) ⟨some w,1⟩ 1 [.pointer v0] (by rfl) (gA f1.o oN rfl) e7.o e8 e4 (by rw[fC,eK];omega) ?_;intro sx w1 a4 b3 e3;have s1:=sA.trans (b3.st λi hi=>hi);have f3:=hY a4;clear a4 e3)
    |(go_at_call 54;refine(d4.o w2 s2).mono ?_;rintro e w3 ⟨a2,rfl,c6,c0,b4⟩;have s3:=s2.ext b4;have c4:=hY c0;clear c0)
    |(go_at_call 54;refine(c9.o w1 sx (s1.mono λi _ hi=>.inl hi) ?_).mono ?_;(have h:=gz f3.o;rw[<-HF.o]at h;exact h.mono λi hi=>hi.2);rintro e w2 ⟨a1,rfl,f4,a8,d0⟩;have s2:=s1.ext d0;have f2:=hY a8;clear a8))
 all_goals
  go_wp2_with fail;go_ret2;have d8:=s1.size;have e6:=s2.size;exact⟨a1,a2,rfl,ak d8 f4,ak e6 c6,d7.o a1 w2 w3 (s2.mono λi _ hi=>.inl hi) f2.o (b4.st _),c4.o,s3.mono λi _ hi=>.inl hi⟩
theorem QnE{nr:Nat}(hL:w.ownsRow base 46 1 (.slice sl.a nl sl.c) nl ls)(hR:w.ownsRow base 46 1 (.slice sr.a nr sr.c) nr rs)(hb:base<=w.heap.size)
  (a2:∀u∈rs,u.oneCell'=true) (h4:nl<=4) (r4:nr<=4)
  (a0:∀(W:World) (s:Sl),St (Qdt sl sr) w W->Rd W (Lt W) 1 s (nl+nr) (ls++rs)->Calls prog 54 #[.slice s.a (nl+nr) s.c] W (Qft P1 W)) :
  Calls prog 147 #[.slice sl.a nl sl.c,.slice sr.a nr sr.c,.func (.func 54) #[] #[]] w λe w'=>∃a,e=.returned (.tuple #[.pointer (some ⟨a,0,none⟩),.pointer none])/\w.heap.size<=a/\P1 a w'/\St (Qdt sl sr) w w':=by
 obtain⟨i0,hi,a3,a9,a8⟩:=eR Tryz.Qbg;have b5:¬(4:Int)<(nl:Int):=oM
 have b4:¬(4:Int)<(nr:Int):=oM
 have b0:nl+nr<=maxLen:=by unfold maxLen;omega
 have a5:(nl+nr)*8<=140737488355328:=oM
 obtain⟨a6,HR,HL,H1⟩:=Ye a0 (gz hR) hL a2;clear a0 hR hL a2;go_in;go_wp2_with(at_builtin;refine Qak _ rfl (.tmp 47) (.tmp 48) 108 rfl base 46 i0 _ 1 8 underlying108 hi a3 a9 a8 rfl oN sl nl ls rfl HL.o (In base w.heap.size) sr nr rs rfl HR.o H1.o b0 a5 hb ?_;intro sx w1 I N a4);have s1:St (λb=>sl.row=some b) w w1:=N.st λi hi=>hi
 refine(a6.o w1 sx (s1.mono λi _ hi=>.inl hi) ((gz I).mono λi hi=>hi.2)).mono ?_;rintro e w2 ⟨a1,rfl,b3,Z,a7⟩;have HP:=hY Z;clear Z I N a4;go_wp2_with fail;go_ret2;exact⟨a1,rfl,ak s1.size b3,HP.o,(s1.ext a7).mono λi _ hi=>.inl hi⟩
end
def QfZ(F:Nat->Prop)(h:Nat)(l r:PT h)(w:World)(e:Ending)(w':World):Prop:=
 ∃ts:List (PT h),e=two h ts/\Qeh w.heap.size h l r ts/\(∀u∈ts,IsN w' (Up F w w') h u)
variable{xs:List LE}
theorem QuN(N:n=xs.length)(I:Rd w F 7 s n (QaD xs))(Z:QmT w F xs)(hf:xs.length<=1000):ES w F s xs:=by
 subst N;exact⟨I,Z,oM⟩
theorem QiI{α:Type}{P:α->Prop}{x y:α}(N:P x)(I:P y):∀u∈[x,y],P u:=λu hu=>by
 rcases aH.1 hu with rfl|hu
 .exact N
 obtain rfl:=aV.1 hu;exact I
theorem QiG{α:Type}{P:α->Prop}{x:α}(I:P x):∀u∈[x],P u:=λu hu=>by
 obtain rfl:=aV.1 hu;exact I
theorem QjV(N:St G w W)(hG:∀b,G b->b<w.heap.size)(hn:n=xs.length)(h8:xs.length<=8)(hr:Rd W (Lt W) 7 s n (QaD xs))(hv:QmT w (NH G w) xs)(I:Qbv xs) :
  Calls prog 80 #[.slice s.a n s.c] W (Qfs (λa W'=>w<=a/\IsN W' (λb=>w<=b/\b<W') 0 (a,xs.map LE.ent)) W):=by
 have Z:ES W (Lt W) s xs:=QuN hn hr ((hv.agree N.agree).mono λi hi=>ab hi.1 N.size) oM;refine(QdM Z hn I h8).mono ?_;rintro e w' ⟨t,rfl,h1,h2,h3,h4⟩;refine⟨addr 0 t,rfl,h2,⟨Nat.le_trans N.size h2,?_⟩,h4⟩;have e1:t=(t.1,xs.map LE.ent):=by rw[<-h1];rfl
 rw[e1]at h3;exact h3.mono λi hi=>⟨Nat.le_trans N.size hi.1,hi.2⟩
variable{W':World}{h:Nat}
theorem Qmc(I:∀b,G b->b<w.heap.size){t:PT h}(Z:IsN W (λb=>w<=b/\b<W) h t)(hs:St G W W'):IsN W' (λb=>w<=b/\b<W') h t:=
 (Z.agree (hs.agree.mono λi hi=>⟨hi.2,λN=>by have:=I i N;omega⟩)).mono λi hi=>⟨hi.1,ab hi.2 hs.size⟩
variable{ys:List LE}
theorem Qka{base:Nat}{sl sr:Sl}(hL:OE w base sl xs)(hR:OE w base sr ys)(hb:base<=w.heap.size)(a3:∀b,sl.row=some b->sr.row≠some b)
  (a2:QmT w (NH (Qds sl sr) w) xs) (a1:QmT w (NH (Qds sl sr) w) ys) (I:Qbv (xs++ys)) (x8:xs.length<=8) (y8:ys.length<=8) (N:xs.length+ys.length<=11) {l r:PT 0} (el:xs.map LE.ent=l.2) (er:ys.map LE.ent=r.2) :
  Calls prog 146 #[.slice sl.a xs.length sl.c,.slice sr.a ys.length sr.c,.func (.func 80) #[] #[]] w λe w'=>QfZ (λ_=>False) 0 l r w e w'/\St (Qds sl sr) w w':=by
 have hG:∀b,Qds sl sr b->b<w.heap.size:=λb hb=>hb.elim (λh=>(Qad hL.own h).2) (λh=>(Qad hR.own h).2)
 have QfJ:∀(w':World) (a b:Nat) (zs a0:List LE),(w<=a/\IsN w' (λb=>w<=b/\b<w') 0 (a,zs.map LE.ent))->(w<=b/\IsN w' (λb=>w<=b/\b<w') 0 (b,a0.map LE.ent))->
   QcG l.2 r.2=[zs.map LE.ent,a0.map LE.ent]->QfZ (λ_=>False) 0 l r w (.returned (.tuple #[.pointer (some a),.pointer (some b)])) w':=λw' a b zs a0 ha hb hp=>by
  refine⟨[((a,zs.map LE.ent):PT 0),((b,a0.map LE.ent):PT 0)],rfl,⟨hp.symm,QiI (α:=PT 0) ha.1 hb.1⟩,QiI (α:=PT 0) (ha.2.mono λi hi=>.inr hi) (hb.2.mono λi hi=>.inr hi)⟩
 have e1:l.2.length=xs.length:=by rw[<-el,aq]
 have e2:r.2.length=ys.length:=by rw[<-er,aq]
 by_cases h4:4<xs.length
 ·obtain ⟨m,hm⟩:∃ m,xs.length=m+1:=⟨xs.length - 1,oM⟩
  have t1:(QaD xs).take (m*7)=QaD (xs.take m):=QcS xs m;have t2:(QaD xs).drop (m*7)++QaD ys=QaD (xs.drop m++ys):=by rw[QcQ,Qcp]
  have a4:=hL.own;rw[hm]at a4 ⊢;refine(QnD (P1:=λa W'=>w<=a/\IsN W' (λb=>w<=b/\b<W') 0 (a,(xs.take m).map LE.ent)) (P2:=λa W'=>w<=a/\IsN W' (λb=>w<=b/\b<W') 0 (a,(xs.drop m++ys).map LE.ent))
   a4 hR.own hb a3 (QbX xs) (QbX ys) trivial oM oM y8 (λW s hW Z=>?_) (λW s hW Z=>?_) (λa W W' _ h hs=>⟨h.1,Qmc hG h.2 hs⟩)).mono ?_
  ·rw [t1] at Z
   exact QjV hW hG (by rw[av];omega) (by rw[av];omega) Z (λx N=>a2 x (ba N)) (by have:=I.take m;rwa[bj oM]at this)
  ·rw [t2] at Z
   exact QjV hW hG (by rw[aj,aw];omega) (by rw[aj,aw];omega) Z (λx N=>by
    rcases aO.1 N with N|N
    .exact a2 x (aN N)
    exact a1 x N) (by have:=I.drop m;rwa[List.drop_append_of_le_length oM]at this)
  rintro e w' ⟨a,b,rfl,-,-,h1,h2,hs⟩;refine⟨QfJ w' a b _ _ h1 h2 ?_,hs⟩;rw[QcG,eH oM,<-el,<-er,aB,cZ,cO,aq,hm];rfl
 by_cases h5:4<ys.length
 ·obtain ⟨m,hm⟩:∃ m,ys.length=m+1:=⟨ys.length - 1,oM⟩
  have t1:QaD xs++(QaD ys).take 7=QaD (xs++ys.take 1):=by rw[Qcp,<-QcS]
  have t2:(QaD ys).drop 7=QaD (ys.drop 1):=by rw[<-QcQ]
  have a5:=hR.own;rw[hm]at a5 ⊢;refine(Qlp (P1:=λa W'=>w<=a/\IsN W' (λb=>w<=b/\b<W') 0 (a,(xs++ys.take 1).map LE.ent)) (P2:=λa W'=>w<=a/\IsN W' (λb=>w<=b/\b<W') 0 (a,(ys.drop 1).map LE.ent))
   hL.own a5 hb a3 (QbX xs) (QbX ys) trivial oM oM oM (λW s hW Z=>?_) (λW s hW Z=>?_) (λa W W' _ h hs=>⟨h.1,Qmc hG h.2 hs⟩)).mono ?_
  ·rw [t1] at Z
   exact QjV hW hG (by rw[aj,av];omega) (by rw[aj,av];omega) Z (λx N=>by
    rcases aO.1 N with N|N
    .exact a2 x N
    exact a1 x (ba N)) (by have:=I.take (xs.length+1);rwa[List.take_length_add_append]at this)
  ·rw [t2] at Z
   exact QjV hW hG (by rw[aw];omega) (by rw[aw];omega) Z (λx N=>a1 x (aN N)) (by have:=I.drop (xs.length+1);rwa[dj]at this)
  rintro e w' ⟨a,b,rfl,-,-,h1,h2,hs⟩;refine⟨QfJ w' a b _ _ h1 h2 ?_,hs⟩;rw[QcG,eE oM,eH oM,<-el,<-er,aB,cZ,cO]
 have t1:QaD xs++QaD ys=QaD (xs++ys):=by rw[Qcp]
 refine(QnC (P1:=λa W'=>w<=a/\IsN W' (λb=>w<=b/\b<W') 0 (a,(xs++ys).map LE.ent)) hL.own hR.own hb (QbX ys) oM oM (λW s hW Z=>?_)).mono ?_
 ·rw [t1] at Z
  exact QjV hW hG (by rw[aj]) (by rw[aj];omega) Z (λx N=>by
   rcases aO.1 N with N|N
   .exact a2 x N
   exact a1 x N) I
 rintro e w' ⟨a,rfl,-,h1,hs⟩;refine⟨⟨[((a,(xs++ys).map LE.ent):PT 0)],rfl,⟨?_,QiG (α:=PT 0) h1.1⟩,QiG (α:=PT 0) (h1.2.mono λi hi=>.inr hi)⟩,hs⟩;show[(xs++ys).map LE.ent]=_;rw[QcG,eE oM,eE oM,<-el,<-er,aB]
theorem QjO(I:∀b,G b->b<w.heap.size)(hF:∀b,F b->b<w.heap.size/\¬G b)(Z:w.heap.size<=W.heap.size){t:PT h}(hn:IsN W (Up F w W) h t)(hs:St G W W'):IsN W' (Up F w W') h t:=
 (hn.agree (hs.agree.mono λi hi=>hi.elim (λh=>⟨Nat.lt_of_lt_of_le (hF i h).1 Z,(hF i h).2⟩) λh=>⟨h.2,λN=>by have:=I i N;omega⟩)).mono λi hi=>hi.imp_right λh=>⟨h.1,ab h.2 hs.size⟩
theorem QgC{ks:List (PT h)}(N:St G w W)(hF:∀b,F b->¬G b)(hn:n=ks.length)(h2:2<=ks.length)(h8:ks.length<=8)(hr:Rd W (Lt W) 1 s n (ptrs h ks))(I:Kids w F h ks) :
  Calls prog 54 #[.slice s.a n s.c] W (Qft (λa W'=>w<=a/\IsN W' (Up F w W') (h+1) (a,ks)) W):=by
 subst hn;have Z:Kids W F h ks:=⟨λb hb=>ab (I.lt b hb) N.size,λx hx=>(I.isn x hx).agree (N.agree.mono λi hi=>⟨I.lt i hi,hF i hi⟩),I.rise,I.pos,I.sz,I.cn,I.hh⟩;refine(Qcl hr rfl Z h2 h8).mono ?_;rintro e w' ⟨t,rfl,h1,h2,h3,h4⟩;refine⟨addr (h+1) t,rfl,h2,⟨Nat.le_trans N.size h2,?_⟩,h4⟩;have e1:t=(t.1,ks):=by subst h1;rfl
 rw[e1]at h3;exact h3.mono λi hi=>hi.imp_right λh=>⟨Nat.le_trans N.size h.1,h.2⟩
theorem Qmx(h:Nat)(ks:List (PT h)):∀u∈ptrs h ks,∃p,u=Value.pointer p:=λu hu=>by
 obtain⟨k,-,rfl⟩:=bY.1 hu;exact⟨_,rfl⟩
theorem Qdb(h:Nat)(a b:List (PT h)):ptrs h (a++b)=ptrs h a++ptrs h b:=by simp[ptrs]
theorem QcW(h:Nat)(a:List (PT h))(i:Nat):ptrs h (a.drop i)=(ptrs h a).drop i:=by simp[ptrs,List.map_drop]
theorem Qkc{base h:Nat}{sl sr:Sl}{l r:PT (h+1)}(hL:w.ownsRow base 46 1 (.slice sl.a l.2.length sl.c) l.2.length (ptrs h l.2))(hR:w.ownsRow base 46 1 (.slice sr.a r.2.length sr.c) r.2.length (ptrs h r.2))(N:base<=w.heap.size)(a0:∀b,sl.row=some b->sr.row≠some b)
  (hF:∀b,F b->¬Qdt sl sr b) (hk:Kids w F h (l.2++r.2)) (l2:3<=l.2.length) (r2:3<=r.2.length) (l8:l.2.length<=8) (r8:r.2.length<=8) (hx:l.2.length+r.2.length<=11) :
  Calls prog 147 #[.slice sl.a l.2.length sl.c,.slice sr.a r.2.length sr.c,.func (.func 54) #[] #[]] w λe w'=>QfZ F (h+1) l r w e w'/\St (Qdt sl sr) w w':=by
 have hG:∀b,Qdt sl sr b->b<w.heap.size:=λb N=>N.elim (λh=>(Qad hL h).2) (λh=>(Qad hR h).2)
 have a1:∀b,F b->b<w.heap.size/\¬Qdt sl sr b:=λb N=>⟨hk.lt b N,hF b N⟩
 have QfJ:∀(w':World) (a b:Nat) (zs Z:List (PT h)),(w<=a/\IsN w' (Up F w w') (h+1) (a,zs))->(w<=b/\IsN w' (Up F w w') (h+1) (b,Z))->
   QcG l.2 r.2=[zs,Z]->QfZ F (h+1) l r w (.returned (.tuple #[.pointer (some a),.pointer (some b)])) w':=λw' a b zs Z ha N hp=>by
  refine⟨[((a,zs):PT (h+1)),((b,Z):PT (h+1))],rfl,⟨hp.symm,QiI (α:=PT (h+1)) ha.1 N.1⟩,QiI (α:=PT (h+1)) ha.2 N.2⟩
 by_cases h4:4<l.2.length
 ·obtain ⟨m,hm⟩:∃ m,l.2.length=m+1:=⟨l.2.length - 1,oM⟩
  have t1:(ptrs h l.2).take (m*1)=ptrs h (l.2.take m):=by rw[dD,Qcr]
  have t2:(ptrs h l.2).drop (m*1)++ptrs h r.2=ptrs h (l.2.drop m++r.2):=by rw[Qdb,QcW,dD]
  have a2:=hL;rw[hm]at a2 ⊢;refine(QnF (P1:=λa W'=>w<=a/\IsN W' (Up F w W') (h+1) (a,l.2.take m)) (P2:=λa W'=>w<=a/\IsN W' (Up F w W') (h+1) (a,l.2.drop m++r.2))
   a2 hR N a0 (QbF h l.2) (QbF h r.2) (Qmx h l.2) oM oM r8 (λW s hW I=>?_) (λW s hW I=>?_) (λa W W' hw h hs=>⟨h.1,QjO hG a1 hw.size h.2 hs⟩)).mono ?_
  ·rw [t1] at I
   exact QgC hW hF (by rw[av];omega) (by rw[av];omega) (by rw[av];omega) I (by have:=hk.take m;rwa[bj oM]at this)
  ·rw [t2] at I
   exact QgC hW hF (by rw[aj,aw];omega) (by rw[aj,aw];omega) (by rw[aj,aw];omega) I (by have:=hk.drop m;rwa[List.drop_append_of_le_length oM]at this)
  rintro e w' ⟨a,b,rfl,-,-,h1,h2,hs⟩;refine⟨QfJ w' a b _ _ h1 h2 ?_,hs⟩;rw[QcG,eH oM,hm];rfl
 by_cases h5:4<r.2.length
 ·obtain ⟨m,hm⟩:∃ m,r.2.length=m+1:=⟨r.2.length - 1,oM⟩
  have t1:ptrs h l.2++(ptrs h r.2).take 1=ptrs h (l.2++r.2.take 1):=by rw[Qdb,Qcr]
  have t2:(ptrs h r.2).drop 1=ptrs h (r.2.drop 1):=by rw[QcW]
  have a3:=hR;rw[hm]at a3 ⊢;refine(Qlq (P1:=λa W'=>w<=a/\IsN W' (Up F w W') (h+1) (a,l.2++r.2.take 1)) (P2:=λa W'=>w<=a/\IsN W' (Up F w W') (h+1) (a,r.2.drop 1))
   hL a3 N a0 (QbF h l.2) (QbF h r.2) (Qmx h r.2) oM oM oM (λW s hW I=>?_) (λW s hW I=>?_) (λa W W' hw h hs=>⟨h.1,QjO hG a1 hw.size h.2 hs⟩)).mono ?_
  ·rw [t1] at I
   exact QgC hW hF (by rw[aj,av];omega) (by rw[aj,av];omega) (by rw[aj,av];omega) I (by have:=hk.take (l.2.length+1);rwa[List.take_length_add_append]at this)
  ·rw [t2] at I
   exact QgC hW hF (by rw[aw];omega) (by rw[aw];omega) (by rw[aw];omega) I (by have:=hk.drop (l.2.length+1);rwa[dj]at this)
  rintro e w' ⟨a,b,rfl,-,-,h1,h2,hs⟩;refine⟨QfJ w' a b _ _ h1 h2 ?_,hs⟩;rw[QcG,eE oM,eH oM]
 have t1:ptrs h l.2++ptrs h r.2=ptrs h (l.2++r.2):=by rw[Qdb]
 refine(QnE (P1:=λa W'=>w<=a/\IsN W' (Up F w W') (h+1) (a,l.2++r.2)) hL hR N (QbF h r.2) oM oM (λW s hW I=>?_)).mono ?_
 ·rw [t1] at I
  exact QgC hW hF (by rw[aj]) (by rw[aj];omega) (by rw[aj];omega) I hk
 rintro e w' ⟨a,rfl,-,h1,hs⟩;refine⟨⟨[((a,l.2++r.2):PT (h+1))],rfl,⟨?_,QiG (α:=PT (h+1)) h1.1⟩,QiG (α:=PT (h+1)) h1.2⟩,hs⟩;show[l.2++r.2]=_;rw[QcG,eE oM,eE oM]
def Qbi(F:Nat->Prop)(base h:Nat)(s:Sl)(ks:List (PT h))(i:Nat)(w:World)(e:Ending)(w':World):Prop:=
 ∃(s':Sl) (ks':List (PT h)),e=.returned (.slice s'.a ks'.length s'.c)/\w'.ownsRow base 46 1 (.slice s'.a ks'.length s'.c) ks'.length (ptrs h ks')/\Qsu w.heap.size h ks i ks'/\(∀u∈ks',IsN w' (Up F w w') h u)/\St (λb=>s.row=some b) w w'
structure Qi5(w:World)(F:Nat->Prop)(base h:Nat)(s:Sl)(ks:List (PT h))(i:Nat)(l r:PT h):Prop where
 own:w.ownsRow base 46 1 (.slice s.a ks.length s.c) ks.length (ptrs h ks)
 base:base<=w.heap.size
 lt:∀b,F b->b<w.heap.size/\s.row≠some b
 isn:∀k∈ks,IsN w F h k
 ok:∀k∈ks,OkT h k/\3<=size h k
 hl:ks[i-1]? = some l
 hr:ks[i-1+1]? = some r
 sum:size h l+size h r<=11
 sorted:Sorted (ks.flatMap (ents h))
 few:(ks.flatMap (ents h)).length<=1000000
 n8:ks.length<=8
 hh:h<=1000000
variable{j:Nat}
theorem Qd3{ks:List (PT h)}{l r:PT h}(hs:Sorted (ks.flatMap (ents h)))(N:ks[j]? = some l)(I:ks[j+1]? = some r):Sorted (ents h l++ents h r):=by
 rw[QiU N I]at hs;simp only[List.flatMap_append,List.flatMap_cons]at hs;have h2:=(Qck hs).2.1;rw[<-aT]at h2;exact(Qck h2).1
theorem QqH{ks:List (PT h)}{l r:PT h}(N:ks[j]? = some l)(I:ks[j+1]? = some r):(ents h l).length+(ents h r).length<=(ks.flatMap (ents h)).length:=by
 conv=>rhs;rw[QiU N I]
 simp only[List.flatMap_append,List.flatMap_cons,List.length_append];omega
theorem QeU{α:Type}{ks:List α}{l r:α}(N:ks[j]? = some l)(I:ks[j+1]? = some r)(a b:α):(ks.set j a).set (j+1) b=ks.take j++[a,b]++ks.drop (j+2):=by
 have h1:=(ae.1 N).1;have h2:=(ae.1 I).1
 conv=>lhs;rw[QiU N I]
 rw[dL _ _ (by rw[av];omega),av,bR oM,cu,an,dL _ _ (by rw[av];omega),av,bR oM,show j+1-j=1 from oM];simp
theorem QdX{α:Type}{ks:List α}{l r:α}(Z:ks[j]? = some l)(hr:ks[j+1]? = some r)(a:α):(ks.set j a).take (j+1)++(ks.set j a).drop (j+2)=ks.take j++[a]++ks.drop (j+2):=by
 have h1:=(ae.1 Z).1;rw[ci,eH h1];have I:(ks.take j++[a]).length=j+1:=by simp;omega
 have N:ks.take j++a::ks.drop (j+1)=(ks.take j++[a])++ks.drop (j+1):=oO
 rw[N,bj oM,aW oM,show j+2=(ks.take j++[a]).length+1 from oM,dj,eA,I]
theorem QiO{A B e size n:Nat}{v:Value}{xs:List Value}(h:w.ownsRow B e size v n xs)(N:A<=B):w.ownsRow A e size v n xs:=by
 refine⟨h.1,?_⟩;rcases h.2 with hl |⟨g,Z,I,hv,hg,r⟩
 .exact .inl hl
 exact .inr ⟨g,Z,I,hv,ak N hg,r⟩
variable{A B:Nat}
theorem OE.base(h:OE w B s xs)(I:A<=B):OE w A s xs:=⟨QiO h.own I,h.vals.mono λi hi=>⟨⟨Nat.le_trans I hi.1.1,hi.1.2⟩,hi.2⟩,h.few⟩
theorem QvW{ts:List (PT h)}(I:ts.length=1\/ts.length=2):∃u v,two h ts=.returned (.tuple #[u,v]):=by
 match ts,I with
 |[a],_=>exact⟨_,_,rfl⟩
 |[a,b],_=>exact⟨_,_,rfl⟩
theorem QrT{base h i:Nat}{ks:List (PT h)}{l r:PT h}(hm:Qi5 w F base h s ks i l r) :
  Calls prog 111 #[.slice s.a ks.length s.c,.int .i64 (i:Int)] w (Qbi F base h s ks i w):=by
 obtain⟨j,f8⟩:∃j,i-1=j:=⟨_,rfl⟩;have hj:j+1<ks.length:=by have:=(ae.1 hm.hr).1;omega
 obtain⟨g,a3,rfl,l3,k7,k5,d7⟩:=QaJ hm.own oM;have a2:=hm.own;have Z:=hY hm;have f4:ks[j]? = some l:=by rw[<-f8];exact hm.hl
 have g0:ks[j+1]? = some r:=by rw[<-f8];exact hm.hr
 have cc:∀q u,(ptrs h ks)[q]? = some u->w.cell? ⟨g,q,none⟩=some u:=λq u hq=>by
  have:=a2.cells (g:=g) rfl q u hq;rwa[Qbc,aD]at this
 have cl:w.cell? ⟨g,j,none⟩=some (ptr h l):=cc j _ (by rw[ptrs,ar,f4];rfl);have cr:w.cell? ⟨g,j+1,none⟩=some (ptr h r):=cc (j+1) _ (by rw[ptrs,ar,g0];rfl);have j2:=am f4;have j6:=am g0;have j5:=d7.lt;have k6:=hm.n8;have l4:(j:Int)<(ks.length:Int):=oM
 have l1:(j:Int)+1<(ks.length:Int):=oM
 have k9:(0:Int)<=(j:Int):=oM
 have l0:(0:Int)<=(j:Int)+1:=oM
 have l2:((j:Int)+1).toNat=j+1:=oM
 obtain⟨c0,k2,a0,a1,k3⟩:=Yf f8 (λW (hW:Agree F w W)=>QaC ((hm.isn l j2).agree hW)) f4 g0 d7.frozen;clear a2 cc d7 hm f4 g0 j2 j6 f8;go_in;go_upto_region 1 with fail;go_cut [1] (λv wc=>v=.int .i64 (j:Int)/\w=wc)
 case first=>
  have h0:=c0.o;rcases i with _|i
  ·obtain rfl:0=j:=h0
   go_wp2_with fail;go_meet;exact⟨rfl,rfl⟩
  obtain rfl:i=j:=h0;go_wp2_with fail;go_meet;exact⟨by go_num,rfl⟩
 case rest=>
 obtain⟨rfl,rfl⟩:=hcut;have k8:IntKind.i64.wrap ((j:Int)+1)=(j:Int)+1:=by rw[eM];omega
 go_wp2_with fail;go_quiet (fail);go_wp2_with fail;have a7:Ext w (w.drewN nq):=(gh w).drewN nq;refine(k2.o _ (Agree.drewN w nq)).mono ?_;rintro e w0 ⟨rfl,rfl⟩;generalize w.drewN nq=W at *;clear cl cr;go_upto_if 21 with fail;go_cut [5,6] (λv5 v6 wc=>∃ts:List (PT h),two h ts=.returned (.tuple #[v5,v6])/\Yd (Ext w wc/\Qeh w.heap.size h l r ts/\∀u∈ts,IsN wc (Up F w wc) h u))
 case first=>
  cases h with
  | zero=>
    have b5:=Qa5 (w:=W) ((((Z.o.isn l (am a0.o)).agree (a7.agree λb I=>(Z.o.lt b I).1))).mono λb I=>ab (Z.o.lt b I).1 a7.size);have g5:∀W',Ext W W'->Calls prog 76 #[ptr 0 r] W' (QaU (ents 0 r) W'):=λW' f6=>Qa5 ((((Z.o.isn r (am a1.o)).agree ((a7.trans f6).agree λb I=>(Z.o.lt b I).1))).mono λb I=>ab (Z.o.lt b I).1 (a7.trans f6).size)
    obtain⟨k1,c4⟩:=Yb g5 a7;clear g5 a7;go_wp2_with fail;refine b5.mono ?_;intro e w1 hp;obtain⟨sx,xs,rfl,j1,c8,b8⟩:=hp;obtain⟨f3,b9,d4⟩:=Yc j1 c8 b8;have e6:=k1.o w1 b8;clear b5 j1 c8 b8;go_wp2_with fail;refine e6.mono ?_;intro e w2 hp;obtain⟨sy,ys,rfl,c9,a8,a5⟩:=hp;have a6:∀b,sx.row=some b->W.heap.size<=b/\b<w1.heap.size:=λb I=>Qad b9.o.own I
    have a9:∀b,sy.row=some b->w1.heap.size<=b/\b<w2.heap.size:=λb I=>Qad a8.own I
    have f2:=d4.o.size;have f5:=a5.size;have b0:=b9.o.ext a5;have b3:OE w2 W.heap.size sy ys:=a8.base f2
    have j4:xs.length≤8:=by have:=(Z.o.ok l (am a0.o)).1;have e1:xs.length=l.2.length:=by rw [show l.2=ents 0 l from rfl,←f3.o,aq]
                            rw[e1];exact this
    have i7:ys.length≤8:=by have:=(Z.o.ok r (am a1.o)).1;have e1:ys.length=r.2.length:=by rw [show r.2=ents 0 r from rfl,←c9,aq]
                            rw[e1];exact this
    have g7:xs.length+ys.length<=11:=by
     have e1:xs.length=size 0 l:=by rw[show size 0 l=(ents 0 l).length from rfl,<-f3.o,aq]
     have e2:ys.length=size 0 r:=by rw[show size 0 r=(ents 0 r).length from rfl,<-c9,aq]
     rw[e1,e2];exact Z.o.sum
    have f0:Qbv (xs++ys):=Qc0 (by rw[aB,f3.o,c9];exact Qd3 Z.o.sorted a0.o a1.o);have e3:=Qka b0 b3 (ak f2 f5) (λb I e7=>by have:=a6 b I;have:=a9 b e7;omega)
     (λx N=>⟨((b9.o.vals x N).1.agree (a5.agree λb I=>I.1.2)).mono λb I=>⟨Nat.lt_of_lt_of_le I.1.2 f5,λh=>h.elim (λh=>I.2 h) (λh=>by have:=a9 b h;have:=I.1.2;omega)⟩,(b9.o.vals x N).2⟩)
     (λx N=>⟨(a8.vals x N).1.mono λb I=>⟨I.1.2,λh=>h.elim (λh=>by have:=a6 b h;have:=I.1.1;omega) (λh=>I.2 h)⟩,(a8.vals x N).2⟩)
     f0 j4 i7 g7 (l:=l) (r:=r) f3.o c9
    have c1:=c4.o.trans (d4.o.trans a5);obtain⟨b7,g9,i2⟩:=Yc c1 a6 a9;have j9:=c4.o.size;clear e6 c9 a8 a5 a6 a9 b0 b3 f0 j4 i7 g7 c1;go_wp2_with fail;refine e3.mono ?_;rintro e w3 ⟨⟨ts,rfl,hP,hI⟩,e4⟩;have a4:Yd (Ext w w3/\Qeh w.heap.size 0 l r ts/\∀u∈ts,IsN w3 (Up F w w3) 0 u):=hY ⟨b7.o.step e4 (λb I=>I.elim (λh=>by have:=g9.o b h;omega) (λh=>by have:=i2.o b h;omega)),hP.mono (b7.o.size),λu hu=>(hI u hu).mono λi hi=>hi.elim (λh=>h.elim) λh=>.inr ⟨Nat.le_trans b7.o.size h.1,h.2⟩⟩;clear e3 hP hI e4;obtain⟨u,v,c6⟩:=QvW (a4.o.2.1.len);rw[c6];go_wp2_with fail;go_meet;exact⟨ts,c6,a4⟩
  | succ h=>
    have hz:(((h:Int)+1)==0)=false:=eJ.2 oM;have i1:∀W',Ext W W'->∀x,x∈ks->Calls prog 67 #[ptr (h+1) x] W' (Qet 46 x.2.length (ptrs h x.2) W'):=λW' f6 x N=>Qb9 ((Z.o.isn x N).agree ((a7.trans f6).agree λb I=>(Z.o.lt b I).1)) (by have:=(Z.o.ok x N).1.2.1;omega)
    have b5:=i1 W (gh W) l (am a0.o);obtain⟨j7,c4⟩:=Yb i1 a7;clear i1 a7;go_wp2_with fail;refine b5.mono ?_;rintro e w1 ⟨sx,rfl,c8,b8⟩;obtain⟨b9,d4⟩:=Yb c8 b8;have e6:=j7.o w1 b8 r (am a1.o);clear b5 c8 b8;go_wp2_with fail;refine e6.mono ?_;rintro e w2 ⟨sy,rfl,a8,a5⟩;have a6:∀b,sx.row=some b->W.heap.size<=b/\b<w1.heap.size:=λb I=>Qad b9.o I
    have a9:∀b,sy.row=some b->w1.heap.size<=b/\b<w2.heap.size:=λb I=>Qad a8 I
    have f2:=d4.o.size;have f5:=a5.size;have j9:=c4.o.size;have b0:w2.ownsRow W.heap.size 46 1 (.slice sx.a l.2.length sx.c) l.2.length (ptrs h l.2):=Qab b9.o (a5.agree (F:=Lt w1) λ_ h=>h) λb I=>(a6 b I).2
    have b3:w2.ownsRow W.heap.size 46 1 (.slice sy.a r.2.length sy.c) r.2.length (ptrs h r.2):=QiO a8 f2;have d3:=Z.o.ok l (am a0.o);have d6:=Z.o.ok r (am a1.o);have c1:=c4.o.trans (d4.o.trans a5);have j0:=Qd3 Z.o.sorted a0.o a1.o;have i6:=QqH (ks:=ks) a0.o a1.o;have c7:∀x∈l.2++r.2,OkT h x/\4<=size h x/\IsN w F h x:=λx N=>by
     rcases aO.1 N with N|N
     .exact ⟨(d3.1.2.2 x N).1,(d3.1.2.2 x N).2,(Z.o.isn l (am a0.o)).2.choose_spec.2.2 x N⟩
     exact⟨(d6.1.2.2 x N).1,(d6.1.2.2 x N).2,(Z.o.isn r (am a1.o)).2.choose_spec.2.2 x N⟩
    have c3:∀x∈l.2++r.2,0<(ents h x).length:=λx N=>Qbk h x (c7 x N).1 (by have:=(c7 x N).2.1;omega)
    have g6:Sorted ((l.2++r.2).flatMap (ents h)):=by rw[aQ];exact j0
    have e8:Kids w2 F h (l.2++r.2):=⟨λb I=>ab (Z.o.lt b I).1 c1.size,λx N=>(c7 x N).2.2.agree (c1.agree λb I=>(Z.o.lt b I).1),QdI g6 c3,c3,λx N=>by have:=Qdf (c7 x N).1;omega,by
     unfold cnt;rw[aQ,aj];have h1:(ents (h+1) l).length+(ents (h+1) r).length<=1000000:=ak i6 Z.o.few;have h2:(l.2.flatMap (ents h)).length=(ents (h+1) l).length:=rfl;have h3:(r.2.flatMap (ents h)).length=(ents (h+1) r).length:=rfl;omega,by have:=Z.o.hh;omega⟩
    have e3:=Qkc (F:=F) (l:=l) (r:=r) b0 b3 (ak f2 f5) (λb I e7=>by have:=a6 b I;have:=a9 b e7;omega)
     (λb I e7=>by
       have:=(Z.o.lt b I).1;rcases e7 with h|h
       .have:=a6 b h;omega
       have:=a9 b h;omega) e8 d3.2 d6.2 d3.1.2.1 d6.1.2.1 Z.o.sum
    obtain⟨b7,g9,i2⟩:=Yc c1 a6 a9;clear e6 a8 a5 a6 a9 b0 b3 c1 j0 i6 c7 c3 g6 e8 d3 d6;go_wp2_with fail;refine e3.mono ?_;rintro e w3 ⟨⟨ts,rfl,hP,hI⟩,e4⟩;have a4:Yd (Ext w w3/\Qeh w.heap.size (h+1) l r ts/\∀u∈ts,IsN w3 (Up F w w3) (h+1) u):=hY ⟨b7.o.step e4 (λb I=>I.elim (λh=>by have:=g9.o b h;omega) (λh=>by have:=i2.o b h;omega)),hP.mono (b7.o.size),λu hu=>(hI u hu).mono λi hi=>hi.imp_right λh=>⟨Nat.le_trans b7.o.size h.1,h.2⟩⟩;clear e3 hP hI e4;obtain⟨u,v,c6⟩:=QvW (a4.o.2.1.len);rw[c6];go_wp2_with fail;go_meet;exact⟨ts,c6,a4⟩
 case rest=>
 obtain⟨ts,j3,a4⟩:=hcut;obtain⟨d5,hP,hI⟩:=a4.o;have c2:wc.ownsRow base 46 1 (.slice (some g) ks.length a3) ks.length (ptrs h ks):=Qab (s:=⟨some g,a3⟩) Z.o.own (d5.agree (F:=Lt w) λ_ h=>h) λb I=>(Qad Z.o.own I).2
 have k4:∀o,wc.frozen? ⟨g,o,none⟩=false:=λo=>(d5.frozen j5).trans (k3.o o)
 have i4:∀q u,(ptrs h ks)[q]? = some u->wc.cell? ⟨g,q,none⟩=some u:=λq u hq=>by
  have:=c2.cells (g:=g) rfl q u hq;rwa[Qbc,aD]at this
 have dl:wc.cell? ⟨g,j,none⟩=some (ptr h l):=i4 j _ (by rw[ptrs,ar,a0.o];rfl);have dr:wc.cell? ⟨g,j+1,none⟩=some (ptr h r):=i4 (j+1) _ (by rw[ptrs,ar,a1.o];rfl);have i8:j<ks.length:=oM
 obtain⟨f1,i3,HP,HI⟩:=Ye c2 d5 hP hI;have b4:=hP.len;have i5:∀W' x,F x\/(w.heap.size<=x/\x<W')->x≠g:=λW' x N e=>by
  subst e;rcases N with h|h
  .exact (Z.o.lt x h).2 rfl
  omega
 have f7:∀x,F x->x<w.heap.size:=λx N=>(Z.o.lt x N).1
 have i9:∀k∈ks,IsN wc (Up F w wc) h k:=λk hk=>((Z.o.isn k hk).agree (d5.agree f7)).mono λi hi=>.inl hi
 obtain⟨f9,g3⟩:=Yb i9 i5;clear c2 i4 d5 hP hI i9 i5;rcases b4 with b4|b4
 ·obtain ⟨a,rfl⟩:=List.length_eq_one_iff.1 b4
  cases(show Ending.returned (.tuple #[ptr h a,.pointer none])=_ from j3);have b6:∀w5,Wr (wc.setCell ⟨g,j,none⟩ (ptr h a)) w5 (some g)->w5.ownsRow base 46 1 (.slice (some g) (ks.length-1) a3) (ks.length-1) (((ptrs h ks).set j (ptr h a)).take ((j+1)*1)++((ptrs h ks).set j (ptr h a)).drop ((j+1+1)*1))->
    Qbi F base h ⟨some g,a3⟩ ks i w (.returned (.slice (some g) (ks.length-1) a3)) w5:=λw5 i0 a2=>by
   have hz:wc.heap.size<=w5.heap.size:=by have:=i0.grown.size;rwa[eP]at this
   have g8:Agree (Up F w wc) wc w5:=(gw wc ⟨g,j,none⟩ _ (λh=>g3.o _ g h rfl)).trans (i0.agree (λi hi=>by rw[eP];exact hi.elim (λh=>ab (f7 i h) i3.o.size) λh=>h.2) (λk hk h=>by cases hk;exact g3.o _ g h rfl));have j8:∀i,Up F w wc i->Up F w w5 i:=λi hi=>hi.imp_right λh=>⟨h.1,ab h.2 hz⟩
   have e0:(ptrs h ks).set j (ptr h a)=ptrs h (ks.set j a):=by rw[ptrs,ptrs,dH]
   have e1:((ptrs h ks).set j (ptr h a)).take ((j+1)*1)++((ptrs h ks).set j (ptr h a)).drop ((j+1+1)*1)=ptrs h (ks.take j++[a]++ks.drop (j+2)):=by
    rw[e0,dD,dD,<-Qcr,<-QcW,<-Qdb,QdX a0.o a1.o]
   have e2:(ks.take j++[a]++ks.drop (j+2)).length=ks.length-1:=by simp only[List.length_append,List.length_take,List.length_drop,List.length_cons,List.length_nil];omega
   rw[e1]at a2;refine⟨⟨some g,a3⟩,ks.take j++[a]++ks.drop (j+2),by rw[e2],by rw[e2];exact a2,⟨l,r,[a],by rw[c0.o];exact a0.o,by rw[c0.o];exact a1.o,HP.o,by rw[c0.o]⟩,λu hu=>?_,(((i3.o.st (λb=>(⟨some g,a3⟩:Sl).row=some b)).set (p:=⟨g,j,none⟩) (.inr rfl) _).trans (i0.st λi hi=>hi))⟩;refine IsN.mono j8 (IsN.agree g8 ?_);rcases aO.1 hu with hu|hu
   ·rcases aO.1 hu with hu | hu
    .exact f9.o u (ba hu)
    exact HI.o u hu
   exact f9.o u (aN hu)
  have hd:=Qf2 (s:=⟨some g,a3⟩) (n:=ks.length) (xs:=(ptrs h ks).set j (ptr h a)) (i:=j+1) (Qbt f1.o i8 (ptr h a)) oM oM (λu hu=>by
   rcases cA hu with hu|rfl
   .exact QbF h ks u hu
   rfl)
  have q1:((j+1:Nat):Int)=((j:Int)+1):=oM
  have q2:((j:Int)+1)+1=((j:Int)+2):=oM
  rw[q1,q2]at hd;obtain⟨HD,d8⟩:=Yb hd b6;clear hd b6 q1 q2 f7;go_wp2_with fail;refine HD.o.mono ?_;rintro e w5 ⟨rfl,d0,g4⟩;have k0:=hY (d8.o w5 g4 d0);clear d0 g4;go_wp2_with fail;go_ret;exact k0.o
 obtain⟨a,b,rfl⟩:∃a b,ts=[a,b]:=by
  match ts,b4 with
  |[a,b],_=>exact⟨a,b,rfl⟩
 cases(show Ending.returned (.tuple #[ptr h a,ptr h b])=_ from j3);have b6:Qbi F base h ⟨some g,a3⟩ ks i w (.returned (.slice (some g) ks.length a3)) ((wc.setCell ⟨g,j,none⟩ (ptr h a)).setCell ⟨g,j+1,none⟩ (ptr h b)):=by
  have g8:Agree (Up F w wc) wc ((wc.setCell ⟨g,j,none⟩ (ptr h a)).setCell ⟨g,j+1,none⟩ (ptr h b)):=(gw wc ⟨g,j,none⟩ _ (λh=>g3.o _ g h rfl)).trans (gw _ ⟨g,j+1,none⟩ _ (λh=>g3.o _ g h rfl));have e0:((ptrs h ks).set j (ptr h a)).set (j+1) (ptr h b)=ptrs h ((ks.set j a).set (j+1) b):=by rw[ptrs,ptrs,dH,dH]
  have e2:(ks.take j++[a,b]++ks.drop (j+2)).length=ks.length:=by simp only[List.length_append,List.length_take,List.length_drop,List.length_cons,List.length_nil];omega
  have a2:=Qbt (Qbt f1.o i8 (ptr h a)) (i:=j+1) oM (ptr h b);rw[e0,QeU a0.o a1.o]at a2;refine⟨⟨some g,a3⟩,ks.take j++[a,b]++ks.drop (j+2),by rw[e2],by rw[e2];exact a2,⟨l,r,[a,b],by rw[c0.o];exact a0.o,by rw[c0.o];exact a1.o,HP.o,by rw[c0.o]⟩,λu hu=>?_,(((i3.o.st (λb=>(⟨some g,a3⟩:Sl).row=some b)).set (p:=⟨g,j,none⟩) (.inr rfl) _).set (p:=⟨g,j+1,none⟩) (.inr rfl) _)⟩;refine IsN.mono (λi hi=>hi.imp_right λh=>⟨h.1,by simpa using h.2⟩) (IsN.agree g8 ?_);rcases aO.1 hu with hu|hu
  ·rcases aO.1 hu with hu | hu
   .exact f9.o u (ba hu)
   exact HI.o u hu
  exact f9.o u (aN hu)
 have d8:=hY b6;clear b6 f7;go_wp2_with fail;go_ret;exact d8.o
def QsU(nv:Value)(es:List Ent)(k:ByteArray)(w:World)(e:Ending)(w':World):Prop:=
 Ext w w'/\((Qaq es k=none/\e=.returned (.tuple #[nv,.bool false]))\/
  ((Qaq es k).isSome=true/\∃u:PT 0,e=.returned (.tuple #[ptr 0 u,.bool true])/\u.2=QbM es k/\w.heap.size<=u.1/\IsN w' (In w.heap.size w'.heap.size) 0 u))
theorem Qke{es:List Ent}(hs:Sorted es)(k:ByteArray):decide ((es[Qct es k]?).map Prod.fst=some k)=(Qaq es k).isSome:=by
 rw[Qit hs];cases N:es[Qct es k]? with
 |none=>simp
 |some e=>by_cases I:e.1=k<;>simp[I]
variable{nv:Value}
theorem QdP{es:List Ent}(hp:∃p,nv=.pointer p)(hh:Calls prog 66 #[nv] w λe w'=>e=.returned (.int .i64 0)/\w=w')(he:Calls prog 76 #[nv] w (QaU es w))
  (hs:Sorted es) (h8:es.length<=8) (k:ByteArray):Calls prog 75 #[nv,k] w (QsU nv es k w):=by
 obtain⟨pp,rfl⟩:=hp;have HS:=hY hs;clear hs;go_in;go_wp2_with fail;refine hh.mono ?_;rintro e w1 ⟨rfl,rfl⟩;go_wp2_with fail;refine he.mono ?_;intro e w1 hp;obtain⟨s,xs,rfl,Z,ho,b4⟩:=hp;have I:=Qkd (w:=w1) (s:=s) (xs:=xs) (ho.es.mono λi hi=>hi.2) k (by rw[Z];exact HS.o);rw[Z]at I;have b0:xs.length=es.length:=by rw[<-Z,aq]
 obtain⟨b9,HO,b7⟩:=Yc Z ho b4;have c7:xs.length<=8:=oM
 have c1:=hY b0;obtain⟨p,hp⟩:∃p,Qct es k=p:=⟨_,rfl⟩;unfold Qgf at I;rw[Qke HS.o,hp]at I;have HP:=hY hp;clear Z ho b4 he hh b0 hp;cases hg:Qaq es k with
 | none=>
   rw[hg]at I;have HG:=hY hg;clear hg;go_wp2_with fail;refine I.mono ?_;rintro e w2 ⟨rfl,N⟩;have a5:=hY (b7.o.trans N);clear I N;go_wp2_with fail;go_ret2;exact⟨a5.o,.inl ⟨HG.o,rfl⟩⟩
 | some v=>
   rw[hg]at I;have c0:p<xs.length:=by
    have h1:=Qit HS.o k;rw[hg,HP.o]at h1;rcases d9 p xs.length with h|h
    .exact h
    rw[aI (by rw[<-c1.o];exact h)]at h1;cases h1
   have b5:QbM es k=es.take p++es.drop (p+1):=by
    have h1:=Qre HS.o k;have h2:=Qke HS.o k;rw[hg]at h2;rw[eH (fZ h2),HP.o]at h1;exact h1
   obtain⟨HG,c4⟩:=Yb hg b5;have c6:IntKind.i64.wrap ((p:Int)+1)=(p:Int)+1:=by rw[eM];omega
   clear hg b5;go_wp2_with fail;refine I.mono ?_;rintro e w2 ⟨rfl,N⟩;have a4:=HO.o.ext N;have hd:=Qrd (i:=p) a4.own oM c0 (QbX xs);obtain⟨a3,a5⟩:=Yb a4 (b7.o.trans N);clear I N a4;go_wp2_with fail;refine hd.mono ?_;rintro e w3 ⟨rfl,a0,a1⟩;have a2:∀i,s.row=some i->w.heap.size<=i/\i<w2.heap.size:=λi hi=>Qad a3.o.own hi
   have e1:(QaD xs).take (p*7)++(QaD xs).drop ((p+1)*7)=QaD (xs.take p++xs.drop (p+1)):=by rw[QcS,QcQ,Qcp]
   rw[e1]at a0;have b8:Ext w w3:=a5.o.wr a1 (λi hi=>(a2 i hi).1);have b3:ES w3 (Lt w3) s (xs.take p++xs.drop (p+1)):=QuN (by rw[aj,av,aw];omega) ((gz a0).mono λi hi=>hi.2)
    (λx hx=>by
      have b6:x∈xs:=by
       rcases aO.1 hx with hx|hx
       .exact ba hx
       exact aN hx
      exact⟨((a3.o.vals x b6).1.agree (a1.agree (λi hi=>hi.1.2) (λk hk h=>h.2 hk))).mono λi hi=>ab hi.1.2 a1.grown.size,(a3.o.vals x b6).2⟩) (by rw[aj,av,aw];omega)
   have a6:(xs.take p++xs.drop (p+1)).map LE.ent=QbM es k:=by rw[aB,cZ,cO,b9.o,c4.o]
   have a8:=QdM (n:=xs.length-1) b3 (by rw[aj,av,aw];omega) (Qc0 (by rw[a6];exact QaN HS.o k)) (by rw[aj,av,aw];omega);rw[a6]at a8;have a7:=hY b8;clear hd a0 a1 a2 e1 b8 b3 a6;go_wp2_with fail;refine a8.mono ?_;rintro e w4 ⟨u,rfl,hu,c2,a9,c3⟩;have HU:=hY a9;clear a8 a9;go_wp2_with fail;go_ret2;exact⟨a7.o.trans c3,.inr ⟨by rw[HG.o];rfl,u,rfl,hu,ak a7.o.size c2,HU.o.mono λi hi=>⟨Nat.le_trans a7.o.size hi.1,hi.2⟩⟩⟩
def Qow(F:Nat->Prop)(h:Nat)(t:PT h)(k:ByteArray)(w:World)(e:Ending)(w':World):Prop:=
 Ext w w'/\((Qaq (ents h t) k=none/\e=.returned (.tuple #[ptr h t,.bool false]))\/
  ((Qaq (ents h t) k).isSome=true/\∃u:PT h,e=.returned (.tuple #[ptr h u,.bool true])/\Qi3 w.heap.size k h t u/\IsN w' (Up F w w') h u))
def QsV(F:Nat->Prop)(h:Nat)(t:PT (h+1))(k:ByteArray)(w:World)(e:Ending)(w':World):Prop:=
 Ext w w'/\((Qaq (ents (h+1) t) k=none/\e=.returned (.tuple #[ptr (h+1) t,.bool false]))\/
  ((Qaq (ents (h+1) t) k).isSome=true∧∃ ks':List (PT h),QmO w.heap.size k h (Qi3 w.heap.size k h) t.2 ks'∧
    ((∃ u,ks'=[u]∧e=.returned (.tuple #[ptr h u,.bool true])∧IsN w' (Up F w w') h u)∨
     (2<=ks'.length/\∃c:PT (h+1),c.2=ks'/\w.heap.size<=addr (h+1) c/\e=.returned (.tuple #[ptr (h+1) c,.bool true])/\IsN w' (Up F w w') (h+1) c))))
def QsO(F:Nat->Prop)(h:Nat)(ks':List (PT h))(w:World)(e:Ending)(w':World):Prop:=
 Ext w w'/\((∃u,ks'=[u]/\e=.returned (ptr h u)/\IsN w' (Up F w w') h u)\/(2<=ks'.length/\∃c:PT (h+1),c.2=ks'/\w.heap.size<=addr (h+1) c/\e=.returned (ptr (h+1) c)/\IsN w' (Up F w w') (h+1) c))
variable{w6:World}
theorem Qg5{k:ByteArray}{t:PT (h+1)}{s6:Sl}{I:List (PT h)}(hF:∀b,F b->b<w.heap.size)(ok:OkT (h+1) t)(hs:Sorted (ents (h+1) t))(hc:(ents (h+1) t).length<=1000000)(hh:h+1<1000000)(hg:(Qaq (ents (h+1) t) k).isSome=true)
  (hX:Ext w w6) (a0:w6.ownsRow w.heap.size 46 1 (.slice s6.a I.length s6.c) I.length (ptrs h I)) (hD:QmO w.heap.size k h (Qi3 w.heap.size k h) t.2 I) (hI:∀u∈I,IsN w6 (Up F w w6) h u) :
  Calls prog 54 #[.slice s6.a I.length s6.c] w6 λe w'=>QsO F h I w e w':=by
 obtain⟨h1,h2,h3⟩:=Qdw hD ok hs hg;have a8:=ok.1;have a7:=ok.2.1;by_cases a1:I.length=1
 ·obtain ⟨u,rfl⟩:=List.length_eq_one_iff.1 a1
  refine(Qoh (s:=s6) (k:=u) (gz a0)).mono ?_;rintro e w' ⟨rfl,rfl⟩;exact⟨hX,.inl ⟨u,rfl,rfl,hI u (aV.2 rfl)⟩⟩
 have a2:=hD.ents hs (QbU ok) oM (λx y N hr=>hr.ents (ok.2.2 x N).1 (QaL hs x N));have a6:Sorted (I.flatMap (ents h)):=by rw[a2];exact QaN hs k
 have Z:∀x∈I,0<(ents h x).length:=λx N=>Qbk h x (h1 x N).1 (by have:=(h1 x N).2;omega)
 have hk:Kids w6 (Up F w w6) h I:=⟨λb hb=>hb.elim (λh=>ab (hF b h) hX.size) λh=>h.2,hI,QdI a6 Z,Z,λx N=>by have:=Qdf (h1 x N).1;omega,by
  unfold cnt;rw[a2];have h5:(QbM (t.2.flatMap (ents h)) k).length<=(t.2.flatMap (ents h)).length:=(Qa3 _ k).length_le;have h6:(t.2.flatMap (ents h)).length<=1000000:=hc;omega,oM⟩
 refine(Qcl ((gz a0).mono λi hi=>hi.2) rfl hk oM oM).mono ?_;rintro e w' ⟨c,rfl,a5,a4,a3,N⟩;refine⟨hX.trans N,.inr ⟨oM,c,a5,ak hX.size a4,rfl,a3.mono λi hi=>?_⟩⟩;rcases hi with(hi|hi)|hi
 .exact .inl hi
 .exact .inr ⟨hi.1,ab hi.2 N.size⟩
 exact .inr ⟨Nat.le_trans hX.size hi.1,hi.2⟩
theorem QfK{k:ByteArray}
  (ih:∀(w:World) (F:Nat->Prop) (t:PT h),(∀b,F b->b<w.heap.size)->IsN w F h t->OkT h t->4<=size h t->Sorted (ents h t)->(ents h t).length<=1000000->Calls prog 75 #[ptr h t,k] w (Qow F h t k w))
 {t:PT (h+1)} (hF:∀ b,F b→b<w.heap.size) (hn:IsN w F (h+1) t) (ok:OkT (h+1) t) (hs:Sorted (ents (h+1) t)) (hc:(ents (h+1) t).length≤1000000) :
  Calls prog 75 #[ptr (h+1) t,k] w (QsV F h t k w):=by
 have b5:=QbU ok;have hh:h+1<1000000:=ab (QcT (h+1) t ok (by have:=ok.1;show 1<=t.2.length;omega)) hc;obtain⟨I,N,hA,hC⟩:=Qa6 (h:=h) (ks:=t.2) hs b5 (by have:=ok.1;omega) k;have a0:=am N;have k1:=(ae.1 N).1;have j8:=ok.2.1;have k3:=ok.1;have b9:∀x∈t.2,IsN w F h x:=hn.2.choose_spec.2.2;have b8:(ents h I).length<=1000000:=ak (by
  show _<=(t.2.flatMap (ents h)).length;rw[QbI N];simp only[List.flatMap_append,List.flatMap_cons,List.length_append];omega) hc
 have e4:Qaq (ents (h+1) t) k=Qaq (ents h I) k:=Qf3 N hA hC;have b0:∀W,Ext w W->Calls prog 75 #[ptr h I,k] W (Qow F h I k W):=λW hW=>
  ih W F I (λb Z=>ab (hF b Z) hW.size) ((b9 I a0).agree (hW.agree hF)) (ok.2.2 I a0).1 (ok.2.2 I a0).2 (QaL hs I a0) b8
 have g3:∀B u,(Qaq (ents (h+1) t) k).isSome=true->Qi3 B k h I u->OkT h u/\size h I<=size h u+1/\size h u<=size h I:=λB u hg hr=>hr.ok (ok.2.2 I a0).1 (ok.2.2 I a0).2 (QaL hs I a0) (by rw[<-e4];exact hg)
 obtain⟨HF,HN,HS,HP,k2,i5,a4⟩:=Yh hF hn hs b5 b0 b9 N;obtain⟨g6,a9,HC,l6⟩:=Ye e4 ok hc g3;have n9:(((h:Int)+1)==0)=false:=eJ.2 oM;clear hF hn ok hs hc b5 b0 b9 N hA hC ih b8 e4 g3;go_in;go_wp2_with fail;refine(QaC HN.o).mono ?_;rintro e w1 ⟨rfl,rfl⟩;have b8:=Qb9 HN.o oM;go_wp2_with fail;refine b8.mono ?_;rintro e w1 ⟨s',rfl,c0,c8⟩;have i4:Rd w1 (Lt w1) 1 s' t.2.length (ptrs h t.2):=(gz c0).mono λi hi=>hi.2
 have e3:=Qg3 i4 (λx hx=>(i5.o x hx).agree (c8.agree HF.o)) (λb Z=>ab (HF.o b Z) c8.size) HP.o k HS.o oM;obtain⟨i,hi⟩:∃i,Qaw h t.2 k=i:=⟨_,rfl⟩;rw[hi]at e3 k1;obtain⟨HI,l3,f5,k4⟩:=Ye hi e3 c0 c8;clear hi e3 c0 i4 b8 c8;go_wp2_with fail;refine l3.o.mono ?_;rintro e w2 ⟨rfl,f7⟩;have f4:=k4.o.trans f7;obtain⟨g,a1,rfl,c6,n7,n6,i0⟩:=QaJ f5.o oM;have d4:w2.ownsRow w.heap.size 46 1 (.slice (some g) t.2.length a1) t.2.length (ptrs h t.2):=Qab (s:=⟨some g,a1⟩) f5.o (f7.agree (F:=Lt w1) λ_ h=>h) λb Z=>(Qad f5.o Z).2
 have j9:w2.cell? ⟨g,i,none⟩=some (ptr h I):=by
  have:=d4.cells (g:=g) rfl i (ptr h I) (by rw[ptrs,ar,<-HI.o,a4.o];rfl);rwa[Qbc,aD]at this
 have n4:(i:Int)<(t.2.length:Int):=oM
 have l7:g<w2:=(Qad (s:=⟨some g,a1⟩) d4 rfl).2;have b0:=k2.o w2 f4;obtain⟨g5,b7⟩:=Yb d4 f4;clear f7 d4 f4 i0;go_wp2_with fail;refine b0.mono ?_;rintro e w3 ⟨a3,(⟨hg,rfl⟩ |⟨hg,u,rfl,d3,j1⟩)⟩
 ·have l1:=hY (b7.o.trans a3)
  have HG:=hY hg;clear a3 hg b0;go_wp2_with fail;go_ret2;exact⟨l1.o,.inl ⟨by rw[g6.o];exact HG.o,rfl⟩⟩
 have f2:(Qaq (ents (h+1) t) k).isSome=true:=by rw[g6.o];exact hg
 obtain⟨ou,o2,o1⟩:=l6.o _ u f2 d3;have g8:3<=size h u:=by have:=(a9.o.2.2 I (am a4.o)).2;omega
 have l9:size h u<=8:=Qdf ou;have n2:=a3.size;have j2:=b7.o.size;have f6:∀b,Up F w2 w3 b->b≠g:=λb Z e=>by
  subst e;rcases Z with Z|Z
  .have:=HF.o _ Z;have c6:w<=b:=c6;omega
  omega
 have a7:w3.ownsRow w.heap.size 46 1 (.slice (some g) t.2.length a1) t.2.length (ptrs h t.2):=Qab (s:=⟨some g,a1⟩) g5.o (a3.agree (F:=Lt w2) λ_ h=>h) λb Z=>(Qad (s:=⟨some g,a1⟩) g5.o Z).2
 have a5:=Qbt a7 (i:=i) oM (ptr h u);have e0:(ptrs h t.2).set i (ptr h u)=ptrs h (t.2.set i u):=by rw[ptrs,ptrs,dH]
 rw[e0]at a5;have k0:w3.cell? ⟨g,i,none⟩=some (ptr h I):=(a3.cell l7).trans j9;have k8:∀o,w3.frozen? ⟨g,o,none⟩=false:=by
  obtain⟨g',i9,e1,-,-,-,c9⟩:=QaJ (s:=⟨some g,a1⟩) a7 oM;obtain⟨rfl,rfl⟩:g=g'/\a1=i9:=by simpa using e1
  exact c9.frozen
 have i1:=(b7.o.trans a3).setCell (p:=⟨g,i,none⟩) c6 (ptr h u);have b4:Agree (Up F w2 w3) w3 (w3.setCell ⟨g,i,none⟩ (ptr h u)):=gw w3 ⟨g,i,none⟩ _ (λh=>f6 g h rfl);have e7:∀x∈t.2.set i u,IsN (w3.setCell ⟨g,i,none⟩ (ptr h u)) (Up F w2 w3) h x:=λx hx=>by
  rcases cA hx with hx|rfl
  .exact (((i5.o x hx).agree ((b7.o.trans a3).agree HF.o)).mono λb Z=>.inl Z).agree b4
  exact j1.agree b4
 have g7:=e7 u (List.mem_set oM u);have f8:=Qf8 g7 oM;have i3:(w3.setCell ⟨g,i,none⟩ (ptr h u)).heap.size=w3.heap.size:=oO
 have e2:=d3.mono j2;have N:=a4.o;rw[HI.o]at N;have g9:∀d6,((4<=size h u/\d6=t.2.set i u)\/(size h u<4/\Qsu w.heap.size h (t.2.set i u) i d6))->QmO w.heap.size k h (Qi3 w.heap.size k h) t.2 d6:=λd6 b9=>by
  refine⟨I,u,a4.o,e2,?_⟩;rw[HI.o];exact b9
 have e8:(t.2.set i u).flatMap (ents h)=QbM (t.2.flatMap (ents h)) k:=by
  obtain⟨l8,f1,hA,hC⟩:=Qa6 (h:=h) (ks:=t.2) HS.o HP.o oM k;rw[a4.o]at f1;simp only[Option.some.injEq]at f1;subst f1;rw[HI.o]at hA hC;rw[set_mid N];simp only[List.flatMap_append,List.flatMap_cons];have e1:=d3.ents (a9.o.2.2 I (am N)).1 (QaL HS.o I (am N))
  conv=>rhs;rw[QbI N]
  rw[aQ,aZ,Qik hA,Qgu hC,e1]
 have j4:Sorted ((t.2.set i u).flatMap (ents h)):=by
  rw[e8];exact QaN HS.o k
 have c9:((t.2.set i u).flatMap (ents h)).length<=1000000:=by
  rw[e8];exact ak (Qa3 _ k).length_le HC.o
 obtain⟨l2,HU,j3,k9,l4,l0,j7⟩:=Yh c9 f8 g9 i1 a5 e7 j4;obtain⟨b3,k5,l5⟩:=Yc f2 ou f6;have o3:g<w3:=oM
 clear b0 hg d3 j1 f2 ou a7 a5 e0 i1 b4 e7 g7 f8 e2 N g9 e8 j4 c9 a3 f6;go_wp2_with fail;generalize k7:World.setCell _ _ _=W4 at *;refine HU.o.mono ?_;rintro e w5 ⟨rfl,q,rfl⟩;have i6:=k9.o.drewN q;have d7:Agree (Up F w2 w3) W4 (W4.drewN q):=Agree.drewN W4 q;have i8:(W4.drewN q).ownsRow w.heap.size 46 1 (.slice (some g) t.2.length a1) t.2.length (ptrs h (t.2.set i u)):=l4.o;have j0:(W4.drewN q).heap.size=w3.heap.size:=i3;have i2:∀x∈t.2.set i u,IsN (W4.drewN q) (Up F w2 w3) h x:=λx hx=>(l0.o x hx).agree d7
 generalize W4.drewN q=W5 at *;obtain⟨d0,j5,g0,e6⟩:=Ye i6 i8 i2 j0;have a8:(t.2.set i u).length=t.2.length:=by rw[ce]
 clear i6 d7 i8 i2 j0 k0 k8 i3 k7;by_cases h4:size h u<4
 ·have k6:(size h u:Int)<4:=oM
  obtain⟨l,hl⟩:∃l,(t.2.set i u)[i-1]? = some l:=⟨_,ac oM⟩;obtain⟨r,hr⟩:∃r,(t.2.set i u)[i-1+1]? = some r:=⟨_,ac oM⟩;have b6:∀x∈t.2.set i u,OkT h x/\3<=size h x:=λx hx=>by
   rcases cA hx with hx|rfl
   .exact ⟨(a9.o.2.2 x hx).1,by have:=(a9.o.2.2 x hx).2;omega⟩
   exact⟨k5.o,g8⟩
  have d8:size h l+size h r<=11:=by
   have h8:∀x∈t.2.set i u,size h x<=8:=λx hx=>Qdf (b6 x hx).1
   have o4:=h8 l (am hl);have o0:=h8 r (am hr);have j6:(t.2.set i u)[i]? = some u:=by rw[df oM]
   by_cases h0:i=0
   ·subst h0
    rw[j6]at hl;simp only[Option.some.injEq]at hl;subst hl;omega
   rw[show i-1+1=i from oM,j6]at hr;simp only[Option.some.injEq]at hr;subst hr;omega
  have a6:=QrT (w:=W5) (F:=Up F w2 w3) (base:=w) (s:=⟨some g,a1⟩) (i:=i) (ks:=t.2.set i u) (l:=l) (r:=r)
   ⟨by rw[a8];exact j5.o,d0.o.size,λb Z=>⟨by rw[e6.o];exact Z.elim (λh=>by have:=HF.o b h;have:=b7.o.size;omega) λh=>h.2,λe=>by simp[Sl.row]at e;exact l5.o b Z e.symm⟩,g0.o,b6,hl,hr,d8,j7.o,by
     have:=l2.o;omega,oM,oM⟩
  rw[a8]at a6;have HM:=hY a6;clear hl hr b6 d8 a6;go_wp2_with fail;refine HM.o.mono ?_;rintro e w6 ⟨s6,d5,rfl,c2,i7,f9,c7⟩;have g4:Ext w w6:=d0.o.step c7 (λb Z=>by simp only[Sl.row,Option.map_some,Option.some.injEq]at Z;have c6:w<=g:=c6;omega);have D:=j3.o d5 (.inr ⟨h4,i7.mono d0.o.size⟩);have c4:∀x∈d5,IsN w6 (Up F w w6) h x:=λx hx=>(f9 x hx).mono λb Z=>by
   have hz:=e6.o;have n8:=c7.size;rcases Z with(Z|Z)|Z
   .exact .inl Z
   .exact .inr ⟨oM,oM⟩
   exact .inr ⟨oM,Z.2⟩
  have a2:=Qg5 HF.o a9.o HS.o HC.o hh b3.o g4 c2 D c4;obtain⟨HD,HE⟩:=Yb D a2;clear c2 i7 f9 c7 g4 D c4 a2;go_wp2_with fail;refine HE.o.mono ?_;rintro e w7 ⟨hx,(⟨v,hv,rfl,c3⟩ |⟨hv,c,f0,f3,rfl,c1⟩)⟩
  ·have H1:=hY hx
   have H2:=hY c3;clear hx c3;go_wp2_with fail;go_ret2;exact⟨H1.o,.inr ⟨b3.o,d5,HD.o,.inl ⟨v,hv,rfl,H2.o⟩⟩⟩
  obtain⟨H1,H2⟩:=Yb hx c1;clear hx c1;go_wp2_with fail;go_ret2;exact⟨H1.o,.inr ⟨b3.o,d5,HD.o,.inr ⟨hv,c,f0,f3,rfl,H2.o⟩⟩⟩
 have k6:¬(size h u:Int)<4:=oM
 have D:=j3.o _ (.inl ⟨oM,rfl⟩);have c4:∀x∈t.2.set i u,IsN W5 (Up F w W5) h x:=λx hx=>(g0.o x hx).mono λb Z=>by
  have hz:=e6.o;rcases Z with Z|Z
  .exact .inl Z
  exact .inr ⟨oM,oM⟩
 have a2:=Qg5 (s6:=⟨some g,a1⟩) HF.o a9.o HS.o HC.o hh b3.o d0.o (by rw[a8];exact j5.o) D c4;rw[a8]at a2;obtain⟨HD,HE⟩:=Yb D a2;clear D c4 a2;go_wp2_with fail;refine HE.o.mono ?_;rintro e w7 ⟨hx,(⟨v,hv,rfl,c3⟩ |⟨hv,c,f0,f3,rfl,c1⟩)⟩
 ·have H1:=hY hx
  have H2:=hY c3;clear hx c3;go_wp2_with fail;go_ret2;exact⟨H1.o,.inr ⟨b3.o,_,HD.o,.inl ⟨v,hv,rfl,H2.o⟩⟩⟩
 obtain⟨H1,H2⟩:=Yb hx c1;clear hx c1;go_wp2_with fail;go_ret2;exact⟨H1.o,.inr ⟨b3.o,_,HD.o,.inr ⟨hv,c,f0,f3,rfl,H2.o⟩⟩⟩
theorem Qg4{k:ByteArray}:∀(h:Nat) (w:World) (F:Nat->Prop) (t:PT h),(∀b,F b->b<w.heap.size)->IsN w F h t->OkT h t->4<=size h t->Sorted (ents h t)->(ents h t).length<=1000000->Calls prog 75 #[ptr h t,k] w (Qow F h t k w)
 | 0,w,F,t,hF,hn,ok,h4,hs,hc=>by
   refine(QdP ⟨_,rfl⟩ (QaC hn) (Qa5 (hn.mono hF)) hs (show t.2.length<=8 from ok) k).mono ?_;rintro e w' ⟨Z,(⟨I,rfl⟩ |⟨I,u,rfl,hu,hb,N⟩)⟩
   .exact ⟨Z,.inl ⟨I,rfl⟩⟩
   exact⟨Z,.inr ⟨I,u,rfl,⟨hu,hb⟩,N.mono λi hi=>.inr hi⟩⟩
 | h+1,w,F,t,hF,hn,ok,h4,hs,hc=>by
   refine(QfK (Qg4 (k:=k) h) hF hn ok hs hc).mono ?_;rintro e w' ⟨Z,(⟨I,rfl⟩ |⟨I,a0,hd,h2⟩)⟩
   .exact ⟨Z,.inl ⟨I,rfl⟩⟩
   have h4:4<=t.2.length:=h4;have:=(Qdw hd ok hs I).2.2;rcases h2 with⟨u,rfl,-,-⟩ |⟨-,c,rfl,hb,rfl,N⟩
   .simp only[List.length_cons,List.length_nil]at this;omega
   exact⟨Z,.inr ⟨I,c,rfl,⟨hd,hb⟩,N⟩⟩
def Qox(F:Nat->Prop)(T:RT)(k:ByteArray)(w:World)(e:Ending)(w':World):Prop:=
 Ext w w'/\((Qaq (Qaa T) k=none/\e=.returned (.tuple #[QaK T,.bool false]))\/
  ((Qaq (Qaa T) k).isSome=true∧∃ (h:Nat) (u:PT h),e=.returned (.tuple #[ptr h u,.bool true])∧IsN w' (Up F w w') h u∧
    ((ents h u=[]/\QkN w.heap.size k T none)\/(0<(ents h u).length/\QkN w.heap.size k T (some ⟨h,u⟩)))))
variable{T:RT}
theorem QkK(hF:∀b,F b->b<w.heap.size)(hT:IsT w F T)(ok:OkR T)(hc:(Qaa T).length<=1000000)(k:ByteArray) :
  Calls prog 75 #[QaK T,k] w (Qox F T k w):=by
 match T,hT,ok,hc with
 | none,_,_,_=>
   refine(QdP (nv:=.pointer none) (es:=[]) ⟨none,rfl⟩ (QdV w) ((Qej w).mono ?_) List.Pairwise.nil oO k).mono ?_
   ·rintro e w' ⟨rfl,rfl⟩
    exact⟨Sl.none,[],rfl,rfl,OE.nil _ _,gh _⟩
   rintro e w' ⟨Z,(⟨I,rfl⟩ |⟨I,u,rfl,hu,hb,N⟩)⟩
   .exact ⟨Z,.inl ⟨I,rfl⟩⟩
   simp[Qaq]at I
 | some ⟨0,t⟩,hn,ok,hc=>
   have hn:IsN w F 0 t:=hn;refine(QdP ⟨_,rfl⟩ (QaC hn) (Qa5 (hn.mono hF)) ok.2.2 (show t.2.length<=8 from ok.1) k).mono ?_;rintro e w' ⟨Z,(⟨I,rfl⟩ |⟨I,u,rfl,hu,hb,N⟩)⟩
   .exact ⟨Z,.inl ⟨I,rfl⟩⟩
   refine⟨Z,.inr ⟨I,0,u,rfl,N.mono λi hi=>.inr hi,?_⟩⟩;by_cases h0:ents 0 u=[]
   .exact .inl ⟨h0,.gone I ⟨hu,hb⟩ h0⟩
   have:=List.length_pos_iff.2 h0;exact .inr ⟨this,.same I ⟨hu,hb⟩ this (.inl rfl)⟩
 | some ⟨h+1,t⟩,hn,ok,hc=>
   refine(QfK (Qg4 (k:=k) h) hF hn ok.1 ok.2.2 hc).mono ?_;rintro e w' ⟨Z,(⟨I,rfl⟩ |⟨I,a2,hd,h2⟩)⟩
   .exact ⟨Z,.inl ⟨I,rfl⟩⟩
   have a1:=(Qdw hd ok.1 ok.2.2 I).1;rcases h2 with⟨u,rfl,rfl,N⟩ |⟨hl,c,rfl,hb,rfl,N⟩
   ·have:=a1 u (aV.2 rfl)
    exact⟨Z,.inr ⟨I,h,u,rfl,N,.inr ⟨Qbk h u this.1 oM,.down I hd⟩⟩⟩
   have hp:0<(ents (h+1) c).length:=by
    obtain⟨x,a0⟩:=List.exists_mem_of_length_pos (show 0<c.2.length by omega);have h1:=a1 x a0;have h2:=Qbk h x h1.1 oM;show 0<(c.2.flatMap (ents h)).length;obtain⟨e,he⟩:=List.exists_mem_of_length_pos h2;exact List.length_pos_of_mem (cR.2 ⟨x,a0,he⟩)
   exact⟨Z,.inr ⟨I,h+1,c,rfl,N,.inr ⟨hp,.same I ⟨hd,hb⟩ hp (.inr hl)⟩⟩⟩
def QsM(F:Nat->Prop)(T:RT)(k:ByteArray)(w:World)(e:Ending)(w':World):Prop:=
 ∃T',e=.returned (.tuple #[Qao T',.bool (Qaq (Qaa T) k).isSome])/\QkN w.heap.size k T T'/\IsT w' (Up F w w') T'/\Ext w w'
theorem Qm9(hF:∀b,F b->b<w.heap.size)(hT:IsT w F T)(ok:OkR T)(hc:(Qaa T).length<=1000000)(k:ByteArray) :
  Calls prog 52 #[Qao T,k] w (QsM F T k w):=by
 have b0:∀W,Ext w W->Calls prog 75 #[QaK T,k] W (Qox F T k W):=λW hW=>
  QkK (λb hb=>ab (hF b hb) hW.size) (hT.agree (hW.agree hF)) ok hc k
 have a8:∀W,Ext w W->Calls prog 73 #[QaK T] W λe w'=>e=.returned (.int .i64 (Qaa T).length)/\W=w':=λW hW=>Qfb (hT.agree (hW.agree hF))
 have a3:Qaa T=[]->T=none:=λI=>by
  match T,ok,I with
  |none,_,_=>rfl
  |some ⟨h,t⟩,ok,I=>have:=Qbk h t ok.1 ok.2.1;have I:ents h t=[]:=I;rw[I]at this;cases this
 have c4:∃p,QaK T=.pointer p:=Qaj T;obtain⟨rp,a2⟩:=c4;rw[a2]at b0 a8;obtain⟨HW,d6,HF,e0,HT,b9,d0⟩:=Yh b0 a8 hF ok hT a3 a2;clear hF hT ok b0 a8 a3;rw[Qao,a2];clear a2;go_in;go_wp2_with fail;have a9:Ext w ((w.alloc (.cells #[.pointer rp] 48)).alloc (.cells #[.pointer none] 48)):=((gh w).alloc _ _).alloc _ _;have c2:Blk ((w.alloc (.cells #[.pointer rp] 48)).alloc (.cells #[.pointer none] 48)) (w.heap.size+1) 48 #[.pointer none]:=by
  have:=gm (w.alloc (.cells #[.pointer rp] 48)) 48 #[.pointer none];simpa using this
 generalize b8:World.alloc _ _=W3 at *;have d7:W3.heap.size=w.heap.size+1+1:=by rw[<-b8];simp
 clear b8;refine(HW.o _ a9).mono ?_;rintro e Z ⟨b3,b6⟩;have a1:=c2.ext b3;have c0:=a9.trans b3;have q4:Z.cell? ⟨w+1,0,none⟩=some (.pointer none):=a1.cell 0;have f4:=a1.frozen 0;have d8:=a1.lt;have HX:=hY c0;have c3:∀W',¬Up F W3 W' (w.heap.size+1):=λW' hf=>by
  rcases hf with hf|hf
  .have:=HF.o _ hf;omega
  have:=hf.1;omega
 have d4:=hY c3;have a7:w.heap.size<=W3.heap.size:=oM
 clear c2 a1 c0 a9 b3 c3;have b5:∃N b,e=.returned (.tuple #[QaK N,.bool b])/\b=(Qaq (Qaa T) k).isSome/\IsT Z (Up F W3 Z) N/\((Qaa N).length=0->QkN w.heap.size k T none)/\((Qaa N).length≠0->QkN w.heap.size k T N):=by
  rcases b6 with⟨hg,rfl⟩ |⟨hg,h,u,rfl,c7,hd⟩
  ·refine ⟨T,false,by rw [d0.o],by rw [hg];rfl,(HT.o.agree (HX.o.agree HF.o)).mono fun i hi=>.inl hi,fun I=>?_,fun _=>.no hg⟩
   have:=b9.o (au I);subst this;exact .no hg
  refine⟨some ⟨h,u⟩,true,rfl,hg.symm,c7,λI=>?_,λI=>?_⟩
  .exact (hd.resolve_right λhc=>by have I:(ents h u).length=0:=I;omega).2.mono a7
  exact(hd.resolve_left λh=>I (by show(ents _ u).length=0;rw[h.1];rfl)).2.mono a7
 obtain⟨N,b,rfl,hb,a6,b4,b7⟩:=b5;have a5:=Qfb a6;obtain⟨p1,a0⟩:=Qaj N;have a4:∀W',Agree (Up F W3 Z) Z W'->Z.heap.size<=W'.heap.size->IsT W' (Up F w W') N:=λW' ha hs=>(a6.agree ha).mono λi hi=>hi.elim .inl λhi=>.inr ⟨Nat.le_trans a7 hi.1,ab hi.2 hs⟩
 rw[a0]at a5;obtain⟨c8,c6,HB,c1,c9,d3⟩:=Yg a0 a5 hb a4 b4 b7;rw[a0];clear b6 a0 a5 hb a4 b4 b7 a6;go_wp2_with fail;refine c6.o.mono ?_;rintro e w5 ⟨rfl,rfl⟩;by_cases I:(Qaa N).length=0
 ·have d5:(((Qaa N).length:Int) == 0)=true:=by simp [I]
  go_wp2_with fail;have q0:(Z.setCell ⟨w+1,0,none⟩ (.pointer none)).cell? ⟨w+1,0,none⟩=some (.pointer none):=fc Z _ _ q4;refine eN (v:=.tuple #[Qao none,.bool b]) (by simp[results,results52,go_sem,q0];rfl) rfl ?_;rw[HB.o];exact⟨none,rfl,c9.o I,trivial,HX.o.setCell (p:=⟨w+1,0,none⟩) (by show w.heap.size<=w.heap.size+1;omega) _⟩
 have d5:(((Qaa N).length:Int)==0)=false:=eJ.2 oM;go_wp2_with fail;have q0:(Z.setCell ⟨w+1,0,none⟩ (.pointer p1)).cell? ⟨w+1,0,none⟩=some (.pointer p1):=fc Z _ _ q4;refine eN (v:=.tuple #[Qao N,.bool b]) (by rw[Qao,c8.o];simp[results,results52,go_sem,q0]) rfl ?_;rw[HB.o];exact⟨N,rfl,d3.o I,c1.o _ (gw Z ⟨w+1,0,none⟩ _ (d4.o Z)) oO,HX.o.setCell (p:=⟨w+1,0,none⟩) (by show w.heap.size<=w.heap.size+1;omega) _⟩
variable{P:Program}
theorem Qjz(w:World){I Z:TypeId}(a:Addr)(N:P.underlying I=some (.pointer Z)) :
  (binOp .eql I (.pointer none) (.pointer (some a))).run P w=.ok (.bool false) w:=by
 have h:∀d:Nat,(Op.equalIn (d+1) I (.pointer none) (.pointer (some a))).run P w=.ok false w:=λd=>by
  simp[Op.equalIn,run_underlying N]
 simp only[binOp];simp[Op.equal,Op.maxDepth,h 9999]
theorem Qth:∃j,prog.info? 159=some j/\j.size≠0:=by
 have h:((prog.info? 159).map λi=>decide (i.size≠0))=some true:=kM
 cases I:prog.info? 159 with
 |none=>rw[I]at h;cases h
 |some j=>rw[I]at h;exact⟨j,rfl,by simpa using h⟩
def QsP(w:World)(p:Option Addr):Prop:=∀a,p=some a->∃c t,w.heap[a.block]? = some (.cells c t (0,0))
open Go.Maps
structure Sb(H:Nat->Prop)(w w':World):Prop where
 os:w'.os=w.os
 tape:w'.tape=w.tape
 output:w'.output=w.output
 size:w.heap.size<=w'.heap.size
 block:∀b,b<w.heap.size->¬H b->w'.heap[b]? = w.heap[b]?
variable{H:Nat->Prop}{w':World}
theorem St.sb(h:St H w w'):Sb H w w':=⟨h.os,h.tape,h.output,h.size,h.block⟩
theorem Ext.sb(h:Ext w w')(H:Nat->Prop):Sb H w w':=(h.st H).sb
theorem Sb.refl(H:Nat->Prop)(w:World):Sb H w w:=(gh w).sb H
theorem Sb.trans{a b c:World}(h:Sb H a b)(k:Sb H b c):Sb H a c:=
 ⟨k.os.trans h.os,k.tape.trans h.tape,k.output.trans h.output,ak h.size k.size,λi hi I=>(k.block i (ab hi h.size) I).trans (h.block i hi I)⟩
theorem Sb.comp{a b c:World}(h:Sb H a b)(k:Sb G b c)(N:∀i,i<a.heap.size->G i->H i):Sb H a c:=
 ⟨k.os.trans h.os,k.tape.trans h.tape,k.output.trans h.output,ak h.size k.size,λi hi I=>(k.block i (ab hi h.size) λZ=>I (N i hi Z)).trans (h.block i hi I)⟩
theorem Sb.mono{a b:World}(h:Sb H a b)(Z:∀i,i<a.heap.size->H i->G i):Sb G a b:=
 ⟨h.os,h.tape,h.output,h.size,λi hi N=>h.block i hi λI=>N (Z i hi I)⟩
theorem Sb.of_below(h:Below n w w'):Sb (λb=>n<=b) w w':=⟨h.os,h.tape,h.output,h.size,λb _ I=>h.block b oM⟩
theorem Sb.new(h:Below w.heap.size w w'):Sb H w w':=(Sb.of_below h).mono λi hi I=>oM
theorem Sb.cell(h:Sb H w w'){b o:Nat}(I:b<w)(N:¬H b):w'.cell? ⟨b,o,none⟩=w.cell? ⟨b,o,none⟩:=
 fb (w:=w) (a:=⟨b,o,none⟩) (h.block b I N)
variable{g:Nat}
theorem Sb.blk{t:TypeId}{cs:Array Value}(h:Sb H w w')(I:Blk w g t cs)(N:¬H g):Blk w' g t cs:=(h.block g I.lt N).trans I
theorem Sb.agree(h:Sb H w w'):Agree (NH H w) w w':=λb I=>h.block b I.1 I.2
theorem Sb.ext{a b c:World}(h:Sb H a b)(k:Ext b c):Sb H a c:=h.trans (k.sb H)
theorem Sb.drew{a w:World}(h:Sb H a w):Sb H a w.drew:=h.ext ((gh w).drew)
theorem Sb.set{a w:World}(h:Sb H a w){p:Addr}(I:a.heap.size<=p.block\/H p.block)(u:Value):Sb H a (w.setCell p u):=
 ⟨h.os,h.tape,h.output,by simpa[World.setCell]using h.size,λi hi N=>(fh w p u i (by
   rintro rfl;rcases I with I|I
   .omega
   exact N I)).trans (h.block i hi N)⟩
theorem Sb.grown{b:Nat}(h:w.grownBy w' (some b)):Sb (λi=>i=b) w w':=
 ⟨h.os,h.tape,h.output,h.size,λi hi I=>h.block i hi (by intro e;injection e with e;exact I e)⟩
theorem Sb.made(h:w.grownBy w' none):Sb H w w':=⟨h.os,h.tape,h.output,h.size,λi hi I=>h.block i hi oO⟩
theorem Qbx{H:Type}{k:TypeId}{R:Value->Option (DataW H × List MemPlace)}{b n:Nat}{D:DataW H}(h:w.ownsMap P k R b n D)(N:w'.heap[b]? = w.heap[b]?):w'.ownsMap P k R b n D:=by
 obtain⟨es,I,h1,F,h2,Z⟩:=h;exact⟨es,I,N.trans h1,F,h2,Z⟩
theorem MapAt.sb{M:Nat}{es:List Ent}(h:MapAt H w M es)(k:Sb G w w')(N:∀b,G b->H b)(hM:¬G M):MapAt H w' M es:=by
 obtain⟨Z,s,xs,I,hs,hx⟩:=h;exact⟨Z,s,xs,k.blk I hM,(hs.agree λb I=>k.block b I.1 λhh=>I.2 (N b hh)).mono λb I=>⟨Nat.lt_of_lt_of_le I.1 k.size,I.2⟩,hx⟩
theorem Qwf{base e size n m:Nat}{xs:List Value}{t:TypeId}{cs:Array Value}(ho:w.ownsRow base e size (.slice s.a n s.c) n xs)(hb:Blk w m t cs)(Z:e≠t):¬s.row=some m:=λI=>by
 rcases ho.2 with⟨N,-⟩ |⟨gg,cap,a0,N,-,hc,-⟩
 ·injection N with e1
  rw[Sl.row,e1]at I;cases I
 injection N with e1;rw[Sl.row,e1]at I;have:gg=m:=by simpa using I
 subst this;have h2:w.heap[gg]? = some (.cells cs t (0,0)):=hb;rw[hc]at h2;injection h2 with h2;injection h2 with h3 h4;exact Z h4
abbrev gu:=@Sb.refl
structure OD where
 T:RT
 mb:Option Nat
 s:Sl
 us:List UD
 Hs:List (AL SV)
 C:AL SV
def OvB(O:Nat)(d:OD):Nat->Prop:=λb=>b=O\/d.mb=some b\/d.s.row=some b
def OvF(H:Nat->Prop)(w:World)(O:Nat)(d:OD):Nat->Prop:=λb=>b<w.heap.size/\¬OvB O d b/\¬H b
theorem Qdd(w:World)(F:Nat->Prop):RV w F zeroV Sl.none Sl.none:=RV.flat _ _ _ _ _ _ oN oN oN
def QkU(w:World)(F:Nat->Prop)(s:SV):Prop:=RV w F s.v s.sl s.so/\(s.has=false->s.v=zeroV)
theorem QkU.agree{s:SV}(h:QkU w F s)(I:Agree F w w'):QkU w' F s:=⟨h.1.agree I,h.2⟩
theorem QkU.mono{s:SV}(h:QkU w F s)(I:∀i,F i->G i):QkU w G s:=⟨h.1.mono I,h.2⟩
def Qh2(w:World)(F:Nat->Prop)(O:Nat)(u:UD)(v:Value):Prop:=
 ∃(bw bd bo bk:Nat) (o:SV),v=.func (.func 211) #[] #[.pointer (some ⟨bw,0,none⟩),.pointer (some ⟨bd,0,none⟩),.pointer (some ⟨bo,0,none⟩),.pointer (some ⟨bk,0,none⟩)]/\
  (F bw/\F bd/\F bo/\F bk)/\Blk w bw 4 #[.bool u.old.isSome]/\Blk w bd 192 o.cells/\(∀x,u.old=some x->x=o)/\Blk w bo 151 #[.pointer (some ⟨O,0,none⟩)]/\Blk w bk 9 #[.string u.k]
variable{O:Nat}
theorem Qh2.agree{u:UD}{v:Value}(h:Qh2 w F O u v)(I:Agree F w w'):Qh2 w' F O u v:=by
 obtain⟨bw,bd,bo,bk,o,h1,⟨Z,f2,N,f4⟩,h2,h3,h4,h5,h6⟩:=h;exact⟨bw,bd,bo,bk,o,h1,⟨Z,f2,N,f4⟩,h2.agree I Z,h3.agree I f2,h4,h5.agree I N,h6.agree I f4⟩
theorem Qh2.mono{u:UD}{v:Value}(h:Qh2 w F O u v)(I:∀i,F i->G i):Qh2 w G O u v:=by
 obtain⟨bw,bd,Z,N,o,h1,⟨f1,f2,f3,f4⟩,r⟩:=h;exact⟨bw,bd,Z,N,o,h1,⟨I _ f1,I _ f2,I _ f3,I _ f4⟩,r⟩
def Qbp(w:World)(mb:Option Nat)(C:AL SV):Prop:=match mb with
 |none=>C=[]
 |some b=>w.ownsMap prog 9 QeO b C.length (mapA SV.val C)
variable{C:AL SV}
theorem Qbp.heap{mb:Option Nat}(h:Qbp w mb C)(I:∀b,mb=some b->w'.heap[b]? = w.heap[b]?):Qbp w' mb C:=by
 cases mb with
 |none=>exact h
 |some b=>exact Qbx h (I b rfl)
theorem Qbp.lt{mb:Option Nat}(h:Qbp w mb C){b:Nat}(I:mb=some b):b<w:=by
 subst I;exact World.ownsMap.lt h
theorem QeV{b n:Nat}(h:w.ownsMap prog 9 QeO b n (mapA SV.val C)):w.ownsMap prog 9 QeO b C.length (mapA SV.val C):=by
 obtain⟨es,I,h1,F,h2,N⟩:=h;refine⟨es,I,h1,F,?_,N⟩;have:=congrArg Maps.size N;rw[Qkt]at this;simp[Maps.size,length_sorted]at this;omega
def Qu9(w:World)(F:Nat->Prop)(O:Nat)(s:Sl)(us:List UD):Prop:=
 ∃xs:List Value,xs.length=us.length/\w.ownsRow 0 1 1 (.slice s.a us.length s.c) us.length xs/\∀(i:Nat) (u:UD) (v:Value),us[i]? = some u->xs[i]? = some v->Qh2 w F O u v
structure QcK(H:Nat->Prop)(w:World)(O:Nat)(d:OD):Prop where
 blk:Blk w O 184 #[QaK d.T,.map d.mb,.slice d.s.a d.us.length d.s.c]
 map:Qbp w d.mb d.C
 row:Qu9 w (OvF H w O d) O d.s d.us
 vals:∀p∈d.C,p.1.size<=maxLen/\QkU w (OvF H w O d) p.2
 olds:∀u∈d.us,u.k.size<=maxLen/\∀o,u.old=some o->QkU w (OvF H w O d) o
 hist:Chain d.us d.Hs
 h0:d.Hs[0]? = some []
 last:d.Hs[d.us.length]? = some d.C
 sorted:Qay d.C
 tree:IsT w (OvF H w O d) d.T
 ok:OkR d.T
 ne:d.mb≠some O/\d.s.row≠some O/\∀b,d.mb=some b->d.s.row≠some b
 out:∀b,OvB O d b->¬H b
 some_:d.us≠[]->∃b,d.mb=some b
theorem Chain.short{N:List UD}{I:List (AL SV)}(h:Chain N I)(Z:I[0]? = some []):∀(i:Nat) (C:AL SV),I[i]? = some C->C.length<=i
 |0,C,hC=>by rw[Z]at hC;injection hC with hC;subst hC;exact ao _
 | i+1,C,hC=>by
   have hi:i<N.length:=by have:=(ae.1 hC).1;have:=h.len;omega
   obtain⟨C',s,h1,h2,h3,h4⟩:=h.step i _ (ac hi);rw[h4]at hC;injection hC with hC;subst hC;have:=h.short Z i C' h1;have:=Qsc (C:=C') (k:=(N[i]'hi).k) (v:=s);omega
section
variable{H : Nat -> Prop}{w w' : World}{O : Nat}{d : OD}
theorem QcK.few(h:QcK H w O d):d.C.length<=d.us.length:=h.hist.short h.h0 _ _ h.last
theorem QcK.Qko(h:QcK H w O d){b:Nat}(I:d.s.row=some b):b<w:=by
 obtain⟨xs,-,h2,-⟩:=h.row;exact(Qad h2 I).2
theorem QcK.Qbe(h:QcK H w O d){b:Nat}(I:OvB O d b):b<w:=by
 rcases I with rfl|I|I
 .exact h.blk.lt
 .exact h.map.lt I
 exact h.Qko I
theorem QcK.sb{G:Nat->Prop}(h:QcK H w O d)(k:Sb G w w')(hG:∀b,G b->H b):QcK H w' O d:=by
 have N:Agree (OvF H w O d) w w':=λb I=>k.block b I.1 λhh=>I.2.2 (hG b hh)
 have Z:∀i,OvF H w O d i->OvF H w' O d i:=λi hi=>⟨Nat.lt_of_lt_of_le hi.1 k.size,hi.2⟩
 have hn:∀b,OvB O d b->¬G b:=λb I hg=>h.out b I (hG b hg)
 obtain⟨xs,r1,r2,r3⟩:=h.row;exact⟨k.blk h.blk (hn O (.inl rfl)),h.map.heap λb I=>k.block b (h.map.lt I) (hn b (.inr (.inl I))),
  ⟨xs,r1,Qab r2 k.agree λb I=>⟨h.Qko I,hn b (.inr (.inr I))⟩,λi u v hu hv=>((r3 i u v hu hv).agree N).mono Z⟩,
  λp hp=>⟨(h.vals p hp).1,((h.vals p hp).2.agree N).mono Z⟩,λu hu=>⟨(h.olds u hu).1,λo ho=>(((h.olds u hu).2 o ho).agree N).mono Z⟩,
  h.hist,h.h0,h.last,h.sorted,(h.tree.agree N).mono Z,h.ok,h.ne,h.out,h.some_⟩
theorem QcK.ext(h:QcK H w O d)(k:Ext w w'):QcK H w' O d:=h.sb (k.sb λ_=>False) λ_ I=>I.elim
theorem QcK.more{G:Nat->Prop}(h:QcK H w O d)(hG:∀b,b<w.heap.size->G b->H b):QcK G w O d:=by
 have I:∀i,OvF H w O d i->OvF G w O d i:=λi hi=>⟨hi.1,hi.2.1,λN=>hi.2.2 (hG i hi.1 N)⟩
 obtain⟨xs,r1,r2,r3⟩:=h.row;exact⟨h.blk,h.map,⟨xs,r1,r2,λi u v hu hv=>(r3 i u v hu hv).mono I⟩,λp Z=>⟨(h.vals p Z).1,(h.vals p Z).2.mono I⟩,
  λu hu=>⟨(h.olds u hu).1,λo ho=>((h.olds u hu).2 o ho).mono I⟩,h.hist,h.h0,h.last,h.sorted,h.tree.mono I,h.ok,h.ne,λb hb N=>h.out b hb (hG b (h.Qbe hb) N),h.some_⟩
end
theorem Qe2:Keyed prog 9:=string_keyed underlying9
theorem QtW(k:ByteArray)(I:k.size<=maxLen):keyOf prog 9 (.string k)=some (Qfz k):=Go.WideMaps.keyOf_string_mk underlying9 I
structure Qok(H:Nat->Prop)(w:World)(O:Nat)(d d':OD)(w':World):Prop where
 at_:QcK H w' O d'
 sb:Sb (OvB O d) w w'
 new:∀b,OvB O d' b->OvB O d b\/w.heap.size<=b
abbrev QhY:SV:=⟨false,zeroV,Sl.none,Sl.none⟩
theorem Qgd(w:World):(zeroValue 192).run prog w=.ok QhY.val w:=kM
theorem Tryz.Qul:(prog.info? 1).map (λi=>(i.zero,i.size,i.bytes))=some (some Value.nilFunc,1,8):=kM
def Qiw(C:AL SV)(k:ByteArray):SV:=(QaZ C k).getD QhY
theorem Qlg{mb:Option Nat}(hm:Qbp W mb C){k:ByteArray}(Z:k.size<=maxLen) :
  (Instr.lookup 181 (.map mb) (.string k) true).run prog W=.ok (.tuple #[(Qiw C k).val,.bool (QaZ C k).isSome]) W:=by
 cases mb with
 | none=>
   have hC:C=[]:=hm;subst hC;rw[Maps.look_nil true Qe2 underlying181 (Qgd W) (QtW k Z)];rfl
 | some b=>
   obtain⟨v,ps,N,I⟩:=World.ownsMap.look_ok hm Qe2 underlying181 (Qgd W) (zd:=.held QhY.val) (zp:=[]) rfl (QtW k Z);rw[Qgh]at I;rw[N,Ql5];unfold Qiw;cases hg:QaZ C k with
   |none=>rw[hg]at I;rw[QeP I];rfl
   |some s=>rw[hg]at I;rw[QeP I];rfl
variable{a:Act}{Q:Exit->Act->World->Prop}{K:Act->World->Prop}
theorem Qj9{o:Oper}{m x v:Operand}(Z:o.op=Op.mapUpdate 181 m x v)
  {b:Nat} {k:ByteArray} {s:SV} (hm:a.eval m=.map (some b)) (hx:a.eval x=.string k) (hv:a.eval v=s.val) (N:Qbp w (some b) C) (hk:k.size<=maxLen) (hC:C.length<maxLen) (hs:Qay C)
  (hK:∀w',Qbp w' (some b) (QcX C k s)->Sb (λc=>c=b) w w'->K (a.put o.dst undef) w'):Oper.wp prog o a w K Q:=by
 obtain⟨w',I,r1,r2⟩:=World.ownsMap.store N Qe2 underlying181 hC (QtW k hk) (val:=s.val) (d:=.held s.val) (ps:=[]) rfl;unfold Oper.wp;simp[execOp,Z,hm,hx,hv,I,Result.andThen];rw[Qse SV.val hs]at r1;exact hK _ (QeV r1) (Sb.grown r2.grown)
theorem Qp1{o:Oper}{m x:Operand}(Z:o.op=Op.call { callee:=Callee.builtin Builtin.delete,args:=#[m,x],argTypes:=#[181,9] })
  {b:Nat} {k:ByteArray} (hm:a.eval m=.map (some b)) (hx:a.eval x=.string k) (N:Qbp w (some b) C) (hk:k.size<=maxLen)
  (hK:∀w',Qbp w' (some b) (Qjs C k)->Sb (λc=>c=b) w w'->K (a.put o.dst (.tuple #[])) w'):Oper.wp prog o a w K Q:=by
 obtain⟨w',I,r1,r2⟩:=World.ownsMap.drop N Qe2 underlying181 (QtW k hk) o.type;unfold Oper.wp;simp[execOp,Z,resolve,invoke,builtin,hm,hx,I,Result.andThen];rw[Qrg SV.val]at r1;exact hK _ (QeV r1) (Sb.grown r2.grown)
theorem Qbp.ne{b g:Nat}{t:TypeId}{cs:Array Value}(h:Qbp w (some b) C)(N:Blk w g t cs):g≠b:=by
 rintro rfl;obtain⟨es,I,h1,-⟩:=h;have h2:w.heap[g]? = some (.cells cs t (0,0)):=N;rw[h1]at h2;cases h2
theorem Qru{us:List UD}{I:List (AL SV)}(h:Chain us I)(Z:I[us.length]? = some C):∃N,I=N++[C]:=by
 have hn:=h.len;rcases List.eq_nil_or_concat I with rfl |⟨N,c,rfl⟩
 .simp at hn
 refine⟨N,?_⟩;rw[List.concat_eq_append]at *;rw[aj,bA]at hn;rw[aP oM,show us.length-N.length=0 by omega]at Z;injection Z with Z;rw[Z]
section
variable{H : Nat -> Prop}{w wc : World}{O : Nat}{d : OD}
theorem QcK.made(h:QcK H w O d)(hm:d.mb=none){b:Nat}(hb:w.heap.size<=b)(hH:∀b,H b->b<w.heap.size)(k:Sb (λc=>c=O) w wc)
  (N:Blk wc O 184 #[QaK d.T,.map (some b),.slice d.s.a d.us.length d.s.c]) (Z:wc.ownsMap prog 9 QeO b 0 (mapA SV.val [])):QcK H wc O { d with mb:=some b }:=by
 have hC:d.C=[]:=by have:=h.map;rw[hm]at this;exact this
 have ha:Agree (OvF H w O d) w wc:=λi hi=>k.block i hi.1 λe=>hi.2.1 (.inl e)
 have I:∀i,OvF H w O d i->OvF H wc O { d with mb:=some b } i:=λi hi=>⟨Nat.lt_of_lt_of_le hi.1 k.size,λe=>by
  rcases e with e|e|e
  .exact hi.2.1 (.inl e)
  ·have e:some b=some i:=e
   injection e with e;have:=hi.1;omega
  exact hi.2.1 (.inr (.inr e)),hi.2.2⟩
 obtain⟨xs,r1,r2,r3⟩:=h.row;refine⟨N,?_,⟨xs,r1,Qab r2 k.agree λi hi=>⟨h.Qko hi,λe=>h.ne.2.1 (by rw[<-e];exact hi)⟩,λi u v hu hv=>((r3 i u v hu hv).agree ha).mono I⟩,
  λp hp=>⟨(h.vals p hp).1,((h.vals p hp).2.agree ha).mono I⟩,λu hu=>⟨(h.olds u hu).1,λo ho=>(((h.olds u hu).2 o ho).agree ha).mono I⟩,
  h.hist,h.h0,h.last,h.sorted,(h.tree.agree ha).mono I,h.ok,⟨?_,h.ne.2.1,?_⟩,?_,λ_=>⟨b,rfl⟩⟩
 ·show wc.ownsMap _ _ _ _ _ _
  rw[hC];exact Z
 ·intro e
  have e:some b=some O:=e;injection e with e;have:=h.blk.lt;omega
 ·intro i hi hr
  have hi:some b=some i:=hi;injection hi with hi;have:=h.Qko hr;omega
 rintro i (hi|hi|hi) hh
 .exact h.out i (.inl hi) hh
 ·have hi:some b=some i:=hi
  injection hi with hi;have:=hH i hh;omega
 exact h.out i (.inr (.inr hi)) hh
structure Qou(H:Nat->Prop)(w:World)(O:Nat)(d:OD)(k:ByteArray)(sv:SV)(b:Nat)(wc:World):Prop where
 at_:QcK H wc O { d with mb:=some b }
 sb:Sb (OvB O d) w wc
 mb:d.mb=some b\/w.heap.size<=b
 big:w.heap.size+3<=wc.heap.size
 bo:Blk wc w.heap.size 151 #[.pointer (some ⟨O,0,none⟩)]
 bk:Blk wc (w.heap.size+1) 9 #[.string k]
 bs:Blk wc (w.heap.size+1+1) 192 sv.cells
 ok:QkU wc (OvF H wc O { d with mb:=some b }) sv
def Qq0(H:Nat->Prop)(O:Nat)(d:OD)(k:ByteArray)(sv:SV)(w:World)(e:Ending)(w':World):Prop:=
 (∃r,e=.returned r)/\∃mb s,Qok H w O d ⟨d.T,mb,s,d.us++[⟨k,QaZ d.C k⟩],d.Hs++[QcX d.C k sv],QcX d.C k sv⟩ w'
abbrev QkE(bw bd bo bk:Nat):Value:=.func (.func 211) #[] #[.pointer (some ⟨bw,0,none⟩),.pointer (some ⟨bd,0,none⟩),.pointer (some ⟨bo,0,none⟩),.pointer (some ⟨bk,0,none⟩)]
theorem step_end{k:ByteArray}{sv:SV}{b:Nat}{wm W w5 w7:World}(I:Qou H w O d k sv b wc)(d8:O<w.heap.size)(a5:∀i,d.s.row=some i->i<w.heap.size)(hH:∀b,H b->b<w.heap.size)(hk:k.size<=maxLen)(a4:Ext wc wm)
  {bw bd:Nat} (b9:wc.heap.size<=bw/\bw<wm.heap.size) (b8:wc.heap.size<=bd/\bd<wm.heap.size) (c4:Blk wm bd 192 (Qiw d.C k).cells) (c8:Blk wm bw 4 #[.bool (QaZ d.C k).isSome]) (hx:Ext wm W)
  {xs:List Value} (hl:xs.length=d.us.length) (c9:∀(i:Nat) (u:UD) (v:Value),d.us[i]? = some u->xs[i]? = some v->Qh2 wc (OvF H wc O { d with mb:=some b }) O u v) {s5:Sl}
  (a6:w5.ownsRow 0 1 1 (.slice s5.a (d.us.length+1) s5.c) (d.us.length+1) (xs++[QkE bw bd w.heap.size (w.heap.size+1)])) (a2:Wr W w5 d.s.row) (hs:s5.a=d.s.a\/s5.a=some ⟨W.heap.size,0,none⟩/\Wr W w5 none)
  (h7:Qbp w7 (some b) (QcX d.C k sv)) (a0:Sb (λc=>c=b) (w5.setCell ⟨O,2,none⟩ (.slice s5.a (d.us.length+1) s5.c)) w7) :
  Qok H w O d ⟨d.T,some b,s5,d.us++[⟨k,QaZ d.C k⟩],d.Hs++[QcX d.C k sv],QcX d.C k sv⟩ w7:=by
 have d3:=I.big;have d4:=a4.size;have d5:=hx.size;have d7:=a2.grown.size;have c7:=a0.size;rw[eP]at c7;have e0:b<wc.heap.size:=I.at_.map.lt rfl;have b7:b≠O:=λe=>I.at_.ne.1 (by rw[e])
 have c2:d.s.row≠some b:=λe=>I.at_.ne.2.2 b rfl e
 have c0:d.s.row≠some O:=I.at_.ne.2.1;have N:∀i,s5.row=some i->d.s.row=some i\/i=W.heap.size:=λi hi=>by
  rcases hs with h |⟨h,-⟩
  .left;rw[Sl.row,<-h];exact hi
  right;rw[Sl.row,h]at hi;simpa using hi.symm
 have b6:s5.row≠some O:=λe=>by
  rcases N O e with h|h
  .exact c0 h
  omega
 have b3:s5.row≠some b:=λe=>by
  rcases N b e with h|h
  .exact c2 h
  omega
 -- what turns between wc and the end
 have hW:Sb (λ_=>False) wc W:=(a4.trans hx).sb _;have h5:Sb (λc=>d.s.row=some c) W w5:=⟨a2.grown.os,a2.grown.tape,a2.grown.output,a2.grown.size,λi hi hn=>a2.grown.block i hi λe=>hn e.symm⟩;have h6:Sb (λc=>c=O) w5 (w5.setCell ⟨O,2,none⟩ (.slice s5.a (d.us.length+1) s5.c)):=(gu (λc=>c=O) w5).set (p:=⟨O,2,none⟩) (.inr rfl) _;have a3:Sb (OvB O { d with mb:=some b }) wc w7:=
  (((hW.mono λi _ h=>h.elim).trans (h5.mono λi _ h=>.inr (.inr h))).trans (h6.mono λi _ h=>.inl h)).trans (a0.mono λi _ h=>.inr (.inl (by rw[h])))
 have Z:∀{g t cs},Blk wm g t cs->g≠O->g≠b->d.s.row≠some g->Blk w7 g t cs:=λhb h1 h2 h3=>
  a0.blk (h6.blk (h5.blk (hb.ext hx) h3) h1) h2
 have a1:∀i,wc.heap.size<=i\/(i=w.heap.size\/i=w.heap.size+1)->i<wm.heap.size->i≠b->OvF H w7 O ⟨d.T,some b,s5,d.us++[⟨k,QaZ d.C k⟩],d.Hs++[QcX d.C k sv],QcX d.C k sv⟩ i:=λi hi d6 c6=>
  ⟨oM,λe=>by
    rcases e with e|e|e
    .omega
    ·have e:some b=some i:=e
     injection e with e;exact c6 e.symm
    rcases N i e with h|h
    .have:=a5 i h;omega
    omega,λhh=>by have:=hH i hh;omega⟩
 have b5:=I.bo;have b4:=I.bk;have c1:=Qbp.ne I.at_.map b5;have b0:=Qbp.ne I.at_.map b4;have ha:Agree (OvF H wc O { d with mb:=some b }) wc w7:=λi hi=>a3.block i hi.1 hi.2.1
 have hm:∀i,OvF H wc O { d with mb:=some b } i->OvF H w7 O ⟨d.T,some b,s5,d.us++[⟨k,QaZ d.C k⟩],d.Hs++[QcX d.C k sv],QcX d.C k sv⟩ i:=λi hi=>
  ⟨Nat.lt_of_lt_of_le hi.1 a3.size,λe=>by
    rcases e with e|e|e
    .exact hi.2.1 (.inl e)
    .exact hi.2.1 (.inr (.inl e))
    rcases N i e with h|h
    .exact hi.2.1 (.inr (.inr h))
    have:=hi.1;omega,hi.2.2⟩
 obtain⟨Ps,a9⟩:=Qru I.at_.hist I.at_.last;have a9:d.Hs=Ps++[d.C]:=a9;have a8:Chain d.us d.Hs:=I.at_.hist;have c3:d.Hs[d.us.length]? = some d.C:=I.at_.last;have d0:=a8.len;have a7:Qay d.C:=I.at_.sorted;refine⟨⟨?_,h7,⟨xs++[QkE bw bd w.heap.size (w.heap.size+1)],by simp[hl],?_,?_⟩,?_,?_,?_,?_,?_,Qbu a7 _ _,(I.at_.tree.agree ha).mono hm,I.at_.ok,⟨?_,b6,?_⟩,?_,λ_=>⟨b,rfl⟩⟩,?_,?_⟩
 ·have h8:Blk (w5.setCell ⟨O,2,none⟩ (.slice s5.a (d.us.length+1) s5.c)) O 184 #[QaK d.T,.map (some b),.slice s5.a (d.us.length+1) s5.c]:=(h5.blk ((I.at_.blk.ext a4).ext hx) c0).QbH 2 _
  have h9:=a0.blk h8 (λe=>b7 e.symm);show Blk w7 O _ #[_,_,.slice s5.a (d.us++[(⟨k,QaZ d.C k⟩:UD)]).length s5.c];rw[aj,bA];exact h9
 ·show w7.ownsRow 0 _ 1 (.slice s5.a (d.us++[(⟨k,QaZ d.C k⟩:UD)]).length s5.c) (d.us++[(⟨k,QaZ d.C k⟩:UD)]).length _
  rw[aj,bA];exact Qab (Qab a6 h6.agree λi hi=>⟨(Qad a6 hi).2,λe=>b6 (by rw[<-e];exact hi)⟩) a0.agree λi hi=>⟨by rw[eP];exact(Qad a6 hi).2,λe=>b3 (by rw[<-e];exact hi)⟩
 ·intro i u v hu hv
  rcases d9 i d.us.length with hi|hi
  ·have hu:(d.us++[(⟨k,QaZ d.C k⟩:UD)])[i]? = some u:=hu
   rw[bu hi]at hu;rw[bu oM]at hv;exact((c9 i u v hu hv).agree ha).mono hm
  have hu:(d.us++[(⟨k,QaZ d.C k⟩:UD)])[i]? = some u:=hu;rw[aP hi]at hu;rw[aP oM]at hv;have h0:i-d.us.length=0:=by have:=(ae.1 hu).1;simpa using this
  rw[h0]at hu;rw[show i-xs.length=0 by omega]at hv;have hu:(⟨k,QaZ d.C k⟩:UD)=u:=by simpa using hu
  have hv:QkE bw bd w.heap.size (w.heap.size+1)=v:=by simpa using hv
  subst hu hv;refine⟨bw,bd,w.heap.size,w.heap.size+1,Qiw d.C k,rfl,⟨a1 _ (.inl b9.1) b9.2 oM,a1 _ (.inl b8.1) b8.2 oM,a1 _ (.inr (.inl rfl)) oM c1,a1 _ (.inr (.inr rfl)) oM b0⟩,?_,?_,?_,?_,?_⟩
  .exact Z c8 oM oM λe=>by have:=a5 _ e;omega
  .exact Z c4 oM oM λe=>by have:=a5 _ e;omega
  ·intro x hx
   have hx:QaZ d.C k=some x:=hx;unfold Qiw;rw[hx];rfl
  .exact Z (b5.ext a4) oM c1 λe=>by have:=a5 _ e;omega
  exact Z (b4.ext a4) oM b0 λe=>by have:=a5 _ e;omega
 ·intro p hp
  rcases QiH hp with rfl|hp
  .exact ⟨hk,(I.ok.agree ha).mono hm⟩
  exact⟨(I.at_.vals p hp).1,((I.at_.vals p hp).2.agree ha).mono hm⟩
 ·intro u hu
  rcases aO.1 hu with hu|hu
  .exact ⟨(I.at_.olds u hu).1,λo ho=>(((I.at_.olds u hu).2 o ho).agree ha).mono hm⟩
  rw[aV.1 hu];exact⟨hk,λo ho=>((((I.at_.vals (k,o) (QeJ ho)).2).agree ha).mono hm)⟩
 ·show Chain (d.us++[(⟨k,QaZ d.C k⟩:UD)]) (d.Hs++[QcX d.C k sv])
  rw[a9]at a8 ⊢;exact a8.snoc a7 k sv
 ·have h0:d.Hs[0]? = some []:=I.at_.h0
  show(d.Hs++[QcX d.C k sv])[0]? = _;rw[bu oM];exact h0
 ·show (d.Hs++[QcX d.C k sv])[(d.us++[(⟨k,QaZ d.C k⟩:UD)]).length]? = some (QcX d.C k sv)
  rw[aj,bA,aP oM,show d.us.length+1-d.Hs.length=0 by omega];rfl
 ·intro e
  have e:some b=some O:=e;injection e with e;exact b7 e
 ·intro i hi
  have hi:some b=some i:=hi;injection hi with hi;subst hi;exact b3
 ·rintro i (hi | hi | hi) hh
  .exact I.at_.out i (.inl hi) hh
  .exact I.at_.out i (.inr (.inl hi)) hh
  rcases N i hi with h|h
  .exact I.at_.out i (.inr (.inr h)) hh
  have:=hH i hh;omega
 ·refine I.sb.comp a3 fun i hi h=>?_
  rcases h with h|h|h
  .exact .inl h
  ·have h:some b=some i:=h
   injection h with h;subst h;rcases I.mb with h|h
   .exact .inr (.inl h)
   omega
  exact .inr (.inr h)
 rintro i (hi|hi|hi)
 .exact .inl (.inl hi)
 ·have hi:some b=some i:=hi
  injection hi with hi;subst hi;rcases I.mb with h|h
  .exact .inl (.inr (.inl h))
  exact .inr h
 rcases N i hi with h|h
 .exact .inl (.inr (.inr h))
 right;omega
end
abbrev od0(T:RT):OD:=⟨T,none,Sl.none,[],[[]],[]⟩
theorem QcK.fresh(I:Blk w O 184 #[QaK T,.map none,.slice none 0 0])(hT:IsT w F T)(ok:OkR T)(hF:∀b,F b->b<w.heap.size/\¬H b/\b≠O)(Z:¬H O):QcK H w O (od0 T):=
 ⟨I,rfl,⟨[],rfl,eS _ _ _ _,λi u v hu=>by simp at hu⟩,λp N=>(by cases N),λu hu=>(by cases hu),Chain.nil [],rfl,rfl,List.Pairwise.nil,
   hT.mono λb I=>⟨(hF b I).1,⟨λh=>by
    rcases h with h|h|h
    .exact (hF b I).2.2 h
    .cases h
    (cases h),(hF b I).2.1⟩⟩,ok,⟨oO,by simp[Sl.row],λb I=>(by cases I)⟩,λb I=>by
   rcases I with rfl|h|h
   .exact Z
   .cases h
   (cases h),λh=>absurd rfl h⟩
theorem Qq5(hT:IsT w F T)(ok:OkR T)(hF:∀b,F b->b<w.heap.size/\¬H b)(hH:∀b,H b->b<w.heap.size) :
  Calls prog 94 #[Qao T] w λe w'=>∃O,e=.returned (.pointer (some ⟨O,0,none⟩))/\w.heap.size<=O/\QcK H w' O (od0 T)/\Ext w w':=by
 obtain⟨p,hp⟩:=Qaj T;rw[Qao,hp];obtain⟨HT,Z,HH,HP⟩:=Ye hT hF hH hp;clear hT hF hH hp;go_in;go_wp2_with fail;generalize a0:World.alloc _ _=W0;obtain⟨I,a2,-,a1⟩:=Qas w _ _ _ _ W0 a0;refine eN (v:=.pointer (some ⟨w+1,0,none⟩)) (by simp[results,results94,go_sem]) rfl ?_;refine⟨w+1,rfl,cG _,QcK.fresh (by rw[HP.o];exact a1) (HT.o.agree (I.agree λb N=>(Z.o b N).1)) ok (λb N=>⟨by have:=(Z.o b N).1;omega,(Z.o b N).2,by have:=(Z.o b N).1;omega⟩) (λh=>by have:=HH.o _ h;omega),I⟩
variable{d:OD}
theorem QdB(h:QcK H w O d):Calls prog 164 #[.pointer (some O)] w λe w'=>e=.returned (.int .i64 (d.us.length:Int))/\Ext w w':=by
 have I:w.cell? ⟨O,2,none⟩=some (.slice d.s.a d.us.length d.s.c):=h.blk.cell 2;clear h;go_in;go_wp2_with fail;go_ret;exact⟨rfl,gh w⟩
abbrev OD.now(d:OD)(k:ByteArray):Option Val:=QkO (Qaa d.T) (Qhe d.C) k
theorem Qmo{k:ByteArray}(h:QaZ d.C k=none):d.now k=Qaq (Qaa d.T) k:=by
 unfold OD.now QkO;rw[QdU,h];rfl
theorem Qmp{k:ByteArray}{s:SV}(h:QaZ d.C k=some s):d.now k=s.opt:=by
 unfold OD.now QkO;rw[QdU,h];rfl
theorem Qtz{s:SV}(h:QkU w F s):s.opt.getD zeroV=s.v/\s.opt.isSome=s.has:=by
 unfold SV.opt;cases I:s.has with
 |true=>simp
 |false=>simp[h.2 I]
theorem QsA(h:QcK H w O d)(hl:(Qaa d.T).length<=1000000){k:ByteArray}(hk:k.size<=maxLen) :
  Calls prog 196 #[.pointer (some O),k] w (QbC (d.now k) w):=by
 have lO:=h.blk.lt;have c1:w.cell? ⟨O,1,none⟩=some (.map d.mb):=h.blk.cell 1;have c0:w.cell? O=some (QaK d.T):=h.blk.cell 0;have a6:∀cs t,(Instr.lookup 181 (.map d.mb) (.string k) true).run prog (w.alloc (.cells cs t))=.ok (.tuple #[(Qiw d.C k).val,.bool (QaZ d.C k).isSome]) (w.alloc (.cells cs t)):=λcs t=>
  Qlg (h.map.heap λb I=>eY _ _ _ (h.map.lt I)) hk
 cases hg:QaZ d.C k with
 | none=>
   rw[Qmo hg];simp only[hg,Qiw,Option.getD_none,Option.isSome_none]at a6;have hF:∀b,OvF H w O d b->b<w.heap.size:=λb I=>I.1
   have a8:=λW (hW:Ext w W)=>Qg2 (w:=W) (λb I=>ab (hF b I) hW.size) (h.tree.agree (hW.agree hF)) h.ok hl k
   generalize Qaq (Qaa d.T) k=N at *;obtain⟨p,hp⟩:=Qaj d.T;rw[hp]at c0;simp only[Qao,hp]at a8;have b7:=hY a8;clear a8 h hF hg hp;go_in;go_wp2_with fail;generalize a3:World.alloc _ _=W0;obtain⟨a0,a1,Z,a5⟩:=Qas w _ _ _ _ W0 a3;obtain⟨a7,a9,HZ⟩:=Yc a0 Z a1;clear a3 Z a5 a1 a6;refine(b7.o W0 a0).mono ?_;rintro e w1 ⟨sl,so,rfl,b3,a4⟩;have I:=a9.o.ext b3;obtain⟨q0,q1,q2,q3,q4,q5⟩:=I.c6;have f2:=I.frozen;have lb:=I.lt;obtain⟨c4,b9⟩:=Yb b3 a4;clear I b3 a4 a0 b7;go_wp2_with fail;refine eN (v:=.tuple #[QbV (N.getD zeroV) sl so,.bool N.isSome]) (by simp[results,results196,go_sem,q0,q1,q2,q3,q4,q5]) rfl ?_;exact Qel (a7.o.trans c4.o) (b:=w.heap.size) (lo:=W0.heap.size) oM (by rw[HZ.o];omega) b9.o
 | some s=>
   rw[Qmp hg];have hs:=(h.vals (k,s) (QeJ hg)).2;have hv:s.opt.getD zeroV=s.v/\s.opt.isSome=s.has:=Qtz hs;simp only[hg,Qiw,Option.getD_some,Option.isSome_some]at a6;have b6:=λW (hW:Ext w W)=>QdS _ s.v (ao _) W s.sl s.so ((hs.1.agree (hW.agree λb I=>I.1)).mono λb I=>ab I.1 hW.size)
   obtain⟨N,b5⟩:∃N,s.opt=N:=⟨_,rfl⟩;rw[b5]at hv ⊢;obtain⟨c7,v,sl,so⟩:=s;obtain⟨rfl,rfl⟩:=hv;have b8:=hY b6;clear b6 h hg hs b5;go_in;go_wp2_with fail;generalize a3:World.alloc _ _=W0;obtain⟨a0,a1,Z,a5⟩:=Qas w _ _ _ _ W0 a3;have a2:=hY (show ∀W,St (λb=>b=w.heap.size) W0 W->W.cell? ⟨w.heap.size+1,0,none⟩=some (.bool N.isSome)/\W.cell? ⟨w.heap.size+1,1,none⟩=some (.int .i64 (N.getD zeroV).kind)/\W.cell? ⟨w.heap.size+1,2,none⟩=some (.bool (N.getD zeroV).b)/\W.cell? ⟨w.heap.size+1,3,none⟩=some (.int .i64 (N.getD zeroV).i)/\W.cell? ⟨w.heap.size+1,4,none⟩=some (.string (N.getD zeroV).t)/\W.cell? ⟨w.heap.size+1,5,none⟩=some (.slice sl.a (N.getD zeroV).l.length sl.c)/\W.cell? ⟨w.heap.size+1,6,none⟩=some (.slice so.a (N.getD zeroV).ok.length so.c)from
    λW hW=>by
     have I:=hW.blk a5 oM;exact⟨I.cell 0,I.cell 1,I.cell 2,I.cell 3,I.cell 4,I.cell 5,I.cell 6⟩)
   obtain⟨a7,a9,HZ⟩:=Yc a0 Z a1;have l0:=Z.lt;clear a3 a0 Z a5 a1 a6;refine eO (S:=(λw'=>St (λb=>b=w.heap.size) W0 w')) kM (((gB _ W0).drew)) (λhHeld=>?_);refine Qaf 0 (some 21) a2 hHeld ?_;refine Qaf 1 (some 22) a2 hHeld ?_;refine Qaf 3 (some 24) a2 hHeld ?_;refine Qaf 4 (some 25) a2 hHeld ?_;refine Qac (i:=2) kM rfl (by rfl) (λK hK=>?_);go_simp
   (refine(b8.o _ (a7.o.drew)).mono ?_;rintro e w2 ⟨c3,c2,rfl,b4,a4⟩;have b0:=(a9.o.ext ((gh W0).drew)).ext b4;obtain⟨q0,q1,q2,q3,q4,q5⟩:=b0.c6;have f2:=b0.frozen;have lb:=b0.lt)
   refine hK.out _ _ (hHeld.ext b4) (λhHeld=>?_);clear hK K
   try go_frame
   refine Qac (i:=5) kM rfl (by rfl) (λK hK=>?_);go_simp
   skip
   refine hK.out _ _ (hHeld.QdE (.inr rfl) 0 _ _ _) (λhHeld=>?_);clear hK K
   try go_frame
   refine Qaf 6 (some 5) a2 hHeld ?_;refine eV kM ?_ _;go_wp2_with fail;refine eN (v:=.tuple #[QbV (N.getD zeroV) c3 c2,.bool N.isSome]) (by simp[results,results196,go_sem,q0,q1,q2,q3,q4,q5]) rfl ?_;exact Qel ((a7.o.drew).trans b4) (b:=w.heap.size) (lo:=W0.heap.size) oM (by rw[HZ.o];omega) a4
def QuG(R:Act->World->Prop):Exit->Act->World->Prop
 |.normal,a,w=>R a w
 |_,_,_=>False
theorem QiN{R:Act->World->Prop}(h:R a w):QuG R .normal a w:=h
def QsH(tm:Array Value):List (Nat × Value)->Array Value
 |[]=>tm
 |(i,v)::l=>QsH (tm.setIfInBounds i v) l
theorem QmL{c:Code}{α:Type}(Z:World->α->Prop)(ds:List Nat)(I:α->List (Nat × Value))
  (h1:c.wp P (QuG λN w'=>∃x,Z w' x/\N.defers=a.defers/\N.tmps=QsH a.tmps ((ds.map λd=>(d,N.tmps.getD d undef))++I x)) a w)
  (h2:∀(w':World) (x:α) (vs:Nat->Value),Z w' x->Q .normal { tmps:=QsH a.tmps ((ds.map λd=>(d,vs d))++I x),defers:=a.defers } w'):c.wp P Q a w:=
 wp_mono h1 λe N w' h=>by
  cases e with
  | normal=>
    obtain⟨x,hr,hd,ht⟩:=h;have:=h2 w' x (λd=>N.tmps.getD d undef) hr;rw[<-ht,<-hd]at this;exact this
  |_=>exact h.elim
theorem QmH(w:World)(t0 Z:TypeId)(N I:Array Value):∀W,((w.alloc (.cells N t0)).alloc (.cells I Z)).drew=W->
  Ext w W/\W.heap.size=w.heap.size+2/\Blk W w.heap.size t0 N/\Blk W (w.heap.size+1) Z I:=by
 rintro W rfl;obtain⟨hx,hz,h0,h1⟩:=Qas w t0 Z N I _ rfl;exact⟨hx.drew,hz,h0,h1⟩
theorem QqB{t t0 t1 t2:TypeId}{cs N I Z:Array Value}(hb:Blk w O t cs):∀W,((((w.setCell ⟨O,1,none⟩ (.map (some (w.heap.size+1+1+1)))).alloc (.cells N t0)).alloc (.cells I t1)).alloc (.cells Z t2)).alloc (.map #[] 0)=W->
  Sb (λc=>c=O) w W/\w.heap.size+3<=W.heap.size/\Blk W O t (cs.setIfInBounds 1 (.map (some (w.heap.size+1+1+1))))/\Blk W w.heap.size t0 N/\Blk W (w.heap.size+1) t1 I/\Blk W (w.heap.size+1+1) t2 Z/\W.ownsMap prog 9 QeO (w.heap.size+1+1+1) 0 (mapA SV.val []):=by
 rintro W rfl;have hz:(w.setCell ⟨O,1,none⟩ (.map (some (w.heap.size+1+1+1)))).heap.size=w.heap.size:=eP _ _ _;have a0:Sb (λc=>c=O) w (w.setCell ⟨O,1,none⟩ (.map (some (w.heap.size+1+1+1)))):=(gu (λc=>c=O) w).set (p:=⟨O,1,none⟩) (.inr rfl) _;have a1:=hb.QbH 1 (.map (some (w.heap.size+1+1+1)));generalize w.setCell ⟨O,1,none⟩ (.map (some (w.heap.size+1+1+1)))=W0 at *;obtain⟨hx,a2,h0,h1,h2⟩:=Qal W0 t0 t1 t2 N I Z _ rfl;rw[hz]at h0 h1 h2 a2;generalize ((W0.alloc (.cells N t0)).alloc (.cells I t1)).alloc (.cells Z t2)=W3 at *;have hm:=World.ownsMap_made W3 prog 9 QeO;rw[show W3.heap.size=w.heap.size+1+1+1 by omega]at hm;exact⟨(a0.trans (hx.sb _)).trans (Sb.made (World.grownBy_alloc _ _ _)),by simp;omega,(a1.ext hx).alloc _,h0.alloc _,h1.alloc _,h2.alloc _,hm⟩
variable{sv:SV}
theorem QmF(h:QcK H w O d)(hH:∀b,H b->b<w.heap.size)(hn:d.us.length<=1000000){k:ByteArray}(hk:k.size<=maxLen)(g0:QkU w (OvF H w O d) sv) :
  Calls prog 195 #[.pointer (some O),k,sv.val] w (Qq0 H O d k sv w):=by
 obtain⟨i0,hi,d5,i9,i6⟩:=eR Tryz.Qul;have k8:=@run_makeMap prog;have k9:∀(w:World) (r:Option Nat),(binOp .eql 181 (.map r) (.map none)).run prog w=.ok (.bool r.isNone) w:=λw r=>run_eql_map_nil w _ _ _ r underlying181
 have c1:w.cell? ⟨O,1,none⟩=some (.map d.mb):=h.blk.cell 1;have f1:=h.blk.frozen 1;have lO:=h.blk.lt;have i3:∀i,d.s.row=some i->i<w.heap.size:=λi hi=>h.Qko hi
 obtain⟨b0,i4,g9,b4⟩:=Ye h hH g0 i3;clear h hH g0 i3;obtain⟨c6,v,sl,so⟩:=sv;show Calls _ _ #[_,_,.agg #[c6,v.kind,.bool v.b,v.i,v.t,.slice sl.a v.l.length sl.c,.slice so.a v.ok.length so.c]] _ _;have l1:O<w.heap.size+1:=oM
 have l2:O<w.heap.size+1+1:=oM
 go_in;go_upto_if 12 with fail;go_cut [] (λwc=>∃b,Qou H w O d k ⟨c6,v,sl,so⟩ b wc)
 case first=>
  obtain⟨mb,e0⟩:∃mb,d.mb=mb:=⟨_,rfl⟩;rw[e0]at c1 ⊢;have e6:=hY e0;clear e0;rcases mb with _|b
  ·go_wp2_with fail
   generalize b3:World.alloc _ _=W0;obtain⟨c0,d5,j6,e3,a5,a6,a3⟩:=QqB b0.o.blk W0 b3;clear b3;go_meet;have e7:=b0.o.made e6.o (b:=w.heap.size+1+1+1) oM i4.o c0 j6 a3;refine⟨_,e7,c0.mono λi _ h=>.inl h,.inr oM,d5,e3,a5,a6,?_⟩;refine(g9.o.agree (λi hi=>c0.block i hi.1 λe=>hi.2.1 (.inl e))).mono λi hi=>⟨Nat.lt_of_lt_of_le hi.1 c0.size,λe=>?_,hi.2.2⟩
   rcases e with e|e|e
   .exact hi.2.1 (.inl e)
   ·have e:some (w.heap.size+1+1+1)=some i:=e
    injection e with e;have:=hi.1;omega
   exact hi.2.1 (.inr (.inr e))
  go_wp2_with fail;generalize b3:World.alloc _ _=W0;obtain⟨b7,k4,e3,a5,a6⟩:=Qal w _ _ _ _ _ _ W0 b3;clear b3;go_meet;have e7:=b0.o.ext b7;have hd:d={ d with mb:=some b }:=by rw[<-e6.o]
  refine⟨b,by rw[<-hd];exact e7,b7.sb _,.inl e6.o,oM,e3,a5,a6,?_⟩;rw[<-hd];exact(g9.o.agree (b7.agree λb hb=>hb.1)).mono λi hi=>⟨Nat.lt_of_lt_of_le hi.1 b7.size,hi.2⟩
 obtain⟨b,hM⟩:=hcut;have d8:∀W,Ext wc W->(Instr.lookup 181 (.map (some b)) (.string k) true).run prog W=.ok (.tuple #[(Qiw d.C k).val,.bool (QaZ d.C k).isSome]) W:=λW hW=>
  Qlg (hM.at_.ext hW).map hk
 obtain⟨o,ho⟩:∃o,Qiw d.C k=o:=⟨_,rfl⟩;obtain⟨g,hg⟩:∃g,(QaZ d.C k).isSome=g:=⟨_,rfl⟩;rw[ho,hg]at d8;obtain⟨oh,ov,b6,b9⟩:=o;obtain⟨HO,HG⟩:=Yb ho hg;have i8:O<wc.heap.size:=hM.at_.blk.lt;have k3:=hM.big;have HM:=hY hM;have I:=hY (show ∀W,Ext wc W->W.cell? w=some (.pointer (some O))/\W.cell? ⟨O,1,none⟩=some (.map (some b))/\W.cell? ⟨w.heap.size+1,0,none⟩=some (.string k)/\
   (Instr.lookup 181 (.map (some b)) (.string k) true).run prog W=.ok (.tuple #[.agg #[oh,ov.kind,.bool ov.b,ov.i,ov.t,.slice b6.a ov.l.length b6.c,.slice b9.a ov.ok.length b9.c],.bool g]) W from
  λW hW=>⟨(hM.bo.ext hW).cell 0,((hM.at_.ext hW).blk).cell 1,(hM.bk.ext hW).cell 0,d8 W hW⟩)
 clear hM d8 ho hg c1 f1 l1 l2;go_wp2_with fail;refine QmL (α:=Nat × Nat) (λw' x=>Ext wc w'/\(wc.heap.size<=x.1/\x.1<w'.heap.size)/\(wc.heap.size<=x.2/\x.2<w'.heap.size)/\Blk w' x.1 192 #[.bool oh,.int .i64 ov.kind,.bool ov.b,.int .i64 ov.i,.string ov.t,.slice b6.a ov.l.length b6.c,.slice b9.a ov.ok.length b9.c]/\Blk w' x.2 4 #[.bool g]) [17,18,19,20,21,22,23,24,25] (λx=>[(6,.pointer (some x.1)),(7,.pointer (some x.2))]) ?h1 ?h2
 case h1=>
  refine eO (S:=(λw'=>Ext wc w')) kM (((gh wc).drew)) (λhHeld=>?_);refine Qaf 0 (some 18) I hHeld ?_;refine Qaf 1 (some 19) I hHeld ?_;refine Qaf 2 (some 20) I hHeld ?_;refine Qaf 3 (some 21) I hHeld ?_;refine Qaf 4 (some 22) I hHeld ?_;refine Qaf 5 (some 23) I hHeld ?_;refine Qaf 6 (some 17) I hHeld ?_;refine Qaf 7 (some 24) I hHeld ?_;refine Qaf 8 (some 25) I hHeld ?_;refine Qix (i:=9) (j:=10) kM rfl rfl (by rfl) (by rfl) (λK N=>?_) (λK N=>?_)
  ·go_simp
   skip
   refine N.out _ _ ((by first|exact(((gh _).drew).alloc _ _).alloc _ _|exact((gh _).drew).alloc _ _)) (λhHeld=>?_);clear N K
   try go_frame
   refine Qac (i:=10) kM rfl (by rfl) (λK N=>?_);go_simp
   skip
   refine N.out _ _ ((by first|exact(((gh _).drew).alloc _ _).alloc _ _|exact((gh _).drew).alloc _ _)) (λhHeld=>?_);clear N K
   try go_frame
   refine Qac (i:=11) kM rfl (by rfl) (λK N=>?_);go_simp
   skip
   refine N.out _ _ ((by first|exact(((gh _).drew).alloc _ _).alloc _ _|exact(((gh _).alloc _ _).alloc _ _).drew)) (λhHeld=>?_);clear N K
   try go_frame
   refine Qac (i:=12) kM rfl (by rfl) (λK N=>?_);go_simp
   skip
   refine N.out _ _ ((by first|exact(((gh _).drew).alloc _ _).alloc _ _|exact(((gh _).alloc _ _).alloc _ _).drew)) (λhHeld=>?_);clear N K
   try go_frame
   refine eV kM ?_ _;generalize f4:World.drew _=Z;obtain⟨a0,j0,a5,a6⟩:=QmH wc _ _ _ _ Z f4;refine QiN ⟨(wc.heap.size,wc.heap.size+1),⟨a0,⟨Nat.le_refl _,by show wc.heap.size<_;omega⟩,⟨Nat.le_succ _,by show wc.heap.size+1<_;omega⟩,a5,a6⟩,kM,?_⟩;simp only[QsH,List.map_cons,List.map_nil,List.cons_append,List.nil_append,List.setIfInBounds_toArray,List.set_cons_zero,List.set_cons_succ]
   kernel_rfl
  go_simp
  skip
  refine N.out _ _ ((by first|exact(((gh _).drew).alloc _ _).alloc _ _|exact((gh _).drew).alloc _ _)) (λhHeld=>?_);clear N K
  try go_frame
  refine Qac (i:=9) kM rfl (by rfl) (λK N=>?_);go_simp
  skip
  refine N.out _ _ ((by first|exact(((gh _).drew).alloc _ _).alloc _ _|exact((gh _).drew).alloc _ _)) (λhHeld=>?_);clear N K
  try go_frame
  refine Qac (i:=11) kM rfl (by rfl) (λK N=>?_);go_simp
  skip
  refine N.out _ _ ((by first|exact(((gh _).drew).alloc _ _).alloc _ _|exact(((gh _).alloc _ _).alloc _ _).drew)) (λhHeld=>?_);clear N K
  try go_frame
  refine Qac (i:=12) kM rfl (by rfl) (λK N=>?_);go_simp
  skip
  refine N.out _ _ ((by first|exact(((gh _).drew).alloc _ _).alloc _ _|exact(((gh _).alloc _ _).alloc _ _).drew)) (λhHeld=>?_);clear N K
  try go_frame
  refine eV kM ?_ _;generalize f4:World.drew _=Z;obtain⟨a0,j0,a5,a6⟩:=QmH wc _ _ _ _ Z f4;refine QiN ⟨(wc.heap.size+1,wc.heap.size),⟨a0,⟨Nat.le_succ _,by show wc.heap.size+1<_;omega⟩,⟨Nat.le_refl _,by show wc.heap.size<_;omega⟩,a6,a5⟩,kM,?_⟩;simp only[QsH,List.map_cons,List.map_nil,List.cons_append,List.nil_append,List.setIfInBounds_toArray,List.set_cons_zero,List.set_cons_succ]
  kernel_rfl
 rintro Z ⟨bd,bw⟩ uu ⟨a0,f3,d6,d0,f7⟩;simp only[QsH,List.map_cons,List.map_nil,List.cons_append,List.nil_append,List.setIfInBounds_toArray,List.set_cons_zero,List.set_cons_succ];dsimp only at f3 d6 d0 f7;have b8:=HM.o.at_.blk.ext a0;have c2:Z.cell? ⟨O,2,none⟩=some (.slice d.s.a d.us.length d.s.c):=b8.cell 2;have f2:=b8.frozen 2;have e1:=b8.lt;have d4:=HM.o.bo.ext a0;have c3:Z.cell? w=some (.pointer (some O)):=d4.cell 0;have l3:=d4.lt;obtain⟨xs,hl,a3,g8⟩:=HM.o.at_.row;obtain⟨HL,j5,j1⟩:=Yc (show xs.length=d.us.length from hl) g8 (show ∀W,Ext Z W->W.ownsRow 0 1 1 (.slice d.s.a d.us.length d.s.c) d.us.length xs fromλW hW=>Qab a3 ((a0.trans hW).agree λb (hb:b<wc.heap.size)=>hb) λb hb=>(Qad a3 hb).2);have f9:d.s.row≠some O:=HM.o.at_.ne.2.1;have i7:d.s.row≠some w.heap.size:=λe=>by have:=b4.o _ e;omega
 have c7:∀u∈[QkE bw bd w.heap.size (w.heap.size+1)],u.oneCell'=true:=by simp[Value.oneCell']
 have g5:d.us.length+1<=maxLen:=by unfold maxLen;omega
 have i2:(d.us.length+1)*8<=140737488355328:=oM
 obtain⟨g3,j7,i5,j8,j3⟩:=Yf a0 d0 f7 d6 f3;clear d0 f7 d6 f3 b8 d4 hl g8 a3 a0 I;go_wp2_with fail;refine QmL (α:=Sl × World × World) (λw' x=>Ext Z x.2.1/\x.2.2.ownsRow 0 1 1 (.slice x.1.a (d.us.length+1) x.1.c) (d.us.length+1) (xs++[QkE bw bd w.heap.size (w.heap.size+1)])/\Wr x.2.1 x.2.2 d.s.row/\(x.1.a=d.s.a\/x.1.a=some ⟨x.2.1.heap.size,0,none⟩/\Wr x.2.1 x.2.2 none)/\w'=x.2.2.setCell ⟨O,2,none⟩ (.slice x.1.a (d.us.length+1) x.1.c)) [26,27,28,29,30,31,32,33,34,35] (λ_=>[]) ?g1 ?g2
 case g1=>
  go_region_law (refine Qdi _ rfl (.tmp 30) (.tmp 32) 182 rfl 0 1 i0 _ 1 8 underlying182 hi d5 i9 i6 rfl oN d.s d.us.length xs (by rfl) (j1.o _ (by first|exact((gh Z).drew).alloc _ _|exact((gh Z).alloc _ _).drew)) (λb=>b=Z.heap.size) ⟨some Z,1⟩ 1 [QkE bw bd w.heap.size (w.heap.size+1)] (by rfl) (gA (gm _ _ _) oN rfl) c7 g5 i2 (aA _) ?_;intro s5 w5 a9 a2 a8;have e8:=a2.cell0 (w:=Z) (o:=2) (by first|exact((gh Z).drew).alloc _ _|exact((gh Z).alloc _ _).drew) f9 e1;have k6:=e8.1.trans c2;have k5:=e8.2;have g4:=a2.cell0 (w:=Z) (o:=0) (by first|exact((gh Z).drew).alloc _ _|exact((gh Z).alloc _ _).drew) i7 l3;have k7:=g4.1.trans c3;have f5:w5.frozen? ⟨O,2,none⟩=false:=(a2.fz _ _).trans (((by first|exact((gh Z).drew).alloc _ _|exact((gh Z).alloc _ _).drew:Ext Z _).frozen (o:=2) e1).trans f2);have f0:=hY a9;have d7:=hY a2;have c9:=hY a8;clear a9 a2 a8 e8 g4)
  all_goals
   refine QiN ⟨(s5,_,w5),⟨by first|exact((gh Z).drew).alloc _ _|exact((gh Z).alloc _ _).drew,f0.o,d7.o,c9.o,rfl⟩,kM,?_⟩;simp only[QsH,List.map_cons,List.map_nil,List.append_nil,List.cons_append,List.nil_append,List.setIfInBounds_toArray,List.set_cons_zero,List.set_cons_succ]
   kernel_rfl
 rintro w6 ⟨s5,W5,w5⟩ vv ⟨c4,e2,a1,a8,rfl⟩;simp only[QsH,List.map_cons,List.map_nil,List.append_nil,List.cons_append,List.nil_append,List.setIfInBounds_toArray,List.set_cons_zero,List.set_cons_succ];dsimp only at c4 e2 a1 a8;have b5:Ext wc W5:=g3.o.trans c4;have a4:Sb (λc=>c=O\/d.s.row=some c) wc (w5.setCell ⟨O,2,none⟩ (.slice s5.a (d.us.length+1) s5.c)):=
  ((b5.sb _).trans ⟨a1.grown.os,a1.grown.tape,a1.grown.output,a1.grown.size,λi hi hn=>a1.grown.block i hi λe=>hn (.inr e.symm)⟩).trans ((gu _ w5).set (p:=⟨O,2,none⟩) (.inr (.inl rfl)) _)
 have c8:Blk w5 O 184 #[QaK d.T,.map (some b),.slice d.s.a d.us.length d.s.c]:=(a1.agree (F:=λc=>c=O) (λi hi=>by rw[hi];exact ab i8 b5.size) (λi hi e=>f9 (by rw[hi,e])) O rfl).trans (HM.o.at_.blk.ext b5);have f6:=c8.QbH 2 (.slice s5.a (d.us.length+1) s5.c);have g7:¬O=b:=λe=>HM.o.at_.ne.1 (by rw[e])
 have n0:=Qbp.ne HM.o.at_.map HM.o.bo;have n1:=Qbp.ne HM.o.at_.map HM.o.bk;have n2:=Qbp.ne HM.o.at_.map HM.o.bs;have k0:=a4.blk HM.o.bo (λe=>by
  rcases e with e|e
  .omega
  have:=b4.o _ e;omega)
 have k1:=a4.blk HM.o.bk (λe=>by
  rcases e with e|e
  .omega
  have:=b4.o _ e;omega)
 have k2:=a4.blk HM.o.bs (λe=>by
  rcases e with e|e
  .omega
  have:=b4.o _ e;omega)
 have a7:Qbp (w5.setCell ⟨O,2,none⟩ (.slice s5.a (d.us.length+1) s5.c)) (some b) d.C:=HM.o.at_.map.heap λi hi=>by
  injection hi with hi;subst hi;exact a4.block b (HM.o.at_.map.lt rfl) λe=>by
   rcases e with e|e
   .exact g7 e.symm
   exact HM.o.at_.ne.2.2 b rfl e
 obtain⟨j2,f0,d7,c9⟩:=Ye c4 e2 a1 a8;obtain⟨W6,d3⟩:∃W6,w5.setCell ⟨O,2,none⟩ (.slice s5.a (d.us.length+1) s5.c)=W6:=⟨_,rfl⟩;rw[d3]at f6 k0 k1 k2 a7 ⊢;obtain⟨j4,g6⟩:=Yb d3 a7;have I:=hY (show ∀W,Sb (λc=>c=b) W6 W->W.cell? w=some (.pointer (some O))/\W.cell? ⟨O,1,none⟩=some (.map (some b))/\W.cell? ⟨w.heap.size+1,0,none⟩=some (.string k)/\W.cell? ⟨w.heap.size+1+1,0,none⟩=some (.bool c6)/\W.cell? ⟨w.heap.size+1+1,1,none⟩=some (.int .i64 v.kind)/\W.cell? ⟨w.heap.size+1+1,2,none⟩=some (.bool v.b)/\W.cell? ⟨w.heap.size+1+1,3,none⟩=some (.int .i64 v.i)/\W.cell? ⟨w.heap.size+1+1,4,none⟩=some (.string v.t)/\W.cell? ⟨w.heap.size+1+1,5,none⟩=some (.slice sl.a v.l.length sl.c)/\W.cell? ⟨w.heap.size+1+1,6,none⟩=some (.slice so.a v.ok.length so.c)from
  λW hW=>⟨(hW.blk k0 n0).cell 0,(hW.blk f6 g7).cell 1,(hW.blk k1 n1).cell 0,(hW.blk k2 n2).cell 0,(hW.blk k2 n2).cell 1,(hW.blk k2 n2).cell 2,(hW.blk k2 n2).cell 3,(hW.blk k2 n2).cell 4,(hW.blk k2 n2).cell 5,(hW.blk k2 n2).cell 6⟩)
 have j9:d.C.length<maxLen:=by have:=b0.o.few;unfold maxLen;omega
 clear b5 a4 c8 f6 n0 n1 n2 k0 k1 k2 a7 c4 e2 a1 a8 d3 c2 f2 e1 c3 l3 c7 g5 i2;go_wp2_with fail;refine eO (S:=(λw'=>Sb (λc=>c=b) W6 w')) kM (((gu _ W6).drew)) (λhHeld=>?_);refine Qaf 0 (some 36) I hHeld ?_;refine Qaf 1 (some 37) I hHeld ?_;refine Qaf 2 (some 38) I hHeld ?_;refine Qaf 3 (some 39) I hHeld ?_;refine Qaf 4 (some 40) I hHeld ?_;refine Qaf 5 (some 41) I hHeld ?_;refine Qac (i:=6) kM rfl (by rfl) (λK N=>?_)
 skip
 (refine Qj9 (b:=b) (C:=d.C) (k:=k) (s:=⟨c6,v,sl,so⟩) rfl rfl rfl rfl (g6.o.heap λ_ _=>rfl) hk j9 b0.o.sorted ?_;intro w7 e4 i1)
 refine N.out _ _ (hHeld.trans i1) (λhHeld=>?_);clear N K
 try go_frame
 refine eV kM ?_ _;have h7:Sb (λc=>c=b) (w5.setCell ⟨O,2,none⟩ (.slice s5.a (d.us.length+1) s5.c)) w7:=by rw[j4.o];exact hHeld
 have f8:=step_end HM.o lO b4.o i4.o hk g3.o j8.o j3.o (by rw[HO.o];exact j7.o) (by rw[HG.o];exact i5.o) j2.o HL.o j5.o f0.o d7.o c9.o e4 h7;go_end0;exact⟨⟨_,rfl⟩,_,_,f8⟩
abbrev Nw(w w':World):Prop:=Sb (λ_=>False) w w'
theorem Nw.any(h:Nw w w')(H:Nat->Prop):Sb H w w':=h.mono λ_ _ e=>e.elim
theorem Nw.blk(h:Nw w w'){t:TypeId}{cs:Array Value}(I:Blk w g t cs):Blk w' g t cs:=Sb.blk h I λe=>e
theorem Nw.agree{w w':World}(h:Nw w w'){F:Nat->Prop}(hF:∀b,F b->b<w.heap.size):Agree F w w':=λb I=>h.block b (hF b I) λe=>e
theorem Nw.of{w w':World}(h:Ext w w'):Nw w w':=h.sb _
section
variable{H : Nat -> Prop}{w w' : World}{O : Nat}{d d' : OD}
theorem QcK.nw(h:QcK H w O d)(k:Nw w w'):QcK H w' O d:=h.sb k λ_ I=>I.elim
theorem Qok.after{w0:World}(h:Qok H w O d d' w')(k:Nw w0 w):Qok H w0 O d d' w':=
 ⟨h.at_,(k.any _).trans h.sb,λb I=>(h.new b I).imp id λN=>ak k.size N⟩
def OD.step(d:OD)(k:ByteArray)(sv:SV)(mb:Option Nat)(s:Sl):OD:=⟨d.T,mb,s,d.us++[⟨k,QaZ d.C k⟩],d.Hs++[QcX d.C k sv],QcX d.C k sv⟩
end
def QlM(H:Nat->Prop)(O:Nat)(d:OD)(k:ByteArray)(w:World)(e:Ending)(w':World):Prop:=
 e=.returned (.bool (d.now k).isSome)/\(((d.now k).isSome=false/\Nw w w')\/((d.now k).isSome=true/\∃mb s,Qok H w O d (d.step k QhY mb s) w'))
theorem QoZ(h:QcK H w O d)(hH:∀b,H b->b<w.heap.size)(hn:d.us.length<=1000000)(hl:(Qaa d.T).length<=1000000){k:ByteArray}(hk:k.size<=maxLen) :
  Calls prog 168 #[.pointer (some O),k] w (QlM H O d k w):=by
 have hg:=QsA h hl hk;have Z:=λW (hW:Ext w W)=>QmF (h.ext hW) (λb hb=>ab (hH b hb) hW.size) hn hk (sv:=QhY) ⟨Qdd _ _,λ_=>rfl⟩
 unfold QlM;generalize d.now k=og at *;obtain⟨a2,HG⟩:=Yb Z hg;clear h hH Z hg;go_in;go_wp2_with fail;refine HG.o.mono ?_;rintro e w1 ⟨sl,so,rfl,N,-⟩;have a0:=hY N;clear N;cases og with
 | none=>
   go_wp2_with fail;go_ret;exact⟨rfl,.inl ⟨rfl,Nw.of (a0.o.alloc _ _)⟩⟩
 | some v=>
   go_wp2_with fail;have I:=a0.o.alloc (w:=w1) #[.int .i64 v.kind,.bool v.b,.int .i64 v.i,.string v.t,.slice sl.a v.l.length sl.c,.slice so.a v.ok.length so.c] 34;refine(a2.o _ I).mono ?_;rintro e w3 ⟨⟨r,rfl⟩,mb,s,a1⟩;have a3:=hY (a1.after (Nw.of I));clear a1 I;go_wp2_with fail;go_ret;exact⟨rfl,.inr ⟨rfl,mb,s,a3.o⟩⟩
variable{sl so:Sl}
theorem QnL{k:ByteArray}{v:Val}{c:Int}(I:∀W,Nw w W->Calls prog 194 #[k] W λe w'=>e=.returned c/\Nw W w')(hc:c≠0) :
  Calls prog 167 #[.pointer (some O),k,QbV v sl so] w λe w'=>e=.returned (.int .i64 8)/\Nw w w':=by
 have HM:=hY I;have g0:(c != 0)=true:=fa.2 hc;clear I hc;go_in;go_wp2_with fail;have N:Ext w (w.alloc (.cells #[v.kind,v.b,v.i,v.t,.slice sl.a v.l.length sl.c,.slice so.a v.ok.length so.c] 34)):=(gh w).alloc _ _;refine(HM.o _ (Nw.of N)).mono ?_;rintro e w1 ⟨rfl,Z⟩;have a0:=hY ((Nw.of N).trans Z);clear N Z;go_wp2_with fail;go_ret;exact⟨rfl,a0.o⟩
theorem Qqg{k:ByteArray}{v:Val}{c:Int}(N:∀W,Nw w W->Calls prog 194 #[k] W λe w'=>e=.returned (.int .i64 0)/\Nw W w')
  (I:∀W,Nw w W->Calls prog 193 #[QbV v sl so] W λe w'=>e=.returned c/\Nw W w') (hc:c≠0) :
  Calls prog 167 #[.pointer (some O),k,QbV v sl so] w λe w'=>e=.returned c/\Nw w w':=by
 obtain⟨HM,HF⟩:=Yb N I;have g0:(c != 0)=true:=fa.2 hc;clear N hc I;go_in;go_wp2_with fail;have a0:Ext w (w.alloc (.cells #[v.kind,v.b,v.i,v.t,.slice sl.a v.l.length sl.c,.slice so.a v.ok.length so.c] 34)):=(gh w).alloc _ _;have a2:=gm w 34 #[.int .i64 v.kind,.bool v.b,.int .i64 v.i,.string v.t,.slice sl.a v.l.length sl.c,.slice so.a v.ok.length so.c];refine(HM.o _ (Nw.of a0)).mono ?_;rintro e w1 ⟨rfl,a1⟩;obtain⟨q0,q1,q2,q3,q4,q5⟩:=(a1.blk a2).c6;have Z:=(Nw.of a0).trans a1;have a3:=hY Z;clear a0 a1 Z a2;go_wp2_with fail;refine(HF.o _ a3.o).mono ?_;rintro e w2 ⟨rfl,a4⟩;have a5:=hY (a3.o.trans a4);clear a4 q0 q1 q2 q3 q4 q5;go_wp2_with fail;go_ret;exact⟨rfl,a5.o⟩
def QqZ(H:Nat->Prop)(O:Nat)(d:OD)(k:ByteArray)(v:Val)(w:World)(e:Ending)(w':World):Prop:=
 e=.returned (.int .i64 0)/\∃sl so mb s,Qok H w O d (d.step k ⟨true,v,sl,so⟩ mb s) w'
theorem QuM(h:QcK H w O d)(hH:∀b,H b->b<w.heap.size)(hn:d.us.length<=1000000){k:ByteArray}(hk:k.size<=maxLen){v:Val}(hv:RV w (Lt w) v sl so)
  (a4:∀W,Nw w W->Calls prog 194 #[k] W λe w'=>e=.returned (.int .i64 0)/\Nw W w')
  (a0:∀W,Nw w W->Calls prog 193 #[QbV v sl so] W λe w'=>e=.returned (.int .i64 0)/\Nw W w') :
  Calls prog 167 #[.pointer (some O),k,QbV v sl so] w (QqZ H O d k v w):=by
 have c0:=λW (hW:Nw w W) sv hsv=>QmF (h.nw hW) (λb hb=>ab (hH b hb) hW.size) hn hk (sv:=sv) hsv
 have b8:=λW (hW:Nw w W)=>QdS _ v (ao _) W sl so ((hv.agree (hW.agree λb hb=>hb)).mono λb hb=>ab hb hW.size)
 have a3:∀b,OvB O d b->b<w.heap.size:=λb hb=>h.Qbe hb
 obtain⟨HM,HF,b4,b0,b6,c9⟩:=Yg a4 a0 c0 b8 a3 hH;clear a4 a0 h hv c0 b8 a3 hH;go_in;go_wp2_with fail;have a6:Ext w (w.alloc (.cells #[v.kind,v.b,v.i,v.t,.slice sl.a v.l.length sl.c,.slice so.a v.ok.length so.c] 34)):=(gh w).alloc _ _;have b7:=gm w 34 #[.int .i64 v.kind,.bool v.b,.int .i64 v.i,.string v.t,.slice sl.a v.l.length sl.c,.slice so.a v.ok.length so.c];refine(HM.o _ (Nw.of a6)).mono ?_;rintro e w1 ⟨rfl,a7⟩;have a5:=a7.blk b7;obtain⟨q0,q1,q2,q3,q4,q5⟩:=a5.c6;have a1:=(Nw.of a6).trans a7;obtain⟨c2,b5⟩:=Yb a1 a5;clear a6 a7 a1 b7 a5 HM;go_wp2_with fail;refine(HF.o _ c2.o).mono ?_;rintro e w2 ⟨rfl,a9⟩;have b9:=a9.blk b5.o;have a2:=c2.o.trans a9;have Z:=hY a2;clear a9 q0 q1 q2 q3 q4 q5 b5 HF;obtain⟨q0,q1,q2,q3,q4,q5⟩:=b9.c6;clear b9 a2;go_wp2_with fail;refine(b0.o _ Z.o).mono ?_;rintro e w3 ⟨sl',so',rfl,c4,b3⟩;have N:=Z.o.trans (Nw.of c4);have c1:QkU w3 (OvF H w3 O d) ⟨true,v,sl',so'⟩:=⟨b3.mono λi hi=>⟨hi.2,λe=>by have:=b6.o i e;have:=Z.o.size;have:=hi.1;omega,λe=>by have:=c9.o i e;have:=Z.o.size;have:=hi.1;omega⟩,λe=>by cases e⟩;have I:=b4.o w3 N _ c1;obtain⟨c8,a8⟩:=Yb N I;clear c4 b3 N c1 I q0 q1 q2 q3 q4 q5 b0 b4;go_wp2_with fail;refine a8.o.mono ?_;rintro e w4 ⟨⟨r,rfl⟩,mb,s,c3⟩;have c7:=hY (c3.after c8.o);clear c3;go_wp2_with fail;go_ret;exact⟨rfl,sl',so',mb,s,c7.o⟩
abbrev gj:=@Nw.of
abbrev gp:=@Nw.agree
end Go.Proofs.YtdiecmkpbadgjaaGreatDoor
