/- What the theorem needs of the texts PairN, Mend, Mend2, Without, Del, Is, Sbs, OvMem, OvStep, OvGet, MeetO, OvStepW, OvPut: no condition of its own. -/
import Derived.Deep.CutBlock
import Derived.Test.YtdiecmkpbadgjaaGreatDoorPqd
set_option linter.unusedVariables false
set_option linter.unusedSimpArgs false
set_option linter.unnecessarySimpa false
set_option maxRecDepth 100000
set_option maxHeartbeats 4000000
namespace Go.Proofs.YtdiecmkpbadgjaaGreatDoor
open Go.Proofs.Tryz
open Go.RowKit
abbrev Qdt(sl sr:Sl):Nat->Prop:=λb=>sl.row=some b\/sr.row=some b
def Qft(P:Nat->World->Prop)(W:World)(e:Ending)(W':World):Prop:=∃a,e=.returned (.pointer (some ⟨a,0,none⟩))/\W.heap.size<=a/\P a W'/\Ext W W'
variable{w W:World}{s:Sl}{G:Nat->Prop}
theorem Qlo{base n:Nat}{xs:List Value}(h:w.ownsRow base 46 1 (.slice s.a n s.c) n xs)(hs:St G w W)(N:∀b,s.row=some b->¬G b):W.ownsRow base 46 1 (.slice s.a n s.c) n xs:=
 Qab h hs.agree λb I=>⟨(Qad h I).2,N b I⟩
variable{F:Nat->Prop}{cs:List Value}
theorem Qsi{n m:Nat}(h:Rd w F 1 s n cs)(I:m<=n):Rd w F 1 s m (cs.take (m*1)):=h.take I
variable{n:Nat}
theorem Qvn{ls:List Value}(N:ls.length=n*1)(hn:0<n)(I:∀u∈ls,∃p,u=Value.pointer p):∃v0:Option Addr,ls.drop ((n-1)*1)=[.pointer v0]:=by
 have h:(ls.drop ((n-1)*1)).length=1:=by rw[aA,N];omega
 match hd:ls.drop ((n-1)*1),h with
 |[x],_=>obtain⟨p,Z⟩:=I x (aP (by rw[hd];exact bc.2 rfl));exact⟨p,by rw[Z]⟩
section
variable{w : World}{base m nr : Nat}{sl sr : Sl}{ls rs : List Value}{P1 P2 : Nat -> World -> Prop}
theorem QnF(hL:w.ownsRow base 46 1 (.slice sl.a (m+1) sl.c) (m+1) ls)(hR:w.ownsRow base 46 1 (.slice sr.a nr sr.c) nr rs)(hb:base<=w.heap.size)(a5:∀b,sl.row=some b->sr.row≠some b)
  (c1:∀u∈ls,u.oneCell'=true) (c0:∀u∈rs,u.oneCell'=true) (d8:∀u∈ls,∃p,u=Value.pointer p) (h4:4<m+1) (h8:m+1<=8) (r8:nr<=8)
  (b4:∀(W:World) (s:Sl),St (Qdt sl sr) w W->Rd W (Lt W) 1 s m (ls.take (m*1))->Calls prog 54 #[.slice s.a m s.c] W (Qft P1 W))
  (b5:∀(W:World) (s:Sl),St (Qdt sl sr) w W->Rd W (Lt W) 1 s (nr+1) (ls.drop (m*1)++rs)->Calls prog 54 #[.slice s.a (nr+1) s.c] W (Qft P2 W))
  (c2:∀a W W',St (Qdt sl sr) w W->P1 a W->St (Qdt sl sr) W W'->P1 a W') :
  Calls prog 147 #[.slice sl.a (m+1) sl.c,.slice sr.a nr sr.c,.func (.func 54) #[] #[]] w λe w'=>∃a b,e=.returned (.tuple #[.pointer (some ⟨a,0,none⟩),.pointer (some ⟨b,0,none⟩)])/\w.heap.size<=a/\w.heap.size<=b/\P1 a w'/\P2 b w'/\St (Qdt sl sr) w w':=by
 obtain⟨i0,hi,f4,e6,f1⟩:=eI Tryz.Qbg;obtain⟨v0,N⟩:=Qvn hL.1 oM d8;rw[Nat.add_sub_cancel]at N;obtain⟨gl,I,rfl,e7,e3,a9,a0⟩:=QaJ hL oM;have c9:gl<w:=a0.lt;have a6:∀b,sr.row=some b->b<w.heap.size:=λb hb=>(Qad hR hb).2
 have b9:∀W,St (λb=>sr.row=some b) w W->∀j u,ls[j]? = some u->W.cell? ⟨gl,j,none⟩=some u:=λW hW j u hj=>by
  obtain⟨b,o,h1,h2,h3⟩:=fZ hL;obtain⟨e1,-,-⟩:=h1.eq oM;obtain⟨rfl,rfl⟩:gl=b/\0=o:=by simpa using e1
  have:=h3 j u hj;rw[aI]at this;exact(hW.cell c9 (a5 gl rfl)).trans this
 have b0:∀(c:Nat) (u:Value),([.pointer v0]:List Value)[c]? = some u->ls[m*1+c]? = some u:=λc u hu=>by rw[<-N,bf]at hu;exact hu
 have hS:∀W,St (λb=>sr.row=some b) w W->W.cell? ⟨gl,m,none⟩=some (.pointer v0):=λW hW=>by have:=b9 W hW _ _ (b0 0 _ rfl);simpa using this
 have f0:(4:Int)<(m:Int)+1:=oM
 have f2:(m:Int)<=(I:Int):=oM
 have f6:(m:Int)<(m:Int)+1:=oM
 have e4:(I:Int)<=9223372036854775807:=by unfold maxLen at a9;omega
 have f3:IntKind.i64.wrap ((m:Int)+1)=(m:Int)+1:=by rw[eC];omega
 have b6:∀W,St (λb=>sr.row=some b) w W->Calls prog 54 #[.slice (some ⟨gl,0,none⟩) m I] W (Qft P1 W):=λW hW=>
  b4 W ⟨some ⟨gl,0,none⟩,I⟩ (hW.mono λi _ hi=>.inr hi) (Qsi ((fZ (Qlo (s:=⟨some ⟨gl,0,none⟩,I⟩) hL hW (λb hb=>a5 b hb))).mono λi hi=>hi.2) oM)
 have a3:∀W vb,Ext w W->Blk W vb 46 #[.pointer v0]->w.heap.size<=vb->Calls prog 81 #[.slice sr.a nr sr.c,.int .i64 0,.slice (some ⟨vb,0,none⟩) 1 1] W (Qew base sr nr 0 rs [.pointer v0] W):=λW vb hW hv f5=>
  Qmb (Qlo hR (hW.st (λ_=>False)) (λ_ _ h=>h)) (ak hb hW.size) oM (aD _) rfl hv (λe=>by have:=a6 vb e;omega) (λu hu=>c1 u (aP (N▸hu))) c0
 obtain⟨HS,d5,d3,HI,d4,HL⟩:=Yg hS b6 b5 a3 c2 N;clear hS b6 b4 b5 a3 c2 N b0 b9 c1 c0 hL hR a0 a5;go_in;go_wp2_with fail;have s0:=(ga (λb=>sr.row=some b) w).drew;have k0:=HS.o _ s0;have e0:=(fQ w).drew;have sA:=((((fQ w).alloc #[.pointer v0] 46).drew).st (λb=>sr.row=some b));have c3:=hY (show Blk (w.alloc (.cells #[.pointer v0] 46)).drew w.heap.size 46 #[.pointer v0]from fU w 46 _);go_region_held3 (λW=>W.cell? ⟨gl,m,none⟩=some (.pointer v0)) (first |(with_reducible exact HS.o _ s0) |(with_reducible exact HS.o _ (s0.alloc _ _)) |(with_reducible exact HS.o _ s1) |(with_reducible exact HS.o _ (s1.alloc _ _)) |(with_reducible exact HS.o _ s2) |(with_reducible exact HS.o _ a8) |(with_reducible exact HS.o _ sA)|go_keep)
  (first
    |(go_at_call_of 54 (Value.slice (some ⟨gl,0,none⟩) m I);refine(d5.o _ (by first|exact s0|exact s0.alloc _ _)).mono ?_;rintro e w1 ⟨a1,rfl,d0,b7,a4⟩;have s1:=(show St (λb=>sr.row=some b) w _ from by first|exact s0|exact s0.alloc _ _).ext a4;have e1:=(show Ext w _ from by first|exact e0|exact e0.alloc _ _).trans a4;have c4:=hY b7;clear b7)
    |(go_at_call 81;refine(HI.o _ _ (by first |(with_reducible exact e1)|exact e1.alloc _ _) (by first|exact(fU _ _ _)|exact Blk.ext c3.o a4) (by first|exact e1.size|exact ao _)).mono ?_;rintro e w2 ⟨s3,rfl,a7,Z,c6⟩;have e2:=(show St (Qdt ⟨some ⟨gl,0,none⟩,I⟩ sr) w1 w2 from by first|exact(Z.st λi hi=>.inr hi)|exact(((fQ w1).alloc _ _).st _).trans (Z.st λi hi=>.inr hi));have s2:=s1.trans (show St (λb=>sr.row=some b) w1 w2 from by first|exact(Z.st λi hi=>hi)|exact(((fQ w1).alloc _ _).st _).trans (Z.st λi hi=>hi));have c8:=hY a7;clear a7 Z c6)
    |(go_at_call 54;refine(d3.o w2 s3 (s2.mono λi _ hi=>.inr hi) ?_).mono ?_;(have h:=fZ c8.o;simp only[Nat.zero_mul,List.take_zero,List.nil_append,List.drop_zero]at h;rw[<-HL.o]at h;exact h.mono λi hi=>hi.2);rintro e w3 ⟨a2,rfl,c7,b8,b3⟩;have a8:=s2.ext b3;have d6:=hY b8;clear b8))
 all_goals
  go_wp2_with fail;go_ret2;have e8:=s1.size;have d7:=s2.size;refine⟨a1,a2,rfl,?_,ak d7 c7,d4.o a1 w1 w3 (s1.mono λi _ hi=>.inr hi) c4.o (e2.ext b3),d6.o,a8.mono λi _ hi=>.inr hi⟩;simp only[World.size_alloc,World.size_drew]at d0;omega
end
theorem Qug{rs:List Value}(N:rs.length=n*1)(hn:0<n)(I:∀u∈rs,∃p,u=Value.pointer p):∃v0:Option Addr,rs.take 1=[.pointer v0]:=by
 have h:(rs.take 1).length=1:=by rw[aw,N];omega
 match hd:rs.take 1,h with
 |[x],_=>obtain⟨p,Z⟩:=I x (bn (by rw[hd];exact bc.2 rfl));exact⟨p,by rw[Z]⟩
section
variable{w : World}{base nl m : Nat}{sl sr : Sl}{ls rs : List Value}{P1 P2 : Nat -> World -> Prop}
theorem Qlq(hL:w.ownsRow base 46 1 (.slice sl.a nl sl.c) nl ls)(hR:w.ownsRow base 46 1 (.slice sr.a (m+1) sr.c) (m+1) rs)(hb:base<=w.heap.size)(b6:∀b,sl.row=some b->sr.row≠some b)
  (c2:∀u∈ls,u.oneCell'=true) (c0:∀u∈rs,u.oneCell'=true) (f3:∀u∈rs,∃p,u=Value.pointer p) (h4:nl<=4) (h5:4<m+1) (h8:m+1<=8)
  (b5:∀(W:World) (s:Sl),St (Qdt sl sr) w W->Rd W (Lt W) 1 s (nl+1) (ls++rs.take 1)->Calls prog 54 #[.slice s.a (nl+1) s.c] W (Qft P1 W))
  (b7:∀(W:World) (s:Sl),St (Qdt sl sr) w W->Rd W (Lt W) 1 s m (rs.drop 1)->Calls prog 54 #[.slice s.a m s.c] W (Qft P2 W))
  (c3:∀a W W',St (Qdt sl sr) w W->P1 a W->St (Qdt sl sr) W W'->P1 a W') :
  Calls prog 147 #[.slice sl.a nl sl.c,.slice sr.a (m+1) sr.c,.func (.func 54) #[] #[]] w λe w'=>∃a b,e=.returned (.tuple #[.pointer (some ⟨a,0,none⟩),.pointer (some ⟨b,0,none⟩)])/\w.heap.size<=a/\w.heap.size<=b/\P1 a w'/\P2 b w'/\St (Qdt sl sr) w w':=by
 obtain⟨i0,hi,f2,c4,e8⟩:=eI Tryz.Qbg;obtain⟨v0,I⟩:=Qug hR.1 oM f3;obtain⟨Z,N,rfl,f7,f6,b4,a0⟩:=QaJ hR oM;have d3:Z<w:=a0.lt;have a3:∀b,sl.row=some b->b≠Z:=λb hb e=>b6 b hb (by simp[Sl.row,e])
 have a8:Rd w (λb=>b=Z) 1 ⟨some ⟨Z,0,none⟩,N⟩ (m+1) rs:=by
  obtain⟨b,o,h1,h2,h3⟩:=fZ hR;obtain⟨e1,c6,d8⟩:=h1.eq oM;obtain⟨rfl,rfl⟩:Z=b/\0=o:=by simpa using e1
  exact⟨Z,0,.some _ _ _ _ c6 d8 rfl,h2,h3⟩
 have c1:∀W,St (λb=>sl.row=some b) w W->∀j u,rs[j]? = some u->W.cell? ⟨Z,j,none⟩=some u:=λW hW j u hj=>by
  obtain⟨b,o,h1,h2,h3⟩:=fZ hR;obtain⟨e1,-,-⟩:=h1.eq oM;obtain⟨rfl,rfl⟩:Z=b/\0=o:=by simpa using e1
  have:=h3 j u hj;rw[aI]at this;exact(hW.cell d3 (λe=>a3 Z e rfl)).trans this
 have b3:∀(c:Nat) (u:Value),([.pointer v0]:List Value)[c]? = some u->rs[c]? = some u:=λc u hu=>by
  rw[<-I,bq]at hu;split at hu
  .exact hu
  cases hu
 have hS:∀W,St (λb=>sl.row=some b) w W->W.cell? ⟨Z,0,none⟩=some (.pointer v0):=λW hW=>c1 W hW _ _ (b3 0 _ rfl)
 have f9:¬(4:Int)<(nl:Int):=oM
 have g3:(4:Int)<(m:Int)+1:=oM
 have f8:(0:Int)<(m:Int)+1:=oM
 have g0:(1:Int)<=(m:Int)+1:=oM
 have g4:¬N=1:=oM
 have g5:IntKind.i64.wrap ((m:Int)+1)=(m:Int)+1:=by rw[eC];omega
 have f5:(N:Int)<=9223372036854775807:=by unfold maxLen at b4;omega
 have g7:(m:Int)+1<=(N:Int):=oM
 have f0:nl+1<=maxLen:=by unfold maxLen;omega
 have f4:(nl+1)*8<=140737488355328:=oM
 have a5:∀W,Ext w W->W.ownsRow base 46 1 (.slice sl.a nl sl.c) nl ls:=λW hW=>Qlo hL (hW.st (λ_=>False)) (λ_ _ h=>h)
 have a7:∀W,St (λb=>sl.row=some b) w W->Calls prog 54 #[.slice (some ⟨Z,1,none⟩) m (N-1)] W (Qft P2 W):=λW hW=>by
  refine b7 W ⟨some ⟨Z,1,none⟩,N-1⟩ (hW.mono λi _ hi=>.inl hi) ?_;have h:=((a8.agree (hW.agree.mono λi (hi:i=Z)=>⟨oM,λe=>a3 i e hi⟩)).drop (m:=1) oM).mono (G:=Lt W) λi (hi:i=Z)=>by have:=hW.size;show i<_;omega
  simpa using h
 obtain⟨HS,e2,d5,d6,HF,a6,g6⟩:=Yh hS b5 a7 c3 I a5 c2;have e3:Yd (∀u∈([.pointer v0]:List Value),u.oneCell'=true):=hY λu hu=>c0 u (bn (I▸hu))
 clear hS a7 b5 b7 c3 I c1 b3 c2 c0 hL hR a0 b6 a3 a5 a8;go_in;go_wp2_with fail;have s0:=(ga (λb=>sl.row=some b) w).drew;have e0:=(fQ w).drew;have sA:=((((fQ w).alloc #[.pointer v0] 46).drew).st (λb=>sl.row=some b));have k0:=HS.o _ s0;have c7:=hY (show Blk (w.alloc (.cells #[.pointer v0] 46)).drew w.heap.size 46 #[.pointer v0]from fU w 46 _);go_region_held3 (λW=>W.cell? ⟨Z,0,none⟩=some (.pointer v0)) (first |(with_reducible exact HS.o _ s0) |(with_reducible exact HS.o _ sA) |(with_reducible exact HS.o _ s1) |(with_reducible exact HS.o _ s2) |(with_reducible exact HS.o _ s3)|go_keep)
  (first
    |(refine Qdi _ rfl (.tmp 35) (.tmp 39) 108 rfl base 46 i0 _ 1 8 underlying108 hi f2 c4 e8 rfl oN sl nl ls (by rfl) (a6.o _ (((fQ w).alloc _ _).drew)) (λb=>b=w.heap.size) ⟨some ⟨w,0,none⟩,1⟩ 1 [.pointer v0] (by rfl) (ge c7.o oN rfl) e3.o f0 f4 (by rw[fp,eB];omega) ?_;intro sx w1 a4 a9 d0;have s1:=sA.trans (a9.st λi hi=>hi);have e7:=hY a4;clear a4 d0)
    |(go_at_call 54;refine(d5.o w2 s2).mono ?_;rintro e w3 ⟨a2,rfl,c9,b9,b0⟩;have s3:=s2.ext b0;have e4:=hY b9;clear b9)
    |(go_at_call 54;refine(e2.o w1 sx (s1.mono λi _ hi=>.inl hi) ?_).mono ?_;(have h:=fZ e7.o;rw[<-HF.o]at h;exact h.mono λi hi=>hi.2);rintro e w2 ⟨a1,rfl,d4,b8,f1⟩;have s2:=s1.ext f1;have c8:=hY b8;clear b8))
 all_goals
  go_wp2_with fail;go_ret2;have d7:=s1.size;have e6:=s2.size;exact⟨a1,a2,rfl,ak d7 d4,ak e6 c9,d6.o a1 w2 w3 (s2.mono λi _ hi=>.inl hi) c8.o (b0.st _),e4.o,s3.mono λi _ hi=>.inl hi⟩
theorem QnE{nr:Nat}(hL:w.ownsRow base 46 1 (.slice sl.a nl sl.c) nl ls)(hR:w.ownsRow base 46 1 (.slice sr.a nr sr.c) nr rs)(hb:base<=w.heap.size)
  (a2:∀u∈rs,u.oneCell'=true) (h4:nl<=4) (r4:nr<=4)
  (Z:∀(W:World) (s:Sl),St (Qdt sl sr) w W->Rd W (Lt W) 1 s (nl+nr) (ls++rs)->Calls prog 54 #[.slice s.a (nl+nr) s.c] W (Qft P1 W)) :
  Calls prog 147 #[.slice sl.a nl sl.c,.slice sr.a nr sr.c,.func (.func 54) #[] #[]] w λe w'=>∃a,e=.returned (.tuple #[.pointer (some ⟨a,0,none⟩),.pointer none])/\w.heap.size<=a/\P1 a w'/\St (Qdt sl sr) w w':=by
 obtain⟨i0,hi,a8,a3,a5⟩:=eI Tryz.Qbg;have b5:¬(4:Int)<(nl:Int):=oM
 have b4:¬(4:Int)<(nr:Int):=oM
 have a6:nl+nr<=maxLen:=by unfold maxLen;omega
 have b0:(nl+nr)*8<=140737488355328:=oM
 obtain⟨a4,HR,HL,H1⟩:=Ye Z (fZ hR) hL a2;clear Z hR hL a2;go_in;go_wp2_with(at_builtin;refine Qak _ rfl (.tmp 47) (.tmp 48) 108 rfl base 46 i0 _ 1 8 underlying108 hi a8 a3 a5 rfl oN sl nl ls rfl HL.o (In base w.heap.size) sr nr rs rfl HR.o H1.o a6 b0 hb ?_;intro sx w1 I N a9);have s1:St (λb=>sl.row=some b) w w1:=N.st λi hi=>hi
 refine(a4.o w1 sx (s1.mono λi _ hi=>.inl hi) ((fZ I).mono λi hi=>hi.2)).mono ?_;rintro e w2 ⟨a1,rfl,b3,a0,a7⟩;have HP:=hY a0;clear a0 I N a9;go_wp2_with fail;go_ret2;exact⟨a1,rfl,ak s1.size b3,HP.o,(s1.ext a7).mono λi _ hi=>.inl hi⟩
end
def QfZ(F:Nat->Prop)(h:Nat)(l r:PT h)(w:World)(e:Ending)(w':World):Prop:=
 ∃ts:List (PT h),e=two h ts/\Qeh w.heap.size h l r ts/\(∀u∈ts,IsN w' (Up F w w') h u)
variable{xs:List LE}
theorem QuN(Z:n=xs.length)(I:Rd w F 7 s n (QaD xs))(N:QmT w F xs)(hf:xs.length<=1000):ES w F s xs:=by
 subst Z;exact⟨I,N,oM⟩
theorem QiI{α:Type}{P:α->Prop}{x y:α}(N:P x)(I:P y):∀u∈[x,y],P u:=λu hu=>by
 rcases aE.1 hu with rfl|hu
 .exact N
 obtain rfl:=bc.1 hu;exact I
theorem QiG{α:Type}{P:α->Prop}{x:α}(I:P x):∀u∈[x],P u:=λu hu=>by
 obtain rfl:=bc.1 hu;exact I
theorem QjV(N:St G w W)(hG:∀b,G b->b<w.heap.size)(hn:n=xs.length)(h8:xs.length<=8)(hr:Rd W (Lt W) 7 s n (QaD xs))(hv:QmT w (NH G w) xs)(I:Qbv xs) :
  Calls prog 80 #[.slice s.a n s.c] W (Qfs (λa W'=>w<=a/\IsN W' (λb=>w<=b/\b<W') 0 (a,xs.map LE.ent)) W):=by
 have Z:ES W (Lt W) s xs:=QuN hn hr ((hv.agree N.agree).mono λi hi=>ab hi.1 N.size) oM;refine(QdM Z hn I h8).mono ?_;rintro e w' ⟨t,rfl,h1,h2,h3,h4⟩;refine⟨addr 0 t,rfl,h2,⟨Nat.le_trans N.size h2,?_⟩,h4⟩;have e1:t=(t.1,xs.map LE.ent):=by rw[<-h1];rfl
 rw[e1]at h3;exact h3.mono λi hi=>⟨Nat.le_trans N.size hi.1,hi.2⟩
variable{W':World}{h:Nat}
theorem Qmc(Z:∀b,G b->b<w.heap.size){t:PT h}(I:IsN W (λb=>w<=b/\b<W) h t)(hs:St G W W'):IsN W' (λb=>w<=b/\b<W') h t:=
 (I.agree (hs.agree.mono λi hi=>⟨hi.2,λN=>by have:=Z i N;omega⟩)).mono λi hi=>⟨hi.1,ab hi.2 hs.size⟩
variable{ys:List LE}
theorem Qka{base:Nat}{sl sr:Sl}(hL:OE w base sl xs)(hR:OE w base sr ys)(hb:base<=w.heap.size)(a4:∀b,sl.row=some b->sr.row≠some b)
  (a2:QmT w (NH (Qds sl sr) w) xs) (a1:QmT w (NH (Qds sl sr) w) ys) (I:Qbv (xs++ys)) (x8:xs.length<=8) (y8:ys.length<=8) (N:xs.length+ys.length<=11) {l r:PT 0} (el:xs.map LE.ent=l.2) (er:ys.map LE.ent=r.2) :
  Calls prog 146 #[.slice sl.a xs.length sl.c,.slice sr.a ys.length sr.c,.func (.func 80) #[] #[]] w λe w'=>QfZ (λ_=>False) 0 l r w e w'/\St (Qds sl sr) w w':=by
 have hG:∀b,Qds sl sr b->b<w.heap.size:=λb hb=>hb.elim (λh=>(Qad hL.own h).2) (λh=>(Qad hR.own h).2)
 have QfJ:∀(w':World) (a b:Nat) (zs a0:List LE),(w<=a/\IsN w' (λb=>w<=b/\b<w') 0 (a,zs.map LE.ent))->(w<=b/\IsN w' (λb=>w<=b/\b<w') 0 (b,a0.map LE.ent))->
   QcG l.2 r.2=[zs.map LE.ent,a0.map LE.ent]->QfZ (λ_=>False) 0 l r w (.returned (.tuple #[.pointer (some ⟨a,0,none⟩),.pointer (some ⟨b,0,none⟩)])) w':=λw' a b zs a0 ha hb hp=>by
  refine⟨[((a,zs.map LE.ent):PT 0),((b,a0.map LE.ent):PT 0)],rfl,⟨hp.symm,QiI (α:=PT 0) ha.1 hb.1⟩,QiI (α:=PT 0) (ha.2.mono λi hi=>.inr hi) (hb.2.mono λi hi=>.inr hi)⟩
 have e1:l.2.length=xs.length:=by rw[<-el,ar]
 have e2:r.2.length=ys.length:=by rw[<-er,ar]
 by_cases h4:4<xs.length
 ·obtain ⟨m,hm⟩:∃ m,xs.length=m+1:=⟨xs.length - 1,oM⟩
  have t1:(QaD xs).take (m*7)=QaD (xs.take m):=QcS xs m;have t2:(QaD xs).drop (m*7)++QaD ys=QaD (xs.drop m++ys):=by rw[QcQ,Qcp]
  have a3:=hL.own;rw[hm]at a3 ⊢;refine(QnD (P1:=λa W'=>w<=a/\IsN W' (λb=>w<=b/\b<W') 0 (a,(xs.take m).map LE.ent)) (P2:=λa W'=>w<=a/\IsN W' (λb=>w<=b/\b<W') 0 (a,(xs.drop m++ys).map LE.ent))
   a3 hR.own hb a4 (QbX xs) (QbX ys) trivial oM oM y8 (λW s hW Z=>?_) (λW s hW Z=>?_) (λa W W' _ h hs=>⟨h.1,Qmc hG h.2 hs⟩)).mono ?_
  ·rw [t1] at Z
   exact QjV hW hG (by rw[aw];omega) (by rw[aw];omega) Z (λx N=>a2 x (bn N)) (by have:=I.take m;rwa[bj oM]at this)
  ·rw [t2] at Z
   exact QjV hW hG (by rw[aj,aA];omega) (by rw[aj,aA];omega) Z (λx N=>by
    rcases aS.1 N with N|N
    .exact a2 x (aP N)
    exact a1 x N) (by have:=I.drop m;rwa[List.drop_append_of_le_length oM]at this)
  rintro e w' ⟨a,b,rfl,-,-,h1,h2,hs⟩;refine⟨QfJ w' a b _ _ h1 h2 ?_,hs⟩;rw[QcG,ez oM,<-el,<-er,aH,cU,cO,ar,hm];rfl
 by_cases h5:4<ys.length
 ·obtain ⟨m,hm⟩:∃ m,ys.length=m+1:=⟨ys.length - 1,oM⟩
  have t1:QaD xs++(QaD ys).take 7=QaD (xs++ys.take 1):=by rw[Qcp,<-QcS]
  have t2:(QaD ys).drop 7=QaD (ys.drop 1):=by rw[<-QcQ]
  have a5:=hR.own;rw[hm]at a5 ⊢;refine(Qlp (P1:=λa W'=>w<=a/\IsN W' (λb=>w<=b/\b<W') 0 (a,(xs++ys.take 1).map LE.ent)) (P2:=λa W'=>w<=a/\IsN W' (λb=>w<=b/\b<W') 0 (a,(ys.drop 1).map LE.ent))
   hL.own a5 hb a4 (QbX xs) (QbX ys) trivial oM oM oM (λW s hW Z=>?_) (λW s hW Z=>?_) (λa W W' _ h hs=>⟨h.1,Qmc hG h.2 hs⟩)).mono ?_
  ·rw [t1] at Z
   exact QjV hW hG (by rw[aj,aw];omega) (by rw[aj,aw];omega) Z (λx N=>by
    rcases aS.1 N with N|N
    .exact a2 x N
    exact a1 x (bn N)) (by have:=I.take (xs.length+1);rwa[List.take_length_add_append]at this)
  ·rw [t2] at Z
   exact QjV hW hG (by rw[aA];omega) (by rw[aA];omega) Z (λx N=>a1 x (aP N)) (by have:=I.drop (xs.length+1);rwa[cY]at this)
  rintro e w' ⟨a,b,rfl,-,-,h1,h2,hs⟩;refine⟨QfJ w' a b _ _ h1 h2 ?_,hs⟩;rw[QcG,ev oM,ez oM,<-el,<-er,aH,cU,cO]
 have t1:QaD xs++QaD ys=QaD (xs++ys):=by rw[Qcp]
 refine(QnC (P1:=λa W'=>w<=a/\IsN W' (λb=>w<=b/\b<W') 0 (a,(xs++ys).map LE.ent)) hL.own hR.own hb (QbX ys) oM oM (λW s hW Z=>?_)).mono ?_
 ·rw [t1] at Z
  exact QjV hW hG (by rw[aj]) (by rw[aj];omega) Z (λx N=>by
   rcases aS.1 N with N|N
   .exact a2 x N
   exact a1 x N) I
 rintro e w' ⟨a,rfl,-,h1,hs⟩;refine⟨⟨[((a,(xs++ys).map LE.ent):PT 0)],rfl,⟨?_,QiG (α:=PT 0) h1.1⟩,QiG (α:=PT 0) (h1.2.mono λi hi=>.inr hi)⟩,hs⟩;show[(xs++ys).map LE.ent]=_;rw[QcG,ev oM,ev oM,<-el,<-er,aH]
theorem QjO(hG:∀b,G b->b<w.heap.size)(hF:∀b,F b->b<w.heap.size/\¬G b)(I:w.heap.size<=W.heap.size){t:PT h}(N:IsN W (Up F w W) h t)(hs:St G W W'):IsN W' (Up F w W') h t:=
 (N.agree (hs.agree.mono λi hi=>hi.elim (λh=>⟨Nat.lt_of_lt_of_le (hF i h).1 I,(hF i h).2⟩) λh=>⟨h.2,λZ=>by have:=hG i Z;omega⟩)).mono λi hi=>hi.imp_right λh=>⟨h.1,ab h.2 hs.size⟩
theorem QgC{ks:List (PT h)}(N:St G w W)(hF:∀b,F b->¬G b)(hn:n=ks.length)(h2:2<=ks.length)(h8:ks.length<=8)(hr:Rd W (Lt W) 1 s n (ptrs h ks))(I:Kids w F h ks) :
  Calls prog 54 #[.slice s.a n s.c] W (Qft (λa W'=>w<=a/\IsN W' (Up F w W') (h+1) (a,ks)) W):=by
 subst hn;have Z:Kids W F h ks:=⟨λb hb=>ab (I.lt b hb) N.size,λx hx=>(I.isn x hx).agree (N.agree.mono λi hi=>⟨I.lt i hi,hF i hi⟩),I.rise,I.pos,I.sz,I.cn,I.hh⟩;refine(Qcl hr rfl Z h2 h8).mono ?_;rintro e w' ⟨t,rfl,h1,h2,h3,h4⟩;refine⟨addr (h+1) t,rfl,h2,⟨Nat.le_trans N.size h2,?_⟩,h4⟩;have e1:t=(t.1,ks):=by subst h1;rfl
 rw[e1]at h3;exact h3.mono λi hi=>hi.imp_right λh=>⟨Nat.le_trans N.size h.1,h.2⟩
theorem Qmx(h:Nat)(ks:List (PT h)):∀u∈ptrs h ks,∃p,u=Value.pointer p:=λu hu=>by
 obtain⟨k,-,rfl⟩:=bW.1 hu;exact⟨_,rfl⟩
theorem Qdb(h:Nat)(a b:List (PT h)):ptrs h (a++b)=ptrs h a++ptrs h b:=by simp[ptrs]
theorem QcW(h:Nat)(a:List (PT h))(i:Nat):ptrs h (a.drop i)=(ptrs h a).drop i:=by simp[ptrs,List.map_drop]
theorem Qkc{base h:Nat}{sl sr:Sl}{l r:PT (h+1)}(hL:w.ownsRow base 46 1 (.slice sl.a l.2.length sl.c) l.2.length (ptrs h l.2))(hR:w.ownsRow base 46 1 (.slice sr.a r.2.length sr.c) r.2.length (ptrs h r.2))(N:base<=w.heap.size)(a2:∀b,sl.row=some b->sr.row≠some b)
  (hF:∀b,F b->¬Qdt sl sr b) (hk:Kids w F h (l.2++r.2)) (l2:3<=l.2.length) (r2:3<=r.2.length) (l8:l.2.length<=8) (r8:r.2.length<=8) (hx:l.2.length+r.2.length<=11) :
  Calls prog 147 #[.slice sl.a l.2.length sl.c,.slice sr.a r.2.length sr.c,.func (.func 54) #[] #[]] w λe w'=>QfZ F (h+1) l r w e w'/\St (Qdt sl sr) w w':=by
 have hG:∀b,Qdt sl sr b->b<w.heap.size:=λb N=>N.elim (λh=>(Qad hL h).2) (λh=>(Qad hR h).2)
 have a4:∀b,F b->b<w.heap.size/\¬Qdt sl sr b:=λb N=>⟨hk.lt b N,hF b N⟩
 have QfJ:∀(w':World) (a b:Nat) (zs a0:List (PT h)),(w<=a/\IsN w' (Up F w w') (h+1) (a,zs))->(w<=b/\IsN w' (Up F w w') (h+1) (b,a0))->
   QcG l.2 r.2=[zs,a0]->QfZ F (h+1) l r w (.returned (.tuple #[.pointer (some ⟨a,0,none⟩),.pointer (some ⟨b,0,none⟩)])) w':=λw' a b zs a0 ha N hp=>by
  refine⟨[((a,zs):PT (h+1)),((b,a0):PT (h+1))],rfl,⟨hp.symm,QiI (α:=PT (h+1)) ha.1 N.1⟩,QiI (α:=PT (h+1)) ha.2 N.2⟩
 by_cases h4:4<l.2.length
 ·obtain ⟨m,hm⟩:∃ m,l.2.length=m+1:=⟨l.2.length - 1,oM⟩
  have t1:(ptrs h l.2).take (m*1)=ptrs h (l.2.take m):=by rw[dv,Qcr]
  have t2:(ptrs h l.2).drop (m*1)++ptrs h r.2=ptrs h (l.2.drop m++r.2):=by rw[Qdb,QcW,dv]
  have a1:=hL;rw[hm]at a1 ⊢;refine(QnF (P1:=λa W'=>w<=a/\IsN W' (Up F w W') (h+1) (a,l.2.take m)) (P2:=λa W'=>w<=a/\IsN W' (Up F w W') (h+1) (a,l.2.drop m++r.2))
   a1 hR N a2 (QbF h l.2) (QbF h r.2) (Qmx h l.2) oM oM r8 (λW s Z I=>?_) (λW s Z I=>?_) (λa W W' hw h hs=>⟨h.1,QjO hG a4 hw.size h.2 hs⟩)).mono ?_
  ·rw [t1] at I
   exact QgC Z hF (by rw[aw];omega) (by rw[aw];omega) (by rw[aw];omega) I (by have:=hk.take m;rwa[bj oM]at this)
  ·rw [t2] at I
   exact QgC Z hF (by rw[aj,aA];omega) (by rw[aj,aA];omega) (by rw[aj,aA];omega) I (by have:=hk.drop m;rwa[List.drop_append_of_le_length oM]at this)
  rintro e w' ⟨a,b,rfl,-,-,h1,h2,hs⟩;refine⟨QfJ w' a b _ _ h1 h2 ?_,hs⟩;rw[QcG,ez oM,hm];rfl
 by_cases h5:4<r.2.length
 ·obtain ⟨m,hm⟩:∃ m,r.2.length=m+1:=⟨r.2.length - 1,oM⟩
  have t1:ptrs h l.2++(ptrs h r.2).take 1=ptrs h (l.2++r.2.take 1):=by rw[Qdb,Qcr]
  have t2:(ptrs h r.2).drop 1=ptrs h (r.2.drop 1):=by rw[QcW]
  have a3:=hR;rw[hm]at a3 ⊢;refine(Qlq (P1:=λa W'=>w<=a/\IsN W' (Up F w W') (h+1) (a,l.2++r.2.take 1)) (P2:=λa W'=>w<=a/\IsN W' (Up F w W') (h+1) (a,r.2.drop 1))
   hL a3 N a2 (QbF h l.2) (QbF h r.2) (Qmx h r.2) oM oM oM (λW s Z I=>?_) (λW s Z I=>?_) (λa W W' hw h hs=>⟨h.1,QjO hG a4 hw.size h.2 hs⟩)).mono ?_
  ·rw [t1] at I
   exact QgC Z hF (by rw[aj,aw];omega) (by rw[aj,aw];omega) (by rw[aj,aw];omega) I (by have:=hk.take (l.2.length+1);rwa[List.take_length_add_append]at this)
  ·rw [t2] at I
   exact QgC Z hF (by rw[aA];omega) (by rw[aA];omega) (by rw[aA];omega) I (by have:=hk.drop (l.2.length+1);rwa[cY]at this)
  rintro e w' ⟨a,b,rfl,-,-,h1,h2,hs⟩;refine⟨QfJ w' a b _ _ h1 h2 ?_,hs⟩;rw[QcG,ev oM,ez oM]
 have t1:ptrs h l.2++ptrs h r.2=ptrs h (l.2++r.2):=by rw[Qdb]
 refine(QnE (P1:=λa W'=>w<=a/\IsN W' (Up F w W') (h+1) (a,l.2++r.2)) hL hR N (QbF h r.2) oM oM (λW s Z I=>?_)).mono ?_
 ·rw [t1] at I
  exact QgC Z hF (by rw[aj]) (by rw[aj];omega) (by rw[aj];omega) I hk
 rintro e w' ⟨a,rfl,-,h1,hs⟩;refine⟨⟨[((a,l.2++r.2):PT (h+1))],rfl,⟨?_,QiG (α:=PT (h+1)) h1.1⟩,QiG (α:=PT (h+1)) h1.2⟩,hs⟩;show[l.2++r.2]=_;rw[QcG,ev oM,ev oM]
def Qbi(F:Nat->Prop)(base h:Nat)(s:Sl)(ks:List (PT h))(i:Nat)(w:World)(e:Ending)(w':World):Prop:=
 ∃(s':Sl) (ks':List (PT h)),e=.returned (.slice s'.a ks'.length s'.c)/\w'.ownsRow base 46 1 (.slice s'.a ks'.length s'.c) ks'.length (ptrs h ks')/\Qsu w.heap.size h ks i ks'/\(∀u∈ks',IsN w' (Up F w w') h u)/\St (λb=>s.row=some b) w w'
structure Qi5(w:World)(F:Nat->Prop)(base h:Nat)(s:Sl)(ks:List (PT h))(i:Nat)(l r:PT h):Prop where
 own:w.ownsRow base 46 1 (.slice s.a ks.length s.c) ks.length (ptrs h ks)
 base:base<=w.heap.size
 lt:∀b,F b->b<w.heap.size/\s.row≠some b
 isn:∀k∈ks,IsN w F h k
 ok:∀k∈ks,OkT h k/\3<=size h k
 hl:ks[i-1]? = some l
 hr:ks[i-1+1]? = some r
 sum:size h l+size h r<=11
 sorted:Sorted (ks.flatMap (ents h))
 few:(ks.flatMap (ents h)).length<=1000000
 n8:ks.length<=8
 hh:h<=1000000
variable{j:Nat}
theorem Qd3{ks:List (PT h)}{l r:PT h}(hs:Sorted (ks.flatMap (ents h)))(N:ks[j]? = some l)(I:ks[j+1]? = some r):Sorted (ents h l++ents h r):=by
 rw[QiU N I]at hs;simp only[List.flatMap_append,List.flatMap_cons]at hs;have h2:=(Qck hs).2.1;rw[<-aQ]at h2;exact(Qck h2).1
theorem QqH{ks:List (PT h)}{l r:PT h}(N:ks[j]? = some l)(I:ks[j+1]? = some r):(ents h l).length+(ents h r).length<=(ks.flatMap (ents h)).length:=by
 conv=>rhs;rw[QiU N I]
 simp only[List.flatMap_append,List.flatMap_cons,List.length_append];omega
theorem QeU{α:Type}{ks:List α}{l r:α}(N:ks[j]? = some l)(I:ks[j+1]? = some r)(a b:α):(ks.set j a).set (j+1) b=ks.take j++[a,b]++ks.drop (j+2):=by
 have h1:=(ai.1 N).1;have h2:=(ai.1 I).1
 conv=>lhs;rw[QiU N I]
 rw[dC _ _ (by rw[aw];omega),aw,bV oM,cF,am,dC _ _ (by rw[aw];omega),aw,bV oM,show j+1-j=1 from oM];simp
theorem QdX{α:Type}{ks:List α}{l r:α}(Z:ks[j]? = some l)(hr:ks[j+1]? = some r)(a:α):(ks.set j a).take (j+1)++(ks.set j a).drop (j+2)=ks.take j++[a]++ks.drop (j+2):=by
 have h1:=(ai.1 Z).1;rw[cf,ez h1];have I:(ks.take j++[a]).length=j+1:=by simp;omega
 have N:ks.take j++a::ks.drop (j+1)=(ks.take j++[a])++ks.drop (j+1):=sM
 rw[N,bj oM,aV oM,show j+2=(ks.take j++[a]).length+1 from oM,cY,ej,I]
theorem QiO{A B e size n:Nat}{v:Value}{xs:List Value}(h:w.ownsRow B e size v n xs)(Z:A<=B):w.ownsRow A e size v n xs:=by
 refine⟨h.1,?_⟩;rcases h.2 with hl |⟨g,I,N,hv,hg,r⟩
 .exact .inl hl
 exact .inr ⟨g,I,N,hv,ak Z hg,r⟩
variable{A B:Nat}
theorem OE.base(h:OE w B s xs)(I:A<=B):OE w A s xs:=⟨QiO h.own I,h.vals.mono λi hi=>⟨⟨Nat.le_trans I hi.1.1,hi.1.2⟩,hi.2⟩,h.few⟩
theorem QvW{ts:List (PT h)}(I:ts.length=1\/ts.length=2):∃u v,two h ts=.returned (.tuple #[u,v]):=by
 match ts,I with
 |[a],_=>exact⟨_,_,rfl⟩
 |[a,b],_=>exact⟨_,_,rfl⟩
theorem QrT{base h i:Nat}{ks:List (PT h)}{l r:PT h}(hm:Qi5 w F base h s ks i l r) :
  Calls prog 111 #[.slice s.a ks.length s.c,.int .i64 (i:Int)] w (Qbi F base h s ks i w):=by
 obtain⟨j,f8⟩:∃j,i-1=j:=⟨_,rfl⟩;have hj:j+1<ks.length:=by have:=(ai.1 hm.hr).1;omega
 obtain⟨g,a3,rfl,k6,l1,k8,e3⟩:=QaJ hm.own oM;have a2:=hm.own;have N:=hY hm;have f4:ks[j]? = some l:=by rw[<-f8];exact hm.hl
 have f3:ks[j+1]? = some r:=by rw[<-f8];exact hm.hr
 have cc:∀q u,(ptrs h ks)[q]? = some u->w.cell? ⟨g,q,none⟩=some u:=λq u hq=>by
  have:=a2.cells (g:=g) rfl q u hq;rwa[Qbc,aI]at this
 have cl:w.cell? ⟨g,j,none⟩=some (ptr h l):=cc j _ (by rw[ptrs,au,f4];rfl);have cr:w.cell? ⟨g,j+1,none⟩=some (ptr h r):=cc (j+1) _ (by rw[ptrs,au,f3];rfl);have j4:=aq f4;have k1:=aq f3;have j8:=e3.lt;have k7:=hm.n8;have k5:(j:Int)<(ks.length:Int):=oM
 have l2:(j:Int)+1<(ks.length:Int):=oM
 have l0:(0:Int)<=(j:Int):=oM
 have l4:(0:Int)<=(j:Int)+1:=oM
 have l3:((j:Int)+1).toNat=j+1:=oM
 obtain⟨b7,j9,a0,a1,j7⟩:=Yf f8 (λW (hW:Agree F w W)=>QaC ((hm.isn l j4).agree hW)) f4 f3 e3.frozen;clear a2 cc e3 hm f4 f3 j4 k1 f8;go_in;go_upto_region 1 with fail;go_cut [1] (λv wc=>v=.int .i64 (j:Int)/\w=wc)
 case first=>
  have h0:=b7.o;rcases i with _|i
  ·obtain rfl:0=j:=h0
   go_wp2_with fail;go_meet;exact⟨rfl,rfl⟩
  obtain rfl:i=j:=h0;go_wp2_with fail;go_meet;exact⟨by go_num,rfl⟩
 case rest=>
 obtain⟨rfl,rfl⟩:=hcut;have k9:IntKind.i64.wrap ((j:Int)+1)=(j:Int)+1:=by rw[eC];omega
 go_wp2_with fail;go_quiet (fail);go_wp2_with fail;have a7:Ext w (w.drewN nq):=(fQ w).drewN nq;refine(j9.o _ (Agree.drewN w nq)).mono ?_;rintro e w0 ⟨rfl,rfl⟩;generalize w.drewN nq=W at *;clear cl cr;go_upto_if 21 with fail;go_cut [5,6] (λv5 v6 wc=>∃ts:List (PT h),two h ts=.returned (.tuple #[v5,v6])/\Yd (Ext w wc/\Qeh w.heap.size h l r ts/\∀u∈ts,IsN wc (Up F w wc) h u))
 case first=>
  cases h with
  | zero=>
    have b6:=Qa5 (w:=W) ((((N.o.isn l (aq a0.o)).agree (a7.agree λb I=>(N.o.lt b I).1))).mono λb I=>ab (N.o.lt b I).1 a7.size);have g4:∀W',Ext W W'->Calls prog 76 #[ptr 0 r] W' (QaU (ents 0 r) W'):=λW' f9=>Qa5 ((((N.o.isn r (aq a1.o)).agree ((a7.trans f9).agree λb I=>(N.o.lt b I).1))).mono λb I=>ab (N.o.lt b I).1 (a7.trans f9).size)
    obtain⟨k2,c8⟩:=Yb g4 a7;clear g4 a7;go_wp2_with fail;refine b6.mono ?_;intro e w1 hp;obtain⟨sx,xs,rfl,i5,d0,c1⟩:=hp;obtain⟨g0,b8,e6⟩:=Yc i5 d0 c1;have c7:=k2.o w1 c1;clear b6 i5 d0 c1;go_wp2_with fail;refine c7.mono ?_;intro e w2 hp;obtain⟨sy,ys,rfl,d6,a9,a5⟩:=hp;have a6:∀b,sx.row=some b->W.heap.size<=b/\b<w1.heap.size:=λb I=>Qad b8.o.own I
    have a8:∀b,sy.row=some b->w1.heap.size<=b/\b<w2.heap.size:=λb I=>Qad a9.own I
    have d5:=e6.o.size;have g3:=a5.size;have b4:=b8.o.ext a5;have b3:OE w2 W.heap.size sy ys:=a9.base d5
    have i8:xs.length≤8:=by have:=(N.o.ok l (aq a0.o)).1;have e1:xs.length=l.2.length:=by rw [show l.2=ents 0 l from rfl,←g0.o,ar]
                            rw[e1];exact this
    have i9:ys.length≤8:=by have:=(N.o.ok r (aq a1.o)).1;have e1:ys.length=r.2.length:=by rw [show r.2=ents 0 r from rfl,←d6,ar]
                            rw[e1];exact this
    have g7:xs.length+ys.length<=11:=by
     have e1:xs.length=size 0 l:=by rw[show size 0 l=(ents 0 l).length from rfl,<-g0.o,ar]
     have e2:ys.length=size 0 r:=by rw[show size 0 r=(ents 0 r).length from rfl,<-d6,ar]
     rw[e1,e2];exact N.o.sum
    have e4:Qbv (xs++ys):=Qc0 (by rw[aH,g0.o,d6];exact Qd3 N.o.sorted a0.o a1.o);have f2:=Qka b4 b3 (ak d5 g3) (λb I f1=>by have:=a6 b I;have:=a8 b f1;omega)
     (λx Z=>⟨((b8.o.vals x Z).1.agree (a5.agree λb I=>I.1.2)).mono λb I=>⟨Nat.lt_of_lt_of_le I.1.2 g3,λh=>h.elim (λh=>I.2 h) (λh=>by have:=a8 b h;have:=I.1.2;omega)⟩,(b8.o.vals x Z).2⟩)
     (λx Z=>⟨(a9.vals x Z).1.mono λb I=>⟨I.1.2,λh=>h.elim (λh=>by have:=a6 b h;have:=I.1.1;omega) (λh=>I.2 h)⟩,(a9.vals x Z).2⟩)
     e4 i8 i9 g7 (l:=l) (r:=r) g0.o d6
    have c0:=c8.o.trans (e6.o.trans a5);obtain⟨c2,i0,i3⟩:=Yc c0 a6 a8;have k3:=c8.o.size;clear c7 d6 a9 a5 a6 a8 b4 b3 e4 i8 i9 g7 c0;go_wp2_with fail;refine f2.mono ?_;rintro e w3 ⟨⟨ts,rfl,hP,hI⟩,e7⟩;have a4:Yd (Ext w w3/\Qeh w.heap.size 0 l r ts/\∀u∈ts,IsN w3 (Up F w w3) 0 u):=hY ⟨c2.o.step e7 (λb I=>I.elim (λh=>by have:=i0.o b h;omega) (λh=>by have:=i3.o b h;omega)),hP.mono (c2.o.size),λu hu=>(hI u hu).mono λi hi=>hi.elim (λh=>h.elim) λh=>.inr ⟨Nat.le_trans c2.o.size h.1,h.2⟩⟩;clear f2 hP hI e7;obtain⟨u,v,c6⟩:=QvW (a4.o.2.1.len);rw[c6];go_wp2_with fail;go_meet;exact⟨ts,c6,a4⟩
  | succ h=>
    have hz:(((h:Int)+1)==0)=false:=eA.2 oM;have i4:∀W',Ext W W'->∀x,x∈ks->Calls prog 67 #[ptr (h+1) x] W' (Qet 46 x.2.length (ptrs h x.2) W'):=λW' f9 x Z=>Qb9 ((N.o.isn x Z).agree ((a7.trans f9).agree λb I=>(N.o.lt b I).1)) (by have:=(N.o.ok x Z).1.2.1;omega)
    have b6:=i4 W (fQ W) l (aq a0.o);obtain⟨j5,c8⟩:=Yb i4 a7;clear i4 a7;go_wp2_with fail;refine b6.mono ?_;rintro e w1 ⟨sx,rfl,d0,c1⟩;obtain⟨b8,e6⟩:=Yb d0 c1;have c7:=j5.o w1 c1 r (aq a1.o);clear b6 d0 c1;go_wp2_with fail;refine c7.mono ?_;rintro e w2 ⟨sy,rfl,a9,a5⟩;have a6:∀b,sx.row=some b->W.heap.size<=b/\b<w1.heap.size:=λb I=>Qad b8.o I
    have a8:∀b,sy.row=some b->w1.heap.size<=b/\b<w2.heap.size:=λb I=>Qad a9 I
    have d5:=e6.o.size;have g3:=a5.size;have k3:=c8.o.size;have b4:w2.ownsRow W.heap.size 46 1 (.slice sx.a l.2.length sx.c) l.2.length (ptrs h l.2):=Qab b8.o (a5.agree (F:=Lt w1) λ_ h=>h) λb I=>(a6 b I).2
    have b3:w2.ownsRow W.heap.size 46 1 (.slice sy.a r.2.length sy.c) r.2.length (ptrs h r.2):=QiO a9 d5;have c4:=N.o.ok l (aq a0.o);have d3:=N.o.ok r (aq a1.o);have c0:=c8.o.trans (e6.o.trans a5);have j3:=Qd3 N.o.sorted a0.o a1.o;have i7:=QqH (ks:=ks) a0.o a1.o;have d7:∀x∈l.2++r.2,OkT h x/\4<=size h x/\IsN w F h x:=λx Z=>by
     rcases aS.1 Z with Z|Z
     .exact ⟨(c4.1.2.2 x Z).1,(c4.1.2.2 x Z).2,(N.o.isn l (aq a0.o)).2.choose_spec.2.2 x Z⟩
     exact⟨(d3.1.2.2 x Z).1,(d3.1.2.2 x Z).2,(N.o.isn r (aq a1.o)).2.choose_spec.2.2 x Z⟩
    have f0:∀x∈l.2++r.2,0<(ents h x).length:=λx Z=>Qbk h x (d7 x Z).1 (by have:=(d7 x Z).2.1;omega)
    have g5:Sorted ((l.2++r.2).flatMap (ents h)):=by rw[aN];exact j3
    have c9:Kids w2 F h (l.2++r.2):=⟨λb I=>ab (N.o.lt b I).1 c0.size,λx Z=>(d7 x Z).2.2.agree (c0.agree λb I=>(N.o.lt b I).1),QdI g5 f0,f0,λx Z=>by have:=Qdf (d7 x Z).1;omega,by
     unfold cnt;rw[aN,aj];have h1:(ents (h+1) l).length+(ents (h+1) r).length<=1000000:=ak i7 N.o.few;have h2:(l.2.flatMap (ents h)).length=(ents (h+1) l).length:=rfl;have h3:(r.2.flatMap (ents h)).length=(ents (h+1) r).length:=rfl;omega,by have:=N.o.hh;omega⟩
    have f2:=Qkc (F:=F) (l:=l) (r:=r) b4 b3 (ak d5 g3) (λb I f1=>by have:=a6 b I;have:=a8 b f1;omega)
     (λb I f1=>by
       have:=(N.o.lt b I).1;rcases f1 with h|h
       .have:=a6 b h;omega
       have:=a8 b h;omega) c9 c4.2 d3.2 c4.1.2.1 d3.1.2.1 N.o.sum
    obtain⟨c2,i0,i3⟩:=Yc c0 a6 a8;clear c7 a9 a5 a6 a8 b4 b3 c0 j3 i7 d7 f0 g5 c9 c4 d3;go_wp2_with fail;refine f2.mono ?_;rintro e w3 ⟨⟨ts,rfl,hP,hI⟩,e7⟩;have a4:Yd (Ext w w3/\Qeh w.heap.size (h+1) l r ts/\∀u∈ts,IsN w3 (Up F w w3) (h+1) u):=hY ⟨c2.o.step e7 (λb I=>I.elim (λh=>by have:=i0.o b h;omega) (λh=>by have:=i3.o b h;omega)),hP.mono (c2.o.size),λu hu=>(hI u hu).mono λi hi=>hi.imp_right λh=>⟨Nat.le_trans c2.o.size h.1,h.2⟩⟩;clear f2 hP hI e7;obtain⟨u,v,c6⟩:=QvW (a4.o.2.1.len);rw[c6];go_wp2_with fail;go_meet;exact⟨ts,c6,a4⟩
 case rest=>
 obtain⟨ts,i6,a4⟩:=hcut;obtain⟨c3,hP,hI⟩:=a4.o;have b9:wc.ownsRow base 46 1 (.slice (some ⟨g,0,none⟩) ks.length a3) ks.length (ptrs h ks):=Qab (s:=⟨some ⟨g,0,none⟩,a3⟩) N.o.own (c3.agree (F:=Lt w) λ_ h=>h) λb I=>(Qad N.o.own I).2
 have k4:∀o,wc.frozen? ⟨g,o,none⟩=false:=λo=>(c3.frozen j8).trans (j7.o o)
 have i1:∀q u,(ptrs h ks)[q]? = some u->wc.cell? ⟨g,q,none⟩=some u:=λq u hq=>by
  have:=b9.cells (g:=g) rfl q u hq;rwa[Qbc,aI]at this
 have dl:wc.cell? ⟨g,j,none⟩=some (ptr h l):=i1 j _ (by rw[ptrs,au,a0.o];rfl);have dr:wc.cell? ⟨g,j+1,none⟩=some (ptr h r):=i1 (j+1) _ (by rw[ptrs,au,a1.o];rfl);have j0:j<ks.length:=oM
 obtain⟨e8,g9,HP,HI⟩:=Ye b9 c3 hP hI;have b0:=hP.len;have j2:∀W' x,F x\/(w.heap.size<=x/\x<W')->x≠g:=λW' x Z e=>by
  subst e;rcases Z with h|h
  .exact (N.o.lt x h).2 rfl
  omega
 have f6:∀x,F x->x<w.heap.size:=λx Z=>(N.o.lt x Z).1
 have j1:∀k∈ks,IsN wc (Up F w wc) h k:=λk hk=>((N.o.isn k hk).agree (c3.agree f6)).mono λi hi=>.inl hi
 obtain⟨f7,f5⟩:=Yb j1 j2;clear b9 i1 c3 hP hI j1 j2;rcases b0 with b0|b0
 ·obtain ⟨a,rfl⟩:=List.length_eq_one_iff.1 b0
  cases(show Ending.returned (.tuple #[ptr h a,.pointer none])=_ from i6);have b5:∀w5,Wr (wc.setCell ⟨g,j,none⟩ (ptr h a)) w5 (some g)->w5.ownsRow base 46 1 (.slice (some ⟨g,0,none⟩) (ks.length-1) a3) (ks.length-1) (((ptrs h ks).set j (ptr h a)).take ((j+1)*1)++((ptrs h ks).set j (ptr h a)).drop ((j+1+1)*1))->
    Qbi F base h ⟨some ⟨g,0,none⟩,a3⟩ ks i w (.returned (.slice (some ⟨g,0,none⟩) (ks.length-1) a3)) w5:=λw5 g8 a2=>by
   have hz:wc.heap.size<=w5.heap.size:=by have:=g8.grown.size;rwa[eG]at this
   have i2:Agree (Up F w wc) wc w5:=(fV wc ⟨g,j,none⟩ _ (λh=>f5.o _ g h rfl)).trans (g8.agree (λi hi=>by rw[eG];exact hi.elim (λh=>ab (f6 i h) g9.o.size) λh=>h.2) (λk hk h=>by cases hk;exact f5.o _ g h rfl));have k0:∀i,Up F w wc i->Up F w w5 i:=λi hi=>hi.imp_right λh=>⟨h.1,ab h.2 hz⟩
   have e0:(ptrs h ks).set j (ptr h a)=ptrs h (ks.set j a):=by rw[ptrs,ptrs,dy]
   have e1:((ptrs h ks).set j (ptr h a)).take ((j+1)*1)++((ptrs h ks).set j (ptr h a)).drop ((j+1+1)*1)=ptrs h (ks.take j++[a]++ks.drop (j+2)):=by
    rw[e0,dv,dv,<-Qcr,<-QcW,<-Qdb,QdX a0.o a1.o]
   have e2:(ks.take j++[a]++ks.drop (j+2)).length=ks.length-1:=by simp only[List.length_append,List.length_take,List.length_drop,List.length_cons,List.length_nil];omega
   rw[e1]at a2;refine⟨⟨some ⟨g,0,none⟩,a3⟩,ks.take j++[a]++ks.drop (j+2),by rw[e2],by rw[e2];exact a2,⟨l,r,[a],by rw[b7.o];exact a0.o,by rw[b7.o];exact a1.o,HP.o,by rw[b7.o]⟩,λu hu=>?_,(((g9.o.st (λb=>(⟨some ⟨g,0,none⟩,a3⟩:Sl).row=some b)).set (p:=⟨g,j,none⟩) (.inr rfl) _).trans (g8.st λi hi=>hi))⟩;refine IsN.mono k0 (IsN.agree i2 ?_);rcases aS.1 hu with hu|hu
   ·rcases aS.1 hu with hu | hu
    .exact f7.o u (bn hu)
    exact HI.o u hu
   exact f7.o u (aP hu)
  have hd:=Qf2 (s:=⟨some ⟨g,0,none⟩,a3⟩) (n:=ks.length) (xs:=(ptrs h ks).set j (ptr h a)) (i:=j+1) (Qbt e8.o j0 (ptr h a)) oM oM (λu hu=>by
   rcases cu hu with hu|rfl
   .exact QbF h ks u hu
   rfl)
  have q1:((j+1:Nat):Int)=((j:Int)+1):=oM
  have q2:((j:Int)+1)+1=((j:Int)+2):=oM
  rw[q1,q2]at hd;obtain⟨HD,d4⟩:=Yb hd b5;clear hd b5 q1 q2 f6;go_wp2_with fail;refine HD.o.mono ?_;rintro e w5 ⟨rfl,d8,g6⟩;have j6:=hY (d4.o w5 g6 d8);clear d8 g6;go_wp2_with fail;go_ret;exact j6.o
 obtain⟨a,b,rfl⟩:∃a b,ts=[a,b]:=by
  match ts,b0 with
  |[a,b],_=>exact⟨a,b,rfl⟩
 cases(show Ending.returned (.tuple #[ptr h a,ptr h b])=_ from i6);have b5:Qbi F base h ⟨some ⟨g,0,none⟩,a3⟩ ks i w (.returned (.slice (some ⟨g,0,none⟩) ks.length a3)) ((wc.setCell ⟨g,j,none⟩ (ptr h a)).setCell ⟨g,j+1,none⟩ (ptr h b)):=by
  have i2:Agree (Up F w wc) wc ((wc.setCell ⟨g,j,none⟩ (ptr h a)).setCell ⟨g,j+1,none⟩ (ptr h b)):=(fV wc ⟨g,j,none⟩ _ (λh=>f5.o _ g h rfl)).trans (fV _ ⟨g,j+1,none⟩ _ (λh=>f5.o _ g h rfl));have e0:((ptrs h ks).set j (ptr h a)).set (j+1) (ptr h b)=ptrs h ((ks.set j a).set (j+1) b):=by rw[ptrs,ptrs,dy,dy]
  have e2:(ks.take j++[a,b]++ks.drop (j+2)).length=ks.length:=by simp only[List.length_append,List.length_take,List.length_drop,List.length_cons,List.length_nil];omega
  have a2:=Qbt (Qbt e8.o j0 (ptr h a)) (i:=j+1) oM (ptr h b);rw[e0,QeU a0.o a1.o]at a2;refine⟨⟨some ⟨g,0,none⟩,a3⟩,ks.take j++[a,b]++ks.drop (j+2),by rw[e2],by rw[e2];exact a2,⟨l,r,[a,b],by rw[b7.o];exact a0.o,by rw[b7.o];exact a1.o,HP.o,by rw[b7.o]⟩,λu hu=>?_,(((g9.o.st (λb=>(⟨some ⟨g,0,none⟩,a3⟩:Sl).row=some b)).set (p:=⟨g,j,none⟩) (.inr rfl) _).set (p:=⟨g,j+1,none⟩) (.inr rfl) _)⟩;refine IsN.mono (λi hi=>hi.imp_right λh=>⟨h.1,by simpa using h.2⟩) (IsN.agree i2 ?_);rcases aS.1 hu with hu|hu
  ·rcases aS.1 hu with hu | hu
   .exact f7.o u (bn hu)
   exact HI.o u hu
  exact f7.o u (aP hu)
 have d4:=hY b5;clear b5 f6;go_wp2_with fail;go_ret;exact d4.o
def QsU(nv:Value)(es:List Ent)(k:ByteArray)(w:World)(e:Ending)(w':World):Prop:=
 Ext w w'/\((Qaq es k=none/\e=.returned (.tuple #[nv,.bool false]))\/
  ((Qaq es k).isSome=true/\∃u:PT 0,e=.returned (.tuple #[ptr 0 u,.bool true])/\u.2=QbM es k/\w.heap.size<=u.1/\IsN w' (In w.heap.size w'.heap.size) 0 u))
theorem Qke{es:List Ent}(hs:Sorted es)(k:ByteArray):decide ((es[Qct es k]?).map Prod.fst=some k)=(Qaq es k).isSome:=by
 rw[Qit hs];cases N:es[Qct es k]? with
 |none=>simp
 |some e=>by_cases I:e.1=k<;>simp[I]
variable{nv:Value}
theorem QdP{es:List Ent}(hp:∃p,nv=.pointer p)(hh:Calls prog 66 #[nv] w λe w'=>e=.returned (.int .i64 0)/\w=w')(he:Calls prog 76 #[nv] w (QaU es w))
  (hs:Sorted es) (h8:es.length<=8) (k:ByteArray):Calls prog 75 #[nv,.string k] w (QsU nv es k w):=by
 obtain⟨pp,rfl⟩:=hp;have HS:=hY hs;clear hs;go_in;go_wp2_with fail;refine hh.mono ?_;rintro e w1 ⟨rfl,rfl⟩;go_wp2_with fail;refine he.mono ?_;intro e w1 hp;obtain⟨s,xs,rfl,Z,ho,b8⟩:=hp;have I:=Qkd (w:=w1) (s:=s) (xs:=xs) (ho.es.mono λi hi=>hi.2) k (by rw[Z];exact HS.o);rw[Z]at I;have b7:xs.length=es.length:=by rw[<-Z,ar]
 obtain⟨c1,HO,b4⟩:=Yc Z ho b8;have c7:xs.length<=8:=oM
 have c3:=hY b7;obtain⟨p,hp⟩:∃p,Qct es k=p:=⟨_,rfl⟩;unfold Qgf at I;rw[Qke HS.o,hp]at I;have HP:=hY hp;clear Z ho b8 he hh b7 hp;cases hg:Qaq es k with
 | none=>
   rw[hg]at I;have HG:=hY hg;clear hg;go_wp2_with fail;refine I.mono ?_;rintro e w2 ⟨rfl,N⟩;have a7:=hY (b4.o.trans N);clear I N;go_wp2_with fail;go_ret2;exact⟨a7.o,.inl ⟨HG.o,rfl⟩⟩
 | some v=>
   rw[hg]at I;have c2:p<xs.length:=by
    have h1:=Qit HS.o k;rw[hg,HP.o]at h1;rcases d9 p xs.length with h|h
    .exact h
    rw[aL (by rw[<-c3.o];exact h)]at h1;cases h1
   have b5:QbM es k=es.take p++es.drop (p+1):=by
    have h1:=Qre HS.o k;have h2:=Qke HS.o k;rw[hg]at h2;rw[ez (of_decide_eq_true h2),HP.o]at h1;exact h1
   obtain⟨HG,c4⟩:=Yb hg b5;have c6:IntKind.i64.wrap ((p:Int)+1)=(p:Int)+1:=by rw[eC];omega
   clear hg b5;go_wp2_with fail;refine I.mono ?_;rintro e w2 ⟨rfl,N⟩;have a4:=HO.o.ext N;have hd:=Qrd (i:=p) a4.own oM c2 (QbX xs);obtain⟨a8,a7⟩:=Yb a4 (b4.o.trans N);clear I N a4;go_wp2_with fail;refine hd.mono ?_;rintro e w3 ⟨rfl,a0,a1⟩;have a2:∀i,s.row=some i->w.heap.size<=i/\i<w2.heap.size:=λi hi=>Qad a8.o.own hi
   have e1:(QaD xs).take (p*7)++(QaD xs).drop ((p+1)*7)=QaD (xs.take p++xs.drop (p+1)):=by rw[QcS,QcQ,Qcp]
   rw[e1]at a0;have a9:Ext w w3:=a7.o.wr a1 (λi hi=>(a2 i hi).1);have b0:ES w3 (Lt w3) s (xs.take p++xs.drop (p+1)):=QuN (by rw[aj,aw,aA];omega) ((fZ a0).mono λi hi=>hi.2)
    (λx hx=>by
      have b3:x∈xs:=by
       rcases aS.1 hx with hx|hx
       .exact bn hx
       exact aP hx
      exact⟨((a8.o.vals x b3).1.agree (a1.agree (λi hi=>hi.1.2) (λk hk h=>h.2 hk))).mono λi hi=>ab hi.1.2 a1.grown.size,(a8.o.vals x b3).2⟩) (by rw[aj,aw,aA];omega)
   have a5:(xs.take p++xs.drop (p+1)).map LE.ent=QbM es k:=by rw[aH,cU,cO,c1.o,c4.o]
   have a3:=QdM (n:=xs.length-1) b0 (by rw[aj,aw,aA];omega) (Qc0 (by rw[a5];exact QaN HS.o k)) (by rw[aj,aw,aA];omega);rw[a5]at a3;have a6:=hY a9;clear hd a0 a1 a2 e1 a9 b0 a5;go_wp2_with fail;refine a3.mono ?_;rintro e w4 ⟨u,rfl,hu,c0,b6,b9⟩;have HU:=hY b6;clear a3 b6;go_wp2_with fail;go_ret2;exact⟨a6.o.trans b9,.inr ⟨by rw[HG.o];rfl,u,rfl,hu,ak a6.o.size c0,HU.o.mono λi hi=>⟨Nat.le_trans a6.o.size hi.1,hi.2⟩⟩⟩
def Qow(F:Nat->Prop)(h:Nat)(t:PT h)(k:ByteArray)(w:World)(e:Ending)(w':World):Prop:=
 Ext w w'/\((Qaq (ents h t) k=none/\e=.returned (.tuple #[ptr h t,.bool false]))\/
  ((Qaq (ents h t) k).isSome=true/\∃u:PT h,e=.returned (.tuple #[ptr h u,.bool true])/\Qi3 w.heap.size k h t u/\IsN w' (Up F w w') h u))
def QsV(F:Nat->Prop)(h:Nat)(t:PT (h+1))(k:ByteArray)(w:World)(e:Ending)(w':World):Prop:=
 Ext w w'/\((Qaq (ents (h+1) t) k=none/\e=.returned (.tuple #[ptr (h+1) t,.bool false]))\/
  ((Qaq (ents (h+1) t) k).isSome=true∧∃ ks':List (PT h),QmO w.heap.size k h (Qi3 w.heap.size k h) t.2 ks'∧
    ((∃ u,ks'=[u]∧e=.returned (.tuple #[ptr h u,.bool true])∧IsN w' (Up F w w') h u)∨
     (2<=ks'.length/\∃c:PT (h+1),c.2=ks'/\w.heap.size<=addr (h+1) c/\e=.returned (.tuple #[ptr (h+1) c,.bool true])/\IsN w' (Up F w w') (h+1) c))))
def QsO(F:Nat->Prop)(h:Nat)(ks':List (PT h))(w:World)(e:Ending)(w':World):Prop:=
 Ext w w'/\((∃u,ks'=[u]/\e=.returned (ptr h u)/\IsN w' (Up F w w') h u)\/(2<=ks'.length/\∃c:PT (h+1),c.2=ks'/\w.heap.size<=addr (h+1) c/\e=.returned (ptr (h+1) c)/\IsN w' (Up F w w') (h+1) c))
variable{w6:World}
theorem Qg5{k:ByteArray}{t:PT (h+1)}{s6:Sl}{I:List (PT h)}(hF:∀b,F b->b<w.heap.size)(ok:OkT (h+1) t)(hs:Sorted (ents (h+1) t))(hc:(ents (h+1) t).length<=1000000)(hh:h+1<1000000)(hg:(Qaq (ents (h+1) t) k).isSome=true)
  (hX:Ext w w6) (Z:w6.ownsRow w.heap.size 46 1 (.slice s6.a I.length s6.c) I.length (ptrs h I)) (hD:QmO w.heap.size k h (Qi3 w.heap.size k h) t.2 I) (hI:∀u∈I,IsN w6 (Up F w w6) h u) :
  Calls prog 54 #[.slice s6.a I.length s6.c] w6 λe w'=>QsO F h I w e w':=by
 obtain⟨h1,h2,h3⟩:=Qdw hD ok hs hg;have a7:=ok.1;have a8:=ok.2.1;by_cases a1:I.length=1
 ·obtain ⟨u,rfl⟩:=List.length_eq_one_iff.1 a1
  refine(Qoh (s:=s6) (k:=u) (fZ Z)).mono ?_;rintro e w' ⟨rfl,rfl⟩;exact⟨hX,.inl ⟨u,rfl,rfl,hI u (bc.2 rfl)⟩⟩
 have a2:=hD.ents hs (QbU ok) oM (λx y N hr=>hr.ents (ok.2.2 x N).1 (QaL hs x N));have a4:Sorted (I.flatMap (ents h)):=by rw[a2];exact QaN hs k
 have a0:∀x∈I,0<(ents h x).length:=λx N=>Qbk h x (h1 x N).1 (by have:=(h1 x N).2;omega)
 have hk:Kids w6 (Up F w w6) h I:=⟨λb hb=>hb.elim (λh=>ab (hF b h) hX.size) λh=>h.2,hI,QdI a4 a0,a0,λx N=>by have:=Qdf (h1 x N).1;omega,by
  unfold cnt;rw[a2];have h5:(QbM (t.2.flatMap (ents h)) k).length<=(t.2.flatMap (ents h)).length:=(Qa3 _ k).length_le;have h6:(t.2.flatMap (ents h)).length<=1000000:=hc;omega,oM⟩
 refine(Qcl ((fZ Z).mono λi hi=>hi.2) rfl hk oM oM).mono ?_;rintro e w' ⟨c,rfl,a5,a3,a6,N⟩;refine⟨hX.trans N,.inr ⟨oM,c,a5,ak hX.size a3,rfl,a6.mono λi hi=>?_⟩⟩;rcases hi with(hi|hi)|hi
 .exact .inl hi
 .exact .inr ⟨hi.1,ab hi.2 N.size⟩
 exact .inr ⟨Nat.le_trans hX.size hi.1,hi.2⟩
theorem QfK{k:ByteArray}
  (ih:∀(w:World) (F:Nat->Prop) (t:PT h),(∀b,F b->b<w.heap.size)->IsN w F h t->OkT h t->4<=size h t->Sorted (ents h t)->(ents h t).length<=1000000->Calls prog 75 #[ptr h t,.string k] w (Qow F h t k w))
 {t:PT (h+1)} (hF:∀ b,F b→b<w.heap.size) (hn:IsN w F (h+1) t) (ok:OkT (h+1) t) (hs:Sorted (ents (h+1) t)) (hc:(ents (h+1) t).length≤1000000) :
  Calls prog 75 #[ptr (h+1) t,.string k] w (QsV F h t k w):=by
 have c7:=QbU ok;have hh:h+1<1000000:=ab (QcT (h+1) t ok (by have:=ok.1;show 1<=t.2.length;omega)) hc;obtain⟨I,N,hA,hC⟩:=Qa6 (h:=h) (ks:=t.2) hs c7 (by have:=ok.1;omega) k;have a1:=aq N;have k9:=(ai.1 N).1;have k3:=ok.2.1;have k8:=ok.1;have c2:∀x∈t.2,IsN w F h x:=hn.2.choose_spec.2.2;have c6:(ents h I).length<=1000000:=ak (by
  show _<=(t.2.flatMap (ents h)).length;rw[QbI N];simp only[List.flatMap_append,List.flatMap_cons,List.length_append];omega) hc
 have f5:Qaq (ents (h+1) t) k=Qaq (ents h I) k:=Qf3 N hA hC;have b0:∀W,Ext w W->Calls prog 75 #[ptr h I,.string k] W (Qow F h I k W):=λW hW=>
  ih W F I (λb Z=>ab (hF b Z) hW.size) ((c2 I a1).agree (hW.agree hF)) (ok.2.2 I a1).1 (ok.2.2 I a1).2 (QaL hs I a1) c6
 have j6:∀B u,(Qaq (ents (h+1) t) k).isSome=true->Qi3 B k h I u->OkT h u/\size h I<=size h u+1/\size h u<=size h I:=λB u hg hr=>hr.ok (ok.2.2 I a1).1 (ok.2.2 I a1).2 (QaL hs I a1) (by rw[<-f5];exact hg)
 obtain⟨HF,HN,HS,HP,k5,i5,a3⟩:=Yh hF hn hs c7 b0 c2 N;obtain⟨g9,b3,HC,k7⟩:=Ye f5 ok hc j6;have n7:(((h:Int)+1)==0)=false:=eA.2 oM;clear hF hn ok hs hc c7 b0 c2 N hA hC ih c6 f5 j6;go_in;go_wp2_with fail;refine(QaC HN.o).mono ?_;rintro e w1 ⟨rfl,rfl⟩;have c6:=Qb9 HN.o oM;go_wp2_with fail;refine c6.mono ?_;rintro e w1 ⟨s',rfl,c3,d6⟩;have g3:Rd w1 (Lt w1) 1 s' t.2.length (ptrs h t.2):=(fZ c3).mono λi hi=>hi.2
 have f2:=Qg3 g3 (λx hx=>(i5.o x hx).agree (d6.agree HF.o)) (λb Z=>ab (HF.o b Z) d6.size) HP.o k HS.o oM;obtain⟨i,hi⟩:∃i,Qaw h t.2 k=i:=⟨_,rfl⟩;rw[hi]at f2 k9;obtain⟨HI,j9,e6,l5⟩:=Ye hi f2 c3 d6;clear hi f2 c3 g3 c6 d6;go_wp2_with fail;refine j9.o.mono ?_;rintro e w2 ⟨rfl,e8⟩;have f4:=l5.o.trans e8;obtain⟨g,a0,rfl,b5,o1,n8,i9⟩:=QaJ e6.o oM;have d4:w2.ownsRow w.heap.size 46 1 (.slice (some ⟨g,0,none⟩) t.2.length a0) t.2.length (ptrs h t.2):=Qab (s:=⟨some ⟨g,0,none⟩,a0⟩) e6.o (e8.agree (F:=Lt w1) λ_ h=>h) λb Z=>(Qad e6.o Z).2
 have l2:w2.cell? ⟨g,i,none⟩=some (ptr h I):=by
  have:=d4.cells (g:=g) rfl i (ptr h I) (by rw[ptrs,au,<-HI.o,a3.o];rfl);rwa[Qbc,aI]at this
 have l8:(i:Int)<(t.2.length:Int):=oM
 have k2:g<w2:=(Qad (s:=⟨some ⟨g,0,none⟩,a0⟩) d4 rfl).2;have b0:=k5.o w2 f4;obtain⟨i7,c4⟩:=Yb d4 f4;clear e8 d4 f4 i9;go_wp2_with fail;refine b0.mono ?_;rintro e w3 ⟨a4,(⟨hg,rfl⟩ |⟨hg,u,rfl,d0,i1⟩)⟩
 ·have j7:=hY (c4.o.trans a4)
  have HG:=hY hg;clear a4 hg b0;go_wp2_with fail;go_ret2;exact⟨j7.o,.inl ⟨by rw[g9.o];exact HG.o,rfl⟩⟩
 have e4:(Qaq (ents (h+1) t) k).isSome=true:=by rw[g9.o];exact hg
 obtain⟨ou,o4,o2⟩:=k7.o _ u e4 d0;have g5:3<=size h u:=by have:=(b3.o.2.2 I (aq a3.o)).2;omega
 have l9:size h u<=8:=Qdf ou;have n2:=a4.size;have i2:=c4.o.size;have f7:∀b,Up F w2 w3 b->b≠g:=λb Z e=>by
  subst e;rcases Z with Z|Z
  .have:=HF.o _ Z;have b5:w<=b:=b5;omega
  omega
 have a6:w3.ownsRow w.heap.size 46 1 (.slice (some ⟨g,0,none⟩) t.2.length a0) t.2.length (ptrs h t.2):=Qab (s:=⟨some ⟨g,0,none⟩,a0⟩) i7.o (a4.agree (F:=Lt w2) λ_ h=>h) λb Z=>(Qad (s:=⟨some ⟨g,0,none⟩,a0⟩) i7.o Z).2
 have a5:=Qbt a6 (i:=i) oM (ptr h u);have e0:(ptrs h t.2).set i (ptr h u)=ptrs h (t.2.set i u):=by rw[ptrs,ptrs,dy]
 rw[e0]at a5;have l6:w3.cell? ⟨g,i,none⟩=some (ptr h I):=(a4.cell k2).trans l2;have l4:∀o,w3.frozen? ⟨g,o,none⟩=false:=by
  obtain⟨g',g4,e1,-,-,-,c8⟩:=QaJ (s:=⟨some ⟨g,0,none⟩,a0⟩) a6 oM;obtain⟨rfl,rfl⟩:g=g'/\a0=g4:=by simpa using e1
  exact c8.frozen
 have i3:=(c4.o.trans a4).setCell (p:=⟨g,i,none⟩) b5 (ptr h u);have c0:Agree (Up F w2 w3) w3 (w3.setCell ⟨g,i,none⟩ (ptr h u)):=fV w3 ⟨g,i,none⟩ _ (λh=>f7 g h rfl);have f1:∀x∈t.2.set i u,IsN (w3.setCell ⟨g,i,none⟩ (ptr h u)) (Up F w2 w3) h x:=λx hx=>by
  rcases cu hx with hx|rfl
  .exact (((i5.o x hx).agree ((c4.o.trans a4).agree HF.o)).mono λb Z=>.inl Z).agree c0
  exact i1.agree c0
 have j0:=f1 u (List.mem_set oM u);have i4:=Qf8 j0 oM;have j5:(w3.setCell ⟨g,i,none⟩ (ptr h u)).heap.size=w3.heap.size:=sM
 have d7:=d0.mono i2;have N:=a3.o;rw[HI.o]at N;have i0:∀d3,((4<=size h u/\d3=t.2.set i u)\/(size h u<4/\Qsu w.heap.size h (t.2.set i u) i d3))->QmO w.heap.size k h (Qi3 w.heap.size k h) t.2 d3:=λd3 c2=>by
  refine⟨I,u,a3.o,d7,?_⟩;rw[HI.o];exact c2
 have f0:(t.2.set i u).flatMap (ents h)=QbM (t.2.flatMap (ents h)) k:=by
  obtain⟨n4,f6,hA,hC⟩:=Qa6 (h:=h) (ks:=t.2) HS.o HP.o oM k;rw[a3.o]at f6;simp only[Option.some.injEq]at f6;subst f6;rw[HI.o]at hA hC;rw[set_mid N];simp only[List.flatMap_append,List.flatMap_cons];have e1:=d0.ents (b3.o.2.2 I (aq N)).1 (QaL HS.o I (aq N))
  conv=>rhs;rw[QbI N]
  rw[aN,aZ,Qik hA,Qgu hC,e1]
 have i6:Sorted ((t.2.set i u).flatMap (ents h)):=by
  rw[f0];exact QaN HS.o k
 have c8:((t.2.set i u).flatMap (ents h)).length<=1000000:=by
  rw[f0];exact ak (Qa3 _ k).length_le HC.o
 obtain⟨l3,HU,j2,k4,k6,j8,k1⟩:=Yh c8 i4 i0 i3 a5 f1 i6;obtain⟨a9,l7,l0⟩:=Yc e4 ou f7;have n6:g<w3:=oM
 clear b0 hg d0 i1 e4 ou a6 a5 e0 i3 c0 f1 j0 i4 d7 N i0 f0 i6 c8 a4 f7;go_wp2_with fail;generalize k0:World.setCell _ _ _=W4 at *;refine HU.o.mono ?_;rintro e w5 ⟨rfl,q,rfl⟩;have g7:=k4.o.drewN q;have d8:Agree (Up F w2 w3) W4 (W4.drewN q):=Agree.drewN W4 q;have f8:(W4.drewN q).ownsRow w.heap.size 46 1 (.slice (some ⟨g,0,none⟩) t.2.length a0) t.2.length (ptrs h (t.2.set i u)):=k6.o;have i8:(W4.drewN q).heap.size=w3.heap.size:=j5;have j4:∀x∈t.2.set i u,IsN (W4.drewN q) (Up F w2 w3) h x:=λx hx=>(j8.o x hx).agree d8
 generalize W4.drewN q=W5 at *;obtain⟨c9,g0,f9,e3⟩:=Ye g7 f8 j4 i8;have a8:(t.2.set i u).length=t.2.length:=by rw[cd]
 clear g7 d8 f8 j4 i8 l6 l4 j5 k0;by_cases h4:size h u<4
 ·have l1:(size h u:Int)<4:=oM
  obtain⟨l,hl⟩:∃l,(t.2.set i u)[i-1]? = some l:=⟨_,ac oM⟩;obtain⟨r,hr⟩:∃r,(t.2.set i u)[i-1+1]? = some r:=⟨_,ac oM⟩;have b4:∀x∈t.2.set i u,OkT h x/\3<=size h x:=λx hx=>by
   rcases cu hx with hx|rfl
   .exact ⟨(b3.o.2.2 x hx).1,by have:=(b3.o.2.2 x hx).2;omega⟩
   exact⟨l7.o,g5⟩
  have e2:size h l+size h r<=11:=by
   have h8:∀x∈t.2.set i u,size h x<=8:=λx hx=>Qdf (b4 x hx).1
   have n9:=h8 l (aq hl);have o0:=h8 r (aq hr);have j1:(t.2.set i u)[i]? = some u:=by rw[cS oM]
   by_cases h0:i=0
   ·subst h0
    rw[j1]at hl;simp only[Option.some.injEq]at hl;subst hl;omega
   rw[show i-1+1=i from oM,j1]at hr;simp only[Option.some.injEq]at hr;subst hr;omega
  have a7:=QrT (w:=W5) (F:=Up F w2 w3) (base:=w) (s:=⟨some ⟨g,0,none⟩,a0⟩) (i:=i) (ks:=t.2.set i u) (l:=l) (r:=r)
   ⟨by rw[a8];exact g0.o,c9.o.size,λb Z=>⟨by rw[e3.o];exact Z.elim (λh=>by have:=HF.o b h;have:=c4.o.size;omega) λh=>h.2,λe=>by simp[Sl.row]at e;exact l0.o b Z e.symm⟩,f9.o,b4,hl,hr,e2,k1.o,by
     have:=l3.o;omega,oM,oM⟩
  rw[a8]at a7;have HM:=hY a7;clear hl hr b4 e2 a7;go_wp2_with fail;refine HM.o.mono ?_;rintro e w6 ⟨s6,d5,rfl,b9,g8,j3,b8⟩;have g6:Ext w w6:=c9.o.step b8 (λb Z=>by simp only[Sl.row,Option.map_some,Option.some.injEq]at Z;have b5:w<=g:=b5;omega);have D:=j2.o d5 (.inr ⟨h4,g8.mono c9.o.size⟩);have b6:∀x∈d5,IsN w6 (Up F w w6) h x:=λx hx=>(j3 x hx).mono λb Z=>by
   have hz:=e3.o;have o3:=b8.size;rcases Z with(Z|Z)|Z
   .exact .inl Z
   .exact .inr ⟨oM,oM⟩
   exact .inr ⟨oM,Z.2⟩
  have a2:=Qg5 HF.o b3.o HS.o HC.o hh a9.o g6 b9 D b6;obtain⟨HD,HE⟩:=Yb D a2;clear b9 g8 j3 b8 g6 D b6 a2;go_wp2_with fail;refine HE.o.mono ?_;rintro e w7 ⟨hx,(⟨v,hv,rfl,b7⟩ |⟨hv,c,f3,e7,rfl,c1⟩)⟩
  ·have H1:=hY hx
   have H2:=hY b7;clear hx b7;go_wp2_with fail;go_ret2;exact⟨H1.o,.inr ⟨a9.o,d5,HD.o,.inl ⟨v,hv,rfl,H2.o⟩⟩⟩
  obtain⟨H1,H2⟩:=Yb hx c1;clear hx c1;go_wp2_with fail;go_ret2;exact⟨H1.o,.inr ⟨a9.o,d5,HD.o,.inr ⟨hv,c,f3,e7,rfl,H2.o⟩⟩⟩
 have l1:¬(size h u:Int)<4:=oM
 have D:=j2.o _ (.inl ⟨oM,rfl⟩);have b6:∀x∈t.2.set i u,IsN W5 (Up F w W5) h x:=λx hx=>(f9.o x hx).mono λb Z=>by
  have hz:=e3.o;rcases Z with Z|Z
  .exact .inl Z
  exact .inr ⟨oM,oM⟩
 have a2:=Qg5 (s6:=⟨some ⟨g,0,none⟩,a0⟩) HF.o b3.o HS.o HC.o hh a9.o c9.o (by rw[a8];exact g0.o) D b6;rw[a8]at a2;obtain⟨HD,HE⟩:=Yb D a2;clear D b6 a2;go_wp2_with fail;refine HE.o.mono ?_;rintro e w7 ⟨hx,(⟨v,hv,rfl,b7⟩ |⟨hv,c,f3,e7,rfl,c1⟩)⟩
 ·have H1:=hY hx
  have H2:=hY b7;clear hx b7;go_wp2_with fail;go_ret2;exact⟨H1.o,.inr ⟨a9.o,_,HD.o,.inl ⟨v,hv,rfl,H2.o⟩⟩⟩
 obtain⟨H1,H2⟩:=Yb hx c1;clear hx c1;go_wp2_with fail;go_ret2;exact⟨H1.o,.inr ⟨a9.o,_,HD.o,.inr ⟨hv,c,f3,e7,rfl,H2.o⟩⟩⟩
theorem Qg4{k:ByteArray}:∀(h:Nat) (w:World) (F:Nat->Prop) (t:PT h),(∀b,F b->b<w.heap.size)->IsN w F h t->OkT h t->4<=size h t->Sorted (ents h t)->(ents h t).length<=1000000->Calls prog 75 #[ptr h t,.string k] w (Qow F h t k w)
 | 0,w,F,t,hF,hn,ok,h4,hs,hc=>by
   refine(QdP ⟨_,rfl⟩ (QaC hn) (Qa5 (hn.mono hF)) hs (show t.2.length<=8 from ok) k).mono ?_;rintro e w' ⟨Z,(⟨I,rfl⟩ |⟨I,u,rfl,hu,hb,N⟩)⟩
   .exact ⟨Z,.inl ⟨I,rfl⟩⟩
   exact⟨Z,.inr ⟨I,u,rfl,⟨hu,hb⟩,N.mono λi hi=>.inr hi⟩⟩
 | h+1,w,F,t,hF,hn,ok,h4,hs,hc=>by
   refine(QfK (Qg4 (k:=k) h) hF hn ok hs hc).mono ?_;rintro e w' ⟨Z,(⟨I,rfl⟩ |⟨I,a0,hd,h2⟩)⟩
   .exact ⟨Z,.inl ⟨I,rfl⟩⟩
   have h4:4<=t.2.length:=h4;have:=(Qdw hd ok hs I).2.2;rcases h2 with⟨u,rfl,-,-⟩ |⟨-,c,rfl,hb,rfl,N⟩
   .simp only[List.length_cons,List.length_nil]at this;omega
   exact⟨Z,.inr ⟨I,c,rfl,⟨hd,hb⟩,N⟩⟩
def Qox(F:Nat->Prop)(T:RT)(k:ByteArray)(w:World)(e:Ending)(w':World):Prop:=
 Ext w w'/\((Qaq (Qaa T) k=none/\e=.returned (.tuple #[QaK T,.bool false]))\/
  ((Qaq (Qaa T) k).isSome=true∧∃ (h:Nat) (u:PT h),e=.returned (.tuple #[ptr h u,.bool true])∧IsN w' (Up F w w') h u∧
    ((ents h u=[]/\QkN w.heap.size k T none)\/(0<(ents h u).length/\QkN w.heap.size k T (some ⟨h,u⟩)))))
variable{T:RT}
theorem QkK(hF:∀b,F b->b<w.heap.size)(hT:IsT w F T)(ok:OkR T)(hc:(Qaa T).length<=1000000)(k:ByteArray) :
  Calls prog 75 #[QaK T,.string k] w (Qox F T k w):=by
 match T,hT,ok,hc with
 | none,_,_,_=>
   refine(QdP (nv:=.pointer none) (es:=[]) ⟨none,rfl⟩ (QdV w) ((Qej w).mono ?_) List.Pairwise.nil sM k).mono ?_
   ·rintro e w' ⟨rfl,rfl⟩
    exact⟨Sl.none,[],rfl,rfl,OE.nil _ _,fQ _⟩
   rintro e w' ⟨Z,(⟨I,rfl⟩ |⟨I,u,rfl,hu,hb,N⟩)⟩
   .exact ⟨Z,.inl ⟨I,rfl⟩⟩
   simp[Qaq]at I
 | some ⟨0,t⟩,hn,ok,hc=>
   have hn:IsN w F 0 t:=hn;refine(QdP ⟨_,rfl⟩ (QaC hn) (Qa5 (hn.mono hF)) ok.2.2 (show t.2.length<=8 from ok.1) k).mono ?_;rintro e w' ⟨Z,(⟨I,rfl⟩ |⟨I,u,rfl,hu,hb,N⟩)⟩
   .exact ⟨Z,.inl ⟨I,rfl⟩⟩
   refine⟨Z,.inr ⟨I,0,u,rfl,N.mono λi hi=>.inr hi,?_⟩⟩;by_cases h0:ents 0 u=[]
   .exact .inl ⟨h0,.gone I ⟨hu,hb⟩ h0⟩
   have:=List.length_pos_iff.2 h0;exact .inr ⟨this,.same I ⟨hu,hb⟩ this (.inl rfl)⟩
 | some ⟨h+1,t⟩,hn,ok,hc=>
   refine(QfK (Qg4 (k:=k) h) hF hn ok.1 ok.2.2 hc).mono ?_;rintro e w' ⟨Z,(⟨I,rfl⟩ |⟨I,a2,hd,h2⟩)⟩
   .exact ⟨Z,.inl ⟨I,rfl⟩⟩
   have a1:=(Qdw hd ok.1 ok.2.2 I).1;rcases h2 with⟨u,rfl,rfl,N⟩ |⟨hl,c,rfl,hb,rfl,N⟩
   ·have:=a1 u (bc.2 rfl)
    exact⟨Z,.inr ⟨I,h,u,rfl,N,.inr ⟨Qbk h u this.1 oM,.down I hd⟩⟩⟩
   have hp:0<(ents (h+1) c).length:=by
    obtain⟨x,a0⟩:=List.exists_mem_of_length_pos (show 0<c.2.length by omega);have h1:=a1 x a0;have h2:=Qbk h x h1.1 oM;show 0<(c.2.flatMap (ents h)).length;obtain⟨e,he⟩:=List.exists_mem_of_length_pos h2;exact List.length_pos_of_mem (cG.2 ⟨x,a0,he⟩)
   exact⟨Z,.inr ⟨I,h+1,c,rfl,N,.inr ⟨hp,.same I ⟨hd,hb⟩ hp (.inr hl)⟩⟩⟩
def QsM(F:Nat->Prop)(T:RT)(k:ByteArray)(w:World)(e:Ending)(w':World):Prop:=
 ∃T',e=.returned (.tuple #[Qao T',.bool (Qaq (Qaa T) k).isSome])/\QkN w.heap.size k T T'/\IsT w' (Up F w w') T'/\Ext w w'
theorem Qm9(hF:∀b,F b->b<w.heap.size)(hT:IsT w F T)(ok:OkR T)(hc:(Qaa T).length<=1000000)(k:ByteArray) :
  Calls prog 52 #[Qao T,.string k] w (QsM F T k w):=by
 have a5:∀W,Ext w W->Calls prog 75 #[QaK T,.string k] W (Qox F T k W):=λW hW=>
  QkK (λb hb=>ab (hF b hb) hW.size) (hT.agree (hW.agree hF)) ok hc k
 have a8:∀W,Ext w W->Calls prog 73 #[QaK T] W λe w'=>e=.returned (.int .i64 (Qaa T).length)/\W=w':=λW hW=>Qfb (hT.agree (hW.agree hF))
 have a4:Qaa T=[]->T=none:=λI=>by
  match T,ok,I with
  |none,_,_=>rfl
  |some ⟨h,t⟩,ok,I=>have:=Qbk h t ok.1 ok.2.1;have I:ents h t=[]:=I;rw[I]at this;cases this
 have d0:∃p,QaK T=.pointer p:=Qaj T;obtain⟨rp,a0⟩:=d0;rw[a0]at a5 a8;obtain⟨HW,e0,HF,d6,HT,b7,d5⟩:=Yh a5 a8 hF ok hT a4 a0;clear hF hT ok a5 a8 a4;rw[Qao,a0];clear a0;go_in;go_wp2_with fail;have a6:Ext w ((w.alloc (.cells #[.pointer rp] 48)).alloc (.cells #[.pointer none] 48)):=((fQ w).alloc _ _).alloc _ _;have c1:Blk ((w.alloc (.cells #[.pointer rp] 48)).alloc (.cells #[.pointer none] 48)) (w.heap.size+1) 48 #[.pointer none]:=by
  have:=fU (w.alloc (.cells #[.pointer rp] 48)) 48 #[.pointer none];simpa using this
 generalize b9:World.alloc _ _=W3 at *;have d8:W3.heap.size=w.heap.size+1+1:=by rw[<-b9];simp
 clear b9;refine(HW.o _ a6).mono ?_;rintro e Z ⟨a7,c0⟩;have a2:=c1.ext a7;have b4:=a6.trans a7;have q4:Z.cell? ⟨w+1,0,none⟩=some (.pointer none):=a2.cell 0;have f4:=a2.frozen 0;have d7:=a2.lt;have HX:=hY b4;have c2:∀W',¬Up F W3 W' (w.heap.size+1):=λW' hf=>by
  rcases hf with hf|hf
  .have:=HF.o _ hf;omega
  have:=hf.1;omega
 have c9:=hY c2;have b3:w.heap.size<=W3.heap.size:=oM
 clear c1 a2 b4 a6 a7 c2;have b6:∃N b,e=.returned (.tuple #[QaK N,.bool b])/\b=(Qaq (Qaa T) k).isSome/\IsT Z (Up F W3 Z) N/\((Qaa N).length=0->QkN w.heap.size k T none)/\((Qaa N).length≠0->QkN w.heap.size k T N):=by
  rcases c0 with⟨hg,rfl⟩ |⟨hg,h,u,rfl,d3,hd⟩
  ·refine ⟨T,false,by rw [d5.o],by rw [hg];rfl,(HT.o.agree (HX.o.agree HF.o)).mono fun i hi=>.inl hi,fun I=>?_,fun _=>.no hg⟩
   have:=b7.o (av I);subst this;exact .no hg
  refine⟨some ⟨h,u⟩,true,rfl,hg.symm,d3,λI=>?_,λI=>?_⟩
  .exact (hd.resolve_right λhc=>by have I:(ents h u).length=0:=I;omega).2.mono b3
  exact(hd.resolve_left λh=>I (by show(ents _ u).length=0;rw[h.1];rfl)).2.mono b3
 obtain⟨N,b,rfl,hb,a9,c3,b5⟩:=b6;have b0:=Qfb a9;obtain⟨p1,a1⟩:=Qaj N;have a3:∀W',Agree (Up F W3 Z) Z W'->Z.heap.size<=W'.heap.size->IsT W' (Up F w W') N:=λW' ha hs=>(a9.agree ha).mono λi hi=>hi.elim .inl λhi=>.inr ⟨Nat.le_trans b3 hi.1,ab hi.2 hs⟩
 rw[a1]at b0;obtain⟨c8,c4,HB,b8,d4,c6⟩:=Yg a1 b0 hb a3 c3 b5;rw[a1];clear c0 a1 b0 hb a3 c3 b5 a9;go_wp2_with fail;refine c4.o.mono ?_;rintro e w5 ⟨rfl,rfl⟩;by_cases I:(Qaa N).length=0
 ·have c7:(((Qaa N).length:Int) == 0)=true:=by simp [I]
  go_wp2_with fail;have q0:(Z.setCell ⟨w+1,0,none⟩ (.pointer none)).cell? ⟨w+1,0,none⟩=some (.pointer none):=eO Z _ _ q4;refine eE (v:=.tuple #[Qao none,.bool b]) (by simp[results,results52,go_sem,q0];rfl) rfl ?_;rw[HB.o];exact⟨none,rfl,d4.o I,trivial,HX.o.setCell (p:=⟨w+1,0,none⟩) (by show w.heap.size<=w.heap.size+1;omega) _⟩
 have c7:(((Qaa N).length:Int)==0)=false:=eA.2 oM;go_wp2_with fail;have q0:(Z.setCell ⟨w+1,0,none⟩ (.pointer p1)).cell? ⟨w+1,0,none⟩=some (.pointer p1):=eO Z _ _ q4;refine eE (v:=.tuple #[Qao N,.bool b]) (by rw[Qao,c8.o];simp[results,results52,go_sem,q0]) rfl ?_;rw[HB.o];exact⟨N,rfl,c6.o I,b8.o _ (fV Z ⟨w+1,0,none⟩ _ (c9.o Z)) sM,HX.o.setCell (p:=⟨w+1,0,none⟩) (by show w.heap.size<=w.heap.size+1;omega) _⟩
variable{P:Program}
theorem Qjz(w:World){I N:TypeId}(a:Addr)(Z:P.underlying I=some (.pointer N)) :
  (binOp .eql I (.pointer none) (.pointer (some a))).run P w=.ok (.bool false) w:=by
 have h:∀d:Nat,(Op.equalIn (d+1) I (.pointer none) (.pointer (some a))).run P w=.ok false w:=λd=>by
  simp[Op.equalIn,run_underlying Z]
 simp only[binOp];simp[Op.equal,Op.maxDepth,h 9999]
theorem Qth:∃j,prog.info? 159=some j/\j.size≠0:=by
 have h:((prog.info? 159).map λi=>decide (i.size≠0))=some true:=kM
 cases I:prog.info? 159 with
 |none=>rw[I]at h;cases h
 |some j=>rw[I]at h;exact⟨j,rfl,by simpa using h⟩
theorem QyT(w:World)(p:Option Addr):Calls prog 25 #[.agg #[.pointer p],.agg #[.pointer p]] w λe w'=>e=.returned (.bool true)/\Ext w w':=by
 obtain⟨j,I,-⟩:=Qth;cases p with
 | none=>
   go_in;go_wp2_with fail;go_ret;exact⟨rfl,((fQ w).alloc _ _).alloc _ _⟩
 | some a=>
   have hs:=λW=>run_eql_ptr_same (P:=prog) W a underlying46 I
   go_in;go_wp2_with fail;go_ret;exact⟨rfl,((fQ w).alloc _ _).alloc _ _⟩
def QsP(w:World)(p:Option Addr):Prop:=∀a,p=some a->∃c t,w.heap[a.block]? = some (.cells c t (0,0))
variable{w':World}
theorem QsP.ext{p:Option Addr}(h:QsP w p)(N:Ext w w'):QsP w' p:=λa e=>by
 obtain⟨c,t,I⟩:=h a e;have Z:a.block<w.heap.size:=(az.1 I).1;exact⟨c,t,(N.heap Z).trans I⟩
theorem QAd(w:World)(p q:Option Addr)(hp:QsP w p)(hq:QsP w q):Calls prog 25 #[.agg #[.pointer p],.agg #[.pointer q]] w λe w'=>e=.returned (.bool (decide (p=q)))/\Ext w w':=by
 by_cases I:p=q
 .subst I;rw[ey rfl];exact QyT w p
 rw[ew I];obtain⟨j,hj,hz⟩:=Qth;cases q with
 | none=>
   cases p with
   |none=>exact absurd rfl I
   | some a=>
     go_in;go_wp2_with fail;go_ret;exact⟨rfl,((fQ w).alloc _ _).alloc _ _⟩
 | some b=>
   cases p with
   | none=>
     have hs:=λW=>Qjz (P:=prog) W b underlying46
     go_in;go_wp2_with fail;go_ret;exact⟨rfl,((fQ w).alloc _ _).alloc _ _⟩
   | some a=>
     have Z:=((fQ w).alloc #[.pointer (some a)] 48).alloc #[.pointer (some b)] 48;obtain⟨ca,ta,ha⟩:=(hp.ext Z) a rfl;obtain⟨cb,tb,hb⟩:=(hq.ext Z) b rfl;have N:a≠b:=λe=>I (by rw[e])
     have hs:=run_eql_ptr_other (P:=prog) _ underlying46 hj hz N ha hb;clear hp hq I ha hb;go_in;go_wp2_with fail;go_ret;exact⟨rfl,((fQ w).alloc _ _).alloc _ _⟩
open Go.Maps
structure Sb(H:Nat->Prop)(w w':World):Prop where
 os:w'.os=w.os
 tape:w'.tape=w.tape
 output:w'.output=w.output
 size:w.heap.size<=w'.heap.size
 block:∀b,b<w.heap.size->¬H b->w'.heap[b]? = w.heap[b]?
variable{H:Nat->Prop}
theorem St.sb(h:St H w w'):Sb H w w':=⟨h.os,h.tape,h.output,h.size,h.block⟩
theorem Ext.sb(h:Ext w w')(H:Nat->Prop):Sb H w w':=(h.st H).sb
theorem Sb.refl(H:Nat->Prop)(w:World):Sb H w w:=(fQ w).sb H
theorem Sb.trans{a b c:World}(h:Sb H a b)(k:Sb H b c):Sb H a c:=
 ⟨k.os.trans h.os,k.tape.trans h.tape,k.output.trans h.output,ak h.size k.size,λi hi I=>(k.block i (ab hi h.size) I).trans (h.block i hi I)⟩
theorem Sb.comp{a b c:World}(h:Sb H a b)(k:Sb G b c)(Z:∀i,i<a.heap.size->G i->H i):Sb H a c:=
 ⟨k.os.trans h.os,k.tape.trans h.tape,k.output.trans h.output,ak h.size k.size,λi hi I=>(k.block i (ab hi h.size) λN=>I (Z i hi N)).trans (h.block i hi I)⟩
theorem Sb.mono{a b:World}(h:Sb H a b)(N:∀i,i<a.heap.size->H i->G i):Sb G a b:=
 ⟨h.os,h.tape,h.output,h.size,λi hi Z=>h.block i hi λI=>Z (N i hi I)⟩
theorem Sb.of_below(h:Below n w w'):Sb (λb=>n<=b) w w':=⟨h.os,h.tape,h.output,h.size,λb _ I=>h.block b oM⟩
theorem Sb.new(h:Below w.heap.size w w'):Sb H w w':=(Sb.of_below h).mono λi hi I=>oM
theorem Sb.cell(h:Sb H w w'){b o:Nat}(I:b<w)(N:¬H b):w'.cell? ⟨b,o,none⟩=w.cell? ⟨b,o,none⟩:=
 eR (w:=w) (a:=⟨b,o,none⟩) (h.block b I N)
variable{g:Nat}
theorem Sb.blk{t:TypeId}{cs:Array Value}(h:Sb H w w')(I:Blk w g t cs)(N:¬H g):Blk w' g t cs:=(h.block g I.lt N).trans I
theorem Sb.agree(h:Sb H w w'):Agree (NH H w) w w':=λb I=>h.block b I.1 I.2
theorem Sb.ext{a b c:World}(h:Sb H a b)(k:Ext b c):Sb H a c:=h.trans (k.sb H)
theorem Sb.drew{a w:World}(h:Sb H a w):Sb H a w.drew:=h.ext ((fQ w).drew)
theorem Sb.set{a w:World}(h:Sb H a w){p:Addr}(I:a.heap.size<=p.block\/H p.block)(u:Value):Sb H a (w.setCell p u):=
 ⟨h.os,h.tape,h.output,by simpa[World.setCell]using h.size,λi hi N=>(eX w p u i (by
   rintro rfl;rcases I with I|I
   .omega
   exact N I)).trans (h.block i hi N)⟩
theorem Sb.grown{b:Nat}(h:w.grownBy w' (some b)):Sb (λi=>i=b) w w':=
 ⟨h.os,h.tape,h.output,h.size,λi hi I=>h.block i hi (by intro e;injection e with e;exact I e)⟩
theorem Sb.made(h:w.grownBy w' none):Sb H w w':=⟨h.os,h.tape,h.output,h.size,λi hi I=>h.block i hi sM⟩
theorem Qbx{H:Type}{k:TypeId}{R:Value->Option (DataW H × List MemPlace)}{b n:Nat}{D:DataW H}(h:w.ownsMap P k R b n D)(N:w'.heap[b]? = w.heap[b]?):w'.ownsMap P k R b n D:=by
 obtain⟨es,I,h1,F,h2,Z⟩:=h;exact⟨es,I,N.trans h1,F,h2,Z⟩
theorem MapAt.sb{M:Nat}{es:List Ent}(h:MapAt H w M es)(k:Sb G w w')(hG:∀b,G b->H b)(hM:¬G M):MapAt H w' M es:=by
 obtain⟨hm,s,xs,I,hs,N⟩:=h;exact⟨hm,s,xs,k.blk I hM,(hs.agree λb I=>k.block b I.1 λZ=>I.2 (hG b Z)).mono λb I=>⟨Nat.lt_of_lt_of_le I.1 k.size,I.2⟩,N⟩
theorem Qwf{base e size n m:Nat}{xs:List Value}{t:TypeId}{cs:Array Value}(ho:w.ownsRow base e size (.slice s.a n s.c) n xs)(hb:Blk w m t cs)(N:e≠t):¬s.row=some m:=λI=>by
 rcases ho.2 with⟨Z,-⟩ |⟨gg,cap,a0,Z,-,hc,-⟩
 ·injection Z with e1
  rw[Sl.row,e1]at I;cases I
 injection Z with e1;rw[Sl.row,e1]at I;have:gg=m:=by simpa using I
 subst this;have h2:w.heap[gg]? = some (.cells cs t (0,0)):=hb;rw[hc]at h2;injection h2 with h2;injection h2 with h3 h4;exact N h4
abbrev fW:=@Sb.refl
structure OD where
 T:RT
 mb:Option Nat
 s:Sl
 us:List UD
 Hs:List (AL SV)
 C:AL SV
def OvB(O:Nat)(d:OD):Nat->Prop:=λb=>b=O\/d.mb=some b\/d.s.row=some b
def OvF(H:Nat->Prop)(w:World)(O:Nat)(d:OD):Nat->Prop:=λb=>b<w.heap.size/\¬OvB O d b/\¬H b
theorem Qdd(w:World)(F:Nat->Prop):RV w F zeroV Sl.none Sl.none:=RV.flat _ _ _ _ _ _ oN oN oN
def QkU(w:World)(F:Nat->Prop)(s:SV):Prop:=RV w F s.v s.sl s.so/\(s.has=false->s.v=zeroV)
theorem QkU.agree{s:SV}(h:QkU w F s)(I:Agree F w w'):QkU w' F s:=⟨h.1.agree I,h.2⟩
theorem QkU.mono{s:SV}(h:QkU w F s)(I:∀i,F i->G i):QkU w G s:=⟨h.1.mono I,h.2⟩
def Qh2(w:World)(F:Nat->Prop)(O:Nat)(u:UD)(v:Value):Prop:=
 ∃(bw bd bo bk:Nat) (o:SV),v=.func (.func 211) #[] #[.pointer (some ⟨bw,0,none⟩),.pointer (some ⟨bd,0,none⟩),.pointer (some ⟨bo,0,none⟩),.pointer (some ⟨bk,0,none⟩)]/\
  (F bw/\F bd/\F bo/\F bk)/\Blk w bw 4 #[.bool u.old.isSome]/\Blk w bd 192 o.cells/\(∀x,u.old=some x->x=o)/\Blk w bo 151 #[.pointer (some ⟨O,0,none⟩)]/\Blk w bk 9 #[.string u.k]
variable{O:Nat}
theorem Qh2.agree{u:UD}{v:Value}(h:Qh2 w F O u v)(I:Agree F w w'):Qh2 w' F O u v:=by
 obtain⟨bw,bd,bo,bk,o,h1,⟨Z,N,f3,f4⟩,h2,h3,h4,h5,h6⟩:=h;exact⟨bw,bd,bo,bk,o,h1,⟨Z,N,f3,f4⟩,h2.agree I Z,h3.agree I N,h4,h5.agree I f3,h6.agree I f4⟩
theorem Qh2.mono{u:UD}{v:Value}(h:Qh2 w F O u v)(I:∀i,F i->G i):Qh2 w G O u v:=by
 obtain⟨bw,bd,Z,bk,o,h1,⟨f1,f2,N,f4⟩,r⟩:=h;exact⟨bw,bd,Z,bk,o,h1,⟨I _ f1,I _ f2,I _ N,I _ f4⟩,r⟩
def Qbp(w:World)(mb:Option Nat)(C:AL SV):Prop:=match mb with
 |none=>C=[]
 |some b=>w.ownsMap prog 9 QeO b C.length (mapA SV.val C)
variable{C:AL SV}
theorem Qbp.heap{mb:Option Nat}(h:Qbp w mb C)(I:∀b,mb=some b->w'.heap[b]? = w.heap[b]?):Qbp w' mb C:=by
 cases mb with
 |none=>exact h
 |some b=>exact Qbx h (I b rfl)
theorem Qbp.lt{mb:Option Nat}(h:Qbp w mb C){b:Nat}(I:mb=some b):b<w:=by
 subst I;exact World.ownsMap.lt h
theorem QeV{b n:Nat}(h:w.ownsMap prog 9 QeO b n (mapA SV.val C)):w.ownsMap prog 9 QeO b C.length (mapA SV.val C):=by
 obtain⟨Z,I,h1,F,h2,N⟩:=h;refine⟨Z,I,h1,F,?_,N⟩;have:=congrArg Maps.size N;rw[Qkt]at this;simp[Maps.size,length_sorted]at this;omega
def Qu9(w:World)(F:Nat->Prop)(O:Nat)(s:Sl)(us:List UD):Prop:=
 ∃xs:List Value,xs.length=us.length/\w.ownsRow 0 1 1 (.slice s.a us.length s.c) us.length xs/\∀(i:Nat) (u:UD) (v:Value),us[i]? = some u->xs[i]? = some v->Qh2 w F O u v
structure QcK(H:Nat->Prop)(w:World)(O:Nat)(d:OD):Prop where
 blk:Blk w O 184 #[QaK d.T,.map d.mb,.slice d.s.a d.us.length d.s.c]
 map:Qbp w d.mb d.C
 row:Qu9 w (OvF H w O d) O d.s d.us
 vals:∀p∈d.C,p.1.size<=maxLen/\QkU w (OvF H w O d) p.2
 olds:∀u∈d.us,u.k.size<=maxLen/\∀o,u.old=some o->QkU w (OvF H w O d) o
 hist:Chain d.us d.Hs
 h0:d.Hs[0]? = some []
 last:d.Hs[d.us.length]? = some d.C
 sorted:Qay d.C
 tree:IsT w (OvF H w O d) d.T
 ok:OkR d.T
 ne:d.mb≠some O/\d.s.row≠some O/\∀b,d.mb=some b->d.s.row≠some b
 out:∀b,OvB O d b->¬H b
 some_:d.us≠[]->∃b,d.mb=some b
theorem Chain.short{N:List UD}{I:List (AL SV)}(h:Chain N I)(Z:I[0]? = some []):∀(i:Nat) (C:AL SV),I[i]? = some C->C.length<=i
 |0,C,hC=>by rw[Z]at hC;injection hC with hC;subst hC;exact ao _
 | i+1,C,hC=>by
   have hi:i<N.length:=by have:=(ai.1 hC).1;have:=h.len;omega
   obtain⟨C',s,h1,h2,h3,h4⟩:=h.step i _ (ac hi);rw[h4]at hC;injection hC with hC;subst hC;have:=h.short Z i C' h1;have:=Qsc (C:=C') (k:=(N[i]'hi).k) (v:=s);omega
section
variable{H : Nat -> Prop}{w w' : World}{O : Nat}{d : OD}
theorem QcK.few(h:QcK H w O d):d.C.length<=d.us.length:=h.hist.short h.h0 _ _ h.last
theorem QcK.Qko(h:QcK H w O d){b:Nat}(I:d.s.row=some b):b<w:=by
 obtain⟨xs,-,h2,-⟩:=h.row;exact(Qad h2 I).2
theorem QcK.Qbe(h:QcK H w O d){b:Nat}(I:OvB O d b):b<w:=by
 rcases I with rfl|I|I
 .exact h.blk.lt
 .exact h.map.lt I
 exact h.Qko I
theorem QcK.sb{G:Nat->Prop}(h:QcK H w O d)(k:Sb G w w')(hG:∀b,G b->H b):QcK H w' O d:=by
 have N:Agree (OvF H w O d) w w':=λb I=>k.block b I.1 λhh=>I.2.2 (hG b hh)
 have Z:∀i,OvF H w O d i->OvF H w' O d i:=λi hi=>⟨Nat.lt_of_lt_of_le hi.1 k.size,hi.2⟩
 have hn:∀b,OvB O d b->¬G b:=λb I hg=>h.out b I (hG b hg)
 obtain⟨xs,r1,r2,r3⟩:=h.row;exact⟨k.blk h.blk (hn O (.inl rfl)),h.map.heap λb I=>k.block b (h.map.lt I) (hn b (.inr (.inl I))),
  ⟨xs,r1,Qab r2 k.agree λb I=>⟨h.Qko I,hn b (.inr (.inr I))⟩,λi u v hu hv=>((r3 i u v hu hv).agree N).mono Z⟩,
  λp hp=>⟨(h.vals p hp).1,((h.vals p hp).2.agree N).mono Z⟩,λu hu=>⟨(h.olds u hu).1,λo ho=>(((h.olds u hu).2 o ho).agree N).mono Z⟩,
  h.hist,h.h0,h.last,h.sorted,(h.tree.agree N).mono Z,h.ok,h.ne,h.out,h.some_⟩
theorem QcK.ext(h:QcK H w O d)(k:Ext w w'):QcK H w' O d:=h.sb (k.sb λ_=>False) λ_ I=>I.elim
theorem QcK.more{G:Nat->Prop}(h:QcK H w O d)(hG:∀b,b<w.heap.size->G b->H b):QcK G w O d:=by
 have I:∀i,OvF H w O d i->OvF G w O d i:=λi hi=>⟨hi.1,hi.2.1,λN=>hi.2.2 (hG i hi.1 N)⟩
 obtain⟨xs,r1,r2,r3⟩:=h.row;exact⟨h.blk,h.map,⟨xs,r1,r2,λi u v hu hv=>(r3 i u v hu hv).mono I⟩,λp hp=>⟨(h.vals p hp).1,(h.vals p hp).2.mono I⟩,
  λu hu=>⟨(h.olds u hu).1,λo ho=>((h.olds u hu).2 o ho).mono I⟩,h.hist,h.h0,h.last,h.sorted,h.tree.mono I,h.ok,h.ne,λb Z N=>h.out b Z (hG b (h.Qbe Z) N),h.some_⟩
end
theorem Qe2:Keyed prog 9:=string_keyed underlying9
theorem QtW(k:ByteArray)(I:k.size<=maxLen):keyOf prog 9 (.string k)=some (Qfz k):=Go.WideMaps.keyOf_string_mk underlying9 I
structure Qok(H:Nat->Prop)(w:World)(O:Nat)(d d':OD)(w':World):Prop where
 at_:QcK H w' O d'
 sb:Sb (OvB O d) w w'
 new:∀b,OvB O d' b->OvB O d b\/w.heap.size<=b
abbrev QhY:SV:=⟨false,zeroV,Sl.none,Sl.none⟩
theorem Qgd(w:World):(zeroValue 192).run prog w=.ok QhY.val w:=kM
theorem Tryz.Qul:(prog.info? 1).map (λi=>(i.zero,i.size,i.bytes))=some (some Value.nilFunc,1,8):=kM
def Qiw(C:AL SV)(k:ByteArray):SV:=(QaZ C k).getD QhY
theorem Qlg{mb:Option Nat}(hm:Qbp W mb C){k:ByteArray}(hk:k.size<=maxLen) :
  (Instr.lookup 181 (.map mb) (.string k) true).run prog W=.ok (.tuple #[(Qiw C k).val,.bool (QaZ C k).isSome]) W:=by
 cases mb with
 | none=>
   have hC:C=[]:=hm;subst hC;rw[Maps.look_nil true Qe2 underlying181 (Qgd W) (QtW k hk)];rfl
 | some b=>
   obtain⟨v,ps,N,I⟩:=World.ownsMap.look_ok hm Qe2 underlying181 (Qgd W) (zd:=.held QhY.val) (zp:=[]) rfl (QtW k hk);rw[Qgh]at I;rw[N,Ql5];unfold Qiw;cases Z:QaZ C k with
   |none=>rw[Z]at I;rw[QeP I];rfl
   |some s=>rw[Z]at I;rw[QeP I];rfl
variable{a:Act}{Q:Exit->Act->World->Prop}{K:Act->World->Prop}
theorem Qj9{o:Oper}{m x v:Operand}(Z:o.op=Op.mapUpdate 181 m x v)
  {b:Nat} {k:ByteArray} {s:SV} (hm:a.eval m=.map (some b)) (hx:a.eval x=.string k) (hv:a.eval v=s.val) (I:Qbp w (some b) C) (hk:k.size<=maxLen) (hC:C.length<maxLen) (hs:Qay C)
  (hK:∀w',Qbp w' (some b) (QcX C k s)->Sb (λc=>c=b) w w'->K (a.put o.dst undef) w'):Oper.wp prog o a w K Q:=by
 obtain⟨w',N,r1,r2⟩:=World.ownsMap.store I Qe2 underlying181 hC (QtW k hk) (val:=s.val) (d:=.held s.val) (ps:=[]) rfl;unfold Oper.wp;simp[execOp,Z,hm,hx,hv,N,Result.andThen];rw[Qse SV.val hs]at r1;exact hK _ (QeV r1) (Sb.grown r2.grown)
theorem Qp1{o:Oper}{m x:Operand}(Z:o.op=Op.call { callee:=Callee.builtin Builtin.delete,args:=#[m,x],argTypes:=#[181,9] })
  {b:Nat} {k:ByteArray} (hm:a.eval m=.map (some b)) (hx:a.eval x=.string k) (I:Qbp w (some b) C) (hk:k.size<=maxLen)
  (hK:∀w',Qbp w' (some b) (Qjs C k)->Sb (λc=>c=b) w w'->K (a.put o.dst (.tuple #[])) w'):Oper.wp prog o a w K Q:=by
 obtain⟨w',N,r1,r2⟩:=World.ownsMap.drop I Qe2 underlying181 (QtW k hk) o.type;unfold Oper.wp;simp[execOp,Z,resolve,invoke,builtin,hm,hx,N,Result.andThen];rw[Qrg SV.val]at r1;exact hK _ (QeV r1) (Sb.grown r2.grown)
theorem Qbp.ne{b g:Nat}{t:TypeId}{cs:Array Value}(h:Qbp w (some b) C)(N:Blk w g t cs):g≠b:=by
 rintro rfl;obtain⟨Z,I,h1,-⟩:=h;have h2:w.heap[g]? = some (.cells cs t (0,0)):=N;rw[h1]at h2;cases h2
theorem Qru{us:List UD}{I:List (AL SV)}(h:Chain us I)(N:I[us.length]? = some C):∃Z,I=Z++[C]:=by
 have hn:=h.len;rcases List.eq_nil_or_concat I with rfl |⟨Z,c,rfl⟩
 .simp at hn
 refine⟨Z,?_⟩;rw[List.concat_eq_append]at *;rw[aj,bz]at hn;rw[aM oM,show us.length-Z.length=0 by omega]at N;injection N with N;rw[N]
section
variable{H : Nat -> Prop}{w wc : World}{O : Nat}{d : OD}
theorem QcK.made(h:QcK H w O d)(hm:d.mb=none){b:Nat}(hb:w.heap.size<=b)(hH:∀b,H b->b<w.heap.size)(k:Sb (λc=>c=O) w wc)
  (Z:Blk wc O 184 #[QaK d.T,.map (some b),.slice d.s.a d.us.length d.s.c]) (N:wc.ownsMap prog 9 QeO b 0 (mapA SV.val [])):QcK H wc O { d with mb:=some b }:=by
 have hC:d.C=[]:=by have:=h.map;rw[hm]at this;exact this
 have ha:Agree (OvF H w O d) w wc:=λi hi=>k.block i hi.1 λe=>hi.2.1 (.inl e)
 have I:∀i,OvF H w O d i->OvF H wc O { d with mb:=some b } i:=λi hi=>⟨Nat.lt_of_lt_of_le hi.1 k.size,λe=>by
  rcases e with e|e|e
  .exact hi.2.1 (.inl e)
  ·have e:some b=some i:=e
   injection e with e;have:=hi.1;omega
  exact hi.2.1 (.inr (.inr e)),hi.2.2⟩
 obtain⟨xs,r1,r2,r3⟩:=h.row;refine⟨Z,?_,⟨xs,r1,Qab r2 k.agree λi hi=>⟨h.Qko hi,λe=>h.ne.2.1 (by rw[<-e];exact hi)⟩,λi u v hu hv=>((r3 i u v hu hv).agree ha).mono I⟩,
  λp hp=>⟨(h.vals p hp).1,((h.vals p hp).2.agree ha).mono I⟩,λu hu=>⟨(h.olds u hu).1,λo ho=>(((h.olds u hu).2 o ho).agree ha).mono I⟩,
  h.hist,h.h0,h.last,h.sorted,(h.tree.agree ha).mono I,h.ok,⟨?_,h.ne.2.1,?_⟩,?_,λ_=>⟨b,rfl⟩⟩
 ·show wc.ownsMap _ _ _ _ _ _
  rw[hC];exact N
 ·intro e
  have e:some b=some O:=e;injection e with e;have:=h.blk.lt;omega
 ·intro i hi hr
  have hi:some b=some i:=hi;injection hi with hi;have:=h.Qko hr;omega
 rintro i (hi|hi|hi) hh
 .exact h.out i (.inl hi) hh
 ·have hi:some b=some i:=hi
  injection hi with hi;have:=hH i hh;omega
 exact h.out i (.inr (.inr hi)) hh
structure Qou(H:Nat->Prop)(w:World)(O:Nat)(d:OD)(k:ByteArray)(sv:SV)(b:Nat)(wc:World):Prop where
 at_:QcK H wc O { d with mb:=some b }
 sb:Sb (OvB O d) w wc
 mb:d.mb=some b\/w.heap.size<=b
 big:w.heap.size+3<=wc.heap.size
 bo:Blk wc w.heap.size 151 #[.pointer (some ⟨O,0,none⟩)]
 bk:Blk wc (w.heap.size+1) 9 #[.string k]
 bs:Blk wc (w.heap.size+1+1) 192 sv.cells
 ok:QkU wc (OvF H wc O { d with mb:=some b }) sv
def Qq0(H:Nat->Prop)(O:Nat)(d:OD)(k:ByteArray)(sv:SV)(w:World)(e:Ending)(w':World):Prop:=
 (∃r,e=.returned r)/\∃mb s,Qok H w O d ⟨d.T,mb,s,d.us++[⟨k,QaZ d.C k⟩],d.Hs++[QcX d.C k sv],QcX d.C k sv⟩ w'
abbrev QkE(bw bd bo bk:Nat):Value:=.func (.func 211) #[] #[.pointer (some ⟨bw,0,none⟩),.pointer (some ⟨bd,0,none⟩),.pointer (some ⟨bo,0,none⟩),.pointer (some ⟨bk,0,none⟩)]
theorem step_end{k:ByteArray}{sv:SV}{b:Nat}{wm W w5 w7:World}(I:Qou H w O d k sv b wc)(d4:O<w.heap.size)(a3:∀i,d.s.row=some i->i<w.heap.size)(hH:∀b,H b->b<w.heap.size)(hk:k.size<=maxLen)(a4:Ext wc wm)
  {bw bd:Nat} (c0:wc.heap.size<=bw/\bw<wm.heap.size) (b0:wc.heap.size<=bd/\bd<wm.heap.size) (c6:Blk wm bd 192 (Qiw d.C k).cells) (c2:Blk wm bw 4 #[.bool (QaZ d.C k).isSome]) (hx:Ext wm W)
  {xs:List Value} (hl:xs.length=d.us.length) (c4:∀(i:Nat) (u:UD) (v:Value),d.us[i]? = some u->xs[i]? = some v->Qh2 wc (OvF H wc O { d with mb:=some b }) O u v) {s5:Sl}
  (a6:w5.ownsRow 0 1 1 (.slice s5.a (d.us.length+1) s5.c) (d.us.length+1) (xs++[QkE bw bd w.heap.size (w.heap.size+1)])) (a2:Wr W w5 d.s.row) (hs:s5.a=d.s.a\/s5.a=some ⟨W.heap.size,0,none⟩/\Wr W w5 none)
  (h7:Qbp w7 (some b) (QcX d.C k sv)) (a0:Sb (λc=>c=b) (w5.setCell ⟨O,2,none⟩ (.slice s5.a (d.us.length+1) s5.c)) w7) :
  Qok H w O d ⟨d.T,some b,s5,d.us++[⟨k,QaZ d.C k⟩],d.Hs++[QcX d.C k sv],QcX d.C k sv⟩ w7:=by
 have d3:=I.big;have d6:=a4.size;have d7:=hx.size;have e0:=a2.grown.size;have c7:=a0.size;rw[eG]at c7;have d5:b<wc.heap.size:=I.at_.map.lt rfl;have b9:b≠O:=λe=>I.at_.ne.1 (by rw[e])
 have c3:d.s.row≠some b:=λe=>I.at_.ne.2.2 b rfl e
 have b5:d.s.row≠some O:=I.at_.ne.2.1;have N:∀i,s5.row=some i->d.s.row=some i\/i=W.heap.size:=λi hi=>by
  rcases hs with h |⟨h,-⟩
  .left;rw[Sl.row,<-h];exact hi
  right;rw[Sl.row,h]at hi;simpa using hi.symm
 have b6:s5.row≠some O:=λe=>by
  rcases N O e with h|h
  .exact b5 h
  omega
 have b7:s5.row≠some b:=λe=>by
  rcases N b e with h|h
  .exact c3 h
  omega
 -- what turns between wc and the end
 have hW:Sb (λ_=>False) wc W:=(a4.trans hx).sb _;have h5:Sb (λc=>d.s.row=some c) W w5:=⟨a2.grown.os,a2.grown.tape,a2.grown.output,a2.grown.size,λi hi hn=>a2.grown.block i hi λe=>hn e.symm⟩;have h6:Sb (λc=>c=O) w5 (w5.setCell ⟨O,2,none⟩ (.slice s5.a (d.us.length+1) s5.c)):=(fW (λc=>c=O) w5).set (p:=⟨O,2,none⟩) (.inr rfl) _;have a5:Sb (OvB O { d with mb:=some b }) wc w7:=
  (((hW.mono λi _ h=>h.elim).trans (h5.mono λi _ h=>.inr (.inr h))).trans (h6.mono λi _ h=>.inl h)).trans (a0.mono λi _ h=>.inr (.inl (by rw[h])))
 have Z:∀{g t cs},Blk wm g t cs->g≠O->g≠b->d.s.row≠some g->Blk w7 g t cs:=λhb h1 h2 h3=>
  a0.blk (h6.blk (h5.blk (hb.ext hx) h3) h1) h2
 have a1:∀i,wc.heap.size<=i\/(i=w.heap.size\/i=w.heap.size+1)->i<wm.heap.size->i≠b->OvF H w7 O ⟨d.T,some b,s5,d.us++[⟨k,QaZ d.C k⟩],d.Hs++[QcX d.C k sv],QcX d.C k sv⟩ i:=λi hi d8 c8=>
  ⟨oM,λe=>by
    rcases e with e|e|e
    .omega
    ·have e:some b=some i:=e
     injection e with e;exact c8 e.symm
    rcases N i e with h|h
    .have:=a3 i h;omega
    omega,λhh=>by have:=hH i hh;omega⟩
 have c1:=I.bo;have b8:=I.bk;have b3:=Qbp.ne I.at_.map c1;have b4:=Qbp.ne I.at_.map b8;have ha:Agree (OvF H wc O { d with mb:=some b }) wc w7:=λi hi=>a5.block i hi.1 hi.2.1
 have hm:∀i,OvF H wc O { d with mb:=some b } i->OvF H w7 O ⟨d.T,some b,s5,d.us++[⟨k,QaZ d.C k⟩],d.Hs++[QcX d.C k sv],QcX d.C k sv⟩ i:=λi hi=>
  ⟨Nat.lt_of_lt_of_le hi.1 a5.size,λe=>by
    rcases e with e|e|e
    .exact hi.2.1 (.inl e)
    .exact hi.2.1 (.inr (.inl e))
    rcases N i e with h|h
    .exact hi.2.1 (.inr (.inr h))
    have:=hi.1;omega,hi.2.2⟩
 obtain⟨Ps,a9⟩:=Qru I.at_.hist I.at_.last;have a9:d.Hs=Ps++[d.C]:=a9;have a8:Chain d.us d.Hs:=I.at_.hist;have c9:d.Hs[d.us.length]? = some d.C:=I.at_.last;have d0:=a8.len;have a7:Qay d.C:=I.at_.sorted;refine⟨⟨?_,h7,⟨xs++[QkE bw bd w.heap.size (w.heap.size+1)],by simp[hl],?_,?_⟩,?_,?_,?_,?_,?_,Qbu a7 _ _,(I.at_.tree.agree ha).mono hm,I.at_.ok,⟨?_,b6,?_⟩,?_,λ_=>⟨b,rfl⟩⟩,?_,?_⟩
 ·have h8:Blk (w5.setCell ⟨O,2,none⟩ (.slice s5.a (d.us.length+1) s5.c)) O 184 #[QaK d.T,.map (some b),.slice s5.a (d.us.length+1) s5.c]:=(h5.blk ((I.at_.blk.ext a4).ext hx) b5).QbH 2 _
  have h9:=a0.blk h8 (λe=>b9 e.symm);show Blk w7 O _ #[_,_,.slice s5.a (d.us++[(⟨k,QaZ d.C k⟩:UD)]).length s5.c];rw[aj,bz];exact h9
 ·show w7.ownsRow 0 _ 1 (.slice s5.a (d.us++[(⟨k,QaZ d.C k⟩:UD)]).length s5.c) (d.us++[(⟨k,QaZ d.C k⟩:UD)]).length _
  rw[aj,bz];exact Qab (Qab a6 h6.agree λi hi=>⟨(Qad a6 hi).2,λe=>b6 (by rw[<-e];exact hi)⟩) a0.agree λi hi=>⟨by rw[eG];exact(Qad a6 hi).2,λe=>b7 (by rw[<-e];exact hi)⟩
 ·intro i u v hu hv
  rcases d9 i d.us.length with hi|hi
  ·have hu:(d.us++[(⟨k,QaZ d.C k⟩:UD)])[i]? = some u:=hu
   rw[bp hi]at hu;rw[bp oM]at hv;exact((c4 i u v hu hv).agree ha).mono hm
  have hu:(d.us++[(⟨k,QaZ d.C k⟩:UD)])[i]? = some u:=hu;rw[aM hi]at hu;rw[aM oM]at hv;have h0:i-d.us.length=0:=by have:=(ai.1 hu).1;simpa using this
  rw[h0]at hu;rw[show i-xs.length=0 by omega]at hv;have hu:(⟨k,QaZ d.C k⟩:UD)=u:=by simpa using hu
  have hv:QkE bw bd w.heap.size (w.heap.size+1)=v:=by simpa using hv
  subst hu hv;refine⟨bw,bd,w.heap.size,w.heap.size+1,Qiw d.C k,rfl,⟨a1 _ (.inl c0.1) c0.2 oM,a1 _ (.inl b0.1) b0.2 oM,a1 _ (.inr (.inl rfl)) oM b3,a1 _ (.inr (.inr rfl)) oM b4⟩,?_,?_,?_,?_,?_⟩
  .exact Z c2 oM oM λe=>by have:=a3 _ e;omega
  .exact Z c6 oM oM λe=>by have:=a3 _ e;omega
  ·intro x hx
   have hx:QaZ d.C k=some x:=hx;unfold Qiw;rw[hx];rfl
  .exact Z (c1.ext a4) oM b3 λe=>by have:=a3 _ e;omega
  exact Z (b8.ext a4) oM b4 λe=>by have:=a3 _ e;omega
 ·intro p hp
  rcases QiH hp with rfl|hp
  .exact ⟨hk,(I.ok.agree ha).mono hm⟩
  exact⟨(I.at_.vals p hp).1,((I.at_.vals p hp).2.agree ha).mono hm⟩
 ·intro u hu
  rcases aS.1 hu with hu|hu
  .exact ⟨(I.at_.olds u hu).1,λo ho=>(((I.at_.olds u hu).2 o ho).agree ha).mono hm⟩
  rw[bc.1 hu];exact⟨hk,λo ho=>((((I.at_.vals (k,o) (QeJ ho)).2).agree ha).mono hm)⟩
 ·show Chain (d.us++[(⟨k,QaZ d.C k⟩:UD)]) (d.Hs++[QcX d.C k sv])
  rw[a9]at a8 ⊢;exact a8.snoc a7 k sv
 ·have h0:d.Hs[0]? = some []:=I.at_.h0
  show(d.Hs++[QcX d.C k sv])[0]? = _;rw[bp oM];exact h0
 ·show (d.Hs++[QcX d.C k sv])[(d.us++[(⟨k,QaZ d.C k⟩:UD)]).length]? = some (QcX d.C k sv)
  rw[aj,bz,aM oM,show d.us.length+1-d.Hs.length=0 by omega];rfl
 ·intro e
  have e:some b=some O:=e;injection e with e;exact b9 e
 ·intro i hi
  have hi:some b=some i:=hi;injection hi with hi;subst hi;exact b7
 ·rintro i (hi | hi | hi) hh
  .exact I.at_.out i (.inl hi) hh
  .exact I.at_.out i (.inr (.inl hi)) hh
  rcases N i hi with h|h
  .exact I.at_.out i (.inr (.inr h)) hh
  have:=hH i hh;omega
 ·refine I.sb.comp a5 fun i hi h=>?_
  rcases h with h|h|h
  .exact .inl h
  ·have h:some b=some i:=h
   injection h with h;subst h;rcases I.mb with h|h
   .exact .inr (.inl h)
   omega
  exact .inr (.inr h)
 rintro i (hi|hi|hi)
 .exact .inl (.inl hi)
 ·have hi:some b=some i:=hi
  injection hi with hi;subst hi;rcases I.mb with h|h
  .exact .inl (.inr (.inl h))
  exact .inr h
 rcases N i hi with h|h
 .exact .inl (.inr (.inr h))
 right;omega
end
abbrev od0(T:RT):OD:=⟨T,none,Sl.none,[],[[]],[]⟩
theorem QcK.fresh(I:Blk w O 184 #[QaK T,.map none,.slice none 0 0])(N:IsT w F T)(ok:OkR T)(hF:∀b,F b->b<w.heap.size/\¬H b/\b≠O)(Z:¬H O):QcK H w O (od0 T):=
 ⟨I,rfl,⟨[],rfl,eK _ _ _ _,λi u v hu=>by simp at hu⟩,λp hp=>(by cases hp),λu hu=>(by cases hu),Chain.nil [],rfl,rfl,List.Pairwise.nil,
   N.mono λb I=>⟨(hF b I).1,⟨λh=>by
    rcases h with h|h|h
    .exact (hF b I).2.2 h
    .cases h
    (cases h),(hF b I).2.1⟩⟩,ok,⟨sM,by simp[Sl.row],λb I=>(by cases I)⟩,λb I=>by
   rcases I with rfl|h|h
   .exact Z
   .cases h
   (cases h),λh=>absurd rfl h⟩
theorem Qq5(hT:IsT w F T)(ok:OkR T)(hF:∀b,F b->b<w.heap.size/\¬H b)(hH:∀b,H b->b<w.heap.size) :
  Calls prog 94 #[Qao T] w λe w'=>∃O,e=.returned (.pointer (some ⟨O,0,none⟩))/\w.heap.size<=O/\QcK H w' O (od0 T)/\Ext w w':=by
 obtain⟨p,hp⟩:=Qaj T;rw[Qao,hp];obtain⟨HT,Z,HH,HP⟩:=Ye hT hF hH hp;clear hT hF hH hp;go_in;go_wp2_with fail;generalize a1:World.alloc _ _=W0;obtain⟨N,a2,-,a0⟩:=Qas w _ _ _ _ W0 a1;refine eE (v:=.pointer (some ⟨w+1,0,none⟩)) (by simp[results,results94,go_sem]) rfl ?_;refine⟨w+1,rfl,bY _,QcK.fresh (by rw[HP.o];exact a0) (HT.o.agree (N.agree λb I=>(Z.o b I).1)) ok (λb I=>⟨by have:=(Z.o b I).1;omega,(Z.o b I).2,by have:=(Z.o b I).1;omega⟩) (λh=>by have:=HH.o _ h;omega),N⟩
variable{d:OD}
theorem QdB(h:QcK H w O d):Calls prog 164 #[.pointer (some ⟨O,0,none⟩)] w λe w'=>e=.returned (.int .i64 (d.us.length:Int))/\Ext w w':=by
 have I:w.cell? ⟨O,2,none⟩=some (.slice d.s.a d.us.length d.s.c):=h.blk.cell 2;clear h;go_in;go_wp2_with fail;go_ret;exact⟨rfl,fQ w⟩
abbrev OD.now(d:OD)(k:ByteArray):Option Val:=QkO (Qaa d.T) (Qhe d.C) k
theorem Qmo{k:ByteArray}(h:QaZ d.C k=none):d.now k=Qaq (Qaa d.T) k:=by
 unfold OD.now QkO;rw[QdU,h];rfl
theorem Qmp{k:ByteArray}{s:SV}(h:QaZ d.C k=some s):d.now k=s.opt:=by
 unfold OD.now QkO;rw[QdU,h];rfl
theorem Qtz{s:SV}(h:QkU w F s):s.opt.getD zeroV=s.v/\s.opt.isSome=s.has:=by
 unfold SV.opt;cases I:s.has with
 |true=>simp
 |false=>simp[h.2 I]
theorem QsA(h:QcK H w O d)(hl:(Qaa d.T).length<=1000000){k:ByteArray}(hk:k.size<=maxLen) :
  Calls prog 196 #[.pointer (some ⟨O,0,none⟩),.string k] w (QbC (d.now k) w):=by
 have lO:=h.blk.lt;have c1:w.cell? ⟨O,1,none⟩=some (.map d.mb):=h.blk.cell 1;have c0:w.cell? ⟨O,0,none⟩=some (QaK d.T):=h.blk.cell 0;have a5:∀cs t,(Instr.lookup 181 (.map d.mb) (.string k) true).run prog (w.alloc (.cells cs t))=.ok (.tuple #[(Qiw d.C k).val,.bool (QaZ d.C k).isSome]) (w.alloc (.cells cs t)):=λcs t=>
  Qlg (h.map.heap λb I=>eN _ _ _ (h.map.lt I)) hk
 cases hg:QaZ d.C k with
 | none=>
   rw[Qmo hg];simp only[hg,Qiw,Option.getD_none,Option.isSome_none]at a5;have hF:∀b,OvF H w O d b->b<w.heap.size:=λb I=>I.1
   have a8:=λW (hW:Ext w W)=>Qg2 (w:=W) (λb I=>ab (hF b I) hW.size) (h.tree.agree (hW.agree hF)) h.ok hl k
   generalize Qaq (Qaa d.T) k=N at *;obtain⟨p,hp⟩:=Qaj d.T;rw[hp]at c0;simp only[Qao,hp]at a8;have b6:=hY a8;clear a8 h hF hg hp;go_in;go_wp2_with fail;generalize a1:World.alloc _ _=W0;obtain⟨Z,a3,a0,a4⟩:=Qas w _ _ _ _ W0 a1;obtain⟨a6,a9,HZ⟩:=Yc Z a0 a3;clear a1 a0 a4 a3 a5;refine(b6.o W0 Z).mono ?_;rintro e w1 ⟨sl,so,rfl,b4,a7⟩;have I:=a9.o.ext b4;obtain⟨q0,q1,q2,q3,q4,q5⟩:=I.c6;have f2:=I.frozen;have lb:=I.lt;obtain⟨b9,b8⟩:=Yb b4 a7;clear I b4 a7 Z b6;go_wp2_with fail;refine eE (v:=.tuple #[QbV (N.getD zeroV) sl so,.bool N.isSome]) (by simp[results,results196,go_sem,q0,q1,q2,q3,q4,q5]) rfl ?_;exact Qel (a6.o.trans b9.o) (b:=w.heap.size) (lo:=W0.heap.size) oM (by rw[HZ.o];omega) b8.o
 | some s=>
   rw[Qmp hg];have hs:=(h.vals (k,s) (QeJ hg)).2;have hv:s.opt.getD zeroV=s.v/\s.opt.isSome=s.has:=Qtz hs;simp only[hg,Qiw,Option.getD_some,Option.isSome_some]at a5;have b5:=λW (hW:Ext w W)=>QdS _ s.v (ao _) W s.sl s.so ((hs.1.agree (hW.agree λb I=>I.1)).mono λb I=>ab I.1 hW.size)
   obtain⟨N,b7⟩:∃N,s.opt=N:=⟨_,rfl⟩;rw[b7]at hv ⊢;obtain⟨c7,v,sl,so⟩:=s;obtain⟨rfl,rfl⟩:=hv;have c2:=hY b5;clear b5 h hg hs b7;go_in;go_wp2_with fail;generalize a1:World.alloc _ _=W0;obtain⟨Z,a3,a0,a4⟩:=Qas w _ _ _ _ W0 a1;have a2:=hY (show ∀W,St (λb=>b=w.heap.size) W0 W->W.cell? ⟨w.heap.size+1,0,none⟩=some (.bool N.isSome)/\W.cell? ⟨w.heap.size+1,1,none⟩=some (.int .i64 (N.getD zeroV).kind)/\W.cell? ⟨w.heap.size+1,2,none⟩=some (.bool (N.getD zeroV).b)/\W.cell? ⟨w.heap.size+1,3,none⟩=some (.int .i64 (N.getD zeroV).i)/\W.cell? ⟨w.heap.size+1,4,none⟩=some (.string (N.getD zeroV).t)/\W.cell? ⟨w.heap.size+1,5,none⟩=some (.slice sl.a (N.getD zeroV).l.length sl.c)/\W.cell? ⟨w.heap.size+1,6,none⟩=some (.slice so.a (N.getD zeroV).ok.length so.c)from
    λW hW=>by
     have I:=hW.blk a4 oM;exact⟨I.cell 0,I.cell 1,I.cell 2,I.cell 3,I.cell 4,I.cell 5,I.cell 6⟩)
   obtain⟨a6,a9,HZ⟩:=Yc Z a0 a3;have l0:=a0.lt;clear a1 Z a0 a4 a3 a5;refine eF (S:=(λw'=>St (λb=>b=w.heap.size) W0 w')) kM (((ga _ W0).drew)) (λhHeld=>?_);refine Qaf 0 (some 21) a2 hHeld ?_;refine Qaf 1 (some 22) a2 hHeld ?_;refine Qaf 3 (some 24) a2 hHeld ?_;refine Qaf 4 (some 25) a2 hHeld ?_;refine Qac (i:=2) kM rfl (by rfl) (λK hK=>?_);go_simp
   (refine(c2.o _ (a6.o.drew)).mono ?_;rintro e w2 ⟨c4,c3,rfl,b3,a7⟩;have b0:=(a9.o.ext ((fQ W0).drew)).ext b3;obtain⟨q0,q1,q2,q3,q4,q5⟩:=b0.c6;have f2:=b0.frozen;have lb:=b0.lt)
   refine hK.out _ _ (hHeld.ext b3) (λhHeld=>?_);clear hK K
   try go_frame
   refine Qac (i:=5) kM rfl (by rfl) (λK hK=>?_);go_simp
   skip
   refine hK.out _ _ (hHeld.QdE (.inr rfl) 0 _ _ _) (λhHeld=>?_);clear hK K
   try go_frame
   refine Qaf 6 (some 5) a2 hHeld ?_;refine eJ kM ?_ _;go_wp2_with fail;refine eE (v:=.tuple #[QbV (N.getD zeroV) c4 c3,.bool N.isSome]) (by simp[results,results196,go_sem,q0,q1,q2,q3,q4,q5]) rfl ?_;exact Qel ((a6.o.drew).trans b3) (b:=w.heap.size) (lo:=W0.heap.size) oM (by rw[HZ.o];omega) a7
def QuG(R:Act->World->Prop):Exit->Act->World->Prop
 |.normal,a,w=>R a w
 |_,_,_=>False
theorem QiN{R:Act->World->Prop}(h:R a w):QuG R .normal a w:=h
def QsH(tm:Array Value):List (Nat × Value)->Array Value
 |[]=>tm
 |(i,v)::l=>QsH (tm.setIfInBounds i v) l
theorem QmL{c:Code}{α:Type}(Z:World->α->Prop)(ds:List Nat)(I:α->List (Nat × Value))
  (h1:c.wp P (QuG λN w'=>∃x,Z w' x/\N.defers=a.defers/\N.tmps=QsH a.tmps ((ds.map λd=>(d,N.tmps.getD d undef))++I x)) a w)
  (h2:∀(w':World) (x:α) (vs:Nat->Value),Z w' x->Q .normal { tmps:=QsH a.tmps ((ds.map λd=>(d,vs d))++I x),defers:=a.defers } w'):c.wp P Q a w:=
 wp_mono h1 λe N w' h=>by
  cases e with
  | normal=>
    obtain⟨x,hr,hd,ht⟩:=h;have:=h2 w' x (λd=>N.tmps.getD d undef) hr;rw[<-ht,<-hd]at this;exact this
  |_=>exact h.elim
theorem QmH(w:World)(t0 I:TypeId)(Z N:Array Value):∀W,((w.alloc (.cells Z t0)).alloc (.cells N I)).drew=W->
  Ext w W/\W.heap.size=w.heap.size+2/\Blk W w.heap.size t0 Z/\Blk W (w.heap.size+1) I N:=by
 rintro W rfl;obtain⟨hx,hz,h0,h1⟩:=Qas w t0 I Z N _ rfl;exact⟨hx.drew,hz,h0,h1⟩
theorem QqB{t t0 I t2:TypeId}{cs c0 Z N:Array Value}(hb:Blk w O t cs):∀W,((((w.setCell ⟨O,1,none⟩ (.map (some (w.heap.size+1+1+1)))).alloc (.cells c0 t0)).alloc (.cells Z I)).alloc (.cells N t2)).alloc (.map #[] 0)=W->
  Sb (λc=>c=O) w W/\w.heap.size+3<=W.heap.size/\Blk W O t (cs.setIfInBounds 1 (.map (some (w.heap.size+1+1+1))))/\Blk W w.heap.size t0 c0/\Blk W (w.heap.size+1) I Z/\Blk W (w.heap.size+1+1) t2 N/\W.ownsMap prog 9 QeO (w.heap.size+1+1+1) 0 (mapA SV.val []):=by
 rintro W rfl;have hz:(w.setCell ⟨O,1,none⟩ (.map (some (w.heap.size+1+1+1)))).heap.size=w.heap.size:=eG _ _ _;have a2:Sb (λc=>c=O) w (w.setCell ⟨O,1,none⟩ (.map (some (w.heap.size+1+1+1)))):=(fW (λc=>c=O) w).set (p:=⟨O,1,none⟩) (.inr rfl) _;have a1:=hb.QbH 1 (.map (some (w.heap.size+1+1+1)));generalize w.setCell ⟨O,1,none⟩ (.map (some (w.heap.size+1+1+1)))=W0 at *;obtain⟨hx,a0,h0,h1,h2⟩:=Qal W0 t0 I t2 c0 Z N _ rfl;rw[hz]at h0 h1 h2 a0;generalize ((W0.alloc (.cells c0 t0)).alloc (.cells Z I)).alloc (.cells N t2)=W3 at *;have hm:=World.ownsMap_made W3 prog 9 QeO;rw[show W3.heap.size=w.heap.size+1+1+1 by omega]at hm;exact⟨(a2.trans (hx.sb _)).trans (Sb.made (World.grownBy_alloc _ _ _)),by simp;omega,(a1.ext hx).alloc _,h0.alloc _,h1.alloc _,h2.alloc _,hm⟩
variable{sv:SV}
theorem QmF(h:QcK H w O d)(hH:∀b,H b->b<w.heap.size)(hn:d.us.length<=1000000){k:ByteArray}(hk:k.size<=maxLen)(i4:QkU w (OvF H w O d) sv) :
  Calls prog 195 #[.pointer (some ⟨O,0,none⟩),.string k,sv.val] w (Qq0 H O d k sv w):=by
 obtain⟨i0,hi,f4,i5,j2⟩:=eI Tryz.Qul;have k5:=@run_makeMap prog;have k9:∀(w:World) (r:Option Nat),(binOp .eql 181 (.map r) (.map none)).run prog w=.ok (.bool r.isNone) w:=λw r=>run_eql_map_nil w _ _ _ r underlying181
 have c1:w.cell? ⟨O,1,none⟩=some (.map d.mb):=h.blk.cell 1;have f1:=h.blk.frozen 1;have lO:=h.blk.lt;have f9:∀i,d.s.row=some i->i<w.heap.size:=λi hi=>h.Qko hi
 obtain⟨b0,i1,g8,a9⟩:=Ye h hH i4 f9;clear h hH i4 f9;obtain⟨b9,v,sl,so⟩:=sv;show Calls _ _ #[_,_,.agg #[.bool b9,.int .i64 v.kind,.bool v.b,.int .i64 v.i,.string v.t,.slice sl.a v.l.length sl.c,.slice so.a v.ok.length so.c]] _ _;have l1:O<w.heap.size+1:=oM
 have l2:O<w.heap.size+1+1:=oM
 go_in;go_upto_if 12 with fail;go_cut [] (λwc=>∃b,Qou H w O d k ⟨b9,v,sl,so⟩ b wc)
 case first=>
  obtain⟨mb,f3⟩:∃mb,d.mb=mb:=⟨_,rfl⟩;rw[f3]at c1 ⊢;have e1:=hY f3;clear f3;rcases mb with _|b
  ·go_wp2_with fail
   generalize b3:World.alloc _ _=W0;obtain⟨c0,f4,j9,f6,a5,a7,a3⟩:=QqB b0.o.blk W0 b3;clear b3;go_meet;have e2:=b0.o.made e1.o (b:=w.heap.size+1+1+1) oM i1.o c0 j9 a3;refine⟨_,e2,c0.mono λi _ h=>.inl h,.inr oM,f4,f6,a5,a7,?_⟩;refine(g8.o.agree (λi hi=>c0.block i hi.1 λe=>hi.2.1 (.inl e))).mono λi hi=>⟨Nat.lt_of_lt_of_le hi.1 c0.size,λe=>?_,hi.2.2⟩
   rcases e with e|e|e
   .exact hi.2.1 (.inl e)
   ·have e:some (w.heap.size+1+1+1)=some i:=e
    injection e with e;have:=hi.1;omega
   exact hi.2.1 (.inr (.inr e))
  go_wp2_with fail;generalize b3:World.alloc _ _=W0;obtain⟨b6,k3,f6,a5,a7⟩:=Qal w _ _ _ _ _ _ W0 b3;clear b3;go_meet;have e2:=b0.o.ext b6;have hd:d={ d with mb:=some b }:=by rw[<-e1.o]
  refine⟨b,by rw[<-hd];exact e2,b6.sb _,.inl e1.o,oM,f6,a5,a7,?_⟩;rw[<-hd];exact(g8.o.agree (b6.agree λb hb=>hb.1)).mono λi hi=>⟨Nat.lt_of_lt_of_le hi.1 b6.size,hi.2⟩
 obtain⟨b,hM⟩:=hcut;have e4:∀W,Ext wc W->(Instr.lookup 181 (.map (some b)) (.string k) true).run prog W=.ok (.tuple #[(Qiw d.C k).val,.bool (QaZ d.C k).isSome]) W:=λW hW=>
  Qlg (hM.at_.ext hW).map hk
 obtain⟨o,ho⟩:∃o,Qiw d.C k=o:=⟨_,rfl⟩;obtain⟨g,hg⟩:∃g,(QaZ d.C k).isSome=g:=⟨_,rfl⟩;rw[ho,hg]at e4;obtain⟨oh,ov,c6,c4⟩:=o;obtain⟨HO,HG⟩:=Yb ho hg;have j8:O<wc.heap.size:=hM.at_.blk.lt;have k4:=hM.big;have HM:=hY hM;have I:=hY (show ∀W,Ext wc W->W.cell? ⟨w.heap.size,0,none⟩=some (.pointer (some ⟨O,0,none⟩))/\W.cell? ⟨O,1,none⟩=some (.map (some b))/\W.cell? ⟨w.heap.size+1,0,none⟩=some (.string k)/\
   (Instr.lookup 181 (.map (some b)) (.string k) true).run prog W=.ok (.tuple #[.agg #[.bool oh,.int .i64 ov.kind,.bool ov.b,.int .i64 ov.i,.string ov.t,.slice c6.a ov.l.length c6.c,.slice c4.a ov.ok.length c4.c],.bool g]) W from
  λW hW=>⟨(hM.bo.ext hW).cell 0,((hM.at_.ext hW).blk).cell 1,(hM.bk.ext hW).cell 0,e4 W hW⟩)
 clear hM e4 ho hg c1 f1 l1 l2;go_wp2_with fail;refine QmL (α:=Nat × Nat) (λw' x=>Ext wc w'/\(wc.heap.size<=x.1/\x.1<w'.heap.size)/\(wc.heap.size<=x.2/\x.2<w'.heap.size)/\Blk w' x.1 192 #[.bool oh,.int .i64 ov.kind,.bool ov.b,.int .i64 ov.i,.string ov.t,.slice c6.a ov.l.length c6.c,.slice c4.a ov.ok.length c4.c]/\Blk w' x.2 4 #[.bool g]) [17,18,19,20,21,22,23,24,25] (λx=>[(6,.pointer (some ⟨x.1,0,none⟩)),(7,.pointer (some ⟨x.2,0,none⟩))]) ?h1 ?h2
 case h1=>
  refine eF (S:=(λw'=>Ext wc w')) kM (((fQ wc).drew)) (λhHeld=>?_);refine Qaf 0 (some 18) I hHeld ?_;refine Qaf 1 (some 19) I hHeld ?_;refine Qaf 2 (some 20) I hHeld ?_;refine Qaf 3 (some 21) I hHeld ?_;refine Qaf 4 (some 22) I hHeld ?_;refine Qaf 5 (some 23) I hHeld ?_;refine Qaf 6 (some 17) I hHeld ?_;refine Qaf 7 (some 24) I hHeld ?_;refine Qaf 8 (some 25) I hHeld ?_;refine Qix (i:=9) (j:=10) kM rfl rfl (by rfl) (by rfl) (λK N=>?_) (λK N=>?_)
  ·go_simp
   skip
   refine N.out _ _ ((by first|exact(((fQ _).drew).alloc _ _).alloc _ _|exact((fQ _).drew).alloc _ _)) (λhHeld=>?_);clear N K
   try go_frame
   refine Qac (i:=10) kM rfl (by rfl) (λK N=>?_);go_simp
   skip
   refine N.out _ _ ((by first|exact(((fQ _).drew).alloc _ _).alloc _ _|exact((fQ _).drew).alloc _ _)) (λhHeld=>?_);clear N K
   try go_frame
   refine Qac (i:=11) kM rfl (by rfl) (λK N=>?_);go_simp
   skip
   refine N.out _ _ ((by first|exact(((fQ _).drew).alloc _ _).alloc _ _|exact(((fQ _).alloc _ _).alloc _ _).drew)) (λhHeld=>?_);clear N K
   try go_frame
   refine Qac (i:=12) kM rfl (by rfl) (λK N=>?_);go_simp
   skip
   refine N.out _ _ ((by first|exact(((fQ _).drew).alloc _ _).alloc _ _|exact(((fQ _).alloc _ _).alloc _ _).drew)) (λhHeld=>?_);clear N K
   try go_frame
   refine eJ kM ?_ _;generalize e8:World.drew _=Z;obtain⟨a0,j3,a5,a7⟩:=QmH wc _ _ _ _ Z e8;refine QiN ⟨(wc.heap.size,wc.heap.size+1),⟨a0,⟨Nat.le_refl _,by show wc.heap.size<_;omega⟩,⟨Nat.le_succ _,by show wc.heap.size+1<_;omega⟩,a5,a7⟩,kM,?_⟩;simp only[QsH,List.map_cons,List.map_nil,List.cons_append,List.nil_append,List.setIfInBounds_toArray,List.set_cons_zero,List.set_cons_succ]
   kernel_rfl
  go_simp
  skip
  refine N.out _ _ ((by first|exact(((fQ _).drew).alloc _ _).alloc _ _|exact((fQ _).drew).alloc _ _)) (λhHeld=>?_);clear N K
  try go_frame
  refine Qac (i:=9) kM rfl (by rfl) (λK N=>?_);go_simp
  skip
  refine N.out _ _ ((by first|exact(((fQ _).drew).alloc _ _).alloc _ _|exact((fQ _).drew).alloc _ _)) (λhHeld=>?_);clear N K
  try go_frame
  refine Qac (i:=11) kM rfl (by rfl) (λK N=>?_);go_simp
  skip
  refine N.out _ _ ((by first|exact(((fQ _).drew).alloc _ _).alloc _ _|exact(((fQ _).alloc _ _).alloc _ _).drew)) (λhHeld=>?_);clear N K
  try go_frame
  refine Qac (i:=12) kM rfl (by rfl) (λK N=>?_);go_simp
  skip
  refine N.out _ _ ((by first|exact(((fQ _).drew).alloc _ _).alloc _ _|exact(((fQ _).alloc _ _).alloc _ _).drew)) (λhHeld=>?_);clear N K
  try go_frame
  refine eJ kM ?_ _;generalize e8:World.drew _=Z;obtain⟨a0,j3,a5,a7⟩:=QmH wc _ _ _ _ Z e8;refine QiN ⟨(wc.heap.size+1,wc.heap.size),⟨a0,⟨Nat.le_succ _,by show wc.heap.size+1<_;omega⟩,⟨Nat.le_refl _,by show wc.heap.size<_;omega⟩,a7,a5⟩,kM,?_⟩;simp only[QsH,List.map_cons,List.map_nil,List.cons_append,List.nil_append,List.setIfInBounds_toArray,List.set_cons_zero,List.set_cons_succ]
  kernel_rfl
 rintro Z ⟨bd,bw⟩ uu ⟨a0,e3,d7,e7,d3⟩;simp only[QsH,List.map_cons,List.map_nil,List.cons_append,List.nil_append,List.setIfInBounds_toArray,List.set_cons_zero,List.set_cons_succ];dsimp only at e3 d7 e7 d3;have b8:=HM.o.at_.blk.ext a0;have c2:Z.cell? ⟨O,2,none⟩=some (.slice d.s.a d.us.length d.s.c):=b8.cell 2;have f2:=b8.frozen 2;have d8:=b8.lt;have e0:=HM.o.bo.ext a0;have c3:Z.cell? ⟨w.heap.size,0,none⟩=some (.pointer (some ⟨O,0,none⟩)):=e0.cell 0;have l3:=e0.lt;obtain⟨xs,hl,a3,g3⟩:=HM.o.at_.row;obtain⟨HL,i9,i7⟩:=Yc (show xs.length=d.us.length from hl) g3 (show ∀W,Ext Z W->W.ownsRow 0 1 1 (.slice d.s.a d.us.length d.s.c) d.us.length xs fromλW hW=>Qab a3 ((a0.trans hW).agree λb (hb:b<wc.heap.size)=>hb) λb hb=>(Qad a3 hb).2);have g0:d.s.row≠some O:=HM.o.at_.ne.2.1;have j4:d.s.row≠some w.heap.size:=λe=>by have:=a9.o _ e;omega
 have c7:∀u∈[QkE bw bd w.heap.size (w.heap.size+1)],u.oneCell'=true:=by simp[Value.oneCell']
 have g4:d.us.length+1<=maxLen:=by unfold maxLen;omega
 have g7:(d.us.length+1)*8<=140737488355328:=oM
 obtain⟨i3,j1,j6,i6,j5⟩:=Yf a0 e7 d3 d7 e3;clear e7 d3 d7 e3 b8 e0 hl g3 a3 a0 I;go_wp2_with fail;refine QmL (α:=Sl × World × World) (λw' x=>Ext Z x.2.1/\x.2.2.ownsRow 0 1 1 (.slice x.1.a (d.us.length+1) x.1.c) (d.us.length+1) (xs++[QkE bw bd w.heap.size (w.heap.size+1)])/\Wr x.2.1 x.2.2 d.s.row/\(x.1.a=d.s.a\/x.1.a=some ⟨x.2.1.heap.size,0,none⟩/\Wr x.2.1 x.2.2 none)/\w'=x.2.2.setCell ⟨O,2,none⟩ (.slice x.1.a (d.us.length+1) x.1.c)) [26,27,28,29,30,31,32,33,34,35] (λ_=>[]) ?g1 ?g2
 case g1=>
  go_region_law (refine Qdi _ rfl (.tmp 30) (.tmp 32) 182 rfl 0 1 i0 _ 1 8 underlying182 hi f4 i5 j2 rfl oN d.s d.us.length xs (by rfl) (i7.o _ (by first|exact((fQ Z).drew).alloc _ _|exact((fQ Z).alloc _ _).drew)) (λb=>b=Z.heap.size) ⟨some ⟨Z.heap.size,0,none⟩,1⟩ 1 [QkE bw bd w.heap.size (w.heap.size+1)] (by rfl) (ge (fU _ _ _) oN rfl) c7 g4 g7 (aD _) ?_;intro s5 w5 b4 a4 a8;have d0:=a4.cell0 (w:=Z) (o:=2) (by first|exact((fQ Z).drew).alloc _ _|exact((fQ Z).alloc _ _).drew) g0 d8;have k8:=d0.1.trans c2;have k6:=d0.2;have f8:=a4.cell0 (w:=Z) (o:=0) (by first|exact((fQ Z).drew).alloc _ _|exact((fQ Z).alloc _ _).drew) j4 l3;have k7:=f8.1.trans c3;have f5:w5.frozen? ⟨O,2,none⟩=false:=(a4.fz _ _).trans (((by first|exact((fQ Z).drew).alloc _ _|exact((fQ Z).alloc _ _).drew:Ext Z _).frozen (o:=2) d8).trans f2);have d4:=hY b4;have d6:=hY a4;have f0:=hY a8;clear b4 a4 a8 d0 f8)
  all_goals
   refine QiN ⟨(s5,_,w5),⟨by first|exact((fQ Z).drew).alloc _ _|exact((fQ Z).alloc _ _).drew,d4.o,d6.o,f0.o,rfl⟩,kM,?_⟩;simp only[QsH,List.map_cons,List.map_nil,List.append_nil,List.cons_append,List.nil_append,List.setIfInBounds_toArray,List.set_cons_zero,List.set_cons_succ]
   kernel_rfl
 rintro w6 ⟨s5,W5,w5⟩ vv ⟨b7,c9,a1,a8,rfl⟩;simp only[QsH,List.map_cons,List.map_nil,List.append_nil,List.cons_append,List.nil_append,List.setIfInBounds_toArray,List.set_cons_zero,List.set_cons_succ];dsimp only at b7 c9 a1 a8;have b5:Ext wc W5:=i3.o.trans b7;have a2:Sb (λc=>c=O\/d.s.row=some c) wc (w5.setCell ⟨O,2,none⟩ (.slice s5.a (d.us.length+1) s5.c)):=
  ((b5.sb _).trans ⟨a1.grown.os,a1.grown.tape,a1.grown.output,a1.grown.size,λi hi hn=>a1.grown.block i hi λe=>hn (.inr e.symm)⟩).trans ((fW _ w5).set (p:=⟨O,2,none⟩) (.inr (.inl rfl)) _)
 have c8:Blk w5 O 184 #[QaK d.T,.map (some b),.slice d.s.a d.us.length d.s.c]:=(a1.agree (F:=λc=>c=O) (λi hi=>by rw[hi];exact ab j8 b5.size) (λi hi e=>g0 (by rw[hi,e])) O rfl).trans (HM.o.at_.blk.ext b5);have f7:=c8.QbH 2 (.slice s5.a (d.us.length+1) s5.c);have g9:¬O=b:=λe=>HM.o.at_.ne.1 (by rw[e])
 have n0:=Qbp.ne HM.o.at_.map HM.o.bo;have n1:=Qbp.ne HM.o.at_.map HM.o.bk;have n2:=Qbp.ne HM.o.at_.map HM.o.bs;have k0:=a2.blk HM.o.bo (λe=>by
  rcases e with e|e
  .omega
  have:=a9.o _ e;omega)
 have k1:=a2.blk HM.o.bk (λe=>by
  rcases e with e|e
  .omega
  have:=a9.o _ e;omega)
 have k2:=a2.blk HM.o.bs (λe=>by
  rcases e with e|e
  .omega
  have:=a9.o _ e;omega)
 have a6:Qbp (w5.setCell ⟨O,2,none⟩ (.slice s5.a (d.us.length+1) s5.c)) (some b) d.C:=HM.o.at_.map.heap λi hi=>by
  injection hi with hi;subst hi;exact a2.block b (HM.o.at_.map.lt rfl) λe=>by
   rcases e with e|e
   .exact g9 e.symm
   exact HM.o.at_.ne.2.2 b rfl e
 obtain⟨j0,d4,d6,f0⟩:=Ye b7 c9 a1 a8;obtain⟨W6,e6⟩:∃W6,w5.setCell ⟨O,2,none⟩ (.slice s5.a (d.us.length+1) s5.c)=W6:=⟨_,rfl⟩;rw[e6]at f7 k0 k1 k2 a6 ⊢;obtain⟨j7,g5⟩:=Yb e6 a6;have I:=hY (show ∀W,Sb (λc=>c=b) W6 W->W.cell? ⟨w.heap.size,0,none⟩=some (.pointer (some ⟨O,0,none⟩))/\W.cell? ⟨O,1,none⟩=some (.map (some b))/\W.cell? ⟨w.heap.size+1,0,none⟩=some (.string k)/\W.cell? ⟨w.heap.size+1+1,0,none⟩=some (.bool b9)/\W.cell? ⟨w.heap.size+1+1,1,none⟩=some (.int .i64 v.kind)/\W.cell? ⟨w.heap.size+1+1,2,none⟩=some (.bool v.b)/\W.cell? ⟨w.heap.size+1+1,3,none⟩=some (.int .i64 v.i)/\W.cell? ⟨w.heap.size+1+1,4,none⟩=some (.string v.t)/\W.cell? ⟨w.heap.size+1+1,5,none⟩=some (.slice sl.a v.l.length sl.c)/\W.cell? ⟨w.heap.size+1+1,6,none⟩=some (.slice so.a v.ok.length so.c)from
  λW hW=>⟨(hW.blk k0 n0).cell 0,(hW.blk f7 g9).cell 1,(hW.blk k1 n1).cell 0,(hW.blk k2 n2).cell 0,(hW.blk k2 n2).cell 1,(hW.blk k2 n2).cell 2,(hW.blk k2 n2).cell 3,(hW.blk k2 n2).cell 4,(hW.blk k2 n2).cell 5,(hW.blk k2 n2).cell 6⟩)
 have i8:d.C.length<maxLen:=by have:=b0.o.few;unfold maxLen;omega
 clear b5 a2 c8 f7 n0 n1 n2 k0 k1 k2 a6 b7 c9 a1 a8 e6 c2 f2 d8 c3 l3 c7 g4 g7;go_wp2_with fail;refine eF (S:=(λw'=>Sb (λc=>c=b) W6 w')) kM (((fW _ W6).drew)) (λhHeld=>?_);refine Qaf 0 (some 36) I hHeld ?_;refine Qaf 1 (some 37) I hHeld ?_;refine Qaf 2 (some 38) I hHeld ?_;refine Qaf 3 (some 39) I hHeld ?_;refine Qaf 4 (some 40) I hHeld ?_;refine Qaf 5 (some 41) I hHeld ?_;refine Qac (i:=6) kM rfl (by rfl) (λK N=>?_)
 skip
 (refine Qj9 (b:=b) (C:=d.C) (k:=k) (s:=⟨b9,v,sl,so⟩) rfl rfl rfl rfl (g5.o.heap λ_ _=>rfl) hk i8 b0.o.sorted ?_;intro w7 d5 i2)
 refine N.out _ _ (hHeld.trans i2) (λhHeld=>?_);clear N K
 try go_frame
 refine eJ kM ?_ _;have h7:Sb (λc=>c=b) (w5.setCell ⟨O,2,none⟩ (.slice s5.a (d.us.length+1) s5.c)) w7:=by rw[j7.o];exact hHeld
 have g6:=step_end HM.o lO a9.o i1.o hk i3.o i6.o j5.o (by rw[HO.o];exact j1.o) (by rw[HG.o];exact j6.o) j0.o HL.o i9.o d4.o d6.o f0.o d5 h7;go_end0;exact⟨⟨_,rfl⟩,_,_,g6⟩
abbrev Nw(w w':World):Prop:=Sb (λ_=>False) w w'
theorem Nw.any(h:Nw w w')(H:Nat->Prop):Sb H w w':=h.mono λ_ _ e=>e.elim
theorem Nw.blk(h:Nw w w'){t:TypeId}{cs:Array Value}(I:Blk w g t cs):Blk w' g t cs:=Sb.blk h I λe=>e
theorem Nw.agree{w w':World}(h:Nw w w'){F:Nat->Prop}(hF:∀b,F b->b<w.heap.size):Agree F w w':=λb I=>h.block b (hF b I) λe=>e
theorem Nw.of{w w':World}(h:Ext w w'):Nw w w':=h.sb _
section
variable{H : Nat -> Prop}{w w' : World}{O : Nat}{d d' : OD}
theorem QcK.nw(h:QcK H w O d)(k:Nw w w'):QcK H w' O d:=h.sb k λ_ I=>I.elim
theorem Qok.after{w0:World}(h:Qok H w O d d' w')(k:Nw w0 w):Qok H w0 O d d' w':=
 ⟨h.at_,(k.any _).trans h.sb,λb I=>(h.new b I).imp id λN=>ak k.size N⟩
def OD.step(d:OD)(k:ByteArray)(sv:SV)(mb:Option Nat)(s:Sl):OD:=⟨d.T,mb,s,d.us++[⟨k,QaZ d.C k⟩],d.Hs++[QcX d.C k sv],QcX d.C k sv⟩
end
def QlM(H:Nat->Prop)(O:Nat)(d:OD)(k:ByteArray)(w:World)(e:Ending)(w':World):Prop:=
 e=.returned (.bool (d.now k).isSome)/\(((d.now k).isSome=false/\Nw w w')\/((d.now k).isSome=true/\∃mb s,Qok H w O d (d.step k QhY mb s) w'))
theorem QoZ(h:QcK H w O d)(hH:∀b,H b->b<w.heap.size)(hn:d.us.length<=1000000)(hl:(Qaa d.T).length<=1000000){k:ByteArray}(hk:k.size<=maxLen) :
  Calls prog 168 #[.pointer (some ⟨O,0,none⟩),.string k] w (QlM H O d k w):=by
 have hg:=QsA h hl hk;have a1:=λW (hW:Ext w W)=>QmF (h.ext hW) (λb hb=>ab (hH b hb) hW.size) hn hk (sv:=QhY) ⟨Qdd _ _,λ_=>rfl⟩
 unfold QlM;generalize d.now k=og at *;obtain⟨a2,HG⟩:=Yb a1 hg;clear h hH a1 hg;go_in;go_wp2_with fail;refine HG.o.mono ?_;rintro e w1 ⟨sl,so,rfl,Z,-⟩;have a0:=hY Z;clear Z;cases og with
 | none=>
   go_wp2_with fail;go_ret;exact⟨rfl,.inl ⟨rfl,Nw.of (a0.o.alloc _ _)⟩⟩
 | some v=>
   go_wp2_with fail;have I:=a0.o.alloc (w:=w1) #[.int .i64 v.kind,.bool v.b,.int .i64 v.i,.string v.t,.slice sl.a v.l.length sl.c,.slice so.a v.ok.length so.c] 34;refine(a2.o _ I).mono ?_;rintro e w3 ⟨⟨r,rfl⟩,mb,s,N⟩;have a3:=hY (N.after (Nw.of I));clear N I;go_wp2_with fail;go_ret;exact⟨rfl,.inr ⟨rfl,mb,s,a3.o⟩⟩
variable{sl so:Sl}
theorem QnL{k:ByteArray}{v:Val}{c:Int}(I:∀W,Nw w W->Calls prog 194 #[.string k] W λe w'=>e=.returned (.int .i64 c)/\Nw W w')(hc:c≠0) :
  Calls prog 167 #[.pointer (some ⟨O,0,none⟩),.string k,QbV v sl so] w λe w'=>e=.returned (.int .i64 8)/\Nw w w':=by
 have HM:=hY I;have g0:(c != 0)=true:=eT.2 hc;clear I hc;go_in;go_wp2_with fail;have N:Ext w (w.alloc (.cells #[.int .i64 v.kind,.bool v.b,.int .i64 v.i,.string v.t,.slice sl.a v.l.length sl.c,.slice so.a v.ok.length so.c] 34)):=(fQ w).alloc _ _;refine(HM.o _ (Nw.of N)).mono ?_;rintro e w1 ⟨rfl,Z⟩;have a0:=hY ((Nw.of N).trans Z);clear N Z;go_wp2_with fail;go_ret;exact⟨rfl,a0.o⟩
theorem Qqg{k:ByteArray}{v:Val}{c:Int}(Z:∀W,Nw w W->Calls prog 194 #[.string k] W λe w'=>e=.returned (.int .i64 0)/\Nw W w')
  (N:∀W,Nw w W->Calls prog 193 #[QbV v sl so] W λe w'=>e=.returned (.int .i64 c)/\Nw W w') (hc:c≠0) :
  Calls prog 167 #[.pointer (some ⟨O,0,none⟩),.string k,QbV v sl so] w λe w'=>e=.returned (.int .i64 c)/\Nw w w':=by
 obtain⟨HM,HF⟩:=Yb Z N;have g0:(c != 0)=true:=eT.2 hc;clear Z hc N;go_in;go_wp2_with fail;have a0:Ext w (w.alloc (.cells #[.int .i64 v.kind,.bool v.b,.int .i64 v.i,.string v.t,.slice sl.a v.l.length sl.c,.slice so.a v.ok.length so.c] 34)):=(fQ w).alloc _ _;have a3:=fU w 34 #[.int .i64 v.kind,.bool v.b,.int .i64 v.i,.string v.t,.slice sl.a v.l.length sl.c,.slice so.a v.ok.length so.c];refine(HM.o _ (Nw.of a0)).mono ?_;rintro e w1 ⟨rfl,a1⟩;obtain⟨q0,q1,q2,q3,q4,q5⟩:=(a1.blk a3).c6;have I:=(Nw.of a0).trans a1;have a4:=hY I;clear a0 a1 I a3;go_wp2_with fail;refine(HF.o _ a4.o).mono ?_;rintro e w2 ⟨rfl,a2⟩;have a5:=hY (a4.o.trans a2);clear a2 q0 q1 q2 q3 q4 q5;go_wp2_with fail;go_ret;exact⟨rfl,a5.o⟩
def QqZ(H:Nat->Prop)(O:Nat)(d:OD)(k:ByteArray)(v:Val)(w:World)(e:Ending)(w':World):Prop:=
 e=.returned (.int .i64 0)/\∃sl so mb s,Qok H w O d (d.step k ⟨true,v,sl,so⟩ mb s) w'
theorem QuM(h:QcK H w O d)(hH:∀b,H b->b<w.heap.size)(hn:d.us.length<=1000000){k:ByteArray}(hk:k.size<=maxLen){v:Val}(hv:RV w (Lt w) v sl so)
  (a0:∀W,Nw w W->Calls prog 194 #[.string k] W λe w'=>e=.returned (.int .i64 0)/\Nw W w')
  (a3:∀W,Nw w W->Calls prog 193 #[QbV v sl so] W λe w'=>e=.returned (.int .i64 0)/\Nw W w') :
  Calls prog 167 #[.pointer (some ⟨O,0,none⟩),.string k,QbV v sl so] w (QqZ H O d k v w):=by
 have b8:=λW (hW:Nw w W) sv hsv=>QmF (h.nw hW) (λb hb=>ab (hH b hb) hW.size) hn hk (sv:=sv) hsv
 have b0:=λW (hW:Nw w W)=>QdS _ v (ao _) W sl so ((hv.agree (hW.agree λb hb=>hb)).mono λb hb=>ab hb hW.size)
 have a2:∀b,OvB O d b->b<w.heap.size:=λb hb=>h.Qbe hb
 obtain⟨HM,HF,b3,b9,b4,c9⟩:=Yg a0 a3 b8 b0 a2 hH;clear a0 a3 h hv b8 b0 a2 hH;go_in;go_wp2_with fail;have a5:Ext w (w.alloc (.cells #[.int .i64 v.kind,.bool v.b,.int .i64 v.i,.string v.t,.slice sl.a v.l.length sl.c,.slice so.a v.ok.length so.c] 34)):=(fQ w).alloc _ _;have c1:=fU w 34 #[.int .i64 v.kind,.bool v.b,.int .i64 v.i,.string v.t,.slice sl.a v.l.length sl.c,.slice so.a v.ok.length so.c];refine(HM.o _ (Nw.of a5)).mono ?_;rintro e w1 ⟨rfl,a9⟩;have a6:=a9.blk c1;obtain⟨q0,q1,q2,q3,q4,q5⟩:=a6.c6;have a1:=(Nw.of a5).trans a9;obtain⟨b7,b5⟩:=Yb a1 a6;clear a5 a9 a1 c1 a6 HM;go_wp2_with fail;refine(HF.o _ b7.o).mono ?_;rintro e w2 ⟨rfl,a7⟩;have b6:=a7.blk b5.o;have a4:=b7.o.trans a7;have Z:=hY a4;clear a7 q0 q1 q2 q3 q4 q5 b5 HF;obtain⟨q0,q1,q2,q3,q4,q5⟩:=b6.c6;clear b6 a4;go_wp2_with fail;refine(b9.o _ Z.o).mono ?_;rintro e w3 ⟨sl',so',rfl,c2,c3⟩;have I:=Z.o.trans (Nw.of c2);have c4:QkU w3 (OvF H w3 O d) ⟨true,v,sl',so'⟩:=⟨c3.mono λi hi=>⟨hi.2,λe=>by have:=b4.o i e;have:=Z.o.size;have:=hi.1;omega,λe=>by have:=c9.o i e;have:=Z.o.size;have:=hi.1;omega⟩,λe=>by cases e⟩;have N:=b3.o w3 I _ c4;obtain⟨c8,a8⟩:=Yb I N;clear c2 c3 I c4 N q0 q1 q2 q3 q4 q5 b9 b3;go_wp2_with fail;refine a8.o.mono ?_;rintro e w4 ⟨⟨r,rfl⟩,mb,s,c0⟩;have c7:=hY (c0.after c8.o);clear c0;go_wp2_with fail;go_ret;exact⟨rfl,sl',so',mb,s,c7.o⟩
abbrev fT:=@Nw.of
abbrev fY:=@Nw.agree
end Go.Proofs.YtdiecmkpbadgjaaGreatDoor
