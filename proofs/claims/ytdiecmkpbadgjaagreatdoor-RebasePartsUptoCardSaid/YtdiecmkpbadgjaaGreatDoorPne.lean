/- What the theorem needs of the texts Mend, Mend2, Without, Del, Is, Sbs, OvMem, OvStep, OvGet, MeetO, OvStepW, OvPut: no condition of its own. -/
import Derived.Deep.CutBlock
import Derived.Test.YtdiecmkpbadgjaaGreatDoorPnd
set_option linter.unusedVariables false
set_option linter.unusedSimpArgs false
set_option linter.unnecessarySimpa false
set_option maxRecDepth 100000
set_option maxHeartbeats 4000000
namespace Go.Proofs.YtdiecmkpbadgjaaGreatDoor
open Go.Proofs.Tryz
open Go.RowKit
def QfZ(F:Nat->Prop)(h:Nat)(l r:PT h)(w:World)(e:Ending)(w':World):Prop:=
 ∃ts:List (PT h),e=two h ts/\Qeh w.heap.size h l r ts/\(∀u∈ts,IsN w' (Up F w w') h u)
variable{w:World}{F:Nat->Prop}{s:Sl}{n:Nat}{xs:List LE}
theorem QuN(I:n=xs.length)(Z:Rd w F 7 s n (QaD xs))(N:QmT w F xs)(hf:xs.length<=1000):ES w F s xs:=by
 subst I;exact⟨Z,N,oM⟩
theorem QiI{α:Type}{P:α->Prop}{x y:α}(N:P x)(I:P y):∀u∈[x,y],P u:=λu hu=>by
 rcases aH.1 hu with rfl|hu
 .exact N
 obtain rfl:=aX.1 hu;exact I
theorem QiG{α:Type}{P:α->Prop}{x:α}(I:P x):∀u∈[x],P u:=λu hu=>by
 obtain rfl:=aX.1 hu;exact I
variable{W:World}{G:Nat->Prop}
theorem QjV(N:St G w W)(hG:∀b,G b->b<w.heap.size)(hn:n=xs.length)(h8:xs.length<=8)(hr:Rd W (Lt W) 7 s n (QaD xs))(hv:QmT w (NH G w) xs)(I:Qbv xs) :
  Calls prog 80 #[.slice s.a n s.c] W (Qfs (λa W'=>w<=a/\IsN W' (λb=>w<=b/\b<W') 0 (a,xs.map LE.ent)) W):=by
 have Z:ES W (Lt W) s xs:=QuN hn hr ((hv.agree N.agree).mono λi hi=>ab hi.1 N.size) oM;refine(QdM Z hn I h8).mono ?_;rintro e w' ⟨t,rfl,h1,h2,h3,h4⟩;refine⟨addr 0 t,rfl,h2,⟨Nat.le_trans N.size h2,?_⟩,h4⟩;have e1:t=(t.1,xs.map LE.ent):=by rw[<-h1];rfl
 rw[e1]at h3;exact h3.mono λi hi=>⟨Nat.le_trans N.size hi.1,hi.2⟩
variable{W':World}{h:Nat}
theorem Qmc(Z:∀b,G b->b<w.heap.size){t:PT h}(I:IsN W (λb=>w<=b/\b<W) h t)(hs:St G W W'):IsN W' (λb=>w<=b/\b<W') h t:=
 (I.agree (hs.agree.mono λi hi=>⟨hi.2,λN=>by have:=Z i N;omega⟩)).mono λi hi=>⟨hi.1,ab hi.2 hs.size⟩
variable{ys:List LE}
theorem Qka{base:Nat}{sl sr:Sl}(hL:OE w base sl xs)(hR:OE w base sr ys)(hb:base<=w.heap.size)(a3:∀b,sl.row=some b->sr.row≠some b)
  (a0:QmT w (NH (Qds sl sr) w) xs) (a2:QmT w (NH (Qds sl sr) w) ys) (I:Qbv (xs++ys)) (x8:xs.length<=8) (y8:ys.length<=8) (N:xs.length+ys.length<=11) {l r:PT 0} (el:xs.map LE.ent=l.2) (er:ys.map LE.ent=r.2) :
  Calls prog 146 #[.slice sl.a xs.length sl.c,.slice sr.a ys.length sr.c,.func (.func 80) #[] #[]] w λe w'=>QfZ (λ_=>False) 0 l r w e w'/\St (Qds sl sr) w w':=by
 have hG:∀b,Qds sl sr b->b<w.heap.size:=λb hb=>hb.elim (λh=>(Qad hL.own h).2) (λh=>(Qad hR.own h).2)
 have QfJ:∀(w':World) (a b:Nat) (zs a1:List LE),(w<=a/\IsN w' (λb=>w<=b/\b<w') 0 (a,zs.map LE.ent))->(w<=b/\IsN w' (λb=>w<=b/\b<w') 0 (b,a1.map LE.ent))->
   QcG l.2 r.2=[zs.map LE.ent,a1.map LE.ent]->QfZ (λ_=>False) 0 l r w (.returned (.tuple #[.pointer (some ⟨a,0,none⟩),.pointer (some ⟨b,0,none⟩)])) w':=λw' a b zs a1 ha hb hp=>by
  refine⟨[((a,zs.map LE.ent):PT 0),((b,a1.map LE.ent):PT 0)],rfl,⟨hp.symm,QiI (α:=PT 0) ha.1 hb.1⟩,QiI (α:=PT 0) (ha.2.mono λi hi=>.inr hi) (hb.2.mono λi hi=>.inr hi)⟩
 have e1:l.2.length=xs.length:=by rw[<-el,aq]
 have e2:r.2.length=ys.length:=by rw[<-er,aq]
 by_cases h4:4<xs.length
 ·obtain ⟨m,hm⟩:∃ m,xs.length=m+1:=⟨xs.length - 1,oM⟩
  have t1:(QaD xs).take (m*7)=QaD (xs.take m):=QcS xs m;have t2:(QaD xs).drop (m*7)++QaD ys=QaD (xs.drop m++ys):=by rw[QcQ,Qcp]
  have a4:=hL.own;rw[hm]at a4 ⊢;refine(QnD (P1:=λa W'=>w<=a/\IsN W' (λb=>w<=b/\b<W') 0 (a,(xs.take m).map LE.ent)) (P2:=λa W'=>w<=a/\IsN W' (λb=>w<=b/\b<W') 0 (a,(xs.drop m++ys).map LE.ent))
   a4 hR.own hb a3 (QbX xs) (QbX ys) trivial oM oM y8 (λW s hW Z=>?_) (λW s hW Z=>?_) (λa W W' _ h hs=>⟨h.1,Qmc hG h.2 hs⟩)).mono ?_
  ·rw [t1] at Z
   exact QjV hW hG (by rw[av];omega) (by rw[av];omega) Z (λx N=>a0 x (ba N)) (by have:=I.take m;rwa[bj oM]at this)
  ·rw [t2] at Z
   exact QjV hW hG (by rw[aj,aw];omega) (by rw[aj,aw];omega) Z (λx N=>by
    rcases aS.1 N with N|N
    .exact a0 x (aM N)
    exact a2 x N) (by have:=I.drop m;rwa[List.drop_append_of_le_length oM]at this)
  rintro e w' ⟨a,b,rfl,-,-,h1,h2,hs⟩;refine⟨QfJ w' a b _ _ h1 h2 ?_,hs⟩;rw[QcG,eu oM,<-el,<-er,aC,cE,cp,aq,hm];rfl
 by_cases h5:4<ys.length
 ·obtain ⟨m,hm⟩:∃ m,ys.length=m+1:=⟨ys.length - 1,oM⟩
  have t1:QaD xs++(QaD ys).take 7=QaD (xs++ys.take 1):=by rw[Qcp,<-QcS]
  have t2:(QaD ys).drop 7=QaD (ys.drop 1):=by rw[<-QcQ]
  have a5:=hR.own;rw[hm]at a5 ⊢;refine(Qlp (P1:=λa W'=>w<=a/\IsN W' (λb=>w<=b/\b<W') 0 (a,(xs++ys.take 1).map LE.ent)) (P2:=λa W'=>w<=a/\IsN W' (λb=>w<=b/\b<W') 0 (a,(ys.drop 1).map LE.ent))
   hL.own a5 hb a3 (QbX xs) (QbX ys) trivial oM oM oM (λW s hW Z=>?_) (λW s hW Z=>?_) (λa W W' _ h hs=>⟨h.1,Qmc hG h.2 hs⟩)).mono ?_
  ·rw [t1] at Z
   exact QjV hW hG (by rw[aj,av];omega) (by rw[aj,av];omega) Z (λx N=>by
    rcases aS.1 N with N|N
    .exact a0 x N
    exact a2 x (ba N)) (by have:=I.take (xs.length+1);rwa[List.take_length_add_append]at this)
  ·rw [t2] at Z
   exact QjV hW hG (by rw[aw];omega) (by rw[aw];omega) Z (λx N=>a2 x (aM N)) (by have:=I.drop (xs.length+1);rwa[cW]at this)
  rintro e w' ⟨a,b,rfl,-,-,h1,h2,hs⟩;refine⟨QfJ w' a b _ _ h1 h2 ?_,hs⟩;rw[QcG,eh oM,eu oM,<-el,<-er,aC,cE,cp]
 have t1:QaD xs++QaD ys=QaD (xs++ys):=by rw[Qcp]
 refine(QnC (P1:=λa W'=>w<=a/\IsN W' (λb=>w<=b/\b<W') 0 (a,(xs++ys).map LE.ent)) hL.own hR.own hb (QbX ys) oM oM (λW s hW Z=>?_)).mono ?_
 ·rw [t1] at Z
  exact QjV hW hG (by rw[aj]) (by rw[aj];omega) Z (λx N=>by
   rcases aS.1 N with N|N
   .exact a0 x N
   exact a2 x N) I
 rintro e w' ⟨a,rfl,-,h1,hs⟩;refine⟨⟨[((a,(xs++ys).map LE.ent):PT 0)],rfl,⟨?_,QiG (α:=PT 0) h1.1⟩,QiG (α:=PT 0) (h1.2.mono λi hi=>.inr hi)⟩,hs⟩;show[(xs++ys).map LE.ent]=_;rw[QcG,eh oM,eh oM,<-el,<-er,aC]
theorem QjO(hG:∀b,G b->b<w.heap.size)(hF:∀b,F b->b<w.heap.size/\¬G b)(N:w.heap.size<=W.heap.size){t:PT h}(I:IsN W (Up F w W) h t)(hs:St G W W'):IsN W' (Up F w W') h t:=
 (I.agree (hs.agree.mono λi hi=>hi.elim (λh=>⟨Nat.lt_of_lt_of_le (hF i h).1 N,(hF i h).2⟩) λh=>⟨h.2,λZ=>by have:=hG i Z;omega⟩)).mono λi hi=>hi.imp_right λh=>⟨h.1,ab h.2 hs.size⟩
theorem QgC{ks:List (PT h)}(N:St G w W)(hF:∀b,F b->¬G b)(hn:n=ks.length)(h2:2<=ks.length)(h8:ks.length<=8)(hr:Rd W (Lt W) 1 s n (ptrs h ks))(I:Kids w F h ks) :
  Calls prog 54 #[.slice s.a n s.c] W (Qft (λa W'=>w<=a/\IsN W' (Up F w W') (h+1) (a,ks)) W):=by
 subst hn;have Z:Kids W F h ks:=⟨λb hb=>ab (I.lt b hb) N.size,λx hx=>(I.isn x hx).agree (N.agree.mono λi hi=>⟨I.lt i hi,hF i hi⟩),I.rise,I.pos,I.sz,I.cn,I.hh⟩;refine(Qcl hr rfl Z h2 h8).mono ?_;rintro e w' ⟨t,rfl,h1,h2,h3,h4⟩;refine⟨addr (h+1) t,rfl,h2,⟨Nat.le_trans N.size h2,?_⟩,h4⟩;have e1:t=(t.1,ks):=by subst h1;rfl
 rw[e1]at h3;exact h3.mono λi hi=>hi.imp_right λh=>⟨Nat.le_trans N.size h.1,h.2⟩
theorem Qmx(h:Nat)(ks:List (PT h)):∀u∈ptrs h ks,∃p,u=Value.pointer p:=λu hu=>by
 obtain⟨k,-,rfl⟩:=bW.1 hu;exact⟨_,rfl⟩
theorem Qdb(h:Nat)(a b:List (PT h)):ptrs h (a++b)=ptrs h a++ptrs h b:=by simp[ptrs]
theorem QcW(h:Nat)(a:List (PT h))(i:Nat):ptrs h (a.drop i)=(ptrs h a).drop i:=by simp[ptrs,List.map_drop]
theorem Qkc{base h:Nat}{sl sr:Sl}{l r:PT (h+1)}(hL:w.ownsRow base 46 1 (.slice sl.a l.2.length sl.c) l.2.length (ptrs h l.2))(hR:w.ownsRow base 46 1 (.slice sr.a r.2.length sr.c) r.2.length (ptrs h r.2))(N:base<=w.heap.size)(a2:∀b,sl.row=some b->sr.row≠some b)
  (hF:∀b,F b->¬Qdt sl sr b) (hk:Kids w F h (l.2++r.2)) (l2:3<=l.2.length) (r2:3<=r.2.length) (l8:l.2.length<=8) (r8:r.2.length<=8) (hx:l.2.length+r.2.length<=11) :
  Calls prog 147 #[.slice sl.a l.2.length sl.c,.slice sr.a r.2.length sr.c,.func (.func 54) #[] #[]] w λe w'=>QfZ F (h+1) l r w e w'/\St (Qdt sl sr) w w':=by
 have hG:∀b,Qdt sl sr b->b<w.heap.size:=λb N=>N.elim (λh=>(Qad hL h).2) (λh=>(Qad hR h).2)
 have a1:∀b,F b->b<w.heap.size/\¬Qdt sl sr b:=λb N=>⟨hk.lt b N,hF b N⟩
 have QfJ:∀(w':World) (a b:Nat) (zs a0:List (PT h)),(w<=a/\IsN w' (Up F w w') (h+1) (a,zs))->(w<=b/\IsN w' (Up F w w') (h+1) (b,a0))->
   QcG l.2 r.2=[zs,a0]->QfZ F (h+1) l r w (.returned (.tuple #[.pointer (some ⟨a,0,none⟩),.pointer (some ⟨b,0,none⟩)])) w':=λw' a b zs a0 ha N hp=>by
  refine⟨[((a,zs):PT (h+1)),((b,a0):PT (h+1))],rfl,⟨hp.symm,QiI (α:=PT (h+1)) ha.1 N.1⟩,QiI (α:=PT (h+1)) ha.2 N.2⟩
 by_cases h4:4<l.2.length
 ·obtain ⟨m,hm⟩:∃ m,l.2.length=m+1:=⟨l.2.length - 1,oM⟩
  have t1:(ptrs h l.2).take (m*1)=ptrs h (l.2.take m):=by rw[dd,Qcr]
  have t2:(ptrs h l.2).drop (m*1)++ptrs h r.2=ptrs h (l.2.drop m++r.2):=by rw[Qdb,QcW,dd]
  have a3:=hL;rw[hm]at a3 ⊢;refine(QnF (P1:=λa W'=>w<=a/\IsN W' (Up F w W') (h+1) (a,l.2.take m)) (P2:=λa W'=>w<=a/\IsN W' (Up F w W') (h+1) (a,l.2.drop m++r.2))
   a3 hR N a2 (QbF h l.2) (QbF h r.2) (Qmx h l.2) oM oM r8 (λW s Z I=>?_) (λW s Z I=>?_) (λa W W' hw h hs=>⟨h.1,QjO hG a1 hw.size h.2 hs⟩)).mono ?_
  ·rw [t1] at I
   exact QgC Z hF (by rw[av];omega) (by rw[av];omega) (by rw[av];omega) I (by have:=hk.take m;rwa[bj oM]at this)
  ·rw [t2] at I
   exact QgC Z hF (by rw[aj,aw];omega) (by rw[aj,aw];omega) (by rw[aj,aw];omega) I (by have:=hk.drop m;rwa[List.drop_append_of_le_length oM]at this)
  rintro e w' ⟨a,b,rfl,-,-,h1,h2,hs⟩;refine⟨QfJ w' a b _ _ h1 h2 ?_,hs⟩;rw[QcG,eu oM,hm];rfl
 by_cases h5:4<r.2.length
 ·obtain ⟨m,hm⟩:∃ m,r.2.length=m+1:=⟨r.2.length - 1,oM⟩
  have t1:ptrs h l.2++(ptrs h r.2).take 1=ptrs h (l.2++r.2.take 1):=by rw[Qdb,Qcr]
  have t2:(ptrs h r.2).drop 1=ptrs h (r.2.drop 1):=by rw[QcW]
  have a4:=hR;rw[hm]at a4 ⊢;refine(Qlq (P1:=λa W'=>w<=a/\IsN W' (Up F w W') (h+1) (a,l.2++r.2.take 1)) (P2:=λa W'=>w<=a/\IsN W' (Up F w W') (h+1) (a,r.2.drop 1))
   hL a4 N a2 (QbF h l.2) (QbF h r.2) (Qmx h r.2) oM oM oM (λW s Z I=>?_) (λW s Z I=>?_) (λa W W' hw h hs=>⟨h.1,QjO hG a1 hw.size h.2 hs⟩)).mono ?_
  ·rw [t1] at I
   exact QgC Z hF (by rw[aj,av];omega) (by rw[aj,av];omega) (by rw[aj,av];omega) I (by have:=hk.take (l.2.length+1);rwa[List.take_length_add_append]at this)
  ·rw [t2] at I
   exact QgC Z hF (by rw[aw];omega) (by rw[aw];omega) (by rw[aw];omega) I (by have:=hk.drop (l.2.length+1);rwa[cW]at this)
  rintro e w' ⟨a,b,rfl,-,-,h1,h2,hs⟩;refine⟨QfJ w' a b _ _ h1 h2 ?_,hs⟩;rw[QcG,eh oM,eu oM]
 have t1:ptrs h l.2++ptrs h r.2=ptrs h (l.2++r.2):=by rw[Qdb]
 refine(QnE (P1:=λa W'=>w<=a/\IsN W' (Up F w W') (h+1) (a,l.2++r.2)) hL hR N (QbF h r.2) oM oM (λW s Z I=>?_)).mono ?_
 ·rw [t1] at I
  exact QgC Z hF (by rw[aj]) (by rw[aj];omega) (by rw[aj];omega) I hk
 rintro e w' ⟨a,rfl,-,h1,hs⟩;refine⟨⟨[((a,l.2++r.2):PT (h+1))],rfl,⟨?_,QiG (α:=PT (h+1)) h1.1⟩,QiG (α:=PT (h+1)) h1.2⟩,hs⟩;show[l.2++r.2]=_;rw[QcG,eh oM,eh oM]
def Qbi(F:Nat->Prop)(base h:Nat)(s:Sl)(ks:List (PT h))(i:Nat)(w:World)(e:Ending)(w':World):Prop:=
 ∃(s':Sl) (ks':List (PT h)),e=.returned (.slice s'.a ks'.length s'.c)/\w'.ownsRow base 46 1 (.slice s'.a ks'.length s'.c) ks'.length (ptrs h ks')/\Qsu w.heap.size h ks i ks'/\(∀u∈ks',IsN w' (Up F w w') h u)/\St (λb=>s.row=some b) w w'
structure Qi5(w:World)(F:Nat->Prop)(base h:Nat)(s:Sl)(ks:List (PT h))(i:Nat)(l r:PT h):Prop where
 own:w.ownsRow base 46 1 (.slice s.a ks.length s.c) ks.length (ptrs h ks)
 base:base<=w.heap.size
 lt:∀b,F b->b<w.heap.size/\s.row≠some b
 isn:∀k∈ks,IsN w F h k
 ok:∀k∈ks,OkT h k/\3<=size h k
 hl:ks[i-1]? = some l
 hr:ks[i-1+1]? = some r
 sum:size h l+size h r<=11
 sorted:Sorted (ks.flatMap (ents h))
 few:(ks.flatMap (ents h)).length<=1000000
 n8:ks.length<=8
 hh:h<=1000000
variable{j:Nat}
theorem Qd3{ks:List (PT h)}{l r:PT h}(hs:Sorted (ks.flatMap (ents h)))(N:ks[j]? = some l)(I:ks[j+1]? = some r):Sorted (ents h l++ents h r):=by
 rw[QiU N I]at hs;simp only[List.flatMap_append,List.flatMap_cons]at hs;have h2:=(Qck hs).2.1;rw[<-aN]at h2;exact(Qck h2).1
theorem QqH{ks:List (PT h)}{l r:PT h}(N:ks[j]? = some l)(I:ks[j+1]? = some r):(ents h l).length+(ents h r).length<=(ks.flatMap (ents h)).length:=by
 conv=>rhs;rw[QiU N I]
 simp only[List.flatMap_append,List.flatMap_cons,List.length_append];omega
theorem QeU{α:Type}{ks:List α}{l r:α}(N:ks[j]? = some l)(I:ks[j+1]? = some r)(a b:α):(ks.set j a).set (j+1) b=ks.take j++[a,b]++ks.drop (j+2):=by
 have h1:=(ai.1 N).1;have h2:=(ai.1 I).1
 conv=>lhs;rw[QiU N I]
 rw[dB _ _ (by rw[av];omega),av,bY oM,cD,ak,dB _ _ (by rw[av];omega),av,bY oM,show j+1-j=1 from oM];simp
theorem QdX{α:Type}{ks:List α}{l r:α}(N:ks[j]? = some l)(hr:ks[j+1]? = some r)(a:α):(ks.set j a).take (j+1)++(ks.set j a).drop (j+2)=ks.take j++[a]++ks.drop (j+2):=by
 have h1:=(ai.1 N).1;rw[bZ,eu h1];have I:(ks.take j++[a]).length=j+1:=by simp;omega
 have Z:ks.take j++a::ks.drop (j+1)=(ks.take j++[a])++ks.drop (j+1):=sM
 rw[Z,bj oM,aO oM,show j+2=(ks.take j++[a]).length+1 from oM,cW,ee,I]
theorem QiO{A B e size n:Nat}{v:Value}{xs:List Value}(h:w.ownsRow B e size v n xs)(N:A<=B):w.ownsRow A e size v n xs:=by
 refine⟨h.1,?_⟩;rcases h.2 with hl |⟨g,I,Z,hv,hg,r⟩
 .exact .inl hl
 exact .inr ⟨g,I,Z,hv,an N hg,r⟩
variable{A B:Nat}
theorem OE.base(h:OE w B s xs)(I:A<=B):OE w A s xs:=⟨QiO h.own I,h.vals.mono λi hi=>⟨⟨Nat.le_trans I hi.1.1,hi.1.2⟩,hi.2⟩,h.few⟩
theorem QvW{ts:List (PT h)}(I:ts.length=1\/ts.length=2):∃u v,two h ts=.returned (.tuple #[u,v]):=by
 match ts,I with
 |[a],_=>exact⟨_,_,rfl⟩
 |[a,b],_=>exact⟨_,_,rfl⟩
theorem QrT{base h i:Nat}{ks:List (PT h)}{l r:PT h}(hm:Qi5 w F base h s ks i l r) :
  Calls prog 111 #[.slice s.a ks.length s.c,.int .i64 (i:Int)] w (Qbi F base h s ks i w):=by
 obtain⟨j,f9⟩:∃j,i-1=j:=⟨_,rfl⟩;have hj:j+1<ks.length:=by have:=(ai.1 hm.hr).1;omega
 obtain⟨g,a3,rfl,l3,l2,l1,e3⟩:=QaJ hm.own oM;have a2:=hm.own;have N:=hY hm;have g3:ks[j]? = some l:=by rw[<-f9];exact hm.hl
 have f7:ks[j+1]? = some r:=by rw[<-f9];exact hm.hr
 have cc:∀q u,(ptrs h ks)[q]? = some u->w.cell? ⟨g,q,none⟩=some u:=λq u hq=>by
  have:=a2.cells (g:=g) rfl q u hq;rwa[Qbc,aD]at this
 have cl:w.cell? ⟨g,j,none⟩=some (ptr h l):=cc j _ (by rw[ptrs,au,g3];rfl);have cr:w.cell? ⟨g,j+1,none⟩=some (ptr h r):=cc (j+1) _ (by rw[ptrs,au,f7];rfl);have j4:=ap g3;have k3:=ap f7;have k1:=e3.lt;have k5:=hm.n8;have l0:(j:Int)<(ks.length:Int):=oM
 have k7:(j:Int)+1<(ks.length:Int):=oM
 have k8:(0:Int)<=(j:Int):=oM
 have k9:(0:Int)<=(j:Int)+1:=oM
 have l4:((j:Int)+1).toNat=j+1:=oM
 obtain⟨b7,j8,a1,a0,j9⟩:=Yf f9 (λW (hW:Agree F w W)=>QaC ((hm.isn l j4).agree hW)) g3 f7 e3.frozen;clear a2 cc e3 hm g3 f7 j4 k3 f9;go_in;go_upto_region 1 with fail;go_cut [1] (λv wc=>v=.int .i64 (j:Int)/\w=wc)
 case first=>
  have h0:=b7.o;rcases i with _|i
  ·obtain rfl:0=j:=h0
   go_wp2_with fail;go_meet;exact⟨rfl,rfl⟩
  obtain rfl:i=j:=h0;go_wp2_with fail;go_meet;exact⟨by go_num,rfl⟩
 case rest=>
 obtain⟨rfl,rfl⟩:=hcut;have k6:IntKind.i64.wrap ((j:Int)+1)=(j:Int)+1:=by rw[ey];omega
 go_wp2_with fail;go_quiet (fail);go_wp2_with fail;have a8:Ext w (w.drewN nq):=(fI w).drewN nq;refine(j8.o _ (Agree.drewN w nq)).mono ?_;rintro e w0 ⟨rfl,rfl⟩;generalize w.drewN nq=W at *;clear cl cr;go_upto_if 21 with fail;go_cut [5,6] (λv5 v6 wc=>∃ts:List (PT h),two h ts=.returned (.tuple #[v5,v6])/\Yd (Ext w wc/\Qeh w.heap.size h l r ts/\∀u∈ts,IsN wc (Up F w wc) h u))
 case first=>
  cases h with
  | zero=>
    have b0:=Qa5 (w:=W) ((((N.o.isn l (ap a1.o)).agree (a8.agree λb I=>(N.o.lt b I).1))).mono λb I=>ab (N.o.lt b I).1 a8.size);have g6:∀W',Ext W W'->Calls prog 76 #[ptr 0 r] W' (QaU (ents 0 r) W'):=λW' f4=>Qa5 ((((N.o.isn r (ap a0.o)).agree ((a8.trans f4).agree λb I=>(N.o.lt b I).1))).mono λb I=>ab (N.o.lt b I).1 (a8.trans f4).size)
    obtain⟨j7,d5⟩:=Yb g6 a8;clear g6 a8;go_wp2_with fail;refine b0.mono ?_;intro e w1 hp;obtain⟨sx,xs,rfl,j0,e7,c2⟩:=hp;obtain⟨f3,c1,d7⟩:=Yc j0 e7 c2;have d6:=j7.o w1 c2;clear b0 j0 e7 c2;go_wp2_with fail;refine d6.mono ?_;intro e w2 hp;obtain⟨sy,ys,rfl,c9,a9,a5⟩:=hp;have a6:∀b,sx.row=some b->W.heap.size<=b/\b<w1.heap.size:=λb I=>Qad c1.o.own I
    have a7:∀b,sy.row=some b->w1.heap.size<=b/\b<w2.heap.size:=λb I=>Qad a9.own I
    have e4:=d7.o.size;have f8:=a5.size;have b4:=c1.o.ext a5;have b6:OE w2 W.heap.size sy ys:=a9.base e4
    have i9:xs.length≤8:=by have:=(N.o.ok l (ap a1.o)).1;have e1:xs.length=l.2.length:=by rw [show l.2=ents 0 l from rfl,←f3.o,aq]
                            rw[e1];exact this
    have i7:ys.length≤8:=by have:=(N.o.ok r (ap a0.o)).1;have e1:ys.length=r.2.length:=by rw [show r.2=ents 0 r from rfl,←c9,aq]
                            rw[e1];exact this
    have g7:xs.length+ys.length<=11:=by
     have e1:xs.length=size 0 l:=by rw[show size 0 l=(ents 0 l).length from rfl,<-f3.o,aq]
     have e2:ys.length=size 0 r:=by rw[show size 0 r=(ents 0 r).length from rfl,<-c9,aq]
     rw[e1,e2];exact N.o.sum
    have e8:Qbv (xs++ys):=Qc0 (by rw[aC,f3.o,c9];exact Qd3 N.o.sorted a1.o a0.o);have c7:=Qka b4 b6 (an e4 f8) (λb I d3=>by have:=a6 b I;have:=a7 b d3;omega)
     (λx Z=>⟨((c1.o.vals x Z).1.agree (a5.agree λb I=>I.1.2)).mono λb I=>⟨Nat.lt_of_lt_of_le I.1.2 f8,λh=>h.elim (λh=>I.2 h) (λh=>by have:=a7 b h;have:=I.1.2;omega)⟩,(c1.o.vals x Z).2⟩)
     (λx Z=>⟨(a9.vals x Z).1.mono λb I=>⟨I.1.2,λh=>h.elim (λh=>by have:=a6 b h;have:=I.1.1;omega) (λh=>I.2 h)⟩,(a9.vals x Z).2⟩)
     e8 i9 i7 g7 (l:=l) (r:=r) f3.o c9
    have b9:=d5.o.trans (d7.o.trans a5);obtain⟨c0,i0,g9⟩:=Yc b9 a6 a7;have k2:=d5.o.size;clear d6 c9 a9 a5 a6 a7 b4 b6 e8 i9 i7 g7 b9;go_wp2_with fail;refine c7.mono ?_;rintro e w3 ⟨⟨ts,rfl,hP,hI⟩,c4⟩;have a4:Yd (Ext w w3/\Qeh w.heap.size 0 l r ts/\∀u∈ts,IsN w3 (Up F w w3) 0 u):=hY ⟨c0.o.step c4 (λb I=>I.elim (λh=>by have:=i0.o b h;omega) (λh=>by have:=g9.o b h;omega)),hP.mono (c0.o.size),λu hu=>(hI u hu).mono λi hi=>hi.elim (λh=>h.elim) λh=>.inr ⟨Nat.le_trans c0.o.size h.1,h.2⟩⟩;clear c7 hP hI c4;obtain⟨u,v,c8⟩:=QvW (a4.o.2.1.len);rw[c8];go_wp2_with fail;go_meet;exact⟨ts,c8,a4⟩
  | succ h=>
    have hz:(((h:Int)+1)==0)=false:=ev.2 oM;have i4:∀W',Ext W W'->∀x,x∈ks->Calls prog 67 #[ptr (h+1) x] W' (Qet 46 x.2.length (ptrs h x.2) W'):=λW' f4 x Z=>Qb9 ((N.o.isn x Z).agree ((a8.trans f4).agree λb I=>(N.o.lt b I).1)) (by have:=(N.o.ok x Z).1.2.1;omega)
    have b0:=i4 W (fI W) l (ap a1.o);obtain⟨j6,d5⟩:=Yb i4 a8;clear i4 a8;go_wp2_with fail;refine b0.mono ?_;rintro e w1 ⟨sx,rfl,e7,c2⟩;obtain⟨c1,d7⟩:=Yb e7 c2;have d6:=j6.o w1 c2 r (ap a0.o);clear b0 e7 c2;go_wp2_with fail;refine d6.mono ?_;rintro e w2 ⟨sy,rfl,a9,a5⟩;have a6:∀b,sx.row=some b->W.heap.size<=b/\b<w1.heap.size:=λb I=>Qad c1.o I
    have a7:∀b,sy.row=some b->w1.heap.size<=b/\b<w2.heap.size:=λb I=>Qad a9 I
    have e4:=d7.o.size;have f8:=a5.size;have k2:=d5.o.size;have b4:w2.ownsRow W.heap.size 46 1 (.slice sx.a l.2.length sx.c) l.2.length (ptrs h l.2):=Qab c1.o (a5.agree (F:=Lt w1) λ_ h=>h) λb I=>(a6 b I).2
    have b6:w2.ownsRow W.heap.size 46 1 (.slice sy.a r.2.length sy.c) r.2.length (ptrs h r.2):=QiO a9 e4;have d4:=N.o.ok l (ap a1.o);have f2:=N.o.ok r (ap a0.o);have b9:=d5.o.trans (d7.o.trans a5);have j1:=Qd3 N.o.sorted a1.o a0.o;have j3:=QqH (ks:=ks) a1.o a0.o;have e6:∀x∈l.2++r.2,OkT h x/\4<=size h x/\IsN w F h x:=λx Z=>by
     rcases aS.1 Z with Z|Z
     .exact ⟨(d4.1.2.2 x Z).1,(d4.1.2.2 x Z).2,(N.o.isn l (ap a1.o)).2.choose_spec.2.2 x Z⟩
     exact⟨(f2.1.2.2 x Z).1,(f2.1.2.2 x Z).2,(N.o.isn r (ap a0.o)).2.choose_spec.2.2 x Z⟩
    have c6:∀x∈l.2++r.2,0<(ents h x).length:=λx Z=>Qbk h x (e6 x Z).1 (by have:=(e6 x Z).2.1;omega)
    have g4:Sorted ((l.2++r.2).flatMap (ents h)):=by rw[aK];exact j1
    have f0:Kids w2 F h (l.2++r.2):=⟨λb I=>ab (N.o.lt b I).1 b9.size,λx Z=>(e6 x Z).2.2.agree (b9.agree λb I=>(N.o.lt b I).1),QdI g4 c6,c6,λx Z=>by have:=Qdf (e6 x Z).1;omega,by
     unfold cnt;rw[aK,aj];have h1:(ents (h+1) l).length+(ents (h+1) r).length<=1000000:=an j3 N.o.few;have h2:(l.2.flatMap (ents h)).length=(ents (h+1) l).length:=rfl;have h3:(r.2.flatMap (ents h)).length=(ents (h+1) r).length:=rfl;omega,by have:=N.o.hh;omega⟩
    have c7:=Qkc (F:=F) (l:=l) (r:=r) b4 b6 (an e4 f8) (λb I d3=>by have:=a6 b I;have:=a7 b d3;omega)
     (λb I d3=>by
       have:=(N.o.lt b I).1;rcases d3 with h|h
       .have:=a6 b h;omega
       have:=a7 b h;omega) f0 d4.2 f2.2 d4.1.2.1 f2.1.2.1 N.o.sum
    obtain⟨c0,i0,g9⟩:=Yc b9 a6 a7;clear d6 a9 a5 a6 a7 b4 b6 b9 j1 j3 e6 c6 g4 f0 d4 f2;go_wp2_with fail;refine c7.mono ?_;rintro e w3 ⟨⟨ts,rfl,hP,hI⟩,c4⟩;have a4:Yd (Ext w w3/\Qeh w.heap.size (h+1) l r ts/\∀u∈ts,IsN w3 (Up F w w3) (h+1) u):=hY ⟨c0.o.step c4 (λb I=>I.elim (λh=>by have:=i0.o b h;omega) (λh=>by have:=g9.o b h;omega)),hP.mono (c0.o.size),λu hu=>(hI u hu).mono λi hi=>hi.imp_right λh=>⟨Nat.le_trans c0.o.size h.1,h.2⟩⟩;clear c7 hP hI c4;obtain⟨u,v,c8⟩:=QvW (a4.o.2.1.len);rw[c8];go_wp2_with fail;go_meet;exact⟨ts,c8,a4⟩
 case rest=>
 obtain⟨ts,i5,a4⟩:=hcut;obtain⟨c3,hP,hI⟩:=a4.o;have b8:wc.ownsRow base 46 1 (.slice (some ⟨g,0,none⟩) ks.length a3) ks.length (ptrs h ks):=Qab (s:=⟨some ⟨g,0,none⟩,a3⟩) N.o.own (c3.agree (F:=Lt w) λ_ h=>h) λb I=>(Qad N.o.own I).2
 have k4:∀o,wc.frozen? ⟨g,o,none⟩=false:=λo=>(c3.frozen k1).trans (j9.o o)
 have i3:∀q u,(ptrs h ks)[q]? = some u->wc.cell? ⟨g,q,none⟩=some u:=λq u hq=>by
  have:=b8.cells (g:=g) rfl q u hq;rwa[Qbc,aD]at this
 have dl:wc.cell? ⟨g,j,none⟩=some (ptr h l):=i3 j _ (by rw[ptrs,au,a1.o];rfl);have dr:wc.cell? ⟨g,j+1,none⟩=some (ptr h r):=i3 (j+1) _ (by rw[ptrs,au,a0.o];rfl);have i8:j<ks.length:=oM
 obtain⟨f1,i2,HP,HI⟩:=Ye b8 c3 hP hI;have b5:=hP.len;have i6:∀W' x,F x\/(w.heap.size<=x/\x<W')->x≠g:=λW' x Z e=>by
  subst e;rcases Z with h|h
  .exact (N.o.lt x h).2 rfl
  omega
 have f5:∀x,F x->x<w.heap.size:=λx Z=>(N.o.lt x Z).1
 have j2:∀k∈ks,IsN wc (Up F w wc) h k:=λk hk=>((N.o.isn k hk).agree (c3.agree f5)).mono λi hi=>.inl hi
 obtain⟨g0,f6⟩:=Yb j2 i6;clear b8 i3 c3 hP hI j2 i6;rcases b5 with b5|b5
 ·obtain ⟨a,rfl⟩:=List.length_eq_one_iff.1 b5
  cases(show Ending.returned (.tuple #[ptr h a,.pointer none])=_ from i5);have b3:∀w5,Wr (wc.setCell ⟨g,j,none⟩ (ptr h a)) w5 (some g)->w5.ownsRow base 46 1 (.slice (some ⟨g,0,none⟩) (ks.length-1) a3) (ks.length-1) (((ptrs h ks).set j (ptr h a)).take ((j+1)*1)++((ptrs h ks).set j (ptr h a)).drop ((j+1+1)*1))->
    Qbi F base h ⟨some ⟨g,0,none⟩,a3⟩ ks i w (.returned (.slice (some ⟨g,0,none⟩) (ks.length-1) a3)) w5:=λw5 g8 a2=>by
   have hz:wc.heap.size<=w5.heap.size:=by have:=g8.grown.size;rwa[eC]at this
   have i1:Agree (Up F w wc) wc w5:=(fO wc ⟨g,j,none⟩ _ (λh=>f6.o _ g h rfl)).trans (g8.agree (λi hi=>by rw[eC];exact hi.elim (λh=>ab (f5 i h) i2.o.size) λh=>h.2) (λk hk h=>by cases hk;exact f6.o _ g h rfl));have j5:∀i,Up F w wc i->Up F w w5 i:=λi hi=>hi.imp_right λh=>⟨h.1,ab h.2 hz⟩
   have e0:(ptrs h ks).set j (ptr h a)=ptrs h (ks.set j a):=by rw[ptrs,ptrs,dx]
   have e1:((ptrs h ks).set j (ptr h a)).take ((j+1)*1)++((ptrs h ks).set j (ptr h a)).drop ((j+1+1)*1)=ptrs h (ks.take j++[a]++ks.drop (j+2)):=by
    rw[e0,dd,dd,<-Qcr,<-QcW,<-Qdb,QdX a1.o a0.o]
   have e2:(ks.take j++[a]++ks.drop (j+2)).length=ks.length-1:=by simp only[List.length_append,List.length_take,List.length_drop,List.length_cons,List.length_nil];omega
   rw[e1]at a2;refine⟨⟨some ⟨g,0,none⟩,a3⟩,ks.take j++[a]++ks.drop (j+2),by rw[e2],by rw[e2];exact a2,⟨l,r,[a],by rw[b7.o];exact a1.o,by rw[b7.o];exact a0.o,HP.o,by rw[b7.o]⟩,λu hu=>?_,(((i2.o.st (λb=>(⟨some ⟨g,0,none⟩,a3⟩:Sl).row=some b)).set (p:=⟨g,j,none⟩) (.inr rfl) _).trans (g8.st λi hi=>hi))⟩;refine IsN.mono j5 (IsN.agree i1 ?_);rcases aS.1 hu with hu|hu
   ·rcases aS.1 hu with hu | hu
    .exact g0.o u (ba hu)
    exact HI.o u hu
   exact g0.o u (aM hu)
  have hd:=Qf2 (s:=⟨some ⟨g,0,none⟩,a3⟩) (n:=ks.length) (xs:=(ptrs h ks).set j (ptr h a)) (i:=j+1) (Qbt f1.o i8 (ptr h a)) oM oM (λu hu=>by
   rcases ci hu with hu|rfl
   .exact QbF h ks u hu
   rfl)
  have q1:((j+1:Nat):Int)=((j:Int)+1):=oM
  have q2:((j:Int)+1)+1=((j:Int)+2):=oM
  rw[q1,q2]at hd;obtain⟨HD,d8⟩:=Yb hd b3;clear hd b3 q1 q2 f5;go_wp2_with fail;refine HD.o.mono ?_;rintro e w5 ⟨rfl,d0,g5⟩;have k0:=hY (d8.o w5 g5 d0);clear d0 g5;go_wp2_with fail;go_ret;exact k0.o
 obtain⟨a,b,rfl⟩:∃a b,ts=[a,b]:=by
  match ts,b5 with
  |[a,b],_=>exact⟨a,b,rfl⟩
 cases(show Ending.returned (.tuple #[ptr h a,ptr h b])=_ from i5);have b3:Qbi F base h ⟨some ⟨g,0,none⟩,a3⟩ ks i w (.returned (.slice (some ⟨g,0,none⟩) ks.length a3)) ((wc.setCell ⟨g,j,none⟩ (ptr h a)).setCell ⟨g,j+1,none⟩ (ptr h b)):=by
  have i1:Agree (Up F w wc) wc ((wc.setCell ⟨g,j,none⟩ (ptr h a)).setCell ⟨g,j+1,none⟩ (ptr h b)):=(fO wc ⟨g,j,none⟩ _ (λh=>f6.o _ g h rfl)).trans (fO _ ⟨g,j+1,none⟩ _ (λh=>f6.o _ g h rfl));have e0:((ptrs h ks).set j (ptr h a)).set (j+1) (ptr h b)=ptrs h ((ks.set j a).set (j+1) b):=by rw[ptrs,ptrs,dx,dx]
  have e2:(ks.take j++[a,b]++ks.drop (j+2)).length=ks.length:=by simp only[List.length_append,List.length_take,List.length_drop,List.length_cons,List.length_nil];omega
  have a2:=Qbt (Qbt f1.o i8 (ptr h a)) (i:=j+1) oM (ptr h b);rw[e0,QeU a1.o a0.o]at a2;refine⟨⟨some ⟨g,0,none⟩,a3⟩,ks.take j++[a,b]++ks.drop (j+2),by rw[e2],by rw[e2];exact a2,⟨l,r,[a,b],by rw[b7.o];exact a1.o,by rw[b7.o];exact a0.o,HP.o,by rw[b7.o]⟩,λu hu=>?_,(((i2.o.st (λb=>(⟨some ⟨g,0,none⟩,a3⟩:Sl).row=some b)).set (p:=⟨g,j,none⟩) (.inr rfl) _).set (p:=⟨g,j+1,none⟩) (.inr rfl) _)⟩;refine IsN.mono (λi hi=>hi.imp_right λh=>⟨h.1,by simpa using h.2⟩) (IsN.agree i1 ?_);rcases aS.1 hu with hu|hu
  ·rcases aS.1 hu with hu | hu
   .exact g0.o u (ba hu)
   exact HI.o u hu
  exact g0.o u (aM hu)
 have d8:=hY b3;clear b3 f5;go_wp2_with fail;go_ret;exact d8.o
def QsU(nv:Value)(es:List Ent)(k:ByteArray)(w:World)(e:Ending)(w':World):Prop:=
 Ext w w'/\((Qaq es k=none/\e=.returned (.tuple #[nv,.bool false]))\/
  ((Qaq es k).isSome=true/\∃u:PT 0,e=.returned (.tuple #[ptr 0 u,.bool true])/\u.2=QbM es k/\w.heap.size<=u.1/\IsN w' (In w.heap.size w'.heap.size) 0 u))
theorem Qke{es:List Ent}(hs:Sorted es)(k:ByteArray):decide ((es[Qct es k]?).map Prod.fst=some k)=(Qaq es k).isSome:=by
 rw[Qit hs];cases N:es[Qct es k]? with
 |none=>simp
 |some e=>by_cases I:e.1=k<;>simp[I]
variable{nv:Value}
theorem QdP{es:List Ent}(hp:∃p,nv=.pointer p)(hh:Calls prog 66 #[nv] w λe w'=>e=.returned (.int .i64 0)/\w=w')(he:Calls prog 76 #[nv] w (QaU es w))
  (hs:Sorted es) (h8:es.length<=8) (k:ByteArray):Calls prog 75 #[nv,.string k] w (QsU nv es k w):=by
 obtain⟨pp,rfl⟩:=hp;have HS:=hY hs;clear hs;go_in;go_wp2_with fail;refine hh.mono ?_;rintro e w1 ⟨rfl,rfl⟩;go_wp2_with fail;refine he.mono ?_;intro e w1 hp;obtain⟨s,xs,rfl,a0,ho,b7⟩:=hp;have I:=Qkd (w:=w1) (s:=s) (xs:=xs) (ho.es.mono λi hi=>hi.2) k (by rw[a0];exact HS.o);rw[a0]at I;have b8:xs.length=es.length:=by rw[<-a0,aq]
 obtain⟨c0,HO,b4⟩:=Yc a0 ho b7;have c6:xs.length<=8:=oM
 have c2:=hY b8;obtain⟨p,hp⟩:∃p,Qct es k=p:=⟨_,rfl⟩;unfold Qgf at I;rw[Qke HS.o,hp]at I;have HP:=hY hp;clear a0 ho b7 he hh b8 hp;cases hg:Qaq es k with
 | none=>
   rw[hg]at I;have HG:=hY hg;clear hg;go_wp2_with fail;refine I.mono ?_;rintro e w2 ⟨rfl,N⟩;have a4:=hY (b4.o.trans N);clear I N;go_wp2_with fail;go_ret2;exact⟨a4.o,.inl ⟨HG.o,rfl⟩⟩
 | some v=>
   rw[hg]at I;have c4:p<xs.length:=by
    have h1:=Qit HS.o k;rw[hg,HP.o]at h1;rcases dW p xs.length with h|h
    .exact h
    rw[aJ (by rw[<-c2.o];exact h)]at h1;cases h1
   have b3:QbM es k=es.take p++es.drop (p+1):=by
    have h1:=Qre HS.o k;have h2:=Qke HS.o k;rw[hg]at h2;rw[eu (of_decide_eq_true h2),HP.o]at h1;exact h1
   obtain⟨HG,c1⟩:=Yb hg b3;have c7:IntKind.i64.wrap ((p:Int)+1)=(p:Int)+1:=by rw[ey];omega
   clear hg b3;go_wp2_with fail;refine I.mono ?_;rintro e w2 ⟨rfl,N⟩;have a8:=HO.o.ext N;have hd:=Qrd (i:=p) a8.own oM c4 (QbX xs);obtain⟨a5,a4⟩:=Yb a8 (b4.o.trans N);clear I N a8;go_wp2_with fail;refine hd.mono ?_;rintro e w3 ⟨rfl,Z,a1⟩;have a2:∀i,s.row=some i->w.heap.size<=i/\i<w2.heap.size:=λi hi=>Qad a5.o.own hi
   have e1:(QaD xs).take (p*7)++(QaD xs).drop ((p+1)*7)=QaD (xs.take p++xs.drop (p+1)):=by rw[QcS,QcQ,Qcp]
   rw[e1]at Z;have b0:Ext w w3:=a4.o.wr a1 (λi hi=>(a2 i hi).1);have b5:ES w3 (Lt w3) s (xs.take p++xs.drop (p+1)):=QuN (by rw[aj,av,aw];omega) ((fP Z).mono λi hi=>hi.2)
    (λx hx=>by
      have a9:x∈xs:=by
       rcases aS.1 hx with hx|hx
       .exact ba hx
       exact aM hx
      exact⟨((a5.o.vals x a9).1.agree (a1.agree (λi hi=>hi.1.2) (λk hk h=>h.2 hk))).mono λi hi=>ab hi.1.2 a1.grown.size,(a5.o.vals x a9).2⟩) (by rw[aj,av,aw];omega)
   have a6:(xs.take p++xs.drop (p+1)).map LE.ent=QbM es k:=by rw[aC,cE,cp,c0.o,c1.o]
   have a7:=QdM (n:=xs.length-1) b5 (by rw[aj,av,aw];omega) (Qc0 (by rw[a6];exact QaN HS.o k)) (by rw[aj,av,aw];omega);rw[a6]at a7;have a3:=hY b0;clear hd Z a1 a2 e1 b0 b5 a6;go_wp2_with fail;refine a7.mono ?_;rintro e w4 ⟨u,rfl,hu,b9,b6,c3⟩;have HU:=hY b6;clear a7 b6;go_wp2_with fail;go_ret2;exact⟨a3.o.trans c3,.inr ⟨by rw[HG.o];rfl,u,rfl,hu,an a3.o.size b9,HU.o.mono λi hi=>⟨Nat.le_trans a3.o.size hi.1,hi.2⟩⟩⟩
def Qow(F:Nat->Prop)(h:Nat)(t:PT h)(k:ByteArray)(w:World)(e:Ending)(w':World):Prop:=
 Ext w w'/\((Qaq (ents h t) k=none/\e=.returned (.tuple #[ptr h t,.bool false]))\/
  ((Qaq (ents h t) k).isSome=true/\∃u:PT h,e=.returned (.tuple #[ptr h u,.bool true])/\Qi3 w.heap.size k h t u/\IsN w' (Up F w w') h u))
def QsV(F:Nat->Prop)(h:Nat)(t:PT (h+1))(k:ByteArray)(w:World)(e:Ending)(w':World):Prop:=
 Ext w w'/\((Qaq (ents (h+1) t) k=none/\e=.returned (.tuple #[ptr (h+1) t,.bool false]))\/
  ((Qaq (ents (h+1) t) k).isSome=true∧∃ ks':List (PT h),QmO w.heap.size k h (Qi3 w.heap.size k h) t.2 ks'∧
    ((∃ u,ks'=[u]∧e=.returned (.tuple #[ptr h u,.bool true])∧IsN w' (Up F w w') h u)∨
     (2<=ks'.length/\∃c:PT (h+1),c.2=ks'/\w.heap.size<=addr (h+1) c/\e=.returned (.tuple #[ptr (h+1) c,.bool true])/\IsN w' (Up F w w') (h+1) c))))
def QsO(F:Nat->Prop)(h:Nat)(ks':List (PT h))(w:World)(e:Ending)(w':World):Prop:=
 Ext w w'/\((∃u,ks'=[u]/\e=.returned (ptr h u)/\IsN w' (Up F w w') h u)\/(2<=ks'.length/\∃c:PT (h+1),c.2=ks'/\w.heap.size<=addr (h+1) c/\e=.returned (ptr (h+1) c)/\IsN w' (Up F w w') (h+1) c))
variable{w6:World}
theorem Qg5{k:ByteArray}{t:PT (h+1)}{s6:Sl}{I:List (PT h)}(hF:∀b,F b->b<w.heap.size)(ok:OkT (h+1) t)(hs:Sorted (ents (h+1) t))(hc:(ents (h+1) t).length<=1000000)(hh:h+1<1000000)(hg:(Qaq (ents (h+1) t) k).isSome=true)
  (hX:Ext w w6) (Z:w6.ownsRow w.heap.size 46 1 (.slice s6.a I.length s6.c) I.length (ptrs h I)) (hD:QmO w.heap.size k h (Qi3 w.heap.size k h) t.2 I) (hI:∀u∈I,IsN w6 (Up F w w6) h u) :
  Calls prog 54 #[.slice s6.a I.length s6.c] w6 λe w'=>QsO F h I w e w':=by
 obtain⟨h1,h2,h3⟩:=Qdw hD ok hs hg;have a8:=ok.1;have a7:=ok.2.1;by_cases a1:I.length=1
 ·obtain ⟨u,rfl⟩:=List.length_eq_one_iff.1 a1
  refine(Qoh (s:=s6) (k:=u) (fP Z)).mono ?_;rintro e w' ⟨rfl,rfl⟩;exact⟨hX,.inl ⟨u,rfl,rfl,hI u (aX.2 rfl)⟩⟩
 have a2:=hD.ents hs (QbU ok) oM (λx y N hr=>hr.ents (ok.2.2 x N).1 (QaL hs x N));have a4:Sorted (I.flatMap (ents h)):=by rw[a2];exact QaN hs k
 have a0:∀x∈I,0<(ents h x).length:=λx N=>Qbk h x (h1 x N).1 (by have:=(h1 x N).2;omega)
 have hk:Kids w6 (Up F w w6) h I:=⟨λb hb=>hb.elim (λh=>ab (hF b h) hX.size) λh=>h.2,hI,QdI a4 a0,a0,λx N=>by have:=Qdf (h1 x N).1;omega,by
  unfold cnt;rw[a2];have h5:(QbM (t.2.flatMap (ents h)) k).length<=(t.2.flatMap (ents h)).length:=(Qa3 _ k).length_le;have h6:(t.2.flatMap (ents h)).length<=1000000:=hc;omega,oM⟩
 refine(Qcl ((fP Z).mono λi hi=>hi.2) rfl hk oM oM).mono ?_;rintro e w' ⟨c,rfl,a5,a3,a6,N⟩;refine⟨hX.trans N,.inr ⟨oM,c,a5,an hX.size a3,rfl,a6.mono λi hi=>?_⟩⟩;rcases hi with(hi|hi)|hi
 .exact .inl hi
 .exact .inr ⟨hi.1,ab hi.2 N.size⟩
 exact .inr ⟨Nat.le_trans hX.size hi.1,hi.2⟩
theorem QfK{k:ByteArray}
  (ih:∀(w:World) (F:Nat->Prop) (t:PT h),(∀b,F b->b<w.heap.size)->IsN w F h t->OkT h t->4<=size h t->Sorted (ents h t)->(ents h t).length<=1000000->Calls prog 75 #[ptr h t,.string k] w (Qow F h t k w))
 {t:PT (h+1)} (hF:∀ b,F b→b<w.heap.size) (hn:IsN w F (h+1) t) (ok:OkT (h+1) t) (hs:Sorted (ents (h+1) t)) (hc:(ents (h+1) t).length≤1000000) :
  Calls prog 75 #[ptr (h+1) t,.string k] w (QsV F h t k w):=by
 have b8:=QbU ok;have hh:h+1<1000000:=ab (QcT (h+1) t ok (by have:=ok.1;show 1<=t.2.length;omega)) hc;obtain⟨I,N,hA,hC⟩:=Qa6 (h:=h) (ks:=t.2) hs b8 (by have:=ok.1;omega) k;have a1:=ap N;have k1:=(ai.1 N).1;have k5:=ok.2.1;have j7:=ok.1;have b7:∀x∈t.2,IsN w F h x:=hn.2.choose_spec.2.2;have c7:(ents h I).length<=1000000:=an (by
  show _<=(t.2.flatMap (ents h)).length;rw[QbI N];simp only[List.flatMap_append,List.flatMap_cons,List.length_append];omega) hc
 have e8:Qaq (ents (h+1) t) k=Qaq (ents h I) k:=Qf3 N hA hC;have b0:∀W,Ext w W->Calls prog 75 #[ptr h I,.string k] W (Qow F h I k W):=λW hW=>
  ih W F I (λb Z=>ab (hF b Z) hW.size) ((b7 I a1).agree (hW.agree hF)) (ok.2.2 I a1).1 (ok.2.2 I a1).2 (QaL hs I a1) c7
 have j5:∀B u,(Qaq (ents (h+1) t) k).isSome=true->Qi3 B k h I u->OkT h u/\size h I<=size h u+1/\size h u<=size h I:=λB u hg hr=>hr.ok (ok.2.2 I a1).1 (ok.2.2 I a1).2 (QaL hs I a1) (by rw[<-e8];exact hg)
 obtain⟨HF,HN,HS,HP,k4,g7,a3⟩:=Yh hF hn hs b8 b0 b7 N;obtain⟨j1,a9,HC,k0⟩:=Ye e8 ok hc j5;have n6:(((h:Int)+1)==0)=false:=ev.2 oM;clear hF hn ok hs hc b8 b0 b7 N hA hC ih c7 e8 j5;go_in;go_wp2_with fail;refine(QaC HN.o).mono ?_;rintro e w1 ⟨rfl,rfl⟩;have c7:=Qb9 HN.o oM;go_wp2_with fail;refine c7.mono ?_;rintro e w1 ⟨s',rfl,c0,d6⟩;have g9:Rd w1 (Lt w1) 1 s' t.2.length (ptrs h t.2):=(fP c0).mono λi hi=>hi.2
 have f2:=Qg3 g9 (λx hx=>(g7.o x hx).agree (d6.agree HF.o)) (λb Z=>ab (HF.o b Z) d6.size) HP.o k HS.o oM;obtain⟨i,hi⟩:∃i,Qaw h t.2 k=i:=⟨_,rfl⟩;rw[hi]at f2 k1;obtain⟨HI,k3,e3,k9⟩:=Ye hi f2 c0 d6;clear hi f2 c0 g9 c7 d6;go_wp2_with fail;refine k3.o.mono ?_;rintro e w2 ⟨rfl,f1⟩;have f3:=k9.o.trans f1;obtain⟨g,a0,rfl,c6,o4,o2,i3⟩:=QaJ e3.o oM;have d5:w2.ownsRow w.heap.size 46 1 (.slice (some ⟨g,0,none⟩) t.2.length a0) t.2.length (ptrs h t.2):=Qab (s:=⟨some ⟨g,0,none⟩,a0⟩) e3.o (f1.agree (F:=Lt w1) λ_ h=>h) λb Z=>(Qad e3.o Z).2
 have l2:w2.cell? ⟨g,i,none⟩=some (ptr h I):=by
  have:=d5.cells (g:=g) rfl i (ptr h I) (by rw[ptrs,au,<-HI.o,a3.o];rfl);rwa[Qbc,aD]at this
 have l8:(i:Int)<(t.2.length:Int):=oM
 have l4:g<w2:=(Qad (s:=⟨some ⟨g,0,none⟩,a0⟩) d5 rfl).2;have b0:=k4.o w2 f3;obtain⟨g3,c3⟩:=Yb d5 f3;clear f1 d5 f3 i3;go_wp2_with fail;refine b0.mono ?_;rintro e w3 ⟨a4,(⟨hg,rfl⟩ |⟨hg,u,rfl,d0,i8⟩)⟩
 ·have k7:=hY (c3.o.trans a4)
  have HG:=hY hg;clear a4 hg b0;go_wp2_with fail;go_ret2;exact⟨k7.o,.inl ⟨by rw[j1.o];exact HG.o,rfl⟩⟩
 have f4:(Qaq (ents (h+1) t) k).isSome=true:=by rw[j1.o];exact hg
 obtain⟨ou,o1,o0⟩:=k0.o _ u f4 d0;have j6:3<=size h u:=by have:=(a9.o.2.2 I (ap a3.o)).2;omega
 have n4:size h u<=8:=Qdf ou;have l9:=a4.size;have i2:=c3.o.size;have f5:∀b,Up F w2 w3 b->b≠g:=λb Z e=>by
  subst e;rcases Z with Z|Z
  .have:=HF.o _ Z;have c6:w<=b:=c6;omega
  omega
 have a7:w3.ownsRow w.heap.size 46 1 (.slice (some ⟨g,0,none⟩) t.2.length a0) t.2.length (ptrs h t.2):=Qab (s:=⟨some ⟨g,0,none⟩,a0⟩) g3.o (a4.agree (F:=Lt w2) λ_ h=>h) λb Z=>(Qad (s:=⟨some ⟨g,0,none⟩,a0⟩) g3.o Z).2
 have a6:=Qbt a7 (i:=i) oM (ptr h u);have e0:(ptrs h t.2).set i (ptr h u)=ptrs h (t.2.set i u):=by rw[ptrs,ptrs,dx]
 rw[e0]at a6;have k8:w3.cell? ⟨g,i,none⟩=some (ptr h I):=(a4.cell l4).trans l2;have l6:∀o,w3.frozen? ⟨g,o,none⟩=false:=by
  obtain⟨g',g5,e1,-,-,-,d4⟩:=QaJ (s:=⟨some ⟨g,0,none⟩,a0⟩) a7 oM;obtain⟨rfl,rfl⟩:g=g'/\a0=g5:=by simpa using e1
  exact d4.frozen
 have i9:=(c3.o.trans a4).setCell (p:=⟨g,i,none⟩) c6 (ptr h u);have c1:Agree (Up F w2 w3) w3 (w3.setCell ⟨g,i,none⟩ (ptr h u)):=fO w3 ⟨g,i,none⟩ _ (λh=>f5 g h rfl);have f0:∀x∈t.2.set i u,IsN (w3.setCell ⟨g,i,none⟩ (ptr h u)) (Up F w2 w3) h x:=λx hx=>by
  rcases ci hx with hx|rfl
  .exact (((g7.o x hx).agree ((c3.o.trans a4).agree HF.o)).mono λb Z=>.inl Z).agree c1
  exact i8.agree c1
 have f9:=f0 u (List.mem_set oM u);have f8:=Qf8 f9 oM;have i6:(w3.setCell ⟨g,i,none⟩ (ptr h u)).heap.size=w3.heap.size:=sM
 have d8:=d0.mono i2;have N:=a3.o;rw[HI.o]at N;have i0:∀c9,((4<=size h u/\c9=t.2.set i u)\/(size h u<4/\Qsu w.heap.size h (t.2.set i u) i c9))->QmO w.heap.size k h (Qi3 w.heap.size k h) t.2 c9:=λc9 b7=>by
  refine⟨I,u,a3.o,d8,?_⟩;rw[HI.o];exact b7
 have f6:(t.2.set i u).flatMap (ents h)=QbM (t.2.flatMap (ents h)) k:=by
  obtain⟨n2,e4,hA,hC⟩:=Qa6 (h:=h) (ks:=t.2) HS.o HP.o oM k;rw[a3.o]at e4;simp only[Option.some.injEq]at e4;subst e4;rw[HI.o]at hA hC;rw[set_mid N];simp only[List.flatMap_append,List.flatMap_cons];have e1:=d0.ents (a9.o.2.2 I (ap N)).1 (QaL HS.o I (ap N))
  conv=>rhs;rw[QbI N]
  rw[aK,aZ,Qik hA,Qgu hC,e1]
 have i1:Sorted ((t.2.set i u).flatMap (ents h)):=by
  rw[f6];exact QaN HS.o k
 have d4:((t.2.set i u).flatMap (ents h)).length<=1000000:=by
  rw[f6];exact an (Qa3 _ k).length_le HC.o
 obtain⟨l5,HU,i4,l3,l1,j9,k2⟩:=Yh d4 f8 i0 i9 a6 f0 i1;obtain⟨b3,l0,k6⟩:=Yc f4 ou f5;have n8:g<w3:=oM
 clear b0 hg d0 i8 f4 ou a7 a6 e0 i9 c1 f0 f9 f8 d8 N i0 f6 i1 d4 a4 f5;go_wp2_with fail;generalize j8:World.setCell _ _ _=W4 at *;refine HU.o.mono ?_;rintro e w5 ⟨rfl,q,rfl⟩;have g4:=l3.o.drewN q;have d7:Agree (Up F w2 w3) W4 (W4.drewN q):=Agree.drewN W4 q;have g8:(W4.drewN q).ownsRow w.heap.size 46 1 (.slice (some ⟨g,0,none⟩) t.2.length a0) t.2.length (ptrs h (t.2.set i u)):=l1.o;have j4:(W4.drewN q).heap.size=w3.heap.size:=i6;have j0:∀x∈t.2.set i u,IsN (W4.drewN q) (Up F w2 w3) h x:=λx hx=>(j9.o x hx).agree d7
 generalize W4.drewN q=W5 at *;obtain⟨c8,i5,j2,e6⟩:=Ye g4 g8 j0 j4;have a8:(t.2.set i u).length=t.2.length:=by rw[bV]
 clear g4 d7 g8 j0 j4 k8 l6 i6 j8;by_cases h4:size h u<4
 ·have l7:(size h u:Int)<4:=oM
  obtain⟨l,hl⟩:∃l,(t.2.set i u)[i-1]? = some l:=⟨_,ac oM⟩;obtain⟨r,hr⟩:∃r,(t.2.set i u)[i-1+1]? = some r:=⟨_,ac oM⟩;have b9:∀x∈t.2.set i u,OkT h x/\3<=size h x:=λx hx=>by
   rcases ci hx with hx|rfl
   .exact ⟨(a9.o.2.2 x hx).1,by have:=(a9.o.2.2 x hx).2;omega⟩
   exact⟨l0.o,j6⟩
  have e2:size h l+size h r<=11:=by
   have h8:∀x∈t.2.set i u,size h x<=8:=λx hx=>Qdf (b9 x hx).1
   have n9:=h8 l (ap hl);have n7:=h8 r (ap hr);have g0:(t.2.set i u)[i]? = some u:=by rw[cR oM]
   by_cases h0:i=0
   ·subst h0
    rw[g0]at hl;simp only[Option.some.injEq]at hl;subst hl;omega
   rw[show i-1+1=i from oM,g0]at hr;simp only[Option.some.injEq]at hr;subst hr;omega
  have a5:=QrT (w:=W5) (F:=Up F w2 w3) (base:=w) (s:=⟨some ⟨g,0,none⟩,a0⟩) (i:=i) (ks:=t.2.set i u) (l:=l) (r:=r)
   ⟨by rw[a8];exact i5.o,c8.o.size,λb Z=>⟨by rw[e6.o];exact Z.elim (λh=>by have:=HF.o b h;have:=c3.o.size;omega) λh=>h.2,λe=>by simp[Sl.row]at e;exact k6.o b Z e.symm⟩,j2.o,b9,hl,hr,e2,k2.o,by
     have:=l5.o;omega,oM,oM⟩
  rw[a8]at a5;have HM:=hY a5;clear hl hr b9 e2 a5;go_wp2_with fail;refine HM.o.mono ?_;rintro e w6 ⟨s6,d3,rfl,b5,j3,i7,c4⟩;have g6:Ext w w6:=c8.o.step c4 (λb Z=>by simp only[Sl.row,Option.map_some,Option.some.injEq]at Z;have c6:w<=g:=c6;omega);have D:=i4.o d3 (.inr ⟨h4,j3.mono c8.o.size⟩);have b6:∀x∈d3,IsN w6 (Up F w w6) h x:=λx hx=>(i7 x hx).mono λb Z=>by
   have hz:=e6.o;have o3:=c4.size;rcases Z with(Z|Z)|Z
   .exact .inl Z
   .exact .inr ⟨oM,oM⟩
   exact .inr ⟨oM,Z.2⟩
  have a2:=Qg5 HF.o a9.o HS.o HC.o hh b3.o g6 b5 D b6;obtain⟨HD,HE⟩:=Yb D a2;clear b5 j3 i7 c4 g6 D b6 a2;go_wp2_with fail;refine HE.o.mono ?_;rintro e w7 ⟨hx,(⟨v,hv,rfl,b4⟩ |⟨hv,c,f7,e7,rfl,c2⟩)⟩
  ·have H1:=hY hx
   have H2:=hY b4;clear hx b4;go_wp2_with fail;go_ret2;exact⟨H1.o,.inr ⟨b3.o,d3,HD.o,.inl ⟨v,hv,rfl,H2.o⟩⟩⟩
  obtain⟨H1,H2⟩:=Yb hx c2;clear hx c2;go_wp2_with fail;go_ret2;exact⟨H1.o,.inr ⟨b3.o,d3,HD.o,.inr ⟨hv,c,f7,e7,rfl,H2.o⟩⟩⟩
 have l7:¬(size h u:Int)<4:=oM
 have D:=i4.o _ (.inl ⟨oM,rfl⟩);have b6:∀x∈t.2.set i u,IsN W5 (Up F w W5) h x:=λx hx=>(j2.o x hx).mono λb Z=>by
  have hz:=e6.o;rcases Z with Z|Z
  .exact .inl Z
  exact .inr ⟨oM,oM⟩
 have a2:=Qg5 (s6:=⟨some ⟨g,0,none⟩,a0⟩) HF.o a9.o HS.o HC.o hh b3.o c8.o (by rw[a8];exact i5.o) D b6;rw[a8]at a2;obtain⟨HD,HE⟩:=Yb D a2;clear D b6 a2;go_wp2_with fail;refine HE.o.mono ?_;rintro e w7 ⟨hx,(⟨v,hv,rfl,b4⟩ |⟨hv,c,f7,e7,rfl,c2⟩)⟩
 ·have H1:=hY hx
  have H2:=hY b4;clear hx b4;go_wp2_with fail;go_ret2;exact⟨H1.o,.inr ⟨b3.o,_,HD.o,.inl ⟨v,hv,rfl,H2.o⟩⟩⟩
 obtain⟨H1,H2⟩:=Yb hx c2;clear hx c2;go_wp2_with fail;go_ret2;exact⟨H1.o,.inr ⟨b3.o,_,HD.o,.inr ⟨hv,c,f7,e7,rfl,H2.o⟩⟩⟩
theorem Qg4{k:ByteArray}:∀(h:Nat) (w:World) (F:Nat->Prop) (t:PT h),(∀b,F b->b<w.heap.size)->IsN w F h t->OkT h t->4<=size h t->Sorted (ents h t)->(ents h t).length<=1000000->Calls prog 75 #[ptr h t,.string k] w (Qow F h t k w)
 | 0,w,F,t,hF,hn,ok,h4,hs,hc=>by
   refine(QdP ⟨_,rfl⟩ (QaC hn) (Qa5 (hn.mono hF)) hs (show t.2.length<=8 from ok) k).mono ?_;rintro e w' ⟨Z,(⟨I,rfl⟩ |⟨I,u,rfl,hu,hb,N⟩)⟩
   .exact ⟨Z,.inl ⟨I,rfl⟩⟩
   exact⟨Z,.inr ⟨I,u,rfl,⟨hu,hb⟩,N.mono λi hi=>.inr hi⟩⟩
 | h+1,w,F,t,hF,hn,ok,h4,hs,hc=>by
   refine(QfK (Qg4 (k:=k) h) hF hn ok hs hc).mono ?_;rintro e w' ⟨Z,(⟨I,rfl⟩ |⟨I,a0,hd,h2⟩)⟩
   .exact ⟨Z,.inl ⟨I,rfl⟩⟩
   have h4:4<=t.2.length:=h4;have:=(Qdw hd ok hs I).2.2;rcases h2 with⟨u,rfl,-,-⟩ |⟨-,c,rfl,hb,rfl,N⟩
   .simp only[List.length_cons,List.length_nil]at this;omega
   exact⟨Z,.inr ⟨I,c,rfl,⟨hd,hb⟩,N⟩⟩
def Qox(F:Nat->Prop)(T:RT)(k:ByteArray)(w:World)(e:Ending)(w':World):Prop:=
 Ext w w'/\((Qaq (Qaa T) k=none/\e=.returned (.tuple #[QaK T,.bool false]))\/
  ((Qaq (Qaa T) k).isSome=true∧∃ (h:Nat) (u:PT h),e=.returned (.tuple #[ptr h u,.bool true])∧IsN w' (Up F w w') h u∧
    ((ents h u=[]/\QkN w.heap.size k T none)\/(0<(ents h u).length/\QkN w.heap.size k T (some ⟨h,u⟩)))))
variable{T:RT}
theorem QkK(hF:∀b,F b->b<w.heap.size)(hT:IsT w F T)(ok:OkR T)(hc:(Qaa T).length<=1000000)(k:ByteArray) :
  Calls prog 75 #[QaK T,.string k] w (Qox F T k w):=by
 match T,hT,ok,hc with
 | none,_,_,_=>
   refine(QdP (nv:=.pointer none) (es:=[]) ⟨none,rfl⟩ (QdV w) ((Qej w).mono ?_) List.Pairwise.nil sM k).mono ?_
   ·rintro e w' ⟨rfl,rfl⟩
    exact⟨Sl.none,[],rfl,rfl,OE.nil _ _,fI _⟩
   rintro e w' ⟨Z,(⟨I,rfl⟩ |⟨I,u,rfl,hu,hb,N⟩)⟩
   .exact ⟨Z,.inl ⟨I,rfl⟩⟩
   simp[Qaq]at I
 | some ⟨0,t⟩,hn,ok,hc=>
   have hn:IsN w F 0 t:=hn;refine(QdP ⟨_,rfl⟩ (QaC hn) (Qa5 (hn.mono hF)) ok.2.2 (show t.2.length<=8 from ok.1) k).mono ?_;rintro e w' ⟨Z,(⟨I,rfl⟩ |⟨I,u,rfl,hu,hb,N⟩)⟩
   .exact ⟨Z,.inl ⟨I,rfl⟩⟩
   refine⟨Z,.inr ⟨I,0,u,rfl,N.mono λi hi=>.inr hi,?_⟩⟩;by_cases h0:ents 0 u=[]
   .exact .inl ⟨h0,.gone I ⟨hu,hb⟩ h0⟩
   have:=List.length_pos_iff.2 h0;exact .inr ⟨this,.same I ⟨hu,hb⟩ this (.inl rfl)⟩
 | some ⟨h+1,t⟩,hn,ok,hc=>
   refine(QfK (Qg4 (k:=k) h) hF hn ok.1 ok.2.2 hc).mono ?_;rintro e w' ⟨Z,(⟨I,rfl⟩ |⟨I,a2,hd,h2⟩)⟩
   .exact ⟨Z,.inl ⟨I,rfl⟩⟩
   have a0:=(Qdw hd ok.1 ok.2.2 I).1;rcases h2 with⟨u,rfl,rfl,N⟩ |⟨hl,c,rfl,hb,rfl,N⟩
   ·have:=a0 u (aX.2 rfl)
    exact⟨Z,.inr ⟨I,h,u,rfl,N,.inr ⟨Qbk h u this.1 oM,.down I hd⟩⟩⟩
   have hp:0<(ents (h+1) c).length:=by
    obtain⟨x,a1⟩:=List.exists_mem_of_length_pos (show 0<c.2.length by omega);have h1:=a0 x a1;have h2:=Qbk h x h1.1 oM;show 0<(c.2.flatMap (ents h)).length;obtain⟨e,he⟩:=List.exists_mem_of_length_pos h2;exact List.length_pos_of_mem (cF.2 ⟨x,a1,he⟩)
   exact⟨Z,.inr ⟨I,h+1,c,rfl,N,.inr ⟨hp,.same I ⟨hd,hb⟩ hp (.inr hl)⟩⟩⟩
def QsM(F:Nat->Prop)(T:RT)(k:ByteArray)(w:World)(e:Ending)(w':World):Prop:=
 ∃T',e=.returned (.tuple #[Qao T',.bool (Qaq (Qaa T) k).isSome])/\QkN w.heap.size k T T'/\IsT w' (Up F w w') T'/\Ext w w'
theorem Qm9(hF:∀b,F b->b<w.heap.size)(hT:IsT w F T)(ok:OkR T)(hc:(Qaa T).length<=1000000)(k:ByteArray) :
  Calls prog 52 #[Qao T,.string k] w (QsM F T k w):=by
 have a9:∀W,Ext w W->Calls prog 75 #[QaK T,.string k] W (Qox F T k W):=λW hW=>
  QkK (λb hb=>ab (hF b hb) hW.size) (hT.agree (hW.agree hF)) ok hc k
 have a7:∀W,Ext w W->Calls prog 73 #[QaK T] W λe w'=>e=.returned (.int .i64 (Qaa T).length)/\W=w':=λW hW=>Qfb (hT.agree (hW.agree hF))
 have a3:Qaa T=[]->T=none:=λI=>by
  match T,ok,I with
  |none,_,_=>rfl
  |some ⟨h,t⟩,ok,I=>have:=Qbk h t ok.1 ok.2.1;have I:ents h t=[]:=I;rw[I]at this;cases this
 have d4:∃p,QaK T=.pointer p:=Qaj T;obtain⟨rp,a2⟩:=d4;rw[a2]at a9 a7;obtain⟨HW,d8,HF,d6,HT,c1,c8⟩:=Yh a9 a7 hF ok hT a3 a2;clear hF hT ok a9 a7 a3;rw[Qao,a2];clear a2;go_in;go_wp2_with fail;have a5:Ext w ((w.alloc (.cells #[.pointer rp] 48)).alloc (.cells #[.pointer none] 48)):=((fI w).alloc _ _).alloc _ _;have c3:Blk ((w.alloc (.cells #[.pointer rp] 48)).alloc (.cells #[.pointer none] 48)) (w.heap.size+1) 48 #[.pointer none]:=by
  have:=fK (w.alloc (.cells #[.pointer rp] 48)) 48 #[.pointer none];simpa using this
 generalize b4:World.alloc _ _=W3 at *;have d7:W3.heap.size=w.heap.size+1+1:=by rw[<-b4];simp
 clear b4;refine(HW.o _ a5).mono ?_;rintro e Z ⟨b0,c2⟩;have a1:=c3.ext b0;have b9:=a5.trans b0;have q4:Z.cell? ⟨w+1,0,none⟩=some (.pointer none):=a1.cell 0;have f4:=a1.frozen 0;have e0:=a1.lt;have HX:=hY b9;have b6:∀W',¬Up F W3 W' (w.heap.size+1):=λW' hf=>by
  rcases hf with hf|hf
  .have:=HF.o _ hf;omega
  have:=hf.1;omega
 have d5:=hY b6;have b3:w.heap.size<=W3.heap.size:=oM
 clear c3 a1 b9 a5 b0 b6;have b5:∃N b,e=.returned (.tuple #[QaK N,.bool b])/\b=(Qaq (Qaa T) k).isSome/\IsT Z (Up F W3 Z) N/\((Qaa N).length=0->QkN w.heap.size k T none)/\((Qaa N).length≠0->QkN w.heap.size k T N):=by
  rcases c2 with⟨hg,rfl⟩ |⟨hg,h,u,rfl,c9,hd⟩
  ·refine ⟨T,false,by rw [c8.o],by rw [hg];rfl,(HT.o.agree (HX.o.agree HF.o)).mono fun i hi=>.inl hi,fun I=>?_,fun _=>.no hg⟩
   have:=c1.o (ar I);subst this;exact .no hg
  refine⟨some ⟨h,u⟩,true,rfl,hg.symm,c9,λI=>?_,λI=>?_⟩
  .exact (hd.resolve_right λhc=>by have I:(ents h u).length=0:=I;omega).2.mono b3
  exact(hd.resolve_left λh=>I (by show(ents _ u).length=0;rw[h.1];rfl)).2.mono b3
 obtain⟨N,b,rfl,hb,a6,c0,b7⟩:=b5;have a8:=Qfb a6;obtain⟨p1,a0⟩:=Qaj N;have a4:∀W',Agree (Up F W3 Z) Z W'->Z.heap.size<=W'.heap.size->IsT W' (Up F w W') N:=λW' ha hs=>(a6.agree ha).mono λi hi=>hi.elim .inl λhi=>.inr ⟨Nat.le_trans b3 hi.1,ab hi.2 hs⟩
 rw[a0]at a8;obtain⟨c4,c7,HB,b8,d3,c6⟩:=Yg a0 a8 hb a4 c0 b7;rw[a0];clear c2 a0 a8 hb a4 c0 b7 a6;go_wp2_with fail;refine c7.o.mono ?_;rintro e w5 ⟨rfl,rfl⟩;by_cases I:(Qaa N).length=0
 ·have d0:(((Qaa N).length:Int) == 0)=true:=by simp [I]
  go_wp2_with fail;have q0:(Z.setCell ⟨w+1,0,none⟩ (.pointer none)).cell? ⟨w+1,0,none⟩=some (.pointer none):=eN Z _ _ q4;refine eB (v:=.tuple #[Qao none,.bool b]) (by simp[results,results52,go_sem,q0];rfl) rfl ?_;rw[HB.o];exact⟨none,rfl,d3.o I,trivial,HX.o.setCell (p:=⟨w+1,0,none⟩) (by show w.heap.size<=w.heap.size+1;omega) _⟩
 have d0:(((Qaa N).length:Int)==0)=false:=ev.2 oM;go_wp2_with fail;have q0:(Z.setCell ⟨w+1,0,none⟩ (.pointer p1)).cell? ⟨w+1,0,none⟩=some (.pointer p1):=eN Z _ _ q4;refine eB (v:=.tuple #[Qao N,.bool b]) (by rw[Qao,c4.o];simp[results,results52,go_sem,q0]) rfl ?_;rw[HB.o];exact⟨N,rfl,c6.o I,b8.o _ (fO Z ⟨w+1,0,none⟩ _ (d5.o Z)) sM,HX.o.setCell (p:=⟨w+1,0,none⟩) (by show w.heap.size<=w.heap.size+1;omega) _⟩
variable{P:Program}
theorem Qjz(w:World){I Z:TypeId}(a:Addr)(N:P.underlying I=some (.pointer Z)) :
  (binOp .eql I (.pointer none) (.pointer (some a))).run P w=.ok (.bool false) w:=by
 have h:∀d:Nat,(Op.equalIn (d+1) I (.pointer none) (.pointer (some a))).run P w=.ok false w:=λd=>by
  simp[Op.equalIn,run_underlying N]
 simp only[binOp];simp[Op.equal,Op.maxDepth,h 9999]
theorem Qth:∃j,prog.info? 159=some j/\j.size≠0:=by
 have h:((prog.info? 159).map λi=>decide (i.size≠0))=some true:=kM
 cases I:prog.info? 159 with
 |none=>rw[I]at h;cases h
 |some j=>rw[I]at h;exact⟨j,rfl,by simpa using h⟩
theorem QyT(w:World)(p:Option Addr):Calls prog 25 #[.agg #[.pointer p],.agg #[.pointer p]] w λe w'=>e=.returned (.bool true)/\Ext w w':=by
 obtain⟨j,I,-⟩:=Qth;cases p with
 | none=>
   go_in;go_wp2_with fail;go_ret;exact⟨rfl,((fI w).alloc _ _).alloc _ _⟩
 | some a=>
   have hs:=λW=>run_eql_ptr_same (P:=prog) W a underlying46 I
   go_in;go_wp2_with fail;go_ret;exact⟨rfl,((fI w).alloc _ _).alloc _ _⟩
def QsP(w:World)(p:Option Addr):Prop:=∀a,p=some a->∃c t,w.heap[a.block]? = some (.cells c t (0,0))
variable{w':World}
theorem QsP.ext{p:Option Addr}(h:QsP w p)(Z:Ext w w'):QsP w' p:=λa e=>by
 obtain⟨c,t,I⟩:=h a e;have N:a.block<w.heap.size:=(az.1 I).1;exact⟨c,t,(Z.heap N).trans I⟩
open Go.Maps
structure Sb(H:Nat->Prop)(w w':World):Prop where
 os:w'.os=w.os
 tape:w'.tape=w.tape
 output:w'.output=w.output
 size:w.heap.size<=w'.heap.size
 block:∀b,b<w.heap.size->¬H b->w'.heap[b]? = w.heap[b]?
variable{H:Nat->Prop}
theorem St.sb(h:St H w w'):Sb H w w':=⟨h.os,h.tape,h.output,h.size,h.block⟩
theorem Ext.sb(h:Ext w w')(H:Nat->Prop):Sb H w w':=(h.st H).sb
theorem Sb.refl(H:Nat->Prop)(w:World):Sb H w w:=(fI w).sb H
theorem Sb.trans{a b c:World}(h:Sb H a b)(k:Sb H b c):Sb H a c:=
 ⟨k.os.trans h.os,k.tape.trans h.tape,k.output.trans h.output,an h.size k.size,λi hi I=>(k.block i (ab hi h.size) I).trans (h.block i hi I)⟩
theorem Sb.comp{a b c:World}(h:Sb H a b)(k:Sb G b c)(N:∀i,i<a.heap.size->G i->H i):Sb H a c:=
 ⟨k.os.trans h.os,k.tape.trans h.tape,k.output.trans h.output,an h.size k.size,λi hi I=>(k.block i (ab hi h.size) λZ=>I (N i hi Z)).trans (h.block i hi I)⟩
theorem Sb.mono{a b:World}(h:Sb H a b)(Z:∀i,i<a.heap.size->H i->G i):Sb G a b:=
 ⟨h.os,h.tape,h.output,h.size,λi hi I=>h.block i hi λN=>I (Z i hi N)⟩
theorem Sb.of_below(h:Below n w w'):Sb (λb=>n<=b) w w':=⟨h.os,h.tape,h.output,h.size,λb _ I=>h.block b oM⟩
theorem Sb.new(h:Below w.heap.size w w'):Sb H w w':=(Sb.of_below h).mono λi hi I=>oM
theorem Sb.cell(h:Sb H w w'){b o:Nat}(N:b<w)(I:¬H b):w'.cell? ⟨b,o,none⟩=w.cell? ⟨b,o,none⟩:=
 eL (w:=w) (a:=⟨b,o,none⟩) (h.block b N I)
variable{g:Nat}
theorem Sb.blk{t:TypeId}{cs:Array Value}(h:Sb H w w')(I:Blk w g t cs)(N:¬H g):Blk w' g t cs:=(h.block g I.lt N).trans I
theorem Sb.agree(h:Sb H w w'):Agree (NH H w) w w':=λb I=>h.block b I.1 I.2
theorem Sb.ext{a b c:World}(h:Sb H a b)(k:Ext b c):Sb H a c:=h.trans (k.sb H)
theorem Sb.drew{a w:World}(h:Sb H a w):Sb H a w.drew:=h.ext ((fI w).drew)
theorem Sb.set{a w:World}(h:Sb H a w){p:Addr}(I:a.heap.size<=p.block\/H p.block)(u:Value):Sb H a (w.setCell p u):=
 ⟨h.os,h.tape,h.output,by simpa[World.setCell]using h.size,λi hi N=>(eS w p u i (by
   rintro rfl;rcases I with I|I
   .omega
   exact N I)).trans (h.block i hi N)⟩
theorem Sb.grown{b:Nat}(h:w.grownBy w' (some b)):Sb (λi=>i=b) w w':=
 ⟨h.os,h.tape,h.output,h.size,λi hi I=>h.block i hi (by intro e;injection e with e;exact I e)⟩
theorem Sb.made(h:w.grownBy w' none):Sb H w w':=⟨h.os,h.tape,h.output,h.size,λi hi I=>h.block i hi sM⟩
theorem Qbx{H:Type}{k:TypeId}{R:Value->Option (DataW H × List MemPlace)}{b n:Nat}{D:DataW H}(h:w.ownsMap P k R b n D)(N:w'.heap[b]? = w.heap[b]?):w'.ownsMap P k R b n D:=by
 obtain⟨Z,I,h1,F,h2,h3⟩:=h;exact⟨Z,I,N.trans h1,F,h2,h3⟩
theorem MapAt.sb{M:Nat}{es:List Ent}(h:MapAt H w M es)(k:Sb G w w')(hG:∀b,G b->H b)(N:¬G M):MapAt H w' M es:=by
 obtain⟨Z,s,xs,I,hs,hx⟩:=h;exact⟨Z,s,xs,k.blk I N,(hs.agree λb I=>k.block b I.1 λhh=>I.2 (hG b hh)).mono λb I=>⟨Nat.lt_of_lt_of_le I.1 k.size,I.2⟩,hx⟩
theorem Qwf{base e size n m:Nat}{xs:List Value}{t:TypeId}{cs:Array Value}(ho:w.ownsRow base e size (.slice s.a n s.c) n xs)(hb:Blk w m t cs)(Z:e≠t):¬s.row=some m:=λI=>by
 rcases ho.2 with⟨N,-⟩ |⟨gg,cap,a0,N,-,hc,-⟩
 ·injection N with e1
  rw[Sl.row,e1]at I;cases I
 injection N with e1;rw[Sl.row,e1]at I;have:gg=m:=by simpa using I
 subst this;have h2:w.heap[gg]? = some (.cells cs t (0,0)):=hb;rw[hc]at h2;injection h2 with h2;injection h2 with h3 h4;exact Z h4
abbrev fM:=@Sb.refl
structure OD where
 T:RT
 mb:Option Nat
 s:Sl
 us:List UD
 Hs:List (AL SV)
 C:AL SV
def OvB(O:Nat)(d:OD):Nat->Prop:=λb=>b=O\/d.mb=some b\/d.s.row=some b
def OvF(H:Nat->Prop)(w:World)(O:Nat)(d:OD):Nat->Prop:=λb=>b<w.heap.size/\¬OvB O d b/\¬H b
theorem Qdd(w:World)(F:Nat->Prop):RV w F zeroV Sl.none Sl.none:=RV.flat _ _ _ _ _ _ oN oN oN
def QkU(w:World)(F:Nat->Prop)(s:SV):Prop:=RV w F s.v s.sl s.so/\(s.has=false->s.v=zeroV)
theorem QkU.agree{s:SV}(h:QkU w F s)(I:Agree F w w'):QkU w' F s:=⟨h.1.agree I,h.2⟩
theorem QkU.mono{s:SV}(h:QkU w F s)(I:∀i,F i->G i):QkU w G s:=⟨h.1.mono I,h.2⟩
def Qh2(w:World)(F:Nat->Prop)(O:Nat)(u:UD)(v:Value):Prop:=
 ∃(bw bd bo bk:Nat) (o:SV),v=.func (.func 211) #[] #[.pointer (some ⟨bw,0,none⟩),.pointer (some ⟨bd,0,none⟩),.pointer (some ⟨bo,0,none⟩),.pointer (some ⟨bk,0,none⟩)]/\
  (F bw/\F bd/\F bo/\F bk)/\Blk w bw 4 #[.bool u.old.isSome]/\Blk w bd 192 o.cells/\(∀x,u.old=some x->x=o)/\Blk w bo 151 #[.pointer (some ⟨O,0,none⟩)]/\Blk w bk 9 #[.string u.k]
variable{O:Nat}
theorem Qh2.agree{u:UD}{v:Value}(h:Qh2 w F O u v)(I:Agree F w w'):Qh2 w' F O u v:=by
 obtain⟨bw,bd,bo,bk,o,h1,⟨N,f2,Z,f4⟩,h2,h3,h4,h5,h6⟩:=h;exact⟨bw,bd,bo,bk,o,h1,⟨N,f2,Z,f4⟩,h2.agree I N,h3.agree I f2,h4,h5.agree I Z,h6.agree I f4⟩
theorem Qh2.mono{u:UD}{v:Value}(h:Qh2 w F O u v)(I:∀i,F i->G i):Qh2 w G O u v:=by
 obtain⟨Z,bd,N,bk,o,h1,⟨f1,f2,f3,f4⟩,r⟩:=h;exact⟨Z,bd,N,bk,o,h1,⟨I _ f1,I _ f2,I _ f3,I _ f4⟩,r⟩
def Qbp(w:World)(mb:Option Nat)(C:AL SV):Prop:=match mb with
 |none=>C=[]
 |some b=>w.ownsMap prog 9 QeO b C.length (mapA SV.val C)
variable{C:AL SV}
theorem Qbp.heap{mb:Option Nat}(h:Qbp w mb C)(I:∀b,mb=some b->w'.heap[b]? = w.heap[b]?):Qbp w' mb C:=by
 cases mb with
 |none=>exact h
 |some b=>exact Qbx h (I b rfl)
theorem Qbp.lt{mb:Option Nat}(h:Qbp w mb C){b:Nat}(I:mb=some b):b<w:=by
 subst I;exact World.ownsMap.lt h
theorem QeV{b n:Nat}(h:w.ownsMap prog 9 QeO b n (mapA SV.val C)):w.ownsMap prog 9 QeO b C.length (mapA SV.val C):=by
 obtain⟨Z,I,h1,F,h2,N⟩:=h;refine⟨Z,I,h1,F,?_,N⟩;have:=congrArg Maps.size N;rw[Qkt]at this;simp[Maps.size,length_sorted]at this;omega
def Qu9(w:World)(F:Nat->Prop)(O:Nat)(s:Sl)(us:List UD):Prop:=
 ∃xs:List Value,xs.length=us.length/\w.ownsRow 0 1 1 (.slice s.a us.length s.c) us.length xs/\∀(i:Nat) (u:UD) (v:Value),us[i]? = some u->xs[i]? = some v->Qh2 w F O u v
structure QcK(H:Nat->Prop)(w:World)(O:Nat)(d:OD):Prop where
 blk:Blk w O 184 #[QaK d.T,.map d.mb,.slice d.s.a d.us.length d.s.c]
 map:Qbp w d.mb d.C
 row:Qu9 w (OvF H w O d) O d.s d.us
 vals:∀p∈d.C,p.1.size<=maxLen/\QkU w (OvF H w O d) p.2
 olds:∀u∈d.us,u.k.size<=maxLen/\∀o,u.old=some o->QkU w (OvF H w O d) o
 hist:Chain d.us d.Hs
 h0:d.Hs[0]? = some []
 last:d.Hs[d.us.length]? = some d.C
 sorted:Qay d.C
 tree:IsT w (OvF H w O d) d.T
 ok:OkR d.T
 ne:d.mb≠some O/\d.s.row≠some O/\∀b,d.mb=some b->d.s.row≠some b
 out:∀b,OvB O d b->¬H b
 some_:d.us≠[]->∃b,d.mb=some b
theorem Chain.short{I:List UD}{N:List (AL SV)}(h:Chain I N)(Z:N[0]? = some []):∀(i:Nat) (C:AL SV),N[i]? = some C->C.length<=i
 |0,C,hC=>by rw[Z]at hC;injection hC with hC;subst hC;exact ao _
 | i+1,C,hC=>by
   have hi:i<I.length:=by have:=(ai.1 hC).1;have:=h.len;omega
   obtain⟨C',s,h1,h2,h3,h4⟩:=h.step i _ (ac hi);rw[h4]at hC;injection hC with hC;subst hC;have:=h.short Z i C' h1;have:=Qsc (C:=C') (k:=(I[i]'hi).k) (v:=s);omega
section
variable{H : Nat -> Prop}{w w' : World}{O : Nat}{d : OD}
theorem QcK.few(h:QcK H w O d):d.C.length<=d.us.length:=h.hist.short h.h0 _ _ h.last
theorem QcK.Qko(h:QcK H w O d){b:Nat}(I:d.s.row=some b):b<w:=by
 obtain⟨xs,-,h2,-⟩:=h.row;exact(Qad h2 I).2
theorem QcK.Qbe(h:QcK H w O d){b:Nat}(I:OvB O d b):b<w:=by
 rcases I with rfl|I|I
 .exact h.blk.lt
 .exact h.map.lt I
 exact h.Qko I
theorem QcK.sb{G:Nat->Prop}(h:QcK H w O d)(k:Sb G w w')(hG:∀b,G b->H b):QcK H w' O d:=by
 have Z:Agree (OvF H w O d) w w':=λb I=>k.block b I.1 λhh=>I.2.2 (hG b hh)
 have N:∀i,OvF H w O d i->OvF H w' O d i:=λi hi=>⟨Nat.lt_of_lt_of_le hi.1 k.size,hi.2⟩
 have hn:∀b,OvB O d b->¬G b:=λb I hg=>h.out b I (hG b hg)
 obtain⟨xs,r1,r2,r3⟩:=h.row;exact⟨k.blk h.blk (hn O (.inl rfl)),h.map.heap λb I=>k.block b (h.map.lt I) (hn b (.inr (.inl I))),
  ⟨xs,r1,Qab r2 k.agree λb I=>⟨h.Qko I,hn b (.inr (.inr I))⟩,λi u v hu hv=>((r3 i u v hu hv).agree Z).mono N⟩,
  λp hp=>⟨(h.vals p hp).1,((h.vals p hp).2.agree Z).mono N⟩,λu hu=>⟨(h.olds u hu).1,λo ho=>(((h.olds u hu).2 o ho).agree Z).mono N⟩,
  h.hist,h.h0,h.last,h.sorted,(h.tree.agree Z).mono N,h.ok,h.ne,h.out,h.some_⟩
theorem QcK.ext(h:QcK H w O d)(k:Ext w w'):QcK H w' O d:=h.sb (k.sb λ_=>False) λ_ I=>I.elim
theorem QcK.more{G:Nat->Prop}(h:QcK H w O d)(hG:∀b,b<w.heap.size->G b->H b):QcK G w O d:=by
 have I:∀i,OvF H w O d i->OvF G w O d i:=λi hi=>⟨hi.1,hi.2.1,λN=>hi.2.2 (hG i hi.1 N)⟩
 obtain⟨xs,r1,r2,r3⟩:=h.row;exact⟨h.blk,h.map,⟨xs,r1,r2,λi u v hu hv=>(r3 i u v hu hv).mono I⟩,λp hp=>⟨(h.vals p hp).1,(h.vals p hp).2.mono I⟩,
  λu hu=>⟨(h.olds u hu).1,λo ho=>((h.olds u hu).2 o ho).mono I⟩,h.hist,h.h0,h.last,h.sorted,h.tree.mono I,h.ok,h.ne,λb Z N=>h.out b Z (hG b (h.Qbe Z) N),h.some_⟩
end
theorem Qe2:Keyed prog 9:=string_keyed underlying9
theorem QtW(k:ByteArray)(I:k.size<=maxLen):keyOf prog 9 (.string k)=some (Qfz k):=Go.WideMaps.keyOf_string_mk underlying9 I
structure Qok(H:Nat->Prop)(w:World)(O:Nat)(d d':OD)(w':World):Prop where
 at_:QcK H w' O d'
 sb:Sb (OvB O d) w w'
 new:∀b,OvB O d' b->OvB O d b\/w.heap.size<=b
abbrev QhY:SV:=⟨false,zeroV,Sl.none,Sl.none⟩
theorem Qgd(w:World):(zeroValue 192).run prog w=.ok QhY.val w:=kM
theorem Tryz.Qul:(prog.info? 1).map (λi=>(i.zero,i.size,i.bytes))=some (some Value.nilFunc,1,8):=kM
def Qiw(C:AL SV)(k:ByteArray):SV:=(QaZ C k).getD QhY
theorem Qlg{mb:Option Nat}(Z:Qbp W mb C){k:ByteArray}(hk:k.size<=maxLen) :
  (Instr.lookup 181 (.map mb) (.string k) true).run prog W=.ok (.tuple #[(Qiw C k).val,.bool (QaZ C k).isSome]) W:=by
 cases mb with
 | none=>
   have hC:C=[]:=Z;subst hC;rw[Maps.look_nil true Qe2 underlying181 (Qgd W) (QtW k hk)];rfl
 | some b=>
   obtain⟨v,ps,I,N⟩:=World.ownsMap.look_ok Z Qe2 underlying181 (Qgd W) (zd:=.held QhY.val) (zp:=[]) rfl (QtW k hk);rw[Qgh]at N;rw[I,Ql5];unfold Qiw;cases hg:QaZ C k with
   |none=>rw[hg]at N;rw[QeP N];rfl
   |some s=>rw[hg]at N;rw[QeP N];rfl
variable{a:Act}{Q:Exit->Act->World->Prop}{K:Act->World->Prop}
theorem Qj9{o:Oper}{m x v:Operand}(Z:o.op=Op.mapUpdate 181 m x v)
  {b:Nat} {k:ByteArray} {s:SV} (hm:a.eval m=.map (some b)) (hx:a.eval x=.string k) (hv:a.eval v=s.val) (I:Qbp w (some b) C) (hk:k.size<=maxLen) (hC:C.length<maxLen) (hs:Qay C)
  (hK:∀w',Qbp w' (some b) (QcX C k s)->Sb (λc=>c=b) w w'->K (a.put o.dst undef) w'):Oper.wp prog o a w K Q:=by
 obtain⟨w',N,r1,r2⟩:=World.ownsMap.store I Qe2 underlying181 hC (QtW k hk) (val:=s.val) (d:=.held s.val) (ps:=[]) rfl;unfold Oper.wp;simp[execOp,Z,hm,hx,hv,N,Result.andThen];rw[Qse SV.val hs]at r1;exact hK _ (QeV r1) (Sb.grown r2.grown)
theorem Qp1{o:Oper}{m x:Operand}(Z:o.op=Op.call { callee:=Callee.builtin Builtin.delete,args:=#[m,x],argTypes:=#[181,9] })
  {b:Nat} {k:ByteArray} (hm:a.eval m=.map (some b)) (hx:a.eval x=.string k) (I:Qbp w (some b) C) (hk:k.size<=maxLen)
  (hK:∀w',Qbp w' (some b) (Qjs C k)->Sb (λc=>c=b) w w'->K (a.put o.dst (.tuple #[])) w'):Oper.wp prog o a w K Q:=by
 obtain⟨w',N,r1,r2⟩:=World.ownsMap.drop I Qe2 underlying181 (QtW k hk) o.type;unfold Oper.wp;simp[execOp,Z,resolve,invoke,builtin,hm,hx,N,Result.andThen];rw[Qrg SV.val]at r1;exact hK _ (QeV r1) (Sb.grown r2.grown)
theorem Qbp.ne{b g:Nat}{t:TypeId}{cs:Array Value}(h:Qbp w (some b) C)(N:Blk w g t cs):g≠b:=by
 rintro rfl;obtain⟨Z,I,h1,-⟩:=h;have h2:w.heap[g]? = some (.cells cs t (0,0)):=N;rw[h1]at h2;cases h2
theorem Qru{us:List UD}{Z:List (AL SV)}(h:Chain us Z)(I:Z[us.length]? = some C):∃N,Z=N++[C]:=by
 have hn:=h.len;rcases List.eq_nil_or_concat Z with rfl |⟨N,c,rfl⟩
 .simp at hn
 refine⟨N,?_⟩;rw[List.concat_eq_append]at *;rw[aj,bu]at hn;rw[aQ oM,show us.length-N.length=0 by omega]at I;injection I with I;rw[I]
section
variable{H : Nat -> Prop}{w wc : World}{O : Nat}{d : OD}
theorem QcK.made(h:QcK H w O d)(hm:d.mb=none){b:Nat}(hb:w.heap.size<=b)(hH:∀b,H b->b<w.heap.size)(k:Sb (λc=>c=O) w wc)
  (Z:Blk wc O 184 #[QaK d.T,.map (some b),.slice d.s.a d.us.length d.s.c]) (N:wc.ownsMap prog 9 QeO b 0 (mapA SV.val [])):QcK H wc O { d with mb:=some b }:=by
 have hC:d.C=[]:=by have:=h.map;rw[hm]at this;exact this
 have ha:Agree (OvF H w O d) w wc:=λi hi=>k.block i hi.1 λe=>hi.2.1 (.inl e)
 have I:∀i,OvF H w O d i->OvF H wc O { d with mb:=some b } i:=λi hi=>⟨Nat.lt_of_lt_of_le hi.1 k.size,λe=>by
  rcases e with e|e|e
  .exact hi.2.1 (.inl e)
  ·have e:some b=some i:=e
   injection e with e;have:=hi.1;omega
  exact hi.2.1 (.inr (.inr e)),hi.2.2⟩
 obtain⟨xs,r1,r2,r3⟩:=h.row;refine⟨Z,?_,⟨xs,r1,Qab r2 k.agree λi hi=>⟨h.Qko hi,λe=>h.ne.2.1 (by rw[<-e];exact hi)⟩,λi u v hu hv=>((r3 i u v hu hv).agree ha).mono I⟩,
  λp hp=>⟨(h.vals p hp).1,((h.vals p hp).2.agree ha).mono I⟩,λu hu=>⟨(h.olds u hu).1,λo ho=>(((h.olds u hu).2 o ho).agree ha).mono I⟩,
  h.hist,h.h0,h.last,h.sorted,(h.tree.agree ha).mono I,h.ok,⟨?_,h.ne.2.1,?_⟩,?_,λ_=>⟨b,rfl⟩⟩
 ·show wc.ownsMap _ _ _ _ _ _
  rw[hC];exact N
 ·intro e
  have e:some b=some O:=e;injection e with e;have:=h.blk.lt;omega
 ·intro i hi hr
  have hi:some b=some i:=hi;injection hi with hi;have:=h.Qko hr;omega
 rintro i (hi|hi|hi) hh
 .exact h.out i (.inl hi) hh
 ·have hi:some b=some i:=hi
  injection hi with hi;have:=hH i hh;omega
 exact h.out i (.inr (.inr hi)) hh
structure Qou(H:Nat->Prop)(w:World)(O:Nat)(d:OD)(k:ByteArray)(sv:SV)(b:Nat)(wc:World):Prop where
 at_:QcK H wc O { d with mb:=some b }
 sb:Sb (OvB O d) w wc
 mb:d.mb=some b\/w.heap.size<=b
 big:w.heap.size+3<=wc.heap.size
 bo:Blk wc w.heap.size 151 #[.pointer (some ⟨O,0,none⟩)]
 bk:Blk wc (w.heap.size+1) 9 #[.string k]
 bs:Blk wc (w.heap.size+1+1) 192 sv.cells
 ok:QkU wc (OvF H wc O { d with mb:=some b }) sv
def Qq0(H:Nat->Prop)(O:Nat)(d:OD)(k:ByteArray)(sv:SV)(w:World)(e:Ending)(w':World):Prop:=
 (∃r,e=.returned r)/\∃mb s,Qok H w O d ⟨d.T,mb,s,d.us++[⟨k,QaZ d.C k⟩],d.Hs++[QcX d.C k sv],QcX d.C k sv⟩ w'
abbrev QkE(bw bd bo bk:Nat):Value:=.func (.func 211) #[] #[.pointer (some ⟨bw,0,none⟩),.pointer (some ⟨bd,0,none⟩),.pointer (some ⟨bo,0,none⟩),.pointer (some ⟨bk,0,none⟩)]
theorem step_end{k:ByteArray}{sv:SV}{b:Nat}{wm W w5 w7:World}(I:Qou H w O d k sv b wc)(d8:O<w.heap.size)(a5:∀i,d.s.row=some i->i<w.heap.size)(hH:∀b,H b->b<w.heap.size)(hk:k.size<=maxLen)(a3:Ext wc wm)
  {bw bd:Nat} (b7:wc.heap.size<=bw/\bw<wm.heap.size) (b4:wc.heap.size<=bd/\bd<wm.heap.size) (c4:Blk wm bd 192 (Qiw d.C k).cells) (c8:Blk wm bw 4 #[.bool (QaZ d.C k).isSome]) (hx:Ext wm W)
  {xs:List Value} (hl:xs.length=d.us.length) (c6:∀(i:Nat) (u:UD) (v:Value),d.us[i]? = some u->xs[i]? = some v->Qh2 wc (OvF H wc O { d with mb:=some b }) O u v) {s5:Sl}
  (a6:w5.ownsRow 0 1 1 (.slice s5.a (d.us.length+1) s5.c) (d.us.length+1) (xs++[QkE bw bd w.heap.size (w.heap.size+1)])) (a2:Wr W w5 d.s.row) (hs:s5.a=d.s.a\/s5.a=some ⟨W.heap.size,0,none⟩/\Wr W w5 none)
  (h7:Qbp w7 (some b) (QcX d.C k sv)) (a0:Sb (λc=>c=b) (w5.setCell ⟨O,2,none⟩ (.slice s5.a (d.us.length+1) s5.c)) w7) :
  Qok H w O d ⟨d.T,some b,s5,d.us++[⟨k,QaZ d.C k⟩],d.Hs++[QcX d.C k sv],QcX d.C k sv⟩ w7:=by
 have d0:=I.big;have d4:=a3.size;have d7:=hx.size;have d5:=a2.grown.size;have c2:=a0.size;rw[eC]at c2;have e0:b<wc.heap.size:=I.at_.map.lt rfl;have c1:b≠O:=λe=>I.at_.ne.1 (by rw[e])
 have c7:d.s.row≠some b:=λe=>I.at_.ne.2.2 b rfl e
 have b9:d.s.row≠some O:=I.at_.ne.2.1;have N:∀i,s5.row=some i->d.s.row=some i\/i=W.heap.size:=λi hi=>by
  rcases hs with h |⟨h,-⟩
  .left;rw[Sl.row,<-h];exact hi
  right;rw[Sl.row,h]at hi;simpa using hi.symm
 have b8:s5.row≠some O:=λe=>by
  rcases N O e with h|h
  .exact b9 h
  omega
 have b0:s5.row≠some b:=λe=>by
  rcases N b e with h|h
  .exact c7 h
  omega
 -- what turns between wc and the end
 have hW:Sb (λ_=>False) wc W:=(a3.trans hx).sb _;have h5:Sb (λc=>d.s.row=some c) W w5:=⟨a2.grown.os,a2.grown.tape,a2.grown.output,a2.grown.size,λi hi hn=>a2.grown.block i hi λe=>hn e.symm⟩;have h6:Sb (λc=>c=O) w5 (w5.setCell ⟨O,2,none⟩ (.slice s5.a (d.us.length+1) s5.c)):=(fM (λc=>c=O) w5).set (p:=⟨O,2,none⟩) (.inr rfl) _;have a4:Sb (OvB O { d with mb:=some b }) wc w7:=
  (((hW.mono λi _ h=>h.elim).trans (h5.mono λi _ h=>.inr (.inr h))).trans (h6.mono λi _ h=>.inl h)).trans (a0.mono λi _ h=>.inr (.inl (by rw[h])))
 have Z:∀{g t cs},Blk wm g t cs->g≠O->g≠b->d.s.row≠some g->Blk w7 g t cs:=λhb h1 h2 h3=>
  a0.blk (h6.blk (h5.blk (hb.ext hx) h3) h1) h2
 have a1:∀i,wc.heap.size<=i\/(i=w.heap.size\/i=w.heap.size+1)->i<wm.heap.size->i≠b->OvF H w7 O ⟨d.T,some b,s5,d.us++[⟨k,QaZ d.C k⟩],d.Hs++[QcX d.C k sv],QcX d.C k sv⟩ i:=λi hi d6 c3=>
  ⟨oM,λe=>by
    rcases e with e|e|e
    .omega
    ·have e:some b=some i:=e
     injection e with e;exact c3 e.symm
    rcases N i e with h|h
    .have:=a5 i h;omega
    omega,λhh=>by have:=hH i hh;omega⟩
 have b3:=I.bo;have c0:=I.bk;have b6:=Qbp.ne I.at_.map b3;have b5:=Qbp.ne I.at_.map c0;have ha:Agree (OvF H wc O { d with mb:=some b }) wc w7:=λi hi=>a4.block i hi.1 hi.2.1
 have hm:∀i,OvF H wc O { d with mb:=some b } i->OvF H w7 O ⟨d.T,some b,s5,d.us++[⟨k,QaZ d.C k⟩],d.Hs++[QcX d.C k sv],QcX d.C k sv⟩ i:=λi hi=>
  ⟨Nat.lt_of_lt_of_le hi.1 a4.size,λe=>by
    rcases e with e|e|e
    .exact hi.2.1 (.inl e)
    .exact hi.2.1 (.inr (.inl e))
    rcases N i e with h|h
    .exact hi.2.1 (.inr (.inr h))
    have:=hi.1;omega,hi.2.2⟩
 obtain⟨Ps,a8⟩:=Qru I.at_.hist I.at_.last;have a8:d.Hs=Ps++[d.C]:=a8;have a9:Chain d.us d.Hs:=I.at_.hist;have c9:d.Hs[d.us.length]? = some d.C:=I.at_.last;have d3:=a9.len;have a7:Qay d.C:=I.at_.sorted;refine⟨⟨?_,h7,⟨xs++[QkE bw bd w.heap.size (w.heap.size+1)],by simp[hl],?_,?_⟩,?_,?_,?_,?_,?_,Qbu a7 _ _,(I.at_.tree.agree ha).mono hm,I.at_.ok,⟨?_,b8,?_⟩,?_,λ_=>⟨b,rfl⟩⟩,?_,?_⟩
 ·have h8:Blk (w5.setCell ⟨O,2,none⟩ (.slice s5.a (d.us.length+1) s5.c)) O 184 #[QaK d.T,.map (some b),.slice s5.a (d.us.length+1) s5.c]:=(h5.blk ((I.at_.blk.ext a3).ext hx) b9).QbH 2 _
  have h9:=a0.blk h8 (λe=>c1 e.symm);show Blk w7 O _ #[_,_,.slice s5.a (d.us++[(⟨k,QaZ d.C k⟩:UD)]).length s5.c];rw[aj,bu];exact h9
 ·show w7.ownsRow 0 _ 1 (.slice s5.a (d.us++[(⟨k,QaZ d.C k⟩:UD)]).length s5.c) (d.us++[(⟨k,QaZ d.C k⟩:UD)]).length _
  rw[aj,bu];exact Qab (Qab a6 h6.agree λi hi=>⟨(Qad a6 hi).2,λe=>b8 (by rw[<-e];exact hi)⟩) a0.agree λi hi=>⟨by rw[eC];exact(Qad a6 hi).2,λe=>b0 (by rw[<-e];exact hi)⟩
 ·intro i u v hu hv
  rcases dW i d.us.length with hi|hi
  ·have hu:(d.us++[(⟨k,QaZ d.C k⟩:UD)])[i]? = some u:=hu
   rw[bn hi]at hu;rw[bn oM]at hv;exact((c6 i u v hu hv).agree ha).mono hm
  have hu:(d.us++[(⟨k,QaZ d.C k⟩:UD)])[i]? = some u:=hu;rw[aQ hi]at hu;rw[aQ oM]at hv;have h0:i-d.us.length=0:=by have:=(ai.1 hu).1;simpa using this
  rw[h0]at hu;rw[show i-xs.length=0 by omega]at hv;have hu:(⟨k,QaZ d.C k⟩:UD)=u:=by simpa using hu
  have hv:QkE bw bd w.heap.size (w.heap.size+1)=v:=by simpa using hv
  subst hu hv;refine⟨bw,bd,w.heap.size,w.heap.size+1,Qiw d.C k,rfl,⟨a1 _ (.inl b7.1) b7.2 oM,a1 _ (.inl b4.1) b4.2 oM,a1 _ (.inr (.inl rfl)) oM b6,a1 _ (.inr (.inr rfl)) oM b5⟩,?_,?_,?_,?_,?_⟩
  .exact Z c8 oM oM λe=>by have:=a5 _ e;omega
  .exact Z c4 oM oM λe=>by have:=a5 _ e;omega
  ·intro x hx
   have hx:QaZ d.C k=some x:=hx;unfold Qiw;rw[hx];rfl
  .exact Z (b3.ext a3) oM b6 λe=>by have:=a5 _ e;omega
  exact Z (c0.ext a3) oM b5 λe=>by have:=a5 _ e;omega
 ·intro p hp
  rcases QiH hp with rfl|hp
  .exact ⟨hk,(I.ok.agree ha).mono hm⟩
  exact⟨(I.at_.vals p hp).1,((I.at_.vals p hp).2.agree ha).mono hm⟩
 ·intro u hu
  rcases aS.1 hu with hu|hu
  .exact ⟨(I.at_.olds u hu).1,λo ho=>(((I.at_.olds u hu).2 o ho).agree ha).mono hm⟩
  rw[aX.1 hu];exact⟨hk,λo ho=>((((I.at_.vals (k,o) (QeJ ho)).2).agree ha).mono hm)⟩
 ·show Chain (d.us++[(⟨k,QaZ d.C k⟩:UD)]) (d.Hs++[QcX d.C k sv])
  rw[a8]at a9 ⊢;exact a9.snoc a7 k sv
 ·have h0:d.Hs[0]? = some []:=I.at_.h0
  show(d.Hs++[QcX d.C k sv])[0]? = _;rw[bn oM];exact h0
 ·show (d.Hs++[QcX d.C k sv])[(d.us++[(⟨k,QaZ d.C k⟩:UD)]).length]? = some (QcX d.C k sv)
  rw[aj,bu,aQ oM,show d.us.length+1-d.Hs.length=0 by omega];rfl
 ·intro e
  have e:some b=some O:=e;injection e with e;exact c1 e
 ·intro i hi
  have hi:some b=some i:=hi;injection hi with hi;subst hi;exact b0
 ·rintro i (hi | hi | hi) hh
  .exact I.at_.out i (.inl hi) hh
  .exact I.at_.out i (.inr (.inl hi)) hh
  rcases N i hi with h|h
  .exact I.at_.out i (.inr (.inr h)) hh
  have:=hH i hh;omega
 ·refine I.sb.comp a4 fun i hi h=>?_
  rcases h with h|h|h
  .exact .inl h
  ·have h:some b=some i:=h
   injection h with h;subst h;rcases I.mb with h|h
   .exact .inr (.inl h)
   omega
  exact .inr (.inr h)
 rintro i (hi|hi|hi)
 .exact .inl (.inl hi)
 ·have hi:some b=some i:=hi
  injection hi with hi;subst hi;rcases I.mb with h|h
  .exact .inl (.inr (.inl h))
  exact .inr h
 rcases N i hi with h|h
 .exact .inl (.inr (.inr h))
 right;omega
end
abbrev od0(T:RT):OD:=⟨T,none,Sl.none,[],[[]],[]⟩
theorem QcK.fresh(I:Blk w O 184 #[QaK T,.map none,.slice none 0 0])(hT:IsT w F T)(ok:OkR T)(hF:∀b,F b->b<w.heap.size/\¬H b/\b≠O)(N:¬H O):QcK H w O (od0 T):=
 ⟨I,rfl,⟨[],rfl,eG _ _ _ _,λi u v hu=>by simp at hu⟩,λp Z=>(by cases Z),λu hu=>(by cases hu),Chain.nil [],rfl,rfl,List.Pairwise.nil,
   hT.mono λb I=>⟨(hF b I).1,⟨λh=>by
    rcases h with h|h|h
    .exact (hF b I).2.2 h
    .cases h
    (cases h),(hF b I).2.1⟩⟩,ok,⟨sM,by simp[Sl.row],λb I=>(by cases I)⟩,λb I=>by
   rcases I with rfl|h|h
   .exact N
   .cases h
   (cases h),λh=>absurd rfl h⟩
theorem Qq5(hT:IsT w F T)(ok:OkR T)(hF:∀b,F b->b<w.heap.size/\¬H b)(hH:∀b,H b->b<w.heap.size) :
  Calls prog 94 #[Qao T] w λe w'=>∃O,e=.returned (.pointer (some ⟨O,0,none⟩))/\w.heap.size<=O/\QcK H w' O (od0 T)/\Ext w w':=by
 obtain⟨p,hp⟩:=Qaj T;rw[Qao,hp];obtain⟨HT,Z,HH,HP⟩:=Ye hT hF hH hp;clear hT hF hH hp;go_in;go_wp2_with fail;generalize a1:World.alloc _ _=W0;obtain⟨I,a2,-,a0⟩:=Qas w _ _ _ _ W0 a1;refine eB (v:=.pointer (some ⟨w+1,0,none⟩)) (by simp[results,results94,go_sem]) rfl ?_;refine⟨w+1,rfl,ct _,QcK.fresh (by rw[HP.o];exact a0) (HT.o.agree (I.agree λb N=>(Z.o b N).1)) ok (λb N=>⟨by have:=(Z.o b N).1;omega,(Z.o b N).2,by have:=(Z.o b N).1;omega⟩) (λh=>by have:=HH.o _ h;omega),I⟩
variable{d:OD}
theorem QdB(h:QcK H w O d):Calls prog 164 #[.pointer (some ⟨O,0,none⟩)] w λe w'=>e=.returned (.int .i64 (d.us.length:Int))/\Ext w w':=by
 have I:w.cell? ⟨O,2,none⟩=some (.slice d.s.a d.us.length d.s.c):=h.blk.cell 2;clear h;go_in;go_wp2_with fail;go_ret;exact⟨rfl,fI w⟩
abbrev OD.now(d:OD)(k:ByteArray):Option Val:=QkO (Qaa d.T) (Qhe d.C) k
theorem Qmo{k:ByteArray}(h:QaZ d.C k=none):d.now k=Qaq (Qaa d.T) k:=by
 unfold OD.now QkO;rw[QdU,h];rfl
theorem Qmp{k:ByteArray}{s:SV}(h:QaZ d.C k=some s):d.now k=s.opt:=by
 unfold OD.now QkO;rw[QdU,h];rfl
theorem Qtz{s:SV}(h:QkU w F s):s.opt.getD zeroV=s.v/\s.opt.isSome=s.has:=by
 unfold SV.opt;cases I:s.has with
 |true=>simp
 |false=>simp[h.2 I]
theorem QsA(h:QcK H w O d)(hl:(Qaa d.T).length<=1000000){k:ByteArray}(hk:k.size<=maxLen) :
  Calls prog 196 #[.pointer (some ⟨O,0,none⟩),.string k] w (QbC (d.now k) w):=by
 have lO:=h.blk.lt;have c1:w.cell? ⟨O,1,none⟩=some (.map d.mb):=h.blk.cell 1;have c0:w.cell? ⟨O,0,none⟩=some (QaK d.T):=h.blk.cell 0;have a7:∀cs t,(Instr.lookup 181 (.map d.mb) (.string k) true).run prog (w.alloc (.cells cs t))=.ok (.tuple #[(Qiw d.C k).val,.bool (QaZ d.C k).isSome]) (w.alloc (.cells cs t)):=λcs t=>
  Qlg (h.map.heap λb I=>eJ _ _ _ (h.map.lt I)) hk
 cases hg:QaZ d.C k with
 | none=>
   rw[Qmo hg];simp only[hg,Qiw,Option.getD_none,Option.isSome_none]at a7;have hF:∀b,OvF H w O d b->b<w.heap.size:=λb I=>I.1
   have a9:=λW (hW:Ext w W)=>Qg2 (w:=W) (λb I=>ab (hF b I) hW.size) (h.tree.agree (hW.agree hF)) h.ok hl k
   generalize Qaq (Qaa d.T) k=N at *;obtain⟨p,hp⟩:=Qaj d.T;rw[hp]at c0;simp only[Qao,hp]at a9;have b6:=hY a9;clear a9 h hF hg hp;go_in;go_wp2_with fail;generalize a3:World.alloc _ _=W0;obtain⟨a0,a2,Z,a6⟩:=Qas w _ _ _ _ W0 a3;obtain⟨a5,b0,HZ⟩:=Yc a0 Z a2;clear a3 Z a6 a2 a7;refine(b6.o W0 a0).mono ?_;rintro e w1 ⟨sl,so,rfl,b4,a4⟩;have I:=b0.o.ext b4;obtain⟨q0,q1,q2,q3,q4,q5⟩:=I.c6;have f2:=I.frozen;have lb:=I.lt;obtain⟨b8,c3⟩:=Yb b4 a4;clear I b4 a4 a0 b6;go_wp2_with fail;refine eB (v:=.tuple #[QbV (N.getD zeroV) sl so,.bool N.isSome]) (by simp[results,results196,go_sem,q0,q1,q2,q3,q4,q5]) rfl ?_;exact Qel (a5.o.trans b8.o) (b:=w.heap.size) (lo:=W0.heap.size) oM (by rw[HZ.o];omega) c3.o
 | some s=>
   rw[Qmp hg];have hs:=(h.vals (k,s) (QeJ hg)).2;have hv:s.opt.getD zeroV=s.v/\s.opt.isSome=s.has:=Qtz hs;simp only[hg,Qiw,Option.getD_some,Option.isSome_some]at a7;have b7:=λW (hW:Ext w W)=>QdS _ s.v (ao _) W s.sl s.so ((hs.1.agree (hW.agree λb I=>I.1)).mono λb I=>ab I.1 hW.size)
   obtain⟨N,b5⟩:∃N,s.opt=N:=⟨_,rfl⟩;rw[b5]at hv ⊢;obtain⟨c7,v,sl,so⟩:=s;obtain⟨rfl,rfl⟩:=hv;have c4:=hY b7;clear b7 h hg hs b5;go_in;go_wp2_with fail;generalize a3:World.alloc _ _=W0;obtain⟨a0,a2,Z,a6⟩:=Qas w _ _ _ _ W0 a3;have a1:=hY (show ∀W,St (λb=>b=w.heap.size) W0 W->W.cell? ⟨w.heap.size+1,0,none⟩=some (.bool N.isSome)/\W.cell? ⟨w.heap.size+1,1,none⟩=some (.int .i64 (N.getD zeroV).kind)/\W.cell? ⟨w.heap.size+1,2,none⟩=some (.bool (N.getD zeroV).b)/\W.cell? ⟨w.heap.size+1,3,none⟩=some (.int .i64 (N.getD zeroV).i)/\W.cell? ⟨w.heap.size+1,4,none⟩=some (.string (N.getD zeroV).t)/\W.cell? ⟨w.heap.size+1,5,none⟩=some (.slice sl.a (N.getD zeroV).l.length sl.c)/\W.cell? ⟨w.heap.size+1,6,none⟩=some (.slice so.a (N.getD zeroV).ok.length so.c)from
    λW hW=>by
     have I:=hW.blk a6 oM;exact⟨I.cell 0,I.cell 1,I.cell 2,I.cell 3,I.cell 4,I.cell 5,I.cell 6⟩)
   obtain⟨a5,b0,HZ⟩:=Yc a0 Z a2;have l0:=Z.lt;clear a3 a0 Z a6 a2 a7;refine eA (S:=(λw'=>St (λb=>b=w.heap.size) W0 w')) kM (((fQ _ W0).drew)) (λhHeld=>?_);refine Qaf 0 (some 21) a1 hHeld ?_;refine Qaf 1 (some 22) a1 hHeld ?_;refine Qaf 3 (some 24) a1 hHeld ?_;refine Qaf 4 (some 25) a1 hHeld ?_;refine Qac (i:=2) kM rfl (by rfl) (λK hK=>?_);go_simp
   (refine(c4.o _ (a5.o.drew)).mono ?_;rintro e w2 ⟨b9,c2,rfl,a8,a4⟩;have b3:=(b0.o.ext ((fI W0).drew)).ext a8;obtain⟨q0,q1,q2,q3,q4,q5⟩:=b3.c6;have f2:=b3.frozen;have lb:=b3.lt)
   refine hK.out _ _ (hHeld.ext a8) (λhHeld=>?_);clear hK K
   try go_frame
   refine Qac (i:=5) kM rfl (by rfl) (λK hK=>?_);go_simp
   skip
   refine hK.out _ _ (hHeld.QdE (.inr rfl) 0 _ _ _) (λhHeld=>?_);clear hK K
   try go_frame
   refine Qaf 6 (some 5) a1 hHeld ?_;refine eF kM ?_ _;go_wp2_with fail;refine eB (v:=.tuple #[QbV (N.getD zeroV) b9 c2,.bool N.isSome]) (by simp[results,results196,go_sem,q0,q1,q2,q3,q4,q5]) rfl ?_;exact Qel ((a5.o.drew).trans a8) (b:=w.heap.size) (lo:=W0.heap.size) oM (by rw[HZ.o];omega) a4
def QuG(R:Act->World->Prop):Exit->Act->World->Prop
 |.normal,a,w=>R a w
 |_,_,_=>False
theorem QiN{R:Act->World->Prop}(h:R a w):QuG R .normal a w:=h
def QsH(tm:Array Value):List (Nat × Value)->Array Value
 |[]=>tm
 |(i,v)::l=>QsH (tm.setIfInBounds i v) l
theorem QmL{c:Code}{α:Type}(Z:World->α->Prop)(ds:List Nat)(I:α->List (Nat × Value))
  (h1:c.wp P (QuG λN w'=>∃x,Z w' x/\N.defers=a.defers/\N.tmps=QsH a.tmps ((ds.map λd=>(d,N.tmps.getD d undef))++I x)) a w)
  (h2:∀(w':World) (x:α) (vs:Nat->Value),Z w' x->Q .normal { tmps:=QsH a.tmps ((ds.map λd=>(d,vs d))++I x),defers:=a.defers } w'):c.wp P Q a w:=
 wp_mono h1 λe N w' h=>by
  cases e with
  | normal=>
    obtain⟨x,hr,hd,ht⟩:=h;have:=h2 w' x (λd=>N.tmps.getD d undef) hr;rw[<-ht,<-hd]at this;exact this
  |_=>exact h.elim
theorem QmH(w:World)(I t1:TypeId)(Z N:Array Value):∀W,((w.alloc (.cells Z I)).alloc (.cells N t1)).drew=W->
  Ext w W/\W.heap.size=w.heap.size+2/\Blk W w.heap.size I Z/\Blk W (w.heap.size+1) t1 N:=by
 rintro W rfl;obtain⟨hx,hz,h0,h1⟩:=Qas w I t1 Z N _ rfl;exact⟨hx.drew,hz,h0,h1⟩
theorem QqB{t I t1 Z:TypeId}{cs c0 N c2:Array Value}(hb:Blk w O t cs):∀W,((((w.setCell ⟨O,1,none⟩ (.map (some (w.heap.size+1+1+1)))).alloc (.cells c0 I)).alloc (.cells N t1)).alloc (.cells c2 Z)).alloc (.map #[] 0)=W->
  Sb (λc=>c=O) w W/\w.heap.size+3<=W.heap.size/\Blk W O t (cs.setIfInBounds 1 (.map (some (w.heap.size+1+1+1))))/\Blk W w.heap.size I c0/\Blk W (w.heap.size+1) t1 N/\Blk W (w.heap.size+1+1) Z c2/\W.ownsMap prog 9 QeO (w.heap.size+1+1+1) 0 (mapA SV.val []):=by
 rintro W rfl;have hz:(w.setCell ⟨O,1,none⟩ (.map (some (w.heap.size+1+1+1)))).heap.size=w.heap.size:=eC _ _ _;have a0:Sb (λc=>c=O) w (w.setCell ⟨O,1,none⟩ (.map (some (w.heap.size+1+1+1)))):=(fM (λc=>c=O) w).set (p:=⟨O,1,none⟩) (.inr rfl) _;have a2:=hb.QbH 1 (.map (some (w.heap.size+1+1+1)));generalize w.setCell ⟨O,1,none⟩ (.map (some (w.heap.size+1+1+1)))=W0 at *;obtain⟨hx,a1,h0,h1,h2⟩:=Qal W0 I t1 Z c0 N c2 _ rfl;rw[hz]at h0 h1 h2 a1;generalize ((W0.alloc (.cells c0 I)).alloc (.cells N t1)).alloc (.cells c2 Z)=W3 at *;have hm:=World.ownsMap_made W3 prog 9 QeO;rw[show W3.heap.size=w.heap.size+1+1+1 by omega]at hm;exact⟨(a0.trans (hx.sb _)).trans (Sb.made (World.grownBy_alloc _ _ _)),by simp;omega,(a2.ext hx).alloc _,h0.alloc _,h1.alloc _,h2.alloc _,hm⟩
variable{sv:SV}
theorem QmF(h:QcK H w O d)(hH:∀b,H b->b<w.heap.size)(hn:d.us.length<=1000000){k:ByteArray}(hk:k.size<=maxLen)(f8:QkU w (OvF H w O d) sv) :
  Calls prog 195 #[.pointer (some ⟨O,0,none⟩),.string k,sv.val] w (Qq0 H O d k sv w):=by
 obtain⟨i0,hi,d0,j2,i7⟩:=eE Tryz.Qul;have k8:=@run_makeMap prog;have k9:∀(w:World) (r:Option Nat),(binOp .eql 181 (.map r) (.map none)).run prog w=.ok (.bool r.isNone) w:=λw r=>run_eql_map_nil w _ _ _ r underlying181
 have c1:w.cell? ⟨O,1,none⟩=some (.map d.mb):=h.blk.cell 1;have f1:=h.blk.frozen 1;have lO:=h.blk.lt;have g9:∀i,d.s.row=some i->i<w.heap.size:=λi hi=>h.Qko hi
 obtain⟨b4,g3,i2,b3⟩:=Ye h hH f8 g9;clear h hH f8 g9;obtain⟨c0,v,sl,so⟩:=sv;show Calls _ _ #[_,_,.agg #[.bool c0,.int .i64 v.kind,.bool v.b,.int .i64 v.i,.string v.t,.slice sl.a v.l.length sl.c,.slice so.a v.ok.length so.c]] _ _;have l1:O<w.heap.size+1:=oM
 have l2:O<w.heap.size+1+1:=oM
 go_in;go_upto_if 12 with fail;go_cut [] (λwc=>∃b,Qou H w O d k ⟨c0,v,sl,so⟩ b wc)
 case first=>
  obtain⟨mb,e1⟩:∃mb,d.mb=mb:=⟨_,rfl⟩;rw[e1]at c1 ⊢;have d8:=hY e1;clear e1;rcases mb with _|b
  ·go_wp2_with fail
   generalize b0:World.alloc _ _=W0;obtain⟨b7,d0,j4,e6,a7,a6,a2⟩:=QqB b4.o.blk W0 b0;clear b0;go_meet;have f3:=b4.o.made d8.o (b:=w.heap.size+1+1+1) oM g3.o b7 j4 a2;refine⟨_,f3,b7.mono λi _ h=>.inl h,.inr oM,d0,e6,a7,a6,?_⟩;refine(i2.o.agree (λi hi=>b7.block i hi.1 λe=>hi.2.1 (.inl e))).mono λi hi=>⟨Nat.lt_of_lt_of_le hi.1 b7.size,λe=>?_,hi.2.2⟩
   rcases e with e|e|e
   .exact hi.2.1 (.inl e)
   ·have e:some (w.heap.size+1+1+1)=some i:=e
    injection e with e;have:=hi.1;omega
   exact hi.2.1 (.inr (.inr e))
  go_wp2_with fail;generalize b0:World.alloc _ _=W0;obtain⟨b5,k4,e6,a7,a6⟩:=Qal w _ _ _ _ _ _ W0 b0;clear b0;go_meet;have f3:=b4.o.ext b5;have hd:d={ d with mb:=some b }:=by rw[<-d8.o]
  refine⟨b,by rw[<-hd];exact f3,b5.sb _,.inl d8.o,oM,e6,a7,a6,?_⟩;rw[<-hd];exact(i2.o.agree (b5.agree λb hb=>hb.1)).mono λi hi=>⟨Nat.lt_of_lt_of_le hi.1 b5.size,hi.2⟩
 obtain⟨b,hM⟩:=hcut;have d6:∀W,Ext wc W->(Instr.lookup 181 (.map (some b)) (.string k) true).run prog W=.ok (.tuple #[(Qiw d.C k).val,.bool (QaZ d.C k).isSome]) W:=λW hW=>
  Qlg (hM.at_.ext hW).map hk
 obtain⟨o,ho⟩:∃o,Qiw d.C k=o:=⟨_,rfl⟩;obtain⟨g,hg⟩:∃g,(QaZ d.C k).isSome=g:=⟨_,rfl⟩;rw[ho,hg]at d6;obtain⟨oh,ov,c4,b6⟩:=o;obtain⟨HO,HG⟩:=Yb ho hg;have j3:O<wc.heap.size:=hM.at_.blk.lt;have k3:=hM.big;have HM:=hY hM;have I:=hY (show ∀W,Ext wc W->W.cell? ⟨w.heap.size,0,none⟩=some (.pointer (some ⟨O,0,none⟩))/\W.cell? ⟨O,1,none⟩=some (.map (some b))/\W.cell? ⟨w.heap.size+1,0,none⟩=some (.string k)/\
   (Instr.lookup 181 (.map (some b)) (.string k) true).run prog W=.ok (.tuple #[.agg #[.bool oh,.int .i64 ov.kind,.bool ov.b,.int .i64 ov.i,.string ov.t,.slice c4.a ov.l.length c4.c,.slice b6.a ov.ok.length b6.c],.bool g]) W from
  λW hW=>⟨(hM.bo.ext hW).cell 0,((hM.at_.ext hW).blk).cell 1,(hM.bk.ext hW).cell 0,d6 W hW⟩)
 clear hM d6 ho hg c1 f1 l1 l2;go_wp2_with fail;refine QmL (α:=Nat × Nat) (λw' x=>Ext wc w'/\(wc.heap.size<=x.1/\x.1<w'.heap.size)/\(wc.heap.size<=x.2/\x.2<w'.heap.size)/\Blk w' x.1 192 #[.bool oh,.int .i64 ov.kind,.bool ov.b,.int .i64 ov.i,.string ov.t,.slice c4.a ov.l.length c4.c,.slice b6.a ov.ok.length b6.c]/\Blk w' x.2 4 #[.bool g]) [17,18,19,20,21,22,23,24,25] (λx=>[(6,.pointer (some ⟨x.1,0,none⟩)),(7,.pointer (some ⟨x.2,0,none⟩))]) ?h1 ?h2
 case h1=>
  refine eA (S:=(λw'=>Ext wc w')) kM (((fI wc).drew)) (λhHeld=>?_);refine Qaf 0 (some 18) I hHeld ?_;refine Qaf 1 (some 19) I hHeld ?_;refine Qaf 2 (some 20) I hHeld ?_;refine Qaf 3 (some 21) I hHeld ?_;refine Qaf 4 (some 22) I hHeld ?_;refine Qaf 5 (some 23) I hHeld ?_;refine Qaf 6 (some 17) I hHeld ?_;refine Qaf 7 (some 24) I hHeld ?_;refine Qaf 8 (some 25) I hHeld ?_;refine Qix (i:=9) (j:=10) kM rfl rfl (by rfl) (by rfl) (λK N=>?_) (λK N=>?_)
  ·go_simp
   skip
   refine N.out _ _ ((by first|exact(((fI _).drew).alloc _ _).alloc _ _|exact((fI _).drew).alloc _ _)) (λhHeld=>?_);clear N K
   try go_frame
   refine Qac (i:=10) kM rfl (by rfl) (λK N=>?_);go_simp
   skip
   refine N.out _ _ ((by first|exact(((fI _).drew).alloc _ _).alloc _ _|exact((fI _).drew).alloc _ _)) (λhHeld=>?_);clear N K
   try go_frame
   refine Qac (i:=11) kM rfl (by rfl) (λK N=>?_);go_simp
   skip
   refine N.out _ _ ((by first|exact(((fI _).drew).alloc _ _).alloc _ _|exact(((fI _).alloc _ _).alloc _ _).drew)) (λhHeld=>?_);clear N K
   try go_frame
   refine Qac (i:=12) kM rfl (by rfl) (λK N=>?_);go_simp
   skip
   refine N.out _ _ ((by first|exact(((fI _).drew).alloc _ _).alloc _ _|exact(((fI _).alloc _ _).alloc _ _).drew)) (λhHeld=>?_);clear N K
   try go_frame
   refine eF kM ?_ _;generalize f7:World.drew _=Z;obtain⟨a0,j1,a7,a6⟩:=QmH wc _ _ _ _ Z f7;refine QiN ⟨(wc.heap.size,wc.heap.size+1),⟨a0,⟨Nat.le_refl _,by show wc.heap.size<_;omega⟩,⟨Nat.le_succ _,by show wc.heap.size+1<_;omega⟩,a7,a6⟩,kM,?_⟩;simp only[QsH,List.map_cons,List.map_nil,List.cons_append,List.nil_append,List.setIfInBounds_toArray,List.set_cons_zero,List.set_cons_succ]
   kernel_rfl
  go_simp
  skip
  refine N.out _ _ ((by first|exact(((fI _).drew).alloc _ _).alloc _ _|exact((fI _).drew).alloc _ _)) (λhHeld=>?_);clear N K
  try go_frame
  refine Qac (i:=9) kM rfl (by rfl) (λK N=>?_);go_simp
  skip
  refine N.out _ _ ((by first|exact(((fI _).drew).alloc _ _).alloc _ _|exact((fI _).drew).alloc _ _)) (λhHeld=>?_);clear N K
  try go_frame
  refine Qac (i:=11) kM rfl (by rfl) (λK N=>?_);go_simp
  skip
  refine N.out _ _ ((by first|exact(((fI _).drew).alloc _ _).alloc _ _|exact(((fI _).alloc _ _).alloc _ _).drew)) (λhHeld=>?_);clear N K
  try go_frame
  refine Qac (i:=12) kM rfl (by rfl) (λK N=>?_);go_simp
  skip
  refine N.out _ _ ((by first|exact(((fI _).drew).alloc _ _).alloc _ _|exact(((fI _).alloc _ _).alloc _ _).drew)) (λhHeld=>?_);clear N K
  try go_frame
  refine eF kM ?_ _;generalize f7:World.drew _=Z;obtain⟨a0,j1,a7,a6⟩:=QmH wc _ _ _ _ Z f7;refine QiN ⟨(wc.heap.size+1,wc.heap.size),⟨a0,⟨Nat.le_succ _,by show wc.heap.size+1<_;omega⟩,⟨Nat.le_refl _,by show wc.heap.size<_;omega⟩,a6,a7⟩,kM,?_⟩;simp only[QsH,List.map_cons,List.map_nil,List.cons_append,List.nil_append,List.setIfInBounds_toArray,List.set_cons_zero,List.set_cons_succ]
  kernel_rfl
 rintro Z ⟨bd,bw⟩ uu ⟨a0,d3,e0,d4,f6⟩;simp only[QsH,List.map_cons,List.map_nil,List.cons_append,List.nil_append,List.setIfInBounds_toArray,List.set_cons_zero,List.set_cons_succ];dsimp only at d3 e0 d4 f6;have b8:=HM.o.at_.blk.ext a0;have c2:Z.cell? ⟨O,2,none⟩=some (.slice d.s.a d.us.length d.s.c):=b8.cell 2;have f2:=b8.frozen 2;have f4:=b8.lt;have e8:=HM.o.bo.ext a0;have c3:Z.cell? ⟨w.heap.size,0,none⟩=some (.pointer (some ⟨O,0,none⟩)):=e8.cell 0;have l3:=e8.lt;obtain⟨xs,hl,a2,g8⟩:=HM.o.at_.row;obtain⟨HL,i9,j9⟩:=Yc (show xs.length=d.us.length from hl) g8 (show ∀W,Ext Z W->W.ownsRow 0 1 1 (.slice d.s.a d.us.length d.s.c) d.us.length xs fromλW hW=>Qab a2 ((a0.trans hW).agree λb (hb:b<wc.heap.size)=>hb) λb hb=>(Qad a2 hb).2);have g7:d.s.row≠some O:=HM.o.at_.ne.2.1;have j0:d.s.row≠some w.heap.size:=λe=>by have:=b3.o _ e;omega
 have c7:∀u∈[QkE bw bd w.heap.size (w.heap.size+1)],u.oneCell'=true:=by simp[Value.oneCell']
 have i3:d.us.length+1<=maxLen:=by unfold maxLen;omega
 have i4:(d.us.length+1)*8<=140737488355328:=oM
 obtain⟨g0,j5,j6,i8,j8⟩:=Yf a0 d4 f6 e0 d3;clear d4 f6 e0 d3 b8 e8 hl g8 a2 a0 I;go_wp2_with fail;refine QmL (α:=Sl × World × World) (λw' x=>Ext Z x.2.1/\x.2.2.ownsRow 0 1 1 (.slice x.1.a (d.us.length+1) x.1.c) (d.us.length+1) (xs++[QkE bw bd w.heap.size (w.heap.size+1)])/\Wr x.2.1 x.2.2 d.s.row/\(x.1.a=d.s.a\/x.1.a=some ⟨x.2.1.heap.size,0,none⟩/\Wr x.2.1 x.2.2 none)/\w'=x.2.2.setCell ⟨O,2,none⟩ (.slice x.1.a (d.us.length+1) x.1.c)) [26,27,28,29,30,31,32,33,34,35] (λ_=>[]) ?g1 ?g2
 case g1=>
  go_region_law (refine Qdi _ rfl (.tmp 30) (.tmp 32) 182 rfl 0 1 i0 _ 1 8 underlying182 hi d0 j2 i7 rfl oN d.s d.us.length xs (by rfl) (j9.o _ (by first|exact((fI Z).drew).alloc _ _|exact((fI Z).alloc _ _).drew)) (λb=>b=Z.heap.size) ⟨some ⟨Z.heap.size,0,none⟩,1⟩ 1 [QkE bw bd w.heap.size (w.heap.size+1)] (by rfl) (fU (fK _ _ _) oN rfl) c7 i3 i4 (aA _) ?_;intro s5 w5 a9 a3 a8;have d5:=a3.cell0 (w:=Z) (o:=2) (by first|exact((fI Z).drew).alloc _ _|exact((fI Z).alloc _ _).drew) g7 f4;have k5:=d5.1.trans c2;have k6:=d5.2;have g4:=a3.cell0 (w:=Z) (o:=0) (by first|exact((fI Z).drew).alloc _ _|exact((fI Z).alloc _ _).drew) j0 l3;have k7:=g4.1.trans c3;have f5:w5.frozen? ⟨O,2,none⟩=false:=(a3.fz _ _).trans (((by first|exact((fI Z).drew).alloc _ _|exact((fI Z).alloc _ _).drew:Ext Z _).frozen (o:=2) f4).trans f2);have e7:=hY a9;have f0:=hY a3;have e3:=hY a8;clear a9 a3 a8 d5 g4)
  all_goals
   refine QiN ⟨(s5,_,w5),⟨by first|exact((fI Z).drew).alloc _ _|exact((fI Z).alloc _ _).drew,e7.o,f0.o,e3.o,rfl⟩,kM,?_⟩;simp only[QsH,List.map_cons,List.map_nil,List.append_nil,List.cons_append,List.nil_append,List.setIfInBounds_toArray,List.set_cons_zero,List.set_cons_succ]
   kernel_rfl
 rintro w6 ⟨s5,W5,w5⟩ vv ⟨b9,e2,a1,a8,rfl⟩;simp only[QsH,List.map_cons,List.map_nil,List.append_nil,List.cons_append,List.nil_append,List.setIfInBounds_toArray,List.set_cons_zero,List.set_cons_succ];dsimp only at b9 e2 a1 a8;have c6:Ext wc W5:=g0.o.trans b9;have a4:Sb (λc=>c=O\/d.s.row=some c) wc (w5.setCell ⟨O,2,none⟩ (.slice s5.a (d.us.length+1) s5.c)):=
  ((c6.sb _).trans ⟨a1.grown.os,a1.grown.tape,a1.grown.output,a1.grown.size,λi hi hn=>a1.grown.block i hi λe=>hn (.inr e.symm)⟩).trans ((fM _ w5).set (p:=⟨O,2,none⟩) (.inr (.inl rfl)) _)
 have c8:Blk w5 O 184 #[QaK d.T,.map (some b),.slice d.s.a d.us.length d.s.c]:=(a1.agree (F:=λc=>c=O) (λi hi=>by rw[hi];exact ab j3 c6.size) (λi hi e=>g7 (by rw[hi,e])) O rfl).trans (HM.o.at_.blk.ext c6);have d7:=c8.QbH 2 (.slice s5.a (d.us.length+1) s5.c);have g5:¬O=b:=λe=>HM.o.at_.ne.1 (by rw[e])
 have n0:=Qbp.ne HM.o.at_.map HM.o.bo;have n1:=Qbp.ne HM.o.at_.map HM.o.bk;have n2:=Qbp.ne HM.o.at_.map HM.o.bs;have k0:=a4.blk HM.o.bo (λe=>by
  rcases e with e|e
  .omega
  have:=b3.o _ e;omega)
 have k1:=a4.blk HM.o.bk (λe=>by
  rcases e with e|e
  .omega
  have:=b3.o _ e;omega)
 have k2:=a4.blk HM.o.bs (λe=>by
  rcases e with e|e
  .omega
  have:=b3.o _ e;omega)
 have a5:Qbp (w5.setCell ⟨O,2,none⟩ (.slice s5.a (d.us.length+1) s5.c)) (some b) d.C:=HM.o.at_.map.heap λi hi=>by
  injection hi with hi;subst hi;exact a4.block b (HM.o.at_.map.lt rfl) λe=>by
   rcases e with e|e
   .exact g5 e.symm
   exact HM.o.at_.ne.2.2 b rfl e
 obtain⟨i6,e7,f0,e3⟩:=Ye b9 e2 a1 a8;obtain⟨W6,e4⟩:∃W6,w5.setCell ⟨O,2,none⟩ (.slice s5.a (d.us.length+1) s5.c)=W6:=⟨_,rfl⟩;rw[e4]at d7 k0 k1 k2 a5 ⊢;obtain⟨i5,f9⟩:=Yb e4 a5;have I:=hY (show ∀W,Sb (λc=>c=b) W6 W->W.cell? ⟨w.heap.size,0,none⟩=some (.pointer (some ⟨O,0,none⟩))/\W.cell? ⟨O,1,none⟩=some (.map (some b))/\W.cell? ⟨w.heap.size+1,0,none⟩=some (.string k)/\W.cell? ⟨w.heap.size+1+1,0,none⟩=some (.bool c0)/\W.cell? ⟨w.heap.size+1+1,1,none⟩=some (.int .i64 v.kind)/\W.cell? ⟨w.heap.size+1+1,2,none⟩=some (.bool v.b)/\W.cell? ⟨w.heap.size+1+1,3,none⟩=some (.int .i64 v.i)/\W.cell? ⟨w.heap.size+1+1,4,none⟩=some (.string v.t)/\W.cell? ⟨w.heap.size+1+1,5,none⟩=some (.slice sl.a v.l.length sl.c)/\W.cell? ⟨w.heap.size+1+1,6,none⟩=some (.slice so.a v.ok.length so.c)from
  λW hW=>⟨(hW.blk k0 n0).cell 0,(hW.blk d7 g5).cell 1,(hW.blk k1 n1).cell 0,(hW.blk k2 n2).cell 0,(hW.blk k2 n2).cell 1,(hW.blk k2 n2).cell 2,(hW.blk k2 n2).cell 3,(hW.blk k2 n2).cell 4,(hW.blk k2 n2).cell 5,(hW.blk k2 n2).cell 6⟩)
 have j7:d.C.length<maxLen:=by have:=b4.o.few;unfold maxLen;omega
 clear c6 a4 c8 d7 n0 n1 n2 k0 k1 k2 a5 b9 e2 a1 a8 e4 c2 f2 f4 c3 l3 c7 i3 i4;go_wp2_with fail;refine eA (S:=(λw'=>Sb (λc=>c=b) W6 w')) kM (((fM _ W6).drew)) (λhHeld=>?_);refine Qaf 0 (some 36) I hHeld ?_;refine Qaf 1 (some 37) I hHeld ?_;refine Qaf 2 (some 38) I hHeld ?_;refine Qaf 3 (some 39) I hHeld ?_;refine Qaf 4 (some 40) I hHeld ?_;refine Qaf 5 (some 41) I hHeld ?_;refine Qac (i:=6) kM rfl (by rfl) (λK N=>?_)
 skip
 (refine Qj9 (b:=b) (C:=d.C) (k:=k) (s:=⟨c0,v,sl,so⟩) rfl rfl rfl rfl (f9.o.heap λ_ _=>rfl) hk j7 b4.o.sorted ?_;intro w7 c9 g6)
 refine N.out _ _ (hHeld.trans g6) (λhHeld=>?_);clear N K
 try go_frame
 refine eF kM ?_ _;have h7:Sb (λc=>c=b) (w5.setCell ⟨O,2,none⟩ (.slice s5.a (d.us.length+1) s5.c)) w7:=by rw[i5.o];exact hHeld
 have i1:=step_end HM.o lO b3.o g3.o hk g0.o i8.o j8.o (by rw[HO.o];exact j5.o) (by rw[HG.o];exact j6.o) i6.o HL.o i9.o e7.o f0.o e3.o c9 h7;go_end0;exact⟨⟨_,rfl⟩,_,_,i1⟩
abbrev Nw(w w':World):Prop:=Sb (λ_=>False) w w'
theorem Nw.any(h:Nw w w')(H:Nat->Prop):Sb H w w':=h.mono λ_ _ e=>e.elim
theorem Nw.blk{w w':World}(h:Nw w w'){g:Nat}{t:TypeId}{cs:Array Value}(I:Blk w g t cs):Blk w' g t cs:=Sb.blk h I λe=>e
theorem Nw.agree{w w':World}(h:Nw w w'){F:Nat->Prop}(hF:∀b,F b->b<w.heap.size):Agree F w w':=λb I=>h.block b (hF b I) λe=>e
theorem Nw.of{w w':World}(h:Ext w w'):Nw w w':=h.sb _
section
variable{H : Nat -> Prop}{w w' : World}{O : Nat}{d d' : OD}
theorem QcK.nw(h:QcK H w O d)(k:Nw w w'):QcK H w' O d:=h.sb k λ_ I=>I.elim
theorem Qok.after{w0:World}(h:Qok H w O d d' w')(k:Nw w0 w):Qok H w0 O d d' w':=
 ⟨h.at_,(k.any _).trans h.sb,λb N=>(h.new b N).imp id λI=>an k.size I⟩
def OD.step(d:OD)(k:ByteArray)(sv:SV)(mb:Option Nat)(s:Sl):OD:=⟨d.T,mb,s,d.us++[⟨k,QaZ d.C k⟩],d.Hs++[QcX d.C k sv],QcX d.C k sv⟩
end
def QlM(H:Nat->Prop)(O:Nat)(d:OD)(k:ByteArray)(w:World)(e:Ending)(w':World):Prop:=
 e=.returned (.bool (d.now k).isSome)/\(((d.now k).isSome=false/\Nw w w')\/((d.now k).isSome=true/\∃mb s,Qok H w O d (d.step k QhY mb s) w'))
theorem QoZ(h:QcK H w O d)(hH:∀b,H b->b<w.heap.size)(hn:d.us.length<=1000000)(hl:(Qaa d.T).length<=1000000){k:ByteArray}(hk:k.size<=maxLen) :
  Calls prog 168 #[.pointer (some ⟨O,0,none⟩),.string k] w (QlM H O d k w):=by
 have hg:=QsA h hl hk;have Z:=λW (hW:Ext w W)=>QmF (h.ext hW) (λb hb=>ab (hH b hb) hW.size) hn hk (sv:=QhY) ⟨Qdd _ _,λ_=>rfl⟩
 unfold QlM;generalize d.now k=og at *;obtain⟨a3,HG⟩:=Yb Z hg;clear h hH Z hg;go_in;go_wp2_with fail;refine HG.o.mono ?_;rintro e w1 ⟨sl,so,rfl,a0,-⟩;have a1:=hY a0;clear a0;cases og with
 | none=>
   go_wp2_with fail;go_ret;exact⟨rfl,.inl ⟨rfl,Nw.of (a1.o.alloc _ _)⟩⟩
 | some v=>
   go_wp2_with fail;have I:=a1.o.alloc (w:=w1) #[.int .i64 v.kind,.bool v.b,.int .i64 v.i,.string v.t,.slice sl.a v.l.length sl.c,.slice so.a v.ok.length so.c] 34;refine(a3.o _ I).mono ?_;rintro e w3 ⟨⟨r,rfl⟩,mb,s,N⟩;have a2:=hY (N.after (Nw.of I));clear N I;go_wp2_with fail;go_ret;exact⟨rfl,.inr ⟨rfl,mb,s,a2.o⟩⟩
variable{sl so:Sl}
theorem QnL{k:ByteArray}{v:Val}{c:Int}(I:∀W,Nw w W->Calls prog 194 #[.string k] W λe w'=>e=.returned (.int .i64 c)/\Nw W w')(hc:c≠0) :
  Calls prog 167 #[.pointer (some ⟨O,0,none⟩),.string k,QbV v sl so] w λe w'=>e=.returned (.int .i64 8)/\Nw w w':=by
 have HM:=hY I;have g0:(c != 0)=true:=eQ.2 hc;clear I hc;go_in;go_wp2_with fail;have N:Ext w (w.alloc (.cells #[.int .i64 v.kind,.bool v.b,.int .i64 v.i,.string v.t,.slice sl.a v.l.length sl.c,.slice so.a v.ok.length so.c] 34)):=(fI w).alloc _ _;refine(HM.o _ (Nw.of N)).mono ?_;rintro e w1 ⟨rfl,Z⟩;have a0:=hY ((Nw.of N).trans Z);clear N Z;go_wp2_with fail;go_ret;exact⟨rfl,a0.o⟩
theorem Qqg{k:ByteArray}{v:Val}{c:Int}(N:∀W,Nw w W->Calls prog 194 #[.string k] W λe w'=>e=.returned (.int .i64 0)/\Nw W w')
  (Z:∀W,Nw w W->Calls prog 193 #[QbV v sl so] W λe w'=>e=.returned (.int .i64 c)/\Nw W w') (hc:c≠0) :
  Calls prog 167 #[.pointer (some ⟨O,0,none⟩),.string k,QbV v sl so] w λe w'=>e=.returned (.int .i64 c)/\Nw w w':=by
 obtain⟨HM,HF⟩:=Yb N Z;have g0:(c != 0)=true:=eQ.2 hc;clear N hc Z;go_in;go_wp2_with fail;have a0:Ext w (w.alloc (.cells #[.int .i64 v.kind,.bool v.b,.int .i64 v.i,.string v.t,.slice sl.a v.l.length sl.c,.slice so.a v.ok.length so.c] 34)):=(fI w).alloc _ _;have a3:=fK w 34 #[.int .i64 v.kind,.bool v.b,.int .i64 v.i,.string v.t,.slice sl.a v.l.length sl.c,.slice so.a v.ok.length so.c];refine(HM.o _ (Nw.of a0)).mono ?_;rintro e w1 ⟨rfl,a1⟩;obtain⟨q0,q1,q2,q3,q4,q5⟩:=(a1.blk a3).c6;have I:=(Nw.of a0).trans a1;have a4:=hY I;clear a0 a1 I a3;go_wp2_with fail;refine(HF.o _ a4.o).mono ?_;rintro e w2 ⟨rfl,a2⟩;have a5:=hY (a4.o.trans a2);clear a2 q0 q1 q2 q3 q4 q5;go_wp2_with fail;go_ret;exact⟨rfl,a5.o⟩
def QqZ(H:Nat->Prop)(O:Nat)(d:OD)(k:ByteArray)(v:Val)(w:World)(e:Ending)(w':World):Prop:=
 e=.returned (.int .i64 0)/\∃sl so mb s,Qok H w O d (d.step k ⟨true,v,sl,so⟩ mb s) w'
theorem QuM(h:QcK H w O d)(hH:∀b,H b->b<w.heap.size)(hn:d.us.length<=1000000){k:ByteArray}(hk:k.size<=maxLen){v:Val}(hv:RV w (Lt w) v sl so)
  (a3:∀W,Nw w W->Calls prog 194 #[.string k] W λe w'=>e=.returned (.int .i64 0)/\Nw W w')
  (a4:∀W,Nw w W->Calls prog 193 #[QbV v sl so] W λe w'=>e=.returned (.int .i64 0)/\Nw W w') :
  Calls prog 167 #[.pointer (some ⟨O,0,none⟩),.string k,QbV v sl so] w (QqZ H O d k v w):=by
 have c1:=λW (hW:Nw w W) sv hsv=>QmF (h.nw hW) (λb hb=>ab (hH b hb) hW.size) hn hk (sv:=sv) hsv
 have b8:=λW (hW:Nw w W)=>QdS _ v (ao _) W sl so ((hv.agree (hW.agree λb hb=>hb)).mono λb hb=>ab hb hW.size)
 have a1:∀b,OvB O d b->b<w.heap.size:=λb hb=>h.Qbe hb
 obtain⟨HM,HF,b0,c4,c3,c9⟩:=Yg a3 a4 c1 b8 a1 hH;clear a3 a4 h hv c1 b8 a1 hH;go_in;go_wp2_with fail;have a8:Ext w (w.alloc (.cells #[.int .i64 v.kind,.bool v.b,.int .i64 v.i,.string v.t,.slice sl.a v.l.length sl.c,.slice so.a v.ok.length so.c] 34)):=(fI w).alloc _ _;have b5:=fK w 34 #[.int .i64 v.kind,.bool v.b,.int .i64 v.i,.string v.t,.slice sl.a v.l.length sl.c,.slice so.a v.ok.length so.c];refine(HM.o _ (Nw.of a8)).mono ?_;rintro e w1 ⟨rfl,a9⟩;have a6:=a9.blk b5;obtain⟨q0,q1,q2,q3,q4,q5⟩:=a6.c6;have a2:=(Nw.of a8).trans a9;obtain⟨b6,b4⟩:=Yb a2 a6;clear a8 a9 a2 b5 a6 HM;go_wp2_with fail;refine(HF.o _ b6.o).mono ?_;rintro e w2 ⟨rfl,a5⟩;have c2:=a5.blk b4.o;have a0:=b6.o.trans a5;have Z:=hY a0;clear a5 q0 q1 q2 q3 q4 q5 b4 HF;obtain⟨q0,q1,q2,q3,q4,q5⟩:=c2.c6;clear c2 a0;go_wp2_with fail;refine(c4.o _ Z.o).mono ?_;rintro e w3 ⟨sl',so',rfl,c0,b3⟩;have N:=Z.o.trans (Nw.of c0);have b7:QkU w3 (OvF H w3 O d) ⟨true,v,sl',so'⟩:=⟨b3.mono λi hi=>⟨hi.2,λe=>by have:=c3.o i e;have:=Z.o.size;have:=hi.1;omega,λe=>by have:=c9.o i e;have:=Z.o.size;have:=hi.1;omega⟩,λe=>by cases e⟩;have I:=b0.o w3 N _ b7;obtain⟨c7,a7⟩:=Yb N I;clear c0 b3 N b7 I q0 q1 q2 q3 q4 q5 c4 b0;go_wp2_with fail;refine a7.o.mono ?_;rintro e w4 ⟨⟨r,rfl⟩,mb,s,b9⟩;have c8:=hY (b9.after c7.o);clear b9;go_wp2_with fail;go_ret;exact⟨rfl,sl',so',mb,s,c8.o⟩
abbrev fJ:=@Nw.of
abbrev fN:=@Nw.agree
abbrev fW:=@Nw.blk
end Go.Proofs.YtdiecmkpbadgjaaGreatDoor
