/- What the theorem needs of the texts PartsL: no condition of its own. -/
import Derived.Test.YtdiecmkpbadgjaaGreatDoorPnq
set_option linter.unusedVariables false
set_option linter.unusedSimpArgs false
set_option linter.unnecessarySimpa false
set_option maxRecDepth 100000
set_option maxHeartbeats 4000000
namespace Go.Proofs.YtdiecmkpbadgjaaGreatDoor
open Go.Proofs.Tryz
open Go.RowKit Go.Maps Go.Shelf
section
variable{w W:World}{s:Sl}{G:Nat->Prop}
variable{F:Nat->Prop}{cs:List Value}
variable{n:Nat}
variable{xs:List LE}
variable{W':World}{h:Nat}
variable{ys:List LE}
variable{j:Nat}
variable{A B:Nat}
variable{nv:Value}
variable{w6:World}
variable{T:RT}
variable{P:Program}
variable{w':World}
theorem QAd(w:World)(p q:Option Addr)(hp:QsP w p)(hq:QsP w q):Calls prog 25 #[.agg #[.pointer p],.agg #[.pointer q]] w λe w'=>e=.returned (.bool (decide (p=q)))/\Ext w w':=by
 by_cases I:p=q
 .subst I;rw[em rfl];exact QyT w p
 rw[ej I];obtain⟨j,hj,hz⟩:=Qth;cases q with
 | none=>
   cases p with
   |none=>exact absurd rfl I
   | some a=>
     go_in;go_wp2_with fail;go_ret;exact⟨rfl,((fI w).alloc _ _).alloc _ _⟩
 | some b=>
   cases p with
   | none=>
     have hs:=λW=>Qjz (P:=prog) W b underlying46
     go_in;go_wp2_with fail;go_ret;exact⟨rfl,((fI w).alloc _ _).alloc _ _⟩
   | some a=>
     have Z:=((fI w).alloc #[.pointer (some a)] 48).alloc #[.pointer (some b)] 48;obtain⟨ca,ta,ha⟩:=(hp.ext Z) a rfl;obtain⟨cb,tb,hb⟩:=(hq.ext Z) b rfl;have N:a≠b:=λe=>I (by rw[e])
     have hs:=run_eql_ptr_other (P:=prog) _ underlying46 hj hz N ha hb;clear hp hq I ha hb;go_in;go_wp2_with fail;go_ret;exact⟨rfl,((fI w).alloc _ _).alloc _ _⟩
end
section
variable{w W:World}
variable{sl so sl' so':Sl}
variable{F F':Nat->Prop}{s:Sl}
variable{xs ys:List LE}
variable{T T':RT}
theorem Qz0{x y:LE}(h:RV w (Lt w) x.v x.sl x.so)(h':RV w (Lt w) y.v y.sl y.so) :
  Calls prog 48 #[Qfu x.k x.v x.sl x.so,Qfu y.k y.v y.sl y.so] w λe w'=>e=.returned (.bool (decide (x.k=y.k)&&decide (Qbq x.v y.v=0)))/\Ext w w':=by
 have hc:∀W,Ext w W->Calls prog 49 #[QbV x.v x.sl x.so,QbV y.v y.sl y.so] W λe w'=>e=.returned (.bool (decide (Qbq x.v y.v=0)))/\Ext W w':=λW Z=>
  Qdk ((h.agree (Z.agree λ_ h=>h)).mono λi hi=>ab hi Z.size) ((h'.agree (Z.agree λ_ h=>h)).mono λi hi=>ab hi Z.size)
 have HC:=hY hc;clear hc h h';obtain⟨k,v,sl,so⟩:=x;obtain⟨k',v',sl',so'⟩:=y;dsimp only at HC ⊢;by_cases hk:k=k'
 ·subst hk
  have a3:(k.toList==k.toList)=true:=sM
  rw[em (rfl:k=k),Bool.true_and];go_in;go_wp2_with fail;generalize I:World.alloc (World.alloc _ _) _=W0;obtain⟨N,a0,a1,a2⟩:=Qas w _ _ _ _ W0 I;clear I;refine(HC.o _ N).mono ?_;rintro e w1 ⟨rfl,hx⟩;go_wp2_with fail;go_ret;exact⟨rfl,N.trans hx⟩
 have a3:(k.toList==k'.toList)=false:=by rw[beq_toList];exact ej hk
 rw[ej hk,Bool.false_and];clear hk;go_in;go_wp2_with fail;generalize I:World.alloc (World.alloc _ _) _=W0;obtain⟨N,a0,a1,a2⟩:=Qas w _ _ _ _ W0 I;go_ret;exact⟨rfl,N⟩
end
section
variable{w W:World}
variable{sl so sl' so':Sl}
variable{F F':Nat->Prop}{s:Sl}
variable{xs ys:List LE}
variable{T T':RT}
variable{s':Sl}
theorem QzD(hs:ES w (Lt w) s xs)(a2:ES w (Lt w) s' ys) :
  Calls prog 47 #[.slice s.a xs.length s.c,.slice s'.a ys.length s'.c,.func (.func 48) #[] #[]] w λe w'=>e=.returned (.bool (Qeq (xs.map LE.ent) (ys.map LE.ent)))/\Ext w w':=by
 have hf:=hs.few;have c7:xs.length<=140737488355328:=oM
 by_cases I:xs.length=ys.length
 ·have HS:=hY hs
  obtain⟨b4,N⟩:=Yb a2 I;rw[<-I];clear hs a2 I hf;go_in;go_wp2_with fail;go_loopw[17] (λq wr=>∃j:Nat,q=.int .i64 j/\j<=xs.length/\Qeq (xs.map LE.ent) (ys.map LE.ent)=Qeq ((xs.map LE.ent).drop j) ((ys.map LE.ent).drop j)/\Ext w wr) (λq _=>xs.length -(intOf q).toNat)
  case atStart=>exact⟨0,rfl,aA _,rfl,fI w⟩
  obtain⟨j,rfl,d0,hp,hx⟩:=hrel;obtain⟨HP,HX⟩:=Yb hp hx;by_cases h1:j<xs.length
  ·have g1:(j:Int)<(xs.length:Int):=oM
   obtain⟨x,a1⟩:∃x,xs[j]? = some x:=⟨_,ac h1⟩;obtain⟨y,Z⟩:∃y,ys[j]? = some y:=⟨_,ac (by rw[<-N.o];exact h1)⟩;have HD:=hY (QnT (l:=xs.map LE.ent) (m:=ys.map LE.ent) (a:=x.ent) (b:=y.ent) (by rw[au,a1];rfl) (by rw[au,Z];rfl));have e1:=HS.o.ext hx;have e2:=b4.o.ext hx;obtain⟨g,o,hg,lg,hc,b6,kx,⟨v0,v1,v2,v3,v4,v5⟩,rx,-⟩:=e1.at a1;obtain⟨g',o',b0,a4,a7,a3,ky,⟨c0,b5,b9,b7,b3,c3⟩,ry,-⟩:=e2.at Z;rw[<-N.o]at a7;obtain⟨sa,sc⟩:=s;obtain⟨c8,c9⟩:=s';dsimp only at hg b0 hc a7 b6 a3;subst hg b0;have a5:∀W,Ext wr W->Calls prog 48 #[Qfu x.k x.v x.sl x.so,Qfu y.k y.v y.sl y.so] W λe w'=>e=.returned (.bool (decide (x.k=y.k)&&decide (Qbq x.v y.v=0)))/\Ext W w':=λW hW=>
    Qz0 ((rx.agree (hW.agree λ_ h=>h)).mono λi hi=>ab hi hW.size) ((ry.agree (hW.agree λ_ h=>h)).mono λi hi=>ab hi hW.size)
   have c1:=hY a5;have lg:g<wr:=lg;have a4:g'<wr:=a4;clear hp hx a1 Z e1 e2 rx ry a5;go_wp2_with fail;generalize a6:World.alloc (World.alloc _ _) _=W0;obtain⟨a0,c6,c2,b8⟩:=Qas wr _ _ _ _ W0 a6;clear a6;refine(c1.o _ a0).mono ?_;rintro e w2 ⟨rfl,a8⟩;have a9:=hY ((HX.o.trans a0).trans a8);clear a8 a0 c2 b8 kx ky v0 v1 v2 v3 v4 v5 c0 b5 b9 b7 b3 c3;cases hq:(decide (x.k=y.k)&&decide (Qbq x.v y.v=0))with
   | true=>
     have HQ:=hY hq;clear hq;go_wp2_with fail;go_roundw
     case rel=>exact⟨j+1,by go_num,h1,by rw[HP.o,HD.o,show(decide (x.ent.1=y.ent.1)&&decide (Qbq x.ent.2 y.ent.2=0))=true from HQ.o,Bool.true_and],a9.o⟩
     simp[intOf];omega
   | false=>
     have HQ:=hY hq;clear hq;go_wp2_with fail;go_ret;exact⟨by rw[HP.o,HD.o,show(decide (x.ent.1=y.ent.1)&&decide (Qbq x.ent.2 y.ent.2=0))=false from HQ.o,Bool.false_and];rfl,a9.o⟩
  obtain rfl:j=xs.length:=oM
  clear hp hx;go_wp2_with fail;go_ret;refine⟨?_,HX.o⟩;rw[HP.o,bS sM,bS (by simp[N.o])];rfl
 have c4:((xs.length:Int) !=(ys.length:Int))=true:=eQ.2 oM;have HE:=hY (Qsl (l:=xs.map LE.ent) (m:=ys.map LE.ent) (by simpa using I));clear hs a2 I hf;go_in;go_wp2_with fail;go_ret;exact⟨by rw[HE.o];rfl,fI w⟩
end
section
variable{P:Program}{Q:Exit->Act->World->Prop}{a:Act}{w:World}
variable{w1:World}{s0 s:Sl}{H:Nat->Prop}
variable{n B:Nat}{z:Value}{F F':Nat->Prop}
variable{W:World}{T U:RT}
variable{sl so sl' so':Sl}
variable{j:Nat}
variable{T':RT}{v0:Value}
theorem treeSame_any(hF:∀b,F b->b<w.heap.size)(a4:∀b,F' b->b<w.heap.size)(hT:IsT w F T)(hU:IsT w F' U)(ok:OkR T)(c8:OkR U)(hl:(Qaa T).length<=1000000)(c1:(Qaa U).length<=1000000) :
  Calls prog 26 #[Qao T,Qao U] w λe w'=>e=.returned (.bool (Qeq (Qaa T) (Qaa U)))/\Ext w w':=by
 obtain⟨p,hp⟩:=Qaj T;obtain⟨q,hq⟩:=Qaj U;have c6:∀W,Ext w W->Calls prog 25 #[.agg #[.pointer p],.agg #[.pointer q]] W λe w'=>e=.returned (.bool (decide (p=q)))/\Ext W w':=λW Z=>QAd W p q ((hT.leads hp).ext Z) ((hU.leads hq).ext Z)
 have c9:∀W,Ext w W->Calls prog 46 #[.agg #[.pointer p]] W λe w'=>e=.returned (.int .i64 (Qaa T).length)/\Ext W w':=λW Z=>by
  have:=QlI (λb hb=>ab (hF b hb) Z.size) (hT.agree (Z.agree hF));rwa[Qao,hp]at this
 have d4:∀W,Ext w W->Calls prog 46 #[.agg #[.pointer q]] W λe w'=>e=.returned (.int .i64 (Qaa U).length)/\Ext W w':=λW Z=>by
  have:=QlI (λb hb=>ab (a4 b hb) Z.size) (hU.agree (Z.agree a4));rwa[Qao,hq]at this
 have c7:∀W,Ext w W->Calls prog 37 #[.agg #[.pointer p]] W (QaU (Qaa T) W):=λW Z=>by
  have:=Qg1 (λb hb=>ab (hF b hb) Z.size) (hT.agree (Z.agree hF)) ok hl;rwa[Qao,hp]at this
 have b8:∀W,Ext w W->Calls prog 37 #[.agg #[.pointer q]] W (QaU (Qaa U) W):=λW Z=>by
  have:=Qg1 (λb hb=>ab (a4 b hb) Z.size) (hU.agree (Z.agree a4)) c8 c1;rwa[Qao,hq]at this
 have a6:p=q->Qeq (Qaa T) (Qaa U)=true:=λe=>by
  rw[hT.det hU (by rw[hp,hq,e]),QhK]
 rw[Qao,Qao,hp,hq];obtain⟨b5,a9,b9,d8,e0,b7⟩:=Yg c6 c9 d4 c7 b8 a6;clear c6 c9 d4 c7 b8 a6 hp hq hF a4 hT hU ok c8 hl c1;obtain⟨r,hr⟩:∃r,Qeq (Qaa T) (Qaa U)=r:=⟨_,rfl⟩;have HR:=hY hr;rw[hr];clear hr;by_cases a7:p=q
 ·obtain rfl:r=true:=by rw [←HR.o];exact b7.o a7
  subst a7;clear b5;go_in;go_wp2_with fail;generalize a2:World.alloc (World.alloc _ _) _=W0;obtain⟨a3,e4,b4,b0⟩:=Qas w _ _ _ _ W0 a2;clear a2;refine(QyT W0 p).mono ?_;rintro e w1 ⟨rfl,hx⟩;go_wp2_with fail;go_ret;exact⟨rfl,a3.trans hx⟩
 have hd:decide (p=q)=false:=ej a7;rw[hd]at b5;clear hd;go_in;go_wp2_with fail;generalize a2:World.alloc (World.alloc _ _) _=W0;obtain⟨a3,e4,b4,b0⟩:=Qas w _ _ _ _ W0 a2;clear a2;refine(b5.o _ a3).mono ?_;rintro e w1 ⟨rfl,a5⟩;have a0:=hY (a3.trans a5);have d5:=b4.ext a5;have c0:=b0.ext a5;have I:=hY (show ∀W,Ext w1 W->W.cell? ⟨w.heap.size,0,none⟩=some (.pointer p)/\W.cell? ⟨w.heap.size+1,0,none⟩=some (.pointer q) fromλW Z=>⟨(d5.ext Z).cell 0,(c0.ext Z).cell 0⟩);clear a3 a5 b4 b0 d5 c0;by_cases a1:(Qaa T).length=(Qaa U).length
 ·have d7:((Qaa U).length:Int)=((Qaa U).length:Int):=rfl
  rw[a1]at a9;go_wp2_with fail;refine eA (S:=(λw'=>Ext w1 w')) kM (((fI w1).drew)) (λhHeld=>?_);refine Qaf 0 (some 8) I hHeld ?_;refine Qaf 2 (some 10) I hHeld ?_;refine Qac (i:=1) kM rfl (by rfl) (λK N=>?_);go_simp
  (refine(a9.o _ (a0.o.trans hHeld)).mono ?_;rintro e wa ⟨rfl,b6⟩)
  refine N.out _ _ (hHeld.trans b6) (λhHeld=>?_);clear N K
  try go_frame
  refine Qac (i:=3) kM rfl (by rfl) (λK N=>?_);go_simp
  (refine(b9.o _ (a0.o.trans hHeld)).mono ?_;rintro e wb ⟨rfl,b3⟩)
  refine N.out _ _ (hHeld.trans b3) (λhHeld=>?_);clear N K
  try go_frame
  refine Qaf 4 (some 12) I hHeld ?_;refine Qaf 5 (some 13) I hHeld ?_;refine Qaf 6 (some 14) I hHeld ?_;refine Qaf 8 (some 16) I hHeld ?_;refine Qac (i:=7) kM rfl (by rfl) (λK N=>?_);go_simp
  (refine(d8.o _ (a0.o.trans hHeld)).mono ?_;rintro e wc ⟨sc,yc,rfl,d0,d3,e3⟩;have e1:=hY d0;have e2:=hY d3;clear d0 d3)
  refine N.out _ _ (hHeld.trans e3) (λhHeld=>?_);clear N K
  try go_frame
  refine Qac (i:=9) kM rfl (by rfl) (λK N=>?_);go_simp
  (refine(e0.o _ (a0.o.trans hHeld)).mono ?_;rintro e we ⟨se,ye,rfl,c3,c4,c2⟩;have a8:=QzD ((e2.o.es.mono (G:=Lt wc.heap.size) λi hi=>hi.2).ext c2) (c4.es.mono (G:=Lt we.heap.size) λi hi=>hi.2);rw[c3,e1.o,HR.o]at a8;have e6:=hY a8;clear c3 c4 a8)
  refine N.out _ _ (hHeld.trans c2) (λhHeld=>?_);clear N K
  try go_frame
  refine Qac (i:=10) kM rfl (by rfl) (λK N=>?_);go_simp
  (refine e6.o.mono ?_;rintro e wf ⟨rfl,d6⟩)
  refine N.out _ _ (hHeld.trans d6) (λhHeld=>?_);clear N K
  try go_frame
  refine Qaf 11 (some 19) I hHeld ?_;refine Qaf 12 (some 4) I hHeld ?_;refine eF kM ?_ _;have HX:=hY (a0.o.trans hHeld);clear hHeld;go_wp2_with fail;go_ret;exact⟨rfl,HX.o⟩
 obtain rfl:r=false:=by rw[<-HR.o];exact Qsl a1
 have d7:(((Qaa T).length:Int) ==((Qaa U).length:Int))=false:=ev.2 oM;clear a1;go_wp2_with fail;refine eA (S:=(λw'=>Ext w1 w')) kM (((fI w1).drew)) (λhHeld=>?_);refine Qaf 0 (some 8) I hHeld ?_;refine Qaf 2 (some 10) I hHeld ?_;refine Qac (i:=1) kM rfl (by rfl) (λK N=>?_);go_simp
 (refine(a9.o _ (a0.o.trans hHeld)).mono ?_;rintro e wa ⟨rfl,b6⟩)
 refine N.out _ _ (hHeld.trans b6) (λhHeld=>?_);clear N K
 try go_frame
 refine Qac (i:=3) kM rfl (by rfl) (λK N=>?_);go_simp
 (refine(b9.o _ (a0.o.trans hHeld)).mono ?_;rintro e wb ⟨rfl,b3⟩)
 refine N.out _ _ (hHeld.trans b3) (λhHeld=>?_);clear N K
 try go_frame
 refine Qaf 4 (some 12) I hHeld ?_;refine Qaf 5 (some 13) I hHeld ?_;refine QfN 6 (some 14) hHeld ?_;refine QfN 7 (some 15) hHeld ?_;refine QfN 8 (some 16) hHeld ?_;refine QfN 9 (some 17) hHeld ?_;refine QfN 10 (some 18) hHeld ?_;refine Qaf 11 (some 19) I hHeld ?_;refine Qaf 12 (some 4) I hHeld ?_;refine eF kM ?_ _;have HX:=hY (a0.o.trans hHeld);clear hHeld;go_wp2_with fail;go_ret;exact⟨rfl,HX.o⟩
end
variable{w0 w w':World}{n:Nat}{s:Sl}
theorem QyG(h:Nw w0 w)(k:w.grownBy w' (Value.slice s.a n s.c).ownBlock)(N:∀b,s.row=some b->w0.heap.size<=b):Nw w0 w':=
 h.comp (G:=λb=>s.row=some b) ⟨k.os,k.tape,k.output,k.size,λi hi I=>k.block i hi λe=>I (by obtain⟨a,c⟩:=s;cases a<;>simp_all [Value.ownBlock,Sl.row])⟩ λi hi e=>by have:=N i e;omega
variable{P:Program}
theorem Qy2(t e:TypeId){i:TypeInfo}{size:Nat}(N:P.underlying t=some (.slice e))(hi:P.info? e=some i)(Z:i.size=size)(s:Sl)(n l:Nat)(hn:l<=n) :
  (Instr.sliceAt t (.slice s.a n s.c) (some (.int .i64 (l:Int))) none none).run P w=.ok (.slice (if s.c=l then s.a else s.a.map (·.add (l*size))) (n-l) (s.c-l)) w:=by
 have I:P.elem t=e:=by simp[Program.elem,N]
 have hs:(Go.sizeOf e).run P w=.ok size w:=by simp[Go.sizeOf,typeInfo,hi,Z]
 have hr:=Go.run_slice_l (P:=P) (w:=w) t s.a n s.c (by rw[I];exact N) .i64 (l:Int) oM oM;rw[I,hs]at hr;simp[Instr.sliceAt,run_underlying N,hr,Result.andThen,sliced]
theorem partsL{s0 sa:Sl}{l:List LE}{ms:List Nm}{k:Int}(hs:ES w (Lt w) s0 l)(hc:∀x∈l,QcI x.v<=1100000)(hm:Qa7 w (Lt w) sa ms)(ht:Qcc (Qe6 ms)<=1048576)(hk:(Lit.int .i64 k).wf=true)(hL:Qb4 w) :
  Calls prog 8 #[.slice s0.a l.length s0.c,.slice sa.a ms.length sa.c,.int .i64 k] w λe w'=>e=.returned (.bool true)/\Nw w w':=by
 obtain⟨iN,s9,t7,q4,v8⟩:=eE Tryz.Qcz;have t3:=hL.lib.big;obtain⟨c7,HL,HS,HC,HM,HT⟩:=Yg (λW (Z:Nw w W)=>Qpz (hL.nw Z)) hL hs hc hm ht;clear hL hs hc hm ht hk;go_in;by_cases r5:60<l.length\/40<ms.length\/k<0\/(ms.length:Int)<k
 ·by_cases g1:60<l.length
  ·have l1:decide ((60:Int)<(l.length:Int))=true:=em oM
   go_wp2_with fail;refine(c7.o w (fM _ _)).mono ?_;rintro e w1 ⟨rfl,hn⟩;have HN:=hY hn;clear hn;go_wp2_with fail;go_ret;exact⟨rfl,HN.o⟩
  have l1:decide ((60:Int)<(l.length:Int))=false:=ej oM;by_cases g2:40<ms.length
  ·have l2:decide ((40:Int)<(ms.length:Int))=true:=em oM
   go_wp2_with fail;refine(c7.o w (fM _ _)).mono ?_;rintro e w1 ⟨rfl,hn⟩;have HN:=hY hn;clear hn;go_wp2_with fail;go_ret;exact⟨rfl,HN.o⟩
  have l2:decide ((40:Int)<(ms.length:Int))=false:=ej oM;by_cases g3:k<0
  ·have l3:decide (k<0)=true:=em g3
   go_wp2_with fail;refine(c7.o w (fM _ _)).mono ?_;rintro e w1 ⟨rfl,hn⟩;have HN:=hY hn;clear hn;go_wp2_with fail;go_ret;exact⟨rfl,HN.o⟩
  have l3:decide (k<0)=false:=ej g3;have l4:decide ((ms.length:Int)<k)=true:=em oM;go_wp2_with fail;refine(c7.o w (fM _ _)).mono ?_;rintro e w1 ⟨rfl,hn⟩;have HN:=hY hn;clear hn;go_wp2_with fail;go_ret;exact⟨rfl,HN.o⟩
 obtain⟨k,rfl⟩:=Int.eq_ofNat_of_zero_le (show 0<=k by omega);have g1:l.length<=60:=oM
 have g2:ms.length<=40:=oM
 have g4:k<=ms.length:=oM
 have l1:decide ((60:Int)<(l.length:Int))=false:=ej oM;have l2:decide ((40:Int)<(ms.length:Int))=false:=ej oM;have l3:decide ((k:Int)<0)=false:=ej oM;have l4:decide ((ms.length:Int)<(k:Int))=false:=ej oM;clear r5;go_wp2_with fail;refine(Qwq HS.o oM HC.o).mono ?_;rintro e w1 ⟨M,s,xs,H,rfl,d0⟩;obtain⟨E,l5,r6,l6,t9,a8⟩:=Qxn d0 HS.o oM;obtain⟨l7,f9,o1⟩:=Yc d0.nw l5 a8;clear d0 l5 a8 l6 l1 l2 l3 l4;go_wp2_with fail;refine o1.o.mono ?_;rintro e w2 ⟨T1,p1,rfl,n6,k9,q0,o7,g8⟩;have z2:=g8.size;have z1:=l7.o.size;obtain⟨d7,g0,a3,r4,r9⟩:=Yf n6 k9 q0 o7 g8;clear n6 k9 q0 o7 g8 o1 HS HC;go_upto_region 5 with fail;generalize a1:World.alloc w2 _=w3;obtain⟨i1,p9,v6⟩:=Qb2 a1;have f2:=fJ i1;have i8:Nw w w3:=l7.o.trans ((fJ r9.o).trans f2);have j8:IsT w3 (In w1.heap.size w2.heap.size) T1:=r4.o.agree (fN f2 λb I=>I.2);obtain⟨c8,p3,x0⟩:=Yc i8 j8 p9;obtain⟨E2,o0⟩:∃E2,(QbD ((Qe6 ms).take k) E).2=E2:=⟨_,rfl⟩;obtain⟨g5,e4⟩:=Yb o0 (show ∀W,Nw w3 W->Qa7 W (Lt W) sa ms fromλW Z=>HM.o.nw (i8.trans Z));have o6:=hY (show ∀W,Nw w3 W->Calls prog 18 #[.agg #[.pointer p1],.slice sa.a k sa.c] W λe w'=>∃T p,e=.returned (.agg #[.pointer p])/\QaK T=.pointer p/\OkR T/\Qaa T=E2/\OkM E2/\IsT w' (λb=>w1<=b/\(b<w2\/W<=b)/\b<w') T/\Nw W w' fromλW Z=>by
  have hz:=Z.size;have b0:(ms.take k).length=k:=by rw[av];omega
  have b3:Qe6 (ms.take k)=(Qe6 ms).take k:=cE;have t2:Qey W (In w1.heap.size w2.heap.size) (Lt W) T1 sa (ms.take k):=
   ⟨j8.agree (fN Z λb I=>by have:=I.2;omega),λb I=>⟨by have:=I.1;omega,by have:=I.2;omega⟩,g0.o,by rw[a3.o];exact f9.o,(e4.o W Z).take g4,λb I=>I,HL.o.nw (i8.trans Z),by rw[a3.o,b0];omega,by
     have h1:=Qwy (Qe6 ms) k;have h2:=HT.o;rw[b3];omega⟩
  have h:=Qhv t2;rw[Qao,d7.o,b0,b3,a3.o,o0]at h;refine h.mono ?_;rintro e w' ⟨T,rfl,h1,h2,h3,h4,h5,-⟩;obtain⟨p,hp⟩:=Qaj T;have t8:=h5.size;exact⟨T,p,by rw[Qao,hp],hp,h1,h3,by rw[<-h3];exact h4,h2.mono λb I=>I.elim (λe=>⟨e.1,.inl e.2,by have:=e.2;omega⟩) λe=>⟨by have:=e.1;omega,.inr e.1,e.2⟩,h5⟩)
 have t4:w3.heap.size<=w3.drew.heap.size:=ao _;have t5:w3.drew.heap.size<=w3.heap.size:=ao _;have b5:=hY (show ∀W,Nw w3 W->W.cell? ⟨w2,0,none⟩=some (.pointer p1) fromλW Z=>(fW Z p9).cell 0);have t6:k<=sa.c:=HM.o.caps g4;have c1:¬((k:Int)<0):=oM
 have c2:¬((sa.c:Int)<(k:Int)):=oM
 refine Qss (λw' b _=>QtY E2 w1.heap.size w' b/\OkM E2/\Nw w3 w') [40,41,42,43,44] (λb _=>[(10,.pointer (some ⟨b,0,none⟩))]) ?_ ?_
 ·skip
  refine eA (S:=(λw'=>Nw w3 w')) kM ((fJ ((fI w3).drew))) (λhHeld=>?_);refine Qaf 0 (some 40) b5 hHeld ?_;refine Qaf 1 (some 41) b5 hHeld ?_;refine Qaf 2 (some 42) b5 hHeld ?_;refine Qaf 3 (some 43) b5 hHeld ?_;have pm:=Tag.mk 0;have pa:=Tag.mk 1000
  repeat' (first
   |(have:=(pm:Tag 0);have:=(pa:Tag 1000);refine Quj 4 5 (λK tg hK=>?_) (λK tg hK=>?_))
   |(have:=(pm:Tag 0);have:=(pa:Tag 1001);refine Qrr 5 (λK tg hK=>?_))
   |(have:=(pm:Tag 1);have:=(pa:Tag 1000);refine Qrr 4 (λK tg hK=>?_))
   |(have:=(pm:Tag 1);have:=(pa:Tag 1001);refine Qrr 6 (λK tg hK=>?_))
   | (have:=(tg:Tag 4)
      clear this tg;clear pa;have pa:=Tag.mk 1001;go_simp
      (have s7:=hHeld.size;refine(o6.o _ hHeld).mono ?_;rintro e wc ⟨T,p,rfl,hp,ok,he,hE,hT,i5⟩;have zc:=i5.size;have d6:=hY hT;(try(have d3:=hY (i5.blk d3.o);have c6:World.cell? _ ⟨_,0,none⟩=some (.pointer none):=d3.o.cell 0;have f6:=d3.o.frozen 0));clear hT)
      refine hK.out _ _ (hHeld.trans i5) (λhHeld=>?_);clear hK K
      try go_frame)
   | (have:=(tg:Tag 5)
      clear this tg;clear pm;have pm:=Tag.mk 1;go_simp
      (have s8:=hHeld.size;generalize p5:World.alloc _ _=wz;obtain⟨i4,e3,zz⟩:=Qb2 p5;have zd:wz.heap.size<=wz.drew.heap.size:=ao _;have d3:=hY e3;have c6:World.cell? _ ⟨_,0,none⟩=some (.pointer none):=e3.cell 0;have f6:=e3.frozen 0;(try(have d6:=hY (d6.o.agree (i4.agree λb I=>I.2.2))));clear p5 e3)
      refine hK.out _ _ ((by first|exact hHeld.trans (fJ i4)|exact(fJ i4).trans (fJ ((fI wz).drew)))) (λhHeld=>?_);clear hK K
      try go_frame)
   | (have:=(tg:Tag 6)
      clear this tg;clear pm;have pm:=Tag.mk 2;go_simp
      (have HN:=hY hHeld)
      refine hK.out _ _ (QpW hHeld oM _) (λhHeld=>?_);clear hK K
      try go_frame)
   | (have:=(pm:Tag 2);have:=(pa:Tag 1001);refine eF kM ?_ _
      simp only[QnK,List.map_cons,List.map_nil,List.cons_append,List.nil_append,List.setIfInBounds_toArray,List.set_cons_zero,List.set_cons_succ];refine QrX ⟨_,.bool true,⟨Qq6 hp ok he d6.o d3.o oM (λi hi=>⟨hi.1,by have:=hi.2;omega,by have:=hi.2;omega⟩),hE,hHeld⟩,kM,?_⟩;simp only[QnK,List.map_cons,List.map_nil,List.cons_append,List.nil_append,List.setIfInBounds_toArray,List.set_cons_zero,List.set_cons_succ]
      kernel_rfl))
 intro w4 b4 u4 vs r1;simp only[QnK,List.map_cons,List.map_nil,List.cons_append,List.nil_append,List.setIfInBounds_toArray,List.set_cons_zero,List.set_cons_succ];obtain⟨⟨T2,p2,k1,k6,l9,o5,c9,v5⟩,f4,a7⟩:=r1;have z4:=a7.size;obtain⟨j1,q5,a6,p4,d6,v7,a4⟩:=Yh k1 k6 l9 f4 o5 c9 a7;have b3:Qe6 (ms.take k)=(Qe6 ms).take k:=cE;have g6:Qe6 (ms.drop k)=(Qe6 ms).drop k:=cp;have b0:(ms.take k).length=k:=by rw[av];omega
 have i6:(ms.drop k).length=ms.length-k:=aw;have f8:∀W,Nw w4 W->Qey W (In w1.heap.size w2.heap.size) (Lt W) T1 sa (ms.take k):=λW Z=>by
  have a1:=a7.trans Z;have hz:=a1.size;exact⟨p3.o.agree (fN a1 λb I=>by have:=I.2;omega),λb I=>⟨by have:=I.1;omega,by have:=I.2;omega⟩,g0.o,by rw[a3.o];exact f9.o,(e4.o W a1).take g4,λb I=>I,HL.o.nw (c8.o.trans a1),by rw[a3.o,b0];omega,by
    have h1:=Qwy (Qe6 ms) k;have h2:=HT.o;rw[b3];omega⟩
 have f0:=hY (show ∀W,Nw w4 W->Calls prog 20 #[.agg #[.pointer p1],.slice sa.a k sa.c] W λe w'=>∃sc:Sl,e=.returned (.slice sc.a k sc.c)/\w'.ownsRow W.heap.size 71 1 (.slice sc.a k sc.c) k ((QbD ((Qe6 ms).take k) E).1.map (.int .i64))/\Nw W w' fromλW Z=>by
  have h:=QwL (f8 W Z) oM;rw[Qao,d7.o,b0,b3,a3.o]at h;exact h)
 obtain⟨a2,k8⟩:=Yb (λW (Z:Nw w4 W)=>b5.o W (a7.trans Z)) (show ∀W,Nw w4 W->W.cell? ⟨b4,0,none⟩=some (.pointer p2) fromλW Z=>(fW Z c9).cell 0);clear k1 k6 l9 o5 c9 f4 f8 b5 o6;go_upto_region 6 with fail;refine eA (S:=(λw'=>Nw w4 w')) kM ((fJ ((fI w4).drew))) (λhHeld=>?_);refine Qaf 0 (some 45) a2 hHeld ?_;refine Qaf 1 (some 46) a2 hHeld ?_;refine Qaf 2 (some 47) a2 hHeld ?_;refine Qaf 3 (some 48) a2 hHeld ?_;refine Qac (i:=4) kM rfl (by rfl) (λK hK=>?_);go_simp
 (refine(f0.o _ hHeld).mono ?_;rintro e w5 ⟨sc,rfl,a0,k0⟩;have b8:=hY a0;have q6:=hY k0;have j5:=hY hHeld.size;clear a0 k0)
 refine hK.out _ _ (hHeld.trans q6.o) (λhHeld=>?_);clear hK K
 try go_frame
 refine Qaf 5 (some 11) a2 hHeld ?_;refine eF kM ?_ _;have q3:=hY hHeld;have a0:w5.ownsRow w4.heap.size 71 1 (.slice sc.a k sc.c) k ((QbD ((Qe6 ms).take k) E).1.map (.int .i64)):=QiO b8.o j5.o;obtain⟨k2,f5,j7⟩:=Yc a0 (λW (_:Nw w4 W) (k5:Nw w5 W)=>Qab (F:=Lt w5) a0 (fN k5 λb I=>I) λb I=>(Qad a0 I).2) (show ∀b,sc.row=some b->w4.heap.size<=b fromλb I=>(Qad a0 I).1);obtain⟨sd,e0⟩:∃sd:Sl,sd=⟨if sa.c=k then sa.a else sa.a.map (·.add (k*20)),sa.c-k⟩:=⟨_,rfl⟩;have k4:∀W,Nw w4 W->Qa7 W (Lt W) sd (ms.drop k):=λW Z=>(e4.o W (a4.o.trans Z)).drop g4 (by rw[e0]) (by rw[e0])
 have d4:∀W,Nw w4 W->Qey W (λb=>w1<=b/\b<w4/\b≠b4) (Lt W) T2 sd (ms.drop k):=λW Z=>by
  have hz:=Z.size;refine⟨d6.o.agree (fN Z λb I=>I.2.1),λb I=>⟨by have:=I.1;omega,by have:=I.2.1;omega⟩,q5.o,by rw[a6.o];exact p4.o,k4 W Z,λb I=>I,HL.o.nw (c8.o.trans (a4.o.trans Z)),?_,?_⟩
  ·have h1:=QeN (Qe6 ms) E k
   rw[a6.o,<-g5.o,i6];omega
  have h1:=Qw0 (Qe6 ms) k;have h2:=HT.o;rw[g6];omega
 have e7:=hY (show ∀W,Nw w4 W->Calls prog 20 #[.agg #[.pointer p2],.slice sd.a (ms.length-k) sd.c] W λe w'=>∃sv:Sl,e=.returned (.slice sv.a (ms.length-k) sv.c)/\w'.ownsRow W.heap.size 71 1 (.slice sv.a (ms.length-k) sv.c) (ms.length-k) ((QbD ((Qe6 ms).drop k) E2).1.map (.int .i64))/\Nw W w' fromλW Z=>by
  have h:=QwL (d4 W Z) oM;rw[Qao,j1.o,i6,g6,a6.o]at h;exact h)
 have k3:=hY d4;have e6:=hY (show ∀W,(Instr.sliceAt 23 (.slice sa.a ms.length sa.c) (some (.int .i64 (k:Int))) none none).run prog W=.ok (.slice sd.a (ms.length-k) sd.c) W fromλW=>by
  rw[e0];exact Qy2 23 39 underlying23 s9 q4 sa ms.length k g4)
 have N:=hY (λW (Z:Nw w4 W)=>And.intro (a2.o W Z) (k8.o W Z));have c3:(0:Int)<=(k:Int):=oM
 have c4:(k:Int)<=(ms.length:Int):=oM
 clear a0 k4 d4 e0 b3 g6 b0 i6;go_upto_region 7 with fail;refine eA (S:=(λw'=>Nw w4 w')) kM ((q3.o.trans (fJ ((fI w5).drew)))) (λhHeld=>?_);refine Qaf 0 (some 50) N hHeld ?_;refine Qaf 1 (some 51) N hHeld ?_;refine Qaf 2 (some 52) N hHeld ?_;refine Qaf 3 (some 53) N hHeld ?_;refine Qk8 (i:=4) (d:=some 54) (v:=.slice sd.a (ms.length-k) sd.c) rfl rfl kM kM kM (λ_ _ _ h=>h) (by rfl) hHeld (λW _=>by simp[execOp,Act.eval,e6.o W,Result.andThen]) ?_
 try go_frame
 refine Qac (i:=5) kM rfl (by rfl) (λK hK=>?_);go_simp
 (refine(e7.o _ hHeld).mono ?_;have r7:=hY hHeld.size;rintro e w6 ⟨sv,rfl,b9,o9⟩;have b6:=hY b9;have g7:=hY o9;clear b9 o9)
 refine hK.out _ _ (hHeld.trans g7.o) (λhHeld=>?_);clear hK K
 try go_frame
 refine Qac (i:=6) kM rfl (by rfl) (λK hK=>?_)
 skip
 refine Qx7 (.tmp 50) (.tmp 55) rfl (some 56) rfl w4.heap.size w4.heap.size sc sv k (ms.length-k) _ _ rfl rfl (f5.o _ hHeld (by first|exact g7.o|exact(fJ ((fI w5).drew)).trans g7.o)) (QiO b6.o r7.o) oM hHeld.size (λu hu=>by obtain⟨x,-,rfl⟩:=bW.1 hu;rfl) ?_;intro sz w7 b7 f3;obtain⟨n9,n2⟩:=Yb b7 f3;clear b7 f3;refine hK.out _ _ (QyG hHeld n2.o j7.o) (λhHeld=>?_);clear hK K
 try go_frame
 refine Qaf 7 (some 11) N hHeld ?_;refine eF kM ?_ _;have a5:=hHeld;have z7:=a5.size;have n4:(QbD (Qe6 ms) E).1=(QbD ((Qe6 ms).take k) E).1++(QbD ((Qe6 ms).drop k) E2).1:=by
  have h:=Qxd ((Qe6 ms).take k) ((Qe6 ms).drop k) E;rw[aV,g5.o]at h;rw[h]
 have o2:(QbD (Qe6 ms) E).2=(QbD ((Qe6 ms).drop k) E2).2:=by
  have h:=Qxd ((Qe6 ms).take k) ((Qe6 ms).drop k) E;rw[aV,g5.o]at h;rw[h]
 obtain⟨cs,d8⟩:∃c,(QbD (Qe6 ms) E).1=c:=⟨_,rfl⟩;have v9:cs.length=ms.length:=by
  have:=QgA (Qe6 ms) E ms.length (by rw[aq];exact ao _);rwa[aO (by rw[aq];exact ao _),d8]at this
 have c0:=fP n9.o;rw[<-aC,<-n4,d8,show k+(ms.length-k)=ms.length by omega]at c0;obtain⟨p8,j9⟩:=Yb (show Rd w7 (Lt w7) 1 sz ms.length (cs.map (.int .i64))from c0.mono λb I=>I.2) a5;have d5:∀W,Nw w4 W->Qey W (In w1.heap.size w2.heap.size) (Lt W) T1 sa ms:=λW Z=>by
  have a1:=a4.o.trans Z;have hz:=a1.size;exact⟨p3.o.agree (fN a1 λb I=>by have:=I.2;omega),λb I=>⟨by have:=I.1;omega,by have:=I.2;omega⟩,g0.o,by rw[a3.o];exact f9.o,e4.o W a1,λb I=>I,HL.o.nw (c8.o.trans a1),by rw[a3.o];omega,by have:=HT.o;omega⟩
 have f7:=hY (show Calls prog 20 #[.agg #[.pointer p1],.slice sa.a ms.length sa.c] w7 λe w'=>∃sc:Sl,e=.returned (.slice sc.a ms.length sc.c)/\Rd w' (Lt w') 1 sc ms.length (cs.map (.int .i64))/\Nw w7 w' from by
  have h:=Qgp (d5 w7 a5) oM;rw[Qao,d7.o,a3.o,d8]at h;exact h.mono λe w' ⟨sc,h1,h2,h3⟩=>⟨sc,h1,h2.mono λb I=>I.2,h3⟩)
 have r0:=hY (show ∀W,Nw w4 W->Calls prog 18 #[.agg #[.pointer p1],.slice sa.a ms.length sa.c] W λe w'=>∃T p,e=.returned (.agg #[.pointer p])/\QaK T=.pointer p/\OkR T/\Qaa T=(QbD (Qe6 ms) E).2/\IsT w' (Lt w') T/\Nw W w' fromλW Z=>by
  have h:=Qhv (d5 W Z);rw[Qao,d7.o,a3.o]at h;refine h.mono ?_;rintro e w' ⟨T,rfl,h1,h2,h3,h4,h5,-⟩;obtain⟨p,hp⟩:=Qaj T;exact⟨T,p,by rw[Qao,hp],hp,h1,h3,h2.mono λb I=>I.elim (λe=>by have:=e.2;have:=(a4.o.trans Z).size;have:=h5.size;show b<_;omega) λe=>e.2,h5⟩)
 have r3:=hY (show ∀W,Nw w4 W->Calls prog 18 #[.agg #[.pointer p2],.slice sd.a (ms.length-k) sd.c] W λe w'=>∃T p,e=.returned (.agg #[.pointer p])/\QaK T=.pointer p/\OkR T/\Qaa T=(QbD (Qe6 ms) E).2/\IsT w' (Lt w') T/\Nw W w' fromλW Z=>by
  have h:=Qhv (k3.o W Z);rw[Qao,j1.o,a6.o,aw,show Qe6 (ms.drop k)=(Qe6 ms).drop k from cp,<-o2]at h;refine h.mono ?_;rintro e w' ⟨T,rfl,h1,h2,h3,h4,h5,-⟩;obtain⟨p,hp⟩:=Qaj T;exact⟨T,p,by rw[Qao,hp],hp,h1,h3,h2.mono λb I=>I.elim (λe=>by have:=e.2.1;have:=Z.size;have:=h5.size;show b<_;omega) λe=>e.2,h5⟩)
 have r6:(QbD (Qe6 ms) E).2.length<=2700:=by
  have:=QeN (Qe6 ms) E ms.length;rw[aO (by rw[aq];exact ao _)]at this;omega
 have g9:=hY (show ∀W T U p q,QaK T=.pointer p->QaK U=.pointer q->OkR T->OkR U->Qaa T=(QbD (Qe6 ms) E).2->Qaa U=(QbD (Qe6 ms) E).2->IsT W (Lt W) T->IsT W (Lt W) U->Calls prog 26 #[.agg #[.pointer p],.agg #[.pointer q]] W λe w'=>e=.returned (.bool true)/\Ext W w' fromλW T U p q hp hq ok q2 he p0 hT hU=>by
  have h:=treeSame_any (λb I=>I) (λb I=>I) hT hU ok q2 (by rw[he];omega) (by rw[p0];omega);rw[Qao,Qao,hp,hq,he,p0,QhK]at h;exact h)
 have q9:w7.cell? ⟨w2,0,none⟩=some (.pointer p1):=a2.o w7 a5;clear a5 n4 o2 c0 d8 d5 f0 e7 b8 k2 f5 n9 n2 b6;go_wp2_with fail;refine f7.o.mono ?_;rintro e w8 ⟨sA,rfl,e8,a9⟩;obtain⟨j2,f1,p6⟩:=Yc e8 ((p8.o.agree (fN a9 λb I=>I)).mono (G:=Lt w8) λb I=>ab I a9.size) (j9.o.trans a9);clear e8 a9 f7 q9;go_wp2_with fail;go_loopw[13] (λv wr=>∃j:Nat,v=.int .i64 (j:Int)/\j<=ms.length/\Yd (Ext w8 wr)) (λv _=>ms.length -(intOf v).toNat)
 case atStart=>exact⟨0,rfl,aA _,hY (fI _)⟩
 obtain⟨j,rfl,hj,HX⟩:=hrel;by_cases s4:j<ms.length
 ·have l1:(j:Int)<(ms.length:Int):=oM
  have x1:decide ((j:Int)<(ms.length:Int))=true:=em l1;have l0:(0:Int)<=(j:Int):=oM
  obtain⟨x,hx⟩:∃x,cs[j]? = some x:=⟨_,ac oM⟩;obtain⟨b,o,hs,-,hc⟩:=f1.o;obtain⟨b',o',i3,-,p7⟩:=j2.o;obtain⟨j6,-,-⟩:=hs.eq oM;obtain⟨o3,-,-⟩:=i3.eq oM;have e1:wr.cell? ⟨b,o+j,none⟩=some (.int .i64 x):=(HX.o.cell (hs.fits oM)).trans (hc j _ (by rw[au,hx];rfl));have e2:wr.cell? ⟨b',o'+j,none⟩=some (.int .i64 x):=(HX.o.cell (i3.fits oM)).trans (p7 j _ (by rw[au,hx];rfl));rw[j6,o3];clear hx hs hc i3 p7 j6 o3;go_wp2_with fail;go_quiet (fail);have n8:=HX.o.drewN nq;clear e1 e2;generalize wr.drewN nq=wq at *;have t0:=hY n8;have g:(x != x)=false:=sM
  clear n8;go_wp2_with fail;go_roundw
  case measure=>simp[intOf];omega
  exact⟨j+1,by go_num,s4,t0⟩
 obtain rfl:j=ms.length:=oM
 have l1:decide ((ms.length:Int)<(ms.length:Int))=false:=ej oM;have q1:=hY (p6.o.trans (fJ HX.o));clear f1 j2 p8;go_upto_region 16 with fail;refine eA (S:=(λw'=>Nw w4 w')) kM ((q1.o.trans (fJ ((fI wr).drew)))) (λhHeld=>?_);refine Qaf 0 (some 80) N hHeld ?_;refine Qaf 1 (some 81) N hHeld ?_;refine Qaf 3 (some 83) N hHeld ?_;refine Qaf 4 (some 84) N hHeld ?_;refine Qaf 5 (some 85) N hHeld ?_;refine Qk8 (i:=6) (d:=some 86) (v:=.slice sd.a (ms.length-k) sd.c) rfl rfl kM kM kM (λ_ _ _ h=>h) (by rfl) hHeld (λW _=>by simp[execOp,Act.eval,e6.o W,Result.andThen]) ?_
 try go_frame
 refine Qac (i:=2) kM rfl (by rfl) (λK hK=>?_);go_simp
 (refine(r0.o _ hHeld).mono ?_;rintro e v1 ⟨TA,pA,rfl,n7,j3,i9,j4,r2⟩;have i0:=hY (And.intro n7 (And.intro j3 i9));have t1:=hY j4;clear n7 j3 i9 j4)
 refine hK.out _ _ (hHeld.trans r2) (λhHeld=>?_);clear hK K
 try go_frame
 refine Qac (i:=7) kM rfl (by rfl) (λK hK=>?_);go_simp
 (refine(r3.o _ hHeld).mono ?_;rintro e v2 ⟨TB,pB,rfl,o8,o4,k7,j0,i2⟩;have i7:=hY (And.intro o8 (And.intro o4 k7));have q8:=hY j0;have l8:=hY ((t1.o.agree (fN i2 λb I=>I)).mono (G:=Lt v2) λb I=>ab I i2.size);clear o8 o4 k7 j0)
 refine hK.out _ _ (hHeld.trans i2) (λhHeld=>?_);clear hK K
 try go_frame
 refine Qac (i:=8) kM rfl (by rfl) (λK hK=>?_);go_simp
 (refine(g9.o _ TA TB pA pB i0.o.1 i7.o.1 i0.o.2.1 i7.o.2.1 i0.o.2.2 i7.o.2.2 l8.o q8.o).mono ?_;rintro e v3 ⟨rfl,i1⟩)
 refine hK.out _ _ (hHeld.trans (fJ i1)) (λhHeld=>?_);clear hK K
 try go_frame
 refine Qaf 9 (some 89) N hHeld ?_;refine Qac (i:=10) kM rfl (by rfl) (λK hK=>?_);go_simp
 (refine(c7.o _ ((c8.o.trans a4.o).trans hHeld)).mono ?_;rintro e v4 ⟨rfl,r8⟩)
 refine hK.out _ _ (hHeld.trans r8) (λhHeld=>?_);clear hK K
 try go_frame
 refine Qaf 11 (some 91) N hHeld ?_;refine Qaf 12 (some 6) N hHeld ?_;refine eF kM ?_ _;have q7:=hY ((c8.o.trans a4.o).trans hHeld);go_wp2_with fail;go_ret;exact⟨rfl,q7.o⟩
end Go.Proofs.YtdiecmkpbadgjaaGreatDoor
