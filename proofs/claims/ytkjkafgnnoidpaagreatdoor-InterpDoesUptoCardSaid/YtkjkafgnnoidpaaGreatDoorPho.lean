/- What the theorem needs of the texts Ref12, Begin12, Put13, Start13, Begun13, MovP13, StepP13, Inc13, Add13, Begins13, Mov13, As13, Zero11, Bare11, Key11, Size11, May11, SeqP, Step13: no condition of its own. -/
import Derived.Test.YtkjkafgnnoidpaaGreatDoorPhn
set_option linter.unusedVariables false
set_option linter.unusedSimpArgs false
set_option linter.unnecessarySimpa false
set_option maxRecDepth 100000
set_option maxHeartbeats 4000000
namespace Go.Proofs.YtkjkafgnnoidpaaGreatDoor
open Go.Proofs.Tryz
open Go.RowKit Go.Maps Go.Shelf
def Qt6(H:Nat->Prop)(w:World)(base R M:Nat)(s:Sl)(es:List Ent)(ms:List Nat)(hs:List (List Ent))(k:ByteArray)(v:Val)(e:Ending)(w':World):Prop:=
 (Qbd k≠0/\e=.returned (.int .i64 8)/\Ext w w')\/(Qbd k=0/\Qbw v≠0/\e=.returned (.int .i64 (Qbw v))/\Ext w w')\/
 (Qbd k=0/\Qbw v=0/\e=.returned (.int .i64 0)/\∃(H':Nat->Prop) (s':Sl) (M':Nat),(∀b,H b->H' b)/\(∀b,H' b->H b\/w.heap.size<=b)/\R12 H' w' base R M s' (Qbq es k v) (ms++[M']) (hs++[es])/\St (λb=>b=R\/b=M\/s.row=some b) w w'/\(∀b,s'.row=some b->s.row=some b\/w.heap.size<=b)/\w.heap.size<=M')
variable{s s5 sl so:Sl}
theorem Qnd{H U:Nat->Prop}{w w3 N:World}{base R M:Nat}{es:List Ent}{ms Y:List Nat}{hs X:List (List Ent)}{k:ByteArray}{v:Val}(h:R12 H w base R M s es ms hs)(hv:RV w (NH H w) v sl so)(I:Ext w w3)(a2:∀b,H b->U b)(a0:∀b,U b->H b\/w3<=b)
  (J:R12 U N base R M s5 es Y X) (D:St (λb=>b=R\/s.row=some b) w3 N) (Z:Sorted es) (hc:es.length<=1000000) (hk:k.size<=maxLen) :
  ∀W,Ext N W->Calls prog 16 #[.pointer (some ⟨M,0,none⟩),.string k,Qbg v sl so] W (Qln U M (Qbq es k v) W):=λW hW=>by
 have h3:=I.size;have h5:=D.size;have a1:Agree (NH H w) w N:=λb z=>(D.block b (ab z.1 h3) (λhh=>z.2 (hh.elim (λe=>e▸h.hR) (h.hrow b)))).trans (I.heap z.1)
 have hw:=hW.size;refine Qrv (J.cur.ext hW) (λb z=>ab (J.below b z) hw) Z hc hk (((hv.agree a1).agree (hW.agree λb z=>ab z.1 (al h3 h5))).mono λb z=>⟨by have:=z.1;omega,λhh=>?_⟩);rcases a0 b hh with h1|h1
 .exact z.2 h1
 have:=z.1;omega
variable{H:Nat->Prop}{w:World}{ms:List Nat}{hs:List (List Ent)}
theorem QpA{base R M:Nat}{es:List Ent}(h:R12 H w base R M s es ms hs)(i9:Sorted es)(hc:es.length<=1000000)(hn:hs.length<=1000000){k:ByteArray}(hk:k.size<=maxLen){v:Val}(hv:RV w (NH H w) v sl so)(i8:Qb4 v<=1100000) :
  Calls prog 62 #[.pointer (some ⟨R,0,none⟩),.string k,Qbg v sl so] w (Qt6 H w base R M s es ms hs k v):=by
 obtain⟨i0,hi,g8,j5,j7⟩:=eG Tryz.QoP;have b6:=(fv w).alloc #[.int .i64 v.kind,.bool v.b,.int .i64 v.i,.string v.t,.slice sl.a v.l.length sl.c,.slice so.a v.ok.length so.c] 28;have a5:=fA w 28 #[.int .i64 v.kind,.bool v.b,.int .i64 v.i,.string v.t,.slice sl.a v.l.length sl.c,.slice so.a v.ok.length so.c];have a2:=Qpd (w.alloc (.cells #[.int .i64 v.kind,.bool v.b,.int .i64 v.i,.string v.t,.slice sl.a v.l.length sl.c,.slice so.a v.ok.length so.c] 28)) k hk;have b7:=QmM (w:=w.alloc (.cells #[.int .i64 v.kind,.bool v.b,.int .i64 v.i,.string v.t,.slice sl.a v.l.length sl.c,.slice so.a v.ok.length so.c] 28)) (((hv.mono λb hb=>hb.1).agree (b6.agree λ_ h=>h)).mono λi hi=>ab hi b6.size) i8;generalize i4:w.alloc (.cells #[.int .i64 v.kind,.bool v.b,.int .i64 v.i,.string v.t,.slice sl.a v.l.length sl.c,.slice so.a v.ok.length so.c] 28)=w1 at b6 a5 a2 b7;obtain⟨b0,b1,b2,b3,b4,b5⟩:=a5.c6;have lb:=a5.lt;have e2:=hY b6;have f3:=hY a5;have c8:=hY a2;have c3:=hY b7;have HH:=hY h;have HV:=hY hv;clear b6 a5 a2 b7 h hv;go_in;go_wp2_with fail;clear i4;refine c8.o.mono ?_;rintro e w2 ⟨rfl,j4⟩;obtain rfl:=j4.symm;clear c8;by_cases hm:Qbd k=0
 ·have g0:(Qbd k != 0)=false:=by simpa using hm
  rw[hm];go_wp2_with fail;refine c3.o.mono ?_;rintro e w3 ⟨rfl,d5⟩;have X:=hY (e2.o.trans d5);have g7:=hY (f3.o.ext d5);clear d5 c3 f3 b0 b1 b2 b3 b4 b5 lb;by_cases hf:Qbw v=0
  ·rw [hf]
   have U:=HH.o.ext X.o;have c0:w3.cell? ⟨R,0,none⟩=some (Qdx M):=U.blk.cell 0;have c1:w3.cell? ⟨R,1,none⟩=some (.slice s.a hs.length s.c):=U.blk.cell 1;have lR:=U.blk.lt;have f9:=hY U;have f7:∀b,H b->b<w3.heap.size:=U.below;have a1:=Qjf (w:=w3.drew) (U.cur.ext ((fv w3).drew)) f7 hc;have d8:=hY a1;have e4:∀M':Nat,∀u∈[Qdx M'],u.oneCell'=true:=λM'=>by simp[Value.oneCell']
   have i1:hs.length+1<=maxLen:=by unfold maxLen;omega
   have g9:(hs.length+1)*8<=140737488355328:=by omega
   have N:=hY (show ∀W:World,True->True fromλ_ h=>h);clear U a1;go_wp2_with fail;refine ez (S:=(λ_=>True)) (by kernel_rfl) (trivial) (λhHeld=>?_);refine Qad 0 (some 16) N hHeld ?_;refine Qad 1 (some 17) N hHeld ?_;refine Qad 2 (some 18) N hHeld ?_;refine Qad 3 (some 19) N hHeld ?_;refine Qad 5 (some 21) N hHeld ?_;refine Qad 6 (some 22) N hHeld ?_;refine Qad 7 (some 23) N hHeld ?_;have J:=Tag.mk 0;have pa:=Tag.mk 1000
   repeat' (first
    |(have:=(J:Tag 0);have:=(pa:Tag 1000);refine QfT 4 8 (λK D z=>?_) (λK D z=>?_))
    |(have:=(J:Tag 0);have:=(pa:Tag 1001);refine QcH 8 (λK D z=>?_))
    |(have:=(J:Tag 1);have:=(pa:Tag 1000);refine QfT 4 9 (λK D z=>?_) (λK D z=>?_))
    |(have:=(J:Tag 1);have:=(pa:Tag 1001);refine QcH 9 (λK D z=>?_))
    |(have:=(J:Tag 2);have:=(pa:Tag 1000);refine QfT 4 10 (λK D z=>?_) (λK D z=>?_))
    |(have:=(J:Tag 2);have:=(pa:Tag 1001);refine QcH 10 (λK D z=>?_))
    |(have:=(J:Tag 3);have:=(pa:Tag 1000);refine QcH 4 (λK D z=>?_))
    |(have:=(J:Tag 3);have:=(pa:Tag 1001);refine QcH 11 (λK D z=>?_))
    |(have:=(J:Tag 4);have:=(pa:Tag 1000);refine QcH 4 (λK D z=>?_))
    |(have:=(J:Tag 4);have:=(pa:Tag 1001);refine QcH 14 (λK D z=>?_))
    | (have:=(D:Tag 4)
       clear this D;clear pa;have pa:=Tag.mk 1001;go_simp
       skip
       refine z.out _ _ (trivial) (λhHeld=>?_);clear z K
       try simp only[Act.put,List.setIfInBounds_toArray,List.set_cons_zero,List.set_cons_succ])
    | (have:=(D:Tag 8)
       clear this D;clear J;have J:=Tag.mk 1;go_simp
       skip
       refine z.out _ _ (trivial) (λhHeld=>?_);clear z K
       try simp only[Act.put,List.setIfInBounds_toArray,List.set_cons_zero,List.set_cons_succ])
    | (have:=(D:Tag 9)
       clear this D;clear J;have J:=Tag.mk 2;go_simp
       (refine d8.o.mono ?_;rintro e w4 ⟨M',rfl,f1,c2,e6⟩;have d3:Ext w3 w4:=((fv w3).drew).trans c2;have a9:=f9.o.ext d3;have c0:w4.cell? ⟨R,0,none⟩=some (Qdx M):=a9.blk.cell 0;have c1:w4.cell? ⟨R,1,none⟩=some (.slice s.a hs.length s.c):=a9.blk.cell 1;have i3:=a9.blk.lt;have d0:Ext w4 (w4.alloc (.cells #[Qdx M'] 33)):=(fv w4).alloc _ _;have Z:=hY (a9.ext d0);have c7:=hY (fH (size:=1) (n:=1) (cs:=[Qdx M']) (fA w4 33 #[Qdx M']) (by decide) rfl);have f4:=hY d3;have i6:=hY d0;have g3:=hY e6;have d4:=hY f1;clear c2 d3 a9 d0 e6 f1)
       refine z.out _ _ (trivial) (λhHeld=>?_);clear z K
       try simp only[Act.put,List.setIfInBounds_toArray,List.set_cons_zero,List.set_cons_succ])
    | (have:=(D:Tag 10)
       clear this D;clear J;have J:=Tag.mk 3;go_simp
       skip
       refine z.out _ _ (trivial) (λhHeld=>?_);clear z K
       try simp only[Act.put,List.setIfInBounds_toArray,List.set_cons_zero,List.set_cons_succ])
    | (have:=(D:Tag 11)
       clear this D;clear J;have J:=Tag.mk 4;refine QeH _ (.tmp 20) (.tmp 26) 108 rfl base 33 i0 _ 1 8 underlying108 hi g8 j5 j7 rfl (by decide) s hs.length (ms.map Qdx) (by rfl) Z.o.own (λb=>b=w4.heap.size) ⟨some ⟨w4.heap.size,0,none⟩,1⟩ 1 [Qdx M'] (by rfl) c7.o (e4 M') i1 g9 Z.o.old ?_;intro s5 w5 a3 a6 f2;have g5:=hY a3;have e3:=hY a6;have e1:=hY f2;have a4:Blk w5 R 110 #[Qdx M,.slice s.a hs.length s.c]:=Z.o.blk.agree (a6.agree (F:=λb=>b=R) (λi hi=>by rw[hi];exact Z.o.blk.lt) (λk hk e=>Z.o.QsL (by rw[hk,e]))) rfl;have i7:w5.cell? ⟨R,1,none⟩=some (.slice s.a hs.length s.c):=a4.cell 1;have j2:=a4.lt;have j6:w5.frozen? ⟨R,1,none⟩=false:=a4.frozen 1;have f8:=hY a4;clear a3 a6 f2 a4;refine z.out _ _ (trivial) (λhHeld=>?_);clear z K
       try simp only[Act.put,List.setIfInBounds_toArray,List.set_cons_zero,List.set_cons_succ]
       refine Qad 12 (some 28) N hHeld ?_;refine Qad 13 (some 29) N hHeld ?_)
    | (have:=(D:Tag 14)
       clear this D;clear J;have J:=Tag.mk 5;go_simp
       skip
       refine z.out _ _ (trivial) (λhHeld=>?_);clear z K
       try simp only[Act.put,List.setIfInBounds_toArray,List.set_cons_zero,List.set_cons_succ])
    | (have:=(J:Tag 5);have:=(pa:Tag 1001);refine eE (by kernel_rfl) ?_ _
       obtain⟨H',d6,d7,e0,Y,c9⟩:=R12.step f9.o f4.o d4.o g3.o g5.o e3.o e1.o f8.o;have c4:=Qnd HH.o HV.o X.o d6 d7 e0 Y i9 hc hk;have j0:=hY (Y.blk g7.o (by rintro(e|e);exact absurd (HH.o.below _ (e▸HH.o.hR)) (cQ _);exact absurd (HH.o.below _ (HH.o.hrow _ e)) (cQ _)));have e8:=hY c4;have b8:=hY e0;have g6:=hY (show(∀b,s5.row=some b->s.row=some b\/w.heap.size<=b)/\w.heap.size<=M' from⟨λb hb=>(c9 b hb).imp id (al X.o.size),al X.o.size d4.o⟩);have g4:=hY Y;have i2:=hY d6;have j8:=hY d7;have HM:=hY hm;have HF:=hY hf;clear c9 c4 e0 Y d6 d7 hm hf g5 e3 e1 f8 g3 d4 f4 i6 Z c7 c0 c1 i7 j6 j2 i3 lR;generalize w5.setCell ⟨R,1,none⟩ (.slice s5.a (hs.length+1) s5.c)=W5 at *;have j1:Blk W5 R 110 #[Qdx M,.slice s5.a (hs++[es]).length s5.c]:=b8.o.blk;have e7:Blk W5 w.heap.size 28 (Qlj v sl so):=j0.o;have f6:=hY (And.intro b8.o.QuG (show w.heap.size≠M fromλe=>by obtain⟨v',j3⟩:=b8.o.cur.QrS;exact Qn7 e7 j3 (by decide) e));have a0:=hY (show ∀W,(Blk W R 110 #[Qdx M,.slice s5.a (hs++[es]).length s5.c]/\Blk W w.heap.size 28 (Qlj v sl so))->_ fromλW h=>(⟨h.1.cell 0,h.1.lt,h.2.c6,h.2.lt⟩:W.cell? ⟨R,0,none⟩=some (Qdx M)/\R<W.heap.size/\_/\w.heap.size<W.heap.size));go_wp2_with fail;refine ez (S:=(λW=>Blk W R 110 #[Qdx M,.slice s5.a (hs++[es]).length s5.c]/\Blk W w.heap.size 28 (Qlj v sl so))) (by kernel_rfl) (⟨j1,e7⟩) (λhHeld=>?_);refine Qad 0 (some 30) a0 hHeld ?_;refine Qad 1 (some 31) a0 hHeld ?_;refine Qad 2 (some 32) a0 hHeld ?_;refine Qad 3 (some 33) a0 hHeld ?_;refine Qad 4 (some 34) a0 hHeld ?_;refine Qad 5 (some 35) a0 hHeld ?_;refine Qag (i:=6) (by kernel_rfl) rfl (by rfl) (λK z=>?_);go_simp
       (refine(e8.o _ ((fv W5).drew)).mono ?_;rintro e w8 ⟨⟨r,rfl⟩,f5,I⟩)
       refine z.out _ _ (⟨I.blk hHeld.1 f6.o.1,I.blk hHeld.2 f6.o.2⟩) (λhHeld=>?_);clear z K
       try simp only[Act.put,List.setIfInBounds_toArray,List.set_cons_zero,List.set_cons_succ]
       refine eE (by kernel_rfl) ?_ _;have i5:=hY f5;have f0:=hY I;clear f5 I;go_wp2_with fail;go_ret;have I:St (λb=>b=M) W5 w8:=(((fv W5).drew).st _).trans f0.o;exact .inr (.inr ⟨HM.o,HF.o,rfl,H',s5,M',i2.o,λb hb=>(j8.o b hb).imp id (al X.o.size),b8.o.turned i5.o I,(X.o.st _).trans ((g4.o.mono λi _ hi=>hi.elim .inl λe=>.inr (.inr e)).trans (I.mono λi _ hi=>.inr (.inl hi))),g6.o⟩)))
  have g1:(Qbw v != 0)=true:=by simpa using hf
  have HM:=hY hm;have HF:=hY hf;clear hm hf;go_wp2_with fail;go_ret;exact .inr (.inl ⟨HM.o,HF.o,rfl,X.o⟩)
 have g0:(Qbd k != 0)=true:=by simpa using hm
 have HM:=hY hm;clear hm;go_wp2_with fail;go_ret;exact .inl ⟨HM.o,rfl,e2.o⟩
variable{M0:Nat}
theorem Qky{es:List Ent}(h:MapAt H w M0 es)(hH:∀b,H b->b<w)(hc:es.length<=1000000):Calls prog 61 #[.pointer (some ⟨M0,0,none⟩)] w λe w'=>
  ∃R M,e=.returned (.pointer (some ⟨R,0,none⟩))/\w.heap.size<=R/\w.heap.size<=M/\Ext w w'/\R12 (λb=>(H b\/b=M)\/b=R) w' w.heap.size R M Sl.none es [] []:=by
 have I:=Qjf h hH hc;have a1:=hY I;have HH:=hY hH;clear I h hH;go_in;go_wp2_with fail;refine a1.o.mono ?_;rintro e w1 ⟨M,rfl,hM,Z,D⟩;have U:Ext w1 (w1.alloc (.cells #[.pointer (some ⟨M,0,none⟩),.slice none 0 0] 110)):=(fv w1).alloc _ _;have Y:=fA w1 110 #[.pointer (some ⟨M,0,none⟩),.slice none 0 0];have J:=hY Z;have N:=hY U;have a0:=hY Y;have X:=hY D;have HM:=hY hM;clear Z U Y D hM;go_wp2_with fail;go_ret;have a2:=J.o.size;have a3:M<w1.heap.size:=by obtain⟨v,hv⟩:=X.o.QrS;exact hv.lt
 refine⟨w1,M,rfl,a2,HM.o,J.o.trans N.o,?_⟩;have a5:(w1.alloc (.cells #[.pointer (some ⟨M,0,none⟩),.slice none 0 0] 110)).heap.size=w1.heap.size+1:=ey _ _;refine⟨λb z=>?_,by omega,.inr rfl,λb z=>(by cases z),a0.o,eI _ _ _ _,?_,rfl,List.nodup_nil,λj m a4 hj=>by simp at hj⟩
 ·rcases z with (z | z) | z
  .have:=HH.o b z;omega
  .omega
  omega
 exact(X.o.more (G:=λb=>(H b\/b=M)\/b=w1.heap.size) (λb z=>.inl z) λb z hg=>hg.elim id λe=>by omega).ext N.o
def Qmr(H:Nat->Prop)(w:World)(es:List Ent)(M:Nat)(w':World):Prop:=
 ∃H':Nat->Prop,(∀b,H b->H' b)/\(∀b,H' b->H b\/w.heap.size<=b)/\(∀b,H' b->b<w'.heap.size)/\w.heap.size<=M/\MapAt H' w' M es/\Nw w w'
theorem QpB{es:List Ent}(h:MapAt H w M0 es)(hH:∀b,H b->b<w)(e0:Sorted es)(hc:es.length<=1000000){k:ByteArray}(hk:k.size<=maxLen){v:Val}(hv:RV w (NH H w) v sl so)(d8:Qb4 v<=1100000) :
  Calls prog 37 #[.pointer (some ⟨M0,0,none⟩),.string k,Qbg v sl so] w λe w'=>∃M',e=.returned (.tuple #[.pointer (some ⟨M',0,none⟩),.int .i64 (setMu es k v).1])/\Qmr H w (setMu es k v).2 M' w':=by
 have Y:=(fv w).alloc (Qlj v sl so) 28;have d0:=fA w 28 (Qlj v sl so);have c8:(w.alloc (.cells (Qlj v sl so) 28)).heap.size=w.heap.size+1:=ey _ _;have c4:=Qky (h.ext Y) (λb I=>ab (hH b I) Y.size) hc;have d3:=hY c4;have c9:=hY Y;have d5:=hY d0;have X:=hY c8;have HV:=hY hv;have HH:=hY hH;clear c4 Y d0 c8 hv hH h;go_in;go_wp2_with fail;refine d3.o.mono ?_;rintro e w1 ⟨R,M,rfl,hR,hM,b8,hr⟩;have J:=c9.o.trans b8;have c3:=d5.o.ext b8;obtain⟨b0,b1,b2,b3,b4,b5⟩:=c3.c6;have hz:=X.o;have a0:=QpA hr e0 hc (aw _) hk (v:=v) (sl:=sl) (so:=so) ((HV.o.agree (J.agree λb I=>I.1)).mono λb I=>⟨Nat.lt_of_lt_of_le I.1 J.size,λe=>by
  rcases e with(e|e)|e
  .exact I.2 e
  .have:=I.1;omega
  have:=I.1;omega⟩) d8
 have a6:=hY a0;have HR:=hY hr;have Z:=hY J;have c0:=hY (And.intro hR hM);clear a0 hr J b8 c3 hR hM hz d5 c9 d3;go_wp2_with fail;refine a6.o.mono ?_;rintro e w2 hp;obtain⟨c,rfl,b7,c1,d7,s2,z,D,d6,a9,a5,U,d4⟩:∃c,e=.returned (.int .i64 c)/\c=(setMu es k v).1/\∃(c1:List Ent) (N:Nat->Prop) (s2:Sl) (z:List Nat) (D:List (List Ent)),c1=(setMu es k v).2/\(∀b,H b->N b)/\(∀b,N b->H b\/w<=b)/\R12 N w2 (w.heap.size+1) R M s2 c1 z D/\Nw w w2:=by
  have h1:=c0.o;have hz:=X.o;have c2:∀{W:World},Ext w1 W->∃(N:Nat->Prop) (s2:Sl) (z:List Nat) (D:List (List Ent)),(∀b,H b->N b)/\(∀b,N b->H b\/w<=b)/\R12 N W (w.heap.size+1) R M s2 es z D/\Nw w W:=λ{W} hW=>
   ⟨λb=>(H b\/b=M)\/b=R,Sl.none,[],[],λb I=>.inl (.inl I),λb I=>by
     rcases I with(e|e)|e
     .exact .inl e
     .right;omega
     right;omega,by have:=HR.o.ext hW;rwa[hz]at this,fx (Z.o.trans hW)⟩
  rcases hp with⟨hm,rfl,hx⟩ |⟨hm,hf,rfl,hx⟩ |⟨hm,hf,rfl,N,s2,M2,a1,a2,a3,a4,-,-⟩
  ·obtain ⟨N,s2,z,D,q1,q2,q3,q4⟩:=c2 hx
   have e1:setMu es k v=(8,es):=by unfold setMu;rw[em hm]
   rw[e1];exact⟨_,rfl,rfl,es,N,s2,z,D,rfl,q1,q2,q3,q4⟩
  ·obtain ⟨N,s2,z,D,q1,q2,q3,q4⟩:=c2 hx
   have e1:setMu es k v=(Qbw v,es):=by unfold setMu;rw[ef (by simp[hm]),em hf]
   rw[e1];exact⟨_,rfl,rfl,es,N,s2,z,D,rfl,q1,q2,q3,q4⟩
  have e1:setMu es k v=(0,Qbq es k v):=by unfold setMu;rw[ef (by simp[hm]),ef (by simp[hf])]
  rw[e1];refine⟨_,rfl,rfl,_,N,s2,_,_,rfl,λb I=>a1 b (.inl (.inl I)),λb I=>?_,by rwa[hz]at a3,?_⟩
  ·rcases a2 b I with ((e | e) | e) | e
   .exact .inl e
   .right;omega
   .right;omega
   right;have:=Z.o.size;omega
  refine(fx Z.o).comp (a4.sb) λi hi e=>?_
  rcases e with e|e|e
  .omega
  .omega
  simp[Sl.row,Sl.none]at e
 subst b7;have q0:w2.cell? ⟨R,0,none⟩=some (.pointer (some ⟨M,0,none⟩)):=U.blk.cell 0;have e2:=hY U;have HQ:=hY (show Qmr H w (setMu es k v).2 M w2 from⟨d7,a9,a5,U.below,by have:=c0.o;have:=X.o;omega,d6▸U.cur,d4⟩);obtain⟨r,b6⟩:∃r,setMu es k v=r:=⟨_,rfl⟩;have c7:=hY b6;rw[b6]at HQ ⊢;clear hp d6 a9 a5 U d4 a6 HR Z c0 X b6;go_wp2_with fail;refine eD (v:=.tuple #[.pointer (some ⟨M,0,none⟩),.int .i64 r.1]) (by simp[results,results37,go_sem,q0]) rfl ?_;exact⟨M,by rw[c7.o],by rw[c7.o];exact HQ.o⟩
def Qda(l:List Ent):List Ent:=l.filter λe=>Qbd e.1==0&&Qbw e.2==0
theorem Qhi(l:List Ent)(e:Ent):Qda (l++[e])=if Qbd e.1=0/\Qbw e.2=0 then Qda l++[e]else Qda l:=by
 unfold Qda;rw[bN];by_cases h:Qbd e.1=0/\Qbw e.2=0
 .rw [em h];simp[h.1,h.2]
 rw[ef h];have:(Qbd e.1==0&&Qbw e.2==0)=false:=by
  cases h1:(Qbd e.1==0&&Qbw e.2==0)with
  |false=>rfl
  |true=>simp only[Bool.and_eq_true,beq_iff_eq]at h1;exact absurd h1 h
 simp[this]
theorem QhR:∀{l A:List Ent},OkM A->(∀e∈l,Qbd e.1=0/\okV e.2)->OkM (QaJ A l)
 |[],A,h,_=>h
 |a::r,A,h,hl=>QhR (l:=r) (h.put (hl a (az ..)).1 (hl a (az ..)).2) λe z=>hl e (aI _ z)
structure QbP(w:World)(l:List LE)(wr:World)(j M:Nat)(s:Sl)(xs:List LE)(H:Nat->Prop):Prop where
 ents:xs.map LE.ent=Qda ((l.take j).map LE.ent)
 sub:∀x∈xs,x∈l
 map:MapAt H wr M (QaJ [] (xs.map LE.ent))
 own:wr.ownsRow w.heap.size 70 7 (.slice s.a xs.length s.c) xs.length (Qai xs)
 low:∀b,H b->w.heap.size<=b
 below:∀b,H b->b<wr.heap.size
 row:∀b,s.row=some b->H b
 nw:Nw w wr
 few:xs.length<=j
section
variable{w wr w2 w7 w9 : World}{l : List LE}{j M M' : Nat}{s s7 : Sl}{xs : List LE}{H : Nat -> Prop}{x : LE}
theorem Qpp{es:List Ent}(h:MapAt H w M es)(k:Nw w w2):MapAt H w2 M es:=h.sb k (λb z=>z.elim) λz=>z.elim
theorem QbP.skip(h:QbP w l wr j M s xs H)(hx:l[j]? = some x)(k:Nw wr w2)(hn:¬(Qbd x.k=0/\Qbw x.v=0)):QbP w l w2 (j+1) M s xs H where
 ents:=by
  rw[aT,hx,aL];show _=Qda (_++[(x.k,x.v)]);rw[Qhi,ef hn];exact h.ents
 sub:=h.sub
 map:=Qpp h.map k
 own:=Qae h.own (F:=Lt wr) (fB k λb hb=>hb) λb hb=>(Qaa h.own hb).2
 low:=h.low
 below:=λb hb=>ab (h.below b hb) k.size
 row:=h.row
 nw:=h.nw.trans k
 few:=Nat.le_succ_of_le h.few
theorem QbP.more(h:QbP w l wr j M s xs H)(hx:l[j]? = some x)(hp:Qmr H wr (Qbq (QaJ [] (xs.map LE.ent)) x.k x.v) M' w2)(J:Qbd x.k=0/\Qbw x.v=0)(k:Nw w2 w7)(I:w9.ownsRow w.heap.size 70 7 (.slice s7.a (xs.length+1) s7.c) (xs.length+1) (Qai xs++x.cells))(N:Wr w7 w9 s.row)(hs:s7.a=s.a\/s7.a=some ⟨w7,0,none⟩/\Wr w7 w9 none) :
  ∃H',QbP w l w9 (j+1) M' s7 (xs++[x]) H':=by
 obtain⟨Z,h1,h2,h3,h4,h5,h6⟩:=hp;have hz:=h.nw.size;have z6:=h6.size;have z7:=k.size;have z9:=N.grown.size;have X:MapAt Z w7 M' (Qbq (QaJ [] (xs.map LE.ent)) x.k x.v):=Qpp h5 k;have D:∀b,s7.row=some b->s.row=some b\/b=w7.heap.size:=λb z=>by
  rcases hs with e |⟨e,-⟩
  .left;unfold Sl.row at z ⊢;rwa[e]at z
  right;unfold Sl.row at z;rw[e]at z;simpa using z.symm
 have a0:M'<w7.heap.size:=ab (h3 M' h5.hm) z7;have U:s.row≠some M':=λe=>by have:=(Qaa h.own e).2;omega
 refine⟨λb=>Z b\/s7.row=some b,?_,?_,?_,?_,?_,?_,λb z=>.inr z,?_,?_⟩
 ·rw [aL,h.ents,aT,hx,aL]
  show _=Qda (_++[(x.k,x.v)]);rw[Qhi,em J];rfl
 ·intro y J
  rcases aB.1 J with J|J
  .exact h.sub y J
  rw[bn.1 J];exact am hx
 ·rw [aL]
  show MapAt _ _ _ (QaJ [] (_++[(x.k,x.v)]));rw[QeC];have Y:St (λb=>s.row=some b) w7 w9:=N.st λi hi=>hi
  refine MapAt.st (G:=λb=>s.row=some b) (X.more (G:=λb=>Z b\/s7.row=some b) (λb z=>.inl z) λb z R=>?_) Y (λb z=>.inl (h1 b (h.row b z))) U;rcases R with R|R
  .exact R
  rcases D b R with e|e
  .exact h1 b (h.row b e)
  omega
 ·rw [ak,QaA,show Qai [x]=x.cells by simp [Qai]]
  exact I
 ·rintro b (z | z)
  ·rcases h2 b z with e | e
   .exact h.low b e
   omega
  rcases D b z with e|e
  .exact h.low b (h.row b e)
  omega
 ·rintro b (z | z)
  .have:=h3 b z;omega
  exact(Qaa I z).2
 .exact ((h.nw.trans h6).trans k).comp ⟨N.grown.os,N.grown.tape,N.grown.output,N.grown.size,λi hi hn=>N.grown.block i hi λe=>hn e.symm⟩ λi hi e=>by have:=h.low i (h.row i e);omega
 rw[ak];exact Nat.succ_le_succ h.few
end
def Qkw(w:World)(l:List LE)(e:Ending)(w':World):Prop:=
 ∃(M:Nat) (s:Sl) (xs:List LE) (H:Nat->Prop),e=.returned (.tuple #[.pointer (some ⟨M,0,none⟩),.slice s.a xs.length s.c])/\QbP w l w' l.length M s xs H
variable{M:List Ent}
theorem QhU{k:ByteArray}{v:Val}:(setMu M k v).1=0↔Qbd k=0/\Qbw v=0:=by
 unfold setMu;by_cases h:Qbd k=0
 ·rw [ef (by simp [h])]
  by_cases h2:Qbw v=0
  .rw [ef (by simp[h2])];simp[h,h2]
  rw[em h2];simp[h,h2]
 rw[em h];simp[h]
theorem QpS{k:ByteArray}{v:Val}(h:Qbd k=0/\Qbw v=0):(setMu M k v).2=Qbq M k v:=by
 unfold setMu;rw[ef (by simp[h.1]),ef (by simp[h.2])]
variable{w':World}
theorem Qmr.nw{es:List Ent}{M:Nat}(h:Qmr H w es M w'):Nw w w':=by
 obtain⟨D,-,-,-,-,-,z⟩:=h;exact z
variable{xs:List LE}
theorem QbP.nwS{w wr w2:World}{l:List LE}{j M:Nat}(h:QbP w l wr j M s xs H)(k:Nw wr w2):QbP w l w2 j M s xs H:=
 ⟨h.ents,h.sub,Qpp h.map k,Qae h.own (F:=Lt wr) (fB k λb z=>z) (λb z=>(Qaa h.own z).2),h.low,λb z=>ab (h.below b z) k.size,h.row,h.nw.trans k,h.few⟩
theorem QjW(l:List Ent):∀{es:List Ent},Sorted es->Sorted (QaJ es l):=by
 induction l with
 |nil=>exactλh=>h
 |cons a l ih=>exactλh=>ih (QaS h a.1 a.2)
variable{s0:Sl}
theorem Qla{l:List LE}(hs:ES w (Lt w.heap.size) s0 l)(hl:l.length<=1000)(hc:∀x∈l,Qb4 x.v<=1100000):Calls prog 11 #[.slice s0.a l.length s0.c] w (Qkw w l):=by
 obtain⟨i0,hi,d5,e7,e8⟩:=eG Tryz.Qa1;have HS:=hY hs;have HC:=hY hc;clear hs hc;go_in;go_wp2_with fail;generalize Y:World.alloc w _=w0;have c7:Ext w w0:=by rw[<-Y];exact(fv w).alloc _ _
 have N:Blk w0 w.heap.size 55 #[.slice none 0 0]:=by rw[<-Y];exact fA w _ _
 have hz:w0.heap.size=w.heap.size+1:=by rw[<-Y];exact ey _ _
 have c8:=hY (show QbP w l w0 0 w.heap.size Sl.none [] (λb=>b=w.heap.size)from
  ⟨rfl,(λx hx=>by cases hx),⟨rfl,Sl.none,[],N,⟨Rd.nil _ _ _,λx h=>by simp at h,by decide⟩,rfl⟩,eI _ _ _ _,(λb R=>by omega),(λb R=>by omega),(λb R=>by simp[Sl.row,Sl.none]at R),fx c7,an _⟩)
 clear Y c7 N hz;go_loopw[4,5,6] (λv4 v5 v6 wr=>∃(j M:Nat) (s:Sl) (xs:List LE) (H:Nat->Prop),v4=.pointer (some ⟨M,0,none⟩)/\v5=.slice s.a xs.length s.c/\v6=.int .i64 (j:Int)/\j<=l.length/\Yd (QbP w l wr j M s xs H)) (λ_ _ v _=>l.length -(intOf v).toNat)
 case atStart=>exact⟨0,w.heap.size,Sl.none,[],_,rfl,rfl,rfl,aw _,c8⟩
 obtain⟨j,M,s,xs,H,rfl,rfl,rfl,hj,D⟩:=hrel;by_cases b3:j<l.length
 ·have l1:(j:Int)<(l.length:Int):=by omega
  have f2:decide ((j:Int)<(l.length:Int))=true:=ej l1;have l0:(0:Int)<=(j:Int):=by omega
  obtain⟨x,hx⟩:∃x,l[j]? = some x:=⟨_,ac b3⟩;have c6:=am hx;obtain⟨b0,Z,b8,N,f3,f0,cK,a1,b7,a9⟩:=HS.o.at hx;have a6:∀W,Nw w W->W.cell? ⟨b0,Z+j*7,none⟩=some (.string x.k)/\QaL W b0 (Z+j*7+1) x.v x.sl x.so:=λW hW=>⟨(fB hW (F:=Lt w.heap.size) λb R=>R).cell N |>.trans cK,a1.agree (fB hW (F:=Lt w.heap.size) λb R=>R) N⟩
  have e0:=hY a6;have c9:=hY hx;have f1:=hY a9;have z:=hY (show ∀W,Nw wr W->W.cell? ⟨b0,Z+j*7,none⟩=some (.string x.k)/\W.cell? ⟨b0,Z+j*7+1,none⟩=some (.int .i64 x.v.kind)/\W.cell? ⟨b0,Z+j*7+1+1,none⟩=some (.bool x.v.b)/\W.cell? ⟨b0,Z+j*7+1+2,none⟩=some (.int .i64 x.v.i)/\W.cell? ⟨b0,Z+j*7+1+3,none⟩=some (.string x.v.t)/\W.cell? ⟨b0,Z+j*7+1+4,none⟩=some (.slice x.sl.a x.v.l.length x.sl.c)/\W.cell? ⟨b0,Z+j*7+1+5,none⟩=some (.slice x.so.a x.v.ok.length x.so.c)from
   λW hW=>by
    obtain⟨h1,h2⟩:=a6 W (D.o.nw.trans hW);exact⟨h1,h2.c0,h2.c1,h2.c2,h2.c3,h2.c4,h2.c5⟩)
  have a3:=hY (show ∀W,Nw wr W->Calls prog 37 #[.pointer (some ⟨M,0,none⟩),.string x.k,Qbg x.v x.sl x.so] W λe w'=>∃M',e=.returned (.tuple #[.pointer (some ⟨M',0,none⟩),.int .i64 (setMu (QaJ [] (xs.map LE.ent)) x.k x.v).1])/\Qmr H W (setMu (QaJ [] (xs.map LE.ent)) x.k x.v).2 M' w' fromλW hW=>by
   have J:=D.o.nwS hW;exact QpB J.map J.below (QjW _ List.Pairwise.nil) (by have h1:=Qea (xs.map LE.ent) [];rw[ao]at h1;have h2:=J.few;simp only[List.length_nil]at h1;omega) a9 ((b7.agree (fB J.nw λb R=>R)).mono λb R=>⟨Nat.lt_of_lt_of_le R J.nw.size,λhh=>by have:=J.low b hh;have:b<w.heap.size:=R;omega⟩) (HC.o x c6))
  rw[b8];clear a6 hx c6 b8 N cK a1 b7 a9;obtain⟨r,hr⟩:∃r,setMu (QaJ [] (xs.map LE.ent)) x.k x.v=r:=⟨_,rfl⟩;rw[hr]at a3;have HR:=hY hr;clear hr;go_wp2_with fail;refine ez (S:=(λw'=>Nw wr w')) (by kernel_rfl) ((fx ((fv wr).drew))) (λhHeld=>?_);refine Qad 0 (some 18) z hHeld ?_;refine Qad 1 (some 19) z hHeld ?_;refine Qad 2 (some 20) z hHeld ?_;refine Qad 3 (some 21) z hHeld ?_;refine Qad 4 (some 22) z hHeld ?_;refine Qad 5 (some 23) z hHeld ?_;refine Qad 6 (some 24) z hHeld ?_;refine Qad 7 (some 25) z hHeld ?_;refine Qad 8 (some 26) z hHeld ?_;refine Qad 9 (some 27) z hHeld ?_;refine Qad 10 (some 28) z hHeld ?_;refine Qag (i:=11) (by kernel_rfl) rfl (by rfl) (λK hK=>?_);go_simp
  (have e4:=hY hHeld;refine(a3.o _ hHeld).mono ?_;rintro e w2 ⟨M2,rfl,I⟩;have a5:=hY I;clear I)
  refine hK.out _ _ (hHeld.trans a5.o.nw) (λhHeld=>?_);clear hK K
  try simp only[Act.put,List.setIfInBounds_toArray,List.set_cons_zero,List.set_cons_succ]
  refine Qad 12 (some 17) z hHeld ?_;refine Qad 13 (some 30) z hHeld ?_;refine Qad 14 (some 31) z hHeld ?_;refine Qad 15 (some 7) z hHeld ?_;refine Qad 16 (some 8) z hHeld ?_;refine eE (by kernel_rfl) ?_ _;by_cases h0:r.1=0
  ·have g0:(r.1 == 0)=true:=by simp [h0]
   have hy:=QhU.1 (by rw[HR.o];exact h0:(setMu (QaJ [] (xs.map LE.ent)) x.k x.v).1=0);have HY:=hY hy;have a4:=hY hHeld;have I:=a5.o;rw[<-HR.o,QpS hy]at I;have b4:=hY I;obtain⟨cK,a1⟩:=e0.o w2 (D.o.nw.trans hHeld);obtain⟨c0,c1,c2,c3,c4,c5⟩:=a1;have d8:=hY (fA w2 70 x.cells.toArray);have a0:Nw w2 (w2.alloc (.cells x.cells.toArray 70)):=fx ((fv w2).alloc _ _);have d3:=hY a0;have e2:=hY (D.o.nwS (hHeld.trans a0)).own;have b6:xs.length+1<=maxLen:=by have:=D.o.few;unfold maxLen;omega
   have b5:(xs.length+1)*104<=140737488355328:=by have:=D.o.few;omega
   have X:w.heap.size<=(w2.alloc (.cells x.cells.toArray 70)).heap.size:=((D.o.nw.trans hHeld).trans a0).size;have e6:=hY b6;have d7:=hY b5;have d4:=hY X;clear h0 hy I hHeld a0 b6 b5 X;go_wp2_with(at_builtin;refine Qac _ rfl (.tmp 35) (.tmp 40) 22 rfl w.heap.size 70 i0 _ 7 104 underlying22 hi d5 e7 e8 rfl (by decide) s xs.length (Qai xs) rfl e2.o (λb=>b=w2.heap.size) ⟨some ⟨w2.heap.size,0,none⟩,1⟩ 1 x.cells rfl (fH d8.o (by decide) rfl) (LE.one _) e6.o d7.o d4.o ?_;intro s7 w9 U a2 d0;have d6:=hY U;have e3:=hY a2;have e1:=hY d0;clear U a2 d0);go_roundw
   case measure=>simp[intOf];omega
   obtain⟨H',J⟩:=(D.o.nwS e4.o).more c9.o b4.o HY.o d3.o d6.o e3.o e1.o;exact⟨j+1,M2,s7,xs++[x],H',rfl,by rw[ak];rfl,by go_num,b3,hY J⟩
  have g0:(r.1==0)=false:=eu.2 h0;have HY:=hY (show ¬(Qbd x.k=0/\Qbw x.v=0) fromλhy=>h0 (by rw[<-HR.o];exact QhU.2 hy));have a4:=hY hHeld;clear h0 hHeld;go_wp2_with fail;go_roundw
  case measure=>simp[intOf];omega
  exact⟨j+1,M,s,xs,H,rfl,rfl,by go_num,b3,hY (D.o.skip c9.o a4.o HY.o)⟩
 obtain rfl:j=l.length:=by omega
 have l1:decide ((l.length:Int)<(l.length:Int))=false:=eh (by omega);go_wp2_with fail;refine eD (v:=.tuple #[.pointer (some ⟨M,0,none⟩),.slice s.a xs.length s.c]) (by simp[results,results11,go_sem]) rfl ?_;exact⟨M,s,xs,H,rfl,D.o⟩
theorem Qp1{l:List LE}(hs:ES w (Lt w) s l):OkM (QaJ [] (Qda (l.map LE.ent))):=
 QhR OkM.nil λe z=>by
  unfold Qda at z;rw[bI]at z;obtain⟨h1,h2⟩:=z;simp only[Bool.and_eq_true,beq_iff_eq]at h2;obtain⟨x,D,rfl⟩:=bE.1 h1;exact⟨h2.1,(hs.vals x D).1.wf,h2.2⟩
theorem QbP.es{w wr:World}{l xs:List LE}{j M:Nat}(h:QbP w l wr j M s xs H)(hs:ES w (Lt w) s0 l)(I:j<=1000):ES wr (Lt wr) s xs:=
 ⟨(fE h.own).mono λb z=>z.2,λx D=>⟨((hs.vals x (h.sub x D)).1.agree (fB h.nw λb z=>z)).mono λb z=>ab z h.nw.size,(hs.vals x (h.sub x D)).2⟩,by have:=h.few;omega⟩
theorem Qnr(l:List Ent):(QaJ [] (Qda l)).length<=l.length:=by
 have h:=Qea (Qda l) [];have h2:(Qda l).length<=l.length:=bA _ _;simp at h;omega
theorem Qvg(m:Mu)(c:MuS):∃z,prog.underlying 31=some z/\z.isRow=true/\(prog.info? 31).map (·.size)=some (QfQ m c).size:=⟨_,underlying31,rfl,Tryz.QkO⟩
variable{w1:World}
theorem Qvp{l xs:List LE}{M:Nat}(h:QbP w l w1 l.length M s xs H)(hs:ES w (Lt w) s0 l)(hl:l.length<=60) :
  ∃E:List Ent,OkM E/\E.length<=60/\MapAt H w1 M E/\xs.length<=60/\Calls prog 13 #[.slice s.a xs.length s.c] w1 λe w2=>∃T p,e=.returned (.agg #[.pointer p])/\Qay T=.pointer p/\OkR T/\Qab T=E/\IsT w2 (In w1.heap.size w2.heap.size) T/\Ext w1 w2:=by
 have z:=h.ents;rw[aM]at z;have N:=h.map;have R:=h.es hs (by omega);have J:=Qp1 hs;have D:=Qnr (l.map LE.ent);have Y:=h.few;rw[ao]at D;rw[<-z]at J D;refine⟨_,J,by omega,N,by omega,(Qi8 R (by omega)).mono ?_⟩;rintro e w2 ⟨T,rfl,I,Z,X⟩;obtain⟨p,U⟩:=Qaq T;exact⟨T,p,by rw[Qau,U],U,I.both.1,I.both.2,Z,X⟩
theorem QvQ{f k:ByteArray}(h:Qaj f k=true):f.size<=k.size:=by
 unfold Qaj at h;rw[eB,eB]at h;have h1:=(bY.1 h).length_le;rw[aH,aH]at h1;exact h1
theorem Qv9(f t k:ByteArray):(QaF f t k).size<=t.size+k.size:=by
 unfold QaF;rw[aK,bQ];omega
section
variable{es : List Ent}{f t : ByteArray}{j : Nat}{e : Ent}
theorem QvU(es:List Ent)(f:ByteArray)(j:Nat):Qca es f=Qca (es.take j) f++Qca (es.drop j) f:=by
 unfold Qca;rw[<-bN,aX]
theorem QvK(es:List Ent)(f:ByteArray)(j:Nat):(Qca es f).take (Qca (es.take j) f).length=Qca (es.take j) f:=by
 rw[QvU es f j,dA]
theorem QvO(z:es[j]? = some e)(D:Qaj f e.1=true):(Qca es f)[(Qca (es.take j) f).length]? = some e:=by
 obtain⟨h1,h2⟩:=ah.1 z;rw[QvU es f j,aU (an _),cW,aE h1,h2];unfold Qca;rw[du (by exact D)];rfl
theorem QvS(z:es[j]? = some e):Qca (es.take (j+1)) f=if Qaj f e.1 then Qca (es.take j) f++[e]else Qca (es.take j) f:=by
 unfold Qca;rw[aT,z,bN];cases h:Qaj f e.1<;>simp[h]
theorem Qv1(z:es[j]? = some e):Qg6 (es.take (j+1)) f=if Qaj f e.1 then Qg6 (es.take j) f else Qg6 (es.take j) f++[e]:=by
 unfold Qg6;rw[aT,z,bN];cases h:Qaj f e.1<;>simp[h]
theorem zYq{L:List Ent}{k:ByteArray}{v:Val}(h:Sorted (L++[(k,v)])):Qbq L k v=L++[(k,v)]:=by
 have h1:=Qit (A:=L) (k:=k) (v:=v) (λe z=>(cf.1 h).2.2 e z (k,v) (bn.2 rfl)) [];rw[aY]at h1;rw[h1];rfl
theorem Qwn(hs:Sorted es)(z:es[j]? = some e)(D:Qaj f e.1=false):Qbq (Qg6 (es.take j) f) e.1 e.2=Qg6 (es.take (j+1)) f:=by
 have h:=QdS (hs.sublist (List.take_sublist (j+1) es)) f;rw[Qv1 z,D]at h ⊢;exact zYq h
theorem QvY{M:List Ent}{f t:ByteArray}:∀{L:List Ent},Qb5 M f t L=0->∀e∈L,Qbd (QaF f t e.1)=0
 |[],_,e,z=>by cases z
 | x :: r,h,e,z=>by
   rw[Qb5]at h;by_cases h1:Qbd (QaF f t x.1)=0
   ·rw [ef (by simp [h1])] at h
    rcases aG.1 z with rfl|z
    .exact h1
    split at h
    .cases h
    exact QvY h e z
   rw[em h1]at h;cases h
theorem Qwz(D:Qb5 es f t (Qca (es.take j) f)=0)(I:es[j]? = some e)(J:Qaj f e.1=true)(z:Qbd (QaF f t e.1)≠0):QcA es f t=(8,es):=by
 have h:=Qrg (L:=Qca es f) (by rw[QvK es f j];exact D) (QvO I J);rw[em z]at h;unfold QcA;rw[h,em (by decide)]
theorem Qwu(I:Qb5 es f t (Qca (es.take j) f)=0)(J:es[j]? = some e)(N:Qaj f e.1=true)(z:Qbd (QaF f t e.1)=0)(D:((Qam es (QaF f t e.1)).isSome && !Qaj f (QaF f t e.1))=true):QcA es f t=(13,es):=by
 have h:=Qrg (L:=Qca es f) (by rw[QvK es f j];exact I) (QvO J N);rw[ef (by simp[z]),em D]at h;unfold QcA;rw[h,em (by decide)]
theorem Qwd(N:Qb5 es f t (Qca (es.take j) f)=0)(z:es[j]? = some e)(D:Qaj f e.1=true)(I:Qbd (QaF f t e.1)=0)(J:((Qam es (QaF f t e.1)).isSome && !Qaj f (QaF f t e.1))=false):Qb5 es f t (Qca (es.take (j+1)) f)=0:=by
 have h:=QhP (L:=Qca es f) (by rw[QvK es f j];exact N) (QvO z D) I J;rw[QvS z,D,em rfl,<-QvK es f j];rw[aT,QvO z D]at h;exact h
theorem Qv0(z:es[j]? = some e)(D:Qaj f e.1=false):Qca (es.take (j+1)) f=Qca (es.take j) f:=by rw[QvS z,D];rfl
end
theorem QvL(h:OkM M){k:ByteArray}{v:Val}(z:wfV v):OkM (setMu M k v).2:=by
 unfold setMu;split
 .exact h
 rename_i h1;split
 .exact h
 rename_i h2;exact h.put (fb.1 h1) ⟨z,fb.1 h2⟩
variable{y:Val}
theorem Qwr(D:wfV y){x:Val}(I:wfV x):wfV (Qf2 (y.l++[x])):=by
 obtain⟨k,b,i,t,l,J,N⟩:=y;unfold wfV at D;have h:∀l:List Val,Qkk l->Qkk (l++[x]):=λl=>by
  induction l with
  |nil=>intro _;rw[aJ];unfold Qkk;exact⟨I,by unfold Qkk;trivial⟩
  |cons a r ih=>intro z;unfold Qkk at z;rw[aF];unfold Qkk;exact⟨z.1,ih z.2⟩
 unfold Qf2 wfV;exact⟨rfl,h l D.2.1,by unfold Qkk;trivial⟩
theorem Qwt(h:OkM M)(k:ByteArray)(n:Int):OkM (Qeo M k n).2:=by
 have z:∀q,OkM (Qqx M k q n).2:=λq=>by
  unfold Qqx;split
  .exact h
  exact QvL h (by unfold QlO wfV;exact⟨rfl,by unfold Qkk;trivial,by unfold Qkk;trivial⟩)
 unfold Qeo;split
 ·split
  .exact h
  exact z _
 exact z 0
theorem Qws(h:OkM M)(k:ByteArray){x:Val}(z:wfV x):OkM (Qqk M k x).2:=by
 unfold Qqk;split
 ·rename_i y hy
  split
  .exact h
  unfold Qma;split
  .exact h
  exact QvL h (Qwr (h.get hy).2.1 z)
 unfold Qma;split
 .exact h
 exact QvL h (Qwr (y:=zeroV) (by unfold zeroV wfV;exact⟨rfl,by unfold Qkk;trivial,by unfold Qkk;trivial⟩) z)
theorem Qwm(h:OkM M)(f t:ByteArray):OkM (QcA M f t).2:=by
 unfold QcA;split
 .exact h
 rename_i h0;refine QhR ⟨QdS h.sorted f,λe z=>h.ok e (bI.1 z).1⟩ λe z=>?_
 obtain⟨x,D,rfl⟩:=bE.1 z;exact⟨QvY (fb.1 h0) x D,(h.ok x (bI.1 D).1).2⟩
theorem Qv7(m:Mu)(M:List Ent):stepM m M=if m.kd=1 then setMu M m.k m.v else if m.kd=2 then(if(Qam M m.k).isSome then(0,Qb2 M m.k)else(12,M))else if m.kd=3 then Qeo M m.k m.i else if m.kd=4 then(if asM M m.k m.had m.was then(if m.has then setMu M m.k m.v else(0,Qb2 M m.k))else(13,M))else if m.kd=5 then Qqk M m.k m.v else if m.kd=6 then QcA M m.k m.tk else if m.kd=7 then(if asM M m.k m.had m.was then(if(Qks m.l M).1≠0 then((Qks m.l M).1,M)else Qks m.l M)else(13,M))else(9,M):=by
 obtain⟨N,k,J,i,z,D,I,v,l⟩:=m;rw[stepM];rfl
theorem Qwi(n:Nat):∀(m:Mu),SizeOf.sizeOf m<=n->∀{w:World} {F:Nat->Prop} {c:MuS},RMu w F m c->∀{M:List Ent},OkM M->OkM (stepM m M).2:=by
 induction n with
 |zero=>intro m h;have:=Mu.Qb7 m;omega
 | succ n ih=>
   intro m Z w F c J M h;have D:wfV m.v:=J.parts.2.1.wf;have Y:∀(l:List Mu),(∀x∈l,∃(y:MuS),RMu w F x y/\SizeOf.sizeOf x<=n)->∀{M:List Ent},OkM M->OkM (Qks l M).2:=by
    intro l
    induction l with
    |nil=>intro _ M h;rw[Qks];exact h
    | cons a r ihr=>
      intro N M h;obtain⟨y,U,hs⟩:=N a (az ..);rw[Qks];split
      .exact h
      exact ihr (λx z=>N x (aI _ z)) (ih a hs U h)
   have X:∀x∈m.l,∃(y:MuS),RMu w F x y/\SizeOf.sizeOf x<=n:=λx z=>by
    obtain⟨j,I⟩:=bv z;obtain⟨b,o,y,-,-,-,-,-,R⟩:=J.at I;exact⟨y,R,by have:=Mu.QtV I;omega⟩
   rw[Qv7];split
   .exact QvL h D
   split
   ·split
    .exact h.del _
    exact h
   split
   .exact Qwt h _ _
   split
   ·split
    ·split
     .exact QvL h D
     exact h.del _
    exact h
   split
   .exact Qws h _ D
   split
   .exact Qwm h _ _
   split
   ·split
    ·split
     .exact h
     exact Y m.l X h
    exact h
   exact h
variable{F:Nat->Prop}{c:MuS}
theorem Qv8{m:Mu}(z:RMu w F m c)(h:OkM M):OkM (stepM m M).2:=Qwi _ m (an _) z h
def QvI(H:Nat->Prop)(w:World)(es:List Ent)(M:Nat)(w':World):Prop:=
 ∃H':Nat->Prop,(∀b,H b->H' b)/\(∀b,H' b->H b\/w.heap.size<=b)/\(∀b,H' b->b<w'.heap.size)/\MapAt H' w' M es/\Nw w w'
def QvJ(H:Nat->Prop)(w:World)(r:Int × List Ent)(e:Ending)(w':World):Prop:=∃M',e=.returned (.tuple #[.pointer (some ⟨M',0,none⟩),.int .i64 r.1])/\QvI H w r.2 M' w'
section
variable{H : Nat -> Prop}{w w1 w' : World}{es : List Ent}{M : Nat}
theorem Qmr.old(h:Qmr H w es M w'):QvI H w es M w':=by
 obtain⟨z,a,b,c,-,d,e⟩:=h;exact⟨z,a,b,c,d,e⟩
theorem QvI.pre(h:QvI H w1 es M w')(k:Nw w w1):QvI H w es M w':=by
 obtain⟨z,a,b,c,d,e⟩:=h;exact⟨z,a,λi hi=>(b i hi).imp id (al k.size),c,d,k.trans e⟩
theorem QvI.self(h:MapAt H w M es)(D:∀b,H b->b<w)(k:Nw w w'):QvI H w es M w':=
 ⟨H,λ_ h=>h,λ_ h=>.inl h,λi hi=>ab (D i hi) k.size,h.sb k (λb z=>z.elim) λz=>z.elim,k⟩
end
theorem Qv4{n b:Int}(N : -9223372036854775808<=n/\n<=9223372036854775807)(R : -9223372036854775808<=b/\b<=9223372036854775807)(es:List Ent)(k:ByteArray) :
  (decide (0<b)=true/\decide (wrap64 (9223372036854775807-b)<n)=true/\Qqx es k n b=(7,es))\/
  (decide (0<b)=true/\decide (wrap64 (9223372036854775807-b)<n)=false/\decide (b<0)=false/\Qqx es k n b=setMu es k (QlO (wrap64 (n+b))))\/
  (decide (0<b)=false/\decide (b<0)=true/\decide (n<wrap64 (-9223372036854775808-b))=true/\Qqx es k n b=(7,es))\/
  (decide (0<b)=false/\decide (b<0)=true/\decide (n<wrap64 (-9223372036854775808-b))=false/\Qqx es k n b=setMu es k (QlO (wrap64 (n+b))))\/
  (decide (0<b)=false/\decide (b<0)=false/\Qqx es k n b=setMu es k (QlO (wrap64 (n+b)))):=by
 have J:=(QlK N R).2.2;unfold Qqx;by_cases D:0<b
 ·have I:wrap64 (9223372036854775807 - b)=9223372036854775807 - b:=by unfold wrap64;omega
  rw[I];by_cases h1:9223372036854775807-b<n
  .exact .inl ⟨decide_eq_true D,ej h1,em (.inl ⟨D,h1⟩)⟩
  have z:¬((0<b/\9223372036854775807-b<n)\/(b<0/\n < -9223372036854775808-b)):=by omega
  exact .inr (.inl ⟨decide_eq_true D,eh h1,eh (by omega),by rw[ef z,J z]⟩)
 by_cases h2:b<0
 ·have I:wrap64 (-9223372036854775808 - b) = -9223372036854775808 - b:=by unfold wrap64;omega
  rw[I];by_cases h1:n < -9223372036854775808-b
  .exact .inr (.inr (.inl ⟨decide_eq_false D,ej h2,ej h1,em (.inr ⟨h2,h1⟩)⟩))
  have z:¬((0<b/\9223372036854775807-b<n)\/(b<0/\n < -9223372036854775808-b)):=by omega
  exact .inr (.inr (.inr (.inl ⟨decide_eq_false D,ej h2,eh h1,by rw[ef z,J z]⟩)))
 have z:¬((0<b/\9223372036854775807-b<n)\/(b<0/\n < -9223372036854775808-b)):=by omega
 exact .inr (.inr (.inr (.inr ⟨decide_eq_false D,eh h2,by rw[ef z,J z]⟩)))
theorem Qwl(M:List Ent)(k:ByteArray)(b:Int)(o:Option Val)(h:Qam M k=o):(o=none/\Qeo M k b=Qqx M k 0 b)\/(∃x,o=some x/\(x.kind != 3)=true/\Qeo M k b=(9,M))\/∃x,o=some x/\(x.kind != 3)=false/\Qeo M k b=Qqx M k x.i b:=by
 unfold Qeo;rw[h];cases o with
 |none=>exact .inl ⟨rfl,rfl⟩
 | some x=>
   by_cases z:x.kind=3
   .exact .inr (.inr ⟨x,rfl,by simp[z],ef (by simp[z])⟩)
   exact .inr (.inl ⟨x,rfl,by simp[z],em z⟩)
theorem Qwb{es:List Ent}(h:MapAt H w M0 es)(hH:∀b,H b->b<w)(a2:Sorted es)(hc:es.length<=1000000){k:ByteArray}(hk:k.size<=maxLen){n:Int}(hn : -9223372036854775808<=n/\n<=9223372036854775807) :
  Calls prog 81 #[.pointer (some ⟨M0,0,none⟩),.string k,.int .i64 n] w (QvJ H w (Qeo es k n)):=by
 have HG:=hY (Qvu h a2 k);have R:∀W,Nw w W->QvI H w es M0 W:=λW hW=>QvI.self h hH hW
 have a1:∀q W,Nw w W->Calls prog 37 #[.pointer (some ⟨M0,0,none⟩),.string k,Qbg (QlO (wrap64 q)) Sl.none Sl.none] W λe w'=>∃M',e=.returned (.tuple #[.pointer (some ⟨M',0,none⟩),.int .i64 (setMu es k (QlO (wrap64 q))).1])/\Qmr H W (setMu es k (QlO (wrap64 q))).2 M' w':=λq W hW=>
  QpB (h.sb hW (λb hb=>hb.elim) λhb=>hb.elim) (λb hb=>ab (hH b hb) hW.size) a2 hc hk (RV.flat _ _ _ _ _ _ (by decide) (WalkArith.wf_i64 (by unfold wrap64;omega)) (by decide)) (show 7+0+0+0<=1100000 by decide)
 have D:=hY R;have a0:=hY a1;obtain⟨r,N⟩:∃r,Qeo es k n=r:=⟨_,rfl⟩;have hw:=Qwl es k n _ rfl;obtain⟨og,a3⟩:∃o,Qam es k=o:=⟨_,rfl⟩;rw[a3,N]at hw;rw[N];rw[a3]at HG;have HN:=hY hn;have HW:=hY hw;clear h hH a2 hc hk R a1 a3 N hw hn;go_in;go_wp2_with fail;refine HG.o.mono ?_;rintro e w1 ⟨s1,s2,rfl,a6,a5⟩;have HI:=hY a5.int;have b3:=hY a6;clear a6 a5;go_upto_region 2 with fail;generalize a9:World.alloc w1 _=w2;obtain⟨a4,b0⟩:Ext w1 w2/\Blk w2 w1.heap.size 28 _:=by rw[<-a9];exact⟨(fv w1).alloc _ _,fA w1 _ _⟩
 obtain⟨d0,-,d2,-,-,-⟩:=b0.c6;have I:=hY (fx (b3.o.trans a4));clear a9 a4 b0;rcases HW.o with⟨rfl,N⟩ |⟨x,rfl,h3,rfl⟩ |⟨x,rfl,h3,N⟩
 ·rcases Qv4 (n:=0) (by decide) HN.o es k with ⟨X,Z,J⟩ | ⟨X,Z,f3,J⟩ | ⟨X,Z,f3,J⟩ | ⟨X,Z,f3,J⟩ | ⟨X,Z,J⟩
  all_goals (
   rw[J]at N
   (try simp only[Int.zero_add]at N)
   have Y:=hY N;clear J N;go_wp2_with fail
   first
   |(go_ret2;exact⟨M0,by rw[Y.o]<;>rfl,by rw[Y.o];exact D.o _ I.o⟩)
   | (refine (a0.o _ _ I.o).mono ?_
      rintro e w3 ⟨M',rfl,z⟩;have U:=hY (z.old.pre I.o);clear z;go_wp2_with fail;go_ret2;exact⟨M',by rw[Y.o]<;>rfl,by rw[Y.o];exact U.o⟩))
 ·go_wp2_with fail
  go_ret2;exact⟨M0,rfl,D.o _ I.o⟩
 rcases Qv4 (n:=x.i) HI.o HN.o es k with⟨X,Z,J⟩ |⟨X,Z,f3,J⟩ |⟨X,Z,f3,J⟩ |⟨X,Z,f3,J⟩ |⟨X,Z,J⟩
 all_goals (
  rw[J]at N;have Y:=hY N;clear J N;go_wp2_with fail
  first
  |(go_ret2;exact⟨M0,by rw[Y.o]<;>rfl,by rw[Y.o];exact D.o _ I.o⟩)
  | (refine (a0.o _ _ I.o).mono ?_
     rintro e w3 ⟨M',rfl,z⟩;have U:=hY (z.old.pre I.o);clear z;go_wp2_with fail;go_ret2;exact⟨M',by rw[Y.o]<;>rfl,by rw[Y.o];exact U.o⟩))
theorem Qwx{d:Val}(h:RV w F d sl so):∃xs:List WV,xs.map WV.v=d.l/\Rd w F 6 sl xs.length (QbV xs)/\(∀x∈xs,RV w F x.v x.sl x.so)/\xs.length*88<=140737488355328:=by
 cases h with
 | mk bl fl bo fo cl co hl ho hov el rl ek eo ro bk bi bt nl no=>
   rename_i kind b i t l ok ov;refine⟨wl l cl,QuL l cl,QtQ (by rw[Qeu];exact hl) λj x z=>?_,λx z=>?_,by rw[Qeu];exact nl⟩
   ·obtain ⟨I,J,D⟩:=QrL z
    rw[J,D];exact el j _ I
   obtain⟨j,N⟩:=bv z;obtain⟨I,J,D⟩:=QrL N;rw[J,D];exact rl j _ I
variable{W:World}
theorem Qwv{base:Nat}{xs:List WV}(I:W.ownsRow base 28 6 (.slice s.a xs.length s.c) xs.length (QbV xs))(hF:∀i,base<=i->i<W->F i)(U:∀x∈xs,RV W F x.v x.sl x.so)(R:xs.length*88<=140737488355328) :
  RV W F (Qf2 (xs.map WV.v)) s Sl.none:=by
 obtain⟨b,o,J,N⟩:=Ql7 (fE I);have D:∀(j:Nat) (d:Val),(xs.map WV.v)[j]? = some d->∃x,xs[j]? = some x/\x.v=d:=λj d hd=>by
  rw[aq]at hd;cases z:xs[j]? with
  |none=>rw[z]at hd;cases hd
  |some x=>rw[z]at hd;exact⟨x,rfl,by injection hd⟩
 have e:∀{j:Nat} {x:WV},xs[j]? = some x->xs.getD j ⟨zeroV,Sl.none,Sl.none⟩=x:=λz=>by rw[db,z];rfl
 refine .mk b o 0 0 (λj=>((xs.getD j ⟨zeroV,Sl.none,Sl.none⟩).sl,(xs.getD j ⟨zeroV,Sl.none,Sl.none⟩).so)) (λ_=>(Sl.none,Sl.none)) (by rw[ao];exact J.mono λi h=>hF i h.1 h.2) (.nil _ _) rfl ?_ ?_ (λj k h=>by simp at h) (λj d h=>by simp at h) (λj d h=>by simp at h) (by decide) (by decide) (by decide) (by rw[ao];exact R) (by simp)
 ·intro j d hd
  obtain⟨x,z,rfl⟩:=D j d hd;rw[e z];exact N j x z
 intro j d hd;obtain⟨x,z,rfl⟩:=D j d hd;rw[e z];exact U x (am z)
theorem Qwa{es:List Ent}(h:MapAt H w M0 es)(hH:∀b,H b->b<w)(hM:OkM es)(hc:es.length<=1000000){k:ByteArray}(hk:k.size<=maxLen){v:Val}(hv:RV w (NH H w) v sl so)(f3:Qb4 v<=1092000) :
  Calls prog 82 #[.pointer (some ⟨M0,0,none⟩),.string k,Qbg v sl so] w (QvJ H w (Qqk es k v)):=by
 have a3:=hY (show ∀W,Nw w W->QvI H w es M0 W fromλW hW=>QvI.self h hH hW);have f2:=hY (show ∀u s1 s2 W,Nw w W->RV W (NH H W) u s1 s2->Qb4 u<=1100000->Calls prog 37 #[.pointer (some ⟨M0,0,none⟩),.string k,Qbg u s1 s2] W λe w'=>∃M',e=.returned (.tuple #[.pointer (some ⟨M',0,none⟩),.int .i64 (setMu es k u).1])/\Qmr H W (setMu es k u).2 M' w' fromλu s1 s2 W hW hu j9=>
  QpB (h.sb hW (λb z=>z.elim) λz=>z.elim) (λb z=>ab (hH b z) hW.size) hM.sorted hc hk hu j9)
 have i4:=hY h;have i8:=hY hM.sorted;have I:=Qtg es k v;have U:Qd4 ((Qam es k).getD zeroV).l<=7168:=by
  cases hg:Qam es k with
  |none=>exact aw _
  |some y=>exact al (Qsm y) (hM.get hg).2.cnt
 obtain⟨r,hr⟩:∃r,Qqk es k v=r:=⟨_,rfl⟩;obtain⟨og,a9⟩:∃o,Qam es k=o:=⟨_,rfl⟩;rw[hr,a9]at I;rw[a9]at U;rw[hr];have g0:=hY a9;have c4:=hY I;have g7:=hY U;have j8:=hY f3;have HV:=hY hv;have HH:=hY hH;obtain⟨i0,hi,e6,d3,i5⟩:=eG Tryz.QgL;clear h hH hM hc hk hv f3 I U hr a9;go_in;go_upto_region 1 with fail;generalize e8:World.alloc _ _=w0;obtain⟨e1,f1⟩:Ext w w0/\Blk w0 w.heap.size 28 (Qlj v sl so):=by rw[<-e8];exact⟨(fv w).alloc _ _,fA w _ _⟩
 have hg:=Qvt (i4.o.ext e1) i8.o k;rw[g0.o]at hg;have HG:=hY hg;have g5:=hY e1;have j2:=hY f1;clear e8 e1 f1 hg;go_wp2_with fail;refine HG.o.mono ?_;rintro e w1 ⟨s1,s2,rfl,f7,d0⟩;have a0:=hY f7;obtain⟨y,hy⟩:∃y,og.getD zeroV=y:=⟨_,rfl⟩;obtain⟨g,b7⟩:∃g,og.isSome=g:=⟨_,rfl⟩;have I:=c4.o;have U:=g7.o;rw[hy,b7]at I;rw[hy]at U d0 ⊢;rw[b7];have i1:g=false->y.l=[]:=λe=>by
  cases og with
  |none=>rw[<-hy];rfl
  |some _=>rw[<-b7]at e;cases e
 have e4:=hY I;have j3:=hY U;have i6:=hY i1;have j5:=hY d0;clear I U hy b7 f7 d0 i1 HG c4 g7 g0;go_upto_region 2 with fail;generalize i2:World.alloc w1 _=w2;obtain⟨a6,f9⟩:Ext w1 w2/\Blk w2 w1.heap.size 28 (Qlj y s1 s2):=by rw[<-i2];exact⟨(fv w1).alloc _ _,fA w1 _ _⟩
 obtain⟨k0,-,-,-,k4,-⟩:=f9.c6;have g6:=hY (a0.o.trans a6);have e0:=hY a6;have f8:=hY (fx ((g5.o.trans a0.o).trans a6));clear i2 a6 f9;by_cases D:g=true/\y.kind≠5
 ·have g1:=D.1
  have g2:(y.kind != 5)=true:=by simp[D.2]
  have HR:=hY (e4.o.trans (em D));clear D;subst g1;go_wp2_with fail;go_ret2;exact⟨M0,by rw[HR.o]<;>rfl,by rw[HR.o];exact a3.o _ f8.o⟩
 have HR:=hY (e4.o.trans (ef D));have g2:g=true->(y.kind != 5)=false:=λe=>by
  by_cases h5:y.kind=5
  .simp [h5]
  exact absurd ⟨e,h5⟩ D
 clear D;obtain⟨xs,d8,f5,e3,k2⟩:=Qwx j5.o;have J:xs.length=y.l.length:=by rw[<-d8,ao]
 rw[<-J]at k4;have d7:=hY d8;have j1:=hY e3;have i7:=hY (show Rd w2 (NH H w0) 6 s1 xs.length (QbV xs)from f5.agree (e0.o.agree λb z=>ab z.1 a0.o.size));clear d8 e3 f5 J;go_upto_if 17 with fail;go_cut [10] (λq w'=>∃s7:Sl,q=.slice s7.a xs.length s7.c/\Yd (w'.ownsRow w0.heap.size 28 6 (.slice s7.a xs.length s7.c) xs.length (QbV xs)/\Nw w2 w'))
 case first=>
  cases g with
  | false=>
    have hn:=i6.o rfl;rw[<-d7.o]at hn;obtain rfl:xs=[]:=List.map_eq_nil_iff.1 hn;clear hn;go_wp2_with fail;go_meet;exact⟨Sl.none,rfl,hY ⟨World.ownsRow_nil _ _ _ _,fD _ _⟩⟩
  | true=>
    have g3:=g2 rfl;have e2:=hY (show 0+xs.length<=maxLen by unfold maxLen;omega);have d6:=hY (show(0+xs.length)*88<=140737488355328 by omega);have c9:=hY (show w0.heap.size<=w2.heap.size from g6.o.size);clear g2;go_wp2_with(at_builtin;refine Qac _ rfl (.tmp 22) (.tmp 24) 25 rfl w0.heap.size 28 i0 _ 6 88 underlying25 hi e6 d3 i5 rfl (by decide) Sl.none 0 [] rfl (eI _ _ _ _) (NH H w0) s1 xs.length (QbV xs) rfl i7.o (QoG _) e2.o d6.o c9.o ?_;intro s7 w7 R c0 d4;rw[aA]at R ⊢;have k1:=hY R;have a2:=hY c0;clear R c0 d4);go_meet;exact⟨s7,rfl,hY ⟨k1.o,⟨a2.o.grown.os,a2.o.grown.tape,a2.o.grown.output,a2.o.grown.size,λi hi _=>a2.o.grown.block i hi (by simp[Sl.row,Sl.none])⟩⟩⟩
 obtain⟨s7,rfl,HO⟩:=hcut;clear k0 k4 g2;have a4:Nw w wc:=f8.o.trans HO.o.2;have J:y.l.length=xs.length:=by rw[<-d7.o,ao]
 have f0:=hY J;have c2:=hY a4;by_cases c3:256<=xs.length
 ·have g3:decide ((256:Int)≤(xs.length:Int))=true:=ej (by omega)
  have g4:(256:Int)<=(xs.length:Int):=by omega
  have a1:=hY (HR.o.trans (show Qma es k y.l v=(6,es)by unfold Qma;rw[em (by omega)]));clear c3 a4 J;go_wp2_with fail;go_ret2;exact⟨M0,by rw[a1.o]<;>rfl,by rw[a1.o];exact a3.o _ c2.o⟩
 have g3:decide ((256:Int)<=(xs.length:Int))=false:=eh (by omega);have g4:¬(256:Int)<=(xs.length:Int):=by omega
 have a1:=hY (HR.o.trans (show Qma es k y.l v=setMu es k (Qf2 (y.l++[v]))by unfold Qma;rw[ef (by omega)]));have e7:=fF ((fx (a0.o.trans e0.o)).trans HO.o.2) j2.o;obtain⟨b0,b1,b2,b3,b4,b5⟩:=e7.c6;have j0:=hY (fA wc 28 (⟨v,sl,so⟩:WV).cells.toArray);have b6:Ext wc (wc.alloc (.cells (⟨v,sl,so⟩:WV).cells.toArray 28)):=(fv wc).alloc _ _;have j4:=hY b6;have j7:=hY (Qae HO.o.1 (F:=Lt wc) (b6.agree λb z=>z) λb z=>(Qaa HO.o.1 z).2);have e2:=hY (show xs.length+1<=maxLen by unfold maxLen;omega);have d6:=hY (show(xs.length+1)*88<=140737488355328 by omega);have k6:=g5.o.size;have f4:w0.heap.size<=wc.heap.size:=al g6.o.size HO.o.2.size;have c9:=hY (show w0.heap.size<=(wc.alloc (.cells (⟨v,sl,so⟩:WV).cells.toArray 28)).heap.size from al f4 b6.size);have g9:=hY (show ∀b,s7.row=some b->w0<=b fromλb z=>(Qaa HO.o.1 z).1);have k5:xs.length<=255:=by omega
 clear c3 a4 J e7 b6 f4;go_wp2_with(at_builtin;refine Qac _ rfl (.tmp 32) (.tmp 34) 25 rfl w0.heap.size 28 i0 _ 6 88 underlying25 hi e6 d3 i5 rfl (by decide) s7 xs.length (QbV xs) rfl j7.o (λb=>b=wc.heap.size) ⟨some ⟨wc,0,none⟩,1⟩ 1 (⟨v,sl,so⟩:WV).cells rfl (fH j0.o (by decide) rfl) (WV.one _) e2.o d6.o c9.o ?_;intro s9 w9 X c1 d4;have i9:=hY X;have Y:=hY c1;clear X c1 d4);have d5:Sb (λb=>s7.row=some b) wc w9:=(Nw.any (fx j4.o) _).trans ⟨Y.o.grown.os,Y.o.grown.tape,Y.o.grown.output,Y.o.grown.size,λi hi hn=>Y.o.grown.block i hi λe=>hn e.symm⟩;have N:Nw w w9:=c2.o.comp d5 λi hi e=>by have:=g9.o i e;omega
 have Z:Sb (λb=>s7.row=some b) w1 w9:=(Nw.any ((fx e0.o).trans HO.o.2) _).trans d5;have d3:=a0.o.size;have a5:=Qwv (F:=NH H w9) (xs:=xs++[(⟨v,sl,so⟩:WV)]) (s:=s9) (by rw[ak,QmN];exact i9.o) (λi h1 h2=>⟨h2,λhh=>by have:=HH.o i hh;omega⟩) (λx hx=>by
  rcases aB.1 hx with hx|hx
  .exact ((j1.o x hx).agree λb z=>Z.block b (by have:=z.1;omega) λe=>by have:=g9.o b e;have:=z.1;omega).mono λb z=>⟨by have:=z.1;have:=Z.size;omega,z.2⟩
  obtain rfl:x=⟨v,sl,so⟩:=by simpa using hx
  exact(HV.o.agree (fB N λb z=>z.1)).mono λb z=>⟨Nat.lt_of_lt_of_le z.1 N.size,z.2⟩) (by rw[ak];show(xs.length+1)*88<=_;omega)
 have b8:(xs++[(⟨v,sl,so⟩:WV)]).map WV.v=y.l++[v]:=by rw[aL,d7.o];rfl
 rw[b8]at a5;have c7:=f2.o (Qf2 (y.l++[v])) s9 Sl.none w9 N a5 (by rw[Qsn];have:=j3.o;have:=j8.o;omega);have g8:xs.length+1=(Qf2 (y.l++[v])).l.length:=by show _=(y.l++[v]).length;rw[ak,f0.o];rfl
 have j6:=hY c7;have f6:=hY N;clear d5 N Z a5 b8 c7;rw[g8];clear g8;refine j6.o.mono ?_;rintro e k3 ⟨M',rfl,c8⟩;have i3:=hY (c8.old.pre f6.o);clear c8;go_wp2_with fail;go_ret2;exact⟨M',by rw[a1.o]<;>rfl,by rw[a1.o];exact i3.o⟩
theorem Qi4(w:World)(k p:ByteArray)(Z:k.size<=maxLen)(Y:p.size<=maxLen):Calls prog 32 #[.string k,.string p] w λe w'=>e=.returned (.bool (p.toList.isPrefixOf k.toList))/\w=w':=by
 unfold maxLen at Z Y;have J:=Qbj k;have I:=Qbj p;by_cases h:p.size<=k.size
 ·have g1:(p.size:Int)≤(k.size:Int):=by omega
  have g2:min p.size k.size=p.size:=by omega
  have D:(k.extract 0 p.size).toList=k.toList.take p.size:=extract_toList k p.size;have N:((k.extract 0 p.size).toList==p.toList)=p.toList.isPrefixOf k.toList:=by
   rw[D];cases z:p.toList.isPrefixOf k.toList with
   | true=>
     have:=cm.1 (bY.1 z);rw[<-I,<-this];simp
   | false=>
     rw[eu];intro e;have:p.toList <+: k.toList:=by rw[<-e];exact List.take_prefix _ _
     rw[bY.2 this]at z;cases z
  have U:=hY N;clear N D J I;go_in;go_wp2_with fail;go_ret;exact⟨by rw[<-U.o];rfl,rfl⟩
 have g1:¬(p.size:Int)<=(k.size:Int):=by omega
 have X:decide ((p.size:Int)<=(k.size:Int))=false:=eh g1;have R:p.toList.isPrefixOf k.toList=false:=by
  cases z:p.toList.isPrefixOf k.toList with
  |true=>have:=(bY.1 z).length_le;omega
  |false=>rfl
 rw[R];clear J I R;go_in;go_wp2_with fail;go_ret;exact⟨rfl,rfl⟩
structure QvP(H:Nat->Prop)(w:World)(es:List Ent)(f t:ByteArray)(wr:World)(j:Nat)(s:Sl)(xs:List LE)(G:Nat->Prop):Prop where
 ents:xs.map LE.ent=(Qca (es.take j) f).map λe=>(QaF f t e.1,e.2)
 zero:Qb5 es f t (Qca (es.take j) f)=0
 vals:∀x∈xs,RV w (NH H w) x.v x.sl x.so/\x.k.size<=maxLen
 map:MapAt G wr w.heap.size (Qg6 (es.take j) f)
 own:wr.ownsRow (w.heap.size+1) 70 7 (.slice s.a xs.length s.c) xs.length (Qai xs)
 sub:∀b,H b->G b
 low:∀b,G b->H b\/w.heap.size<=b
 below:∀b,G b->b<wr.heap.size
 row:∀b,s.row=some b->G b
 nw:Nw w wr
section
variable{H G : Nat -> Prop}{w wr W w2 w7 w9 : World}{es : List Ent}{f t : ByteArray}{j : Nat}{s s7 : Sl}{xs : List LE}{e : Ent}{x : LE}
theorem QvP.nwS(h:QvP H w es f t wr j s xs G)(k:Nw wr w2):QvP H w es f t w2 j s xs G:=
 ⟨h.ents,h.zero,h.vals,Qpp h.map k,Qae h.own (F:=Lt wr) (fB k λb z=>z) (λb z=>(Qaa h.own z).2),h.sub,h.low,λb z=>ab (h.below b z) k.size,h.row,h.nw.trans k⟩
theorem QvP.keep(h:QvP H w es f t wr j s xs G)(hs:Sorted es)(he:es[j]? = some e)(hb:Qaj f e.1=false)(hp:MapAt G w2 w.heap.size (Qbq (Qg6 (es.take j) f) e.1 e.2))(st:St (λb=>b=w.heap.size) wr w2):QvP H w es f t w2 (j+1) s xs G where
 ents:=by rw[Qv0 he hb];exact h.ents
 zero:=by rw[Qv0 he hb];exact h.zero
 vals:=h.vals
 map:=by rw[<-Qwn hs he hb];exact hp
 own:=Qae h.own (F:=λb=>b<wr/\w+1<=b) (λb hb=>st.block b hb.1 (by have:=hb.2;omega)) λb hb=>⟨(Qaa h.own hb).2,(Qaa h.own hb).1⟩
 sub:=h.sub
 low:=h.low
 below:=λb hb=>ab (h.below b hb) st.size
 row:=h.row
 nw:=h.nw.comp st.sb λi hi e=>by omega
theorem QvP.gone(h:QvP H w es f t wr j s xs G)(U:es[j]? = some e)(z:Qaj f e.1=true)(hk:Qbd (QaF f t e.1)=0)(J:((Qam es (QaF f t e.1)).isSome && !Qaj f (QaF f t e.1))=false)(Z:x.ent=(QaF f t e.1,e.2))(hv:RV w (NH H w) x.v x.sl x.so/\x.k.size<=maxLen)(k:Nw wr w7)
  (I:w9.ownsRow (w.heap.size+1) 70 7 (.slice s7.a (xs.length+1) s7.c) (xs.length+1) (Qai xs++x.cells)) (N:Wr w7 w9 s.row) (hs:s7.a=s.a\/s7.a=some ⟨w7,0,none⟩/\Wr w7 w9 none) :
  ∃Y,QvP H w es f t w9 (j+1) s7 (xs++[x]) Y:=by
 have hz:=h.nw.size;have z7:=k.size;have z9:=N.grown.size;have D:∀b,s7.row=some b->s.row=some b\/b=w7.heap.size:=λb z=>by
  rcases hs with e |⟨e,-⟩
  .left;unfold Sl.row at z ⊢;rwa[e]at z
  right;unfold Sl.row at z;rw[e]at z;simpa using z.symm
 have hR:w.heap.size<wr.heap.size:=h.below _ h.map.hm;refine⟨λb=>G b\/s7.row=some b,?_,Qwd h.zero U z hk J,?_,?_,?_,λb z=>.inl (h.sub b z),?_,?_,λb z=>.inr z,?_⟩
 .rw [aL,h.ents,QvS U,z,em rfl,aL,aR,be,Z];rfl
 ·intro y R
  rcases aB.1 R with R|R
  .exact h.vals y R
  rw[bn.1 R];exact hv
 ·rw [Qv1 U,z,em rfl]
  have X:St (λb=>s.row=some b) w7 w9:=N.st λi hi=>hi
  refine MapAt.st (G:=λb=>s.row=some b) ((Qpp h.map k).more (G:=λb=>G b\/s7.row=some b) (λb z=>.inl z) λb z J=>?_) X (λb z=>.inl (h.row b z)) λe=>by have:=(Qaa h.own e).1;omega
  rcases J with J|J
  .exact J
  rcases D b J with e|e
  .exact h.row b e
  omega
 ·rw [ak,QaA,show Qai [x]=x.cells by simp [Qai]]
  exact I
 ·rintro b (z | z)
  .exact h.low b z
  rcases D b z with e|e
  .exact h.low b (h.row b e)
  right;omega
 ·rintro b (z | z)
  .have:=h.below b z;omega
  exact(Qaa I z).2
 exact(h.nw.trans k).comp ⟨N.grown.os,N.grown.tape,N.grown.output,N.grown.size,λi hi hn=>N.grown.block i hi λe=>hn e.symm⟩ λi hi e=>by have:=(Qaa h.own e).1;omega
end
theorem Qwc{es:List Ent}(h:MapAt H w M0 es)(hH:∀b,H b->b<w)(hM:OkM es)(hc:es.length<=100000){f t:ByteArray}(hf:f.size<=maxLen)(ht:t.size<=100000000) :
  Calls prog 83 #[.pointer (some ⟨M0,0,none⟩),.string f,.string t] w (QvJ H w (QcA es f t)):=by
 obtain⟨i0,hi,l4,n6,p5⟩:=eG Tryz.Qa1;have c9:=hY (show ∀W,Nw w W->QvI H w es M0 W fromλW hW=>QvI.self h hH hW);have j5:=hY (show ∀k W,Nw w W->Calls prog 54 #[.pointer (some ⟨M0,0,none⟩),.string k] W (Qvi (Qam es k) W) fromλk W hW=>Qvu (Qpp h hW) hM.sorted k);obtain⟨-,sM,xM,k8,i6,f9⟩:=h;have g5:xM.length=es.length:=by rw[<-f9,ao]
 have p9:xM.length<=100000:=by omega
 have k6:=hY k8;have l7:=hY i6;have o5:=hY f9;have HH:=hY hH;have HM:=hY hM;have HF:=hY hf;obtain⟨r,hr⟩:∃r,QcA es f t=r:=⟨_,rfl⟩;rw[hr];have HR:=hY hr;have g0:=hY g5;clear hH hM k8 i6 f9 hf hr g5 hc;go_in;go_upto_region 3 with fail;generalize g9:World.alloc _ _=w0;obtain⟨k2,X,hz⟩:Ext w w0/\Blk w0 w.heap.size 55 #[.slice none 0 0]/\w0.heap.size=w.heap.size+1:=by rw[<-g9];exact⟨(fv w).alloc _ _,fA w _ _,ey _ _⟩
 have k5:=hY (show QvP H w es f t w0 0 Sl.none [] (λb=>H b\/b=w.heap.size)from
  ⟨rfl,rfl,(λx hx=>by cases hx),⟨.inr rfl,Sl.none,[],X,⟨Rd.nil _ _ _,λx h=>by simp at h,by decide⟩,rfl⟩,eI _ _ _ _,λb D=>.inl D,λb D=>D.imp id λe=>by omega,(λb D=>by exact D.elim (λh=>by have:=HH.o b h;omega) λh=>by omega),(λb D=>by simp[Sl.row,Sl.none]at D),fx k2⟩)
 clear g9 k2 X hz;go_wp2_with fail;go_loopw[9,10] (λv9 o2 wr=>∃(j:Nat) (s:Sl) (xs:List LE) (G:Nat->Prop),v9=.slice s.a xs.length s.c/\o2=.int .i64 (j:Int)/\j<=xM.length/\Yd (QvP H w es f t wr j s xs G)) (λ_ v _=>xM.length -(intOf v).toNat)
 case atStart=>exact⟨0,Sl.none,[],_,rfl,rfl,aw _,k5⟩
 obtain⟨j,s,xs,G,rfl,rfl,hj,z⟩:=hrel;have c0:wr.cell? ⟨M0,0,none⟩=some (.slice sM.a xM.length sM.c):=(z.o.nw.blk k6.o).cell 0;by_cases b5:j<xM.length
 ·have l1:(j:Int)<(xM.length:Int):=by omega
  have n2:decide ((j:Int)<(xM.length:Int))=true:=ej l1;have l0:(0:Int)<=(j:Int):=by omega
  obtain⟨y,hy⟩:∃y,xM[j]? = some y:=⟨_,ac b5⟩;obtain⟨b0,o0,d6,X,n7,l2,cK,d8,i3,b4⟩:=l7.o.at hy;have i4:es[j]? = some (y.k,y.v):=by rw[<-o5.o,aq,hy];rfl
  have j7:=hY (show ∀W,Nw w W->W.cell? ⟨b0,o0+j*7,none⟩=some (.string y.k)/\QaL W b0 (o0+j*7+1) y.v y.sl y.so fromλW hW=>⟨(fB hW (F:=Lt w) λb D=>D).cell X.1 |>.trans cK,d8.agree (fB hW (F:=Lt w) λb D=>D) X.1⟩);obtain⟨p6,k0⟩:=j7.o wr z.o.nw;have b6:=hY i4;have i1:=hY i3;have o7:=hY b4;have o8:=hY (show Calls prog 32 #[.string y.k,.string f] wr λe w'=>e=.returned (.bool (Qaj f y.k))/\wr=w' from Qi4 wr y.k f b4 HF.o);rw[d6]at c0;clear hy i4 i3 b4 d8 cK X;go_wp2_with fail;refine o8.o.mono ?_;rintro e w2 ⟨rfl,rfl⟩;rcases aO (Qaj f y.k)with D|D
  rotate_left
  ·have HB:=hY D
   rw[D];obtain⟨d0,d1,d2,d3,d4,d5⟩:=k0;have Z:=Qrv z.o.map z.o.below (QdS (HM.o.sorted.sublist (List.take_sublist j es)) f) (by have:(Qg6 (es.take j) f).length<=(es.take j).length:=bA _ _;rw[ap]at this;omega) o7.o (v:=y.v) (sl:=y.sl) (so:=y.so) ((i1.o.agree (fB z.o.nw λb D=>D.1)).mono λb D=>⟨Nat.lt_of_lt_of_le D.1 z.o.nw.size,λhg=>(z.o.low b hg).elim D.2 λh=>by have:=D.1;omega⟩);have b8:=hY Z;clear D Z;go_wp2_with fail;refine b8.o.mono ?_;rintro e w3 ⟨⟨rr,rfl⟩,j6,I⟩;have HN:=hY (z.o.keep HM.o.sorted b6.o HB.o j6 I);clear j6 I;go_wp2_with fail;go_roundw
   case measure=>simp[intOf];omega
   exact⟨j+1,s,xs,G,rfl,by go_num,b5,HN⟩
  have HB:=hY D;rw[D];clear D;have p1:=QvQ HB.o;have s1:((f.size:Nat):Int)<=(y.k.size:Int):=by omega
  have s0:(0:Int)<=((f.size:Nat):Int):=by omega
  have o3:y.k.size<=64:=Qe4 (HM.o.ok (y.k,y.v) (am b6.o)).1;have s2:¬9223372036854775807<t.size+(y.k.size-f.size):=by omega
  obtain⟨R,j3⟩:∃R,t++y.k.extract f.size y.k.size=R:=⟨_,rfl⟩;have a0:=hY (show QaF f t y.k=R from j3);have c7:R.size<=maxLen:=by have:=Qv9 f t y.k;rw[a0.o]at this;unfold maxLen;omega
  have j9:=hY (Qpd wr R c7);have f1:=hY c7;have o6:=hY (j5.o R wr z.o.nw);have p7:=hY (z.o);clear o3 c7 p1;go_upto_region 10 with fail;clear j3 s0 s1 s2;go_wp2_with fail;refine j9.o.mono ?_;rintro e w2 ⟨rfl,rfl⟩;by_cases b3:Qbd R=0
  rotate_left
  ·have p8:(Qbd R != 0)=true:=by simp [b3]
   have k4:=hY (HR.o.symm.trans (Qwz z.o.zero b6.o HB.o (by show Qbd (QaF f t y.k)≠0;rw[a0.o];exact b3)));have d7:=hY (c9.o _ z.o.nw);clear b3;go_wp2_with fail;go_ret2;exact⟨M0,by rw[k4.o]<;>rfl,by rw[k4.o];exact d7.o⟩
  have g8:=hY b3;rw[b3];clear b3;go_wp2_with fail;refine o6.o.mono ?_;rintro e w3 ⟨s1,s2,rfl,k1,-⟩;obtain⟨og,f6⟩:∃og,Qam es R=og:=⟨_,rfl⟩;rw[f6];have j4:=hY f6;have l3:=hY (fx k1);clear f6 k1;go_upto_region 13 with fail;generalize k7:World.alloc w3 _=w4;obtain⟨i5,-,-⟩:=Qcb k7;have a9:=hY (l3.o.trans (fx i5));have g7:=hY (show Calls prog 32 #[.string R,.string f] w4 λe w'=>e=.returned (.bool (Qaj f R))/\w4=w' from Qi4 w4 R f f1.o HF.o);clear k7 i5;by_cases N:(og.isSome && !Qaj f R)=true
  ·have g3:og.isSome=true:=by simp only [Bool.and_eq_true] at N;exact N.1
   have j1:Qaj f R=false:=by simp only[Bool.and_eq_true,Bool.not_eq_true']at N;exact N.2
   have e7:=hY (HR.o.symm.trans (Qwu z.o.zero b6.o HB.o (by show Qbd (QaF f t y.k)=0;rw[a0.o];exact g8.o) (by show((Qam es (QaF f t y.k)).isSome && !Qaj f (QaF f t y.k))=true;rw[a0.o,j4.o];exact N)));have d7:=hY (c9.o _ (z.o.nw.trans a9.o));have o1:=hY j1;rw[g3];clear N g3 j1;go_wp2_with fail;refine g7.o.mono ?_;rintro e w5 ⟨rfl,rfl⟩;rw[o1.o];go_wp2_with fail;go_ret2;exact⟨M0,by rw[e7.o]<;>rfl,by rw[e7.o];exact d7.o⟩
  have f4:=hY (show((Qam es (QaF f t y.k)).isSome && !Qaj f (QaF f t y.k))=false by rw[a0.o,j4.o];simpa using N);have g4:og.isSome=false\/(og.isSome=true/\Qaj f R=true):=by
   cases h1:og.isSome with
   |false=>exact .inl rfl
   | true=>cases h2:Qaj f R with
     |true=>exact .inr ⟨rfl,rfl⟩
     |false=>rw[h1,h2]at N;exact absurd rfl N
  clear N;go_cut [14,73] (λu v w'=>v=.bool false/\w'=w4)
  case first=>
   rcases g4 with h1 |⟨h1,h2⟩
   ·rw [h1]
    go_wp2_with fail;go_meet;exact⟨rfl,rfl⟩
   rw[h1];have H2:=hY h2;clear h1 h2;go_wp2_with fail;refine g7.o.mono ?_;rintro e w5 ⟨rfl,rfl⟩;rw[H2.o];go_wp2_with fail;go_meet;exact⟨rfl,rfl⟩
  obtain⟨rfl,hw⟩:=hcut;obtain rfl:w4=wc:=hw.symm;obtain⟨c0,c1,c2,c3,c4,c5⟩:=(j7.o w4 (z.o.nw.trans a9.o)).2;have m0:w4.cell? ⟨M0,0,none⟩=some (.slice (some ⟨b0,o0,none⟩) xM.length sM.c):=by
   have:=(fF (z.o.nw.trans a9.o) k6.o).cell 0;rw[d6]at this;exact this
  have p2:=hY (fA w4 70 (⟨R,y.v,y.sl,y.so⟩:LE).cells.toArray);have e3:Nw w4 (w4.alloc (.cells (⟨R,y.v,y.sl,y.so⟩:LE).cells.toArray 70)):=fx ((fv w4).alloc _ _);have n9:=hY e3;have p0:=hY (z.o.nwS (a9.o.trans e3)).own;have f2:xs.length<=xM.length:=by
   have h1:=congrArg List.length z.o.ents;rw[ao,ao]at h1;have h2:(Qca (es.take j) f).length<=(es.take j).length:=bA _ _;rw[ap]at h2;omega
  have p4:=hY (show xs.length+1<=maxLen by unfold maxLen;omega);have o4:=hY (show(xs.length+1)*104<=140737488355328 by omega);have k9:=hY (show w.heap.size+1<=(w4.alloc (.cells (⟨R,y.v,y.sl,y.so⟩:LE).cells.toArray 70)).heap.size from by have:=z.o.below _ z.o.map.hm;have:=(a9.o.trans e3).size;omega);clear e3 g4 f2;go_wp2_with(at_builtin;refine Qac _ rfl (.tmp 75) (.tmp 86) 22 rfl (w.heap.size+1) 70 i0 _ 7 104 underlying22 hi l4 n6 p5 rfl (by decide) s xs.length (Qai xs) rfl p0.o (λb=>b=w4.heap.size) ⟨some ⟨w4,0,none⟩,1⟩ 1 (⟨R,y.v,y.sl,y.so⟩:LE).cells rfl (fH p2.o (by decide) rfl) (LE.one _) p4.o o4.o k9.o ?_;intro s7 w9 c6 e6 j2;have l5:=hY c6;have l8:=hY e6;have o9:=hY j2;clear c6 e6 j2);go_roundw
  case measure=>simp[intOf];omega
  obtain⟨G',I⟩:=z.o.gone (x:=⟨R,y.v,y.sl,y.so⟩) b6.o HB.o (by show Qbd (QaF f t y.k)=0;rw[a0.o];exact g8.o) f4.o (by show(R,y.v)=(QaF f t y.k,y.v);rw[a0.o]) ⟨i1.o,f1.o⟩ (a9.o.trans n9.o) l5.o l8.o o9.o;exact⟨j+1,s7,xs++[⟨R,y.v,y.sl,y.so⟩],G',by rw[ak];rfl,by go_num,b5,hY I⟩
 obtain rfl:j=xM.length:=by omega
 have g1:decide ((xM.length:Int)<(xM.length:Int))=false:=eh (by omega);have I:=z.o;have U:=I.ents;have Y:=I.zero;have b7:=I.map;rw[g0.o,aM]at U Y b7;have i2:∀x∈xs,Qbd x.k=0/\Qbw x.v=0/\Qb4 x.v<=1100000:=λx hx=>by
  have h1:x.ent∈(Qca es f).map λe=>(QaF f t e.1,e.2):=by rw[<-U];exact cT hx
  obtain⟨e,he,h2⟩:=bE.1 h1;have h3:=QvY Y e he;have h4:=(HM.o.ok e (bI.1 he).1).2;have e1:QaF f t e.1=x.k:=congrArg Prod.fst h2;have e2:e.2=x.v:=congrArg Prod.snd h2;rw[e1]at h3;rw[e2]at h4;exact⟨h3,h4.2,al h4.cnt (by decide)⟩
 have f2:xs.length<=100000:=by
  have h1:=congrArg List.length U;rw[ao,ao]at h1;have h2:(Qca es f).length<=es.length:=bA _ _;have:=g0.o;omega
 have i8:(Qg6 es f).length<=100000:=by
  have h2:(Qg6 es f).length<=es.length:=bA _ _;have:=g0.o;omega
 have i9:r=(0,QaJ (Qg6 es f) (xs.map LE.ent)):=by
  rw[<-HR.o,U];unfold QcA;rw[ef (by simp[Y])]
 have j0:ES wr (Lt wr) s xs:=⟨(fE I.own).mono λb D=>D.2,λx hx=>⟨((I.vals x hx).1.agree (fB I.nw λb D=>D.1)).mono λb D=>ab D.1 I.nw.size,(I.vals x hx).2⟩,by omega⟩;have g6:=hY i9;have j8:=hY i2;have n8:=hY i8;have l6:=hY j0;have e0:=hY (show(∀b,H b->G b)/\(∀b,G b->H b\/w<=b)/\(∀b,G b->b<wr)/\MapAt G wr w.heap.size (QaJ (Qg6 es f) ((xs.take 0).map LE.ent))/\Nw wr wr from⟨I.sub,I.low,I.below,b7,fD _ _⟩);clear I U Y b7 i2 i8 i9 j0;obtain⟨w5,rfl⟩:∃w5,w5=wr:=⟨_,rfl⟩;go_wp2_with fail;go_loopw[8,15,16] (λv8 p3 l9 wq=>∃(j M':Nat) (G':Nat->Prop),v8=.pointer (some ⟨M',0,none⟩)/\p3=.int .i64 0/\l9=.int .i64 (j:Int)/\j<=xs.length/\Yd ((∀b,H b->G' b)/\(∀b,G' b->H b\/w<=b)/\(∀b,G' b->b<wq)/\MapAt G' wq M' (QaJ (Qg6 es f) ((xs.take j).map LE.ent))/\Nw w5 wq)) (λ_ _ v _=>xs.length -(intOf v).toNat)
 case atStart=>exact⟨0,w.heap.size,G,rfl,rfl,rfl,aw _,e0⟩
 obtain⟨j,M',G',rfl,rfl,rfl,hj,HQ⟩:=hrel;clear c0 g1;by_cases b5:j<xs.length
 ·have l1:(j:Int)<(xs.length:Int):=by omega
  have n2:decide ((j:Int)<(xs.length:Int))=true:=ej l1;have l0:(0:Int)<=(j:Int):=by omega
  obtain⟨x,hx⟩:∃x,xs[j]? = some x:=⟨_,ac b5⟩;obtain⟨b0,o0,d6,X,n7,l2,cK,d8,-,b4⟩:=l6.o.at hx;have k3:=(z.o.vals x (am hx)).1;obtain⟨f5,f7,i7⟩:=j8.o x (am hx);obtain⟨q1,q2,q3,q4,q5⟩:=HQ.o;have J:=hY (show ∀W,Nw wr W->W.cell? ⟨b0,o0+j*7,none⟩=some (.string x.k)/\W.cell? ⟨b0,o0+j*7+1,none⟩=some (.int .i64 x.v.kind)/\W.cell? ⟨b0,o0+j*7+1+1,none⟩=some (.bool x.v.b)/\W.cell? ⟨b0,o0+j*7+1+2,none⟩=some (.int .i64 x.v.i)/\W.cell? ⟨b0,o0+j*7+1+3,none⟩=some (.string x.v.t)/\W.cell? ⟨b0,o0+j*7+1+4,none⟩=some (.slice x.sl.a x.v.l.length x.sl.c)/\W.cell? ⟨b0,o0+j*7+1+5,none⟩=some (.slice x.so.a x.v.ok.length x.so.c)from
   λW hW=>by
    have ha:=fB (q5.trans hW) (F:=Lt w5) λb D=>D
    have h2:=d8.agree ha X;exact⟨(ha.cell X).trans cK,h2.c0,h2.c1,h2.c2,h2.c3,h2.c4,h2.c5⟩)
  have e4:Nw w wr:=z.o.nw.trans q5;have f0:setMu (QaJ (Qg6 es f) ((xs.take j).map LE.ent)) x.k x.v=(0,Qbq (QaJ (Qg6 es f) ((xs.take j).map LE.ent)) x.k x.v):=ed (QhU.2 ⟨f5,f7⟩) (QpS ⟨f5,f7⟩);have Z:∀W,Nw wr W->Calls prog 37 #[.pointer (some ⟨M',0,none⟩),.string x.k,Qbg x.v x.sl x.so] W λe w'=>∃M2,e=.returned (.tuple #[.pointer (some ⟨M2,0,none⟩),.int .i64 0])/\Qmr G' W (Qbq (QaJ (Qg6 es f) ((xs.take j).map LE.ent)) x.k x.v) M2 w':=λW hW=>by
   have h:=QpB (Qpp q4 hW) (λb D=>ab (q3 b D) hW.size) (QjW _ (QdS HM.o.sorted f)) (by have h1:=Qea ((xs.take j).map LE.ent) (Qg6 es f);rw[ao,ap]at h1;have:=n8.o;omega) b4 (v:=x.v) (sl:=x.sl) (so:=x.so) ((k3.agree (fB (e4.trans hW) λb D=>D.1)).mono λb D=>⟨Nat.lt_of_lt_of_le D.1 (e4.trans hW).size,λhg=>(q2 b hg).elim D.2 λh=>by have:=D.1;omega⟩) i7;rw[f0]at h;exact h
  have b8:=hY Z;have c8:QaJ (Qg6 es f) ((xs.take (j+1)).map LE.ent)=Qbq (QaJ (Qg6 es f) ((xs.take j).map LE.ent)) x.k x.v:=by
   rw[aT,hx,aL];show QaJ _ (_++[(x.k,x.v)])=_;rw[QeC]
  have f8:=hY c8;have q0:=e4.size;rw[d6];clear hx d6 X cK d8 b4 k3 f5 f7 i7 q1 q2 q3 q4 q5 e4 f0 Z c8;go_wp2_with fail;refine ez (S:=(λw'=>Nw wr w')) (by kernel_rfl) ((fx ((fv wr).drew))) (λhHeld=>?_);refine Qad 0 (some 99) J hHeld ?_;refine Qad 1 (some 100) J hHeld ?_;refine Qad 2 (some 101) J hHeld ?_;refine Qad 3 (some 102) J hHeld ?_;refine Qad 4 (some 103) J hHeld ?_;refine Qad 5 (some 104) J hHeld ?_;refine Qad 6 (some 105) J hHeld ?_;refine Qad 7 (some 106) J hHeld ?_;refine Qad 8 (some 107) J hHeld ?_;refine Qad 9 (some 108) J hHeld ?_;refine Qad 10 (some 109) J hHeld ?_;refine Qag (i:=11) (by kernel_rfl) rfl (by rfl) (λK hK=>?_);go_simp
  (have n4:=hY hHeld;refine(b8.o _ hHeld).mono ?_;rintro e w7 ⟨M2,rfl,e8⟩;have f3:=hY e8;clear e8)
  refine hK.out _ _ (hHeld.trans f3.o.nw) (λhHeld=>?_);clear hK K
  try simp only[Act.put,List.setIfInBounds_toArray,List.set_cons_zero,List.set_cons_succ]
  refine Qad 12 (some 98) J hHeld ?_;refine Qad 13 (some 111) J hHeld ?_;refine Qad 14 (some 112) J hHeld ?_;refine Qad 15 (some 8) J hHeld ?_;refine Qad 16 (some 15) J hHeld ?_;refine eE (by kernel_rfl) ?_ _;go_wp2_with fail;go_roundw
  case measure=>simp[intOf];omega
  obtain⟨q1,q2,q3,q4,q5⟩:=HQ.o;obtain⟨G2,a1,a2,a3,a4,a5,a6⟩:=f3.o;have z6:=n4.o.size;exact⟨j+1,M2,G2,rfl,rfl,by go_num,b5,hY ⟨λb D=>a1 b (q1 b D),λb D=>(a2 b D).elim (q2 b) λh=>.inr (by omega),a3,by rw[f8.o];exact a5,q5.trans hHeld⟩⟩
 obtain rfl:j=xs.length:=by omega
 have g1:decide ((xs.length:Int)<(xs.length:Int))=false:=eh (by omega);have d7:=hY (show QvI H w (QaJ (Qg6 es f) (xs.map LE.ent)) M' wr from by
  obtain⟨q1,q2,q3,q4,q5⟩:=HQ.o;rw[aM]at q4;exact⟨G',q1,q2,q3,q4,z.o.nw.trans q5⟩)
 go_wp2_with fail;go_ret2;exact⟨M',by rw[g6.o]<;>rfl,by rw[g6.o];exact d7.o⟩
theorem Qvj{M:Nat}{es:List Ent}(h:MapAt H w M es)(hso:Sorted es)(k:ByteArray)(had:Bool){was:Val}(hv:RV w (Lt w.heap.size) was sl so) :
  Calls prog 27 #[.pointer (some ⟨M,0,none⟩),.string k,.bool had,Qbg was sl so] w λe w'=>e=.returned (.bool (asM es k had was))/\Ext w w':=by
 obtain⟨r,hr⟩:∃r,asM es k had was=r:=⟨_,rfl⟩;rw[hr];unfold asM at hr;have HSO:=hY hso;have HV:=hY hv;have HR:=hY hr;have HM:=hY h;clear hso h hv hr;go_in;go_upto_region 1 with fail;generalize hW0:World.alloc _ _=W0;obtain⟨hx0,hb0⟩:Ext w W0/\Blk W0 w.heap.size 28 (Qlj was sl so):=by rw[<-hW0];exact⟨(fv w).alloc _ _,fA w _ _⟩
 have HG:=hY (Qvu (HM.o.ext hx0) HSO.o k);have HX0:=hY hx0;have HB0:=hY hb0;clear hW0 hx0 hb0;go_wp2_with fail;refine HG.o.mono ?_;rintro e w1 ⟨s1,s2,rfl,hx1,hv1⟩;have HX1:=hY (HX0.o.trans hx1);have HB1:=hY (HB0.o.ext hx1);obtain⟨og,hog⟩:∃og,Qam es k=og:=⟨_,rfl⟩;rw[hog]at hv1 HR ⊢;have HV1:=hY (hv1.mono λb hb=>ab hb hx1.size);clear hx1 hv1 hog HG HX0 HB0;cases og with
 | none=>
   have hr:(!had)=r:=HR.o;subst hr;cases had with
   | false=>
     go_wp2_with fail;go_ret;exact⟨rfl,HX1.o.alloc _ _⟩
   | true=>
     go_wp2_with fail;go_ret;exact⟨rfl,HX1.o.alloc _ _⟩
 | some x=>
   have hr:(had&&decide (Qbo x was=0))=r:=HR.o;cases had with
   | false=>
     have hr:false=r:=hr;subst hr;go_wp2_with fail;go_ret;exact⟨rfl,HX1.o.alloc _ _⟩
   | true=>
     have HR2:=hY hr;have hcall:∀W,Ext w1 W->Calls prog 55 #[Qbg x s1 s2,Qbg was sl so] W (QbX (Qbo x was) W):=λW hW=>
      Qof _ x was (an _) W s1 s2 sl so ((HV1.o.agree (hW.agree λb hb=>hb)).mono λb hb=>ab hb hW.size) ((HV.o.agree ((HX1.o.trans hW).agree λb hb=>hb)).mono λb hb=>ab hb (HX1.o.trans hW).size)
     have HC:=hY hcall;clear hr hcall;go_upto_region 2 with fail;generalize hW2:World.alloc w1 _=w2;obtain⟨hx2,hb2⟩:Ext w1 w2/\Blk w2 w1.heap.size 28 (Qlj x s1 s2):=by rw[<-hW2];exact⟨(fv w1).alloc _ _,fA w1 _ _⟩
     obtain⟨b0,b1,b2,b3,b4,b5⟩:=(HB1.o.ext hx2).c6;obtain⟨d0,d1,d2,d3,d4,d5⟩:=hb2.c6;have HX2:=hY hx2;clear hW2 hx2 hb2;go_wp2_with fail;refine(HC.o _ HX2.o).mono ?_;rintro e w3 ⟨rfl,hx3⟩;have HX3:=hY ((HX1.o.trans HX2.o).trans hx3);clear hx3;go_wp2_with fail;go_ret;refine⟨?_,HX3.o⟩;rw[<-HR2.o];by_cases hz:Qbo x was=0<;>simp[hz,Act.put]
theorem Qvr(a b c d e f:Prop):¬a\/(a/\¬b)\/(a/\b/\¬c)\/(a/\b/\c/\¬d)\/(a/\b/\c/\d/\¬e)\/(a/\b/\c/\d/\e/\¬f)\/(a/\b/\c/\d/\e/\f):=by
 by_cases a<;>by_cases b<;>by_cases c<;>by_cases d<;>by_cases e<;>by_cases f<;>simp[*]
theorem Qva(w:World)(v:Val)(sl so:Sl):Calls prog 193 #[Qbg v sl so,Qbg zeroV Sl.none Sl.none] w λe w'=>e=.returned (.bool (Qel v))/\Ext w w':=by
 obtain⟨k,b,i,t,l,J,ov⟩:=v;show Calls _ _ #[.agg #[.int .i64 k,.bool b,.int .i64 i,.string t,.slice sl.a l.length sl.c,.slice so.a J.length so.c],.agg #[.int .i64 0,.bool false,.int .i64 0,.string ByteArray.empty,.slice none 0 0,.slice none 0 0]] _ λe w'=>e=.returned (.bool (k==0 && !b&&i==0&&t.size==0&&l.length==0&&J.length==0))/\Ext w w'
 have X:=((fv w).alloc #[.int .i64 k,.bool b,.int .i64 i,.string t,.slice sl.a l.length sl.c,.slice so.a J.length so.c] 28).alloc #[.int .i64 0,.bool false,.int .i64 0,.string ByteArray.empty,.slice none 0 0,.slice none 0 0] 28;have z:=hY X;clear X;rcases Qvr (k=0) (b=false) (i=0) (t.size=0) (l.length=0) (J.length=0)with h |⟨h1,h⟩ |⟨h1,h2,h⟩ |⟨h1,h2,D,h⟩ |⟨h1,h2,D,I,h⟩ |⟨h1,h2,D,I,N,h⟩ |⟨h1,h2,D,I,N,Y⟩
 ·have g:(k == 0)=false:=eu.2 h
  have R:(k != 0)=true:=eL.2 h;go_in;go_wp2_with fail;go_ret;exact⟨by simp[h],z.o⟩
 ·subst h1
  obtain rfl:b=true:=by simpa using h
  go_in;go_wp2_with fail;go_ret;exact⟨by simp,z.o⟩
 ·subst h1 h2
  have g:(i==0)=false:=eu.2 h;have R:(i != 0)=true:=eL.2 h;go_in;go_wp2_with fail;go_ret;exact⟨by simp[h],z.o⟩
 ·subst h1 h2 D
  have g:=Qbx h;go_in;go_wp2_with fail;go_ret;exact⟨by simp[h],z.o⟩
 ·subst h1 h2 D
  have U:=Qbc I;have g:((l.length:Int)==0)=false:=eu.2 (by omega);have R:((l.length:Int) != 0)=true:=eL.2 (by omega);go_in;go_wp2_with fail;go_ret;exact⟨by simp[h],z.o⟩
 ·subst h1 h2 D
  have U:=Qbc I;obtain rfl:=bV.1 N;have g:((J.length:Int)==0)=false:=eu.2 (by omega);have R:((J.length:Int) != 0)=true:=eL.2 (by omega);go_in;go_wp2_with fail;go_ret;exact⟨by simp[h],z.o⟩
 subst h1 h2 D;have U:=Qbc I;obtain rfl:=bV.1 N;obtain rfl:=bV.1 Y;have HT:=hY I;clear I N Y;go_in;go_wp2_with fail;go_loopw[5] (λZ wr=>Z=.int .i64 0/\Yd (Ext w wr)/\wr=(w.alloc (.cells #[.int .i64 0,.bool false,.int .i64 0,.string t,.slice sl.a 0 sl.c,.slice so.a 0 so.c] 28)).alloc (.cells #[.int .i64 0,.bool false,.int .i64 0,.string ByteArray.empty,.slice none 0 0,.slice none 0 0] 28)) (λ_ _=>0)
 case atStart=>exact⟨rfl,z,rfl⟩
 obtain⟨rfl,HY,rfl⟩:=hrel;go_wp2_with fail;go_loopw[6] (λv6 wr=>v6=.int .i64 0/\Yd (Ext w wr)/\wr=(w.alloc (.cells #[.int .i64 0,.bool false,.int .i64 0,.string t,.slice sl.a 0 sl.c,.slice so.a 0 so.c] 28)).alloc (.cells #[.int .i64 0,.bool false,.int .i64 0,.string ByteArray.empty,.slice none 0 0,.slice none 0 0] 28)) (λ_ _=>0)
 case atStart=>exact⟨rfl,z,rfl⟩
 obtain⟨rfl,HZ,rfl⟩:=hrel;go_wp2_with fail;go_ret;exact⟨by simp[HT.o],z.o⟩
theorem Qu5(w:World)(v:Val)(sl so:Sl):Calls prog 136 #[Qbg v sl so] w λe w'=>e=.returned (.bool (Qel v))/\Ext w w':=by
 obtain⟨k,b,i,t,l,z,J⟩:=v;have I:=λW=>Qva W (.mk k b i t l z J) sl so
 have N:=hY I;have R:=hY ((fv w).alloc #[.int .i64 k,.bool b,.int .i64 i,.string t,.slice sl.a l.length sl.c,.slice so.a z.length so.c] 28);clear I;show Calls _ _ #[.agg #[.int .i64 k,.bool b,.int .i64 i,.string t,.slice sl.a l.length sl.c,.slice so.a z.length so.c]] _ _;go_in;go_wp2_with fail;refine(N.o _).mono ?_;rintro e w' ⟨rfl,D⟩;have U:=hY (R.o.trans D);clear D;go_wp2_with fail;go_ret;exact⟨rfl,U.o⟩
theorem Qvo(t:ByteArray):(t.size==0)=t.toList.isEmpty:=by
 by_cases h:t.size=0
 .rw [Qbc h];simp[h]
 rw[Qbx h];simp[h]
theorem len_nil(n:Nat):(n==0)=((n:Int)==0):=by
 by_cases h:n=0
 .simp [h]
 rw[eu.2 h,eu.2 (by omega)]
theorem Qu6(m:Mu):Qal m=(decide (1<=m.kd/\m.kd<=7)&&(m.kd==6||m.tk.toList.isEmpty)&&(m.kd==3||m.i==0)&&(m.kd==4||m.kd==7 || !m.had)&&(m.kd==4 || !m.has)&&(m.had||Qel m.was)&&(Qhx m.kd m.has||Qel m.v)&&(m.kd==7 ||((m.l.length:Int)==0))):=by
 unfold Qal Qbv Qhx;rw[Qvo,len_nil]
theorem Qu0{p q r:Prop}(h:p\/q)(k:r):q\/(p/\r):=h.elim (λz=>.inr ⟨z,k⟩) .inl
theorem Qu7{p q r s:Prop}(h:p\/q)(k:r)(l:s):(p/\r)\/(q/\s):=h.elim (λD=>.inl ⟨D,k⟩) λz=>.inr ⟨z,l⟩
theorem bt(b:Bool):b=true\/b=false:=by cases b<;>simp
theorem bf(b:Bool):b=false\/b=true:=by cases b<;>simp
theorem kinds{k:Int}{s:Bool}(h:1<=k/\k<=7){A B C D E F:Prop}(a:A)(b:B)(c:C)(d:D)(e:E)(f:F) :
  ((k==6)=false/\(k==3)=false/\(k==4)=false/\(k==7)=false/\Qhx k s=true/\A)\/
  ((k==6)=false/\(k==3)=false/\(k==4)=false/\(k==7)=false/\Qhx k s=false/\B)\/
  ((k==6)=false/\(k==3)=true/\(k==4)=false/\(k==7)=false/\Qhx k s=false/\C)\/
  ((k==6)=false/\(k==3)=false/\(k==4)=true/\(k==7)=false/\Qhx k s=s/\D)\/
  ((k==6)=true/\(k==3)=false/\(k==4)=false/\(k==7)=false/\Qhx k s=false/\E)\/
  ((k==6)=false/\(k==3)=false/\(k==4)=false/\(k==7)=true/\Qhx k s=false/\F):=by
 have z:k=1\/k=2\/k=3\/k=4\/k=5\/k=6\/k=7:=by omega
 rcases z with rfl|rfl|rfl|rfl|rfl|rfl|rfl<;>simp[Qhx,a,b,c,d,e,f]
theorem Qu9(w:World)(m:Mu)(c:MuS):Calls prog 89 #[QaG m c] w λe w'=>e=.returned (.bool (Qal m))/\Ext w w':=by
 obtain⟨r,hr⟩:∃r,Qal m=r:=⟨_,rfl⟩;rw[hr];obtain⟨vl,b0⟩:∃b,Qhx m.kd m.has=b:=⟨_,rfl⟩;rw[Qu6,b0]at hr;have HR:=hY hr;have d0:=hY λW=>Qu5 W m.was c.w1 c.w2
 have d3:=hY λW=>Qu5 W m.v c.v1 c.v2
 clear hr;obtain⟨gd,b6⟩:∃b,(m.kd==4||m.kd==7)=b:=⟨_,rfl⟩;have HG:=hY b6;have HL:=hY b0;clear b6 b0;go_in;go_upto_region 1 with fail;generalize b5:World.alloc _ _=W0;obtain⟨b7,b3,-⟩:=Qaz (m:=m) (c:=c) b5;have N:=hY b7;have U:=hY b3;have c0:=b3.kind;clear b5 b7 b3;by_cases z:m.kd<1
 ·have g:decide (m.kd<1)=true:=ej z
  have HO:=hY z;clear z;go_wp2_with fail;go_ret;exact⟨by rw[<-HR.o,eh (λh=>by have:=HO.o;omega)]<;>rfl,N.o⟩
 by_cases Z:7<m.kd
 ·have g:decide (m.kd<1)=false:=eh z
  have g':decide (7<m.kd)=true:=ej Z;have HO:=hY Z;clear z Z;go_wp2_with fail;go_ret;exact⟨by rw[<-HR.o,eh (λh=>by have:=HO.o;omega)]<;>rfl,N.o⟩
 have g:decide (m.kd<1)=false:=eh z;have g':decide (7<m.kd)=false:=eh Z;have HK:=hY (show 1<=m.kd/\m.kd<=7 by omega);have HD:=hY (ej HK.o);rw[HD.o]at HR;clear z Z HD;go_upto_region 4 with fail;clear g g' c0;go_cut [4] (λv w'=>v=.bool gd/\w'=W0)
 case first=>
  cases J:(m.kd==4)with
  |true=>go_wp2_with fail;go_meet;case rel=>exact⟨by rw[<-HG.o];simp[J],rfl⟩
  |false=>cases h7:(m.kd==7) <;>(go_wp2_with fail;go_meet;case rel=>exact⟨by rw[<-HG.o];simp[J,h7],rfl⟩)
 obtain⟨hv,hw⟩:=hcut;subst hv;obtain rfl:W0=wc:=hw.symm;have I:=U.o.c11;go_upto_region 5 with fail;go_cut [5] (λv w'=>v=.bool vl/\w'=W0)
 case first=>
  cases h1:(m.kd==1)with
  |true=>go_wp2_with fail;go_meet;case rel=>exact⟨by rw[<-HL.o];simp[Qhx,h1],rfl⟩
  | false=>cases h5:(m.kd == 5) with
    |true=>go_wp2_with fail;go_meet;case rel=>exact⟨by rw[<-HL.o];simp[Qhx,h1,h5],rfl⟩
    |false=>cases J:(m.kd==4) <;>(go_wp2_with fail;go_meet;case rel=>exact⟨by rw[<-HL.o];simp[Qhx,h1,J,h5],rfl⟩)
 obtain⟨hv,hw⟩:=hcut;subst hv;obtain rfl:W0=wc:=hw.symm;clear I;obtain⟨c0,c1,c2,c3,c4,c5,c6,c7,c8,c9,a3,I,a5,a4,a1,a2,a9,a0,a6⟩:=U.o.c19;simp only[Nat.zero_add]at c0 c1 c2 c3 c4 c5 c6 c7 c8 c9 a3 I a5 a4 a1 a2 a9 a0 a6;have X:=Qu7 (bt m.has) (bt ((m.l.length:Int)==0)) (Qu0 (bt (Qel m.v)) (bt ((m.l.length:Int)==0)));have zl:=Qu0 (bt (Qel m.was)) (Qu0 (bt (Qel m.v)) (bt ((m.l.length:Int)==0)));have hz:=Qu0 (bf m.had) (Qu0 (bf m.has) zl);have cP:=Qu0 (bt m.tk.toList.isEmpty) (Qu0 (bt (m.i==0)) (Qu0 (bf m.had) (Qu0 (bf m.has) (Qu0 (bt (Qel m.was)) (bt ((m.l.length:Int)==0))))));have cD:=Qu0 (bt m.tk.toList.isEmpty) (Qu0 (bt (m.i==0)) hz);have cI:=Qu0 (bt m.tk.toList.isEmpty) hz;have cM:=Qu0 (bt (m.i==0)) hz;have cC:=Qu0 (bt m.tk.toList.isEmpty) (Qu0 (bt (m.i==0)) (Qu7 (bt m.had) X (Qu0 (bt (Qel m.was)) X)));have cS:=Qu0 (bt m.tk.toList.isEmpty) (Qu0 (bt (m.i==0)) (Qu0 (bf m.has) (Qu7 (bt m.had) (bt (Qel m.v)) (Qu0 (bt (Qel m.was)) (bt (Qel m.v))))));have b8:=kinds (s:=m.has) HK.o cP cD cI cC cM cS;clear X zl hz cP cD cI cM cC cS;rcases b8 with⟨h6,h3,J,h7,hV,g1 |⟨g1,g2 |⟨g2,R |⟨R,D |⟨D,Y |⟨Y,g|g⟩⟩⟩⟩⟩⟩ |
  ⟨h6,h3,J,h7,hV,g1 |⟨g1,g2 |⟨g2,R |⟨R,D |⟨D,Y |⟨Y,g6 |⟨g6,g|g⟩⟩⟩⟩⟩⟩⟩ |
  ⟨h6,h3,J,h7,hV,g1 |⟨g1,R |⟨R,D |⟨D,Y |⟨Y,g6 |⟨g6,g|g⟩⟩⟩⟩⟩⟩ |
  ⟨h6,h3,J,h7,hV,g1 |⟨g1,g2 |⟨g2,⟨R,⟨D,g|g⟩ |⟨D,g6 |⟨g6,g|g⟩⟩⟩ |⟨R,Y |⟨Y,⟨D,g|g⟩ |⟨D,g6 |⟨g6,g|g⟩⟩⟩⟩⟩⟩⟩ |
  ⟨h6,h3,J,h7,hV,g2 |⟨g2,R |⟨R,D |⟨D,Y |⟨Y,g6 |⟨g6,g|g⟩⟩⟩⟩⟩⟩ |
  ⟨h6,h3,J,h7,hV,g1 |⟨g1,g2 |⟨g2,D |⟨D,⟨R,g6|g6⟩ |⟨R,Y |⟨Y,g6|g6⟩⟩⟩⟩⟩⟩
 all_goals (
  have hG:=HG.o;have hU:=HL.o;rw[J,h7]at hG;rw[hV]at hU;subst hG hU;go_wp2_with fail
  repeat (
   first|refine(d0.o _).mono ?_|refine(d3.o _).mono ?_
   rintro e W1 ⟨rfl,b4⟩
   replace N:=hY (N.o.trans b4)
   replace U:=hY (U.o.ext b4)
   clear b4 c0 c1 c2 c3 c4 c5 c6 c7 c8 c9 a3 I a5 a4 a1 a2 a9 a0 a6;obtain⟨c0,c1,c2,c3,c4,c5,c6,c7,c8,c9,a3,I,a5,a4,a1,a2,a9,a0,a6⟩:=U.o.c19;simp only[Nat.zero_add]at c0 c1 c2 c3 c4 c5 c6 c7 c8 c9 a3 I a5 a4 a1 a2 a9 a0 a6;go_wp2_with fail)
  go_ret;have hR:=HR.o;simp only[h6,h3,J,h7,hV, *,Bool.and_true,Bool.true_and,Bool.false_and,Bool.and_false,Bool.or_true,Bool.true_or,Bool.false_or,Bool.or_false,Bool.not_true,Bool.not_false]at hR;subst hR;exact⟨by simp[Act.put]<;>rfl,N.o⟩)
theorem Qu3(w:World)(p:ByteArray):Calls prog 137 #[.string p] w λe w'=>e=.returned (.bool (Qf8 p))/\w'=w:=by
 by_cases h:p.size<=64
 ·have z:Qf8 p=Lib.validD p.data.toList:=by unfold Qf8;rw [ej h];rfl
  have HB:=hY z;have D:=hY (Qds w p (by omega));have g:((p.size:Int)<=64):=by omega
  clear z h;go_in;go_wp2_with fail;refine D.o.mono ?_;rintro e w' ⟨rfl,rfl⟩;go_wp2_with fail;go_ret;exact⟨by rw[HB.o]<;>rfl,rfl⟩
 have z:Qf8 p=false:=by unfold Qf8;rw[eh h];rfl
 have HB:=hY z;have g:¬((p.size:Int)<=64):=by omega
 clear z h;go_in;go_wp2_with fail;go_ret;exact⟨by rw[HB.o]<;>rfl,rfl⟩
theorem Qvf(w:World)(m:Mu)(c:MuS)(hk:m.k.size<=maxLen):Calls prog 90 #[QaG m c] w λe w'=>e=.returned (.bool (QfU m.kd m.k m.tk m.had))/\Ext w w':=by
 by_cases U:m.kd=6
 ·have X:QfU m.kd m.k m.tk m.had=(Qf8 m.k && Qf8 m.tk):=by unfold QfU;rw [em U]
  have Y:=hY X;have e6:(m.kd==6)=true:=by simp[U]
  clear X U hk;go_in;go_upto_region 1 with fail;generalize I:World.alloc _ _=W0;obtain⟨D,z,R⟩:=Qaz (m:=m) (c:=c) I;have J:=hY D;have c0:=z.kind;have c1:=z.c1;have c2:=z.c2;clear I D z R;go_wp2_with fail;refine(Qu3 W0 m.k).mono ?_;rintro e w1 ⟨rfl,rfl⟩;rcases aO (Qf8 m.k)with Z|Z
  ·have HB:=hY Z
   rw[Z];clear Z;go_wp2_with fail;refine(Qu3 _ m.tk).mono ?_;rintro e w2 ⟨rfl,rfl⟩;go_wp2_with fail;go_ret;exact⟨by rw[Y.o,HB.o]<;>rfl,J.o⟩
  have HB:=hY Z;rw[Z];clear Z;go_wp2_with fail;go_ret;exact⟨by rw[Y.o,HB.o]<;>rfl,J.o⟩
 have e6:(m.kd==6)=false:=by simp[U]
 by_cases N:m.kd=7/\m.k.size=0
 ·have e7:(m.kd == 7)=true:=by simp [N.1]
  have X:QfU m.kd m.k m.tk m.had=!m.had:=by unfold QfU;rw[ef U,em N]
  have Y:=hY X;have g0:=Qbc N.2;clear X U hk N;go_in;go_upto_region 1 with fail;generalize I:World.alloc _ _=W0;obtain⟨D,z,R⟩:=Qaz (m:=m) (c:=c) I;have J:=hY D;have c0:=z.kind;have c1:=z.c1;have c4:=z.c4;clear I D z R;go_wp2_with fail;go_ret;exact⟨by rw[Y.o]<;>rfl,J.o⟩
 have X:QfU m.kd m.k m.tk m.had=(Qbd m.k==0):=by unfold QfU;rw[ef U,ef N]
 have Y:=hY X;have HM:=hY λW=>Qpd W m.k hk
 have a0:(m.kd==7)=false\/(m.kd==7)=true/\¬m.k.size=0:=by
  by_cases h7:m.kd=7
  .exact .inr ⟨by simp[h7],λh=>N ⟨h7,h⟩⟩
  exact .inl (by simp[h7])
 clear X U N hk;rcases a0 with e7 |⟨e7,h0⟩
 ·go_in
  go_upto_region 1 with fail;generalize I:World.alloc _ _=W0;obtain⟨D,z,R⟩:=Qaz (m:=m) (c:=c) I;have J:=hY D;have c0:=z.kind;have c1:=z.c1;clear I D z R;go_wp2_with fail;refine(HM.o _).mono ?_;rintro e w1 ⟨rfl,rfl⟩;go_wp2_with fail;go_ret;exact⟨by rw[Y.o]<;>rfl,J.o⟩
 have g0:=Qbx h0;clear h0;go_in;go_upto_region 1 with fail;generalize I:World.alloc _ _=W0;obtain⟨D,z,R⟩:=Qaz (m:=m) (c:=c) I;have J:=hY D;have c0:=z.kind;have c1:=z.c1;clear I D z R;go_wp2_with fail;refine(HM.o _).mono ?_;rintro e w1 ⟨rfl,rfl⟩;go_wp2_with fail;go_ret;exact⟨by rw[Y.o]<;>rfl,J.o⟩
theorem Qu8(n:Nat):∀(m:Mu) (c:MuS) (w:World),SizeOf.sizeOf m<=n->RMu w (Lt w) m c->QaT m<=1100000->Calls prog 52 #[QaG m c] w λe w'=>e=.returned (.int .i64 (QaT m:Int))/\Ext w w':=by
 induction n with
 |zero=>intro m c w h;have:=Mu.Qb7 m;omega
 | succ n ih=>
   intro m c w hn hm hs;have HI:=hY ih;have HM:=hY hm;have c0:=hm.len;have a0:=hY (Qgn m);have HS:=hY hs;have HN:=hY hn;clear ih hm hs hn;go_in;go_upto_region 1 with fail;generalize J:World.alloc _ _=W0;obtain⟨a3,a6,-⟩:=Qaz (m:=m) (c:=c) J;have b3:=hY a3;have b4:w.heap.size<W0.heap.size:=by rw[<-J,ey];omega
   have b5:W0.cell? ⟨w,8+10,none⟩=some (.slice c.s.a m.l.length c.s.c):=a6 18 _ rfl;clear J a3 a6;go_wp2_with fail;go_loopw[3,4] (λv3 v4 wr=>∃j:Nat,v4=.int .i64 (j:Int)/\v3=.int .i64 ((1+QaC (m.l.take j):Nat):Int)/\j<=m.l.length/\Yd (Ext W0 wr)) (λ_ v _=>m.l.length -(intOf v).toNat)
   case atStart=>exact⟨0,rfl,by simp[QaC],aw _,hY (fv W0)⟩
   obtain⟨j,rfl,rfl,hj,N⟩:=hrel;have a4:wr.cell? ⟨w,8+10,none⟩=some (.slice c.s.a m.l.length c.s.c):=(N.o.cell b4).trans b5;have HX:=hY (b3.o.trans N.o);by_cases X:j<m.l.length
   ·have l1:(j:Int)<(m.l.length:Int):=by omega
    have c2:decide ((j:Int)<(m.l.length:Int))=true:=ej l1;have l0:(0:Int)<=(j:Int):=by omega
    obtain⟨x,hx⟩:∃x,m.l[j]? = some x:=⟨_,ac X⟩;obtain⟨b,o,y,a9,I,c3,c1,a5,U⟩:=HM.o.at hx;have I:b<w:=I;have Y:=hY (a5.agree (HX.o.agree λ_ h=>h) I);have b0:QaT x<=QaC m.l:=by
     have h1:=Qdm hx;have h2:=Qfb m.l (j+1);omega
    have Z:1+QaC m.l<=1100000:=by rw[<-a0.o];exact HS.o
    have z:=HI.o x y wr (by have:=Mu.QtV hx;have:=HN.o;omega) ((U.agree (HX.o.agree λ_ h=>h)).mono λb hb=>ab hb HX.o.size) (by omega);have R:=hY z;have b8:=hY (Qdm hx);have D:=Qfb m.l (j+1);have a1:wrap64 (1+(QaC (m.l.take j):Int)+(QaT x:Int))=((1+QaC (m.l.take (j+1)):Nat):Int):=by
     unfold wrap64;rw[b8.o]at D ⊢;omega
    have b6:=hY a1;rw[a9]at a4;clear U a5 b0 Z z D a1 hx;go_wp2_with(refine Qak rfl (.tmp 16) rfl b (o+j*19) rfl x y Y.o ?_);refine R.o.mono ?_;rintro e w2 ⟨rfl,a2⟩;have b7:=hY (N.o.trans a2);clear a2;go_wp2_with fail;go_roundw
    case rel=>exact⟨j+1,by go_num,by rw[b6.o],X,b7⟩
    simp[intOf];omega
   obtain rfl:j=m.l.length:=by omega
   have l1:decide ((m.l.length:Int)<(m.l.length:Int))=false:=eh (by omega);have HT:=hY (show((1+QaC (m.l.take m.l.length):Nat):Int)=(QaT m:Int)by rw[aM,a0.o]);go_wp2_with fail;go_ret;exact⟨by rw[HT.o]<;>rfl,HX.o⟩
theorem Qvc{m:Mu}(h:RMu w (Lt w) m c)(hs:QaT m<=1100000):Calls prog 52 #[QaG m c] w λe w'=>e=.returned (.int .i64 (QaT m:Int))/\Ext w w':=Qu8 _ m c w (an _) h hs
theorem Qvk{m:Mu}(h:Qal m=true):(m.has||m.kd==1||m.kd==5)=Qhx m.kd m.has:=by
 rw[Qu6]at h;simp only[Bool.and_eq_true]at h;obtain⟨⟨⟨⟨-,h⟩,-⟩,-⟩,-⟩:=h;unfold Qhx;cases hs:m.has
 .simp
 rw[hs]at h;have:m.kd=4:=by simpa using h
 simp[this]
theorem Qu4{m:Mu}{d:Nat}(hd:d<=7)(hm:RMu w (Lt w) m c)(ht:QcF m<=1100000)
  (ih:d<=6->∀(x:Mu) (y:MuS) (W:World),RMu W (Lt W) x y->QcF x<=1100000->Calls prog 53 #[QaG x y,.int .i64 ((d+1:Nat):Int)] W λe w'=>e=.returned (.int .i64 (QaW x (d+1)))/\Ext W w') :
  Calls prog 53 #[QaG m c,.int .i64 (d:Int)] w λe w'=>e=.returned (.int .i64 (QaW m d))/\Ext w w':=by
 have HI:=hY ih;have HM:=hY hm;have HT:=hY ht;have HD:=hY hd;clear ih hm ht hd;go_in;go_upto_region 1 with fail;generalize b8:World.alloc _ _=W0;obtain⟨e0,c3,f4⟩:=Qaz (m:=m) (c:=c) b8;have f5:=hY e0;have d6:=hY c3;clear b8 e0 c3 f4;go_wp2_with(refine Qak rfl (.tmp 2) rfl w.heap.size 0 rfl m c d6.o ?_);refine(Qu9 _ m c).mono ?_;rintro e w1 ⟨rfl,b0⟩;have b5:=hY (f5.o.trans b0);have b7:=hY (d6.o.ext b0);clear b0;rcases aO (Qal m)with hb|hb
 rotate_left
 ·have J:=hY (Quo (d:=d) hb)
  rw[hb];clear hb;go_wp2_with fail;go_ret;exact⟨by rw[J.o]<;>rfl,b5.o⟩
 have I:=hY hb;rw[hb];clear hb;by_cases h6:6<d
 ·have g:decide ((6:Int)<(d:Int))=true:=ej (by omega)
  have J:=hY (Qum (d:=d) I.o h6);clear h6;go_wp2_with fail;go_ret;exact⟨by rw[J.o]<;>rfl,b5.o⟩
 have H6:=hY h6;have g6:decide ((6:Int)<(d:Int))=false:=eh (by omega);clear h6;go_wp2_with(refine Qak rfl (.tmp 2) rfl w.heap.size 0 rfl m c b7.o ?_);refine(Qvf _ m c HM.o.parts.2.2.1).mono ?_;rintro e w3 ⟨rfl,a2⟩;have Y:=hY (b5.o.trans a2);have a3:=hY (b7.o.ext a2);clear a2 g6;rcases aO (QfU m.kd m.k m.tk m.had)with hk|hk
 rotate_left
 ·have J:=hY (Qun (d:=d) I.o H6.o hk)
  rw[hk];clear hk;go_wp2_with fail;go_ret;exact⟨by rw[J.o]<;>rfl,Y.o⟩
 have HK:=hY hk;rw[hk];clear hk;have e6:∀W,Ext w W->RMu W (Lt W) m c:=λW hW=>HM.o.nw (fx hW)
 have e7:=hY e6;clear e6;have c4:=a3.o.c4;obtain⟨c5,c6,c7,c8,c9,g3⟩:=a3.o.QnS;go_upto_if 18 with fail;go_cut [] (λwc=>Ext w3 wc/\(m.had&&Qbw m.was != 0)=false)
 case first=>
  rcases aO m.had with hh|hh
  ·rw [hh]
   go_wp2_with fail;refine(QmM (d:=m.was) (e7.o _ Y.o).parts.1 (al (Qka m).2 HT.o)).mono ?_;rintro e w4 ⟨rfl,Z⟩;have R:=hY (Y.o.trans Z);have f1:=hY Z;by_cases D:Qbw m.was=0
   ·have HF:=hY D
    rw[D];clear D hh Z;go_wp2_with fail;go_meet;exact⟨f1.o,by rw[HF.o];simp⟩
   have HF:=hY D;have J:=hY (lookW (d:=d) I.o H6.o HK.o hh D);have g0:(Qbw m.was != 0)=true:=by simp[D]
   clear D hh Z;go_wp2_with fail;go_ret;exact⟨by rw[J.o]<;>rfl,R.o⟩
  rw[hh];go_wp2_with fail;go_meet;exact⟨fv _,by rw[hh];rfl⟩
 obtain⟨a6,hs⟩:=hcut;have R:=hY (Y.o.trans a6);have HS:=hY hs;have X:=hY (a3.o.ext a6);clear a6 hs c4 c5 c6 c7 c8 c9 g3;have c0:=X.o.kind;have g4:=X.o.c11;obtain⟨g9,g7,f7,f8,i1,f0⟩:=X.o.v6;have b3:=Qvk I.o;obtain⟨vl,a4⟩:∃b,Qhx m.kd m.has=b:=⟨_,rfl⟩;have d0:=hY a4;rw[a4]at b3;have g5:=hY b3;clear b3 a4;go_upto_region 11 with fail;go_cut [36] (λv w'=>v=.bool vl/\w'=wc)
 case first=>
  have e8:(m.has=true/\vl=true)\/(m.has=false/\(m.kd==1)=true/\vl=true)\/(m.has=false/\(m.kd==1)=false/\(m.kd==5)=true/\vl=true)\/(m.has=false/\(m.kd==1)=false/\(m.kd==5)=false/\vl=false):=by
   have h:=g5.o;cases h1:m.has<;>cases h2:(m.kd==1)<;>cases h3:(m.kd==5)<;>rw[h1,h2,h3]at h<;>simp_all
  rcases e8 with⟨e1,U⟩ |⟨e1,e2,U⟩ |⟨e1,e2,e3,U⟩ |⟨e1,e2,e3,U⟩
  all_goals (
   have EV:=hY U;clear U;go_wp2_with fail;go_meet;exact⟨by rw[EV.out],rfl⟩)
 obtain⟨hv,hw⟩:=hcut;subst hv;clear c0 g4;rename_i wz;subst hw;go_upto_if 36 with fail;go_cut [] (λw'=>Ext wc w'/\(vl&&Qbw m.v != 0)=false)
 case first=>
  rcases aO vl with U|U
  ·rw [U]
   go_wp2_with fail;refine(QmM (d:=m.v) (e7.o _ R.o).parts.2.1 (al (Qka m).1 HT.o)).mono ?_;rintro e w5 ⟨rfl,a1⟩;have a5:=hY (R.o.trans a1);have f6:=hY a1;by_cases D:Qbw m.v=0
   ·have HF:=hY D
    rw[D];clear D a1;go_wp2_with fail;go_meet;exact⟨f6.o,by rw[HF.o];simp⟩
   have HF:=hY D;have J:=hY (Quq (d:=d) I.o H6.o HK.o HS.o (d0.o.trans U) D);have g0:(Qbw m.v != 0)=true:=by simp[D]
   clear D a1;go_wp2_with fail;go_ret;exact⟨by rw[J.o]<;>rfl,a5.o⟩
  rw[U];go_wp2_with fail;go_meet;exact⟨fv _,by rw[U];rfl⟩
 obtain⟨a0,d5⟩:=hcut;have a5:=hY (R.o.trans a0);have i0:wc.cell? ⟨w,8+10,none⟩=some (.slice c.s.a m.l.length c.s.c):=(X.o.ext a0) 18 _ rfl;have g8:w.heap.size<wc.heap.size:=(X.o.ext a0).lt;have HC:=hY (Qup I.o H6.o HK.o HS.o (by rw[d0.o];exact d5));have i2:=HM.o.len;have d7:wrap64 ((d:Int)+1)=((d+1:Nat):Int):=by
  have:=H6.o;unfold wrap64;omega
 have f2:=hY d7;clear a0 d5 g9 g7 f7 f8 i1 f0 d7;go_wp2_with fail;go_loopw[7] (λv7 wr=>∃j:Nat,v7=.int .i64 (j:Int)/\j<=m.l.length/\Yd (Ext w wr/\Ext wc wr)/\Yd (Qce (m.l.drop j) (d+1)=Qce m.l (d+1))) (λv _=>m.l.length -(intOf v).toNat)
 case atStart=>exact⟨0,rfl,aw _,hY ⟨a5.o,fv _⟩,hY rfl⟩
 obtain⟨j,rfl,hj,HX,HJ⟩:=hrel;have e4:wr.cell? ⟨w,8+10,none⟩=some (.slice c.s.a m.l.length c.s.c):=(HX.o.2.cell g8).trans i0;by_cases d3:j<m.l.length
 ·have l1:(j:Int)<(m.l.length:Int):=by omega
  have i4:decide ((j:Int)<(m.l.length:Int))=true:=ej l1;have l0:(0:Int)<=(j:Int):=by omega
  obtain⟨x,hx⟩:∃x,m.l[j]? = some x:=⟨_,ac d3⟩;obtain⟨b,o,y,f9,f3,i5,i3,c1,b6⟩:=HM.o.at hx;have d4:=hY (c1.ext HX.o.1);have N:=HI.o (by have:=H6.o;omega) x y wr (b6.nw (fx HX.o.1)) (al (Qgp hx) (al (Qr7 m) HT.o));have b4:=hY N;have z:=Qo8 hx (d+1);rw[HJ.o]at z;have d8:=hY z;clear b6 c1 N hx f3 z;rw[f9]at e4;go_wp2_with(refine Qak rfl (.tmp 53) rfl b (o+j*19) rfl x y d4.o ?_);rw[f2.o];refine b4.o.mono ?_;rintro e w2 ⟨rfl,a9⟩;have c2:=hY (And.intro (HX.o.1.trans a9) (HX.o.2.trans a9));clear a9;by_cases D:QaW x (d+1)=0
  ·have z:=d8.o
   rw[ef (λh=>h D)]at z;have HA:=hY z.symm;rw[D];clear D z;go_wp2_with fail;go_roundw
   case rel=>exact⟨j+1,by go_num,d3,c2,HA⟩
   simp[intOf];omega
  have z:=d8.o;rw[em D]at z;have J:=hY (HC.o.trans z);have g0:(QaW x (d+1) != 0)=true:=by simp[D]
  clear D z;go_wp2_with fail;go_ret;exact⟨by rw[J.o]<;>rfl,c2.o.1⟩
 obtain rfl:j=m.l.length:=by omega
 have l1:decide ((m.l.length:Int)<(m.l.length:Int))=false:=eh (by omega);have J:=hY (show QaW m d=0 by rw[HC.o,<-HJ.o,cz];rfl);go_wp2_with fail;go_ret;exact⟨by rw[J.o]<;>rfl,HX.o.1⟩
theorem Qvb(n:Nat):∀(d:Nat) (m:Mu) (c:MuS) (w:World),d+n=7->RMu w (Lt w) m c->QcF m<=1100000->Calls prog 53 #[QaG m c,.int .i64 (d:Int)] w λe w'=>e=.returned (.int .i64 (QaW m d))/\Ext w w':=by
 induction n with
 |zero=>exactλd m c w hd D z=>Qu4 (by omega) D z λh=>by omega
 |succ n ih=>exactλd m c w hd D z=>Qu4 (by omega) D z λh x y W I J=>ih (d+1) x y W (by omega) I J
theorem Qve{m:Mu}(hm:RMu w (Lt w) m c)(ht:QcF m<=1100000):Calls prog 26 #[QaG m c] w λe w'=>e=.returned (.int .i64 (QbE m))/\Ext w w':=by
 obtain⟨r,Z⟩:∃r,QbE m=r:=⟨_,rfl⟩;have hs:=al (QrH m) ht;rw[Z];unfold QbE at Z;have HR:=hY Z;have HS:=hY hs;have HM:=hY hm;have HT:=hY ht;clear Z hs hm ht;go_in;go_upto_region 1 with fail;generalize N:World.alloc _ _=W0;obtain⟨J,R,-⟩:=Qaz (m:=m) (c:=c) N;have Y:=hY J;have U:=hY R;clear N J R;go_wp2_with(refine Qak rfl (.tmp 1) rfl w.heap.size 0 rfl m c U.o ?_);refine(Qvc (HM.o.nw (fx Y.o)) HS.o).mono ?_;rintro e w1 ⟨rfl,D⟩;have I:=hY (Y.o.trans D);have a0:=hY (U.o.ext D);clear D;by_cases h:64<QaT m
 ·have g:decide ((64:Int)<(QaT m:Int))=true:=ej (by omega)
  have HH:=hY h;clear h;go_wp2_with fail;go_ret;exact⟨by rw[<-HR.o,em HH.o]<;>rfl,I.o⟩
 have g:decide ((64:Int)<(QaT m:Int))=false:=eh (by omega);have HH:=hY h;have z:=Qvb 6 1 m c w1 rfl (HM.o.nw (fx I.o)) HT.o;have HC:=hY z;clear h z;go_wp2_with(refine Qak rfl (.tmp 1) rfl w.heap.size 0 rfl m c a0.o ?_);refine HC.o.mono ?_;rintro e w2 ⟨rfl,X⟩;have a1:=hY (I.o.trans X);clear X;go_wp2_with fail;go_ret;exact⟨by rw[<-HR.o,ef HH.o]<;>rfl,a1.o⟩
variable{j:Nat}
theorem Qvz{l:List Mu}{x:Mu}(z:l[j]? = some x)(M:List Ent)(h:(Qks (l.take j) M).1=0):Qks (l.take (j+1)) M=if(stepM x (Qks (l.take j) M).2).1≠0 then((stepM x (Qks (l.take j) M).2).1,(Qks (l.take j) M).2)else((stepM x (Qks (l.take j) M).2)):=by
 induction l generalizing j M with
 |nil=>simp at z
 | cons a r ih=>
   cases j with
   | zero=>
     have:a=x:=by simpa using z
     subst this;rw[aV,Qks];simp only[List.take_zero,Qks];split
     .rfl
     rename_i hh;exact ed (fb.1 hh).symm rfl
   | succ j=>
     rw[aV]at h ⊢;rw[aV];by_cases I:(stepM a M).1=0
     ·have J:∀ D,Qks (a :: D) M=Qks D (stepM a M).2:=fun D=>by rw [Qks,ef (fun e=>e I)]
      rw[J]at h ⊢;rw[J];exact ih (by simpa using z) _ h
     rw[Qks,em I]at h;exact absurd h I
theorem QvC{l:List Mu}(h:(Qks (l.take j) M).1≠0):Qks l M=Qks (l.take j) M:=by
 induction l generalizing j M with
 |nil=>simp
 | cons a r ih=>
   cases j with
   |zero=>exact absurd rfl h
   | succ j=>
     rw[aV,Qks]at h ⊢;rw[Qks];by_cases z:(stepM a M).1=0
     ·rw [ef (fun e=>e z)] at h
      rw[ef (λe=>e z),ef (λe=>e z)];exact ih h
     rw[em z,em z]
theorem RMu.after{H D:Nat->Prop}{m:Mu}(h:RMu w (NH H w) m c)(k:Nw w w')(I:∀b,D b->H b\/w<=b):RMu w' (NH D w') m c:=
 (h.agree (fB k λb z=>z.1)).mono λb z=>⟨Nat.lt_of_lt_of_le z.1 k.size,λe=>(I b e).elim z.2 λe=>by have:=z.1;omega⟩
theorem MapAt.nw{M:Nat}{es:List Ent}(h:MapAt H w M es)(k:Nw w w'):MapAt H w' M es:=h.sb k (λb z=>z.elim) λz=>z.elim
def Qwy(m:Mu):Prop:=∀(j:Nat) (x:Mu),m.l[j]? = some x->∀(y:MuS) (H:Nat->Prop) (W:World) (M:Nat) (es:List Ent),MapAt H W M es->(∀b,H b->b<W.heap.size)->OkM es->es.length+QaT x<=50000->RMu W (NH H W) x y->QcF x<=1000000->
 Calls prog 47 #[.pointer (some ⟨M,0,none⟩),QaG x y] W (QvJ H W (stepM x es))
theorem Qwh{m:Mu}{es:List Ent}(h:MapAt H w M0 es)(hH:∀b,H b->b<w)(hM:OkM es)(hc:es.length+QaT m<=50000)(hm:RMu w (NH H w) m c)(ht:QcF m<=1000000)(R:Qal m=true)(d6:QfU m.kd m.k m.tk m.had=true)(ih:Qwy m) :
  Calls prog 47 #[.pointer (some ⟨M0,0,none⟩),QaG m c] w (QvJ H w (stepM m es)):=by
 have j7:m.kd=1\/m.kd=2\/m.kd=3\/m.kd=4\/m.kd=5\/m.kd=6\/m.kd=7:=by
  rw[Qu6]at R;simp only[Bool.and_eq_true,decide_eq_true_eq]at R;have:=R.1.1.1.1.1.1.1;omega
 obtain⟨g4,f0,d0,a0,i2⟩:=hm.parts;have j9:=Qka m;have U:∀{W:World},Nw w W->MapAt H W M0 es/\(∀b,H b->b<W):=λJ=>⟨h.nw J,λb R=>ab (hH b R) J.size⟩
 have d7:∀{W:World} {d:Val} {sl so:Sl},Nw w W->RV w (NH H w) d sl so->RV W (NH H W) d sl so:=λJ hd=>(hd.agree (fB J λb R=>R.1)).mono λb R=>⟨Nat.lt_of_lt_of_le R.1 J.size,R.2⟩
 have a6:=hY (show ∀W,Nw w W->QvI H w es M0 W fromλW J=>QvI.self h hH J);have e2:=hY (show ∀W,Nw w W->Calls prog 37 #[.pointer (some ⟨M0,0,none⟩),.string m.k,Qbg m.v c.v1 c.v2] W (QvJ H W (setMu es m.k m.v)) fromλW J=>
  (QpB (U J).1 (U J).2 hM.sorted (by omega) d0 (d7 J f0) (by omega)).mono λe w' ⟨M',a,b⟩=>⟨M',a,b.old⟩)
 have g3:=hY (show ∀W,Nw w W->Calls prog 81 #[.pointer (some ⟨M0,0,none⟩),.string m.k,.int .i64 m.i] W (QvJ H W (Qeo es m.k m.i)) fromλW J=>Qwb (U J).1 (U J).2 hM.sorted (by omega) d0 i2);have f8:=hY (show ∀W,Nw w W->Calls prog 82 #[.pointer (some ⟨M0,0,none⟩),.string m.k,Qbg m.v c.v1 c.v2] W (QvJ H W (Qqk es m.k m.v)) fromλW J=>Qwa (U J).1 (U J).2 hM (by omega) d0 (d7 J f0) (by omega));have i6:=hY (show m.kd=6->∀W,Nw w W->Calls prog 83 #[.pointer (some ⟨M0,0,none⟩),.string m.k,.string m.tk] W (QvJ H W (QcA es m.k m.tk)) fromλh6 W J=>Qwc (U J).1 (U J).2 hM (by omega) d0 (by
  unfold QfU at d6;rw[em h6]at d6;simp only[Bool.and_eq_true,Qf8,decide_eq_true_eq]at d6;omega))
 have f5:=hY (show ∀W,Nw w W->Calls prog 27 #[.pointer (some ⟨M0,0,none⟩),.string m.k,.bool m.had,Qbg m.was c.w1 c.w2] W λe w'=>e=.returned (.bool (asM es m.k m.had m.was))/\Ext W w' fromλW J=>Qvj (U J).1 hM.sorted m.k m.had ((d7 J g4).mono λb R=>R.1));have d3:=hY (show ∀W,Nw w W->Calls prog 80 #[.pointer (some ⟨M0,0,none⟩)] W (QnT H es W) fromλW J=>Qjf (U J).1 (U J).2 (by omega));have e4:=hY (show ∀W W' M1,Nw w W->W.heap.size<=M1->Ext W W'->MapAt (λb=>H b\/b=M1) W' M1 es->Calls prog 18 #[.pointer (some ⟨M1,0,none⟩),.string m.k] W' λe w2=>e=.returned (.bool (Qam es m.k).isSome)/\QvI H w (Qb2 es m.k) M1 w2 fromλW W' M1 J b6 hx b0=>by
  have f2:M1<W'.heap.size:=by obtain⟨_,_,j6,_,_⟩:=b0.ex;exact j6.lt
  refine(Qwk b0 (λb R=>R.elim (λh=>ab ((U J).2 b h) hx.size) λh=>by omega) hM.sorted (by omega) m.k).mono ?_;rintro e w2 ⟨rfl,g8,d5⟩;exact⟨rfl,λb=>H b\/b=M1,λb R=>.inl R,λb R=>R.imp id λe=>by have:=J.size;omega,λb R=>by
   have:=d5.size;rcases R with R|R
   .have:=(U J).2 b R;have:=hx.size;omega
   omega,g8,(J.trans (fx hx)).comp d5.sb λi hi e=>by have:=J.size;omega⟩)
 obtain⟨r,hr⟩:∃r,stepM m es=r:=⟨_,rfl⟩;rw[hr];rw[Qv7]at hr;have HR:=hY hr;have HI:=hY ih;have HM:=hY hm;have j1:=hY hM;have f6:=hY hc;have k7:=hY ht;have i9:=hY h;have HH:=hY hH;clear h hH hM hc hm ht R d6 ih hr g4 f0 d0 a0 i2 j9 U d7;go_in;go_upto_region 1 with fail;generalize f7:World.alloc _ _=W0;obtain⟨i7,Y,j4⟩:=Qaz (m:=m) (c:=c) f7;have N:=hY (fx i7);have d8:=hY Y;have c0:=Y.kind;have c1:=Y.c1;have c2:=Y.c2;have c4:=Y.c4;have g5:=Y.c11;have c3:W0.cell? ⟨w,3,none⟩=some (.int .i64 m.i):=Y 3 _ rfl;obtain⟨g7,g6,i1,f9,i8,f4⟩:=Y.v6;obtain⟨c5,c6,c7,c8,c9,i5⟩:=Y.QnS;have l0:=Y.lt;clear f7 i7 Y j4;rcases j7 with hk|hk|hk|hk|hk|hk|hk
 ·have D:=hY (HR.o.symm.trans (by rw [em hk]))
  rw[hk]at c0;go_wp2_with fail;refine(e2.o _ N.o).mono ?_;rintro e w1 ⟨M',rfl,z⟩;have HO:=hY (z.pre N.o);clear z;go_wp2_with fail;go_ret2;exact⟨M',by rw[D.o]<;>rfl,by rw[D.o];exact HO.o⟩
 ·have D:=hY (HR.o.symm.trans (by rw [ef (by omega),em hk]))
  rw[hk]at c0;go_wp2_with fail;refine(d3.o _ N.o).mono ?_;rintro e w1 ⟨M1,rfl,b6,X,b0⟩;have HD:=hY (e4.o _ _ _ N.o b6 X b0);have Z:=hY (N.o.trans (fx X));have c1:w1.cell? ⟨w,1,none⟩=some (.string m.k):=(d8.o.ext X).c1;have l1:=(d8.o.ext X).lt;clear b6 X b0;go_wp2_with fail;refine HD.o.mono ?_;rintro e w2 ⟨rfl,z⟩;have HO:=hY z;clear z;cases hg:(Qam es m.k).isSome with
  | true=>
    have I:=hY (D.o.trans (em hg));clear hg;go_wp2_with fail;go_ret2;exact⟨M1,by rw[I.o]<;>rfl,by rw[I.o];exact HO.o⟩
  | false=>
    have I:=hY (D.o.trans (ef (by simp[hg])));have a9:=hY (a6.o w2 (by obtain⟨_,_,_,_,_,k⟩:=HO.o;exact k));clear hg;go_wp2_with fail;go_ret2;exact⟨M0,by rw[I.o]<;>rfl,by rw[I.o];exact a9.o⟩
 ·have D:=hY (HR.o.symm.trans (by rw [ef (by omega),ef (by omega),em hk]))
  rw[hk]at c0;go_wp2_with fail;refine(g3.o _ N.o).mono ?_;rintro e w1 ⟨M',rfl,z⟩;have HO:=hY (z.pre N.o);clear z;go_wp2_with fail;go_ret2;exact⟨M',by rw[D.o]<;>rfl,by rw[D.o];exact HO.o⟩
 ·have D:=hY (HR.o.symm.trans (by rw [ef (by omega),ef (by omega),ef (by omega),em hk]))
  rw[hk]at c0;go_wp2_with fail;refine(f5.o _ N.o).mono ?_;rintro e w1 ⟨rfl,X⟩;have Z:=hY (N.o.trans (fx X));have b5:=d8.o.ext X;have e0:=hY b5;have d1:=b5.c1;have f3:=b5.c11;obtain⟨k8,k0,j8,j2,l3,l4⟩:=b5.v6;have l1:=b5.lt;clear X b5 c0 c1 c2 c3 c4 c5 c6 c7 c8 c9 i5 g5 g7 g6 i1 f9 i8 f4;cases ha:asM es m.k m.had m.was with
  | false=>
    have I:=hY (D.o.trans (ef (by simp[ha])));have a9:=hY (a6.o w1 Z.o);clear ha;go_wp2_with fail;go_ret2;exact⟨M0,by rw[I.o]<;>rfl,by rw[I.o];exact a9.o⟩
  | true=>
    have I:=hY (D.o.trans (em ha));clear ha;cases hh:m.has with
    | true=>
      have b8:=hY (I.o.trans (em hh));rw[hh]at f3;clear hh;go_wp2_with fail;refine(e2.o _ Z.o).mono ?_;rintro e w2 ⟨M',rfl,z⟩;have HO:=hY (z.pre Z.o);clear z;go_wp2_with fail;go_ret2;exact⟨M',by rw[b8.o]<;>rfl,by rw[b8.o];exact HO.o⟩
    | false=>
      have b8:=hY (I.o.trans (ef (by simp[hh])));rw[hh]at f3;clear hh;go_wp2_with fail;refine(d3.o _ Z.o).mono ?_;rintro e w2 ⟨M1,rfl,b6,d4,b0⟩;have HD:=hY (e4.o _ _ _ Z.o b6 d4 b0);have c1:w2.cell? ⟨w,1,none⟩=some (.string m.k):=(e0.o.ext d4).c1;have l2:=(e0.o.ext d4).lt;clear b6 d4 b0 d1 f3 k8 k0 j8 j2 l3 l4;go_wp2_with fail;refine HD.o.mono ?_;rintro e w3 ⟨rfl,z⟩;have HO:=hY z;clear z;go_wp2_with fail;go_ret2;exact⟨M1,by rw[b8.o]<;>rfl,by rw[b8.o];exact HO.o⟩
 ·have D:=hY (HR.o.symm.trans (by rw [ef (by omega),ef (by omega),ef (by omega),ef (by omega),em hk]))
  rw[hk]at c0;go_wp2_with fail;refine(f8.o _ N.o).mono ?_;rintro e w1 ⟨M',rfl,z⟩;have HO:=hY (z.pre N.o);clear z;go_wp2_with fail;go_ret2;exact⟨M',by rw[D.o]<;>rfl,by rw[D.o];exact HO.o⟩
 ·have D:=hY (HR.o.symm.trans (by rw [ef (by omega),ef (by omega),ef (by omega),ef (by omega),ef (by omega),em hk]))
  have j5:=hY (i6.o hk);rw[hk]at c0;go_wp2_with fail;refine(j5.o _ N.o).mono ?_;rintro e w1 ⟨M',rfl,z⟩;have HO:=hY (z.pre N.o);clear z;go_wp2_with fail;go_ret2;exact⟨M',by rw[D.o]<;>rfl,by rw[D.o];exact HO.o⟩
 have D:=hY (HR.o.symm.trans (by rw[ef (by omega),ef (by omega),ef (by omega),ef (by omega),ef (by omega),ef (by omega),em hk]));rw[hk]at c0;go_wp2_with fail;refine(f5.o _ N.o).mono ?_;rintro e w1 ⟨rfl,X⟩;have Z:=hY (N.o.trans (fx X));have e0:=hY (d8.o.ext X);have l7:=HM.o.len;clear X c0 c1 c2 c3 c4 c5 c6 c7 c8 c9 i5 g5 g7 g6 i1 f9 i8 f4;cases ha:asM es m.k m.had m.was with
 | false=>
   have I:=hY (D.o.trans (ef (by simp[ha])));have a9:=hY (a6.o w1 Z.o);clear ha;go_wp2_with fail;go_ret2;exact⟨M0,by rw[I.o]<;>rfl,by rw[I.o];exact a9.o⟩
 | true=>
   have I:=hY (D.o.trans (em ha));clear ha;have j3:=hY (Qgn m);have k4:=hY (Qr7 m);have k1:=hY (show((∀b,H b->H b)/\(∀b,H b->H b\/w<=b)/\(∀b,H b->b<w1)/\MapAt H w1 M0 (Qks (m.l.take 0) es).2/\Nw w w1/\Nw w1 w1)/\(Qks (m.l.take 0) es).1=0/\OkM (Qks (m.l.take 0) es).2/\(Qks (m.l.take 0) es).2.length<=es.length+QaC (m.l.take 0)from
    ⟨⟨λ_ h=>h,λ_ h=>.inl h,λb R=>ab (HH.o b R) Z.o.size,by rw[bO,Qks];exact i9.o.nw Z.o,Z.o,fD _ _⟩,by rw[bO,Qks],by rw[bO,Qks];exact j1.o,by rw[bO,Qks];exact di _ _⟩)
   go_wp2_with fail;go_loopw[8,9] (λv8 v9 wr=>∃(j M':Nat) (H':Nat->Prop),v8=.pointer (some ⟨M',0,none⟩)/\v9=.int .i64 (j:Int)/\j<=m.l.length/\Yd (((∀b,H b->H' b)/\(∀b,H' b->H b\/w<=b)/\(∀b,H' b->b<wr)/\MapAt H' wr M' (Qks (m.l.take j) es).2/\Nw w wr/\Nw w1 wr)/\(Qks (m.l.take j) es).1=0/\OkM (Qks (m.l.take j) es).2/\(Qks (m.l.take j) es).2.length<=es.length+QaC (m.l.take j))) (λ_ v _=>m.l.length -(intOf v).toNat)
   case atStart=>exact⟨0,M0,H,rfl,rfl,aw _,k1⟩
   obtain⟨j,M',H',rfl,rfl,hj,HQ⟩:=hrel;have e6:=e0.o.nw HQ.o.1.2.2.2.2.2;have l5:wr.cell? ⟨w,8+10,none⟩=some (.slice c.s.a m.l.length c.s.c):=e6 18 _ rfl;have lb:=e6.lt;clear e6;by_cases f2:j<m.l.length
   ·have l1:(j:Int)<(m.l.length:Int):=by omega
    have l8:decide ((j:Int)<(m.l.length:Int))=true:=ej l1;have l0:(0:Int)<=(j:Int):=by omega
    obtain⟨x,hx⟩:∃x,m.l[j]? = some x:=⟨_,ac f2⟩;obtain⟨b,o,y,i4,k5,k2,j0,i0,f1⟩:=HM.o.at hx;obtain⟨⟨q1,q2,q3,q4,q5,q6⟩,hz,e7,k6⟩:=HQ.o;have i3:=hY (i0.nw q5);have d5:=Qdm hx;have k3:=Qfb m.l (j+1);have k9:=j3.o;have l6:=f6.o;have b4:=HI.o j x hx y H' wr M' (Qks (m.l.take j) es).2 q4 q3 e7 (by omega) (f1.after q5 q2) (al (Qgp hx) (al k4.o k7.o));have e8:=hY (Qvz hx es hz);have e3:=hY (Qv8 f1 e7);have g9:=hY (show(stepM x (Qks (m.l.take j) es).2).2.length<=es.length+QaC (m.l.take (j+1))by have:=Qp2 x (Qks (m.l.take j) es).2;omega);obtain⟨q,hq⟩:∃q,stepM x (Qks (m.l.take j) es).2=q:=⟨_,rfl⟩;rw[hq]at b4 e8 e3 g9;have HC:=hY b4;rw[i4]at l5;clear hx i4 k5 k2 j0 i0 f1 q1 q2 q3 q4 q5 q6 hz e7 k6 d5 k3 k9 l6 b4 hq;go_wp2_with(refine Qak rfl (.tmp 117) rfl b (o+j*19) rfl x y i3.o ?_);refine HC.o.mono ?_;rintro e w2 ⟨M2,rfl,z⟩;have HO:=hY z;clear z;by_cases h0:q.1=0
    ·have g0:(q.1 != 0)=false:=by simp [h0]
     have a0:=e8.o;rw[ef (by simp[h0])]at a0;have e1:=hY a0;have H0:=hY h0;clear h0 a0;go_wp2_with fail;go_roundw
     case measure=>simp[intOf];omega
     obtain⟨⟨q1,q2,q3,q4,q5,q6⟩,-,-,-⟩:=HQ.o;obtain⟨G,a1,a2,a3,a4,a5⟩:=HO.o;have hz:=q5.size;exact⟨j+1,M2,G,rfl,by go_num,f2,hY ⟨⟨λb R=>a1 b (q1 b R),λb R=>(a2 b R).elim (q2 b) λe=>.inr (al hz e),a3,by rw[e1.o];exact a4,q5.trans a5,q6.trans a5⟩,by rw[e1.o];exact H0.o,by rw[e1.o];exact e3.o,by rw[e1.o];exact g9.o⟩⟩
    have g0:(q.1 != 0)=true:=by simp[h0]
    have a0:=e8.o;rw[em h0]at a0;have b3:=QvC (l:=m.l) (j:=j+1) (M:=es) (by rw[a0];exact h0);rw[a0]at b3;have b7:=hY (show r=(q.1,es)by rw[I.o,b3,em h0]);have a9:=hY (a6.o w2 (HQ.o.1.2.2.2.2.1.trans (by obtain⟨_,_,_,_,_,k⟩:=HO.o;exact k)));clear h0 a0 b3;go_wp2_with fail;go_ret2;exact⟨M0,by rw[b7.o]<;>rfl,by rw[b7.o];exact a9.o⟩
   obtain rfl:j=m.l.length:=by omega
   have l1:decide ((m.l.length:Int)<(m.l.length:Int))=false:=eh (by omega);have hq:=HQ.o;rw[aM]at hq;obtain⟨⟨q1,q2,q3,q4,q5,-⟩,hz,-,-⟩:=hq;have b7:=hY (show r=(0,(Qks m.l es).2)by rw[I.o,ef (by simp[hz])];exact ed hz rfl);have a9:=hY (show QvI H w (Qks m.l es).2 M' wr from⟨H',q1,q2,q3,q4,q5⟩);clear q1 q2 q3 q4 q5 hz;go_wp2_with fail;go_ret2;exact⟨M',by rw[b7.o]<;>rfl,by rw[b7.o];exact a9.o⟩
variable{q:Nat}
theorem look_bare{m:Mu}(h:QaW m q=0):Qal m=true:=by
 rcases aO (Qal m)with z|z
 .exact z
 rw[Quo z]at h;cases h
theorem Qv3(n:Nat):∀(m:Mu) (q:Nat),SizeOf.sizeOf m<=n->QaW m q=0->∀(c:MuS) (H:Nat->Prop) (w:World) (M0:Nat) (es:List Ent),MapAt H w M0 es->(∀b,H b->b<w)->OkM es->es.length+QaT m<=50000->RMu w (NH H w) m c->QcF m<=1000000->
  Calls prog 47 #[.pointer (some ⟨M0,0,none⟩),QaG m c] w (QvJ H w (stepM m es)):=by
 induction n with
 |zero=>intro m q h;have:=Mu.Qb7 m;omega
 | succ n ih=>
   intro m q hn I c H w M0 es h hH hM U J Z;obtain⟨hk,hs⟩:=Qpa I;exact Qwh h hH hM U J Z (look_bare I) hk λj x D y R W M z N Y X a4 a5 a6=>ih x (q+1) (by have:=Mu.QtV D;omega) (looks_at hs D) y R W M z N Y X a4 a5 a6
theorem QvN{m:Mu}{es:List Ent}(h:MapAt H w M0 es)(hH:∀b,H b->b<w)(hM:OkM es)(hc:es.length<=40000)(hm:RMu w (NH H w) m c)(ht:QcF m<=1100000) :
  Calls prog 21 #[.pointer (some ⟨M0,0,none⟩),QaG m c] w (QvJ H w (runM es m)):=by
 obtain⟨r,hr⟩:∃r,runM es m=r:=⟨_,rfl⟩;rw[hr];unfold runM at hr;have HR:=hY hr;have I:=hY (show ∀W,Nw w W->QvI H w es M0 W fromλW X=>QvI.self h hH X);have Z:=hY (show ∀W,Nw w W->Calls prog 26 #[QaG m c] W λe w'=>e=.returned (.int .i64 (QbE m))/\Ext W w' fromλW X=>Qve ((hm.mono λb hb=>hb.1).nw X) ht);have U:=hY (show QbE m=0->∀W,Nw w W->Calls prog 47 #[.pointer (some ⟨M0,0,none⟩),QaG m c] W (QvJ H W (stepM m es)) fromλD W X=>by
  have hs:QaT m<=64:=by unfold QbE at D;split at D<;>omega
  exact Qv3 _ m 1 (an _) (Qrb D) c H W M0 es (h.nw X) (λb hb=>ab (hH b hb) X.size) hM (by omega) (hm.after X λb hb=>.inl hb) (Qs3 hm D))
 clear h hH hM hc hm ht hr;go_in;go_upto_region 1 with fail;generalize a4:World.alloc _ _=W0;obtain⟨a3,a0,-⟩:=Qaz (m:=m) (c:=c) a4;have a2:=hY (fx a3);have a1:=hY a0;clear a4 a3 a0;go_wp2_with(refine Qak rfl (.tmp 3) rfl w.heap.size 0 rfl m c a1.o ?_);refine(Z.o _ a2.o).mono ?_;rintro e w1 ⟨rfl,R⟩;have Y:=hY (a2.o.trans (fx R));have a6:=hY (a1.o.ext R);clear R;by_cases D:QbE m=0
 ·have g0:(QbE m != 0)=false:=by simp [D]
  have HC:=hY (U.o D _ Y.o);have z:=hY (HR.o.symm.trans (ef (by simp[D])));clear D;obtain⟨q,hq⟩:∃q,stepM m es=q:=⟨_,rfl⟩;have a5:=hY (show q.1≠0->q.2=es fromλh=>by rw[<-hq]at h ⊢;exact Qck h);rw[hq]at HC z;clear hq;go_wp2_with(refine Qak rfl (.tmp 3) rfl w.heap.size 0 rfl m c a6.o ?_);refine HC.o.mono ?_;rintro e w2 ⟨M',rfl,J⟩;have HO:=hY (J.pre Y.o);clear J;by_cases h1:q.1=0
  ·have g1:(q.1 != 0)=false:=by simp [h1]
   have H1:=hY h1;clear h1;go_wp2_with fail;go_ret2;exact⟨M',by rw[z.o,H1.o]<;>rfl,by rw[z.o];exact HO.o⟩
  have g1:(q.1 != 0)=true:=by simp[h1]
  have HE:=hY (a5.o h1);have N:=hY (I.o w2 (by obtain⟨_,_,_,_,_,k⟩:=HO.o;exact k));clear h1;go_wp2_with fail;go_ret2;exact⟨M0,by rw[z.o]<;>rfl,by rw[z.o,HE.o];exact N.o⟩
 have g0:(QbE m != 0)=true:=by simp[D]
 have z:=hY (HR.o.symm.trans (em D));have N:=hY (I.o w1 Y.o);clear D;go_wp2_with fail;go_ret2;exact⟨M0,by rw[z.o]<;>rfl,by rw[z.o];exact N.o⟩
end Go.Proofs.YtkjkafgnnoidpaaGreatDoor
