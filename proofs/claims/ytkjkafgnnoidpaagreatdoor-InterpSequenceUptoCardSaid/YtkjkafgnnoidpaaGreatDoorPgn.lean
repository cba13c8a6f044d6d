/- What the theorem needs of the texts Ref12, Begin12, Put13, Start13, Begun13: no condition of its own. -/
import Derived.Test.YtkjkafgnnoidpaaGreatDoorPgm
set_option linter.unusedVariables false
set_option linter.unusedSimpArgs false
set_option linter.unnecessarySimpa false
set_option maxRecDepth 100000
set_option maxHeartbeats 4000000
namespace Go.Proofs.YtkjkafgnnoidpaaGreatDoor
open Go.Proofs.Tryz
open Go.RowKit Go.Maps Go.Shelf
def Qt6(H:Nat->Prop)(w:World)(base R M:Nat)(s:Sl)(es:List Ent)(ms:List Nat)(hs:List (List Ent))(k:ByteArray)(v:Val)(e:Ending)(w':World):Prop:=
 (Qbd k≠0/\e=.returned (.int .i64 8)/\Ext w w')\/(Qbd k=0/\Qbw v≠0/\e=.returned (.int .i64 (Qbw v))/\Ext w w')\/
 (Qbd k=0/\Qbw v=0/\e=.returned (.int .i64 0)/\∃(H':Nat->Prop) (s':Sl) (M':Nat),(∀b,H b->H' b)/\(∀b,H' b->H b\/w.heap.size<=b)/\R12 H' w' base R M s' (Qbq es k v) (ms++[M']) (hs++[es])/\St (λb=>b=R\/b=M\/s.row=some b) w w'/\(∀b,s'.row=some b->s.row=some b\/w.heap.size<=b)/\w.heap.size<=M')
variable{s s5 sl so:Sl}
theorem Qnd{H N:Nat->Prop}{w w3 L:World}{base R M:Nat}{es:List Ent}{ms Y:List Nat}{hs Z:List (List Ent)}{k:ByteArray}{v:Val}(h:R12 H w base R M s es ms hs)(hv:RV w (NH H w) v sl so)(J:Ext w w3)(a1:∀b,H b->N b)(X:∀b,N b->H b\/w3<=b)
  (I:R12 N L base R M s5 es Y Z) (D:St (λb=>b=R\/s.row=some b) w3 L) (a0:Sorted es) (hc:es.length<=1000000) (hk:k.size<=maxLen) :
  ∀W,Ext L W->Calls prog 16 #[.pointer (some ⟨M,0,none⟩),.string k,aggV v sl so] W (Qln N M (Qbq es k v) W):=λW hW=>by
 have h3:=J.size;have h5:=D.size;have U:Agree (NH H w) w L:=λb z=>(D.block b (ab z.1 h3) (λhh=>z.2 (hh.elim (λe=>e▸h.hR) (h.hrow b)))).trans (J.heap z.1)
 have hw:=hW.size;refine Qrv (I.cur.ext hW) (λb z=>ab (I.below b z) hw) a0 hc hk (((hv.agree U).agree (hW.agree λb z=>ab z.1 (aj h3 h5))).mono λb z=>⟨by have:=z.1;omega,λhh=>?_⟩);rcases X b hh with h1|h1
 .exact z.2 h1
 have:=z.1;omega
variable{H:Nat->Prop}{w:World}{ms:List Nat}{hs:List (List Ent)}
theorem QpA{base R M:Nat}{es:List Ent}(h:R12 H w base R M s es ms hs)(j4:Sorted es)(hc:es.length<=1000000)(hn:hs.length<=1000000){k:ByteArray}(hk:k.size<=maxLen){v:Val}(hv:RV w (NH H w) v sl so)(g6:cntV v<=1100000) :
  Calls prog 62 #[.pointer (some ⟨R,0,none⟩),.string k,aggV v sl so] w (Qt6 H w base R M s es ms hs k v):=by
 obtain⟨i0,hi,g7,i3,i2⟩:=eG Tryz.QoP;have a5:=(fu w).alloc #[.int .i64 v.kind,.bool v.b,.int .i64 v.i,.string v.t,.slice sl.a v.l.length sl.c,.slice so.a v.ok.length so.c] 28;have a2:=fx w 28 #[.int .i64 v.kind,.bool v.b,.int .i64 v.i,.string v.t,.slice sl.a v.l.length sl.c,.slice so.a v.ok.length so.c];have a4:=Qpd (w.alloc (.cells #[.int .i64 v.kind,.bool v.b,.int .i64 v.i,.string v.t,.slice sl.a v.l.length sl.c,.slice so.a v.ok.length so.c] 28)) k hk;have a6:=QmM (w:=w.alloc (.cells #[.int .i64 v.kind,.bool v.b,.int .i64 v.i,.string v.t,.slice sl.a v.l.length sl.c,.slice so.a v.ok.length so.c] 28)) (((hv.mono λb hb=>hb.1).agree (a5.agree λ_ h=>h)).mono λi hi=>ab hi a5.size) g6;generalize i4:w.alloc (.cells #[.int .i64 v.kind,.bool v.b,.int .i64 v.i,.string v.t,.slice sl.a v.l.length sl.c,.slice so.a v.ok.length so.c] 28)=w1 at a5 a2 a4 a6;obtain⟨b0,b1,b2,b3,b4,b5⟩:=a2.c6;have lb:=a2.lt;have e4:=hY a5;have f8:=hY a2;have c2:=hY a4;have b8:=hY a6;have HH:=hY h;have HV:=hY hv;clear a5 a2 a4 a6 h hv;go_in;go_wp2_with fail;clear i4;refine c2.o.mono ?_;rintro e w2 ⟨rfl,g9⟩;obtain rfl:=g9.symm;clear c2;by_cases hm:Qbd k=0
 ·have g0:(Qbd k != 0)=false:=by simpa using hm
  rw[hm];go_wp2_with fail;refine b8.o.mono ?_;rintro e w3 ⟨rfl,d3⟩;have N:=hY (e4.o.trans d3);have i5:=hY (f8.o.ext d3);clear d3 b8 f8 b0 b1 b2 b3 b4 b5 lb;by_cases hf:Qbw v=0
  ·rw [hf]
   have U:=HH.o.ext N.o;have c0:w3.cell? ⟨R,0,none⟩=some (Qdx M):=U.blk.cell 0;have c1:w3.cell? ⟨R,1,none⟩=some (.slice s.a hs.length s.c):=U.blk.cell 1;have lR:=U.blk.lt;have f1:=hY U;have d8:∀b,H b->b<w3.heap.size:=U.below;have a9:=Qjf (w:=w3.drew) (U.cur.ext ((fu w3).drew)) d8 hc;have c9:=hY a9;have f6:∀M':Nat,∀u∈[Qdx M'],u.oneCell'=true:=λM'=>by simp[Value.oneCell']
   have j5:hs.length+1<=maxLen:=by unfold maxLen;omega
   have j3:(hs.length+1)*8<=140737488355328:=by omega
   have L:=hY (show ∀W:World,True->True fromλ_ h=>h);clear U a9;go_wp2_with fail;refine ez (S:=(λ_=>True)) (by kernel_rfl) (trivial) (λhHeld=>?_);refine Qad 0 (some 16) L hHeld ?_;refine Qad 1 (some 17) L hHeld ?_;refine Qad 2 (some 18) L hHeld ?_;refine Qad 3 (some 19) L hHeld ?_;refine Qad 5 (some 21) L hHeld ?_;refine Qad 6 (some 22) L hHeld ?_;refine Qad 7 (some 23) L hHeld ?_;have J:=Tag.mk 0;have Z:=Tag.mk 1000
   repeat' (first
    |(have:=(J:Tag 0);have:=(Z:Tag 1000);refine QfT 4 8 (λK D z=>?_) (λK D z=>?_))
    |(have:=(J:Tag 0);have:=(Z:Tag 1001);refine QcH 8 (λK D z=>?_))
    |(have:=(J:Tag 1);have:=(Z:Tag 1000);refine QfT 4 9 (λK D z=>?_) (λK D z=>?_))
    |(have:=(J:Tag 1);have:=(Z:Tag 1001);refine QcH 9 (λK D z=>?_))
    |(have:=(J:Tag 2);have:=(Z:Tag 1000);refine QfT 4 10 (λK D z=>?_) (λK D z=>?_))
    |(have:=(J:Tag 2);have:=(Z:Tag 1001);refine QcH 10 (λK D z=>?_))
    |(have:=(J:Tag 3);have:=(Z:Tag 1000);refine QcH 4 (λK D z=>?_))
    |(have:=(J:Tag 3);have:=(Z:Tag 1001);refine QcH 11 (λK D z=>?_))
    |(have:=(J:Tag 4);have:=(Z:Tag 1000);refine QcH 4 (λK D z=>?_))
    |(have:=(J:Tag 4);have:=(Z:Tag 1001);refine QcH 14 (λK D z=>?_))
    | (have:=(D:Tag 4)
       clear this D;clear Z;have Z:=Tag.mk 1001;go_simp
       skip
       refine z.out _ _ (trivial) (λhHeld=>?_);clear z K
       try simp only[Act.put,List.setIfInBounds_toArray,List.set_cons_zero,List.set_cons_succ])
    | (have:=(D:Tag 8)
       clear this D;clear J;have J:=Tag.mk 1;go_simp
       skip
       refine z.out _ _ (trivial) (λhHeld=>?_);clear z K
       try simp only[Act.put,List.setIfInBounds_toArray,List.set_cons_zero,List.set_cons_succ])
    | (have:=(D:Tag 9)
       clear this D;clear J;have J:=Tag.mk 2;go_simp
       (refine c9.o.mono ?_;rintro e w4 ⟨M',rfl,e3,b7,f2⟩;have d6:Ext w3 w4:=((fu w3).drew).trans b7;have a3:=f1.o.ext d6;have c0:w4.cell? ⟨R,0,none⟩=some (Qdx M):=a3.blk.cell 0;have c1:w4.cell? ⟨R,1,none⟩=some (.slice s.a hs.length s.c):=a3.blk.cell 1;have i6:=a3.blk.lt;have c8:Ext w4 (w4.alloc (.cells #[Qdx M'] 33)):=(fu w4).alloc _ _;have a0:=hY (a3.ext c8);have c4:=hY (fG (size:=1) (n:=1) (cs:=[Qdx M']) (fx w4 33 #[Qdx M']) (by decide) rfl);have e6:=hY d6;have j2:=hY c8;have e7:=hY f2;have d7:=hY e3;clear b7 d6 a3 c8 f2 e3)
       refine z.out _ _ (trivial) (λhHeld=>?_);clear z K
       try simp only[Act.put,List.setIfInBounds_toArray,List.set_cons_zero,List.set_cons_succ])
    | (have:=(D:Tag 10)
       clear this D;clear J;have J:=Tag.mk 3;go_simp
       skip
       refine z.out _ _ (trivial) (λhHeld=>?_);clear z K
       try simp only[Act.put,List.setIfInBounds_toArray,List.set_cons_zero,List.set_cons_succ])
    | (have:=(D:Tag 11)
       clear this D;clear J;have J:=Tag.mk 4;refine QeH _ (.tmp 20) (.tmp 26) 108 rfl base 33 i0 _ 1 8 underlying108 hi g7 i3 i2 rfl (by decide) s hs.length (ms.map Qdx) (by rfl) a0.o.own (λb=>b=w4.heap.size) ⟨some ⟨w4.heap.size,0,none⟩,1⟩ 1 [Qdx M'] (by rfl) c4.o (f6 M') j5 j3 a0.o.old ?_;intro s5 w5 a8 a1 e8;have g3:=hY a8;have f7:=hY a1;have e2:=hY e8;have a7:Blk w5 R 110 #[Qdx M,.slice s.a hs.length s.c]:=a0.o.blk.agree (a1.agree (F:=λb=>b=R) (λi hi=>by rw[hi];exact a0.o.blk.lt) (λk hk e=>a0.o.QsL (by rw[hk,e]))) rfl;have i7:w5.cell? ⟨R,1,none⟩=some (.slice s.a hs.length s.c):=a7.cell 1;have j0:=a7.lt;have g4:w5.frozen? ⟨R,1,none⟩=false:=a7.frozen 1;have f3:=hY a7;clear a8 a1 e8 a7;refine z.out _ _ (trivial) (λhHeld=>?_);clear z K
       try simp only[Act.put,List.setIfInBounds_toArray,List.set_cons_zero,List.set_cons_succ]
       refine Qad 12 (some 28) L hHeld ?_;refine Qad 13 (some 29) L hHeld ?_)
    | (have:=(D:Tag 14)
       clear this D;clear J;have J:=Tag.mk 5;go_simp
       skip
       refine z.out _ _ (trivial) (λhHeld=>?_);clear z K
       try simp only[Act.put,List.setIfInBounds_toArray,List.set_cons_zero,List.set_cons_succ])
    | (have:=(J:Tag 5);have:=(Z:Tag 1001);refine eE (by kernel_rfl) ?_ _
       obtain⟨H',d4,d0,d5,X,c7⟩:=R12.step f1.o e6.o d7.o e7.o g3.o f7.o e2.o f3.o;have c3:=Qnd HH.o HV.o N.o d4 d0 d5 X j4 hc hk;have i8:=hY (X.blk i5.o (by rintro(e|e);exact absurd (HH.o.below _ (e▸HH.o.hR)) (dm _);exact absurd (HH.o.below _ (HH.o.hrow _ e)) (dm _)));have e0:=hY c3;have b6:=hY d5;have g8:=hY (show(∀b,s5.row=some b->s.row=some b\/w.heap.size<=b)/\w.heap.size<=M' from⟨λb hb=>(c7 b hb).imp id (aj N.o.size),aj N.o.size d7.o⟩);have f0:=hY X;have i1:=hY d4;have j6:=hY d0;have HM:=hY hm;have HF:=hY hf;clear c7 c3 d5 X d4 d0 hm hf g3 f7 e2 f3 e7 d7 e6 j2 a0 c4 c0 c1 i7 g4 j0 i6 lR;generalize w5.setCell ⟨R,1,none⟩ (.slice s5.a (hs.length+1) s5.c)=W5 at *;have j1:Blk W5 R 110 #[Qdx M,.slice s5.a (hs++[es]).length s5.c]:=b6.o.blk;have f9:Blk W5 w.heap.size 28 (Qlj v sl so):=i8.o;have f4:=hY (And.intro b6.o.QuG (show w.heap.size≠M fromλe=>by obtain⟨v',g5⟩:=b6.o.cur.QrS;exact Qn7 f9 g5 (by decide) e));have Y:=hY (show ∀W,(Blk W R 110 #[Qdx M,.slice s5.a (hs++[es]).length s5.c]/\Blk W w.heap.size 28 (Qlj v sl so))->_ fromλW h=>(⟨h.1.cell 0,h.1.lt,h.2.c6,h.2.lt⟩:W.cell? ⟨R,0,none⟩=some (Qdx M)/\R<W.heap.size/\_/\w.heap.size<W.heap.size));go_wp2_with fail;refine ez (S:=(λW=>Blk W R 110 #[Qdx M,.slice s5.a (hs++[es]).length s5.c]/\Blk W w.heap.size 28 (Qlj v sl so))) (by kernel_rfl) (⟨j1,f9⟩) (λhHeld=>?_);refine Qad 0 (some 30) Y hHeld ?_;refine Qad 1 (some 31) Y hHeld ?_;refine Qad 2 (some 32) Y hHeld ?_;refine Qad 3 (some 33) Y hHeld ?_;refine Qad 4 (some 34) Y hHeld ?_;refine Qad 5 (some 35) Y hHeld ?_;refine Qag (i:=6) (by kernel_rfl) rfl (by rfl) (λK z=>?_);go_simp
       (refine(e0.o _ ((fu W5).drew)).mono ?_;rintro e w8 ⟨⟨r,rfl⟩,f5,I⟩)
       refine z.out _ _ (⟨I.blk hHeld.1 f4.o.1,I.blk hHeld.2 f4.o.2⟩) (λhHeld=>?_);clear z K
       try simp only[Act.put,List.setIfInBounds_toArray,List.set_cons_zero,List.set_cons_succ]
       refine eE (by kernel_rfl) ?_ _;have i9:=hY f5;have e1:=hY I;clear f5 I;go_wp2_with fail;go_ret;have I:St (λb=>b=M) W5 w8:=(((fu W5).drew).st _).trans e1.o;exact .inr (.inr ⟨HM.o,HF.o,rfl,H',s5,M',i1.o,λb hb=>(j6.o b hb).imp id (aj N.o.size),b6.o.turned i9.o I,(N.o.st _).trans ((f0.o.mono λi _ hi=>hi.elim .inl λe=>.inr (.inr e)).trans (I.mono λi _ hi=>.inr (.inl hi))),g8.o⟩)))
  have g1:(Qbw v != 0)=true:=by simpa using hf
  have HM:=hY hm;have HF:=hY hf;clear hm hf;go_wp2_with fail;go_ret;exact .inr (.inl ⟨HM.o,HF.o,rfl,N.o⟩)
 have g0:(Qbd k != 0)=true:=by simpa using hm
 have HM:=hY hm;clear hm;go_wp2_with fail;go_ret;exact .inl ⟨HM.o,rfl,e4.o⟩
theorem Qky{M0:Nat}{es:List Ent}(h:MapAt H w M0 es)(Z:∀b,H b->b<w)(hc:es.length<=1000000):Calls prog 61 #[.pointer (some ⟨M0,0,none⟩)] w λe w'=>
  ∃R M,e=.returned (.pointer (some ⟨R,0,none⟩))/\w.heap.size<=R/\w.heap.size<=M/\Ext w w'/\R12 (λb=>(H b\/b=M)\/b=R) w' w.heap.size R M Sl.none es [] []:=by
 have I:=Qjf h Z hc;have a2:=hY I;have HH:=hY Z;clear I h Z;go_in;go_wp2_with fail;refine a2.o.mono ?_;rintro e w1 ⟨M,rfl,hM,D,J⟩;have U:Ext w1 (w1.alloc (.cells #[.pointer (some ⟨M,0,none⟩),.slice none 0 0] 110)):=(fu w1).alloc _ _;have N:=fx w1 110 #[.pointer (some ⟨M,0,none⟩),.slice none 0 0];have Y:=hY D;have L:=hY U;have a0:=hY N;have X:=hY J;have HM:=hY hM;clear D U N J hM;go_wp2_with fail;go_ret;have a1:=Y.o.size;have a4:M<w1.heap.size:=by obtain⟨v,hv⟩:=X.o.QrS;exact hv.lt
 refine⟨w1,M,rfl,a1,HM.o,Y.o.trans L.o,?_⟩;have a3:(w1.alloc (.cells #[.pointer (some ⟨M,0,none⟩),.slice none 0 0] 110)).heap.size=w1.heap.size+1:=ew _ _;refine⟨λb z=>?_,by omega,.inr rfl,λb z=>(by cases z),a0.o,eJ _ _ _ _,?_,rfl,List.nodup_nil,λj m a5 hj=>by simp at hj⟩
 ·rcases z with (z | z) | z
  .have:=HH.o b z;omega
  .omega
  omega
 exact(X.o.more (G:=λb=>(H b\/b=M)\/b=w1.heap.size) (λb z=>.inl z) λb z hg=>hg.elim id λe=>by omega).ext L.o
def Qmr(H:Nat->Prop)(w:World)(es:List Ent)(M:Nat)(w':World):Prop:=
 ∃H':Nat->Prop,(∀b,H b->H' b)/\(∀b,H' b->H b\/w.heap.size<=b)/\(∀b,H' b->b<w'.heap.size)/\w.heap.size<=M/\MapAt H' w' M es/\Nw w w'
theorem QpB{M0:Nat}{es:List Ent}(h:MapAt H w M0 es)(hH:∀b,H b->b<w)(d5:Sorted es)(hc:es.length<=1000000){k:ByteArray}(hk:k.size<=maxLen){v:Val}(hv:RV w (NH H w) v sl so)(d4:cntV v<=1100000) :
  Calls prog 37 #[.pointer (some ⟨M0,0,none⟩),.string k,aggV v sl so] w λe w'=>∃M',e=.returned (.tuple #[.pointer (some ⟨M',0,none⟩),.int .i64 (setMu es k v).1])/\Qmr H w (setMu es k v).2 M' w':=by
 have X:=(fu w).alloc (Qlj v sl so) 28;have c0:=fx w 28 (Qlj v sl so);have c1:(w.alloc (.cells (Qlj v sl so) 28)).heap.size=w.heap.size+1:=ew _ _;have c7:=Qky (h.ext X) (λb I=>ab (hH b I) X.size) hc;have d0:=hY c7;have c2:=hY X;have c8:=hY c0;have U:=hY c1;have HV:=hY hv;have HH:=hY hH;clear c7 X c0 c1 hv hH h;go_in;go_wp2_with fail;refine d0.o.mono ?_;rintro e w1 ⟨R,M,rfl,hR,hM,b6,hr⟩;have J:=c2.o.trans b6;have b8:=c8.o.ext b6;obtain⟨b0,b1,b2,b3,b4,b5⟩:=b8.c6;have hz:=U.o;have a6:=QpA hr d5 hc (av _) hk (v:=v) (sl:=sl) (so:=so) ((HV.o.agree (J.agree λb I=>I.1)).mono λb I=>⟨Nat.lt_of_lt_of_le I.1 J.size,λe=>by
  rcases e with(e|e)|e
  .exact I.2 e
  .have:=I.1;omega
  have:=I.1;omega⟩) d4
 have Z:=hY a6;have HR:=hY hr;have Y:=hY J;have a8:=hY (And.intro hR hM);clear a6 hr J b6 b8 hR hM hz c8 c2 d0;go_wp2_with fail;refine Z.o.mono ?_;rintro e w2 hp;obtain⟨c,rfl,b7,a9,d6,s2,D,z,c3,a5,a0,N,c4⟩:∃c,e=.returned (.int .i64 c)/\c=(setMu es k v).1/\∃(a9:List Ent) (L:Nat->Prop) (s2:Sl) (D:List Nat) (z:List (List Ent)),a9=(setMu es k v).2/\(∀b,H b->L b)/\(∀b,L b->H b\/w<=b)/\R12 L w2 (w.heap.size+1) R M s2 a9 D z/\Nw w w2:=by
  have h1:=a8.o;have hz:=U.o;have d3:∀{W:World},Ext w1 W->∃(L:Nat->Prop) (s2:Sl) (D:List Nat) (z:List (List Ent)),(∀b,H b->L b)/\(∀b,L b->H b\/w<=b)/\R12 L W (w.heap.size+1) R M s2 es D z/\Nw w W:=λ{W} hW=>
   ⟨λb=>(H b\/b=M)\/b=R,Sl.none,[],[],λb I=>.inl (.inl I),λb I=>by
     rcases I with(e|e)|e
     .exact .inl e
     .right;omega
     right;omega,by have:=HR.o.ext hW;rwa[hz]at this,fv (Y.o.trans hW)⟩
  rcases hp with⟨hm,rfl,hx⟩ |⟨hm,hf,rfl,hx⟩ |⟨hm,hf,rfl,L,s2,M2,a1,a2,a3,a4,-,-⟩
  ·obtain ⟨L,s2,D,z,q1,q2,q3,q4⟩:=d3 hx
   have e1:setMu es k v=(8,es):=by unfold setMu;rw[em hm]
   rw[e1];exact⟨_,rfl,rfl,es,L,s2,D,z,rfl,q1,q2,q3,q4⟩
  ·obtain ⟨L,s2,D,z,q1,q2,q3,q4⟩:=d3 hx
   have e1:setMu es k v=(Qbw v,es):=by unfold setMu;rw[ef (by simp[hm]),em hf]
   rw[e1];exact⟨_,rfl,rfl,es,L,s2,D,z,rfl,q1,q2,q3,q4⟩
  have e1:setMu es k v=(0,Qbq es k v):=by unfold setMu;rw[ef (by simp[hm]),ef (by simp[hf])]
  rw[e1];refine⟨_,rfl,rfl,_,L,s2,_,_,rfl,λb I=>a1 b (.inl (.inl I)),λb I=>?_,by rwa[hz]at a3,?_⟩
  ·rcases a2 b I with ((e | e) | e) | e
   .exact .inl e
   .right;omega
   .right;omega
   right;have:=Y.o.size;omega
  refine(fv Y.o).comp (a4.sb) λi hi e=>?_
  rcases e with e|e|e
  .omega
  .omega
  simp[Sl.row,Sl.none]at e
 subst b7;have q0:w2.cell? ⟨R,0,none⟩=some (.pointer (some ⟨M,0,none⟩)):=N.blk.cell 0;have d7:=hY N;have HQ:=hY (show Qmr H w (setMu es k v).2 M w2 from⟨d6,a5,a0,N.below,by have:=a8.o;have:=U.o;omega,c3▸N.cur,c4⟩);obtain⟨r,a7⟩:∃r,setMu es k v=r:=⟨_,rfl⟩;have c9:=hY a7;rw[a7]at HQ ⊢;clear hp c3 a5 a0 N c4 Z HR Y a8 U a7;go_wp2_with fail;refine eD (v:=.tuple #[.pointer (some ⟨M,0,none⟩),.int .i64 r.1]) (by simp[results,results37,go_sem,q0]) rfl ?_;exact⟨M,by rw[c9.o],by rw[c9.o];exact HQ.o⟩
def Qda(l:List Ent):List Ent:=l.filter λe=>Qbd e.1==0&&Qbw e.2==0
theorem Qhi(l:List Ent)(e:Ent):Qda (l++[e])=if Qbd e.1=0/\Qbw e.2=0 then Qda l++[e]else Qda l:=by
 unfold Qda;rw[cu];by_cases h:Qbd e.1=0/\Qbw e.2=0
 .rw [em h];simp[h.1,h.2]
 rw[ef h];have:(Qbd e.1==0&&Qbw e.2==0)=false:=by
  cases h1:(Qbd e.1==0&&Qbw e.2==0)with
  |false=>rfl
  |true=>simp only[Bool.and_eq_true,beq_iff_eq]at h1;exact absurd h1 h
 simp[this]
theorem QhR:∀{l A:List Ent},OkM A->(∀e∈l,Qbd e.1=0/\okV e.2)->OkM (QaJ A l)
 |[],A,h,_=>h
 |a::r,A,h,hl=>QhR (l:=r) (h.put (hl a (aw ..)).1 (hl a (aw ..)).2) λe z=>hl e (aI _ z)
structure QbP(w:World)(l:List LE)(wr:World)(j M:Nat)(s:Sl)(xs:List LE)(H:Nat->Prop):Prop where
 ents:xs.map LE.ent=Qda ((l.take j).map LE.ent)
 sub:∀x∈xs,x∈l
 map:MapAt H wr M (QaJ [] (xs.map LE.ent))
 own:wr.ownsRow w.heap.size 70 7 (.slice s.a xs.length s.c) xs.length (Qai xs)
 low:∀b,H b->w.heap.size<=b
 below:∀b,H b->b<wr.heap.size
 row:∀b,s.row=some b->H b
 nw:Nw w wr
 few:xs.length<=j
section
variable{w wr w2 w7 w9 : World}{l : List LE}{j M M' : Nat}{s s7 : Sl}{xs : List LE}{H : Nat -> Prop}{x : LE}
theorem Qpp{es:List Ent}(h:MapAt H w M es)(k:Nw w w2):MapAt H w2 M es:=h.sb k (λb z=>z.elim) λz=>z.elim
theorem QbP.skip(h:QbP w l wr j M s xs H)(hx:l[j]? = some x)(k:Nw wr w2)(hn:¬(Qbd x.k=0/\Qbw x.v=0)):QbP w l w2 (j+1) M s xs H where
 ents:=by
  rw[aZ,hx,aR];show _=Qda (_++[(x.k,x.v)]);rw[Qhi,ef hn];exact h.ents
 sub:=h.sub
 map:=Qpp h.map k
 own:=Qae h.own (F:=Lt wr) (fC k λb hb=>hb) λb hb=>(Qaa h.own hb).2
 low:=h.low
 below:=λb hb=>ab (h.below b hb) k.size
 row:=h.row
 nw:=h.nw.trans k
 few:=Nat.le_succ_of_le h.few
theorem QbP.more(h:QbP w l wr j M s xs H)(hx:l[j]? = some x)(hp:Qmr H wr (Qbq (QaJ [] (xs.map LE.ent)) x.k x.v) M' w2)(J:Qbd x.k=0/\Qbw x.v=0)(k:Nw w2 w7)(I:w9.ownsRow w.heap.size 70 7 (.slice s7.a (xs.length+1) s7.c) (xs.length+1) (Qai xs++x.cells))(L:Wr w7 w9 s.row)(hs:s7.a=s.a\/s7.a=some ⟨w7,0,none⟩/\Wr w7 w9 none) :
  ∃H',QbP w l w9 (j+1) M' s7 (xs++[x]) H':=by
 obtain⟨Y,h1,h2,Z,h4,h5,h6⟩:=hp;have hz:=h.nw.size;have z6:=h6.size;have z7:=k.size;have z9:=L.grown.size;have R:MapAt Y w7 M' (Qbq (QaJ [] (xs.map LE.ent)) x.k x.v):=Qpp h5 k;have D:∀b,s7.row=some b->s.row=some b\/b=w7.heap.size:=λb z=>by
  rcases hs with e |⟨e,-⟩
  .left;unfold Sl.row at z ⊢;rwa[e]at z
  right;unfold Sl.row at z;rw[e]at z;simpa using z.symm
 have a0:M'<w7.heap.size:=ab (Z M' h5.hm) z7;have X:s.row≠some M':=λe=>by have:=(Qaa h.own e).2;omega
 refine⟨λb=>Y b\/s7.row=some b,?_,?_,?_,?_,?_,?_,λb z=>.inr z,?_,?_⟩
 ·rw [aR,h.ents,aZ,hx,aR]
  show _=Qda (_++[(x.k,x.v)]);rw[Qhi,em J];rfl
 ·intro y J
  rcases aE.1 J with J|J
  .exact h.sub y J
  rw[br.1 J];exact al hx
 ·rw [aR]
  show MapAt _ _ _ (QaJ [] (_++[(x.k,x.v)]));rw[QeC];have U:St (λb=>s.row=some b) w7 w9:=L.st λi hi=>hi
  refine MapAt.st (G:=λb=>s.row=some b) (R.more (G:=λb=>Y b\/s7.row=some b) (λb z=>.inl z) λb z N=>?_) U (λb z=>.inl (h1 b (h.row b z))) X;rcases N with N|N
  .exact N
  rcases D b N with e|e
  .exact h1 b (h.row b e)
  omega
 ·rw [ai,QaA,show Qai [x]=x.cells by simp [Qai]]
  exact I
 ·rintro b (z | z)
  ·rcases h2 b z with e | e
   .exact h.low b e
   omega
  rcases D b z with e|e
  .exact h.low b (h.row b e)
  omega
 ·rintro b (z | z)
  .have:=Z b z;omega
  exact(Qaa I z).2
 .exact ((h.nw.trans h6).trans k).comp ⟨L.grown.os,L.grown.tape,L.grown.output,L.grown.size,λi hi hn=>L.grown.block i hi λe=>hn e.symm⟩ λi hi e=>by have:=h.low i (h.row i e);omega
 rw[ai];exact Nat.succ_le_succ h.few
end
def Qkw(w:World)(l:List LE)(e:Ending)(w':World):Prop:=
 ∃(M:Nat) (s:Sl) (xs:List LE) (H:Nat->Prop),e=.returned (.tuple #[.pointer (some ⟨M,0,none⟩),.slice s.a xs.length s.c])/\QbP w l w' l.length M s xs H
variable{M:List Ent}
theorem QhU{k:ByteArray}{v:Val}:(setMu M k v).1=0↔Qbd k=0/\Qbw v=0:=by
 unfold setMu;by_cases h:Qbd k=0
 ·rw [ef (by simp [h])]
  by_cases h2:Qbw v=0
  .rw [ef (by simp[h2])];simp[h,h2]
  rw[em h2];simp[h,h2]
 rw[em h];simp[h]
theorem QpS{k:ByteArray}{v:Val}(h:Qbd k=0/\Qbw v=0):(setMu M k v).2=Qbq M k v:=by
 unfold setMu;rw[ef (by simp[h.1]),ef (by simp[h.2])]
variable{w':World}
theorem Qmr.nw{es:List Ent}{M:Nat}(h:Qmr H w es M w'):Nw w w':=by
 obtain⟨D,-,-,-,-,-,z⟩:=h;exact z
variable{xs:List LE}
theorem QbP.nwS{w wr w2:World}{l:List LE}{j M:Nat}(h:QbP w l wr j M s xs H)(k:Nw wr w2):QbP w l w2 j M s xs H:=
 ⟨h.ents,h.sub,Qpp h.map k,Qae h.own (F:=Lt wr) (fC k λb z=>z) (λb z=>(Qaa h.own z).2),h.low,λb z=>ab (h.below b z) k.size,h.row,h.nw.trans k,h.few⟩
theorem QjW(l:List Ent):∀{es:List Ent},Sorted es->Sorted (QaJ es l):=by
 induction l with
 |nil=>exactλh=>h
 |cons a l ih=>exactλh=>ih (QaS h a.1 a.2)
variable{s0:Sl}
theorem Qla{l:List LE}(hs:ES w (Lt w.heap.size) s0 l)(hl:l.length<=1000)(hc:∀x∈l,cntV x.v<=1100000):Calls prog 11 #[.slice s0.a l.length s0.c] w (Qkw w l):=by
 obtain⟨i0,hi,c9,d6,d3⟩:=eG Tryz.Qa1;have HS:=hY hs;have HC:=hY hc;clear hs hc;go_in;go_wp2_with fail;generalize Z:World.alloc w _=w0;have b5:Ext w w0:=by rw[<-Z];exact(fu w).alloc _ _
 have L:Blk w0 w.heap.size 55 #[.slice none 0 0]:=by rw[<-Z];exact fx w _ _
 have hz:w0.heap.size=w.heap.size+1:=by rw[<-Z];exact ew _ _
 have c7:=hY (show QbP w l w0 0 w.heap.size Sl.none [] (λb=>b=w.heap.size)from
  ⟨rfl,(λx hx=>by cases hx),⟨rfl,Sl.none,[],L,⟨Rd.nil _ _ _,λx h=>by simp at h,by decide⟩,rfl⟩,eJ _ _ _ _,(λb N=>by omega),(λb N=>by omega),(λb N=>by simp[Sl.row,Sl.none]at N),fv b5,an _⟩)
 clear Z b5 L hz;go_loopw[4,5,6] (λv4 v5 v6 wr=>∃(j M:Nat) (s:Sl) (xs:List LE) (H:Nat->Prop),v4=.pointer (some ⟨M,0,none⟩)/\v5=.slice s.a xs.length s.c/\v6=.int .i64 (j:Int)/\j<=l.length/\Yd (QbP w l wr j M s xs H)) (λ_ _ v _=>l.length -(intOf v).toNat)
 case atStart=>exact⟨0,w.heap.size,Sl.none,[],_,rfl,rfl,rfl,av _,c7⟩
 obtain⟨j,M,s,xs,H,rfl,rfl,rfl,hj,D⟩:=hrel;by_cases a8:j<l.length
 ·have l1:(j:Int)<(l.length:Int):=by omega
  have e7:decide ((j:Int)<(l.length:Int))=true:=ej l1;have l0:(0:Int)<=(j:Int):=by omega
  obtain⟨x,hx⟩:∃x,l[j]? = some x:=⟨_,ac a8⟩;have b4:=al hx;obtain⟨b0,X,a9,L,e8,f0,cK,Y,c6,a6⟩:=HS.o.at hx;have a7:∀W,Nw w W->W.cell? ⟨b0,X+j*7,none⟩=some (.string x.k)/\QaL W b0 (X+j*7+1) x.v x.sl x.so:=λW hW=>⟨(fC hW (F:=Lt w.heap.size) λb N=>N).cell L |>.trans cK,Y.agree (fC hW (F:=Lt w.heap.size) λb N=>N) L⟩
  have e3:=hY a7;have b3:=hY hx;have e6:=hY a6;have z:=hY (show ∀W,Nw wr W->W.cell? ⟨b0,X+j*7,none⟩=some (.string x.k)/\W.cell? ⟨b0,X+j*7+1,none⟩=some (.int .i64 x.v.kind)/\W.cell? ⟨b0,X+j*7+1+1,none⟩=some (.bool x.v.b)/\W.cell? ⟨b0,X+j*7+1+2,none⟩=some (.int .i64 x.v.i)/\W.cell? ⟨b0,X+j*7+1+3,none⟩=some (.string x.v.t)/\W.cell? ⟨b0,X+j*7+1+4,none⟩=some (.slice x.sl.a x.v.l.length x.sl.c)/\W.cell? ⟨b0,X+j*7+1+5,none⟩=some (.slice x.so.a x.v.ok.length x.so.c)from
   λW hW=>by
    obtain⟨h1,h2⟩:=a7 W (D.o.nw.trans hW);exact⟨h1,h2.c0,h2.c1,h2.c2,h2.c3,h2.c4,h2.c5⟩)
  have a1:=hY (show ∀W,Nw wr W->Calls prog 37 #[.pointer (some ⟨M,0,none⟩),.string x.k,aggV x.v x.sl x.so] W λe w'=>∃M',e=.returned (.tuple #[.pointer (some ⟨M',0,none⟩),.int .i64 (setMu (QaJ [] (xs.map LE.ent)) x.k x.v).1])/\Qmr H W (setMu (QaJ [] (xs.map LE.ent)) x.k x.v).2 M' w' fromλW hW=>by
   have J:=D.o.nwS hW;exact QpB J.map J.below (QjW _ List.Pairwise.nil) (by have h1:=Qea (xs.map LE.ent) [];rw[aq]at h1;have h2:=J.few;simp only[List.length_nil]at h1;omega) a6 ((c6.agree (fC J.nw λb N=>N)).mono λb N=>⟨Nat.lt_of_lt_of_le N J.nw.size,λhh=>by have:=J.low b hh;have:b<w.heap.size:=N;omega⟩) (HC.o x b4))
  rw[a9];clear a7 hx b4 a9 L cK Y c6 a6;obtain⟨r,hr⟩:∃r,setMu (QaJ [] (xs.map LE.ent)) x.k x.v=r:=⟨_,rfl⟩;rw[hr]at a1;have HR:=hY hr;clear hr;go_wp2_with fail;refine ez (S:=(λw'=>Nw wr w')) (by kernel_rfl) ((fv ((fu wr).drew))) (λhHeld=>?_);refine Qad 0 (some 18) z hHeld ?_;refine Qad 1 (some 19) z hHeld ?_;refine Qad 2 (some 20) z hHeld ?_;refine Qad 3 (some 21) z hHeld ?_;refine Qad 4 (some 22) z hHeld ?_;refine Qad 5 (some 23) z hHeld ?_;refine Qad 6 (some 24) z hHeld ?_;refine Qad 7 (some 25) z hHeld ?_;refine Qad 8 (some 26) z hHeld ?_;refine Qad 9 (some 27) z hHeld ?_;refine Qad 10 (some 28) z hHeld ?_;refine Qag (i:=11) (by kernel_rfl) rfl (by rfl) (λK hK=>?_);go_simp
  (have d0:=hY hHeld;refine(a1.o _ hHeld).mono ?_;rintro e w2 ⟨M2,rfl,I⟩;have a2:=hY I;clear I)
  refine hK.out _ _ (hHeld.trans a2.o.nw) (λhHeld=>?_);clear hK K
  try simp only[Act.put,List.setIfInBounds_toArray,List.set_cons_zero,List.set_cons_succ]
  refine Qad 12 (some 17) z hHeld ?_;refine Qad 13 (some 30) z hHeld ?_;refine Qad 14 (some 31) z hHeld ?_;refine Qad 15 (some 7) z hHeld ?_;refine Qad 16 (some 8) z hHeld ?_;refine eE (by kernel_rfl) ?_ _;by_cases h0:r.1=0
  ·have g0:(r.1 == 0)=true:=by simp [h0]
   have hy:=QhU.1 (by rw[HR.o];exact h0:(setMu (QaJ [] (xs.map LE.ent)) x.k x.v).1=0);have HY:=hY hy;have a3:=hY hHeld;have I:=a2.o;rw[<-HR.o,QpS hy]at I;have a5:=hY I;obtain⟨cK,Y⟩:=e3.o w2 (D.o.nw.trans hHeld);obtain⟨c0,c1,c2,c3,c4,c5⟩:=Y;have c8:=hY (fx w2 70 x.cells.toArray);have a0:Nw w2 (w2.alloc (.cells x.cells.toArray 70)):=fv ((fu w2).alloc _ _);have e0:=hY a0;have d5:=hY (D.o.nwS (hHeld.trans a0)).own;have b8:xs.length+1<=maxLen:=by have:=D.o.few;unfold maxLen;omega
   have b7:(xs.length+1)*104<=140737488355328:=by have:=D.o.few;omega
   have U:w.heap.size<=(w2.alloc (.cells x.cells.toArray 70)).heap.size:=((D.o.nw.trans hHeld).trans a0).size;have d8:=hY b8;have e2:=hY b7;have d7:=hY U;clear h0 hy I hHeld a0 b8 b7 U;go_wp2_with(at_builtin;refine Qac _ rfl (.tmp 35) (.tmp 40) 22 rfl w.heap.size 70 i0 _ 7 104 underlying22 hi c9 d6 d3 rfl (by decide) s xs.length (Qai xs) rfl d5.o (λb=>b=w2.heap.size) ⟨some ⟨w2.heap.size,0,none⟩,1⟩ 1 x.cells rfl (fG c8.o (by decide) rfl) (LE.one _) d8.o e2.o d7.o ?_;intro s7 w9 R a4 b6;have e1:=hY R;have e4:=hY a4;have d4:=hY b6;clear R a4 b6);go_roundw
   case measure=>simp[intOf];omega
   obtain⟨H',J⟩:=(D.o.nwS d0.o).more b3.o a5.o HY.o e0.o e1.o e4.o d4.o;exact⟨j+1,M2,s7,xs++[x],H',rfl,by rw[ai];rfl,by go_num,a8,hY J⟩
  have g0:(r.1==0)=false:=eu.2 h0;have HY:=hY (show ¬(Qbd x.k=0/\Qbw x.v=0) fromλhy=>h0 (by rw[<-HR.o];exact QhU.2 hy));have a3:=hY hHeld;clear h0 hHeld;go_wp2_with fail;go_roundw
  case measure=>simp[intOf];omega
  exact⟨j+1,M,s,xs,H,rfl,rfl,by go_num,a8,hY (D.o.skip b3.o a3.o HY.o)⟩
 obtain rfl:j=l.length:=by omega
 have l1:decide ((l.length:Int)<(l.length:Int))=false:=eh (by omega);go_wp2_with fail;refine eD (v:=.tuple #[.pointer (some ⟨M,0,none⟩),.slice s.a xs.length s.c]) (by simp[results,results11,go_sem]) rfl ?_;exact⟨M,s,xs,H,rfl,D.o⟩
theorem Qp1{l:List LE}(hs:ES w (Lt w) s l):OkM (QaJ [] (Qda (l.map LE.ent))):=
 QhR OkM.nil λe z=>by
  unfold Qda at z;rw[bX]at z;obtain⟨h1,h2⟩:=z;simp only[Bool.and_eq_true,beq_iff_eq]at h2;obtain⟨x,D,rfl⟩:=bM.1 h1;exact⟨h2.1,(hs.vals x D).1.wf,h2.2⟩
theorem QbP.es{w wr:World}{l xs:List LE}{j M:Nat}(h:QbP w l wr j M s xs H)(hs:ES w (Lt w) s0 l)(I:j<=1000):ES wr (Lt wr) s xs:=
 ⟨(fE h.own).mono λb z=>z.2,λx D=>⟨((hs.vals x (h.sub x D)).1.agree (fC h.nw λb z=>z)).mono λb z=>ab z h.nw.size,(hs.vals x (h.sub x D)).2⟩,by have:=h.few;omega⟩
theorem Qnr(l:List Ent):(QaJ [] (Qda l)).length<=l.length:=by
 have h:=Qea (Qda l) [];have h2:(Qda l).length<=l.length:=bY _ _;simp at h;omega
theorem Qvg(m:Mu)(c:MuS):∃z,prog.underlying 31=some z/\z.isRow=true/\(prog.info? 31).map (·.size)=some (QfQ m c).size:=⟨_,underlying31,rfl,Tryz.QkO⟩
variable{w1:World}
theorem Qvp{l xs:List LE}{M:Nat}(h:QbP w l w1 l.length M s xs H)(hs:ES w (Lt w) s0 l)(Z:l.length<=60) :
  ∃E:List Ent,OkM E/\E.length<=60/\MapAt H w1 M E/\xs.length<=60/\Calls prog 13 #[.slice s.a xs.length s.c] w1 λe w2=>∃T p,e=.returned (.agg #[.pointer p])/\Qay T=.pointer p/\OkR T/\Qab T=E/\IsT w2 (In w1.heap.size w2.heap.size) T/\Ext w1 w2:=by
 have z:=h.ents;rw[aP]at z;have I:=h.map;have N:=h.es hs (by omega);have J:=Qp1 hs;have L:=Qnr (l.map LE.ent);have U:=h.few;rw[aq]at L;rw[<-z]at J L;refine⟨_,J,by omega,I,by omega,(Qi8 N (by omega)).mono ?_⟩;rintro e w2 ⟨T,rfl,D,X,Y⟩;obtain⟨p,R⟩:=Qaq T;exact⟨T,p,by rw[Qau,R],R,D.both.1,D.both.2,X,Y⟩
end Go.Proofs.YtkjkafgnnoidpaaGreatDoor
