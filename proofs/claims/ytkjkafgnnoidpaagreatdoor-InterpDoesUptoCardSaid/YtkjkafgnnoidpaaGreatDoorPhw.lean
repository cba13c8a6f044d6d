/- What InterpDoes needs beyond the other texts: no condition of its own. -/
import Derived.Test.YtkjkafgnnoidpaaGreatDoorPhp
import Derived.Test.YtkjkafgnnoidpaaGreatDoorPhl
import Derived.Test.YtkjkafgnnoidpaaGreatDoorPhm
import Derived.Test.YtkjkafgnnoidpaaGreatDoorPhu
import Derived.Test.YtkjkafgnnoidpaaGreatDoorPhv
namespace Go.Proofs.YtkjkafgnnoidpaaGreatDoor
open Go.RowKit
set_option linter.unusedVariables false
set_option linter.unusedSimpArgs false
theorem MapAt.wide{H:Nat->Prop}{w:World}{M:Nat}{es:List Ent}(h:MapAt H w M es)(N:Nat):MapAt (λb=>H b\/(w.heap.size<=b/\b<N)) w M es:=
 h.more (λb hb=>.inl hb) λb hb hg=>hg.elim id λhh=>by omega
end Go.Proofs.YtkjkafgnnoidpaaGreatDoor
namespace Go.Proofs.YtkjkafgnnoidpaaGreatDoor
open Go.RowKit Go.Maps Go.Shelf
set_option linter.unusedVariables false
set_option linter.unusedSimpArgs false
structure Pr13(n0:Nat)(w2:World)(V:Nat->Prop)(O M:Nat)(T:RT)(W:World)(d:OD)(EO EM:List Ent):Prop where
 ov:OvX V W O d EO
 map:∃G:Nat->Prop,MapAt G W M EM/\(∀b,OvB O d b->G b)/\(∀b,G b->b<W.heap.size)/\∀b,G b->n0<=b
 own:∀b,OvB O d b->w2.heap.size<=b
 T_:d.T=T
 keep:Sb (λb=>b=M) w2 W
 vm:V M
 vlt:∀b,V b->b<w2.heap.size
section
variable{n0 n : Nat}{w2 W W' : World}{V : Nat -> Prop}{O M : Nat}{T : RT}{d d' : OD}{EO EO' EM EM' : List Ent}
theorem Pr13.lt(h:Pr13 n0 w2 V O M T W d EO EM):M<w2.heap.size:=h.vlt M h.vm
theorem Pr13.out(h:Pr13 n0 w2 V O M T W d EO EM):¬OvB O d M:=λe=>by have:=h.own M e;have:=h.lt;omega
theorem Pr13.below(h:Pr13 n0 w2 V O M T W d EO EM):∀b,V b->b<W.heap.size:=λb hb=>Nat.lt_of_lt_of_le (h.vlt b hb) h.keep.size
theorem Pr13.nw(h:Pr13 n0 w2 V O M T W d EO EM)(k:Nw W W'):Pr13 n0 w2 V O M T W' d EO EM:=by
 obtain⟨G,h1,h2,h3,h4⟩:=h.map;exact⟨h.ov.nw k,⟨G,h1.nw k,h2,λb hb=>Nat.lt_of_lt_of_le (h3 b hb) k.size,h4⟩,h.own,h.T_,h.keep.trans (k.any _),h.vm,h.vlt⟩
theorem Pr13.go(h:Pr13 n0 w2 V O M T W d EO EM)(hn:n0<=w2.heap.size)(g:GoX V W O d EO' n W' d'):Pr13 n0 w2 V O M T W' d' EO' EM:=by
 obtain⟨G,h1,h2,h3,h4⟩:=h.map;have hk:=h.keep.size;refine⟨g.at_,⟨λb=>G b\/(W.heap.size<=b/\b<W'.heap.size),?_,λb hb=>?_,λb hb=>hb.elim (λe=>Nat.lt_of_lt_of_le (h3 b e) g.go.sb.size) λe=>e.2,λb hb=>hb.elim (h4 b) λe=>by omega⟩,λb hb=>(g.go.new b hb).elim (h.own b) λe=>by omega,g.T.trans h.T_,h.keep.comp g.go.sb λi hi e=>by have:=h.own i e;omega,h.vm,h.vlt⟩
 .exact (h1.wide _).sb g.go.sb (λb hb=>.inl (h2 b hb)) h.out
 .exact (g.go.new b hb).elim (λe=>.inl (h2 b e)) λe=>.inr ⟨e,g.at_.ov.Qbe hb⟩
theorem Pr13.turn(h:Pr13 n0 w2 V O M T W d EO EM){G:Nat->Prop}(k:St (λb=>b=M) W W')(hm:MapAt G W' M EM')(h2:∀b,OvB O d b->G b)(h3:∀b,G b->b<W.heap.size)(h4:∀b,G b->n0<=b):Pr13 n0 w2 V O M T W' d EO EM':=
 ⟨⟨h.ov.ov.sb k.sb λb e=>by rw[e];exact h.vm,h.ov.rel⟩,⟨G,hm,h2,λb hb=>Nat.lt_of_lt_of_le (h3 b hb) k.size,h4⟩,h.own,h.T_,h.keep.trans k.sb,h.vm,h.vlt⟩
theorem Pr13.put(h:Pr13 n0 w2 V O M T W d EO EM)(hs:Sorted EM)(hl:EM.length<=1000000){k:ByteArray}(hk:k.size<=maxLen){x:Int}(hx:(Lit.int .i64 x).wf=true) :
  Calls Tryz.prog 16 #[.pointer (some ⟨M,0,none⟩),.string k,QuH x] W λe W'=>(∃r,e=.returned r)/\Pr13 n0 w2 V O M T W' d EO (Qbq EM k (Qbs x)):=by
 obtain⟨G,h1,h2,h3,h4⟩:=h.map;refine(Qrv h1 h3 hs hl hk (v:=Qbs x) (sl:=Sl.none) (so:=Sl.none) (Qgl W _ hx)).mono ?_;rintro e W' ⟨hr,hm,hst⟩;exact⟨hr,h.turn hst hm h2 h3 h4⟩
theorem Pr13.del(h:Pr13 n0 w2 V O M T W d EO EM)(hs:Sorted EM)(hl:EM.length<=1000000)(k:ByteArray) :
  Calls Tryz.prog 18 #[.pointer (some ⟨M,0,none⟩),.string k] W λe W'=>(∃r,e=.returned r)/\Pr13 n0 w2 V O M T W' d EO (Qb2 EM k):=by
 obtain⟨G,h1,h2,h3,h4⟩:=h.map;refine(Qwk h1 h3 hs hl k).mono ?_;rintro e W' ⟨hr,hm,hst⟩;exact⟨⟨_,hr⟩,h.turn hst hm h2 h3 h4⟩
theorem Pr13.run(h:Pr13 n0 w2 V O M T W d EO EM)(hM:OkM EM)(hc:EM.length<=40000){m:Mu}{c:MuS}(hm:RMu W (λb=>b<n0) m c)(hn:n0<=W.heap.size)(ht:QcF m<=1100000) :
  Calls Tryz.prog 21 #[.pointer (some ⟨M,0,none⟩),QaG m c] W λe W'=>∃M' s xs,e=.returned (.tuple #[.pointer (some ⟨M',0,none⟩),.int .i64 (runM EM m).1])/\Blk W' M' 55 #[.slice s.a xs.length s.c]/\ES W' (Lt W'.heap.size) s xs/\xs.map LE.ent=(runM EM m).2/\Nw W W'/\∃G:Nat->Prop,(∀b,OvB O d b->G b)/\MapAt G W' M' (runM EM m).2:=by
 obtain⟨G,h1,h2,h3,h4⟩:=h.map;refine(QvN h1 h3 hM hc (hm.mono λb hb=>⟨Nat.lt_of_lt_of_le hb hn,λe=>by have:=h4 b e;omega⟩) ht).mono ?_;rintro e W' ⟨M',rfl,G',a1,a2,a3,a4,a5⟩;have a4':=a4;obtain⟨-,s,xs,b1,b2,b3⟩:=a4';exact⟨M',s,xs,rfl,b1,b2.mono λb hb=>hb.1,b3,a5,G',λb hb=>a1 b (h2 b hb),a4⟩
theorem Pr13.low(h:Pr13 n0 w2 V O M T W d EO EM):n0<=M:=by
 obtain⟨G,h1,h2,h3,h4⟩:=h.map;exact h4 M h1.hm
theorem Pr13.nw0(h:Pr13 n0 w2 V O M T W d EO EM){W0:World}(k:Nw W0 w2)(hz:W0.heap.size<=n0):Nw W0 W:=k.comp h.keep λi hi e=>by have:=h.low;omega
theorem Pr13.row(h:Pr13 n0 w2 V O M T W d EO EM):∃s xs,xs.map LE.ent=EM/\∀W',Sb (OvB O d) W W'->Blk W' M 55 #[.slice s.a xs.length s.c]/\ES W' (Lt W'.heap.size) s xs:=by
 have ho:=h.out;obtain⟨G,⟨-,s,xs,b1,b2,b3⟩,h2,-⟩:=h.map;exact⟨s,xs,b3,λW' k=>⟨k.blk b1 ho,(b2.agree λb hb=>k.block b hb.1 λe=>hb.2 (h2 b e)).mono λb hb=>Nat.lt_of_lt_of_le hb.1 k.size⟩⟩
theorem Pr13.oput(h:Pr13 n0 w2 V O M T W d EO EM)(hn:n0<=w2.heap.size)(hL:Qb9 W)(hu:d.us.length<=1000){k:ByteArray}(hk:k.size<=maxLen) :
  Calls Tryz.prog 14 #[.pointer (some ⟨O,0,none⟩),.string k,QuH 1] W λe W'=>e=.returned (.int .i64 (setMu EO k (Qbs 1)).1)/\∃d',Pr13 n0 w2 V O M T W' d' (setMu EO k (Qbs 1)).2 EM/\d'.us.length<=d.us.length+1:=
 (Qql h.ov h.below (by omega) hk (v:=Qbs 1) (sl:=Sl.none) (so:=Sl.none) (Qgl W _ (by decide)) (by decide +kernel) hL).mono λe W' ⟨he,d',g⟩=>⟨he,d',h.go hn g,g.few⟩
theorem Pr13.odel(h:Pr13 n0 w2 V O M T W d EO EM)(hn:n0<=w2.heap.size)(hu:d.us.length<=1000)(hT:(Qab T).length<=1000000){k:ByteArray}(hk:k.size<=maxLen) :
  Calls Tryz.prog 17 #[.pointer (some ⟨O,0,none⟩),.string k] W λe W'=>(∃b,e=.returned (.bool b))/\∃d',Pr13 n0 w2 V O M T W' d' (Qb2 EO k) EM/\d'.us.length<=d.us.length+1:=
 (Que h.ov h.below (by omega) (by rw[h.T_];exact hT) hk).mono λe W' ⟨he,d',g⟩=>⟨⟨_,he⟩,d',h.go hn g,g.few⟩
theorem Pr13.odo(h:Pr13 n0 w2 V O M T W d EO EM)(hn:n0<=w2.heap.size)(h6:∀b,b<6->V b)(hL:Qb9 W)(hu:d.us.length<=1000)(hT:(Qab T).length<=1000000)(hl:EO.length<=4000){m:Mu}{c:MuS}(hm:RMu W (λb=>b<n0) m c)(ht:QcF m<=1100000) :
  Calls Tryz.prog 20 #[.pointer (some ⟨O,0,none⟩),QaG m c] W λe W'=>e=.returned (.int .i64 (runM EO m).1)/\∃d',GoX V W O d (runM EO m).2 (noB (runM EO m).1 (Qcd m EO)) W' d'/\Pr13 n0 w2 V O M T W' d' (runM EO m).2 EM/\d'.us.length<=600000/\((runM EO m).1≠0->d'.us.length=d.us.length):=by
 have hb:QbE m=0->Qcd m EO<=64*8129:=λh0=>by
  have hs:QaT m<=64:=by unfold QbE at h0;split at h0<;>omega
  exact Nat.mul_le_mul hs (by omega)
 have hz:=h.keep.size;refine(Qs9 h.ov h.below h6 (hm.mono λb hb=>⟨by omega,λe=>by have:=h.own b e;omega⟩) hL (λh0=>by have:=hb h0;omega) (by rw[h.T_];exact hT) ht).mono ?_;rintro e W' ⟨he,d',g⟩;have hf:=g.few;have hu2:=g.us.length_le;refine⟨he,d',g,h.go hn g,?_,λh0=>?_⟩
 ·by_cases h0:(runM EO m).1=0
  ·have h1:QbE m=0:=by
    unfold runM at h0;split at h0
    .rename_i hk;exact absurd h0 hk
    .rename_i hk;simpa using hk
   have:=hb h1;have:=Qwq (runM EO m).1 (Qcd m EO);omega
  .rw [noB,if_neg h0]at hf;omega
 .rw [noB,if_neg h0]at hf;omega
theorem Pr13.oback(h:Pr13 n0 w2 V O M T W d EO EM)(hn:n0<=w2.heap.size)(g:GoX V W O d EO' n W' d')(hu:d'.us.length<=1000000) :
  Calls Tryz.prog 24 #[.pointer (some ⟨O,0,none⟩),.int .i64 (d.us.length:Int)] W' λe W3=>e=.returned (.int .i64 0)/\Sb (OvB O d) W W3/\∃d3,Pr13 n0 w2 V O M T W3 d3 EO EM/\d3.us.length=d.us.length:=
 (Qub h.ov g hu).mono λe W3 ⟨he,d3,g3,hd⟩=>⟨he,g3.go.sb,d3,h.go hn g3,by rw[hd]⟩
theorem Pr13.com(h:Pr13 n0 w2 V O M T W d EO EM)(hl:(Qab T).length+d.us.length<=1000000) :
  Calls Tryz.prog 23 #[.pointer (some ⟨O,0,none⟩)] W λe W'=>∃p',e=.returned (.agg #[.pointer p'])/\Nw W W'/\∀W2 (s:Sl) (xs:List LE),Nw W' W2->ES W2 (Lt W2.heap.size) s xs->xs.map LE.ent=EO->EO.length<=1000000->
   Calls Tryz.prog 22 #[.agg #[.pointer p'],.slice s.a xs.length s.c] W2 λe W3=>e=.returned (.bool true)/\Ext W2 W3:=by
 have hfew:=h.ov.ov.few;refine(QuT h.ov (by rw[h.T_];omega)).mono ?_;rintro e W' ⟨T',rfl,ok,hT,he,hn,-⟩;obtain⟨p',hp⟩:=Qaq T';refine⟨p',by rw[Qau,hp],hn,λW2 s xs hW hes hx hl=>?_⟩;have hlt:∀b,Up (OvF V W O d) W W' b->b<W'.heap.size:=λb hb=>hb.elim (λe=>Nat.lt_of_lt_of_le e.1 hn.size) λe=>e.2
 have:=QoJ (F:=Up (OvF V W O d) W W') (λb hb=>Nat.lt_of_lt_of_le (hlt b hb) hW.size) (hT.agree (Nw.agree hW hlt)) ok (by rw[he];exact hl) hes;rw[Qau,hp,he,hx,Qec]at this;exact this
theorem Pr13.begin{w0 w1 w3:World}{H:Nat->Prop}(hm:MapAt H w1 M EM)(hM:OkM EM)(hlow:∀b,H b->w0.heap.size<=b)(hbel:∀b,H b->b<w1.heap.size)(h12:Nw w1 w2)(h23:Nw w2 w3)(h01:w0.heap.size<=w1.heap.size)(he:Qab T=EM)(hO:w2.heap.size<=O)
  (ho:QcW (λb=>b<w2.heap.size/\¬In w1.heap.size w2.heap.size b) w3 O (od0 T)):Pr13 w0.heap.size w2 (λb=>b<w2.heap.size/\¬In w1.heap.size w2.heap.size b) O M T w3 (od0 T) EM EM:=by
 have hb:∀b,OvB O (od0 T) b->b=O:=λb e=>by
  rcases e with e|e|e
  .exact e
  .cases e
  .cases e
 have z12:=h12.size;have z23:=h23.size;have hOl:O<w3.heap.size:=ho.blk.lt;refine⟨⟨ho,?_⟩,⟨λb=>H b\/(w1.heap.size<=b/\b<w3.heap.size),(hm.wide _).nw (h12.trans h23),λb e=>.inr (by have:=hb b e;omega),λb e=>e.elim (λe=>by have:=hbel b e;omega) λe=>e.2,λb e=>e.elim (hlow b) λe=>by omega⟩,λb e=>by have:=hb b e;omega,rfl,h23.any _,⟨by have:=hbel M hm.hm;omega,λe=>by have:=hbel M hm.hm;have:=e.1;omega⟩,λb e=>e.1⟩;show QiS (Qab T) (Qht (od0 T).C) EM;rw[he];exact QiS.start hM
end
end Go.Proofs.YtkjkafgnnoidpaaGreatDoor
namespace Go.Proofs.YtkjkafgnnoidpaaGreatDoor
open Go.RowKit Go.Maps Go.Shelf
set_option linter.unusedVariables false
set_option linter.unusedSimpArgs false
set_option maxRecDepth 100000 in
set_option maxHeartbeats 4000000 in
theorem does13{w:World}{s0:Sl}{l:List LE}{p d:ByteArray}{m:Mu}{c:MuS}(hs:ES w (Lt w.heap.size) s0 l)(hc:∀x∈l,Qb4 x.v<=1100000)(hm:RMu w (Lt w.heap.size) m c)(ht:QcF m<=1100000)(hpd:p.size+d.size<=1048576)(hL:Qb9 w) :
  Calls Tryz.prog 3 #[.slice s0.a l.length s0.c,.string p,.string d,QaG m c] w λe w'=>e=.returned (.bool true)/\Nw w w':=by
 have hbig:=hL.lib.big;have hkp:p.size<=maxLen:=by unfold maxLen;omega
 have hkd:d.size<=maxLen:=by unfold maxLen;omega
 have HKN:=hY (λW (hW:Nw w W)=>QsF (hL.nw hW));have HL:=hY hL;have HS:=hY hs;have HC:=hY hc;have HM:=hY hm;have HTT:=hY ht;have HKP:=hY hkp;have HKD:=hY hkd;clear hL hs hc hm ht hpd hkp hkd;go_enter Tryz.func3,Tryz.ntmps3;go_upto_region 1 with fail;generalize hW0:World.alloc _ _=W0;obtain⟨hx0,hb0,hz0⟩:=Qaz (m:=m) (c:=c) hW0;have HX0:=hY (Nw.of hx0);have HB0:=hY hb0;clear hW0 hx0 hb0;by_cases h60:60<l.length
 ·have l1:decide ((60:Int)<(l.length:Int))=true:=decide_eq_true (by omega)
  go_wp2_with fail;refine(HKN.out W0 HX0.out).mono ?_;rintro e w1 ⟨rfl,hn⟩;have HN:=hY (HX0.out.trans hn);clear hn;go_wp2_with fail;go_ret;exact⟨rfl,HN.out⟩
 have l1:decide ((60:Int)<(l.length:Int))=false:=decide_eq_false (by omega);have HS0:=hY (show ES W0 (Lt W0.heap.size) s0 l from(HS.out.agree (Nw.agree HX0.out λb hb=>hb)).mono λb hb=>Nat.lt_of_lt_of_le hb HX0.out.size);have HM0:=hY (show ∀W,Nw W0 W->RMu W (λb=>b<W0.heap.size) m c fromλW hW=>(HM.out.agree (Nw.agree (HX0.out.trans hW) λb hb=>hb)).mono λb hb=>Nat.lt_of_lt_of_le hb HX0.out.size);clear HS HM;go_wp2_with fail;refine(Qla HS0.out (by omega) HC.out).mono ?_;rintro e w1 ⟨M,s,xs,H,rfl,hst1⟩;obtain⟨E,hOk,hEl,hmap,hxs,hbuild⟩:=Qvp hst1 HS0.out (by omega);have HN1:=hY hst1.nw;have HOK:=hY hOk;have HBU:=hY hbuild;have HMAP:=hY hmap;have HLOW:=hY hst1.low;have HBEL:=hY hst1.below;clear hst1 hOk hbuild hmap l1;go_wp2_with fail;refine HBU.out.mono ?_;rintro e w2 ⟨T1,p1,rfl,hp1,ok1,he1,hT1,hx2⟩;have hbeg:=Qqz (w:=w2) (F:=In w1.heap.size w2.heap.size) (H:=λb=>b<w2.heap.size/\¬In w1.heap.size w2.heap.size b) (T:=T1) hT1 ok1 (λb hb=>⟨hb.2,λe=>e.2 hb⟩) (λb hb=>hb.1);rw[Qau,hp1]at hbeg;have HBG:=hY hbeg;have HX2:=hY (Nw.of hx2);have HE1:=hY he1;clear hp1 ok1 he1 hT1 hx2 hbeg HBU;go_wp2_with fail;refine HBG.out.mono ?_;rintro e w3 ⟨O,rfl,hO,hov,hx3⟩;have z0:=HX0.out.size;have z1:=HN1.out.size;have z2:=HX2.out.size;have HPR:=hY (Pr13.begin HMAP.out HOK.out HLOW.out HBEL.out HX2.out (Nw.of hx3) z1 HE1.out hO hov);have hTl:(Qab T1).length<=60:=by rw[HE1.out];exact hEl
 have HN02:=hY (HN1.out.trans HX2.out);have hn0:W0.heap.size<=w2.heap.size:=by omega
 have HV6:=hY (show ∀b,b<6->(b<w2.heap.size/\¬In w1.heap.size w2.heap.size b) fromλb hb=>⟨by omega,λe=>by have:=e.1;omega⟩);have us0:(od0 T1).us.length=0:=rfl;obtain⟨d0,hd0⟩:∃d0,od0 T1=d0:=⟨_,rfl⟩;rw[hd0]at us0 HPR;clear hx3 hov hd0 HMAP HLOW HBEL HBG;obtain⟨V,hV⟩:∃V:Nat->Prop,(λb=>b<w2.heap.size/\¬In w1.heap.size w2.heap.size b)=V:=⟨_,rfl⟩;rw[hV]at HPR
 replace HV6:=hY (show ∀b,b<6->V b from by rw[<-hV];exact HV6.out)
 clear hV;go_wp2_with fail;refine(QcB _ 1).mono ?_;rintro e w4 ⟨rfl,hx4⟩;have HPR4:=hY (HPR.out.nw (Nw.of hx4));clear hx4 HPR;have HPUT:=hY (HPR4.out.oput hn0 (HL.out.nw (HX0.out.trans (HPR4.out.nw0 HN02.out (Nat.le_refl _)))) (by omega) HKP.out);obtain⟨q,hq⟩:∃q,setMu E p (Qbs 1)=q:=⟨_,rfl⟩;rw[hq]at HPUT;have hql:q.2.length<=61:=by have:=Qhf E p (Qbs 1);rw[hq]at this;omega
 have HQ0:=hY (show q.1≠0->q.2=E fromλh=>by rw[<-hq]at h ⊢;exact Qgm h);have HQ1:=hY (show q.1=0->q.2=Qbq E p (Qbs 1) fromλh=>by rw[<-hq]at h ⊢;exact QpS (QhU.1 h));clear hq;go_wp2_with fail;refine HPUT.out.mono ?_;rintro e w5 ⟨rfl,d1,hpr5,hu1⟩;have HPR5:=hY hpr5;clear hpr5 HPUT HPR4;go_upto_if 34 with fail;go_cut [35,36,37,38] (λ_ _ _ _ w'=>Yd (Pr13 W0.heap.size w2 V O M T1 w' d1 q.2 q.2))
 case first=>
  by_cases h0:q.1=0
  ·have g0:(q.1 == 0)=true:=by simp [h0]
   have HE':=hY (HQ1.out h0);clear h0;go_wp2_with fail;refine(QcB _ 1).mono ?_;rintro e w6 ⟨rfl,hx6⟩;have HPR6:=hY (HPR5.out.nw (Nw.of hx6));clear hx6;go_wp2_with fail;refine(HPR6.out.put HOK.out.sorted (by omega) HKP.out (by decide)).mono ?_;rintro e w7 ⟨⟨r,rfl⟩,hpr7⟩;rw[<-HE'.out]at hpr7;have HPR7:=hY hpr7;clear hpr7;go_wp2_with fail;go_meet
   case rel=>exact HPR7
  ·have g0:(q.1 == 0)=false:=beq_eq_false_iff_ne.2 h0
   have HE':=hY (HQ0.out h0);clear h0;go_wp2_with fail;go_meet
   case rel=>exact hY (by have:=HPR5.out;rwa[HE'.out]at this ⊢)
 case rest=>
  have HPC:=hcut;clear hcut HPR5 HQ0 HQ1;go_wp2_with fail;refine(HPC.out.odel hn0 (by omega) (by omega) HKD.out).mono ?_;rintro e w6 ⟨⟨b6,rfl⟩,d2,hpr6,hu2⟩;have HPR6:=hY hpr6;have HSO:=hY (HPC.out.ov.rel.ok.sorted);clear hpr6 HPC;go_wp2_with fail;refine(HPR6.out.del HSO.out (by omega) d).mono ?_;rintro e w7 ⟨⟨r7,rfl⟩,hpr7⟩;obtain⟨E2,hE2⟩:∃E2,Qb2 q.2 d=E2:=⟨_,rfl⟩;have hl2:E2.length<=61:=by rw[<-hE2];have:=Qol q.2 d;omega
  rw[hE2]at hpr7;have HPR7:=hY hpr7;clear hpr7 hE2 HPR6 HSO;go_wp2_with fail;refine(QdN HPR7.out.ov.ov).mono ?_;rintro e w8 ⟨rfl,hx8⟩;have HPR8:=hY (HPR7.out.nw (Nw.of hx8));have HN8:=hY (HPR8.out.nw0 HN02.out (Nat.le_refl _));have HDO:=hY (HPR8.out.odo hn0 HV6.out (HL.out.nw (HX0.out.trans HN8.out)) (by omega) (by omega) (by omega) (HM0.out w8 HN8.out) HTT.out);obtain⟨r,hr⟩:∃r,runM E2 m=r:=⟨_,rfl⟩;rw[hr]at HDO;have HR:=hY hr;have HB8:=hY (HB0.out.nw HN8.out);clear hx8 HPR7 hr;go_wp2_with(refine Qak rfl (.tmp 7) rfl w.heap.size 0 rfl m c HB8.out ?_);refine HDO.out.mono ?_;rintro e w9 ⟨rfl,d3,hg,hpr9,hu3,hnou⟩;have HG:=hY hg;have HPR9:=hY hpr9;have HNOU:=hY hnou;have HN9:=hY (HPR9.out.nw0 HN02.out (Nat.le_refl _));have HOK2:=hY (HPR8.out.ov.rel.ok);have hrun:=HPR9.out.run HOK2.out (by omega) (HM0.out w9 HN9.out) HN9.out.size HTT.out;rw[HR.out]at hrun;have HRUN:=hY hrun;have HB9:=hY (HB0.out.nw HN9.out);clear hg hpr9 hnou hrun HDO;go_wp2_with(refine Qak rfl (.tmp 7) rfl w.heap.size 0 rfl m c HB9.out ?_);refine HRUN.out.mono ?_;rintro e w10 ⟨M2,s2,xs2,rfl,hb10,he10,hx10,hn10,-⟩;obtain⟨sR,xR,hxr,hrow⟩:=HPR8.out.row;have HXR:=hY hxr;have HROW:=hY hrow;have HNWS:=hY (show ∀W,Sb (OvB O d2) w8 W->Nw w W fromλW hW=>(HX0.out.trans HN8.out).comp hW λi hi e=>by have:=HPR8.out.own i e;omega);have HBK:=hY (show ∀W,Nw w9 W->Calls Tryz.prog 24 #[.pointer (some ⟨O,0,none⟩),.int .i64 (d2.us.length:Int)] W λe W3=>e=.returned (.int .i64 0)/\Sb (OvB O d2) w8 W3/\∃d3,Pr13 W0.heap.size w2 V O M T1 W3 d3 E2 E2/\d3.us.length=d2.us.length fromλW hW=>HPR8.out.oback hn0 (HG.out.trans (HG.out.at_.stay (n:=0) hW)) (by omega));have HPRX:=hY (show ∀W,Nw w10 W->Pr13 W0.heap.size w2 V O M T1 W d3 r.2 E2 fromλW hW=>(HPR9.out.nw hn10).nw hW);have HCOM:=hY (λW (hW:Nw w10 W)=>(HPRX.out W hW).com (by omega));have HES:=hY (show ∀W,Nw w10 W->ES W (Lt W.heap.size) s2 xs2 fromλW hW=>(he10.agree (Nw.agree hW λb hb=>hb)).mono λb hb=>Nat.lt_of_lt_of_le hb hW.size);have HSS:=hY (show ∀W,Nw w10 W->W.cell? ⟨M2,0,none⟩=some (.slice s2.a xs2.length s2.c) fromλW hW=>(Nw.blk hW hb10).cell 0);have HXS:=hY hx10;have HN910:=hY hn10;have HRL:=hY (show r.2.length<=1000 by have:=Qv6 (E:=E2) (x:=m);rw[HR.out]at this;omega);have gq:(r.1 != r.1)=false:=by simp
  have gl:((d2.us.length:Int) !=(d2.us.length:Int))=false:=by simp
  clear hxr hrow hb10 he10 hx10 hn10 HRUN HPR9;by_cases h0:r.1=0
  ·have g6:(r.1 != 0)=false:=by simp [h0]
   clear h0;go_upto_region 14 with fail;refine wp_region_held_drew (S:=(λw'=>Nw w10 w')) (by kernel_rfl) ((Nw.of ((Ext.refl w10).drew))) (λhHeld=>?_);refine Qad 0 (some 56) HSS hHeld ?_;refine Qad 1 (some 57) HSS hHeld ?_;refine Qad 2 (some 58) HSS hHeld ?_;refine Qad 3 (some 59) HSS hHeld ?_;refine Qad 4 (some 60) HSS hHeld ?_;refine Qad 5 (some 61) HSS hHeld ?_;refine Qad 6 (some 62) HSS hHeld ?_;refine QdI 7 (some 63) hHeld ?_;refine QdI 8 (some 64) hHeld ?_;refine QdI 9 (some 65) hHeld ?_;refine QdI 10 (some 66) hHeld ?_;refine Qad 11 (some 67) HSS hHeld ?_;refine Qad 12 (some 68) HSS hHeld ?_;refine Qad 13 (some 69) HSS hHeld ?_;refine Qad 14 (some 70) HSS hHeld ?_;refine Qad 16 (some 72) HSS hHeld ?_;refine Qad 17 (some 73) HSS hHeld ?_;refine Qad 18 (some 74) HSS hHeld ?_;refine Qad 19 (some 75) HSS hHeld ?_;refine Qag (i:=15) (by kernel_rfl) rfl (by rfl) (λK hK=>?_);go_simp
   (refine(HCOM.out _ hHeld).mono ?_;rintro e wa ⟨pc,rfl,hna,hhas⟩;have HHAS:=hY hhas;clear hhas)
   refine hK.out _ _ (hHeld.trans hna) (λhHeld=>?_);clear hK K
   try simp only[Act.put,List.setIfInBounds_toArray,List.set_cons_zero,List.set_cons_succ]
   refine Qag (i:=20) (by kernel_rfl) rfl (by rfl) (λK hK=>?_);go_simp
   (refine(HHAS.out _ s2 xs2 (by first|exact Sb.refl _ _|exact Nw.of ((Ext.refl _).drew)) (HES.out _ hHeld) HXS.out (by have:=HRL.out;omega)).mono ?_;rintro e wh ⟨rfl,hxh⟩)
   refine hK.out _ _ (hHeld.trans (Nw.of hxh)) (λhHeld=>?_);clear hK K
   try simp only[Act.put,List.setIfInBounds_toArray,List.set_cons_zero,List.set_cons_succ]
   refine Qad 21 (some 77) HSS hHeld ?_;refine Qad 22 (some 78) HSS hHeld ?_;refine wpAnyH_done (by kernel_rfl) ?_ _;have HN11:=hY (HN910.out.trans hHeld);have HS11:=hY (show Sb (OvB O d2) w8 wh from HG.out.go.sb.trans (Nw.any HN11.out _));clear hHeld HSS HPRX HCOM HES;have HSS:=hY (show ∀W,Sb (OvB O d2) w8 W->W.cell? ⟨M,0,none⟩=some (.slice sR.a xR.length sR.c) fromλW hW=>(HROW.out W hW).1.cell 0);go_upto_region 16 with fail;refine wp_region_held_drew (S:=(λw'=>Sb (OvB O d2) w8 w')) (by kernel_rfl) (HS11.out.drew) (λhHeld=>?_);refine Qad 0 (some 79) HSS hHeld ?_;refine Qad 1 (some 80) HSS hHeld ?_;refine Qag (i:=2) (by kernel_rfl) rfl (by rfl) (λK hK=>?_);go_simp
   (refine(HBK.out _ (by first|exact HN11.out|exact HN11.out.trans (Nw.of ((Ext.refl _).drew)))).mono ?_;rintro e wb ⟨rfl,hsb,d4,hprb,hub⟩;have HPRB:=hY hprb;clear hprb)
   refine hK.out _ _ (hsb) (λhHeld=>?_);clear hK K
   try simp only[Act.put,List.setIfInBounds_toArray,List.set_cons_zero,List.set_cons_succ]
   refine Qad 3 (some 82) HSS hHeld ?_;refine Qad 4 (some 83) HSS hHeld ?_;refine Qad 5 (some 84) HSS hHeld ?_;refine Qad 7 (some 86) HSS hHeld ?_;refine Qad 8 (some 87) HSS hHeld ?_;refine Qad 9 (some 88) HSS hHeld ?_;refine Qad 10 (some 89) HSS hHeld ?_;refine Qag (i:=6) (by kernel_rfl) rfl (by rfl) (λK hK=>?_);go_simp
   (refine((show Pr13 W0.heap.size w2 V O M T1 _ d4 E2 E2 by first|exact HPRB.out|exact HPRB.out.nw (Nw.of ((Ext.refl _).drew))).com (by omega)).mono ?_;rintro e wc ⟨pc,rfl,hnc,hhas⟩;have HHAS:=hY hhas;clear hhas)
   refine hK.out _ _ (hHeld.trans (hnc.any _)) (λhHeld=>?_);clear hK K
   try simp only[Act.put,List.setIfInBounds_toArray,List.set_cons_zero,List.set_cons_succ]
   refine Qag (i:=11) (by kernel_rfl) rfl (by rfl) (λK hK=>?_);go_simp
   (refine(HHAS.out _ sR xR (by first|exact Sb.refl _ _|exact Nw.of ((Ext.refl _).drew)) (HROW.out _ hHeld).2 HXR.out (by omega)).mono ?_;rintro e wd ⟨rfl,hxd⟩)
   refine hK.out _ _ (hHeld.trans (hxd.sb _)) (λhHeld=>?_);clear hK K
   try simp only[Act.put,List.setIfInBounds_toArray,List.set_cons_zero,List.set_cons_succ]
   refine Qad 12 (some 91) HSS hHeld ?_;refine Qad 13 (some 92) HSS hHeld ?_;refine Qag (i:=14) (by kernel_rfl) rfl (by rfl) (λK hK=>?_);go_simp
   (refine(HKN.out _ (HNWS.out _ hHeld)).mono ?_;rintro e we ⟨rfl,hne⟩)
   refine hK.out _ _ (hHeld.trans (hne.any _)) (λhHeld=>?_);clear hK K
   try simp only[Act.put,List.setIfInBounds_toArray,List.set_cons_zero,List.set_cons_succ]
   refine Qad 15 (some 94) HSS hHeld ?_;refine Qad 16 (some 8) HSS hHeld ?_;refine wpAnyH_done (by kernel_rfl) ?_ _;have HFN:=hY (HNWS.out _ hHeld);go_wp2_with fail;go_ret;exact⟨rfl,HFN.out⟩
  ·have g6:(r.1 != 0)=true:=by simp [h0]
   have HNL:=hY (HNOU.out h0);clear h0;go_upto_region 14 with fail;refine wp_region_held_drew (S:=(λw'=>Nw w10 w')) (by kernel_rfl) ((Nw.of ((Ext.refl w10).drew))) (λhHeld=>?_);refine Qad 0 (some 56) HSS hHeld ?_;refine Qad 1 (some 57) HSS hHeld ?_;refine Qad 2 (some 58) HSS hHeld ?_;refine Qad 3 (some 59) HSS hHeld ?_;refine Qad 4 (some 60) HSS hHeld ?_;refine Qad 5 (some 61) HSS hHeld ?_;refine Qad 6 (some 62) HSS hHeld ?_;refine Qad 7 (some 63) HSS hHeld ?_;refine Qad 9 (some 65) HSS hHeld ?_;refine Qag (i:=8) (by kernel_rfl) rfl (by rfl) (λK hK=>?_);go_simp
   (refine(QdN (HPRX.out _ hHeld).ov.ov).mono ?_;rintro e wm ⟨rfl,hxm⟩;rw[HNL.out])
   refine hK.out _ _ (hHeld.trans (Nw.of hxm)) (λhHeld=>?_);clear hK K
   try simp only[Act.put,List.setIfInBounds_toArray,List.set_cons_zero,List.set_cons_succ]
   refine Qad 10 (some 66) HSS hHeld ?_;refine Qad 11 (some 67) HSS hHeld ?_;refine Qad 12 (some 68) HSS hHeld ?_;refine Qad 13 (some 69) HSS hHeld ?_;refine Qad 14 (some 70) HSS hHeld ?_;refine Qad 16 (some 72) HSS hHeld ?_;refine Qad 17 (some 73) HSS hHeld ?_;refine Qad 18 (some 74) HSS hHeld ?_;refine Qad 19 (some 75) HSS hHeld ?_;refine Qag (i:=15) (by kernel_rfl) rfl (by rfl) (λK hK=>?_);go_simp
   (refine(HCOM.out _ hHeld).mono ?_;rintro e wa ⟨pc,rfl,hna,hhas⟩;have HHAS:=hY hhas;clear hhas)
   refine hK.out _ _ (hHeld.trans hna) (λhHeld=>?_);clear hK K
   try simp only[Act.put,List.setIfInBounds_toArray,List.set_cons_zero,List.set_cons_succ]
   refine Qag (i:=20) (by kernel_rfl) rfl (by rfl) (λK hK=>?_);go_simp
   (refine(HHAS.out _ s2 xs2 (by first|exact Sb.refl _ _|exact Nw.of ((Ext.refl _).drew)) (HES.out _ hHeld) HXS.out (by have:=HRL.out;omega)).mono ?_;rintro e wh ⟨rfl,hxh⟩)
   refine hK.out _ _ (hHeld.trans (Nw.of hxh)) (λhHeld=>?_);clear hK K
   try simp only[Act.put,List.setIfInBounds_toArray,List.set_cons_zero,List.set_cons_succ]
   refine Qad 21 (some 77) HSS hHeld ?_;refine Qad 22 (some 78) HSS hHeld ?_;refine wpAnyH_done (by kernel_rfl) ?_ _;have HN11:=hY (HN910.out.trans hHeld);have HS11:=hY (show Sb (OvB O d2) w8 wh from HG.out.go.sb.trans (Nw.any HN11.out _));clear hHeld HSS HPRX HCOM HES;have HSS:=hY (show ∀W,Sb (OvB O d2) w8 W->W.cell? ⟨M,0,none⟩=some (.slice sR.a xR.length sR.c) fromλW hW=>(HROW.out W hW).1.cell 0);go_upto_region 16 with fail;refine wp_region_held_drew (S:=(λw'=>Sb (OvB O d2) w8 w')) (by kernel_rfl) (HS11.out.drew) (λhHeld=>?_);refine Qad 0 (some 79) HSS hHeld ?_;refine Qad 1 (some 80) HSS hHeld ?_;refine Qag (i:=2) (by kernel_rfl) rfl (by rfl) (λK hK=>?_);go_simp
   (refine(HBK.out _ (by first|exact HN11.out|exact HN11.out.trans (Nw.of ((Ext.refl _).drew)))).mono ?_;rintro e wb ⟨rfl,hsb,d4,hprb,hub⟩;have HPRB:=hY hprb;clear hprb)
   refine hK.out _ _ (hsb) (λhHeld=>?_);clear hK K
   try simp only[Act.put,List.setIfInBounds_toArray,List.set_cons_zero,List.set_cons_succ]
   refine Qad 3 (some 82) HSS hHeld ?_;refine Qad 4 (some 83) HSS hHeld ?_;refine Qad 5 (some 84) HSS hHeld ?_;refine Qad 7 (some 86) HSS hHeld ?_;refine Qad 8 (some 87) HSS hHeld ?_;refine Qad 9 (some 88) HSS hHeld ?_;refine Qad 10 (some 89) HSS hHeld ?_;refine Qag (i:=6) (by kernel_rfl) rfl (by rfl) (λK hK=>?_);go_simp
   (refine((show Pr13 W0.heap.size w2 V O M T1 _ d4 E2 E2 by first|exact HPRB.out|exact HPRB.out.nw (Nw.of ((Ext.refl _).drew))).com (by omega)).mono ?_;rintro e wc ⟨pc,rfl,hnc,hhas⟩;have HHAS:=hY hhas;clear hhas)
   refine hK.out _ _ (hHeld.trans (hnc.any _)) (λhHeld=>?_);clear hK K
   try simp only[Act.put,List.setIfInBounds_toArray,List.set_cons_zero,List.set_cons_succ]
   refine Qag (i:=11) (by kernel_rfl) rfl (by rfl) (λK hK=>?_);go_simp
   (refine(HHAS.out _ sR xR (by first|exact Sb.refl _ _|exact Nw.of ((Ext.refl _).drew)) (HROW.out _ hHeld).2 HXR.out (by omega)).mono ?_;rintro e wd ⟨rfl,hxd⟩)
   refine hK.out _ _ (hHeld.trans (hxd.sb _)) (λhHeld=>?_);clear hK K
   try simp only[Act.put,List.setIfInBounds_toArray,List.set_cons_zero,List.set_cons_succ]
   refine Qad 12 (some 91) HSS hHeld ?_;refine Qad 13 (some 92) HSS hHeld ?_;refine Qag (i:=14) (by kernel_rfl) rfl (by rfl) (λK hK=>?_);go_simp
   (refine(HKN.out _ (HNWS.out _ hHeld)).mono ?_;rintro e we ⟨rfl,hne⟩)
   refine hK.out _ _ (hHeld.trans (hne.any _)) (λhHeld=>?_);clear hK K
   try simp only[Act.put,List.setIfInBounds_toArray,List.set_cons_zero,List.set_cons_succ]
   refine Qad 15 (some 94) HSS hHeld ?_;refine Qad 16 (some 8) HSS hHeld ?_;refine wpAnyH_done (by kernel_rfl) ?_ _;have HFN:=hY (HNWS.out _ hHeld);go_wp2_with fail;go_ret;exact⟨rfl,HFN.out⟩
end Go.Proofs.YtkjkafgnnoidpaaGreatDoor
