/- What the theorem needs of the texts Int1, HeldL, MuW, Int2, MutN, MutB, MuX, MutS, MutK, MutF, MutL, MutC, Int3: no condition of its own. -/
import Derived.Test.YtkjkafgnnoidpaaGreatDoorPhi
set_option linter.unusedVariables false
set_option linter.unusedSimpArgs false
set_option linter.unnecessarySimpa false
set_option maxRecDepth 100000
set_option maxHeartbeats 2000000
namespace Go.Proofs.YtkjkafgnnoidpaaGreatDoor
open Go.Proofs.Tryz
open Go.RowKit Go.Maps Go.Shelf
theorem Qtp{q:Int}(h:(Lit.int .i64 q).wf=true) : -9223372036854775808<=q/\q<=9223372036854775807:=by
 have h1:IntKind.i64.min = -9223372036854775808:=by decide
 have h2:IntKind.i64.max=9223372036854775807:=by decide
 simp[Lit.wf,h1,h2]at h;omega
variable{w:World}{F:Nat->Prop}{sl so:Sl}
theorem RV.int{d:Val}(h:RV w F d sl so) : -9223372036854775808<=d.i/\d.i<=9223372036854775807:=by
 cases h with
 |mk bl fl bo fo cl co hl ho hov el rl ek eo ro bk bi bt nl no=>exact Qtp bi
variable{H:Nat->Prop}{O:Nat}{d:OD}{M:List Ent}{c:MuS}
theorem Qmc{m:Mu}(h:OvX H w O d M)(hl:(Qab d.T).length<=1000000)(hm:RMu w (Lt w) m c) :
  Calls prog 79 #[.pointer (some ⟨O,0,none⟩),QaG m c] w λe w'=>e=.returned (.bool (asM M m.k m.had m.was))/\Ext w w':=by
 obtain⟨w1,w2,v1,v2,s⟩:=c;cases hm with
 |@mk kd k tk i Y was has v l _ bl fl cl rw_ rv hl' el rl bk bt bkd bi nl=>
 show Calls _ _ #[_,.agg #[.int .i64 kd,.string k,.string tk,.int .i64 i,.bool Y,.int .i64 was.kind,.bool was.b,.int .i64 was.i,.string was.t,.slice w1.a was.l.length w1.c,.slice w2.a was.ok.length w2.c,.bool has,.int .i64 v.kind,.bool v.b,.int .i64 v.i,.string v.t,.slice v1.a v.l.length v1.c,.slice v2.a v.ok.length v2.c,.slice s.a l.length s.c]] _ λe w'=>e=.returned (.bool (asM M k Y was))/\Ext w w'
 have a2:=(fv w).alloc #[.int .i64 kd,.string k,.string tk,.int .i64 i,.bool Y,.int .i64 was.kind,.bool was.b,.int .i64 was.i,.string was.t,.slice w1.a was.l.length w1.c,.slice w2.a was.ok.length w2.c,.bool has,.int .i64 v.kind,.bool v.b,.int .i64 v.i,.string v.t,.slice v1.a v.l.length v1.c,.slice v2.a v.ok.length v2.c,.slice s.a l.length s.c] 31;have N:=Qto (h.nw (fx a2)) hl bk;have RW:=hY rw_;have Z:=hY a2;have a0:=hY (fA w 31 #[.int .i64 kd,.string k,.string tk,.int .i64 i,.bool Y,.int .i64 was.kind,.bool was.b,.int .i64 was.i,.string was.t,.slice w1.a was.l.length w1.c,.slice w2.a was.ok.length w2.c,.bool has,.int .i64 v.kind,.bool v.b,.int .i64 v.i,.string v.t,.slice v1.a v.l.length v1.c,.slice v2.a v.ok.length v2.c,.slice s.a l.length s.c]);clear a2 h rw_ rv hl' el rl bk bt bkd bi nl;cases hg:Qam M k with
 | none=>
   rw[hg]at N;cases Y with
   | false=>
     have J:asM M k false was=(true):=by unfold asM;rw[hg];rfl
     rw[J];have U:=hY N;clear J N hg;go_in;go_wp2_with fail;refine U.o.mono ?_;rintro e D ⟨sl,so,rfl,I,X⟩;have z:=a0.o.ext I;have c4:D.cell? ⟨w,4,none⟩=some (.bool false):=z.cell 4;have c5:D.cell? ⟨w,5,none⟩=some (.int .i64 was.kind):=z.cell 5;have c6:D.cell? ⟨w,5+1,none⟩=some (.bool was.b):=z.cell 6;have c7:D.cell? ⟨w,5+2,none⟩=some (.int .i64 was.i):=z.cell 7;have c8:D.cell? ⟨w,5+3,none⟩=some (.string was.t):=z.cell 8;have c9:D.cell? ⟨w,5+4,none⟩=some (.slice w1.a was.l.length w1.c):=z.cell 9;have a1:D.cell? ⟨w,5+5,none⟩=some (.slice w2.a was.ok.length w2.c):=z.cell 10;have l1:=z.lt;have R:Ext D (D.alloc (.cells #[.int .i64 zeroV.kind,.bool zeroV.b,.int .i64 zeroV.i,.string zeroV.t,.slice sl.a zeroV.l.length sl.c,.slice so.a zeroV.ok.length so.c] 28)):=(fv D).alloc _ _;have HX:=hY ((Z.o.trans I).trans R);clear I X z R;go_wp2_with fail;go_ret;exact⟨rfl,HX.o⟩
   | true=>
     have J:asM M k true was=(false):=by unfold asM;rw[hg];rfl
     rw[J];have U:=hY N;clear J N hg;go_in;go_wp2_with fail;refine U.o.mono ?_;rintro e D ⟨sl,so,rfl,I,X⟩;have z:=a0.o.ext I;have c4:D.cell? ⟨w,4,none⟩=some (.bool true):=z.cell 4;have c5:D.cell? ⟨w,5,none⟩=some (.int .i64 was.kind):=z.cell 5;have c6:D.cell? ⟨w,5+1,none⟩=some (.bool was.b):=z.cell 6;have c7:D.cell? ⟨w,5+2,none⟩=some (.int .i64 was.i):=z.cell 7;have c8:D.cell? ⟨w,5+3,none⟩=some (.string was.t):=z.cell 8;have c9:D.cell? ⟨w,5+4,none⟩=some (.slice w1.a was.l.length w1.c):=z.cell 9;have a1:D.cell? ⟨w,5+5,none⟩=some (.slice w2.a was.ok.length w2.c):=z.cell 10;have l1:=z.lt;have R:Ext D (D.alloc (.cells #[.int .i64 zeroV.kind,.bool zeroV.b,.int .i64 zeroV.i,.string zeroV.t,.slice sl.a zeroV.l.length sl.c,.slice so.a zeroV.ok.length so.c] 28)):=(fv D).alloc _ _;have HX:=hY ((Z.o.trans I).trans R);clear I X z R;go_wp2_with fail;go_ret;exact⟨rfl,HX.o⟩
 | some x=>
   rw[hg]at N;cases Y with
   | false=>
     have J:asM M k false was=(false):=by unfold asM;rw[hg];rfl
     rw[J];have U:=hY N;clear J N hg;go_in;go_wp2_with fail;refine U.o.mono ?_;rintro e D ⟨sl,so,rfl,I,X⟩;have z:=a0.o.ext I;have c4:D.cell? ⟨w,4,none⟩=some (.bool false):=z.cell 4;have c5:D.cell? ⟨w,5,none⟩=some (.int .i64 was.kind):=z.cell 5;have c6:D.cell? ⟨w,5+1,none⟩=some (.bool was.b):=z.cell 6;have c7:D.cell? ⟨w,5+2,none⟩=some (.int .i64 was.i):=z.cell 7;have c8:D.cell? ⟨w,5+3,none⟩=some (.string was.t):=z.cell 8;have c9:D.cell? ⟨w,5+4,none⟩=some (.slice w1.a was.l.length w1.c):=z.cell 9;have a1:D.cell? ⟨w,5+5,none⟩=some (.slice w2.a was.ok.length w2.c):=z.cell 10;have l1:=z.lt;have R:Ext D (D.alloc (.cells #[.int .i64 x.kind,.bool x.b,.int .i64 x.i,.string x.t,.slice sl.a x.l.length sl.c,.slice so.a x.ok.length so.c] 28)):=(fv D).alloc _ _;have HX:=hY ((Z.o.trans I).trans R);clear I X z R;go_wp2_with fail;go_ret;exact⟨rfl,HX.o⟩
   | true=>
     have J:asM M k true was=(decide (Qbo x was=0)):=by unfold asM;rw[hg];rfl
     rw[J];have U:=hY N;clear J N hg;go_in;go_wp2_with fail;refine U.o.mono ?_;rintro e D ⟨sl,so,rfl,I,X⟩;have z:=a0.o.ext I;have c4:D.cell? ⟨w,4,none⟩=some (.bool true):=z.cell 4;have c5:D.cell? ⟨w,5,none⟩=some (.int .i64 was.kind):=z.cell 5;have c6:D.cell? ⟨w,5+1,none⟩=some (.bool was.b):=z.cell 6;have c7:D.cell? ⟨w,5+2,none⟩=some (.int .i64 was.i):=z.cell 7;have c8:D.cell? ⟨w,5+3,none⟩=some (.string was.t):=z.cell 8;have c9:D.cell? ⟨w,5+4,none⟩=some (.slice w1.a was.l.length w1.c):=z.cell 9;have a1:D.cell? ⟨w,5+5,none⟩=some (.slice w2.a was.ok.length w2.c):=z.cell 10;have l1:=z.lt;have R:Ext D (D.alloc (.cells #[.int .i64 x.kind,.bool x.b,.int .i64 x.i,.string x.t,.slice sl.a x.l.length sl.c,.slice so.a x.ok.length so.c] 28)):=(fv D).alloc _ _;have HX:=hY ((Z.o.trans I).trans R);have a3:=Qdt (w:=D.alloc (.cells #[.int .i64 x.kind,.bool x.b,.int .i64 x.i,.string x.t,.slice sl.a x.l.length sl.c,.slice so.a x.ok.length so.c] 28)) ((X.agree (R.agree λb hb=>hb.2)).mono λb hb=>ab hb.2 R.size) ((RW.out.agree (((Z.o.trans I).trans R).agree λ_ h=>h)).mono λb hb=>ab hb ((Z.o.trans I).trans R).size);have a6:=hY a3;clear a3;clear I X z R;go_wp2_with fail;refine a6.o.mono ?_;rintro e W3 ⟨rfl,a4⟩;have a5:=hY (HX.o.trans a4);clear a4;go_wp2_with fail;go_ret;exact⟨rfl,a5.o⟩
theorem QlK{n b:Int}(z : -9223372036854775808<=n/\n<=9223372036854775807)(D : -9223372036854775808<=b/\b<=9223372036854775807) :
  ((0<b/\9223372036854775807-b<n)->wrap64 (n+b)<n)/\((b<0/\n < -9223372036854775808-b)->n<wrap64 (n+b))/\(¬((0<b/\9223372036854775807-b<n)\/(b<0/\n < -9223372036854775808-b))->wrap64 (n+b)=n+b):=by
 unfold wrap64;refine⟨λh=>?_,λh=>?_,λh=>?_⟩<;>omega
theorem QoN{k:ByteArray}{by_:Int}{x:Val}(z:Qam M k=some x)(h:x.kind≠3):Qeo M k by_=(9,M):=by
 unfold Qeo;rw[z];exact em h
theorem Qsx{k:ByteArray}{by_:Int}(h:OvX H w O d M)(hH:∀b,H b->b<w)(hn:d.us.length<=1000000)(hl:(Qab d.T).length<=1000000)(a5:k.size<=maxLen)
  (b6 : -9223372036854775808<=by_/\by_<=9223372036854775807) (hL:Qb9 w) :
  Calls prog 75 #[.pointer (some ⟨O,0,none⟩),.string k,.int .i64 by_] w λe w'=>e=.returned (.int .i64 (Qeo M k by_).1)/\∃d',GoX H w O d (Qeo M k by_).2 1 w' d':=by
 have a0:=Qto h hl a5;have HH:=hY h;have HL:=hY hL;obtain⟨r,hr⟩:∃r,Qeo M k by_=r:=⟨_,rfl⟩;rw[hr];have HR:=hY hr;clear h hL hl hr;cases hg:Qam M k with
 | none=>
   rw[hg]at a0;have HG:=hY hg;have a6:=hY a0;clear hg a0;go_in;go_wp2_with fail;refine a6.o.mono ?_;rintro e W1 ⟨sl,so,rfl,a3,a9⟩;have a2:Ext W1 (W1.alloc (.cells #[.int .i64 zeroV.kind,.bool zeroV.b,.int .i64 zeroV.i,.string zeroV.t,.slice sl.a zeroV.l.length sl.c,.slice so.a zeroV.ok.length so.c] 28)):=(fv W1).alloc _ _;have X:=hY (a3.trans a2);have Y:=hY (QlK (n:=zeroV.i) (b:=by_) (by decide) b6);clear a3 a2 a9;by_cases hs:0<by_/\9223372036854775807-by_<zeroV.i
   ·skip
    have f1:(0:Int)<by_:=hs.1;have f2:wrap64 (zeroV.i+by_)<zeroV.i:=Y.o.1 hs;have a1:decide ((0:Int)<by_)=true:=ej f1;have b4:decide (wrap64 (zeroV.i+by_)<zeroV.i)=true:=ej f2;have D:Qeo M k by_=(7,M):=by unfold Qeo;rw[HG.o];exact em (.inl hs)
    have z:=hY (HR.o.symm.trans D);clear hs D;go_wp2_with fail;go_ret;exact⟨by rw[z.o]<;>rfl,d,by rw[z.o];exact HH.o.stay (fx X.o)⟩
   by_cases hs:by_<0/\zeroV.i < -9223372036854775808-by_
   ·skip
    have f1:¬(0:Int)<by_:=by omega
    have f3:by_<0:=hs.1;have f4:zeroV.i<wrap64 (zeroV.i+by_):=Y.o.2.1 hs;have a1:decide ((0:Int)<by_)=false:=eh f1;have a4:decide (by_<0)=true:=ej f3;have b5:decide (zeroV.i<wrap64 (zeroV.i+by_))=true:=ej f4;have D:Qeo M k by_=(7,M):=by unfold Qeo;rw[HG.o];exact em (.inr hs)
    have z:=hY (HR.o.symm.trans D);clear hs D;go_wp2_with fail;go_ret;exact⟨by rw[z.o]<;>rfl,d,by rw[z.o];exact HH.o.stay (fx X.o)⟩
   have J:¬((0<by_/\9223372036854775807-by_<zeroV.i)\/(by_<0/\zeroV.i < -9223372036854775808-by_)):=by omega
   by_cases hs:0<by_
   ·skip
    have f1:(0:Int)<by_:=hs;have f3:¬by_<0:=by omega
    have f2:¬wrap64 (zeroV.i+by_)<zeroV.i:=by rw[Y.o.2.2 J];omega
    have a1:decide ((0:Int)<by_)=true:=ej f1;have a4:decide (by_<0)=false:=eh f3;have b4:decide (wrap64 (zeroV.i+by_)<zeroV.i)=false:=eh f2;have hw:wrap64 (zeroV.i+by_)=(0:Int)+by_:=Y.o.2.2 J;have D:Qeo M k by_=setMu M k (QlO (wrap64 (zeroV.i+by_))):=by unfold Qeo;rw[HG.o,hw];exact ef J
    have U : -9223372036854775808<=wrap64 (zeroV.i+by_)/\wrap64 (zeroV.i+by_)<=9223372036854775807:=by unfold wrap64;omega
    have z:=hY (HR.o.symm.trans D);have I:=Qql (v:=QlO (wrap64 (zeroV.i+by_))) (sl:=Sl.none) (so:=Sl.none) (HH.o.nw (fx X.o)) (λb hb=>ab (hH b hb) X.o.size) hn a5 (RV.flat _ _ _ _ _ _ (by decide) (WalkArith.wf_i64 U) (by decide)) (show 7+0+0+0<=1100000 by decide) (HL.o.nw (fx X.o));have N:=hY I;clear hs hw D U I J;go_wp2_with fail;refine N.o.mono ?_;rintro e w2 ⟨rfl,d',R⟩;have Z:=hY (R.since (fx X.o));clear R;go_wp2_with fail;go_ret;exact⟨by rw[z.o]<;>rfl,d',by rw[z.o];exact Z.o⟩
   by_cases hs:by_<0
   ·skip
    have f1:¬(0:Int)<by_:=by omega
    have f3:by_<0:=hs;have f4:¬zeroV.i<wrap64 (zeroV.i+by_):=by rw[Y.o.2.2 J];omega
    have a1:decide ((0:Int)<by_)=false:=eh f1;have a4:decide (by_<0)=true:=ej f3;have b5:decide (zeroV.i<wrap64 (zeroV.i+by_))=false:=eh f4;have hw:wrap64 (zeroV.i+by_)=(0:Int)+by_:=Y.o.2.2 J;have D:Qeo M k by_=setMu M k (QlO (wrap64 (zeroV.i+by_))):=by unfold Qeo;rw[HG.o,hw];exact ef J
    have U : -9223372036854775808<=wrap64 (zeroV.i+by_)/\wrap64 (zeroV.i+by_)<=9223372036854775807:=by unfold wrap64;omega
    have z:=hY (HR.o.symm.trans D);have I:=Qql (v:=QlO (wrap64 (zeroV.i+by_))) (sl:=Sl.none) (so:=Sl.none) (HH.o.nw (fx X.o)) (λb hb=>ab (hH b hb) X.o.size) hn a5 (RV.flat _ _ _ _ _ _ (by decide) (WalkArith.wf_i64 U) (by decide)) (show 7+0+0+0<=1100000 by decide) (HL.o.nw (fx X.o));have N:=hY I;clear hs hw D U I J;go_wp2_with fail;refine N.o.mono ?_;rintro e w2 ⟨rfl,d',R⟩;have Z:=hY (R.since (fx X.o));clear R;go_wp2_with fail;go_ret;exact⟨by rw[z.o]<;>rfl,d',by rw[z.o];exact Z.o⟩
   have f1:¬(0:Int)<by_:=by omega
   have f3:¬by_<0:=by omega
   have a1:decide ((0:Int)<by_)=false:=eh f1;have a4:decide (by_<0)=false:=eh f3;have hw:wrap64 (zeroV.i+by_)=(0:Int)+by_:=Y.o.2.2 J;have D:Qeo M k by_=setMu M k (QlO (wrap64 (zeroV.i+by_))):=by unfold Qeo;rw[HG.o,hw];exact ef J
   have U : -9223372036854775808<=wrap64 (zeroV.i+by_)/\wrap64 (zeroV.i+by_)<=9223372036854775807:=by unfold wrap64;omega
   have z:=hY (HR.o.symm.trans D);have I:=Qql (v:=QlO (wrap64 (zeroV.i+by_))) (sl:=Sl.none) (so:=Sl.none) (HH.o.nw (fx X.o)) (λb hb=>ab (hH b hb) X.o.size) hn a5 (RV.flat _ _ _ _ _ _ (by decide) (WalkArith.wf_i64 U) (by decide)) (show 7+0+0+0<=1100000 by decide) (HL.o.nw (fx X.o));have N:=hY I;clear hs hw D U I J;go_wp2_with fail;refine N.o.mono ?_;rintro e w2 ⟨rfl,d',R⟩;have Z:=hY (R.since (fx X.o));clear R;go_wp2_with fail;go_ret;exact⟨by rw[z.o]<;>rfl,d',by rw[z.o];exact Z.o⟩
 | some x=>
   rw[hg]at a0;have HG:=hY hg;have a6:=hY a0;clear hg a0;by_cases b0:x.kind=3
   ·have gk:(x.kind != 3)=false:=by simp [b0]
    have b3:=hY b0;clear b0;go_in;go_wp2_with fail;refine a6.o.mono ?_;rintro e W1 ⟨sl,so,rfl,a3,a9⟩;have a2:Ext W1 (W1.alloc (.cells #[.int .i64 x.kind,.bool x.b,.int .i64 x.i,.string x.t,.slice sl.a x.l.length sl.c,.slice so.a x.ok.length so.c] 28)):=(fv W1).alloc _ _;have X:=hY (a3.trans a2);have Y:=hY (QlK (n:=x.i) (b:=by_) a9.rv.int b6);clear a3 a2 a9;by_cases hs:0<by_/\9223372036854775807-by_<x.i
    ·skip
     have f1:(0:Int)<by_:=hs.1;have f2:wrap64 (x.i+by_)<x.i:=Y.o.1 hs;have a1:decide ((0:Int)<by_)=true:=ej f1;have b4:decide (wrap64 (x.i+by_)<x.i)=true:=ej f2;have D:Qeo M k by_=(7,M):=by unfold Qeo;rw[HG.o];dsimp only;rw[ef (by simp[b3.o])];exact em (.inl hs)
     have z:=hY (HR.o.symm.trans D);clear hs D;go_wp2_with fail;go_ret;exact⟨by rw[z.o]<;>rfl,d,by rw[z.o];exact HH.o.stay (fx X.o)⟩
    by_cases hs:by_<0/\x.i < -9223372036854775808-by_
    ·skip
     have f1:¬(0:Int)<by_:=by omega
     have f3:by_<0:=hs.1;have f4:x.i<wrap64 (x.i+by_):=Y.o.2.1 hs;have a1:decide ((0:Int)<by_)=false:=eh f1;have a4:decide (by_<0)=true:=ej f3;have b5:decide (x.i<wrap64 (x.i+by_))=true:=ej f4;have D:Qeo M k by_=(7,M):=by unfold Qeo;rw[HG.o];dsimp only;rw[ef (by simp[b3.o])];exact em (.inr hs)
     have z:=hY (HR.o.symm.trans D);clear hs D;go_wp2_with fail;go_ret;exact⟨by rw[z.o]<;>rfl,d,by rw[z.o];exact HH.o.stay (fx X.o)⟩
    have J:¬((0<by_/\9223372036854775807-by_<x.i)\/(by_<0/\x.i < -9223372036854775808-by_)):=by omega
    by_cases hs:0<by_
    ·skip
     have f1:(0:Int)<by_:=hs;have f3:¬by_<0:=by omega
     have f2:¬wrap64 (x.i+by_)<x.i:=by rw[Y.o.2.2 J];omega
     have a1:decide ((0:Int)<by_)=true:=ej f1;have a4:decide (by_<0)=false:=eh f3;have b4:decide (wrap64 (x.i+by_)<x.i)=false:=eh f2;have hw:wrap64 (x.i+by_)=x.i+by_:=Y.o.2.2 J;have D:Qeo M k by_=setMu M k (QlO (wrap64 (x.i+by_))):=by unfold Qeo;rw[HG.o,hw];dsimp only;rw[ef (by simp[b3.o])];exact ef J
     have U : -9223372036854775808<=wrap64 (x.i+by_)/\wrap64 (x.i+by_)<=9223372036854775807:=by unfold wrap64;omega
     have z:=hY (HR.o.symm.trans D);have I:=Qql (v:=QlO (wrap64 (x.i+by_))) (sl:=Sl.none) (so:=Sl.none) (HH.o.nw (fx X.o)) (λb hb=>ab (hH b hb) X.o.size) hn a5 (RV.flat _ _ _ _ _ _ (by decide) (WalkArith.wf_i64 U) (by decide)) (show 7+0+0+0<=1100000 by decide) (HL.o.nw (fx X.o));have N:=hY I;clear hs hw D U I J;go_wp2_with fail;refine N.o.mono ?_;rintro e w2 ⟨rfl,d',R⟩;have Z:=hY (R.since (fx X.o));clear R;go_wp2_with fail;go_ret;exact⟨by rw[z.o]<;>rfl,d',by rw[z.o];exact Z.o⟩
    by_cases hs:by_<0
    ·skip
     have f1:¬(0:Int)<by_:=by omega
     have f3:by_<0:=hs;have f4:¬x.i<wrap64 (x.i+by_):=by rw[Y.o.2.2 J];omega
     have a1:decide ((0:Int)<by_)=false:=eh f1;have a4:decide (by_<0)=true:=ej f3;have b5:decide (x.i<wrap64 (x.i+by_))=false:=eh f4;have hw:wrap64 (x.i+by_)=x.i+by_:=Y.o.2.2 J;have D:Qeo M k by_=setMu M k (QlO (wrap64 (x.i+by_))):=by unfold Qeo;rw[HG.o,hw];dsimp only;rw[ef (by simp[b3.o])];exact ef J
     have U : -9223372036854775808<=wrap64 (x.i+by_)/\wrap64 (x.i+by_)<=9223372036854775807:=by unfold wrap64;omega
     have z:=hY (HR.o.symm.trans D);have I:=Qql (v:=QlO (wrap64 (x.i+by_))) (sl:=Sl.none) (so:=Sl.none) (HH.o.nw (fx X.o)) (λb hb=>ab (hH b hb) X.o.size) hn a5 (RV.flat _ _ _ _ _ _ (by decide) (WalkArith.wf_i64 U) (by decide)) (show 7+0+0+0<=1100000 by decide) (HL.o.nw (fx X.o));have N:=hY I;clear hs hw D U I J;go_wp2_with fail;refine N.o.mono ?_;rintro e w2 ⟨rfl,d',R⟩;have Z:=hY (R.since (fx X.o));clear R;go_wp2_with fail;go_ret;exact⟨by rw[z.o]<;>rfl,d',by rw[z.o];exact Z.o⟩
    have f1:¬(0:Int)<by_:=by omega
    have f3:¬by_<0:=by omega
    have a1:decide ((0:Int)<by_)=false:=eh f1;have a4:decide (by_<0)=false:=eh f3;have hw:wrap64 (x.i+by_)=x.i+by_:=Y.o.2.2 J;have D:Qeo M k by_=setMu M k (QlO (wrap64 (x.i+by_))):=by unfold Qeo;rw[HG.o,hw];dsimp only;rw[ef (by simp[b3.o])];exact ef J
    have U : -9223372036854775808<=wrap64 (x.i+by_)/\wrap64 (x.i+by_)<=9223372036854775807:=by unfold wrap64;omega
    have z:=hY (HR.o.symm.trans D);have I:=Qql (v:=QlO (wrap64 (x.i+by_))) (sl:=Sl.none) (so:=Sl.none) (HH.o.nw (fx X.o)) (λb hb=>ab (hH b hb) X.o.size) hn a5 (RV.flat _ _ _ _ _ _ (by decide) (WalkArith.wf_i64 U) (by decide)) (show 7+0+0+0<=1100000 by decide) (HL.o.nw (fx X.o));have N:=hY I;clear hs hw D U I J;go_wp2_with fail;refine N.o.mono ?_;rintro e w2 ⟨rfl,d',R⟩;have Z:=hY (R.since (fx X.o));clear R;go_wp2_with fail;go_ret;exact⟨by rw[z.o]<;>rfl,d',by rw[z.o];exact Z.o⟩
   have gk:(x.kind != 3)=true:=by simp[b0]
   have z:=hY (HR.o.symm.trans (QoN HG.o b0));clear b0;go_in;go_wp2_with fail;refine a6.o.mono ?_;rintro e W1 ⟨sl,so,rfl,a3,a9⟩;have a2:Ext W1 (W1.alloc (.cells #[.int .i64 x.kind,.bool x.b,.int .i64 x.i,.string x.t,.slice sl.a x.l.length sl.c,.slice so.a x.ok.length so.c] 28)):=(fv W1).alloc _ _;have X:=hY (a3.trans a2);clear a3 a2 a9;go_wp2_with fail;go_ret;exact⟨by rw[z.o]<;>rfl,d,by rw[z.o];exact HH.o.stay (fx X.o)⟩
section
variable{P : Program}{ops : Array Oper}{Q : Exit -> Act -> World -> Prop}{md : Region.Mode}{S : World -> Prop}
theorem Qvs(i:Nat)(d:Option Tmp)(I:TypeId)(x:Operand){b o:Nat}{cs:Array Value}{N:TypeDesc}{J:Oper}{D:Nat}{z l':Array Bool}{a U:Act}{w:World}(hC:Yd (∀W,S W->W.rangeAt b o cs.toList))(hS:S w)
  (R:P.underlying I=some N/\N.isRow=true/\(P.info? I).map (·.size)=some cs.size) (h:wpAnyH P md ops Q S D l' U w)
  (hi:ops[i]? = some J:=by rfl) (X:J.op=.load I x:=by rfl) (hx:a.eval x=.pointer (some ⟨b,o,none⟩):=by rfl) (hd:J.dst=d:=by rfl) (hs:Region.noSelect ops=true:=by kernel_rfl) (hf:Region.free md ops z i=true:=by kernel_rfl) (Z:(Region.ready md ops z).contains i=true:=by kernel_rfl)
  (Y:∀c a w,Q (.panic c) (a.put d (.agg cs)) w->Q (.panic c) a w:=by exactλ_ _ _ h=>h) (hw:Region.wanted J (yielded ops a.tmps)=true:=by rfl)
  (hl:z.setIfInBounds i true=l':=by first |(simp only[List.setIfInBounds_toArray,List.set_cons_zero,List.set_cons_succ];rfl)|rfl)
  (hp:a.put d (.agg cs)=U:=by first |(simp only[Act.put,List.setIfInBounds_toArray,List.set_cons_zero,List.set_cons_succ];rfl)|rfl):wpAnyH P md ops Q S (D+1) z a w:=by
 subst hl hp;refine QoK hi hd hs hf Z Y hw hS (λW hW=>?_) h;unfold execOp;simp only[X,hx,Instr.loadAt,Instr.sureAddr,Sem.run_bind,Sem.run_pure,Result.andThen_ok,run_loadVar_mid W b o I cs.toList N (hC.out W hW) R.1 R.2.1 (by rw[Array.length_toList];exact R.2.2),Array.toArray_toList]
end
theorem Qp6{b t n:Nat}{cs:Array Value}(h:Blk w b t cs)(z:n<=cs.size):w.there b 0 n:=λj D=>
 ⟨by rw[h.cell];simp;omega,h.frozen _⟩
theorem Ext.setCells{w:World}{b:Nat}(D:w<=b):∀(z:List Value) (o:Nat) {W:World},Ext w W->Ext w (W.setCells b o z)
 |[],_,_,h=>h
 | v :: z,o,W,h=>by
   rw[World.setCells];exact Ext.setCells D z (o+1) (h.setCell (p:=⟨b,o,none⟩) D v)
abbrev QfQ(m:Mu)(c:MuS):Array Value:=(QaE m c).toArray
theorem QgS(m:Mu)(c:MuS):(QaE m c).length=19:=rfl
theorem Tryz.QkO:(prog.info? 31).map (·.size)=some 19:=by kernel_rfl
theorem MuC.range{b o:Nat}{m:Mu}(h:MuC w b o m c):w.rangeAt b o (QaE m c):=h
theorem MuC.QaX{w:World}{b:Nat}{t:TypeId}{m:Mu}{c:MuS}(h:Blk w b t (QfQ m c)):MuC w b 0 m c:=λj u hu=>by
 rw[aA,h.cell];simpa using hu
theorem MuC.lt{b o:Nat}{m:Mu}(h:MuC w b o m c):b<w:=eH w _ (h 0 _ rfl)
theorem MuC.ext{w w':World}{b o:Nat}{m:Mu}{c:MuS}(h:MuC w b o m c)(k:Ext w w'):MuC w' b o m c:=λj u hu=>(k.cell h.lt).trans (h j u hu)
variable{ops:Array Oper}{a:Act}{Q:Exit->Act->World->Prop}
theorem Qak{rest:List Oper}{op:Oper}(z:op.guard=none)(x:Operand)(I:op.op=.load 31 x)
  (b o:Nat) (D:a.eval x=.pointer (some ⟨b,o,none⟩)) (m:Mu) (c:MuS) (J:MuC w b o m c) (h:wpList prog ops Q rest (a.put op.dst (QaG m c)) w):wpList prog ops Q (op::rest) a w:=
 wpList_load_mid z 31 x I b o D (QaE m c) _ J.range underlying31 rfl (by rw[QgS];exact Tryz.QkO) h
theorem QfA{b:Nat}{t:TypeId}:∀(I:List Value) (o:Nat) {w:World} {z:Array Value},Blk w b t z->∃D,Blk (w.setCells b o I) b t D/\D.size=z.size
 |[],_,_,z,h=>⟨z,h,rfl⟩
 | v :: I,o,w,z,h=>by
   obtain⟨D,h1,h2⟩:=QfA I (o+1) (h.Qdz o v);exact⟨D,h1,by rw[h2];simp⟩
variable{w0:World}
theorem Qmg{rest:List Oper}{op:Oper}(R:op.guard=none)(x y:Operand)(ho:op.op=.store 31 x y)
  (m:Mu) (c:MuS) {b:Nat} (hb:w0.heap.size=b) (hw:Ext w0 w) {z:Array Value} (X:Blk w b 31 z) (I:z.size=19) (hx:a.eval x=.pointer (some ⟨b,0,none⟩)) (hy:a.eval y=QaG m c)
  (h:∀w',Ext w0 w'->Blk w' b 31 (QfQ m c)->wpList prog ops Q rest (a.put op.dst undef) w'):wpList prog ops Q (op::rest) a w:=by
 have D:w.there b 0 (QfQ m c).size:=Qp6 X (by rw[I];exact an 19);refine wpList_store_mid R 31 x y ho b 0 (QfQ m c) hx hy D (by exact Tryz.QkO) ?_ (h _ (Ext.setCells (by omega) _ _ hw) ?_)
 ·show ((QaE m c).toArray.all _)=true
  simp[QaE,Value.oneCell']
 have hr:=World.rangeAt_setCells_same w b 0 (QaE m c) D;obtain⟨U,h1,h2⟩:=QfA (QaE m c) 0 X;have N:U.toList=QaE m c:=by
  refine bK λj=>?_
  rw[bR];by_cases hj:j<19
  ·obtain ⟨v,Z⟩:∃ v,(QaE m c)[j]? = some v:=⟨_,ac hj⟩
   have Y:=hr j v Z;rw[aA,h1.cell]at Y;rw[Y,Z]
  rw[Array.getElem?_eq_none (by omega),aQ (by rw[QgS];omega)]
 have J:U=QfQ m c:=df.1 (N.trans (cq).symm);have e:(QfQ m c).toList=QaE m c:=cq;rw[e,<-J];exact h1
abbrev fG:=@MuC.QaX
abbrev fI:=@MuC.ext
theorem MuC.c19{b o:Nat}{m:Mu}(h:MuC w b o m c):w.cell? ⟨b,o,none⟩=some (.int .i64 m.kd)/\w.cell? ⟨b,o+1,none⟩=some (.string m.k)/\w.cell? ⟨b,o+2,none⟩=some (.string m.tk)/\w.cell? ⟨b,o+3,none⟩=some (.int .i64 m.i)/\w.cell? ⟨b,o+4,none⟩=some (.bool m.had)/\w.cell? ⟨b,o+5,none⟩=some (.int .i64 m.was.kind)/\w.cell? ⟨b,o+6,none⟩=some (.bool m.was.b)/\w.cell? ⟨b,o+7,none⟩=some (.int .i64 m.was.i)/\w.cell? ⟨b,o+8,none⟩=some (.string m.was.t)/\w.cell? ⟨b,o+9,none⟩=some (.slice c.w1.a m.was.l.length c.w1.c)/\w.cell? ⟨b,o+10,none⟩=some (.slice c.w2.a m.was.ok.length c.w2.c)/\w.cell? ⟨b,o+11,none⟩=some (.bool m.has)/\w.cell? ⟨b,o+12,none⟩=some (.int .i64 m.v.kind)/\w.cell? ⟨b,o+13,none⟩=some (.bool m.v.b)/\w.cell? ⟨b,o+14,none⟩=some (.int .i64 m.v.i)/\w.cell? ⟨b,o+15,none⟩=some (.string m.v.t)/\w.cell? ⟨b,o+16,none⟩=some (.slice c.v1.a m.v.l.length c.v1.c)/\w.cell? ⟨b,o+17,none⟩=some (.slice c.v2.a m.v.ok.length c.v2.c)/\w.cell? ⟨b,o+18,none⟩=some (.slice c.s.a m.l.length c.s.c):=
 ⟨h 0 _ rfl,h 1 _ rfl,h 2 _ rfl,h 3 _ rfl,h 4 _ rfl,h 5 _ rfl,h 6 _ rfl,h 7 _ rfl,h 8 _ rfl,h 9 _ rfl,h 10 _ rfl,h 11 _ rfl,h 12 _ rfl,h 13 _ rfl,h 14 _ rfl,h 15 _ rfl,h 16 _ rfl,h 17 _ rfl,h 18 _ rfl⟩
variable{W0:World}
theorem Qaz{m:Mu}(h:w.alloc (.cells (QfQ m c) 31)=W0):Ext w W0/\MuC W0 w.heap.size 0 m c/\W0.heap.size=w.heap.size+1:=by
 rw[<-h];exact⟨(fv w).alloc _ _,fG (fA w _ _),ey _ _⟩
theorem RMu.parts{m:Mu}(h:RMu w F m c):RV w F m.was c.w1 c.w2/\RV w F m.v c.v1 c.v2/\m.k.size<=maxLen/\m.tk.size<=maxLen/\(-9223372036854775808<=m.i/\m.i<=9223372036854775807):=by
 cases h with
 |mk bl fl cl rw_ rv hl el rl bk bt bkd bi nl=>exact⟨rw_,rv,bk,bt,Qtp bi⟩
theorem Qka(m:Mu):Qb4 m.v<=QcF m/\Qb4 m.was<=QcF m:=by
 obtain⟨N,k,J,i,z,D,I,v,l⟩:=m;simp only[QcF,Mu.v,Mu.was];omega
def Qti(M:List Ent)(m:Mu):Int × List Ent:=if asM M m.k m.had m.was then(if m.has then setMu M m.k m.v else(0,Qb2 M m.k))else(13,M)
theorem Qsk{m:Mu}(h:OvX H w O d M)(hH:∀b,H b->b<w)(hn:d.us.length<=1000000)(hl:(Qab d.T).length<=1000000)(hm:RMu w (Lt w) m c)(ht:QcF m<=1100000)(hL:Qb9 w) :
  Calls prog 76 #[.pointer (some ⟨O,0,none⟩),QaG m c] w λe w'=>e=.returned (.int .i64 (Qti M m).1)/\∃d',GoX H w O d (Qti M m).2 1 w' d':=by
 obtain⟨-,hv,hk,-,-⟩:=hm.parts;have b3:=λW (hW:Ext w W)=>Qmc (h.nw (fx hW)) hl ((hm.agree (hW.agree λ_ h=>h)).mono (G:=Lt W) λb hb=>ab hb hW.size)
 have a0:=hY b3;have HH:=hY h;have HL:=hY hL;have HV:=hY hv;have b8:Qb4 m.v<=1100000:=by have:=(Qka m).1;omega
 clear b3 h hL hm ht hv;obtain⟨r,Y⟩:∃r,Qti M m=r:=⟨_,rfl⟩;rw[Y];unfold Qti at Y;cases ha:asM M m.k m.had m.was with
 | false=>
   rw[ha]at a0 Y;rw[ef (by simp)]at Y;have HR:=hY Y;clear Y ha;go_in;go_upto_region 1 with fail;generalize U:World.alloc _ _=W0;obtain⟨R,J,-⟩:=Qaz (m:=m) (c:=c) U;have N:=hY R;have X:=hY J;clear U R J;go_wp2_with(refine Qak rfl (.tmp 3) rfl w.heap.size 0 rfl m c X.o ?_);refine(a0.o _ N.o).mono ?_;rintro e W1 ⟨rfl,D⟩;have a1:=hY (N.o.trans D);clear D;go_wp2_with fail;go_ret;exact⟨by rw[<-HR.o]<;>rfl,d,by rw[<-HR.o];exact HH.o.stay (fx a1.o)⟩
 | true=>
   rw[ha]at a0 Y;rw[em rfl]at Y;cases hh:m.has with
   | true=>
     rw[hh,em rfl]at Y;have HR:=hY Y;have Z:=hY hh;clear Y ha hh;go_in;go_upto_region 1 with fail;generalize U:World.alloc _ _=W0;obtain⟨R,J,-⟩:=Qaz (m:=m) (c:=c) U;have N:=hY R;have X:=hY J;clear U R J;go_wp2_with(refine Qak rfl (.tmp 3) rfl w.heap.size 0 rfl m c X.o ?_);refine(a0.o _ N.o).mono ?_;rintro e W1 ⟨rfl,D⟩;have z:=N.o.trans D;have I:=X.o.ext D;obtain⟨c0,c1,c2,c3,c4,c5,c6,c7,c8,c9,b0,a3,d3,d0,d5,b6,d4,b7,b4⟩:=I.c19;simp only[Nat.zero_add]at c0 c1 c2 c3 c4 c5 c6 c7 c8 c9 b0 a3 d3 d0 d5 b6 d4 b7 b4;rw[Z.o]at a3;have l1:=I.lt;have a4:=Qql (HH.o.nw (fx z)) (λb hb=>ab (hH b hb) z.size) hn hk ((HV.o.agree (z.agree λ_ h=>h)).mono λb hb=>ab hb z.size) b8 (HL.o.nw (fx z));have a9:=hY a4;have a1:=hY z;clear D I z a4 c0 c2 c3 c4 c5 c6 c7 c8 c9 b0 b4;go_wp2_with fail;refine a9.o.mono ?_;rintro e W2 ⟨rfl,d',a2⟩;have a6:=hY (a2.since (fx a1.o));clear a2;go_wp2_with fail;go_ret;exact⟨by rw[<-HR.o]<;>rfl,d',by rw[<-HR.o];exact a6.o⟩
   | false=>
     rw[hh,ef (by simp)]at Y;have HR:=hY Y;have Z:=hY hh;clear Y ha hh;go_in;go_upto_region 1 with fail;generalize U:World.alloc _ _=W0;obtain⟨R,J,-⟩:=Qaz (m:=m) (c:=c) U;have N:=hY R;have X:=hY J;clear U R J;go_wp2_with(refine Qak rfl (.tmp 3) rfl w.heap.size 0 rfl m c X.o ?_);refine(a0.o _ N.o).mono ?_;rintro e W1 ⟨rfl,D⟩;have z:=N.o.trans D;have I:=X.o.ext D;have a3:W1.cell? ⟨w,11,none⟩=some (.bool m.has):=I 11 _ rfl;have c1:W1.cell? ⟨w,1,none⟩=some (.string m.k):=I 1 _ rfl;rw[Z.o]at a3;have l1:=I.lt;have a5:=Que (HH.o.nw (fx z)) (λb hb=>ab (hH b hb) z.size) hn hl hk;have b5:=hY a5;have a1:=hY z;clear D I z a5;go_wp2_with fail;refine b5.o.mono ?_;rintro e W2 ⟨rfl,d',a2⟩;have a6:=hY (a2.since (fx a1.o));clear a2;go_wp2_with fail;go_ret;exact⟨by rw[<-HR.o]<;>rfl,d',by rw[<-HR.o];exact a6.o⟩
variable{j:Nat}
theorem RMu.at{m:Mu}(h:RMu w F m c){x:Mu}(z:m.l[j]? = some x) :
  ∃b o y,c.s.a=some ⟨b,o,none⟩/\F b/\m.l.length<=c.s.c/\c.s.c<=maxLen/\MuC w b (o+j*19) x y/\RMu w F x y:=by
 cases h with
 | mk bl fl cl rw_ rv hl el rl bk bt bkd bi nl=>
   obtain⟨I,J,D⟩:=hl.eq (QbS z);exact⟨bl,fl,cl j,I,hl.fits (QbS z),J,D,el j x z,rl j x z⟩
theorem RMu.len{m:Mu}(h:RMu w F m c):m.l.length*264<=140737488355328:=by
 cases h with
 |mk bl fl cl rw_ rv hl el rl bk bt bkd bi nl=>exact nl
theorem Mu.QtV{m:Mu}{x:Mu}(h:m.l[j]? = some x):SizeOf.sizeOf x<SizeOf.sizeOf m:=by
 obtain⟨N,k,J,i,z,D,I,v,l⟩:=m;have h1:SizeOf.sizeOf x<SizeOf.sizeOf l:=dE (am h);simp only[Mu.mk.sizeOf_spec];omega
theorem Qgn(m:Mu):QaT m=1+QaC m.l:=by
 obtain⟨N,k,J,i,z,D,I,v,l⟩:=m;rw[QaT];rfl
theorem Qfb:∀(l:List Mu) (j:Nat),QaC (l.take j)<=QaC l
 |[],j=>by simp
 |x::r,0=>by simp[QaC]
 |x::r,j+1=>by have:=Qfb r j;rw[aV,QaC,QaC];omega
theorem QpU(n:Nat):∀(m:Mu) (c:MuS) (w:World),SizeOf.sizeOf m<=n->RMu w (Lt w) m c->QaT m<=1100000->Calls prog 70 #[QaG m c] w λe w'=>e=.returned (.int .i64 (QaT m:Int))/\Ext w w':=by
 induction n with
 |zero=>intro m c w h;have:=Mu.Qb7 m;omega
 | succ n ih=>
   intro m c w hn hm hs;have HI:=hY ih;have HM:=hY hm;have c1:=hm.len;have Z:=hY (Qgn m);have HS:=hY hs;have HN:=hY hn;clear ih hm hs hn;go_in;go_upto_region 1 with fail;generalize a3:World.alloc _ _=W0;obtain⟨a2,a9,-⟩:=Qaz (m:=m) (c:=c) a3;have b6:=hY a2;have c6:W0.cell? ⟨w,8+10,none⟩=some (.slice c.s.a m.l.length c.s.c):=a9 18 _ rfl;clear a3 a2 a9;go_wp2_with fail;go_loopw[3,9] (λv3 v9 wr=>∃j:Nat,v9=.int .i64 (j:Int)/\v3=.int .i64 ((1+QaC (m.l.take j):Nat):Int)/\j<=m.l.length/\Yd (Ext w wr)) (λ_ v _=>m.l.length -(intOf v).toNat)
   case atStart=>exact⟨0,rfl,by simp[QaC],aw _,b6⟩
   obtain⟨j,rfl,rfl,hj,N⟩:=hrel;by_cases U:j<m.l.length
   ·have l1:(j:Int)<(m.l.length:Int):=by omega
    have c4:decide ((j:Int)<(m.l.length:Int))=true:=ej l1;have l0:(0:Int)<=(j:Int):=by omega
    obtain⟨x,hx⟩:∃x,m.l[j]? = some x:=⟨_,ac U⟩;obtain⟨b,o,y,b4,D,c7,c3,a5,R⟩:=HM.o.at hx;have D:b<w:=D;have c2:b<wr:=ab D N.o.size;have X:=hY (a5.agree (N.o.agree λ_ h=>h) D);have b5:QaT x<=QaC m.l:=by
     have h1:=Qdm hx;have h2:=Qfb m.l (j+1);omega
    have Y:1+QaC m.l<=1100000:=by rw[<-Z.o];exact HS.o
    have z:=λW (hW:Ext wr W)=>HI.o x y W (by have:=Mu.QtV hx;have:=HN.o;omega) ((R.agree ((N.o.trans hW).agree λ_ h=>h)).mono λb hb=>ab hb (N.o.trans hW).size) (by omega)
    have J:=hY z;have c0:=hY (Qdm hx);have I:=Qfb m.l (j+1);have a0:wrap64 (1+(QaC (m.l.take j):Int)+(QaT x:Int))=((1+QaC (m.l.take (j+1)):Nat):Int):=by
     unfold wrap64;rw[c0.o]at I ⊢;omega
    have b7:=hY a0;clear R a5 b5 Y z I a0 hx;rw[b4];go_wp2_with(first |(refine Qak rfl (.tmp 11) rfl b (o+j*19) rfl x y X.o ?_) |(refine Qmg rfl (.tmp 5) (.tmp 12) rfl x y (w0:=wr) (b:=wr) rfl ((fv wr).alloc _ _) (fA wr _ _) rfl rfl rfl ?_;intro w5 a6 a4;have b0:=hY a6;have b3:=hY (fG a4);clear a6 a4) |(refine Qak rfl (.tmp 5) rfl wr.heap.size 0 rfl x y b3.o ?_));refine(J.o _ b0.o).mono ?_;rintro e w2 ⟨rfl,a1⟩;have b8:=hY ((N.o.trans b0.o).trans a1);clear a1;go_wp2_with fail;go_roundw
    case rel=>exact⟨j+1,by go_num,by rw[b7.o],U,b8⟩
    simp[intOf];omega
   obtain rfl:j=m.l.length:=by omega
   have l1:decide ((m.l.length:Int)<(m.l.length:Int))=false:=eh (by omega);have HT:=hY (show((1+QaC (m.l.take m.l.length):Nat):Int)=(QaT m:Int)by rw[aM,Z.o]);go_wp2_with fail;go_ret;exact⟨by rw[HT.o]<;>rfl,N.o⟩
theorem QpT{m:Mu}(h:RMu w (Lt w) m c)(hs:QaT m<=1100000):Calls prog 70 #[QaG m c] w λe w'=>e=.returned (.int .i64 (QaT m:Int))/\Ext w w':=QpU _ m c w (an _) h hs
def QaH(m:Mu):Bool:=m.k.size==0&&m.tk.size==0&&m.i==0 && !m.had&&Qel m.was && !m.has&&Qel m.v&&m.l.length==0
theorem QaU(w:World)(m:Mu)(c:MuS):Calls prog 170 #[QaG m c] w λe w'=>e=.returned (.bool (QaH m))/\Ext w w':=by
 obtain⟨r,hr⟩:∃r,QaH m=r:=⟨_,rfl⟩;rw[hr];unfold QaH at hr;by_cases h0:m.k.size=0
 rotate_left
 ·have g0:=Qbx h0
  have HR:=hY (show false=r by rw[<-hr];simp[h0]);clear hr h0;go_in;go_upto_region 1 with fail;generalize J:World.alloc _ _=W0;obtain⟨Y,D,-⟩:=Qaz (m:=m) (c:=c) J;have a3:=hY Y;have a6:=hY D;obtain⟨c0,c1,c2,c3,c4,c5,c6,c7,c8,c9,a2,U,Z,X,N,R,a1,I,a0⟩:=D.c19;simp only[Nat.zero_add]at c0 c1 c2 c3 c4 c5 c6 c7 c8 c9 a2 U Z X N R a1 I a0;have l0:=D.lt;clear J Y D;go_wp2_with fail;go_ret;exact⟨by rw[<-HR.o]<;>rfl,a3.o⟩
 have g0:=Qbc h0;by_cases h1:m.tk.size=0
 rotate_left
 ·have g1:=Qbx h1
  have HR:=hY (show false=r by rw[<-hr];simp[h0,h1]);clear hr h0 h1;go_in;go_upto_region 1 with fail;generalize J:World.alloc _ _=W0;obtain⟨Y,D,-⟩:=Qaz (m:=m) (c:=c) J;have a3:=hY Y;have a6:=hY D;obtain⟨c0,c1,c2,c3,c4,c5,c6,c7,c8,c9,a2,U,Z,X,N,R,a1,I,a0⟩:=D.c19;simp only[Nat.zero_add]at c0 c1 c2 c3 c4 c5 c6 c7 c8 c9 a2 U Z X N R a1 I a0;have l0:=D.lt;clear J Y D;go_wp2_with fail;go_ret;exact⟨by rw[<-HR.o]<;>rfl,a3.o⟩
 have g1:=Qbc h1;by_cases h2:m.i=0
 rotate_left
 ·have g2:(m.i == 0)=false:=eu.2 h2
  have HR:=hY (show false=r by rw[<-hr];simp[h0,h1,h2]);clear hr h0 h1 h2;go_in;go_upto_region 1 with fail;generalize J:World.alloc _ _=W0;obtain⟨Y,D,-⟩:=Qaz (m:=m) (c:=c) J;have a3:=hY Y;have a6:=hY D;obtain⟨c0,c1,c2,c3,c4,c5,c6,c7,c8,c9,a2,U,Z,X,N,R,a1,I,a0⟩:=D.c19;simp only[Nat.zero_add]at c0 c1 c2 c3 c4 c5 c6 c7 c8 c9 a2 U Z X N R a1 I a0;have l0:=D.lt;clear J Y D;go_wp2_with fail;go_ret;exact⟨by rw[<-HR.o]<;>rfl,a3.o⟩
 have g2:(m.i==0)=true:=by simp[h2]
 by_cases h3:m.had=false
 rotate_left
 ·have g3:m.had=true:=by simpa using h3
  have HR:=hY (show false=r by rw[<-hr];simp[h0,h1,h2,h3]);clear hr h0 h1 h2 h3;go_in;go_upto_region 1 with fail;generalize J:World.alloc _ _=W0;obtain⟨Y,D,-⟩:=Qaz (m:=m) (c:=c) J;have a3:=hY Y;have a6:=hY D;obtain⟨c0,c1,c2,c3,c4,c5,c6,c7,c8,c9,a2,U,Z,X,N,R,a1,I,a0⟩:=D.c19;simp only[Nat.zero_add]at c0 c1 c2 c3 c4 c5 c6 c7 c8 c9 a2 U Z X N R a1 I a0;have l0:=D.lt;clear J Y D;go_wp2_with fail;go_ret;exact⟨by rw[<-HR.o]<;>rfl,a3.o⟩
 have g3:m.had=false:=h3;by_cases h4:Qel m.was=true
 rotate_left
 ·have g4:Qel m.was=false:=by simpa using h4
  have HR:=hY (show false=r by rw[<-hr];simp[h0,h1,h2,h3,h4]);clear hr h0 h1 h2 h3 h4;go_in;go_upto_region 1 with fail;generalize J:World.alloc _ _=W0;obtain⟨Y,D,-⟩:=Qaz (m:=m) (c:=c) J;have a3:=hY Y;have a6:=hY D;obtain⟨c0,c1,c2,c3,c4,c5,c6,c7,c8,c9,a2,U,Z,X,N,R,a1,I,a0⟩:=D.c19;simp only[Nat.zero_add]at c0 c1 c2 c3 c4 c5 c6 c7 c8 c9 a2 U Z X N R a1 I a0;have l0:=D.lt;clear J Y D;go_wp2_with fail;refine(QaD _ m.was c.w1 c.w2).mono ?_;rintro e W1 ⟨rfl,z⟩;have a5:=hY (a3.o.trans z);clear z c0 c1 c2 c3 c4 c5 c6 c7 c8 c9 a2 U Z X N R a1 I a0;rw[g4];go_wp2_with fail;go_ret;exact⟨by rw[<-HR.o]<;>rfl,a5.o⟩
 have g4:Qel m.was=true:=h4;by_cases h5:m.has=false
 rotate_left
 ·have g5:m.has=true:=by simpa using h5
  have HR:=hY (show false=r by rw[<-hr];simp[h0,h1,h2,h3,h4,h5]);clear hr h0 h1 h2 h3 h4 h5;go_in;go_upto_region 1 with fail;generalize J:World.alloc _ _=W0;obtain⟨Y,D,-⟩:=Qaz (m:=m) (c:=c) J;have a3:=hY Y;have a6:=hY D;obtain⟨c0,c1,c2,c3,c4,c5,c6,c7,c8,c9,a2,U,Z,X,N,R,a1,I,a0⟩:=D.c19;simp only[Nat.zero_add]at c0 c1 c2 c3 c4 c5 c6 c7 c8 c9 a2 U Z X N R a1 I a0;have l0:=D.lt;clear J Y D;go_wp2_with fail;refine(QaD _ m.was c.w1 c.w2).mono ?_;rintro e W1 ⟨rfl,z⟩;have b5:=(z.cell l0).trans U;have b6:=(z.cell l0).trans Z;have b8:=(z.cell l0).trans X;have b4:=(z.cell l0).trans N;have b3:=(z.cell l0).trans R;have b7:=(z.cell l0).trans a1;have d0:=(z.cell l0).trans I;have a9:=(z.cell l0).trans a0;have l1:=ab l0 z.size;have a5:=hY (a3.o.trans z);clear z c0 c1 c2 c3 c4 c5 c6 c7 c8 c9 a2 U Z X N R a1 I a0;rw[g4];go_wp2_with fail;go_ret;exact⟨by rw[<-HR.o]<;>rfl,a5.o⟩
 have g5:m.has=false:=h5;by_cases h6:Qel m.v=true
 rotate_left
 ·have g6:Qel m.v=false:=by simpa using h6
  have HR:=hY (show false=r by rw[<-hr];simp[h0,h1,h2,h3,h4,h5,h6]);clear hr h0 h1 h2 h3 h4 h5 h6;go_in;go_upto_region 1 with fail;generalize J:World.alloc _ _=W0;obtain⟨Y,D,-⟩:=Qaz (m:=m) (c:=c) J;have a3:=hY Y;have a6:=hY D;obtain⟨c0,c1,c2,c3,c4,c5,c6,c7,c8,c9,a2,U,Z,X,N,R,a1,I,a0⟩:=D.c19;simp only[Nat.zero_add]at c0 c1 c2 c3 c4 c5 c6 c7 c8 c9 a2 U Z X N R a1 I a0;have l0:=D.lt;clear J Y D;go_wp2_with fail;refine(QaD _ m.was c.w1 c.w2).mono ?_;rintro e W1 ⟨rfl,z⟩;have b5:=(z.cell l0).trans U;have b6:=(z.cell l0).trans Z;have b8:=(z.cell l0).trans X;have b4:=(z.cell l0).trans N;have b3:=(z.cell l0).trans R;have b7:=(z.cell l0).trans a1;have d0:=(z.cell l0).trans I;have a9:=(z.cell l0).trans a0;have l1:=ab l0 z.size;have a5:=hY (a3.o.trans z);clear z c0 c1 c2 c3 c4 c5 c6 c7 c8 c9 a2 U Z X N R a1 I a0;rw[g4];go_wp2_with fail;refine(QaD _ m.v c.v1 c.v2).mono ?_;rintro e W2 ⟨rfl,a4⟩;have b0:=hY (a5.o.trans a4);clear a4;rw[g6];go_wp2_with fail;go_ret;exact⟨by rw[<-HR.o]<;>rfl,b0.o⟩
 have g6:Qel m.v=true:=h6;by_cases h7:m.l.length=0
 rotate_left
 ·have g7:((m.l.length:Int) == 0)=false:=eu.2 (by omega)
  have HR:=hY (show false=r by rw[<-hr];simp[h0,h1,h2,h3,h4,h5,h6,h7]);clear hr h0 h1 h2 h3 h4 h5 h6 h7;go_in;go_upto_region 1 with fail;generalize J:World.alloc _ _=W0;obtain⟨Y,D,-⟩:=Qaz (m:=m) (c:=c) J;have a3:=hY Y;have a6:=hY D;obtain⟨c0,c1,c2,c3,c4,c5,c6,c7,c8,c9,a2,U,Z,X,N,R,a1,I,a0⟩:=D.c19;simp only[Nat.zero_add]at c0 c1 c2 c3 c4 c5 c6 c7 c8 c9 a2 U Z X N R a1 I a0;have l0:=D.lt;clear J Y D;go_wp2_with fail;refine(QaD _ m.was c.w1 c.w2).mono ?_;rintro e W1 ⟨rfl,z⟩;have b5:=(z.cell l0).trans U;have b6:=(z.cell l0).trans Z;have b8:=(z.cell l0).trans X;have b4:=(z.cell l0).trans N;have b3:=(z.cell l0).trans R;have b7:=(z.cell l0).trans a1;have d0:=(z.cell l0).trans I;have a9:=(z.cell l0).trans a0;have l1:=ab l0 z.size;have a5:=hY (a3.o.trans z);clear z c0 c1 c2 c3 c4 c5 c6 c7 c8 c9 a2 U Z X N R a1 I a0;rw[g4];go_wp2_with fail;refine(QaD _ m.v c.v1 c.v2).mono ?_;rintro e W2 ⟨rfl,a4⟩;have d3:W2.cell? ⟨w,18,none⟩=some (.slice c.s.a m.l.length c.s.c):=(a4.cell l1).trans a9;have l2:=ab l1 a4.size;have b0:=hY (a5.o.trans a4);clear a4;rw[g6];go_wp2_with fail;go_ret;exact⟨by rw[<-HR.o]<;>rfl,b0.o⟩
 have g7:((m.l.length:Int)==0)=true:=by rw[h7];rfl
 have HR:=hY (show true=r by rw[<-hr];simp[h0,h1,h2,h3,h4,h5,h6,h7]);clear hr h0 h1 h2 h3 h4 h5 h6 h7;go_in;go_upto_region 1 with fail;generalize J:World.alloc _ _=W0;obtain⟨Y,D,-⟩:=Qaz (m:=m) (c:=c) J;have a3:=hY Y;have a6:=hY D;obtain⟨c0,c1,c2,c3,c4,c5,c6,c7,c8,c9,a2,U,Z,X,N,R,a1,I,a0⟩:=D.c19;simp only[Nat.zero_add]at c0 c1 c2 c3 c4 c5 c6 c7 c8 c9 a2 U Z X N R a1 I a0;have l0:=D.lt;clear J Y D;go_wp2_with fail;refine(QaD _ m.was c.w1 c.w2).mono ?_;rintro e W1 ⟨rfl,z⟩;have b5:=(z.cell l0).trans U;have b6:=(z.cell l0).trans Z;have b8:=(z.cell l0).trans X;have b4:=(z.cell l0).trans N;have b3:=(z.cell l0).trans R;have b7:=(z.cell l0).trans a1;have d0:=(z.cell l0).trans I;have a9:=(z.cell l0).trans a0;have l1:=ab l0 z.size;have a5:=hY (a3.o.trans z);clear z c0 c1 c2 c3 c4 c5 c6 c7 c8 c9 a2 U Z X N R a1 I a0;rw[g4];go_wp2_with fail;refine(QaD _ m.v c.v1 c.v2).mono ?_;rintro e W2 ⟨rfl,a4⟩;have d3:W2.cell? ⟨w,18,none⟩=some (.slice c.s.a m.l.length c.s.c):=(a4.cell l1).trans a9;have l2:=ab l1 a4.size;have b0:=hY (a5.o.trans a4);clear a4;rw[g6];go_wp2_with fail;go_ret;exact⟨by rw[<-HR.o]<;>rfl,b0.o⟩
def Qt1:List Value->Nat->List Value->List Value
 |l,_,[]=>l
 |l,o,v::vs=>Qt1 (l.set o v) (o+1) vs
theorem Qlu{b:Nat}{t:TypeId}:∀(z:List Value) (o:Nat) {w:World} {l:List Value},Blk w b t l.toArray->Blk (w.setCells b o z) b t (Qt1 l o z).toArray
 |[],_,_,_,h=>h
 | v :: z,o,w,l,h=>by
   have h2:=h.Qdz o v;rw[ae]at h2;exact Qlu z (o+1) h2
theorem Qft(w:World)(b o:Nat)(D:TypeId){v:Value}(z:Array Value)(I:v.cells=z)(R:w.there b o z.size)(hi:(prog.info? D).map (·.size)=some z.size)(h1:z.all (·.oneCell')=true) :
  (storeVar D ⟨b,o,none⟩ v).run prog w=.ok () (w.setCells b o z.toList):=by
 have:=run_storeCells_cells (P:=prog) b o z.toList 0 w (λj N=>by simpa using(R j (by simpa using N)).1) (λj N=>by simpa using(R j (by simpa using N)).2)
  (λv I=>(Array.all_eq_true_iff_forall_mem.1 h1) v (by simpa using I))
 cases J:prog.info? D with
 |none=>simp[J]at hi
 | some i=>
   have hs:z.size=i.size:=by simp[J]at hi;omega
   simp only[Nat.add_zero]at this;simp[storeVar,sizeOf,typeInfo,J,I,hs,this]
variable{K:Act->World->Prop}
theorem QiR{op:Oper}(D:TypeId)(x y:Operand)(N:op.op=.store D x y)
  (b o:Nat) (z:Array Value) (J:a.eval x=.pointer (some ⟨b,o,none⟩)) {v:Value} (U:a.eval y=v) (R:v.cells=z)
  (I:w.there b o z.size) (hi:(prog.info? D).map (·.size)=some z.size) (h1:z.all (·.oneCell')=true)
  (h:K (a.put op.dst undef) (w.setCells b o z.toList)):op.wp prog a w K Q:=by
 unfold Oper.wp execOp;simp only[N,J,U,Instr.storeAt,Instr.sureAddr,Sem.run_bind,Sem.run_pure,Result.andThen_ok,Qft w b o D z R I hi h1];exact h
theorem QtM{rest:List Oper}{op:Oper}(N:op.guard=none)(hd:op.dst=none){T:TypeId}{x y:Operand}(X:op.op=.store T x y)
  (z:List Value) {v:Value} (Z:a.eval y=v) (hv:v.cells=z.toArray) (hi:(prog.info? T).map (·.size)=some z.length) (h1:z.all (·.oneCell')=true)
 {b:Nat} (hb:w0.heap.size≤b) (hw:Ext w0 w) {m:Mu} (I:Blk w b 31 (QfQ m c)) (o:Nat) (hl:o+z.length≤19) (hx:a.eval x=.pointer (some ⟨b,o,none⟩))
  {R:Mu} {U:MuS} (he:Qt1 (QaE m c) o z=QaE R U) (h:∀w',Ext w0 w'->Blk w' b 31 (QfQ R U)->wpList prog ops Q rest a w'):wpList prog ops Q (op::rest) a w:=by
 have D:w.there b o z.toArray.size:=λj hj=>by
  have a0:j<z.length:=by simpa using hj
  refine⟨?_,I.frozen _⟩;rw[I.cell,Array.getElem?_eq_getElem (by rw[br,QgS];omega)];rfl
 have h2:=Qlu z o I;rw[he]at h2;have J:=h _ (Ext.setCells hb z o hw) h2;have ep:a.put op.dst undef=a:=by rw[hd];rfl
 refine wpList_plain N λK Y=>QiR T x y X b o z.toArray hx Z hv D (by rw[hi,br]) (all_oneCell_toArray (dg.1 h1)) (Y _ _ ?_)
 rw[ep];exact J
theorem Qa0{rest:List Oper}{op:Oper}(I:op.guard=none)(hd:op.dst=none){x y:Operand}(J:op.op=.store 31 x y)
  (m:Mu) (c:MuS) {b:Nat} (Z:w0.heap.size=b) (Y:Ext w0 w) {z:Array Value} (N:Blk w b 31 z) (D:z.size=19) (X:a.eval x=.pointer (some ⟨b,0,none⟩)) (R:a.eval y=QaG m c)
  (h:∀w',Ext w0 w'->Blk w' b 31 (QfQ m c)->wpList prog ops Q rest a w'):wpList prog ops Q (op::rest) a w:=
 Qmg I x y J m c Z Y N D X R λw' h1 h2=>by
  have U:a.put op.dst undef=a:=by rw[hd];rfl
  rw[U];exact h w' h1 h2
theorem Qan{rest:List Oper}{T T':TypeId}{x y:Operand}{ps:String}{R:Array Edge} 
  (z:List Value) (Z:(a.eval y).cells=z.toArray) (hi:(prog.info? T).map (·.size)=some z.length) (h1:z.all (·.oneCell')=true)
 {b:Nat} (hb:w0.heap.size≤b) (U:Ext w0 w) {m:Mu} (J:Blk w b 31 (QfQ m c)) (o:Nat) (X:o+z.length≤19) (N:a.eval x=.pointer (some ⟨b,o,none⟩))
  (D:Mu) (I:MuS) (Y:Qt1 (QaE m c) o z=QaE D I) (h:∀w',Ext w0 w'->Blk w' b 31 (QfQ D I)->wpList prog ops Q rest a w') :
  wpList prog ops Q (⟨none,.store T x y,T',ps,R,none⟩::rest) a w:=
 QtM rfl rfl rfl z rfl Z hi h1 hb U J o X N Y h
def Qal(m:Mu):Bool:=Qbv m.kd m.k m.tk m.i m.had m.was m.has m.v m.l.length
theorem Qa4:Qel zeroV=true:=rfl
theorem MuC.kind{b:Nat}{m:Mu}(h:MuC w b 0 m c):w.cell? ⟨b,0,none⟩=some (.int .i64 m.kd):=h 0 _ rfl
theorem MuC.c11{b:Nat}{m:Mu}(h:MuC w b 0 m c):w.cell? ⟨b,11,none⟩=some (.bool m.has):=h 11 _ rfl
theorem MuC.c4{b:Nat}{m:Mu}(h:MuC w b 0 m c):w.cell? ⟨b,4,none⟩=some (.bool m.had):=h 4 _ rfl
theorem MuC.QnS{b:Nat}{m:Mu}(h:MuC w b 0 m c):w.cell? ⟨b,5,none⟩=some (.int .i64 m.was.kind)/\w.cell? ⟨b,6,none⟩=some (.bool m.was.b)/\w.cell? ⟨b,7,none⟩=some (.int .i64 m.was.i)/\w.cell? ⟨b,8,none⟩=some (.string m.was.t)/\w.cell? ⟨b,9,none⟩=some (.slice c.w1.a m.was.l.length c.w1.c)/\w.cell? ⟨b,10,none⟩=some (.slice c.w2.a m.was.ok.length c.w2.c):=⟨h 5 _ rfl,h 6 _ rfl,h 7 _ rfl,h 8 _ rfl,h 9 _ rfl,h 10 _ rfl⟩
theorem MuC.v6{b:Nat}{m:Mu}(h:MuC w b 0 m c):w.cell? ⟨b,12,none⟩=some (.int .i64 m.v.kind)/\w.cell? ⟨b,13,none⟩=some (.bool m.v.b)/\w.cell? ⟨b,14,none⟩=some (.int .i64 m.v.i)/\w.cell? ⟨b,15,none⟩=some (.string m.v.t)/\w.cell? ⟨b,16,none⟩=some (.slice c.v1.a m.v.l.length c.v1.c)/\w.cell? ⟨b,17,none⟩=some (.slice c.v2.a m.v.ok.length c.v2.c):=⟨h 12 _ rfl,h 13 _ rfl,h 14 _ rfl,h 15 _ rfl,h 16 _ rfl,h 17 _ rfl⟩
theorem Qli(w:World)(m:Mu)(c:MuS)(U:m.had=false)(N:Qel m.was=false):Calls prog 118 #[QaG m c] w λe w'=>e=.returned (.bool (!Qal m))/\Ext w w':=by
 have hr:(!Qal m)=true:=by simp[Qal,Qbv,U,N]
 rw[hr];have HZ:=hY N;have HH:=hY U;clear hr N U;go_in;go_upto_region 1 with fail;generalize I:World.alloc _ _=W0;obtain⟨D,z,R⟩:=Qaz (m:=m) (c:=c) I;have Z:=hY D;have Y:=hY z;have c4:=z.c4;rw[HH.o]at c4;clear I D z R;obtain⟨c5,c6,c7,c8,c9,a0⟩:=Y.o.QnS;go_wp2_with fail;refine(QaD _ m.was c.w1 c.w2).mono ?_;rintro e W1 ⟨rfl,J⟩;have X:=hY (Z.o.trans J);clear J;rw[HZ.o];go_wp2_with fail;go_ret;exact⟨rfl,X.o⟩
theorem Qnt(w:World)(m:Mu)(c:MuS)(hk:m.kd=1)(hh:m.had=true):Calls prog 118 #[QaG m c] w λe w'=>e=.returned (.bool (!Qal m))/\Ext w w':=by
 have hr:(!Qal m)=(!QaH (Mu.mk m.kd ByteArray.empty m.tk m.i m.had m.was m.has zeroV m.l)):=by
  obtain⟨b6,k',b7,i',b4,b3,b5,v',l'⟩:=m;simp only[Mu.kd,Mu.had,Mu.was,Mu.has,Mu.v]at hk hh;simp[Qal,Qbv,QaH,Mu.kd,hk,hh,Qa4,Mu.k,Mu.tk,Mu.i,Mu.had,Mu.was,Mu.has,Mu.v,Mu.l]
 have HR:=hY hr;have HH:=hY hh;have e1:(m.kd==1)=true:=by simp[hk]
 clear hr hk hh;go_in;go_upto_region 1 with fail;generalize X:World.alloc _ _=W0;obtain⟨z,J,a2⟩:=Qaz (m:=m) (c:=c) X;have R:=hY z;have D:=hY J;have c4:=J.c4;rw[HH.o]at c4;clear X z J a2;go_upto_region 4 with(first |(refine Qak rfl (.tmp 1) rfl w.heap.size 0 rfl m c D.o ?_) |(refine Qa0 rfl rfl rfl m c (w0:=W0) (b:=W0) rfl ((fv W0).alloc _ _) (fA W0 _ _) rfl rfl rfl ?_;intro w5 I Y;have a4:=hY (R.o.trans I);have D:=hY (fI D.o I);have b0:=hY Y;clear I Y));have d0:=D.o.kind;have hg:w.heap.size<=W0.heap.size:=R.o.size;go_wp2_with(first |(refine Qan [.string ⟨#[]⟩] ?_ ?_ ?_ hg a4.o b0.o 1 ?_ ?_ (Mu.mk m.kd ByteArray.empty m.tk m.i m.had m.was m.has m.v m.l) ⟨c.w1,c.w2,c.v1,c.v2,c.s⟩ ?_ ?_;rfl;kernel_rfl;rfl;decide;rfl;rfl;intro v0 z Z;have a3:=hY z;have a5:=hY Z;clear z Z) |(refine Qan [.int .i64 0,.bool false,.int .i64 0,.string ⟨#[]⟩,.slice none 0 0,.slice none 0 0] ?_ ?_ ?_ hg a3.out a5.out 12 ?_ ?_ (Mu.mk m.kd ByteArray.empty m.tk m.i m.had m.was m.has zeroV m.l) ⟨c.w1,c.w2,Sl.none,Sl.none,c.s⟩ ?_ ?_;rfl;kernel_rfl;rfl;decide;rfl;rfl;intro v1 U N;have a9:=hY U;have a1:=hY N;clear U N) |(refine Qak rfl (.tmp 3) rfl W0.heap.size 0 rfl (Mu.mk m.kd ByteArray.empty m.tk m.i m.had m.was m.has zeroV m.l) ⟨c.w1,c.w2,Sl.none,Sl.none,c.s⟩ (fG a1.out) ?_));refine(QaU _ (Mu.mk m.kd ByteArray.empty m.tk m.i m.had m.was m.has zeroV m.l) ⟨c.w1,c.w2,Sl.none,Sl.none,c.s⟩).mono ?_;rintro e W7 ⟨rfl,a0⟩;have a6:=hY (a9.out.trans a0);clear a0;go_wp2_with fail;go_ret;exact⟨by rw[HR.o]<;>rfl,a6.o⟩
theorem Qnu(w:World)(m:Mu)(c:MuS)(hk:m.kd=1)(hh:m.had=false)(hz:Qel m.was=true):Calls prog 118 #[QaG m c] w λe w'=>e=.returned (.bool (!Qal m))/\Ext w w':=by
 have hr:(!Qal m)=(!QaH (Mu.mk m.kd ByteArray.empty m.tk m.i m.had m.was m.has zeroV m.l)):=by
  obtain⟨c1,k',c2,i',b8,b7,c0,v',l'⟩:=m;simp only[Mu.kd,Mu.had,Mu.was,Mu.has,Mu.v]at hk hh hz;simp[Qal,Qbv,QaH,Mu.kd,hk,hh,Qa4,Mu.k,Mu.tk,Mu.i,Mu.had,Mu.was,Mu.has,Mu.v,Mu.l,hz]
 have HR:=hY hr;have HH:=hY hh;have HZ:=hY hz;have e1:(m.kd==1)=true:=by simp[hk]
 clear hr hk hh hz;go_in;go_upto_region 1 with fail;generalize Y:World.alloc _ _=W0;obtain⟨D,J,a4⟩:=Qaz (m:=m) (c:=c) Y;have a9:=hY D;have I:=hY J;have c4:=J.c4;rw[HH.o]at c4;clear Y D J a4;obtain⟨c5,c6,c7,c8,c9,a6⟩:=I.o.QnS;go_wp2_with fail;refine(QaD _ m.was c.w1 c.w2).mono ?_;rintro e R ⟨rfl,z⟩;have a1:=hY (a9.o.trans z);have X:=hY (I.o.ext z);clear z c4 c5 c6 c7 c8 c9 a6;rw[HZ.o];go_upto_region 4 with(first |(refine Qak rfl (.tmp 1) rfl w.heap.size 0 rfl m c X.o ?_) |(refine Qa0 rfl rfl rfl m c (w0:=R) (b:=R) rfl ((fv R).alloc _ _) (fA R _ _) rfl rfl rfl ?_;intro w5 N Z;have b6:=hY (a1.o.trans N);have I:=hY (fI X.o N);have b5:=hY Z;clear N Z));have d0:=I.o.kind;have hg:w.heap.size<=R.heap.size:=a1.o.size;go_wp2_with(first |(refine Qan [.string ⟨#[]⟩] ?_ ?_ ?_ hg b6.o b5.o 1 ?_ ?_ (Mu.mk m.kd ByteArray.empty m.tk m.i m.had m.was m.has m.v m.l) ⟨c.w1,c.w2,c.v1,c.v2,c.s⟩ ?_ ?_;rfl;kernel_rfl;rfl;decide;rfl;rfl;intro v0 D a0;have a5:=hY D;have b0:=hY a0;clear D a0) |(refine Qan [.int .i64 0,.bool false,.int .i64 0,.string ⟨#[]⟩,.slice none 0 0,.slice none 0 0] ?_ ?_ ?_ hg a5.out b0.out 12 ?_ ?_ (Mu.mk m.kd ByteArray.empty m.tk m.i m.had m.was m.has zeroV m.l) ⟨c.w1,c.w2,Sl.none,Sl.none,c.s⟩ ?_ ?_;rfl;kernel_rfl;rfl;decide;rfl;rfl;intro v1 z U;have b4:=hY z;have a3:=hY U;clear z U) |(refine Qak rfl (.tmp 3) rfl R.heap.size 0 rfl (Mu.mk m.kd ByteArray.empty m.tk m.i m.had m.was m.has zeroV m.l) ⟨c.w1,c.w2,Sl.none,Sl.none,c.s⟩ (fG a3.out) ?_));refine(QaU _ (Mu.mk m.kd ByteArray.empty m.tk m.i m.had m.was m.has zeroV m.l) ⟨c.w1,c.w2,Sl.none,Sl.none,c.s⟩).mono ?_;rintro e W7 ⟨rfl,a2⟩;have b3:=hY (b4.out.trans a2);clear a2;go_wp2_with fail;go_ret;exact⟨by rw[HR.o]<;>rfl,b3.o⟩
theorem Qnz(w:World)(m:Mu)(c:MuS)(Z:m.kd=5)(hh:m.had=true):Calls prog 118 #[QaG m c] w λe w'=>e=.returned (.bool (!Qal m))/\Ext w w':=by
 have hr:(!Qal m)=(!QaH (Mu.mk m.kd ByteArray.empty m.tk m.i m.had m.was m.has zeroV m.l)):=by
  obtain⟨b7,k',b8,i',b5,b4,b6,v',l'⟩:=m;simp only[Mu.kd,Mu.had,Mu.was,Mu.has,Mu.v]at Z hh;simp[Qal,Qbv,QaH,Mu.kd,Z,hh,Qa4,Mu.k,Mu.tk,Mu.i,Mu.had,Mu.was,Mu.has,Mu.v,Mu.l]
 have HR:=hY hr;have HH:=hY hh;have e1:(m.kd==1)=false:=by simp[Z]
 have e5:(m.kd==5)=true:=by simp[Z]
 clear hr Z hh;go_in;go_upto_region 1 with fail;generalize X:World.alloc _ _=W0;obtain⟨z,I,a3⟩:=Qaz (m:=m) (c:=c) X;have R:=hY z;have D:=hY I;have c4:=I.c4;rw[HH.o]at c4;clear X z I a3;go_upto_region 4 with(first |(refine Qak rfl (.tmp 1) rfl w.heap.size 0 rfl m c D.o ?_) |(refine Qa0 rfl rfl rfl m c (w0:=W0) (b:=W0) rfl ((fv W0).alloc _ _) (fA W0 _ _) rfl rfl rfl ?_;intro w5 J Y;have b3:=hY (R.o.trans J);have D:=hY (fI D.o J);have b0:=hY Y;clear J Y));have d0:=D.o.kind;have hg:w.heap.size<=W0.heap.size:=R.o.size;go_wp2_with(first |(refine Qan [.string ⟨#[]⟩] ?_ ?_ ?_ hg b3.o b0.o 1 ?_ ?_ (Mu.mk m.kd ByteArray.empty m.tk m.i m.had m.was m.has m.v m.l) ⟨c.w1,c.w2,c.v1,c.v2,c.s⟩ ?_ ?_;rfl;kernel_rfl;rfl;decide;rfl;rfl;intro v0 z a0;have a4:=hY z;have a5:=hY a0;clear z a0) |(refine Qan [.int .i64 0,.bool false,.int .i64 0,.string ⟨#[]⟩,.slice none 0 0,.slice none 0 0] ?_ ?_ ?_ hg a4.out a5.out 12 ?_ ?_ (Mu.mk m.kd ByteArray.empty m.tk m.i m.had m.was m.has zeroV m.l) ⟨c.w1,c.w2,Sl.none,Sl.none,c.s⟩ ?_ ?_;rfl;kernel_rfl;rfl;decide;rfl;rfl;intro v1 U N;have a9:=hY U;have a2:=hY N;clear U N) |(refine Qak rfl (.tmp 3) rfl W0.heap.size 0 rfl (Mu.mk m.kd ByteArray.empty m.tk m.i m.had m.was m.has zeroV m.l) ⟨c.w1,c.w2,Sl.none,Sl.none,c.s⟩ (fG a2.out) ?_));refine(QaU _ (Mu.mk m.kd ByteArray.empty m.tk m.i m.had m.was m.has zeroV m.l) ⟨c.w1,c.w2,Sl.none,Sl.none,c.s⟩).mono ?_;rintro e W7 ⟨rfl,a1⟩;have a6:=hY (a9.out.trans a1);clear a1;go_wp2_with fail;go_ret;exact⟨by rw[HR.o]<;>rfl,a6.o⟩
theorem QnA(w:World)(m:Mu)(c:MuS)(hk:m.kd=5)(hh:m.had=false)(hz:Qel m.was=true):Calls prog 118 #[QaG m c] w λe w'=>e=.returned (.bool (!Qal m))/\Ext w w':=by
 have hr:(!Qal m)=(!QaH (Mu.mk m.kd ByteArray.empty m.tk m.i m.had m.was m.has zeroV m.l)):=by
  obtain⟨c1,k',c2,i',b8,b7,c0,v',l'⟩:=m;simp only[Mu.kd,Mu.had,Mu.was,Mu.has,Mu.v]at hk hh hz;simp[Qal,Qbv,QaH,Mu.kd,hk,hh,Qa4,Mu.k,Mu.tk,Mu.i,Mu.had,Mu.was,Mu.has,Mu.v,Mu.l,hz]
 have HR:=hY hr;have HH:=hY hh;have HZ:=hY hz;have e1:(m.kd==1)=false:=by simp[hk]
 have e5:(m.kd==5)=true:=by simp[hk]
 clear hr hk hh hz;go_in;go_upto_region 1 with fail;generalize Y:World.alloc _ _=W0;obtain⟨D,J,a4⟩:=Qaz (m:=m) (c:=c) Y;have a9:=hY D;have I:=hY J;have c4:=J.c4;rw[HH.o]at c4;clear Y D J a4;obtain⟨c5,c6,c7,c8,c9,a6⟩:=I.o.QnS;go_wp2_with fail;refine(QaD _ m.was c.w1 c.w2).mono ?_;rintro e R ⟨rfl,z⟩;have a1:=hY (a9.o.trans z);have X:=hY (I.o.ext z);clear z c4 c5 c6 c7 c8 c9 a6;rw[HZ.o];go_upto_region 4 with(first |(refine Qak rfl (.tmp 1) rfl w.heap.size 0 rfl m c X.o ?_) |(refine Qa0 rfl rfl rfl m c (w0:=R) (b:=R) rfl ((fv R).alloc _ _) (fA R _ _) rfl rfl rfl ?_;intro w5 N Z;have b6:=hY (a1.o.trans N);have I:=hY (fI X.o N);have b5:=hY Z;clear N Z));have d0:=I.o.kind;have hg:w.heap.size<=R.heap.size:=a1.o.size;go_wp2_with(first |(refine Qan [.string ⟨#[]⟩] ?_ ?_ ?_ hg b6.o b5.o 1 ?_ ?_ (Mu.mk m.kd ByteArray.empty m.tk m.i m.had m.was m.has m.v m.l) ⟨c.w1,c.w2,c.v1,c.v2,c.s⟩ ?_ ?_;rfl;kernel_rfl;rfl;decide;rfl;rfl;intro v0 D a0;have a5:=hY D;have b0:=hY a0;clear D a0) |(refine Qan [.int .i64 0,.bool false,.int .i64 0,.string ⟨#[]⟩,.slice none 0 0,.slice none 0 0] ?_ ?_ ?_ hg a5.out b0.out 12 ?_ ?_ (Mu.mk m.kd ByteArray.empty m.tk m.i m.had m.was m.has zeroV m.l) ⟨c.w1,c.w2,Sl.none,Sl.none,c.s⟩ ?_ ?_;rfl;kernel_rfl;rfl;decide;rfl;rfl;intro v1 z U;have b4:=hY z;have a3:=hY U;clear z U) |(refine Qak rfl (.tmp 3) rfl R.heap.size 0 rfl (Mu.mk m.kd ByteArray.empty m.tk m.i m.had m.was m.has zeroV m.l) ⟨c.w1,c.w2,Sl.none,Sl.none,c.s⟩ (fG a3.out) ?_));refine(QaU _ (Mu.mk m.kd ByteArray.empty m.tk m.i m.had m.was m.has zeroV m.l) ⟨c.w1,c.w2,Sl.none,Sl.none,c.s⟩).mono ?_;rintro e W7 ⟨rfl,a2⟩;have b3:=hY (b4.out.trans a2);clear a2;go_wp2_with fail;go_ret;exact⟨by rw[HR.o]<;>rfl,b3.o⟩
theorem Qnv(w:World)(m:Mu)(c:MuS)(N:m.kd=2)(hh:m.had=true):Calls prog 118 #[QaG m c] w λe w'=>e=.returned (.bool (!Qal m))/\Ext w w':=by
 have hr:(!Qal m)=(!QaH (Mu.mk m.kd ByteArray.empty m.tk m.i m.had m.was m.has m.v m.l)):=by
  obtain⟨b3,k',b4,i',a9,a6,b0,v',l'⟩:=m;simp only[Mu.kd,Mu.had,Mu.was,Mu.has,Mu.v]at N hh;simp[Qal,Qbv,QaH,Mu.kd,N,hh,Qa4,Mu.k,Mu.tk,Mu.i,Mu.had,Mu.was,Mu.has,Mu.v,Mu.l]
 have HR:=hY hr;have HH:=hY hh;have e1:(m.kd==1)=false:=by simp[N]
 have e5:(m.kd==5)=false:=by simp[N]
 have e2:(m.kd==2)=true:=by simp[N]
 clear hr N hh;go_in;go_upto_region 1 with fail;generalize U:World.alloc _ _=W0;obtain⟨z,J,a0⟩:=Qaz (m:=m) (c:=c) U;have R:=hY z;have D:=hY J;have c4:=J.c4;rw[HH.o]at c4;clear U z J a0;go_upto_region 4 with(first |(refine Qak rfl (.tmp 1) rfl w.heap.size 0 rfl m c D.o ?_) |(refine Qa0 rfl rfl rfl m c (w0:=W0) (b:=W0) rfl ((fv W0).alloc _ _) (fA W0 _ _) rfl rfl rfl ?_;intro w5 I X;have a2:=hY (R.o.trans I);have D:=hY (fI D.o I);have a5:=hY X;clear I X));have d0:=D.o.kind;have hg:w.heap.size<=W0.heap.size:=R.o.size;go_wp2_with(first |(refine Qan [.string ⟨#[]⟩] ?_ ?_ ?_ hg a2.o a5.o 1 ?_ ?_ (Mu.mk m.kd ByteArray.empty m.tk m.i m.had m.was m.has m.v m.l) ⟨c.w1,c.w2,c.v1,c.v2,c.s⟩ ?_ ?_;rfl;kernel_rfl;rfl;decide;rfl;rfl;intro v0 z Y;have a1:=hY z;have a3:=hY Y;clear z Y) |(refine Qak rfl (.tmp 3) rfl W0.heap.size 0 rfl (Mu.mk m.kd ByteArray.empty m.tk m.i m.had m.was m.has m.v m.l) ⟨c.w1,c.w2,c.v1,c.v2,c.s⟩ (fG a3.out) ?_));refine(QaU _ (Mu.mk m.kd ByteArray.empty m.tk m.i m.had m.was m.has m.v m.l) ⟨c.w1,c.w2,c.v1,c.v2,c.s⟩).mono ?_;rintro e W7 ⟨rfl,Z⟩;have a4:=hY (a1.out.trans Z);clear Z;go_wp2_with fail;go_ret;exact⟨by rw[HR.o]<;>rfl,a4.o⟩
theorem Qnw(w:World)(m:Mu)(c:MuS)(U:m.kd=2)(hh:m.had=false)(hz:Qel m.was=true):Calls prog 118 #[QaG m c] w λe w'=>e=.returned (.bool (!Qal m))/\Ext w w':=by
 have hr:(!Qal m)=(!QaH (Mu.mk m.kd ByteArray.empty m.tk m.i m.had m.was m.has m.v m.l)):=by
  obtain⟨b8,k',c0,i',b6,b5,b7,v',l'⟩:=m;simp only[Mu.kd,Mu.had,Mu.was,Mu.has,Mu.v]at U hh hz;simp[Qal,Qbv,QaH,Mu.kd,U,hh,Qa4,Mu.k,Mu.tk,Mu.i,Mu.had,Mu.was,Mu.has,Mu.v,Mu.l,hz]
 have HR:=hY hr;have HH:=hY hh;have HZ:=hY hz;have e1:(m.kd==1)=false:=by simp[U]
 have e5:(m.kd==5)=false:=by simp[U]
 have e2:(m.kd==2)=true:=by simp[U]
 clear hr U hh hz;go_in;go_upto_region 1 with fail;generalize Y:World.alloc _ _=W0;obtain⟨z,I,a3⟩:=Qaz (m:=m) (c:=c) Y;have a6:=hY z;have D:=hY I;have c4:=I.c4;rw[HH.o]at c4;clear Y z I a3;obtain⟨c5,c6,c7,c8,c9,a5⟩:=D.o.QnS;go_wp2_with fail;refine(QaD _ m.was c.w1 c.w2).mono ?_;rintro e R ⟨rfl,J⟩;have a1:=hY (a6.o.trans J);have X:=hY (D.o.ext J);clear J c4 c5 c6 c7 c8 c9 a5;rw[HZ.o];go_upto_region 4 with(first |(refine Qak rfl (.tmp 1) rfl w.heap.size 0 rfl m c X.o ?_) |(refine Qa0 rfl rfl rfl m c (w0:=R) (b:=R) rfl ((fv R).alloc _ _) (fA R _ _) rfl rfl rfl ?_;intro w5 N Z;have b4:=hY (a1.o.trans N);have D:=hY (fI X.o N);have b3:=hY Z;clear N Z));have d0:=D.o.kind;have hg:w.heap.size<=R.heap.size:=a1.o.size;go_wp2_with(first |(refine Qan [.string ⟨#[]⟩] ?_ ?_ ?_ hg b4.o b3.o 1 ?_ ?_ (Mu.mk m.kd ByteArray.empty m.tk m.i m.had m.was m.has m.v m.l) ⟨c.w1,c.w2,c.v1,c.v2,c.s⟩ ?_ ?_;rfl;kernel_rfl;rfl;decide;rfl;rfl;intro v0 z a0;have a4:=hY z;have a9:=hY a0;clear z a0) |(refine Qak rfl (.tmp 3) rfl R.heap.size 0 rfl (Mu.mk m.kd ByteArray.empty m.tk m.i m.had m.was m.has m.v m.l) ⟨c.w1,c.w2,c.v1,c.v2,c.s⟩ (fG a9.out) ?_));refine(QaU _ (Mu.mk m.kd ByteArray.empty m.tk m.i m.had m.was m.has m.v m.l) ⟨c.w1,c.w2,c.v1,c.v2,c.s⟩).mono ?_;rintro e W7 ⟨rfl,a2⟩;have b0:=hY (a4.out.trans a2);clear a2;go_wp2_with fail;go_ret;exact⟨by rw[HR.o]<;>rfl,b0.o⟩
theorem Qnx(w:World)(m:Mu)(c:MuS)(J:m.kd=3)(hh:m.had=true):Calls prog 118 #[QaG m c] w λe w'=>e=.returned (.bool (!Qal m))/\Ext w w':=by
 have hr:(!Qal m)=(!QaH (Mu.mk m.kd ByteArray.empty m.tk 0 m.had m.was m.has m.v m.l)):=by
  obtain⟨b7,k',b8,i',b5,b4,b6,v',l'⟩:=m;simp only[Mu.kd,Mu.had,Mu.was,Mu.has,Mu.v]at J hh;simp[Qal,Qbv,QaH,Mu.kd,J,hh,Qa4,Mu.k,Mu.tk,Mu.i,Mu.had,Mu.was,Mu.has,Mu.v,Mu.l]
 have HR:=hY hr;have HH:=hY hh;have e1:(m.kd==1)=false:=by simp[J]
 have e5:(m.kd==5)=false:=by simp[J]
 have e2:(m.kd==2)=false:=by simp[J]
 have e3:(m.kd==3)=true:=by simp[J]
 clear hr J hh;go_in;go_upto_region 1 with fail;generalize Y:World.alloc _ _=W0;obtain⟨z,I,a4⟩:=Qaz (m:=m) (c:=c) Y;have U:=hY z;have D:=hY I;have c4:=I.c4;rw[HH.o]at c4;clear Y z I a4;go_upto_region 4 with(first |(refine Qak rfl (.tmp 1) rfl w.heap.size 0 rfl m c D.o ?_) |(refine Qa0 rfl rfl rfl m c (w0:=W0) (b:=W0) rfl ((fv W0).alloc _ _) (fA W0 _ _) rfl rfl rfl ?_;intro w5 N Z;have b3:=hY (U.o.trans N);have D:=hY (fI D.o N);have b0:=hY Z;clear N Z));have d0:=D.o.kind;have hg:w.heap.size<=W0.heap.size:=U.o.size;go_wp2_with(first |(refine Qan [.string ⟨#[]⟩] ?_ ?_ ?_ hg b3.o b0.o 1 ?_ ?_ (Mu.mk m.kd ByteArray.empty m.tk m.i m.had m.was m.has m.v m.l) ⟨c.w1,c.w2,c.v1,c.v2,c.s⟩ ?_ ?_;rfl;kernel_rfl;rfl;decide;rfl;rfl;intro v0 z a0;have a3:=hY z;have a5:=hY a0;clear z a0) |(refine Qan [.int .i64 0] ?_ ?_ ?_ hg a3.out a5.out 3 ?_ ?_ (Mu.mk m.kd ByteArray.empty m.tk 0 m.had m.was m.has m.v m.l) ⟨c.w1,c.w2,c.v1,c.v2,c.s⟩ ?_ ?_;rfl;kernel_rfl;rfl;decide;rfl;rfl;intro v1 X R;have a9:=hY X;have a2:=hY R;clear X R) |(refine Qak rfl (.tmp 3) rfl W0.heap.size 0 rfl (Mu.mk m.kd ByteArray.empty m.tk 0 m.had m.was m.has m.v m.l) ⟨c.w1,c.w2,c.v1,c.v2,c.s⟩ (fG a2.out) ?_));refine(QaU _ (Mu.mk m.kd ByteArray.empty m.tk 0 m.had m.was m.has m.v m.l) ⟨c.w1,c.w2,c.v1,c.v2,c.s⟩).mono ?_;rintro e W7 ⟨rfl,a1⟩;have a6:=hY (a9.out.trans a1);clear a1;go_wp2_with fail;go_ret;exact⟨by rw[HR.o]<;>rfl,a6.o⟩
theorem Qny(w:World)(m:Mu)(c:MuS)(N:m.kd=3)(hh:m.had=false)(hz:Qel m.was=true):Calls prog 118 #[QaG m c] w λe w'=>e=.returned (.bool (!Qal m))/\Ext w w':=by
 have hr:(!Qal m)=(!QaH (Mu.mk m.kd ByteArray.empty m.tk 0 m.had m.was m.has m.v m.l)):=by
  obtain⟨c2,k',c3,i',c0,b8,c1,v',l'⟩:=m;simp only[Mu.kd,Mu.had,Mu.was,Mu.has,Mu.v]at N hh hz;simp[Qal,Qbv,QaH,Mu.kd,N,hh,Qa4,Mu.k,Mu.tk,Mu.i,Mu.had,Mu.was,Mu.has,Mu.v,Mu.l,hz]
 have HR:=hY hr;have HH:=hY hh;have HZ:=hY hz;have e1:(m.kd==1)=false:=by simp[N]
 have e5:(m.kd==5)=false:=by simp[N]
 have e2:(m.kd==2)=false:=by simp[N]
 have e3:(m.kd==3)=true:=by simp[N]
 clear hr N hh hz;go_in;go_upto_region 1 with fail;generalize Z:World.alloc _ _=W0;obtain⟨D,J,a6⟩:=Qaz (m:=m) (c:=c) Z;have b0:=hY D;have I:=hY J;have c4:=J.c4;rw[HH.o]at c4;clear Z D J a6;obtain⟨c5,c6,c7,c8,c9,a9⟩:=I.o.QnS;go_wp2_with fail;refine(QaD _ m.was c.w1 c.w2).mono ?_;rintro e U ⟨rfl,z⟩;have a2:=hY (b0.o.trans z);have Y:=hY (I.o.ext z);clear z c4 c5 c6 c7 c8 c9 a9;rw[HZ.o];go_upto_region 4 with(first |(refine Qak rfl (.tmp 1) rfl w.heap.size 0 rfl m c Y.o ?_) |(refine Qa0 rfl rfl rfl m c (w0:=U) (b:=U) rfl ((fv U).alloc _ _) (fA U _ _) rfl rfl rfl ?_;intro w5 R a0;have b7:=hY (a2.o.trans R);have I:=hY (fI Y.o R);have b6:=hY a0;clear R a0));have d0:=I.o.kind;have hg:w.heap.size<=U.heap.size:=a2.o.size;go_wp2_with(first |(refine Qan [.string ⟨#[]⟩] ?_ ?_ ?_ hg b7.o b6.o 1 ?_ ?_ (Mu.mk m.kd ByteArray.empty m.tk m.i m.had m.was m.has m.v m.l) ⟨c.w1,c.w2,c.v1,c.v2,c.s⟩ ?_ ?_;rfl;kernel_rfl;rfl;decide;rfl;rfl;intro v0 D a1;have a5:=hY D;have b3:=hY a1;clear D a1) |(refine Qan [.int .i64 0] ?_ ?_ ?_ hg a5.out b3.out 3 ?_ ?_ (Mu.mk m.kd ByteArray.empty m.tk 0 m.had m.was m.has m.v m.l) ⟨c.w1,c.w2,c.v1,c.v2,c.s⟩ ?_ ?_;rfl;kernel_rfl;rfl;decide;rfl;rfl;intro v1 z X;have b5:=hY z;have a4:=hY X;clear z X) |(refine Qak rfl (.tmp 3) rfl U.heap.size 0 rfl (Mu.mk m.kd ByteArray.empty m.tk 0 m.had m.was m.has m.v m.l) ⟨c.w1,c.w2,c.v1,c.v2,c.s⟩ (fG a4.out) ?_));refine(QaU _ (Mu.mk m.kd ByteArray.empty m.tk 0 m.had m.was m.has m.v m.l) ⟨c.w1,c.w2,c.v1,c.v2,c.s⟩).mono ?_;rintro e W7 ⟨rfl,a3⟩;have b4:=hY (b5.out.trans a3);clear a3;go_wp2_with fail;go_ret;exact⟨by rw[HR.o]<;>rfl,b4.o⟩
theorem Qlb(w:World)(m:Mu)(c:MuS)(I:m.kd=4)(hh:m.had=true)(hs:m.has=true):Calls prog 118 #[QaG m c] w λe w'=>e=.returned (.bool (!Qal m))/\Ext w w':=by
 have hr:(!Qal m)=(!QaH (Mu.mk m.kd ByteArray.empty m.tk m.i false zeroV false zeroV m.l)):=by
  obtain⟨d7,k',d8,i',d5,d4,d6,v',l'⟩:=m;simp only[Mu.kd,Mu.had,Mu.was,Mu.has,Mu.v]at I hh hs;simp[Qal,Qbv,QaH,Mu.kd,I,hh,Qa4,Mu.k,Mu.tk,Mu.i,Mu.had,Mu.was,Mu.has,Mu.v,Mu.l,hs]
 have HR:=hY hr;have HH:=hY hh;have HS:=hY hs;have e1:(m.kd==1)=false:=by simp[I]
 have e5:(m.kd==5)=false:=by simp[I]
 have e2:(m.kd==2)=false:=by simp[I]
 have e3:(m.kd==3)=false:=by simp[I]
 have e4:(m.kd==4)=true:=by simp[I]
 clear hr I hh hs;go_in;go_upto_region 1 with fail;generalize a3:World.alloc _ _=W0;obtain⟨D,J,c1⟩:=Qaz (m:=m) (c:=c) a3;have a0:=hY D;have z:=hY J;have c4:=J.c4;rw[HH.o]at c4;clear a3 D J c1;go_upto_region 4 with(first |(refine Qak rfl (.tmp 1) rfl w.heap.size 0 rfl m c z.o ?_) |(refine Qa0 rfl rfl rfl m c (w0:=W0) (b:=W0) rfl ((fv W0).alloc _ _) (fA W0 _ _) rfl rfl rfl ?_;intro w5 N a4;have c9:=hY (a0.o.trans N);have z:=hY (fI z.o N);have c8:=hY a4;clear N a4));have d0:=z.o.kind;have U:w.heap.size<=W0.heap.size:=a0.o.size;have b7:=z.o.c11;rw[HS.o]at b7;go_upto_region 16 with fail;go_wp2_with(first |(refine Qan [.string ⟨#[]⟩] ?_ ?_ ?_ U c9.o c8.o 1 ?_ ?_ (Mu.mk m.kd ByteArray.empty m.tk m.i m.had m.was m.has m.v m.l) ⟨c.w1,c.w2,c.v1,c.v2,c.s⟩ ?_ ?_;rfl;kernel_rfl;rfl;decide;rfl;rfl;intro v0 D a9;have b8:=hY D;have c2:=hY a9;clear D a9) |(refine Qan [.bool false] ?_ ?_ ?_ U b8.out c2.out 4 ?_ ?_ (Mu.mk m.kd ByteArray.empty m.tk m.i false m.was m.has m.v m.l) ⟨c.w1,c.w2,c.v1,c.v2,c.s⟩ ?_ ?_;rfl;kernel_rfl;rfl;decide;rfl;rfl;intro v1 a1 Y;have c6:=hY a1;have b3:=hY Y;clear a1 Y) |(refine Qan [.int .i64 0,.bool false,.int .i64 0,.string ⟨#[]⟩,.slice none 0 0,.slice none 0 0] ?_ ?_ ?_ U c6.out b3.out 5 ?_ ?_ (Mu.mk m.kd ByteArray.empty m.tk m.i false zeroV m.has m.v m.l) ⟨Sl.none,Sl.none,c.v1,c.v2,c.s⟩ ?_ ?_;rfl;kernel_rfl;rfl;decide;rfl;rfl;intro v2 Z X;have c0:=hY Z;have c7:=hY X;clear Z X) |(refine Qan [.bool false] ?_ ?_ ?_ U c0.out c7.out 11 ?_ ?_ (Mu.mk m.kd ByteArray.empty m.tk m.i false zeroV false m.v m.l) ⟨Sl.none,Sl.none,c.v1,c.v2,c.s⟩ ?_ ?_;rfl;kernel_rfl;rfl;decide;rfl;rfl;intro v3 a2 a5;have b5:=hY a2;have b4:=hY a5;clear a2 a5) |(refine Qan [.int .i64 0,.bool false,.int .i64 0,.string ⟨#[]⟩,.slice none 0 0,.slice none 0 0] ?_ ?_ ?_ U b5.out b4.out 12 ?_ ?_ (Mu.mk m.kd ByteArray.empty m.tk m.i false zeroV false zeroV m.l) ⟨Sl.none,Sl.none,Sl.none,Sl.none,c.s⟩ ?_ ?_;rfl;kernel_rfl;rfl;decide;rfl;rfl;intro v4 R a6;have d3:=hY R;have b6:=hY a6;clear R a6) |(refine Qak rfl (.tmp 3) rfl W0.heap.size 0 rfl (Mu.mk m.kd ByteArray.empty m.tk m.i false zeroV false zeroV m.l) ⟨Sl.none,Sl.none,Sl.none,Sl.none,c.s⟩ (fG b6.out) ?_));refine(QaU _ (Mu.mk m.kd ByteArray.empty m.tk m.i false zeroV false zeroV m.l) ⟨Sl.none,Sl.none,Sl.none,Sl.none,c.s⟩).mono ?_;rintro e W7 ⟨rfl,b0⟩;have c3:=hY (d3.out.trans b0);clear b0;go_wp2_with fail;go_ret;exact⟨by rw[HR.o]<;>rfl,c3.o⟩
theorem Qlc(w:World)(m:Mu)(c:MuS)(I:m.kd=4)(hh:m.had=true)(hs:m.has=false)(hv:Qel m.v=true):Calls prog 118 #[QaG m c] w λe w'=>e=.returned (.bool (!Qal m))/\Ext w w':=by
 have hr:(!Qal m)=(!QaH (Mu.mk m.kd ByteArray.empty m.tk m.i false zeroV false zeroV m.l)):=by
  obtain⟨f2,k',f3,i',f0,e8,f1,v',l'⟩:=m;simp only[Mu.kd,Mu.had,Mu.was,Mu.has,Mu.v]at I hh hs hv;simp[Qal,Qbv,QaH,Mu.kd,I,hh,Qa4,Mu.k,Mu.tk,Mu.i,Mu.had,Mu.was,Mu.has,Mu.v,Mu.l,hs,hv]
 have HR:=hY hr;have HH:=hY hh;have HS:=hY hs;have HV:=hY hv;have e1:(m.kd==1)=false:=by simp[I]
 have e5:(m.kd==5)=false:=by simp[I]
 have e2:(m.kd==2)=false:=by simp[I]
 have e3:(m.kd==3)=false:=by simp[I]
 have e4:(m.kd==4)=true:=by simp[I]
 clear hr I hh hs hv;go_in;go_upto_region 1 with fail;generalize Z:World.alloc _ _=W0;obtain⟨D,N,b8⟩:=Qaz (m:=m) (c:=c) Z;have Y:=hY D;have z:=hY N;have c4:=N.c4;rw[HH.o]at c4;clear Z D N b8;go_upto_region 4 with(first |(refine Qak rfl (.tmp 1) rfl w.heap.size 0 rfl m c z.o ?_) |(refine Qa0 rfl rfl rfl m c (w0:=W0) (b:=W0) rfl ((fv W0).alloc _ _) (fA W0 _ _) rfl rfl rfl ?_;intro w5 R a0;have d3:=hY (Y.o.trans R);have z:=hY (fI z.o R);have e7:=hY a0;clear R a0));have d0:=z.o.kind;have hg:w.heap.size<=W0.heap.size:=Y.o.size;have a4:=z.o.c11;rw[HS.o]at a4;obtain⟨d6,d8,c6,b4,d7,e0⟩:=z.o.v6;go_wp2_with fail;refine(QaD _ m.v c.v1 c.v2).mono ?_;rintro e W6 ⟨rfl,J⟩;rw[HV.o];have c2:=hY (e7.o.ext J);have c9:=hY (d3.o.trans J);clear J d0 a4 d6 d8 c6 b4 d7 e0;go_wp2_with(first |(refine Qan [.string ⟨#[]⟩] ?_ ?_ ?_ hg c9.o c2.o 1 ?_ ?_ (Mu.mk m.kd ByteArray.empty m.tk m.i m.had m.was m.has m.v m.l) ⟨c.w1,c.w2,c.v1,c.v2,c.s⟩ ?_ ?_;rfl;kernel_rfl;rfl;decide;rfl;rfl;intro v0 D a1;have c0:=hY D;have c3:=hY a1;clear D a1) |(refine Qan [.bool false] ?_ ?_ ?_ hg c0.out c3.out 4 ?_ ?_ (Mu.mk m.kd ByteArray.empty m.tk m.i false m.was m.has m.v m.l) ⟨c.w1,c.w2,c.v1,c.v2,c.s⟩ ?_ ?_;rfl;kernel_rfl;rfl;decide;rfl;rfl;intro v1 a6 a5;have c8:=hY a6;have d5:=hY a5;clear a6 a5) |(refine Qan [.int .i64 0,.bool false,.int .i64 0,.string ⟨#[]⟩,.slice none 0 0,.slice none 0 0] ?_ ?_ ?_ hg c8.out d5.out 5 ?_ ?_ (Mu.mk m.kd ByteArray.empty m.tk m.i false zeroV m.has m.v m.l) ⟨Sl.none,Sl.none,c.v1,c.v2,c.s⟩ ?_ ?_;rfl;kernel_rfl;rfl;decide;rfl;rfl;intro v2 X U;have c1:=hY X;have e6:=hY U;clear X U) |(refine Qan [.bool false] ?_ ?_ ?_ hg c1.out e6.out 11 ?_ ?_ (Mu.mk m.kd ByteArray.empty m.tk m.i false zeroV false m.v m.l) ⟨Sl.none,Sl.none,c.v1,c.v2,c.s⟩ ?_ ?_;rfl;kernel_rfl;rfl;decide;rfl;rfl;intro v3 a9 b0;have b6:=hY a9;have b5:=hY b0;clear a9 b0) |(refine Qan [.int .i64 0,.bool false,.int .i64 0,.string ⟨#[]⟩,.slice none 0 0,.slice none 0 0] ?_ ?_ ?_ hg b6.out b5.out 12 ?_ ?_ (Mu.mk m.kd ByteArray.empty m.tk m.i false zeroV false zeroV m.l) ⟨Sl.none,Sl.none,Sl.none,Sl.none,c.s⟩ ?_ ?_;rfl;kernel_rfl;rfl;decide;rfl;rfl;intro v4 a3 b3;have d4:=hY a3;have b7:=hY b3;clear a3 b3) |(refine Qak rfl (.tmp 3) rfl W0.heap.size 0 rfl (Mu.mk m.kd ByteArray.empty m.tk m.i false zeroV false zeroV m.l) ⟨Sl.none,Sl.none,Sl.none,Sl.none,c.s⟩ (fG b7.out) ?_));refine(QaU _ (Mu.mk m.kd ByteArray.empty m.tk m.i false zeroV false zeroV m.l) ⟨Sl.none,Sl.none,Sl.none,Sl.none,c.s⟩).mono ?_;rintro e W7 ⟨rfl,a2⟩;have c7:=hY (d4.out.trans a2);clear a2;go_wp2_with fail;go_ret;exact⟨by rw[HR.o]<;>rfl,c7.o⟩
theorem Qld(w:World)(m:Mu)(c:MuS)(D:m.kd=4)(Z:m.had=true)(hs:m.has=false)(hv:Qel m.v=false):Calls prog 118 #[QaG m c] w λe w'=>e=.returned (.bool (!Qal m))/\Ext w w':=by
 have hr:(!Qal m)=true:=by
  obtain⟨b0,k',b3,i',a5,a4,a6,v',l'⟩:=m;simp only[Mu.kd,Mu.had,Mu.was,Mu.has,Mu.v]at D Z hs hv;simp[Qal,Qbv,QaH,Mu.kd,D,Z,Qa4,Mu.k,Mu.tk,Mu.i,Mu.had,Mu.was,Mu.has,Mu.v,Mu.l,hs,hv]
 have HR:=hY hr;have HH:=hY Z;have HS:=hY hs;have HV:=hY hv;have e1:(m.kd==1)=false:=by simp[D]
 have e5:(m.kd==5)=false:=by simp[D]
 have e2:(m.kd==2)=false:=by simp[D]
 have e3:(m.kd==3)=false:=by simp[D]
 have e4:(m.kd==4)=true:=by simp[D]
 clear hr D Z hs hv;go_in;go_upto_region 1 with fail;generalize X:World.alloc _ _=W0;obtain⟨U,I,a1⟩:=Qaz (m:=m) (c:=c) X;have R:=hY U;have z:=hY I;have c4:=I.c4;rw[HH.o]at c4;clear X U I a1;go_upto_region 4 with(first |(refine Qak rfl (.tmp 1) rfl w.heap.size 0 rfl m c z.o ?_) |(refine Qa0 rfl rfl rfl m c (w0:=W0) (b:=W0) rfl ((fv W0).alloc _ _) (fA W0 _ _) rfl rfl rfl ?_;intro w5 J Y;have a3:=hY (R.o.trans J);have z:=hY (fI z.o J);have c0:=hY Y;clear J Y));have d0:=z.o.kind;have hg:w.heap.size<=W0.heap.size:=R.o.size;have a0:=z.o.c11;rw[HS.o]at a0;obtain⟨b4,b7,b5,a9,b6,b8⟩:=z.o.v6;go_wp2_with fail;refine(QaD _ m.v c.v1 c.v2).mono ?_;rintro e W6 ⟨rfl,N⟩;rw[HV.o];have a2:=hY (a3.o.trans N);clear N;go_wp2_with fail;go_ret;exact⟨by rw[HR.o]<;>rfl,a2.o⟩
theorem Qle(w:World)(m:Mu)(c:MuS)(J:m.kd=4)(hh:m.had=false)(hz:Qel m.was=true)(hs:m.has=true):Calls prog 118 #[QaG m c] w λe w'=>e=.returned (.bool (!Qal m))/\Ext w w':=by
 have hr:(!Qal m)=(!QaH (Mu.mk m.kd ByteArray.empty m.tk m.i false zeroV false zeroV m.l)):=by
  obtain⟨f1,k',f2,i',e8,e7,f0,v',l'⟩:=m;simp only[Mu.kd,Mu.had,Mu.was,Mu.has,Mu.v]at J hh hz hs;simp[Qal,Qbv,QaH,Mu.kd,J,hh,Qa4,Mu.k,Mu.tk,Mu.i,Mu.had,Mu.was,Mu.has,Mu.v,Mu.l,hz,hs]
 have HR:=hY hr;have HH:=hY hh;have HS:=hY hs;have HZ:=hY hz;have e1:(m.kd==1)=false:=by simp[J]
 have e5:(m.kd==5)=false:=by simp[J]
 have e2:(m.kd==2)=false:=by simp[J]
 have e3:(m.kd==3)=false:=by simp[J]
 have e4:(m.kd==4)=true:=by simp[J]
 clear hr J hh hz hs;go_in;go_upto_region 1 with fail;generalize a0:World.alloc _ _=W0;obtain⟨I,N,b7⟩:=Qaz (m:=m) (c:=c) a0;have c1:=hY I;have D:=hY N;have c4:=N.c4;rw[HH.o]at c4;clear a0 I N b7;obtain⟨c5,c6,c7,c8,c9,d8⟩:=D.o.QnS;go_wp2_with fail;refine(QaD _ m.was c.w1 c.w2).mono ?_;rintro e U ⟨rfl,z⟩;have b3:=hY (c1.o.trans z);have Y:=hY (D.o.ext z);clear z c4 c5 c6 c7 c8 c9 d8;rw[HZ.o];go_upto_region 4 with(first |(refine Qak rfl (.tmp 1) rfl w.heap.size 0 rfl m c Y.o ?_) |(refine Qa0 rfl rfl rfl m c (w0:=U) (b:=U) rfl ((fv U).alloc _ _) (fA U _ _) rfl rfl rfl ?_;intro w5 R a1;have d4:=hY (b3.o.trans R);have D:=hY (fI Y.o R);have e6:=hY a1;clear R a1));have d0:=D.o.kind;have hg:w.heap.size<=U.heap.size:=b3.o.size;have d7:=D.o.c11;rw[HS.o]at d7;go_upto_region 16 with fail;go_wp2_with(first |(refine Qan [.string ⟨#[]⟩] ?_ ?_ ?_ hg d4.o e6.o 1 ?_ ?_ (Mu.mk m.kd ByteArray.empty m.tk m.i m.had m.was m.has m.v m.l) ⟨c.w1,c.w2,c.v1,c.v2,c.s⟩ ?_ ?_;rfl;kernel_rfl;rfl;decide;rfl;rfl;intro v0 I a2;have b8:=hY I;have c2:=hY a2;clear I a2) |(refine Qan [.bool false] ?_ ?_ ?_ hg b8.out c2.out 4 ?_ ?_ (Mu.mk m.kd ByteArray.empty m.tk m.i false m.was m.has m.v m.l) ⟨c.w1,c.w2,c.v1,c.v2,c.s⟩ ?_ ?_;rfl;kernel_rfl;rfl;decide;rfl;rfl;intro v1 z a5;have d3:=hY z;have d6:=hY a5;clear z a5) |(refine Qan [.int .i64 0,.bool false,.int .i64 0,.string ⟨#[]⟩,.slice none 0 0,.slice none 0 0] ?_ ?_ ?_ hg d3.out d6.out 5 ?_ ?_ (Mu.mk m.kd ByteArray.empty m.tk m.i false zeroV m.has m.v m.l) ⟨Sl.none,Sl.none,c.v1,c.v2,c.s⟩ ?_ ?_;rfl;kernel_rfl;rfl;decide;rfl;rfl;intro v2 Z X;have c0:=hY Z;have e0:=hY X;clear Z X) |(refine Qan [.bool false] ?_ ?_ ?_ hg c0.out e0.out 11 ?_ ?_ (Mu.mk m.kd ByteArray.empty m.tk m.i false zeroV false m.v m.l) ⟨Sl.none,Sl.none,c.v1,c.v2,c.s⟩ ?_ ?_;rfl;kernel_rfl;rfl;decide;rfl;rfl;intro v3 a6 a9;have b5:=hY a6;have b4:=hY a9;clear a6 a9) |(refine Qan [.int .i64 0,.bool false,.int .i64 0,.string ⟨#[]⟩,.slice none 0 0,.slice none 0 0] ?_ ?_ ?_ hg b5.out b4.out 12 ?_ ?_ (Mu.mk m.kd ByteArray.empty m.tk m.i false zeroV false zeroV m.l) ⟨Sl.none,Sl.none,Sl.none,Sl.none,c.s⟩ ?_ ?_;rfl;kernel_rfl;rfl;decide;rfl;rfl;intro v4 a4 b0;have d5:=hY a4;have b6:=hY b0;clear a4 b0) |(refine Qak rfl (.tmp 3) rfl U.heap.size 0 rfl (Mu.mk m.kd ByteArray.empty m.tk m.i false zeroV false zeroV m.l) ⟨Sl.none,Sl.none,Sl.none,Sl.none,c.s⟩ (fG b6.out) ?_));refine(QaU _ (Mu.mk m.kd ByteArray.empty m.tk m.i false zeroV false zeroV m.l) ⟨Sl.none,Sl.none,Sl.none,Sl.none,c.s⟩).mono ?_;rintro e W7 ⟨rfl,a3⟩;have c3:=hY (d5.out.trans a3);clear a3;go_wp2_with fail;go_ret;exact⟨by rw[HR.o]<;>rfl,c3.o⟩
theorem Qlf(w:World)(m:Mu)(c:MuS)(J:m.kd=4)(hh:m.had=false)(hz:Qel m.was=true)(hs:m.has=false)(hv:Qel m.v=true):Calls prog 118 #[QaG m c] w λe w'=>e=.returned (.bool (!Qal m))/\Ext w w':=by
 have hr:(!Qal m)=(!QaH (Mu.mk m.kd ByteArray.empty m.tk m.i false zeroV false zeroV m.l)):=by
  obtain⟨g0,k',g3,i',f8,f7,f9,v',l'⟩:=m;simp only[Mu.kd,Mu.had,Mu.was,Mu.has,Mu.v]at J hh hz hs hv;simp[Qal,Qbv,QaH,Mu.kd,J,hh,Qa4,Mu.k,Mu.tk,Mu.i,Mu.had,Mu.was,Mu.has,Mu.v,Mu.l,hz,hs,hv]
 have HR:=hY hr;have HH:=hY hh;have HS:=hY hs;have HZ:=hY hz;have HV:=hY hv;have e1:(m.kd==1)=false:=by simp[J]
 have e5:(m.kd==5)=false:=by simp[J]
 have e2:(m.kd==2)=false:=by simp[J]
 have e3:(m.kd==3)=false:=by simp[J]
 have e4:(m.kd==4)=true:=by simp[J]
 clear hr J hh hz hs hv;go_in;go_upto_region 1 with fail;generalize a1:World.alloc _ _=W0;obtain⟨I,R,c1⟩:=Qaz (m:=m) (c:=c) a1;have d3:=hY I;have z:=hY R;have c4:=R.c4;rw[HH.o]at c4;clear a1 I R c1;obtain⟨c5,c6,c7,c8,c9,f0⟩:=z.o.QnS;go_wp2_with fail;refine(QaD _ m.was c.w1 c.w2).mono ?_;rintro e X ⟨rfl,D⟩;have b5:=hY (d3.o.trans D);have Z:=hY (z.o.ext D);clear D c4 c5 c6 c7 c8 c9 f0;rw[HZ.o];go_upto_region 4 with(first |(refine Qak rfl (.tmp 1) rfl w.heap.size 0 rfl m c Z.o ?_) |(refine Qa0 rfl rfl rfl m c (w0:=X) (b:=X) rfl ((fv X).alloc _ _) (fA X _ _) rfl rfl rfl ?_;intro w5 U a2;have e6:=hY (b5.o.trans U);have z:=hY (fI Z.o U);have f6:=hY a2;clear U a2));have d0:=z.o.kind;have hg:w.heap.size<=X.heap.size:=b5.o.size;have a6:=z.o.c11;rw[HS.o]at a6;obtain⟨f1,f3,d6,b6,f2,f4⟩:=z.o.v6;go_wp2_with fail;refine(QaD _ m.v c.v1 c.v2).mono ?_;rintro e W6 ⟨rfl,N⟩;rw[HV.o];have d4:=hY (f6.o.ext N);have e0:=hY (e6.o.trans N);clear N d0 a6 f1 f3 d6 b6 f2 f4;go_wp2_with(first |(refine Qan [.string ⟨#[]⟩] ?_ ?_ ?_ hg e0.o d4.o 1 ?_ ?_ (Mu.mk m.kd ByteArray.empty m.tk m.i m.had m.was m.has m.v m.l) ⟨c.w1,c.w2,c.v1,c.v2,c.s⟩ ?_ ?_;rfl;kernel_rfl;rfl;decide;rfl;rfl;intro v0 I a3;have c2:=hY I;have d5:=hY a3;clear I a3) |(refine Qan [.bool false] ?_ ?_ ?_ hg c2.out d5.out 4 ?_ ?_ (Mu.mk m.kd ByteArray.empty m.tk m.i false m.was m.has m.v m.l) ⟨c.w1,c.w2,c.v1,c.v2,c.s⟩ ?_ ?_;rfl;kernel_rfl;rfl;decide;rfl;rfl;intro v1 D a9;have d8:=hY D;have e8:=hY a9;clear D a9) |(refine Qan [.int .i64 0,.bool false,.int .i64 0,.string ⟨#[]⟩,.slice none 0 0,.slice none 0 0] ?_ ?_ ?_ hg d8.out e8.out 5 ?_ ?_ (Mu.mk m.kd ByteArray.empty m.tk m.i false zeroV m.has m.v m.l) ⟨Sl.none,Sl.none,c.v1,c.v2,c.s⟩ ?_ ?_;rfl;kernel_rfl;rfl;decide;rfl;rfl;intro v2 a0 Y;have c3:=hY a0;have f5:=hY Y;clear a0 Y) |(refine Qan [.bool false] ?_ ?_ ?_ hg c3.out f5.out 11 ?_ ?_ (Mu.mk m.kd ByteArray.empty m.tk m.i false zeroV false m.v m.l) ⟨Sl.none,Sl.none,c.v1,c.v2,c.s⟩ ?_ ?_;rfl;kernel_rfl;rfl;decide;rfl;rfl;intro v3 b0 b3;have b8:=hY b0;have b7:=hY b3;clear b0 b3) |(refine Qan [.int .i64 0,.bool false,.int .i64 0,.string ⟨#[]⟩,.slice none 0 0,.slice none 0 0] ?_ ?_ ?_ hg b8.out b7.out 12 ?_ ?_ (Mu.mk m.kd ByteArray.empty m.tk m.i false zeroV false zeroV m.l) ⟨Sl.none,Sl.none,Sl.none,Sl.none,c.s⟩ ?_ ?_;rfl;kernel_rfl;rfl;decide;rfl;rfl;intro v4 a5 b4;have e7:=hY a5;have c0:=hY b4;clear a5 b4) |(refine Qak rfl (.tmp 3) rfl X.heap.size 0 rfl (Mu.mk m.kd ByteArray.empty m.tk m.i false zeroV false zeroV m.l) ⟨Sl.none,Sl.none,Sl.none,Sl.none,c.s⟩ (fG c0.out) ?_));refine(QaU _ (Mu.mk m.kd ByteArray.empty m.tk m.i false zeroV false zeroV m.l) ⟨Sl.none,Sl.none,Sl.none,Sl.none,c.s⟩).mono ?_;rintro e W7 ⟨rfl,a4⟩;have d7:=hY (e7.out.trans a4);clear a4;go_wp2_with fail;go_ret;exact⟨by rw[HR.o]<;>rfl,d7.o⟩
theorem Qlg(w:World)(m:Mu)(c:MuS)(D:m.kd=4)(hh:m.had=false)(hz:Qel m.was=true)(hs:m.has=false)(hv:Qel m.v=false):Calls prog 118 #[QaG m c] w λe w'=>e=.returned (.bool (!Qal m))/\Ext w w':=by
 have hr:(!Qal m)=true:=by
  obtain⟨b6,k',b7,i',b3,b0,b4,v',l'⟩:=m;simp only[Mu.kd,Mu.had,Mu.was,Mu.has,Mu.v]at D hh hz hs hv;simp[Qal,Qbv,QaH,Mu.kd,D,hh,Qa4,Mu.k,Mu.tk,Mu.i,Mu.had,Mu.was,Mu.has,Mu.v,Mu.l,hz,hs,hv]
 have HR:=hY hr;have HH:=hY hh;have HS:=hY hs;have HZ:=hY hz;have HV:=hY hv;have e1:(m.kd==1)=false:=by simp[D]
 have e5:(m.kd==5)=false:=by simp[D]
 have e2:(m.kd==2)=false:=by simp[D]
 have e3:(m.kd==3)=false:=by simp[D]
 have e4:(m.kd==4)=true:=by simp[D]
 clear hr D hh hz hs hv;go_in;go_upto_region 1 with fail;generalize Z:World.alloc _ _=W0;obtain⟨Y,I,a3⟩:=Qaz (m:=m) (c:=c) Z;have a5:=hY Y;have z:=hY I;have c4:=I.c4;rw[HH.o]at c4;clear Z Y I a3;obtain⟨c5,c6,c7,c8,c9,a4⟩:=z.o.QnS;go_wp2_with fail;refine(QaD _ m.was c.w1 c.w2).mono ?_;rintro e R ⟨rfl,J⟩;have a1:=hY (a5.o.trans J);have X:=hY (z.o.ext J);clear J c4 c5 c6 c7 c8 c9 a4;rw[HZ.o];go_upto_region 4 with(first |(refine Qak rfl (.tmp 1) rfl w.heap.size 0 rfl m c X.o ?_) |(refine Qa0 rfl rfl rfl m c (w0:=R) (b:=R) rfl ((fv R).alloc _ _) (fA R _ _) rfl rfl rfl ?_;intro w5 N a0;have a9:=hY (a1.o.trans N);have z:=hY (fI X.o N);have d3:=hY a0;clear N a0));have d0:=z.o.kind;have hg:w.heap.size<=R.heap.size:=a1.o.size;have a2:=z.o.c11;rw[HS.o]at a2;obtain⟨b8,c2,c0,b5,c1,c3⟩:=z.o.v6;go_wp2_with fail;refine(QaD _ m.v c.v1 c.v2).mono ?_;rintro e W6 ⟨rfl,U⟩;rw[HV.o];have a6:=hY (a9.o.trans U);clear U;go_wp2_with fail;go_ret;exact⟨by rw[HR.o]<;>rfl,a6.o⟩
theorem QnB(w:World)(m:Mu)(c:MuS)(I:m.kd=6)(hh:m.had=true):Calls prog 118 #[QaG m c] w λe w'=>e=.returned (.bool (!Qal m))/\Ext w w':=by
 have hr:(!Qal m)=(!QaH (Mu.mk m.kd ByteArray.empty ByteArray.empty m.i m.had m.was m.has m.v m.l)):=by
  obtain⟨b7,k',b8,i',b5,b4,b6,v',l'⟩:=m;simp only[Mu.kd,Mu.had,Mu.was,Mu.has,Mu.v]at I hh;simp[Qal,Qbv,QaH,Mu.kd,I,hh,Qa4,Mu.k,Mu.tk,Mu.i,Mu.had,Mu.was,Mu.has,Mu.v,Mu.l]
 have HR:=hY hr;have HH:=hY hh;have e1:(m.kd==1)=false:=by simp[I]
 have e5:(m.kd==5)=false:=by simp[I]
 have e2:(m.kd==2)=false:=by simp[I]
 have e3:(m.kd==3)=false:=by simp[I]
 have e4:(m.kd==4)=false:=by simp[I]
 have e6:(m.kd==6)=true:=by simp[I]
 clear hr I hh;go_in;go_upto_region 1 with fail;generalize Y:World.alloc _ _=W0;obtain⟨z,J,a4⟩:=Qaz (m:=m) (c:=c) Y;have U:=hY z;have D:=hY J;have c4:=J.c4;rw[HH.o]at c4;clear Y z J a4;go_upto_region 4 with(first |(refine Qak rfl (.tmp 1) rfl w.heap.size 0 rfl m c D.o ?_) |(refine Qa0 rfl rfl rfl m c (w0:=W0) (b:=W0) rfl ((fv W0).alloc _ _) (fA W0 _ _) rfl rfl rfl ?_;intro w5 N Z;have b3:=hY (U.o.trans N);have D:=hY (fI D.o N);have b0:=hY Z;clear N Z));have d0:=D.o.kind;have hg:w.heap.size<=W0.heap.size:=U.o.size;go_wp2_with(first |(refine Qan [.string ⟨#[]⟩] ?_ ?_ ?_ hg b3.o b0.o 1 ?_ ?_ (Mu.mk m.kd ByteArray.empty m.tk m.i m.had m.was m.has m.v m.l) ⟨c.w1,c.w2,c.v1,c.v2,c.s⟩ ?_ ?_;rfl;kernel_rfl;rfl;decide;rfl;rfl;intro v0 z a0;have a3:=hY z;have a5:=hY a0;clear z a0) |(refine Qan [.string ⟨#[]⟩] ?_ ?_ ?_ hg a3.out a5.out 2 ?_ ?_ (Mu.mk m.kd ByteArray.empty ByteArray.empty m.i m.had m.was m.has m.v m.l) ⟨c.w1,c.w2,c.v1,c.v2,c.s⟩ ?_ ?_;rfl;kernel_rfl;rfl;decide;rfl;rfl;intro v1 X R;have a9:=hY X;have a2:=hY R;clear X R) |(refine Qak rfl (.tmp 3) rfl W0.heap.size 0 rfl (Mu.mk m.kd ByteArray.empty ByteArray.empty m.i m.had m.was m.has m.v m.l) ⟨c.w1,c.w2,c.v1,c.v2,c.s⟩ (fG a2.out) ?_));refine(QaU _ (Mu.mk m.kd ByteArray.empty ByteArray.empty m.i m.had m.was m.has m.v m.l) ⟨c.w1,c.w2,c.v1,c.v2,c.s⟩).mono ?_;rintro e W7 ⟨rfl,a1⟩;have a6:=hY (a9.out.trans a1);clear a1;go_wp2_with fail;go_ret;exact⟨by rw[HR.o]<;>rfl,a6.o⟩
theorem QnC(w:World)(m:Mu)(c:MuS)(J:m.kd=6)(hh:m.had=false)(hz:Qel m.was=true):Calls prog 118 #[QaG m c] w λe w'=>e=.returned (.bool (!Qal m))/\Ext w w':=by
 have hr:(!Qal m)=(!QaH (Mu.mk m.kd ByteArray.empty ByteArray.empty m.i m.had m.was m.has m.v m.l)):=by
  obtain⟨c2,k',c3,i',c0,b8,c1,v',l'⟩:=m;simp only[Mu.kd,Mu.had,Mu.was,Mu.has,Mu.v]at J hh hz;simp[Qal,Qbv,QaH,Mu.kd,J,hh,Qa4,Mu.k,Mu.tk,Mu.i,Mu.had,Mu.was,Mu.has,Mu.v,Mu.l,hz]
 have HR:=hY hr;have HH:=hY hh;have HZ:=hY hz;have e1:(m.kd==1)=false:=by simp[J]
 have e5:(m.kd==5)=false:=by simp[J]
 have e2:(m.kd==2)=false:=by simp[J]
 have e3:(m.kd==3)=false:=by simp[J]
 have e4:(m.kd==4)=false:=by simp[J]
 have e6:(m.kd==6)=true:=by simp[J]
 clear hr J hh hz;go_in;go_upto_region 1 with fail;generalize Z:World.alloc _ _=W0;obtain⟨D,N,a6⟩:=Qaz (m:=m) (c:=c) Z;have b0:=hY D;have I:=hY N;have c4:=N.c4;rw[HH.o]at c4;clear Z D N a6;obtain⟨c5,c6,c7,c8,c9,a9⟩:=I.o.QnS;go_wp2_with fail;refine(QaD _ m.was c.w1 c.w2).mono ?_;rintro e U ⟨rfl,z⟩;have a2:=hY (b0.o.trans z);have Y:=hY (I.o.ext z);clear z c4 c5 c6 c7 c8 c9 a9;rw[HZ.o];go_upto_region 4 with(first |(refine Qak rfl (.tmp 1) rfl w.heap.size 0 rfl m c Y.o ?_) |(refine Qa0 rfl rfl rfl m c (w0:=U) (b:=U) rfl ((fv U).alloc _ _) (fA U _ _) rfl rfl rfl ?_;intro w5 R a0;have b7:=hY (a2.o.trans R);have I:=hY (fI Y.o R);have b6:=hY a0;clear R a0));have d0:=I.o.kind;have hg:w.heap.size<=U.heap.size:=a2.o.size;go_wp2_with(first |(refine Qan [.string ⟨#[]⟩] ?_ ?_ ?_ hg b7.o b6.o 1 ?_ ?_ (Mu.mk m.kd ByteArray.empty m.tk m.i m.had m.was m.has m.v m.l) ⟨c.w1,c.w2,c.v1,c.v2,c.s⟩ ?_ ?_;rfl;kernel_rfl;rfl;decide;rfl;rfl;intro v0 D a1;have a5:=hY D;have b3:=hY a1;clear D a1) |(refine Qan [.string ⟨#[]⟩] ?_ ?_ ?_ hg a5.out b3.out 2 ?_ ?_ (Mu.mk m.kd ByteArray.empty ByteArray.empty m.i m.had m.was m.has m.v m.l) ⟨c.w1,c.w2,c.v1,c.v2,c.s⟩ ?_ ?_;rfl;kernel_rfl;rfl;decide;rfl;rfl;intro v1 z X;have b5:=hY z;have a4:=hY X;clear z X) |(refine Qak rfl (.tmp 3) rfl U.heap.size 0 rfl (Mu.mk m.kd ByteArray.empty ByteArray.empty m.i m.had m.was m.has m.v m.l) ⟨c.w1,c.w2,c.v1,c.v2,c.s⟩ (fG a4.out) ?_));refine(QaU _ (Mu.mk m.kd ByteArray.empty ByteArray.empty m.i m.had m.was m.has m.v m.l) ⟨c.w1,c.w2,c.v1,c.v2,c.s⟩).mono ?_;rintro e W7 ⟨rfl,a3⟩;have b4:=hY (b5.out.trans a3);clear a3;go_wp2_with fail;go_ret;exact⟨by rw[HR.o]<;>rfl,b4.o⟩
theorem QnD(w:World)(m:Mu)(c:MuS)(D:m.kd=7)(hh:m.had=true):Calls prog 118 #[QaG m c] w λe w'=>e=.returned (.bool (!Qal m))/\Ext w w':=by
 have hr:(!Qal m)=(!QaH (Mu.mk m.kd ByteArray.empty m.tk m.i false zeroV m.has m.v [])):=by
  obtain⟨c8,k',c9,i',c6,c3,c7,v',l'⟩:=m;simp only[Mu.kd,Mu.had,Mu.was,Mu.has,Mu.v]at D hh;simp[Qal,Qbv,QaH,Mu.kd,D,hh,Qa4,Mu.k,Mu.tk,Mu.i,Mu.had,Mu.was,Mu.has,Mu.v,Mu.l]
 have HR:=hY hr;have HH:=hY hh;have e1:(m.kd==1)=false:=by simp[D]
 have e5:(m.kd==5)=false:=by simp[D]
 have e2:(m.kd==2)=false:=by simp[D]
 have e3:(m.kd==3)=false:=by simp[D]
 have e4:(m.kd==4)=false:=by simp[D]
 have e6:(m.kd==6)=false:=by simp[D]
 have e7:(m.kd==7)=true:=by simp[D]
 clear hr D hh;go_in;go_upto_region 1 with fail;generalize a1:World.alloc _ _=W0;obtain⟨z,J,b5⟩:=Qaz (m:=m) (c:=c) a1;have Y:=hY z;have I:=hY J;have c4:=J.c4;rw[HH.o]at c4;clear a1 z J b5;go_upto_region 4 with(first |(refine Qak rfl (.tmp 1) rfl w.heap.size 0 rfl m c I.o ?_) |(refine Qa0 rfl rfl rfl m c (w0:=W0) (b:=W0) rfl ((fv W0).alloc _ _) (fA W0 _ _) rfl rfl rfl ?_;intro w5 N a2;have c2:=hY (Y.o.trans N);have I:=hY (fI I.o N);have c1:=hY a2;clear N a2));have d0:=I.o.kind;have hg:w.heap.size<=W0.heap.size:=Y.o.size;go_wp2_with(first |(refine Qan [.string ⟨#[]⟩] ?_ ?_ ?_ hg c2.o c1.o 1 ?_ ?_ (Mu.mk m.kd ByteArray.empty m.tk m.i m.had m.was m.has m.v m.l) ⟨c.w1,c.w2,c.v1,c.v2,c.s⟩ ?_ ?_;rfl;kernel_rfl;rfl;decide;rfl;rfl;intro v0 z a4;have b3:=hY z;have b6:=hY a4;clear z a4) |(refine Qan [.bool false] ?_ ?_ ?_ hg b3.out b6.out 4 ?_ ?_ (Mu.mk m.kd ByteArray.empty m.tk m.i false m.was m.has m.v m.l) ⟨c.w1,c.w2,c.v1,c.v2,c.s⟩ ?_ ?_;rfl;kernel_rfl;rfl;decide;rfl;rfl;intro v1 Z U;have b8:=hY Z;have a6:=hY U;clear Z U) |(refine Qan [.int .i64 0,.bool false,.int .i64 0,.string ⟨#[]⟩,.slice none 0 0,.slice none 0 0] ?_ ?_ ?_ hg b8.out a6.out 5 ?_ ?_ (Mu.mk m.kd ByteArray.empty m.tk m.i false zeroV m.has m.v m.l) ⟨Sl.none,Sl.none,c.v1,c.v2,c.s⟩ ?_ ?_;rfl;kernel_rfl;rfl;decide;rfl;rfl;intro v2 X R;have b4:=hY X;have c0:=hY R;clear X R) |(refine Qan [.slice none 0 0] ?_ ?_ ?_ hg b4.out c0.out 18 ?_ ?_ (Mu.mk m.kd ByteArray.empty m.tk m.i false zeroV m.has m.v []) ⟨Sl.none,Sl.none,c.v1,c.v2,Sl.none⟩ ?_ ?_;rfl;kernel_rfl;rfl;decide;rfl;rfl;intro v3 a0 a3;have b0:=hY a0;have a9:=hY a3;clear a0 a3) |(refine Qak rfl (.tmp 3) rfl W0.heap.size 0 rfl (Mu.mk m.kd ByteArray.empty m.tk m.i false zeroV m.has m.v []) ⟨Sl.none,Sl.none,c.v1,c.v2,Sl.none⟩ (fG a9.out) ?_));refine(QaU _ (Mu.mk m.kd ByteArray.empty m.tk m.i false zeroV m.has m.v []) ⟨Sl.none,Sl.none,c.v1,c.v2,Sl.none⟩).mono ?_;rintro e W7 ⟨rfl,a5⟩;have b7:=hY (b0.out.trans a5);clear a5;go_wp2_with fail;go_ret;exact⟨by rw[HR.o]<;>rfl,b7.o⟩
theorem QnE(w:World)(m:Mu)(c:MuS)(I:m.kd=7)(hh:m.had=false)(hz:Qel m.was=true):Calls prog 118 #[QaG m c] w λe w'=>e=.returned (.bool (!Qal m))/\Ext w w':=by
 have hr:(!Qal m)=(!QaH (Mu.mk m.kd ByteArray.empty m.tk m.i false zeroV m.has m.v [])):=by
  obtain⟨e0,k',e8,i',d7,d6,d8,v',l'⟩:=m;simp only[Mu.kd,Mu.had,Mu.was,Mu.has,Mu.v]at I hh hz;simp[Qal,Qbv,QaH,Mu.kd,I,hh,Qa4,Mu.k,Mu.tk,Mu.i,Mu.had,Mu.was,Mu.has,Mu.v,Mu.l,hz]
 have HR:=hY hr;have HH:=hY hh;have HZ:=hY hz;have e1:(m.kd==1)=false:=by simp[I]
 have e5:(m.kd==5)=false:=by simp[I]
 have e2:(m.kd==2)=false:=by simp[I]
 have e3:(m.kd==3)=false:=by simp[I]
 have e4:(m.kd==4)=false:=by simp[I]
 have e6:(m.kd==6)=false:=by simp[I]
 have e7:(m.kd==7)=true:=by simp[I]
 clear hr I hh hz;go_in;go_upto_region 1 with fail;generalize a2:World.alloc _ _=W0;obtain⟨D,N,b7⟩:=Qaz (m:=m) (c:=c) a2;have c0:=hY D;have J:=hY N;have c4:=N.c4;rw[HH.o]at c4;clear a2 D N b7;obtain⟨c5,c6,c7,c8,c9,b8⟩:=J.o.QnS;go_wp2_with fail;refine(QaD _ m.was c.w1 c.w2).mono ?_;rintro e U ⟨rfl,z⟩;have a6:=hY (c0.o.trans z);have Z:=hY (J.o.ext z);clear z c4 c5 c6 c7 c8 c9 b8;rw[HZ.o];go_upto_region 4 with(first |(refine Qak rfl (.tmp 1) rfl w.heap.size 0 rfl m c Z.o ?_) |(refine Qa0 rfl rfl rfl m c (w0:=U) (b:=U) rfl ((fv U).alloc _ _) (fA U _ _) rfl rfl rfl ?_;intro w5 R a3;have d5:=hY (a6.o.trans R);have J:=hY (fI Z.o R);have d4:=hY a3;clear R a3));have d0:=J.o.kind;have hg:w.heap.size<=U.heap.size:=a6.o.size;go_wp2_with(first |(refine Qan [.string ⟨#[]⟩] ?_ ?_ ?_ hg d5.o d4.o 1 ?_ ?_ (Mu.mk m.kd ByteArray.empty m.tk m.i m.had m.was m.has m.v m.l) ⟨c.w1,c.w2,c.v1,c.v2,c.s⟩ ?_ ?_;rfl;kernel_rfl;rfl;decide;rfl;rfl;intro v0 D a5;have b5:=hY D;have c1:=hY a5;clear D a5) |(refine Qan [.bool false] ?_ ?_ ?_ hg b5.out c1.out 4 ?_ ?_ (Mu.mk m.kd ByteArray.empty m.tk m.i false m.was m.has m.v m.l) ⟨c.w1,c.w2,c.v1,c.v2,c.s⟩ ?_ ?_;rfl;kernel_rfl;rfl;decide;rfl;rfl;intro v1 z Y;have c3:=hY z;have b0:=hY Y;clear z Y) |(refine Qan [.int .i64 0,.bool false,.int .i64 0,.string ⟨#[]⟩,.slice none 0 0,.slice none 0 0] ?_ ?_ ?_ hg c3.out b0.out 5 ?_ ?_ (Mu.mk m.kd ByteArray.empty m.tk m.i false zeroV m.has m.v m.l) ⟨Sl.none,Sl.none,c.v1,c.v2,c.s⟩ ?_ ?_;rfl;kernel_rfl;rfl;decide;rfl;rfl;intro v2 a0 X;have b6:=hY a0;have d3:=hY X;clear a0 X) |(refine Qan [.slice none 0 0] ?_ ?_ ?_ hg b6.out d3.out 18 ?_ ?_ (Mu.mk m.kd ByteArray.empty m.tk m.i false zeroV m.has m.v []) ⟨Sl.none,Sl.none,c.v1,c.v2,Sl.none⟩ ?_ ?_;rfl;kernel_rfl;rfl;decide;rfl;rfl;intro v3 a1 a4;have b4:=hY a1;have b3:=hY a4;clear a1 a4) |(refine Qak rfl (.tmp 3) rfl U.heap.size 0 rfl (Mu.mk m.kd ByteArray.empty m.tk m.i false zeroV m.has m.v []) ⟨Sl.none,Sl.none,c.v1,c.v2,Sl.none⟩ (fG b3.out) ?_));refine(QaU _ (Mu.mk m.kd ByteArray.empty m.tk m.i false zeroV m.has m.v []) ⟨Sl.none,Sl.none,c.v1,c.v2,Sl.none⟩).mono ?_;rintro e W7 ⟨rfl,a9⟩;have c2:=hY (b4.out.trans a9);clear a9;go_wp2_with fail;go_ret;exact⟨by rw[HR.o]<;>rfl,c2.o⟩
theorem QnF(w:World)(m:Mu)(c:MuS)(h1:m.kd≠1)(h5:m.kd≠5)(h2:m.kd≠2)(h3:m.kd≠3)(h4:m.kd≠4)(Z:m.kd≠6)(h7:m.kd≠7)(hh:m.had=true):Calls prog 118 #[QaG m c] w λe w'=>e=.returned (.bool (!Qal m))/\Ext w w':=by
 have hr:(!Qal m)=true:=by
  have hn:¬(1<=m.kd/\m.kd<=7):=by omega
  simp[Qal,Qbv,hn]
 have HR:=hY hr;have HH:=hY hh;have e1:(m.kd==1)=false:=eu.2 h1;have e5:(m.kd==5)=false:=eu.2 h5;have e2:(m.kd==2)=false:=eu.2 h2;have e3:(m.kd==3)=false:=eu.2 h3;have e4:(m.kd==4)=false:=eu.2 h4;have e6:(m.kd==6)=false:=eu.2 Z;have e7:(m.kd==7)=false:=eu.2 h7;clear hr hh h1 h5 h2 h3 h4 Z h7;go_in;go_upto_region 1 with fail;generalize N:World.alloc _ _=W0;obtain⟨J,D,U⟩:=Qaz (m:=m) (c:=c) N;have X:=hY J;have z:=hY D;have c4:=D.c4;rw[HH.o]at c4;clear N J D U;go_upto_region 4 with(first |(refine Qak rfl (.tmp 1) rfl w.heap.size 0 rfl m c z.o ?_) |(refine Qa0 rfl rfl rfl m c (w0:=W0) (b:=W0) rfl ((fv W0).alloc _ _) (fA W0 _ _) rfl rfl rfl ?_;intro w5 I R;have Y:=hY (X.o.trans I);have z:=hY (fI z.o I);clear I R));have d0:=z.o.kind;go_wp2_with fail;go_ret;exact⟨by rw[HR.o]<;>rfl,Y.o⟩
theorem QnG(w:World)(m:Mu)(c:MuS)(h1:m.kd≠1)(h5:m.kd≠5)(h2:m.kd≠2)(h3:m.kd≠3)(h4:m.kd≠4)(h6:m.kd≠6)(h7:m.kd≠7)(hh:m.had=false)(hz:Qel m.was=true):Calls prog 118 #[QaG m c] w λe w'=>e=.returned (.bool (!Qal m))/\Ext w w':=by
 have hr:(!Qal m)=true:=by
  have hn:¬(1<=m.kd/\m.kd<=7):=by omega
  simp[Qal,Qbv,hn]
 have HR:=hY hr;have HH:=hY hh;have HZ:=hY hz;have e1:(m.kd==1)=false:=eu.2 h1;have e5:(m.kd==5)=false:=eu.2 h5;have e2:(m.kd==2)=false:=eu.2 h2;have e3:(m.kd==3)=false:=eu.2 h3;have e4:(m.kd==4)=false:=eu.2 h4;have e6:(m.kd==6)=false:=eu.2 h6;have e7:(m.kd==7)=false:=eu.2 h7;clear hr hh h1 h5 h2 h3 h4 h6 h7 hz;go_in;go_upto_region 1 with fail;generalize U:World.alloc _ _=W0;obtain⟨R,D,Y⟩:=Qaz (m:=m) (c:=c) U;have a0:=hY R;have z:=hY D;have c4:=D.c4;rw[HH.o]at c4;clear U R D Y;obtain⟨c5,c6,c7,c8,c9,Z⟩:=z.o.QnS;go_wp2_with fail;refine(QaD _ m.was c.w1 c.w2).mono ?_;rintro e X ⟨rfl,I⟩;have a2:=hY (a0.o.trans I);have N:=hY (z.o.ext I);clear I c4 c5 c6 c7 c8 c9 Z;rw[HZ.o];go_upto_region 4 with(first |(refine Qak rfl (.tmp 1) rfl w.heap.size 0 rfl m c N.o ?_) |(refine Qa0 rfl rfl rfl m c (w0:=X) (b:=X) rfl ((fv X).alloc _ _) (fA X _ _) rfl rfl rfl ?_;intro w5 J a1;have a3:=hY (a2.o.trans J);have z:=hY (fI N.o J);clear J a1));have d0:=z.o.kind;go_wp2_with fail;go_ret;exact⟨by rw[HR.o]<;>rfl,a3.o⟩
theorem Qlh(w:World)(m:Mu)(c:MuS):Calls prog 118 #[QaG m c] w λe w'=>e=.returned (.bool (!Qal m))/\Ext w w':=by
 rcases aO m.had with z|z
 ·by_cases h1:m.kd=1
  .exact Qnt w m c h1 z
  by_cases U:m.kd=5
  .exact Qnz w m c U z
  by_cases h2:m.kd=2
  .exact Qnv w m c h2 z
  by_cases R:m.kd=3
  .exact Qnx w m c R z
  by_cases I:m.kd=4
  ·rcases aO m.has with hs | hs
   .exact Qlb w m c I z hs
   rcases aO (Qel m.v)with J|J
   .exact Qlc w m c I z hs J
   exact Qld w m c I z hs J
  by_cases N:m.kd=6
  .exact QnB w m c N z
  by_cases X:m.kd=7
  .exact QnD w m c X z
  exact QnF w m c h1 U h2 R I N X z
 rcases aO (Qel m.was)with D|D
 rotate_left
 .exact Qli w m c z D
 by_cases h1:m.kd=1
 .exact Qnu w m c h1 z D
 by_cases U:m.kd=5
 .exact QnA w m c U z D
 by_cases h2:m.kd=2
 .exact Qnw w m c h2 z D
 by_cases R:m.kd=3
 .exact Qny w m c R z D
 by_cases I:m.kd=4
 ·rcases aO m.has with hs | hs
  .exact Qle w m c I z D hs
  rcases aO (Qel m.v)with J|J
  .exact Qlf w m c I z D hs J
  exact Qlg w m c I z D hs J
 by_cases N:m.kd=6
 .exact QnC w m c N z D
 by_cases X:m.kd=7
 .exact QnE w m c X z D
 exact QnG w m c h1 U h2 R I N X z D
theorem Qqc{k:ByteArray}(N:k.size<=maxLen)(z:QiW w):Calls prog 113 #[.string k] w λe w'=>e=.returned (.bool (Lib.validD k.data.toList))/\Nw w w':=by
 have I:=z.val w (G5.refl w) k N;have R:=hY I;clear I z;go_in;go_wp2_with fail;refine R.o.mono ?_;rintro e w' ⟨rfl,D⟩;have J:=hY D;clear D;go_wp2_with fail;go_ret;exact⟨rfl,J.o⟩
theorem QeO(p:ByteArray)(D:QiW w):Calls prog 171 #[.string p] w λe w'=>e=.returned (.bool (Qf8 p))/\Nw w w':=by
 by_cases h:p.size<=64
 ·have z:Qf8 p=Lib.validD p.data.toList:=by unfold Qf8;rw [ej h];rfl
  have HB:=hY z;have N:=hY (Qqc (w:=w) (k:=p) (al h (by decide)) D);have g:((p.size:Int)<=64):=by omega
  clear z D h;go_in;go_wp2_with fail;refine N.o.mono ?_;rintro e w' ⟨rfl,I⟩;have J:=hY I;clear I;go_wp2_with fail;go_ret;exact⟨by rw[HB.o]<;>rfl,J.o⟩
 have z:Qf8 p=false:=by unfold Qf8;rw[eh h];rfl
 have HB:=hY z;have g:¬((p.size:Int)<=64):=by omega
 clear z D h;go_in;go_wp2_with fail;go_ret;exact⟨by rw[HB.o]<;>rfl,fD _ _⟩
theorem MuC.c1{b:Nat}{m:Mu}(h:MuC w b 0 m c):w.cell? ⟨b,1,none⟩=some (.string m.k):=h 1 _ rfl
theorem MuC.c2{b:Nat}{m:Mu}(h:MuC w b 0 m c):w.cell? ⟨b,2,none⟩=some (.string m.tk):=h 2 _ rfl
theorem QoZ(m:Mu)(c:MuS)(hk:m.k.size<=maxLen)(hL:QiW w):Calls prog 119 #[QaG m c] w λe w'=>e=.returned (.bool (QfU m.kd m.k m.tk m.had))/\Nw w w':=by
 by_cases Y:m.kd=6
 ·have X:QfU m.kd m.k m.tk m.had=(Qf8 m.k && Qf8 m.tk):=by unfold QfU;rw [em Y]
  have Z:=hY X;have e6:(m.kd==6)=true:=by simp[Y]
  clear X Y hk;go_in;go_upto_region 1 with fail;generalize I:World.alloc _ _=W0;obtain⟨D,z,J⟩:=Qaz (m:=m) (c:=c) I;have N:=hY (fx D);have c0:=z.kind;have c1:=z.c1;have a0:=hY z;have HL:=hY (hL.nw (fx D));have l0:=z.lt;clear I D z J hL;go_wp2_with fail;refine(QeO m.k HL.o).mono ?_;rintro e w1 ⟨rfl,R⟩;have U:=hY (N.o.trans R);have a2:=hY (HL.o.nw R);have d2:=(R.cell l0 (λh=>h)).trans a0.o.c2;clear R c0 c1;rcases aO (Qf8 m.k)with hb|hb
  ·have HB:=hY hb
   rw[hb];clear hb;go_wp2_with fail;refine(QeO m.tk a2.o).mono ?_;rintro e w2 ⟨rfl,R⟩;have a1:=hY (U.o.trans R);clear R;go_wp2_with fail;go_ret;exact⟨by rw[Z.o,HB.o]<;>rfl,a1.o⟩
  have HB:=hY hb;rw[hb];clear hb;go_wp2_with fail;go_ret;exact⟨by rw[Z.o,HB.o]<;>rfl,U.o⟩
 have e6:(m.kd==6)=false:=by simp[Y]
 by_cases h7:m.kd=7
 ·have e7:(m.kd == 7)=true:=by simp [h7]
  by_cases h0:m.k.size=0
  ·have X:QfU m.kd m.k m.tk m.had=!m.had:=by unfold QfU;rw [ef Y,em ⟨h7,h0⟩]
   have Z:=hY X;have g0:=Qbc h0;clear X Y hk h7 hL h0;go_in;go_upto_region 1 with fail;generalize I:World.alloc _ _=W0;obtain⟨D,z,J⟩:=Qaz (m:=m) (c:=c) I;have N:=hY (fx D);have c0:=z.kind;have c1:=z.c1;have c4:=z.c4;clear I D z J;go_wp2_with fail;go_ret;exact⟨by rw[Z.o]<;>rfl,N.o⟩
  have X:QfU m.kd m.k m.tk m.had=(Qbd m.k==0):=by unfold QfU;rw[ef Y,ef λh=>h0 h.2]
  have Z:=hY X;have g0:=Qbx h0;have HK:=hY hk;clear X Y hk h7 h0;go_in;go_upto_region 1 with fail;generalize I:World.alloc _ _=W0;obtain⟨D,z,J⟩:=Qaz (m:=m) (c:=c) I;have N:=hY (fx D);have c0:=z.kind;have c1:=z.c1;have HL:=hY (hL.nw (fx D));clear I D z J hL;go_wp2_with fail;refine(Qdj HK.o HL.o).mono ?_;rintro e w1 ⟨rfl,R⟩;have U:=hY (N.o.trans R);clear R c0 c1;go_wp2_with fail;go_ret;exact⟨by rw[Z.o]<;>rfl,U.o⟩
 have e7:(m.kd==7)=false:=by simp[h7]
 have X:QfU m.kd m.k m.tk m.had=(Qbd m.k==0):=by unfold QfU;rw[ef Y,ef λh=>h7 h.1]
 have Z:=hY X;have HK:=hY hk;clear X Y hk h7;go_in;go_upto_region 1 with fail;generalize I:World.alloc _ _=W0;obtain⟨D,z,J⟩:=Qaz (m:=m) (c:=c) I;have N:=hY (fx D);have c0:=z.kind;have c1:=z.c1;have HL:=hY (hL.nw (fx D));clear I D z J hL;go_wp2_with fail;refine(Qdj HK.o HL.o).mono ?_;rintro e w1 ⟨rfl,R⟩;have U:=hY (N.o.trans R);clear R c0 c1;go_wp2_with fail;go_ret;exact⟨by rw[Z.o]<;>rfl,U.o⟩
theorem Qo8{l:List Mu}{m:Mu}(h:l[j]? = some m)(d:Nat):Qce (l.drop j) d=if QaW m d≠0 then QaW m d else Qce (l.drop (j+1)) d:=by
 obtain⟨h1,h2⟩:=ah.1 h;rw[aE h1,h2,Qce]
abbrev Qev(code:Int):Ending:=.panicked [{ v:=.iface 165 (.agg #[.int .i64 code]),recovered:=false }]
def QdM(code:Int):Ending:=if code=0 then .returned (.tuple #[])else Qev code
theorem Qgk(w:World)(code:Int):Calls prog 117 #[.bool true,.int .i64 code] w λe w'=>e=.returned (.tuple #[])/\w'=w:=by
 go_in;go_wp2_with fail;refine bodyPost_end (v:=.tuple #[]) (by simp[results,results117,go_sem]) rfl ?_;exact⟨rfl,rfl⟩
theorem QiF(w:World)(code:Int):Calls prog 117 #[.bool false,.int .i64 code] w λe w'=>e=Qev code/\w'=w:=by
 go_in;go_wp2_with fail;exact⟨rfl,rfl,rfl⟩
theorem Ql3(w:World)(code:Int):Calls prog 120 #[.int .i64 code] w λe w'=>e=QdM code/\w'=w:=by
 by_cases h:code=0
 ·subst h
  go_in;go_wp2_with fail;refine(Qgk w 0).mono ?_;rintro e w' ⟨rfl,rfl⟩;go_wp2_with fail;refine bodyPost_end (v:=.tuple #[]) (by simp[results,results120,go_sem]) rfl ?_;exact⟨rfl,rfl⟩
 have D:(code==0)=false:=eu.2 h;have z:=hY (show QdM code=Qev code by unfold QdM;rw[ef h]);go_in;go_wp2_with fail;refine(QiF w code).mono ?_;rintro e w' ⟨rfl,rfl⟩;go_wp2_with fail;exact⟨rfl,z.o.symm,rfl⟩
section
variable{m : Mu}{d : Nat}
theorem Qdk:QaW m d=if !Qal m then 9 else if 6<d then 5 else if !QfU m.kd m.k m.tk m.had then 8 else if m.had&&Qbw m.was != 0 then Qbw m.was else if Qhx m.kd m.has&&Qbw m.v != 0 then Qbw m.v else Qce m.l (d+1):=by
 obtain⟨N,k,J,i,z,D,I,v,l⟩:=m;rw[QaW];rfl
theorem Quo(z:Qal m=false):QaW m d=9:=by rw[Qdk,z];rfl
theorem Qum(z:Qal m=true)(h:6<d):QaW m d=5:=by rw[Qdk,z,em h];rfl
theorem Qun(D:Qal m=true)(h:¬6<d)(z:QfU m.kd m.k m.tk m.had=false):QaW m d=8:=by rw[Qdk,D,ef h,z];rfl
theorem lookW(J:Qal m=true)(h:¬6<d)(z:QfU m.kd m.k m.tk m.had=true)(I:m.had=true)(D:Qbw m.was≠0):QaW m d=Qbw m.was:=by
 rw[Qdk,J,ef h,z,I];simp[D]
theorem Quq(J:Qal m=true)(h:¬6<d)(z:QfU m.kd m.k m.tk m.had=true)(hs:(m.had&&Qbw m.was != 0)=false)(I:Qhx m.kd m.has=true)(D:Qbw m.v≠0):QaW m d=Qbw m.v:=by
 rw[Qdk,J,ef h,z,hs,I];simp[D]
theorem Qup(I:Qal m=true)(h:¬6<d)(z:QfU m.kd m.k m.tk m.had=true)(hs:(m.had&&Qbw m.was != 0)=false)(D:(Qhx m.kd m.has&&Qbw m.v != 0)=false):QaW m d=Qce m.l (d+1):=by
 rw[Qdk,I,ef h,z,hs,D];rfl
theorem Qei{code:Int}(h:QaW m d=code)(z:code≠0):Qev code=QdM (QaW m d):=by rw[h];unfold QdM;rw[ef z]
theorem QrE(h:QaW m d=0):Ending.returned (.tuple #[])=QdM (QaW m d):=by rw[h];rfl
theorem Qr7(m:Mu):Qdr m.l<=QcF m:=by
 obtain⟨N,k,J,i,z,D,I,v,l⟩:=m;rw[QcF];exact Nat.le_add_left _ _
end
theorem Ql4(w:World){code:Int}(h:code=0):Calls prog 120 #[.int .i64 code] w λe w'=>e=.returned (.tuple #[])/\w'=w:=(Ql3 w code).mono λe w' z=>⟨by rw[z.1,h];rfl,z.2⟩
theorem Qpu(w:World){code:Int}(h:code≠0):Calls prog 120 #[.int .i64 code] w λe w'=>e=Qev code/\w'=w:=(Ql3 w code).mono λe w' z=>⟨by rw[z.1];unfold QdM;rw[ef h],z.2⟩
variable{w':World}
theorem MuC.nw{b o:Nat}{m:Mu}(h:MuC w b o m c)(k:Nw w w'):MuC w' b o m c:=λj u hu=>(k.cell h.lt (λe=>e)).trans (h j u hu)
theorem RMu.nw{m:Mu}(h:RMu w (Lt w) m c)(k:Nw w w'):RMu w' (Lt w') m c:=(h.agree (fB k λb z=>z)).mono λb z=>ab z k.size
theorem QjI{m:Mu}{d:Nat}(hd:d<=7)(hm:RMu w (Lt w) m c)(ht:QcF m<=1100000)(hL:Qb9 w)
  (ih:d<=6->∀(x:Mu) (y:MuS) (W:World),RMu W (Lt W) x y->QcF x<=1100000->Qb9 W->Calls prog 73 #[QaG x y,.int .i64 ((d+1:Nat):Int)] W λe w'=>e=QdM (QaW x (d+1))/\Nw W w') :
  Calls prog 73 #[QaG m c,.int .i64 (d:Int)] w λe w'=>e=QdM (QaW m d)/\Nw w w':=by
 have HI:=hY ih;have HM:=hY hm;have HT:=hY ht;have HD:=hY hd;clear ih hm ht hd;go_in;go_upto_region 1 with fail;generalize b8:World.alloc _ _=W0;obtain⟨d7,c3,e7⟩:=Qaz (m:=m) (c:=c) b8;have e8:=hY d7;have d4:=hY c3;have HL:=hY hL;clear b8 d7 c3 e7 hL;go_wp2_with(refine Qak rfl (.tmp 2) rfl w.heap.size 0 rfl m c d4.o ?_);refine(Qlh _ m c).mono ?_;rintro e w1 ⟨rfl,b5⟩;have a4:=hY (fx (e8.o.trans b5));have b7:=hY (d4.o.ext b5);clear b5;rcases aO (Qal m)with hb|hb
 rotate_left
 ·have g:(!Qal m)=true:=by rw [hb];rfl
  have N:=hY (Qei (Quo (d:=d) hb) (by decide));rw[g];clear hb g;go_wp2_with fail;refine(QiF _ 9).mono ?_;rintro e w2 ⟨rfl,rfl⟩;go_wp2_with fail;exact⟨rfl,N.o,a4.o⟩
 have X:=hY hb;have g:(!Qal m)=false:=by rw[hb];rfl
 rw[g];clear hb g;go_wp2_with fail;refine(Qgk _ 9).mono ?_;rintro e w2 ⟨rfl,rfl⟩;by_cases h6:6<d
 ·have g:decide ((d:Int)≤6)=false:=eh (by omega)
  have N:=hY (Qei (Qum (d:=d) X.o h6) (by decide));clear h6;go_wp2_with fail;refine(QiF _ 5).mono ?_;rintro e w2 ⟨rfl,rfl⟩;go_wp2_with fail;exact⟨rfl,N.o,a4.o⟩
 have H6:=hY h6;have g6:decide ((d:Int)<=6)=true:=ej (by omega);clear h6;go_wp2_with fail;refine(Qgk _ 5).mono ?_;rintro e w2 ⟨rfl,rfl⟩;clear g6;go_wp2_with(refine Qak rfl (.tmp 2) rfl w.heap.size 0 rfl m c b7.o ?_);refine(QoZ m c HM.o.parts.2.2.1 (HL.o.nw a4.o).lib).mono ?_;rintro e w3 ⟨rfl,a9⟩;have Y:=hY (a4.o.trans a9);have b0:=hY (b7.o.nw a9);clear a9;rcases aO (QfU m.kd m.k m.tk m.had)with hk|hk
 rotate_left
 ·have N:=hY (Qei (Qun (d:=d) X.o H6.o hk) (by decide))
  rw[hk];clear hk;go_wp2_with fail;refine(QiF _ 8).mono ?_;rintro e w2 ⟨rfl,rfl⟩;go_wp2_with fail;exact⟨rfl,N.o,Y.o⟩
 have HK:=hY hk;rw[hk];clear hk;go_wp2_with fail;refine(Qgk _ 8).mono ?_;rintro e wq ⟨rfl,rfl⟩;have c4:=b0.o.c4;obtain⟨c5,c6,c7,c8,c9,f4⟩:=b0.o.QnS;go_upto_if 17 with fail;go_cut [] (λwc=>Nw wq wc/\(m.had&&Qbw m.was != 0)=false)
 case first=>
  rcases aO m.had with hh|hh
  ·rw [hh]
   go_wp2_with fail;refine(Qim (d:=m.was) (HM.o.nw Y.o).parts.1 (al (Qka m).2 HT.o) (HL.o.nw Y.o)).mono ?_;rintro e w4 ⟨rfl,a2⟩;have R:=hY (Y.o.trans a2);have e2:=hY a2;by_cases I:Qbw m.was=0
   ·have HF:=hY I
    have HH:=hY hh;clear I hh a2;go_wp2_with fail;refine(Ql4 _ HF.o).mono ?_;rintro e w5 ⟨rfl,rfl⟩;go_wp2_with fail;go_meet;exact⟨e2.o,by rw[HF.o];simp⟩
   have HF:=hY I;have N:=hY (Qei (lookW (d:=d) X.o H6.o HK.o hh I) I);clear I hh a2;go_wp2_with fail;refine(Qpu _ HF.o).mono ?_;rintro e w5 ⟨rfl,rfl⟩;go_wp2_with fail;exact⟨rfl,N.o,R.o⟩
  rw[hh];go_wp2_with fail;go_meet;exact⟨fD _ _,by rw[hh];rfl⟩
 obtain⟨b4,hs⟩:=hcut;have R:=hY (Y.o.trans b4);have HS:=hY hs;have a3:=hY (b0.o.nw b4);clear b4 hs c4 c5 c6 c7 c8 c9 f4;have c0:=a3.o.kind;have f5:=a3.o.c11;obtain⟨f8,f7,f1,f2,f9,e0⟩:=a3.o.v6;go_upto_region 6 with fail;go_cut [38] (λv w'=>v=.bool (Qhx m.kd m.has)/\w'=wc)
 case first=>
  by_cases k1:m.kd=1
  ·have e1:(m.kd == 1)=true:=by simp [k1]
   have D:Qhx m.kd m.has=true:=by simp[Qhx,k1]
   have HV:=hY D;clear D k1;go_wp2_with fail;go_meet;exact⟨by rw[HV.o],rfl⟩
  have e1:(m.kd==1)=false:=by simp[k1]
  by_cases k5:m.kd=5
  ·have e5:(m.kd == 5)=true:=by simp [k5]
   have D:Qhx m.kd m.has=true:=by simp[Qhx,k5]
   have HV:=hY D;clear D k1 k5;go_wp2_with fail;go_meet;exact⟨by rw[HV.o],rfl⟩
  have e5:(m.kd==5)=false:=by simp[k5]
  by_cases k4:m.kd=4
  ·have e4:(m.kd == 4)=true:=by simp [k4]
   have D:Qhx m.kd m.has=m.has:=by simp[Qhx,k4]
   have HV:=hY D;clear D k1 k5 k4;go_wp2_with fail;go_meet;exact⟨by rw[HV.o],rfl⟩
  have e4:(m.kd==4)=false:=by simp[k4]
  have D:Qhx m.kd m.has=false:=by simp[Qhx,k1,k5,k4]
  have HV:=hY D;clear D k1 k5 k4;go_wp2_with fail;go_meet;exact⟨by rw[HV.o],rfl⟩
 obtain⟨D,hw⟩:=hcut;subst D;clear c0 f5;rename_i wz;subst hw;go_upto_if 38 with fail;go_cut [] (λw'=>Nw wc w'/\(Qhx m.kd m.has&&Qbw m.v != 0)=false)
 case first=>
  rcases aO (Qhx m.kd m.has)with D|D
  ·rw [D]
   go_wp2_with fail;refine(Qim (d:=m.v) (HM.o.nw R.o).parts.2.1 (al (Qka m).1 HT.o) (HL.o.nw R.o)).mono ?_;rintro e w5 ⟨rfl,a5⟩;have J:=hY (R.o.trans a5);have f0:=hY a5;by_cases I:Qbw m.v=0
   ·have HF:=hY I
    have HV:=hY D;clear I D a5;go_wp2_with fail;refine(Ql4 _ HF.o).mono ?_;rintro e w6 ⟨rfl,rfl⟩;go_wp2_with fail;go_meet;exact⟨f0.o,by rw[HF.o];simp⟩
   have HF:=hY I;have N:=hY (Qei (Quq (d:=d) X.o H6.o HK.o HS.o D I) I);clear I D a5;go_wp2_with fail;refine(Qpu _ HF.o).mono ?_;rintro e w6 ⟨rfl,rfl⟩;go_wp2_with fail;exact⟨rfl,N.o,J.o⟩
  rw[D];go_wp2_with fail;go_meet;exact⟨fD _ _,by rw[D];rfl⟩
 obtain⟨U,d3⟩:=hcut;have J:=hY (R.o.trans U);have g7:wc.cell? ⟨w,8+10,none⟩=some (.slice c.s.a m.l.length c.s.c):=(a3.o.nw U) 18 _ rfl;have HC:=hY (Qup X.o H6.o HK.o HS.o d3);have g3:=HM.o.len;have d5:wrap64 ((d:Int)+1)=((d+1:Nat):Int):=by
  have:=H6.o;unfold wrap64;omega
 have e3:=hY d5;clear U d3 f8 f7 f1 f2 f9 e0 d5;go_wp2_with fail;go_loopw[46] (λf6 wr=>∃j:Nat,f6=.int .i64 (j:Int)/\j<=m.l.length/\Yd (Nw w wr)/\Yd (Qce (m.l.drop j) (d+1)=Qce m.l (d+1))) (λv _=>m.l.length -(intOf v).toNat)
 case atStart=>exact⟨0,rfl,aw _,J,hY rfl⟩
 obtain⟨j,rfl,hj,HX,HJ⟩:=hrel;by_cases d0:j<m.l.length
 ·have l1:(j:Int)<(m.l.length:Int):=by omega
  have g5:decide ((j:Int)<(m.l.length:Int))=true:=ej l1;have l0:(0:Int)<=(j:Int):=by omega
  obtain⟨x,hx⟩:∃x,m.l[j]? = some x:=⟨_,ac d0⟩;obtain⟨b,o,y,f3,e6,g8,g4,c2,b6⟩:=HM.o.at hx;have a6:=hY (c2.nw HX.o);have g0:b<wr:=a6.o.lt;have Z:=λW (hW:Ext wr W)=>HI.o (by have:=H6.o;omega) x y W (b6.nw (HX.o.trans (fx hW))) (al (Qgp hx) (al (Qr7 m) HT.o)) (HL.o.nw (HX.o.trans (fx hW)))
  have a1:=hY Z;have z:=Qo8 hx (d+1);rw[HJ.o]at z;have d6:=hY z;clear b6 c2 Z hx e6 z;rw[f3];go_wp2_with(first |(refine Qak rfl (.tmp 48) rfl b (o+j*19) rfl x y a6.o ?_) |(refine Qa0 rfl rfl rfl x y (w0:=wr) (b:=wr) rfl ((fv wr).alloc _ _) (fA wr _ _) rfl rfl rfl ?_;intro w5 U c1;have J:=hY U;have d8:=hY (fG c1);clear U c1) |(refine Qak rfl (.tmp 5) rfl wr.heap.size 0 rfl x y d8.o ?_));rw[e3.o];by_cases I:QaW x (d+1)=0
  ·refine ((a1.o _ J.o).mono fun e W h=>(show e=.returned (.tuple #[])∧Nw _ W from ⟨by rw [h.1,I];rfl,h.2⟩)).mono ?_
   rintro e w2 ⟨rfl,a0⟩;have b3:=hY ((HX.o.trans (fx J.o)).trans a0);have z:=d6.o;rw[ef (λh=>h I)]at z;have HA:=hY z.symm;clear a0 I z;go_wp2_with fail;go_roundw
   case rel=>exact⟨j+1,by go_num,d0,b3,HA⟩
   simp[intOf];omega
  have z:=d6.o;rw[em I]at z;have N:=hY (Qei (HC.o.trans z) I);refine((a1.o _ J.o).mono λe W h=>(show e=Qev (QaW x (d+1))/\Nw _ W from⟨by rw[h.1];unfold QdM;rw[ef I],h.2⟩)).mono ?_;rintro e w2 ⟨rfl,a0⟩;have b3:=hY ((HX.o.trans (fx J.o)).trans a0);clear a0 I z;go_wp2_with fail;exact⟨rfl,N.o,b3.o⟩
 obtain rfl:j=m.l.length:=by omega
 have l1:decide ((m.l.length:Int)<(m.l.length:Int))=false:=eh (by omega);have N:=hY (QrE (m:=m) (d:=d) (by rw[HC.o,<-HJ.o,cz];rfl));go_wp2_with fail;refine bodyPost_end (v:=.tuple #[]) (by simp[results,results73,go_sem]) rfl ?_;exact⟨N.o,HX.o⟩
theorem Qo9(n:Nat):∀(d:Nat) (m:Mu) (c:MuS) (w:World),d+n=7->RMu w (Lt w) m c->QcF m<=1100000->Qb9 w->Calls prog 73 #[QaG m c,.int .i64 (d:Int)] w λe w'=>e=QdM (QaW m d)/\Nw w w':=by
 induction n with
 |zero=>exactλd m c w hd I z D=>QjI (by omega) I z D λh=>by omega
 |succ n ih=>exactλd m c w hd I z D=>QjI (by omega) I z D λh x y W N J R=>ih (d+1) x y W (by omega) N J R
theorem Qq1{m:Mu}(I:RMu w (Lt w) m c)(z:QcF m<=1100000)(D:Qb9 w):Calls prog 73 #[QaG m c,.int .i64 1] w λe w'=>e=QdM (QaW m 1)/\Nw w w':=Qo9 6 1 m c w rfl I z D
abbrev eR:=@leaves_cons
theorem Qqj{b:Nat}{t T:TypeId}{v z:Value}{cs:Array Value}(I:Blk w b t #[z])(W:World)(D:(w.setCell ⟨b,0,none⟩ v).alloc (.cells cs T)=W):Sb (λi=>i=b) w W/\Blk W b t #[v]:=by
 subst D;have h1:Blk (w.setCell ⟨b,0,none⟩ v) b t #[v]:=I.Qdz 0 v;have h2:=(fv (w.setCell ⟨b,0,none⟩ v)).alloc cs T;exact⟨((fD (λi=>i=b) w).set (p:=⟨b,0,none⟩) (.inr rfl) v).ext h2,h1.ext h2⟩
theorem QkB(p:Addr)(w:World):CallsD prog 116 #[.pointer (some p)] .returning w λe D w'=>e=.returned (.tuple #[])/\D=.returning/\w'=w:=by
 refine callsD_of_wpS func116 rfl λz cs hu=>?_
 apply wpS_seq;apply wpS_region;simp[wpOpsS,go_sem,recoverD,hu,ntmps116,Exit.thenS];refine wpS_of_wp ?_;go_wp2;cases z
 simp_all [bodyPostS,results,results116]
theorem Qi1(W:World)(v:Value)(z:TypeId):(Instr.typeAssert (.iface 165 v) z 165 true).run prog W=.ok (.tuple #[v,.bool true]) W:=by kernel_rfl
theorem QmD(b:Nat)(code:Int)(w:World)(z:Blk w b 43 #[.int .i64 0]) :
  CallsD prog 116 #[.pointer (some ⟨b,0,none⟩)] (.panicking [{ v:=.iface 165 (.agg #[.int .i64 code]),recovered:=false }]) w λe J w'=>
   e=.returned (.tuple #[])/\J=.panicking [{ v:=.iface 165 (.agg #[.int .i64 code]),recovered:=true }]/\Sb (λi=>i=b) w w'/\Blk w' b 43 #[.int .i64 code]:=by
 have R:w.cell? ⟨b,0,none⟩=some (.int .i64 0):=z.cell 0;have N:=z.frozen 0;have U:=z.lt;refine callsD_of_wpS func116 rfl λI cs hu=>?_
 apply wpS_seq;apply wpS_region;simp[wpOpsS,go_sem,recoverD,hu,ntmps116,Exit.thenS];refine wpS_of_wp ?_;have X:=λW=>Qi1 W (.agg #[.int .i64 code])
 change Code.wp _ _ _ { tmps:=#[.pointer (some ⟨b,0,none⟩),undef,undef,undef,.iface 165 (.agg #[.int .i64 code]),undef,undef,undef,undef,undef,undef],defers:=[] } w;go_wp2;generalize D:World.alloc _ _=W;obtain⟨h1,h2⟩:=Qqj z W D;clear D X R N U;cases I
 simp_all [bodyPostS,results,results116]
variable{B:Nat}
theorem Qq4{m:Mu}(J:MuC w B 0 m c)(X:RMu w (Lt w) m c)(N:QcF m<=1100000)(R:Qb9 w) :
  Calls prog 72 #[.pointer (some ⟨B,0,none⟩)] w λe w'=>e=QdM (QaW m 1)/\Nw w w':=by
 have U:=hY (Qq1 X N R);have HB:=hY J;clear J X N R;by_cases h:QaW m 1=0
 ·have z:=hY h
  go_in;clear h;go_wp2_with(refine Qak rfl (.tmp 0) rfl B 0 rfl m c HB.o ?_);refine(U.o.mono λe W h=>(show e=.returned (.tuple #[])/\Nw _ W from⟨by rw[h.1,z.o];rfl,h.2⟩)).mono ?_;rintro e w1 ⟨rfl,D⟩;have I:=hY D;clear D;go_wp2_with fail;refine bodyPost_end (v:=.tuple #[]) (by simp[results,results72,go_sem]) rfl ?_;exact⟨by rw[z.o];rfl,I.o⟩
 have z:=hY (show QdM (QaW m 1)=Qev (QaW m 1)by unfold QdM;rw[ef h]);go_in;clear h;go_wp2_with(refine Qak rfl (.tmp 0) rfl B 0 rfl m c HB.o ?_);refine(U.o.mono λe W h=>(show e=Qev (QaW m 1)/\Nw _ W from⟨by rw[h.1,z.o],h.2⟩)).mono ?_;rintro e w1 ⟨rfl,D⟩;have I:=hY D;clear D;go_wp2_with fail;exact⟨rfl,z.o.symm,I.o⟩
theorem QmC{m:Mu}(hC:MuC w B 0 m c)(hm:RMu w (Lt w) m c)(ht:QcF m<=1100000)(hL:Qb9 w) :
  Calls prog 71 #[.func (.func 72) #[] #[.pointer (some ⟨B,0,none⟩)]] w λe w'=>e=.returned (.int .i64 (QaW m 1))/\Nw w w':=by
 have a1:∀(fn:Fn) (first U:Array Value) (w:World),(Instr.makeFunc fn first U).run prog w=.ok (.func fn first U) w:=λ_ _ _ _=>rfl
 have Y:=(fv w).alloc #[.int .i64 0] 43;have D:=hY (fx Y);have X:=hY (fA w 43 #[.int .i64 0]);have HC:=hY (Qq4 (hC.nw D.o) (hm.nw D.o) ht (hL.nw D.o));clear hC hm ht hL Y;by_cases h:QaW m 1=0
 ·have HE:=hY h
  clear h;go_enter_defers func71,ntmps71;go_wp2_with fail;refine(HC.o.mono λe W h=>(show e=.returned (.tuple #[])/\Nw _ W from⟨by rw[h.1,HE.o];rfl,h.2⟩)).mono ?_;rintro e w1 ⟨rfl,N⟩;have z:=N.blk X.o;have c1:w1.cell? ⟨w,0,none⟩=some (.int .i64 0):=z.cell 0;have f1:=z.frozen 0;have l1:=z.lt;have R:=hY (D.o.trans N);have J:=hY z;clear N z;go_wp2_with fail;generalize hW:World.setCell _ _ _=W;have hs:Sb (λi=>i=w.heap.size) w1 W:=by rw[<-hW];exact(fD (λi=>i=w.heap.size) w1).set (p:=⟨w,0,none⟩) (.inr rfl) _
  have Z:Blk W w.heap.size 43 #[.int .i64 0]:=by rw[<-hW];exact J.o.Qdz 0 (.int .i64 0)
  clear hW c1 f1 l1;have HS:=hY (show Nw w W from R.o.comp hs λi hi e=>by omega);have a0:=hY Z;clear hs Z;refine eR (f:=116) (args:=#[.pointer (some ⟨w,0,none⟩)]) (by simp) (by simp[go_sem]) ?_;refine(QkB ⟨w,0,none⟩ _).mono ?_;rintro e u' I ⟨rfl,rfl,rfl⟩;have c2:I.cell? ⟨w,0,none⟩=some (.int .i64 0):=a0.o.cell 0;have hE:=HE.o;have hS:=HS.o;simp[Leaves,settle,results,results71,go_sem,c2,hE,hS]
 have HE:=hY (show QdM (QaW m 1)=Qev (QaW m 1)by unfold QdM;rw[ef h]);clear h;go_enter_defers func71,ntmps71;go_wp2_with fail;refine(HC.o.mono λe W h=>(show e=Qev (QaW m 1)/\Nw _ W from⟨by rw[h.1,HE.o],h.2⟩)).mono ?_;rintro e w1 ⟨rfl,N⟩;have J:=hY (N.blk X.o);have R:=hY (D.o.trans N);clear N;go_wp2_with fail;refine eR (f:=116) (args:=#[.pointer (some ⟨w,0,none⟩)]) (by simp) (by simp[go_sem]) ?_;refine(QmD w.heap.size (QaW m 1) _ J.o).mono ?_;rintro e u' I ⟨rfl,rfl,hs,hb⟩;have c2:I.cell? ⟨w,0,none⟩=some (.int .i64 (QaW m 1)):=hb.cell 0;have hS:Nw w I:=R.o.comp hs λi hi e=>by omega
 simp[Leaves,settle,results,results71,go_sem,c2,hS]
theorem Qq6{m:Mu}(hm:RMu w (Lt w) m c)(ht:QcF m<=1100000)(hL:Qb9 w):Calls prog 45 #[QaG m c] w λe w'=>e=.returned (.int .i64 (QbE m))/\Nw w w':=by
 have Z:QaT m<=1100000:=al (QrH m) ht;have a3:∀(fn:Fn) (first R:Array Value) (w:World),(Instr.makeFunc fn first R).run prog w=.ok (.func fn first R) w:=λ_ _ _ _=>rfl
 have HM:=hY hm;have HT:=hY ht;have HL:=hY hL;have a0:=hY Z;clear hm ht hL Z;go_in;go_upto_region 1 with fail;generalize N:World.alloc _ _=W0;obtain⟨J,Y,a1⟩:=Qaz (m:=m) (c:=c) N;have X:=hY J;have U:=hY Y;clear N J Y a1;go_wp2_with(refine Qak rfl (.tmp 1) rfl w.heap.size 0 rfl m c U.o ?_);refine(QpT (HM.o.nw (fx X.o)) a0.o).mono ?_;rintro e w1 ⟨rfl,I⟩;have D:=hY (X.o.trans I);have a2:=hY (U.o.ext I);clear I;by_cases z:64<QaT m
 ·have g:decide ((64:Int)<(QaT m:Int))=true:=ej (by omega)
  have HE:=hY (show QbE m=6 by unfold QbE;rw[em z]);clear z;go_wp2_with fail;go_ret;exact⟨by rw[HE.o]<;>rfl,fx D.o⟩
 have g:decide ((64:Int)<(QaT m:Int))=false:=eh (by omega);have HE:=hY (show QbE m=QaW m 1 by unfold QbE;rw[ef z]);clear z;go_wp2_with fail;refine(QmC a2.o (HM.o.nw (fx D.o)) HT.o (HL.o.nw (fx D.o))).mono ?_;rintro e w2 ⟨rfl,hn⟩;have HN:=hY ((fx D.o).trans hn);clear hn;go_wp2_with fail;go_ret;exact⟨by rw[HE.o]<;>rfl,HN.o⟩
variable{W:World}{s:Sl}
theorem QtS{base:Nat}{xs:List WV}(I:W.ownsRow base 28 6 (.slice s.a xs.length s.c) xs.length (QbV xs))(U:∀x∈xs,RV W (Lt W) x.v x.sl x.so)(R:xs.length*88<=140737488355328) :
  RV W (Lt W) (Qf2 (xs.map WV.v)) s Sl.none:=by
 obtain⟨b,o,J,N⟩:=Ql7 (fE I);have D:∀(j:Nat) (d:Val),(xs.map WV.v)[j]? = some d->∃x,xs[j]? = some x/\x.v=d:=λj d hd=>by
  rw[aq]at hd;cases z:xs[j]? with
  |none=>rw[z]at hd;cases hd
  |some x=>rw[z]at hd;exact⟨x,rfl,by injection hd⟩
 refine .mk b o 0 0 (λj=>((xs.getD j ⟨zeroV,Sl.none,Sl.none⟩).sl,(xs.getD j ⟨zeroV,Sl.none,Sl.none⟩).so)) (λ_=>(Sl.none,Sl.none)) (by rw[ao];exact J.mono λi h=>h.2) (.nil _ _) rfl ?_ ?_ (λj k h=>by simp at h) (λj d h=>by simp at h) (λj d h=>by simp at h) (by decide) (by decide) (by decide) (by rw[ao];exact R) (by simp)
 ·intro j d hd
  obtain⟨x,z,rfl⟩:=D j d hd;have e:xs.getD j ⟨zeroV,Sl.none,Sl.none⟩=x:=by rw[db,z];rfl
  rw[e];exact N j x z
 intro j d hd;obtain⟨x,z,rfl⟩:=D j d hd;have e:xs.getD j ⟨zeroV,Sl.none,Sl.none⟩=x:=by rw[db,z];rfl
 rw[e];exact U x (am z)
theorem RVC.row{d:Val}(h:RVC w F d sl so):∃xs:List WV,xs.map WV.v=d.l/\sl.c=xs.length/\(sl.a=none->xs.length=0)/\(∀x∈xs,RV w F x.v x.sl x.so)/\
  (∀b,sl.a=some b->∀j u,(QbV xs)[j]? = some u->w.cell? (b.add j)=some u)/\xs.length*88<=140737488355328:=by
 have z:=h.cap;have Z:=h.rv;cases Z with
 | mk bl fl bo fo cl co hl ho hov el rl ek eo ro bk bi bt nl no=>
   rename_i kind b i t l ok ov;have z:sl.c=l.length:=z;have Y:=QtQ (w:=w) (xs:=wl l cl) (by rw[Qeu];exact hl) λj x X=>by
    obtain⟨J,D,U⟩:=QrL X;rw[D,U];exact el j _ J
   refine⟨wl l cl,QuL l cl,by rw[Qeu];exact z,λe=>?_,λx X=>?_,λa ha j u hu=>?_,by rw[Qeu];exact nl⟩
   ·rw [Qeu]
    rcases Nat.eq_zero_or_pos l.length with N|N
    .exact N
    have:=(hl.eq N).1;rw[e]at this;cases this
   ·obtain ⟨j,hj⟩:=bv X
    obtain⟨J,D,U⟩:=QrL hj;rw[D,U];exact rl j _ J
   obtain⟨b',o',h1,h2,h3⟩:=Y;have R:=(ah.1 hu).1;rw[QeU,Qeu]at R;have I:0<l.length:=by omega
   rw[Qeu]at h1;have J:=(hl.eq I).1;have D:=(h1.eq I).1;rw[ha]at D;injection D with D;rw[D,Qbu];exact h3 j u hu
theorem QpW{base e size n:Nat}{v:Value}{xs:List Value}(h:w.ownsRow base e size v n xs):∃s:Sl,v=.slice s.a n s.c:=by
 rcases h.2 with⟨rfl,rfl⟩ |⟨g,z,D,rfl,_⟩
 .exact ⟨Sl.none,rfl⟩
 exact⟨⟨some ⟨g,0,none⟩,z⟩,rfl⟩
variable{u:Value}
theorem Ext.addr(h:Ext w w'){a:Addr}(z:w.cell? a=some u):w'.cell? a=some u:=
 (eS (w:=w) (a:=a) ((h.sb (λ_=>False)).block a.block (eH w _ z) λe=>e)).trans z
theorem Qsn(l:List Val)(x:Val):Qb4 (Qf2 (l++[x]))=7+Qd4 l+Qb4 x:=by
 have:∀l:List Val,Qd4 (l++[x])=Qd4 l+Qb4 x:=λl=>by
  induction l with
  |nil=>simp[Qd4]
  |cons a r ih=>rw[aF,Qd4,Qd4,ih];omega
 show Qb4 (.mk 5 false 0 ByteArray.empty (l++[x]) [] [])=_;rw[Qb4,this,QfR];show 7+0+(Qd4 l+Qb4 x)+0=_;omega
theorem Qsm(v:Val):Qd4 v.l<=Qb4 v:=by
 obtain⟨k,b,i,t,l,z,D⟩:=v;rw[Qb4];show Qd4 l<=_;omega
theorem Qtg(M:List Ent)(k:ByteArray)(v:Val):Qqk M k v=if(Qam M k).isSome=true/\((Qam M k).getD zeroV).kind≠5 then(9,M)else Qma M k ((Qam M k).getD zeroV).l v:=by
 unfold Qqk;cases Qam M k with
 |none=>rfl
 |some y=>by_cases h:y.kind=5<;>simp[h]
theorem QiS.Qd4{B:List Ent}{C:Slots}(h:QiS B C M)(k:ByteArray):Qd4 ((Qam M k).getD zeroV).l<=7168:=by
 cases z:Qam M k with
 |none=>exact aw _
 |some y=>exact al (Qsm y) (h.ok.get z).2.cnt
theorem Qmy{k:ByteArray}{v:Val}(h:OvX H w O d M)(hH:∀b,H b->b<w)(hn:d.us.length<=1000000)(hl:(Qab d.T).length<=1000000)(c4:k.size<=maxLen)
  (hv:RV w (Lt w) v sl so) (hc:Qb4 v<=1092000) (hL:Qb9 w) :
  Calls prog 77 #[.pointer (some ⟨O,0,none⟩),.string k,Qbg v sl so] w λe w'=>e=.returned (.int .i64 (Qqk M k v).1)/\∃d',GoX H w O d (Qqk M k v).2 1 w' d':=by
 have c7:=(fv w).alloc #[.int .i64 v.kind,.bool v.b,.int .i64 v.i,.string v.t,.slice sl.a v.l.length sl.c,.slice so.a v.ok.length so.c] 28;have d7:=fA w 28 #[.int .i64 v.kind,.bool v.b,.int .i64 v.i,.string v.t,.slice sl.a v.l.length sl.c,.slice so.a v.ok.length so.c];have b8:=Qto (h.nw (fx c7)) hl c4;have a9:(w.alloc (.cells #[.int .i64 v.kind,.bool v.b,.int .i64 v.i,.string v.t,.slice sl.a v.l.length sl.c,.slice so.a v.ok.length so.c] 28)).heap.size=w.heap.size+1:=ey _ _;have HH:=hY h;have HL:=hY hL;have HV:=hY hv;have HC:=hY hc;have g6:=hY c4;have g9:=hY hn;have f1:=hY hH;have g0:=hY c7;have f5:=hY d7;have i4:=hY a9;have HG:=hY b8;have J:=Qtg M k v;have c2:=HH.o.rel.Qd4 k;obtain⟨r,hr⟩:∃r,Qqk M k v=r:=⟨_,rfl⟩;rw[hr]at J ⊢;obtain⟨y,hy⟩:∃y,(Qam M k).getD zeroV=y:=⟨_,rfl⟩;obtain⟨g,hg⟩:∃g,(Qam M k).isSome=g:=⟨_,rfl⟩;rw[hy,hg]at J;rw[hy]at c2;have HY:=hY hy;have f8:=hY hg;have a5:=hY J;have g8:=hY c2;obtain⟨i0,hi,f0,f7,i2⟩:=eG Tryz.QgL;clear h hL hv hc c4 hn hH c7 d7 a9 b8 hl hy hg J c2 hr;go_in;go_wp2_with fail;refine HG.o.mono ?_;rintro e w1 ⟨s1,s2,rfl,c1,c0⟩;rw[HY.o,f8.o];rw[HY.o]at c0;have f3:=hY c0;have e1:=hY (g0.o.trans c1);have f9:=hY (f5.o.ext c1);clear c1 c0;go_upto_region 2 with fail;have U:=(fv w1).alloc #[.int .i64 y.kind,.bool y.b,.int .i64 y.i,.string y.t,.slice s1.a y.l.length s1.c,.slice s2.a y.ok.length s2.c] 28;have a1:=fA w1 28 #[.int .i64 y.kind,.bool y.b,.int .i64 y.i,.string y.t,.slice s1.a y.l.length s1.c,.slice s2.a y.ok.length s2.c];generalize i1:World.alloc _ _=w2 at U a1 ⊢;have e4:=hY (e1.o.trans U);have e6:=hY U;have R:=hY (f9.o.ext U);have k0:w2.cell? ⟨w1,0,none⟩=some (.int .i64 y.kind):=a1.cell 0;have k4:w2.cell? ⟨w1,4,none⟩=some (.slice s1.a y.l.length s1.c):=a1.cell 4;clear i1 U a1;by_cases z:g=true/\y.kind≠5
 ·have g1:=z.1
  have g2:(y.kind==5)=false:=eu.2 z.2;have HR:=hY (a5.o.trans (em z));clear z;subst g1;go_wp2_with fail;go_ret;exact⟨by rw[HR.o]<;>rfl,d,by rw[HR.o];exact HH.o.stay (fx e4.o)⟩
 have HR:=hY (a5.o.trans (ef z));go_cut [20] (λq w'=>q=.bool false/\w'=w2)
 case first=>
  cases g with
  | false=>
    clear z;go_wp2_with fail;go_meet;exact⟨rfl,rfl⟩
  | true=>
    have g2:(y.kind==5)=true:=by
     by_cases h5:y.kind=5
     .simp [h5]
     exact absurd ⟨rfl,h5⟩ z
    clear z;go_wp2_with fail;go_meet;exact⟨by rw[show(y.kind != 5)=false by rw[bne,g2];rfl],rfl⟩
 obtain⟨rfl,hw⟩:=hcut;subst hw;clear z k0;by_cases I:256<=y.l.length
 ·have g3:decide ((256:Int)≤(y.l.length:Int))=true:=ej (by omega)
  have g4:(256:Int)<=(y.l.length:Int):=by omega
  have Z:=hY (HR.o.trans (show Qma M k y.l v=(6,M)by unfold Qma;rw[em I]));clear I;go_wp2_with fail;go_ret;exact⟨by rw[Z.o]<;>rfl,d,by rw[Z.o];exact HH.o.stay (fx e4.o)⟩
 have g3:decide ((256:Int)<=(y.l.length:Int))=false:=eh (by omega);have g4:¬(256:Int)<=(y.l.length:Int):=by omega
 have Z:=hY (HR.o.trans (show Qma M k y.l v=setMu M k (Qf2 (y.l++[v]))by unfold Qma;rw[ef I]));have d6:=hY I;clear I;obtain⟨xs,c3,a3,b7,c9,d0,i3⟩:=(f3.o).row;have b0:wc.cell? ⟨w,0,none⟩=some (.int .i64 v.kind):=R.o.cell 0;have b1:wc.cell? ⟨w,1,none⟩=some (.bool v.b):=R.o.cell 1;have b2:wc.cell? ⟨w,2,none⟩=some (.int .i64 v.i):=R.o.cell 2;have b3:wc.cell? ⟨w,3,none⟩=some (.string v.t):=R.o.cell 3;have b4:wc.cell? ⟨w,4,none⟩=some (.slice sl.a v.l.length sl.c):=R.o.cell 4;have b5:wc.cell? ⟨w,5,none⟩=some (.slice so.a v.ok.length so.c):=R.o.cell 5;have X:y.l.length=xs.length:=by rw[<-c3,ao]
 rw[X]at k4;have d5:=hY X;have g5:=hY c3;have f2:=hY c9;have a6:=hY a3;have a4:=hY b7;have e8:=(fv wc).alloc #[.int .i64 v.kind,.bool v.b,.int .i64 v.i,.string v.t,.slice sl.a v.l.length sl.c,.slice so.a v.ok.length so.c] 28;have e3:=hY (fA wc 28 #[.int .i64 v.kind,.bool v.b,.int .i64 v.i,.string v.t,.slice sl.a v.l.length sl.c,.slice so.a v.ok.length so.c]);have c6:=hY e8;have f4:=hY d0;have i5:xs.length<=255:=by have:=d6.o;omega
 clear c3 c9 a3 b7 X e8 d0 g3 g4;generalize hA:(Obj.cells #[.int .i64 v.kind,.bool v.b,.int .i64 v.i,.string v.t,.slice sl.a v.l.length sl.c,.slice so.a v.ok.length so.c] 28)=A3 at c6 e3;have Q1:=hY (show s1.a=none->xs.length=0/\s1.c=0 fromλe=>⟨a4.o e,a6.o.trans (a4.o e)⟩);have Q2:=hY (show ∀b,s1.a=some b->∀j u,(QbV xs)[j]? = some u->(wc.alloc A3).cell? (b.add j)=some u fromλb hb j u hu=>c6.o.addr (e6.o.addr (f4.o b hb j u hu)));have Q3:=hY (show ∀j u,(⟨v,sl,so⟩:WV).cells[j]? = some u->(wc.alloc A3).cell? ((⟨wc,0,none⟩:Addr).add j)=some u fromλj u hu=>by rw[Qbu,aA,e3.o.cell];simpa[WV.cells]using hu);have Q4:=hY (show s1.c<xs.length+1 by rw[a6.o];exact dj _);have Q5:=hY (show xs.length+1<=maxLen by unfold maxLen;omega);have Q6:=hY (show(xs.length+1)*88<=140737488355328 by omega);subst hA;go_wp2_with(at_builtin;refine wpList_append_grows _ rfl (.tmp 28) (.tmp 30) 25 rfl 28 i0 _ 6 88 underlying25 hi f0 f7 i2 rfl (by decide) s1.a xs.length s1.c (QbV xs) rfl Q1.out (QeU xs) Q2.out ⟨wc,0,none⟩ 1 1 (⟨v,sl,so⟩:WV).cells rfl rfl Q3.out (WV.one _) Q4.out Q5.out Q6.out ?_;intro v4 w4 Y e0;obtain⟨s',rfl⟩:=QpW Y;have d3:=hY Y;have g7:=hY (Sb.made (H:=λ_=>False) e0);clear Y e0);have N:Nw w1 _:=(fx (e6.o.trans c6.o)).trans g7.o;have D:Nw w _:=(fx e1.o).trans N;have d4:∀x∈xs++[(⟨v,sl,so⟩:WV)],RV _ (Lt _) x.v x.sl x.so:=λx hx=>by
  rcases aB.1 hx with hx|hx
  .exact ((f2.o x hx).agree (fB N λb hb=>hb.2)).mono λb hb=>ab hb.2 N.size
  obtain rfl:x=⟨v,sl,so⟩:=by simpa using hx
  exact(HV.o.agree (fB D λb hb=>hb)).mono λb hb=>ab hb D.size
 have a0:=QtS (xs:=xs++[(⟨v,sl,so⟩:WV)]) (s:=s') (by rw[ak,QmN];exact d3.o) d4 (by rw[ak];show(xs.length+1)*88<=_;omega);have a2:(xs++[(⟨v,sl,so⟩:WV)]).map WV.v=y.l++[v]:=by rw[aL,g5.o];rfl
 rw[a2]at a0;have b6:=Qql (k:=k) (HH.o.nw D) (λb hb=>ab (f1.o b hb) D.size) g9.o g6.o a0 (by rw[Qsn];have:=g8.o;have:=HC.o;omega) (HL.o.nw D);have e7:xs.length+1=(Qf2 (y.l++[v])).l.length:=by show _=(y.l++[v]).length;rw[ak,d5.o];rfl
 have d8:=hY b6;have e2:=hY D;clear N D d4 a0 a2 b6;rw[e7];clear e7;refine d8.o.mono ?_;rintro e w5 ⟨rfl,d',c8⟩;have f6:=hY (c8.since e2.o);clear c8;go_wp2_with fail;go_ret;exact⟨by rw[Z.o]<;>rfl,d',by rw[Z.o];exact f6.o⟩
end Go.Proofs.YtkjkafgnnoidpaaGreatDoor
