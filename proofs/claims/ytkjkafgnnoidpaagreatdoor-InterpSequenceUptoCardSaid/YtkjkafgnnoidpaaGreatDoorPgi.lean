/- What the theorem needs of the texts Int1, HeldL, MuW, Int2, MutN, MutB, MuX, MutS, MutK, MutF, MutL, MutC, Int3: no condition of its own. -/
import Derived.Test.YtkjkafgnnoidpaaGreatDoorPgh
set_option linter.unusedVariables false
set_option linter.unusedSimpArgs false
set_option linter.unnecessarySimpa false
set_option maxRecDepth 100000
set_option maxHeartbeats 2000000
namespace Go.Proofs.YtkjkafgnnoidpaaGreatDoor
open Go.Proofs.Tryz
open Go.RowKit Go.Maps Go.Shelf
theorem Qtp{q:Int}(h:(Lit.int .i64 q).wf=true) : -9223372036854775808<=q/\q<=9223372036854775807:=by
 have h1:IntKind.i64.min = -9223372036854775808:=by decide
 have h2:IntKind.i64.max=9223372036854775807:=by decide
 simp[Lit.wf,h1,h2]at h;omega
variable{w:World}{F:Nat->Prop}{sl so:Sl}
theorem RV.int{d:Val}(h:RV w F d sl so) : -9223372036854775808<=d.i/\d.i<=9223372036854775807:=by
 cases h with
 |mk bl fl bo fo cl co hl ho hov el rl ek eo ro bk bi bt nl no=>exact Qtp bi
variable{H:Nat->Prop}{O:Nat}{d:OD}{M:List Ent}{c:MuS}
theorem Qmc{m:Mu}(h:OvX H w O d M)(hl:(Qab d.T).length<=1000000)(hm:RMu w (Lt w) m c) :
  Calls prog 79 #[.pointer (some ⟨O,0,none⟩),QaG m c] w λe w'=>e=.returned (.bool (asM M m.k m.had m.was))/\Ext w w':=by
 obtain⟨w1,w2,v1,v2,s⟩:=c;cases hm with
 |@mk kd k tk i had was has v l _ bl fl cl rw_ rv hl' el rl bk bt bkd bi nl=>
 show Calls _ _ #[_,.agg #[.int .i64 kd,.string k,.string tk,.int .i64 i,.bool had,.int .i64 was.kind,.bool was.b,.int .i64 was.i,.string was.t,.slice w1.a was.l.length w1.c,.slice w2.a was.ok.length w2.c,.bool has,.int .i64 v.kind,.bool v.b,.int .i64 v.i,.string v.t,.slice v1.a v.l.length v1.c,.slice v2.a v.ok.length v2.c,.slice s.a l.length s.c]] _ λe w'=>e=.returned (.bool (asM M k had was))/\Ext w w'
 have a0:=(fu w).alloc #[.int .i64 kd,.string k,.string tk,.int .i64 i,.bool had,.int .i64 was.kind,.bool was.b,.int .i64 was.i,.string was.t,.slice w1.a was.l.length w1.c,.slice w2.a was.ok.length w2.c,.bool has,.int .i64 v.kind,.bool v.b,.int .i64 v.i,.string v.t,.slice v1.a v.l.length v1.c,.slice v2.a v.ok.length v2.c,.slice s.a l.length s.c] 31;have L:=Qto (h.nw (fv a0)) hl bk;have RW:=hY rw_;have X:=hY a0;have Z:=hY (fx w 31 #[.int .i64 kd,.string k,.string tk,.int .i64 i,.bool had,.int .i64 was.kind,.bool was.b,.int .i64 was.i,.string was.t,.slice w1.a was.l.length w1.c,.slice w2.a was.ok.length w2.c,.bool has,.int .i64 v.kind,.bool v.b,.int .i64 v.i,.string v.t,.slice v1.a v.l.length v1.c,.slice v2.a v.ok.length v2.c,.slice s.a l.length s.c]);clear a0 h rw_ rv hl' el rl bk bt bkd bi nl;cases Y:Qam M k with
 | none=>
   rw[Y]at L;cases had with
   | false=>
     have J:asM M k false was=(true):=by unfold asM;rw[Y];rfl
     rw[J];have R:=hY L;clear J L Y;go_in;go_wp2_with fail;refine R.o.mono ?_;rintro e D ⟨sl,so,rfl,I,U⟩;have z:=Z.o.ext I;have c4:D.cell? ⟨w,4,none⟩=some (.bool false):=z.cell 4;have c5:D.cell? ⟨w,5,none⟩=some (.int .i64 was.kind):=z.cell 5;have c6:D.cell? ⟨w,5+1,none⟩=some (.bool was.b):=z.cell 6;have c7:D.cell? ⟨w,5+2,none⟩=some (.int .i64 was.i):=z.cell 7;have c8:D.cell? ⟨w,5+3,none⟩=some (.string was.t):=z.cell 8;have c9:D.cell? ⟨w,5+4,none⟩=some (.slice w1.a was.l.length w1.c):=z.cell 9;have a1:D.cell? ⟨w,5+5,none⟩=some (.slice w2.a was.ok.length w2.c):=z.cell 10;have l1:=z.lt;have N:Ext D (D.alloc (.cells #[.int .i64 zeroV.kind,.bool zeroV.b,.int .i64 zeroV.i,.string zeroV.t,.slice sl.a zeroV.l.length sl.c,.slice so.a zeroV.ok.length so.c] 28)):=(fu D).alloc _ _;have HX:=hY ((X.o.trans I).trans N);clear I U z N;go_wp2_with fail;go_ret;exact⟨rfl,HX.o⟩
   | true=>
     have J:asM M k true was=(false):=by unfold asM;rw[Y];rfl
     rw[J];have R:=hY L;clear J L Y;go_in;go_wp2_with fail;refine R.o.mono ?_;rintro e D ⟨sl,so,rfl,I,U⟩;have z:=Z.o.ext I;have c4:D.cell? ⟨w,4,none⟩=some (.bool true):=z.cell 4;have c5:D.cell? ⟨w,5,none⟩=some (.int .i64 was.kind):=z.cell 5;have c6:D.cell? ⟨w,5+1,none⟩=some (.bool was.b):=z.cell 6;have c7:D.cell? ⟨w,5+2,none⟩=some (.int .i64 was.i):=z.cell 7;have c8:D.cell? ⟨w,5+3,none⟩=some (.string was.t):=z.cell 8;have c9:D.cell? ⟨w,5+4,none⟩=some (.slice w1.a was.l.length w1.c):=z.cell 9;have a1:D.cell? ⟨w,5+5,none⟩=some (.slice w2.a was.ok.length w2.c):=z.cell 10;have l1:=z.lt;have N:Ext D (D.alloc (.cells #[.int .i64 zeroV.kind,.bool zeroV.b,.int .i64 zeroV.i,.string zeroV.t,.slice sl.a zeroV.l.length sl.c,.slice so.a zeroV.ok.length so.c] 28)):=(fu D).alloc _ _;have HX:=hY ((X.o.trans I).trans N);clear I U z N;go_wp2_with fail;go_ret;exact⟨rfl,HX.o⟩
 | some x=>
   rw[Y]at L;cases had with
   | false=>
     have J:asM M k false was=(false):=by unfold asM;rw[Y];rfl
     rw[J];have R:=hY L;clear J L Y;go_in;go_wp2_with fail;refine R.o.mono ?_;rintro e D ⟨sl,so,rfl,I,U⟩;have z:=Z.o.ext I;have c4:D.cell? ⟨w,4,none⟩=some (.bool false):=z.cell 4;have c5:D.cell? ⟨w,5,none⟩=some (.int .i64 was.kind):=z.cell 5;have c6:D.cell? ⟨w,5+1,none⟩=some (.bool was.b):=z.cell 6;have c7:D.cell? ⟨w,5+2,none⟩=some (.int .i64 was.i):=z.cell 7;have c8:D.cell? ⟨w,5+3,none⟩=some (.string was.t):=z.cell 8;have c9:D.cell? ⟨w,5+4,none⟩=some (.slice w1.a was.l.length w1.c):=z.cell 9;have a1:D.cell? ⟨w,5+5,none⟩=some (.slice w2.a was.ok.length w2.c):=z.cell 10;have l1:=z.lt;have N:Ext D (D.alloc (.cells #[.int .i64 x.kind,.bool x.b,.int .i64 x.i,.string x.t,.slice sl.a x.l.length sl.c,.slice so.a x.ok.length so.c] 28)):=(fu D).alloc _ _;have HX:=hY ((X.o.trans I).trans N);clear I U z N;go_wp2_with fail;go_ret;exact⟨rfl,HX.o⟩
   | true=>
     have J:asM M k true was=(decide (Qbo x was=0)):=by unfold asM;rw[Y];rfl
     rw[J];have R:=hY L;clear J L Y;go_in;go_wp2_with fail;refine R.o.mono ?_;rintro e D ⟨sl,so,rfl,I,U⟩;have z:=Z.o.ext I;have c4:D.cell? ⟨w,4,none⟩=some (.bool true):=z.cell 4;have c5:D.cell? ⟨w,5,none⟩=some (.int .i64 was.kind):=z.cell 5;have c6:D.cell? ⟨w,5+1,none⟩=some (.bool was.b):=z.cell 6;have c7:D.cell? ⟨w,5+2,none⟩=some (.int .i64 was.i):=z.cell 7;have c8:D.cell? ⟨w,5+3,none⟩=some (.string was.t):=z.cell 8;have c9:D.cell? ⟨w,5+4,none⟩=some (.slice w1.a was.l.length w1.c):=z.cell 9;have a1:D.cell? ⟨w,5+5,none⟩=some (.slice w2.a was.ok.length w2.c):=z.cell 10;have l1:=z.lt;have N:Ext D (D.alloc (.cells #[.int .i64 x.kind,.bool x.b,.int .i64 x.i,.string x.t,.slice sl.a x.l.length sl.c,.slice so.a x.ok.length so.c] 28)):=(fu D).alloc _ _;have HX:=hY ((X.o.trans I).trans N);have a3:=Qdt (w:=D.alloc (.cells #[.int .i64 x.kind,.bool x.b,.int .i64 x.i,.string x.t,.slice sl.a x.l.length sl.c,.slice so.a x.ok.length so.c] 28)) ((U.agree (N.agree λb hb=>hb.2)).mono λb hb=>ab hb.2 N.size) ((RW.out.agree (((X.o.trans I).trans N).agree λ_ h=>h)).mono λb hb=>ab hb ((X.o.trans I).trans N).size);have a4:=hY a3;clear a3;clear I U z N;go_wp2_with fail;refine a4.o.mono ?_;rintro e W3 ⟨rfl,a2⟩;have a5:=hY (HX.o.trans a2);clear a2;go_wp2_with fail;go_ret;exact⟨rfl,a5.o⟩
theorem QlK{n b:Int}(z : -9223372036854775808<=n/\n<=9223372036854775807)(D : -9223372036854775808<=b/\b<=9223372036854775807) :
  ((0<b/\9223372036854775807-b<n)->wrap64 (n+b)<n)/\((b<0/\n < -9223372036854775808-b)->n<wrap64 (n+b))/\(¬((0<b/\9223372036854775807-b<n)\/(b<0/\n < -9223372036854775808-b))->wrap64 (n+b)=n+b):=by
 unfold wrap64;refine⟨λh=>?_,λh=>?_,λh=>?_⟩<;>omega
theorem QoN{k:ByteArray}{by_:Int}{x:Val}(z:Qam M k=some x)(h:x.kind≠3):Qeo M k by_=(9,M):=by
 unfold Qeo;rw[z];exact em h
theorem Qsx{k:ByteArray}{by_:Int}(h:OvX H w O d M)(hH:∀b,H b->b<w)(hn:d.us.length<=1000000)(hl:(Qab d.T).length<=1000000)(a4:k.size<=maxLen)
  (b3 : -9223372036854775808<=by_/\by_<=9223372036854775807) (hL:Qb9 w) :
  Calls prog 75 #[.pointer (some ⟨O,0,none⟩),.string k,.int .i64 by_] w λe w'=>e=.returned (.int .i64 (Qeo M k by_).1)/\∃d',GoX H w O d (Qeo M k by_).2 1 w' d':=by
 have Z:=Qto h hl a4;have HH:=hY h;have HL:=hY hL;obtain⟨r,hr⟩:∃r,Qeo M k by_=r:=⟨_,rfl⟩;rw[hr];have HR:=hY hr;clear h hL hl hr;cases hg:Qam M k with
 | none=>
   rw[hg]at Z;have HG:=hY hg;have a5:=hY Z;clear hg Z;go_in;go_wp2_with fail;refine a5.o.mono ?_;rintro e W1 ⟨sl,so,rfl,a1,a6⟩;have a2:Ext W1 (W1.alloc (.cells #[.int .i64 zeroV.kind,.bool zeroV.b,.int .i64 zeroV.i,.string zeroV.t,.slice sl.a zeroV.l.length sl.c,.slice so.a zeroV.ok.length so.c] 28)):=(fu W1).alloc _ _;have U:=hY (a1.trans a2);have X:=hY (QlK (n:=zeroV.i) (b:=by_) (by decide) b3);clear a1 a2 a6;by_cases hs:0<by_/\9223372036854775807-by_<zeroV.i
   ·skip
    have f1:(0:Int)<by_:=hs.1;have f2:wrap64 (zeroV.i+by_)<zeroV.i:=X.o.1 hs;have a0:decide ((0:Int)<by_)=true:=ej f1;have a9:decide (wrap64 (zeroV.i+by_)<zeroV.i)=true:=ej f2;have D:Qeo M k by_=(7,M):=by unfold Qeo;rw[HG.o];exact em (.inl hs)
    have z:=hY (HR.o.symm.trans D);clear hs D;go_wp2_with fail;go_ret;exact⟨by rw[z.o]<;>rfl,d,by rw[z.o];exact HH.o.stay (fv U.o)⟩
   by_cases hs:by_<0/\zeroV.i < -9223372036854775808-by_
   ·skip
    have f1:¬(0:Int)<by_:=by omega
    have f3:by_<0:=hs.1;have f4:zeroV.i<wrap64 (zeroV.i+by_):=X.o.2.1 hs;have a0:decide ((0:Int)<by_)=false:=eh f1;have a3:decide (by_<0)=true:=ej f3;have b0:decide (zeroV.i<wrap64 (zeroV.i+by_))=true:=ej f4;have D:Qeo M k by_=(7,M):=by unfold Qeo;rw[HG.o];exact em (.inr hs)
    have z:=hY (HR.o.symm.trans D);clear hs D;go_wp2_with fail;go_ret;exact⟨by rw[z.o]<;>rfl,d,by rw[z.o];exact HH.o.stay (fv U.o)⟩
   have J:¬((0<by_/\9223372036854775807-by_<zeroV.i)\/(by_<0/\zeroV.i < -9223372036854775808-by_)):=by omega
   by_cases hs:0<by_
   ·skip
    have f1:(0:Int)<by_:=hs;have f3:¬by_<0:=by omega
    have f2:¬wrap64 (zeroV.i+by_)<zeroV.i:=by rw[X.o.2.2 J];omega
    have a0:decide ((0:Int)<by_)=true:=ej f1;have a3:decide (by_<0)=false:=eh f3;have a9:decide (wrap64 (zeroV.i+by_)<zeroV.i)=false:=eh f2;have hw:wrap64 (zeroV.i+by_)=(0:Int)+by_:=X.o.2.2 J;have D:Qeo M k by_=setMu M k (QlO (wrap64 (zeroV.i+by_))):=by unfold Qeo;rw[HG.o,hw];exact ef J
    have R : -9223372036854775808<=wrap64 (zeroV.i+by_)/\wrap64 (zeroV.i+by_)<=9223372036854775807:=by unfold wrap64;omega
    have z:=hY (HR.o.symm.trans D);have I:=Qql (v:=QlO (wrap64 (zeroV.i+by_))) (sl:=Sl.none) (so:=Sl.none) (HH.o.nw (fv U.o)) (λb hb=>ab (hH b hb) U.o.size) hn a4 (RV.flat _ _ _ _ _ _ (by decide) (WalkArith.wf_i64 R) (by decide)) (show 7+0+0+0<=1100000 by decide) (HL.o.nw (fv U.o));have N:=hY I;clear hs hw D R I J;go_wp2_with fail;refine N.o.mono ?_;rintro e w2 ⟨rfl,d',L⟩;have Y:=hY (L.since (fv U.o));clear L;go_wp2_with fail;go_ret;exact⟨by rw[z.o]<;>rfl,d',by rw[z.o];exact Y.o⟩
   by_cases hs:by_<0
   ·skip
    have f1:¬(0:Int)<by_:=by omega
    have f3:by_<0:=hs;have f4:¬zeroV.i<wrap64 (zeroV.i+by_):=by rw[X.o.2.2 J];omega
    have a0:decide ((0:Int)<by_)=false:=eh f1;have a3:decide (by_<0)=true:=ej f3;have b0:decide (zeroV.i<wrap64 (zeroV.i+by_))=false:=eh f4;have hw:wrap64 (zeroV.i+by_)=(0:Int)+by_:=X.o.2.2 J;have D:Qeo M k by_=setMu M k (QlO (wrap64 (zeroV.i+by_))):=by unfold Qeo;rw[HG.o,hw];exact ef J
    have R : -9223372036854775808<=wrap64 (zeroV.i+by_)/\wrap64 (zeroV.i+by_)<=9223372036854775807:=by unfold wrap64;omega
    have z:=hY (HR.o.symm.trans D);have I:=Qql (v:=QlO (wrap64 (zeroV.i+by_))) (sl:=Sl.none) (so:=Sl.none) (HH.o.nw (fv U.o)) (λb hb=>ab (hH b hb) U.o.size) hn a4 (RV.flat _ _ _ _ _ _ (by decide) (WalkArith.wf_i64 R) (by decide)) (show 7+0+0+0<=1100000 by decide) (HL.o.nw (fv U.o));have N:=hY I;clear hs hw D R I J;go_wp2_with fail;refine N.o.mono ?_;rintro e w2 ⟨rfl,d',L⟩;have Y:=hY (L.since (fv U.o));clear L;go_wp2_with fail;go_ret;exact⟨by rw[z.o]<;>rfl,d',by rw[z.o];exact Y.o⟩
   have f1:¬(0:Int)<by_:=by omega
   have f3:¬by_<0:=by omega
   have a0:decide ((0:Int)<by_)=false:=eh f1;have a3:decide (by_<0)=false:=eh f3;have hw:wrap64 (zeroV.i+by_)=(0:Int)+by_:=X.o.2.2 J;have D:Qeo M k by_=setMu M k (QlO (wrap64 (zeroV.i+by_))):=by unfold Qeo;rw[HG.o,hw];exact ef J
   have R : -9223372036854775808<=wrap64 (zeroV.i+by_)/\wrap64 (zeroV.i+by_)<=9223372036854775807:=by unfold wrap64;omega
   have z:=hY (HR.o.symm.trans D);have I:=Qql (v:=QlO (wrap64 (zeroV.i+by_))) (sl:=Sl.none) (so:=Sl.none) (HH.o.nw (fv U.o)) (λb hb=>ab (hH b hb) U.o.size) hn a4 (RV.flat _ _ _ _ _ _ (by decide) (WalkArith.wf_i64 R) (by decide)) (show 7+0+0+0<=1100000 by decide) (HL.o.nw (fv U.o));have N:=hY I;clear hs hw D R I J;go_wp2_with fail;refine N.o.mono ?_;rintro e w2 ⟨rfl,d',L⟩;have Y:=hY (L.since (fv U.o));clear L;go_wp2_with fail;go_ret;exact⟨by rw[z.o]<;>rfl,d',by rw[z.o];exact Y.o⟩
 | some x=>
   rw[hg]at Z;have HG:=hY hg;have a5:=hY Z;clear hg Z;by_cases a7:x.kind=3
   ·have gk:(x.kind != 3)=false:=by simp [a7]
    have a8:=hY a7;clear a7;go_in;go_wp2_with fail;refine a5.o.mono ?_;rintro e W1 ⟨sl,so,rfl,a1,a6⟩;have a2:Ext W1 (W1.alloc (.cells #[.int .i64 x.kind,.bool x.b,.int .i64 x.i,.string x.t,.slice sl.a x.l.length sl.c,.slice so.a x.ok.length so.c] 28)):=(fu W1).alloc _ _;have U:=hY (a1.trans a2);have X:=hY (QlK (n:=x.i) (b:=by_) a6.rv.int b3);clear a1 a2 a6;by_cases hs:0<by_/\9223372036854775807-by_<x.i
    ·skip
     have f1:(0:Int)<by_:=hs.1;have f2:wrap64 (x.i+by_)<x.i:=X.o.1 hs;have a0:decide ((0:Int)<by_)=true:=ej f1;have a9:decide (wrap64 (x.i+by_)<x.i)=true:=ej f2;have D:Qeo M k by_=(7,M):=by unfold Qeo;rw[HG.o];dsimp only;rw[ef (by simp[a8.o])];exact em (.inl hs)
     have z:=hY (HR.o.symm.trans D);clear hs D;go_wp2_with fail;go_ret;exact⟨by rw[z.o]<;>rfl,d,by rw[z.o];exact HH.o.stay (fv U.o)⟩
    by_cases hs:by_<0/\x.i < -9223372036854775808-by_
    ·skip
     have f1:¬(0:Int)<by_:=by omega
     have f3:by_<0:=hs.1;have f4:x.i<wrap64 (x.i+by_):=X.o.2.1 hs;have a0:decide ((0:Int)<by_)=false:=eh f1;have a3:decide (by_<0)=true:=ej f3;have b0:decide (x.i<wrap64 (x.i+by_))=true:=ej f4;have D:Qeo M k by_=(7,M):=by unfold Qeo;rw[HG.o];dsimp only;rw[ef (by simp[a8.o])];exact em (.inr hs)
     have z:=hY (HR.o.symm.trans D);clear hs D;go_wp2_with fail;go_ret;exact⟨by rw[z.o]<;>rfl,d,by rw[z.o];exact HH.o.stay (fv U.o)⟩
    have J:¬((0<by_/\9223372036854775807-by_<x.i)\/(by_<0/\x.i < -9223372036854775808-by_)):=by omega
    by_cases hs:0<by_
    ·skip
     have f1:(0:Int)<by_:=hs;have f3:¬by_<0:=by omega
     have f2:¬wrap64 (x.i+by_)<x.i:=by rw[X.o.2.2 J];omega
     have a0:decide ((0:Int)<by_)=true:=ej f1;have a3:decide (by_<0)=false:=eh f3;have a9:decide (wrap64 (x.i+by_)<x.i)=false:=eh f2;have hw:wrap64 (x.i+by_)=x.i+by_:=X.o.2.2 J;have D:Qeo M k by_=setMu M k (QlO (wrap64 (x.i+by_))):=by unfold Qeo;rw[HG.o,hw];dsimp only;rw[ef (by simp[a8.o])];exact ef J
     have R : -9223372036854775808<=wrap64 (x.i+by_)/\wrap64 (x.i+by_)<=9223372036854775807:=by unfold wrap64;omega
     have z:=hY (HR.o.symm.trans D);have I:=Qql (v:=QlO (wrap64 (x.i+by_))) (sl:=Sl.none) (so:=Sl.none) (HH.o.nw (fv U.o)) (λb hb=>ab (hH b hb) U.o.size) hn a4 (RV.flat _ _ _ _ _ _ (by decide) (WalkArith.wf_i64 R) (by decide)) (show 7+0+0+0<=1100000 by decide) (HL.o.nw (fv U.o));have N:=hY I;clear hs hw D R I J;go_wp2_with fail;refine N.o.mono ?_;rintro e w2 ⟨rfl,d',L⟩;have Y:=hY (L.since (fv U.o));clear L;go_wp2_with fail;go_ret;exact⟨by rw[z.o]<;>rfl,d',by rw[z.o];exact Y.o⟩
    by_cases hs:by_<0
    ·skip
     have f1:¬(0:Int)<by_:=by omega
     have f3:by_<0:=hs;have f4:¬x.i<wrap64 (x.i+by_):=by rw[X.o.2.2 J];omega
     have a0:decide ((0:Int)<by_)=false:=eh f1;have a3:decide (by_<0)=true:=ej f3;have b0:decide (x.i<wrap64 (x.i+by_))=false:=eh f4;have hw:wrap64 (x.i+by_)=x.i+by_:=X.o.2.2 J;have D:Qeo M k by_=setMu M k (QlO (wrap64 (x.i+by_))):=by unfold Qeo;rw[HG.o,hw];dsimp only;rw[ef (by simp[a8.o])];exact ef J
     have R : -9223372036854775808<=wrap64 (x.i+by_)/\wrap64 (x.i+by_)<=9223372036854775807:=by unfold wrap64;omega
     have z:=hY (HR.o.symm.trans D);have I:=Qql (v:=QlO (wrap64 (x.i+by_))) (sl:=Sl.none) (so:=Sl.none) (HH.o.nw (fv U.o)) (λb hb=>ab (hH b hb) U.o.size) hn a4 (RV.flat _ _ _ _ _ _ (by decide) (WalkArith.wf_i64 R) (by decide)) (show 7+0+0+0<=1100000 by decide) (HL.o.nw (fv U.o));have N:=hY I;clear hs hw D R I J;go_wp2_with fail;refine N.o.mono ?_;rintro e w2 ⟨rfl,d',L⟩;have Y:=hY (L.since (fv U.o));clear L;go_wp2_with fail;go_ret;exact⟨by rw[z.o]<;>rfl,d',by rw[z.o];exact Y.o⟩
    have f1:¬(0:Int)<by_:=by omega
    have f3:¬by_<0:=by omega
    have a0:decide ((0:Int)<by_)=false:=eh f1;have a3:decide (by_<0)=false:=eh f3;have hw:wrap64 (x.i+by_)=x.i+by_:=X.o.2.2 J;have D:Qeo M k by_=setMu M k (QlO (wrap64 (x.i+by_))):=by unfold Qeo;rw[HG.o,hw];dsimp only;rw[ef (by simp[a8.o])];exact ef J
    have R : -9223372036854775808<=wrap64 (x.i+by_)/\wrap64 (x.i+by_)<=9223372036854775807:=by unfold wrap64;omega
    have z:=hY (HR.o.symm.trans D);have I:=Qql (v:=QlO (wrap64 (x.i+by_))) (sl:=Sl.none) (so:=Sl.none) (HH.o.nw (fv U.o)) (λb hb=>ab (hH b hb) U.o.size) hn a4 (RV.flat _ _ _ _ _ _ (by decide) (WalkArith.wf_i64 R) (by decide)) (show 7+0+0+0<=1100000 by decide) (HL.o.nw (fv U.o));have N:=hY I;clear hs hw D R I J;go_wp2_with fail;refine N.o.mono ?_;rintro e w2 ⟨rfl,d',L⟩;have Y:=hY (L.since (fv U.o));clear L;go_wp2_with fail;go_ret;exact⟨by rw[z.o]<;>rfl,d',by rw[z.o];exact Y.o⟩
   have gk:(x.kind != 3)=true:=by simp[a7]
   have z:=hY (HR.o.symm.trans (QoN HG.o a7));clear a7;go_in;go_wp2_with fail;refine a5.o.mono ?_;rintro e W1 ⟨sl,so,rfl,a1,a6⟩;have a2:Ext W1 (W1.alloc (.cells #[.int .i64 x.kind,.bool x.b,.int .i64 x.i,.string x.t,.slice sl.a x.l.length sl.c,.slice so.a x.ok.length so.c] 28)):=(fu W1).alloc _ _;have U:=hY (a1.trans a2);clear a1 a2 a6;go_wp2_with fail;go_ret;exact⟨by rw[z.o]<;>rfl,d,by rw[z.o];exact HH.o.stay (fv U.o)⟩
section
variable{P : Program}{ops : Array Oper}{Q : Exit -> Act -> World -> Prop}{md : Region.Mode}{S : World -> Prop}
theorem Qvs(i:Nat)(d:Option Tmp)(J:TypeId)(x:Operand){b o:Nat}{cs:Array Value}{N:TypeDesc}{I:Oper}{D:Nat}{z l':Array Bool}{a R:Act}{w:World}(hC:Yd (∀W,S W->W.rangeAt b o cs.toList))(hS:S w)
  (L:P.underlying J=some N/\N.isRow=true/\(P.info? J).map (·.size)=some cs.size) (h:wpAnyH P md ops Q S D l' R w)
  (hi:ops[i]? = some I:=by rfl) (ho:I.op=.load J x:=by rfl) (hx:a.eval x=.pointer (some ⟨b,o,none⟩):=by rfl) (hd:I.dst=d:=by rfl) (hs:Region.noSelect ops=true:=by kernel_rfl) (Y:Region.free md ops z i=true:=by kernel_rfl) (U:(Region.ready md ops z).contains i=true:=by kernel_rfl)
  (hQ:∀c a w,Q (.panic c) (a.put d (.agg cs)) w->Q (.panic c) a w:=by exactλ_ _ _ h=>h) (hw:Region.wanted I (yielded ops a.tmps)=true:=by rfl)
  (Z:z.setIfInBounds i true=l':=by first |(simp only[List.setIfInBounds_toArray,List.set_cons_zero,List.set_cons_succ];rfl)|rfl)
  (hp:a.put d (.agg cs)=R:=by first |(simp only[Act.put,List.setIfInBounds_toArray,List.set_cons_zero,List.set_cons_succ];rfl)|rfl):wpAnyH P md ops Q S (D+1) z a w:=by
 subst Z hp;refine QoK hi hd hs Y U hQ hw hS (λW X=>?_) h;unfold execOp;simp only[ho,hx,Instr.loadAt,Instr.sureAddr,Sem.run_bind,Sem.run_pure,Result.andThen_ok,run_loadVar_mid W b o J cs.toList N (hC.out W X) L.1 L.2.1 (by rw[Array.length_toList];exact L.2.2),Array.toArray_toList]
end
theorem Qp6{b t n:Nat}{cs:Array Value}(h:Blk w b t cs)(z:n<=cs.size):w.there b 0 n:=λj D=>
 ⟨by rw[h.cell];simp;omega,h.frozen _⟩
theorem Ext.setCells{w:World}{b:Nat}(D:w<=b):∀(z:List Value) (o:Nat) {W:World},Ext w W->Ext w (W.setCells b o z)
 |[],_,_,h=>h
 | v :: z,o,W,h=>by
   rw[World.setCells];exact Ext.setCells D z (o+1) (h.setCell (p:=⟨b,o,none⟩) D v)
abbrev QfQ(m:Mu)(c:MuS):Array Value:=(QaE m c).toArray
theorem QgS(m:Mu)(c:MuS):(QaE m c).length=19:=rfl
theorem Tryz.QkO:(prog.info? 31).map (·.size)=some 19:=by kernel_rfl
theorem MuC.range{b o:Nat}{m:Mu}(h:MuC w b o m c):w.rangeAt b o (QaE m c):=h
theorem MuC.QaX{w:World}{b:Nat}{t:TypeId}{m:Mu}{c:MuS}(h:Blk w b t (QfQ m c)):MuC w b 0 m c:=λj u hu=>by
 rw[aB,h.cell];simpa using hu
theorem MuC.lt{b o:Nat}{m:Mu}(h:MuC w b o m c):b<w:=eH w _ (h 0 _ rfl)
theorem MuC.ext{w w':World}{b o:Nat}{m:Mu}{c:MuS}(h:MuC w b o m c)(k:Ext w w'):MuC w' b o m c:=λj u hu=>(k.cell h.lt).trans (h j u hu)
variable{ops:Array Oper}{a:Act}{Q:Exit->Act->World->Prop}
theorem Qak{rest:List Oper}{op:Oper}(z:op.guard=none)(x:Operand)(D:op.op=.load 31 x)
  (b o:Nat) (J:a.eval x=.pointer (some ⟨b,o,none⟩)) (m:Mu) (c:MuS) (I:MuC w b o m c) (h:wpList prog ops Q rest (a.put op.dst (QaG m c)) w):wpList prog ops Q (op::rest) a w:=
 wpList_load_mid z 31 x D b o J (QaE m c) _ I.range underlying31 rfl (by rw[QgS];exact Tryz.QkO) h
theorem QfA{b:Nat}{t:TypeId}:∀(I:List Value) (o:Nat) {w:World} {z:Array Value},Blk w b t z->∃D,Blk (w.setCells b o I) b t D/\D.size=z.size
 |[],_,_,z,h=>⟨z,h,rfl⟩
 | v :: I,o,w,z,h=>by
   obtain⟨D,h1,h2⟩:=QfA I (o+1) (h.Qdz o v);exact⟨D,h1,by rw[h2];simp⟩
variable{w0:World}
theorem Qmg{rest:List Oper}{op:Oper}(L:op.guard=none)(x y:Operand)(ho:op.op=.store 31 x y)
  (m:Mu) (c:MuS) {b:Nat} (hb:w0.heap.size=b) (hw:Ext w0 w) {z:Array Value} (Y:Blk w b 31 z) (I:z.size=19) (hx:a.eval x=.pointer (some ⟨b,0,none⟩)) (hy:a.eval y=QaG m c)
  (h:∀w',Ext w0 w'->Blk w' b 31 (QfQ m c)->wpList prog ops Q rest (a.put op.dst undef) w'):wpList prog ops Q (op::rest) a w:=by
 have D:w.there b 0 (QfQ m c).size:=Qp6 Y (by rw[I];exact an 19);refine wpList_store_mid L 31 x y ho b 0 (QfQ m c) hx hy D (by exact Tryz.QkO) ?_ (h _ (Ext.setCells (by omega) _ _ hw) ?_)
 ·show ((QaE m c).toArray.all _)=true
  simp[QaE,Value.oneCell']
 have Z:=World.rangeAt_setCells_same w b 0 (QaE m c) D;obtain⟨X,h1,h2⟩:=QfA (QaE m c) 0 Y;have J:X.toList=QaE m c:=by
  refine bH λj=>?_
  rw[bN];by_cases hj:j<19
  ·obtain ⟨v,U⟩:∃ v,(QaE m c)[j]? = some v:=⟨_,ac hj⟩
   have R:=Z j v U;rw[aB,h1.cell]at R;rw[R,U]
  rw[Array.getElem?_eq_none (by omega),aN (by rw[QgS];omega)]
 have N:X=QfQ m c:=cZ.1 (J.trans (ci).symm);have e:(QfQ m c).toList=QaE m c:=ci;rw[e,<-N];exact h1
abbrev fD:=@MuC.QaX
abbrev fF:=@MuC.ext
theorem MuC.c19{b o:Nat}{m:Mu}(h:MuC w b o m c):w.cell? ⟨b,o,none⟩=some (.int .i64 m.kd)/\w.cell? ⟨b,o+1,none⟩=some (.string m.k)/\w.cell? ⟨b,o+2,none⟩=some (.string m.tk)/\w.cell? ⟨b,o+3,none⟩=some (.int .i64 m.i)/\w.cell? ⟨b,o+4,none⟩=some (.bool m.had)/\w.cell? ⟨b,o+5,none⟩=some (.int .i64 m.was.kind)/\w.cell? ⟨b,o+6,none⟩=some (.bool m.was.b)/\w.cell? ⟨b,o+7,none⟩=some (.int .i64 m.was.i)/\w.cell? ⟨b,o+8,none⟩=some (.string m.was.t)/\w.cell? ⟨b,o+9,none⟩=some (.slice c.w1.a m.was.l.length c.w1.c)/\w.cell? ⟨b,o+10,none⟩=some (.slice c.w2.a m.was.ok.length c.w2.c)/\w.cell? ⟨b,o+11,none⟩=some (.bool m.has)/\w.cell? ⟨b,o+12,none⟩=some (.int .i64 m.v.kind)/\w.cell? ⟨b,o+13,none⟩=some (.bool m.v.b)/\w.cell? ⟨b,o+14,none⟩=some (.int .i64 m.v.i)/\w.cell? ⟨b,o+15,none⟩=some (.string m.v.t)/\w.cell? ⟨b,o+16,none⟩=some (.slice c.v1.a m.v.l.length c.v1.c)/\w.cell? ⟨b,o+17,none⟩=some (.slice c.v2.a m.v.ok.length c.v2.c)/\w.cell? ⟨b,o+18,none⟩=some (.slice c.s.a m.l.length c.s.c):=
 ⟨h 0 _ rfl,h 1 _ rfl,h 2 _ rfl,h 3 _ rfl,h 4 _ rfl,h 5 _ rfl,h 6 _ rfl,h 7 _ rfl,h 8 _ rfl,h 9 _ rfl,h 10 _ rfl,h 11 _ rfl,h 12 _ rfl,h 13 _ rfl,h 14 _ rfl,h 15 _ rfl,h 16 _ rfl,h 17 _ rfl,h 18 _ rfl⟩
variable{W0:World}
theorem Qaz{m:Mu}(h:w.alloc (.cells (QfQ m c) 31)=W0):Ext w W0/\MuC W0 w.heap.size 0 m c/\W0.heap.size=w.heap.size+1:=by
 rw[<-h];exact⟨(fu w).alloc _ _,fD (fx w _ _),ew _ _⟩
theorem RMu.parts{m:Mu}(h:RMu w F m c):RV w F m.was c.w1 c.w2/\RV w F m.v c.v1 c.v2/\m.k.size<=maxLen/\m.tk.size<=maxLen/\(-9223372036854775808<=m.i/\m.i<=9223372036854775807):=by
 cases h with
 |mk bl fl cl rw_ rv hl el rl bk bt bkd bi nl=>exact⟨rw_,rv,bk,bt,Qtp bi⟩
theorem Qka(m:Mu):cntV m.v<=QcF m/\cntV m.was<=QcF m:=by
 obtain⟨J,k,I,i,z,was,D,v,l⟩:=m;simp only[QcF,Mu.v,Mu.was];omega
def Qti(M:List Ent)(m:Mu):Int × List Ent:=if asM M m.k m.had m.was then(if m.has then setMu M m.k m.v else(0,Qb2 M m.k))else(13,M)
theorem Qsk{m:Mu}(h:OvX H w O d M)(hH:∀b,H b->b<w)(hn:d.us.length<=1000000)(hl:(Qab d.T).length<=1000000)(hm:RMu w (Lt w) m c)(ht:QcF m<=1100000)(hL:Qb9 w) :
  Calls prog 76 #[.pointer (some ⟨O,0,none⟩),QaG m c] w λe w'=>e=.returned (.int .i64 (Qti M m).1)/\∃d',GoX H w O d (Qti M m).2 1 w' d':=by
 obtain⟨-,hv,hk,-,-⟩:=hm.parts;have a6:=λW (hW:Ext w W)=>Qmc (h.nw (fv hW)) hl ((hm.agree (hW.agree λ_ h=>h)).mono (G:=Lt W) λb hb=>ab hb hW.size)
 have Z:=hY a6;have HH:=hY h;have HL:=hY hL;have HV:=hY hv;have b4:cntV m.v<=1100000:=by have:=(Qka m).1;omega
 clear a6 h hL hm ht hv;obtain⟨r,X⟩:∃r,Qti M m=r:=⟨_,rfl⟩;rw[X];unfold Qti at X;cases ha:asM M m.k m.had m.was with
 | false=>
   rw[ha]at Z X;rw[ef (by simp)]at X;have HR:=hY X;clear X ha;go_in;go_upto_region 1 with fail;generalize R:World.alloc _ _=W0;obtain⟨I,L,-⟩:=Qaz (m:=m) (c:=c) R;have N:=hY I;have U:=hY L;clear R I L;go_wp2_with(refine Qak rfl (.tmp 3) rfl w.heap.size 0 rfl m c U.o ?_);refine(Z.o _ N.o).mono ?_;rintro e W1 ⟨rfl,D⟩;have a1:=hY (N.o.trans D);clear D;go_wp2_with fail;go_ret;exact⟨by rw[<-HR.o]<;>rfl,d,by rw[<-HR.o];exact HH.o.stay (fv a1.o)⟩
 | true=>
   rw[ha]at Z X;rw[em rfl]at X;cases hh:m.has with
   | true=>
     rw[hh,em rfl]at X;have HR:=hY X;have a0:=hY hh;clear X ha hh;go_in;go_upto_region 1 with fail;generalize R:World.alloc _ _=W0;obtain⟨I,L,-⟩:=Qaz (m:=m) (c:=c) R;have N:=hY I;have U:=hY L;clear R I L;go_wp2_with(refine Qak rfl (.tmp 3) rfl w.heap.size 0 rfl m c U.o ?_);refine(Z.o _ N.o).mono ?_;rintro e W1 ⟨rfl,D⟩;have z:=N.o.trans D;have J:=U.o.ext D;obtain⟨c0,c1,c2,c3,c4,c5,c6,c7,c8,c9,a9,a2,b5,b3,b7,d0,b6,b8,a8⟩:=J.c19;simp only[Nat.zero_add]at c0 c1 c2 c3 c4 c5 c6 c7 c8 c9 a9 a2 b5 b3 b7 d0 b6 b8 a8;rw[a0.o]at a2;have l1:=J.lt;have a3:=Qql (HH.o.nw (fv z)) (λb hb=>ab (hH b hb) z.size) hn hk ((HV.o.agree (z.agree λ_ h=>h)).mono λb hb=>ab hb z.size) b4 (HL.o.nw (fv z));have a7:=hY a3;have a1:=hY z;clear D J z a3 c0 c2 c3 c4 c5 c6 c7 c8 c9 a9 a8;go_wp2_with fail;refine a7.o.mono ?_;rintro e W2 ⟨rfl,d',Y⟩;have a5:=hY (Y.since (fv a1.o));clear Y;go_wp2_with fail;go_ret;exact⟨by rw[<-HR.o]<;>rfl,d',by rw[<-HR.o];exact a5.o⟩
   | false=>
     rw[hh,ef (by simp)]at X;have HR:=hY X;have a0:=hY hh;clear X ha hh;go_in;go_upto_region 1 with fail;generalize R:World.alloc _ _=W0;obtain⟨I,L,-⟩:=Qaz (m:=m) (c:=c) R;have N:=hY I;have U:=hY L;clear R I L;go_wp2_with(refine Qak rfl (.tmp 3) rfl w.heap.size 0 rfl m c U.o ?_);refine(Z.o _ N.o).mono ?_;rintro e W1 ⟨rfl,D⟩;have z:=N.o.trans D;have J:=U.o.ext D;have a2:W1.cell? ⟨w,11,none⟩=some (.bool m.has):=J 11 _ rfl;have c1:W1.cell? ⟨w,1,none⟩=some (.string m.k):=J 1 _ rfl;rw[a0.o]at a2;have l1:=J.lt;have a4:=Que (HH.o.nw (fv z)) (λb hb=>ab (hH b hb) z.size) hn hl hk;have b0:=hY a4;have a1:=hY z;clear D J z a4;go_wp2_with fail;refine b0.o.mono ?_;rintro e W2 ⟨rfl,d',Y⟩;have a5:=hY (Y.since (fv a1.o));clear Y;go_wp2_with fail;go_ret;exact⟨by rw[<-HR.o]<;>rfl,d',by rw[<-HR.o];exact a5.o⟩
variable{j:Nat}
theorem RMu.at{m:Mu}(h:RMu w F m c){x:Mu}(z:m.l[j]? = some x) :
  ∃b o y,c.s.a=some ⟨b,o,none⟩/\F b/\m.l.length<=c.s.c/\c.s.c<=maxLen/\MuC w b (o+j*19) x y/\RMu w F x y:=by
 cases h with
 | mk bl fl cl rw_ rv hl el rl bk bt bkd bi nl=>
   obtain⟨J,I,D⟩:=hl.eq (QbS z);exact⟨bl,fl,cl j,J,hl.fits (QbS z),I,D,el j x z,rl j x z⟩
theorem RMu.len{m:Mu}(h:RMu w F m c):m.l.length*264<=140737488355328:=by
 cases h with
 |mk bl fl cl rw_ rv hl el rl bk bt bkd bi nl=>exact nl
theorem Mu.QtV{m:Mu}{x:Mu}(h:m.l[j]? = some x):SizeOf.sizeOf x<SizeOf.sizeOf m:=by
 obtain⟨L,k,J,i,D,z,I,v,l⟩:=m;have h1:SizeOf.sizeOf x<SizeOf.sizeOf l:=dA (al h);simp only[Mu.mk.sizeOf_spec];omega
theorem Qgn(m:Mu):QaT m=1+QaC m.l:=by
 obtain⟨L,k,J,i,D,z,I,v,l⟩:=m;rw[QaT];rfl
theorem Qfb:∀(l:List Mu) (j:Nat),QaC (l.take j)<=QaC l
 |[],j=>by simp
 |x::r,0=>by simp[QaC]
 |x::r,j+1=>by have:=Qfb r j;rw[aT,QaC,QaC];omega
theorem QpU(n:Nat):∀(m:Mu) (c:MuS) (w:World),SizeOf.sizeOf m<=n->RMu w (Lt w) m c->QaT m<=1100000->Calls prog 70 #[QaG m c] w λe w'=>e=.returned (.int .i64 (QaT m:Int))/\Ext w w':=by
 induction n with
 |zero=>intro m c w h;have:=Mu.Qb7 m;omega
 | succ n ih=>
   intro m c w hn hm hs;have HI:=hY ih;have HM:=hY hm;have b8:=hm.len;have Z:=hY (Qgn m);have HS:=hY hs;have HN:=hY hn;clear ih hm hs hn;go_in;go_upto_region 1 with fail;generalize a4:World.alloc _ _=W0;obtain⟨N,a0,-⟩:=Qaz (m:=m) (c:=c) a4;have b3:=hY N;have c1:W0.cell? ⟨w,8+10,none⟩=some (.slice c.s.a m.l.length c.s.c):=a0 18 _ rfl;clear a4 N a0;go_wp2_with fail;go_loopw[3,9] (λv3 v9 wr=>∃j:Nat,v9=.int .i64 (j:Int)/\v3=.int .i64 ((1+QaC (m.l.take j):Nat):Int)/\j<=m.l.length/\Yd (Ext w wr)) (λ_ v _=>m.l.length -(intOf v).toNat)
   case atStart=>exact⟨0,rfl,by simp[QaC],av _,b3⟩
   obtain⟨j,rfl,rfl,hj,L⟩:=hrel;by_cases a2:j<m.l.length
   ·have l1:(j:Int)<(m.l.length:Int):=by omega
    have c3:decide ((j:Int)<(m.l.length:Int))=true:=ej l1;have l0:(0:Int)<=(j:Int):=by omega
    obtain⟨x,hx⟩:∃x,m.l[j]? = some x:=⟨_,ac a2⟩;obtain⟨b,o,y,b0,D,c0,c2,X,a6⟩:=HM.o.at hx;have D:b<w:=D;have b7:b<wr:=ab D L.o.size;have a7:=hY (X.agree (L.o.agree λ_ h=>h) D);have b4:QaT x<=QaC m.l:=by
     have h1:=Qdm hx;have h2:=Qfb m.l (j+1);omega
    have Y:1+QaC m.l<=1100000:=by rw[<-Z.o];exact HS.o
    have z:=λW (hW:Ext wr W)=>HI.o x y W (by have:=Mu.QtV hx;have:=HN.o;omega) ((a6.agree ((L.o.trans hW).agree λ_ h=>h)).mono λb hb=>ab hb (L.o.trans hW).size) (by omega)
    have J:=hY z;have b6:=hY (Qdm hx);have I:=Qfb m.l (j+1);have R:wrap64 (1+(QaC (m.l.take j):Int)+(QaT x:Int))=((1+QaC (m.l.take (j+1)):Nat):Int):=by
     unfold wrap64;rw[b6.o]at I ⊢;omega
    have b5:=hY R;clear a6 X b4 Y z I R hx;rw[b0];go_wp2_with(first |(refine Qak rfl (.tmp 11) rfl b (o+j*19) rfl x y a7.o ?_) |(refine Qmg rfl (.tmp 5) (.tmp 12) rfl x y (w0:=wr) (b:=wr) rfl ((fu wr).alloc _ _) (fx wr _ _) rfl rfl rfl ?_;intro w5 U a1;have a5:=hY U;have a8:=hY (fD a1);clear U a1) |(refine Qak rfl (.tmp 5) rfl wr.heap.size 0 rfl x y a8.o ?_));refine(J.o _ a5.o).mono ?_;rintro e w2 ⟨rfl,a3⟩;have a9:=hY ((L.o.trans a5.o).trans a3);clear a3;go_wp2_with fail;go_roundw
    case rel=>exact⟨j+1,by go_num,by rw[b5.o],a2,a9⟩
    simp[intOf];omega
   obtain rfl:j=m.l.length:=by omega
   have l1:decide ((m.l.length:Int)<(m.l.length:Int))=false:=eh (by omega);have HT:=hY (show((1+QaC (m.l.take m.l.length):Nat):Int)=(QaT m:Int)by rw[aP,Z.o]);go_wp2_with fail;go_ret;exact⟨by rw[HT.o]<;>rfl,L.o⟩
theorem QpT{m:Mu}(h:RMu w (Lt w) m c)(hs:QaT m<=1100000):Calls prog 70 #[QaG m c] w λe w'=>e=.returned (.int .i64 (QaT m:Int))/\Ext w w':=QpU _ m c w (an _) h hs
def QaH(m:Mu):Bool:=m.k.size==0&&m.tk.size==0&&m.i==0 && !m.had&&Qel m.was && !m.has&&Qel m.v&&m.l.length==0
theorem QaU(w:World)(m:Mu)(c:MuS):Calls prog 170 #[QaG m c] w λe w'=>e=.returned (.bool (QaH m))/\Ext w w':=by
 obtain⟨r,hr⟩:∃r,QaH m=r:=⟨_,rfl⟩;rw[hr];unfold QaH at hr;by_cases h0:m.k.size=0
 rotate_left
 ·have g0:=Qbx h0
  have HR:=hY (show false=r by rw[<-hr];simp[h0]);clear hr h0;go_in;go_upto_region 1 with fail;generalize N:World.alloc _ _=W0;obtain⟨X,D,-⟩:=Qaz (m:=m) (c:=c) N;have a2:=hY X;have a5:=hY D;obtain⟨c0,c1,c2,c3,c4,c5,c6,c7,c8,c9,a1,I,U,J,a0,R,Z,L,Y⟩:=D.c19;simp only[Nat.zero_add]at c0 c1 c2 c3 c4 c5 c6 c7 c8 c9 a1 I U J a0 R Z L Y;have l0:=D.lt;clear N X D;go_wp2_with fail;go_ret;exact⟨by rw[<-HR.o]<;>rfl,a2.o⟩
 have g0:=Qbc h0;by_cases h1:m.tk.size=0
 rotate_left
 ·have g1:=Qbx h1
  have HR:=hY (show false=r by rw[<-hr];simp[h0,h1]);clear hr h0 h1;go_in;go_upto_region 1 with fail;generalize N:World.alloc _ _=W0;obtain⟨X,D,-⟩:=Qaz (m:=m) (c:=c) N;have a2:=hY X;have a5:=hY D;obtain⟨c0,c1,c2,c3,c4,c5,c6,c7,c8,c9,a1,I,U,J,a0,R,Z,L,Y⟩:=D.c19;simp only[Nat.zero_add]at c0 c1 c2 c3 c4 c5 c6 c7 c8 c9 a1 I U J a0 R Z L Y;have l0:=D.lt;clear N X D;go_wp2_with fail;go_ret;exact⟨by rw[<-HR.o]<;>rfl,a2.o⟩
 have g1:=Qbc h1;by_cases h2:m.i=0
 rotate_left
 ·have g2:(m.i == 0)=false:=eu.2 h2
  have HR:=hY (show false=r by rw[<-hr];simp[h0,h1,h2]);clear hr h0 h1 h2;go_in;go_upto_region 1 with fail;generalize N:World.alloc _ _=W0;obtain⟨X,D,-⟩:=Qaz (m:=m) (c:=c) N;have a2:=hY X;have a5:=hY D;obtain⟨c0,c1,c2,c3,c4,c5,c6,c7,c8,c9,a1,I,U,J,a0,R,Z,L,Y⟩:=D.c19;simp only[Nat.zero_add]at c0 c1 c2 c3 c4 c5 c6 c7 c8 c9 a1 I U J a0 R Z L Y;have l0:=D.lt;clear N X D;go_wp2_with fail;go_ret;exact⟨by rw[<-HR.o]<;>rfl,a2.o⟩
 have g2:(m.i==0)=true:=by simp[h2]
 by_cases h3:m.had=false
 rotate_left
 ·have g3:m.had=true:=by simpa using h3
  have HR:=hY (show false=r by rw[<-hr];simp[h0,h1,h2,h3]);clear hr h0 h1 h2 h3;go_in;go_upto_region 1 with fail;generalize N:World.alloc _ _=W0;obtain⟨X,D,-⟩:=Qaz (m:=m) (c:=c) N;have a2:=hY X;have a5:=hY D;obtain⟨c0,c1,c2,c3,c4,c5,c6,c7,c8,c9,a1,I,U,J,a0,R,Z,L,Y⟩:=D.c19;simp only[Nat.zero_add]at c0 c1 c2 c3 c4 c5 c6 c7 c8 c9 a1 I U J a0 R Z L Y;have l0:=D.lt;clear N X D;go_wp2_with fail;go_ret;exact⟨by rw[<-HR.o]<;>rfl,a2.o⟩
 have g3:m.had=false:=h3;by_cases h4:Qel m.was=true
 rotate_left
 ·have g4:Qel m.was=false:=by simpa using h4
  have HR:=hY (show false=r by rw[<-hr];simp[h0,h1,h2,h3,h4]);clear hr h0 h1 h2 h3 h4;go_in;go_upto_region 1 with fail;generalize N:World.alloc _ _=W0;obtain⟨X,D,-⟩:=Qaz (m:=m) (c:=c) N;have a2:=hY X;have a5:=hY D;obtain⟨c0,c1,c2,c3,c4,c5,c6,c7,c8,c9,a1,I,U,J,a0,R,Z,L,Y⟩:=D.c19;simp only[Nat.zero_add]at c0 c1 c2 c3 c4 c5 c6 c7 c8 c9 a1 I U J a0 R Z L Y;have l0:=D.lt;clear N X D;go_wp2_with fail;refine(QaD _ m.was c.w1 c.w2).mono ?_;rintro e W1 ⟨rfl,z⟩;have a4:=hY (a2.o.trans z);clear z c0 c1 c2 c3 c4 c5 c6 c7 c8 c9 a1 I U J a0 R Z L Y;rw[g4];go_wp2_with fail;go_ret;exact⟨by rw[<-HR.o]<;>rfl,a4.o⟩
 have g4:Qel m.was=true:=h4;by_cases h5:m.has=false
 rotate_left
 ·have g5:m.has=true:=by simpa using h5
  have HR:=hY (show false=r by rw[<-hr];simp[h0,h1,h2,h3,h4,h5]);clear hr h0 h1 h2 h3 h4 h5;go_in;go_upto_region 1 with fail;generalize N:World.alloc _ _=W0;obtain⟨X,D,-⟩:=Qaz (m:=m) (c:=c) N;have a2:=hY X;have a5:=hY D;obtain⟨c0,c1,c2,c3,c4,c5,c6,c7,c8,c9,a1,I,U,J,a0,R,Z,L,Y⟩:=D.c19;simp only[Nat.zero_add]at c0 c1 c2 c3 c4 c5 c6 c7 c8 c9 a1 I U J a0 R Z L Y;have l0:=D.lt;clear N X D;go_wp2_with fail;refine(QaD _ m.was c.w1 c.w2).mono ?_;rintro e W1 ⟨rfl,z⟩;have b6:=(z.cell l0).trans I;have b3:=(z.cell l0).trans U;have b0:=(z.cell l0).trans J;have b5:=(z.cell l0).trans a0;have a8:=(z.cell l0).trans R;have a9:=(z.cell l0).trans Z;have b4:=(z.cell l0).trans L;have a6:=(z.cell l0).trans Y;have l1:=ab l0 z.size;have a4:=hY (a2.o.trans z);clear z c0 c1 c2 c3 c4 c5 c6 c7 c8 c9 a1 I U J a0 R Z L Y;rw[g4];go_wp2_with fail;go_ret;exact⟨by rw[<-HR.o]<;>rfl,a4.o⟩
 have g5:m.has=false:=h5;by_cases h6:Qel m.v=true
 rotate_left
 ·have g6:Qel m.v=false:=by simpa using h6
  have HR:=hY (show false=r by rw[<-hr];simp[h0,h1,h2,h3,h4,h5,h6]);clear hr h0 h1 h2 h3 h4 h5 h6;go_in;go_upto_region 1 with fail;generalize N:World.alloc _ _=W0;obtain⟨X,D,-⟩:=Qaz (m:=m) (c:=c) N;have a2:=hY X;have a5:=hY D;obtain⟨c0,c1,c2,c3,c4,c5,c6,c7,c8,c9,a1,I,U,J,a0,R,Z,L,Y⟩:=D.c19;simp only[Nat.zero_add]at c0 c1 c2 c3 c4 c5 c6 c7 c8 c9 a1 I U J a0 R Z L Y;have l0:=D.lt;clear N X D;go_wp2_with fail;refine(QaD _ m.was c.w1 c.w2).mono ?_;rintro e W1 ⟨rfl,z⟩;have b6:=(z.cell l0).trans I;have b3:=(z.cell l0).trans U;have b0:=(z.cell l0).trans J;have b5:=(z.cell l0).trans a0;have a8:=(z.cell l0).trans R;have a9:=(z.cell l0).trans Z;have b4:=(z.cell l0).trans L;have a6:=(z.cell l0).trans Y;have l1:=ab l0 z.size;have a4:=hY (a2.o.trans z);clear z c0 c1 c2 c3 c4 c5 c6 c7 c8 c9 a1 I U J a0 R Z L Y;rw[g4];go_wp2_with fail;refine(QaD _ m.v c.v1 c.v2).mono ?_;rintro e W2 ⟨rfl,a3⟩;have a7:=hY (a4.o.trans a3);clear a3;rw[g6];go_wp2_with fail;go_ret;exact⟨by rw[<-HR.o]<;>rfl,a7.o⟩
 have g6:Qel m.v=true:=h6;by_cases h7:m.l.length=0
 rotate_left
 ·have g7:((m.l.length:Int) == 0)=false:=eu.2 (by omega)
  have HR:=hY (show false=r by rw[<-hr];simp[h0,h1,h2,h3,h4,h5,h6,h7]);clear hr h0 h1 h2 h3 h4 h5 h6 h7;go_in;go_upto_region 1 with fail;generalize N:World.alloc _ _=W0;obtain⟨X,D,-⟩:=Qaz (m:=m) (c:=c) N;have a2:=hY X;have a5:=hY D;obtain⟨c0,c1,c2,c3,c4,c5,c6,c7,c8,c9,a1,I,U,J,a0,R,Z,L,Y⟩:=D.c19;simp only[Nat.zero_add]at c0 c1 c2 c3 c4 c5 c6 c7 c8 c9 a1 I U J a0 R Z L Y;have l0:=D.lt;clear N X D;go_wp2_with fail;refine(QaD _ m.was c.w1 c.w2).mono ?_;rintro e W1 ⟨rfl,z⟩;have b6:=(z.cell l0).trans I;have b3:=(z.cell l0).trans U;have b0:=(z.cell l0).trans J;have b5:=(z.cell l0).trans a0;have a8:=(z.cell l0).trans R;have a9:=(z.cell l0).trans Z;have b4:=(z.cell l0).trans L;have a6:=(z.cell l0).trans Y;have l1:=ab l0 z.size;have a4:=hY (a2.o.trans z);clear z c0 c1 c2 c3 c4 c5 c6 c7 c8 c9 a1 I U J a0 R Z L Y;rw[g4];go_wp2_with fail;refine(QaD _ m.v c.v1 c.v2).mono ?_;rintro e W2 ⟨rfl,a3⟩;have b7:W2.cell? ⟨w,18,none⟩=some (.slice c.s.a m.l.length c.s.c):=(a3.cell l1).trans a6;have l2:=ab l1 a3.size;have a7:=hY (a4.o.trans a3);clear a3;rw[g6];go_wp2_with fail;go_ret;exact⟨by rw[<-HR.o]<;>rfl,a7.o⟩
 have g7:((m.l.length:Int)==0)=true:=by rw[h7];rfl
 have HR:=hY (show true=r by rw[<-hr];simp[h0,h1,h2,h3,h4,h5,h6,h7]);clear hr h0 h1 h2 h3 h4 h5 h6 h7;go_in;go_upto_region 1 with fail;generalize N:World.alloc _ _=W0;obtain⟨X,D,-⟩:=Qaz (m:=m) (c:=c) N;have a2:=hY X;have a5:=hY D;obtain⟨c0,c1,c2,c3,c4,c5,c6,c7,c8,c9,a1,I,U,J,a0,R,Z,L,Y⟩:=D.c19;simp only[Nat.zero_add]at c0 c1 c2 c3 c4 c5 c6 c7 c8 c9 a1 I U J a0 R Z L Y;have l0:=D.lt;clear N X D;go_wp2_with fail;refine(QaD _ m.was c.w1 c.w2).mono ?_;rintro e W1 ⟨rfl,z⟩;have b6:=(z.cell l0).trans I;have b3:=(z.cell l0).trans U;have b0:=(z.cell l0).trans J;have b5:=(z.cell l0).trans a0;have a8:=(z.cell l0).trans R;have a9:=(z.cell l0).trans Z;have b4:=(z.cell l0).trans L;have a6:=(z.cell l0).trans Y;have l1:=ab l0 z.size;have a4:=hY (a2.o.trans z);clear z c0 c1 c2 c3 c4 c5 c6 c7 c8 c9 a1 I U J a0 R Z L Y;rw[g4];go_wp2_with fail;refine(QaD _ m.v c.v1 c.v2).mono ?_;rintro e W2 ⟨rfl,a3⟩;have b7:W2.cell? ⟨w,18,none⟩=some (.slice c.s.a m.l.length c.s.c):=(a3.cell l1).trans a6;have l2:=ab l1 a3.size;have a7:=hY (a4.o.trans a3);clear a3;rw[g6];go_wp2_with fail;go_ret;exact⟨by rw[<-HR.o]<;>rfl,a7.o⟩
def Qt1:List Value->Nat->List Value->List Value
 |l,_,[]=>l
 |l,o,v::vs=>Qt1 (l.set o v) (o+1) vs
theorem Qlu{b:Nat}{t:TypeId}:∀(z:List Value) (o:Nat) {w:World} {l:List Value},Blk w b t l.toArray->Blk (w.setCells b o z) b t (Qt1 l o z).toArray
 |[],_,_,_,h=>h
 | v :: z,o,w,l,h=>by
   have h2:=h.Qdz o v;rw[ae]at h2;exact Qlu z (o+1) h2
theorem Qft(w:World)(b o:Nat)(L:TypeId){v:Value}(z:Array Value)(D:v.cells=z)(N:w.there b o z.size)(hi:(prog.info? L).map (·.size)=some z.size)(h1:z.all (·.oneCell')=true) :
  (storeVar L ⟨b,o,none⟩ v).run prog w=.ok () (w.setCells b o z.toList):=by
 have:=run_storeCells_cells (P:=prog) b o z.toList 0 w (λj I=>by simpa using(N j (by simpa using I)).1) (λj I=>by simpa using(N j (by simpa using I)).2)
  (λv D=>(Array.all_eq_true_iff_forall_mem.1 h1) v (by simpa using D))
 cases J:prog.info? L with
 |none=>simp[J]at hi
 | some i=>
   have hs:z.size=i.size:=by simp[J]at hi;omega
   simp only[Nat.add_zero]at this;simp[storeVar,sizeOf,typeInfo,J,D,hs,this]
variable{K:Act->World->Prop}
theorem QiR{op:Oper}(D:TypeId)(x y:Operand)(J:op.op=.store D x y)
  (b o:Nat) (z:Array Value) (R:a.eval x=.pointer (some ⟨b,o,none⟩)) {v:Value} (N:a.eval y=v) (I:v.cells=z)
  (L:w.there b o z.size) (hi:(prog.info? D).map (·.size)=some z.size) (h1:z.all (·.oneCell')=true)
  (h:K (a.put op.dst undef) (w.setCells b o z.toList)):op.wp prog a w K Q:=by
 unfold Oper.wp execOp;simp only[J,R,N,Instr.storeAt,Instr.sureAddr,Sem.run_bind,Sem.run_pure,Result.andThen_ok,Qft w b o D z I L hi h1];exact h
theorem QtM{rest:List Oper}{op:Oper}(J:op.guard=none)(hd:op.dst=none){T:TypeId}{x y:Operand}(ho:op.op=.store T x y)
  (z:List Value) {v:Value} (hy:a.eval y=v) (X:v.cells=z.toArray) (hi:(prog.info? T).map (·.size)=some z.length) (h1:z.all (·.oneCell')=true)
 {b:Nat} (hb:w0.heap.size≤b) (hw:Ext w0 w) {m:Mu} (L:Blk w b 31 (QfQ m c)) (o:Nat) (hl:o+z.length≤19) (hx:a.eval x=.pointer (some ⟨b,o,none⟩))
  {R:Mu} {N:MuS} (U:Qt1 (QaE m c) o z=QaE R N) (h:∀w',Ext w0 w'->Blk w' b 31 (QfQ R N)->wpList prog ops Q rest a w'):wpList prog ops Q (op::rest) a w:=by
 have I:w.there b o z.toArray.size:=λj Z=>by
  have Y:j<z.length:=by simpa using Z
  refine⟨?_,L.frozen _⟩;rw[L.cell,Array.getElem?_eq_getElem (by rw[bu,QgS];omega)];rfl
 have h2:=Qlu z o L;rw[U]at h2;have D:=h _ (Ext.setCells hb z o hw) h2;have ep:a.put op.dst undef=a:=by rw[hd];rfl
 refine wpList_plain J λK hK=>QiR T x y ho b o z.toArray hx hy X I (by rw[hi,bu]) (all_oneCell_toArray (dd.1 h1)) (hK _ _ ?_)
 rw[ep];exact D
theorem Qa0{rest:List Oper}{op:Oper}(I:op.guard=none)(hd:op.dst=none){x y:Operand}(R:op.op=.store 31 x y)
  (m:Mu) (c:MuS) {b:Nat} (J:w0.heap.size=b) (N:Ext w0 w) {z:Array Value} (Y:Blk w b 31 z) (D:z.size=19) (X:a.eval x=.pointer (some ⟨b,0,none⟩)) (L:a.eval y=QaG m c)
  (h:∀w',Ext w0 w'->Blk w' b 31 (QfQ m c)->wpList prog ops Q rest a w'):wpList prog ops Q (op::rest) a w:=
 Qmg I x y R m c J N Y D X L λw' h1 h2=>by
  have U:a.put op.dst undef=a:=by rw[hd];rfl
  rw[U];exact h w' h1 h2
theorem Qan{rest:List Oper}{T T':TypeId}{x y:Operand}{ps:String}{X:Array Edge} 
  (z:List Value) (L:(a.eval y).cells=z.toArray) (hi:(prog.info? T).map (·.size)=some z.length) (h1:z.all (·.oneCell')=true)
 {b:Nat} (R:w0.heap.size≤b) (U:Ext w0 w) {m:Mu} (Z:Blk w b 31 (QfQ m c)) (o:Nat) (N:o+z.length≤19) (Y:a.eval x=.pointer (some ⟨b,o,none⟩))
  (I:Mu) (D:MuS) (J:Qt1 (QaE m c) o z=QaE I D) (h:∀w',Ext w0 w'->Blk w' b 31 (QfQ I D)->wpList prog ops Q rest a w') :
  wpList prog ops Q (⟨none,.store T x y,T',ps,X,none⟩::rest) a w:=
 QtM rfl rfl rfl z rfl L hi h1 R U Z o N Y J h
def Qal(m:Mu):Bool:=Qbv m.kd m.k m.tk m.i m.had m.was m.has m.v m.l.length
theorem Qa4:Qel zeroV=true:=rfl
theorem MuC.kind{b:Nat}{m:Mu}(h:MuC w b 0 m c):w.cell? ⟨b,0,none⟩=some (.int .i64 m.kd):=h 0 _ rfl
theorem MuC.c11{b:Nat}{m:Mu}(h:MuC w b 0 m c):w.cell? ⟨b,11,none⟩=some (.bool m.has):=h 11 _ rfl
theorem MuC.c4{b:Nat}{m:Mu}(h:MuC w b 0 m c):w.cell? ⟨b,4,none⟩=some (.bool m.had):=h 4 _ rfl
theorem MuC.QnS{b:Nat}{m:Mu}(h:MuC w b 0 m c):w.cell? ⟨b,5,none⟩=some (.int .i64 m.was.kind)/\w.cell? ⟨b,6,none⟩=some (.bool m.was.b)/\w.cell? ⟨b,7,none⟩=some (.int .i64 m.was.i)/\w.cell? ⟨b,8,none⟩=some (.string m.was.t)/\w.cell? ⟨b,9,none⟩=some (.slice c.w1.a m.was.l.length c.w1.c)/\w.cell? ⟨b,10,none⟩=some (.slice c.w2.a m.was.ok.length c.w2.c):=⟨h 5 _ rfl,h 6 _ rfl,h 7 _ rfl,h 8 _ rfl,h 9 _ rfl,h 10 _ rfl⟩
theorem MuC.v6{b:Nat}{m:Mu}(h:MuC w b 0 m c):w.cell? ⟨b,12,none⟩=some (.int .i64 m.v.kind)/\w.cell? ⟨b,13,none⟩=some (.bool m.v.b)/\w.cell? ⟨b,14,none⟩=some (.int .i64 m.v.i)/\w.cell? ⟨b,15,none⟩=some (.string m.v.t)/\w.cell? ⟨b,16,none⟩=some (.slice c.v1.a m.v.l.length c.v1.c)/\w.cell? ⟨b,17,none⟩=some (.slice c.v2.a m.v.ok.length c.v2.c):=⟨h 12 _ rfl,h 13 _ rfl,h 14 _ rfl,h 15 _ rfl,h 16 _ rfl,h 17 _ rfl⟩
theorem Qli(w:World)(m:Mu)(c:MuS)(X:m.had=false)(Y:Qel m.was=false):Calls prog 118 #[QaG m c] w λe w'=>e=.returned (.bool (!Qal m))/\Ext w w':=by
 have Z:(!Qal m)=true:=by simp[Qal,Qbv,X,Y]
 rw[Z];have HZ:=hY Y;have HH:=hY X;clear Z Y X;go_in;go_upto_region 1 with fail;generalize J:World.alloc _ _=W0;obtain⟨I,z,L⟩:=Qaz (m:=m) (c:=c) J;have N:=hY I;have R:=hY z;have c4:=z.c4;rw[HH.o]at c4;clear J I z L;obtain⟨c5,c6,c7,c8,c9,a0⟩:=R.o.QnS;go_wp2_with fail;refine(QaD _ m.was c.w1 c.w2).mono ?_;rintro e W1 ⟨rfl,D⟩;have U:=hY (N.o.trans D);clear D;rw[HZ.o];go_wp2_with fail;go_ret;exact⟨rfl,U.o⟩
theorem Qnt(w:World)(m:Mu)(c:MuS)(hk:m.kd=1)(hh:m.had=true):Calls prog 118 #[QaG m c] w λe w'=>e=.returned (.bool (!Qal m))/\Ext w w':=by
 have hr:(!Qal m)=(!QaH (Mu.mk m.kd ByteArray.empty m.tk m.i m.had m.was m.has zeroV m.l)):=by
  obtain⟨b3,k',b4,i',b0,a8,a9,v',l'⟩:=m;simp only[Mu.kd,Mu.had,Mu.was,Mu.has,Mu.v]at hk hh;simp[Qal,Qbv,QaH,Mu.kd,hk,hh,Qa4,Mu.k,Mu.tk,Mu.i,Mu.had,Mu.was,Mu.has,Mu.v,Mu.l]
 have HR:=hY hr;have HH:=hY hh;have e1:(m.kd==1)=true:=by simp[hk]
 clear hr hk hh;go_in;go_upto_region 1 with fail;generalize X:World.alloc _ _=W0;obtain⟨z,J,a3⟩:=Qaz (m:=m) (c:=c) X;have U:=hY z;have D:=hY J;have c4:=J.c4;rw[HH.o]at c4;clear X z J a3;go_upto_region 4 with(first |(refine Qak rfl (.tmp 1) rfl w.heap.size 0 rfl m c D.o ?_) |(refine Qa0 rfl rfl rfl m c (w0:=W0) (b:=W0) rfl ((fu W0).alloc _ _) (fx W0 _ _) rfl rfl rfl ?_;intro w5 I R;have a6:=hY (U.o.trans I);have D:=hY (fF D.o I);have a0:=hY R;clear I R));have d0:=D.o.kind;have hg:w.heap.size<=W0.heap.size:=U.o.size;go_wp2_with(first |(refine Qan [.string ⟨#[]⟩] ?_ ?_ ?_ hg a6.o a0.o 1 ?_ ?_ (Mu.mk m.kd ByteArray.empty m.tk m.i m.had m.was m.has m.v m.l) ⟨c.w1,c.w2,c.v1,c.v2,c.s⟩ ?_ ?_;rfl;kernel_rfl;rfl;decide;rfl;rfl;intro v0 z Y;have a7:=hY z;have a1:=hY Y;clear z Y) |(refine Qan [.int .i64 0,.bool false,.int .i64 0,.string ⟨#[]⟩,.slice none 0 0,.slice none 0 0] ?_ ?_ ?_ hg a7.out a1.out 12 ?_ ?_ (Mu.mk m.kd ByteArray.empty m.tk m.i m.had m.was m.has zeroV m.l) ⟨c.w1,c.w2,Sl.none,Sl.none,c.s⟩ ?_ ?_;rfl;kernel_rfl;rfl;decide;rfl;rfl;intro v1 L Z;have a2:=hY L;have a5:=hY Z;clear L Z) |(refine Qak rfl (.tmp 3) rfl W0.heap.size 0 rfl (Mu.mk m.kd ByteArray.empty m.tk m.i m.had m.was m.has zeroV m.l) ⟨c.w1,c.w2,Sl.none,Sl.none,c.s⟩ (fD a5.out) ?_));refine(QaU _ (Mu.mk m.kd ByteArray.empty m.tk m.i m.had m.was m.has zeroV m.l) ⟨c.w1,c.w2,Sl.none,Sl.none,c.s⟩).mono ?_;rintro e W7 ⟨rfl,N⟩;have a4:=hY (a2.out.trans N);clear N;go_wp2_with fail;go_ret;exact⟨by rw[HR.o]<;>rfl,a4.o⟩
theorem Qnu(w:World)(m:Mu)(c:MuS)(hk:m.kd=1)(hh:m.had=false)(hz:Qel m.was=true):Calls prog 118 #[QaG m c] w λe w'=>e=.returned (.bool (!Qal m))/\Ext w w':=by
 have hr:(!Qal m)=(!QaH (Mu.mk m.kd ByteArray.empty m.tk m.i m.had m.was m.has zeroV m.l)):=by
  obtain⟨b7,k',b8,i',b6,b4,b5,v',l'⟩:=m;simp only[Mu.kd,Mu.had,Mu.was,Mu.has,Mu.v]at hk hh hz;simp[Qal,Qbv,QaH,Mu.kd,hk,hh,Qa4,Mu.k,Mu.tk,Mu.i,Mu.had,Mu.was,Mu.has,Mu.v,Mu.l,hz]
 have HR:=hY hr;have HH:=hY hh;have HZ:=hY hz;have e1:(m.kd==1)=true:=by simp[hk]
 clear hr hk hh hz;go_in;go_upto_region 1 with fail;generalize Y:World.alloc _ _=W0;obtain⟨D,L,a5⟩:=Qaz (m:=m) (c:=c) Y;have a6:=hY D;have I:=hY L;have c4:=L.c4;rw[HH.o]at c4;clear Y D L a5;obtain⟨c5,c6,c7,c8,c9,a8⟩:=I.o.QnS;go_wp2_with fail;refine(QaD _ m.was c.w1 c.w2).mono ?_;rintro e N ⟨rfl,z⟩;have X:=hY (a6.o.trans z);have a1:=hY (I.o.ext z);clear z c4 c5 c6 c7 c8 c9 a8;rw[HZ.o];go_upto_region 4 with(first |(refine Qak rfl (.tmp 1) rfl w.heap.size 0 rfl m c a1.o ?_) |(refine Qa0 rfl rfl rfl m c (w0:=N) (b:=N) rfl ((fu N).alloc _ _) (fx N _ _) rfl rfl rfl ?_;intro w5 J U;have b0:=hY (X.o.trans J);have I:=hY (fF a1.o J);have a2:=hY U;clear J U));have d0:=I.o.kind;have hg:w.heap.size<=N.heap.size:=X.o.size;go_wp2_with(first |(refine Qan [.string ⟨#[]⟩] ?_ ?_ ?_ hg b0.o a2.o 1 ?_ ?_ (Mu.mk m.kd ByteArray.empty m.tk m.i m.had m.was m.has m.v m.l) ⟨c.w1,c.w2,c.v1,c.v2,c.s⟩ ?_ ?_;rfl;kernel_rfl;rfl;decide;rfl;rfl;intro v0 D Z;have b3:=hY D;have a3:=hY Z;clear D Z) |(refine Qan [.int .i64 0,.bool false,.int .i64 0,.string ⟨#[]⟩,.slice none 0 0,.slice none 0 0] ?_ ?_ ?_ hg b3.out a3.out 12 ?_ ?_ (Mu.mk m.kd ByteArray.empty m.tk m.i m.had m.was m.has zeroV m.l) ⟨c.w1,c.w2,Sl.none,Sl.none,c.s⟩ ?_ ?_;rfl;kernel_rfl;rfl;decide;rfl;rfl;intro v1 z a0;have a4:=hY z;have a9:=hY a0;clear z a0) |(refine Qak rfl (.tmp 3) rfl N.heap.size 0 rfl (Mu.mk m.kd ByteArray.empty m.tk m.i m.had m.was m.has zeroV m.l) ⟨c.w1,c.w2,Sl.none,Sl.none,c.s⟩ (fD a9.out) ?_));refine(QaU _ (Mu.mk m.kd ByteArray.empty m.tk m.i m.had m.was m.has zeroV m.l) ⟨c.w1,c.w2,Sl.none,Sl.none,c.s⟩).mono ?_;rintro e W7 ⟨rfl,R⟩;have a7:=hY (a4.out.trans R);clear R;go_wp2_with fail;go_ret;exact⟨by rw[HR.o]<;>rfl,a7.o⟩
theorem Qnz(w:World)(m:Mu)(c:MuS)(X:m.kd=5)(hh:m.had=true):Calls prog 118 #[QaG m c] w λe w'=>e=.returned (.bool (!Qal m))/\Ext w w':=by
 have hr:(!Qal m)=(!QaH (Mu.mk m.kd ByteArray.empty m.tk m.i m.had m.was m.has zeroV m.l)):=by
  obtain⟨b4,k',b5,i',b3,a9,b0,v',l'⟩:=m;simp only[Mu.kd,Mu.had,Mu.was,Mu.has,Mu.v]at X hh;simp[Qal,Qbv,QaH,Mu.kd,X,hh,Qa4,Mu.k,Mu.tk,Mu.i,Mu.had,Mu.was,Mu.has,Mu.v,Mu.l]
 have HR:=hY hr;have HH:=hY hh;have e1:(m.kd==1)=false:=by simp[X]
 have e5:(m.kd==5)=true:=by simp[X]
 clear hr X hh;go_in;go_upto_region 1 with fail;generalize Y:World.alloc _ _=W0;obtain⟨z,J,a4⟩:=Qaz (m:=m) (c:=c) Y;have U:=hY z;have D:=hY J;have c4:=J.c4;rw[HH.o]at c4;clear Y z J a4;go_upto_region 4 with(first |(refine Qak rfl (.tmp 1) rfl w.heap.size 0 rfl m c D.o ?_) |(refine Qa0 rfl rfl rfl m c (w0:=W0) (b:=W0) rfl ((fu W0).alloc _ _) (fx W0 _ _) rfl rfl rfl ?_;intro w5 I R;have a7:=hY (U.o.trans I);have D:=hY (fF D.o I);have a1:=hY R;clear I R));have d0:=D.o.kind;have hg:w.heap.size<=W0.heap.size:=U.o.size;go_wp2_with(first |(refine Qan [.string ⟨#[]⟩] ?_ ?_ ?_ hg a7.o a1.o 1 ?_ ?_ (Mu.mk m.kd ByteArray.empty m.tk m.i m.had m.was m.has m.v m.l) ⟨c.w1,c.w2,c.v1,c.v2,c.s⟩ ?_ ?_;rfl;kernel_rfl;rfl;decide;rfl;rfl;intro v0 z Z;have a8:=hY z;have a2:=hY Z;clear z Z) |(refine Qan [.int .i64 0,.bool false,.int .i64 0,.string ⟨#[]⟩,.slice none 0 0,.slice none 0 0] ?_ ?_ ?_ hg a8.out a2.out 12 ?_ ?_ (Mu.mk m.kd ByteArray.empty m.tk m.i m.had m.was m.has zeroV m.l) ⟨c.w1,c.w2,Sl.none,Sl.none,c.s⟩ ?_ ?_;rfl;kernel_rfl;rfl;decide;rfl;rfl;intro v1 L a0;have a3:=hY L;have a6:=hY a0;clear L a0) |(refine Qak rfl (.tmp 3) rfl W0.heap.size 0 rfl (Mu.mk m.kd ByteArray.empty m.tk m.i m.had m.was m.has zeroV m.l) ⟨c.w1,c.w2,Sl.none,Sl.none,c.s⟩ (fD a6.out) ?_));refine(QaU _ (Mu.mk m.kd ByteArray.empty m.tk m.i m.had m.was m.has zeroV m.l) ⟨c.w1,c.w2,Sl.none,Sl.none,c.s⟩).mono ?_;rintro e W7 ⟨rfl,N⟩;have a5:=hY (a3.out.trans N);clear N;go_wp2_with fail;go_ret;exact⟨by rw[HR.o]<;>rfl,a5.o⟩
theorem QnA(w:World)(m:Mu)(c:MuS)(X:m.kd=5)(hh:m.had=false)(hz:Qel m.was=true):Calls prog 118 #[QaG m c] w λe w'=>e=.returned (.bool (!Qal m))/\Ext w w':=by
 have hr:(!Qal m)=(!QaH (Mu.mk m.kd ByteArray.empty m.tk m.i m.had m.was m.has zeroV m.l)):=by
  obtain⟨b8,k',c0,i',b7,b5,b6,v',l'⟩:=m;simp only[Mu.kd,Mu.had,Mu.was,Mu.has,Mu.v]at X hh hz;simp[Qal,Qbv,QaH,Mu.kd,X,hh,Qa4,Mu.k,Mu.tk,Mu.i,Mu.had,Mu.was,Mu.has,Mu.v,Mu.l,hz]
 have HR:=hY hr;have HH:=hY hh;have HZ:=hY hz;have e1:(m.kd==1)=false:=by simp[X]
 have e5:(m.kd==5)=true:=by simp[X]
 clear hr X hh hz;go_in;go_upto_region 1 with fail;generalize Z:World.alloc _ _=W0;obtain⟨D,L,a6⟩:=Qaz (m:=m) (c:=c) Z;have a7:=hY D;have I:=hY L;have c4:=L.c4;rw[HH.o]at c4;clear Z D L a6;obtain⟨c5,c6,c7,c8,c9,a9⟩:=I.o.QnS;go_wp2_with fail;refine(QaD _ m.was c.w1 c.w2).mono ?_;rintro e N ⟨rfl,z⟩;have Y:=hY (a7.o.trans z);have a2:=hY (I.o.ext z);clear z c4 c5 c6 c7 c8 c9 a9;rw[HZ.o];go_upto_region 4 with(first |(refine Qak rfl (.tmp 1) rfl w.heap.size 0 rfl m c a2.o ?_) |(refine Qa0 rfl rfl rfl m c (w0:=N) (b:=N) rfl ((fu N).alloc _ _) (fx N _ _) rfl rfl rfl ?_;intro w5 J U;have b3:=hY (Y.o.trans J);have I:=hY (fF a2.o J);have a3:=hY U;clear J U));have d0:=I.o.kind;have hg:w.heap.size<=N.heap.size:=Y.o.size;go_wp2_with(first |(refine Qan [.string ⟨#[]⟩] ?_ ?_ ?_ hg b3.o a3.o 1 ?_ ?_ (Mu.mk m.kd ByteArray.empty m.tk m.i m.had m.was m.has m.v m.l) ⟨c.w1,c.w2,c.v1,c.v2,c.s⟩ ?_ ?_;rfl;kernel_rfl;rfl;decide;rfl;rfl;intro v0 D a0;have b4:=hY D;have a4:=hY a0;clear D a0) |(refine Qan [.int .i64 0,.bool false,.int .i64 0,.string ⟨#[]⟩,.slice none 0 0,.slice none 0 0] ?_ ?_ ?_ hg b4.out a4.out 12 ?_ ?_ (Mu.mk m.kd ByteArray.empty m.tk m.i m.had m.was m.has zeroV m.l) ⟨c.w1,c.w2,Sl.none,Sl.none,c.s⟩ ?_ ?_;rfl;kernel_rfl;rfl;decide;rfl;rfl;intro v1 z a1;have a5:=hY z;have b0:=hY a1;clear z a1) |(refine Qak rfl (.tmp 3) rfl N.heap.size 0 rfl (Mu.mk m.kd ByteArray.empty m.tk m.i m.had m.was m.has zeroV m.l) ⟨c.w1,c.w2,Sl.none,Sl.none,c.s⟩ (fD b0.out) ?_));refine(QaU _ (Mu.mk m.kd ByteArray.empty m.tk m.i m.had m.was m.has zeroV m.l) ⟨c.w1,c.w2,Sl.none,Sl.none,c.s⟩).mono ?_;rintro e W7 ⟨rfl,R⟩;have a8:=hY (a5.out.trans R);clear R;go_wp2_with fail;go_ret;exact⟨by rw[HR.o]<;>rfl,a8.o⟩
theorem Qnv(w:World)(m:Mu)(c:MuS)(L:m.kd=2)(Z:m.had=true):Calls prog 118 #[QaG m c] w λe w'=>e=.returned (.bool (!Qal m))/\Ext w w':=by
 have hr:(!Qal m)=(!QaH (Mu.mk m.kd ByteArray.empty m.tk m.i m.had m.was m.has m.v m.l)):=by
  obtain⟨a9,k',b0,i',a8,a6,a7,v',l'⟩:=m;simp only[Mu.kd,Mu.had,Mu.was,Mu.has,Mu.v]at L Z;simp[Qal,Qbv,QaH,Mu.kd,L,Z,Qa4,Mu.k,Mu.tk,Mu.i,Mu.had,Mu.was,Mu.has,Mu.v,Mu.l]
 have HR:=hY hr;have HH:=hY Z;have e1:(m.kd==1)=false:=by simp[L]
 have e5:(m.kd==5)=false:=by simp[L]
 have e2:(m.kd==2)=true:=by simp[L]
 clear hr L Z;go_in;go_upto_region 1 with fail;generalize X:World.alloc _ _=W0;obtain⟨z,J,a2⟩:=Qaz (m:=m) (c:=c) X;have U:=hY z;have D:=hY J;have c4:=J.c4;rw[HH.o]at c4;clear X z J a2;go_upto_region 4 with(first |(refine Qak rfl (.tmp 1) rfl w.heap.size 0 rfl m c D.o ?_) |(refine Qa0 rfl rfl rfl m c (w0:=W0) (b:=W0) rfl ((fu W0).alloc _ _) (fx W0 _ _) rfl rfl rfl ?_;intro w5 I R;have a4:=hY (U.o.trans I);have D:=hY (fF D.o I);have a0:=hY R;clear I R));have d0:=D.o.kind;have hg:w.heap.size<=W0.heap.size:=U.o.size;go_wp2_with(first |(refine Qan [.string ⟨#[]⟩] ?_ ?_ ?_ hg a4.o a0.o 1 ?_ ?_ (Mu.mk m.kd ByteArray.empty m.tk m.i m.had m.was m.has m.v m.l) ⟨c.w1,c.w2,c.v1,c.v2,c.s⟩ ?_ ?_;rfl;kernel_rfl;rfl;decide;rfl;rfl;intro v0 z Y;have a5:=hY z;have a1:=hY Y;clear z Y) |(refine Qak rfl (.tmp 3) rfl W0.heap.size 0 rfl (Mu.mk m.kd ByteArray.empty m.tk m.i m.had m.was m.has m.v m.l) ⟨c.w1,c.w2,c.v1,c.v2,c.s⟩ (fD a1.out) ?_));refine(QaU _ (Mu.mk m.kd ByteArray.empty m.tk m.i m.had m.was m.has m.v m.l) ⟨c.w1,c.w2,c.v1,c.v2,c.s⟩).mono ?_;rintro e W7 ⟨rfl,N⟩;have a3:=hY (a5.out.trans N);clear N;go_wp2_with fail;go_ret;exact⟨by rw[HR.o]<;>rfl,a3.o⟩
theorem Qnw(w:World)(m:Mu)(c:MuS)(R:m.kd=2)(hh:m.had=false)(hz:Qel m.was=true):Calls prog 118 #[QaG m c] w λe w'=>e=.returned (.bool (!Qal m))/\Ext w w':=by
 have hr:(!Qal m)=(!QaH (Mu.mk m.kd ByteArray.empty m.tk m.i m.had m.was m.has m.v m.l)):=by
  obtain⟨b5,k',b6,i',b4,b0,b3,v',l'⟩:=m;simp only[Mu.kd,Mu.had,Mu.was,Mu.has,Mu.v]at R hh hz;simp[Qal,Qbv,QaH,Mu.kd,R,hh,Qa4,Mu.k,Mu.tk,Mu.i,Mu.had,Mu.was,Mu.has,Mu.v,Mu.l,hz]
 have HR:=hY hr;have HH:=hY hh;have HZ:=hY hz;have e1:(m.kd==1)=false:=by simp[R]
 have e5:(m.kd==5)=false:=by simp[R]
 have e2:(m.kd==2)=true:=by simp[R]
 clear hr R hh hz;go_in;go_upto_region 1 with fail;generalize Z:World.alloc _ _=W0;obtain⟨z,L,a4⟩:=Qaz (m:=m) (c:=c) Z;have a5:=hY z;have D:=hY L;have c4:=L.c4;rw[HH.o]at c4;clear Z z L a4;obtain⟨c5,c6,c7,c8,c9,a7⟩:=D.o.QnS;go_wp2_with fail;refine(QaD _ m.was c.w1 c.w2).mono ?_;rintro e N ⟨rfl,I⟩;have Y:=hY (a5.o.trans I);have a1:=hY (D.o.ext I);clear I c4 c5 c6 c7 c8 c9 a7;rw[HZ.o];go_upto_region 4 with(first |(refine Qak rfl (.tmp 1) rfl w.heap.size 0 rfl m c a1.o ?_) |(refine Qa0 rfl rfl rfl m c (w0:=N) (b:=N) rfl ((fu N).alloc _ _) (fx N _ _) rfl rfl rfl ?_;intro w5 J X;have a8:=hY (Y.o.trans J);have D:=hY (fF a1.o J);have a2:=hY X;clear J X));have d0:=D.o.kind;have hg:w.heap.size<=N.heap.size:=Y.o.size;go_wp2_with(first |(refine Qan [.string ⟨#[]⟩] ?_ ?_ ?_ hg a8.o a2.o 1 ?_ ?_ (Mu.mk m.kd ByteArray.empty m.tk m.i m.had m.was m.has m.v m.l) ⟨c.w1,c.w2,c.v1,c.v2,c.s⟩ ?_ ?_;rfl;kernel_rfl;rfl;decide;rfl;rfl;intro v0 z a0;have a9:=hY z;have a3:=hY a0;clear z a0) |(refine Qak rfl (.tmp 3) rfl N.heap.size 0 rfl (Mu.mk m.kd ByteArray.empty m.tk m.i m.had m.was m.has m.v m.l) ⟨c.w1,c.w2,c.v1,c.v2,c.s⟩ (fD a3.out) ?_));refine(QaU _ (Mu.mk m.kd ByteArray.empty m.tk m.i m.had m.was m.has m.v m.l) ⟨c.w1,c.w2,c.v1,c.v2,c.s⟩).mono ?_;rintro e W7 ⟨rfl,U⟩;have a6:=hY (a9.out.trans U);clear U;go_wp2_with fail;go_ret;exact⟨by rw[HR.o]<;>rfl,a6.o⟩
theorem Qnx(w:World)(m:Mu)(c:MuS)(L:m.kd=3)(hh:m.had=true):Calls prog 118 #[QaG m c] w λe w'=>e=.returned (.bool (!Qal m))/\Ext w w':=by
 have hr:(!Qal m)=(!QaH (Mu.mk m.kd ByteArray.empty m.tk 0 m.had m.was m.has m.v m.l)):=by
  obtain⟨b4,k',b5,i',b3,a9,b0,v',l'⟩:=m;simp only[Mu.kd,Mu.had,Mu.was,Mu.has,Mu.v]at L hh;simp[Qal,Qbv,QaH,Mu.kd,L,hh,Qa4,Mu.k,Mu.tk,Mu.i,Mu.had,Mu.was,Mu.has,Mu.v,Mu.l]
 have HR:=hY hr;have HH:=hY hh;have e1:(m.kd==1)=false:=by simp[L]
 have e5:(m.kd==5)=false:=by simp[L]
 have e2:(m.kd==2)=false:=by simp[L]
 have e3:(m.kd==3)=true:=by simp[L]
 clear hr L hh;go_in;go_upto_region 1 with fail;generalize Y:World.alloc _ _=W0;obtain⟨z,J,a4⟩:=Qaz (m:=m) (c:=c) Y;have X:=hY z;have D:=hY J;have c4:=J.c4;rw[HH.o]at c4;clear Y z J a4;go_upto_region 4 with(first |(refine Qak rfl (.tmp 1) rfl w.heap.size 0 rfl m c D.o ?_) |(refine Qa0 rfl rfl rfl m c (w0:=W0) (b:=W0) rfl ((fu W0).alloc _ _) (fx W0 _ _) rfl rfl rfl ?_;intro w5 I U;have a7:=hY (X.o.trans I);have D:=hY (fF D.o I);have a1:=hY U;clear I U));have d0:=D.o.kind;have hg:w.heap.size<=W0.heap.size:=X.o.size;go_wp2_with(first |(refine Qan [.string ⟨#[]⟩] ?_ ?_ ?_ hg a7.o a1.o 1 ?_ ?_ (Mu.mk m.kd ByteArray.empty m.tk m.i m.had m.was m.has m.v m.l) ⟨c.w1,c.w2,c.v1,c.v2,c.s⟩ ?_ ?_;rfl;kernel_rfl;rfl;decide;rfl;rfl;intro v0 z Z;have a8:=hY z;have a2:=hY Z;clear z Z) |(refine Qan [.int .i64 0] ?_ ?_ ?_ hg a8.out a2.out 3 ?_ ?_ (Mu.mk m.kd ByteArray.empty m.tk 0 m.had m.was m.has m.v m.l) ⟨c.w1,c.w2,c.v1,c.v2,c.s⟩ ?_ ?_;rfl;kernel_rfl;rfl;decide;rfl;rfl;intro v1 N a0;have a3:=hY N;have a6:=hY a0;clear N a0) |(refine Qak rfl (.tmp 3) rfl W0.heap.size 0 rfl (Mu.mk m.kd ByteArray.empty m.tk 0 m.had m.was m.has m.v m.l) ⟨c.w1,c.w2,c.v1,c.v2,c.s⟩ (fD a6.out) ?_));refine(QaU _ (Mu.mk m.kd ByteArray.empty m.tk 0 m.had m.was m.has m.v m.l) ⟨c.w1,c.w2,c.v1,c.v2,c.s⟩).mono ?_;rintro e W7 ⟨rfl,R⟩;have a5:=hY (a3.out.trans R);clear R;go_wp2_with fail;go_ret;exact⟨by rw[HR.o]<;>rfl,a5.o⟩
theorem Qny(w:World)(m:Mu)(c:MuS)(N:m.kd=3)(hh:m.had=false)(hz:Qel m.was=true):Calls prog 118 #[QaG m c] w λe w'=>e=.returned (.bool (!Qal m))/\Ext w w':=by
 have hr:(!Qal m)=(!QaH (Mu.mk m.kd ByteArray.empty m.tk 0 m.had m.was m.has m.v m.l)):=by
  obtain⟨b8,k',c0,i',b7,b5,b6,v',l'⟩:=m;simp only[Mu.kd,Mu.had,Mu.was,Mu.has,Mu.v]at N hh hz;simp[Qal,Qbv,QaH,Mu.kd,N,hh,Qa4,Mu.k,Mu.tk,Mu.i,Mu.had,Mu.was,Mu.has,Mu.v,Mu.l,hz]
 have HR:=hY hr;have HH:=hY hh;have HZ:=hY hz;have e1:(m.kd==1)=false:=by simp[N]
 have e5:(m.kd==5)=false:=by simp[N]
 have e2:(m.kd==2)=false:=by simp[N]
 have e3:(m.kd==3)=true:=by simp[N]
 clear hr N hh hz;go_in;go_upto_region 1 with fail;generalize Z:World.alloc _ _=W0;obtain⟨D,L,a6⟩:=Qaz (m:=m) (c:=c) Z;have a7:=hY D;have I:=hY L;have c4:=L.c4;rw[HH.o]at c4;clear Z D L a6;obtain⟨c5,c6,c7,c8,c9,a9⟩:=I.o.QnS;go_wp2_with fail;refine(QaD _ m.was c.w1 c.w2).mono ?_;rintro e R ⟨rfl,z⟩;have Y:=hY (a7.o.trans z);have a2:=hY (I.o.ext z);clear z c4 c5 c6 c7 c8 c9 a9;rw[HZ.o];go_upto_region 4 with(first |(refine Qak rfl (.tmp 1) rfl w.heap.size 0 rfl m c a2.o ?_) |(refine Qa0 rfl rfl rfl m c (w0:=R) (b:=R) rfl ((fu R).alloc _ _) (fx R _ _) rfl rfl rfl ?_;intro w5 J X;have b3:=hY (Y.o.trans J);have I:=hY (fF a2.o J);have a3:=hY X;clear J X));have d0:=I.o.kind;have hg:w.heap.size<=R.heap.size:=Y.o.size;go_wp2_with(first |(refine Qan [.string ⟨#[]⟩] ?_ ?_ ?_ hg b3.o a3.o 1 ?_ ?_ (Mu.mk m.kd ByteArray.empty m.tk m.i m.had m.was m.has m.v m.l) ⟨c.w1,c.w2,c.v1,c.v2,c.s⟩ ?_ ?_;rfl;kernel_rfl;rfl;decide;rfl;rfl;intro v0 D a0;have b4:=hY D;have a4:=hY a0;clear D a0) |(refine Qan [.int .i64 0] ?_ ?_ ?_ hg b4.out a4.out 3 ?_ ?_ (Mu.mk m.kd ByteArray.empty m.tk 0 m.had m.was m.has m.v m.l) ⟨c.w1,c.w2,c.v1,c.v2,c.s⟩ ?_ ?_;rfl;kernel_rfl;rfl;decide;rfl;rfl;intro v1 z a1;have a5:=hY z;have b0:=hY a1;clear z a1) |(refine Qak rfl (.tmp 3) rfl R.heap.size 0 rfl (Mu.mk m.kd ByteArray.empty m.tk 0 m.had m.was m.has m.v m.l) ⟨c.w1,c.w2,c.v1,c.v2,c.s⟩ (fD b0.out) ?_));refine(QaU _ (Mu.mk m.kd ByteArray.empty m.tk 0 m.had m.was m.has m.v m.l) ⟨c.w1,c.w2,c.v1,c.v2,c.s⟩).mono ?_;rintro e W7 ⟨rfl,U⟩;have a8:=hY (a5.out.trans U);clear U;go_wp2_with fail;go_ret;exact⟨by rw[HR.o]<;>rfl,a8.o⟩
theorem Qlb(w:World)(m:Mu)(c:MuS)(I:m.kd=4)(hh:m.had=true)(hs:m.has=true):Calls prog 118 #[QaG m c] w λe w'=>e=.returned (.bool (!Qal m))/\Ext w w':=by
 have hr:(!Qal m)=(!QaH (Mu.mk m.kd ByteArray.empty m.tk m.i false zeroV false zeroV m.l)):=by
  obtain⟨d4,k',d5,i',d3,c8,c9,v',l'⟩:=m;simp only[Mu.kd,Mu.had,Mu.was,Mu.has,Mu.v]at I hh hs;simp[Qal,Qbv,QaH,Mu.kd,I,hh,Qa4,Mu.k,Mu.tk,Mu.i,Mu.had,Mu.was,Mu.has,Mu.v,Mu.l,hs]
 have HR:=hY hr;have HH:=hY hh;have HS:=hY hs;have e1:(m.kd==1)=false:=by simp[I]
 have e5:(m.kd==5)=false:=by simp[I]
 have e2:(m.kd==2)=false:=by simp[I]
 have e3:(m.kd==3)=false:=by simp[I]
 have e4:(m.kd==4)=true:=by simp[I]
 clear hr I hh hs;go_in;go_upto_region 1 with fail;generalize a5:World.alloc _ _=W0;obtain⟨D,L,b8⟩:=Qaz (m:=m) (c:=c) a5;have a2:=hY D;have z:=hY L;have c4:=L.c4;rw[HH.o]at c4;clear a5 D L b8;go_upto_region 4 with(first |(refine Qak rfl (.tmp 1) rfl w.heap.size 0 rfl m c z.o ?_) |(refine Qa0 rfl rfl rfl m c (w0:=W0) (b:=W0) rfl ((fu W0).alloc _ _) (fx W0 _ _) rfl rfl rfl ?_;intro w5 J Z;have c6:=hY (a2.o.trans J);have z:=hY (fF z.o J);have a8:=hY Z;clear J Z));have d0:=z.o.kind;have U:w.heap.size<=W0.heap.size:=a2.o.size;have b6:=z.o.c11;rw[HS.o]at b6;go_upto_region 16 with fail;go_wp2_with(first |(refine Qan [.string ⟨#[]⟩] ?_ ?_ ?_ U c6.o a8.o 1 ?_ ?_ (Mu.mk m.kd ByteArray.empty m.tk m.i m.had m.was m.has m.v m.l) ⟨c.w1,c.w2,c.v1,c.v2,c.s⟩ ?_ ?_;rfl;kernel_rfl;rfl;decide;rfl;rfl;intro v0 D a6;have c7:=hY D;have b5:=hY a6;clear D a6) |(refine Qan [.bool false] ?_ ?_ ?_ U c7.out b5.out 4 ?_ ?_ (Mu.mk m.kd ByteArray.empty m.tk m.i false m.was m.has m.v m.l) ⟨c.w1,c.w2,c.v1,c.v2,c.s⟩ ?_ ?_;rfl;kernel_rfl;rfl;decide;rfl;rfl;intro v1 N a7;have b7:=hY N;have c3:=hY a7;clear N a7) |(refine Qan [.int .i64 0,.bool false,.int .i64 0,.string ⟨#[]⟩,.slice none 0 0,.slice none 0 0] ?_ ?_ ?_ U b7.out c3.out 5 ?_ ?_ (Mu.mk m.kd ByteArray.empty m.tk m.i false zeroV m.has m.v m.l) ⟨Sl.none,Sl.none,c.v1,c.v2,c.s⟩ ?_ ?_;rfl;kernel_rfl;rfl;decide;rfl;rfl;intro v2 a0 a3;have b4:=hY a0;have c2:=hY a3;clear a0 a3) |(refine Qan [.bool false] ?_ ?_ ?_ U b4.out c2.out 11 ?_ ?_ (Mu.mk m.kd ByteArray.empty m.tk m.i false zeroV false m.v m.l) ⟨Sl.none,Sl.none,c.v1,c.v2,c.s⟩ ?_ ?_;rfl;kernel_rfl;rfl;decide;rfl;rfl;intro v3 a4 a1;have a9:=hY a4;have b0:=hY a1;clear a4 a1) |(refine Qan [.int .i64 0,.bool false,.int .i64 0,.string ⟨#[]⟩,.slice none 0 0,.slice none 0 0] ?_ ?_ ?_ U a9.out b0.out 12 ?_ ?_ (Mu.mk m.kd ByteArray.empty m.tk m.i false zeroV false zeroV m.l) ⟨Sl.none,Sl.none,Sl.none,Sl.none,c.s⟩ ?_ ?_;rfl;kernel_rfl;rfl;decide;rfl;rfl;intro v4 Y X;have b3:=hY Y;have c1:=hY X;clear Y X) |(refine Qak rfl (.tmp 3) rfl W0.heap.size 0 rfl (Mu.mk m.kd ByteArray.empty m.tk m.i false zeroV false zeroV m.l) ⟨Sl.none,Sl.none,Sl.none,Sl.none,c.s⟩ (fD c1.out) ?_));refine(QaU _ (Mu.mk m.kd ByteArray.empty m.tk m.i false zeroV false zeroV m.l) ⟨Sl.none,Sl.none,Sl.none,Sl.none,c.s⟩).mono ?_;rintro e W7 ⟨rfl,R⟩;have c0:=hY (b3.out.trans R);clear R;go_wp2_with fail;go_ret;exact⟨by rw[HR.o]<;>rfl,c0.o⟩
theorem Qlc(w:World)(m:Mu)(c:MuS)(I:m.kd=4)(hh:m.had=true)(hs:m.has=false)(hv:Qel m.v=true):Calls prog 118 #[QaG m c] w λe w'=>e=.returned (.bool (!Qal m))/\Ext w w':=by
 have hr:(!Qal m)=(!QaH (Mu.mk m.kd ByteArray.empty m.tk m.i false zeroV false zeroV m.l)):=by
  obtain⟨f1,k',f0,i',e8,e6,e7,v',l'⟩:=m;simp only[Mu.kd,Mu.had,Mu.was,Mu.has,Mu.v]at I hh hs hv;simp[Qal,Qbv,QaH,Mu.kd,I,hh,Qa4,Mu.k,Mu.tk,Mu.i,Mu.had,Mu.was,Mu.has,Mu.v,Mu.l,hs,hv]
 have HR:=hY hr;have HH:=hY hh;have HS:=hY hs;have HV:=hY hv;have e1:(m.kd==1)=false:=by simp[I]
 have e5:(m.kd==5)=false:=by simp[I]
 have e2:(m.kd==2)=false:=by simp[I]
 have e3:(m.kd==3)=false:=by simp[I]
 have e4:(m.kd==4)=true:=by simp[I]
 clear hr I hh hs hv;go_in;go_upto_region 1 with fail;generalize a3:World.alloc _ _=W0;obtain⟨D,J,b7⟩:=Qaz (m:=m) (c:=c) a3;have a0:=hY D;have z:=hY J;have c4:=J.c4;rw[HH.o]at c4;clear a3 D J b7;go_upto_region 4 with(first |(refine Qak rfl (.tmp 1) rfl w.heap.size 0 rfl m c z.o ?_) |(refine Qa0 rfl rfl rfl m c (w0:=W0) (b:=W0) rfl ((fu W0).alloc _ _) (fx W0 _ _) rfl rfl rfl ?_;intro w5 N X;have e0:=hY (a0.o.trans N);have z:=hY (fF z.o N);have c7:=hY X;clear N X));have d0:=z.o.kind;have U:w.heap.size<=W0.heap.size:=a0.o.size;have a7:=z.o.c11;rw[HS.o]at a7;obtain⟨c2,b6,d5,b0,b4,c6⟩:=z.o.v6;go_wp2_with fail;refine(QaD _ m.v c.v1 c.v2).mono ?_;rintro e W6 ⟨rfl,L⟩;rw[HV.o];have d4:=hY (c7.o.ext L);have c0:=hY (e0.o.trans L);clear L d0 a7 c2 b6 d5 b0 b4 c6;go_wp2_with(first |(refine Qan [.string ⟨#[]⟩] ?_ ?_ ?_ U c0.o d4.o 1 ?_ ?_ (Mu.mk m.kd ByteArray.empty m.tk m.i m.had m.was m.has m.v m.l) ⟨c.w1,c.w2,c.v1,c.v2,c.s⟩ ?_ ?_;rfl;kernel_rfl;rfl;decide;rfl;rfl;intro v0 D a8;have c3:=hY D;have b5:=hY a8;clear D a8) |(refine Qan [.bool false] ?_ ?_ ?_ U c3.out b5.out 4 ?_ ?_ (Mu.mk m.kd ByteArray.empty m.tk m.i false m.was m.has m.v m.l) ⟨c.w1,c.w2,c.v1,c.v2,c.s⟩ ?_ ?_;rfl;kernel_rfl;rfl;decide;rfl;rfl;intro v1 a4 a9;have d6:=hY a4;have c1:=hY a9;clear a4 a9) |(refine Qan [.int .i64 0,.bool false,.int .i64 0,.string ⟨#[]⟩,.slice none 0 0,.slice none 0 0] ?_ ?_ ?_ U d6.out c1.out 5 ?_ ?_ (Mu.mk m.kd ByteArray.empty m.tk m.i false zeroV m.has m.v m.l) ⟨Sl.none,Sl.none,c.v1,c.v2,c.s⟩ ?_ ?_;rfl;kernel_rfl;rfl;decide;rfl;rfl;intro v2 Y a1;have d3:=hY Y;have b8:=hY a1;clear Y a1) |(refine Qan [.bool false] ?_ ?_ ?_ U d3.out b8.out 11 ?_ ?_ (Mu.mk m.kd ByteArray.empty m.tk m.i false zeroV false m.v m.l) ⟨Sl.none,Sl.none,c.v1,c.v2,c.s⟩ ?_ ?_;rfl;kernel_rfl;rfl;decide;rfl;rfl;intro v3 a2 Z;have c8:=hY a2;have c9:=hY Z;clear a2 Z) |(refine Qan [.int .i64 0,.bool false,.int .i64 0,.string ⟨#[]⟩,.slice none 0 0,.slice none 0 0] ?_ ?_ ?_ U c8.out c9.out 12 ?_ ?_ (Mu.mk m.kd ByteArray.empty m.tk m.i false zeroV false zeroV m.l) ⟨Sl.none,Sl.none,Sl.none,Sl.none,c.s⟩ ?_ ?_;rfl;kernel_rfl;rfl;decide;rfl;rfl;intro v4 a6 a5;have b3:=hY a6;have d8:=hY a5;clear a6 a5) |(refine Qak rfl (.tmp 3) rfl W0.heap.size 0 rfl (Mu.mk m.kd ByteArray.empty m.tk m.i false zeroV false zeroV m.l) ⟨Sl.none,Sl.none,Sl.none,Sl.none,c.s⟩ (fD d8.out) ?_));refine(QaU _ (Mu.mk m.kd ByteArray.empty m.tk m.i false zeroV false zeroV m.l) ⟨Sl.none,Sl.none,Sl.none,Sl.none,c.s⟩).mono ?_;rintro e W7 ⟨rfl,R⟩;have d7:=hY (b3.out.trans R);clear R;go_wp2_with fail;go_ret;exact⟨by rw[HR.o]<;>rfl,d7.o⟩
theorem Qld(w:World)(m:Mu)(c:MuS)(D:m.kd=4)(Z:m.had=true)(hs:m.has=false)(Y:Qel m.v=false):Calls prog 118 #[QaG m c] w λe w'=>e=.returned (.bool (!Qal m))/\Ext w w':=by
 have hr:(!Qal m)=true:=by
  obtain⟨b5,k',b6,i',a6,a4,a5,v',l'⟩:=m;simp only[Mu.kd,Mu.had,Mu.was,Mu.has,Mu.v]at D Z hs Y;simp[Qal,Qbv,QaH,Mu.kd,D,Z,Qa4,Mu.k,Mu.tk,Mu.i,Mu.had,Mu.was,Mu.has,Mu.v,Mu.l,hs,Y]
 have HR:=hY hr;have HH:=hY Z;have HS:=hY hs;have HV:=hY Y;have e1:(m.kd==1)=false:=by simp[D]
 have e5:(m.kd==5)=false:=by simp[D]
 have e2:(m.kd==2)=false:=by simp[D]
 have e3:(m.kd==3)=false:=by simp[D]
 have e4:(m.kd==4)=true:=by simp[D]
 clear hr D Z hs Y;go_in;go_upto_region 1 with fail;generalize X:World.alloc _ _=W0;obtain⟨L,J,a1⟩:=Qaz (m:=m) (c:=c) X;have U:=hY L;have z:=hY J;have c4:=J.c4;rw[HH.o]at c4;clear X L J a1;go_upto_region 4 with(first |(refine Qak rfl (.tmp 1) rfl w.heap.size 0 rfl m c z.o ?_) |(refine Qa0 rfl rfl rfl m c (w0:=W0) (b:=W0) rfl ((fu W0).alloc _ _) (fx W0 _ _) rfl rfl rfl ?_;intro w5 I N;have a3:=hY (U.o.trans I);have z:=hY (fF z.o I);have a9:=hY N;clear I N));have d0:=z.o.kind;have hg:w.heap.size<=W0.heap.size:=U.o.size;have a0:=z.o.c11;rw[HS.o]at a0;obtain⟨b7,b4,b3,a7,b0,a8⟩:=z.o.v6;go_wp2_with fail;refine(QaD _ m.v c.v1 c.v2).mono ?_;rintro e W6 ⟨rfl,R⟩;rw[HV.o];have a2:=hY (a3.o.trans R);clear R;go_wp2_with fail;go_ret;exact⟨by rw[HR.o]<;>rfl,a2.o⟩
theorem Qle(w:World)(m:Mu)(c:MuS)(J:m.kd=4)(hh:m.had=false)(hz:Qel m.was=true)(hs:m.has=true):Calls prog 118 #[QaG m c] w λe w'=>e=.returned (.bool (!Qal m))/\Ext w w':=by
 have hr:(!Qal m)=(!QaH (Mu.mk m.kd ByteArray.empty m.tk m.i false zeroV false zeroV m.l)):=by
  obtain⟨f0,k',e8,i',e7,e0,e6,v',l'⟩:=m;simp only[Mu.kd,Mu.had,Mu.was,Mu.has,Mu.v]at J hh hz hs;simp[Qal,Qbv,QaH,Mu.kd,J,hh,Qa4,Mu.k,Mu.tk,Mu.i,Mu.had,Mu.was,Mu.has,Mu.v,Mu.l,hz,hs]
 have HR:=hY hr;have HH:=hY hh;have HS:=hY hs;have HZ:=hY hz;have e1:(m.kd==1)=false:=by simp[J]
 have e5:(m.kd==5)=false:=by simp[J]
 have e2:(m.kd==2)=false:=by simp[J]
 have e3:(m.kd==3)=false:=by simp[J]
 have e4:(m.kd==4)=true:=by simp[J]
 clear hr J hh hz hs;go_in;go_upto_region 1 with fail;generalize a3:World.alloc _ _=W0;obtain⟨I,L,b4⟩:=Qaz (m:=m) (c:=c) a3;have b5:=hY I;have D:=hY L;have c4:=L.c4;rw[HH.o]at c4;clear a3 I L b4;obtain⟨c5,c6,c7,c8,c9,d6⟩:=D.o.QnS;go_wp2_with fail;refine(QaD _ m.was c.w1 c.w2).mono ?_;rintro e R ⟨rfl,z⟩;have a7:=hY (b5.o.trans z);have a4:=hY (D.o.ext z);clear z c4 c5 c6 c7 c8 c9 d6;rw[HZ.o];go_upto_region 4 with(first |(refine Qak rfl (.tmp 1) rfl w.heap.size 0 rfl m c a4.o ?_) |(refine Qa0 rfl rfl rfl m c (w0:=R) (b:=R) rfl ((fu R).alloc _ _) (fx R _ _) rfl rfl rfl ?_;intro w5 N Y;have d8:=hY (a7.o.trans N);have D:=hY (fF a4.o N);have c0:=hY Y;clear N Y));have d0:=D.o.kind;have X:w.heap.size<=R.heap.size:=a7.o.size;have d3:=D.o.c11;rw[HS.o]at d3;go_upto_region 16 with fail;go_wp2_with(first |(refine Qan [.string ⟨#[]⟩] ?_ ?_ ?_ X d8.o c0.o 1 ?_ ?_ (Mu.mk m.kd ByteArray.empty m.tk m.i m.had m.was m.has m.v m.l) ⟨c.w1,c.w2,c.v1,c.v2,c.s⟩ ?_ ?_;rfl;kernel_rfl;rfl;decide;rfl;rfl;intro v0 I a8;have b8:=hY I;have b3:=hY a8;clear I a8) |(refine Qan [.bool false] ?_ ?_ ?_ X b8.out b3.out 4 ?_ ?_ (Mu.mk m.kd ByteArray.empty m.tk m.i false m.was m.has m.v m.l) ⟨c.w1,c.w2,c.v1,c.v2,c.s⟩ ?_ ?_;rfl;kernel_rfl;rfl;decide;rfl;rfl;intro v1 z a9;have d4:=hY z;have b7:=hY a9;clear z a9) |(refine Qan [.int .i64 0,.bool false,.int .i64 0,.string ⟨#[]⟩,.slice none 0 0,.slice none 0 0] ?_ ?_ ?_ X d4.out b7.out 5 ?_ ?_ (Mu.mk m.kd ByteArray.empty m.tk m.i false zeroV m.has m.v m.l) ⟨Sl.none,Sl.none,c.v1,c.v2,c.s⟩ ?_ ?_;rfl;kernel_rfl;rfl;decide;rfl;rfl;intro v2 Z a1;have c3:=hY Z;have b6:=hY a1;clear Z a1) |(refine Qan [.bool false] ?_ ?_ ?_ X c3.out b6.out 11 ?_ ?_ (Mu.mk m.kd ByteArray.empty m.tk m.i false zeroV false m.v m.l) ⟨Sl.none,Sl.none,c.v1,c.v2,c.s⟩ ?_ ?_;rfl;kernel_rfl;rfl;decide;rfl;rfl;intro v3 a2 a0;have c1:=hY a2;have c2:=hY a0;clear a2 a0) |(refine Qan [.int .i64 0,.bool false,.int .i64 0,.string ⟨#[]⟩,.slice none 0 0,.slice none 0 0] ?_ ?_ ?_ X c1.out c2.out 12 ?_ ?_ (Mu.mk m.kd ByteArray.empty m.tk m.i false zeroV false zeroV m.l) ⟨Sl.none,Sl.none,Sl.none,Sl.none,c.s⟩ ?_ ?_;rfl;kernel_rfl;rfl;decide;rfl;rfl;intro v4 a6 a5;have b0:=hY a6;have d7:=hY a5;clear a6 a5) |(refine Qak rfl (.tmp 3) rfl R.heap.size 0 rfl (Mu.mk m.kd ByteArray.empty m.tk m.i false zeroV false zeroV m.l) ⟨Sl.none,Sl.none,Sl.none,Sl.none,c.s⟩ (fD d7.out) ?_));refine(QaU _ (Mu.mk m.kd ByteArray.empty m.tk m.i false zeroV false zeroV m.l) ⟨Sl.none,Sl.none,Sl.none,Sl.none,c.s⟩).mono ?_;rintro e W7 ⟨rfl,U⟩;have d5:=hY (b0.out.trans U);clear U;go_wp2_with fail;go_ret;exact⟨by rw[HR.o]<;>rfl,d5.o⟩
theorem Qlf(w:World)(m:Mu)(c:MuS)(J:m.kd=4)(hh:m.had=false)(hz:Qel m.was=true)(hs:m.has=false)(hv:Qel m.v=true):Calls prog 118 #[QaG m c] w λe w'=>e=.returned (.bool (!Qal m))/\Ext w w':=by
 have hr:(!Qal m)=(!QaH (Mu.mk m.kd ByteArray.empty m.tk m.i false zeroV false zeroV m.l)):=by
  obtain⟨f9,k',f8,i',f7,f5,f6,v',l'⟩:=m;simp only[Mu.kd,Mu.had,Mu.was,Mu.has,Mu.v]at J hh hz hs hv;simp[Qal,Qbv,QaH,Mu.kd,J,hh,Qa4,Mu.k,Mu.tk,Mu.i,Mu.had,Mu.was,Mu.has,Mu.v,Mu.l,hz,hs,hv]
 have HR:=hY hr;have HH:=hY hh;have HS:=hY hs;have HZ:=hY hz;have HV:=hY hv;have e1:(m.kd==1)=false:=by simp[J]
 have e5:(m.kd==5)=false:=by simp[J]
 have e2:(m.kd==2)=false:=by simp[J]
 have e3:(m.kd==3)=false:=by simp[J]
 have e4:(m.kd==4)=true:=by simp[J]
 clear hr J hh hz hs hv;go_in;go_upto_region 1 with fail;generalize a4:World.alloc _ _=W0;obtain⟨I,L,c0⟩:=Qaz (m:=m) (c:=c) a4;have c1:=hY I;have D:=hY L;have c4:=L.c4;rw[HH.o]at c4;clear a4 I L c0;obtain⟨c5,c6,c7,c8,c9,f2⟩:=D.o.QnS;go_wp2_with fail;refine(QaD _ m.was c.w1 c.w2).mono ?_;rintro e U ⟨rfl,z⟩;have a9:=hY (c1.o.trans z);have a5:=hY (D.o.ext z);clear z c4 c5 c6 c7 c8 c9 f2;rw[HZ.o];go_upto_region 4 with(first |(refine Qak rfl (.tmp 1) rfl w.heap.size 0 rfl m c a5.o ?_) |(refine Qa0 rfl rfl rfl m c (w0:=U) (b:=U) rfl ((fu U).alloc _ _) (fx U _ _) rfl rfl rfl ?_;intro w5 R Z;have f4:=hY (a9.o.trans R);have D:=hY (fF a5.o R);have d7:=hY Z;clear R Z));have d0:=D.o.kind;have Y:w.heap.size<=U.heap.size:=a9.o.size;have a8:=D.o.c11;rw[HS.o]at a8;obtain⟨d4,b8,e8,b4,b6,d6⟩:=D.o.v6;go_wp2_with fail;refine(QaD _ m.v c.v1 c.v2).mono ?_;rintro e W6 ⟨rfl,N⟩;rw[HV.o];have e7:=hY (d7.o.ext N);have c3:=hY (f4.o.trans N);clear N d0 a8 d4 b8 e8 b4 b6 d6;go_wp2_with(first |(refine Qan [.string ⟨#[]⟩] ?_ ?_ ?_ Y c3.o e7.o 1 ?_ ?_ (Mu.mk m.kd ByteArray.empty m.tk m.i m.had m.was m.has m.v m.l) ⟨c.w1,c.w2,c.v1,c.v2,c.s⟩ ?_ ?_;rfl;kernel_rfl;rfl;decide;rfl;rfl;intro v0 I b0;have d5:=hY I;have b7:=hY b0;clear I b0) |(refine Qan [.bool false] ?_ ?_ ?_ Y d5.out b7.out 4 ?_ ?_ (Mu.mk m.kd ByteArray.empty m.tk m.i false m.was m.has m.v m.l) ⟨c.w1,c.w2,c.v1,c.v2,c.s⟩ ?_ ?_;rfl;kernel_rfl;rfl;decide;rfl;rfl;intro v1 z b3;have f0:=hY z;have d3:=hY b3;clear z b3) |(refine Qan [.int .i64 0,.bool false,.int .i64 0,.string ⟨#[]⟩,.slice none 0 0,.slice none 0 0] ?_ ?_ ?_ Y f0.out d3.out 5 ?_ ?_ (Mu.mk m.kd ByteArray.empty m.tk m.i false zeroV m.has m.v m.l) ⟨Sl.none,Sl.none,c.v1,c.v2,c.s⟩ ?_ ?_;rfl;kernel_rfl;rfl;decide;rfl;rfl;intro v2 a0 a2;have e6:=hY a0;have c2:=hY a2;clear a0 a2) |(refine Qan [.bool false] ?_ ?_ ?_ Y e6.out c2.out 11 ?_ ?_ (Mu.mk m.kd ByteArray.empty m.tk m.i false zeroV false m.v m.l) ⟨Sl.none,Sl.none,c.v1,c.v2,c.s⟩ ?_ ?_;rfl;kernel_rfl;rfl;decide;rfl;rfl;intro v3 a3 a1;have d8:=hY a3;have e0:=hY a1;clear a3 a1) |(refine Qan [.int .i64 0,.bool false,.int .i64 0,.string ⟨#[]⟩,.slice none 0 0,.slice none 0 0] ?_ ?_ ?_ Y d8.out e0.out 12 ?_ ?_ (Mu.mk m.kd ByteArray.empty m.tk m.i false zeroV false zeroV m.l) ⟨Sl.none,Sl.none,Sl.none,Sl.none,c.s⟩ ?_ ?_;rfl;kernel_rfl;rfl;decide;rfl;rfl;intro v4 a7 a6;have b5:=hY a7;have f3:=hY a6;clear a7 a6) |(refine Qak rfl (.tmp 3) rfl U.heap.size 0 rfl (Mu.mk m.kd ByteArray.empty m.tk m.i false zeroV false zeroV m.l) ⟨Sl.none,Sl.none,Sl.none,Sl.none,c.s⟩ (fD f3.out) ?_));refine(QaU _ (Mu.mk m.kd ByteArray.empty m.tk m.i false zeroV false zeroV m.l) ⟨Sl.none,Sl.none,Sl.none,Sl.none,c.s⟩).mono ?_;rintro e W7 ⟨rfl,X⟩;have f1:=hY (b5.out.trans X);clear X;go_wp2_with fail;go_ret;exact⟨by rw[HR.o]<;>rfl,f1.o⟩
theorem Qlg(w:World)(m:Mu)(c:MuS)(D:m.kd=4)(hh:m.had=false)(hz:Qel m.was=true)(hs:m.has=false)(hv:Qel m.v=false):Calls prog 118 #[QaG m c] w λe w'=>e=.returned (.bool (!Qal m))/\Ext w w':=by
 have hr:(!Qal m)=true:=by
  obtain⟨b8,k',c0,i',a9,a7,a8,v',l'⟩:=m;simp only[Mu.kd,Mu.had,Mu.was,Mu.has,Mu.v]at D hh hz hs hv;simp[Qal,Qbv,QaH,Mu.kd,D,hh,Qa4,Mu.k,Mu.tk,Mu.i,Mu.had,Mu.was,Mu.has,Mu.v,Mu.l,hz,hs,hv]
 have HR:=hY hr;have HH:=hY hh;have HS:=hY hs;have HZ:=hY hz;have HV:=hY hv;have e1:(m.kd==1)=false:=by simp[D]
 have e5:(m.kd==5)=false:=by simp[D]
 have e2:(m.kd==2)=false:=by simp[D]
 have e3:(m.kd==3)=false:=by simp[D]
 have e4:(m.kd==4)=true:=by simp[D]
 clear hr D hh hz hs hv;go_in;go_upto_region 1 with fail;generalize Z:World.alloc _ _=W0;obtain⟨R,L,a2⟩:=Qaz (m:=m) (c:=c) Z;have a3:=hY R;have z:=hY L;have c4:=L.c4;rw[HH.o]at c4;clear Z R L a2;obtain⟨c5,c6,c7,c8,c9,a4⟩:=z.o.QnS;go_wp2_with fail;refine(QaD _ m.was c.w1 c.w2).mono ?_;rintro e N ⟨rfl,I⟩;have Y:=hY (a3.o.trans I);have a0:=hY (z.o.ext I);clear I c4 c5 c6 c7 c8 c9 a4;rw[HZ.o];go_upto_region 4 with(first |(refine Qak rfl (.tmp 1) rfl w.heap.size 0 rfl m c a0.o ?_) |(refine Qa0 rfl rfl rfl m c (w0:=N) (b:=N) rfl ((fu N).alloc _ _) (fx N _ _) rfl rfl rfl ?_;intro w5 J U;have a6:=hY (Y.o.trans J);have z:=hY (fF a0.o J);have b4:=hY U;clear J U));have d0:=z.o.kind;have hg:w.heap.size<=N.heap.size:=Y.o.size;have a1:=z.o.c11;rw[HS.o]at a1;obtain⟨c1,b7,b6,b0,b5,b3⟩:=z.o.v6;go_wp2_with fail;refine(QaD _ m.v c.v1 c.v2).mono ?_;rintro e W6 ⟨rfl,X⟩;rw[HV.o];have a5:=hY (a6.o.trans X);clear X;go_wp2_with fail;go_ret;exact⟨by rw[HR.o]<;>rfl,a5.o⟩
theorem QnB(w:World)(m:Mu)(c:MuS)(I:m.kd=6)(hh:m.had=true):Calls prog 118 #[QaG m c] w λe w'=>e=.returned (.bool (!Qal m))/\Ext w w':=by
 have hr:(!Qal m)=(!QaH (Mu.mk m.kd ByteArray.empty ByteArray.empty m.i m.had m.was m.has m.v m.l)):=by
  obtain⟨b4,k',b5,i',b3,a9,b0,v',l'⟩:=m;simp only[Mu.kd,Mu.had,Mu.was,Mu.has,Mu.v]at I hh;simp[Qal,Qbv,QaH,Mu.kd,I,hh,Qa4,Mu.k,Mu.tk,Mu.i,Mu.had,Mu.was,Mu.has,Mu.v,Mu.l]
 have HR:=hY hr;have HH:=hY hh;have e1:(m.kd==1)=false:=by simp[I]
 have e5:(m.kd==5)=false:=by simp[I]
 have e2:(m.kd==2)=false:=by simp[I]
 have e3:(m.kd==3)=false:=by simp[I]
 have e4:(m.kd==4)=false:=by simp[I]
 have e6:(m.kd==6)=true:=by simp[I]
 clear hr I hh;go_in;go_upto_region 1 with fail;generalize Y:World.alloc _ _=W0;obtain⟨z,L,a4⟩:=Qaz (m:=m) (c:=c) Y;have X:=hY z;have D:=hY L;have c4:=L.c4;rw[HH.o]at c4;clear Y z L a4;go_upto_region 4 with(first |(refine Qak rfl (.tmp 1) rfl w.heap.size 0 rfl m c D.o ?_) |(refine Qa0 rfl rfl rfl m c (w0:=W0) (b:=W0) rfl ((fu W0).alloc _ _) (fx W0 _ _) rfl rfl rfl ?_;intro w5 J U;have a7:=hY (X.o.trans J);have D:=hY (fF D.o J);have a1:=hY U;clear J U));have d0:=D.o.kind;have hg:w.heap.size<=W0.heap.size:=X.o.size;go_wp2_with(first |(refine Qan [.string ⟨#[]⟩] ?_ ?_ ?_ hg a7.o a1.o 1 ?_ ?_ (Mu.mk m.kd ByteArray.empty m.tk m.i m.had m.was m.has m.v m.l) ⟨c.w1,c.w2,c.v1,c.v2,c.s⟩ ?_ ?_;rfl;kernel_rfl;rfl;decide;rfl;rfl;intro v0 z Z;have a8:=hY z;have a2:=hY Z;clear z Z) |(refine Qan [.string ⟨#[]⟩] ?_ ?_ ?_ hg a8.out a2.out 2 ?_ ?_ (Mu.mk m.kd ByteArray.empty ByteArray.empty m.i m.had m.was m.has m.v m.l) ⟨c.w1,c.w2,c.v1,c.v2,c.s⟩ ?_ ?_;rfl;kernel_rfl;rfl;decide;rfl;rfl;intro v1 N a0;have a3:=hY N;have a6:=hY a0;clear N a0) |(refine Qak rfl (.tmp 3) rfl W0.heap.size 0 rfl (Mu.mk m.kd ByteArray.empty ByteArray.empty m.i m.had m.was m.has m.v m.l) ⟨c.w1,c.w2,c.v1,c.v2,c.s⟩ (fD a6.out) ?_));refine(QaU _ (Mu.mk m.kd ByteArray.empty ByteArray.empty m.i m.had m.was m.has m.v m.l) ⟨c.w1,c.w2,c.v1,c.v2,c.s⟩).mono ?_;rintro e W7 ⟨rfl,R⟩;have a5:=hY (a3.out.trans R);clear R;go_wp2_with fail;go_ret;exact⟨by rw[HR.o]<;>rfl,a5.o⟩
theorem QnC(w:World)(m:Mu)(c:MuS)(J:m.kd=6)(hh:m.had=false)(hz:Qel m.was=true):Calls prog 118 #[QaG m c] w λe w'=>e=.returned (.bool (!Qal m))/\Ext w w':=by
 have hr:(!Qal m)=(!QaH (Mu.mk m.kd ByteArray.empty ByteArray.empty m.i m.had m.was m.has m.v m.l)):=by
  obtain⟨b8,k',c0,i',b7,b5,b6,v',l'⟩:=m;simp only[Mu.kd,Mu.had,Mu.was,Mu.has,Mu.v]at J hh hz;simp[Qal,Qbv,QaH,Mu.kd,J,hh,Qa4,Mu.k,Mu.tk,Mu.i,Mu.had,Mu.was,Mu.has,Mu.v,Mu.l,hz]
 have HR:=hY hr;have HH:=hY hh;have HZ:=hY hz;have e1:(m.kd==1)=false:=by simp[J]
 have e5:(m.kd==5)=false:=by simp[J]
 have e2:(m.kd==2)=false:=by simp[J]
 have e3:(m.kd==3)=false:=by simp[J]
 have e4:(m.kd==4)=false:=by simp[J]
 have e6:(m.kd==6)=true:=by simp[J]
 clear hr J hh hz;go_in;go_upto_region 1 with fail;generalize Z:World.alloc _ _=W0;obtain⟨D,N,a6⟩:=Qaz (m:=m) (c:=c) Z;have a7:=hY D;have I:=hY N;have c4:=N.c4;rw[HH.o]at c4;clear Z D N a6;obtain⟨c5,c6,c7,c8,c9,a9⟩:=I.o.QnS;go_wp2_with fail;refine(QaD _ m.was c.w1 c.w2).mono ?_;rintro e R ⟨rfl,z⟩;have Y:=hY (a7.o.trans z);have a2:=hY (I.o.ext z);clear z c4 c5 c6 c7 c8 c9 a9;rw[HZ.o];go_upto_region 4 with(first |(refine Qak rfl (.tmp 1) rfl w.heap.size 0 rfl m c a2.o ?_) |(refine Qa0 rfl rfl rfl m c (w0:=R) (b:=R) rfl ((fu R).alloc _ _) (fx R _ _) rfl rfl rfl ?_;intro w5 L X;have b3:=hY (Y.o.trans L);have I:=hY (fF a2.o L);have a3:=hY X;clear L X));have d0:=I.o.kind;have hg:w.heap.size<=R.heap.size:=Y.o.size;go_wp2_with(first |(refine Qan [.string ⟨#[]⟩] ?_ ?_ ?_ hg b3.o a3.o 1 ?_ ?_ (Mu.mk m.kd ByteArray.empty m.tk m.i m.had m.was m.has m.v m.l) ⟨c.w1,c.w2,c.v1,c.v2,c.s⟩ ?_ ?_;rfl;kernel_rfl;rfl;decide;rfl;rfl;intro v0 D a0;have b4:=hY D;have a4:=hY a0;clear D a0) |(refine Qan [.string ⟨#[]⟩] ?_ ?_ ?_ hg b4.out a4.out 2 ?_ ?_ (Mu.mk m.kd ByteArray.empty ByteArray.empty m.i m.had m.was m.has m.v m.l) ⟨c.w1,c.w2,c.v1,c.v2,c.s⟩ ?_ ?_;rfl;kernel_rfl;rfl;decide;rfl;rfl;intro v1 z a1;have a5:=hY z;have b0:=hY a1;clear z a1) |(refine Qak rfl (.tmp 3) rfl R.heap.size 0 rfl (Mu.mk m.kd ByteArray.empty ByteArray.empty m.i m.had m.was m.has m.v m.l) ⟨c.w1,c.w2,c.v1,c.v2,c.s⟩ (fD b0.out) ?_));refine(QaU _ (Mu.mk m.kd ByteArray.empty ByteArray.empty m.i m.had m.was m.has m.v m.l) ⟨c.w1,c.w2,c.v1,c.v2,c.s⟩).mono ?_;rintro e W7 ⟨rfl,U⟩;have a8:=hY (a5.out.trans U);clear U;go_wp2_with fail;go_ret;exact⟨by rw[HR.o]<;>rfl,a8.o⟩
theorem QnD(w:World)(m:Mu)(c:MuS)(D:m.kd=7)(hh:m.had=true):Calls prog 118 #[QaG m c] w λe w'=>e=.returned (.bool (!Qal m))/\Ext w w':=by
 have hr:(!Qal m)=(!QaH (Mu.mk m.kd ByteArray.empty m.tk m.i false zeroV m.has m.v [])):=by
  obtain⟨c3,k',c6,i',c2,c0,c1,v',l'⟩:=m;simp only[Mu.kd,Mu.had,Mu.was,Mu.has,Mu.v]at D hh;simp[Qal,Qbv,QaH,Mu.kd,D,hh,Qa4,Mu.k,Mu.tk,Mu.i,Mu.had,Mu.was,Mu.has,Mu.v,Mu.l]
 have HR:=hY hr;have HH:=hY hh;have e1:(m.kd==1)=false:=by simp[D]
 have e5:(m.kd==5)=false:=by simp[D]
 have e2:(m.kd==2)=false:=by simp[D]
 have e3:(m.kd==3)=false:=by simp[D]
 have e4:(m.kd==4)=false:=by simp[D]
 have e6:(m.kd==6)=false:=by simp[D]
 have e7:(m.kd==7)=true:=by simp[D]
 clear hr D hh;go_in;go_upto_region 1 with fail;generalize a2:World.alloc _ _=W0;obtain⟨z,L,b3⟩:=Qaz (m:=m) (c:=c) a2;have Z:=hY z;have I:=hY L;have c4:=L.c4;rw[HH.o]at c4;clear a2 z L b3;go_upto_region 4 with(first |(refine Qak rfl (.tmp 1) rfl w.heap.size 0 rfl m c I.o ?_) |(refine Qa0 rfl rfl rfl m c (w0:=W0) (b:=W0) rfl ((fu W0).alloc _ _) (fx W0 _ _) rfl rfl rfl ?_;intro w5 J U;have b7:=hY (Z.o.trans J);have I:=hY (fF I.o J);have a5:=hY U;clear J U));have d0:=I.o.kind;have hg:w.heap.size<=W0.heap.size:=Z.o.size;go_wp2_with(first |(refine Qan [.string ⟨#[]⟩] ?_ ?_ ?_ hg b7.o a5.o 1 ?_ ?_ (Mu.mk m.kd ByteArray.empty m.tk m.i m.had m.was m.has m.v m.l) ⟨c.w1,c.w2,c.v1,c.v2,c.s⟩ ?_ ?_;rfl;kernel_rfl;rfl;decide;rfl;rfl;intro v0 z a3;have b8:=hY z;have a9:=hY a3;clear z a3) |(refine Qan [.bool false] ?_ ?_ ?_ hg b8.out a9.out 4 ?_ ?_ (Mu.mk m.kd ByteArray.empty m.tk m.i false m.was m.has m.v m.l) ⟨c.w1,c.w2,c.v1,c.v2,c.s⟩ ?_ ?_;rfl;kernel_rfl;rfl;decide;rfl;rfl;intro v1 N a4;have b0:=hY N;have b6:=hY a4;clear N a4) |(refine Qan [.int .i64 0,.bool false,.int .i64 0,.string ⟨#[]⟩,.slice none 0 0,.slice none 0 0] ?_ ?_ ?_ hg b0.out b6.out 5 ?_ ?_ (Mu.mk m.kd ByteArray.empty m.tk m.i false zeroV m.has m.v m.l) ⟨Sl.none,Sl.none,c.v1,c.v2,c.s⟩ ?_ ?_;rfl;kernel_rfl;rfl;decide;rfl;rfl;intro v2 X a0;have a8:=hY X;have b5:=hY a0;clear X a0) |(refine Qan [.slice none 0 0] ?_ ?_ ?_ hg a8.out b5.out 18 ?_ ?_ (Mu.mk m.kd ByteArray.empty m.tk m.i false zeroV m.has m.v []) ⟨Sl.none,Sl.none,c.v1,c.v2,Sl.none⟩ ?_ ?_;rfl;kernel_rfl;rfl;decide;rfl;rfl;intro v3 a1 Y;have a6:=hY a1;have a7:=hY Y;clear a1 Y) |(refine Qak rfl (.tmp 3) rfl W0.heap.size 0 rfl (Mu.mk m.kd ByteArray.empty m.tk m.i false zeroV m.has m.v []) ⟨Sl.none,Sl.none,c.v1,c.v2,Sl.none⟩ (fD a7.out) ?_));refine(QaU _ (Mu.mk m.kd ByteArray.empty m.tk m.i false zeroV m.has m.v []) ⟨Sl.none,Sl.none,c.v1,c.v2,Sl.none⟩).mono ?_;rintro e W7 ⟨rfl,R⟩;have b4:=hY (a6.out.trans R);clear R;go_wp2_with fail;go_ret;exact⟨by rw[HR.o]<;>rfl,b4.o⟩
theorem QnE(w:World)(m:Mu)(c:MuS)(I:m.kd=7)(hh:m.had=false)(hz:Qel m.was=true):Calls prog 118 #[QaG m c] w λe w'=>e=.returned (.bool (!Qal m))/\Ext w w':=by
 have hr:(!Qal m)=(!QaH (Mu.mk m.kd ByteArray.empty m.tk m.i false zeroV m.has m.v [])):=by
  obtain⟨d6,k',d7,i',d5,d3,d4,v',l'⟩:=m;simp only[Mu.kd,Mu.had,Mu.was,Mu.has,Mu.v]at I hh hz;simp[Qal,Qbv,QaH,Mu.kd,I,hh,Qa4,Mu.k,Mu.tk,Mu.i,Mu.had,Mu.was,Mu.has,Mu.v,Mu.l,hz]
 have HR:=hY hr;have HH:=hY hh;have HZ:=hY hz;have e1:(m.kd==1)=false:=by simp[I]
 have e5:(m.kd==5)=false:=by simp[I]
 have e2:(m.kd==2)=false:=by simp[I]
 have e3:(m.kd==3)=false:=by simp[I]
 have e4:(m.kd==4)=false:=by simp[I]
 have e6:(m.kd==6)=false:=by simp[I]
 have e7:(m.kd==7)=true:=by simp[I]
 clear hr I hh hz;go_in;go_upto_region 1 with fail;generalize a3:World.alloc _ _=W0;obtain⟨D,N,b5⟩:=Qaz (m:=m) (c:=c) a3;have b6:=hY D;have J:=hY N;have c4:=N.c4;rw[HH.o]at c4;clear a3 D N b5;obtain⟨c5,c6,c7,c8,c9,b8⟩:=J.o.QnS;go_wp2_with fail;refine(QaD _ m.was c.w1 c.w2).mono ?_;rintro e R ⟨rfl,z⟩;have a1:=hY (b6.o.trans z);have a6:=hY (J.o.ext z);clear z c4 c5 c6 c7 c8 c9 b8;rw[HZ.o];go_upto_region 4 with(first |(refine Qak rfl (.tmp 1) rfl w.heap.size 0 rfl m c a6.o ?_) |(refine Qa0 rfl rfl rfl m c (w0:=R) (b:=R) rfl ((fu R).alloc _ _) (fx R _ _) rfl rfl rfl ?_;intro w5 L X;have c2:=hY (a1.o.trans L);have J:=hY (fF a6.o L);have a7:=hY X;clear L X));have d0:=J.o.kind;have hg:w.heap.size<=R.heap.size:=a1.o.size;go_wp2_with(first |(refine Qan [.string ⟨#[]⟩] ?_ ?_ ?_ hg c2.o a7.o 1 ?_ ?_ (Mu.mk m.kd ByteArray.empty m.tk m.i m.had m.was m.has m.v m.l) ⟨c.w1,c.w2,c.v1,c.v2,c.s⟩ ?_ ?_;rfl;kernel_rfl;rfl;decide;rfl;rfl;intro v0 D a4;have c3:=hY D;have b3:=hY a4;clear D a4) |(refine Qan [.bool false] ?_ ?_ ?_ hg c3.out b3.out 4 ?_ ?_ (Mu.mk m.kd ByteArray.empty m.tk m.i false m.was m.has m.v m.l) ⟨c.w1,c.w2,c.v1,c.v2,c.s⟩ ?_ ?_;rfl;kernel_rfl;rfl;decide;rfl;rfl;intro v1 z a5;have b4:=hY z;have c1:=hY a5;clear z a5) |(refine Qan [.int .i64 0,.bool false,.int .i64 0,.string ⟨#[]⟩,.slice none 0 0,.slice none 0 0] ?_ ?_ ?_ hg b4.out c1.out 5 ?_ ?_ (Mu.mk m.kd ByteArray.empty m.tk m.i false zeroV m.has m.v m.l) ⟨Sl.none,Sl.none,c.v1,c.v2,c.s⟩ ?_ ?_;rfl;kernel_rfl;rfl;decide;rfl;rfl;intro v2 Y a0;have b0:=hY Y;have c0:=hY a0;clear Y a0) |(refine Qan [.slice none 0 0] ?_ ?_ ?_ hg b0.out c0.out 18 ?_ ?_ (Mu.mk m.kd ByteArray.empty m.tk m.i false zeroV m.has m.v []) ⟨Sl.none,Sl.none,c.v1,c.v2,Sl.none⟩ ?_ ?_;rfl;kernel_rfl;rfl;decide;rfl;rfl;intro v3 a2 Z;have a8:=hY a2;have a9:=hY Z;clear a2 Z) |(refine Qak rfl (.tmp 3) rfl R.heap.size 0 rfl (Mu.mk m.kd ByteArray.empty m.tk m.i false zeroV m.has m.v []) ⟨Sl.none,Sl.none,c.v1,c.v2,Sl.none⟩ (fD a9.out) ?_));refine(QaU _ (Mu.mk m.kd ByteArray.empty m.tk m.i false zeroV m.has m.v []) ⟨Sl.none,Sl.none,c.v1,c.v2,Sl.none⟩).mono ?_;rintro e W7 ⟨rfl,U⟩;have b7:=hY (a8.out.trans U);clear U;go_wp2_with fail;go_ret;exact⟨by rw[HR.o]<;>rfl,b7.o⟩
theorem QnF(w:World)(m:Mu)(c:MuS)(h1:m.kd≠1)(h5:m.kd≠5)(h2:m.kd≠2)(Z:m.kd≠3)(h4:m.kd≠4)(h6:m.kd≠6)(h7:m.kd≠7)(hh:m.had=true):Calls prog 118 #[QaG m c] w λe w'=>e=.returned (.bool (!Qal m))/\Ext w w':=by
 have Y:(!Qal m)=true:=by
  have hn:¬(1<=m.kd/\m.kd<=7):=by omega
  simp[Qal,Qbv,hn]
 have HR:=hY Y;have HH:=hY hh;have e1:(m.kd==1)=false:=eu.2 h1;have e5:(m.kd==5)=false:=eu.2 h5;have e2:(m.kd==2)=false:=eu.2 h2;have e3:(m.kd==3)=false:=eu.2 Z;have e4:(m.kd==4)=false:=eu.2 h4;have e6:(m.kd==6)=false:=eu.2 h6;have e7:(m.kd==7)=false:=eu.2 h7;clear Y hh h1 h5 h2 Z h4 h6 h7;go_in;go_upto_region 1 with fail;generalize L:World.alloc _ _=W0;obtain⟨J,I,N⟩:=Qaz (m:=m) (c:=c) L;have R:=hY J;have z:=hY I;have c4:=I.c4;rw[HH.o]at c4;clear L J I N;go_upto_region 4 with(first |(refine Qak rfl (.tmp 1) rfl w.heap.size 0 rfl m c z.o ?_) |(refine Qa0 rfl rfl rfl m c (w0:=W0) (b:=W0) rfl ((fu W0).alloc _ _) (fx W0 _ _) rfl rfl rfl ?_;intro w5 D X;have U:=hY (R.o.trans D);have z:=hY (fF z.o D);clear D X));have d0:=z.o.kind;go_wp2_with fail;go_ret;exact⟨by rw[HR.o]<;>rfl,U.o⟩
theorem QnG(w:World)(m:Mu)(c:MuS)(h1:m.kd≠1)(h5:m.kd≠5)(h2:m.kd≠2)(h3:m.kd≠3)(h4:m.kd≠4)(h6:m.kd≠6)(h7:m.kd≠7)(hh:m.had=false)(hz:Qel m.was=true):Calls prog 118 #[QaG m c] w λe w'=>e=.returned (.bool (!Qal m))/\Ext w w':=by
 have hr:(!Qal m)=true:=by
  have hn:¬(1<=m.kd/\m.kd<=7):=by omega
  simp[Qal,Qbv,hn]
 have HR:=hY hr;have HH:=hY hh;have HZ:=hY hz;have e1:(m.kd==1)=false:=eu.2 h1;have e5:(m.kd==5)=false:=eu.2 h5;have e2:(m.kd==2)=false:=eu.2 h2;have e3:(m.kd==3)=false:=eu.2 h3;have e4:(m.kd==4)=false:=eu.2 h4;have e6:(m.kd==6)=false:=eu.2 h6;have e7:(m.kd==7)=false:=eu.2 h7;clear hr hh h1 h5 h2 h3 h4 h6 h7 hz;go_in;go_upto_region 1 with fail;generalize N:World.alloc _ _=W0;obtain⟨L,J,Y⟩:=Qaz (m:=m) (c:=c) N;have Z:=hY L;have z:=hY J;have c4:=J.c4;rw[HH.o]at c4;clear N L J Y;obtain⟨c5,c6,c7,c8,c9,a0⟩:=z.o.QnS;go_wp2_with fail;refine(QaD _ m.was c.w1 c.w2).mono ?_;rintro e U ⟨rfl,D⟩;have a1:=hY (Z.o.trans D);have R:=hY (z.o.ext D);clear D c4 c5 c6 c7 c8 c9 a0;rw[HZ.o];go_upto_region 4 with(first |(refine Qak rfl (.tmp 1) rfl w.heap.size 0 rfl m c R.o ?_) |(refine Qa0 rfl rfl rfl m c (w0:=U) (b:=U) rfl ((fu U).alloc _ _) (fx U _ _) rfl rfl rfl ?_;intro w5 I X;have a2:=hY (a1.o.trans I);have z:=hY (fF R.o I);clear I X));have d0:=z.o.kind;go_wp2_with fail;go_ret;exact⟨by rw[HR.o]<;>rfl,a2.o⟩
theorem Qlh(w:World)(m:Mu)(c:MuS):Calls prog 118 #[QaG m c] w λe w'=>e=.returned (.bool (!Qal m))/\Ext w w':=by
 rcases aQ m.had with z|z
 ·by_cases h1:m.kd=1
  .exact Qnt w m c h1 z
  by_cases N:m.kd=5
  .exact Qnz w m c N z
  by_cases h2:m.kd=2
  .exact Qnv w m c h2 z
  by_cases L:m.kd=3
  .exact Qnx w m c L z
  by_cases I:m.kd=4
  ·rcases aQ m.has with hs | hs
   .exact Qlb w m c I z hs
   rcases aQ (Qel m.v)with J|J
   .exact Qlc w m c I z hs J
   exact Qld w m c I z hs J
  by_cases R:m.kd=6
  .exact QnB w m c R z
  by_cases U:m.kd=7
  .exact QnD w m c U z
  exact QnF w m c h1 N h2 L I R U z
 rcases aQ (Qel m.was)with D|D
 rotate_left
 .exact Qli w m c z D
 by_cases h1:m.kd=1
 .exact Qnu w m c h1 z D
 by_cases N:m.kd=5
 .exact QnA w m c N z D
 by_cases h2:m.kd=2
 .exact Qnw w m c h2 z D
 by_cases L:m.kd=3
 .exact Qny w m c L z D
 by_cases I:m.kd=4
 ·rcases aQ m.has with hs | hs
  .exact Qle w m c I z D hs
  rcases aQ (Qel m.v)with J|J
  .exact Qlf w m c I z D hs J
  exact Qlg w m c I z D hs J
 by_cases R:m.kd=6
 .exact QnC w m c R z D
 by_cases U:m.kd=7
 .exact QnE w m c U z D
 exact QnG w m c h1 N h2 L I R U z D
theorem Qqc{k:ByteArray}(L:k.size<=maxLen)(D:QiW w):Calls prog 113 #[.string k] w λe w'=>e=.returned (.bool (Lib.validD k.data.toList))/\Nw w w':=by
 have I:=D.val w (G5.refl w) k L;have J:=hY I;clear I D;go_in;go_wp2_with fail;refine J.o.mono ?_;rintro e w' ⟨rfl,z⟩;have N:=hY z;clear z;go_wp2_with fail;go_ret;exact⟨rfl,N.o⟩
theorem QeO(p:ByteArray)(D:QiW w):Calls prog 171 #[.string p] w λe w'=>e=.returned (.bool (Qf8 p))/\Nw w w':=by
 by_cases h:p.size<=64
 ·have z:Qf8 p=Lib.validD p.data.toList:=by unfold Qf8;rw [ej h];rfl
  have HB:=hY z;have J:=hY (Qqc (w:=w) (k:=p) (aj h (by decide)) D);have g:((p.size:Int)<=64):=by omega
  clear z D h;go_in;go_wp2_with fail;refine J.o.mono ?_;rintro e w' ⟨rfl,I⟩;have L:=hY I;clear I;go_wp2_with fail;go_ret;exact⟨by rw[HB.o]<;>rfl,L.o⟩
 have z:Qf8 p=false:=by unfold Qf8;rw[eh h];rfl
 have HB:=hY z;have g:¬((p.size:Int)<=64):=by omega
 clear z D h;go_in;go_wp2_with fail;go_ret;exact⟨by rw[HB.o]<;>rfl,fB _ _⟩
theorem MuC.c1{b:Nat}{m:Mu}(h:MuC w b 0 m c):w.cell? ⟨b,1,none⟩=some (.string m.k):=h 1 _ rfl
theorem MuC.c2{b:Nat}{m:Mu}(h:MuC w b 0 m c):w.cell? ⟨b,2,none⟩=some (.string m.tk):=h 2 _ rfl
theorem QoZ(m:Mu)(c:MuS)(hk:m.k.size<=maxLen)(Z:QiW w):Calls prog 119 #[QaG m c] w λe w'=>e=.returned (.bool (QfU m.kd m.k m.tk m.had))/\Nw w w':=by
 by_cases X:m.kd=6
 ·have U:QfU m.kd m.k m.tk m.had=(Qf8 m.k && Qf8 m.tk):=by unfold QfU;rw [em X]
  have Y:=hY U;have e6:(m.kd==6)=true:=by simp[X]
  clear U X hk;go_in;go_upto_region 1 with fail;generalize I:World.alloc _ _=W0;obtain⟨D,z,J⟩:=Qaz (m:=m) (c:=c) I;have L:=hY (fv D);have c0:=z.kind;have c1:=z.c1;have a1:=hY z;have HL:=hY (Z.nw (fv D));have l0:=z.lt;clear I D z J Z;go_wp2_with fail;refine(QeO m.k HL.o).mono ?_;rintro e w1 ⟨rfl,R⟩;have N:=hY (L.o.trans R);have a2:=hY (HL.o.nw R);have d2:=(R.cell l0 (λh=>h)).trans a1.o.c2;clear R c0 c1;rcases aQ (Qf8 m.k)with hb|hb
  ·have HB:=hY hb
   rw[hb];clear hb;go_wp2_with fail;refine(QeO m.tk a2.o).mono ?_;rintro e w2 ⟨rfl,R⟩;have a0:=hY (N.o.trans R);clear R;go_wp2_with fail;go_ret;exact⟨by rw[Y.o,HB.o]<;>rfl,a0.o⟩
  have HB:=hY hb;rw[hb];clear hb;go_wp2_with fail;go_ret;exact⟨by rw[Y.o,HB.o]<;>rfl,N.o⟩
 have e6:(m.kd==6)=false:=by simp[X]
 by_cases h7:m.kd=7
 ·have e7:(m.kd == 7)=true:=by simp [h7]
  by_cases h0:m.k.size=0
  ·have U:QfU m.kd m.k m.tk m.had=!m.had:=by unfold QfU;rw [ef X,em ⟨h7,h0⟩]
   have Y:=hY U;have g0:=Qbc h0;clear U X hk h7 Z h0;go_in;go_upto_region 1 with fail;generalize I:World.alloc _ _=W0;obtain⟨D,z,J⟩:=Qaz (m:=m) (c:=c) I;have L:=hY (fv D);have c0:=z.kind;have c1:=z.c1;have c4:=z.c4;clear I D z J;go_wp2_with fail;go_ret;exact⟨by rw[Y.o]<;>rfl,L.o⟩
  have U:QfU m.kd m.k m.tk m.had=(Qbd m.k==0):=by unfold QfU;rw[ef X,ef λh=>h0 h.2]
  have Y:=hY U;have g0:=Qbx h0;have HK:=hY hk;clear U X hk h7 h0;go_in;go_upto_region 1 with fail;generalize I:World.alloc _ _=W0;obtain⟨D,z,J⟩:=Qaz (m:=m) (c:=c) I;have L:=hY (fv D);have c0:=z.kind;have c1:=z.c1;have HL:=hY (Z.nw (fv D));clear I D z J Z;go_wp2_with fail;refine(Qdj HK.o HL.o).mono ?_;rintro e w1 ⟨rfl,R⟩;have N:=hY (L.o.trans R);clear R c0 c1;go_wp2_with fail;go_ret;exact⟨by rw[Y.o]<;>rfl,N.o⟩
 have e7:(m.kd==7)=false:=by simp[h7]
 have U:QfU m.kd m.k m.tk m.had=(Qbd m.k==0):=by unfold QfU;rw[ef X,ef λh=>h7 h.1]
 have Y:=hY U;have HK:=hY hk;clear U X hk h7;go_in;go_upto_region 1 with fail;generalize I:World.alloc _ _=W0;obtain⟨D,z,J⟩:=Qaz (m:=m) (c:=c) I;have L:=hY (fv D);have c0:=z.kind;have c1:=z.c1;have HL:=hY (Z.nw (fv D));clear I D z J Z;go_wp2_with fail;refine(Qdj HK.o HL.o).mono ?_;rintro e w1 ⟨rfl,R⟩;have N:=hY (L.o.trans R);clear R c0 c1;go_wp2_with fail;go_ret;exact⟨by rw[Y.o]<;>rfl,N.o⟩
theorem Qo8{l:List Mu}{m:Mu}(h:l[j]? = some m)(d:Nat):Qce (l.drop j) d=if QaW m d≠0 then QaW m d else Qce (l.drop (j+1)) d:=by
 obtain⟨h1,h2⟩:=ah.1 h;rw[aD h1,h2,Qce]
abbrev Qev(code:Int):Ending:=.panicked [{ v:=.iface 165 (.agg #[.int .i64 code]),recovered:=false }]
def QdM(code:Int):Ending:=if code=0 then .returned (.tuple #[])else Qev code
theorem Qgk(w:World)(code:Int):Calls prog 117 #[.bool true,.int .i64 code] w λe w'=>e=.returned (.tuple #[])/\w'=w:=by
 go_in;go_wp2_with fail;refine bodyPost_end (v:=.tuple #[]) (by simp[results,results117,go_sem]) rfl ?_;exact⟨rfl,rfl⟩
theorem QiF(w:World)(code:Int):Calls prog 117 #[.bool false,.int .i64 code] w λe w'=>e=Qev code/\w'=w:=by
 go_in;go_wp2_with fail;exact⟨rfl,rfl,rfl⟩
theorem Ql3(w:World)(code:Int):Calls prog 120 #[.int .i64 code] w λe w'=>e=QdM code/\w'=w:=by
 by_cases h:code=0
 ·subst h
  go_in;go_wp2_with fail;refine(Qgk w 0).mono ?_;rintro e w' ⟨rfl,rfl⟩;go_wp2_with fail;refine bodyPost_end (v:=.tuple #[]) (by simp[results,results120,go_sem]) rfl ?_;exact⟨rfl,rfl⟩
 have D:(code==0)=false:=eu.2 h;have z:=hY (show QdM code=Qev code by unfold QdM;rw[ef h]);go_in;go_wp2_with fail;refine(QiF w code).mono ?_;rintro e w' ⟨rfl,rfl⟩;go_wp2_with fail;exact⟨rfl,z.o.symm,rfl⟩
section
variable{m : Mu}{d : Nat}
theorem Qdk:QaW m d=if !Qal m then 9 else if 6<d then 5 else if !QfU m.kd m.k m.tk m.had then 8 else if m.had&&Qbw m.was != 0 then Qbw m.was else if Qhx m.kd m.has&&Qbw m.v != 0 then Qbw m.v else Qce m.l (d+1):=by
 obtain⟨I,k,D,i,had,was,z,v,l⟩:=m;rw[QaW];rfl
theorem Quo(z:Qal m=false):QaW m d=9:=by rw[Qdk,z];rfl
theorem Qum(z:Qal m=true)(h:6<d):QaW m d=5:=by rw[Qdk,z,em h];rfl
theorem Qun(D:Qal m=true)(h:¬6<d)(z:QfU m.kd m.k m.tk m.had=false):QaW m d=8:=by rw[Qdk,D,ef h,z];rfl
theorem lookW(J:Qal m=true)(h:¬6<d)(D:QfU m.kd m.k m.tk m.had=true)(z:m.had=true)(I:Qbw m.was≠0):QaW m d=Qbw m.was:=by
 rw[Qdk,J,ef h,D,z];simp[I]
theorem Quq(J:Qal m=true)(h:¬6<d)(D:QfU m.kd m.k m.tk m.had=true)(hs:(m.had&&Qbw m.was != 0)=false)(z:Qhx m.kd m.has=true)(I:Qbw m.v≠0):QaW m d=Qbw m.v:=by
 rw[Qdk,J,ef h,D,hs,z];simp[I]
theorem Qup(I:Qal m=true)(h:¬6<d)(D:QfU m.kd m.k m.tk m.had=true)(hs:(m.had&&Qbw m.was != 0)=false)(z:(Qhx m.kd m.has&&Qbw m.v != 0)=false):QaW m d=Qce m.l (d+1):=by
 rw[Qdk,I,ef h,D,hs,z];rfl
theorem Qei{code:Int}(h:QaW m d=code)(z:code≠0):Qev code=QdM (QaW m d):=by rw[h];unfold QdM;rw[ef z]
theorem QrE(h:QaW m d=0):Ending.returned (.tuple #[])=QdM (QaW m d):=by rw[h];rfl
theorem Qr7(m:Mu):Qdr m.l<=QcF m:=by
 obtain⟨L,k,J,i,D,z,I,v,l⟩:=m;rw[QcF];exact Nat.le_add_left _ _
end
theorem Ql4(w:World){code:Int}(h:code=0):Calls prog 120 #[.int .i64 code] w λe w'=>e=.returned (.tuple #[])/\w'=w:=(Ql3 w code).mono λe w' z=>⟨by rw[z.1,h];rfl,z.2⟩
theorem Qpu(w:World){code:Int}(h:code≠0):Calls prog 120 #[.int .i64 code] w λe w'=>e=Qev code/\w'=w:=(Ql3 w code).mono λe w' z=>⟨by rw[z.1];unfold QdM;rw[ef h],z.2⟩
variable{w':World}
theorem MuC.nw{b o:Nat}{m:Mu}(h:MuC w b o m c)(k:Nw w w'):MuC w' b o m c:=λj u hu=>(k.cell h.lt (λe=>e)).trans (h j u hu)
theorem RMu.nw{m:Mu}(h:RMu w (Lt w) m c)(k:Nw w w'):RMu w' (Lt w') m c:=(h.agree (fC k λb z=>z)).mono λb z=>ab z k.size
theorem QjI{m:Mu}{d:Nat}(hd:d<=7)(hm:RMu w (Lt w) m c)(ht:QcF m<=1100000)(hL:Qb9 w)
  (ih:d<=6->∀(x:Mu) (y:MuS) (W:World),RMu W (Lt W) x y->QcF x<=1100000->Qb9 W->Calls prog 73 #[QaG x y,.int .i64 ((d+1:Nat):Int)] W λe w'=>e=QdM (QaW x (d+1))/\Nw W w') :
  Calls prog 73 #[QaG m c,.int .i64 (d:Int)] w λe w'=>e=QdM (QaW m d)/\Nw w w':=by
 have HI:=hY ih;have HM:=hY hm;have HT:=hY ht;have HD:=hY hd;clear ih hm ht hd;go_in;go_upto_region 1 with fail;generalize b7:World.alloc _ _=W0;obtain⟨d0,b5,e2⟩:=Qaz (m:=m) (c:=c) b7;have e3:=hY d0;have c3:=hY b5;have HL:=hY hL;clear b7 d0 b5 e2 hL;go_wp2_with(refine Qak rfl (.tmp 2) rfl w.heap.size 0 rfl m c c3.o ?_);refine(Qlh _ m c).mono ?_;rintro e w1 ⟨rfl,a8⟩;have a3:=hY (fv (e3.o.trans a8));have c1:=hY (c3.o.ext a8);clear a8;rcases aQ (Qal m)with hb|hb
 rotate_left
 ·have g:(!Qal m)=true:=by rw [hb];rfl
  have N:=hY (Qei (Quo (d:=d) hb) (by decide));rw[g];clear hb g;go_wp2_with fail;refine(QiF _ 9).mono ?_;rintro e w2 ⟨rfl,rfl⟩;go_wp2_with fail;exact⟨rfl,N.o,a3.o⟩
 have X:=hY hb;have g:(!Qal m)=false:=by rw[hb];rfl
 rw[g];clear hb g;go_wp2_with fail;refine(Qgk _ 9).mono ?_;rintro e w2 ⟨rfl,rfl⟩;by_cases h6:6<d
 ·have g:decide ((d:Int)≤6)=false:=eh (by omega)
  have N:=hY (Qei (Qum (d:=d) X.o h6) (by decide));clear h6;go_wp2_with fail;refine(QiF _ 5).mono ?_;rintro e w2 ⟨rfl,rfl⟩;go_wp2_with fail;exact⟨rfl,N.o,a3.o⟩
 have H6:=hY h6;have g6:decide ((d:Int)<=6)=true:=ej (by omega);clear h6;go_wp2_with fail;refine(Qgk _ 5).mono ?_;rintro e w2 ⟨rfl,rfl⟩;clear g6;go_wp2_with(refine Qak rfl (.tmp 2) rfl w.heap.size 0 rfl m c c1.o ?_);refine(QoZ m c HM.o.parts.2.2.1 (HL.o.nw a3.o).lib).mono ?_;rintro e w3 ⟨rfl,a6⟩;have U:=hY (a3.o.trans a6);have a7:=hY (c1.o.nw a6);clear a6;rcases aQ (QfU m.kd m.k m.tk m.had)with hk|hk
 rotate_left
 ·have N:=hY (Qei (Qun (d:=d) X.o H6.o hk) (by decide))
  rw[hk];clear hk;go_wp2_with fail;refine(QiF _ 8).mono ?_;rintro e w2 ⟨rfl,rfl⟩;go_wp2_with fail;exact⟨rfl,N.o,U.o⟩
 have HK:=hY hk;rw[hk];clear hk;go_wp2_with fail;refine(Qgk _ 8).mono ?_;rintro e wq ⟨rfl,rfl⟩;have c4:=a7.o.c4;obtain⟨c5,c6,c7,c8,c9,f5⟩:=a7.o.QnS;go_upto_if 17 with fail;go_cut [] (λwc=>Nw wq wc/\(m.had&&Qbw m.was != 0)=false)
 case first=>
  rcases aQ m.had with hh|hh
  ·rw [hh]
   go_wp2_with fail;refine(Qim (d:=m.was) (HM.o.nw U.o).parts.1 (aj (Qka m).2 HT.o) (HL.o.nw U.o)).mono ?_;rintro e w4 ⟨rfl,a4⟩;have L:=hY (U.o.trans a4);have e7:=hY a4;by_cases I:Qbw m.was=0
   ·have HF:=hY I
    have HH:=hY hh;clear I hh a4;go_wp2_with fail;refine(Ql4 _ HF.o).mono ?_;rintro e w5 ⟨rfl,rfl⟩;go_wp2_with fail;go_meet;exact⟨e7.o,by rw[HF.o];simp⟩
   have HF:=hY I;have N:=hY (Qei (lookW (d:=d) X.o H6.o HK.o hh I) I);clear I hh a4;go_wp2_with fail;refine(Qpu _ HF.o).mono ?_;rintro e w5 ⟨rfl,rfl⟩;go_wp2_with fail;exact⟨rfl,N.o,L.o⟩
  rw[hh];go_wp2_with fail;go_meet;exact⟨fB _ _,by rw[hh];rfl⟩
 obtain⟨a9,hs⟩:=hcut;have L:=hY (U.o.trans a9);have HS:=hY hs;have a1:=hY (a7.o.nw a9);clear a9 hs c4 c5 c6 c7 c8 c9 f5;have c0:=a1.o.kind;have d5:=a1.o.c11;obtain⟨f1,d7,f6,f0,f4,e6⟩:=a1.o.v6;go_upto_region 6 with fail;go_cut [38] (λv w'=>v=.bool (Qhx m.kd m.has)/\w'=wc)
 case first=>
  by_cases k1:m.kd=1
  ·have e1:(m.kd == 1)=true:=by simp [k1]
   have D:Qhx m.kd m.has=true:=by simp[Qhx,k1]
   have HV:=hY D;clear D k1;go_wp2_with fail;go_meet;exact⟨by rw[HV.o],rfl⟩
  have e1:(m.kd==1)=false:=by simp[k1]
  by_cases k5:m.kd=5
  ·have e5:(m.kd == 5)=true:=by simp [k5]
   have D:Qhx m.kd m.has=true:=by simp[Qhx,k5]
   have HV:=hY D;clear D k1 k5;go_wp2_with fail;go_meet;exact⟨by rw[HV.o],rfl⟩
  have e5:(m.kd==5)=false:=by simp[k5]
  by_cases k4:m.kd=4
  ·have e4:(m.kd == 4)=true:=by simp [k4]
   have D:Qhx m.kd m.has=m.has:=by simp[Qhx,k4]
   have HV:=hY D;clear D k1 k5 k4;go_wp2_with fail;go_meet;exact⟨by rw[HV.o],rfl⟩
  have e4:(m.kd==4)=false:=by simp[k4]
  have D:Qhx m.kd m.has=false:=by simp[Qhx,k1,k5,k4]
  have HV:=hY D;clear D k1 k5 k4;go_wp2_with fail;go_meet;exact⟨by rw[HV.o],rfl⟩
 obtain⟨D,hw⟩:=hcut;subst D;clear c0 d5;rename_i wz;subst hw;go_upto_if 38 with fail;go_cut [] (λw'=>Nw wc w'/\(Qhx m.kd m.has&&Qbw m.v != 0)=false)
 case first=>
  rcases aQ (Qhx m.kd m.has)with D|D
  ·rw [D]
   go_wp2_with fail;refine(Qim (d:=m.v) (HM.o.nw L.o).parts.2.1 (aj (Qka m).1 HT.o) (HL.o.nw L.o)).mono ?_;rintro e w5 ⟨rfl,a2⟩;have J:=hY (L.o.trans a2);have f3:=hY a2;by_cases I:Qbw m.v=0
   ·have HF:=hY I
    have HV:=hY D;clear I D a2;go_wp2_with fail;refine(Ql4 _ HF.o).mono ?_;rintro e w6 ⟨rfl,rfl⟩;go_wp2_with fail;go_meet;exact⟨f3.o,by rw[HF.o];simp⟩
   have HF:=hY I;have N:=hY (Qei (Quq (d:=d) X.o H6.o HK.o HS.o D I) I);clear I D a2;go_wp2_with fail;refine(Qpu _ HF.o).mono ?_;rintro e w6 ⟨rfl,rfl⟩;go_wp2_with fail;exact⟨rfl,N.o,J.o⟩
  rw[D];go_wp2_with fail;go_meet;exact⟨fB _ _,by rw[D];rfl⟩
 obtain⟨R,b8⟩:=hcut;have J:=hY (L.o.trans R);have g3:wc.cell? ⟨w,8+10,none⟩=some (.slice c.s.a m.l.length c.s.c):=(a1.o.nw R) 18 _ rfl;have HC:=hY (Qup X.o H6.o HK.o HS.o b8);have f8:=HM.o.len;have b4:wrap64 ((d:Int)+1)=((d+1:Nat):Int):=by
  have:=H6.o;unfold wrap64;omega
 have e8:=hY b4;clear R b8 f1 d7 f6 f0 f4 e6 b4;go_wp2_with fail;go_loopw[46] (λf2 wr=>∃j:Nat,f2=.int .i64 (j:Int)/\j<=m.l.length/\Yd (Nw w wr)/\Yd (Qce (m.l.drop j) (d+1)=Qce m.l (d+1))) (λv _=>m.l.length -(intOf v).toNat)
 case atStart=>exact⟨0,rfl,av _,J,hY rfl⟩
 obtain⟨j,rfl,hj,HX,HJ⟩:=hrel;by_cases d4:j<m.l.length
 ·have l1:(j:Int)<(m.l.length:Int):=by omega
  have f9:decide ((j:Int)<(m.l.length:Int))=true:=ej l1;have l0:(0:Int)<=(j:Int):=by omega
  obtain⟨x,hx⟩:∃x,m.l[j]? = some x:=⟨_,ac d4⟩;obtain⟨b,o,y,e0,d6,g0,g4,d3,c2⟩:=HM.o.at hx;have a5:=hY (d3.nw HX.o);have f7:b<wr:=a5.o.lt;have a0:=λW (hW:Ext wr W)=>HI.o (by have:=H6.o;omega) x y W (c2.nw (HX.o.trans (fv hW))) (aj (Qgp hx) (aj (Qr7 m) HT.o)) (HL.o.nw (HX.o.trans (fv hW)))
  have Y:=hY a0;have z:=Qo8 hx (d+1);rw[HJ.o]at z;have b3:=hY z;clear c2 d3 a0 hx d6 z;rw[e0];go_wp2_with(first |(refine Qak rfl (.tmp 48) rfl b (o+j*19) rfl x y a5.o ?_) |(refine Qa0 rfl rfl rfl x y (w0:=wr) (b:=wr) rfl ((fu wr).alloc _ _) (fx wr _ _) rfl rfl rfl ?_;intro w5 R b6;have J:=hY R;have d8:=hY (fD b6);clear R b6) |(refine Qak rfl (.tmp 5) rfl wr.heap.size 0 rfl x y d8.o ?_));rw[e8.o];by_cases I:QaW x (d+1)=0
  ·refine ((Y.o _ J.o).mono fun e W h=>(show e=.returned (.tuple #[])∧Nw _ W from ⟨by rw [h.1,I];rfl,h.2⟩)).mono ?_
   rintro e w2 ⟨rfl,Z⟩;have b0:=hY ((HX.o.trans (fv J.o)).trans Z);have z:=b3.o;rw[ef (λh=>h I)]at z;have HA:=hY z.symm;clear Z I z;go_wp2_with fail;go_roundw
   case rel=>exact⟨j+1,by go_num,d4,b0,HA⟩
   simp[intOf];omega
  have z:=b3.o;rw[em I]at z;have N:=hY (Qei (HC.o.trans z) I);refine((Y.o _ J.o).mono λe W h=>(show e=Qev (QaW x (d+1))/\Nw _ W from⟨by rw[h.1];unfold QdM;rw[ef I],h.2⟩)).mono ?_;rintro e w2 ⟨rfl,Z⟩;have b0:=hY ((HX.o.trans (fv J.o)).trans Z);clear Z I z;go_wp2_with fail;exact⟨rfl,N.o,b0.o⟩
 obtain rfl:j=m.l.length:=by omega
 have l1:decide ((m.l.length:Int)<(m.l.length:Int))=false:=eh (by omega);have N:=hY (QrE (m:=m) (d:=d) (by rw[HC.o,<-HJ.o,cq];rfl));go_wp2_with fail;refine bodyPost_end (v:=.tuple #[]) (by simp[results,results73,go_sem]) rfl ?_;exact⟨N.o,HX.o⟩
theorem Qo9(n:Nat):∀(d:Nat) (m:Mu) (c:MuS) (w:World),d+n=7->RMu w (Lt w) m c->QcF m<=1100000->Qb9 w->Calls prog 73 #[QaG m c,.int .i64 (d:Int)] w λe w'=>e=QdM (QaW m d)/\Nw w w':=by
 induction n with
 |zero=>exactλd m c w hd D I z=>QjI (by omega) D I z λh=>by omega
 |succ n ih=>exactλd m c w hd D I z=>QjI (by omega) D I z λh x y W N L J=>ih (d+1) x y W (by omega) N L J
theorem Qq1{m:Mu}(D:RMu w (Lt w) m c)(I:QcF m<=1100000)(z:Qb9 w):Calls prog 73 #[QaG m c,.int .i64 1] w λe w'=>e=QdM (QaW m 1)/\Nw w w':=Qo9 6 1 m c w rfl D I z
abbrev eR:=@leaves_cons
theorem Qqj{b:Nat}{t T:TypeId}{v I:Value}{cs:Array Value}(D:Blk w b t #[I])(W:World)(z:(w.setCell ⟨b,0,none⟩ v).alloc (.cells cs T)=W):Sb (λi=>i=b) w W/\Blk W b t #[v]:=by
 subst z;have h1:Blk (w.setCell ⟨b,0,none⟩ v) b t #[v]:=D.Qdz 0 v;have h2:=(fu (w.setCell ⟨b,0,none⟩ v)).alloc cs T;exact⟨((fB (λi=>i=b) w).set (p:=⟨b,0,none⟩) (.inr rfl) v).ext h2,h1.ext h2⟩
theorem QkB(p:Addr)(w:World):CallsD prog 116 #[.pointer (some p)] .returning w λe D w'=>e=.returned (.tuple #[])/\D=.returning/\w'=w:=by
 refine callsD_of_wpS func116 rfl λz cs hu=>?_
 apply wpS_seq;apply wpS_region;simp[wpOpsS,go_sem,recoverD,hu,ntmps116,Exit.thenS];refine wpS_of_wp ?_;go_wp2;cases z
 simp_all [bodyPostS,results,results116]
theorem Qi1(W:World)(v:Value)(z:TypeId):(Instr.typeAssert (.iface 165 v) z 165 true).run prog W=.ok (.tuple #[v,.bool true]) W:=by kernel_rfl
theorem QmD(b:Nat)(code:Int)(w:World)(z:Blk w b 43 #[.int .i64 0]) :
  CallsD prog 116 #[.pointer (some ⟨b,0,none⟩)] (.panicking [{ v:=.iface 165 (.agg #[.int .i64 code]),recovered:=false }]) w λe U w'=>
   e=.returned (.tuple #[])/\U=.panicking [{ v:=.iface 165 (.agg #[.int .i64 code]),recovered:=true }]/\Sb (λi=>i=b) w w'/\Blk w' b 43 #[.int .i64 code]:=by
 have R:w.cell? ⟨b,0,none⟩=some (.int .i64 0):=z.cell 0;have L:=z.frozen 0;have I:=z.lt;refine callsD_of_wpS func116 rfl λJ cs hu=>?_
 apply wpS_seq;apply wpS_region;simp[wpOpsS,go_sem,recoverD,hu,ntmps116,Exit.thenS];refine wpS_of_wp ?_;have N:=λW=>Qi1 W (.agg #[.int .i64 code])
 change Code.wp _ _ _ { tmps:=#[.pointer (some ⟨b,0,none⟩),undef,undef,undef,.iface 165 (.agg #[.int .i64 code]),undef,undef,undef,undef,undef,undef],defers:=[] } w;go_wp2;generalize D:World.alloc _ _=W;obtain⟨h1,h2⟩:=Qqj z W D;clear D N R L I;cases J
 simp_all [bodyPostS,results,results116]
variable{B:Nat}
theorem Qq4{m:Mu}(R:MuC w B 0 m c)(N:RMu w (Lt w) m c)(U:QcF m<=1100000)(J:Qb9 w) :
  Calls prog 72 #[.pointer (some ⟨B,0,none⟩)] w λe w'=>e=QdM (QaW m 1)/\Nw w w':=by
 have L:=hY (Qq1 N U J);have HB:=hY R;clear R N U J;by_cases h:QaW m 1=0
 ·have z:=hY h
  go_in;clear h;go_wp2_with(refine Qak rfl (.tmp 0) rfl B 0 rfl m c HB.o ?_);refine(L.o.mono λe W h=>(show e=.returned (.tuple #[])/\Nw _ W from⟨by rw[h.1,z.o];rfl,h.2⟩)).mono ?_;rintro e w1 ⟨rfl,D⟩;have I:=hY D;clear D;go_wp2_with fail;refine bodyPost_end (v:=.tuple #[]) (by simp[results,results72,go_sem]) rfl ?_;exact⟨by rw[z.o];rfl,I.o⟩
 have z:=hY (show QdM (QaW m 1)=Qev (QaW m 1)by unfold QdM;rw[ef h]);go_in;clear h;go_wp2_with(refine Qak rfl (.tmp 0) rfl B 0 rfl m c HB.o ?_);refine(L.o.mono λe W h=>(show e=Qev (QaW m 1)/\Nw _ W from⟨by rw[h.1,z.o],h.2⟩)).mono ?_;rintro e w1 ⟨rfl,D⟩;have I:=hY D;clear D;go_wp2_with fail;exact⟨rfl,z.o.symm,I.o⟩
theorem QmC{m:Mu}(hC:MuC w B 0 m c)(hm:RMu w (Lt w) m c)(ht:QcF m<=1100000)(hL:Qb9 w) :
  Calls prog 71 #[.func (.func 72) #[] #[.pointer (some ⟨B,0,none⟩)]] w λe w'=>e=.returned (.int .i64 (QaW m 1))/\Nw w w':=by
 have a1:∀(fn:Fn) (first X:Array Value) (w:World),(Instr.makeFunc fn first X).run prog w=.ok (.func fn first X) w:=λ_ _ _ _=>rfl
 have U:=(fu w).alloc #[.int .i64 0] 43;have D:=hY (fv U);have R:=hY (fx w 43 #[.int .i64 0]);have HC:=hY (Qq4 (hC.nw D.o) (hm.nw D.o) ht (hL.nw D.o));clear hC hm ht hL U;by_cases h:QaW m 1=0
 ·have Z:=hY h
  clear h;go_enter_defers func71,ntmps71;go_wp2_with fail;refine(HC.o.mono λe W h=>(show e=.returned (.tuple #[])/\Nw _ W from⟨by rw[h.1,Z.o];rfl,h.2⟩)).mono ?_;rintro e w1 ⟨rfl,L⟩;have z:=L.blk R.o;have c1:w1.cell? ⟨w,0,none⟩=some (.int .i64 0):=z.cell 0;have f1:=z.frozen 0;have l1:=z.lt;have J:=hY (D.o.trans L);have N:=hY z;clear L z;go_wp2_with fail;generalize hW:World.setCell _ _ _=W;have hs:Sb (λi=>i=w.heap.size) w1 W:=by rw[<-hW];exact(fB (λi=>i=w.heap.size) w1).set (p:=⟨w,0,none⟩) (.inr rfl) _
  have Y:Blk W w.heap.size 43 #[.int .i64 0]:=by rw[<-hW];exact N.o.Qdz 0 (.int .i64 0)
  clear hW c1 f1 l1;have HS:=hY (show Nw w W from J.o.comp hs λi hi e=>by omega);have a0:=hY Y;clear hs Y;refine eR (f:=116) (args:=#[.pointer (some ⟨w,0,none⟩)]) (by simp) (by simp[go_sem]) ?_;refine(QkB ⟨w,0,none⟩ _).mono ?_;rintro e u' I ⟨rfl,rfl,rfl⟩;have c2:I.cell? ⟨w,0,none⟩=some (.int .i64 0):=a0.o.cell 0;have hE:=Z.o;have hS:=HS.o;simp[Leaves,settle,results,results71,go_sem,c2,hE,hS]
 have Z:=hY (show QdM (QaW m 1)=Qev (QaW m 1)by unfold QdM;rw[ef h]);clear h;go_enter_defers func71,ntmps71;go_wp2_with fail;refine(HC.o.mono λe W h=>(show e=Qev (QaW m 1)/\Nw _ W from⟨by rw[h.1,Z.o],h.2⟩)).mono ?_;rintro e w1 ⟨rfl,L⟩;have N:=hY (L.blk R.o);have J:=hY (D.o.trans L);clear L;go_wp2_with fail;refine eR (f:=116) (args:=#[.pointer (some ⟨w,0,none⟩)]) (by simp) (by simp[go_sem]) ?_;refine(QmD w.heap.size (QaW m 1) _ N.o).mono ?_;rintro e u' I ⟨rfl,rfl,hs,hb⟩;have c2:I.cell? ⟨w,0,none⟩=some (.int .i64 (QaW m 1)):=hb.cell 0;have hS:Nw w I:=J.o.comp hs λi hi e=>by omega
 simp[Leaves,settle,results,results71,go_sem,c2,hS]
theorem Qq6{m:Mu}(hm:RMu w (Lt w) m c)(ht:QcF m<=1100000)(hL:Qb9 w):Calls prog 45 #[QaG m c] w λe w'=>e=.returned (.int .i64 (QbE m))/\Nw w w':=by
 have U:QaT m<=1100000:=aj (QrH m) ht;have a3:∀(fn:Fn) (first X:Array Value) (w:World),(Instr.makeFunc fn first X).run prog w=.ok (.func fn first X) w:=λ_ _ _ _=>rfl
 have HM:=hY hm;have HT:=hY ht;have HL:=hY hL;have a1:=hY U;clear hm ht hL U;go_in;go_upto_region 1 with fail;generalize R:World.alloc _ _=W0;obtain⟨N,Y,a0⟩:=Qaz (m:=m) (c:=c) R;have J:=hY N;have L:=hY Y;clear R N Y a0;go_wp2_with(refine Qak rfl (.tmp 1) rfl w.heap.size 0 rfl m c L.o ?_);refine(QpT (HM.o.nw (fv J.o)) a1.o).mono ?_;rintro e w1 ⟨rfl,I⟩;have D:=hY (J.o.trans I);have a2:=hY (L.o.ext I);clear I;by_cases z:64<QaT m
 ·have g:decide ((64:Int)<(QaT m:Int))=true:=ej (by omega)
  have Z:=hY (show QbE m=6 by unfold QbE;rw[em z]);clear z;go_wp2_with fail;go_ret;exact⟨by rw[Z.o]<;>rfl,fv D.o⟩
 have g:decide ((64:Int)<(QaT m:Int))=false:=eh (by omega);have Z:=hY (show QbE m=QaW m 1 by unfold QbE;rw[ef z]);clear z;go_wp2_with fail;refine(QmC a2.o (HM.o.nw (fv D.o)) HT.o (HL.o.nw (fv D.o))).mono ?_;rintro e w2 ⟨rfl,hn⟩;have HN:=hY ((fv D.o).trans hn);clear hn;go_wp2_with fail;go_ret;exact⟨by rw[Z.o]<;>rfl,HN.o⟩
variable{W:World}{s:Sl}
theorem QtS{base:Nat}{xs:List WV}(D:W.ownsRow base 28 6 (.slice s.a xs.length s.c) xs.length (QbV xs))(L:∀x∈xs,RV W (Lt W) x.v x.sl x.so)(R:xs.length*88<=140737488355328) :
  RV W (Lt W) (Qf2 (xs.map WV.v)) s Sl.none:=by
 obtain⟨b,o,J,N⟩:=Ql7 (fE D);have I:∀(j:Nat) (d:Val),(xs.map WV.v)[j]? = some d->∃x,xs[j]? = some x/\x.v=d:=λj d hd=>by
  rw[ao]at hd;cases z:xs[j]? with
  |none=>rw[z]at hd;cases hd
  |some x=>rw[z]at hd;exact⟨x,rfl,by injection hd⟩
 refine .mk b o 0 0 (λj=>((xs.getD j ⟨zeroV,Sl.none,Sl.none⟩).sl,(xs.getD j ⟨zeroV,Sl.none,Sl.none⟩).so)) (λ_=>(Sl.none,Sl.none)) (by rw[aq];exact J.mono λi h=>h.2) (.nil _ _) rfl ?_ ?_ (λj k h=>by simp at h) (λj d h=>by simp at h) (λj d h=>by simp at h) (by decide) (by decide) (by decide) (by rw[aq];exact R) (by simp)
 ·intro j d hd
  obtain⟨x,z,rfl⟩:=I j d hd;have e:xs.getD j ⟨zeroV,Sl.none,Sl.none⟩=x:=by rw[List.getD_eq_getElem?_getD,z];rfl
  rw[e];exact N j x z
 intro j d hd;obtain⟨x,z,rfl⟩:=I j d hd;have e:xs.getD j ⟨zeroV,Sl.none,Sl.none⟩=x:=by rw[List.getD_eq_getElem?_getD,z];rfl
 rw[e];exact L x (al z)
theorem RVC.row{d:Val}(h:RVC w F d sl so):∃xs:List WV,xs.map WV.v=d.l/\sl.c=xs.length/\(sl.a=none->xs.length=0)/\(∀x∈xs,RV w F x.v x.sl x.so)/\
  (∀b,sl.a=some b->∀j u,(QbV xs)[j]? = some u->w.cell? (b.add j)=some u)/\xs.length*88<=140737488355328:=by
 have z:=h.cap;have U:=h.rv;cases U with
 | mk bl fl bo fo cl co hl ho hov el rl ek eo ro bk bi bt nl no=>
   rename_i kind b i t l ok ov;have z:sl.c=l.length:=z;have N:=QtQ (w:=w) (xs:=wl l cl) (by rw[Qeu];exact hl) λj x X=>by
    obtain⟨J,I,R⟩:=QrL X;rw[I,R];exact el j _ J
   refine⟨wl l cl,QuL l cl,by rw[Qeu];exact z,λe=>?_,λx X=>?_,λa ha j u hu=>?_,by rw[Qeu];exact nl⟩
   ·rw [Qeu]
    rcases Nat.eq_zero_or_pos l.length with Y|Y
    .exact Y
    have:=(hl.eq Y).1;rw[e]at this;cases this
   ·obtain ⟨j,hj⟩:=bx X
    obtain⟨J,I,R⟩:=QrL hj;rw[I,R];exact rl j _ J
   obtain⟨b',o',h1,h2,Z⟩:=N;have L:=(ah.1 hu).1;rw[QeU,Qeu]at L;have D:0<l.length:=by omega
   rw[Qeu]at h1;have J:=(hl.eq D).1;have I:=(h1.eq D).1;rw[ha]at I;injection I with I;rw[I,Qbu];exact Z j u hu
theorem QpW{base e size n:Nat}{v:Value}{xs:List Value}(h:w.ownsRow base e size v n xs):∃s:Sl,v=.slice s.a n s.c:=by
 rcases h.2 with⟨rfl,rfl⟩ |⟨g,z,D,rfl,_⟩
 .exact ⟨Sl.none,rfl⟩
 exact⟨⟨some ⟨g,0,none⟩,z⟩,rfl⟩
variable{u:Value}
theorem Ext.addr(h:Ext w w'){a:Addr}(z:w.cell? a=some u):w'.cell? a=some u:=
 (eS (w:=w) (a:=a) ((h.sb (λ_=>False)).block a.block (eH w _ z) λe=>e)).trans z
theorem Qsn(l:List Val)(x:Val):cntV (Qf2 (l++[x]))=7+Qd4 l+cntV x:=by
 have:∀l:List Val,Qd4 (l++[x])=Qd4 l+cntV x:=λl=>by
  induction l with
  |nil=>simp[Qd4]
  |cons a r ih=>rw[aG,Qd4,Qd4,ih];omega
 show cntV (.mk 5 false 0 ByteArray.empty (l++[x]) [] [])=_;rw[cntV,this,QfR];show 7+0+(Qd4 l+cntV x)+0=_;omega
theorem Qsm(v:Val):Qd4 v.l<=cntV v:=by
 obtain⟨k,b,i,t,l,D,z⟩:=v;rw[cntV];show Qd4 l<=_;omega
theorem Qtg(M:List Ent)(k:ByteArray)(v:Val):Qqk M k v=if(Qam M k).isSome=true/\((Qam M k).getD zeroV).kind≠5 then(9,M)else Qma M k ((Qam M k).getD zeroV).l v:=by
 unfold Qqk;cases Qam M k with
 |none=>rfl
 |some y=>by_cases h:y.kind=5<;>simp[h]
theorem QiS.Qd4{B:List Ent}{C:Slots}(h:QiS B C M)(k:ByteArray):Qd4 ((Qam M k).getD zeroV).l<=7168:=by
 cases z:Qam M k with
 |none=>exact av _
 |some y=>exact aj (Qsm y) (h.ok.get z).2.cnt
theorem Qmy{k:ByteArray}{v:Val}(h:OvX H w O d M)(hH:∀b,H b->b<w)(hn:d.us.length<=1000000)(hl:(Qab d.T).length<=1000000)(c1:k.size<=maxLen)
  (hv:RV w (Lt w) v sl so) (hc:cntV v<=1092000) (hL:Qb9 w) :
  Calls prog 77 #[.pointer (some ⟨O,0,none⟩),.string k,aggV v sl so] w λe w'=>e=.returned (.int .i64 (Qqk M k v).1)/\∃d',GoX H w O d (Qqk M k v).2 1 w' d':=by
 have b8:=(fu w).alloc #[.int .i64 v.kind,.bool v.b,.int .i64 v.i,.string v.t,.slice sl.a v.l.length sl.c,.slice so.a v.ok.length so.c] 28;have d5:=fx w 28 #[.int .i64 v.kind,.bool v.b,.int .i64 v.i,.string v.t,.slice sl.a v.l.length sl.c,.slice so.a v.ok.length so.c];have a9:=Qto (h.nw (fv b8)) hl c1;have a2:(w.alloc (.cells #[.int .i64 v.kind,.bool v.b,.int .i64 v.i,.string v.t,.slice sl.a v.l.length sl.c,.slice so.a v.ok.length so.c] 28)).heap.size=w.heap.size+1:=ew _ _;have HH:=hY h;have HL:=hY hL;have HV:=hY hv;have HC:=hY hc;have g9:=hY c1;have g8:=hY hn;have g0:=hY hH;have e8:=hY b8;have f4:=hY d5;have i2:=hY a2;have HG:=hY a9;have J:=Qtg M k v;have c3:=HH.o.rel.Qd4 k;obtain⟨r,hr⟩:∃r,Qqk M k v=r:=⟨_,rfl⟩;rw[hr]at J ⊢;obtain⟨y,hy⟩:∃y,(Qam M k).getD zeroV=y:=⟨_,rfl⟩;obtain⟨g,hg⟩:∃g,(Qam M k).isSome=g:=⟨_,rfl⟩;rw[hy,hg]at J;rw[hy]at c3;have HY:=hY hy;have e7:=hY hg;have a6:=hY J;have f6:=hY c3;obtain⟨i0,hi,f8,f2,f1⟩:=eG Tryz.QgL;clear h hL hv hc c1 hn hH b8 d5 a2 a9 hl hy hg J c3 hr;go_in;go_wp2_with fail;refine HG.o.mono ?_;rintro e w1 ⟨s1,s2,rfl,c2,c4⟩;rw[HY.o,e7.o];rw[HY.o]at c4;have g5:=hY c4;have d3:=hY (e8.o.trans c2);have f3:=hY (f4.o.ext c2);clear c2 c4;go_upto_region 2 with fail;have R:=(fu w1).alloc #[.int .i64 y.kind,.bool y.b,.int .i64 y.i,.string y.t,.slice s1.a y.l.length s1.c,.slice s2.a y.ok.length s2.c] 28;have a1:=fx w1 28 #[.int .i64 y.kind,.bool y.b,.int .i64 y.i,.string y.t,.slice s1.a y.l.length s1.c,.slice s2.a y.ok.length s2.c];generalize f7:World.alloc _ _=w2 at R a1 ⊢;have e4:=hY (d3.o.trans R);have c8:=hY R;have N:=hY (f3.o.ext R);have k0:w2.cell? ⟨w1,0,none⟩=some (.int .i64 y.kind):=a1.cell 0;have k4:w2.cell? ⟨w1,4,none⟩=some (.slice s1.a y.l.length s1.c):=a1.cell 4;clear f7 R a1;by_cases z:g=true/\y.kind≠5
 ·have g1:=z.1
  have g2:(y.kind==5)=false:=eu.2 z.2;have HR:=hY (a6.o.trans (em z));clear z;subst g1;go_wp2_with fail;go_ret;exact⟨by rw[HR.o]<;>rfl,d,by rw[HR.o];exact HH.o.stay (fv e4.o)⟩
 have HR:=hY (a6.o.trans (ef z));go_cut [20] (λq w'=>q=.bool false/\w'=w2)
 case first=>
  cases g with
  | false=>
    clear z;go_wp2_with fail;go_meet;exact⟨rfl,rfl⟩
  | true=>
    have g2:(y.kind==5)=true:=by
     by_cases h5:y.kind=5
     .simp [h5]
     exact absurd ⟨rfl,h5⟩ z
    clear z;go_wp2_with fail;go_meet;exact⟨by rw[show(y.kind != 5)=false by rw[bne,g2];rfl],rfl⟩
 obtain⟨rfl,hw⟩:=hcut;subst hw;clear z k0;by_cases I:256<=y.l.length
 ·have g3:decide ((256:Int)≤(y.l.length:Int))=true:=ej (by omega)
  have g4:(256:Int)<=(y.l.length:Int):=by omega
  have a0:=hY (HR.o.trans (show Qma M k y.l v=(6,M)by unfold Qma;rw[em I]));clear I;go_wp2_with fail;go_ret;exact⟨by rw[a0.o]<;>rfl,d,by rw[a0.o];exact HH.o.stay (fv e4.o)⟩
 have g3:decide ((256:Int)<=(y.l.length:Int))=false:=eh (by omega);have g4:¬(256:Int)<=(y.l.length:Int):=by omega
 have a0:=hY (HR.o.trans (show Qma M k y.l v=setMu M k (Qf2 (y.l++[v]))by unfold Qma;rw[ef I]));have d4:=hY I;clear I;obtain⟨xs,b7,b6,a5,c6,e6,i1⟩:=(g5.o).row;have b0:wc.cell? ⟨w,0,none⟩=some (.int .i64 v.kind):=N.o.cell 0;have b1:wc.cell? ⟨w,1,none⟩=some (.bool v.b):=N.o.cell 1;have b2:wc.cell? ⟨w,2,none⟩=some (.int .i64 v.i):=N.o.cell 2;have b3:wc.cell? ⟨w,3,none⟩=some (.string v.t):=N.o.cell 3;have b4:wc.cell? ⟨w,4,none⟩=some (.slice sl.a v.l.length sl.c):=N.o.cell 4;have b5:wc.cell? ⟨w,5,none⟩=some (.slice so.a v.ok.length so.c):=N.o.cell 5;have X:y.l.length=xs.length:=by rw[<-b7,aq]
 rw[X]at k4;have e3:=hY X;have g6:=hY b7;have f5:=hY c6;have a4:=hY b6;have a7:=hY a5;have c7:=(fu wc).alloc #[.int .i64 v.kind,.bool v.b,.int .i64 v.i,.string v.t,.slice sl.a v.l.length sl.c,.slice so.a v.ok.length so.c] 28;have e0:=hY (fx wc 28 #[.int .i64 v.kind,.bool v.b,.int .i64 v.i,.string v.t,.slice sl.a v.l.length sl.c,.slice so.a v.ok.length so.c]);have c0:=hY c7;have f0:=hY e6;have i3:xs.length<=255:=by have:=d4.o;omega
 clear b7 c6 b6 a5 X c7 e6 g3 g4;generalize hA:(Obj.cells #[.int .i64 v.kind,.bool v.b,.int .i64 v.i,.string v.t,.slice sl.a v.l.length sl.c,.slice so.a v.ok.length so.c] 28)=A3 at c0 e0;have Q1:=hY (show s1.a=none->xs.length=0/\s1.c=0 fromλe=>⟨a7.o e,a4.o.trans (a7.o e)⟩);have Q2:=hY (show ∀b,s1.a=some b->∀j u,(QbV xs)[j]? = some u->(wc.alloc A3).cell? (b.add j)=some u fromλb Y j u hu=>c0.o.addr (c8.o.addr (f0.o b Y j u hu)));have Q3:=hY (show ∀j u,(⟨v,sl,so⟩:WV).cells[j]? = some u->(wc.alloc A3).cell? ((⟨wc,0,none⟩:Addr).add j)=some u fromλj u hu=>by rw[Qbu,aB,e0.o.cell];simpa[WV.cells]using hu);have Q4:=hY (show s1.c<xs.length+1 by rw[a4.o];exact df _);have Q5:=hY (show xs.length+1<=maxLen by unfold maxLen;omega);have Q6:=hY (show(xs.length+1)*88<=140737488355328 by omega);subst hA;go_wp2_with(at_builtin;refine wpList_append_grows _ rfl (.tmp 28) (.tmp 30) 25 rfl 28 i0 _ 6 88 underlying25 hi f8 f2 f1 rfl (by decide) s1.a xs.length s1.c (QbV xs) rfl Q1.out (QeU xs) Q2.out ⟨wc,0,none⟩ 1 1 (⟨v,sl,so⟩:WV).cells rfl rfl Q3.out (WV.one _) Q4.out Q5.out Q6.out ?_;intro v4 w4 U d8;obtain⟨s',rfl⟩:=QpW U;have c9:=hY U;have g7:=hY (Sb.made (H:=λ_=>False) d8);clear U d8);have L:Nw w1 _:=(fv (c8.o.trans c0.o)).trans g7.o;have D:Nw w _:=(fv d3.o).trans L;have e1:∀x∈xs++[(⟨v,sl,so⟩:WV)],RV _ (Lt _) x.v x.sl x.so:=λx hx=>by
  rcases aE.1 hx with hx|hx
  .exact ((f5.o x hx).agree (fC L λb Y=>Y.2)).mono λb Y=>ab Y.2 L.size
  obtain rfl:x=⟨v,sl,so⟩:=by simpa using hx
  exact(HV.o.agree (fC D λb Y=>Y)).mono λb Y=>ab Y D.size
 have Z:=QtS (xs:=xs++[(⟨v,sl,so⟩:WV)]) (s:=s') (by rw[ai,QmN];exact c9.o) e1 (by rw[ai];show(xs.length+1)*88<=_;omega);have a3:(xs++[(⟨v,sl,so⟩:WV)]).map WV.v=y.l++[v]:=by rw[aR,g6.o];rfl
 rw[a3]at Z;have a8:=Qql (k:=k) (HH.o.nw D) (λb Y=>ab (g0.o b Y) D.size) g8.o g9.o Z (by rw[Qsn];have:=f6.o;have:=HC.o;omega) (HL.o.nw D);have d7:xs.length+1=(Qf2 (y.l++[v])).l.length:=by show _=(y.l++[v]).length;rw[ai,e3.o];rfl
 have d6:=hY a8;have d0:=hY D;clear L D e1 Z a3 a8;rw[d7];clear d7;refine d6.o.mono ?_;rintro e w5 ⟨rfl,d',e2⟩;have f9:=hY (e2.since d0.o);clear e2;go_wp2_with fail;go_ret;exact⟨by rw[a0.o]<;>rfl,d',by rw[a0.o];exact f9.o⟩
end Go.Proofs.YtkjkafgnnoidpaaGreatDoor
