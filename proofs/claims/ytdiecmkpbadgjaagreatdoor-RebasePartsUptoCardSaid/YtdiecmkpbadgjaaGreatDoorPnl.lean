/- What the theorem needs of the texts Int1, Int2, MutN, MutB, MutS, MutK, MutF, MutL, MutC, Int3: no condition of its own. -/
import Derived.Test.YtdiecmkpbadgjaaGreatDoorPnk
import Derived.Test.YtdiecmkpbadgjaaGreatDoorPnh
set_option linter.unusedVariables false
set_option linter.unusedSimpArgs false
set_option linter.unnecessarySimpa false
set_option maxRecDepth 100000
set_option maxHeartbeats 4000000
namespace Go.Proofs.YtdiecmkpbadgjaaGreatDoor
open Go.Proofs.Tryz
open Go.RowKit Go.Maps Go.Shelf
theorem Quk{q:Int}(h:(Lit.int .i64 q).wf=true) : -9223372036854775808<=q/\q<=9223372036854775807:=by
 have h1:IntKind.i64.min = -9223372036854775808:=oN
 have h2:IntKind.i64.max=9223372036854775807:=oN
 simp[Lit.wf,h1,h2]at h;omega
variable{w:World}{F:Nat->Prop}{sl so:Sl}
theorem RV.int{d:Val}(h:RV w F d sl so) : -9223372036854775808<=d.i/\d.i<=9223372036854775807:=by
 cases h with
 |mk bl fl bo fo cl co hl ho hov el rl ek eo ro bk bi bt nl no=>exact Quk bi
variable{H:Nat->Prop}{O:Nat}{d:OD}{M:List Ent}{c:MuS}
theorem QmC{m:Mu}(h:OvX H w O d M)(hl:(Qaa d.T).length<=1000000)(hm:RMu w (Lt w) m c) :
  Calls prog 173 #[.pointer (some ⟨O,0,none⟩),Qaz m c] w λe w'=>e=.returned (.bool (asM M m.k m.had m.was))/\Ext w w':=by
 obtain⟨w1,w2,v1,v2,s⟩:=c;cases hm with
 |@mk kd k tk i a4 was has v l _ bl fl cl rw_ rv hl' el rl bk bt bkd bi nl=>
 show Calls _ _ #[_,.agg #[.int .i64 kd,.string k,.string tk,.int .i64 i,.bool a4,.int .i64 was.kind,.bool was.b,.int .i64 was.i,.string was.t,.slice w1.a was.l.length w1.c,.slice w2.a was.ok.length w2.c,.bool has,.int .i64 v.kind,.bool v.b,.int .i64 v.i,.string v.t,.slice v1.a v.l.length v1.c,.slice v2.a v.ok.length v2.c,.slice s.a l.length s.c]] _ λe w'=>e=.returned (.bool (asM M k a4 was))/\Ext w w'
 have a7:=(fI w).alloc #[.int .i64 kd,.string k,.string tk,.int .i64 i,.bool a4,.int .i64 was.kind,.bool was.b,.int .i64 was.i,.string was.t,.slice w1.a was.l.length w1.c,.slice w2.a was.ok.length w2.c,.bool has,.int .i64 v.kind,.bool v.b,.int .i64 v.i,.string v.t,.slice v1.a v.l.length v1.c,.slice v2.a v.ok.length v2.c,.slice s.a l.length s.c] 37;have a0:=Quh (h.nw (fJ a7)) hl bk;obtain⟨RW,a5,a6⟩:=Yc rw_ a7 (fK w 37 #[.int .i64 kd,.string k,.string tk,.int .i64 i,.bool a4,.int .i64 was.kind,.bool was.b,.int .i64 was.i,.string was.t,.slice w1.a was.l.length w1.c,.slice w2.a was.ok.length w2.c,.bool has,.int .i64 v.kind,.bool v.b,.int .i64 v.i,.string v.t,.slice v1.a v.l.length v1.c,.slice v2.a v.ok.length v2.c,.slice s.a l.length s.c]);clear a7 h rw_ rv hl' el rl bk bt bkd bi nl;cases hg:Qaq M k with
 | none=>
   rw[hg]at a0;cases a4 with
   | false=>
     have N:asM M k false was=(true):=by unfold asM;rw[hg];rfl
     rw[N];have a2:=hY a0;clear N a0 hg;go_in;go_wp2_with fail;refine a2.o.mono ?_;rintro e W1 ⟨sl,so,rfl,Z,a3⟩;have I:=a6.o.ext Z;have c4:W1.cell? ⟨w,4,none⟩=some (.bool false):=I.cell 4;have c5:W1.cell? ⟨w,5,none⟩=some (.int .i64 was.kind):=I.cell 5;have c6:W1.cell? ⟨w,5+1,none⟩=some (.bool was.b):=I.cell 6;have c7:W1.cell? ⟨w,5+2,none⟩=some (.int .i64 was.i):=I.cell 7;have c8:W1.cell? ⟨w,5+3,none⟩=some (.string was.t):=I.cell 8;have c9:W1.cell? ⟨w,5+4,none⟩=some (.slice w1.a was.l.length w1.c):=I.cell 9;have a8:W1.cell? ⟨w,5+5,none⟩=some (.slice w2.a was.ok.length w2.c):=I.cell 10;have l1:=I.lt;have a1:Ext W1 (W1.alloc (.cells #[.int .i64 zeroV.kind,.bool zeroV.b,.int .i64 zeroV.i,.string zeroV.t,.slice sl.a zeroV.l.length sl.c,.slice so.a zeroV.ok.length so.c] 34)):=(fI W1).alloc _ _;have HX:=hY ((a5.o.trans Z).trans a1);clear Z a3 I a1;go_wp2_with fail;go_ret;exact⟨rfl,HX.o⟩
   | true=>
     have N:asM M k true was=(false):=by unfold asM;rw[hg];rfl
     rw[N];have a2:=hY a0;clear N a0 hg;go_in;go_wp2_with fail;refine a2.o.mono ?_;rintro e W1 ⟨sl,so,rfl,Z,a3⟩;have I:=a6.o.ext Z;have c4:W1.cell? ⟨w,4,none⟩=some (.bool true):=I.cell 4;have c5:W1.cell? ⟨w,5,none⟩=some (.int .i64 was.kind):=I.cell 5;have c6:W1.cell? ⟨w,5+1,none⟩=some (.bool was.b):=I.cell 6;have c7:W1.cell? ⟨w,5+2,none⟩=some (.int .i64 was.i):=I.cell 7;have c8:W1.cell? ⟨w,5+3,none⟩=some (.string was.t):=I.cell 8;have c9:W1.cell? ⟨w,5+4,none⟩=some (.slice w1.a was.l.length w1.c):=I.cell 9;have a8:W1.cell? ⟨w,5+5,none⟩=some (.slice w2.a was.ok.length w2.c):=I.cell 10;have l1:=I.lt;have a1:Ext W1 (W1.alloc (.cells #[.int .i64 zeroV.kind,.bool zeroV.b,.int .i64 zeroV.i,.string zeroV.t,.slice sl.a zeroV.l.length sl.c,.slice so.a zeroV.ok.length so.c] 34)):=(fI W1).alloc _ _;have HX:=hY ((a5.o.trans Z).trans a1);clear Z a3 I a1;go_wp2_with fail;go_ret;exact⟨rfl,HX.o⟩
 | some x=>
   rw[hg]at a0;cases a4 with
   | false=>
     have N:asM M k false was=(false):=by unfold asM;rw[hg];rfl
     rw[N];have a2:=hY a0;clear N a0 hg;go_in;go_wp2_with fail;refine a2.o.mono ?_;rintro e W1 ⟨sl,so,rfl,Z,a3⟩;have I:=a6.o.ext Z;have c4:W1.cell? ⟨w,4,none⟩=some (.bool false):=I.cell 4;have c5:W1.cell? ⟨w,5,none⟩=some (.int .i64 was.kind):=I.cell 5;have c6:W1.cell? ⟨w,5+1,none⟩=some (.bool was.b):=I.cell 6;have c7:W1.cell? ⟨w,5+2,none⟩=some (.int .i64 was.i):=I.cell 7;have c8:W1.cell? ⟨w,5+3,none⟩=some (.string was.t):=I.cell 8;have c9:W1.cell? ⟨w,5+4,none⟩=some (.slice w1.a was.l.length w1.c):=I.cell 9;have a8:W1.cell? ⟨w,5+5,none⟩=some (.slice w2.a was.ok.length w2.c):=I.cell 10;have l1:=I.lt;have a1:Ext W1 (W1.alloc (.cells #[.int .i64 x.kind,.bool x.b,.int .i64 x.i,.string x.t,.slice sl.a x.l.length sl.c,.slice so.a x.ok.length so.c] 34)):=(fI W1).alloc _ _;have HX:=hY ((a5.o.trans Z).trans a1);clear Z a3 I a1;go_wp2_with fail;go_ret;exact⟨rfl,HX.o⟩
   | true=>
     have N:asM M k true was=(decide (Qbq x was=0)):=by unfold asM;rw[hg];rfl
     rw[N];have a2:=hY a0;clear N a0 hg;go_in;go_wp2_with fail;refine a2.o.mono ?_;rintro e W1 ⟨sl,so,rfl,Z,a3⟩;have I:=a6.o.ext Z;have c4:W1.cell? ⟨w,4,none⟩=some (.bool true):=I.cell 4;have c5:W1.cell? ⟨w,5,none⟩=some (.int .i64 was.kind):=I.cell 5;have c6:W1.cell? ⟨w,5+1,none⟩=some (.bool was.b):=I.cell 6;have c7:W1.cell? ⟨w,5+2,none⟩=some (.int .i64 was.i):=I.cell 7;have c8:W1.cell? ⟨w,5+3,none⟩=some (.string was.t):=I.cell 8;have c9:W1.cell? ⟨w,5+4,none⟩=some (.slice w1.a was.l.length w1.c):=I.cell 9;have a8:W1.cell? ⟨w,5+5,none⟩=some (.slice w2.a was.ok.length w2.c):=I.cell 10;have l1:=I.lt;have a1:Ext W1 (W1.alloc (.cells #[.int .i64 x.kind,.bool x.b,.int .i64 x.i,.string x.t,.slice sl.a x.l.length sl.c,.slice so.a x.ok.length so.c] 34)):=(fI W1).alloc _ _;have HX:=hY ((a5.o.trans Z).trans a1);have a9:=Qdk (w:=W1.alloc (.cells #[.int .i64 x.kind,.bool x.b,.int .i64 x.i,.string x.t,.slice sl.a x.l.length sl.c,.slice so.a x.ok.length so.c] 34)) ((a3.agree (a1.agree λb hb=>hb.2)).mono λb hb=>ab hb.2 a1.size) ((RW.out.agree (((a5.o.trans Z).trans a1).agree λ_ h=>h)).mono λb hb=>ab hb ((a5.o.trans Z).trans a1).size);have b4:=hY a9;clear a9;clear Z a3 I a1;go_wp2_with fail;refine b4.o.mono ?_;rintro e W3 ⟨rfl,b0⟩;have b3:=hY (HX.o.trans b0);clear b0;go_wp2_with fail;go_ret;exact⟨rfl,b3.o⟩
theorem Ql9{n b:Int}(I : -9223372036854775808<=n/\n<=9223372036854775807)(N : -9223372036854775808<=b/\b<=9223372036854775807) :
  ((0<b/\9223372036854775807-b<n)->wrap64 (n+b)<n)/\((b<0/\n < -9223372036854775808-b)->n<wrap64 (n+b))/\(¬((0<b/\9223372036854775807-b<n)\/(b<0/\n < -9223372036854775808-b))->wrap64 (n+b)=n+b):=by
 unfold wrap64;refine⟨λh=>?_,λh=>?_,λh=>?_⟩<;>omega
theorem Qpm{k:ByteArray}{by_:Int}{x:Val}(I:Qaq M k=some x)(h:x.kind≠3):Qeb M k by_=(9,M):=by
 unfold Qeb;rw[I];exact eu h
theorem Qte{k:ByteArray}{by_:Int}(h:OvX H w O d M)(hH:∀b,H b->b<w.heap.size)(hn:d.us.length<=1000000)(hl:(Qaa d.T).length<=1000000)(b3:k.size<=maxLen)
  (c0 : -9223372036854775808<=by_/\by_<=9223372036854775807) (hL:Qb4 w) :
  Calls prog 169 #[.pointer (some ⟨O,0,none⟩),.string k,.int .i64 by_] w λe w'=>e=.returned (.int .i64 (Qeb M k by_).1)/\∃d',GoX H w O d (Qeb M k by_).2 1 w' d':=by
 have a6:=Quh h hl b3;obtain⟨HH,HL⟩:=Yb h hL;obtain⟨r,hr⟩:∃r,Qeb M k by_=r:=⟨_,rfl⟩;rw[hr];have HR:=hY hr;clear h hL hl hr;cases hg:Qaq M k with
 | none=>
   rw[hg]at a6;obtain⟨HG,b4⟩:=Yb hg a6;clear hg a6;go_in;go_wp2_with fail;refine b4.o.mono ?_;rintro e W1 ⟨sl,so,rfl,a9,b6⟩;have a8:Ext W1 (W1.alloc (.cells #[.int .i64 zeroV.kind,.bool zeroV.b,.int .i64 zeroV.i,.string zeroV.t,.slice sl.a zeroV.l.length sl.c,.slice so.a zeroV.ok.length so.c] 34)):=(fI W1).alloc _ _;obtain⟨HX,a4⟩:=Yb (a9.trans a8) (Ql9 (n:=zeroV.i) (b:=by_) oN c0);clear a9 a8 b6;by_cases hs:0<by_/\9223372036854775807-by_<zeroV.i
   ·skip
    have f1:(0:Int)<by_:=hs.1;have f2:wrap64 (zeroV.i+by_)<zeroV.i:=a4.o.1 hs;have a7:decide ((0:Int)<by_)=true:=em f1;have b9:decide (wrap64 (zeroV.i+by_)<zeroV.i)=true:=em f2;have N:Qeb M k by_=(7,M):=by unfold Qeb;rw[HG.o];exact eu (.inl hs)
    have I:=hY (HR.o.symm.trans N);clear hs N;go_wp2_with fail;go_ret;exact⟨by rw[I.o]<;>rfl,d,by rw[I.o];exact HH.o.stay (fJ HX.o)⟩
   by_cases hs:by_<0/\zeroV.i < -9223372036854775808-by_
   ·skip
    have f1:¬(0:Int)<by_:=oM
    have f3:by_<0:=hs.1;have f4:zeroV.i<wrap64 (zeroV.i+by_):=a4.o.2.1 hs;have a7:decide ((0:Int)<by_)=false:=ej f1;have b0:decide (by_<0)=true:=em f3;have b8:decide (zeroV.i<wrap64 (zeroV.i+by_))=true:=em f4;have N:Qeb M k by_=(7,M):=by unfold Qeb;rw[HG.o];exact eu (.inr hs)
    have I:=hY (HR.o.symm.trans N);clear hs N;go_wp2_with fail;go_ret;exact⟨by rw[I.o]<;>rfl,d,by rw[I.o];exact HH.o.stay (fJ HX.o)⟩
   have a0:¬((0<by_/\9223372036854775807-by_<zeroV.i)\/(by_<0/\zeroV.i < -9223372036854775808-by_)):=oM
   by_cases hs:0<by_
   ·skip
    have f1:(0:Int)<by_:=hs;have f3:¬by_<0:=oM
    have f2:¬wrap64 (zeroV.i+by_)<zeroV.i:=by rw[a4.o.2.2 a0];omega
    have a7:decide ((0:Int)<by_)=true:=em f1;have b0:decide (by_<0)=false:=ej f3;have b9:decide (wrap64 (zeroV.i+by_)<zeroV.i)=false:=ej f2;have hw:wrap64 (zeroV.i+by_)=(0:Int)+by_:=a4.o.2.2 a0;have N:Qeb M k by_=setMu M k (Qlb (wrap64 (zeroV.i+by_))):=by unfold Qeb;rw[HG.o,hw];exact eh a0
    have a3 : -9223372036854775808<=wrap64 (zeroV.i+by_)/\wrap64 (zeroV.i+by_)<=9223372036854775807:=by unfold wrap64;omega
    have I:=hY (HR.o.symm.trans N);have Z:=QqS (v:=Qlb (wrap64 (zeroV.i+by_))) (sl:=Sl.none) (so:=Sl.none) (HH.o.nw (fJ HX.o)) (λb hb=>ab (hH b hb) HX.o.size) hn b3 (RV.flat _ _ _ _ _ _ oN (WalkArith.wf_i64 a3) oN) (show 7+0+0+0<=1100000 by decide) (HL.o.nw (fJ HX.o));have a2:=hY Z;clear hs hw N a3 Z a0;go_wp2_with fail;refine a2.o.mono ?_;rintro e w2 ⟨rfl,d',a1⟩;have a5:=hY (a1.since (fJ HX.o));clear a1;go_wp2_with fail;go_ret;exact⟨by rw[I.o]<;>rfl,d',by rw[I.o];exact a5.o⟩
   by_cases hs:by_<0
   ·skip
    have f1:¬(0:Int)<by_:=oM
    have f3:by_<0:=hs;have f4:¬zeroV.i<wrap64 (zeroV.i+by_):=by rw[a4.o.2.2 a0];omega
    have a7:decide ((0:Int)<by_)=false:=ej f1;have b0:decide (by_<0)=true:=em f3;have b8:decide (zeroV.i<wrap64 (zeroV.i+by_))=false:=ej f4;have hw:wrap64 (zeroV.i+by_)=(0:Int)+by_:=a4.o.2.2 a0;have N:Qeb M k by_=setMu M k (Qlb (wrap64 (zeroV.i+by_))):=by unfold Qeb;rw[HG.o,hw];exact eh a0
    have a3 : -9223372036854775808<=wrap64 (zeroV.i+by_)/\wrap64 (zeroV.i+by_)<=9223372036854775807:=by unfold wrap64;omega
    have I:=hY (HR.o.symm.trans N);have Z:=QqS (v:=Qlb (wrap64 (zeroV.i+by_))) (sl:=Sl.none) (so:=Sl.none) (HH.o.nw (fJ HX.o)) (λb hb=>ab (hH b hb) HX.o.size) hn b3 (RV.flat _ _ _ _ _ _ oN (WalkArith.wf_i64 a3) oN) (show 7+0+0+0<=1100000 by decide) (HL.o.nw (fJ HX.o));have a2:=hY Z;clear hs hw N a3 Z a0;go_wp2_with fail;refine a2.o.mono ?_;rintro e w2 ⟨rfl,d',a1⟩;have a5:=hY (a1.since (fJ HX.o));clear a1;go_wp2_with fail;go_ret;exact⟨by rw[I.o]<;>rfl,d',by rw[I.o];exact a5.o⟩
   have f1:¬(0:Int)<by_:=oM
   have f3:¬by_<0:=oM
   have a7:decide ((0:Int)<by_)=false:=ej f1;have b0:decide (by_<0)=false:=ej f3;have hw:wrap64 (zeroV.i+by_)=(0:Int)+by_:=a4.o.2.2 a0;have N:Qeb M k by_=setMu M k (Qlb (wrap64 (zeroV.i+by_))):=by unfold Qeb;rw[HG.o,hw];exact eh a0
   have a3 : -9223372036854775808<=wrap64 (zeroV.i+by_)/\wrap64 (zeroV.i+by_)<=9223372036854775807:=by unfold wrap64;omega
   have I:=hY (HR.o.symm.trans N);have Z:=QqS (v:=Qlb (wrap64 (zeroV.i+by_))) (sl:=Sl.none) (so:=Sl.none) (HH.o.nw (fJ HX.o)) (λb hb=>ab (hH b hb) HX.o.size) hn b3 (RV.flat _ _ _ _ _ _ oN (WalkArith.wf_i64 a3) oN) (show 7+0+0+0<=1100000 by decide) (HL.o.nw (fJ HX.o));have a2:=hY Z;clear hs hw N a3 Z a0;go_wp2_with fail;refine a2.o.mono ?_;rintro e w2 ⟨rfl,d',a1⟩;have a5:=hY (a1.since (fJ HX.o));clear a1;go_wp2_with fail;go_ret;exact⟨by rw[I.o]<;>rfl,d',by rw[I.o];exact a5.o⟩
 | some x=>
   rw[hg]at a6;obtain⟨HG,b4⟩:=Yb hg a6;clear hg a6;by_cases b5:x.kind=3
   ·have gk:(x.kind != 3)=false:=by simp [b5]
    have b7:=hY b5;clear b5;go_in;go_wp2_with fail;refine b4.o.mono ?_;rintro e W1 ⟨sl,so,rfl,a9,b6⟩;have a8:Ext W1 (W1.alloc (.cells #[.int .i64 x.kind,.bool x.b,.int .i64 x.i,.string x.t,.slice sl.a x.l.length sl.c,.slice so.a x.ok.length so.c] 34)):=(fI W1).alloc _ _;obtain⟨HX,a4⟩:=Yb (a9.trans a8) (Ql9 (n:=x.i) (b:=by_) b6.rv.int c0);clear a9 a8 b6;by_cases hs:0<by_/\9223372036854775807-by_<x.i
    ·skip
     have f1:(0:Int)<by_:=hs.1;have f2:wrap64 (x.i+by_)<x.i:=a4.o.1 hs;have a7:decide ((0:Int)<by_)=true:=em f1;have b9:decide (wrap64 (x.i+by_)<x.i)=true:=em f2;have N:Qeb M k by_=(7,M):=by unfold Qeb;rw[HG.o];dsimp only;rw[eh (by simp[b7.o])];exact eu (.inl hs)
     have I:=hY (HR.o.symm.trans N);clear hs N;go_wp2_with fail;go_ret;exact⟨by rw[I.o]<;>rfl,d,by rw[I.o];exact HH.o.stay (fJ HX.o)⟩
    by_cases hs:by_<0/\x.i < -9223372036854775808-by_
    ·skip
     have f1:¬(0:Int)<by_:=oM
     have f3:by_<0:=hs.1;have f4:x.i<wrap64 (x.i+by_):=a4.o.2.1 hs;have a7:decide ((0:Int)<by_)=false:=ej f1;have b0:decide (by_<0)=true:=em f3;have b8:decide (x.i<wrap64 (x.i+by_))=true:=em f4;have N:Qeb M k by_=(7,M):=by unfold Qeb;rw[HG.o];dsimp only;rw[eh (by simp[b7.o])];exact eu (.inr hs)
     have I:=hY (HR.o.symm.trans N);clear hs N;go_wp2_with fail;go_ret;exact⟨by rw[I.o]<;>rfl,d,by rw[I.o];exact HH.o.stay (fJ HX.o)⟩
    have a0:¬((0<by_/\9223372036854775807-by_<x.i)\/(by_<0/\x.i < -9223372036854775808-by_)):=oM
    by_cases hs:0<by_
    ·skip
     have f1:(0:Int)<by_:=hs;have f3:¬by_<0:=oM
     have f2:¬wrap64 (x.i+by_)<x.i:=by rw[a4.o.2.2 a0];omega
     have a7:decide ((0:Int)<by_)=true:=em f1;have b0:decide (by_<0)=false:=ej f3;have b9:decide (wrap64 (x.i+by_)<x.i)=false:=ej f2;have hw:wrap64 (x.i+by_)=x.i+by_:=a4.o.2.2 a0;have N:Qeb M k by_=setMu M k (Qlb (wrap64 (x.i+by_))):=by unfold Qeb;rw[HG.o,hw];dsimp only;rw[eh (by simp[b7.o])];exact eh a0
     have a3 : -9223372036854775808<=wrap64 (x.i+by_)/\wrap64 (x.i+by_)<=9223372036854775807:=by unfold wrap64;omega
     have I:=hY (HR.o.symm.trans N);have Z:=QqS (v:=Qlb (wrap64 (x.i+by_))) (sl:=Sl.none) (so:=Sl.none) (HH.o.nw (fJ HX.o)) (λb hb=>ab (hH b hb) HX.o.size) hn b3 (RV.flat _ _ _ _ _ _ oN (WalkArith.wf_i64 a3) oN) (show 7+0+0+0<=1100000 by decide) (HL.o.nw (fJ HX.o));have a2:=hY Z;clear hs hw N a3 Z a0;go_wp2_with fail;refine a2.o.mono ?_;rintro e w2 ⟨rfl,d',a1⟩;have a5:=hY (a1.since (fJ HX.o));clear a1;go_wp2_with fail;go_ret;exact⟨by rw[I.o]<;>rfl,d',by rw[I.o];exact a5.o⟩
    by_cases hs:by_<0
    ·skip
     have f1:¬(0:Int)<by_:=oM
     have f3:by_<0:=hs;have f4:¬x.i<wrap64 (x.i+by_):=by rw[a4.o.2.2 a0];omega
     have a7:decide ((0:Int)<by_)=false:=ej f1;have b0:decide (by_<0)=true:=em f3;have b8:decide (x.i<wrap64 (x.i+by_))=false:=ej f4;have hw:wrap64 (x.i+by_)=x.i+by_:=a4.o.2.2 a0;have N:Qeb M k by_=setMu M k (Qlb (wrap64 (x.i+by_))):=by unfold Qeb;rw[HG.o,hw];dsimp only;rw[eh (by simp[b7.o])];exact eh a0
     have a3 : -9223372036854775808<=wrap64 (x.i+by_)/\wrap64 (x.i+by_)<=9223372036854775807:=by unfold wrap64;omega
     have I:=hY (HR.o.symm.trans N);have Z:=QqS (v:=Qlb (wrap64 (x.i+by_))) (sl:=Sl.none) (so:=Sl.none) (HH.o.nw (fJ HX.o)) (λb hb=>ab (hH b hb) HX.o.size) hn b3 (RV.flat _ _ _ _ _ _ oN (WalkArith.wf_i64 a3) oN) (show 7+0+0+0<=1100000 by decide) (HL.o.nw (fJ HX.o));have a2:=hY Z;clear hs hw N a3 Z a0;go_wp2_with fail;refine a2.o.mono ?_;rintro e w2 ⟨rfl,d',a1⟩;have a5:=hY (a1.since (fJ HX.o));clear a1;go_wp2_with fail;go_ret;exact⟨by rw[I.o]<;>rfl,d',by rw[I.o];exact a5.o⟩
    have f1:¬(0:Int)<by_:=oM
    have f3:¬by_<0:=oM
    have a7:decide ((0:Int)<by_)=false:=ej f1;have b0:decide (by_<0)=false:=ej f3;have hw:wrap64 (x.i+by_)=x.i+by_:=a4.o.2.2 a0;have N:Qeb M k by_=setMu M k (Qlb (wrap64 (x.i+by_))):=by unfold Qeb;rw[HG.o,hw];dsimp only;rw[eh (by simp[b7.o])];exact eh a0
    have a3 : -9223372036854775808<=wrap64 (x.i+by_)/\wrap64 (x.i+by_)<=9223372036854775807:=by unfold wrap64;omega
    have I:=hY (HR.o.symm.trans N);have Z:=QqS (v:=Qlb (wrap64 (x.i+by_))) (sl:=Sl.none) (so:=Sl.none) (HH.o.nw (fJ HX.o)) (λb hb=>ab (hH b hb) HX.o.size) hn b3 (RV.flat _ _ _ _ _ _ oN (WalkArith.wf_i64 a3) oN) (show 7+0+0+0<=1100000 by decide) (HL.o.nw (fJ HX.o));have a2:=hY Z;clear hs hw N a3 Z a0;go_wp2_with fail;refine a2.o.mono ?_;rintro e w2 ⟨rfl,d',a1⟩;have a5:=hY (a1.since (fJ HX.o));clear a1;go_wp2_with fail;go_ret;exact⟨by rw[I.o]<;>rfl,d',by rw[I.o];exact a5.o⟩
   have gk:(x.kind != 3)=true:=by simp[b5]
   have I:=hY (HR.o.symm.trans (Qpm HG.o b5));clear b5;go_in;go_wp2_with fail;refine b4.o.mono ?_;rintro e W1 ⟨sl,so,rfl,a9,b6⟩;have a8:Ext W1 (W1.alloc (.cells #[.int .i64 x.kind,.bool x.b,.int .i64 x.i,.string x.t,.slice sl.a x.l.length sl.c,.slice so.a x.ok.length so.c] 34)):=(fI W1).alloc _ _;have HX:=hY (a9.trans a8);clear a9 a8 b6;go_wp2_with fail;go_ret;exact⟨by rw[I.o]<;>rfl,d,by rw[I.o];exact HH.o.stay (fJ HX.o)⟩
theorem MuC.c19{b o:Nat}{m:Mu}(h:MuC w b o m c):w.cell? ⟨b,o,none⟩=some (.int .i64 m.kd)/\w.cell? ⟨b,o+1,none⟩=some (.string m.k)/\w.cell? ⟨b,o+2,none⟩=some (.string m.tk)/\w.cell? ⟨b,o+3,none⟩=some (.int .i64 m.i)/\w.cell? ⟨b,o+4,none⟩=some (.bool m.had)/\w.cell? ⟨b,o+5,none⟩=some (.int .i64 m.was.kind)/\w.cell? ⟨b,o+6,none⟩=some (.bool m.was.b)/\w.cell? ⟨b,o+7,none⟩=some (.int .i64 m.was.i)/\w.cell? ⟨b,o+8,none⟩=some (.string m.was.t)/\w.cell? ⟨b,o+9,none⟩=some (.slice c.w1.a m.was.l.length c.w1.c)/\w.cell? ⟨b,o+10,none⟩=some (.slice c.w2.a m.was.ok.length c.w2.c)/\w.cell? ⟨b,o+11,none⟩=some (.bool m.has)/\w.cell? ⟨b,o+12,none⟩=some (.int .i64 m.v.kind)/\w.cell? ⟨b,o+13,none⟩=some (.bool m.v.b)/\w.cell? ⟨b,o+14,none⟩=some (.int .i64 m.v.i)/\w.cell? ⟨b,o+15,none⟩=some (.string m.v.t)/\w.cell? ⟨b,o+16,none⟩=some (.slice c.v1.a m.v.l.length c.v1.c)/\w.cell? ⟨b,o+17,none⟩=some (.slice c.v2.a m.v.ok.length c.v2.c)/\w.cell? ⟨b,o+18,none⟩=some (.slice c.s.a m.l.length c.s.c):=
 ⟨h 0 _ rfl,h 1 _ rfl,h 2 _ rfl,h 3 _ rfl,h 4 _ rfl,h 5 _ rfl,h 6 _ rfl,h 7 _ rfl,h 8 _ rfl,h 9 _ rfl,h 10 _ rfl,h 11 _ rfl,h 12 _ rfl,h 13 _ rfl,h 14 _ rfl,h 15 _ rfl,h 16 _ rfl,h 17 _ rfl,h 18 _ rfl⟩
variable{W0:World}
theorem QaB{m:Mu}(h:w.alloc (.cells (Qa2 m c) 37)=W0):Ext w W0/\MuC W0 w.heap.size 0 m c/\W0.heap.size=w.heap.size+1:=by
 rw[<-h];exact⟨(fI w).alloc _ _,fT (fK w _ _),ew _ _⟩
theorem RMu.parts{m:Mu}(h:RMu w F m c):RV w F m.was c.w1 c.w2/\RV w F m.v c.v1 c.v2/\m.k.size<=maxLen/\m.tk.size<=maxLen/\(-9223372036854775808<=m.i/\m.i<=9223372036854775807):=by
 cases h with
 |mk bl fl cl rw_ rv hl el rl bk bt bkd bi nl=>exact⟨rw_,rv,bk,bt,Quk bi⟩
theorem Qkz(m:Mu):QcI m.v<=QcC m/\QcI m.was<=QcC m:=by
 obtain⟨kd,k,tk,i,I,N,Z,v,l⟩:=m;simp only[QcC,Mu.v,Mu.was];omega
def Qt9(M:List Ent)(m:Mu):Int × List Ent:=if asM M m.k m.had m.was then(if m.has then setMu M m.k m.v else(0,QbM M m.k))else(13,M)
theorem QsY{m:Mu}(h:OvX H w O d M)(hH:∀b,H b->b<w.heap.size)(hn:d.us.length<=1000000)(hl:(Qaa d.T).length<=1000000)(hm:RMu w (Lt w) m c)(ht:QcC m<=1100000)(hL:Qb4 w) :
  Calls prog 170 #[.pointer (some ⟨O,0,none⟩),Qaz m c] w λe w'=>e=.returned (.int .i64 (Qt9 M m).1)/\∃d',GoX H w O d (Qt9 M m).2 1 w' d':=by
 obtain⟨-,hv,hk,-,-⟩:=hm.parts;have b9:=λW (hW:Ext w W)=>QmC (h.nw (fJ hW)) hl ((hm.agree (hW.agree λ_ h=>h)).mono (G:=Lt W) λb hb=>ab hb hW.size)
 obtain⟨a5,HH,HL,HV⟩:=Ye b9 h hL hv;have d4:QcI m.v<=1100000:=by have:=(Qkz m).1;omega
 clear b9 h hL hm ht hv;obtain⟨r,hr⟩:∃r,Qt9 M m=r:=⟨_,rfl⟩;rw[hr];unfold Qt9 at hr;cases ha:asM M m.k m.had m.was with
 | false=>
   rw[ha]at a5 hr;rw[eh sM]at hr;have HR:=hY hr;clear hr ha;go_in;go_upto_region 1 with fail;generalize a3:World.alloc _ _=W0;obtain⟨a2,Z,-⟩:=QaB (m:=m) (c:=c) a3;obtain⟨a0,a4⟩:=Yb a2 Z;clear a3 a2 Z;go_wp2_with(refine Qah rfl (.tmp 3) rfl w.heap.size 0 rfl m c a4.o ?_);refine(a5.o _ a0.o).mono ?_;rintro e W1 ⟨rfl,N⟩;have a7:=hY (a0.o.trans N);clear N;go_wp2_with fail;go_ret;exact⟨by rw[<-HR.o]<;>rfl,d,by rw[<-HR.o];exact HH.o.stay (fJ a7.o)⟩
 | true=>
   rw[ha]at a5 hr;rw[eu rfl]at hr;cases hh:m.has with
   | true=>
     rw[hh,eu rfl]at hr;obtain⟨HR,a8⟩:=Yb hr hh;clear hr ha hh;go_in;go_upto_region 1 with fail;generalize a3:World.alloc _ _=W0;obtain⟨a2,Z,-⟩:=QaB (m:=m) (c:=c) a3;obtain⟨a0,a4⟩:=Yb a2 Z;clear a3 a2 Z;go_wp2_with(refine Qah rfl (.tmp 3) rfl w.heap.size 0 rfl m c a4.o ?_);refine(a5.o _ a0.o).mono ?_;rintro e W1 ⟨rfl,N⟩;have I:=a0.o.trans N;have a1:=a4.o.ext N;obtain⟨c0,c1,c2,c3,c4,c5,c6,c7,c8,c9,b7,a9,d5,d7,d0,d3,d8,d6,b8⟩:=a1.c19;simp only[Nat.zero_add]at c0 c1 c2 c3 c4 c5 c6 c7 c8 c9 b7 a9 d5 d7 d0 d3 d8 d6 b8;rw[a8.o]at a9;have l1:=a1.lt;have b3:=QqS (HH.o.nw (fJ I)) (λb hb=>ab (hH b hb) I.size) hn hk ((HV.o.agree (I.agree λ_ h=>h)).mono λb hb=>ab hb I.size) d4 (HL.o.nw (fJ I));obtain⟨b6,a7⟩:=Yb b3 I;clear N a1 I b3 c0 c2 c3 c4 c5 c6 c7 c8 c9 b7 b8;go_wp2_with fail;refine b6.o.mono ?_;rintro e W2 ⟨rfl,d',a6⟩;have b4:=hY (a6.since (fJ a7.o));clear a6;go_wp2_with fail;go_ret;exact⟨by rw[<-HR.o]<;>rfl,d',by rw[<-HR.o];exact b4.o⟩
   | false=>
     rw[hh,eh sM]at hr;obtain⟨HR,a8⟩:=Yb hr hh;clear hr ha hh;go_in;go_upto_region 1 with fail;generalize a3:World.alloc _ _=W0;obtain⟨a2,Z,-⟩:=QaB (m:=m) (c:=c) a3;obtain⟨a0,a4⟩:=Yb a2 Z;clear a3 a2 Z;go_wp2_with(refine Qah rfl (.tmp 3) rfl w.heap.size 0 rfl m c a4.o ?_);refine(a5.o _ a0.o).mono ?_;rintro e W1 ⟨rfl,N⟩;have I:=a0.o.trans N;have a1:=a4.o.ext N;have a9:W1.cell? ⟨w,11,none⟩=some (.bool m.has):=a1 11 _ rfl;have c1:W1.cell? ⟨w,1,none⟩=some (.string m.k):=a1 1 _ rfl;rw[a8.o]at a9;have l1:=a1.lt;have b0:=Qvk (HH.o.nw (fJ I)) (λb hb=>ab (hH b hb) I.size) hn hl hk;obtain⟨b5,a7⟩:=Yb b0 I;clear N a1 I b0;go_wp2_with fail;refine b5.o.mono ?_;rintro e W2 ⟨rfl,d',a6⟩;have b4:=hY (a6.since (fJ a7.o));clear a6;go_wp2_with fail;go_ret;exact⟨by rw[<-HR.o]<;>rfl,d',by rw[<-HR.o];exact b4.o⟩
variable{j:Nat}
theorem RMu.at{m:Mu}(h:RMu w F m c){x:Mu}(I:m.l[j]? = some x) :
  ∃b o y,c.s.a=some ⟨b,o,none⟩/\F b/\m.l.length<=c.s.c/\c.s.c<=maxLen/\MuC w b (o+j*19) x y/\RMu w F x y:=by
 cases h with
 | mk bl fl cl rw_ rv hl el rl bk bt bkd bi nl=>
   obtain⟨e1,Z,N⟩:=hl.eq (QaW I);exact⟨bl,fl,cl j,e1,hl.fits (QaW I),Z,N,el j x I,rl j x I⟩
theorem RMu.len{m:Mu}(h:RMu w F m c):m.l.length*264<=140737488355328:=by
 cases h with
 |mk bl fl cl rw_ rv hl el rl bk bt bkd bi nl=>exact nl
theorem Mu.Qsr{m:Mu}{x:Mu}(h:m.l[j]? = some x):SizeOf.sizeOf x<SizeOf.sizeOf m:=by
 obtain⟨kd,k,tk,i,I,N,Z,v,l⟩:=m;have h1:SizeOf.sizeOf x<SizeOf.sizeOf l:=dD (ap h);simp only[Mu.mk.sizeOf_spec];omega
theorem Qf7(m:Mu):Qa0 m=1+QaF m.l:=by
 obtain⟨kd,k,tk,i,I,N,Z,v,l⟩:=m;rw[Qa0];rfl
theorem QeZ:∀(l:List Mu) (j:Nat),QaF (l.take j)<=QaF l
 |[],j=>sM
 |x::r,0=>by simp[QaF]
 |x::r,j+1=>by have:=QeZ r j;rw[bp,QaF,QaF];omega
theorem Qqv(n:Nat):∀(m:Mu) (c:MuS) (w:World),SizeOf.sizeOf m<=n->RMu w (Lt w) m c->Qa0 m<=1100000->Calls prog 160 #[Qaz m c] w λe w'=>e=.returned (.int .i64 (Qa0 m:Int))/\Ext w w':=by
 induction n with
 |zero=>intro m c w h;have:=Mu.Qb6 m;omega
 | succ n ih=>
   intro m c w hn hm hs;obtain⟨HI,HM⟩:=Yb ih hm;have c6:=hm.len;obtain⟨a9,HS,HN⟩:=Yc (Qf7 m) hs hn;clear ih hm hs hn;go_in;go_upto_region 1 with fail;generalize b6:World.alloc _ _=W0;obtain⟨b3,a8,-⟩:=QaB (m:=m) (c:=c) b6;have c0:=hY b3;have c8:W0.cell? ⟨w,8+10,none⟩=some (.slice c.s.a m.l.length c.s.c):=a8 18 _ rfl;clear b6 b3 a8;go_wp2_with fail;go_loopw[3,9] (λv3 v9 wr=>∃j:Nat,v9=.int .i64 (j:Int)/\v3=.int .i64 ((1+QaF (m.l.take j):Nat):Int)/\j<=m.l.length/\Yd (Ext w wr)) (λ_ v _=>m.l.length -(intOf v).toNat)
   case atStart=>exact⟨0,rfl,by simp[QaF],aA _,c0⟩
   obtain⟨j,rfl,rfl,hj,HX⟩:=hrel;by_cases a5:j<m.l.length
   ·have l1:(j:Int)<(m.l.length:Int):=oM
    have c9:decide ((j:Int)<(m.l.length:Int))=true:=em l1;have l0:(0:Int)<=(j:Int):=oM
    obtain⟨x,hx⟩:∃x,m.l[j]? = some x:=⟨_,ac a5⟩;obtain⟨b,o,y,c3,N,c7,d0,a6,a2⟩:=HM.o.at hx;have N:b<w:=N;have c4:b<wr:=ab N HX.o.size;have b0:=hY (a6.agree (HX.o.agree λ_ h=>h) N);have b9:Qa0 x<=QaF m.l:=by
     have h1:=Qde hx;have h2:=QeZ m.l (j+1);omega
    have a1:1+QaF m.l<=1100000:=by rw[<-a9.o];exact HS.o
    have I:=λW (hW:Ext wr W)=>HI.o x y W (by have:=Mu.Qsr hx;have:=HN.o;omega) ((a2.agree ((HX.o.trans hW).agree λ_ h=>h)).mono λb hb=>ab hb (HX.o.trans hW).size) oM
    obtain⟨a0,b7⟩:=Yb I (Qde hx);have Z:=QeZ m.l (j+1);have b4:wrap64 (1+(QaF (m.l.take j):Int)+(Qa0 x:Int))=((1+QaF (m.l.take (j+1)):Nat):Int):=by
     unfold wrap64;rw[b7.o]at Z ⊢;omega
    have c1:=hY b4;clear a2 a6 b9 a1 I Z b4 hx;rw[c3];go_wp2_with(first |(refine Qah rfl (.tmp 11) rfl b (o+j*19) rfl x y b0.o ?_) |(refine QiR rfl (.tmp 5) (.tmp 12) rfl x y (w0:=wr) (b:=wr) rfl ((fI wr).alloc _ _) (fK wr _ _) rfl rfl rfl ?_;intro w5 b5 a4;have a7:=hY b5;have c2:=hY (fT a4);clear b5 a4) |(refine Qah rfl (.tmp 5) rfl wr.heap.size 0 rfl x y c2.o ?_));refine(a0.o _ a7.o).mono ?_;rintro e w2 ⟨rfl,a3⟩;have b8:=hY ((HX.o.trans a7.o).trans a3);clear a3;go_wp2_with fail;go_roundw
    case rel=>exact⟨j+1,by go_num,by rw[c1.o],a5,b8⟩
    simp[intOf];omega
   obtain rfl:j=m.l.length:=oM
   have l1:decide ((m.l.length:Int)<(m.l.length:Int))=false:=ej oM;have HT:=hY (show((1+QaF (m.l.take m.l.length):Nat):Int)=(Qa0 m:Int)by rw[aU,a9.o]);go_wp2_with fail;go_ret;exact⟨by rw[HT.o]<;>rfl,HX.o⟩
theorem Qqu{m:Mu}(h:RMu w (Lt w) m c)(hs:Qa0 m<=1100000):Calls prog 160 #[Qaz m c] w λe w'=>e=.returned (.int .i64 (Qa0 m:Int))/\Ext w w':=Qqv _ m c w (ao _) h hs
def QaG(m:Mu):Bool:=m.k.size==0&&m.tk.size==0&&m.i==0 && !m.had&&Qd9 m.was && !m.has&&Qd9 m.v&&m.l.length==0
theorem QaO(w:World)(m:Mu)(c:MuS):Calls prog 205 #[Qaz m c] w λe w'=>e=.returned (.bool (QaG m))/\Ext w w':=by
 obtain⟨r,hr⟩:∃r,QaG m=r:=⟨_,rfl⟩;rw[hr];unfold QaG at hr;by_cases h0:m.k.size=0
 rotate_left
 ·have g0:=Qbr h0
  have HR:=hY (show false=r by rw[<-hr];simp[h0]);clear hr h0;go_in;go_upto_region 1 with fail;generalize a8:World.alloc _ _=W0;obtain⟨Z,N,-⟩:=QaB (m:=m) (c:=c) a8;obtain⟨b0,b5⟩:=Yb Z N;obtain⟨c0,c1,c2,c3,c4,c5,c6,c7,c8,c9,a9,a1,a4,a6,a2,a3,a7,a5,a0⟩:=N.c19;simp only[Nat.zero_add]at c0 c1 c2 c3 c4 c5 c6 c7 c8 c9 a9 a1 a4 a6 a2 a3 a7 a5 a0;have l0:=N.lt;clear a8 Z N;go_wp2_with fail;go_ret;exact⟨by rw[<-HR.o]<;>rfl,b0.o⟩
 have g0:=Qa9 h0;by_cases h1:m.tk.size=0
 rotate_left
 ·have g1:=Qbr h1
  have HR:=hY (show false=r by rw[<-hr];simp[h0,h1]);clear hr h0 h1;go_in;go_upto_region 1 with fail;generalize a8:World.alloc _ _=W0;obtain⟨Z,N,-⟩:=QaB (m:=m) (c:=c) a8;obtain⟨b0,b5⟩:=Yb Z N;obtain⟨c0,c1,c2,c3,c4,c5,c6,c7,c8,c9,a9,a1,a4,a6,a2,a3,a7,a5,a0⟩:=N.c19;simp only[Nat.zero_add]at c0 c1 c2 c3 c4 c5 c6 c7 c8 c9 a9 a1 a4 a6 a2 a3 a7 a5 a0;have l0:=N.lt;clear a8 Z N;go_wp2_with fail;go_ret;exact⟨by rw[<-HR.o]<;>rfl,b0.o⟩
 have g1:=Qa9 h1;by_cases h2:m.i=0
 rotate_left
 ·have g2:(m.i == 0)=false:=ev.2 h2
  have HR:=hY (show false=r by rw[<-hr];simp[h0,h1,h2]);clear hr h0 h1 h2;go_in;go_upto_region 1 with fail;generalize a8:World.alloc _ _=W0;obtain⟨Z,N,-⟩:=QaB (m:=m) (c:=c) a8;obtain⟨b0,b5⟩:=Yb Z N;obtain⟨c0,c1,c2,c3,c4,c5,c6,c7,c8,c9,a9,a1,a4,a6,a2,a3,a7,a5,a0⟩:=N.c19;simp only[Nat.zero_add]at c0 c1 c2 c3 c4 c5 c6 c7 c8 c9 a9 a1 a4 a6 a2 a3 a7 a5 a0;have l0:=N.lt;clear a8 Z N;go_wp2_with fail;go_ret;exact⟨by rw[<-HR.o]<;>rfl,b0.o⟩
 have g2:(m.i==0)=true:=by simp[h2]
 by_cases h3:m.had=false
 rotate_left
 ·have g3:m.had=true:=by simpa using h3
  have HR:=hY (show false=r by rw[<-hr];simp[h0,h1,h2,h3]);clear hr h0 h1 h2 h3;go_in;go_upto_region 1 with fail;generalize a8:World.alloc _ _=W0;obtain⟨Z,N,-⟩:=QaB (m:=m) (c:=c) a8;obtain⟨b0,b5⟩:=Yb Z N;obtain⟨c0,c1,c2,c3,c4,c5,c6,c7,c8,c9,a9,a1,a4,a6,a2,a3,a7,a5,a0⟩:=N.c19;simp only[Nat.zero_add]at c0 c1 c2 c3 c4 c5 c6 c7 c8 c9 a9 a1 a4 a6 a2 a3 a7 a5 a0;have l0:=N.lt;clear a8 Z N;go_wp2_with fail;go_ret;exact⟨by rw[<-HR.o]<;>rfl,b0.o⟩
 have g3:m.had=false:=h3;by_cases h4:Qd9 m.was=true
 rotate_left
 ·have g4:Qd9 m.was=false:=by simpa using h4
  have HR:=hY (show false=r by rw[<-hr];simp[h0,h1,h2,h3,h4]);clear hr h0 h1 h2 h3 h4;go_in;go_upto_region 1 with fail;generalize a8:World.alloc _ _=W0;obtain⟨Z,N,-⟩:=QaB (m:=m) (c:=c) a8;obtain⟨b0,b5⟩:=Yb Z N;obtain⟨c0,c1,c2,c3,c4,c5,c6,c7,c8,c9,a9,a1,a4,a6,a2,a3,a7,a5,a0⟩:=N.c19;simp only[Nat.zero_add]at c0 c1 c2 c3 c4 c5 c6 c7 c8 c9 a9 a1 a4 a6 a2 a3 a7 a5 a0;have l0:=N.lt;clear a8 Z N;go_wp2_with fail;refine(QaE _ m.was c.w1 c.w2).mono ?_;rintro e W1 ⟨rfl,I⟩;have b4:=hY (b0.o.trans I);clear I c0 c1 c2 c3 c4 c5 c6 c7 c8 c9 a9 a1 a4 a6 a2 a3 a7 a5 a0;rw[g4];go_wp2_with fail;go_ret;exact⟨by rw[<-HR.o]<;>rfl,b4.o⟩
 have g4:Qd9 m.was=true:=h4;by_cases h5:m.has=false
 rotate_left
 ·have g5:m.has=true:=by simpa using h5
  have HR:=hY (show false=r by rw[<-hr];simp[h0,h1,h2,h3,h4,h5]);clear hr h0 h1 h2 h3 h4 h5;go_in;go_upto_region 1 with fail;generalize a8:World.alloc _ _=W0;obtain⟨Z,N,-⟩:=QaB (m:=m) (c:=c) a8;obtain⟨b0,b5⟩:=Yb Z N;obtain⟨c0,c1,c2,c3,c4,c5,c6,c7,c8,c9,a9,a1,a4,a6,a2,a3,a7,a5,a0⟩:=N.c19;simp only[Nat.zero_add]at c0 c1 c2 c3 c4 c5 c6 c7 c8 c9 a9 a1 a4 a6 a2 a3 a7 a5 a0;have l0:=N.lt;clear a8 Z N;go_wp2_with fail;refine(QaE _ m.was c.w1 c.w2).mono ?_;rintro e W1 ⟨rfl,I⟩;have d5:=(I.cell l0).trans a1;have d4:=(I.cell l0).trans a4;have d6:=(I.cell l0).trans a6;have b8:=(I.cell l0).trans a2;have d0:=(I.cell l0).trans a3;have b9:=(I.cell l0).trans a7;have d3:=(I.cell l0).trans a5;have b6:=(I.cell l0).trans a0;have l1:=ab l0 I.size;have b4:=hY (b0.o.trans I);clear I c0 c1 c2 c3 c4 c5 c6 c7 c8 c9 a9 a1 a4 a6 a2 a3 a7 a5 a0;rw[g4];go_wp2_with fail;go_ret;exact⟨by rw[<-HR.o]<;>rfl,b4.o⟩
 have g5:m.has=false:=h5;by_cases h6:Qd9 m.v=true
 rotate_left
 ·have g6:Qd9 m.v=false:=by simpa using h6
  have HR:=hY (show false=r by rw[<-hr];simp[h0,h1,h2,h3,h4,h5,h6]);clear hr h0 h1 h2 h3 h4 h5 h6;go_in;go_upto_region 1 with fail;generalize a8:World.alloc _ _=W0;obtain⟨Z,N,-⟩:=QaB (m:=m) (c:=c) a8;obtain⟨b0,b5⟩:=Yb Z N;obtain⟨c0,c1,c2,c3,c4,c5,c6,c7,c8,c9,a9,a1,a4,a6,a2,a3,a7,a5,a0⟩:=N.c19;simp only[Nat.zero_add]at c0 c1 c2 c3 c4 c5 c6 c7 c8 c9 a9 a1 a4 a6 a2 a3 a7 a5 a0;have l0:=N.lt;clear a8 Z N;go_wp2_with fail;refine(QaE _ m.was c.w1 c.w2).mono ?_;rintro e W1 ⟨rfl,I⟩;have d5:=(I.cell l0).trans a1;have d4:=(I.cell l0).trans a4;have d6:=(I.cell l0).trans a6;have b8:=(I.cell l0).trans a2;have d0:=(I.cell l0).trans a3;have b9:=(I.cell l0).trans a7;have d3:=(I.cell l0).trans a5;have b6:=(I.cell l0).trans a0;have l1:=ab l0 I.size;have b4:=hY (b0.o.trans I);clear I c0 c1 c2 c3 c4 c5 c6 c7 c8 c9 a9 a1 a4 a6 a2 a3 a7 a5 a0;rw[g4];go_wp2_with fail;refine(QaE _ m.v c.v1 c.v2).mono ?_;rintro e W2 ⟨rfl,b3⟩;have b7:=hY (b4.o.trans b3);clear b3;rw[g6];go_wp2_with fail;go_ret;exact⟨by rw[<-HR.o]<;>rfl,b7.o⟩
 have g6:Qd9 m.v=true:=h6;by_cases h7:m.l.length=0
 rotate_left
 ·have g7:((m.l.length:Int) == 0)=false:=ev.2 oM
  have HR:=hY (show false=r by rw[<-hr];simp[h0,h1,h2,h3,h4,h5,h6,h7]);clear hr h0 h1 h2 h3 h4 h5 h6 h7;go_in;go_upto_region 1 with fail;generalize a8:World.alloc _ _=W0;obtain⟨Z,N,-⟩:=QaB (m:=m) (c:=c) a8;obtain⟨b0,b5⟩:=Yb Z N;obtain⟨c0,c1,c2,c3,c4,c5,c6,c7,c8,c9,a9,a1,a4,a6,a2,a3,a7,a5,a0⟩:=N.c19;simp only[Nat.zero_add]at c0 c1 c2 c3 c4 c5 c6 c7 c8 c9 a9 a1 a4 a6 a2 a3 a7 a5 a0;have l0:=N.lt;clear a8 Z N;go_wp2_with fail;refine(QaE _ m.was c.w1 c.w2).mono ?_;rintro e W1 ⟨rfl,I⟩;have d5:=(I.cell l0).trans a1;have d4:=(I.cell l0).trans a4;have d6:=(I.cell l0).trans a6;have b8:=(I.cell l0).trans a2;have d0:=(I.cell l0).trans a3;have b9:=(I.cell l0).trans a7;have d3:=(I.cell l0).trans a5;have b6:=(I.cell l0).trans a0;have l1:=ab l0 I.size;have b4:=hY (b0.o.trans I);clear I c0 c1 c2 c3 c4 c5 c6 c7 c8 c9 a9 a1 a4 a6 a2 a3 a7 a5 a0;rw[g4];go_wp2_with fail;refine(QaE _ m.v c.v1 c.v2).mono ?_;rintro e W2 ⟨rfl,b3⟩;have d7:W2.cell? ⟨w,18,none⟩=some (.slice c.s.a m.l.length c.s.c):=(b3.cell l1).trans b6;have l2:=ab l1 b3.size;have b7:=hY (b4.o.trans b3);clear b3;rw[g6];go_wp2_with fail;go_ret;exact⟨by rw[<-HR.o]<;>rfl,b7.o⟩
 have g7:((m.l.length:Int)==0)=true:=by rw[h7];rfl
 have HR:=hY (show true=r by rw[<-hr];simp[h0,h1,h2,h3,h4,h5,h6,h7]);clear hr h0 h1 h2 h3 h4 h5 h6 h7;go_in;go_upto_region 1 with fail;generalize a8:World.alloc _ _=W0;obtain⟨Z,N,-⟩:=QaB (m:=m) (c:=c) a8;obtain⟨b0,b5⟩:=Yb Z N;obtain⟨c0,c1,c2,c3,c4,c5,c6,c7,c8,c9,a9,a1,a4,a6,a2,a3,a7,a5,a0⟩:=N.c19;simp only[Nat.zero_add]at c0 c1 c2 c3 c4 c5 c6 c7 c8 c9 a9 a1 a4 a6 a2 a3 a7 a5 a0;have l0:=N.lt;clear a8 Z N;go_wp2_with fail;refine(QaE _ m.was c.w1 c.w2).mono ?_;rintro e W1 ⟨rfl,I⟩;have d5:=(I.cell l0).trans a1;have d4:=(I.cell l0).trans a4;have d6:=(I.cell l0).trans a6;have b8:=(I.cell l0).trans a2;have d0:=(I.cell l0).trans a3;have b9:=(I.cell l0).trans a7;have d3:=(I.cell l0).trans a5;have b6:=(I.cell l0).trans a0;have l1:=ab l0 I.size;have b4:=hY (b0.o.trans I);clear I c0 c1 c2 c3 c4 c5 c6 c7 c8 c9 a9 a1 a4 a6 a2 a3 a7 a5 a0;rw[g4];go_wp2_with fail;refine(QaE _ m.v c.v1 c.v2).mono ?_;rintro e W2 ⟨rfl,b3⟩;have d7:W2.cell? ⟨w,18,none⟩=some (.slice c.s.a m.l.length c.s.c):=(b3.cell l1).trans b6;have l2:=ab l1 b3.size;have b7:=hY (b4.o.trans b3);clear b3;rw[g6];go_wp2_with fail;go_ret;exact⟨by rw[<-HR.o]<;>rfl,b7.o⟩
def Qai(m:Mu):Bool:=QbJ m.kd m.k m.tk m.i m.had m.was m.has m.v m.l.length
theorem QaX:Qd9 zeroV=true:=rfl
theorem MuC.kind{b:Nat}{m:Mu}(h:MuC w b 0 m c):w.cell? ⟨b,0,none⟩=some (.int .i64 m.kd):=h 0 _ rfl
theorem MuC.c11{b:Nat}{m:Mu}(h:MuC w b 0 m c):w.cell? ⟨b,11,none⟩=some (.bool m.has):=h 11 _ rfl
theorem MuC.c4{b:Nat}{m:Mu}(h:MuC w b 0 m c):w.cell? ⟨b,4,none⟩=some (.bool m.had):=h 4 _ rfl
theorem MuC.Qop{b:Nat}{m:Mu}(h:MuC w b 0 m c):w.cell? ⟨b,5,none⟩=some (.int .i64 m.was.kind)/\w.cell? ⟨b,6,none⟩=some (.bool m.was.b)/\w.cell? ⟨b,7,none⟩=some (.int .i64 m.was.i)/\w.cell? ⟨b,8,none⟩=some (.string m.was.t)/\w.cell? ⟨b,9,none⟩=some (.slice c.w1.a m.was.l.length c.w1.c)/\w.cell? ⟨b,10,none⟩=some (.slice c.w2.a m.was.ok.length c.w2.c):=⟨h 5 _ rfl,h 6 _ rfl,h 7 _ rfl,h 8 _ rfl,h 9 _ rfl,h 10 _ rfl⟩
theorem MuC.v6{b:Nat}{m:Mu}(h:MuC w b 0 m c):w.cell? ⟨b,12,none⟩=some (.int .i64 m.v.kind)/\w.cell? ⟨b,13,none⟩=some (.bool m.v.b)/\w.cell? ⟨b,14,none⟩=some (.int .i64 m.v.i)/\w.cell? ⟨b,15,none⟩=some (.string m.v.t)/\w.cell? ⟨b,16,none⟩=some (.slice c.v1.a m.v.l.length c.v1.c)/\w.cell? ⟨b,17,none⟩=some (.slice c.v2.a m.v.ok.length c.v2.c):=⟨h 12 _ rfl,h 13 _ rfl,h 14 _ rfl,h 15 _ rfl,h 16 _ rfl,h 17 _ rfl⟩
section
variable(m : Mu)(c : MuS)
def Mu.z_k:Mu:=.mk m.kd ByteArray.empty m.tk m.i m.had m.was m.has m.v m.l
def Mu.Qv1:Mu:=.mk m.kd m.k ByteArray.empty m.i m.had m.was m.has m.v m.l
def Mu.z_i:Mu:=.mk m.kd m.k m.tk 0 m.had m.was m.has m.v m.l
def Mu.QvZ:Mu:=.mk m.kd m.k m.tk m.i false m.was m.has m.v m.l
def Mu.QvX:Mu:=.mk m.kd m.k m.tk m.i m.had zeroV m.has m.v m.l
def Mu.Qv0:Mu:=.mk m.kd m.k m.tk m.i m.had m.was false m.v m.l
def Mu.z_v:Mu:=.mk m.kd m.k m.tk m.i m.had m.was m.has zeroV m.l
def Mu.z_l:Mu:=.mk m.kd m.k m.tk m.i m.had m.was m.has m.v []
def MuS.QvX:MuS:=⟨Sl.none,Sl.none,c.v1,c.v2,c.s⟩
def MuS.z_v:MuS:=⟨c.w1,c.w2,Sl.none,Sl.none,c.s⟩
def MuS.z_l:MuS:=⟨c.w1,c.w2,c.v1,c.v2,Sl.none⟩
end
abbrev zV6:List Value:=[.int .i64 0,.bool false,.int .i64 0,.string ⟨#[]⟩,.slice none 0 0,.slice none 0 0]
variable{ops:Array Oper}{a:Act}{Q:Exit->Act->World->Prop}{w0:World}
theorem QvY{rest:List Oper}{T T':TypeId}{x y:Operand}{ps:String}{af:Array Edge} 
 {b:Nat} (hb:w0.heap.size≤b) {m:Mu} (hw:Yd (Ext w0 w)) (hz:Yd (Blk w b 37 (Qa2 m c))) (o:Nat) (vs:List Value) (m':Mu) (c':MuS) (h:∀ w',Yd (Ext w0 w')→Yd (Blk w' b 37 (Qa2 m' c'))→wpList prog ops Q rest a w')
  (N:(a.eval y).cells=vs.toArray:=by rfl) (hi:(prog.info? T).map (·.size)=some vs.length:=by kernel_rfl) (h1:vs.all (·.oneCell')=true:=by rfl) (hl:o+vs.length<=19:=by decide) (hx:a.eval x=.pointer (some ⟨b,o,none⟩):=by rfl) (he:QuS (Qan m c) o vs=Qan m' c':=by rfl) :
  wpList prog ops Q (⟨none,.store T x y,T',ps,af,none⟩::rest) a w:=
 Qam vs N hi h1 hb hw.out hz.out o hl hx m' c' he λw' Z I=>h w' (hY Z) (hY I)
theorem Qv2{m:Mu}(hk:m.kd=1)(hw:m.had=false->Qd9 m.was=true):(!Qai m)=(!QaG m.z_k.z_v):=by
 obtain⟨a0,k',a1,i',I,Z,N,v',l'⟩:=m;simp only[Mu.kd,Mu.had,Mu.was]at hk hw;cases I<;>simp_all [Qai,QbJ,QaG,Mu.z_k,Mu.Qv1,Mu.z_i,Mu.QvZ,Mu.QvX,Mu.Qv0,Mu.z_v,Mu.z_l,QaX,Mu.kd,Mu.k,Mu.tk,Mu.i,Mu.had,Mu.was,Mu.has,Mu.v,Mu.l]
theorem Qv3{m:Mu}(hk:m.kd=2)(hw:m.had=false->Qd9 m.was=true):(!Qai m)=(!QaG m.z_k):=by
 obtain⟨a0,k',a1,i',I,Z,N,v',l'⟩:=m;simp only[Mu.kd,Mu.had,Mu.was]at hk hw;cases I<;>simp_all [Qai,QbJ,QaG,Mu.z_k,Mu.Qv1,Mu.z_i,Mu.QvZ,Mu.QvX,Mu.Qv0,Mu.z_v,Mu.z_l,QaX,Mu.kd,Mu.k,Mu.tk,Mu.i,Mu.had,Mu.was,Mu.has,Mu.v,Mu.l]
theorem Qv4{m:Mu}(hk:m.kd=3)(hw:m.had=false->Qd9 m.was=true):(!Qai m)=(!QaG m.z_k.z_i):=by
 obtain⟨a0,k',a1,i',I,Z,N,v',l'⟩:=m;simp only[Mu.kd,Mu.had,Mu.was]at hk hw;cases I<;>simp_all [Qai,QbJ,QaG,Mu.z_k,Mu.Qv1,Mu.z_i,Mu.QvZ,Mu.QvX,Mu.Qv0,Mu.z_v,Mu.z_l,QaX,Mu.kd,Mu.k,Mu.tk,Mu.i,Mu.had,Mu.was,Mu.has,Mu.v,Mu.l]
theorem Qv5{m:Mu}(hk:m.kd=4)(hw:m.had=false->Qd9 m.was=true)(hs:m.has=false->Qd9 m.v=true):(!Qai m)=(!QaG m.z_k.QvZ.QvX.Qv0.z_v):=by
 obtain⟨a0,k',a1,i',I,Z,N,v',l'⟩:=m;simp only[Mu.kd,Mu.had,Mu.was,Mu.has,Mu.v]at hk hw hs;cases I<;>cases N<;>simp_all [Qai,QbJ,QaG,Mu.z_k,Mu.Qv1,Mu.z_i,Mu.QvZ,Mu.QvX,Mu.Qv0,Mu.z_v,Mu.z_l,QaX,Mu.kd,Mu.k,Mu.tk,Mu.i,Mu.had,Mu.was,Mu.has,Mu.v,Mu.l]
theorem Qv6{m:Mu}(hk:m.kd=5)(hw:m.had=false->Qd9 m.was=true):(!Qai m)=(!QaG m.z_k.z_v):=by
 obtain⟨a0,k',a1,i',I,Z,N,v',l'⟩:=m;simp only[Mu.kd,Mu.had,Mu.was]at hk hw;cases I<;>simp_all [Qai,QbJ,QaG,Mu.z_k,Mu.Qv1,Mu.z_i,Mu.QvZ,Mu.QvX,Mu.Qv0,Mu.z_v,Mu.z_l,QaX,Mu.kd,Mu.k,Mu.tk,Mu.i,Mu.had,Mu.was,Mu.has,Mu.v,Mu.l]
theorem Qv7{m:Mu}(hk:m.kd=6)(hw:m.had=false->Qd9 m.was=true):(!Qai m)=(!QaG m.z_k.Qv1):=by
 obtain⟨a0,k',a1,i',I,Z,N,v',l'⟩:=m;simp only[Mu.kd,Mu.had,Mu.was]at hk hw;cases I<;>simp_all [Qai,QbJ,QaG,Mu.z_k,Mu.Qv1,Mu.z_i,Mu.QvZ,Mu.QvX,Mu.Qv0,Mu.z_v,Mu.z_l,QaX,Mu.kd,Mu.k,Mu.tk,Mu.i,Mu.had,Mu.was,Mu.has,Mu.v,Mu.l]
theorem Qv8{m:Mu}(hk:m.kd=7)(hw:m.had=false->Qd9 m.was=true):(!Qai m)=(!QaG m.z_k.QvZ.QvX.z_l):=by
 obtain⟨a0,k',a1,i',I,Z,N,v',l'⟩:=m;simp only[Mu.kd,Mu.had,Mu.was]at hk hw;cases I<;>simp_all [Qai,QbJ,QaG,Mu.z_k,Mu.Qv1,Mu.z_i,Mu.QvZ,Mu.QvX,Mu.Qv0,Mu.z_v,Mu.z_l,QaX,Mu.kd,Mu.k,Mu.tk,Mu.i,Mu.had,Mu.was,Mu.has,Mu.v,Mu.l]
theorem QlH(w:World)(m:Mu)(c:MuS)(hh:m.had=false)(hz:Qd9 m.was=false):Calls prog 190 #[Qaz m c] w λe w'=>e=.returned (.bool (!Qai m))/\Ext w w':=by
 have hr:(!Qai m)=true:=by simp[Qai,QbJ,hh,hz]
 rw[hr];obtain⟨HZ,HH⟩:=Yb hz hh;clear hr hz hh;go_in;go_upto_region 1 with fail;generalize N:World.alloc _ _=W0;obtain⟨Z,I,a3⟩:=QaB (m:=m) (c:=c) N;obtain⟨a2,a1⟩:=Yb Z I;have c4:=I.c4;rw[HH.o]at c4;clear N Z I a3;obtain⟨c5,c6,c7,c8,c9,a5⟩:=a1.o.Qop;go_wp2_with fail;refine(QaE _ m.was c.w1 c.w2).mono ?_;rintro e W1 ⟨rfl,a0⟩;have a4:=hY (a2.o.trans a0);clear a0;rw[HZ.o];go_wp2_with fail;go_ret;exact⟨rfl,a4.o⟩
theorem QlG(w:World)(m:Mu)(c:MuS):Calls prog 190 #[Qaz m c] w λe w'=>e=.returned (.bool (!Qai m))/\Ext w w':=by
 by_cases hx:m.had=false/\Qd9 m.was=false
 .exact QlH w m c hx.1 hx.2
 have a2:=hY (show m.had=false->Qd9 m.was=true fromλh=>by simpa[h]using hx);clear hx;go_in;go_upto_region 1 with fail;generalize b9:World.alloc _ _=W0;obtain⟨b7,b5,c0⟩:=QaB (m:=m) (c:=c) b9;obtain⟨c1,a7⟩:=Yb b7 b5;clear b9 b7 b5 c0;go_cut [12] (λv wc=>v=.bool false/\Ext W0 wc)
 case first=>
  have c4:=a7.o.c4;rcases bv m.had with hh|hh
  ·rw [hh] at c4
   clear hh;go_wp2_with fail;go_meet;exact⟨rfl,fI _⟩
  have HZ:=hY (a2.o hh);rw[hh]at c4;obtain⟨c5,c6,c7,c8,c9,f0⟩:=a7.o.Qop;clear hh;go_wp2_with fail;refine(QaE _ m.was c.w1 c.w2).mono ?_;rintro e W1 ⟨rfl,a4⟩;rw[HZ.o];go_wp2_with fail;go_meet;exact⟨rfl,a4⟩
 case rest=>
 obtain⟨rfl,a4⟩:=hcut
 rename World=>W1
 obtain⟨b6,b8⟩:=Yb (c1.o.trans a4) (a7.o.ext a4);clear a4;go_upto_region 4 with(first |(refine Qah rfl (.tmp 1) rfl w.heap.size 0 rfl m c b8.o ?_) |(refine QaR rfl rfl rfl m c (w0:=W1) (b:=W1) rfl ((fI W1).alloc _ _) (fK W1 _ _) rfl rfl rfl ?_;intro w5 b3 b4;have X5:=hY (b6.o.trans b3);have a3:=hY (MuC.ext b8.o b3);have B5:=hY b4;clear b3 b4));have d0:=a3.o.kind;have hg:w.heap.size<=W1.heap.size:=b6.o.size;obtain⟨q,hq⟩:∃q,m.kd=q:=⟨_,rfl⟩;rw[hq]at d0;by_cases hn:¬(1<=q/\q<=7)
 ·have HR:=hY (show (!Qai m)=true by simp [Qai,QbJ,hq,hn])
  have e (j:Int) (h:1<=j/\j<=7):(q==j)=false:=ev.2 λe=>hn (e▸h)
  have e1:=e 1 oN;have e2:=e 2 oN;have e3:=e 3 oN;have e4:=e 4 oN;have e5:=e 5 oN;have e6:=e 6 oN;have e7:=e 7 oN;clear e hq hn;go_wp2_with fail;go_ret;exact⟨by rw[HR.o]<;>rfl,X5.out⟩
 have e0:q=1\/q=2\/q=3\/q=4\/q=5\/q=6\/q=7:=oM
 have HQ:=hY hq;clear hn hq;rcases e0 with rfl|rfl|rfl|rfl|rfl|rfl|rfl
 ·go_wp2_with (first | (refine QvY hg X5 B5 1 [.string ⟨#[]⟩] m.z_k c ?_;intro v0 a0 Z) | (refine QvY hg a0 Z 12 zV6 m.z_k.z_v c.z_v ?_;intro v1 GX GB) | (refine Qah rfl (.tmp 3) rfl W1.heap.size 0 rfl _ _ (fT GB.out) ?_))
  refine(QaO _ _ _).mono ?_;rintro e W7 ⟨rfl,N⟩;have I:=hY (GX.out.trans N);go_wp2_with fail;go_ret;exact⟨by rw[Qv2 HQ.o a2.o]<;>rfl,I.o⟩
 ·go_wp2_with (first | (refine QvY hg X5 B5 1 [.string ⟨#[]⟩] m.z_k c ?_;intro v0 GX GB) | (refine Qah rfl (.tmp 3) rfl W1.heap.size 0 rfl _ _ (fT GB.out) ?_))
  refine(QaO _ _ _).mono ?_;rintro e W7 ⟨rfl,N⟩;have I:=hY (GX.out.trans N);go_wp2_with fail;go_ret;exact⟨by rw[Qv3 HQ.o a2.o]<;>rfl,I.o⟩
 ·go_wp2_with (first | (refine QvY hg X5 B5 1 [.string ⟨#[]⟩] m.z_k c ?_;intro v0 a0 Z) | (refine QvY hg a0 Z 3 [.int .i64 0] m.z_k.z_i c ?_;intro v1 GX GB) | (refine Qah rfl (.tmp 3) rfl W1.heap.size 0 rfl _ _ (fT GB.out) ?_))
  refine(QaO _ _ _).mono ?_;rintro e W7 ⟨rfl,N⟩;have I:=hY (GX.out.trans N);go_wp2_with fail;go_ret;exact⟨by rw[Qv4 HQ.o a2.o]<;>rfl,I.o⟩
 ·by_cases hy:m.has=false∧Qd9 m.v=false
  ·have HR:=hY (show (!Qai m)=true by simp [Qai,QbJ,HQ.o,hy.1,hy.2])
   have HV:=hY hy.2;have a5:=a3.o.c11;rw[hy.1]at a5;obtain⟨d7,c3,c2,d4,d3,d5⟩:=a3.o.v6;clear hy;go_wp2_with fail;refine(QaE _ m.v c.v1 c.v2).mono ?_;rintro e W6 ⟨rfl,a1⟩;have d8:=hY (X5.out.trans a1);rw[HV.o];clear a1;go_wp2_with fail;go_ret;exact⟨by rw[HR.o]<;>rfl,d8.o⟩
  have HS:=hY (show m.has=false->Qd9 m.v=true fromλh=>by simpa[h]using hy);clear hy;go_upto_region 14 with fail;go_cut [39] (λv wd=>v=.bool false/\Ext w5 wd)
  case first=>
   have a5:=a3.o.c11;rcases bv m.has with hs|hs
   ·rw [hs] at a5
    clear hs;go_wp2_with fail;go_meet;exact⟨rfl,fI _⟩
   have HV:=hY (HS.o hs);rw[hs]at a5;obtain⟨d7,c3,c2,d4,d3,d5⟩:=a3.o.v6;clear hs;go_wp2_with fail;refine(QaE _ m.v c.v1 c.v2).mono ?_;rintro e W6 ⟨rfl,a1⟩;rw[HV.o];go_wp2_with fail;go_meet;exact⟨rfl,a1⟩
  case rest=>
  obtain⟨rfl,a1⟩:=hcut;obtain⟨X6,B6⟩:=Yb (X5.out.trans a1) (B5.out.ext a1);clear a1 d0;go_wp2_with(first |(refine QvY hg X6 B6 1 [.string ⟨#[]⟩] m.z_k c ?_;intro v0 a0 Z) |(refine QvY hg a0 Z 4 [.bool false] m.z_k.QvZ c ?_;intro v1 a9 a8) |(refine QvY hg a9 a8 5 zV6 m.z_k.QvZ.QvX c.QvX ?_;intro v2 b0 a6) |(refine QvY hg b0 a6 11 [.bool false] m.z_k.QvZ.QvX.Qv0 c.QvX ?_;intro v3 e8 d6) |(refine QvY hg e8 d6 12 zV6 m.z_k.QvZ.QvX.Qv0.z_v c.QvX.z_v ?_;intro v4 GX GB) |(refine Qah rfl (.tmp 3) rfl W1.heap.size 0 rfl _ _ (fT GB.out) ?_));refine(QaO _ _ _).mono ?_;rintro e W7 ⟨rfl,N⟩;have I:=hY (GX.out.trans N);go_wp2_with fail;go_ret;exact⟨by rw[Qv5 HQ.o a2.o HS.o]<;>rfl,I.o⟩
 ·go_wp2_with (first | (refine QvY hg X5 B5 1 [.string ⟨#[]⟩] m.z_k c ?_;intro v0 a0 Z) | (refine QvY hg a0 Z 12 zV6 m.z_k.z_v c.z_v ?_;intro v1 GX GB) | (refine Qah rfl (.tmp 3) rfl W1.heap.size 0 rfl _ _ (fT GB.out) ?_))
  refine(QaO _ _ _).mono ?_;rintro e W7 ⟨rfl,N⟩;have I:=hY (GX.out.trans N);go_wp2_with fail;go_ret;exact⟨by rw[Qv6 HQ.o a2.o]<;>rfl,I.o⟩
 ·go_wp2_with (first | (refine QvY hg X5 B5 1 [.string ⟨#[]⟩] m.z_k c ?_;intro v0 a0 Z) | (refine QvY hg a0 Z 2 [.string ⟨#[]⟩] m.z_k.Qv1 c ?_;intro v1 GX GB) | (refine Qah rfl (.tmp 3) rfl W1.heap.size 0 rfl _ _ (fT GB.out) ?_))
  refine(QaO _ _ _).mono ?_;rintro e W7 ⟨rfl,N⟩;have I:=hY (GX.out.trans N);go_wp2_with fail;go_ret;exact⟨by rw[Qv7 HQ.o a2.o]<;>rfl,I.o⟩
 go_wp2_with(first |(refine QvY hg X5 B5 1 [.string ⟨#[]⟩] m.z_k c ?_;intro v0 a0 Z) |(refine QvY hg a0 Z 4 [.bool false] m.z_k.QvZ c ?_;intro v1 a9 a8) |(refine QvY hg a9 a8 5 zV6 m.z_k.QvZ.QvX c.QvX ?_;intro v2 b0 a6) |(refine QvY hg b0 a6 18 [.slice none 0 0] m.z_k.QvZ.QvX.z_l c.QvX.z_l ?_;intro v3 GX GB) |(refine Qah rfl (.tmp 3) rfl W1.heap.size 0 rfl _ _ (fT GB.out) ?_));refine(QaO _ _ _).mono ?_;rintro e W7 ⟨rfl,N⟩;have I:=hY (GX.out.trans N);go_wp2_with fail;go_ret;exact⟨by rw[Qv8 HQ.o a2.o]<;>rfl,I.o⟩
theorem QqK{k:ByteArray}(hk:k.size<=maxLen)(N:Qi4 w):Calls prog 226 #[.string k] w λe w'=>e=.returned (.bool (Lib.validD k.data.toList))/\Nw w w':=by
 have Z:=N.val w (G5.refl w) k hk;have HV:=hY Z;clear Z N;go_in;go_wp2_with fail;refine HV.o.mono ?_;rintro e w' ⟨rfl,I⟩;have HN:=hY I;clear I;go_wp2_with fail;go_ret;exact⟨rfl,HN.o⟩
theorem QeA(p:ByteArray)(N:Qi4 w):Calls prog 206 #[.string p] w λe w'=>e=.returned (.bool (Qol p))/\Nw w w':=by
 by_cases h:p.size<=64
 ·have I:Qol p=Lib.validD p.data.toList:=by unfold Qol;rw [em h];rfl
  obtain⟨HB,HV⟩:=Yb I (QqK (w:=w) (k:=p) (an h oN) N);have g:((p.size:Int)<=64):=oM
  clear I N h;go_in;go_wp2_with fail;refine HV.o.mono ?_;rintro e w' ⟨rfl,Z⟩;have HN:=hY Z;clear Z;go_wp2_with fail;go_ret;exact⟨by rw[HB.o]<;>rfl,HN.o⟩
 have I:Qol p=false:=by unfold Qol;rw[ej h];rfl
 have HB:=hY I;have g:¬((p.size:Int)<=64):=oM
 clear I N h;go_in;go_wp2_with fail;go_ret;exact⟨by rw[HB.o]<;>rfl,fM _ _⟩
theorem MuC.c1{b:Nat}{m:Mu}(h:MuC w b 0 m c):w.cell? ⟨b,1,none⟩=some (.string m.k):=h 1 _ rfl
theorem MuC.c2{b:Nat}{m:Mu}(h:MuC w b 0 m c):w.cell? ⟨b,2,none⟩=some (.string m.tk):=h 2 _ rfl
theorem Qpw(m:Mu)(c:MuS)(hk:m.k.size<=maxLen)(hL:Qi4 w):Calls prog 191 #[Qaz m c] w λe w'=>e=.returned (.bool (QgF m.kd m.k m.tk m.had))/\Nw w w':=by
 by_cases h6:m.kd=6
 ·have hr:QgF m.kd m.k m.tk m.had=(Qol m.k && Qol m.tk):=by unfold QgF;rw [eu h6]
  have HR:=hY hr;have e6:(m.kd==6)=true:=by simp[h6]
  clear hr h6 hk;go_in;go_upto_region 1 with fail;generalize Z:World.alloc _ _=W0;obtain⟨N,I,a0⟩:=QaB (m:=m) (c:=c) Z;have a1:=hY (fJ N);have c0:=I.kind;have c1:=I.c1;obtain⟨a5,HL⟩:=Yb I (hL.nw (fJ N));have l0:=I.lt;clear Z N I a0 hL;go_wp2_with fail;refine(QeA m.k HL.o).mono ?_;rintro e w1 ⟨rfl,hn⟩;obtain⟨a2,a4⟩:=Yb (a1.o.trans hn) (HL.o.nw hn);have d2:=(hn.cell l0 (λh=>h)).trans a5.o.c2;clear hn c0 c1;rcases bv (Qol m.k)with hb|hb
  ·have HB:=hY hb
   rw[hb];clear hb;go_wp2_with fail;refine(QeA m.tk a4.o).mono ?_;rintro e w2 ⟨rfl,hn⟩;have a3:=hY (a2.o.trans hn);clear hn;go_wp2_with fail;go_ret;exact⟨by rw[HR.o,HB.o]<;>rfl,a3.o⟩
  have HB:=hY hb;rw[hb];clear hb;go_wp2_with fail;go_ret;exact⟨by rw[HR.o,HB.o]<;>rfl,a2.o⟩
 have e6:(m.kd==6)=false:=by simp[h6]
 by_cases h7:m.kd=7
 ·have e7:(m.kd == 7)=true:=by simp [h7]
  by_cases h0:m.k.size=0
  ·have hr:QgF m.kd m.k m.tk m.had=!m.had:=by unfold QgF;rw [eh h6,eu ⟨h7,h0⟩]
   have HR:=hY hr;have g0:=Qa9 h0;clear hr h6 hk h7 hL h0;go_in;go_upto_region 1 with fail;generalize Z:World.alloc _ _=W0;obtain⟨N,I,a0⟩:=QaB (m:=m) (c:=c) Z;have a1:=hY (fJ N);have c0:=I.kind;have c1:=I.c1;have c4:=I.c4;clear Z N I a0;go_wp2_with fail;go_ret;exact⟨by rw[HR.o]<;>rfl,a1.o⟩
  have hr:QgF m.kd m.k m.tk m.had=(Qci m.k==0):=by unfold QgF;rw[eh h6,eh λh=>h0 h.2]
  have HR:=hY hr;have g0:=Qbr h0;have HK:=hY hk;clear hr h6 hk h7 h0;go_in;go_upto_region 1 with fail;generalize Z:World.alloc _ _=W0;obtain⟨N,I,a0⟩:=QaB (m:=m) (c:=c) Z;have a1:=hY (fJ N);have c0:=I.kind;have c1:=I.c1;have HL:=hY (hL.nw (fJ N));clear Z N I a0 hL;go_wp2_with fail;refine(Qc8 HK.o HL.o).mono ?_;rintro e w1 ⟨rfl,hn⟩;have a2:=hY (a1.o.trans hn);clear hn c0 c1;go_wp2_with fail;go_ret;exact⟨by rw[HR.o]<;>rfl,a2.o⟩
 have e7:(m.kd==7)=false:=by simp[h7]
 have hr:QgF m.kd m.k m.tk m.had=(Qci m.k==0):=by unfold QgF;rw[eh h6,eh λh=>h7 h.1]
 obtain⟨HR,HK⟩:=Yb hr hk;clear hr h6 hk h7;go_in;go_upto_region 1 with fail;generalize Z:World.alloc _ _=W0;obtain⟨N,I,a0⟩:=QaB (m:=m) (c:=c) Z;have a1:=hY (fJ N);have c0:=I.kind;have c1:=I.c1;have HL:=hY (hL.nw (fJ N));clear Z N I a0 hL;go_wp2_with fail;refine(Qc8 HK.o HL.o).mono ?_;rintro e w1 ⟨rfl,hn⟩;have a2:=hY (a1.o.trans hn);clear hn c0 c1;go_wp2_with fail;go_ret;exact⟨by rw[HR.o]<;>rfl,a2.o⟩
theorem QpG{l:List Mu}{m:Mu}(h:l[j]? = some m)(d:Nat):Qb5 (l.drop j) d=if QaS m d≠0 then QaS m d else Qb5 (l.drop (j+1)) d:=by
 obtain⟨h1,h2⟩:=ai.1 h;rw[aE h1,h2,Qb5]
abbrev Qef(code:Int):Ending:=.panicked [{ v:=.iface 237 (.agg #[.int .i64 code]),recovered:=false }]
def QdA(code:Int):Ending:=if code=0 then .returned (.tuple #[])else Qef code
theorem Qf5(w:World)(code:Int):Calls prog 189 #[.bool true,.int .i64 code] w λe w'=>e=.returned (.tuple #[])/\w'=w:=by
 go_in;go_wp2_with fail;refine bodyPost_end (v:=.tuple #[]) (by simp[results,results189,go_sem]) rfl ?_;exact⟨rfl,rfl⟩
theorem QiK(w:World)(code:Int):Calls prog 189 #[.bool false,.int .i64 code] w λe w'=>e=Qef code/\w'=w:=by
 go_in;go_wp2_with fail;exact⟨rfl,rfl,rfl⟩
theorem Qmv(w:World)(code:Int):Calls prog 192 #[.int .i64 code] w λe w'=>e=QdA code/\w'=w:=by
 by_cases h:code=0
 ·subst h
  go_in;go_wp2_with fail;refine(Qf5 w 0).mono ?_;rintro e w' ⟨rfl,rfl⟩;go_wp2_with fail;refine bodyPost_end (v:=.tuple #[]) (by simp[results,results192,go_sem]) rfl ?_;exact⟨rfl,rfl⟩
 have N:(code==0)=false:=ev.2 h;have I:=hY (show QdA code=Qef code by unfold QdA;rw[eh h]);go_in;go_wp2_with fail;refine(QiK w code).mono ?_;rintro e w' ⟨rfl,rfl⟩;go_wp2_with fail;exact⟨rfl,I.o.symm,rfl⟩
section
variable{m : Mu}{d : Nat}
theorem Qc9:QaS m d=if !Qai m then 9 else if 6<d then 5 else if !QgF m.kd m.k m.tk m.had then 8 else if m.had&&QcP m.was != 0 then QcP m.was else if QhW m.kd m.has&&QcP m.v != 0 then QcP m.v else Qb5 m.l (d+1):=by
 obtain⟨kd,k,tk,i,I,N,Z,v,l⟩:=m;rw[QaS];rfl
theorem Qvq(I:Qai m=false):QaS m d=9:=by rw[Qc9,I];rfl
theorem Qvo(I:Qai m=true)(h:6<d):QaS m d=5:=by rw[Qc9,I,eu h];rfl
theorem Qvp(N:Qai m=true)(h:¬6<d)(I:QgF m.kd m.k m.tk m.had=false):QaS m d=8:=by rw[Qc9,N,eh h,I];rfl
theorem lookW(Z:Qai m=true)(h:¬6<d)(hk:QgF m.kd m.k m.tk m.had=true)(I:m.had=true)(N:QcP m.was≠0):QaS m d=QcP m.was:=by
 rw[Qc9,Z,eh h,hk,I];simp[N]
theorem Qvs(Z:Qai m=true)(h:¬6<d)(hk:QgF m.kd m.k m.tk m.had=true)(hs:(m.had&&QcP m.was != 0)=false)(N:QhW m.kd m.has=true)(I:QcP m.v≠0):QaS m d=QcP m.v:=by
 rw[Qc9,Z,eh h,hk,hs,N];simp[I]
theorem Qvr(N:Qai m=true)(h:¬6<d)(Z:QgF m.kd m.k m.tk m.had=true)(hs:(m.had&&QcP m.was != 0)=false)(I:(QhW m.kd m.has&&QcP m.v != 0)=false):QaS m d=Qb5 m.l (d+1):=by
 rw[Qc9,N,eh h,Z,hs,I];rfl
theorem Qd4{code:Int}(h:QaS m d=code)(I:code≠0):Qef code=QdA (QaS m d):=by rw[h];unfold QdA;rw[eh I]
theorem Qsk(h:QaS m d=0):Ending.returned (.tuple #[])=QdA (QaS m d):=by rw[h];rfl
theorem QsJ(m:Mu):Qcc m.l<=QcC m:=by
 obtain⟨kd,k,tk,i,I,N,Z,v,l⟩:=m;rw[QcC];exact Nat.le_add_left _ _
end
theorem Qmw(w:World){code:Int}(h:code=0):Calls prog 192 #[.int .i64 code] w λe w'=>e=.returned (.tuple #[])/\w'=w:=(Qmv w code).mono λe w' I=>⟨by rw[I.1,h];rfl,I.2⟩
theorem Qp7(w:World){code:Int}(h:code≠0):Calls prog 192 #[.int .i64 code] w λe w'=>e=Qef code/\w'=w:=(Qmv w code).mono λe w' I=>⟨by rw[I.1];unfold QdA;rw[eh h],I.2⟩
variable{w':World}
theorem MuC.nw{b o:Nat}{m:Mu}(h:MuC w b o m c)(k:Nw w w'):MuC w' b o m c:=λj u hu=>(k.cell h.lt (λe=>e)).trans (h j u hu)
theorem RMu.nw{m:Mu}(h:RMu w (Lt w) m c)(k:Nw w w'):RMu w' (Lt w') m c:=(h.agree (fN k λb I=>I)).mono λb I=>ab I k.size
theorem Qj0{m:Mu}{d:Nat}(hd:d<=7)(hm:RMu w (Lt w) m c)(ht:QcC m<=1100000)(hL:Qb4 w)
  (ih:d<=6->∀(x:Mu) (y:MuS) (W:World),RMu W (Lt W) x y->QcC x<=1100000->Qb4 W->Calls prog 163 #[Qaz x y,.int .i64 ((d+1:Nat):Int)] W λe w'=>e=QdA (QaS x (d+1))/\Nw W w') :
  Calls prog 163 #[Qaz m c,.int .i64 (d:Int)] w λe w'=>e=QdA (QaS m d)/\Nw w w':=by
 obtain⟨HI,HM,HT,HD⟩:=Ye ih hm ht hd;clear ih hm ht hd;go_in;go_upto_region 1 with fail;generalize e2:World.alloc _ _=W0;obtain⟨d4,c3,e6⟩:=QaB (m:=m) (c:=c) e2;obtain⟨e7,d3,HL⟩:=Yc d4 c3 hL;clear e2 d4 c3 e6 hL;go_wp2_with(refine Qah rfl (.tmp 2) rfl w.heap.size 0 rfl m c d3.o ?_);refine(QlG _ m c).mono ?_;rintro e w1 ⟨rfl,b9⟩;obtain⟨a8,d8⟩:=Yb (fJ (e7.o.trans b9)) (d3.o.ext b9);clear b9;rcases bv (Qai m)with hb|hb
 rotate_left
 ·have g:(!Qai m)=true:=by rw [hb];rfl
  have HE:=hY (Qd4 (Qvq (d:=d) hb) oN);rw[g];clear hb g;go_wp2_with fail;refine(QiK _ 9).mono ?_;rintro e w2 ⟨rfl,rfl⟩;go_wp2_with fail;exact⟨rfl,HE.o,a8.o⟩
 have a5:=hY hb;have g:(!Qai m)=false:=by rw[hb];rfl
 rw[g];clear hb g;go_wp2_with fail;refine(Qf5 _ 9).mono ?_;rintro e w2 ⟨rfl,rfl⟩;by_cases h6:6<d
 ·have g:decide ((d:Int)≤6)=false:=ej oM
  have HE:=hY (Qd4 (Qvo (d:=d) a5.o h6) oN);clear h6;go_wp2_with fail;refine(QiK _ 5).mono ?_;rintro e w2 ⟨rfl,rfl⟩;go_wp2_with fail;exact⟨rfl,HE.o,a8.o⟩
 have H6:=hY h6;have g6:decide ((d:Int)<=6)=true:=em oM;clear h6;go_wp2_with fail;refine(Qf5 _ 5).mono ?_;rintro e w2 ⟨rfl,rfl⟩;clear g6;go_wp2_with(refine Qah rfl (.tmp 2) rfl w.heap.size 0 rfl m c d8.o ?_);refine(Qpw m c HM.o.parts.2.2.1 (HL.o.nw a8.o).lib).mono ?_;rintro e w3 ⟨rfl,b8⟩;obtain⟨a3,b6⟩:=Yb (a8.o.trans b8) (d8.o.nw b8);clear b8;rcases bv (QgF m.kd m.k m.tk m.had)with hk|hk
 rotate_left
 ·have HE:=hY (Qd4 (Qvp (d:=d) a5.o H6.o hk) oN)
  rw[hk];clear hk;go_wp2_with fail;refine(QiK _ 8).mono ?_;rintro e w2 ⟨rfl,rfl⟩;go_wp2_with fail;exact⟨rfl,HE.o,a3.o⟩
 have HK:=hY hk;rw[hk];clear hk;go_wp2_with fail;refine(Qf5 _ 8).mono ?_;rintro e wq ⟨rfl,rfl⟩;have c4:=b6.o.c4;obtain⟨c5,c6,c7,c8,c9,g0⟩:=b6.o.Qop;go_upto_if 17 with fail;go_cut [] (λwc=>Nw wq wc/\(m.had&&QcP m.was != 0)=false)
 case first=>
  rcases bv m.had with hh|hh
  ·rw [hh]
   go_wp2_with fail;refine(Qio (d:=m.was) (HM.o.nw a3.o).parts.1 (an (Qkz m).2 HT.o) (HL.o.nw a3.o)).mono ?_;rintro e w4 ⟨rfl,a9⟩;obtain⟨a1,f0⟩:=Yb (a3.o.trans a9) a9;by_cases Z:QcP m.was=0
   ·have HF:=hY Z
    have HH:=hY hh;clear Z hh a9;go_wp2_with fail;refine(Qmw _ HF.o).mono ?_;rintro e w5 ⟨rfl,rfl⟩;go_wp2_with fail;go_meet;exact⟨f0.o,by rw[HF.o];simp⟩
   obtain⟨HF,HE⟩:=Yb Z (Qd4 (lookW (d:=d) a5.o H6.o HK.o hh Z) Z);clear Z hh a9;go_wp2_with fail;refine(Qp7 _ HF.o).mono ?_;rintro e w5 ⟨rfl,rfl⟩;go_wp2_with fail;exact⟨rfl,HE.o,a1.o⟩
  rw[hh];go_wp2_with fail;go_meet;exact⟨fM _ _,by rw[hh];rfl⟩
 obtain⟨b7,hs⟩:=hcut;obtain⟨a1,HS,b3⟩:=Yc (a3.o.trans b7) hs (b6.o.nw b7);clear b7 hs c4 c5 c6 c7 c8 c9 g0;have c0:=b3.o.kind;have f1:=b3.o.c11;obtain⟨f5,f9,f3,f4,g4,f8⟩:=b3.o.v6;go_upto_region 6 with fail;go_cut [38] (λv w'=>v=.bool (QhW m.kd m.has)/\w'=wc)
 case first=>
  by_cases k1:m.kd=1
  ·have e1:(m.kd == 1)=true:=by simp [k1]
   have N:QhW m.kd m.has=true:=by simp[QhW,k1]
   have HV:=hY N;clear N k1;go_wp2_with fail;go_meet;exact⟨by rw[HV.o],rfl⟩
  have e1:(m.kd==1)=false:=by simp[k1]
  by_cases k5:m.kd=5
  ·have e5:(m.kd == 5)=true:=by simp [k5]
   have N:QhW m.kd m.has=true:=by simp[QhW,k5]
   have HV:=hY N;clear N k1 k5;go_wp2_with fail;go_meet;exact⟨by rw[HV.o],rfl⟩
  have e5:(m.kd==5)=false:=by simp[k5]
  by_cases k4:m.kd=4
  ·have e4:(m.kd == 4)=true:=by simp [k4]
   have N:QhW m.kd m.has=m.has:=by simp[QhW,k4]
   have HV:=hY N;clear N k1 k5 k4;go_wp2_with fail;go_meet;exact⟨by rw[HV.o],rfl⟩
  have e4:(m.kd==4)=false:=by simp[k4]
  have N:QhW m.kd m.has=false:=by simp[QhW,k1,k5,k4]
  have HV:=hY N;clear N k1 k5 k4;go_wp2_with fail;go_meet;exact⟨by rw[HV.o],rfl⟩
 obtain⟨N,hw⟩:=hcut;subst N;clear c0 f1;rename_i wz;subst hw;go_upto_if 38 with fail;go_cut [] (λw'=>Nw wc w'/\(QhW m.kd m.has&&QcP m.v != 0)=false)
 case first=>
  rcases bv (QhW m.kd m.has)with N|N
  ·rw [N]
   go_wp2_with fail;refine(Qio (d:=m.v) (HM.o.nw a1.o).parts.2.1 (an (Qkz m).1 HT.o) (HL.o.nw a1.o)).mono ?_;rintro e w5 ⟨rfl,b0⟩;obtain⟨a0,e8⟩:=Yb (a1.o.trans b0) b0;by_cases Z:QcP m.v=0
   ·have HF:=hY Z
    have HV:=hY N;clear Z N b0;go_wp2_with fail;refine(Qmw _ HF.o).mono ?_;rintro e w6 ⟨rfl,rfl⟩;go_wp2_with fail;go_meet;exact⟨e8.o,by rw[HF.o];simp⟩
   obtain⟨HF,HE⟩:=Yb Z (Qd4 (Qvs (d:=d) a5.o H6.o HK.o HS.o N Z) Z);clear Z N b0;go_wp2_with fail;refine(Qp7 _ HF.o).mono ?_;rintro e w6 ⟨rfl,rfl⟩;go_wp2_with fail;exact⟨rfl,HE.o,a0.o⟩
  rw[N];go_wp2_with fail;go_meet;exact⟨fM _ _,by rw[N];rfl⟩
 obtain⟨a2,c1⟩:=hcut;have a0:=hY (a1.o.trans a2);have g9:wc.cell? ⟨w,8+10,none⟩=some (.slice c.s.a m.l.length c.s.c):=(b3.o.nw a2) 18 _ rfl;have HC:=hY (Qvr a5.o H6.o HK.o HS.o c1);have g7:=HM.o.len;have d0:wrap64 ((d:Int)+1)=((d+1:Nat):Int):=by
  have:=H6.o;unfold wrap64;omega
 have e3:=hY d0;clear a2 c1 f5 f9 f3 f4 g4 f8 d0;go_wp2_with fail;go_loopw[46] (λf6 wr=>∃j:Nat,f6=.int .i64 (j:Int)/\j<=m.l.length/\Yd (Nw w wr)/\Yd (Qb5 (m.l.drop j) (d+1)=Qb5 m.l (d+1))) (λv _=>m.l.length -(intOf v).toNat)
 case atStart=>exact⟨0,rfl,aA _,a0,hY rfl⟩
 obtain⟨j,rfl,hj,HX,HJ⟩:=hrel;by_cases d6:j<m.l.length
 ·have l1:(j:Int)<(m.l.length:Int):=oM
  have i1:decide ((j:Int)<(m.l.length:Int))=true:=em l1;have l0:(0:Int)<=(j:Int):=oM
  obtain⟨x,hx⟩:∃x,m.l[j]? = some x:=⟨_,ac d6⟩;obtain⟨b,o,y,f2,g3,g8,i0,d7,d5⟩:=HM.o.at hx;have b4:=hY (d7.nw HX.o);have g5:b<wr:=b4.o.lt;have a6:=λW (hW:Ext wr W)=>HI.o (by have:=H6.o;omega) x y W (d5.nw (HX.o.trans (fJ hW))) (an (Qgb hx) (an (QsJ m) HT.o)) (HL.o.nw (HX.o.trans (fJ hW)))
  have a7:=hY a6;have I:=QpG hx (d+1);rw[HJ.o]at I;have e0:=hY I;clear d5 d7 a6 hx g3 I;rw[f2];go_wp2_with(first |(refine Qah rfl (.tmp 48) rfl b (o+j*19) rfl x y b4.o ?_) |(refine QaR rfl rfl rfl x y (w0:=wr) (b:=wr) rfl ((fI wr).alloc _ _) (fK wr _ _) rfl rfl rfl ?_;intro w5 a2 c2;have a0:=hY a2;have f7:=hY (fT c2);clear a2 c2) |(refine Qah rfl (.tmp 5) rfl wr.heap.size 0 rfl x y f7.o ?_));rw[e3.o];by_cases Z:QaS x (d+1)=0
  ·refine ((a7.o _ a0.o).mono fun e W h=>(show e=.returned (.tuple #[])∧Nw _ W from ⟨by rw [h.1,Z];rfl,h.2⟩)).mono ?_
   rintro e w2 ⟨rfl,a4⟩;have b5:=hY ((HX.o.trans (fJ a0.o)).trans a4);have I:=e0.o;rw[eh (λh=>h Z)]at I;have HA:=hY I.symm;clear a4 Z I;go_wp2_with fail;go_roundw
   case rel=>exact⟨j+1,by go_num,d6,b5,HA⟩
   simp[intOf];omega
  have I:=e0.o;rw[eu Z]at I;have HE:=hY (Qd4 (HC.o.trans I) Z);refine((a7.o _ a0.o).mono λe W h=>(show e=Qef (QaS x (d+1))/\Nw _ W from⟨by rw[h.1];unfold QdA;rw[eh Z],h.2⟩)).mono ?_;rintro e w2 ⟨rfl,a4⟩;have b5:=hY ((HX.o.trans (fJ a0.o)).trans a4);clear a4 Z I;go_wp2_with fail;exact⟨rfl,HE.o,b5.o⟩
 obtain rfl:j=m.l.length:=oM
 have l1:decide ((m.l.length:Int)<(m.l.length:Int))=false:=ej oM;have HE:=hY (Qsk (m:=m) (d:=d) (by rw[HC.o,<-HJ.o,cP];rfl));go_wp2_with fail;refine bodyPost_end (v:=.tuple #[]) (by simp[results,results163,go_sem]) rfl ?_;exact⟨HE.o,HX.o⟩
theorem QpH(n:Nat):∀(d:Nat) (m:Mu) (c:MuS) (w:World),d+n=7->RMu w (Lt w) m c->QcC m<=1100000->Qb4 w->Calls prog 163 #[Qaz m c,.int .i64 (d:Int)] w λe w'=>e=QdA (QaS m d)/\Nw w w':=by
 induction n with
 |zero=>exactλd m c w hd N I Z=>Qj0 oM N I Z λh=>oM
 |succ n ih=>exactλd m c w hd N I Z=>Qj0 oM N I Z λh x y W hx hy hW=>ih (d+1) x y W oM hx hy hW
theorem QrH{m:Mu}(N:RMu w (Lt w) m c)(I:QcC m<=1100000)(Z:Qb4 w):Calls prog 163 #[Qaz m c,.int .i64 1] w λe w'=>e=QdA (QaS m 1)/\Nw w w':=QpH 6 1 m c w rfl N I Z
abbrev eV:=@leaves_cons
theorem QqQ{b:Nat}{t T:TypeId}{v Z:Value}{cs:Array Value}(N:Blk w b t #[Z])(W:World)(I:(w.setCell ⟨b,0,none⟩ v).alloc (.cells cs T)=W):Sb (λi=>i=b) w W/\Blk W b t #[v]:=by
 subst I;have h1:Blk (w.setCell ⟨b,0,none⟩ v) b t #[v]:=N.QbH 0 v;have h2:=(fI (w.setCell ⟨b,0,none⟩ v)).alloc cs T;exact⟨((fM (λi=>i=b) w).set (p:=⟨b,0,none⟩) (.inr rfl) v).ext h2,h1.ext h2⟩
theorem QkW(p:Addr)(w:World):CallsD prog 188 #[.pointer (some p)] .returning w λe N w'=>e=.returned (.tuple #[])/\N=.returning/\w'=w:=by
 refine callsD_of_wpS func188 rfl λI cs hu=>?_
 apply wpS_seq;apply wpS_region;simp[wpOpsS,go_sem,recoverD,hu,ntmps188,Exit.thenS];refine wpS_of_wp ?_;go_wp2;cases I
 simp_all [bodyPostS,results,results188]
theorem Qja(W:World)(v:Value)(I:TypeId):(Instr.typeAssert (.iface 237 v) I 237 true).run prog W=.ok (.tuple #[v,.bool true]) W:=kM
theorem Qm1(b:Nat)(code:Int)(w:World)(I:Blk w b 71 #[.int .i64 0]) :
  CallsD prog 188 #[.pointer (some ⟨b,0,none⟩)] (.panicking [{ v:=.iface 237 (.agg #[.int .i64 code]),recovered:=false }]) w λe u' w'=>
   e=.returned (.tuple #[])/\u'=.panicking [{ v:=.iface 237 (.agg #[.int .i64 code]),recovered:=true }]/\Sb (λi=>i=b) w w'/\Blk w' b 71 #[.int .i64 code]:=by
 have c0:w.cell? ⟨b,0,none⟩=some (.int .i64 0):=I.cell 0;have f0:=I.frozen 0;have l0:=I.lt;refine callsD_of_wpS func188 rfl λZ cs hu=>?_
 apply wpS_seq;apply wpS_region;simp[wpOpsS,go_sem,recoverD,hu,ntmps188,Exit.thenS];refine wpS_of_wp ?_;have ha:=λW=>Qja W (.agg #[.int .i64 code])
 change Code.wp _ _ _ { tmps:=#[.pointer (some ⟨b,0,none⟩),undef,undef,undef,.iface 237 (.agg #[.int .i64 code]),undef,undef,undef,undef,undef,undef],defers:=[] } w;go_wp2;generalize N:World.alloc _ _=W;obtain⟨h1,h2⟩:=QqQ I W N;clear N ha c0 f0 l0;cases Z
 simp_all [bodyPostS,results,results188]
variable{B:Nat}
theorem QrK{m:Mu}(hC:MuC w B 0 m c)(hm:RMu w (Lt w) m c)(ht:QcC m<=1100000)(hL:Qb4 w) :
  Calls prog 162 #[.pointer (some ⟨B,0,none⟩)] w λe w'=>e=QdA (QaS m 1)/\Nw w w':=by
 obtain⟨HC,HB⟩:=Yb (QrH hm ht hL) hC;clear hC hm ht hL;by_cases h:QaS m 1=0
 ·have N:=hY h
  go_in;clear h;go_wp2_with(refine Qah rfl (.tmp 0) rfl B 0 rfl m c HB.o ?_);refine(HC.o.mono λe W h=>(show e=.returned (.tuple #[])/\Nw _ W from⟨by rw[h.1,N.o];rfl,h.2⟩)).mono ?_;rintro e w1 ⟨rfl,I⟩;have Z:=hY I;clear I;go_wp2_with fail;refine bodyPost_end (v:=.tuple #[]) (by simp[results,results162,go_sem]) rfl ?_;exact⟨by rw[N.o];rfl,Z.o⟩
 have N:=hY (show QdA (QaS m 1)=Qef (QaS m 1)by unfold QdA;rw[eh h]);go_in;clear h;go_wp2_with(refine Qah rfl (.tmp 0) rfl B 0 rfl m c HB.o ?_);refine(HC.o.mono λe W h=>(show e=Qef (QaS m 1)/\Nw _ W from⟨by rw[h.1,N.o],h.2⟩)).mono ?_;rintro e w1 ⟨rfl,I⟩;have Z:=hY I;clear I;go_wp2_with fail;exact⟨rfl,N.o.symm,Z.o⟩
theorem Qm0{m:Mu}(hC:MuC w B 0 m c)(hm:RMu w (Lt w) m c)(ht:QcC m<=1100000)(hL:Qb4 w) :
  Calls prog 161 #[.func (.func 162) #[] #[.pointer (some ⟨B,0,none⟩)]] w λe w'=>e=.returned (.int .i64 (QaS m 1))/\Nw w w':=by
 have a7:∀(fn:Fn) (first a2:Array Value) (w:World),(Instr.makeFunc fn first a2).run prog w=.ok (.func fn first a2) w:=λ_ _ _ _=>rfl
 have a4:=(fI w).alloc #[.int .i64 0] 71;obtain⟨I,a3⟩:=Yb (fJ a4) (fK w 71 #[.int .i64 0]);have HC:=hY (QrK (hC.nw I.o) (hm.nw I.o) ht (hL.nw I.o));clear hC hm ht hL a4;by_cases h:QaS m 1=0
 ·have HE:=hY h
  clear h;go_enter_defers func161,ntmps161;go_wp2_with fail;refine(HC.o.mono λe W h=>(show e=.returned (.tuple #[])/\Nw _ W from⟨by rw[h.1,HE.o];rfl,h.2⟩)).mono ?_;rintro e w1 ⟨rfl,hn⟩;have N:=hn.blk a3.o;have c1:w1.cell? ⟨w,0,none⟩=some (.int .i64 0):=N.cell 0;have f1:=N.frozen 0;have l1:=N.lt;obtain⟨a0,a1⟩:=Yb (I.o.trans hn) N;clear hn N;go_wp2_with fail;generalize hW:World.setCell _ _ _=W;have hs:Sb (λi=>i=w.heap.size) w1 W:=by rw[<-hW];exact(fM (λi=>i=w.heap.size) w1).set (p:=⟨w,0,none⟩) (.inr rfl) _
  have a5:Blk W w.heap.size 71 #[.int .i64 0]:=by rw[<-hW];exact a1.o.QbH 0 (.int .i64 0)
  clear hW c1 f1 l1;obtain⟨HS,a6⟩:=Yb (show Nw w W from a0.o.comp hs λi hi e=>oM) a5;clear hs a5;refine eV (f:=188) (args:=#[.pointer (some ⟨w,0,none⟩)]) sM (by simp[go_sem]) ?_;refine(QkW ⟨w,0,none⟩ _).mono ?_;rintro e u' Z ⟨rfl,rfl,rfl⟩;have c2:Z.cell? ⟨w,0,none⟩=some (.int .i64 0):=a6.o.cell 0;have hE:=HE.o;have hS:=HS.o;simp[Leaves,settle,results,results161,go_sem,c2,hE,hS]
 have HE:=hY (show QdA (QaS m 1)=Qef (QaS m 1)by unfold QdA;rw[eh h]);clear h;go_enter_defers func161,ntmps161;go_wp2_with fail;refine(HC.o.mono λe W h=>(show e=Qef (QaS m 1)/\Nw _ W from⟨by rw[h.1,HE.o],h.2⟩)).mono ?_;rintro e w1 ⟨rfl,hn⟩;obtain⟨a1,a0⟩:=Yb (hn.blk a3.o) (I.o.trans hn);clear hn;go_wp2_with fail;refine eV (f:=188) (args:=#[.pointer (some ⟨w,0,none⟩)]) sM (by simp[go_sem]) ?_;refine(Qm1 w.heap.size (QaS m 1) _ a1.o).mono ?_;rintro e u' Z ⟨rfl,rfl,hs,hb⟩;have c2:Z.cell? ⟨w,0,none⟩=some (.int .i64 (QaS m 1)):=hb.cell 0;have hS:Nw w Z:=a0.o.comp hs λi hi e=>oM
 simp[Leaves,settle,results,results161,go_sem,c2,hS]
theorem QrL{m:Mu}(hm:RMu w (Lt w) m c)(ht:QcC m<=1100000)(hL:Qb4 w):Calls prog 130 #[Qaz m c] w λe w'=>e=.returned (.int .i64 (QbP m))/\Nw w w':=by
 have a1:Qa0 m<=1100000:=an (Qsp m) ht;have b0:∀(fn:Fn) (first a0:Array Value) (w:World),(Instr.makeFunc fn first a0).run prog w=.ok (.func fn first a0) w:=λ_ _ _ _=>rfl
 obtain⟨HM,HT,HL,a7⟩:=Ye hm ht hL a1;clear hm ht hL a1;go_in;go_upto_region 1 with fail;generalize a2:World.alloc _ _=W0;obtain⟨a4,a5,a9⟩:=QaB (m:=m) (c:=c) a2;obtain⟨a6,a3⟩:=Yb a4 a5;clear a2 a4 a5 a9;go_wp2_with(refine Qah rfl (.tmp 1) rfl w.heap.size 0 rfl m c a3.o ?_);refine(Qqu (HM.o.nw (fJ a6.o)) a7.o).mono ?_;rintro e w1 ⟨rfl,Z⟩;obtain⟨N,a8⟩:=Yb (a6.o.trans Z) (a3.o.ext Z);clear Z;by_cases I:64<Qa0 m
 ·have g:decide ((64:Int)<(Qa0 m:Int))=true:=em oM
  have HE:=hY (show QbP m=6 by unfold QbP;rw[eu I]);clear I;go_wp2_with fail;go_ret;exact⟨by rw[HE.o]<;>rfl,fJ N.o⟩
 have g:decide ((64:Int)<(Qa0 m:Int))=false:=ej oM;have HE:=hY (show QbP m=QaS m 1 by unfold QbP;rw[eh I]);clear I;go_wp2_with fail;refine(Qm0 a8.o (HM.o.nw (fJ N.o)) HT.o (HL.o.nw (fJ N.o))).mono ?_;rintro e w2 ⟨rfl,hn⟩;have HN:=hY ((fJ N.o).trans hn);clear hn;go_wp2_with fail;go_ret;exact⟨by rw[HE.o]<;>rfl,HN.o⟩
variable{W:World}{s:Sl}
theorem QuR{base:Nat}{xs:List WV}(N:W.ownsRow base 34 6 (.slice s.a xs.length s.c) xs.length (QeF xs))(hv:∀x∈xs,RV W (Lt W) x.v x.sl x.so)(hn:xs.length*88<=140737488355328) :
  RV W (Lt W) (QuP (xs.map WV.v)) s Sl.none:=by
 obtain⟨b,o,a0,hc⟩:=Qsg (fP N);have Z:∀(j:Nat) (d:Val),(xs.map WV.v)[j]? = some d->∃x,xs[j]? = some x/\x.v=d:=λj d hd=>by
  rw[au]at hd;cases I:xs[j]? with
  |none=>rw[I]at hd;cases hd
  |some x=>rw[I]at hd;exact⟨x,rfl,by injection hd⟩
 refine .mk b o 0 0 (λj=>((xs.getD j ⟨zeroV,Sl.none,Sl.none⟩).sl,(xs.getD j ⟨zeroV,Sl.none,Sl.none⟩).so)) (λ_=>(Sl.none,Sl.none)) (by rw[aq];exact a0.mono λi h=>h.2) (.nil _ _) rfl ?_ ?_ (λj k h=>by simp at h) (λj d h=>by simp at h) (λj d h=>by simp at h) oN oN oN (by rw[aq];exact hn) sM
 ·intro j d hd
  obtain⟨x,I,rfl⟩:=Z j d hd;have e:xs.getD j ⟨zeroV,Sl.none,Sl.none⟩=x:=by rw[List.getD_eq_getElem?_getD,I];rfl
  rw[e];exact hc j x I
 intro j d hd;obtain⟨x,I,rfl⟩:=Z j d hd;have e:xs.getD j ⟨zeroV,Sl.none,Sl.none⟩=x:=by rw[List.getD_eq_getElem?_getD,I];rfl
 rw[e];exact hv x (ap I)
theorem RVC.row{d:Val}(h:RVC w F d sl so):∃xs:List WV,xs.map WV.v=d.l/\sl.c=xs.length/\(sl.a=none->xs.length=0)/\(∀x∈xs,RV w F x.v x.sl x.so)/\
  (∀b,sl.a=some b->∀j u,(QeF xs)[j]? = some u->w.cell? (b.add j)=some u)/\xs.length*88<=140737488355328:=by
 have I:=h.cap;have a0:=h.rv;cases a0 with
 | mk bl fl bo fo cl co hl ho hov el rl ek eo ro bk bi bt nl no=>
   rename_i kind b i t l ok ov;have I:sl.c=l.length:=I;have a1:=Qvw (w:=w) (xs:=wl l cl) (by rw[QhX];exact hl) λj x hx=>by
    obtain⟨e1,N,e3⟩:=QuY hx;rw[N,e3];exact el j _ e1
   refine⟨wl l cl,QvV l cl,by rw[QhX];exact I,λe=>?_,λx hx=>?_,λa ha j u hu=>?_,by rw[QhX];exact nl⟩
   ·rw [QhX]
    rcases Nat.eq_zero_or_pos l.length with h0|h0
    .exact h0
    have:=(hl.eq h0).1;rw[e]at this;cases this
   ·obtain ⟨j,hj⟩:=bz hx
    obtain⟨e1,N,e3⟩:=QuY hj;rw[N,e3];exact rl j _ e1
   obtain⟨b',o',h1,h2,h3⟩:=a1;have a2:=(ai.1 hu).1;rw[QeG,QhX]at a2;have Z:0<l.length:=oM
   rw[QhX]at h1;have e1:=(hl.eq Z).1;have N:=(h1.eq Z).1;rw[ha]at N;injection N with N;rw[N,Qbc];exact h3 j u hu
theorem Qqx{base e size n:Nat}{v:Value}{xs:List Value}(h:w.ownsRow base e size v n xs):∃s:Sl,v=.slice s.a n s.c:=by
 rcases h.2 with⟨rfl,rfl⟩ |⟨g,I,N,rfl,_⟩
 .exact ⟨Sl.none,rfl⟩
 exact⟨⟨some ⟨g,0,none⟩,I⟩,rfl⟩
variable{u:Value}
theorem Ext.addr(h:Ext w w'){a:Addr}(I:w.cell? a=some u):w'.cell? a=some u:=
 (eL (w:=w) (a:=a) ((h.sb (λ_=>False)).block a.block (eH w _ I) λe=>e)).trans I
theorem Qs2(l:List Val)(x:Val):QcI (QuP (l++[x]))=7+QdR l+QcI x:=by
 have:∀l:List Val,QdR (l++[x])=QdR l+QcI x:=λl=>by
  induction l with
  |nil=>simp[QdR]
  |cons a r ih=>rw[aI,QdR,QdR,ih];omega
 show QcI (.mk 5 false 0 ByteArray.empty (l++[x]) [] [])=_;rw[QcI,this,QfL];show 7+0+(QdR l+QcI x)+0=_;omega
theorem Qs1(v:Val):QdR v.l<=QcI v:=by
 obtain⟨k,b,i,t,l,I,N⟩:=v;rw[QcI];show QdR l<=_;omega
theorem Qt7(M:List Ent)(k:ByteArray)(v:Val):Qq1 M k v=if(Qaq M k).isSome=true/\((Qaq M k).getD zeroV).kind≠5 then(9,M)else Qoo M k ((Qaq M k).getD zeroV).l v:=by
 unfold Qq1;cases Qaq M k with
 |none=>rfl
 |some y=>by_cases h:y.kind=5<;>simp[h]
theorem QiZ.QdR{B:List Ent}{C:Slots}(h:QiZ B C M)(k:ByteArray):QdR ((Qaq M k).getD zeroV).l<=7168:=by
 cases I:Qaq M k with
 |none=>exact aA _
 |some y=>exact an (Qs1 y) (h.ok.get I).2.cnt
theorem QmV{k:ByteArray}{v:Val}(h:OvX H w O d M)(hH:∀b,H b->b<w.heap.size)(hn:d.us.length<=1000000)(hl:(Qaa d.T).length<=1000000)(c6:k.size<=maxLen)
  (hv:RV w (Lt w) v sl so) (hc:QcI v<=1092000) (hL:Qb4 w) :
  Calls prog 171 #[.pointer (some ⟨O,0,none⟩),.string k,QbV v sl so] w λe w'=>e=.returned (.int .i64 (Qq1 M k v).1)/\∃d',GoX H w O d (Qq1 M k v).2 1 w' d':=by
 have c4:=(fI w).alloc #[.int .i64 v.kind,.bool v.b,.int .i64 v.i,.string v.t,.slice sl.a v.l.length sl.c,.slice so.a v.ok.length so.c] 34;have e0:=fK w 34 #[.int .i64 v.kind,.bool v.b,.int .i64 v.i,.string v.t,.slice sl.a v.l.length sl.c,.slice so.a v.ok.length so.c];have c3:=Quh (h.nw (fJ c4)) hl c6;have b6:(w.alloc (.cells #[.int .i64 v.kind,.bool v.b,.int .i64 v.i,.string v.t,.slice sl.a v.l.length sl.c,.slice so.a v.ok.length so.c] 34)).heap.size=w.heap.size+1:=ew _ _;obtain⟨HH,HL,HV,HC,i3,g5,i2⟩:=Yh h hL hv hc c6 hn hH;obtain⟨i4,f9,i9,HG⟩:=Ye c4 e0 b6 c3;have a1:=Qt7 M k v;have c9:=HH.o.rel.QdR k;obtain⟨r,hr⟩:∃r,Qq1 M k v=r:=⟨_,rfl⟩;rw[hr]at a1 ⊢;obtain⟨y,hy⟩:∃y,(Qaq M k).getD zeroV=y:=⟨_,rfl⟩;obtain⟨g,hg⟩:∃g,(Qaq M k).isSome=g:=⟨_,rfl⟩;rw[hy,hg]at a1;rw[hy]at c9;obtain⟨HY,i5,b7,i6⟩:=Ye hy hg a1 c9;obtain⟨i0,hi,f6,g8,f7⟩:=eE Tryz.QjM;clear h hL hv hc c6 hn hH c4 e0 b6 c3 hl hy hg a1 c9 hr;go_in;go_wp2_with fail;refine HG.o.mono ?_;rintro e w1 ⟨s1,s2,rfl,d3,d0⟩;rw[HY.o,i5.o];rw[HY.o]at d0;obtain⟨g6,e1,g7⟩:=Yc d0 (i4.o.trans d3) (f9.o.ext d3);clear d3 d0;go_upto_region 2 with fail;have a5:=(fI w1).alloc #[.int .i64 y.kind,.bool y.b,.int .i64 y.i,.string y.t,.slice s1.a y.l.length s1.c,.slice s2.a y.ok.length s2.c] 34;have a8:=fK w1 34 #[.int .i64 y.kind,.bool y.b,.int .i64 y.i,.string y.t,.slice s1.a y.l.length s1.c,.slice s2.a y.ok.length s2.c];generalize f8:World.alloc _ _=w2 at a5 a8 ⊢;obtain⟨e6,d6,a2⟩:=Yc (e1.o.trans a5) a5 (g7.o.ext a5);have k0:w2.cell? ⟨w1,0,none⟩=some (.int .i64 y.kind):=a8.cell 0;have k4:w2.cell? ⟨w1,4,none⟩=some (.slice s1.a y.l.length s1.c):=a8.cell 4;clear f8 a5 a8;by_cases I:g=true/\y.kind≠5
 ·have g1:=I.1
  have g2:(y.kind==5)=false:=ev.2 I.2;have HR:=hY (b7.o.trans (eu I));clear I;subst g1;go_wp2_with fail;go_ret;exact⟨by rw[HR.o]<;>rfl,d,by rw[HR.o];exact HH.o.stay (fJ e6.o)⟩
 have HR:=hY (b7.o.trans (eh I));go_cut [20] (λq w'=>q=.bool false/\w'=w2)
 case first=>
  cases g with
  | false=>
    clear I;go_wp2_with fail;go_meet;exact⟨rfl,rfl⟩
  | true=>
    have g2:(y.kind==5)=true:=by
     by_cases h5:y.kind=5
     .simp [h5]
     exact absurd ⟨rfl,h5⟩ I
    clear I;go_wp2_with fail;go_meet;exact⟨by rw[show(y.kind != 5)=false by rw[bne,g2];rfl],rfl⟩
 obtain⟨rfl,hw⟩:=hcut;subst hw;clear I k0;by_cases Z:256<=y.l.length
 ·have g3:decide ((256:Int)≤(y.l.length:Int))=true:=em oM
  have g4:(256:Int)<=(y.l.length:Int):=oM
  have a6:=hY (HR.o.trans (show Qoo M k y.l v=(6,M)by unfold Qoo;rw[eu Z]));clear Z;go_wp2_with fail;go_ret;exact⟨by rw[a6.o]<;>rfl,d,by rw[a6.o];exact HH.o.stay (fJ e6.o)⟩
 have g3:decide ((256:Int)<=(y.l.length:Int))=false:=ej oM;have g4:¬(256:Int)<=(y.l.length:Int):=oM
 obtain⟨a6,e4⟩:=Yb (HR.o.trans (show Qoo M k y.l v=setMu M k (QuP (y.l++[v]))by unfold Qoo;rw[eh Z])) Z;clear Z;obtain⟨xs,c7,c2,a9,d4,f1,i7⟩:=(g6.o).row;have b0:wc.cell? ⟨w,0,none⟩=some (.int .i64 v.kind):=a2.o.cell 0;have b1:wc.cell? ⟨w,1,none⟩=some (.bool v.b):=a2.o.cell 1;have b2:wc.cell? ⟨w,2,none⟩=some (.int .i64 v.i):=a2.o.cell 2;have b3:wc.cell? ⟨w,3,none⟩=some (.string v.t):=a2.o.cell 3;have b4:wc.cell? ⟨w,4,none⟩=some (.slice sl.a v.l.length sl.c):=a2.o.cell 4;have b5:wc.cell? ⟨w,5,none⟩=some (.slice so.a v.ok.length so.c):=a2.o.cell 5;have a7:y.l.length=xs.length:=by rw[<-c7,aq]
 rw[a7]at k4;obtain⟨f3,f4,i1,b9,c0⟩:=Yf a7 c7 d4 c2 a9;have e3:=(fI wc).alloc #[.int .i64 v.kind,.bool v.b,.int .i64 v.i,.string v.t,.slice sl.a v.l.length sl.c,.slice so.a v.ok.length so.c] 34;obtain⟨f0,c8,g9⟩:=Yc (fK wc 34 #[.int .i64 v.kind,.bool v.b,.int .i64 v.i,.string v.t,.slice sl.a v.l.length sl.c,.slice so.a v.ok.length so.c]) e3 f1;have i8:xs.length<=255:=by have:=e4.o;omega
 clear c7 d4 c2 a9 a7 e3 f1 g3 g4;generalize hA:(Obj.cells #[.int .i64 v.kind,.bool v.b,.int .i64 v.i,.string v.t,.slice sl.a v.l.length sl.c,.slice so.a v.ok.length so.c] 34)=A3 at c8 f0;obtain⟨Q1,Q2,Q3,Q4,Q5,Q6⟩:=Yg (show s1.a=none->xs.length=0/\s1.c=0 fromλe=>⟨c0.o e,b9.o.trans (c0.o e)⟩) (show ∀b,s1.a=some b->∀j u,(QeF xs)[j]? = some u->(wc.alloc A3).cell? (b.add j)=some u fromλb hb j u hu=>c8.o.addr (d6.o.addr (g9.o b hb j u hu))) (show ∀j u,(⟨v,sl,so⟩:WV).cells[j]? = some u->(wc.alloc A3).cell? ((⟨wc,0,none⟩:Addr).add j)=some u fromλj u hu=>by rw[Qbc,aD,f0.o.cell];simpa[WV.cells]using hu) (show s1.c<xs.length+1 by rw[b9.o];exact dh _) (show xs.length+1<=maxLen by unfold maxLen;omega) (show(xs.length+1)*88<=140737488355328 by omega);subst hA;go_wp2_with(at_builtin;refine wpList_append_grows _ rfl (.tmp 28) (.tmp 30) 31 rfl 34 i0 _ 6 88 underlying31 hi f6 g8 f7 rfl oN s1.a xs.length s1.c (QeF xs) rfl Q1.out (QeG xs) Q2.out ⟨wc,0,none⟩ 1 1 (⟨v,sl,so⟩:WV).cells rfl rfl Q3.out (WV.one _) Q4.out Q5.out Q6.out ?_;intro v4 w4 a4 d7;obtain⟨s',rfl⟩:=Qqx a4;have d8:=hY a4;have f5:=hY (Sb.made (H:=λ_=>False) d7);clear a4 d7);have a0:Nw w1 _:=(fJ (d6.o.trans c8.o)).trans f5.o;have N:Nw w _:=(fJ e1.o).trans a0;have e7:∀x∈xs++[(⟨v,sl,so⟩:WV)],RV _ (Lt _) x.v x.sl x.so:=λx hx=>by
  rcases aS.1 hx with hx|hx
  .exact ((i1.o x hx).agree (fN a0 λb hb=>hb.2)).mono λb hb=>ab hb.2 a0.size
  obtain rfl:x=⟨v,sl,so⟩:=by simpa using hx
  exact(HV.o.agree (fN N λb hb=>hb)).mono λb hb=>ab hb N.size
 have a3:=QuR (xs:=xs++[(⟨v,sl,so⟩:WV)]) (s:=s') (by rw[aj,Qne];exact d8.o) e7 (by rw[aj];show(xs.length+1)*88<=_;omega);have b8:(xs++[(⟨v,sl,so⟩:WV)]).map WV.v=y.l++[v]:=by rw[aC,f4.o];rfl
 rw[b8]at a3;have c1:=QqS (k:=k) (HH.o.nw N) (λb hb=>ab (i2.o b hb) N.size) g5.o i3.o a3 (by rw[Qs2];have:=i6.o;have:=HC.o;omega) (HL.o.nw N);have e2:xs.length+1=(QuP (y.l++[v])).l.length:=by show _=(y.l++[v]).length;rw[aj,f3.o];rfl
 obtain⟨e8,d5⟩:=Yb c1 N;clear a0 N e7 a3 b8 c1;rw[e2];clear e2;refine e8.o.mono ?_;rintro e w5 ⟨rfl,d',f2⟩;have g0:=hY (f2.since d5.o);clear f2;go_wp2_with fail;go_ret;exact⟨by rw[a6.o]<;>rfl,d',by rw[a6.o];exact g0.o⟩
end Go.Proofs.YtdiecmkpbadgjaaGreatDoor
