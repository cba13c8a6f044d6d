/- What the theorem needs of the texts Zero11, Bare11, Key11, Size11, May11: no condition of its own. -/
import Derived.Test.YtkjkafgnnoidpaaGreatDoorPgm
set_option linter.unusedVariables false
set_option linter.unusedSimpArgs false
set_option linter.unnecessarySimpa false
set_option maxRecDepth 100000
set_option maxHeartbeats 4000000
namespace Go.Proofs.YtkjkafgnnoidpaaGreatDoor
open Go.Proofs.Tryz
open Go.RowKit Go.Maps Go.Shelf
theorem Qvr(a b c d e f:Prop):¬a\/(a/\¬b)\/(a/\b/\¬c)\/(a/\b/\c/\¬d)\/(a/\b/\c/\d/\¬e)\/(a/\b/\c/\d/\e/\¬f)\/(a/\b/\c/\d/\e/\f):=by
 by_cases a<;>by_cases b<;>by_cases c<;>by_cases d<;>by_cases e<;>by_cases f<;>simp[*]
theorem Qva(w:World)(v:Val)(sl so:Sl):Calls prog 193 #[aggV v sl so,aggV zeroV Sl.none Sl.none] w λe w'=>e=.returned (.bool (Qel v))/\Ext w w':=by
 obtain⟨k,b,i,t,l,J,ov⟩:=v;show Calls _ _ #[.agg #[.int .i64 k,.bool b,.int .i64 i,.string t,.slice sl.a l.length sl.c,.slice so.a J.length so.c],.agg #[.int .i64 0,.bool false,.int .i64 0,.string ByteArray.empty,.slice none 0 0,.slice none 0 0]] _ λe w'=>e=.returned (.bool (k==0 && !b&&i==0&&t.size==0&&l.length==0&&J.length==0))/\Ext w w'
 have X:=((fu w).alloc #[.int .i64 k,.bool b,.int .i64 i,.string t,.slice sl.a l.length sl.c,.slice so.a J.length so.c] 28).alloc #[.int .i64 0,.bool false,.int .i64 0,.string ByteArray.empty,.slice none 0 0,.slice none 0 0] 28;have z:=hY X;clear X;rcases Qvr (k=0) (b=false) (i=0) (t.size=0) (l.length=0) (J.length=0)with h |⟨h1,h⟩ |⟨h1,h2,h⟩ |⟨h1,h2,D,h⟩ |⟨h1,h2,D,I,h⟩ |⟨h1,h2,D,I,L,h⟩ |⟨h1,h2,D,I,L,U⟩
 ·have g:(k == 0)=false:=eu.2 h
  have N:(k != 0)=true:=eK.2 h;go_in;go_wp2_with fail;go_ret;exact⟨by simp[h],z.o⟩
 ·subst h1
  obtain rfl:b=true:=by simpa using h
  go_in;go_wp2_with fail;go_ret;exact⟨by simp,z.o⟩
 ·subst h1 h2
  have g:(i==0)=false:=eu.2 h;have N:(i != 0)=true:=eK.2 h;go_in;go_wp2_with fail;go_ret;exact⟨by simp[h],z.o⟩
 ·subst h1 h2 D
  have g:=Qbx h;go_in;go_wp2_with fail;go_ret;exact⟨by simp[h],z.o⟩
 ·subst h1 h2 D
  have R:=Qbc I;have g:((l.length:Int)==0)=false:=eu.2 (by omega);have N:((l.length:Int) != 0)=true:=eK.2 (by omega);go_in;go_wp2_with fail;go_ret;exact⟨by simp[h],z.o⟩
 ·subst h1 h2 D
  have R:=Qbc I;obtain rfl:=bR.1 L;have g:((J.length:Int)==0)=false:=eu.2 (by omega);have N:((J.length:Int) != 0)=true:=eK.2 (by omega);go_in;go_wp2_with fail;go_ret;exact⟨by simp[h],z.o⟩
 subst h1 h2 D;have R:=Qbc I;obtain rfl:=bR.1 L;obtain rfl:=bR.1 U;have Y:=hY I;clear I L U;go_in;go_wp2_with fail;go_loopw[5] (λZ wr=>Z=.int .i64 0/\Yd (Ext w wr)/\wr=(w.alloc (.cells #[.int .i64 0,.bool false,.int .i64 0,.string t,.slice sl.a 0 sl.c,.slice so.a 0 so.c] 28)).alloc (.cells #[.int .i64 0,.bool false,.int .i64 0,.string ByteArray.empty,.slice none 0 0,.slice none 0 0] 28)) (λ_ _=>0)
 case atStart=>exact⟨rfl,z,rfl⟩
 obtain⟨rfl,HY,rfl⟩:=hrel;go_wp2_with fail;go_loopw[6] (λv6 wr=>v6=.int .i64 0/\Yd (Ext w wr)/\wr=(w.alloc (.cells #[.int .i64 0,.bool false,.int .i64 0,.string t,.slice sl.a 0 sl.c,.slice so.a 0 so.c] 28)).alloc (.cells #[.int .i64 0,.bool false,.int .i64 0,.string ByteArray.empty,.slice none 0 0,.slice none 0 0] 28)) (λ_ _=>0)
 case atStart=>exact⟨rfl,z,rfl⟩
 obtain⟨rfl,HZ,rfl⟩:=hrel;go_wp2_with fail;go_ret;exact⟨by simp[Y.o],z.o⟩
theorem Qu5(w:World)(v:Val)(sl so:Sl):Calls prog 136 #[aggV v sl so] w λe w'=>e=.returned (.bool (Qel v))/\Ext w w':=by
 obtain⟨k,b,i,t,l,z,L⟩:=v;have I:=λW=>Qva W (.mk k b i t l z L) sl so
 have R:=hY I;have N:=hY ((fu w).alloc #[.int .i64 k,.bool b,.int .i64 i,.string t,.slice sl.a l.length sl.c,.slice so.a z.length so.c] 28);clear I;show Calls _ _ #[.agg #[.int .i64 k,.bool b,.int .i64 i,.string t,.slice sl.a l.length sl.c,.slice so.a z.length so.c]] _ _;go_in;go_wp2_with fail;refine(R.o _).mono ?_;rintro e w' ⟨rfl,D⟩;have J:=hY (N.o.trans D);clear D;go_wp2_with fail;go_ret;exact⟨rfl,J.o⟩
theorem Qvo(t:ByteArray):(t.size==0)=t.toList.isEmpty:=by
 by_cases h:t.size=0
 .rw [Qbc h];simp[h]
 rw[Qbx h];simp[h]
theorem len_nil(n:Nat):(n==0)=((n:Int)==0):=by
 by_cases h:n=0
 .simp [h]
 rw[eu.2 h,eu.2 (by omega)]
theorem Qu6(m:Mu):Qal m=(decide (1<=m.kd/\m.kd<=7)&&(m.kd==6||m.tk.toList.isEmpty)&&(m.kd==3||m.i==0)&&(m.kd==4||m.kd==7 || !m.had)&&(m.kd==4 || !m.has)&&(m.had||Qel m.was)&&(Qhx m.kd m.has||Qel m.v)&&(m.kd==7 ||((m.l.length:Int)==0))):=by
 unfold Qal Qbv Qhx;rw[Qvo,len_nil]
theorem Qu0{p q r:Prop}(h:p\/q)(k:r):q\/(p/\r):=h.elim (λz=>.inr ⟨z,k⟩) .inl
theorem Qu7{p q r s:Prop}(h:p\/q)(k:r)(l:s):(p/\r)\/(q/\s):=h.elim (λz=>.inl ⟨z,k⟩) λD=>.inr ⟨D,l⟩
theorem bt(b:Bool):b=true\/b=false:=by cases b<;>simp
theorem bf(b:Bool):b=false\/b=true:=by cases b<;>simp
theorem kinds{k:Int}{s:Bool}(h:1<=k/\k<=7){A B C D E F:Prop}(a:A)(b:B)(c:C)(d:D)(e:E)(f:F) :
  ((k==6)=false/\(k==3)=false/\(k==4)=false/\(k==7)=false/\Qhx k s=true/\A)\/
  ((k==6)=false/\(k==3)=false/\(k==4)=false/\(k==7)=false/\Qhx k s=false/\B)\/
  ((k==6)=false/\(k==3)=true/\(k==4)=false/\(k==7)=false/\Qhx k s=false/\C)\/
  ((k==6)=false/\(k==3)=false/\(k==4)=true/\(k==7)=false/\Qhx k s=s/\D)\/
  ((k==6)=true/\(k==3)=false/\(k==4)=false/\(k==7)=false/\Qhx k s=false/\E)\/
  ((k==6)=false/\(k==3)=false/\(k==4)=false/\(k==7)=true/\Qhx k s=false/\F):=by
 have z:k=1\/k=2\/k=3\/k=4\/k=5\/k=6\/k=7:=by omega
 rcases z with rfl|rfl|rfl|rfl|rfl|rfl|rfl<;>simp[Qhx,a,b,c,d,e,f]
theorem Qu9(w:World)(m:Mu)(c:MuS):Calls prog 89 #[QaG m c] w λe w'=>e=.returned (.bool (Qal m))/\Ext w w':=by
 obtain⟨r,hr⟩:∃r,Qal m=r:=⟨_,rfl⟩;rw[hr];obtain⟨vl,a8⟩:∃b,Qhx m.kd m.has=b:=⟨_,rfl⟩;rw[Qu6,a8]at hr;have HR:=hY hr;have b6:=hY λW=>Qu5 W m.was c.w1 c.w2
 have b7:=hY λW=>Qu5 W m.v c.v1 c.v2
 clear hr;obtain⟨gd,b5⟩:∃b,(m.kd==4||m.kd==7)=b:=⟨_,rfl⟩;have HG:=hY b5;have HL:=hY a8;clear b5 a8;go_in;go_upto_region 1 with fail;generalize b3:World.alloc _ _=W0;obtain⟨b4,a9,-⟩:=Qaz (m:=m) (c:=c) b3;have N:=hY b4;have U:=hY a9;have c0:=a9.kind;clear b3 b4 a9;by_cases z:m.kd<1
 ·have g:decide (m.kd<1)=true:=ej z
  have HO:=hY z;clear z;go_wp2_with fail;go_ret;exact⟨by rw[<-HR.o,eh (λh=>by have:=HO.o;omega)]<;>rfl,N.o⟩
 by_cases Y:7<m.kd
 ·have g:decide (m.kd<1)=false:=eh z
  have g':decide (7<m.kd)=true:=ej Y;have HO:=hY Y;clear z Y;go_wp2_with fail;go_ret;exact⟨by rw[<-HR.o,eh (λh=>by have:=HO.o;omega)]<;>rfl,N.o⟩
 have g:decide (m.kd<1)=false:=eh z;have g':decide (7<m.kd)=false:=eh Y;have HK:=hY (show 1<=m.kd/\m.kd<=7 by omega);have HD:=hY (ej HK.o);rw[HD.o]at HR;clear z Y HD;go_upto_region 4 with fail;clear g g' c0;go_cut [4] (λv w'=>v=.bool gd/\w'=W0)
 case first=>
  cases J:(m.kd==4)with
  |true=>go_wp2_with fail;go_meet;case rel=>exact⟨by rw[<-HG.o];simp[J],rfl⟩
  |false=>cases Z:(m.kd==7) <;>(go_wp2_with fail;go_meet;case rel=>exact⟨by rw[<-HG.o];simp[J,Z],rfl⟩)
 obtain⟨hv,hw⟩:=hcut;subst hv;obtain rfl:W0=wc:=hw.symm;have D:=U.o.c11;go_upto_region 5 with fail;go_cut [5] (λv w'=>v=.bool vl/\w'=W0)
 case first=>
  cases h1:(m.kd==1)with
  |true=>go_wp2_with fail;go_meet;case rel=>exact⟨by rw[<-HL.o];simp[Qhx,h1],rfl⟩
  | false=>cases h5:(m.kd == 5) with
    |true=>go_wp2_with fail;go_meet;case rel=>exact⟨by rw[<-HL.o];simp[Qhx,h1,h5],rfl⟩
    |false=>cases J:(m.kd==4) <;>(go_wp2_with fail;go_meet;case rel=>exact⟨by rw[<-HL.o];simp[Qhx,h1,J,h5],rfl⟩)
 obtain⟨hv,hw⟩:=hcut;subst hv;obtain rfl:W0=wc:=hw.symm;clear D;obtain⟨c0,c1,c2,c3,c4,c5,c6,c7,c8,c9,a6,D,a3,a0,a7,a2,a5,a1,a4⟩:=U.o.c19;simp only[Nat.zero_add]at c0 c1 c2 c3 c4 c5 c6 c7 c8 c9 a6 D a3 a0 a7 a2 a5 a1 a4;have X:=Qu7 (bt m.has) (bt ((m.l.length:Int)==0)) (Qu0 (bt (Qel m.v)) (bt ((m.l.length:Int)==0)));have zl:=Qu0 (bt (Qel m.was)) (Qu0 (bt (Qel m.v)) (bt ((m.l.length:Int)==0)));have hz:=Qu0 (bf m.had) (Qu0 (bf m.has) zl);have cP:=Qu0 (bt m.tk.toList.isEmpty) (Qu0 (bt (m.i==0)) (Qu0 (bf m.had) (Qu0 (bf m.has) (Qu0 (bt (Qel m.was)) (bt ((m.l.length:Int)==0))))));have cD:=Qu0 (bt m.tk.toList.isEmpty) (Qu0 (bt (m.i==0)) hz);have cI:=Qu0 (bt m.tk.toList.isEmpty) hz;have cM:=Qu0 (bt (m.i==0)) hz;have cC:=Qu0 (bt m.tk.toList.isEmpty) (Qu0 (bt (m.i==0)) (Qu7 (bt m.had) X (Qu0 (bt (Qel m.was)) X)));have cS:=Qu0 (bt m.tk.toList.isEmpty) (Qu0 (bt (m.i==0)) (Qu0 (bf m.has) (Qu7 (bt m.had) (bt (Qel m.v)) (Qu0 (bt (Qel m.was)) (bt (Qel m.v))))));have b8:=kinds (s:=m.has) HK.o cP cD cI cC cM cS;clear X zl hz cP cD cI cM cC cS;rcases b8 with⟨h6,h3,J,Z,hV,g1 |⟨g1,g2 |⟨g2,L |⟨L,I |⟨I,R |⟨R,g|g⟩⟩⟩⟩⟩⟩ |
  ⟨h6,h3,J,Z,hV,g1 |⟨g1,g2 |⟨g2,L |⟨L,I |⟨I,R |⟨R,g6 |⟨g6,g|g⟩⟩⟩⟩⟩⟩⟩ |
  ⟨h6,h3,J,Z,hV,g1 |⟨g1,L |⟨L,I |⟨I,R |⟨R,g6 |⟨g6,g|g⟩⟩⟩⟩⟩⟩ |
  ⟨h6,h3,J,Z,hV,g1 |⟨g1,g2 |⟨g2,⟨L,⟨I,g|g⟩ |⟨I,g6 |⟨g6,g|g⟩⟩⟩ |⟨L,R |⟨R,⟨I,g|g⟩ |⟨I,g6 |⟨g6,g|g⟩⟩⟩⟩⟩⟩⟩ |
  ⟨h6,h3,J,Z,hV,g2 |⟨g2,L |⟨L,I |⟨I,R |⟨R,g6 |⟨g6,g|g⟩⟩⟩⟩⟩⟩ |
  ⟨h6,h3,J,Z,hV,g1 |⟨g1,g2 |⟨g2,I |⟨I,⟨L,g6|g6⟩ |⟨L,R |⟨R,g6|g6⟩⟩⟩⟩⟩⟩
 all_goals (
  have hG:=HG.o;have hU:=HL.o;rw[J,Z]at hG;rw[hV]at hU;subst hG hU;go_wp2_with fail
  repeat (
   first|refine(b6.o _).mono ?_|refine(b7.o _).mono ?_
   rintro e W1 ⟨rfl,b0⟩
   replace N:=hY (N.o.trans b0)
   replace U:=hY (U.o.ext b0)
   clear b0 c0 c1 c2 c3 c4 c5 c6 c7 c8 c9 a6 D a3 a0 a7 a2 a5 a1 a4;obtain⟨c0,c1,c2,c3,c4,c5,c6,c7,c8,c9,a6,D,a3,a0,a7,a2,a5,a1,a4⟩:=U.o.c19;simp only[Nat.zero_add]at c0 c1 c2 c3 c4 c5 c6 c7 c8 c9 a6 D a3 a0 a7 a2 a5 a1 a4;go_wp2_with fail)
  go_ret;have hR:=HR.o;simp only[h6,h3,J,Z,hV, *,Bool.and_true,Bool.true_and,Bool.false_and,Bool.and_false,Bool.or_true,Bool.true_or,Bool.false_or,Bool.or_false,Bool.not_true,Bool.not_false]at hR;subst hR;exact⟨by simp[Act.put]<;>rfl,N.o⟩)
theorem Qu3(w:World)(p:ByteArray):Calls prog 137 #[.string p] w λe w'=>e=.returned (.bool (Qf8 p))/\w'=w:=by
 by_cases h:p.size<=64
 ·have z:Qf8 p=Lib.validD p.data.toList:=by unfold Qf8;rw [ej h];rfl
  have HB:=hY z;have D:=hY (Qds w p (by omega));have g:((p.size:Int)<=64):=by omega
  clear z h;go_in;go_wp2_with fail;refine D.o.mono ?_;rintro e w' ⟨rfl,rfl⟩;go_wp2_with fail;go_ret;exact⟨by rw[HB.o]<;>rfl,rfl⟩
 have z:Qf8 p=false:=by unfold Qf8;rw[eh h];rfl
 have HB:=hY z;have g:¬((p.size:Int)<=64):=by omega
 clear z h;go_in;go_wp2_with fail;go_ret;exact⟨by rw[HB.o]<;>rfl,rfl⟩
theorem Qvf(w:World)(m:Mu)(c:MuS)(Z:m.k.size<=maxLen):Calls prog 90 #[QaG m c] w λe w'=>e=.returned (.bool (QfU m.kd m.k m.tk m.had))/\Ext w w':=by
 by_cases U:m.kd=6
 ·have R:QfU m.kd m.k m.tk m.had=(Qf8 m.k && Qf8 m.tk):=by unfold QfU;rw [em U]
  have Y:=hY R;have e6:(m.kd==6)=true:=by simp[U]
  clear R U Z;go_in;go_upto_region 1 with fail;generalize I:World.alloc _ _=W0;obtain⟨D,z,L⟩:=Qaz (m:=m) (c:=c) I;have J:=hY D;have c0:=z.kind;have c1:=z.c1;have c2:=z.c2;clear I D z L;go_wp2_with fail;refine(Qu3 W0 m.k).mono ?_;rintro e w1 ⟨rfl,rfl⟩;rcases aQ (Qf8 m.k)with X|X
  ·have HB:=hY X
   rw[X];clear X;go_wp2_with fail;refine(Qu3 _ m.tk).mono ?_;rintro e w2 ⟨rfl,rfl⟩;go_wp2_with fail;go_ret;exact⟨by rw[Y.o,HB.o]<;>rfl,J.o⟩
  have HB:=hY X;rw[X];clear X;go_wp2_with fail;go_ret;exact⟨by rw[Y.o,HB.o]<;>rfl,J.o⟩
 have e6:(m.kd==6)=false:=by simp[U]
 by_cases N:m.kd=7/\m.k.size=0
 ·have e7:(m.kd == 7)=true:=by simp [N.1]
  have R:QfU m.kd m.k m.tk m.had=!m.had:=by unfold QfU;rw[ef U,em N]
  have Y:=hY R;have g0:=Qbc N.2;clear R U Z N;go_in;go_upto_region 1 with fail;generalize I:World.alloc _ _=W0;obtain⟨D,z,L⟩:=Qaz (m:=m) (c:=c) I;have J:=hY D;have c0:=z.kind;have c1:=z.c1;have c4:=z.c4;clear I D z L;go_wp2_with fail;go_ret;exact⟨by rw[Y.o]<;>rfl,J.o⟩
 have R:QfU m.kd m.k m.tk m.had=(Qbd m.k==0):=by unfold QfU;rw[ef U,ef N]
 have Y:=hY R;have HM:=hY λW=>Qpd W m.k Z
 have a0:(m.kd==7)=false\/(m.kd==7)=true/\¬m.k.size=0:=by
  by_cases h7:m.kd=7
  .exact .inr ⟨by simp[h7],λh=>N ⟨h7,h⟩⟩
  exact .inl (by simp[h7])
 clear R U N Z;rcases a0 with e7 |⟨e7,h0⟩
 ·go_in
  go_upto_region 1 with fail;generalize I:World.alloc _ _=W0;obtain⟨D,z,L⟩:=Qaz (m:=m) (c:=c) I;have J:=hY D;have c0:=z.kind;have c1:=z.c1;clear I D z L;go_wp2_with fail;refine(HM.o _).mono ?_;rintro e w1 ⟨rfl,rfl⟩;go_wp2_with fail;go_ret;exact⟨by rw[Y.o]<;>rfl,J.o⟩
 have g0:=Qbx h0;clear h0;go_in;go_upto_region 1 with fail;generalize I:World.alloc _ _=W0;obtain⟨D,z,L⟩:=Qaz (m:=m) (c:=c) I;have J:=hY D;have c0:=z.kind;have c1:=z.c1;clear I D z L;go_wp2_with fail;refine(HM.o _).mono ?_;rintro e w1 ⟨rfl,rfl⟩;go_wp2_with fail;go_ret;exact⟨by rw[Y.o]<;>rfl,J.o⟩
theorem Qu8(n:Nat):∀(m:Mu) (c:MuS) (w:World),SizeOf.sizeOf m<=n->RMu w (Lt w) m c->QaT m<=1100000->Calls prog 52 #[QaG m c] w λe w'=>e=.returned (.int .i64 (QaT m:Int))/\Ext w w':=by
 induction n with
 |zero=>intro m c w h;have:=Mu.Qb7 m;omega
 | succ n ih=>
   intro m c w hn hm hs;have HI:=hY ih;have HM:=hY hm;have b6:=hm.len;have a0:=hY (Qgn m);have HS:=hY hs;have HN:=hY hn;clear ih hm hs hn;go_in;go_upto_region 1 with fail;generalize J:World.alloc _ _=W0;obtain⟨U,a1,-⟩:=Qaz (m:=m) (c:=c) J;have a9:=hY U;have b5:w.heap.size<W0.heap.size:=by rw[<-J,ew];omega
   have a6:W0.cell? ⟨w,8+10,none⟩=some (.slice c.s.a m.l.length c.s.c):=a1 18 _ rfl;clear J U a1;go_wp2_with fail;go_loopw[3,4] (λv3 v4 wr=>∃j:Nat,v4=.int .i64 (j:Int)/\v3=.int .i64 ((1+QaC (m.l.take j):Nat):Int)/\j<=m.l.length/\Yd (Ext W0 wr)) (λ_ v _=>m.l.length -(intOf v).toNat)
   case atStart=>exact⟨0,rfl,by simp[QaC],av _,hY (fu W0)⟩
   obtain⟨j,rfl,rfl,hj,L⟩:=hrel;have R:wr.cell? ⟨w,8+10,none⟩=some (.slice c.s.a m.l.length c.s.c):=(L.o.cell b5).trans a6;have HX:=hY (a9.o.trans L.o);by_cases a2:j<m.l.length
   ·have l1:(j:Int)<(m.l.length:Int):=by omega
    have c0:decide ((j:Int)<(m.l.length:Int))=true:=ej l1;have l0:(0:Int)<=(j:Int):=by omega
    obtain⟨x,hx⟩:∃x,m.l[j]? = some x:=⟨_,ac a2⟩;obtain⟨b,o,y,a8,I,b7,b8,Y,a4⟩:=HM.o.at hx;have I:b<w:=I;have a5:=hY (Y.agree (HX.o.agree λ_ h=>h) I);have b0:QaT x<=QaC m.l:=by
     have h1:=Qdm hx;have h2:=Qfb m.l (j+1);omega
    have Z:1+QaC m.l<=1100000:=by rw[<-a0.o];exact HS.o
    have z:=HI.o x y wr (by have:=Mu.QtV hx;have:=HN.o;omega) ((a4.agree (HX.o.agree λ_ h=>h)).mono λb hb=>ab hb HX.o.size) (by omega);have N:=hY z;have b4:=hY (Qdm hx);have D:=Qfb m.l (j+1);have X:wrap64 (1+(QaC (m.l.take j):Int)+(QaT x:Int))=((1+QaC (m.l.take (j+1)):Nat):Int):=by
     unfold wrap64;rw[b4.o]at D ⊢;omega
    have b3:=hY X;rw[a8]at R;clear a4 Y b0 Z z D X hx;go_wp2_with(refine Qak rfl (.tmp 16) rfl b (o+j*19) rfl x y a5.o ?_);refine N.o.mono ?_;rintro e w2 ⟨rfl,a3⟩;have a7:=hY (L.o.trans a3);clear a3;go_wp2_with fail;go_roundw
    case rel=>exact⟨j+1,by go_num,by rw[b3.o],a2,a7⟩
    simp[intOf];omega
   obtain rfl:j=m.l.length:=by omega
   have l1:decide ((m.l.length:Int)<(m.l.length:Int))=false:=eh (by omega);have HT:=hY (show((1+QaC (m.l.take m.l.length):Nat):Int)=(QaT m:Int)by rw[aP,a0.o]);go_wp2_with fail;go_ret;exact⟨by rw[HT.o]<;>rfl,HX.o⟩
variable{c:MuS}{w:World}
theorem Qvc{m:Mu}(h:RMu w (Lt w) m c)(hs:QaT m<=1100000):Calls prog 52 #[QaG m c] w λe w'=>e=.returned (.int .i64 (QaT m:Int))/\Ext w w':=Qu8 _ m c w (an _) h hs
theorem Qvk{m:Mu}(h:Qal m=true):(m.has||m.kd==1||m.kd==5)=Qhx m.kd m.has:=by
 rw[Qu6]at h;simp only[Bool.and_eq_true]at h;obtain⟨⟨⟨⟨-,h⟩,-⟩,-⟩,-⟩:=h;unfold Qhx;cases hs:m.has
 .simp
 rw[hs]at h;have:m.kd=4:=by simpa using h
 simp[this]
theorem Qu4{m:Mu}{d:Nat}(hd:d<=7)(hm:RMu w (Lt w) m c)(ht:QcF m<=1100000)
  (ih:d<=6->∀(x:Mu) (y:MuS) (W:World),RMu W (Lt W) x y->QcF x<=1100000->Calls prog 53 #[QaG x y,.int .i64 ((d+1:Nat):Int)] W λe w'=>e=.returned (.int .i64 (QaW x (d+1)))/\Ext W w') :
  Calls prog 53 #[QaG m c,.int .i64 (d:Int)] w λe w'=>e=.returned (.int .i64 (QaW m d))/\Ext w w':=by
 have HI:=hY ih;have HM:=hY hm;have HT:=hY ht;have HD:=hY hd;clear ih hm ht hd;go_in;go_upto_region 1 with fail;generalize b8:World.alloc _ _=W0;obtain⟨d5,b5,f0⟩:=Qaz (m:=m) (c:=c) b8;have f1:=hY d5;have d4:=hY b5;clear b8 d5 b5 f0;go_wp2_with(refine Qak rfl (.tmp 2) rfl w.heap.size 0 rfl m c d4.o ?_);refine(Qu9 _ m c).mono ?_;rintro e w1 ⟨rfl,a7⟩;have a9:=hY (f1.o.trans a7);have c2:=hY (d4.o.ext a7);clear a7;rcases aQ (Qal m)with hb|hb
 rotate_left
 ·have J:=hY (Quo (d:=d) hb)
  rw[hb];clear hb;go_wp2_with fail;go_ret;exact⟨by rw[J.o]<;>rfl,a9.o⟩
 have I:=hY hb;rw[hb];clear hb;by_cases h6:6<d
 ·have g:decide ((6:Int)<(d:Int))=true:=ej (by omega)
  have J:=hY (Qum (d:=d) I.o h6);clear h6;go_wp2_with fail;go_ret;exact⟨by rw[J.o]<;>rfl,a9.o⟩
 have H6:=hY h6;have g6:decide ((6:Int)<(d:Int))=false:=eh (by omega);clear h6;go_wp2_with(refine Qak rfl (.tmp 2) rfl w.heap.size 0 rfl m c c2.o ?_);refine(Qvf _ m c HM.o.parts.2.2.1).mono ?_;rintro e w3 ⟨rfl,a1⟩;have X:=hY (a9.o.trans a1);have a4:=hY (c2.o.ext a1);clear a1 g6;rcases aQ (QfU m.kd m.k m.tk m.had)with hk|hk
 rotate_left
 ·have J:=hY (Qun (d:=d) I.o H6.o hk)
  rw[hk];clear hk;go_wp2_with fail;go_ret;exact⟨by rw[J.o]<;>rfl,X.o⟩
 have HK:=hY hk;rw[hk];clear hk;have b6:∀W,Ext w W->RMu W (Lt W) m c:=λW hW=>HM.o.nw (fv hW)
 have b7:=hY b6;clear b6;have c4:=a4.o.c4;obtain⟨c5,c6,c7,c8,c9,g4⟩:=a4.o.QnS;go_upto_if 18 with fail;go_cut [] (λwc=>Ext w3 wc/\(m.had&&Qbw m.was != 0)=false)
 case first=>
  rcases aQ m.had with hh|hh
  ·rw [hh]
   go_wp2_with fail;refine(QmM (d:=m.was) (b7.o _ X.o).parts.1 (aj (Qka m).2 HT.o)).mono ?_;rintro e w4 ⟨rfl,a0⟩;have R:=hY (X.o.trans a0);have f3:=hY a0;by_cases D:Qbw m.was=0
   ·have HF:=hY D
    rw[D];clear D hh a0;go_wp2_with fail;go_meet;exact⟨f3.o,by rw[HF.o];simp⟩
   have HF:=hY D;have J:=hY (lookW (d:=d) I.o H6.o HK.o hh D);have g0:(Qbw m.was != 0)=true:=by simp[D]
   clear D hh a0;go_wp2_with fail;go_ret;exact⟨by rw[J.o]<;>rfl,R.o⟩
  rw[hh];go_wp2_with fail;go_meet;exact⟨fu _,by rw[hh];rfl⟩
 obtain⟨a8,hs⟩:=hcut;have R:=hY (X.o.trans a8);have HS:=hY hs;have L:=hY (a4.o.ext a8);clear a8 hs c4 c5 c6 c7 c8 c9 g4;have c0:=L.o.kind;have e4:=L.o.c11;obtain⟨f6,e7,g5,f5,f9,f2⟩:=L.o.v6;have a3:=Qvk I.o;obtain⟨vl,a2⟩:∃b,Qhx m.kd m.has=b:=⟨_,rfl⟩;have d0:=hY a2;rw[a2]at a3;have g3:=hY a3;clear a3 a2;go_upto_region 11 with fail;go_cut [36] (λv w'=>v=.bool vl/\w'=wc)
 case first=>
  have g8:(m.has=true/\vl=true)\/(m.has=false/\(m.kd==1)=true/\vl=true)\/(m.has=false/\(m.kd==1)=false/\(m.kd==5)=true/\vl=true)\/(m.has=false/\(m.kd==1)=false/\(m.kd==5)=false/\vl=false):=by
   have h:=g3.o;cases h1:m.has<;>cases h2:(m.kd==1)<;>cases h3:(m.kd==5)<;>rw[h1,h2,h3]at h<;>simp_all
  rcases g8 with⟨e1,N⟩ |⟨e1,e2,N⟩ |⟨e1,e2,e3,N⟩ |⟨e1,e2,e3,N⟩
  all_goals (
   have EV:=hY N;clear N;go_wp2_with fail;go_meet;exact⟨by rw[EV.out],rfl⟩)
 obtain⟨hv,hw⟩:=hcut;subst hv;clear c0 e4;rename_i wz;subst hw;go_upto_if 36 with fail;go_cut [] (λw'=>Ext wc w'/\(vl&&Qbw m.v != 0)=false)
 case first=>
  rcases aQ vl with N|N
  ·rw [N]
   go_wp2_with fail;refine(QmM (d:=m.v) (b7.o _ R.o).parts.2.1 (aj (Qka m).1 HT.o)).mono ?_;rintro e w5 ⟨rfl,Y⟩;have b0:=hY (R.o.trans Y);have f8:=hY Y;by_cases D:Qbw m.v=0
   ·have HF:=hY D
    rw[D];clear D Y;go_wp2_with fail;go_meet;exact⟨f8.o,by rw[HF.o];simp⟩
   have HF:=hY D;have J:=hY (Quq (d:=d) I.o H6.o HK.o HS.o (d0.o.trans N) D);have g0:(Qbw m.v != 0)=true:=by simp[D]
   clear D Y;go_wp2_with fail;go_ret;exact⟨by rw[J.o]<;>rfl,b0.o⟩
  rw[N];go_wp2_with fail;go_meet;exact⟨fu _,by rw[N];rfl⟩
 obtain⟨Z,c1⟩:=hcut;have b0:=hY (R.o.trans Z);have f7:wc.cell? ⟨w,8+10,none⟩=some (.slice c.s.a m.l.length c.s.c):=(L.o.ext Z) 18 _ rfl;have g7:w.heap.size<wc.heap.size:=(L.o.ext Z).lt;have HC:=hY (Qup I.o H6.o HK.o HS.o (by rw[d0.o];exact c1));have g9:=HM.o.len;have b4:wrap64 ((d:Int)+1)=((d+1:Nat):Int):=by
  have:=H6.o;unfold wrap64;omega
 have f4:=hY b4;clear Z c1 f6 e7 g5 f5 f9 f2 b4;go_wp2_with fail;go_loopw[7] (λv7 wr=>∃j:Nat,v7=.int .i64 (j:Int)/\j<=m.l.length/\Yd (Ext w wr/\Ext wc wr)/\Yd (Qce (m.l.drop j) (d+1)=Qce m.l (d+1))) (λv _=>m.l.length -(intOf v).toNat)
 case atStart=>exact⟨0,rfl,av _,hY ⟨b0.o,fu _⟩,hY rfl⟩
 obtain⟨j,rfl,hj,HX,HJ⟩:=hrel;have d3:wr.cell? ⟨w,8+10,none⟩=some (.slice c.s.a m.l.length c.s.c):=(HX.o.2.cell g7).trans f7;by_cases d8:j<m.l.length
 ·have l1:(j:Int)<(m.l.length:Int):=by omega
  have i0:decide ((j:Int)<(m.l.length:Int))=true:=ej l1;have l0:(0:Int)<=(j:Int):=by omega
  obtain⟨x,hx⟩:∃x,m.l[j]? = some x:=⟨_,ac d8⟩;obtain⟨b,o,y,e8,e6,i1,i2,d6,c3⟩:=HM.o.at hx;have e0:=hY (d6.ext HX.o.1);have U:=HI.o (by have:=H6.o;omega) x y wr (c3.nw (fv HX.o.1)) (aj (Qgp hx) (aj (Qr7 m) HT.o));have a5:=hY U;have z:=Qo8 hx (d+1);rw[HJ.o]at z;have b3:=hY z;clear c3 d6 U hx e6 z;rw[e8]at d3;go_wp2_with(refine Qak rfl (.tmp 53) rfl b (o+j*19) rfl x y e0.o ?_);rw[f4.o];refine a5.o.mono ?_;rintro e w2 ⟨rfl,a6⟩;have d7:=hY (And.intro (HX.o.1.trans a6) (HX.o.2.trans a6));clear a6;by_cases D:QaW x (d+1)=0
  ·have z:=b3.o
   rw[ef (λh=>h D)]at z;have HA:=hY z.symm;rw[D];clear D z;go_wp2_with fail;go_roundw
   case rel=>exact⟨j+1,by go_num,d8,d7,HA⟩
   simp[intOf];omega
  have z:=b3.o;rw[em D]at z;have J:=hY (HC.o.trans z);have g0:(QaW x (d+1) != 0)=true:=by simp[D]
  clear D z;go_wp2_with fail;go_ret;exact⟨by rw[J.o]<;>rfl,d7.o.1⟩
 obtain rfl:j=m.l.length:=by omega
 have l1:decide ((m.l.length:Int)<(m.l.length:Int))=false:=eh (by omega);have J:=hY (show QaW m d=0 by rw[HC.o,<-HJ.o,cq];rfl);go_wp2_with fail;go_ret;exact⟨by rw[J.o]<;>rfl,HX.o.1⟩
theorem Qvb(n:Nat):∀(d:Nat) (m:Mu) (c:MuS) (w:World),d+n=7->RMu w (Lt w) m c->QcF m<=1100000->Calls prog 53 #[QaG m c,.int .i64 (d:Int)] w λe w'=>e=.returned (.int .i64 (QaW m d))/\Ext w w':=by
 induction n with
 |zero=>exactλd m c w hd D z=>Qu4 (by omega) D z λh=>by omega
 |succ n ih=>exactλd m c w hd D z=>Qu4 (by omega) D z λh x y W I J=>ih (d+1) x y W (by omega) I J
theorem Qve{m:Mu}(hm:RMu w (Lt w) m c)(ht:QcF m<=1100000):Calls prog 26 #[QaG m c] w λe w'=>e=.returned (.int .i64 (QbE m))/\Ext w w':=by
 obtain⟨r,Y⟩:∃r,QbE m=r:=⟨_,rfl⟩;have hs:=aj (QrH m) ht;rw[Y];unfold QbE at Y;have HR:=hY Y;have HS:=hY hs;have HM:=hY hm;have HT:=hY ht;clear Y hs hm ht;go_in;go_upto_region 1 with fail;generalize U:World.alloc _ _=W0;obtain⟨R,X,-⟩:=Qaz (m:=m) (c:=c) U;have L:=hY R;have N:=hY X;clear U R X;go_wp2_with(refine Qak rfl (.tmp 1) rfl w.heap.size 0 rfl m c N.o ?_);refine(Qvc (HM.o.nw (fv L.o)) HS.o).mono ?_;rintro e w1 ⟨rfl,D⟩;have I:=hY (L.o.trans D);have a0:=hY (N.o.ext D);clear D;by_cases h:64<QaT m
 ·have g:decide ((64:Int)<(QaT m:Int))=true:=ej (by omega)
  have Z:=hY h;clear h;go_wp2_with fail;go_ret;exact⟨by rw[<-HR.o,em Z.o]<;>rfl,I.o⟩
 have g:decide ((64:Int)<(QaT m:Int))=false:=eh (by omega);have Z:=hY h;have z:=Qvb 6 1 m c w1 rfl (HM.o.nw (fv I.o)) HT.o;have HC:=hY z;clear h z;go_wp2_with(refine Qak rfl (.tmp 1) rfl w.heap.size 0 rfl m c a0.o ?_);refine HC.o.mono ?_;rintro e w2 ⟨rfl,J⟩;have a1:=hY (I.o.trans J);clear J;go_wp2_with fail;go_ret;exact⟨by rw[<-HR.o,ef Z.o]<;>rfl,a1.o⟩
end Go.Proofs.YtkjkafgnnoidpaaGreatDoor
