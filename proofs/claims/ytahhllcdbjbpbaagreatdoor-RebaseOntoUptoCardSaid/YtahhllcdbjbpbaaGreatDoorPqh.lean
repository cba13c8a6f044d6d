/- Steps to the theorem. -/
import Derived.Test.YtahhllcdbjbpbaaGreatDoorPqg
set_option linter.all false
set_option maxRecDepth 100000
set_option maxHeartbeats 2000000
namespace Go.Proofs.YtahhllcdbjbpbaaGreatDoor
open Go.Proofs.Tryz
open Go.RowKit Go.Maps Go.Shelf
variable{w:AB}
def pf{k:AA}(hk:k.size<=maxLen)(I:DD w):Calls prog 211 #[k] w λe w'=>e=.returned (Lib.validD k.data.toList)/\Nw w w':=by
 have N:=I.val w (G5.refl w) k hk;have HV:=hY N;clear N I;go_in;go_wp2_with fail;refine HV.o.mono ?_;rintro e w' ⟨rfl,Z⟩;have HN:=hY Z;clear Z;go_wp2_with fail;go_ret;exact⟨rfl,HN.o⟩
def R2(p:AA)(N:DD w):Calls prog 184 #[p] w λe w'=>e=.returned (CU p)/\Nw w w':=by
 by_cases h:p.size<=64
 ·have I:CU p=Lib.validD p.data.toList:=by unfold CU;rw [eO h];rfl
  obtain⟨HB,HV⟩:=Yb I (pf (w:=w) (k:=p) (an h oN) N);have g:((p.size:Int)<=64):=oM
  clear I N h;go_in;go_wp2_with fail;refine HV.o.mono ?_;rintro e w' ⟨rfl,Z⟩;have HN:=hY Z;clear Z;go_wp2_with fail;go_ret;exact⟨by rw[HB.o]<;>rfl,HN.o⟩
 have I:CU p=false:=by unfold CU;rw[eM h];rfl
 have HB:=hY I;have g:¬((p.size:Int)<=64):=oM
 clear I N h;go_in;go_wp2_with fail;go_ret;exact⟨by rw[HB.o]<;>rfl,gE _ _⟩
variable{c:AR}
def Ay.c1{b:Nat}{m:Mu}(h:Ay w b 0 m c):w.cell? ⟨b,1,none⟩=some (.string m.k):=h 1 _ rfl
def Ay.c2{b:Nat}{m:Mu}(h:Ay w b 0 m c):w.cell? ⟨b,2,none⟩=some (.string m.tk):=h 2 _ rfl
def jl(m:Mu)(c:AR)(hk:m.k.size<=maxLen)(hL:DD w):Calls prog 158 #[Ap m c] w λe w'=>e=.returned (Bb m.kd m.k m.tk m.had)/\Nw w w':=by
 by_cases h6:m.kd=6
 ·have hr:Bb m.kd m.k m.tk m.had=(CU m.k && CU m.tk):=by unfold Bb;rw [eN h6]
  have HR:=hY hr;have e6:(m.kd==6)=true:=by simp[h6]
  clear hr h6 hk;go_in;go_upto_region 1 with fail;generalize Z:World.alloc _ _=W0;obtain⟨N,I,a1⟩:=Bh (m:=m) (c:=c) Z;have a0:=hY (gA N);have c0:=I.kind;have c1:=I.c1;obtain⟨a5,HL⟩:=Yb I (hL.nw (gA N));have l0:=I.lt;clear Z N I a1 hL;go_wp2_with fail;refine(R2 m.k HL.o).mono ?_;rintro e w1 ⟨rfl,hn⟩;obtain⟨a2,a3⟩:=Yb (a0.o.trans hn) (HL.o.nw hn);have d2:=(hn.cell l0 (λh=>h)).trans a5.o.c2;clear hn c0 c1;rcases be (CU m.k)with hb|hb
  ·have HB:=hY hb
   rw[hb];clear hb;go_wp2_with fail;refine(R2 m.tk a3.o).mono ?_;rintro e w2 ⟨rfl,hn⟩;have a4:=hY (a2.o.trans hn);clear hn;go_wp2_with fail;go_ret;exact⟨by rw[HR.o,HB.o]<;>rfl,a4.o⟩
  have HB:=hY hb;rw[hb];clear hb;go_wp2_with fail;go_ret;exact⟨by rw[HR.o,HB.o]<;>rfl,a2.o⟩
 have e6:(m.kd==6)=false:=by simp[h6]
 by_cases h7:m.kd=7
 ·have e7:(m.kd == 7)=true:=by simp [h7]
  by_cases h0:m.k.size=0
  ·have hr:Bb m.kd m.k m.tk m.had=!m.had:=by unfold Bb;rw [eL h6,eN ⟨h7,h0⟩]
   have HR:=hY hr;have g0:=Dm h0;clear hr h6 hk h7 hL h0;go_in;go_upto_region 1 with fail;generalize Z:World.alloc _ _=W0;obtain⟨N,I,a1⟩:=Bh (m:=m) (c:=c) Z;have a0:=hY (gA N);have c0:=I.kind;have c1:=I.c1;have c4:=I.c4;clear Z N I a1;go_wp2_with fail;go_ret;exact⟨by rw[HR.o]<;>rfl,a0.o⟩
  have hr:Bb m.kd m.k m.tk m.had=(AT m.k==0):=by unfold Bb;rw[eL h6,eL λh=>h0 h.2]
  have HR:=hY hr;have g0:=EG h0;have HK:=hY hk;clear hr h6 hk h7 h0;go_in;go_upto_region 1 with fail;generalize Z:World.alloc _ _=W0;obtain⟨N,I,a1⟩:=Bh (m:=m) (c:=c) Z;have a0:=hY (gA N);have c0:=I.kind;have c1:=I.c1;have HL:=hY (hL.nw (gA N));clear Z N I a1 hL;go_wp2_with fail;refine(Li HK.o HL.o).mono ?_;rintro e w1 ⟨rfl,hn⟩;have a2:=hY (a0.o.trans hn);clear hn c0 c1;go_wp2_with fail;go_ret;exact⟨by rw[HR.o]<;>rfl,a2.o⟩
 have e7:(m.kd==7)=false:=by simp[h7]
 have hr:Bb m.kd m.k m.tk m.had=(AT m.k==0):=by unfold Bb;rw[eL h6,eL λh=>h7 h.1]
 obtain⟨HR,HK⟩:=Yb hr hk;clear hr h6 hk h7;go_in;go_upto_region 1 with fail;generalize Z:World.alloc _ _=W0;obtain⟨N,I,a1⟩:=Bh (m:=m) (c:=c) Z;have a0:=hY (gA N);have c0:=I.kind;have c1:=I.c1;have HL:=hY (hL.nw (gA N));clear Z N I a1 hL;go_wp2_with fail;refine(Li HK.o HL.o).mono ?_;rintro e w1 ⟨rfl,hn⟩;have a2:=hY (a0.o.trans hn);clear hn c0 c1;go_wp2_with fail;go_ret;exact⟨by rw[HR.o]<;>rfl,a2.o⟩
variable{j:Nat}
def P9{l:List Mu}{m:Mu}(h:l[j]? = some m)(d:Nat):Cx (l.drop j) d=if Ao m d≠0 then Ao m d else Cx (l.drop (j+1)) d:=by
 obtain⟨h1,h2⟩:=ai.1 h;rw[aE h1,h2,Cx]
abbrev El(code:Int):AC:=.panicked [{ v:=.iface 214 (.agg #[.int .i64 code]),recovered:=false }]
def DI(code:Int):AC:=if code=0 then .returned (.tuple #[])else El code
def Lc(w:AB)(code:Int):Calls prog 156 #[true,code] w λe w'=>e=.returned (.tuple #[])/\w'=w:=by
 go_in;go_wp2_with fail;refine bodyPost_end (v:=.tuple #[]) (by simp[results,results156,go_sem]) rfl ?_;exact⟨rfl,rfl⟩
def LW(w:AB)(code:Int):Calls prog 156 #[false,code] w λe w'=>e=El code/\w'=w:=by
 go_in;go_wp2_with fail;exact⟨rfl,rfl,rfl⟩
def Oe(w:AB)(code:Int):Calls prog 159 #[code] w λe w'=>e=DI code/\w'=w:=by
 by_cases h:code=0
 ·subst h
  go_in;go_wp2_with fail;refine(Lc w 0).mono ?_;rintro e w' ⟨rfl,rfl⟩;go_wp2_with fail;refine bodyPost_end (v:=.tuple #[]) (by simp[results,results159,go_sem]) rfl ?_;exact⟨rfl,rfl⟩
 have N:(code==0)=false:=eP.2 h;have I:=hY (show DI code=El code by unfold DI;rw[eL h]);go_in;go_wp2_with fail;refine(LW w code).mono ?_;rintro e w' ⟨rfl,rfl⟩;go_wp2_with fail;exact⟨rfl,I.o.symm,rfl⟩
section
variable{m : Mu}{d : Nat}
def GJ:Ao m d=if !BB m then 9 else if 6<d then 5 else if !Bb m.kd m.k m.tk m.had then 8 else if m.had&&AY m.was != 0 then AY m.was else if BP m.kd m.has&&AY m.v != 0 then AY m.v else Cx m.l (d+1):=by
 obtain⟨kd,k,tk,i,N,I,Z,v,l⟩:=m;rw[Ao];rfl
def Nh(I:BB m=false):Ao m d=9:=by rw[GJ,I];rfl
def Pg(I:BB m=true)(h:6<d):Ao m d=5:=by rw[GJ,I,eN h];rfl
def Rl(I:BB m=true)(h:¬6<d)(N:Bb m.kd m.k m.tk m.had=false):Ao m d=8:=by rw[GJ,I,eL h,N];rfl
def lookW(N:BB m=true)(h:¬6<d)(hk:Bb m.kd m.k m.tk m.had=true)(Z:m.had=true)(I:AY m.was≠0):Ao m d=AY m.was:=by
 rw[GJ,N,eL h,hk,Z];simp[I]
def VS(Z:BB m=true)(h:¬6<d)(hk:Bb m.kd m.k m.tk m.had=true)(hs:(m.had&&AY m.was != 0)=false)(I:BP m.kd m.has=true)(N:AY m.v≠0):Ao m d=AY m.v:=by
 rw[GJ,Z,eL h,hk,hs,I];simp[N]
def Tc(N:BB m=true)(h:¬6<d)(Z:Bb m.kd m.k m.tk m.had=true)(hs:(m.had&&AY m.was != 0)=false)(I:(BP m.kd m.has&&AY m.v != 0)=false):Ao m d=Cx m.l (d+1):=by
 rw[GJ,N,eL h,Z,hs,I];rfl
def G0{code:Int}(h:Ao m d=code)(I:code≠0):El code=DI (Ao m d):=by rw[h];unfold DI;rw[eL I]
def Zv(h:Ao m d=0):Ending.returned (.tuple #[])=DI (Ao m d):=by rw[h];rfl
def J3(m:Mu):B7 m.l<=Av m:=by
 obtain⟨kd,k,tk,i,N,I,Z,v,l⟩:=m;rw[Av];exact Nat.le_add_left _ _
end
def S6(w:AB){code:Int}(h:code=0):Calls prog 159 #[code] w λe w'=>e=.returned (.tuple #[])/\w'=w:=(Oe w code).mono λe w' I=>⟨by rw[I.1,h];rfl,I.2⟩
def Ti(w:AB){code:Int}(h:code≠0):Calls prog 159 #[code] w λe w'=>e=El code/\w'=w:=(Oe w code).mono λe w' I=>⟨by rw[I.1];unfold DI;rw[eL h],I.2⟩
variable{w':AB}
def Ay.nw{b o:Nat}{m:Mu}(h:Ay w b o m c)(k:Nw w w'):Ay w' b o m c:=λj u hu=>(k.cell h.lt (λe=>e)).trans (h j u hu)
def AK.nw{m:Mu}(h:AK w (Lt w) m c)(k:Nw w w'):AK w' (Lt w') m c:=(h.agree (gC k λb I=>I)).mono λb I=>ab I k.size
def S9{m:Mu}{d:Nat}(hd:d<=7)(hm:AK w (Lt w) m c)(ht:Av m<=1100000)(hL:Aw w)
  (ih:d<=6->∀(x:Mu) (y:AR) (W:AB),AK W (Lt W) x y->Av x<=1100000->Aw W->Calls prog 129 #[Ap x y,.int .i64 ((d+1:Nat):Int)] W λe w'=>e=DI (Ao x (d+1))/\Nw W w') :
  Calls prog 129 #[Ap m c,.int .i64 (d:Int)] w λe w'=>e=DI (Ao m d)/\Nw w w':=by
 obtain⟨HI,HM,HT,HD⟩:=Ye ih hm ht hd;clear ih hm ht hd;go_in;go_upto_region 1 with fail;generalize d5:World.alloc _ _=W0;obtain⟨d0,e6,f3⟩:=Bh (m:=m) (c:=c) d5;obtain⟨e7,d7,HL⟩:=Yc d0 e6 hL;clear d5 d0 e6 f3 hL;go_wp2_with(refine A9 rfl (.tmp 2) rfl w.heap.size 0 rfl m c d7.o ?_);refine(iG _ m c).mono ?_;rintro e w1 ⟨rfl,b8⟩;obtain⟨a9,d6⟩:=Yb (gA (e7.o.trans b8)) (d7.o.ext b8);clear b8;rcases be (BB m)with hb|hb
 rotate_left
 ·have g:(!BB m)=true:=by rw [hb];rfl
  have HE:=hY (G0 (Nh (d:=d) hb) oN);rw[g];clear hb g;go_wp2_with fail;refine(LW _ 9).mono ?_;rintro e w2 ⟨rfl,rfl⟩;go_wp2_with fail;exact⟨rfl,HE.o,a9.o⟩
 have a7:=hY hb;have g:(!BB m)=false:=by rw[hb];rfl
 rw[g];clear hb g;go_wp2_with fail;refine(Lc _ 9).mono ?_;rintro e w2 ⟨rfl,rfl⟩;by_cases h6:6<d
 ·have g:decide ((d:Int)≤6)=false:=eM oM
  have HE:=hY (G0 (Pg (d:=d) a7.o h6) oN);clear h6;go_wp2_with fail;refine(LW _ 5).mono ?_;rintro e w2 ⟨rfl,rfl⟩;go_wp2_with fail;exact⟨rfl,HE.o,a9.o⟩
 have H6:=hY h6;have g6:decide ((d:Int)<=6)=true:=eO oM;clear h6;go_wp2_with fail;refine(Lc _ 5).mono ?_;rintro e w2 ⟨rfl,rfl⟩;clear g6;go_wp2_with(refine A9 rfl (.tmp 2) rfl w.heap.size 0 rfl m c d6.o ?_);refine(jl m c HM.o.parts.2.2.1 (HL.o.nw a9.o).lib).mono ?_;rintro e w3 ⟨rfl,b5⟩;obtain⟨a6,b9⟩:=Yb (a9.o.trans b5) (d6.o.nw b5);clear b5;rcases be (Bb m.kd m.k m.tk m.had)with hk|hk
 rotate_left
 ·have HE:=hY (G0 (Rl (d:=d) a7.o H6.o hk) oN)
  rw[hk];clear hk;go_wp2_with fail;refine(LW _ 8).mono ?_;rintro e w2 ⟨rfl,rfl⟩;go_wp2_with fail;exact⟨rfl,HE.o,a6.o⟩
 have HK:=hY hk;rw[hk];clear hk;go_wp2_with fail;refine(Lc _ 8).mono ?_;rintro e wq ⟨rfl,rfl⟩;have c4:=b9.o.c4;obtain⟨c5,c6,c7,c8,c9,f9⟩:=b9.o.Ir;go_upto_if 17 with fail;go_cut [] (λwc=>Nw wq wc/\(m.had&&AY m.was != 0)=false)
 case first=>
  rcases be m.had with hh|hh
  ·rw [hh]
   go_wp2_with fail;refine(Mh (d:=m.was) (HM.o.nw a6.o).parts.1 (an (Fl m).2 HT.o) (HL.o.nw a6.o)).mono ?_;rintro e w4 ⟨rfl,b0⟩;obtain⟨a2,e8⟩:=Yb (a6.o.trans b0) b0;by_cases Z:AY m.was=0
   ·have HF:=hY Z
    have HH:=hY hh;clear Z hh b0;go_wp2_with fail;refine(S6 _ HF.o).mono ?_;rintro e w5 ⟨rfl,rfl⟩;go_wp2_with fail;go_meet;exact⟨e8.o,by rw[HF.o];simp⟩
   obtain⟨HF,HE⟩:=Yb Z (G0 (lookW (d:=d) a7.o H6.o HK.o hh Z) Z);clear Z hh b0;go_wp2_with fail;refine(Ti _ HF.o).mono ?_;rintro e w5 ⟨rfl,rfl⟩;go_wp2_with fail;exact⟨rfl,HE.o,a2.o⟩
  rw[hh];go_wp2_with fail;go_meet;exact⟨gE _ _,by rw[hh];rfl⟩
 obtain⟨b6,hs⟩:=hcut;obtain⟨a2,HS,a8⟩:=Yc (a6.o.trans b6) hs (b9.o.nw b6);clear b6 hs c4 c5 c6 c7 c8 c9 f9;have c0:=a8.o.kind;have g3:=a8.o.c11;obtain⟨g4,g0,f4,f2,f5,f7⟩:=a8.o.v6;go_upto_region 6 with fail;go_cut [38] (λv w'=>v=.bool (BP m.kd m.has)/\w'=wc)
 case first=>
  by_cases k1:m.kd=1
  ·have e1:(m.kd == 1)=true:=by simp [k1]
   have N:BP m.kd m.has=true:=by simp[BP,k1]
   have HV:=hY N;clear N k1;go_wp2_with fail;go_meet;exact⟨by rw[HV.o],rfl⟩
  have e1:(m.kd==1)=false:=by simp[k1]
  by_cases k5:m.kd=5
  ·have e5:(m.kd == 5)=true:=by simp [k5]
   have N:BP m.kd m.has=true:=by simp[BP,k5]
   have HV:=hY N;clear N k1 k5;go_wp2_with fail;go_meet;exact⟨by rw[HV.o],rfl⟩
  have e5:(m.kd==5)=false:=by simp[k5]
  by_cases k4:m.kd=4
  ·have e4:(m.kd == 4)=true:=by simp [k4]
   have N:BP m.kd m.has=m.has:=by simp[BP,k4]
   have HV:=hY N;clear N k1 k5 k4;go_wp2_with fail;go_meet;exact⟨by rw[HV.o],rfl⟩
  have e4:(m.kd==4)=false:=by simp[k4]
  have N:BP m.kd m.has=false:=by simp[BP,k1,k5,k4]
  have HV:=hY N;clear N k1 k5 k4;go_wp2_with fail;go_meet;exact⟨by rw[HV.o],rfl⟩
 obtain⟨N,hw⟩:=hcut;subst N;clear c0 g3;rename_i wz;subst hw;go_upto_if 38 with fail;go_cut [] (λw'=>Nw wc w'/\(BP m.kd m.has&&AY m.v != 0)=false)
 case first=>
  rcases be (BP m.kd m.has)with N|N
  ·rw [N]
   go_wp2_with fail;refine(Mh (d:=m.v) (HM.o.nw a2.o).parts.2.1 (an (Fl m).1 HT.o) (HL.o.nw a2.o)).mono ?_;rintro e w5 ⟨rfl,b3⟩;obtain⟨a0,f8⟩:=Yb (a2.o.trans b3) b3;by_cases Z:AY m.v=0
   ·have HF:=hY Z
    have HV:=hY N;clear Z N b3;go_wp2_with fail;refine(S6 _ HF.o).mono ?_;rintro e w6 ⟨rfl,rfl⟩;go_wp2_with fail;go_meet;exact⟨f8.o,by rw[HF.o];simp⟩
   obtain⟨HF,HE⟩:=Yb Z (G0 (VS (d:=d) a7.o H6.o HK.o HS.o N Z) Z);clear Z N b3;go_wp2_with fail;refine(Ti _ HF.o).mono ?_;rintro e w6 ⟨rfl,rfl⟩;go_wp2_with fail;exact⟨rfl,HE.o,a0.o⟩
  rw[N];go_wp2_with fail;go_meet;exact⟨gE _ _,by rw[N];rfl⟩
 obtain⟨a1,d8⟩:=hcut;have a0:=hY (a2.o.trans a1);have i1:wc.cell? ⟨w,8+10,none⟩=some (.slice c.s.a m.l.length c.s.c):=(a8.o.nw a1) 18 _ rfl;have HC:=hY (Tc a7.o H6.o HK.o HS.o d8);have g8:=HM.o.len;have d4:wrap64 ((d:Int)+1)=((d+1:Nat):Int):=by
  have:=H6.o;unfold wrap64;omega
 have f6:=hY d4;clear a1 d8 g4 g0 f4 f2 f5 f7 d4;go_wp2_with fail;go_loopw[46] (λg5 wr=>∃j:Nat,g5=.int .i64 (j:Int)/\j<=m.l.length/\Yd (Nw w wr)/\Yd (Cx (m.l.drop j) (d+1)=Cx m.l (d+1))) (λv _=>m.l.length -(intOf v).toNat)
 case atStart=>exact⟨0,rfl,aw _,a0,hY rfl⟩
 obtain⟨j,rfl,hj,HX,HJ⟩:=hrel;by_cases d9:j<m.l.length
 ·have l1:(j:Int)<(m.l.length:Int):=oM
  have i3:decide ((j:Int)<(m.l.length:Int))=true:=eO l1;have l0:(0:Int)<=(j:Int):=oM
  obtain⟨x,hx⟩:∃x,m.l[j]? = some x:=⟨_,ac d9⟩;obtain⟨b,o,y,f0,g7,i0,i2,e2,e3⟩:=HM.o.at hx;have b4:=hY (e2.nw HX.o);have g9:b<wr:=b4.o.lt;have a5:=λW (hW:Ext wr W)=>HI.o (by have:=H6.o;omega) x y W (e3.nw (HX.o.trans (gA hW))) (an (Gd hx) (an (J3 m) HT.o)) (HL.o.nw (HX.o.trans (gA hW)))
  have a3:=hY a5;have I:=P9 hx (d+1);rw[HJ.o]at I;have d3:=hY I;clear e3 e2 a5 hx g7 I;rw[f0];go_wp2_with(first |(refine A9 rfl (.tmp 48) rfl b (o+j*19) rfl x y b4.o ?_) |(refine LK rfl rfl rfl x y (w0:=wr) (b:=wr) rfl ((gz wr).alloc _ _) (gB wr _ _) rfl rfl rfl ?_;intro w5 a1 e0;have a0:=hY a1;have f1:=hY (gI e0);clear a1 e0) |(refine A9 rfl (.tmp 5) rfl wr.heap.size 0 rfl x y f1.o ?_));rw[f6.o];by_cases Z:Ao x (d+1)=0
  ·refine ((a3.o _ a0.o).mono fun e W h=>(show e=.returned (.tuple #[])∧Nw _ W from ⟨by rw [h.1,Z];rfl,h.2⟩)).mono ?_
   rintro e w2 ⟨rfl,a4⟩;have b7:=hY ((HX.o.trans (gA a0.o)).trans a4);have I:=d3.o;rw[eL (λh=>h Z)]at I;have HA:=hY I.symm;clear a4 Z I;go_wp2_with fail;go_roundw
   case rel=>exact⟨j+1,by go_num,d9,b7,HA⟩
   simp[intOf];omega
  have I:=d3.o;rw[eN Z]at I;have HE:=hY (G0 (HC.o.trans I) Z);refine((a3.o _ a0.o).mono λe W h=>(show e=El (Ao x (d+1))/\Nw _ W from⟨by rw[h.1];unfold DI;rw[eL Z],h.2⟩)).mono ?_;rintro e w2 ⟨rfl,a4⟩;have b7:=hY ((HX.o.trans (gA a0.o)).trans a4);clear a4 Z I;go_wp2_with fail;exact⟨rfl,HE.o,b7.o⟩
 obtain rfl:j=m.l.length:=oM
 have l1:decide ((m.l.length:Int)<(m.l.length:Int))=false:=eM oM;have HE:=hY (Zv (m:=m) (d:=d) (by rw[HC.o,<-HJ.o,cT];rfl));go_wp2_with fail;refine bodyPost_end (v:=.tuple #[]) (by simp[results,results129,go_sem]) rfl ?_;exact⟨HE.o,HX.o⟩
def ni(n:Nat):∀(d:Nat) (m:Mu) (c:AR) (w:AB),d+n=7->AK w (Lt w) m c->Av m<=1100000->Aw w->Calls prog 129 #[Ap m c,.int .i64 (d:Int)] w λe w'=>e=DI (Ao m d)/\Nw w w':=by
 induction n with
 |zero=>exactλd m c w hd N I Z=>S9 oM N I Z λh=>oM
 |succ n ih=>exactλd m c w hd N I Z=>S9 oM N I Z λh x y W hx hy hW=>ih (d+1) x y W oM hx hy hW
def iU{m:Mu}(I:AK w (Lt w) m c)(N:Av m<=1100000)(Z:Aw w):Calls prog 129 #[Ap m c,.int .i64 1] w λe w'=>e=DI (Ao m 1)/\Nw w w':=ni 6 1 m c w rfl I N Z
abbrev fA:=@leaves_cons
def ZS{b:Nat}{t T:TypeId}{v N:Value}{cs:Array Value}(I:AE w b t #[N])(W:AB)(Z:(w.setCell b v).alloc (.cells cs T)=W):Sb (λi=>i=b) w W/\AE W b t #[v]:=by
 subst Z;have h1:AE (w.setCell b v) b t #[v]:=I.AX 0 v;have h2:=(gz (w.setCell b v)).alloc cs T;exact⟨((gE (λi=>i=b) w).set (p:=⟨b,0,none⟩) (.inr rfl) v).ext h2,h1.ext h2⟩
def iq(p:Addr)(w:AB):CallsD prog 155 #[.pointer (some p)] .returning w λe N w'=>e=.returned (.tuple #[])/\N=.returning/\w'=w:=by
 refine callsD_of_wpS func155 rfl λI cs hu=>?_
 apply wpS_seq;apply wpS_region;simp[wpOpsS,go_sem,recoverD,hu,ntmps155,Exit.thenS];refine wpS_of_wp ?_;go_wp2;cases I
 simp_all [bodyPostS,results,results155]
def ZB(W:AB)(v:Value)(I:TypeId):(Instr.typeAssert (.iface 214 v) I 214 true).run prog W=.ok (.tuple #[v,true]) W:=kM
def XW(b:Nat)(code:Int)(w:AB)(I:AE w b 71 #[.int .i64 0]) :
  CallsD prog 155 #[.pointer (some b)] (.panicking [{ v:=.iface 214 (.agg #[code]),recovered:=false }]) w λe u' w'=>
   e=.returned (.tuple #[])/\u'=.panicking [{ v:=.iface 214 (.agg #[code]),recovered:=true }]/\Sb (λi=>i=b) w w'/\AE w' b 71 #[.int .i64 code]:=by
 have c0:w.cell? b=some (.int .i64 0):=I.cell 0;have f0:=I.frozen 0;have Z:=I.lt;refine callsD_of_wpS func155 rfl λc₀ cs hu=>?_
 apply wpS_seq;apply wpS_region;simp[wpOpsS,go_sem,recoverD,hu,ntmps155,Exit.thenS];refine wpS_of_wp ?_;have ha:=λW=>ZB W (.agg #[code])
 change Code.wp _ _ _ { tmps:=#[.pointer (some b),undef,undef,undef,.iface 214 (.agg #[code]),undef,undef,undef,undef,undef,undef],defers:=[] } w;go_wp2;generalize N:World.alloc _ _=W;obtain⟨h1,h2⟩:=ZS I W N;clear N ha c0 f0 Z;cases c₀
 simp_all [bodyPostS,results,results155]
variable{B:Nat}
def lj{m:Mu}(hC:Ay w B 0 m c)(hm:AK w (Lt w) m c)(ht:Av m<=1100000)(hL:Aw w) :
  Calls prog 128 #[.pointer (some B)] w λe w'=>e=DI (Ao m 1)/\Nw w w':=by
 obtain⟨HC,HB⟩:=Yb (iU hm ht hL) hC;clear hC hm ht hL;by_cases h:Ao m 1=0
 ·have N:=hY h
  go_in;clear h;go_wp2_with(refine A9 rfl (.tmp 0) rfl B 0 rfl m c HB.o ?_);refine(HC.o.mono λe W h=>(show e=.returned (.tuple #[])/\Nw _ W from⟨by rw[h.1,N.o];rfl,h.2⟩)).mono ?_;rintro e w1 ⟨rfl,I⟩;have Z:=hY I;clear I;go_wp2_with fail;refine bodyPost_end (v:=.tuple #[]) (by simp[results,results128,go_sem]) rfl ?_;exact⟨by rw[N.o];rfl,Z.o⟩
 have N:=hY (show DI (Ao m 1)=El (Ao m 1)by unfold DI;rw[eL h]);go_in;clear h;go_wp2_with(refine A9 rfl (.tmp 0) rfl B 0 rfl m c HB.o ?_);refine(HC.o.mono λe W h=>(show e=El (Ao m 1)/\Nw _ W from⟨by rw[h.1,N.o],h.2⟩)).mono ?_;rintro e w1 ⟨rfl,I⟩;have Z:=hY I;clear I;go_wp2_with fail;exact⟨rfl,N.o.symm,Z.o⟩
def Zh{m:Mu}(hC:Ay w B 0 m c)(hm:AK w (Lt w) m c)(ht:Av m<=1100000)(hL:Aw w) :
  Calls prog 127 #[.func (.func 128) #[] #[.pointer (some B)]] w λe w'=>e=.returned (Ao m 1)/\Nw w w':=by
 have a7:∀(fn:Fn) (first a4:Array Value) (w:AB),(Instr.makeFunc fn first a4).run prog w=.ok (.func fn first a4) w:=λ_ _ _ _=>rfl
 have a2:=(gz w).alloc #[.int .i64 0] 71;obtain⟨N,a5⟩:=Yb (gA a2) (gB w 71 #[.int .i64 0]);have HC:=hY (lj (hC.nw N.o) (hm.nw N.o) ht (hL.nw N.o));clear hC hm ht hL a2;by_cases h:Ao m 1=0
 ·have HE:=hY h
  clear h;go_enter_defers func127,ntmps127;go_wp2_with fail;refine(HC.o.mono λe W h=>(show e=.returned (.tuple #[])/\Nw _ W from⟨by rw[h.1,HE.o];rfl,h.2⟩)).mono ?_;rintro e w1 ⟨rfl,hn⟩;have I:=hn.blk a5.o;have c1:w1.cell? w=some (.int .i64 0):=I.cell 0;have f1:=I.frozen 0;have l1:=I.lt;obtain⟨a0,a1⟩:=Yb (N.o.trans hn) I;clear hn I;go_wp2_with fail;generalize hW:World.setCell _ _ _=W;have hs:Sb (λi=>i=w.heap.size) w1 W:=by rw[<-hW];exact(gE (λi=>i=w.heap.size) w1).set (p:=⟨w,0,none⟩) (.inr rfl) _
  have a3:AE W w.heap.size 71 #[.int .i64 0]:=by rw[<-hW];exact a1.o.AX 0 (.int .i64 0)
  clear hW c1 f1 l1;obtain⟨HS,a6⟩:=Yb (show Nw w W from a0.o.comp hs λi hi e=>oM) a3;clear hs a3;refine fA (f:=155) (args:=#[.pointer (some w)]) oO (by simp[go_sem]) ?_;refine(iq w _).mono ?_;rintro e u' Z ⟨rfl,rfl,rfl⟩;have c2:Z.cell? w=some (.int .i64 0):=a6.o.cell 0;have hE:=HE.o;have hS:=HS.o;simp[Leaves,settle,results,results127,go_sem,c2,hE,hS]
 have HE:=hY (show DI (Ao m 1)=El (Ao m 1)by unfold DI;rw[eL h]);clear h;go_enter_defers func127,ntmps127;go_wp2_with fail;refine(HC.o.mono λe W h=>(show e=El (Ao m 1)/\Nw _ W from⟨by rw[h.1,HE.o],h.2⟩)).mono ?_;rintro e w1 ⟨rfl,hn⟩;obtain⟨a1,a0⟩:=Yb (hn.blk a5.o) (N.o.trans hn);clear hn;go_wp2_with fail;refine fA (f:=155) (args:=#[.pointer (some w)]) oO (by simp[go_sem]) ?_;refine(XW w.heap.size (Ao m 1) _ a1.o).mono ?_;rintro e u' Z ⟨rfl,rfl,hs,hb⟩;have c2:Z.cell? w=some (.int .i64 (Ao m 1)):=hb.cell 0;have hS:Nw w Z:=a0.o.comp hs λi hi e=>oM
 simp[Leaves,settle,results,results127,go_sem,c2,hS]
def ZC{m:Mu}(hm:AK w (Lt w) m c)(ht:Av m<=1100000)(hL:Aw w):Calls prog 99 #[Ap m c] w λe w'=>e=.returned (BQ m)/\Nw w w':=by
 have a1:Ag m<=1100000:=an (O8 m) ht;have b0:∀(fn:Fn) (first a3:Array Value) (w:AB),(Instr.makeFunc fn first a3).run prog w=.ok (.func fn first a3) w:=λ_ _ _ _=>rfl
 obtain⟨HM,HT,HL,a7⟩:=Ye hm ht hL a1;clear hm ht hL a1;go_in;go_upto_region 1 with fail;generalize a4:World.alloc _ _=W0;obtain⟨a0,a6,a8⟩:=Bh (m:=m) (c:=c) a4;obtain⟨a2,a5⟩:=Yb a0 a6;clear a4 a0 a6 a8;go_wp2_with(refine A9 rfl (.tmp 1) rfl w.heap.size 0 rfl m c a5.o ?_);refine(jj (HM.o.nw (gA a2.o)) a7.o).mono ?_;rintro e w1 ⟨rfl,Z⟩;obtain⟨I,a9⟩:=Yb (a2.o.trans Z) (a5.o.ext Z);clear Z;by_cases N:64<Ag m
 ·have g:decide ((64:Int)<(Ag m:Int))=true:=eO oM
  have HE:=hY (show BQ m=6 by unfold BQ;rw[eN N]);clear N;go_wp2_with fail;go_ret;exact⟨by rw[HE.o]<;>rfl,gA I.o⟩
 have g:decide ((64:Int)<(Ag m:Int))=false:=eM oM;have HE:=hY (show BQ m=Ao m 1 by unfold BQ;rw[eL N]);clear N;go_wp2_with fail;refine(Zh a9.o (HM.o.nw (gA I.o)) HT.o (HL.o.nw (gA I.o))).mono ?_;rintro e w2 ⟨rfl,hn⟩;have HN:=hY ((gA I.o).trans hn);clear hn;go_wp2_with fail;go_ret;exact⟨by rw[HE.o]<;>rfl,HN.o⟩
variable{W:AB}{s:Sl}
def V3{base:Nat}{xs:List WV}(N:W.ownsRow base 54 6 (.slice s.a xs.length s.c) xs.length (Ba xs))(hv:∀x∈xs,RV W (Lt W) x.v x.sl x.so)(hn:xs.length*88<=140737488355328) :
  RV W (Lt W) (Eh (xs.map WV.v)) s Sl.none:=by
 obtain⟨b,o,a0,hc⟩:=MI (gF N);have Z:∀(j:Nat) (d:Val),(xs.map WV.v)[j]? = some d->∃x,xs[j]? = some x/\x.v=d:=λj d hd=>by
  rw[ar]at hd;cases I:xs[j]? with
  |none=>rw[I]at hd;cases hd
  |some x=>rw[I]at hd;exact⟨x,rfl,by injection hd⟩
 refine .mk b o 0 0 (λj=>((xs.getD j ⟨zeroV,Sl.none,Sl.none⟩).sl,(xs.getD j ⟨zeroV,Sl.none,Sl.none⟩).so)) (λ_=>(Sl.none,Sl.none)) (by rw[aq];exact a0.mono λi h=>h.2) (.nil _ _) rfl ?_ ?_ (λj k h=>by simp at h) (λj d h=>by simp at h) (λj d h=>by simp at h) oN oN oN (by rw[aq];exact hn) oO
 ·intro j d hd
  obtain⟨x,I,rfl⟩:=Z j d hd;have e:xs.getD j ⟨zeroV,Sl.none,Sl.none⟩=x:=by rw[du,I];rfl
  rw[e];exact hc j x I
 intro j d hd;obtain⟨x,I,rfl⟩:=Z j d hd;have e:xs.getD j ⟨zeroV,Sl.none,Sl.none⟩=x:=by rw[du,I];rfl
 rw[e];exact hv x (ap I)
variable{F:Nat->Prop}{sl so:Sl}
def Es.row{d:Val}(h:Es w F d sl so):∃xs:List WV,xs.map WV.v=d.l/\sl.c=xs.length/\(sl.a=none->xs.length=0)/\(∀x∈xs,RV w F x.v x.sl x.so)/\
  (∀b,sl.a=some b->∀j u,(Ba xs)[j]? = some u->w.cell? (b.add j)=some u)/\xs.length*88<=140737488355328:=by
 have I:=h.cap;have a2:=h.rv;cases a2 with
 | mk bl fl bo fo cl co hl ho hov el rl ek eo ro bk bi bt nl no=>
   rename_i kind b i t l ok ov;have I:sl.c=l.length:=I;have a1:=MB (w:=w) (xs:=wl l cl) (by rw[EO];exact hl) λj x hx=>by
    obtain⟨e1,Z,e3⟩:=Gv hx;rw[Z,e3];exact el j _ e1
   refine⟨wl l cl,Mr l cl,by rw[EO];exact I,λe=>?_,λx hx=>?_,λa ha j u hu=>?_,by rw[EO];exact nl⟩
   ·rw [EO]
    rcases Nat.eq_zero_or_pos l.length with h0|h0
    .exact h0
    have:=(hl.eq h0).1;rw[e]at this;cases this
   ·obtain ⟨j,hj⟩:=bA hx
    obtain⟨e1,Z,e3⟩:=Gv hj;rw[Z,e3];exact rl j _ e1
   obtain⟨b',o',h1,h2,h3⟩:=a1;have a0:=(ai.1 hu).1;rw[Jz,EO]at a0;have N:0<l.length:=oM
   rw[EO]at h1;have e1:=(hl.eq N).1;have Z:=(h1.eq N).1;rw[ha]at Z;injection Z with Z;rw[Z,Cb];exact h3 j u hu
def pj{base e size n:Nat}{v:Value}{xs:List Value}(h:w.ownsRow base e size v n xs):∃s:Sl,v=.slice s.a n s.c:=by
 rcases h.2 with⟨rfl,rfl⟩ |⟨g,I,N,rfl,_⟩
 .exact ⟨Sl.none,rfl⟩
 exact⟨⟨some g,I⟩,rfl⟩
variable{u:Value}
def Ext.addr(h:Ext w w'){a:Addr}(I:w.cell? a=some u):w'.cell? a=some u:=
 (fi (w:=w) (a:=a) ((h.sb (λ_=>False)).block a.block (fc w _ I) λe=>e)).trans I
def Oq(l:List Val)(x:Val):Ah (Eh (l++[x]))=7+BX l+Ah x:=by
 have:∀l:List Val,BX (l++[x])=BX l+Ah x:=λl=>by
  induction l with
  |nil=>simp[BX]
  |cons a r ih=>rw[aJ,BX,BX,ih];omega
 show Ah (.mk 5 false 0 ByteArray.empty (l++[x]) [] [])=_;rw[Ah,this,B9];show 7+0+(BX l+Ah x)+0=_;omega
def SS(v:Val):BX v.l<=Ah v:=by
 obtain⟨k,b,i,t,l,I,N⟩:=v;rw[Ah];show BX l<=_;omega
def Sz(M:List AD)(k:AA)(v:Val):DY M k v=if(AH M k).isSome=true/\((AH M k).getD zeroV).kind≠5 then(9,M)else Cr M k ((AH M k).getD zeroV).l v:=by
 unfold DY;cases AH M k with
 |none=>rfl
 |some y=>by_cases h:y.kind=5<;>simp[h]
variable{M:List AD}
def Cq.BX{B:List AD}{C:Slots}(h:Cq B C M)(k:AA):BX ((AH M k).getD zeroV).l<=7168:=by
 cases I:AH M k with
 |none=>exact aw _
 |some y=>exact an (SS y) (h.ok.get I).2.cnt
variable{H:Nat->Prop}{O:Nat}{d:OD}
def Vo{k:AA}{v:Val}(h:BD H w O d M)(hH:∀b,H b->b<w.heap.size)(hn:d.us.length<=1000000)(hl:(AG d.T).length<=1000000)(d0:k.size<=maxLen)
  (hv:RV w (Lt w) v sl so) (hc:Ah v<=1092000) (hL:Aw w) :
  Calls prog 137 #[.pointer (some O),k,AS v sl so] w λe w'=>e=.returned (.int .i64 (DY M k v).1)/\∃d',Ar H w O d (DY M k v).2 1 w' d':=by
 have d5:=(gz w).alloc #[.int .i64 v.kind,.bool v.b,.int .i64 v.i,.string v.t,.slice sl.a v.l.length sl.c,.slice so.a v.ok.length so.c] 54;have f2:=gB w 54 #[.int .i64 v.kind,.bool v.b,.int .i64 v.i,.string v.t,.slice sl.a v.l.length sl.c,.slice so.a v.ok.length so.c];have c8:=Ij (h.nw (gA d5)) hl d0;have b6:(w.alloc (.cells #[v.kind,.bool v.b,v.i,v.t,.slice sl.a v.l.length sl.c,.slice so.a v.ok.length so.c] 54)).heap.size=w.heap.size+1:=eQ _ _;obtain⟨HH,HL,HV,HC,f8,i1,i8⟩:=Yh h hL hv hc d0 hn hH;obtain⟨i3,i7,j3,HG⟩:=Ye d5 f2 b6 c8;have a0:=Sz M k v;have d8:=HH.o.rel.BX k;obtain⟨r,hr⟩:∃r,DY M k v=r:=⟨_,rfl⟩;rw[hr]at a0 ⊢;obtain⟨y,hy⟩:∃y,(AH M k).getD zeroV=y:=⟨_,rfl⟩;obtain⟨g,hg⟩:∃g,(AH M k).isSome=g:=⟨_,rfl⟩;rw[hy,hg]at a0;rw[hy]at d8;obtain⟨HY,g7,b9,i4⟩:=Ye hy hg a0 d8;obtain⟨i0,hi,g6,j0,g8⟩:=eZ Tryz.Lq;clear h hL hv hc d0 hn hH d5 f2 b6 c8 hl hy hg a0 d8 hr;go_in;go_wp2_with fail;refine HG.o.mono ?_;rintro e w1 ⟨s1,s2,rfl,d3,d7⟩;rw[HY.o,g7.o];rw[HY.o]at d7;obtain⟨i9,d9,i6⟩:=Yc d7 (i3.o.trans d3) (i7.o.ext d3);clear d3 d7;go_upto_region 2 with fail;have a3:=(gz w1).alloc #[.int .i64 y.kind,.bool y.b,.int .i64 y.i,.string y.t,.slice s1.a y.l.length s1.c,.slice s2.a y.ok.length s2.c] 54;have a8:=gB w1 54 #[.int .i64 y.kind,.bool y.b,.int .i64 y.i,.string y.t,.slice s1.a y.l.length s1.c,.slice s2.a y.ok.length s2.c];generalize g5:World.alloc _ _=w2 at a3 a8 ⊢;obtain⟨e0,e3,a2⟩:=Yc (d9.o.trans a3) a3 (i6.o.ext a3);have k0:w2.cell? w1=some (.int .i64 y.kind):=a8.cell 0;have k4:w2.cell? ⟨w1,4,none⟩=some (.slice s1.a y.l.length s1.c):=a8.cell 4;clear g5 a3 a8;by_cases I:g=true/\y.kind≠5
 ·have g1:=I.1
  have g2:(y.kind==5)=false:=eP.2 I.2;have HR:=hY (b9.o.trans (eN I));clear I;subst g1;go_wp2_with fail;go_ret;exact⟨by rw[HR.o]<;>rfl,d,by rw[HR.o];exact HH.o.stay (gA e0.o)⟩
 have HR:=hY (b9.o.trans (eL I));go_cut [20] (λq w'=>q=.bool false/\w'=w2)
 case first=>
  cases g with
  | false=>
    clear I;go_wp2_with fail;go_meet;exact⟨rfl,rfl⟩
  | true=>
    have g2:(y.kind==5)=true:=by
     by_cases h5:y.kind=5
     .simp [h5]
     exact absurd ⟨rfl,h5⟩ I
    clear I;go_wp2_with fail;go_meet;exact⟨by rw[show(y.kind != 5)=false by rw[bne,g2];rfl],rfl⟩
 obtain⟨rfl,hw⟩:=hcut;subst hw;clear I k0;by_cases Z:256<=y.l.length
 ·have g3:decide ((256:Int)≤(y.l.length:Int))=true:=eO oM
  have g4:(256:Int)<=(y.l.length:Int):=oM
  have a5:=hY (HR.o.trans (show Cr M k y.l v=(6,M)by unfold Cr;rw[eN Z]));clear Z;go_wp2_with fail;go_ret;exact⟨by rw[a5.o]<;>rfl,d,by rw[a5.o];exact HH.o.stay (gA e0.o)⟩
 have g3:decide ((256:Int)<=(y.l.length:Int))=false:=eM oM;have g4:¬(256:Int)<=(y.l.length:Int):=oM
 obtain⟨a5,f4⟩:=Yb (HR.o.trans (show Cr M k y.l v=setMu M k (Eh (y.l++[v]))by unfold Cr;rw[eL Z])) Z;clear Z;obtain⟨xs,d4,b7,a9,f3,f0,j1⟩:=(i9.o).row;have b0:wc.cell? w=some (.int .i64 v.kind):=a2.o.cell 0;have b1:wc.cell? ⟨w,1,none⟩=some (.bool v.b):=a2.o.cell 1;have b2:wc.cell? ⟨w,2,none⟩=some (.int .i64 v.i):=a2.o.cell 2;have b3:wc.cell? ⟨w,3,none⟩=some (.string v.t):=a2.o.cell 3;have b4:wc.cell? ⟨w,4,none⟩=some (.slice sl.a v.l.length sl.c):=a2.o.cell 4;have b5:wc.cell? ⟨w,5,none⟩=some (.slice so.a v.ok.length so.c):=a2.o.cell 5;have a4:y.l.length=xs.length:=by rw[<-d4,aq]
 rw[a4]at k4;obtain⟨e4,i5,g0,c7,c9⟩:=Yf a4 d4 f3 b7 a9;have f1:=(gz wc).alloc #[.int .i64 v.kind,.bool v.b,.int .i64 v.i,.string v.t,.slice sl.a v.l.length sl.c,.slice so.a v.ok.length so.c] 54;obtain⟨f6,d6,i2⟩:=Yc (gB wc 54 #[.int .i64 v.kind,.bool v.b,.int .i64 v.i,.string v.t,.slice sl.a v.l.length sl.c,.slice so.a v.ok.length so.c]) f1 f0;have j2:xs.length<=255:=by have:=f4.o;omega
 clear d4 f3 b7 a9 a4 f1 f0 g3 g4;generalize hA:(Obj.cells #[v.kind,.bool v.b,v.i,v.t,.slice sl.a v.l.length sl.c,.slice so.a v.ok.length so.c] 54)=A3 at d6 f6;obtain⟨Q1,Q2,Q3,Q4,Q5,Q6⟩:=Yg (show s1.a=none->xs.length=0/\s1.c=0 fromλe=>⟨c9.o e,c7.o.trans (c9.o e)⟩) (show ∀b,s1.a=some b->∀j u,(Ba xs)[j]? = some u->(wc.alloc A3).cell? (b.add j)=some u fromλb hb j u hu=>d6.o.addr (e3.o.addr (i2.o b hb j u hu))) (show ∀j u,(⟨v,sl,so⟩:WV).cells[j]? = some u->(wc.alloc A3).cell? ((wc:Addr).add j)=some u fromλj u hu=>by rw[Cb,aF,f6.o.cell];simpa[WV.cells]using hu) (show s1.c<xs.length+1 by rw[c7.o];exact dB _) (show xs.length+1<=maxLen by unfold maxLen;omega) (show(xs.length+1)*88<=140737488355328 by omega);subst hA;go_wp2_with(at_builtin;refine wpList_append_grows _ rfl (.tmp 28) (.tmp 30) 51 rfl 54 i0 _ 6 88 underlying51 hi g6 j0 g8 rfl oN s1.a xs.length s1.c (Ba xs) rfl Q1.out (Jz xs) Q2.out wc 1 1 (⟨v,sl,so⟩:WV).cells rfl rfl Q3.out (WV.one _) Q4.out Q5.out Q6.out ?_;intro v4 w4 a6 e8;obtain⟨s',rfl⟩:=pj a6;have e7:=hY a6;have f9:=hY (Sb.made (H:=λ_=>False) e8);clear a6 e8);have a1:Nw w1 _:=(gA (e3.o.trans d6.o)).trans f9.o;have N:Nw w _:=(gA d9.o).trans a1;have e2:∀x∈xs++[(⟨v,sl,so⟩:WV)],RV _ (Lt _) x.v x.sl x.so:=λx hx=>by
  rcases aL.1 hx with hx|hx
  .exact ((g0.o x hx).agree (gC a1 λb hb=>hb.2)).mono λb hb=>ab hb.2 a1.size
  obtain rfl:x=⟨v,sl,so⟩:=by simpa using hx
  exact(HV.o.agree (gC N λb hb=>hb)).mono λb hb=>ab hb N.size
 have a7:=V3 (xs:=xs++[(⟨v,sl,so⟩:WV)]) (s:=s') (by rw[aj,Pl];exact e7.o) e2 (by rw[aj];show(xs.length+1)*88<=_;omega);have b8:(xs++[(⟨v,sl,so⟩:WV)]).map WV.v=y.l++[v]:=by rw[aB,i5.o];rfl
 rw[b8]at a7;have c6:=E5 (k:=k) (HH.o.nw N) (λb hb=>ab (i8.o b hb) N.size) i1.o f8.o a7 (by rw[Oq];have:=i4.o;have:=HC.o;omega) (HL.o.nw N);have f5:xs.length+1=(Eh (y.l++[v])).l.length:=by show _=(y.l++[v]).length;rw[aj,e4.o];rfl
 obtain⟨e6,e1⟩:=Yb c6 N;clear a1 N e2 a7 b8 c6;rw[f5];clear f5;refine e6.o.mono ?_;rintro e w5 ⟨rfl,d',f7⟩;have g9:=hY (f7.since e1.o);clear f7;go_wp2_with fail;go_ret;exact⟨by rw[a5.o]<;>rfl,d',by rw[a5.o];exact g9.o⟩
end Go.Proofs.YtahhllcdbjbpbaaGreatDoor
