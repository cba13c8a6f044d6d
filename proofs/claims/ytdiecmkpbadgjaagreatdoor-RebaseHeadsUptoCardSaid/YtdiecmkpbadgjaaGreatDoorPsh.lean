/- Steps to the theorem. -/
import Derived.Test.YtdiecmkpbadgjaaGreatDoorPsg
set_option linter.all false
set_option maxRecDepth 100000
set_option maxHeartbeats 2000000
namespace Go.Proofs.YtdiecmkpbadgjaaGreatDoor
open Go.Proofs.Tryz
open Go.RowKit Go.Maps Go.Shelf
variable{w:World}
theorem QqK{k:ByteArray}(hk:k.size<=maxLen)(Z:Qi4 w):Calls prog 226 #[k] w λe w'=>e=.returned (Lib.validD k.data.toList)/\Nw w w':=by
 have N:=Z.val w (G5.refl w) k hk;have HV:=hY N;clear N Z;go_in;go_wp2_with fail;refine HV.o.mono ?_;rintro e w' ⟨rfl,I⟩;have HN:=hY I;clear I;go_wp2_with fail;go_ret;exact⟨rfl,HN.o⟩
theorem QeA(p:ByteArray)(N:Qi4 w):Calls prog 206 #[p] w λe w'=>e=.returned (Qol p)/\Nw w w':=by
 by_cases h:p.size<=64
 ·have I:Qol p=Lib.validD p.data.toList:=by unfold Qol;rw [eI h];rfl
  obtain⟨HB,HV⟩:=Yb I (QqK (w:=w) (k:=p) (ak h oN) N);have g:((p.size:Int)<=64):=oM
  clear I N h;go_in;go_wp2_with fail;refine HV.o.mono ?_;rintro e w' ⟨rfl,Z⟩;have HN:=hY Z;clear Z;go_wp2_with fail;go_ret;exact⟨by rw[HB.o]<;>rfl,HN.o⟩
 have I:Qol p=false:=by unfold Qol;rw[eG h];rfl
 have HB:=hY I;have g:¬((p.size:Int)<=64):=oM
 clear I N h;go_in;go_wp2_with fail;go_ret;exact⟨by rw[HB.o]<;>rfl,gu _ _⟩
variable{c:MuS}
theorem MuC.c1{b:Nat}{m:Mu}(h:MuC w b 0 m c):w.cell? ⟨b,1,none⟩=some (.string m.k):=h 1 _ rfl
theorem MuC.c2{b:Nat}{m:Mu}(h:MuC w b 0 m c):w.cell? ⟨b,2,none⟩=some (.string m.tk):=h 2 _ rfl
theorem Qpw(m:Mu)(c:MuS)(hk:m.k.size<=maxLen)(hL:Qi4 w):Calls prog 191 #[Qaz m c] w λe w'=>e=.returned (QgF m.kd m.k m.tk m.had)/\Nw w w':=by
 by_cases h6:m.kd=6
 ·have hr:QgF m.kd m.k m.tk m.had=(Qol m.k && Qol m.tk):=by unfold QgF;rw [eH h6]
  have HR:=hY hr;have e6:(m.kd==6)=true:=by simp[h6]
  clear hr h6 hk;go_in;go_upto_region 1 with fail;generalize Z:World.alloc _ _=W0;obtain⟨N,I,a0⟩:=QaB (m:=m) (c:=c) Z;have a1:=hY (gj N);have c0:=I.kind;have c1:=I.c1;obtain⟨a4,HL⟩:=Yb I (hL.nw (gj N));have l0:=I.lt;clear Z N I a0 hL;go_wp2_with fail;refine(QeA m.k HL.o).mono ?_;rintro e w1 ⟨rfl,hn⟩;obtain⟨a2,a3⟩:=Yb (a1.o.trans hn) (HL.o.nw hn);have d2:=(hn.cell l0 (λh=>h)).trans a4.o.c2;clear hn c0 c1;rcases aY (Qol m.k)with hb|hb
  ·have HB:=hY hb
   rw[hb];clear hb;go_wp2_with fail;refine(QeA m.tk a3.o).mono ?_;rintro e w2 ⟨rfl,hn⟩;have a5:=hY (a2.o.trans hn);clear hn;go_wp2_with fail;go_ret;exact⟨by rw[HR.o,HB.o]<;>rfl,a5.o⟩
  have HB:=hY hb;rw[hb];clear hb;go_wp2_with fail;go_ret;exact⟨by rw[HR.o,HB.o]<;>rfl,a2.o⟩
 have e6:(m.kd==6)=false:=by simp[h6]
 by_cases h7:m.kd=7
 ·have e7:(m.kd == 7)=true:=by simp [h7]
  by_cases h0:m.k.size=0
  ·have hr:QgF m.kd m.k m.tk m.had=!m.had:=by unfold QgF;rw [eE h6,eH ⟨h7,h0⟩]
   have HR:=hY hr;have g0:=Qa9 h0;clear hr h6 hk h7 hL h0;go_in;go_upto_region 1 with fail;generalize Z:World.alloc _ _=W0;obtain⟨N,I,a0⟩:=QaB (m:=m) (c:=c) Z;have a1:=hY (gj N);have c0:=I.kind;have c1:=I.c1;have c4:=I.c4;clear Z N I a0;go_wp2_with fail;go_ret;exact⟨by rw[HR.o]<;>rfl,a1.o⟩
  have hr:QgF m.kd m.k m.tk m.had=(Qci m.k==0):=by unfold QgF;rw[eE h6,eE λh=>h0 h.2]
  have HR:=hY hr;have g0:=Qbr h0;have HK:=hY hk;clear hr h6 hk h7 h0;go_in;go_upto_region 1 with fail;generalize Z:World.alloc _ _=W0;obtain⟨N,I,a0⟩:=QaB (m:=m) (c:=c) Z;have a1:=hY (gj N);have c0:=I.kind;have c1:=I.c1;have HL:=hY (hL.nw (gj N));clear Z N I a0 hL;go_wp2_with fail;refine(Qc8 HK.o HL.o).mono ?_;rintro e w1 ⟨rfl,hn⟩;have a2:=hY (a1.o.trans hn);clear hn c0 c1;go_wp2_with fail;go_ret;exact⟨by rw[HR.o]<;>rfl,a2.o⟩
 have e7:(m.kd==7)=false:=by simp[h7]
 have hr:QgF m.kd m.k m.tk m.had=(Qci m.k==0):=by unfold QgF;rw[eE h6,eE λh=>h7 h.1]
 obtain⟨HR,HK⟩:=Yb hr hk;clear hr h6 hk h7;go_in;go_upto_region 1 with fail;generalize Z:World.alloc _ _=W0;obtain⟨N,I,a0⟩:=QaB (m:=m) (c:=c) Z;have a1:=hY (gj N);have c0:=I.kind;have c1:=I.c1;have HL:=hY (hL.nw (gj N));clear Z N I a0 hL;go_wp2_with fail;refine(Qc8 HK.o HL.o).mono ?_;rintro e w1 ⟨rfl,hn⟩;have a2:=hY (a1.o.trans hn);clear hn c0 c1;go_wp2_with fail;go_ret;exact⟨by rw[HR.o]<;>rfl,a2.o⟩
variable{j:Nat}
theorem QpG{l:List Mu}{m:Mu}(h:l[j]? = some m)(d:Nat):Qb5 (l.drop j) d=if QaS m d≠0 then QaS m d else Qb5 (l.drop (j+1)) d:=by
 obtain⟨h1,h2⟩:=ae.1 h;rw[aE h1,h2,Qb5]
abbrev Qef(code:Int):Ending:=.panicked [{ v:=.iface 237 (.agg #[.int .i64 code]),recovered:=false }]
def QdA(code:Int):Ending:=if code=0 then .returned (.tuple #[])else Qef code
theorem Qf5(w:World)(code:Int):Calls prog 189 #[true,code] w λe w'=>e=.returned (.tuple #[])/\w'=w:=by
 go_in;go_wp2_with fail;refine bodyPost_end (v:=.tuple #[]) (by simp[results,results189,go_sem]) rfl ?_;exact⟨rfl,rfl⟩
theorem QiK(w:World)(code:Int):Calls prog 189 #[false,code] w λe w'=>e=Qef code/\w'=w:=by
 go_in;go_wp2_with fail;exact⟨rfl,rfl,rfl⟩
theorem Qmv(w:World)(code:Int):Calls prog 192 #[code] w λe w'=>e=QdA code/\w'=w:=by
 by_cases h:code=0
 ·subst h
  go_in;go_wp2_with fail;refine(Qf5 w 0).mono ?_;rintro e w' ⟨rfl,rfl⟩;go_wp2_with fail;refine bodyPost_end (v:=.tuple #[]) (by simp[results,results192,go_sem]) rfl ?_;exact⟨rfl,rfl⟩
 have N:(code==0)=false:=eJ.2 h;have I:=hY (show QdA code=Qef code by unfold QdA;rw[eE h]);go_in;go_wp2_with fail;refine(QiK w code).mono ?_;rintro e w' ⟨rfl,rfl⟩;go_wp2_with fail;exact⟨rfl,I.o.symm,rfl⟩
section
variable{m : Mu}{d : Nat}
theorem Qc9:QaS m d=if !Qai m then 9 else if 6<d then 5 else if !QgF m.kd m.k m.tk m.had then 8 else if m.had&&QcP m.was != 0 then QcP m.was else if QhW m.kd m.has&&QcP m.v != 0 then QcP m.v else Qb5 m.l (d+1):=by
 obtain⟨kd,k,tk,i,I,N,Z,v,l⟩:=m;rw[QaS];rfl
theorem Qvq(I:Qai m=false):QaS m d=9:=by rw[Qc9,I];rfl
theorem Qvo(I:Qai m=true)(h:6<d):QaS m d=5:=by rw[Qc9,I,eH h];rfl
theorem Qvp(N:Qai m=true)(h:¬6<d)(I:QgF m.kd m.k m.tk m.had=false):QaS m d=8:=by rw[Qc9,N,eE h,I];rfl
theorem lookW(I:Qai m=true)(h:¬6<d)(hk:QgF m.kd m.k m.tk m.had=true)(Z:m.had=true)(N:QcP m.was≠0):QaS m d=QcP m.was:=by
 rw[Qc9,I,eE h,hk,Z];simp[N]
theorem Qvs(I:Qai m=true)(h:¬6<d)(hk:QgF m.kd m.k m.tk m.had=true)(hs:(m.had&&QcP m.was != 0)=false)(Z:QhW m.kd m.has=true)(N:QcP m.v≠0):QaS m d=QcP m.v:=by
 rw[Qc9,I,eE h,hk,hs,Z];simp[N]
theorem Qvr(I:Qai m=true)(h:¬6<d)(Z:QgF m.kd m.k m.tk m.had=true)(hs:(m.had&&QcP m.was != 0)=false)(N:(QhW m.kd m.has&&QcP m.v != 0)=false):QaS m d=Qb5 m.l (d+1):=by
 rw[Qc9,I,eE h,Z,hs,N];rfl
theorem Qd4{code:Int}(h:QaS m d=code)(I:code≠0):Qef code=QdA (QaS m d):=by rw[h];unfold QdA;rw[eE I]
theorem Qsk(h:QaS m d=0):Ending.returned (.tuple #[])=QdA (QaS m d):=by rw[h];rfl
theorem QsJ(m:Mu):Qcc m.l<=QcC m:=by
 obtain⟨kd,k,tk,i,I,N,Z,v,l⟩:=m;rw[QcC];exact Nat.le_add_left _ _
end
theorem Qmw(w:World){code:Int}(h:code=0):Calls prog 192 #[code] w λe w'=>e=.returned (.tuple #[])/\w'=w:=(Qmv w code).mono λe w' I=>⟨by rw[I.1,h];rfl,I.2⟩
theorem Qp7(w:World){code:Int}(h:code≠0):Calls prog 192 #[code] w λe w'=>e=Qef code/\w'=w:=(Qmv w code).mono λe w' I=>⟨by rw[I.1];unfold QdA;rw[eE h],I.2⟩
variable{w':World}
theorem MuC.nw{b o:Nat}{m:Mu}(h:MuC w b o m c)(k:Nw w w'):MuC w' b o m c:=λj u hu=>(k.cell h.lt (λe=>e)).trans (h j u hu)
theorem RMu.nw{m:Mu}(h:RMu w (Lt w) m c)(k:Nw w w'):RMu w' (Lt w') m c:=(h.agree (gp k λb I=>I)).mono λb I=>ab I k.size
theorem Qj0{m:Mu}{d:Nat}(hd:d<=7)(hm:RMu w (Lt w) m c)(ht:QcC m<=1100000)(hL:Qb4 w)
  (ih:d<=6->∀(x:Mu) (y:MuS) (W:World),RMu W (Lt W) x y->QcC x<=1100000->Qb4 W->Calls prog 163 #[Qaz x y,.int .i64 ((d+1:Nat):Int)] W λe w'=>e=QdA (QaS x (d+1))/\Nw W w') :
  Calls prog 163 #[Qaz m c,.int .i64 (d:Int)] w λe w'=>e=QdA (QaS m d)/\Nw w w':=by
 obtain⟨HI,HM,HT,HD⟩:=Ye ih hm ht hd;clear ih hm ht hd;go_in;go_upto_region 1 with fail;generalize e2:World.alloc _ _=W0;obtain⟨e0,c2,f4⟩:=QaB (m:=m) (c:=c) e2;obtain⟨f2,d6,HL⟩:=Yc e0 c2 hL;clear e2 e0 c2 f4 hL;go_wp2_with(refine Qah rfl (.tmp 2) rfl w.heap.size 0 rfl m c d6.o ?_);refine(QlG _ m c).mono ?_;rintro e w1 ⟨rfl,b7⟩;obtain⟨a9,c1⟩:=Yb (gj (f2.o.trans b7)) (d6.o.ext b7);clear b7;rcases aY (Qai m)with hb|hb
 rotate_left
 ·have g:(!Qai m)=true:=by rw [hb];rfl
  have HE:=hY (Qd4 (Qvq (d:=d) hb) oN);rw[g];clear hb g;go_wp2_with fail;refine(QiK _ 9).mono ?_;rintro e w2 ⟨rfl,rfl⟩;go_wp2_with fail;exact⟨rfl,HE.o,a9.o⟩
 have a6:=hY hb;have g:(!Qai m)=false:=by rw[hb];rfl
 rw[g];clear hb g;go_wp2_with fail;refine(Qf5 _ 9).mono ?_;rintro e w2 ⟨rfl,rfl⟩;by_cases h6:6<d
 ·have g:decide ((d:Int)≤6)=false:=eG oM
  have HE:=hY (Qd4 (Qvo (d:=d) a6.o h6) oN);clear h6;go_wp2_with fail;refine(QiK _ 5).mono ?_;rintro e w2 ⟨rfl,rfl⟩;go_wp2_with fail;exact⟨rfl,HE.o,a9.o⟩
 have H6:=hY h6;have g6:decide ((d:Int)<=6)=true:=eI oM;clear h6;go_wp2_with fail;refine(Qf5 _ 5).mono ?_;rintro e w2 ⟨rfl,rfl⟩;clear g6;go_wp2_with(refine Qah rfl (.tmp 2) rfl w.heap.size 0 rfl m c c1.o ?_);refine(Qpw m c HM.o.parts.2.2.1 (HL.o.nw a9.o).lib).mono ?_;rintro e w3 ⟨rfl,b8⟩;obtain⟨a4,b5⟩:=Yb (a9.o.trans b8) (c1.o.nw b8);clear b8;rcases aY (QgF m.kd m.k m.tk m.had)with hk|hk
 rotate_left
 ·have HE:=hY (Qd4 (Qvp (d:=d) a6.o H6.o hk) oN)
  rw[hk];clear hk;go_wp2_with fail;refine(QiK _ 8).mono ?_;rintro e w2 ⟨rfl,rfl⟩;go_wp2_with fail;exact⟨rfl,HE.o,a4.o⟩
 have HK:=hY hk;rw[hk];clear hk;go_wp2_with fail;refine(Qf5 _ 8).mono ?_;rintro e wq ⟨rfl,rfl⟩;have c4:=b5.o.c4;obtain⟨c5,c6,c7,c8,c9,e6⟩:=b5.o.Qop;go_upto_if 17 with fail;go_cut [] (λwc=>Nw wq wc/\(m.had&&QcP m.was != 0)=false)
 case first=>
  rcases aY m.had with hh|hh
  ·rw [hh]
   go_wp2_with fail;refine(Qio (d:=m.was) (HM.o.nw a4.o).parts.1 (ak (Qkz m).2 HT.o) (HL.o.nw a4.o)).mono ?_;rintro e w4 ⟨rfl,a8⟩;obtain⟨a1,f3⟩:=Yb (a4.o.trans a8) a8;by_cases Z:QcP m.was=0
   ·have HF:=hY Z
    have HH:=hY hh;clear Z hh a8;go_wp2_with fail;refine(Qmw _ HF.o).mono ?_;rintro e w5 ⟨rfl,rfl⟩;go_wp2_with fail;go_meet;exact⟨f3.o,by rw[HF.o];simp⟩
   obtain⟨HF,HE⟩:=Yb Z (Qd4 (lookW (d:=d) a6.o H6.o HK.o hh Z) Z);clear Z hh a8;go_wp2_with fail;refine(Qp7 _ HF.o).mono ?_;rintro e w5 ⟨rfl,rfl⟩;go_wp2_with fail;exact⟨rfl,HE.o,a1.o⟩
  rw[hh];go_wp2_with fail;go_meet;exact⟨gu _ _,by rw[hh];rfl⟩
 obtain⟨b9,hs⟩:=hcut;obtain⟨a1,HS,b3⟩:=Yc (a4.o.trans b9) hs (b5.o.nw b9);clear b9 hs c4 c5 c6 c7 c8 c9 e6;have c0:=b3.o.kind;have f6:=b3.o.c11;obtain⟨e3,g0,f5,f9,f0,e7⟩:=b3.o.v6;go_upto_region 6 with fail;go_cut [38] (λv w'=>v=.bool (QhW m.kd m.has)/\w'=wc)
 case first=>
  by_cases k1:m.kd=1
  ·have e1:(m.kd == 1)=true:=by simp [k1]
   have N:QhW m.kd m.has=true:=by simp[QhW,k1]
   have HV:=hY N;clear N k1;go_wp2_with fail;go_meet;exact⟨by rw[HV.o],rfl⟩
  have e1:(m.kd==1)=false:=by simp[k1]
  by_cases k5:m.kd=5
  ·have e5:(m.kd == 5)=true:=by simp [k5]
   have N:QhW m.kd m.has=true:=by simp[QhW,k5]
   have HV:=hY N;clear N k1 k5;go_wp2_with fail;go_meet;exact⟨by rw[HV.o],rfl⟩
  have e5:(m.kd==5)=false:=by simp[k5]
  by_cases k4:m.kd=4
  ·have e4:(m.kd == 4)=true:=by simp [k4]
   have N:QhW m.kd m.has=m.has:=by simp[QhW,k4]
   have HV:=hY N;clear N k1 k5 k4;go_wp2_with fail;go_meet;exact⟨by rw[HV.o],rfl⟩
  have e4:(m.kd==4)=false:=by simp[k4]
  have N:QhW m.kd m.has=false:=by simp[QhW,k1,k5,k4]
  have HV:=hY N;clear N k1 k5 k4;go_wp2_with fail;go_meet;exact⟨by rw[HV.o],rfl⟩
 obtain⟨N,hw⟩:=hcut;subst N;clear c0 f6;rename_i wz;subst hw;go_upto_if 38 with fail;go_cut [] (λw'=>Nw wc w'/\(QhW m.kd m.has&&QcP m.v != 0)=false)
 case first=>
  rcases aY (QhW m.kd m.has)with N|N
  ·rw [N]
   go_wp2_with fail;refine(Qio (d:=m.v) (HM.o.nw a1.o).parts.2.1 (ak (Qkz m).1 HT.o) (HL.o.nw a1.o)).mono ?_;rintro e w5 ⟨rfl,b0⟩;obtain⟨a0,e8⟩:=Yb (a1.o.trans b0) b0;by_cases Z:QcP m.v=0
   ·have HF:=hY Z
    have HV:=hY N;clear Z N b0;go_wp2_with fail;refine(Qmw _ HF.o).mono ?_;rintro e w6 ⟨rfl,rfl⟩;go_wp2_with fail;go_meet;exact⟨e8.o,by rw[HF.o];simp⟩
   obtain⟨HF,HE⟩:=Yb Z (Qd4 (Qvs (d:=d) a6.o H6.o HK.o HS.o N Z) Z);clear Z N b0;go_wp2_with fail;refine(Qp7 _ HF.o).mono ?_;rintro e w6 ⟨rfl,rfl⟩;go_wp2_with fail;exact⟨rfl,HE.o,a0.o⟩
  rw[N];go_wp2_with fail;go_meet;exact⟨gu _ _,by rw[N];rfl⟩
 obtain⟨a2,d3⟩:=hcut;have a0:=hY (a1.o.trans a2);have i0:wc.cell? ⟨w,8+10,none⟩=some (.slice c.s.a m.l.length c.s.c):=(b3.o.nw a2) 18 _ rfl;have HC:=hY (Qvr a6.o H6.o HK.o HS.o d3);have g5:=HM.o.len;have c3:wrap64 ((d:Int)+1)=((d+1:Nat):Int):=by
  have:=H6.o;unfold wrap64;omega
 have f1:=hY c3;clear a2 d3 e3 g0 f5 f9 f0 e7 c3;go_wp2_with fail;go_loopw[46] (λf8 wr=>∃j:Nat,f8=.int .i64 (j:Int)/\j<=m.l.length/\Yd (Nw w wr)/\Yd (Qb5 (m.l.drop j) (d+1)=Qb5 m.l (d+1))) (λv _=>m.l.length -(intOf v).toNat)
 case atStart=>exact⟨0,rfl,aA _,a0,hY rfl⟩
 obtain⟨j,rfl,hj,HX,HJ⟩:=hrel;by_cases d5:j<m.l.length
 ·have l1:(j:Int)<(m.l.length:Int):=oM
  have i1:decide ((j:Int)<(m.l.length:Int))=true:=eI l1;have l0:(0:Int)<=(j:Int):=oM
  obtain⟨x,hx⟩:∃x,m.l[j]? = some x:=⟨_,ac d5⟩;obtain⟨b,o,y,g3,g4,g9,g8,d4,d7⟩:=HM.o.at hx;have b4:=hY (d4.nw HX.o);have g7:b<wr:=b4.o.lt;have a5:=λW (hW:Ext wr W)=>HI.o (by have:=H6.o;omega) x y W (d7.nw (HX.o.trans (gj hW))) (ak (Qgb hx) (ak (QsJ m) HT.o)) (HL.o.nw (HX.o.trans (gj hW)))
  have a7:=hY a5;have I:=QpG hx (d+1);rw[HJ.o]at I;have d0:=hY I;clear d7 d4 a5 hx g4 I;rw[g3];go_wp2_with(first |(refine Qah rfl (.tmp 48) rfl b (o+j*19) rfl x y b4.o ?_) |(refine QaR rfl rfl rfl x y (w0:=wr) (b:=wr) rfl ((gh wr).alloc _ _) (gm wr _ _) rfl rfl rfl ?_;intro w5 a2 d8;have a0:=hY a2;have f7:=hY (gC d8);clear a2 d8) |(refine Qah rfl (.tmp 5) rfl wr.heap.size 0 rfl x y f7.o ?_));rw[f1.o];by_cases Z:QaS x (d+1)=0
  ·refine ((a7.o _ a0.o).mono fun e W h=>(show e=.returned (.tuple #[])∧Nw _ W from ⟨by rw [h.1,Z];rfl,h.2⟩)).mono ?_
   rintro e w2 ⟨rfl,a3⟩;have b6:=hY ((HX.o.trans (gj a0.o)).trans a3);have I:=d0.o;rw[eE (λh=>h Z)]at I;have HA:=hY I.symm;clear a3 Z I;go_wp2_with fail;go_roundw
   case rel=>exact⟨j+1,by go_num,d5,b6,HA⟩
   simp[intOf];omega
  have I:=d0.o;rw[eH Z]at I;have HE:=hY (Qd4 (HC.o.trans I) Z);refine((a7.o _ a0.o).mono λe W h=>(show e=Qef (QaS x (d+1))/\Nw _ W from⟨by rw[h.1];unfold QdA;rw[eE Z],h.2⟩)).mono ?_;rintro e w2 ⟨rfl,a3⟩;have b6:=hY ((HX.o.trans (gj a0.o)).trans a3);clear a3 Z I;go_wp2_with fail;exact⟨rfl,HE.o,b6.o⟩
 obtain rfl:j=m.l.length:=oM
 have l1:decide ((m.l.length:Int)<(m.l.length:Int))=false:=eG oM;have HE:=hY (Qsk (m:=m) (d:=d) (by rw[HC.o,<-HJ.o,cQ];rfl));go_wp2_with fail;refine bodyPost_end (v:=.tuple #[]) (by simp[results,results163,go_sem]) rfl ?_;exact⟨HE.o,HX.o⟩
theorem QpH(n:Nat):∀(d:Nat) (m:Mu) (c:MuS) (w:World),d+n=7->RMu w (Lt w) m c->QcC m<=1100000->Qb4 w->Calls prog 163 #[Qaz m c,.int .i64 (d:Int)] w λe w'=>e=QdA (QaS m d)/\Nw w w':=by
 induction n with
 |zero=>exactλd m c w hd Z I N=>Qj0 oM Z I N λh=>oM
 |succ n ih=>exactλd m c w hd Z I N=>Qj0 oM Z I N λh x y W hx hy hW=>ih (d+1) x y W oM hx hy hW
theorem QrH{m:Mu}(Z:RMu w (Lt w) m c)(N:QcC m<=1100000)(I:Qb4 w):Calls prog 163 #[Qaz m c,.int .i64 1] w λe w'=>e=QdA (QaS m 1)/\Nw w w':=QpH 6 1 m c w rfl Z N I
abbrev fp:=@leaves_cons
theorem QqQ{b:Nat}{t T:TypeId}{v I:Value}{cs:Array Value}(Z:Blk w b t #[I])(W:World)(N:(w.setCell b v).alloc (.cells cs T)=W):Sb (λi=>i=b) w W/\Blk W b t #[v]:=by
 subst N;have h1:Blk (w.setCell b v) b t #[v]:=Z.QbH 0 v;have h2:=(gh (w.setCell b v)).alloc cs T;exact⟨((gu (λi=>i=b) w).set (p:=⟨b,0,none⟩) (.inr rfl) v).ext h2,h1.ext h2⟩
theorem QkW(p:Addr)(w:World):CallsD prog 188 #[.pointer (some p)] .returning w λe N w'=>e=.returned (.tuple #[])/\N=.returning/\w'=w:=by
 refine callsD_of_wpS func188 rfl λI cs hu=>?_
 apply wpS_seq;apply wpS_region;simp[wpOpsS,go_sem,recoverD,hu,ntmps188,Exit.thenS];refine wpS_of_wp ?_;go_wp2;cases I
 simp_all [bodyPostS,results,results188]
theorem Qja(W:World)(v:Value)(I:TypeId):(Instr.typeAssert (.iface 237 v) I 237 true).run prog W=.ok (.tuple #[v,true]) W:=kM
theorem Qm1(b:Nat)(code:Int)(w:World)(I:Blk w b 71 #[.int .i64 0]) :
  CallsD prog 188 #[.pointer (some b)] (.panicking [{ v:=.iface 237 (.agg #[code]),recovered:=false }]) w λe u' w'=>
   e=.returned (.tuple #[])/\u'=.panicking [{ v:=.iface 237 (.agg #[code]),recovered:=true }]/\Sb (λi=>i=b) w w'/\Blk w' b 71 #[.int .i64 code]:=by
 have Z:w.cell? b=some (.int .i64 0):=I.cell 0;have f0:=I.frozen 0;have l0:=I.lt;refine callsD_of_wpS func188 rfl λc₀ cs hu=>?_
 apply wpS_seq;apply wpS_region;simp[wpOpsS,go_sem,recoverD,hu,ntmps188,Exit.thenS];refine wpS_of_wp ?_;have ha:=λW=>Qja W (.agg #[code])
 change Code.wp _ _ _ { tmps:=#[.pointer (some b),undef,undef,undef,.iface 237 (.agg #[code]),undef,undef,undef,undef,undef,undef],defers:=[] } w;go_wp2;generalize N:World.alloc _ _=W;obtain⟨h1,h2⟩:=QqQ I W N;clear N ha Z f0 l0;cases c₀
 simp_all [bodyPostS,results,results188]
variable{B:Nat}
theorem QrK{m:Mu}(hC:MuC w B 0 m c)(hm:RMu w (Lt w) m c)(ht:QcC m<=1100000)(hL:Qb4 w) :
  Calls prog 162 #[.pointer (some B)] w λe w'=>e=QdA (QaS m 1)/\Nw w w':=by
 obtain⟨HC,HB⟩:=Yb (QrH hm ht hL) hC;clear hC hm ht hL;by_cases h:QaS m 1=0
 ·have N:=hY h
  go_in;clear h;go_wp2_with(refine Qah rfl (.tmp 0) rfl B 0 rfl m c HB.o ?_);refine(HC.o.mono λe W h=>(show e=.returned (.tuple #[])/\Nw _ W from⟨by rw[h.1,N.o];rfl,h.2⟩)).mono ?_;rintro e w1 ⟨rfl,I⟩;have Z:=hY I;clear I;go_wp2_with fail;refine bodyPost_end (v:=.tuple #[]) (by simp[results,results162,go_sem]) rfl ?_;exact⟨by rw[N.o];rfl,Z.o⟩
 have N:=hY (show QdA (QaS m 1)=Qef (QaS m 1)by unfold QdA;rw[eE h]);go_in;clear h;go_wp2_with(refine Qah rfl (.tmp 0) rfl B 0 rfl m c HB.o ?_);refine(HC.o.mono λe W h=>(show e=Qef (QaS m 1)/\Nw _ W from⟨by rw[h.1,N.o],h.2⟩)).mono ?_;rintro e w1 ⟨rfl,I⟩;have Z:=hY I;clear I;go_wp2_with fail;exact⟨rfl,N.o.symm,Z.o⟩
theorem Qm0{m:Mu}(hC:MuC w B 0 m c)(hm:RMu w (Lt w) m c)(ht:QcC m<=1100000)(hL:Qb4 w) :
  Calls prog 161 #[.func (.func 162) #[] #[.pointer (some B)]] w λe w'=>e=.returned (QaS m 1)/\Nw w w':=by
 have a7:∀(fn:Fn) (first a5:Array Value) (w:World),(Instr.makeFunc fn first a5).run prog w=.ok (.func fn first a5) w:=λ_ _ _ _=>rfl
 have a3:=(gh w).alloc #[.int .i64 0] 71;obtain⟨N,a2⟩:=Yb (gj a3) (gm w 71 #[.int .i64 0]);have HC:=hY (QrK (hC.nw N.o) (hm.nw N.o) ht (hL.nw N.o));clear hC hm ht hL a3;by_cases h:QaS m 1=0
 ·have HE:=hY h
  clear h;go_enter_defers func161,ntmps161;go_wp2_with fail;refine(HC.o.mono λe W h=>(show e=.returned (.tuple #[])/\Nw _ W from⟨by rw[h.1,HE.o];rfl,h.2⟩)).mono ?_;rintro e w1 ⟨rfl,hn⟩;have I:=hn.blk a2.o;have c1:w1.cell? w=some (.int .i64 0):=I.cell 0;have f1:=I.frozen 0;have l1:=I.lt;obtain⟨a1,a0⟩:=Yb (N.o.trans hn) I;clear hn I;go_wp2_with fail;generalize hW:World.setCell _ _ _=W;have hs:Sb (λi=>i=w.heap.size) w1 W:=by rw[<-hW];exact(gu (λi=>i=w.heap.size) w1).set (p:=⟨w,0,none⟩) (.inr rfl) _
  have a4:Blk W w.heap.size 71 #[.int .i64 0]:=by rw[<-hW];exact a0.o.QbH 0 (.int .i64 0)
  clear hW c1 f1 l1;obtain⟨HS,a6⟩:=Yb (show Nw w W from a1.o.comp hs λi hi e=>oM) a4;clear hs a4;refine fp (f:=188) (args:=#[.pointer (some w)]) oO (by simp[go_sem]) ?_;refine(QkW w _).mono ?_;rintro e u' Z ⟨rfl,rfl,rfl⟩;have c2:Z.cell? w=some (.int .i64 0):=a6.o.cell 0;have hE:=HE.o;have hS:=HS.o;simp[Leaves,settle,results,results161,go_sem,c2,hE,hS]
 have HE:=hY (show QdA (QaS m 1)=Qef (QaS m 1)by unfold QdA;rw[eE h]);clear h;go_enter_defers func161,ntmps161;go_wp2_with fail;refine(HC.o.mono λe W h=>(show e=Qef (QaS m 1)/\Nw _ W from⟨by rw[h.1,HE.o],h.2⟩)).mono ?_;rintro e w1 ⟨rfl,hn⟩;obtain⟨a0,a1⟩:=Yb (hn.blk a2.o) (N.o.trans hn);clear hn;go_wp2_with fail;refine fp (f:=188) (args:=#[.pointer (some w)]) oO (by simp[go_sem]) ?_;refine(Qm1 w.heap.size (QaS m 1) _ a0.o).mono ?_;rintro e u' Z ⟨rfl,rfl,hs,hb⟩;have c2:Z.cell? w=some (.int .i64 (QaS m 1)):=hb.cell 0;have hS:Nw w Z:=a1.o.comp hs λi hi e=>oM
 simp[Leaves,settle,results,results161,go_sem,c2,hS]
theorem QrL{m:Mu}(hm:RMu w (Lt w) m c)(ht:QcC m<=1100000)(hL:Qb4 w):Calls prog 130 #[Qaz m c] w λe w'=>e=.returned (QbP m)/\Nw w w':=by
 have a6:Qa0 m<=1100000:=ak (Qsp m) ht;have b0:∀(fn:Fn) (first a2:Array Value) (w:World),(Instr.makeFunc fn first a2).run prog w=.ok (.func fn first a2) w:=λ_ _ _ _=>rfl
 obtain⟨HM,HT,HL,a9⟩:=Ye hm ht hL a6;clear hm ht hL a6;go_in;go_upto_region 1 with fail;generalize a3:World.alloc _ _=W0;obtain⟨a1,a5,a7⟩:=QaB (m:=m) (c:=c) a3;obtain⟨a0,a4⟩:=Yb a1 a5;clear a3 a1 a5 a7;go_wp2_with(refine Qah rfl (.tmp 1) rfl w.heap.size 0 rfl m c a4.o ?_);refine(Qqu (HM.o.nw (gj a0.o)) a9.o).mono ?_;rintro e w1 ⟨rfl,Z⟩;obtain⟨N,a8⟩:=Yb (a0.o.trans Z) (a4.o.ext Z);clear Z;by_cases I:64<Qa0 m
 ·have g:decide ((64:Int)<(Qa0 m:Int))=true:=eI oM
  have HE:=hY (show QbP m=6 by unfold QbP;rw[eH I]);clear I;go_wp2_with fail;go_ret;exact⟨by rw[HE.o]<;>rfl,gj N.o⟩
 have g:decide ((64:Int)<(Qa0 m:Int))=false:=eG oM;have HE:=hY (show QbP m=QaS m 1 by unfold QbP;rw[eE I]);clear I;go_wp2_with fail;refine(Qm0 a8.o (HM.o.nw (gj N.o)) HT.o (HL.o.nw (gj N.o))).mono ?_;rintro e w2 ⟨rfl,hn⟩;have HN:=hY ((gj N.o).trans hn);clear hn;go_wp2_with fail;go_ret;exact⟨by rw[HE.o]<;>rfl,HN.o⟩
variable{W:World}{s:Sl}
theorem QuR{base:Nat}{xs:List WV}(Z:W.ownsRow base 34 6 (.slice s.a xs.length s.c) xs.length (QeF xs))(hv:∀x∈xs,RV W (Lt W) x.v x.sl x.so)(hn:xs.length*88<=140737488355328) :
  RV W (Lt W) (QuP (xs.map WV.v)) s Sl.none:=by
 obtain⟨b,o,a0,hc⟩:=Qsg (gz Z);have N:∀(j:Nat) (d:Val),(xs.map WV.v)[j]? = some d->∃x,xs[j]? = some x/\x.v=d:=λj d hd=>by
  rw[ar]at hd;cases I:xs[j]? with
  |none=>rw[I]at hd;cases hd
  |some x=>rw[I]at hd;exact⟨x,rfl,by injection hd⟩
 refine .mk b o 0 0 (λj=>((xs.getD j ⟨zeroV,Sl.none,Sl.none⟩).sl,(xs.getD j ⟨zeroV,Sl.none,Sl.none⟩).so)) (λ_=>(Sl.none,Sl.none)) (by rw[aq];exact a0.mono λi h=>h.2) (.nil _ _) rfl ?_ ?_ (λj k h=>by simp at h) (λj d h=>by simp at h) (λj d h=>by simp at h) oN oN oN (by rw[aq];exact hn) oO
 ·intro j d hd
  obtain⟨x,I,rfl⟩:=N j d hd;have e:xs.getD j ⟨zeroV,Sl.none,Sl.none⟩=x:=by rw[dq,I];rfl
  rw[e];exact hc j x I
 intro j d hd;obtain⟨x,I,rfl⟩:=N j d hd;have e:xs.getD j ⟨zeroV,Sl.none,Sl.none⟩=x:=by rw[dq,I];rfl
 rw[e];exact hv x (am I)
variable{F:Nat->Prop}{sl so:Sl}
theorem RVC.row{d:Val}(h:RVC w F d sl so):∃xs:List WV,xs.map WV.v=d.l/\sl.c=xs.length/\(sl.a=none->xs.length=0)/\(∀x∈xs,RV w F x.v x.sl x.so)/\
  (∀b,sl.a=some b->∀j u,(QeF xs)[j]? = some u->w.cell? (b.add j)=some u)/\xs.length*88<=140737488355328:=by
 have I:=h.cap;have a0:=h.rv;cases a0 with
 | mk bl fl bo fo cl co hl ho hov el rl ek eo ro bk bi bt nl no=>
   rename_i kind b i t l ok ov;have I:sl.c=l.length:=I;have a1:=Qvw (w:=w) (xs:=wl l cl) (by rw[QhX];exact hl) λj x hx=>by
    obtain⟨e1,Z,e3⟩:=QuY hx;rw[Z,e3];exact el j _ e1
   refine⟨wl l cl,QvV l cl,by rw[QhX];exact I,λe=>?_,λx hx=>?_,λa ha j u hu=>?_,by rw[QhX];exact nl⟩
   ·rw [QhX]
    rcases Nat.eq_zero_or_pos l.length with h0|h0
    .exact h0
    have:=(hl.eq h0).1;rw[e]at this;cases this
   ·obtain ⟨j,hj⟩:=bz hx
    obtain⟨e1,Z,e3⟩:=QuY hj;rw[Z,e3];exact rl j _ e1
   obtain⟨b',o',h1,h2,h3⟩:=a1;have a2:=(ae.1 hu).1;rw[QeG,QhX]at a2;have N:0<l.length:=oM
   rw[QhX]at h1;have e1:=(hl.eq N).1;have Z:=(h1.eq N).1;rw[ha]at Z;injection Z with Z;rw[Z,Qbc];exact h3 j u hu
theorem Qqx{base e size n:Nat}{v:Value}{xs:List Value}(h:w.ownsRow base e size v n xs):∃s:Sl,v=.slice s.a n s.c:=by
 rcases h.2 with⟨rfl,rfl⟩ |⟨g,I,N,rfl,_⟩
 .exact ⟨Sl.none,rfl⟩
 exact⟨⟨some g,I⟩,rfl⟩
variable{u:Value}
theorem Ext.addr(h:Ext w w'){a:Addr}(I:w.cell? a=some u):w'.cell? a=some u:=
 (fb (w:=w) (a:=a) ((h.sb (λ_=>False)).block a.block (eX w _ I) λe=>e)).trans I
theorem Qs2(l:List Val)(x:Val):QcI (QuP (l++[x]))=7+QdR l+QcI x:=by
 have:∀l:List Val,QdR (l++[x])=QdR l+QcI x:=λl=>by
  induction l with
  |nil=>simp[QdR]
  |cons a r ih=>rw[aM,QdR,QdR,ih];omega
 show QcI (.mk 5 false 0 ByteArray.empty (l++[x]) [] [])=_;rw[QcI,this,QfL];show 7+0+(QdR l+QcI x)+0=_;omega
theorem Qs1(v:Val):QdR v.l<=QcI v:=by
 obtain⟨k,b,i,t,l,I,N⟩:=v;rw[QcI];show QdR l<=_;omega
theorem Qt7(M:List Ent)(k:ByteArray)(v:Val):Qq1 M k v=if(Qaq M k).isSome=true/\((Qaq M k).getD zeroV).kind≠5 then(9,M)else Qoo M k ((Qaq M k).getD zeroV).l v:=by
 unfold Qq1;cases Qaq M k with
 |none=>rfl
 |some y=>by_cases h:y.kind=5<;>simp[h]
variable{M:List Ent}
theorem QiZ.QdR{B:List Ent}{C:Slots}(h:QiZ B C M)(k:ByteArray):QdR ((Qaq M k).getD zeroV).l<=7168:=by
 cases I:Qaq M k with
 |none=>exact aA _
 |some y=>exact ak (Qs1 y) (h.ok.get I).2.cnt
variable{H:Nat->Prop}{O:Nat}{d:OD}
theorem QmV{k:ByteArray}{v:Val}(h:OvX H w O d M)(hH:∀b,H b->b<w.heap.size)(hn:d.us.length<=1000000)(hl:(Qaa d.T).length<=1000000)(d0:k.size<=maxLen)
  (hv:RV w (Lt w) v sl so) (hc:QcI v<=1092000) (hL:Qb4 w) :
  Calls prog 171 #[.pointer (some O),k,QbV v sl so] w λe w'=>e=.returned (.int .i64 (Qq1 M k v).1)/\∃d',GoX H w O d (Qq1 M k v).2 1 w' d':=by
 have c6:=(gh w).alloc #[.int .i64 v.kind,.bool v.b,.int .i64 v.i,.string v.t,.slice sl.a v.l.length sl.c,.slice so.a v.ok.length so.c] 34;have e6:=gm w 34 #[.int .i64 v.kind,.bool v.b,.int .i64 v.i,.string v.t,.slice sl.a v.l.length sl.c,.slice so.a v.ok.length so.c];have c0:=Quh (h.nw (gj c6)) hl d0;have c3:(w.alloc (.cells #[v.kind,v.b,v.i,v.t,.slice sl.a v.l.length sl.c,.slice so.a v.ok.length so.c] 34)).heap.size=w.heap.size+1:=eK _ _;obtain⟨HH,HL,HV,HC,g7,i2,i6⟩:=Yh h hL hv hc d0 hn hH;obtain⟨g6,i5,i9,HG⟩:=Ye c6 e6 c3 c0;have a0:=Qt7 M k v;have c8:=HH.o.rel.QdR k;obtain⟨r,hr⟩:∃r,Qq1 M k v=r:=⟨_,rfl⟩;rw[hr]at a0 ⊢;obtain⟨y,hy⟩:∃y,(Qaq M k).getD zeroV=y:=⟨_,rfl⟩;obtain⟨g,hg⟩:∃g,(Qaq M k).isSome=g:=⟨_,rfl⟩;rw[hy,hg]at a0;rw[hy]at c8;obtain⟨HY,i4,a9,f9⟩:=Ye hy hg a0 c8;obtain⟨i0,hi,i1,g0,f8⟩:=eR Tryz.QjM;clear h hL hv hc d0 hn hH c6 e6 c3 c0 hl hy hg a0 c8 hr;go_in;go_wp2_with fail;refine HG.o.mono ?_;rintro e w1 ⟨s1,s2,rfl,c4,d3⟩;rw[HY.o,i4.o];rw[HY.o]at d3;obtain⟨f6,e0,f7⟩:=Yc d3 (g6.o.trans c4) (i5.o.ext c4);clear c4 d3;go_upto_region 2 with fail;have a7:=(gh w1).alloc #[.int .i64 y.kind,.bool y.b,.int .i64 y.i,.string y.t,.slice s1.a y.l.length s1.c,.slice s2.a y.ok.length s2.c] 34;have a8:=gm w1 34 #[.int .i64 y.kind,.bool y.b,.int .i64 y.i,.string y.t,.slice s1.a y.l.length s1.c,.slice s2.a y.ok.length s2.c];generalize f5:World.alloc _ _=w2 at a7 a8 ⊢;obtain⟨d4,d5,a2⟩:=Yc (e0.o.trans a7) a7 (f7.o.ext a7);have k0:w2.cell? w1=some (.int .i64 y.kind):=a8.cell 0;have k4:w2.cell? ⟨w1,4,none⟩=some (.slice s1.a y.l.length s1.c):=a8.cell 4;clear f5 a7 a8;by_cases I:g=true/\y.kind≠5
 ·have g1:=I.1
  have g2:(y.kind==5)=false:=eJ.2 I.2;have HR:=hY (a9.o.trans (eH I));clear I;subst g1;go_wp2_with fail;go_ret;exact⟨by rw[HR.o]<;>rfl,d,by rw[HR.o];exact HH.o.stay (gj d4.o)⟩
 have HR:=hY (a9.o.trans (eE I));go_cut [20] (λq w'=>q=.bool false/\w'=w2)
 case first=>
  cases g with
  | false=>
    clear I;go_wp2_with fail;go_meet;exact⟨rfl,rfl⟩
  | true=>
    have g2:(y.kind==5)=true:=by
     by_cases h5:y.kind=5
     .simp [h5]
     exact absurd ⟨rfl,h5⟩ I
    clear I;go_wp2_with fail;go_meet;exact⟨by rw[show(y.kind != 5)=false by rw[bne,g2];rfl],rfl⟩
 obtain⟨rfl,hw⟩:=hcut;subst hw;clear I k0;by_cases Z:256<=y.l.length
 ·have g3:decide ((256:Int)≤(y.l.length:Int))=true:=eI oM
  have g4:(256:Int)<=(y.l.length:Int):=oM
  have a5:=hY (HR.o.trans (show Qoo M k y.l v=(6,M)by unfold Qoo;rw[eH Z]));clear Z;go_wp2_with fail;go_ret;exact⟨by rw[a5.o]<;>rfl,d,by rw[a5.o];exact HH.o.stay (gj d4.o)⟩
 have g3:decide ((256:Int)<=(y.l.length:Int))=false:=eG oM;have g4:¬(256:Int)<=(y.l.length:Int):=oM
 obtain⟨a5,e1⟩:=Yb (HR.o.trans (show Qoo M k y.l v=setMu M k (QuP (y.l++[v]))by unfold Qoo;rw[eE Z])) Z;clear Z;obtain⟨xs,c9,b8,b6,d7,f2,i7⟩:=(f6.o).row;have b0:wc.cell? w=some (.int .i64 v.kind):=a2.o.cell 0;have b1:wc.cell? ⟨w,1,none⟩=some (.bool v.b):=a2.o.cell 1;have b2:wc.cell? ⟨w,2,none⟩=some (.int .i64 v.i):=a2.o.cell 2;have b3:wc.cell? ⟨w,3,none⟩=some (.string v.t):=a2.o.cell 3;have b4:wc.cell? ⟨w,4,none⟩=some (.slice sl.a v.l.length sl.c):=a2.o.cell 4;have b5:wc.cell? ⟨w,5,none⟩=some (.slice so.a v.ok.length so.c):=a2.o.cell 5;have a6:y.l.length=xs.length:=by rw[<-c9,aq]
 rw[a6]at k4;obtain⟨d6,f4,i3,c1,c2⟩:=Yf a6 c9 d7 b8 b6;have f1:=(gh wc).alloc #[.int .i64 v.kind,.bool v.b,.int .i64 v.i,.string v.t,.slice sl.a v.l.length sl.c,.slice so.a v.ok.length so.c] 34;obtain⟨e3,c7,g8⟩:=Yc (gm wc 34 #[.int .i64 v.kind,.bool v.b,.int .i64 v.i,.string v.t,.slice sl.a v.l.length sl.c,.slice so.a v.ok.length so.c]) f1 f2;have i8:xs.length<=255:=by have:=e1.o;omega
 clear c9 d7 b8 b6 a6 f1 f2 g3 g4;generalize hA:(Obj.cells #[v.kind,v.b,v.i,v.t,.slice sl.a v.l.length sl.c,.slice so.a v.ok.length so.c] 34)=A3 at c7 e3;obtain⟨Q1,Q2,Q3,Q4,Q5,Q6⟩:=Yg (show s1.a=none->xs.length=0/\s1.c=0 fromλe=>⟨c2.o e,c1.o.trans (c2.o e)⟩) (show ∀b,s1.a=some b->∀j u,(QeF xs)[j]? = some u->(wc.alloc A3).cell? (b.add j)=some u fromλb hb j u hu=>c7.o.addr (d5.o.addr (g8.o b hb j u hu))) (show ∀j u,(⟨v,sl,so⟩:WV).cells[j]? = some u->(wc.alloc A3).cell? ((wc:Addr).add j)=some u fromλj u hu=>by rw[Qbc,aD,e3.o.cell];simpa[WV.cells]using hu) (show s1.c<xs.length+1 by rw[c1.o];exact dz _) (show xs.length+1<=maxLen by unfold maxLen;omega) (show(xs.length+1)*88<=140737488355328 by omega);subst hA;go_wp2_with(at_builtin;refine wpList_append_grows _ rfl (.tmp 28) (.tmp 30) 31 rfl 34 i0 _ 6 88 underlying31 hi i1 g0 f8 rfl oN s1.a xs.length s1.c (QeF xs) rfl Q1.out (QeG xs) Q2.out wc 1 1 (⟨v,sl,so⟩:WV).cells rfl rfl Q3.out (WV.one _) Q4.out Q5.out Q6.out ?_;intro v4 w4 a4 f3;obtain⟨s',rfl⟩:=Qqx a4;have e4:=hY a4;have g5:=hY (Sb.made (H:=λ_=>False) f3);clear a4 f3);have a1:Nw w1 _:=(gj (d5.o.trans c7.o)).trans g5.o;have N:Nw w _:=(gj e0.o).trans a1;have d8:∀x∈xs++[(⟨v,sl,so⟩:WV)],RV _ (Lt _) x.v x.sl x.so:=λx hx=>by
  rcases aO.1 hx with hx|hx
  .exact ((i3.o x hx).agree (gp a1 λb hb=>hb.2)).mono λb hb=>ab hb.2 a1.size
  obtain rfl:x=⟨v,sl,so⟩:=by simpa using hx
  exact(HV.o.agree (gp N λb hb=>hb)).mono λb hb=>ab hb N.size
 have a3:=QuR (xs:=xs++[(⟨v,sl,so⟩:WV)]) (s:=s') (by rw[aj,Qne];exact e4.o) d8 (by rw[aj];show(xs.length+1)*88<=_;omega);have b9:(xs++[(⟨v,sl,so⟩:WV)]).map WV.v=y.l++[v]:=by rw[aB,f4.o];rfl
 rw[b9]at a3;have b7:=QqS (k:=k) (HH.o.nw N) (λb hb=>ab (i6.o b hb) N.size) i2.o g7.o a3 (by rw[Qs2];have:=f9.o;have:=HC.o;omega) (HL.o.nw N);have e2:xs.length+1=(QuP (y.l++[v])).l.length:=by show _=(y.l++[v]).length;rw[aj,d6.o];rfl
 obtain⟨f0,e8⟩:=Yb b7 N;clear a1 N d8 a3 b9 b7;rw[e2];clear e2;refine f0.o.mono ?_;rintro e w5 ⟨rfl,d',e7⟩;have g9:=hY (e7.since e8.o);clear e7;go_wp2_with fail;go_ret;exact⟨by rw[a5.o]<;>rfl,d',by rw[a5.o];exact g9.o⟩
end Go.Proofs.YtdiecmkpbadgjaaGreatDoor
