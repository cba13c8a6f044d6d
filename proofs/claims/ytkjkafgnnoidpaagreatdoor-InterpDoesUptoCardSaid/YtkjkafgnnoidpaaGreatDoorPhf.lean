/- What the theorem needs of the texts OvPut: no condition of its own. -/
import Derived.Test.YtkjkafgnnoidpaaGreatDoorPhe
set_option linter.unusedVariables false
set_option linter.unusedSimpArgs false
set_option linter.unnecessarySimpa false
set_option maxRecDepth 100000
set_option maxHeartbeats 1000000
namespace Go.Proofs.YtkjkafgnnoidpaaGreatDoor
open Go.Proofs.Tryz
open Go.RowKit Go.Maps
abbrev Nw(w w':World):Prop:=Sb (λ_=>False) w w'
variable{w w':World}
theorem Nw.any(h:Nw w w')(H:Nat->Prop):Sb H w w':=h.mono λ_ _ e=>e.elim
theorem Nw.blk{w w':World}(h:Nw w w'){g:Nat}{t:TypeId}{cs:Array Value}(z:Blk w g t cs):Blk w' g t cs:=Sb.blk h z λe=>e
theorem Nw.agree{w w':World}(h:Nw w w'){F:Nat->Prop}(hF:∀b,F b->b<w):Agree F w w':=λb z=>h.block b (hF b z) λe=>e
theorem Nw.of{w w':World}(h:Ext w w'):Nw w w':=h.sb _
section
variable{H : Nat -> Prop}{w w' : World}{O : Nat}{d d' : OD}
theorem QcW.nw(h:QcW H w O d)(k:Nw w w'):QcW H w' O d:=h.sb k λ_ z=>z.elim
theorem QnP.after{w0:World}(h:QnP H w O d d' w')(k:Nw w0 w):QnP H w0 O d d' w':=
 ⟨h.at_,(k.any _).trans h.sb,λb D=>(h.new b D).imp id λz=>al k.size z⟩
def OD.step(d:OD)(k:ByteArray)(sv:SV)(mb:Option Nat)(s:Sl):OD:=⟨d.T,mb,s,d.us++[⟨k,Qa5 d.C k⟩],d.Hs++[Qc6 d.C k sv],Qc6 d.C k sv⟩
end
def Qll(H:Nat->Prop)(O:Nat)(d:OD)(k:ByteArray)(w:World)(e:Ending)(w':World):Prop:=
 e=.returned (.bool (d.now k).isSome)/\(((d.now k).isSome=false/\Nw w w')\/((d.now k).isSome=true/\∃mb s,QnP H w O d (d.step k Qh4 mb s) w'))
variable{H:Nat->Prop}{O:Nat}{d:OD}
theorem Qoo(h:QcW H w O d)(hH:∀b,H b->b<w)(hn:d.us.length<=1000000)(hl:(Qab d.T).length<=1000000){k:ByteArray}(Y:k.size<=maxLen) :
  Calls prog 17 #[.pointer (some ⟨O,0,none⟩),.string k] w (Qll H O d k w):=by
 have X:=QrW h hl Y;have J:=λW (Z:Ext w W)=>Qmf (h.ext Z) (λb hb=>ab (hH b hb) Z.size) hn Y (sv:=Qh4) ⟨Qcj _ _,λ_=>rfl⟩
 unfold Qll;generalize d.now k=og at *;have R:=hY J;have HG:=hY X;clear h hH J X;go_in;go_wp2_with fail;refine HG.o.mono ?_;rintro e w1 ⟨sl,so,rfl,N,-⟩;have D:=hY N;clear N;cases og with
 | none=>
   go_wp2_with fail;go_ret;exact⟨rfl,.inl ⟨rfl,Nw.of (D.o.alloc _ _)⟩⟩
 | some v=>
   go_wp2_with fail;have z:=D.o.alloc (w:=w1) #[.int .i64 v.kind,.bool v.b,.int .i64 v.i,.string v.t,.slice sl.a v.l.length sl.c,.slice so.a v.ok.length so.c] 28;refine(R.o _ z).mono ?_;rintro e w3 ⟨⟨r,rfl⟩,mb,s,I⟩;have U:=hY (I.after (Nw.of z));clear I z;go_wp2_with fail;go_ret;exact⟨rfl,.inr ⟨rfl,mb,s,U.o⟩⟩
variable{sl so:Sl}
theorem Qne{k:ByteArray}{v:Val}{c:Int}(z:∀W,Nw w W->Calls prog 39 #[.string k] W λe w'=>e=.returned (.int .i64 c)/\Nw W w')(N:c≠0) :
  Calls prog 14 #[.pointer (some ⟨O,0,none⟩),.string k,Qbg v sl so] w λe w'=>e=.returned (.int .i64 8)/\Nw w w':=by
 have R:=hY z;have U:(c != 0)=true:=eL.2 N;clear z N;go_in;go_wp2_with fail;have D:Ext w (w.alloc (.cells #[.int .i64 v.kind,.bool v.b,.int .i64 v.i,.string v.t,.slice sl.a v.l.length sl.c,.slice so.a v.ok.length so.c] 28)):=(fv w).alloc _ _;refine(R.o _ (Nw.of D)).mono ?_;rintro e w1 ⟨rfl,I⟩;have J:=hY ((Nw.of D).trans I);clear D I;go_wp2_with fail;go_ret;exact⟨rfl,J.o⟩
theorem QpE{k:ByteArray}{v:Val}{c:Int}(D:∀W,Nw w W->Calls prog 39 #[.string k] W λe w'=>e=.returned (.int .i64 0)/\Nw W w')
  (I:∀W,Nw w W->Calls prog 40 #[Qbg v sl so] W λe w'=>e=.returned (.int .i64 c)/\Nw W w') (Z:c≠0) :
  Calls prog 14 #[.pointer (some ⟨O,0,none⟩),.string k,Qbg v sl so] w λe w'=>e=.returned (.int .i64 c)/\Nw w w':=by
 have HM:=hY D;have HF:=hY I;have g0:(c != 0)=true:=eL.2 Z;clear D Z I;go_in;go_wp2_with fail;have J:Ext w (w.alloc (.cells #[.int .i64 v.kind,.bool v.b,.int .i64 v.i,.string v.t,.slice sl.a v.l.length sl.c,.slice so.a v.ok.length so.c] 28)):=(fv w).alloc _ _;have R:=fA w 28 #[.int .i64 v.kind,.bool v.b,.int .i64 v.i,.string v.t,.slice sl.a v.l.length sl.c,.slice so.a v.ok.length so.c];refine(HM.o _ (Nw.of J)).mono ?_;rintro e w1 ⟨rfl,N⟩;obtain⟨q0,q1,q2,q3,q4,q5⟩:=(N.blk R).c6;have z:=(Nw.of J).trans N;have U:=hY z;clear J N z R;go_wp2_with fail;refine(HF.o _ U.o).mono ?_;rintro e w2 ⟨rfl,X⟩;have Y:=hY (U.o.trans X);clear X q0 q1 q2 q3 q4 q5;go_wp2_with fail;go_ret;exact⟨rfl,Y.o⟩
def Qqv(H:Nat->Prop)(O:Nat)(d:OD)(k:ByteArray)(v:Val)(w:World)(e:Ending)(w':World):Prop:=
 e=.returned (.int .i64 0)/\∃sl so mb s,QnP H w O d (d.step k ⟨true,v,sl,so⟩ mb s) w'
theorem QtN(h:QcW H w O d)(hH:∀b,H b->b<w)(hn:d.us.length<=1000000){k:ByteArray}(hk:k.size<=maxLen){v:Val}(hv:RV w (Lt w) v sl so)
  (R:∀W,Nw w W->Calls prog 39 #[.string k] W λe w'=>e=.returned (.int .i64 0)/\Nw W w')
  (X:∀W,Nw w W->Calls prog 40 #[Qbg v sl so] W λe w'=>e=.returned (.int .i64 0)/\Nw W w') :
  Calls prog 14 #[.pointer (some ⟨O,0,none⟩),.string k,Qbg v sl so] w (Qqv H O d k v w):=by
 have b0:=λW (hW:Nw w W) sv hsv=>Qmf (h.nw hW) (λb hb=>ab (hH b hb) hW.size) hn hk (sv:=sv) hsv
 have a5:=λW (hW:Nw w W)=>Qga _ v (an _) W sl so ((hv.agree (hW.agree λb hb=>hb)).mono λb hb=>ab hb hW.size)
 have U:∀b,OvB O d b->b<w:=λb hb=>h.Qbe hb
 have HM:=hY R;have HF:=hY X;have a3:=hY b0;have a4:=hY a5;have b3:=hY U;have c2:=hY hH;clear R X h hv b0 a5 U hH;go_in;go_wp2_with fail;have a1:Ext w (w.alloc (.cells #[.int .i64 v.kind,.bool v.b,.int .i64 v.i,.string v.t,.slice sl.a v.l.length sl.c,.slice so.a v.ok.length so.c] 28)):=(fv w).alloc _ _;have c0:=fA w 28 #[.int .i64 v.kind,.bool v.b,.int .i64 v.i,.string v.t,.slice sl.a v.l.length sl.c,.slice so.a v.ok.length so.c];refine(HM.o _ (Nw.of a1)).mono ?_;rintro e w1 ⟨rfl,a0⟩;have Y:=a0.blk c0;obtain⟨q0,q1,q2,q3,q4,q5⟩:=Y.c6;have N:=(Nw.of a1).trans a0;have b7:=hY N;have a9:=hY Y;clear a1 a0 N c0 Y HM;go_wp2_with fail;refine(HF.o _ b7.o).mono ?_;rintro e w2 ⟨rfl,Z⟩;have b8:=Z.blk a9.o;have J:=b7.o.trans Z;have I:=hY J;clear Z q0 q1 q2 q3 q4 q5 a9 HF;obtain⟨q0,q1,q2,q3,q4,q5⟩:=b8.c6;clear b8 J;go_wp2_with fail;refine(a4.o _ I.o).mono ?_;rintro e w3 ⟨sl',so',rfl,b4,b5⟩;have D:=I.o.trans (Nw.of b4);have b6:Qkv w3 (OvF H w3 O d) ⟨true,v,sl',so'⟩:=⟨b5.mono λi hi=>⟨hi.2,λe=>by have:=b3.o i e;have:=I.o.size;have:=hi.1;omega,λe=>by have:=c2.o i e;have:=I.o.size;have:=hi.1;omega⟩,λe=>by cases e⟩;have z:=a3.o w3 D _ b6;have c1:=hY D;have a2:=hY z;clear b4 b5 D b6 z q0 q1 q2 q3 q4 q5 a4 a3;go_wp2_with fail;refine a2.o.mono ?_;rintro e w4 ⟨⟨r,rfl⟩,mb,s,a6⟩;have c3:=hY (a6.after c1.o);clear a6;go_wp2_with fail;go_ret;exact⟨rfl,sl',so',mb,s,c3.o⟩
abbrev fx:=@Nw.of
abbrev fB:=@Nw.agree
abbrev fF:=@Nw.blk
end Go.Proofs.YtkjkafgnnoidpaaGreatDoor
