/- What the theorem needs of the texts OwnL: no condition of its own. -/
import Derived.Test.YtdiecmkpbadgjaaGreatDoorPlo
set_option linter.unusedVariables false
set_option linter.unusedSimpArgs false
set_option linter.unnecessarySimpa false
set_option maxRecDepth 100000
set_option maxHeartbeats 2000000
namespace Go.Proofs.YtdiecmkpbadgjaaGreatDoor
open Go.Proofs.Tryz
open Go.RowKit Go.Maps Go.Shelf
abbrev muN(n:Int):Mu:=Qfg kN n
abbrev muQ(n:Int):Mu:=.mk 7 ByteArray.empty ByteArray.empty 0 false zeroV false zeroV [muN n]
abbrev sQ(b:Nat):MuS:=⟨Sl.none,Sl.none,Sl.none,Sl.none,⟨some ⟨b,0,none⟩,1⟩⟩
theorem QoI(n:Int):prog.built 37 [(0,.int .i64 3),(1,.string kN),(3,.int .i64 n)]=some (Qa2 (muN n) zS):=kM
theorem QoJ(n:Int)(b:Nat):prog.built 37 [(0,.int .i64 7),(8,.slice (some ⟨b,0,none⟩) 1 1)]=some (Qa2 (muQ n) (sQ b)):=kM
variable{w:World}
theorem QvS{n:Int}{b:Nat}(Z:(Lit.int .i64 n).wf=true)(N:Blk w b 37 (Qa2 (muN n) zS)):RMu w (Lt w) (muQ n) (sQ b):=
 .mk b 0 (fun _=>zS) (Qdd _ _) (Qdd _ _) (.some _ _ _ _ (an _) oN N.lt) (fun j m I=>by
  match j,I with
  | 0,I=>
    obtain rfl:muN n=m:=by simpa using I
    exact fB N) (λj m I=>by
  match j,I with
  | 0,I=>
    obtain rfl:muN n=m:=by simpa using I
    exact QpQ _ _ oN Z) oN oN oN oN (show 1*264<=140737488355328 by decide)
theorem ownL{n:Int}(wn:(Lit.int .i64 n).wf=true)(hL:Qb4 w) :
  Calls prog 4 #[.int .i64 n] w λe w'=>e=.returned (.bool true)/\Nw w w':=by
 obtain⟨i0,hi,f1,e0,g3⟩:=ej Tryz.Qcz;obtain⟨i1,hj,e7,f2,f9⟩:=ej Tryz.QgB;obtain⟨f0,e2⟩:=Yb (λW (hW:Nw w W)=>Qpz (hL.nw hW)) wn;clear hL wn;go_in;have K0:True:=trivial;go_upto_region 2 with(first |(have _k:=K0;refine Qa4 rfl 37 #[(0,.const (.int .i64 3)),(1,.const (.string kN)),(3,.tmp 6)] rfl (Qa2 (muN n) zS) (QoI n) ?_;clear _k K0;have K1:True:=trivial) |(have _k:=K1;refine QbT rfl 35 37 1 #[(0,.tmp 7)] rfl [Qaz (muN n) zS] 19 underlying35 hj f2 e7 oN rfl oN oN (λv hv=>by rw[aR.1 hv];rfl) rfl (Qa2 (muN n) zS) rfl ?_;generalize c0:World.alloc _ _=w1;obtain⟨c9,b0,f4⟩:=Qb2 c0;have d8:=hY c9;have d7:=hY b0;clear c0 c9 b0 _k K1;have K2:True:=trivial) |(have _k:=K2;refine Qa4 rfl 37 #[(0,.const (.int .i64 7)),(8,.tmp 8)] rfl (Qa2 (muQ n) (sQ w.heap.size)) (QoJ n w.heap.size) ?_;clear _k K2;have K3:True:=trivial) |(have _k:=K3;refine QaR rfl rfl rfl (muQ n) (sQ w.heap.size) (w0:=w1) (b:=w1) rfl ((fq w1).alloc _ _) (ft w1 _ _) rfl rfl rfl ?_;intro w2 b4 b9;have c2:=hY b4;have d5:=hY (fB b9);clear b4 b9 _k K3;have K4:True:=trivial));go_upto_region 3 with(first |(have _k:=K4;refine Qah rfl (.tmp 3) rfl w1.heap.size 0 rfl (muQ n) (sQ w.heap.size) d5.o ?_;clear _k K4;have K5:True:=trivial) |(have _k:=K5;refine Qa4 rfl 39 #[(0,.const (.int .u64 1)),(1,.tmp 10)] rfl (Qh5 ⟨1,muQ n⟩ (sQ w.heap.size)) (Qh6 1 (muQ n) (sQ w.heap.size)) ?_;clear _k K5;have K6:True:=trivial) |(have _k:=K6;refine QbT rfl 23 39 1 #[(0,.tmp 11)] rfl [QqR ⟨1,muQ n⟩ (sQ w.heap.size)] 20 underlying23 hi e0 f1 oN rfl oN oN (λv hv=>by rw[aR.1 hv];rfl) rfl (Qh5 ⟨1,muQ n⟩ (sQ w.heap.size)) rfl ?_;clear _k K6));generalize a9:World.alloc _ _=w3;obtain⟨c7,a7,f7⟩:=Qb2 a9;have I:Ext w1 w3:=c2.o.trans c7;have N:=d7.o.ext I;have a1:Qa7 w3 (Lt w3) ⟨some ⟨w2,0,none⟩,1⟩ [⟨1,muQ n⟩]:=Quw (l:=[(⟨1,muQ n⟩,sQ w.heap.size)]) (by
  have:(Qd6 [((⟨1,muQ n⟩:Nm),sQ w.heap.size)]).toArray=Qh5 ⟨1,muQ n⟩ (sQ w.heap.size):=by simp[Qd6]
  rw[this];exact a7) (λp hp=>by rw[aR.1 hp];exact⟨QvS e2.o N,show(Lit.int .u64 1).wf=true by decide⟩) (show 1<=1000 by decide)
 have Z:=hY (show Calls prog 12 #[.int .u64 0,.slice (some ⟨w2,0,none⟩) 1 1] w3 λe w'=>∃s':Sl,e=.returned (.slice s'.a 1 s'.c)/\Ext w3 w'/\Qa7 w' (In w3.heap.size w'.heap.size) s' [⟨1,muQ n⟩]from by
  have h:=Qfk (last:=0) a1 λb hb=>hb
  rw[show QbK 0 [⟨1,muQ n⟩]=[⟨1,muQ n⟩]by simp[QbK]]at h;exact h)
 obtain⟨c4,a2,e3⟩:=Yc (fr (d8.o.trans I)) N a7;have f5:=I.size;clear a9 c7 a7 I N a1 d5;go_wp2_with fail;refine Z.o.mono ?_;rintro e w4 ⟨s1,rfl,a6,b6⟩;obtain⟨g,o,y,e8,hg,b5,g4,d0,b8⟩:=b6.at (j:=0) (x:=⟨1,muQ n⟩) rfl;obtain⟨g2,o2,y2,c1,a0,b7,f6,c6,e4⟩:=b8.at (j:=0) (x:=muN n) rfl;have d6:=d0.mu;have e1:w4.cell? ⟨g,o+19,none⟩=some (.slice (some ⟨g2,o2,none⟩) 1 y.s.c):=by
  have h:=d6 18 _ rfl;rw[show o+0*20+1+18=o+19 by omega,c1]at h;exact h
 have c3:w4.cell? ⟨g2,o2+3,none⟩=some (.int .i64 n):=by
  have h:=c6 3 _ rfl;rwa[show o2+0*19+3=o2+3 by omega]at h
 have f3:w4.frozen? ⟨g2,o2+3,none⟩=false:=a6.free g2 _ a0.1;have l2:g2<w4:=a0.2;have f8:1<=y.s.c:=b7;have b5:1<=s1.c:=b5;rw[e8];obtain⟨a4,HG,e6⟩:=Yc a6 hg a0;clear a6 b6 d0 b8 d6 c6 e4 Z hg a0;go_upto_region 7 with fail;generalize a3:World.setCell _ _ _=w5;have h3:=e6.o.1;have h2:=c2.o.size;have c8:Nw w w5:=by rw[<-a3];exact QpW (c4.o.trans (fr a4.o)) (by have:=c4.o.size;omega) _
 have a5:Agree (λb=>b<w3) w4 w5:=by rw[<-a3];exact fv w4 ⟨g2,_,none⟩ _ λh=>by have h:g2<w3:=h;omega
 have d4:=(e3.o.ext a4.o).agree (F:=λb=>b<w3) a5 oM;have b3:=(a2.o.ext a4.o).agree (F:=λb=>b<w3) a5 a2.o.lt;have g0:w5.cell? ⟨w2,19,none⟩=some (.slice (some ⟨w,0,none⟩) 1 1):=d4.cell 19;have d3:w5.cell? ⟨w,3,none⟩=some (.int .i64 n):=b3.cell 3;have a8:=hY c8;clear a3 c8 a5 d4 b3 e1 c3 f3;go_wp2_with fail;refine(f0.o w5 a8.o).mono ?_;rintro e w6 ⟨rfl,hn⟩;have HN:=hY (a8.o.trans hn);clear hn;go_wp2_with fail;go_ret;exact⟨rfl,HN.o⟩
end Go.Proofs.YtdiecmkpbadgjaaGreatDoor
