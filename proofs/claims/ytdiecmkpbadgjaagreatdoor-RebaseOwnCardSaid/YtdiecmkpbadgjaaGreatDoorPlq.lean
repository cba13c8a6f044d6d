/- What the theorem needs of the texts OwnL: no condition of its own. -/
import Derived.Test.YtdiecmkpbadgjaaGreatDoorPlo
set_option linter.unusedVariables false
set_option linter.unusedSimpArgs false
set_option linter.unnecessarySimpa false
set_option maxRecDepth 100000
set_option maxHeartbeats 2000000
namespace Go.Proofs.YtdiecmkpbadgjaaGreatDoor
open Go.Proofs.Tryz
open Go.RowKit Go.Maps Go.Shelf
abbrev muN(n:Int):Mu:=Qfg kN n
abbrev muQ(n:Int):Mu:=.mk 7 ByteArray.empty ByteArray.empty 0 false zeroV false zeroV [muN n]
abbrev sQ(b:Nat):MuS:=⟨Sl.none,Sl.none,Sl.none,Sl.none,⟨some ⟨b,0,none⟩,1⟩⟩
theorem QoI(n:Int):prog.built 37 [(0,.int .i64 3),(1,.string kN),(3,.int .i64 n)]=some (Qa2 (muN n) zS):=kM
theorem QoJ(n:Int)(b:Nat):prog.built 37 [(0,.int .i64 7),(8,.slice (some ⟨b,0,none⟩) 1 1)]=some (Qa2 (muQ n) (sQ b)):=kM
variable{w:World}
theorem QvS{n:Int}{b:Nat}(Z:(Lit.int .i64 n).wf=true)(N:Blk w b 37 (Qa2 (muN n) zS)):RMu w (Lt w) (muQ n) (sQ b):=
 .mk b 0 (fun _=>zS) (Qdd _ _) (Qdd _ _) (.some _ _ _ _ (an _) oN N.lt) (fun j m I=>by
  match j,I with
  | 0,I=>
    obtain rfl:muN n=m:=by simpa using I
    exact fB N) (λj m I=>by
  match j,I with
  | 0,I=>
    obtain rfl:muN n=m:=by simpa using I
    exact QpQ _ _ oN Z) oN oN oN oN (show 1*264<=140737488355328 by decide)
theorem ownL{n:Int}(wn:(Lit.int .i64 n).wf=true)(hL:Qb4 w) :
  Calls prog 4 #[.int .i64 n] w λe w'=>e=.returned (.bool true)/\Nw w w':=by
 obtain⟨i0,hi,f0,d8,f8⟩:=em Tryz.Qcz;obtain⟨i1,hj,f1,e8,f7⟩:=em Tryz.QgB;obtain⟨e3,d7⟩:=Yb (λW (hW:Nw w W)=>Qpz (hL.nw hW)) wn;clear hL wn;go_in;have K0:True:=trivial;go_upto_region 2 with(first |(have _k:=K0;refine Qa4 rfl 37 #[(0,.const (.int .i64 3)),(1,.const (.string kN)),(3,.tmp 6)] rfl (Qa2 (muN n) zS) (QoI n) ?_;clear _k K0;have K1:True:=trivial) |(have _k:=K1;refine QbT rfl 35 37 1 #[(0,.tmp 7)] rfl [Qaz (muN n) zS] 19 underlying35 hj e8 f1 oN rfl oN oN (λv hv=>by rw[aT.1 hv];rfl) rfl (Qa2 (muN n) zS) rfl ?_;generalize c4:World.alloc _ _=w1;obtain⟨c1,c9,f5⟩:=Qb2 c4;have e4:=hY c1;have e6:=hY c9;clear c4 c1 c9 _k K1;have K2:True:=trivial) |(have _k:=K2;refine Qa4 rfl 37 #[(0,.const (.int .i64 7)),(8,.tmp 8)] rfl (Qa2 (muQ n) (sQ w.heap.size)) (QoJ n w.heap.size) ?_;clear _k K2;have K3:True:=trivial) |(have _k:=K3;refine QaR rfl rfl rfl (muQ n) (sQ w.heap.size) (w0:=w1) (b:=w1) rfl ((fr w1).alloc _ _) (fu w1 _ _) rfl rfl rfl ?_;intro w2 a9 c6;have b3:=hY a9;have b5:=hY (fB c6);clear a9 c6 _k K3;have K4:True:=trivial));go_upto_region 3 with(first |(have _k:=K4;refine Qah rfl (.tmp 3) rfl w1.heap.size 0 rfl (muQ n) (sQ w.heap.size) b5.o ?_;clear _k K4;have K5:True:=trivial) |(have _k:=K5;refine Qa4 rfl 39 #[(0,.const (.int .u64 1)),(1,.tmp 10)] rfl (Qh5 ⟨1,muQ n⟩ (sQ w.heap.size)) (Qh6 1 (muQ n) (sQ w.heap.size)) ?_;clear _k K5;have K6:True:=trivial) |(have _k:=K6;refine QbT rfl 23 39 1 #[(0,.tmp 11)] rfl [QqR ⟨1,muQ n⟩ (sQ w.heap.size)] 20 underlying23 hi d8 f0 oN rfl oN oN (λv hv=>by rw[aT.1 hv];rfl) rfl (Qh5 ⟨1,muQ n⟩ (sQ w.heap.size)) rfl ?_;clear _k K6));generalize c8:World.alloc _ _=w3;obtain⟨d6,a4,f9⟩:=Qb2 c8;have I:Ext w1 w3:=b3.o.trans d6;have Z:=e6.o.ext I;have a2:Qa7 w3 (Lt w3) ⟨some ⟨w2,0,none⟩,1⟩ [⟨1,muQ n⟩]:=Quw (l:=[(⟨1,muQ n⟩,sQ w.heap.size)]) (by
  have:(Qd6 [((⟨1,muQ n⟩:Nm),sQ w.heap.size)]).toArray=Qh5 ⟨1,muQ n⟩ (sQ w.heap.size):=by simp[Qd6]
  rw[this];exact a4) (λp hp=>by rw[aT.1 hp];exact⟨QvS d7.o Z,show(Lit.int .u64 1).wf=true by decide⟩) (show 1<=1000 by decide)
 have N:=hY (show Calls prog 12 #[.int .u64 0,.slice (some ⟨w2,0,none⟩) 1 1] w3 λe w'=>∃s':Sl,e=.returned (.slice s'.a 1 s'.c)/\Ext w3 w'/\Qa7 w' (In w3.heap.size w'.heap.size) s' [⟨1,muQ n⟩]from by
  have h:=Qfk (last:=0) a2 λb hb=>hb
  rw[show QbK 0 [⟨1,muQ n⟩]=[⟨1,muQ n⟩]by simp[QbK]]at h;exact h)
 obtain⟨c2,a1,e2⟩:=Yc (ft (e4.o.trans I)) Z a4;have f6:=I.size;clear c8 d6 a4 I Z a2 b5;go_wp2_with fail;refine N.o.mono ?_;rintro e w4 ⟨s1,rfl,a7,c7⟩;obtain⟨g,o,y,e0,hg,b8,g0,d5,c0⟩:=c7.at (j:=0) (x:=⟨1,muQ n⟩) rfl;obtain⟨g2,o2,y2,b0,a0,d0,f4,b7,f2⟩:=c0.at (j:=0) (x:=muN n) rfl;have a8:=d5.mu;have e7:w4.cell? ⟨g,o+19,none⟩=some (.slice (some ⟨g2,o2,none⟩) 1 y.s.c):=by
  have h:=a8 18 _ rfl;rw[show o+0*20+1+18=o+19 by omega,b0]at h;exact h
 have c3:w4.cell? ⟨g2,o2+3,none⟩=some (.int .i64 n):=by
  have h:=b7 3 _ rfl;rwa[show o2+0*19+3=o2+3 by omega]at h
 have f3:w4.frozen? ⟨g2,o2+3,none⟩=false:=a7.free g2 _ a0.1;have l2:g2<w4:=a0.2;have g4:1<=y.s.c:=d0;have b8:1<=s1.c:=b8;rw[e0];obtain⟨a3,HG,e1⟩:=Yc a7 hg a0;clear a7 c7 d5 c0 a8 b7 f2 N hg a0;go_upto_region 7 with fail;generalize a6:World.setCell _ _ _=w5;have h3:=e1.o.1;have h2:=b3.o.size;have d4:Nw w w5:=by rw[<-a6];exact QpW (c2.o.trans (ft a3.o)) (by have:=c2.o.size;omega) _
 have a5:Agree (λb=>b<w3) w4 w5:=by rw[<-a6];exact fv w4 ⟨g2,_,none⟩ _ λh=>by have h:g2<w3:=h;omega
 have b9:=(e2.o.ext a3.o).agree (F:=λb=>b<w3) a5 oM;have b4:=(a1.o.ext a3.o).agree (F:=λb=>b<w3) a5 a1.o.lt;have g3:w5.cell? ⟨w2,19,none⟩=some (.slice (some ⟨w,0,none⟩) 1 1):=b9.cell 19;have d3:w5.cell? ⟨w,3,none⟩=some (.int .i64 n):=b4.cell 3;have b6:=hY d4;clear a6 d4 a5 b9 b4 e7 c3 f3;go_wp2_with fail;refine(e3.o w5 b6.o).mono ?_;rintro e w6 ⟨rfl,hn⟩;have HN:=hY (b6.o.trans hn);clear hn;go_wp2_with fail;go_ret;exact⟨rfl,HN.o⟩
end Go.Proofs.YtdiecmkpbadgjaaGreatDoor
