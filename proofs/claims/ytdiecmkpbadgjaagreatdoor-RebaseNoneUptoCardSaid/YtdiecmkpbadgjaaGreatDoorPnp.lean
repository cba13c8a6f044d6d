/- What the theorem needs of the texts NoneL: no condition of its own. -/
import Derived.Test.YtdiecmkpbadgjaaGreatDoorPno
set_option linter.unusedVariables false
set_option linter.unusedSimpArgs false
set_option linter.unnecessarySimpa false
set_option maxRecDepth 100000
set_option maxHeartbeats 4000000
namespace Go.Proofs.YtdiecmkpbadgjaaGreatDoor
open Go.Proofs.Tryz
open Go.RowKit Go.Maps Go.Shelf
abbrev k0B:ByteArray:={ data:=#[0] }
abbrev Qyv:Mu:=Qil k0B
abbrev QwJ(last:Int):Nm:=⟨last,Qyv⟩
theorem QyW:QbP Qyv=0:=QrN (by decide +kernel) oN
variable{M:List Ent}
theorem Qy1(h:Qaq M k0B=none):(runM M Qyv).2=M:=by
 unfold runM;rw[eh (by simp[QyW]),stepM,eh oN,eu rfl,h];rfl
theorem QyU(last:Int):QbK last [QwJ last]=[]:=by simp[QbK]
theorem Qx6:prog.built 37 [(0,.int .i64 2),(1,.string k0B)]=some (Qa2 Qyv zS):=kM
variable{w:World}{B:Nat}
theorem Qx2{last:Int}(Z:(Lit.int .u64 last).wf=true):∀(l:List (Nm × MuS)),(∀p∈l,p=(QwJ last,zS))->l.length<=1000->Blk w B 39 (Qd6 l).toArray->Qa7 w (Lt w) ⟨some ⟨B,0,none⟩,l.length⟩ (l.map Prod.fst):=λl hl I N=>
 Quw N (λp hp=>by rw[hl p hp];exact⟨Quv _ _ oN,Z⟩) I
variable{F:Nat->Prop}{T:RT}{s:Sl}
theorem QyZ{l:List Nm}(hT:IsT w F T)(hF:∀b,F b->6<=b/\b<w.heap.size)(ok:OkR T)(I:OkM (Qaa T))(hl:(Qaa T).length<=60)(Z:Qa7 w (Lt w) s l)(hs:l.length<=2)(N:Qcc (Qe6 l)<=1099000)(hL:Qb4 w):Qey w F (Lt w) T s l:=
 ⟨hT,hF,ok,I,Z,λb hb=>hb,hL,oM,N⟩
theorem Qza(n:Nm)(c:MuS):∃d,prog.underlying 39=some d/\d.isRow=true/\(prog.info? 39).map (·.size)=some (Qh5 n c).size:=⟨_,underlying39,rfl,Tryz.Qpn⟩
theorem Qxe{p:Option Addr}{l:List Nm}(N:QaK T=.pointer p)(h:Qey w F (Lt w) T s l)(hs:∀n∈l,(runM (Qaa T) n.m).2=Qaa T) :
  Calls prog 18 #[.agg #[.pointer p],.slice s.a l.length s.c] w λe w'=>e=.returned (.agg #[.pointer p])/\Nw w w':=by
 have h1:=Qhv h;rw[Qao,N]at h1;refine h1.mono ?_;rintro e w' ⟨T',rfl,-,-,-,-,Z,I⟩;rw[I hs,Qao,N];exact⟨rfl,Z⟩
variable{a:Act}{K:Act->World->Prop}{Q:Exit->Act->World->Prop}{z:Value}
theorem Qy4{o:Oper}(t e:TypeId)(N:Nat)(I:Array (Nat × Operand))(ho:o.op=.buildSlice t N I)
  (vs:List Value) (size:Nat) {ie:TypeInfo} (hu:prog.underlying t=some (.slice e)) (a1:prog.info? e=some ie) (hs:ie.size=size) (hz:ie.zero=some z) (hp:0<size) (hl:vs.length=N) (a2:0<N) (a3:N*size<=1000)
  (h1:∀v∈vs,v.cells.size=size) (a0:(I.toList.map λx=>(x.1,a.eval x.2))=(vs.zipIdx 0).map λx=>(x.2,x.1)) (Z:Array Value) (hc:(vs.flatMap λv=>v.cells.toList).toArray=Z)
  (h:K (a.put o.dst (.slice (some ⟨w,0,none⟩) N N)) (w.alloc (.cells Z e))):o.wp prog a w K Q:=by
 subst hs hc hl;have h0:0<vs.length*ie.size:=Nat.mul_pos a2 hp;refine wp_buildSlice t e _ I ho _ ie z hu a1 hz oM oM ?_ h;rw[dU];rw[a0];exact Great.fill_whole hp vs _ h1 (by rw[ed,Array.size_range])
variable{s0:Sl}
theorem noneL{l:List LE}{n last:Int}(hs:ES w (Lt w) s0 l)(hc:∀x∈l,QcI x.v<=1100000)(j5:(Lit.int .i64 n).wf=true)(hw:(Lit.int .u64 last).wf=true)(hL:Qb4 w) :
  Calls prog 7 #[.slice s0.a l.length s0.c,.int .i64 n,.int .u64 last] w λe w'=>e=.returned (.bool true)/\Nw w w':=by
 obtain⟨i0,hi,e4,f3,l7⟩:=eE Tryz.Qcz;have l0:=hL.lib.big;obtain⟨f5,HL,HS,HC,HW⟩:=Yf (λW (hW:Nw w W)=>Qpz (hL.nw hW)) hL hs hc hw;clear hL hs hc hw j5;go_in;by_cases n8:60<l.length
 ·have l1:decide ((60:Int)<(l.length:Int))=true:=em oM
  go_wp2_with fail;refine(f5.o w (fM _ _)).mono ?_;rintro e w1 ⟨rfl,hn⟩;have HN:=hY hn;clear hn;go_wp2_with fail;go_ret;exact⟨rfl,HN.o⟩
 have l1:decide ((60:Int)<(l.length:Int))=false:=ej oM;go_wp2_with fail;refine(Qwq HS.o oM HC.o).mono ?_;rintro e w1 ⟨M,s,xs,H,rfl,b0⟩;obtain⟨E,f7,k6,f8,n4,a3⟩:=Qxn b0 HS.o oM;obtain⟨f9,j3,g7⟩:=Yc b0.nw f7 a3;clear b0 f7 a3 f8 l1;go_wp2_with fail;refine g7.o.mono ?_;rintro e w2 ⟨T1,p1,rfl,g5,f6,j2,i2,a9⟩;have z2:=a9.size;have z1:=f9.o.size;obtain⟨a4,d4,b8,g4,i8⟩:=Yf g5 f6 j2 i2 a9;clear g5 f6 j2 i2 a9 g7 HS HC;go_upto_region 5 with fail;generalize e3:World.alloc w2 _=w3;obtain⟨g8,j1,n7⟩:=Qb2 e3;obtain⟨d7,i9⟩:=Yb g8 j1;clear e3 g8 j1;have K0:True:=trivial;go_upto_region 6 with(first |(have _k:=K0;refine Qa4 rfl 37 #[(0,.const (.int .i64 2)),(1,.const (.string k0B))] rfl (Qa2 Qyv zS) Qx6 ?_;clear _k K0;have K1:True:=trivial) |(have _k:=K1;refine Qa4 rfl 39 #[(0,.tmp 27),(1,.tmp 28)] rfl (Qh5 ⟨last,Qyv⟩ zS) (Qh6 last Qyv zS) ?_;clear _k K1;have K2:True:=trivial) |(have _k:=K2;refine Qsz rfl rfl rfl (QwJ last) zS (w0:=w3) (b:=w3) rfl ((fI w3).alloc _ _) (fK w3 _ _) rfl rfl rfl ?_;intro w4 c2 g9;have b5:=hY c2;have c0:=hY g9;clear c2 g9 _k K2));have K3:True:=trivial;have z4:=b5.o.size;have b4:=i9.o.ext b5.o;have q9:w4.cell? ⟨w2,0,none⟩=some (.pointer p1):=b4.cell 0;obtain⟨e2,c4⟩:=Yb (NmC.Qax c0.o) b4;have l6:=c0.o.lt;clear b4;go_wp2_with(first |(have _k:=K3;refine QjZ rfl (.tmp 10) rfl w3.heap.size 0 rfl (QwJ last) zS e2.o ?_;clear _k K3;have K4:True:=trivial) |(have _k:=K4;refine QbT rfl 23 39 1 #[(0,.tmp 34)] rfl [QqR (QwJ last) zS] 20 underlying23 hi f3 e4 oN rfl oN oN (λv hv=>by simp only[List.mem_cons,List.not_mem_nil,or_false]at hv;rcases hv with rfl;rfl) rfl (Qd6 [(QwJ last,zS)]).toArray rfl ?_;clear _k K4;have K5:True:=trivial));generalize i5:World.alloc w4 _=w5;obtain⟨a2,f4,o0⟩:=Qb2 i5;have a6:Nw w1 w5:=((((fJ i8.o).trans (fJ d7.o)).trans (fJ b5.o)).trans (fJ a2));have a8:Nw w2 w5:=(((fJ d7.o).trans (fJ b5.o)).trans (fJ a2));have d6:Nw w w5:=f9.o.trans a6;have l3:=a6.size;have l2:=a8.size;have b7:IsT w5 (In w1.heap.size w2.heap.size) T1:=g4.o.agree (fN a8 λb hb=>hb.2);obtain⟨d0,c3,k7,j8⟩:=Ye (c4.o.ext a2) (c0.o.ext a2) b7 d6;have c1:=hY (show ∀W (s:Sl) (l:List Nm),Nw w5 W->Qa7 W (Lt W) s l->l.length<=2->Qcc (Qe6 l)<=1099000->Qey W (In w1.heap.size w2.heap.size) (Lt W) T1 s l fromλW s l hW hr hl ht=>
  QyZ (b7.agree (fN hW λb hb=>by have:=hb.2;omega)) (λb hb=>⟨by have:=hb.1;omega,by have:=hb.2;have:=hW.size;omega⟩) d4.o (by rw[b8.o];exact j3.o) (by rw[b8.o];exact k6) hr hl ht (HL.o.nw (d6.trans hW)))
 have b3:=hY (show Calls prog 21 #[.agg #[.pointer p1],.agg #[.pointer p1],.int .u64 last,.slice (some ⟨w4,0,none⟩) 1 1] w5 λe w'=>∃sL sC:Sl,e=.returned (.tuple #[.agg #[.pointer p1],.slice sL.a 0 sL.c,.slice sC.a 0 sC.c])/\Nw w5 w' from by
  have f1:=Qx2 (last:=last) HW.o [(QwJ last,zS)] (λp hp=>aX.1 hp) (show 1<=1000 by decide) f4;have h:=QnA (last:=last) b7 (λb hb=>by have:=hb.2;omega) d4.o (by rw[b8.o];omega) (c1.o w5 _ _ (fM _ _) f1 (show 1<=2 by decide) (show Qcc [Qyv]<=1099000 by decide +kernel));rw[Qao,a4.o,show QbK last (List.map Prod.fst [(QwJ last,zS)])=[]from QyU last]at h;refine h.mono ?_;rintro e w' ⟨V,sL,sC,cs,rfl,ho⟩;obtain rfl:V=T1:=ho.same λn hn=>by cases hn
  have hc:=ho.chg;rw[QlV]at hc;obtain rfl:cs=[]:=cO.1 hc;exact⟨sL,sC,by rw[Qao,a4.o]<;>rfl,ho.nw⟩)
 clear i5 a2 f4 a6 a8 d6 b7 q9 c4 c0 e2 i8 d7 b5 g4 i9;refine b3.o.mono ?_;rintro e w6 ⟨sL,sC,rfl,b9⟩;have k3:=hY b9;clear b9 b3;go_upto_region 7 with fail;generalize i3:World.alloc w6 _=w7;obtain⟨i4,g3,n9⟩:=Qb2 i3;have a1:Nw w5 w7:=k3.o.trans (fJ i4);have l4:=a1.size;have q9:w7.cell? ⟨w2,0,none⟩=some (.pointer p1):=(fW a1 d0.o).cell 0;obtain⟨c8,i7⟩:=Yb a1 g3;obtain⟨o,ho⟩:∃o,Qaq (Qaa T1) k0B=o:=⟨_,rfl⟩;obtain⟨v,hv⟩:∃v,o.getD zeroV=v:=⟨_,rfl⟩;obtain⟨bb,d8⟩:∃bb,o.isSome=bb:=⟨_,rfl⟩;have c9:=hY (show Calls prog 24 #[.agg #[.pointer p1],.string k0B] w7 λe w'=>∃sl so:Sl,e=.returned (.tuple #[QbV v sl so,.bool bb])/\Ext w7 w' from by
  have h:=Qg2 (w:=w7) (F:=In w1.heap.size w2.heap.size) (λb hb=>by have:=hb.2;omega) (k7.o.agree (fN a1 λb hb=>by have:=hb.2;omega)) d4.o (by rw[b8.o];omega) k0B;rw[Qao,a4.o,ho]at h;exact h.mono λe w' ⟨sl,so,h1,h2,_⟩=>⟨sl,so,by rw[h1,hv,d8],h2⟩)
 have i6:=hY (show bb=false->Qaq (Qaa T1) k0B=none fromλhb=>by
  rw[ho];cases o with
  |none=>rfl
  |some x=>rw[<-d8]at hb;cases hb)
 clear i3 i4 g3 a1 ho hv d8;go_wp2_with fail;refine c9.o.mono ?_;rintro e w8 ⟨sl,so,rfl,f2⟩;have i1:=hY f2;clear f2 c9 q9;go_upto_if 125 with fail;generalize e8:World.alloc w8 _=w9;obtain⟨e6,k2,l8⟩:=Qb2 e8;have b6:Nw w7 w9:=(fJ i1.o).trans (fJ e6);have a0:Nw w5 w9:=c8.o.trans b6;obtain⟨c6,g6⟩:=Yb a0 (j8.o.trans a0);have l5:=a0.size;obtain⟨N,c7,a7⟩:=Yc (show ∀W,Nw w9 W->W.cell? ⟨w2,0,none⟩=some (.pointer p1) fromλW hW=>(fW (a0.trans hW) d0.o).cell 0) (show ∀W,Nw w9 W->W.cell? ⟨w6,0,none⟩=some (.pointer p1) fromλW hW=>(fW (b6.trans hW) i7.o).cell 0) (show ∀W,Nw w9 W->W.rangeAt w3.heap.size 0 (Qh5 (QwJ last) zS).toList fromλW hW=>(NmC.Qax (fW (a0.trans hW) c3.o)).range);obtain⟨l9,j7⟩:=Qza (QwJ last) zS;obtain⟨j0,d5⟩:=Yb j7 (λW=>QyT W p1);clear e8 e6 k2 b6 a0 c8 i1 i7 c3;go_cut [56] (λv wc=>v=.bool false/\Nw w9 wc)
 case first=>
  cases bb with
  | true=>
    refine eA (S:=(λw'=>Nw w9 w')) kM ((fJ ((fI w9).drew))) (λhHeld=>?_);refine Qaf 0 (some 45) N hHeld ?_;refine Qaf 1 (some 46) N hHeld ?_;refine Qaf 2 (some 47) N hHeld ?_;refine QfN 3 (some 48) hHeld ?_;refine QfN 4 (some 49) hHeld ?_;refine QfN 5 (some 50) hHeld ?_;refine QfN 6 (some 51) hHeld ?_;refine QfN 7 (some 52) hHeld ?_;refine QfN 8 (some 53) hHeld ?_;refine QfN 9 (some 54) hHeld ?_;refine QfN 10 (some 55) hHeld ?_;refine Qaf 11 (some 56) N hHeld ?_;refine eF kM ?_ _;go_wp2_with fail;go_meet;exact⟨rfl,hHeld⟩
  | false=>
    have e0:=hY (show ∀W B,Nw w9 W->Blk W B 39 (Qd6 [(QwJ last,zS),(QwJ last,zS)]).toArray->Calls prog 18 #[.agg #[.pointer p1],.slice (some ⟨B,0,none⟩) 2 2] W λe w'=>e=.returned (.agg #[.pointer p1])/\Nw W w' fromλW B hW hB=>
     Qxe (s:=⟨some ⟨B,0,none⟩,2⟩) (l:=[QwJ last,QwJ last]) a4.o (c1.o W ⟨some ⟨B,0,none⟩,2⟩ [QwJ last,QwJ last] (c6.o.trans hW) (Qx2 (last:=last) HW.o [(QwJ last,zS),(QwJ last,zS)] (λp hp=>by simpa using hp) (show 2<=1000 by decide) hB) (show 2<=2 by decide) (show Qcc [Qyv,Qyv]<=1099000 by decide +kernel)) λn hn=>by
      have d3:n=QwJ last:=by simpa using hn
      rw[d3];exact Qy1 (i6.o rfl))
    refine eA (S:=(λw'=>Nw w9 w')) kM ((fJ ((fI w9).drew))) (λhHeld=>?_);refine Qaf 0 (some 45) N hHeld ?_;refine Qaf 1 (some 46) N hHeld ?_;refine Qaf 2 (some 47) N hHeld ?_;refine Qaf 3 (some 48) N hHeld ?_;refine Qrs 4 (some 49) 39 (.tmp 10) a7 hHeld j0.o ?_;refine Qrs 5 (some 50) 39 (.tmp 10) a7 hHeld j0.o ?_;refine Qaf 8 (some 53) N hHeld ?_;refine Qac (i:=6) kM rfl (by rfl) (λK Z=>?_)
    skip
    refine Qy4 23 39 2 #[(0,.tmp 49),(1,.tmp 50)] rfl [QqR (QwJ last) zS,QqR (QwJ last) zS] 20 underlying23 hi f3 e4 oN rfl oN oN (λv hv=>by simp only[List.mem_cons,List.not_mem_nil,or_false]at hv;rcases hv with rfl|rfl<;>rfl) rfl (Qd6 [(QwJ last,zS),(QwJ last,zS)]).toArray rfl ?_;generalize e7:World.alloc _ _=wa;obtain⟨k8,g0,n2⟩:=Qb2 e7;have k5:=hY g0;clear e7 g0;refine Z.out _ _ (hHeld.trans (fJ k8)) (λhHeld=>?_);clear Z K
    try go_frame
    refine Qac (i:=7) kM rfl (by rfl) (λK Z=>?_);go_simp
    (refine(e0.o _ _ hHeld k5.o).mono ?_;rintro e wb ⟨rfl,j4⟩)
    refine Z.out _ _ (hHeld.trans j4) (λhHeld=>?_);clear Z K
    try go_frame
    refine Qac (i:=9) kM rfl (by rfl) (λK Z=>?_);go_simp
    (refine(d5.o _).mono ?_;rintro e wd ⟨rfl,k1⟩)
    refine Z.out _ _ (hHeld.trans (fJ k1)) (λhHeld=>?_);clear Z K
    try go_frame
    refine Qaf 10 (some 55) N hHeld ?_;refine Qaf 11 (some 56) N hHeld ?_;refine eF kM ?_ _;go_wp2_with fail;go_meet;exact⟨rfl,hHeld⟩
 obtain⟨rfl,hcut⟩:=hcut;obtain⟨f0,I,k4⟩:=Yc hcut (λW (hW:Nw wc W)=>N.o W (hcut.trans hW)) (λW (hW:Nw wc W)=>c7.o W (hcut.trans hW));have a5:∀W,Qa7 W (Lt W) Sl.none []:=λW=>Qa7.nil W _
 have e1:∀W,Nw wc W->Qey W (In w1.heap.size w2.heap.size) (Lt W) T1 Sl.none []:=λW hW=>c1.o W Sl.none [] (c6.o.trans (hcut.trans hW)) (a5 W) oN oN
 have e0:=hY (show ∀W,Nw wc W->Calls prog 18 #[.agg #[.pointer p1],.slice none 0 0] W λe w'=>e=.returned (.agg #[.pointer p1])/\Nw W w' fromλW hW=>
  Qxe (s:=Sl.none) (l:=[]) a4.o (e1 W hW) λn hn=>by cases hn)
 have k0:=hY (show ∀W,Nw wc W->Calls prog 20 #[.agg #[.pointer p1],.slice none 0 0] W λe w'=>∃sc:Sl,e=.returned (.slice sc.a 0 sc.c)/\Nw W w' fromλW hW=>by
  have h:=Qgp (s:=Sl.none) (l:=[]) (e1 W hW) oN;rw[Qao,a4.o]at h;exact h.mono λe w' ⟨sc,h1,_,h3⟩=>⟨sc,h1,h3⟩)
 have j6:=hY (show ∀W,Calls prog 12 #[.int .u64 last,.slice none 0 0] W λe w'=>∃sc:Sl,e=.returned (.slice sc.a 0 sc.c)/\Ext W w' fromλW=>by
  have h:=Qfk (s:=Sl.none) (l:=[]) (last:=last) (a5 W) λb hb=>hb
  exact h.mono λe w' ⟨sc,h1,h2,_⟩=>⟨sc,h1,h2⟩)
 clear hcut a5 e1 N c7 a7 c1 i6;go_upto_region 10 with fail;refine eA (S:=(λw'=>Nw wc w')) kM ((fJ ((fI wc).drew))) (λhHeld=>?_);refine Qaf 0 (some 57) I hHeld ?_;refine Qaf 2 (some 59) I hHeld ?_;refine Qac (i:=1) kM rfl (by rfl) (λK Z=>?_);go_simp
 (refine(e0.o _ hHeld).mono ?_;rintro e v1 ⟨rfl,d3⟩)
 refine Z.out _ _ (hHeld.trans d3) (λhHeld=>?_);clear Z K
 try go_frame
 refine Qac (i:=3) kM rfl (by rfl) (λK Z=>?_);go_simp
 (refine(d5.o _).mono ?_;rintro e v2 ⟨rfl,a9⟩)
 refine Z.out _ _ (hHeld.trans (fJ a9)) (λhHeld=>?_);clear Z K
 try go_frame
 refine Qaf 4 (some 61) I hHeld ?_;refine Qaf 5 (some 62) I hHeld ?_;refine Qac (i:=6) kM rfl (by rfl) (λK Z=>?_);go_simp
 (refine(k0.o _ hHeld).mono ?_;rintro e v3 ⟨sc,rfl,k9⟩)
 refine Z.out _ _ (hHeld.trans k9) (λhHeld=>?_);clear Z K
 try go_frame
 refine Qaf 7 (some 64) I hHeld ?_;refine Qaf 8 (some 65) I hHeld ?_;refine Qaf 9 (some 66) I hHeld ?_;refine Qaf 10 (some 67) I hHeld ?_;refine Qaf 11 (some 68) I hHeld ?_;refine Qac (i:=12) kM rfl (by rfl) (λK Z=>?_);go_simp
 (refine(j6.o _).mono ?_;rintro e v4 ⟨n6,rfl,c2⟩)
 refine Z.out _ _ (hHeld.trans (fJ c2)) (λhHeld=>?_);clear Z K
 try go_frame
 refine Qaf 13 (some 70) I hHeld ?_;refine Qaf 14 (some 71) I hHeld ?_;refine Qaf 15 (some 72) I hHeld ?_;refine Qaf 16 (some 73) I hHeld ?_;refine Qaf 17 (some 74) k4 hHeld ?_;refine Qaf 18 (some 75) I hHeld ?_;refine Qac (i:=19) kM rfl (by rfl) (λK Z=>?_);go_simp
 (refine(d5.o _).mono ?_;rintro e v5 ⟨rfl,a2⟩)
 refine Z.out _ _ (hHeld.trans (fJ a2)) (λhHeld=>?_);clear Z K
 try go_frame
 refine Qaf 20 (some 77) I hHeld ?_;refine Qaf 21 (some 78) I hHeld ?_;refine Qaf 22 (some 79) I hHeld ?_;refine Qaf 23 (some 80) I hHeld ?_;refine Qaf 24 (some 81) I hHeld ?_;refine Qaf 25 (some 82) I hHeld ?_;refine Qaf 26 (some 83) I hHeld ?_;refine Qaf 27 (some 84) I hHeld ?_;refine Qaf 28 (some 85) I hHeld ?_;refine Qaf 29 (some 86) I hHeld ?_;refine Qaf 30 (some 87) I hHeld ?_;refine Qaf 31 (some 88) I hHeld ?_;refine Qac (i:=32) kM rfl (by rfl) (λK Z=>?_);go_simp
 (refine(f5.o _ ((g6.o.trans f0.o).trans hHeld)).mono ?_;rintro e v6 ⟨rfl,b9⟩)
 refine Z.out _ _ (hHeld.trans b9) (λhHeld=>?_);clear Z K
 try go_frame
 refine Qaf 33 (some 90) I hHeld ?_;refine Qaf 34 (some 6) I hHeld ?_;refine eF kM ?_ _;have j9:=hY ((g6.o.trans f0.o).trans hHeld);go_wp2_with fail;go_ret;exact⟨rfl,j9.o⟩
end Go.Proofs.YtdiecmkpbadgjaaGreatDoor
