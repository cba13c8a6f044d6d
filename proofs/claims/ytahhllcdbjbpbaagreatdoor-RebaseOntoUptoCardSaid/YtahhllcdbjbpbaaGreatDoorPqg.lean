/- Steps to the theorem. -/
import Derived.Test.YtahhllcdbjbpbaaGreatDoorPqf
set_option linter.all false
set_option maxRecDepth 100000
set_option maxHeartbeats 4000000
namespace Go.Proofs.YtahhllcdbjbpbaaGreatDoor
open Go.Proofs.Tryz
open Go.RowKit Go.Maps Go.Shelf Go.Sort
attribute [local go_sem] Oper.semAt_some
def Zm(w:AB):(Instr.range 155 (.map none)).run prog w=.ok (.pointer (some w)) (w.alloc (.mapIter none 0 #[] 0)):=by
 simp[Instr.range,run_underlying underlying155,newObj,fp,fE,Result.andThen];rfl
variable{w:AB}{r:Nat}
def qG(h:w.heap[r]? = some (.mapIter none 0 #[] 0))(ty:TypeId):(Instr.next (.pointer (some r)) false ty).run prog w=.ok (.tuple #[false]) w:=by
 have I:(getObj r).run prog w=.ok (.mapIter none 0 #[] 0) w:=by simp[getObj,Sem.run,h]
 unfold Instr.next;simp only[Sem.run_bind,Sem.run_pure,Result.andThen_ok,I]
variable{P:Program}{w':AB}
def Zt{H:Type}{k:TypeId}{R:Value->Option (DataW H × List MemPlace)}{b r n:Nat}{D:DataW H}{left:Lit->Bool}{cnt:Nat}(h:w.ranges P k R b r n D left cnt)(hb:w'.heap[b]? = w.heap[b]?)(hr:w'.heap[r]? = w.heap[r]?):w'.ranges P k R b r n D left cnt:=by
 obtain⟨es,N,I,Z,c0,h1,h2,h3,h4,h5,h6⟩:=h;exact⟨es,N,I,Z,c0,hb.trans h1,h2,h3,h4,hr.trans h5,h6⟩
def YB{H:Type}{k:TypeId}{R:Value->Option (DataW H × List MemPlace)}{b r n:Nat}{D:DataW H}{left:Lit->Bool}{cnt:Nat}(h:w.ranges P k R b r n D left cnt):b<w/\r<w/\(∀t cs,¬AE w b t cs):=by
 obtain⟨es,Z,N,a0,c0,h1,h2,h3,h4,h5,h6⟩:=h;refine⟨(aA.1 h1).1,(aA.1 h5).1,λt cs I=>?_⟩;have I:w.heap[b]? = some (.cells cs t (0,0)):=I;rw[h1]at I;cases I
structure Mp(w1:AB)(B r b D:Nat)(C:AL SV)(p:AA)(ks1:List AA)(left:Lit->Bool)(cnt:Nat)(ss:List (List UInt8))(s:Sl)(wr:AB):Prop where
 col:Cs w1 B (ks1++Cj C p ss) s wr
 rg:wr.ranges prog 9 Dx b r C.length (mapA SV.val C) left cnt
 co:Collected (mapA SV.val C) left ss
 ne:s.row≠some r
 dk:wr.heap[D]? = some (.deferred (some []))
variable{H:Nat->Prop}{O:Nat}{d:OD}
def oW(h:BC H w O d)(hl:(AG d.T).length<=1000000)(hn:d.us.length<=1000000){p:AA}(hp:p.size<=maxLen) :
  Calls prog 164 #[.pointer (some O),p] w (SU d p w):=by
 obtain⟨i0,hi,p1,r7,p6⟩:=eZ Tryz.Zy;have hF:∀b,BL H w O d b->b<w.heap.size:=λb Z=>Z.1
 have k1:=λW=>oB W d.T p hp
 have p2:=λW1 (hA:Agree (Lt w) w W1) (hz:w.heap.size<=W1.heap.size) B lo hi op (hB:EY W1 B d.T lo hi op)=>lT (lo:=lo) (hi:=hi) (op:=op) (show GL (BL H w O d) d.T W1 from⟨h.tree.agree (hA.mono hF),λb Z=>ab (hF b Z) hz⟩) h.ok hl hB
 obtain⟨r,n4⟩:=BM d.T;simp only[AO,n4]at k1;have c0:w.cell? O=some (.pointer r):=by rw[<-n4];exact h.blk.cell 0
 have lO:=h.blk.lt;have l1:O<w.heap.size+1:=oM
 obtain⟨c9,q2,r5,o5⟩:=Ye h hF k1 p2;clear h hF k1 p2 n4;refine(eR (n:=6)).1 ?_;refine fN func164 rfl trivial ?_ rfl;simp only[ntmps164,zL,Nat.reduceAdd,Nat.reduceSub];gi_wp2_with fail;generalize p0:World.alloc (World.alloc _ _) _=W0;obtain⟨q6,v9,q4,o4⟩:=CH w _ _ _ _ W0 p0;obtain⟨q5,r1,r0⟩:=Yc q6 q4 o4;clear p0 q6 q4 o4;refine⟨trivial,?_⟩;refine(eR.2 (r5.o W0)).mono ?_;rintro e w1 ⟨B,en,op,rfl,g6,k5,hB,p4⟩;have e8:=Bw.trans q5.o.below g6;have l9:Nw w w1:=(gA q5.o).trans (Sb.new g6);have c8:=hY (c9.o.nw l9);have j9:AE w1 w.heap.size 128 #[.pointer (some O)]:=r1.o.agree (Agree.of_below g6 (F:=Lt W0) λ_ h=>h) (by show _<_;omega);have n2:AE w1 (w.heap.size+1) 160 #[.slice none 0 0]:=r0.o.agree (Agree.of_below g6 (F:=Lt W0) λ_ h=>h) (by show _<_;omega);obtain⟨q9,o3,n7,v3,t1⟩:=Yf (o5.o w1 (Agree.of_below e8 (F:=Lt w) λ_ h=>h) e8.size B p en op k5) l9 j9 n2 (p4 (AG d.T));have x4:=k5.lt;have y0:=e8.size;have l2:w.heap.size<w1.heap.size:=j9.lt;have o9:w.heap.size+1<w1.heap.size:=n2.lt;clear g6 k5 r5 o5 e8 j9 n2 p4 r1 r0 l9;rw[t1.o]at q9;gi_wp2_with fail;refine PW (gf:=243) (lb:=Jw B) rfl (fq func243 kM rfl) q9.o (Agree.refl _) (ao _)
  (λb Z=>Z.elim (λh=>by have:=q2.o b h;omega) (λh=>oM)) (λ_=>rfl)
  (λpre C W=>∃s:Sl,C=(λb=>b=w.heap.size+1\/s.row=some b)/\Cs w1 (w.heap.size+1) (Cv d.C pre) s W) (λ_ _ _=>False) (λb=>b=w.heap.size+1)
  (λb Z=>⟨oM,λh=>h.elim (λh=>by have:=q2.o b h;omega) (λh=>oM)⟩)
  (λh k=>?turn) (λh k=>h) (λW hW hz=>⟨Sl.none,by funext b;simp[Sl.row],Cs.start v3.o hW hz⟩) ?round ?done ?stop
 case turn=>
  obtain⟨s,e,hc⟩:=h;exact⟨s,e,hc.keep k.sb oM (λb Z=>by have:=(hc.row Z).1;omega) λb Z=>oM⟩
 case stop=>
  rintro D c pre W hD x0 hX i4;exact hX.elim
 case round=>
  rintro pre C x x9 W1 ⟨s,rfl,d5⟩ t9 x6 v6 i7 hG;obtain⟨ks,I⟩:∃ks,Cv d.C pre=ks:=⟨_,rfl⟩;have o8:ks.length<1000000:=by
   have h1:=(ai.1 hG.at_).1;have h2:=T8 d.C pre;have h3:(Gj p (AG d.T)).length<=1000000:=an (bE _ _) hl;rw[<-I];omega
  have t0:=hG.key;rw[I]at d5;have j4:=d5.ext i7;obtain⟨d6,f1⟩:=Yb j4 I;clear d5 j4 i7 hG v6 t9 I;gi_wp2_with fail;refine⟨gz _,λW3 k3=>?_⟩;have N:=d6.o.keep k3.sb oM (λb Z=>by have:=(d6.o.row Z).1;omega) λb Z=>oM
  have b4:=N.sb;have q0:W3.cell? w=some (.pointer (some O)):=(b4.blk n7.o oM).cell 0;have q1:W3.cell? ⟨O,1,none⟩=some (.map d.mb):=(b4.blk c8.o.blk oM).cell 1;have lq:O<W3.heap.size:=(b4.blk c8.o.blk oM).lt;have b5:Bj W3 d.mb d.C:=c8.o.map.heap λb Z=>b4.block b (c8.o.map.lt Z) λe=>by have:=c9.o.map.lt Z;omega
  have f9:=NL b5 t0;have j5:=hY N;have a2:∀b,s.row=some b->w1.heap.size+2<=b/\b<W3.heap.size:=λb Z=>N.row Z
  have c3:W3.cell? ⟨w+1,0,none⟩=some (.slice s.a ks.length s.c):=N.blk.cell 0;have f3:W3.frozen? ⟨w+1,0,none⟩=false:=N.blk.frozen 0;have l3:=N.blk.lt;cases hg:AQ d.C x.k with
  | some sv=>
    rw[hg,show Cm d.C x.k=sv by rw[Cm,hg];rfl]at f9;obtain⟨g5,v,sl,so⟩:=sv;have HG:=hY hg;clear hg N b4 b5;gi_wp2_with fail;have f2:=(gz W3).alloc #[.bool g5,.int .i64 v.kind,.bool v.b,.int .i64 v.i,.string v.t,.slice sl.a v.l.length sl.c,.slice so.a v.ok.length so.c] 166;exact⟨_,⟨s,rfl,by rw[Z6 HG.o,f1.o];exact j5.o.ext f2⟩,f2.st _,λb Z=>.inl Z,λb Z=>by
     have:=f2.size;rcases Z with e|e
     .omega
     have:=(a2 b e).2;omega⟩
  | none=>
    rw[hg,show Cm d.C x.k=ID by rw[Cm,hg];rfl]at f9;have a7:Ext W3 ((W3.alloc (.cells #[false,.int .i64 0,false,.int .i64 0,ByteArray.empty,.slice none 0 0,.slice none 0 0] 166)).alloc (.cells #[.string x.k] 9)):=((gz W3).alloc _ _).alloc _ _;have b3:=AZ N.own (a7.agree (F:=Lt W3) λb Z=>Z) λb Z=>(a2 b Z).2
    have j7:ks.length+1<=maxLen:=by unfold maxLen;omega
    have n6:(ks.length+1)*16<=140737488355328:=oM
    have x2:=N.sb.size;have e0:w1.heap.size+2<=((W3.alloc (.cells #[false,.int .i64 0,false,.int .i64 0,ByteArray.empty,.slice none 0 0,.slice none 0 0] 166)).alloc (.cells #[.string x.k] 9)).heap.size:=by have:=N.sz;simp;omega
    obtain⟨d0,d9⟩:=Yb a7 b3;have n9:=hY (show AE ((W3.alloc (.cells #[false,.int .i64 0,false,.int .i64 0,ByteArray.empty,.slice none 0 0,.slice none 0 0] 166)).alloc (.cells #[.string x.k] 9)) (W3.heap.size+1) 9 #[.string x.k]by
     have:=gB (W3.alloc (.cells #[false,.int .i64 0,false,.int .i64 0,ByteArray.empty,.slice none 0 0,.slice none 0 0] 166)) 9 #[.string x.k];rwa[eQ]at this)
    have t6:¬w.heap.size+1=W3.heap.size:=oM
    have r4:¬w.heap.size+1=W3.heap.size+1:=oM
    have v4:w.heap.size+1<W3.heap.size+1:=oM
    have k2:=hY ((a7.frozen (o:=0) l3).trans f3);have k7:s.row≠some (w.heap.size+1):=λe=>by have:=(a2 _ e).1;omega
    have HG:=hY hg;clear hg N b4 b5 a7 b3;gi_wp2_with(gi_at_builtin;refine MN _ rfl (.tmp 32) (.tmp 34) 160 rfl (w1.heap.size+2) 9 i0 _ 1 16 underlying160 hi p1 r7 p6 rfl oN s ks.length (ks.map .string) rfl d9.o (λb=>b=W3.heap.size+1) ⟨some ⟨W3+1,0,none⟩,1⟩ 1 [.string x.k] rfl (gG n9.o oN rfl) (by simp[Value.oneCell']) j7 n6 e0 ?_;intro s3 w5 a9 a5 g9;have h5:=a5.cell0 (o:=0) d0.o k7 l3;have c5:w5.cell? ⟨w+1,0,none⟩=some (.slice s.a ks.length s.c):=h5.1.trans c3;have l5:=h5.2;have f5:w5.frozen? ⟨w+1,0,none⟩=false:=(a5.fz _ _).trans (k2.out);have l7:=hY a9;have o0:=hY a5;have k0:=hY g9;clear a9 a5 g9 h5);obtain⟨e1,e2,e3,e4⟩:=j5.o.snoc o9 d0.o l7.o o0.o k0.o;exact⟨_,⟨s3,rfl,by rw[oE HG.o,f1.o];exact e1⟩,e2,λb Z=>by
     rcases Z with e|e
     .exact .inl (.inl e)
     exact(e3 b e).imp .inr id,e4⟩
 rintro D xs C W hD hS ⟨s,rfl,d5⟩ i4;have f0:=d5.sb;have q0:W.cell? w=some (.pointer (some O)):=(f0.blk n7.o oM).cell 0;have q1:W.cell? ⟨O,1,none⟩=some (.map d.mb):=(f0.blk c8.o.blk oM).cell 1;have lq:O<W.heap.size:=(f0.blk c8.o.blk oM).lt;have l0:w.heap.size<W.heap.size:=(f0.blk n7.o oM).lt;have b5:Bj W d.mb d.C:=c8.o.map.heap λb Z=>f0.block b (c8.o.map.lt Z) λe=>by have:=c9.o.map.lt Z;omega
 have g7:(Cv d.C xs).length<=1000000:=by
  have h1:=T8 d.C xs;have h2:(xs.map LE.ent).length=(Gj p (AG d.T)).length:=by rw[hS]
  have h3:(Gj p (AG d.T)).length<=1000000:=an (bE _ _) hl;rw[aq]at h2;omega
 have r3:=(aA.1 i4).1;obtain⟨d6,HS,p8,j0,HD⟩:=Yf d5 hS i4 b5 hD;clear d5 hS i4 b5 f0 hD;obtain⟨mb,l4⟩:∃mb,d.mb=mb:=⟨_,rfl⟩;rw[l4]at q1;have p5:=hY l4;clear l4;rcases mb with _|b
 ·have t3:=fun w=>Zm w
  gi_wp2_with fail;generalize o1:World.alloc W _=WW;have f8:WW.heap[W.heap.size]? = some (.mapIter none 0 #[] 0):=by rw[<-o1];exact fP W _
  have d7:Nw W WW:=by rw[<-o1];exact Sb.made (World.grownBy_alloc _ _ _)
  have q3:d.C=[]:=by have:=j0.o;rw[p5.o]at this;exact this
  have a8:=SE (p:=p) (ss:=[]) c9.o.ok.sorted c9.o.sorted HS.o (by rw[q3];exact List.Perm.nil);have a4:=d6.o.keep (d7.any (λ_=>False)) (λe=>e) (λ_ _ e=>e) (λ_ e=>e.elim);obtain⟨ks,I⟩:∃ks,Cv d.C xs=ks:=⟨_,rfl⟩;rw[show Cj d.C p []=[]from rfl,aY,I]at a8;rw[I]at a4 g7;obtain⟨s2,rfl⟩:∃s2,s2=s:=⟨_,rfl⟩;obtain⟨b7,b6,t7,f7,d8⟩:=Yf a8 a4 f8 (show WW.heap[D]? = some (.deferred (some []))from(d7.block D r3 (λe=>e)).trans p8.o) (Ra a4.own oM);have c5:WW.cell? ⟨w+1,0,none⟩=some (.slice s2.a ks.length s2.c):=a4.blk.cell 0;clear o1 t3 a8 a4 f8 d7 I q0 q1 lq l0 q3;gi_loopw [] (λwr=>wr=WW) (λ_=>0)
  case atStart=>rfl
  subst hrel;have x8:=qG t7.o;gi_wp2_with fail;refine⟨trivial,?_⟩;refine(eR.2 d8.o).mono ?_;rintro e w5 ⟨rfl,ts,g4,f4,g8,i3,a3⟩;have b0:Sb (λb=>s2.row=some b) wr w5:=⟨a3.os,a3.tape,a3.output,a3.size,λi hi hn=>a3.block i hi λe=>hn e.symm⟩;have a1:=b0.blk b6.o.blk (λe=>by have:=(b6.o.row e).1;omega);have c6:w5.cell? ⟨w+1,0,none⟩=some (.slice s2.a ks.length s2.c):=a1.cell 0;have l6:=a1.lt;have f6:=hY (show w5.heap[D]? = some (.deferred (some []))from(b0.block D (by have:=(aA.1 f7.o).1;omega) (λe=>by have:=(b6.o.row e).1;have:=HD.o;omega)).trans f7.o);have a0:=Ud o3.o (cN _) b6.o b7.o.1 b7.o.2 g4 f4 g8 a3 (St.put (o':=.deferred none) f6.o rfl rfl).sb HD.o.symm;rw[i3]at a0;have d3:=hY a0;clear b0 a1 g4 f4 g8 i3 a3 a0;gi_wp2_with fail;refine⟨oO,.inl ⟨_,_,rfl,fM f6.o,?_⟩⟩;refine⟨.slice s2.a ks.length s2.c,?_,d3.o⟩;simp[results,results164,go_sem]
 have i9:W.ownsMap prog 9 Dx b d.C.length (mapA SV.val d.C):=by
  have:=j0.o;rw[p5.o]at this;exact this
 have i8:=hY i9;clear i9;gi_wp2_with(first |(gi_at_range;refine wpListIn_range_own _ rfl _ 155 rfl 9 166 FP underlying155 Dx b d.C.length _ rfl i8.o ?_;intro w2 j3 o6 v5)|fail);have d7:Nw W w2:=Sb.made o6;obtain⟨b8,k6⟩:∃b8,Cv d.C xs=b8:=⟨_,rfl⟩;have a4:=d6.o.keep (d7.any (λ_=>False)) (λe=>e) (λ_ _ e=>e) (λ_ e=>e.elim);rw[k6]at a4 g7;have hs:s.row≠some W.heap.size:=λe=>by have:=(d6.o.row e).2;omega
 have t4:=hY (show Mp w1 (w.heap.size+1) W.heap.size b D d.C p b8 (Maps.has (mapA SV.val d.C)) (Maps.size (mapA SV.val d.C)) [] s w2 from
  ⟨by rw[show Cj d.C p []=[]from rfl,aY];exact a4,j3,Collected.start _,hs,(d7.block D r3 (λe=>e)).trans p8.o⟩)
 have s9:=hY k6;have v8:w1.heap.size<=W.heap.size:=d6.o.sb.size;clear j3 o6 v5 d7 a4 hs q0 q1 lq l0 k6;go_frame;gi_loopw [] (λwr=>∃(left:Lit->Bool) (cnt:Nat) (ss:List (List UInt8)) (s2:Sl),Mp w1 (w.heap.size+1) W.heap.size b D d.C p b8 left cnt ss s2 wr) (λwr=>wr.rangeLeft b W.heap.size)
 case atStart=>exact⟨_,_,_,_,t4.o⟩
 obtain⟨left,cnt,ss,s2,hP⟩:=hrel;have i5:=hP.rg;have s8:=gV hP.co;have w8:=c9.o.few;have x7:=Wh d.C p ss;have HP:=hY hP;clear hP;gi_wp2_with(first |(gi_at_next;refine wpListIn_next_ranges _ rfl _ rfl 9 FP Dx encStr id (λx5 kl hk=>by obtain⟨x,hx,_⟩:=Maps.keyOf_str underlying9 hk;exact⟨x,hx⟩) (λv _ _=>⟨v,rfl⟩) b W.heap.size _ _ _ _ rfl i5 ?_ ?_)|fail)
 ·intro t5 l2
  have d4:=HP.o.co.perm i8.o FP underlying9 l2;rw[NP]at d4;have a8:=SE (p:=p) c9.o.ok.sorted c9.o.sorted HS.o d4;have a4:=HP.o.col;rw[s9.o]at a8;obtain⟨ks,I⟩:∃ks,b8++Cj d.C p ss=ks:=⟨_,rfl⟩;have o8:ks.length<=2000000:=by rw[<-I,aj];omega
  rw[I]at a8 a4;obtain⟨b7,b6,f7,d8⟩:=Ye a8 a4 HP.o.dk (Ra a4.own oM);have c5:wr.cell? ⟨w+1,0,none⟩=some (.slice s2.a ks.length s2.c):=a4.blk.cell 0;clear i5 d4 a8 a4 I t5 l2;gi_wp2_with fail;refine⟨trivial,?_⟩;refine(eR.2 d8.o).mono ?_;rintro e w5 ⟨rfl,ts,g4,f4,g8,i3,a3⟩;have b0:Sb (λb=>s2.row=some b) wr w5:=⟨a3.os,a3.tape,a3.output,a3.size,λi hi hn=>a3.block i hi λe=>hn e.symm⟩;have a1:=b0.blk b6.o.blk (λe=>by have:=(b6.o.row e).1;omega);have c6:w5.cell? ⟨w+1,0,none⟩=some (.slice s2.a ks.length s2.c):=a1.cell 0;have l6:=a1.lt;have f6:=hY (show w5.heap[D]? = some (.deferred (some []))from(b0.block D (by have:=(aA.1 f7.o).1;omega) (λe=>by have:=(b6.o.row e).1;have:=HD.o;omega)).trans f7.o);have a0:=Ud o3.o (cN _) b6.o b7.o.1 b7.o.2 g4 f4 g8 a3 (St.put (o':=.deferred none) f6.o rfl rfl).sb HD.o.symm;rw[i3]at a0;have d3:=hY a0;clear b0 a1 g4 f4 g8 i3 a3 a0;gi_wp2_with fail;refine⟨oO,.inl ⟨_,_,rfl,fM f6.o,?_⟩⟩;refine⟨.slice s2.a ks.length s2.c,?_,d3.o⟩;simp[results,results164,go_sem]
 intro x c kl yd yp w3 s4 j1 f9 hv j6 g0 r6 r8 v1 o2;obtain⟨x',ex,rfl,v2⟩:=Maps.keyOf_str underlying9 j1;obtain rfl:=encStr_inj ex;obtain⟨sv,k9,rfl⟩:=lN j6 hv;have g3:Sb (λi=>i=W.heap.size) wr w3:=Sb.grown r8;have a6:=HP.o.col.keep g3 oM (λi hi e=>HP.o.ne (by rw[hi,e])) (λi e=>oM);have q7:=HP.o.co.step f9 j6;obtain⟨ks,I⟩:∃ks,b8++Cj d.C p ss=ks:=⟨_,rfl⟩;have o8:ks.length<=2000000:=by rw[<-I,aj];omega
 rw[I]at a6;have i6:w3.heap[D]? = some (.deferred (some [])):=(g3.block D (by have:=(aA.1 HP.o.dk).1;omega) (λe=>by have:=HD.o;omega)).trans HP.o.dk;obtain⟨g5,v,sl,so⟩:=sv;obtain⟨k,hk⟩:∃k,Bu x=k:=⟨_,rfl⟩;have v7:(Instr.entry (.pointer (some W))).run prog w3=.ok (.tuple #[.string k,.agg #[g5,v.kind,.bool v.b,.int .i64 v.i,v.t,.slice sl.a v.l.length sl.c,.slice so.a v.ok.length so.c]]) w3:=by rw[<-hk];exact o2
 rw[hk]at k9;obtain⟨j8,k8,q8⟩:=YB g0;have a2:∀i,s2.row=some i->w1.heap.size+2<=i/\i<w3.heap.size:=λi hi=>a6.row hi
 have e7:s2.row≠some W.heap.size:=HP.o.ne;have p3:s2.row≠some b:=λe=>by
  rcases a6.own.2 with⟨hv,-⟩ |⟨gg,x3,x1,hv,-,hc,-⟩
  ·injection hv with e1
   rw[Sl.row,e1]at e;cases e
  injection hv with e1;rw[Sl.row,e1]at e;have:gg=b:=by simpa using e
  subst this;exact q8 _ _ hc
 have t2:¬b=w.heap.size+1:=λe=>q8 _ _ (by rw[e];exact a6.blk)
 have c3:w3.cell? ⟨w+1,0,none⟩=some (.slice s2.a ks.length s2.c):=a6.blk.cell 0;have f3:w3.frozen? ⟨w+1,0,none⟩=false:=a6.blk.frozen 0;have l3:=a6.blk.lt;obtain⟨c7,t8,p9,i1,e6,f1,HK⟩:=Yh a6 q7 g0 i5 i6 I hk;obtain⟨k4,l8⟩:=Yb k9 r6;rw[show(encStr x)=Value.string k from by rw[<-hk]];clear a6 q7 g0 i5 i6 I k9 j6 hv j1 f9 r8 v1 r6 g3 v2 o2;have j2:∀(s3:Sl) (w6:AB),Cs w1 (w.heap.size+1) (b8++Cj d.C p (ss++[x])) s3 w6->s3.row≠some W.heap.size->w6.heap[b]? = w3.heap[b]?->w6.heap[W.heap.size]? = w3.heap[W.heap.size]?->w6.heap[D]? = w3.heap[D]?->
   Mp w1 (w.heap.size+1) W.heap.size b D d.C p b8 (λz=>left z && !z.sameKey (.string x)) s4 (ss++[x]) s3 w6:=λs3 w6 h1 h2 h3 h4 h5=>⟨h1,Zt p9.o h3 h4,t8.o,h2,h5.trans e6.o⟩
 have i2:=hY j2;clear j2;have f2:=(gz w3).alloc #[.bool g5,.int .i64 v.kind,.bool v.b,.int .i64 v.i,.string v.t,.slice sl.a v.l.length sl.c,.slice so.a v.ok.length so.c] 166;have r9:=hY f2;clear f2;cases g5 with
 | false=>
   have n8:D8 d.C p (Bu x)=false:=by rw[HK.o,Nt k4.o];rfl
   have b9:=hY (i2.o s2 _ (by rw[PN n8,f1.o];exact c7.o.ext r9.o) e7 (fe _ _ _ j8) (fe _ _ _ k8) (fe _ _ _ (aA.1 e6.o).1));gi_wp2_with fail;refine⟨trivial,?_⟩;gi_wp2_with fail;go_roundw
   case rel=>exact⟨_,_,_,_,b9.o⟩
   rw[b9.o.rg.left_eq,i1.o.left_eq];exact l8.o
 | true=>
   gi_wp2_with fail;refine⟨trivial,?_⟩;refine(eR.2 (TT _ k p)).mono ?_;rintro e w4 ⟨rfl,rfl⟩;cases p7:Ab p k with
   | false=>
     have n8:D8 d.C p (Bu x)=false:=by rw[HK.o,Nt k4.o,p7];rfl
     have b9:=hY (i2.o s2 _ (by rw[PN n8,f1.o];exact c7.o.ext r9.o) e7 (fe _ _ _ j8) (fe _ _ _ k8) (fe _ _ _ (aA.1 e6.o).1));gi_wp2_with fail;go_roundw
     case rel=>exact⟨_,_,_,_,b9.o⟩
     rw[b9.o.rg.left_eq,i1.o.left_eq];exact l8.o
   | true=>
     have o7:D8 d.C p (Bu x)=true:=by rw[HK.o,Nt k4.o,p7];rfl
     have a7:Ext w3 ((w3.alloc (.cells #[true,v.kind,.bool v.b,.int .i64 v.i,v.t,.slice sl.a v.l.length sl.c,.slice so.a v.ok.length so.c] 166)).alloc (.cells #[.string k] 9)):=((gz w3).alloc _ _).alloc _ _;have b3:=AZ c7.o.own (a7.agree (F:=Lt w3) λb Z=>Z) λb Z=>(a2 b Z).2
     have j7:ks.length+1<=maxLen:=by unfold maxLen;omega
     have n6:(ks.length+1)*16<=140737488355328:=oM
     have e0:w1.heap.size+2<=((w3.alloc (.cells #[true,v.kind,.bool v.b,.int .i64 v.i,v.t,.slice sl.a v.l.length sl.c,.slice so.a v.ok.length so.c] 166)).alloc (.cells #[.string k] 9)).heap.size:=by have:=c7.o.sz;simp;omega
     obtain⟨d0,d9⟩:=Yb a7 b3;have n9:=hY (show AE ((w3.alloc (.cells #[true,v.kind,.bool v.b,.int .i64 v.i,v.t,.slice sl.a v.l.length sl.c,.slice so.a v.ok.length so.c] 166)).alloc (.cells #[.string k] 9)) (w3.heap.size+1) 9 #[.string k]by
      have:=gB (w3.alloc (.cells #[true,v.kind,.bool v.b,.int .i64 v.i,v.t,.slice sl.a v.l.length sl.c,.slice so.a v.ok.length so.c] 166)) 9 #[.string k];rwa[eQ]at this)
     have t6:¬w.heap.size+1=w3.heap.size:=oM
     have r4:¬w.heap.size+1=w3.heap.size+1:=oM
     have v4:w.heap.size+1<w3.heap.size+1:=oM
     have k2:=hY ((a7.frozen (o:=0) l3).trans f3);have k7:s2.row≠some (w.heap.size+1):=λe=>by have:=(a2 _ e).1;omega
     clear a7 b3;gi_wp2_with(gi_at_builtin;refine MN _ rfl (.tmp 53) (.tmp 55) 160 rfl (w1.heap.size+2) 9 i0 _ 1 16 underlying160 hi p1 r7 p6 rfl oN s2 ks.length (ks.map .string) rfl d9.o (λb=>b=w3.heap.size+1) ⟨some ⟨w3+1,0,none⟩,1⟩ 1 [.string k] rfl (gG n9.o oN rfl) (by simp[Value.oneCell']) j7 n6 e0 ?_;intro s3 w5 a9 a5 g9;have h5:=a5.cell0 (o:=0) d0.o k7 l3;have c5:w5.cell? ⟨w+1,0,none⟩=some (.slice s2.a ks.length s2.c):=h5.1.trans c3;have l5:=h5.2;have f5:w5.frozen? ⟨w+1,0,none⟩=false:=(a5.fz _ _).trans (k2.out);have l7:=hY a9;have o0:=hY a5;have k0:=hY g9;clear a9 a5 g9 h5);obtain⟨e1,e2,e3,e4⟩:=c7.o.snoc o9 d0.o l7.o o0.o k0.o;have r2:=(aA.1 e6.o).1;have b9:=hY (i2.o s3 _ (by rw[Z2 o7,<-aU,f1.o,HK.o];exact e1) (λe=>by
       rcases e3 _ e with h|h
       .exact e7 h
       .omega) (e2.block b j8 λe=>by
       rcases e with e|e
       .exact t2 e
       .exact p3 e) (e2.block _ k8 λe=>by
       rcases e with e|e
       .omega
       .exact e7 e) (e2.block D r2 λe=>by
       rcases e with e|e
       .have:=HD.o;omega
       have:=(a2 _ e).1;have:=HD.o;omega))
     clear e1 e2 e3 e4;gi_wp2_with fail;go_roundw
     case rel=>exact⟨_,_,_,_,b9.o⟩
     rw[b9.o.rg.left_eq,i1.o.left_eq];exact l8.o
end Go.Proofs.YtahhllcdbjbpbaaGreatDoor
namespace Go.Proofs.YtahhllcdbjbpbaaGreatDoor
open Go.Proofs.Tryz
open Go.RowKit
def Vn:∀(a b:List UInt8),Lib.compareBytes a b=if Op.bytesLess a b then -1 else if Op.bytesLess b a then 1 else 0
 |[],[]=>rfl
 |[],b::v=>by simp[Lib.compareBytes,Op.bytesLess]
 |a::u,[]=>by simp[Lib.compareBytes,Op.bytesLess]
 | a :: u,b :: v=>by
   simp only[Lib.compareBytes,Op.bytesLess];by_cases h1:a<b
   .simp [h1]
   by_cases h2:b<a
   ·have I:¬a=b:=fun e=>by subst e;exact h1 h2
    have N:¬b=a:=λe=>I e.symm
    simp[h1,h2,I,N]
   have I:a=b:=UInt8.le_antisymm (UInt8.not_lt.1 h2) (UInt8.not_lt.1 h1);subst I;simp[h1,Vn u v]
def iO(a b:AA):Lib.compareBytes a.data.toList b.data.toList=BU a b:=by
 rw[Vn];unfold BU klt;rw[eY,eY]
def Y1(w:AB)(a b:AA):Calls prog 206 #[a,b] w λe w'=>e=.returned (BU a b)/\w=w':=by
 rw[<-iO];go_in;go_wp2_with fail;rw[run_callFunc_extern func227 kM kM kM (e:=Extern.BytealgCompare.compare) kM,Lib.run_compareString];simp only[Result.andThen];rw[Oper.upon_value];go_wp2_with fail;go_ret;exact⟨rfl,rfl⟩
def Uf(w:AB)(a b:AA):Calls prog 175 #[a,b] w λe w'=>e=.returned (BU a b)/\w=w':=by
 have h:=Y1 w a b;go_in;go_wp2_with fail;refine h.mono ?_;rintro e w1 ⟨rfl,rfl⟩;go_wp2_with fail;go_ret;exact⟨rfl,rfl⟩
def iI(w:AB)(b:Bool):Calls prog 173 #[b] w λe w'=>e=.returned (.int .i64 (if b then 1 else 0))/\w=w':=by
 cases b
 all_goals
  go_in;go_wp2_with fail;go_ret;exact⟨rfl,rfl⟩
def SG(w:AB)(a:Int):Calls prog 204 #[a] w λe w'=>e=.returned false/\w=w':=by
 go_in;go_wp2_with fail;go_ret;exact⟨oO,rfl⟩
def YC(w:AB)(a b:Int):Calls prog 172 #[a,b] w λe w'=>e=.returned (As a b)/\w=w':=by
 have a0:=SG w a;have Z:=SG w b;have I:(As a b = -1/\a<b)\/(As a b=1/\¬a<b/\b<a)\/(As a b=0/\¬a<b/\¬b<a):=by
  unfold As;split
  .exact .inl ⟨rfl,by assumption⟩
  split
  .exact .inr (.inl ⟨rfl,by assumption,by assumption⟩)
  exact .inr (.inr ⟨rfl,by assumption,by assumption⟩)
 rcases I with⟨N,h1⟩ |⟨N,h1,h2⟩ |⟨N,h1,h2⟩
 all_goals
  rw[N];clear N;go_in;go_wp2_with fail;refine a0.mono ?_;rintro e w1 ⟨rfl,rfl⟩;go_wp2_with fail;refine Z.mono ?_;rintro e w1 ⟨rfl,rfl⟩;go_wp2_with fail;go_ret;exact⟨rfl,rfl⟩
def TL(w:AB)(a:Int):Calls prog 205 #[a] w λe w'=>e=.returned false/\w=w':=by
 go_in;go_wp2_with fail;go_ret;exact⟨oO,rfl⟩
def qD(w:AB)(a b:Int):Calls prog 174 #[a,b] w λe w'=>e=.returned (As a b)/\w=w':=by
 have a0:=TL w a;have Z:=TL w b;have I:(As a b = -1/\a<b)\/(As a b=1/\¬a<b/\b<a)\/(As a b=0/\¬a<b/\¬b<a):=by
  unfold As;split
  .exact .inl ⟨rfl,by assumption⟩
  split
  .exact .inr (.inl ⟨rfl,by assumption,by assumption⟩)
  exact .inr (.inr ⟨rfl,by assumption,by assumption⟩)
 rcases I with⟨N,h1⟩ |⟨N,h1,h2⟩ |⟨N,h1,h2⟩
 all_goals
  rw[N];clear N;go_in;go_wp2_with fail;refine a0.mono ?_;rintro e w1 ⟨rfl,rfl⟩;go_wp2_with fail;refine Z.mono ?_;rintro e w1 ⟨rfl,rfl⟩;go_wp2_with fail;go_ret;exact⟨rfl,rfl⟩
def Of(w:AB)(a:Int):Calls prog 228 #[a] w λe w'=>e=.returned false/\w=w':=by
 go_in;go_wp2_with fail;go_ret;exact⟨oO,rfl⟩
def Tv(w:AB)(a b:Int):Calls prog 207 #[a,b] w λe w'=>e=.returned (As a b)/\w=w':=by
 have a0:=Of w a;have Z:=Of w b;have I:(As a b = -1/\a<b)\/(As a b=1/\¬a<b/\b<a)\/(As a b=0/\¬a<b/\¬b<a):=by
  unfold As;split
  .exact .inl ⟨rfl,by assumption⟩
  split
  .exact .inr (.inl ⟨rfl,by assumption,by assumption⟩)
  exact .inr (.inr ⟨rfl,by assumption,by assumption⟩)
 rcases I with⟨N,h1⟩ |⟨N,h1,h2⟩ |⟨N,h1,h2⟩
 all_goals
  rw[N];clear N;go_in;go_wp2_with fail;refine a0.mono ?_;rintro e w1 ⟨rfl,rfl⟩;go_wp2_with fail;refine Z.mono ?_;rintro e w1 ⟨rfl,rfl⟩;go_wp2_with fail;go_ret;exact⟨rfl,rfl⟩
def Ly(m:Nat):Prop:=∀(x y:Val),SizeOf.sizeOf x<=m->∀(w:AB) (sl so sl' so':Sl),RV w (Lt w.heap.size) x sl so->RV w (Lt w.heap.size) y sl' so'->Calls prog 144 #[AS x sl so,AS y sl' so'] w (DO (AW x y) w)
def R3(a b:Nat):∃c:Nat,(if a<b then(a:Int)else(b:Int))=(c:Int)/\(if b<a then(b:Int)else(a:Int))=(c:Int)/\c<=a/\c<=b/\(c=a\/c=b):=by
 by_cases h:a<b
 .exact ⟨a,by rw[eN h],by rw[eL oM],oM,oM,.inl rfl⟩
 by_cases I:b<a
 .exact ⟨b,by rw[eL h],by rw[eN I],oM,oM,.inr rfl⟩
 exact⟨a,by rw[eL h];omega,by rw[eL I],oM,oM,.inl rfl⟩
variable{w:AB}{sl so sl' so':Sl}
def Z3{m:Nat}(a5:Ly m){x y:Val}(hd:SizeOf.sizeOf x<=m+1)(h:RV w (Lt w.heap.size) x sl so)(h':RV w (Lt w.heap.size) y sl' so') :
  Calls prog 176 #[.slice sl.a x.l.length sl.c,.slice sl'.a y.l.length sl'.c,.func (.func 144) #[] #[]] w (DO (cmpL x.l y.l) w):=by
 have HI:=hY a5;clear a5;obtain⟨k,b,i,t,l,ok,ov⟩:=x;obtain⟨k',b',i',t',l',e6,e3⟩:=y;show Calls _ _ #[.slice sl.a l.length sl.c,.slice sl'.a l'.length sl'.c,_] _ (DO (cmpL l l') w);cases h with
 |mk bl fl bo fo cl co hl ho hov el rl ek eo ro bk bi bt nl no=>
 cases h' with
 |mk bl' fl' bo' fo' cl' co' hl' ho' hov' el' rl' ek' eo' ro' bk' bi' bt' nl' no'=>
 have b0:∀(j:Nat) (d:Val),l[j]? = some d->SizeOf.sizeOf d<=m:=λj d hj=>bz (ab (Val.Ev hj) hd)
 obtain⟨b9,c8,d0,b5,a9⟩:=Yf b0 el rl el' rl';clear b0 el rl ek eo ro hov hd el' rl' ek' eo' ro' hov';have e4:l.length<=140737488355328:=oM
 have d8:l'.length<=140737488355328:=oM
 obtain⟨mn,c9,c6,d5,d7,d6⟩:=R3 l.length l'.length;go_in;go_wp2_with fail;clear c9 c6;go_loopw[14] (λq wr=>∃j:Nat,q=.int .i64 j/\j<=mn/\cmpL l l'=cmpL (l.drop j) (l'.drop j)/\Ext w wr) (λq _=>mn -(intOf q).toNat)
 case atStart=>exact⟨0,rfl,aw _,rfl,gz w⟩
 obtain⟨j,rfl,hj,hp,hx⟩:=hrel;obtain⟨HP,HX⟩:=Yb hp hx;by_cases h1:j<mn
 ·have g1:(j:Int)<(mn:Int):=oM
  have g2:(j:Int)<(l.length:Int):=oM
  have g3:(j:Int)<(l'.length:Int):=oM
  obtain⟨d,hd⟩:∃d,l[j]? = some d:=⟨_,ac oM⟩;obtain⟨d',a2⟩:∃d,l'[j]? = some d:=⟨_,ac oM⟩;have HD:=hY (UM hd a2);have a1:Agree (Lt w.heap.size) w wr:=hx.agree λ_ h=>h
  obtain⟨sa,sc⟩:=sl;obtain⟨e1,e2⟩:=sl';obtain⟨rfl,e0,b4⟩:=hl.eq oM;obtain⟨rfl,d9,d4⟩:=hl'.eq oM;have a3:=hl.fits oM;have a0:=hl'.fits oM;obtain⟨v0,v1,v2,v3,v4,v5⟩:=(c8.o j d hd).agree a1 a3;obtain⟨a6,b8,b6,b7,a8,b3⟩:=(b5.o j d' a2).agree a1 a0;have d3:=hY (λ(W:AB) (N:Ext wr W)=>
   HI.o d d' (b9.o j d hd) W _ _ _ _ (((d0.o j d hd).agree (a1.trans (N.agree λ_ h=>ab h hx.size))).mono λi hi=>ab hi (an hx.size N.size))
    (((a9.o j d' a2).agree (a1.trans (N.agree λ_ h=>ab h hx.size))).mono λi hi=>ab hi (an hx.size N.size)))
  have lb:bl<wr.heap.size:=ab a3 hx.size;have Z:bl'<wr.heap.size:=ab a0 hx.size;have I:=hY (show ∀W,Ext wr W->W.cell? ⟨bl,fl+j*6,none⟩=some (.int .i64 d.kind)/\W.cell? ⟨bl,fl+j*6+1,none⟩=some (.bool d.b)/\W.cell? ⟨bl,fl+j*6+2,none⟩=some (.int .i64 d.i)/\W.cell? ⟨bl,fl+j*6+3,none⟩=some (.string d.t)/\W.cell? ⟨bl,fl+j*6+4,none⟩=some (.slice (cl j).1.a d.l.length (cl j).1.c)/\W.cell? ⟨bl,fl+j*6+5,none⟩=some (.slice (cl j).2.a d.ok.length (cl j).2.c)/\W.cell? ⟨bl',fl'+j*6,none⟩=some (.int .i64 d'.kind)/\W.cell? ⟨bl',fl'+j*6+1,none⟩=some (.bool d'.b)/\W.cell? ⟨bl',fl'+j*6+2,none⟩=some (.int .i64 d'.i)/\W.cell? ⟨bl',fl'+j*6+3,none⟩=some (.string d'.t)/\W.cell? ⟨bl',fl'+j*6+4,none⟩=some (.slice (cl' j).1.a d'.l.length (cl' j).1.c)/\W.cell? ⟨bl',fl'+j*6+5,none⟩=some (.slice (cl' j).2.a d'.ok.length (cl' j).2.c)from
   λW N=>⟨(N.cell lb).trans v0,(N.cell lb).trans v1,(N.cell lb).trans v2,(N.cell lb).trans v3,(N.cell lb).trans v4,(N.cell lb).trans v5,(N.cell Z).trans a6,(N.cell Z).trans b8,(N.cell Z).trans b6,(N.cell Z).trans b7,(N.cell Z).trans a8,(N.cell Z).trans b3⟩)
  clear hp hx hd a2 a1 a3 a0 v0 v1 v2 v3 v4 v5 a6 b8 b6 b7 a8 b3;go_wp2_with fail;refine eV (S:=(λw'=>Ext wr w')) kM (((gz wr).drew)) (λhHeld=>?_);refine AF 0 (some 17) I hHeld ?_;refine AF 1 (some 18) I hHeld ?_;refine AF 2 (some 19) I hHeld ?_;refine AF 3 (some 20) I hHeld ?_;refine AF 4 (some 21) I hHeld ?_;refine AF 5 (some 22) I hHeld ?_;refine AF 6 (some 23) I hHeld ?_;refine AF 7 (some 24) I hHeld ?_;refine AF 8 (some 25) I hHeld ?_;refine Af (i:=9) kM rfl (by rfl) (λK hK=>?_);go_simp
  (refine(d3.o _ hHeld).mono ?_;rintro e w2 ⟨rfl,a4⟩)
  refine hK.out _ _ (hHeld.trans a4) (λhHeld=>?_);clear hK K
  try go_frame
  refine AF 10 (some 8) I hHeld ?_;refine fa kM ?_ _;have a7:=hY (HX.o.trans hHeld);clear hHeld a4;by_cases hc:AW d d'=0
  ·have c7:(AW d d' != 0)=false:=by simp [hc]
   have HC:=hY hc;clear hc;go_wp2_with fail;go_roundw
   case rel=>exact⟨j+1,by go_num,h1,by rw[HP.o,HD.o,eL (by simp[HC.o])],a7.o⟩
   simp[intOf];omega
  have c7:(AW d d' != 0)=true:=fg.2 hc;have HC:=hY hc;clear hc;go_wp2_with fail;go_ret;rw[HP.o,HD.o,eN HC.o];exact⟨rfl,a7.o⟩
 have g1:¬(j:Int)<(mn:Int):=oM
 have HE:=hY (PS (l:=l) (l':=l') (j:=j) oM oM oM);have b4:=Tv wr (l.length:Int) (l'.length:Int);clear hp hx;go_wp2_with fail;refine b4.mono ?_;rintro e w2 ⟨rfl,rfl⟩;go_wp2_with fail;go_ret;rw[HP.o,HE.o];exact⟨rfl,HX.o⟩
def FQ(x y:AA)(d d':Val):Int:=if BU x y≠0 then BU x y else AW d d'
variable{j:Nat}
def kn{l l':List Val}{k k':List AA}{a b:Val}{x y:AA}(ha:l[j]? = some a)(I:l'[j]? = some b)(Z:k[j]? = some x)(N:k'[j]? = some y) :
  Bn (l.drop j) (k.drop j) (k'.drop j) (l'.drop j)=if FQ x y a b≠0 then FQ x y a b else Bn (l.drop (j+1)) (k.drop (j+1)) (k'.drop (j+1)) (l'.drop (j+1)):=by
 rw[U4 ha I Z N];unfold FQ;by_cases h:BU x y=0<;>simp[h]
abbrev RB(k:AA)(d:Val)(sl so:Sl):Value:=.agg #[.string k,.int .i64 d.kind,.bool d.b,.int .i64 d.i,.string d.t,.slice sl.a d.l.length sl.c,.slice so.a d.ok.length so.c]
def kp{m:Nat}(Z:Ly m){d d':Val}(hd:SizeOf.sizeOf d<=m){x y:AA}(h:RV w (Lt w) d sl so)(h':RV w (Lt w) d' sl' so') :
  Calls prog 178 #[RB x d sl so,RB y d' sl' so'] w (DO (FQ x y d d') w):=by
 obtain⟨a0,HT⟩:=Yb (λ(W:AB) (hW:Ext w W)=>Z d d' hd W _ _ _ _ ((h.agree (hW.agree λ_ h=>h)).mono λi hi=>ab hi hW.size) ((h'.agree (hW.agree λ_ h=>h)).mono λi hi=>ab hi hW.size)) (λW=>Uf W x y);clear Z h h' hd;by_cases I:BU x y=0
 ·have N:FQ x y d d'=AW d d':=by simp [FQ,I]
  have a1:(BU x y != 0)=false:=by simp[I]
  rw[N];clear N I;go_in;go_wp2_with fail;refine(HT.o _).mono ?_;rintro e w1 ⟨rfl,rfl⟩;go_wp2_with fail;refine(a0.o _ (((gz w).alloc _ _).alloc _ _)).mono ?_;rintro e w1 ⟨rfl,hx⟩;have HX:=hY ((((gz w).alloc _ _).alloc _ _).trans hx);clear hx;go_wp2_with fail;go_ret;exact⟨rfl,HX.o⟩
 have N:FQ x y d d'=BU x y:=by simp[FQ,I]
 have a1:(BU x y != 0)=true:=fg.2 I;rw[N];clear N I;go_in;go_wp2_with fail;refine(HT.o _).mono ?_;rintro e w1 ⟨rfl,rfl⟩;go_wp2_with fail;go_ret;exact⟨rfl,((gz w).alloc _ _).alloc _ _⟩
def oZ{m:Nat}(b4:Ly m){x y:Val}(hd:SizeOf.sizeOf x<=m+1)(h:RV w (Lt w.heap.size) x sl so)(h':RV w (Lt w.heap.size) y sl' so') :
  Calls prog 177 #[.slice so.a x.ok.length so.c,.slice so'.a y.ok.length so'.c,.func (.func 178) #[] #[]] w (DO (Bn x.ov x.ok y.ok y.ov) w):=by
 have HI:=hY b4;clear b4;obtain⟨k,b,i,t,l,ok,ov⟩:=x;obtain⟨k',b',i',t',l',N,a5⟩:=y;show Calls _ _ #[.slice so.a ok.length so.c,.slice so'.a N.length so'.c,_] _ (DO (Bn ov ok N a5) w);cases h with
 |mk bl fl bo fo cl co hl ho hov el rl ek eo ro bk bi bt nl no=>
 cases h' with
 |mk bo' fo' bo' fo' cl' co' hl' ho' hov' el' rl' ek' eo' ro' bk' bi' bt' nl' no'=>
 have b0:∀(j:Nat) (d:Val),ov[j]? = some d->SizeOf.sizeOf d<=m:=λj d hj=>bz (ab (Val.E0 hj) hd)
 obtain⟨e1,e3,d7,b5,b3,e0,c7⟩:=Yh b0 eo ro eo' ro' ek ek';obtain⟨a6,a3⟩:=Yb hov hov';clear b0 el rl ek eo ro hov hd el' rl' ek' eo' ro' hov';have f5:ok.length<=140737488355328:=oM
 have f0:N.length<=140737488355328:=oM
 obtain⟨mn,e2,d8,e6,e8,e7⟩:=R3 ok.length N.length;go_in;go_wp2_with fail;clear e2 d8;go_loopw[14] (λq wr=>∃j:Nat,q=.int .i64 j/\j<=mn/\Bn ov ok N a5=Bn (ov.drop j) (ok.drop j) (N.drop j) (a5.drop j)/\Ext w wr) (λq _=>mn -(intOf q).toNat)
 case atStart=>exact⟨0,rfl,aw _,rfl,gz w⟩
 obtain⟨j,rfl,hj,hp,hx⟩:=hrel;obtain⟨HP,HX⟩:=Yb hp hx;by_cases h1:j<mn
 ·have g1:(j:Int)<(mn:Int):=oM
  have g2:(j:Int)<(ok.length:Int):=oM
  have g3:(j:Int)<(N.length:Int):=oM
  obtain⟨d,hd⟩:∃d,ov[j]? = some d:=⟨_,ac (by rw[a6.o];omega)⟩;obtain⟨x,a9⟩:∃d,ok[j]? = some d:=⟨_,ac oM⟩;obtain⟨x',a4⟩:∃d,N[j]? = some d:=⟨_,ac oM⟩;obtain⟨d',a7⟩:∃d,a5[j]? = some d:=⟨_,ac (by rw[a3.o];omega)⟩;have HD:=hY (kn hd a7 a9 a4);have a0:Agree (Lt w.heap.size) w wr:=hx.agree λ_ h=>h
  obtain⟨sa,sc⟩:=so;obtain⟨f3,f4⟩:=so';obtain⟨rfl,f2,c6⟩:=ho.eq oM;obtain⟨rfl,f1,e4⟩:=ho'.eq oM;have a8:=ho.fits oM;have a2:=ho'.fits oM;obtain⟨v0,v1,v2,v3,v4,v5⟩:=(e3.o j d hd).agree a0 a8;obtain⟨b6,d4,c9,d0,b8,b9⟩:=(b5.o j d' a7).agree a0 a2;have kx:=(a0.cell a8).trans (e0.o j x a9).1;have d6:=(a0.cell a2).trans (c7.o j x' a4).1;obtain⟨c,d5⟩:∃c,FQ x x' d d'=c:=⟨_,rfl⟩;have d3:=hY (λ(W:AB) (Z:Ext wr W)=>
   kp HI.o (e1.o j d hd) (x:=x) (y:=x') (((d7.o j d hd).agree (a0.trans (Z.agree λ_ h=>ab h hx.size))).mono λi hi=>ab hi (an hx.size Z.size))
    (((b3.o j d' a7).agree (a0.trans (Z.agree λ_ h=>ab h hx.size))).mono λi hi=>ab hi (an hx.size Z.size)))
  have lb:bo<wr.heap.size:=ab a8 hx.size;have a1:bo'<wr.heap.size:=ab a2 hx.size;have I:=hY (show ∀W,Ext wr W->W.cell? ⟨bo,fo+j*7,none⟩=some (.string x)/\W.cell? ⟨bo,fo+j*7+1,none⟩=some (.int .i64 d.kind)/\W.cell? ⟨bo,fo+j*7+2,none⟩=some (.bool d.b)/\W.cell? ⟨bo,fo+j*7+3,none⟩=some (.int .i64 d.i)/\W.cell? ⟨bo,fo+j*7+4,none⟩=some (.string d.t)/\W.cell? ⟨bo,fo+j*7+5,none⟩=some (.slice (co j).1.a d.l.length (co j).1.c)/\W.cell? ⟨bo,fo+j*7+6,none⟩=some (.slice (co j).2.a d.ok.length (co j).2.c)/\W.cell? ⟨bo',fo'+j*7,none⟩=some (.string x')/\W.cell? ⟨bo',fo'+j*7+1,none⟩=some (.int .i64 d'.kind)/\W.cell? ⟨bo',fo'+j*7+2,none⟩=some (.bool d'.b)/\W.cell? ⟨bo',fo'+j*7+3,none⟩=some (.int .i64 d'.i)/\W.cell? ⟨bo',fo'+j*7+4,none⟩=some (.string d'.t)/\W.cell? ⟨bo',fo'+j*7+5,none⟩=some (.slice (co' j).1.a d'.l.length (co' j).1.c)/\W.cell? ⟨bo',fo'+j*7+6,none⟩=some (.slice (co' j).2.a d'.ok.length (co' j).2.c)from
   λW Z=>⟨(Z.cell lb).trans kx,(Z.cell lb).trans v0,(Z.cell lb).trans v1,(Z.cell lb).trans v2,(Z.cell lb).trans v3,(Z.cell lb).trans v4,(Z.cell lb).trans v5,(Z.cell a1).trans d6,(Z.cell a1).trans b6,(Z.cell a1).trans d4,(Z.cell a1).trans c9,(Z.cell a1).trans d0,(Z.cell a1).trans b8,(Z.cell a1).trans b9⟩)
  rw[d5]at HD d3;clear d5 kx d6 a9 a4 hp hx hd a7 a0 a8 a2 v0 v1 v2 v3 v4 v5 b6 d4 c9 d0 b8 b9;go_wp2_with fail;refine eV (S:=(λw'=>Ext wr w')) kM (((gz wr).drew)) (λhHeld=>?_);refine AF 0 (some 17) I hHeld ?_;refine AF 1 (some 18) I hHeld ?_;refine AF 2 (some 19) I hHeld ?_;refine AF 3 (some 20) I hHeld ?_;refine AF 4 (some 21) I hHeld ?_;refine AF 5 (some 22) I hHeld ?_;refine AF 6 (some 23) I hHeld ?_;refine AF 7 (some 24) I hHeld ?_;refine AF 8 (some 25) I hHeld ?_;refine Af (i:=9) kM rfl (by rfl) (λK hK=>?_);go_simp
  (refine(d3.o _ hHeld).mono ?_;rintro e w2 ⟨rfl,c8⟩)
  refine hK.out _ _ (hHeld.trans c8) (λhHeld=>?_);clear hK K
  try go_frame
  refine AF 10 (some 8) I hHeld ?_;refine fa kM ?_ _;have b7:=hY (HX.o.trans hHeld);clear hHeld c8;by_cases hc:c=0
  ·have d9:(c != 0)=false:=by simp [hc]
   have HC:=hY hc;clear hc;go_wp2_with fail;go_roundw
   case rel=>exact⟨j+1,by go_num,h1,by rw[HP.o,HD.o,eL (by simp[HC.o])],b7.o⟩
   simp[intOf];omega
  have d9:(c != 0)=true:=fg.2 hc;have HC:=hY hc;clear hc;go_wp2_with fail;go_ret;rw[HP.o,HD.o,eN HC.o];exact⟨rfl,b7.o⟩
 have g1:¬(j:Int)<(mn:Int):=oM
 have HE:=hY (VC (l:=ov) (l':=a5) (k:=ok) (k':=N) (j:=j) (by rw[a6.o,a3.o];omega) (by rw[a6.o];omega) (by rw[a3.o];omega));have c6:=Tv wr (ok.length:Int) (N.length:Int);clear hp hx;go_wp2_with fail;refine c6.mono ?_;rintro e w2 ⟨rfl,rfl⟩;go_wp2_with fail;go_ret;rw[HP.o,HE.o,a6.o,a3.o];exact⟨rfl,HX.o⟩
def GY(b:Bool):Int:=if b then 1 else 0
def ik(a b:Bool):As (GY a) (GY b)=FC a b:=by cases a<;>cases b<;>rfl
structure Cy(w:AB)(b b':Bool)(W:AB):Prop where
 ext:Ext w W
 b0:∃v0 v2 v3 v4 v5,AE W w.heap.size 54 #[v0,.bool b,v2,v3,v4,v5]
 b1:∃v0 v2 v3 v4 v5,AE W (w.heap.size+1) 54 #[v0,.bool b',v2,v3,v4,v5]
variable{W:AB}
def Cy.drew{b I:Bool}(h:Cy w b I W):Cy w b I W.drew:=by
 obtain⟨h1,⟨a0,a2,a3,a4,a5,Z⟩,⟨c0,c2,c3,c4,c5,N⟩⟩:=h;exact⟨h1.drew,⟨_,_,_,_,_,Z.ext ((gz W).drew)⟩,⟨_,_,_,_,_,N.ext ((gz W).drew)⟩⟩
def Cy.at0{b N:Bool}(h:Cy w b N W):∃u,W.cell? ⟨w,2,none⟩=some u/\W.frozen? ⟨w,2,none⟩=false/\w.heap.size<W.heap.size:=by
 obtain⟨h1,⟨a0,a2,a3,Z,a5,I⟩,-⟩:=h;exact⟨_,I.cell 2,I.frozen 2,I.lt⟩
def Cy.at1{b N:Bool}(h:Cy w b N W):∃u,W.cell? ⟨w+1,2,none⟩=some u/\W.frozen? ⟨w+1,2,none⟩=false/\w.heap.size+1<W.heap.size:=by
 obtain⟨h1,-,⟨a0,a2,a3,Z,a5,I⟩⟩:=h;exact⟨_,I.cell 2,I.frozen 2,I.lt⟩
def Cy.set0{b I:Bool}(h:Cy w b I W)(v:Value):Cy w b I (W.setCell ⟨w,2,none⟩ v):=by
 obtain⟨h1,⟨a0,a2,a3,a4,a5,Z⟩,⟨c0,c2,c3,c4,c5,N⟩⟩:=h;exact⟨h1.setCell (p:=⟨w,2,none⟩) (ao _) v,⟨_,_,_,_,_,Z.AX 2 v⟩,⟨_,_,_,_,_,((gH (λb=>b=w.heap.size) W).set (p:=⟨w,2,none⟩) (.inr rfl) v).blk N oM⟩⟩
def Cy.set1{b I:Bool}(h:Cy w b I W)(v:Value):Cy w b I (W.setCell ⟨w+1,2,none⟩ v):=by
 obtain⟨h1,⟨a0,a2,a3,a4,a5,Z⟩,⟨c0,c2,c3,c4,c5,N⟩⟩:=h;exact⟨h1.setCell (p:=⟨w+1,2,none⟩) oO v,⟨_,_,_,_,_,((gH (λb=>b=w.heap.size+1) W).set (p:=⟨w+1,2,none⟩) (.inr rfl) v).blk Z oM⟩,⟨_,_,_,_,_,N.AX 2 v⟩⟩
def Cy.ends{b b':Bool}(h:Cy w b b' W)(v I:Value):((W.setCell ⟨w,2,none⟩ v).setCell ⟨w+1,2,none⟩ I).cell? ⟨w,2,none⟩=some v/\((W.setCell ⟨w,2,none⟩ v).setCell ⟨w+1,2,none⟩ I).cell? ⟨w+1,2,none⟩=some I:=by
 obtain⟨h1,⟨a0,a2,a3,a4,a5,ha⟩,-⟩:=h.set0 v;obtain⟨-,⟨b0,b2,b3,b4,b5,hb⟩,⟨c0,c2,c3,c4,c5,hc⟩⟩:=h;have N:=((gH (λb=>b=w.heap.size) W).set (p:=⟨w,2,none⟩) (.inr rfl) v).blk hc oM;have a1:=hb.AX 2 v;have Z:=((gH (λb=>b=w.heap.size+1) (W.setCell ⟨w,2,none⟩ v)).set (p:=⟨w+1,2,none⟩) (.inr rfl) I).blk a1 oM;exact⟨Z.cell 2,(N.AX 2 I).cell 2⟩
def XJ(w:AB)(b:Bool):Calls prog 173 #[b] w λe w'=>e=.returned (GY b)/\w=w':=iI w b
def We(m:Nat):Ly m:=by
 induction m with
 |zero=>intro d y hd;have:=Val.CM d;omega
 |succ m ih=>
 intro x y hd w sl so sl' so' h h';have hv:=λ(W:AB) (Z:Ext w W)=>Z3 ih hd ((h.agree (Z.agree λ_ h=>h)).mono λi hi=>ab hi Z.size) ((h'.agree (Z.agree λ_ h=>h)).mono λi hi=>ab hi Z.size)
 have hm:=λ(W:AB) (Z:Ext w W)=>oZ ih hd ((h.agree (Z.agree λ_ h=>h)).mono λi hi=>ab hi Z.size) ((h'.agree (Z.agree λ_ h=>h)).mono λi hi=>ab hi Z.size)
 clear ih h h' hd;obtain⟨k,b,i,t,l,ok,ov⟩:=x;obtain⟨k',b',i',t',l',a1,a7⟩:=y;obtain⟨HV,HM⟩:=Yb (show ∀(W:AB) (Z:Ext w W),Calls prog 176 #[.slice sl.a l.length sl.c,.slice sl'.a l'.length sl'.c,.func (.func 144) #[] #[]] W (DO (cmpL l l') W)from hv) (show ∀(W:AB) (Z:Ext w W),Calls prog 177 #[.slice so.a ok.length so.c,.slice so'.a a1.length so'.c,.func (.func 178) #[] #[]] W (DO (Bn ov ok a1 a7) W)from hm);show Calls _ _ #[.agg #[k,b,i,t,.slice sl.a l.length sl.c,.slice so.a ok.length so.c],.agg #[k',b',i',t',.slice sl'.a l'.length sl'.c,.slice so'.a a1.length so'.c]] _ _;have b4:AW (.mk k b i t l ok ov) (.mk k' b' i' t' l' a1 a7)=if k≠k' then As k k' else if k=2 then FC b b' else if k=3 then As i i' else if k=4 then BU t t' else if k=5 then cmpL l l' else if k=6 then Bn ov ok a1 a7 else 0:=by
  simp only[AW,Val.kind,Val.b,Val.i,Val.t,Val.l,Val.ok,Val.ov];rfl
 rw[b4];clear b4 hv hm;have a8:Ext w ((w.alloc (.cells #[k,b,i,t,.slice sl.a l.length sl.c,.slice so.a ok.length so.c] 54)).alloc (.cells #[k',b',i',t',.slice sl'.a l'.length sl'.c,.slice so'.a a1.length so'.c] 54)):=((gz w).alloc _ _).alloc _ _;obtain⟨I,HK,HI,HT,HR⟩:=Yf a8 (λW=>YC W k k') (λW a b=>qD W a b) (λW=>Uf W t t') (λW (b:Bool)=>XJ W b);clear a8;by_cases a6:k=k'
 ·subst a6
  have b9:(k != k)=false:=oO
  rw[eL oO];by_cases h2:k=2
  ·subst h2
   rw[eN rfl,<-ik];clear I;go_in;go_wp2_with fail;generalize b3:World.alloc (World.alloc _ _) _=W0;obtain⟨b0,b8,b7,a9⟩:=CH w _ _ _ _ W0 b3;clear b3;have b6:Cy w b b' W0:=⟨b0,⟨_,_,_,_,_,b7⟩,⟨_,_,_,_,_,a9⟩⟩;have N:=hY (show ∀W,Cy w b b' W->W.cell? ⟨w.heap.size,1,none⟩=some (.bool b)/\W.cell? ⟨w.heap.size+1,1,none⟩=some (.bool b') fromλW Z=>by
    obtain⟨-,⟨a0,a2,a3,a4,a5,ha⟩,⟨c0,c2,c3,c4,c5,hc⟩⟩:=Z;exact⟨ha.cell 1,hc.cell 1⟩)
   have b5:=hY b6;clear b0 b7 a9 b6 b8;refine eV (S:=(λw'=>Cy w b b' w')) kM ((b5.o.drew)) (λhHeld=>?_);refine AF 0 (some 27) N hHeld ?_;refine AF 1 (some 28) N hHeld ?_;refine AF 3 (some 30) N hHeld ?_;refine AF 4 (some 31) N hHeld ?_;refine Af (i:=2) kM rfl (by rfl) (λK hK=>?_);go_simp
   (refine(HR.o _ b).mono ?_;rintro e w1 ⟨rfl,rfl⟩)
   refine hK.out _ _ (hHeld) (λhHeld=>?_);clear hK K
   try go_frame
   refine AF 6 (some 33) N hHeld ?_;refine Af (i:=5) kM rfl (by rfl) (λK hK=>?_);go_simp
   (refine(HR.o _ b').mono ?_;rintro e w1 ⟨rfl,rfl⟩)
   refine hK.out _ _ (hHeld) (λhHeld=>?_);clear hK K
   try go_frame
   obtain⟨u7,c7,f7,l7⟩:=hHeld.at0;refine Af (i:=7) kM rfl (by rfl) (λK hK=>?_);go_simp
   skip
   refine hK.out _ _ (hHeld.set0 _) (λhHeld=>?_);clear hK K
   try go_frame
   refine AF 8 (some 34) N hHeld ?_;obtain⟨u9,c9,f9,l9⟩:=hHeld.at1;refine Af (i:=9) kM rfl (by rfl) (λK hK=>?_);go_simp
   skip
   refine hK.out _ _ (hHeld.set1 _) (λhHeld=>?_);clear hK K
   try go_frame
   refine fa kM ?_ _;have HH:=hY hHeld;obtain⟨q0,q1⟩:=b5.o.ends (.int .i64 (GY b)) (.int .i64 (GY b'));clear hHeld;generalize (W0.setCell ⟨w.heap.size,2,none⟩ (.int .i64 (GY b))).setCell ⟨w.heap.size+1,2,none⟩ (.int .i64 (GY b'))=W9 at *;go_wp2_with fail;refine(HI.o _ _ _).mono ?_;rintro e w2 ⟨rfl,rfl⟩;go_wp2_with fail;go_ret;exact⟨rfl,HH.o.ext⟩
  have c8:(k==2)=false:=eP.2 h2;by_cases h3:k=3
  ·subst h3
   rw[eL h2,eN rfl];clear h2;go_in;go_wp2_with fail;refine(HI.o _ _ _).mono ?_;rintro e w2 ⟨rfl,rfl⟩;go_wp2_with fail;go_ret;exact⟨rfl,I.o⟩
  have d3:(k==3)=false:=eP.2 h3;by_cases h4:k=4
  ·subst h4
   rw[eL h2,eL h3,eN rfl];clear h2 h3;go_in;go_wp2_with fail;refine(HT.o _).mono ?_;rintro e w2 ⟨rfl,rfl⟩;go_wp2_with fail;go_ret;exact⟨rfl,I.o⟩
  have d4:(k==4)=false:=eP.2 h4;rw[eL h2,eL h3,eL h4];by_cases h5:k=5
  ·subst h5
   rw[eN rfl];clear h2 h3 h4;go_in;go_wp2_with fail;refine(HV.o _ I.o).mono ?_;rintro e w2 ⟨rfl,hx⟩;have HX:=hY hx;clear hx;go_wp2_with fail;go_ret;exact⟨rfl,I.o.trans HX.o⟩
  have c6:(k==5)=false:=eP.2 h5;rw[eL h5];by_cases h6:k=6
  ·subst h6
   rw[eN rfl];clear h2 h3 h4 h5;go_in;go_wp2_with fail;refine(HM.o _ I.o).mono ?_;rintro e w2 ⟨rfl,hx⟩;have HX:=hY hx;clear hx;go_wp2_with fail;go_ret;exact⟨rfl,I.o.trans HX.o⟩
  have d0:(k==6)=false:=eP.2 h6;rw[eL h6];clear h2 h3 h4 h5 h6;go_in;go_wp2_with fail;go_ret;exact⟨rfl,I.o⟩
 have b9:(k != k')=true:=fg.2 a6;rw[eN a6];clear a6;go_in;go_wp2_with fail;refine(HK.o _).mono ?_;rintro e w2 ⟨rfl,rfl⟩;go_wp2_with fail;go_ret;exact⟨rfl,I.o⟩
def Holds(keep f:Nat)(xs ring:List Value):Prop:=∀j,j<xs.length->xs.length<=j+keep->ring[(f+j)%keep]? = xs[j]?
def pk(i:Int):Nat:=(IntKind.u64.wrap i%5).toNat
def BR.det{b o:Nat}{d d':Val}(h:BR w b o d sl so)(I:BR w b o d' sl' so') :
  d.kind=d'.kind/\d.b=d'.b/\d.i=d'.i/\d.t=d'.t/\d.l.length=d'.l.length/\d.ok.length=d'.ok.length/\sl=sl'/\so=so':=by
 have e0:=h.c0.symm.trans I.c0;have Z:=h.c1.symm.trans I.c1;have e2:=h.c2.symm.trans I.c2;have e3:=h.c3.symm.trans I.c3;have N:=h.c4.symm.trans I.c4;have e5:=h.c5.symm.trans I.c5;obtain⟨a,c⟩:=sl;obtain⟨a',c'⟩:=sl';obtain⟨f,g⟩:=so;obtain⟨f',g'⟩:=so';simp only[Option.some.injEq,Value.int.injEq,Value.bool.injEq,Value.string.injEq,Value.slice.injEq,true_and]at e0 Z e2 e3 N e5;obtain⟨rfl,N,rfl⟩:=N;obtain⟨rfl,e5,rfl⟩:=e5;exact⟨e0,Z,e2,e3,N,e5,rfl,rfl⟩
variable{F F':Nat->Prop}{s:Sl}
def BV.same{n b o I o':Nat}(h:BV F s n b o)(Z:BV F' s n I o')(N:0<n):b=I/\o=o':=by
 have e:=(h.eq N).1.symm.trans (Z.eq N).1;simpa using e
def Val.Jp{d d':Val}(h1:d.kind=d'.kind)(h2:d.b=d'.b)(h3:d.i=d'.i)(N:d.t=d'.t)(h5:d.l=d'.l)(I:d.ok=d'.ok)(Z:d.ov=d'.ov):d=d':=by
 cases d;cases d';simp only[Val.kind,Val.b,Val.i,Val.t,Val.l,Val.ok,Val.ov]at *
 subst_vars;rfl
def RV.det(m:Nat):∀{d d':Val} {sl so:Sl},SizeOf.sizeOf d<=m->RV w F d sl so->RV w F' d' sl so->d.l.length=d'.l.length->d.ok.length=d'.ok.length->d.l=d'.l/\d.ok=d'.ok/\d.ov=d'.ov:=by
 induction m with
 |zero=>intro d _ _ _ hm;have:=Val.CM d;omega
 | succ m ih=>
   intro d d' sl so hm h h' a1 a0;cases h with
   |@mk kind vb vi vt l ok ov _ _ bl fl bo fo cl co hl ho hov el rl ek eo ro=>
   cases h' with
   |@mk kind' vb' vi' vt' l' ok' ov' _ _ bl' fl' bo' fo' cl' co' hl' ho' hov' el' rl' ek' eo' ro'=>
   have a2:∀{b o:Nat} {x N:Val} {s s' t t':Sl},SizeOf.sizeOf x<=m->BR w b o x s t->BR w b o N s' t'->RV w F x s t->RV w F' N s' t'->x=N:=λhs c c' r r'=>by
    obtain⟨h1,h2,h3,h4,h5,h6,rfl,rfl⟩:=c.det c';obtain⟨k1,k2,k3⟩:=ih hs r r' h5 h6;exact Val.Jp h1 h2 h3 h4 k1 k2 k3
   simp only[Val.l,Val.ok,Val.ov]at a1 a0 ⊢;refine⟨List.ext_getElem? λj=>?_,bJ λj=>?_,bJ λj=>?_⟩
   ·by_cases hj:j<l.length
    ·obtain ⟨x,Z⟩:∃ x,l[j]? = some x:=⟨_,ac hj⟩
     obtain⟨N,I⟩:∃N,l'[j]? = some N:=⟨_,ac oM⟩;obtain⟨rfl,rfl⟩:=hl.same (a1▸hl') oM;rw[Z,I,a2 (by have:=Val.Ev (k:=kind) (b:=vb) (i:=vi) (t:=vt) (ok:=ok) (ov:=ov) Z;omega) (el j x Z) (el' j N I) (rl j x Z) (rl' j N I)]
    rw[aN oM,aN oM]
   ·by_cases hj:j<ok.length
    ·obtain ⟨x,Z⟩:∃ x,ok[j]? = some x:=⟨_,ac hj⟩
     obtain⟨N,I⟩:∃N,ok'[j]? = some N:=⟨_,ac oM⟩;obtain⟨rfl,rfl⟩:=ho.same (a0▸ho') oM;have e:=(ek j x Z).1.symm.trans (ek' j N I).1;simp only[Option.some.injEq,Value.string.injEq]at e;rw[Z,I,e]
    rw[aN oM,aN oM]
   by_cases hj:j<ov.length
   ·obtain ⟨x,Z⟩:∃ x,ov[j]? = some x:=⟨_,ac hj⟩
    obtain⟨N,I⟩:∃N,ov'[j]? = some N:=⟨_,ac oM⟩;obtain⟨rfl,rfl⟩:=ho.same (a0▸ho') oM;rw[Z,I,a2 (by have:=Val.E0 (k:=kind) (b:=vb) (i:=vi) (t:=vt) (l:=l) (ok:=ok) Z;omega) (eo j x Z) (eo' j N I) (ro j x Z) (ro' j N I)]
   rw[aN oM,aN oM]
variable{xs ys:List LE}
def ES.det(h:ES w F s xs)(h':ES w F' s ys)(hl:xs.length=ys.length):xs.map LE.ent=ys.map LE.ent:=by
 refine bJ λj=>?_
 rw[ar,ar];by_cases hj:j<xs.length
 ·obtain ⟨x,Z⟩:∃ x,xs[j]? = some x:=⟨_,ac hj⟩
  obtain⟨y,N⟩:∃y,ys[j]? = some y:=⟨_,ac oM⟩;obtain⟨b,o,ha,-,-,-,k1,c1,r1,-⟩:=h.at Z;obtain⟨b',o',I,-,-,-,k2,c2,r2,-⟩:=h'.at N;obtain⟨rfl,rfl⟩:b=b'/\o=o':=by have:=ha.symm.trans I;simpa using this
  have e:=k1.symm.trans k2;simp only[Option.some.injEq,Value.string.injEq]at e;obtain⟨xk,xv,a1,a2⟩:=x;obtain⟨yk,yv,a0,a3⟩:=y;obtain⟨h1,h2,h3,h4,h5,h6,e7,e8⟩:=c1.det c2;dsimp only at *;subst e7 e8;obtain⟨q1,q2,q3⟩:=RV.det _ (ao _) r1 r2 h5 h6;rw[Z,N];simp only[Option.map_some,LE.ent,e,Val.Jp h1 h2 h3 h4 q1 q2 q3]
 rw[aN oM,aN oM]
def AJ.heights{h I:Nat}{t:PT h}{N:PT I}(a:AJ w F h t)(b:AJ w F' I N)(e:addr h t=addr I N):h=I:=by
 obtain⟨-,_,_,_,_,-,h1⟩:=a.cells;obtain⟨-,_,_,_,_,-,h2⟩:=b.cells;rw[e]at h1;have:=h1.c7.2.2.1.symm.trans h2.c7.2.2.1;simp only[Option.some.injEq,Value.int.injEq,true_and]at this;omega
def AJ.det{w:AB}{F F':Nat->Prop}:∀{h:Nat} {t t':PT h},AJ w F h t->AJ w F' h t'->addr h t=addr h t'->t=t'
 | 0,(a,es),(a',es'),⟨_,s,xs,h2,h3,Z⟩,⟨_,s',xs',h2',h3',I⟩,e=>by
   have e:a=a':=e;subst e;have c:=(h2.c7.1).symm.trans h2'.c7.1;simp only[Option.some.injEq,Value.slice.injEq]at c;obtain⟨sa,sc⟩:=s;obtain⟨a2,a3⟩:=s';dsimp only at c;obtain⟨rfl,hl,rfl⟩:=c;have:=h3.det h3' hl;have Z:xs.map LE.ent=es:=Z;have I:xs'.map LE.ent=es':=I;rw[<-Z,<-I,this]
 | h+1,(a,ks),(a',N),⟨_,s,h2,h3,Z⟩,⟨_,s',h2',h3',I⟩,e=>by
   have e:a=a':=e;subst e;have c:=(h2.c7.2.1).symm.trans h2'.c7.2.1;simp only[Option.some.injEq,Value.slice.injEq]at c;obtain⟨sa,sc⟩:=s;obtain⟨a2,a3⟩:=s';dsimp only at c;obtain⟨rfl,hl,rfl⟩:=c;have Z:∀k∈ks,AJ w F h k:=Z;have I:∀k∈N,AJ w F' h k:=I;have a1:ks=N:=by
    refine bJ λj=>?_
    by_cases hj:j<ks.length
    ·obtain ⟨x,hx⟩:∃ x,ks[j]? = some x:=⟨_,ac hj⟩
     obtain⟨y,hy⟩:∃y,N[j]? = some y:=⟨_,ac oM⟩;obtain⟨b,o,ha,-,-,-,k1⟩:=Rd.EB h3 hx;obtain⟨b',o',a0,-,-,-,k2⟩:=Rd.EB h3' hy;obtain⟨rfl,rfl⟩:b=b'/\o=o':=by have:=ha.symm.trans a0;simpa using this
     have e:=k1.symm.trans k2;simp only[Option.some.injEq,Value.pointer.injEq,Addr.mk.injEq,and_true]at e;rw[hx,hy,AJ.det (Z x (ap hx)) (I y (ap hy)) e]
    rw[aN oM,aN oM]
   rw[a1]
def MO{x y:Val}(h:RV w (Lt w) x sl so)(h':RV w (Lt w) y sl' so') :
  Calls prog 104 #[AS x sl so,AS y sl' so'] w λe w'=>e=.returned (.bool (decide (AW x y=0)))/\Ext w w':=by
 have hc:∀W,Ext w W->Calls prog 144 #[AS x sl so,AS y sl' so'] W (DO (AW x y) W):=λW Z=>
  We _ x y (ao _) W _ _ _ _ ((h.agree (Z.agree λ_ h=>h)).mono λi hi=>ab hi Z.size) ((h'.agree (Z.agree λ_ h=>h)).mono λi hi=>ab hi Z.size)
 have HC:=hY hc;have hb:(AW x y==0)=decide (AW x y=0):=by by_cases h:AW x y=0<;>simp[h]
 have HB:=hY hb;clear hc h h' hb;obtain⟨k,b,i,t,l,ok,ov⟩:=x;obtain⟨k',b',i',t',l',a2,a1⟩:=y;go_in;go_wp2_with fail;generalize N:World.alloc (World.alloc _ _) _=W0;obtain⟨I,a3,a4,a0⟩:=CH w _ _ _ _ W0 N;clear N;refine(HC.o _ I).mono ?_;rintro e w1 ⟨rfl,hx⟩;go_wp2_with fail;go_ret;exact⟨rfl,I.trans hx⟩
open Go.Maps Go.Shelf
variable{C:AL SV}
def Xi{mb:Option Nat}(hm:Bj W mb C){k:AA}(hk:k.size<=maxLen) :
  (Instr.lookup 155 (.map mb) (.string k) false).run prog W=.ok (Cm C k).val W:=by
 cases mb with
 | none=>
   have hC:C=[]:=hm;subst hC;rw[Maps.look_nil false FP underlying155 (LP W) (Gz k hk)];rfl
 | some b=>
   obtain⟨es,a0,hb,F,hs,hD⟩:=hm;rcases Maps.fit_look false FP underlying155 (LP W) hb F (Gz k hk)with⟨I,_,N⟩ |⟨e0,y,_,_,I,Z,N,_⟩
   ·rw [I]
    have h1:=N .nil;rw[<-hD,IU]at h1;unfold Cm;cases hg:AQ C k with
    |none=>rfl
    |some s=>rw[hg]at h1;cases h1
   rw[I];have h1:=N .nil;rw[<-hD,IU]at h1;have h2:=N (.held (.bool true));rw[<-hD,IU]at h2;unfold Cm;cases hg:AQ C k with
   |none=>rw[hg]at h1 h2;rw[<-h1]at h2;cases h2
   | some s=>
     rw[hg]at h1;obtain⟨y1,y2⟩:=y;dsimp only at h1;rw[<-h1]at Z;rw[Ln Z];rfl
def jz(hC:Bd C){ss:List (List UInt8)}(hp:ss.Perm (strKeys (mapA SV.val C))):(ss.mergeSort λx y=>decide (x<=y)).map encStr=C.map λp=>.string p.1:=by
 rw[NP]at hp;have hm:(ss.mergeSort λx y=>decide (x<=y)).Perm ss:=List.mergeSort_perm ..;have Z:(C.map Prod.fst).Pairwise λx y=>klt x y=true:=bO.2 hC
 have hb:((ss.mergeSort λx y=>decide (x<=y)).map Bu).map Bc=ss.mergeSort λx y=>decide (x<=y):=UZ _
 have I:((ss.mergeSort λx y=>decide (x<=y)).map Bu).Perm (C.map Prod.fst):=by
  have h1:=((hm.trans hp).map Bu);rw[ct]at h1;exact h1
 have N:((ss.mergeSort λx y=>decide (x<=y)).map Bu).Nodup:=I.nodup_iff.2 (Z.imp λ{a b} h e=>N3 h e);have he:(ss.mergeSort λx y=>decide (x<=y)).map Bu=C.map Prod.fst:=Mw (PK (by rw[hb];exact R' ss) N) Z λk=>I.mem_iff
 have h2:(ss.mergeSort λx y=>decide (x<=y)).map encStr=((ss.mergeSort λx y=>decide (x<=y)).map Bu).map .string:=by rw[ct];rfl
 rw[h2,he,ct];rfl
def Wz{base e size n:Nat}{v:Value}{xs:List Value}(h:w.ownsRow base e size v n xs):∃s:Sl,v=.slice s.a n s.c:=by
 rcases h.2 with⟨rfl,rfl⟩ |⟨g,I,N,rfl,r⟩
 .exact ⟨Sl.none,rfl⟩
 exact⟨⟨some g,I⟩,rfl⟩
def CB(F:Nat->Prop)(w wr:AB)(b:Nat):Prop:=(F b\/w.heap.size+2<=b)/\b<wr.heap.size
variable{T':RT}{v0:Value}
def ZT{w w2 wr w7 I:AB}{N:Option Addr}(hz:w.heap.size+2<=wr.heap.size)(hF:∀b,F b->b<w.heap.size)(h7:Ext wr w7)(h8:Ext w7 I)(hT:AV I (Up (CB F w wr) w7 I) T')(hp:Aa T'=.pointer N)(hb:AE wr (w.heap.size+1) 36 #[v0])
  (hs:Sb (λc=>c=w.heap.size+1) w2 wr) :
  AV (I.setCell ⟨w+1,0,none⟩ (.pointer N)) (CB F w (I.setCell ⟨w+1,0,none⟩ (.pointer N))) T'/\AE (I.setCell ⟨w+1,0,none⟩ (.pointer N)) (w.heap.size+1) 36 #[Aa T']/\Sb (λc=>c=w.heap.size+1) w2 (I.setCell ⟨w+1,0,none⟩ (.pointer N)):=by
 have s7:=h7.size;have s8:=h8.size;refine⟨(hT.agree (gD I ⟨w+1,0,none⟩ _ ?_)).mono λi hi=>?_,?_,(hs.ext (h7.trans h8)).set (p:=⟨w+1,0,none⟩) (.inr rfl) _⟩
 ·rintro (Z | Z)
  ·rcases Z.1 with h | h
   .have:=hF _ h;dsimp only at this;omega
   dsimp only at h;omega
  have:w7.heap.size<=w.heap.size+1:=Z.1;omega
 ·rw [CB,eX]
  rcases hi with hi|hi
  .exact ⟨hi.1,by have:=hi.2;omega⟩
  exact⟨.inr (by have:=hi.1;omega),hi.2⟩
 rw[hp];exact(hb.ext (h7.trans h8)).AX 0 _
def NQ(H:Nat->Prop)(O:Nat)(d:OD)(w:AB)(e:AC)(w':AB):Prop:=
 ∃T':RT,e=.returned (AO T')/\Am T'/\AV w' (Up (BL H w O d) w w') T'/\AG T'=B4 (AG d.T) (CZ d.C) (AG d.T)/\Nw w w'/\(idleC (AG d.T) (CZ d.C)->T'=d.T)
def ja{B:List AD}{p:AA × SV}(h:C[j]? = some p)(t:List AD):B4 B ((CZ C).drop j) t=B4 B ((CZ C).drop (j+1)) (match p.2.opt with
  |some v=>if(AH B p.1).any (λI=>decide (AW I v=0))then t else AU t p.1 v
  |none=>if(AH B p.1).isSome then Ac t p.1 else t):=by
 have h1:(CZ C)[j]? = some (p.1,p.2.opt):=by unfold CZ;rw[ar,h];rfl
 obtain⟨h2,N⟩:=ai.1 h1
 conv=>lhs;rw[aE h2,N]
 cases p.2.opt<;>rfl
def Yx{B:List AD}(N:Bd C){p:AA × SV}(h:C[j]? = some p)(hi:idleC B (CZ C)):match p.2.opt with
  |some v=>(AH B p.1).any (λI=>decide (AW I v=0))=true
  |none=>AH B p.1=none:=
 hi p.1 p.2.opt (by rw[Gt,Oa N (ap h)];rfl)
variable{n:Nat}
def ol{base:Nat}{t:TypeId}{xs:List Value}(h:w.ownsRow base t 1 (.slice s.a n s.c) n xs){i:Nat}{v:Value}(hi:xs[i]? = some v):∃g,s.a=some ⟨g,0,none⟩/\s.row=some g/\base<=g/\g<w.heap.size/\n<=s.c/\s.c<=maxLen/\w.cell? ⟨g,i,none⟩=some v:=by
 have Z:=(ai.1 hi).1;have hn:xs.length=n*1:=h.1;obtain⟨g,a0,rfl,hg,h1,h2,I⟩:=Dg h oM;obtain⟨b,o,h3,h4,h5⟩:=gF h;obtain⟨N,-,-⟩:=h3.eq oM;obtain⟨rfl,rfl⟩:g=b/\0=o:=by simpa using N
 exact⟨g,rfl,rfl,hg,I.lt,h1,h2,by have:=h5 i v hi;rwa[aF]at this⟩
variable{H:Nat->Prop}{O:Nat}{d:OD}
def pB(h:BC H w O d){b:Nat}(hm:d.mb=some b)(hl:(AG d.T).length+d.C.length<=1000000):Calls prog 71 #[.pointer (some O)] w (NQ H O d w):=by
 have c0:w.cell? O=some (Aa d.T):=h.blk.cell 0;have c1:w.cell? ⟨O,1,none⟩=some (.map (some b)):=by have:=h.blk.cell 1;rw[hm]at this;exact this
 have lO:=h.blk.lt;obtain⟨r,hr⟩:=BM d.T;rw[hr]at c0;have l1:O<w.heap.size+1:=oM
 have l2:O<w.heap.size+1+1:=oM
 have hF:∀b,BL H w O d b->b<w.heap.size:=λb hb=>hb.1
 obtain⟨n,hn⟩:∃n,d.C.length=n:=⟨_,rfl⟩;rw[hn]at hl;obtain⟨n0,j9⟩:∃n,(AG d.T).length=n:=⟨_,rfl⟩;rw[j9]at hl;obtain⟨N,HM,HN,k9,HR,HF,LO⟩:=Yh h hm hn j9 hr hF lO;clear h hm hr hF hn j9;go_in;go_wp2_with fail;generalize k8:World.alloc _ _=W0;obtain⟨n2,l0,l7,k2⟩:=CH w _ _ _ _ W0 k8;obtain⟨l8,n9,n7,o0⟩:=Ye n2 l7 k2 l0;clear k8 n2 l7 k2 l1 l2 l0;refine((eR (n:=5)).1 (Tryz.PC (some b) W0)).mono ?_;rintro e w' ⟨rfl,rfl⟩;go_wp2_with fail;have i6:W0.ownsMap prog 9 Dx b d.C.length (mapA SV.val d.C):=by
  have h1:=N.o.map;rw[HM.o]at h1;have hb:=N.o.map.lt HM.o;exact IT h1 ((gA l8.o).block b hb id)
 have j8:Maps.size (mapA SV.val d.C)=n:=by rw[RD];exact HN.o
 refine((eR (n:=5)).1 (Tryz.nx b d.C.length (mapA SV.val d.C) Dx W0 i6 (by rw[j8];unfold maxLen;omega) (by rw[j8];omega))).mono ?_;rintro e w2 ⟨v,ss,rfl,hp,a8,k5,l6⟩;have i3:ss.length=n:=by have:=hp.length_eq;rw[NP,aq,HN.o]at this;exact this
 rw[jz N.o.sorted hp,i3]at a8;obtain⟨s,rfl⟩:=Wz a8;rw[eQ,o0.o]at a8;have f1:Nw W0 w2:=(gA ((gz W0).alloc #[.map (some b)] 155)).trans (Sb.new l6);have i1:Nw w w2:=(gA l8.o).trans f1;obtain⟨g7,n4,n8,n6⟩:=Ye i1 (f1.blk n9.o) (f1.blk n7.o) a8;have l3:w.heap.size+2<=w2.heap.size:=by have:=f1.size;have:=o0.o;omega
 have o6:=hY l3;clear i6 j8 hp a8 k5 l6 f1 i1 i3 c0 c1 n9 n7 l3;go_wp2_with fail;go_loopw[23] (λq wr=>∃(j:Nat) (T1:RT),q=.int .i64 j/\j<=n/\Am T1/\AV wr (CB (BL H w O d) w wr) T1/\B4 (AG d.T) ((CZ d.C).drop j) (AG T1)=B4 (AG d.T) (CZ d.C) (AG d.T)/\(AG T1).length<=n0+j/\AE wr (w.heap.size+1) 36 #[Aa T1]/\Sb (λc=>c=w.heap.size+1) w2 wr/\(idleC (AG d.T) (CZ d.C)->T1=d.T)) (λq _=>n -(intOf q).toNat)
 case atStart=>exact⟨0,d.T,rfl,aw _,N.o.ok,(N.o.tree.agree (gC g7.o HF.o)).mono λi hi=>⟨.inl hi,ab hi.1 g7.o.size⟩,rfl,by rw[k9.o];exact ao _,by rw[HR.o];exact n8.o,gE _ _,λ_=>rfl⟩
 obtain⟨j,T1,rfl,hj,ok,hT,g5,j5,b0,a6,f8⟩:=hrel;obtain⟨p1,d4⟩:=BM T1;have o5:w.heap.size+2<=wr.heap.size:=an o6.o a6.size;by_cases c8:j<n
 ·have g1:decide ((j:Int)<(n:Int))=true:=eO oM
  have p5:(j:Int)<(n:Int):=oM
  obtain⟨p,d7⟩:∃p,d.C[j]? = some p:=⟨_,ac (by rw[HN.o];exact c8)⟩;have j4:=ap d7;obtain⟨g,k7,o4,o9,l9,o2,o8,e6⟩:=ol n6.o (i:=j) (v:=.string p.1) (by rw[ar,d7];rfl);obtain⟨sa,sc⟩:=s;dsimp only at k7 o2 o8;subst k7;have p6:=LO.out;have b8:Sb (λc=>c=w.heap.size+1) w wr:=(g7.o.any _).trans a6;have j2:Agree (BL H w O d) w wr:=λi hi=>b8.block i hi.1 (by have:=hi.1;omega)
  have kc:wr.cell? ⟨g,j,none⟩=some (.string p.1):=(a6.cell l9 oM).trans e6;have kl:g<wr:=ab l9 a6.size;have d8:=b8.blk N.o.blk oM;rw[HR.o,HM.o]at d8;have c0:wr.cell? O=some (.pointer r):=d8.cell 0;have c1:wr.cell? ⟨O,1,none⟩=some (.map (some b)):=d8.cell 1;have o7:=d8.lt;obtain⟨f6,l5⟩:=N.o.vals p j4;have j6:=Xi (W:=wr) (N.o.map.heap λb hb=>b8.block b (N.o.map.lt hb) (by have:=N.o.map.lt hb;omega)) f6;rw[HM.o,show Cm d.C p.1=p.2 by unfold Cm;rw[Oa N.o.sorted j4];rfl]at j6;have d5:∀i,CB (BL H w O d) w wr i->i<wr.heap.size:=λi hi=>hi.2
  have i9:(AG T1).length<=1000000:=oM
  have hv:RV wr (Lt wr) p.2.v p.2.sl p.2.so:=(l5.1.agree j2).mono λi hi=>by have:=hi.1;show i<_;omega
  have a5:=λ(W:AB) (hW:Ext wr W)=>Rs (k:=p.1) (w:=W) (F:=BL H w O d) (T:=d.T) (λi hi=>by have:=hi.1;have:=hW.size;omega) (N.o.tree.agree (j2.trans (hW.agree λi hi=>by have:=hi.1;omega))) N.o.ok (by rw[k9.o];omega)
  have b7:=λ(W:AB) (hW:Ext wr W)=>OM (k:=p.1) (v:=p.2.v) (sl:=p.2.sl) (so:=p.2.so) (λb hb=>ab (d5 b hb) hW.size) (hT.agree (hW.agree d5)) ok i9 f6 ((hv.agree (hW.agree λ_ h=>h)).mono λi hi=>ab hi hW.size)
  have b6:=λ(W:AB) (hW:Ext wr W)=>lU (λb hb=>ab (d5 b hb) hW.size) (hT.agree (hW.agree d5)) ok i9 p.1
  have b3:=λ(W:AB) (hW:Ext wr W) (x:Val) (xl xo:Sl) (hx:RV W (Lt W) x xl xo)=>MO hx ((hv.agree (hW.agree λ_ h=>h)).mono (G:=Lt W) λi hi=>ab hi hW.size)
  have a2:=ja (B:=AG d.T) d7 (AG T1);have b5:=Yx (B:=AG d.T) N.o.sorted d7;rw[g5]at a2;unfold Dn at a5;rw[AO,HR.o]at a5;rw[AO,d4]at b7 b6;have g3:Ext wr (wr.alloc (.cells p.2.cells 166)):=(gz wr).alloc _ _;have f9:=gB wr 166 p.2.cells;have f3:∀W,Ext wr W->AV W (CB (BL H w O d) w W) T1/\AE W (w.heap.size+1) 36 #[Aa T1]/\Sb (λc=>c=w.heap.size+1) w2 W:=λW hW=>
   ⟨(hT.agree (hW.agree d5)).mono λi hi=>⟨hi.1,ab hi.2 hW.size⟩,b0.ext hW,a6.ext hW⟩
  have d6:∀w7 w8 T' p',Ext wr w7->Ext w7 w8->AV w8 (Up (CB (BL H w O d) w wr) w7 w8) T'->Aa T'=.pointer p'->_:=λw7 w8 T' p' h7 h8 h1 h2=>ZT (w2:=w2) o5 HF.o h7 h8 h1 h2 b0 a6
  obtain⟨k,g0,v,sl,so⟩:=p;dsimp only at kc f6 j6 hv a5 b7 b6 b3 a2 b5 g3 f9;obtain⟨og,k4⟩:∃o,AH (AG d.T) k=o:=⟨_,rfl⟩;obtain⟨gv,j0⟩:∃g,og.getD zeroV=g:=⟨_,rfl⟩;obtain⟨gb,j3⟩:∃g,og.isSome=g:=⟨_,rfl⟩;rw[k4]at a5 a2 b5;rw[j0,j3]at a5;have d3:=hY (show ∀W,Ext (wr.alloc (.cells (SV.cells ⟨g0,v,sl,so⟩) 166)) W->(W.cell? wr=some (.bool g0)/\W.cell? ⟨wr,1,none⟩=some (.int .i64 v.kind)/\W.cell? ⟨wr,2,none⟩=some (.bool v.b)/\W.cell? ⟨wr,3,none⟩=some (.int .i64 v.i)/\W.cell? ⟨wr,4,none⟩=some (.string v.t)/\W.cell? ⟨wr,5,none⟩=some (.slice sl.a v.l.length sl.c)/\W.cell? ⟨wr,6,none⟩=some (.slice so.a v.ok.length so.c))/\
    W.cell? ⟨w+1,0,none⟩=some (.pointer p1)/\W.frozen? ⟨w+1,0,none⟩=false/\w.heap.size+1<W.heap.size/\wr.heap.size<W.heap.size fromλW hW=>by
   have h1:=b0.ext (g3.trans hW);rw[d4]at h1;exact⟨(f9.ext hW).c7,h1.cell 0,h1.frozen 0,h1.lt,(f9.ext hW).lt⟩)
  obtain⟨f2,i0,i4,k3,e4,a4,b9⟩:=Yh g3 a5 b7 b6 b3 a2 b5;obtain⟨e7,b4,a1,f5,i8⟩:=Yf f3 d6 ok j5 f8;clear d7 j4 e6 b8 j2 d8 f6 l5 hv a5 b7 b6 b3 a2 b5 g3 f9 f3 d6 k4 ok hT g5 j5 b0 a6 f8 d5 i9 d4;go_wp2_with fail;dsimp only[SV.cells]at d3 f2;generalize p3:wr.alloc (.cells _ _)=W3 at *;clear p3 kc kl c0 c1 o7 j6;refine(i0.o W3 f2.o).mono ?_;rintro e w4 ⟨gl,gq,rfl,d0,o1⟩;have c6:=(gz w4).alloc #[.int .i64 gv.kind,.bool gv.b,.int .i64 gv.i,.string gv.t,.slice gl.a gv.l.length gl.c,.slice gq.a gv.ok.length gq.c] 54;have p0:=gB w4 54 #[.int .i64 gv.kind,.bool gv.b,.int .i64 gv.i,.string gv.t,.slice gl.a gv.l.length gl.c,.slice gq.a gv.ok.length gq.c];have i2:=(o1.agree (c6.agree λb hb=>hb.2)).mono (G:=Lt (w4.alloc (.cells #[gv.kind,.bool gv.b,.int .i64 gv.i,gv.t,.slice gl.a gv.l.length gl.c,.slice gq.a gv.ok.length gq.c] 54)).heap.size) λb hb=>ab hb.2 c6.size
  obtain⟨k6,p4,c9,f7⟩:=Ye (e4.o _ ((f2.o.trans d0).trans c6) gv gl gq i2) (f2.o.trans d0) ((f2.o.trans d0).trans c6) (d0.trans c6);obtain⟨⟨q0,q1,q2,q3,q4,q5,q6⟩,q7,q8,q9,g8⟩:=d3.o _ d0;clear d0 o1 c6 p0 i2 e4 i0;cases gb with
  | false=>
    have ho:og=none:=by cases og with
     |none=>rfl
     |some x=>cases j3
    cases g0 with
    | false=>
      have I:=a4.o;simp only[SV.opt,ho]at I;have HE:=hY I.symm;clear I;go_wp2_with fail;obtain⟨e1,e2,e3⟩:=e7.o _ c9.o;go_roundw
      case rel=>exact⟨j+1,T1,by go_num,c8,a1.o,e1,HE.o,by have:=f5.o;omega,e2,e3,i8.o⟩
      simp[intOf];omega
    | true=>
      have I:=a4.o;simp only[SV.opt,ho,if_true,Option.any_none,Bool.false_eq_true,if_false]at I;have HE:=hY I.symm;have p2:=b9.o;have e8:=hY (show ¬(match(SV.opt ⟨true,v,sl,so⟩)with
       |some v=>og.any (λf4=>decide (AW f4 v=0))=true
       |none=>og=none)by simp[SV.opt,ho])
      clear I p2;go_wp2_with fail;refine(i4.o _ c9.o).mono ?_;rintro e w8 ⟨T',rfl,a9,a7,a0⟩;obtain⟨p',Z⟩:=BM T';rw[AO,Z];obtain⟨-,q7,q8,q9,g8⟩:=d3.o w8 (f7.o.trans a0);obtain⟨d9,a3⟩:=Yb (b4.o _ _ T' p' c9.o a0 a7 Z) a9;clear a9 a7 a0 Z;go_wp2_with fail;obtain⟨e1,e2,e3⟩:=d9.o;go_roundw
      case rel=>exact⟨j+1,T',by go_num,c8,a3.o.ok a1.o,e1,by rw[a3.o.ents a1.o];exact HE.o,by rw[a3.o.ents a1.o];have:=f5.o;rcases Fq (AG T1) k v with h|h<;>omega,e2,e3,λhi=>absurd (b9.o hi) e8.o⟩
      simp[intOf];omega
  | true=>
    obtain⟨x,ho⟩:∃x,og=some x:=de.1 j3;have j1:x=gv:=by rw[ho]at j0;exact j0
    cases g0 with
    | false=>
      have I:=a4.o;simp only[SV.opt,ho,Bool.false_eq_true,if_false,Option.isSome_some,if_true]at I;have HE:=hY I.symm;have e8:=hY (show ¬(match(SV.opt ⟨false,v,sl,so⟩)with
       |some v=>og.any (λf4=>decide (AW f4 v=0))=true
       |none=>og=none)by simp[SV.opt,ho])
      clear I;go_wp2_with fail;refine(k3.o _ c9.o).mono ?_;rintro e w8 ⟨T',rfl,a9,a7,a0⟩;obtain⟨p',Z⟩:=BM T';rw[AO,Z];obtain⟨-,q7,q8,q9,g8⟩:=d3.o w8 (f7.o.trans a0);obtain⟨d9,a3⟩:=Yb (b4.o _ _ T' p' c9.o a0 a7 Z) a9;clear a9 a7 a0 Z;go_wp2_with fail;obtain⟨e1,e2,e3⟩:=d9.o;go_roundw
      case rel=>exact⟨j+1,T',by go_num,c8,a3.o.ok a1.o,e1,by rw[a3.o.ents a1.o];exact HE.o,by rw[a3.o.ents a1.o];have:=f5.o;have:=(Fz (AG T1) k).length_le;omega,e2,e3,λhi=>absurd (b9.o hi) e8.o⟩
      simp[intOf];omega
    | true=>
      obtain⟨sm,g4⟩:∃s,decide (AW gv v=0)=s:=⟨_,rfl⟩;have e0:=k6.o;rw[g4]at e0;have i7:=hY e0;clear e0 k6;go_wp2_with fail;refine i7.o.mono ?_;rintro e w6 ⟨rfl,g9⟩;obtain⟨j7,o3⟩:=Yb (c9.o.trans g9) (f7.o.trans g9);obtain⟨⟨q0,q1,q2,q3,q4,q5,q6⟩,q7,q8,q9,g8⟩:=d3.o w6 (f7.o.trans g9);clear g9 i7;cases sm with
      | true=>
        have I:=a4.o;simp only[SV.opt,ho,if_true,Option.any_some,j1,g4]at I;have HE:=hY I.symm;clear I;go_wp2_with fail;obtain⟨e1,e2,e3⟩:=e7.o _ j7.o;go_roundw
        case rel=>exact⟨j+1,T1,by go_num,c8,a1.o,e1,HE.o,by have:=f5.o;omega,e2,e3,i8.o⟩
        simp[intOf];omega
      | false=>
        have I:=a4.o;simp only[SV.opt,ho,if_true,Option.any_some,j1,g4,Bool.false_eq_true,if_false]at I;have HE:=hY I.symm;have e8:=hY (show ¬(match(SV.opt ⟨true,v,sl,so⟩)with
         |some v=>og.any (λf4=>decide (AW f4 v=0))=true
         |none=>og=none)by simp only[SV.opt,ho,if_true,Option.any_some,j1,g4];simp)
        clear I;go_wp2_with fail;refine(i4.o _ j7.o).mono ?_;rintro e w8 ⟨T',rfl,a9,a7,a0⟩;obtain⟨p',Z⟩:=BM T';rw[AO,Z];obtain⟨-,q7,q8,q9,g8⟩:=d3.o w8 (o3.o.trans a0);obtain⟨d9,a3⟩:=Yb (b4.o _ _ T' p' j7.o a0 a7 Z) a9;clear a9 a7 a0 Z;go_wp2_with fail;obtain⟨e1,e2,e3⟩:=d9.o;go_roundw
        case rel=>exact⟨j+1,T',by go_num,c8,a3.o.ok a1.o,e1,by rw[a3.o.ents a1.o];exact HE.o,by rw[a3.o.ents a1.o];have:=f5.o;rcases Fq (AG T1) k v with h|h<;>omega,e2,e3,λhi=>absurd (b9.o hi) e8.o⟩
        simp[intOf];omega
 obtain rfl:j=n:=oM
 have g1:decide ((j:Int)<(j:Int))=false:=eM oM;rw[d4]at b0;have q0:wr.cell? ⟨w+1,0,none⟩=some (.pointer p1):=b0.cell 0;have g6:=a6.blk n4.o oM;have q1:wr.cell? w=some (.pointer none):=g6.cell 0;have f0:=g6.frozen 0;have k0:=g6.lt;have k1:=b0.lt;have i5:NQ H O d w (.returned (.agg #[.pointer p1])) (wr.setCell w (.pointer p1)):=by
  refine⟨T1,by rw[AO,d4],ok,?_,?_,?_,f8⟩
  ·refine (hT.agree (gD wr w _ ?_)).mono fun i hi=>?_
   ·rintro ⟨hf | hf,-⟩
    .have:=HF.o _ hf;dsimp only at this;omega
    dsimp only at hf;omega
   rw[Up,eX];rcases hi.1 with h|h
   .exact .inl h
   exact .inr ⟨oM,hi.2⟩
  .rw [<-g5,bS (by unfold CZ;rw[aq,HN.o];exact ao _)];rfl
  have h1:Sb (λc=>c=w.heap.size+1\/c=w.heap.size) w2 (wr.setCell w (.pointer p1)):=(a6.mono λi _ e=>.inl e).set (p:=⟨w,0,none⟩) (.inr (.inr rfl)) _;exact g7.o.comp h1 λi hi e=>oM
 have l4:=hY i5;clear ok hT g5 j5 b0 a6 f8 g6 i5 d4;go_wp2_with fail;refine eU (v:=.agg #[.pointer p1]) (by simp[results,results71,go_sem,q1]) rfl ?_;exact l4.o
def oA(h:BC H w O d)(hl:(AG d.T).length+d.C.length<=1000000):Calls prog 71 #[.pointer (some O)] w (NQ H O d w):=by
 cases I:d.mb with
 |some b=>exact pB h I hl
 | none=>
   have N:d.C=[]:=by have:=h.map;rw[I]at this;exact this
   exact(iJ h I).mono λe w' ⟨he,hn⟩=>⟨d.T,he,h.ok,(h.tree.agree (gC hn λb Z=>Z.1)).mono λi hi=>.inl hi,by rw[N];rfl,hn,λ_=>rfl⟩
def EL(k:AA)(v:Val):Int:=if AT k≠0 then 8 else AY v
def lP(h:BC H w O d)(hH:∀b,H b->b<w.heap.size)(hn:d.us.length<=1000000){k:AA}(hk:k.size<=maxLen){v:Val}(hv:RV w (Lt w) v sl so)(hc:Ah v<=1100000)(hL:Aw w) :
  Calls prog 133 #[.pointer (some O),k,AS v sl so] w λe w'=>e=.returned (EL k v)/\((EL k v=0/\∃sl so mb s,EK H w O d (d.step k ⟨true,v,sl,so⟩ mb s) w')\/(EL k v≠0/\Nw w w')):=by
 have I:=λW (Z:Nw w W)=>Li hk (hL.lib.nw Z)
 have a0:∀W,Nw w W->RV W (Lt W) v sl so:=λW Z=>(hv.agree (gC Z λb hb=>hb)).mono λb hb=>ab hb Z.size
 have N:=λW (Z:Nw w W)=>Mh (a0 W Z) hc (hL.nw Z)
 by_cases hm:AT k=0
 ·rw [hm] at I
  have hp:EL k v=AY v:=by unfold EL;rw[eL (by simp[hm])]
  rw[hp];by_cases hf:AY v=0
  ·rw [hf] at N
   exact(qO h hH hn hk hv I N).mono λe w' h=>by rw[hf];exact⟨h.1,.inl ⟨rfl,h.2⟩⟩
  exact(XK I N hf).mono λe w' h=>⟨h.1,.inr ⟨hf,h.2⟩⟩
 have hp:EL k v=8:=by unfold EL;rw[eN hm]
 rw[hp];exact(YM I hm).mono λe w' h=>⟨h.1,.inr ⟨oN,h.2⟩⟩
def Zc{O b:Nat}{r sl:Value}{u:UD}{bw bd bo bk:Nat}{o:SV}(a0:AE w O 158 #[r,.map (some b),sl])(N:Bj w (some b) C)(hs:Bd C)(hC:C.length<maxLen)(hk:u.k.size<=maxLen)
  (a6:AE w bw 4 #[.bool u.old.isSome]) (Z:AE w bd 166 o.cells) (ho:∀x,u.old=some x->x=o) (a3:AE w bo 128 #[.pointer (some O)]) (a2:AE w bk 9 #[.string u.k]) :
  Calls prog 189 #[.pointer (some bw),.pointer (some bd),.pointer (some bo),.pointer (some bk)] w λe w'=>(∃r,e=.returned r)/\Bj w' (some b) (Eu u C)/\Sb (λc=>c=b) w w':=by
 obtain⟨k,a7⟩:=u;have cw:w.cell? bw=some (.bool a7.isSome):=a6.cell 0;have nO:=Bj.ne N a0;have no:=Bj.ne N a3;have nk:=Bj.ne N a2;have nd:=Bj.ne N Z;have a5:=hY N;cases a7 with
 | none=>
   have I:=hY (show ∀W,Sb (λc=>c=b) w W->W.cell? bo=some (.pointer (some O))/\W.cell? ⟨O,1,none⟩=some (.map (some b))/\W.cell? bk=some (.string k)from
    λW hW=>⟨(hW.blk a3 no).cell 0,(hW.blk a0 nO).cell 1,(hW.blk a2 nk).cell 0⟩)
   clear a0 a6 Z a3 a2 N ho nO no nk nd;go_in;go_wp2_with fail;refine eV (S:=(λw'=>Sb (λc=>c=b) w w')) kM (((gE _ w).drew)) (λhHeld=>?_);refine AF 0 (some 11) I hHeld ?_;refine AF 1 (some 12) I hHeld ?_;refine AF 2 (some 13) I hHeld ?_;refine AF 3 (some 14) I hHeld ?_;refine AF 4 (some 15) I hHeld ?_;refine Af (i:=5) kM rfl (by rfl) (λK hK=>?_)
   skip
   (refine Yu (b:=b) (C:=C) (k:=k) rfl rfl rfl (a5.o.heap λ_ _=>rfl) hk ?_;intro w7 a1 a4)
   refine hK.out _ _ (hHeld.trans a4) (λhHeld=>?_);clear hK K
   try go_frame
   refine fa kM ?_ _;go_end0;exact⟨⟨_,rfl⟩,a1,hHeld⟩
 | some x=>
   obtain rfl:=ho x rfl;obtain⟨a8,v,sl',so⟩:=x;have I:=hY (show ∀W,Sb (λc=>c=b) w W->W.cell? bo=some (.pointer (some O))/\W.cell? ⟨O,1,none⟩=some (.map (some b))/\W.cell? bk=some (.string k)/\W.cell? bd=some (.bool a8)/\W.cell? ⟨bd,1,none⟩=some (.int .i64 v.kind)/\W.cell? ⟨bd,2,none⟩=some (.bool v.b)/\W.cell? ⟨bd,3,none⟩=some (.int .i64 v.i)/\W.cell? ⟨bd,4,none⟩=some (.string v.t)/\W.cell? ⟨bd,5,none⟩=some (.slice sl'.a v.l.length sl'.c)/\W.cell? ⟨bd,6,none⟩=some (.slice so.a v.ok.length so.c)from
    λW hW=>⟨(hW.blk a3 no).cell 0,(hW.blk a0 nO).cell 1,(hW.blk a2 nk).cell 0,(hW.blk Z nd).cell 0,(hW.blk Z nd).cell 1,(hW.blk Z nd).cell 2,(hW.blk Z nd).cell 3,(hW.blk Z nd).cell 4,(hW.blk Z nd).cell 5,(hW.blk Z nd).cell 6⟩)
   clear a0 a6 Z a3 a2 N ho nO no nk nd;go_in;go_wp2_with fail;refine eV (S:=(λw'=>Sb (λc=>c=b) w w')) kM (((gE _ w).drew)) (λhHeld=>?_);refine AF 0 (some 5) I hHeld ?_;refine AF 1 (some 6) I hHeld ?_;refine AF 2 (some 7) I hHeld ?_;refine AF 3 (some 8) I hHeld ?_;refine AF 4 (some 9) I hHeld ?_;refine AF 5 (some 10) I hHeld ?_;refine Af (i:=6) kM rfl (by rfl) (λK hK=>?_)
   skip
   (refine RG (b:=b) (C:=C) (k:=k) (s:=⟨a8,v,sl',so⟩) rfl rfl rfl rfl (a5.o.heap λ_ _=>rfl) hk hC hs ?_;intro w7 a1 a4)
   refine hK.out _ _ (hHeld.trans a4) (λhHeld=>?_);clear hK K
   try go_frame
   refine fa kM ?_ _;go_end0;exact⟨⟨_,rfl⟩,a1,hHeld⟩
def lw{base e n c:Nat}{a:Option Addr}{xs:List Value}(h:w.ownsRow base e 1 (.slice a n c) n xs){m:Nat}(hm:m<=n):w.ownsRow base e 1 (.slice a m c) m (xs.take m):=by
 have hl:=h.1;rcases h.2 with⟨hv,h0⟩ |⟨g,a2,Z,hv,a0,hg,a1,N,I,ht⟩
 ·obtain rfl:m=0:=oM
  subst h0;exact⟨oO,.inl ⟨hv,rfl⟩⟩
 injection hv with h1 h2 h3;subst h1 h3;refine⟨by rw[au];omega,.inr ⟨g,c,Z,rfl,a0,hg,oM,N,I,?_⟩⟩;rw[<-ht,cW];congr 1;omega
section
variable{H : Nat -> Prop}{w : AB}{O : Nat}{d : OD}
structure I1(w:AB)(O:Nat)(d:OD)(xs:List Value)(j:Nat)(W:AB):Prop where
 blk:AE W O 158 #[Aa d.T,.map d.mb,.slice d.s.a d.us.length d.s.c]
 map:Bj W d.mb (Cu d.us d.C j)
 row:∃ys,W.ownsRow 0 1 1 (.slice d.s.a d.us.length d.s.c) d.us.length ys/\∀i,i<j->ys[i]? = xs[i]?
 sb:Sb (DZ O d) w W
def lr(H:Nat->Prop)(O:Nat)(d:OD)(m:Nat)(w:AB)(e:AC)(w':AB):Prop:=
 e=.returned (.int .i64 0)/\EK H w O d ⟨d.T,d.mb,d.s,d.us.take m,d.Hs.take (m+1),Cu d.us d.C m⟩ w'
def Sx{m:Nat}(hm:m<=d.us.length)(h:BC H w O d){xs:List Value}(hl:xs.length=d.us.length)(a9:∀(i:Nat) (u:UD) (v:Value),d.us[i]? = some u->xs[i]? = some v->FG w (BL H w O d) O u v){W:AB}(hW:I1 w O d xs m W) :
  EK H w O d ⟨d.T,d.mb,d.s,d.us.take m,d.Hs.take (m+1),Cu d.us d.C m⟩ (W.setCell ⟨O,2,none⟩ (.slice d.s.a m d.s.c)):=by
 have a3:Sb (DZ O d) W (W.setCell ⟨O,2,none⟩ (.slice d.s.a m d.s.c)):=(gE (DZ O d) W).set (p:=⟨O,2,none⟩) (.inr (.inl rfl)) _;have I:=hW.sb.trans a3;have N:Sb (λc=>c=O) W (W.setCell ⟨O,2,none⟩ (.slice d.s.a m d.s.c)):=(gE (λc=>c=O) W).set (p:=⟨O,2,none⟩) (.inr rfl) _;have ha:Agree (BL H w O d) w (W.setCell ⟨O,2,none⟩ (.slice d.s.a m d.s.c)):=λi hi=>I.block i hi.1 hi.2.1
 have a0:∀i,BL H w O d i->BL H (W.setCell ⟨O,2,none⟩ (.slice d.s.a m d.s.c)) O ⟨d.T,d.mb,d.s,d.us.take m,d.Hs.take (m+1),Cu d.us d.C m⟩ i:=λi hi=>⟨Nat.lt_of_lt_of_le hi.1 I.size,hi.2.1,hi.2.2⟩
 obtain⟨ys,a2,a7⟩:=hW.row;have a1:(d.us.take m).length=m:=by rw[au];omega
 have hC:d.Hs[m]? = some (Cu d.us d.C m):=h.hist.back h.last (d.us.length-m) m oM;have a8:=h.hist.take hm;have b3:∀b,d.mb=some b->b≠O:=λb Z e=>h.ne.1 (by rw[Z,e])
 have a5:∀(A:List UD) (C:AL SV),(∀p∈C,p.1.size<=maxLen/\Db w (BL H w O d) p.2)->(∀u∈A,u.k.size<=maxLen/\∀o,u.old=some o->Db w (BL H w O d) o)->∀p∈A.foldr Eu C,p.1.size<=maxLen/\Db w (BL H w O d) p.2:=by
  intro A C a6
  induction A with
  |nil=>intro _;exact a6
  | cons u r ih=>
    intro hA p hp;have a4:=ih λx hx=>hA x (aI _ hx)
    have hu:=hA u (aD ..);rw[List.foldr_cons,Eu]at hp;cases ho:u.old with
    |none=>rw[ho]at hp;exact a4 p (bK.1 hp).1
    | some o=>
      rw[ho]at hp;rcases NB hp with rfl|hp
      .exact ⟨hu.1,hu.2 o ho⟩
      exact a4 p hp
 refine⟨⟨?_,?_,⟨ys.take m,?_,?_,?_⟩,?_,?_,a8,?_,?_,VB h.sorted _ _,(h.tree.agree ha).mono a0,h.ok,h.ne,h.out,?_⟩,I,λb Z=>.inl Z⟩
 ·have:=hW.blk.AX 2 (.slice d.s.a m d.s.c)
  show AE _ O _ #[_,_,.slice d.s.a (d.us.take m).length d.s.c];rw[a1];exact this
 .exact hW.map.heap λb Z=>N.block b (hW.map.lt Z) (b3 b Z)
 ·show (ys.take m).length=(d.us.take m).length
  have:=a2.1;rw[a1,au];omega
 ·show World.ownsRow _ 0 _ 1 (.slice d.s.a (d.us.take m).length d.s.c) (d.us.take m).length _
  rw[a1];exact AZ (lw a2 hm) N.agree λb Z=>⟨(AM a2 Z).2,λe=>h.ne.2.1 (by rw[<-e];exact Z)⟩
 ·intro i u v hu hv
  have hu:(d.us.take m)[i]? = some u:=hu;have hi:i<m:=by have:=(ai.1 hu).1;omega
  rw[bU hi]at hu hv;rw[a7 i hi]at hv;exact((a9 i u v hu hv).agree ha).mono a0
 ·intro p hp
  have:=a5 (d.us.drop m) d.C h.vals (λu hu=>h.olds u (aS hu)) p hp;exact⟨this.1,(this.2.agree ha).mono a0⟩
 ·intro u hu
  have:=h.olds u (bj hu);exact⟨this.1,λo ho=>((this.2 o ho).agree ha).mono a0⟩
 ·show (d.Hs.take (m+1))[0]? = _
  rw[bU oM];exact h.h0
 ·show (d.Hs.take (m+1))[(d.us.take m).length]? = _
  rw[a1,bU oM];exact hC
 intro b0;exact h.some_ λe=>b0 (by show d.us.take m=[];rw[e];exact List.take_nil)
def Xc{xs:List Value}{j g b:Nat}(h:BC H w O d)(hb:d.mb=some b)(hg:d.s.a=some ⟨g,0,none⟩){u:UD}(hu:d.us[j]? = some u){W W1:AB}(hW:I1 w O d xs (j+1) W)(hm:Bj W1 (some b) (Eu u (Cu d.us d.C (j+1))))(hs:Sb (λc=>c=b) W W1) :
  I1 w O d xs j (W1.setCell ⟨g,j,none⟩ Value.nilFunc):=by
 have hj:j<d.us.length:=(ai.1 hu).1;have I:d.s.row=some g:=by rw[Sl.row,hg];rfl
 have a1:g≠b:=λe=>h.ne.2.2 b hb (by rw[I,e])
 have a4:g≠O:=λe=>h.ne.2.1 (by rw[I,e])
 have a2:b≠O:=λe=>h.ne.1 (by rw[hb,e])
 obtain⟨ys,a0,a3⟩:=hW.row;have Z:W1.ownsRow 0 1 1 (.slice d.s.a d.us.length d.s.c) d.us.length ys:=AZ a0 hs.agree λi hi=>⟨(AM a0 hi).2,λe=>a1 (by rw[I]at hi;injection hi with hi;omega)⟩
 have N:Sb (λc=>c=g) W1 (W1.setCell ⟨g,j,none⟩ Value.nilFunc):=(gE (λc=>c=g) W1).set (p:=⟨g,j,none⟩) (.inr rfl) _;refine⟨N.blk (hs.blk hW.blk λe=>a2 e.symm) λe=>a4 e.symm,?_,⟨ys.set j Value.nilFunc,?_,λi hi=>?_⟩,?_⟩
 ·rw [hb,S0 hu]
  exact hm.heap λi hi=>by
   injection hi with hi;subst hi;exact N.block b (hm.lt rfl) λe=>a1 e.symm
 ·rw [hg] at Z ⊢
  exact G1 Z hj _
 ·rw [dw oM]
  exact a3 i oM
 exact(hW.sb.trans (hs.mono λi _ e=>.inr (.inl (by rw[hb,e])))).trans (N.mono λi _ e=>.inr (.inr (by rw[I,e])))
end
def oF(P:Program)(w:AB)(a:Addr)(m:Mode):(store a Value.nilFunc m).run P w=stored P w a Value.nilFunc m:=run_store P w a _ m rfl
attribute [local go_sem] oF
variable{u:Value}
def XP{base e n c g:Nat}{xs:List Value}(h:w.ownsRow base e 1 (.slice (some g) n c) n xs){i:Nat}(hx:xs[i]? = some u):w.cell? ⟨g,i,none⟩=some u/\(n<=c/\c<=maxLen)/\g<w/\w.frozen? ⟨g,i,none⟩=false:=by
 rcases h.2 with⟨hv,h0⟩ |⟨g',a2,N,hv,a1,hg,Z,I,a0,ht⟩
 .cases hv
 injection hv with h1 h2 h3;injection h1 with h1;injection h1 with h1;subst h1 h3;have hi:i<n:=by have:=(ai.1 hx).1;have:=h.1;omega
 have hb:AE w g e N:=hg;refine⟨?_,⟨Z,I⟩,hb.lt,hb.frozen i⟩;rw[hb.cell i];rw[<-ht,bU oM]at hx;simpa using hx
def Z7(h:BC H w O d)(hn:d.us.length<=1000000){m:Nat}(hm:m<=d.us.length):Calls prog 132 #[.pointer (some O),.int .i64 (m:Int)] w (lr H O d m w):=by
 have c2:w.cell? ⟨O,2,none⟩=some (.slice d.s.a d.us.length d.s.c):=h.blk.cell 2;have lO:=h.blk.lt;obtain⟨xs,hl,a3,c8⟩:=h.row;have g0:decide ((m:Int)<0)=false:=eM oM;have g1:decide ((d.us.length:Int)<(m:Int))=false:=eM oM;have e1:decide (d.us.length<m)=false:=eM oM;have d0:I1 w O d xs d.us.length w:=⟨h.blk,by rw[Oy];exact h.map,⟨xs,a3,λ_ _=>rfl⟩,gE _ _⟩;obtain⟨I,a9,HL,b5⟩:=Ye h c8 hl d0;clear h c8 hl d0 a3;go_in;go_wp2_with fail;go_loopw[5] (λq wr=>∃(j:Nat) (i:Int),q=.int .i64 i/\i+1=(j:Int)/\m<=j/\j<=d.us.length/\I1 w O d xs j wr) (λq _=>(intOf q+1).toNat)
 case atStart=>exact⟨d.us.length,_,rfl,oM,hm,ao _,b5.o⟩
 obtain⟨j,i,rfl,c6,d8,e0,Z⟩:=hrel;by_cases d9:m<j
 ·obtain ⟨j,rfl⟩:∃ k,j=k+1:=⟨j - 1,oM⟩
  obtain rfl:i=(j:Int):=oM
  have g2:decide ((m:Int)<=(j:Int))=true:=eO oM;have hu:d.us[j]? = some d.us[j]:=ac oM;obtain⟨u,b7⟩:∃u,d.us[j]=u:=⟨_,rfl⟩;rw[b7]at hu;obtain⟨v,hv⟩:∃v,xs[j]? = some v:=⟨_,ac (by have:=HL.o;omega)⟩;obtain⟨b,hb⟩:=I.o.some_ (λe=>by rw[e]at hu;simp at hu);obtain⟨bw,bd,bo,bk,o,rfl,⟨fw,fd,fo,fk⟩,kw,kd,ho,ko,kk⟩:=a9.o j u v hu hv;obtain⟨ys,a0,b0⟩:=Z.row;have c9:ys[j]? = some (Fx bw bd bo bk):=by rw[b0 j oM];exact hv
  obtain⟨g,ha⟩:∃g,d.s.a=some ⟨g,0,none⟩:=by
   rcases a0.2 with⟨-,h0⟩ |⟨g,d5,d4,hv,-⟩
   .omega
   injection hv with h1;exact⟨g,h1⟩
  rw[ha]at a0;obtain⟨cj,⟨a5,a7⟩,lg,fj⟩:=XP a0 c9;have b2:wr.cell? ⟨O,2,none⟩=some (.slice d.s.a d.us.length d.s.c):=Z.blk.cell 2;rw[ha]at b2;have lW:=Z.blk.lt;have a1:AE wr O 158 #[Aa d.T,.map (some b),.slice d.s.a d.us.length d.s.c]:=by rw[<-hb];exact Z.blk
  have a2:Bj wr (some b) (Cu d.us d.C (j+1)):=by rw[<-hb];exact Z.map
  have a4:=Zc a1 a2 (VB I.o.sorted d.us (j+1)) (by have:=I.o.hist.short I.o.h0 _ _ (I.o.hist.back I.o.last (d.us.length -(j+1)) (j+1) oM);unfold maxLen;omega) (I.o.olds u (ap hu)).1 (Z.sb.blk kw fw.2.1) (Z.sb.blk kd fd.2.1) ho (Z.sb.blk ko fo.2.1) (Z.sb.blk kk fk.2.1);have b8:d.s.row=some g:=by rw[Sl.row,ha];rfl
  have a6:¬g=b:=λe=>I.o.ne.2.2 b hb (by rw[b8,e])
  have b9:¬O=b:=λe=>I.o.ne.1 (by rw[hb,e])
  obtain⟨HW,HU,HB,HA,b4⟩:=Yf Z hu hb ha a4;have j0:(0:Int)<=(j:Int):=oM
  have j1:(j:Int)<(d.us.length:Int):=oM
  have c7:∀W,Sb (λc=>c=b) wr W->W.frozen? ⟨g,j,none⟩=false/\W.cell? ⟨g,j,none⟩=some (Fx bw bd bo bk)/\W.cell? ⟨O,2,none⟩=some (.slice (some ⟨g,0,none⟩) d.us.length d.s.c)/\g<W:=λW hS=>
   ⟨(World.frozen?_of_block (hS.block g lg a6)).trans fj,(hS.cell lg a6).trans cj,(hS.cell lW b9).trans b2,ab lg hS.size⟩
  have FJ:=hY c7;clear Z c6 c2 hu b7 hv hb fw fd fo fk kw kd ho ko kk a0 b0 c9 ha a1 a2 a4 b8 a6 b9 c7 b5;go_wp2_with(go_at_call 189;refine(b4.o).mono ?_;rintro e w1 ⟨⟨r,rfl⟩,b6,a8⟩;obtain⟨f1,c1,b3,l1⟩:=FJ.out w1 a8;have d7:=hY b6;have d3:=hY a8;clear b6 a8 FJ);go_roundw
  case rel=>exact⟨j,(j:Int)-1,by go_num,oM,oM,oM,Xc I.o HB.o HA.o HU.o HW.o d7.o d3.o⟩
  simp[intOf]
 obtain rfl:j=m:=oM
 have g2:decide ((j:Int)<=i)=false:=eM oM;have b2:wr.cell? ⟨O,2,none⟩=some (.slice d.s.a d.us.length d.s.c):=Z.blk.cell 2;have f2:=Z.blk.frozen 2;have lW:=Z.blk.lt;have HW:=hY Z;clear Z c6 c2;have d6:(d.s.a=none/\d.us.length=0/\d.s.c=0)\/∃g,d.s.a=some ⟨g,0,none⟩/\d.us.length<=d.s.c/\d.s.c<=maxLen:=by
  obtain⟨ys,a0,-⟩:=HW.o.row;rcases a0.2 with⟨hv,h0⟩ |⟨g,d5,d4,hv,-,-,a5,a7,-⟩
  ·injection hv with h1 h2 h3
   exact .inl ⟨h1,h0,h3⟩
  injection hv with h1 h2 h3;exact .inr ⟨g,h1,by rw[h3];exact a5,by rw[h3];exact a7⟩
 rcases d6 with⟨ha,hz,hc⟩ |⟨g,ha,a5,a7⟩
 ·obtain rfl:j=0:=oM
  obtain⟨HA,HC,HZ⟩:=Yc ha hc hz;rw[ha,hz,hc]at b2;clear ha hc hz;have g3:decide ((0:Int)<=i)=false:=g2;go_wp2_with fail;refine eU (v:=.int .i64 0) (by simp[results,results132,go_sem]) rfl ?_;have N:=Sx hm I.o HL.o a9.o HW.o;rw[HA.o,HC.o]at N;exact⟨rfl,N⟩
 rw[ha]at b2;have HA:=hY ha;clear ha;have k0:(0:Int)<=(j:Int):=oM
 have k1:(j:Int)<=(d.s.c:Int):=oM
 go_wp2_with fail;refine eU (v:=.int .i64 0) (by simp[results,results132,go_sem]) rfl ?_;have N:=Sx hm I.o HL.o a9.o HW.o;rw[HA.o]at N;exact⟨rfl,N⟩
end Go.Proofs.YtahhllcdbjbpbaaGreatDoor
namespace Go.Proofs.YtahhllcdbjbpbaaGreatDoor
open Go.Proofs.Tryz
open Go.RowKit Go.Maps Go.Shelf
structure BD(H:Nat->Prop)(w:AB)(O:Nat)(d:OD)(M:List AD):Prop where
 ov:BC H w O d
 rel:Cq (AG d.T) (CZ d.C) M
structure Ar(H:Nat->Prop)(w:AB)(O:Nat)(d:OD)(M':List AD)(n:Nat)(w':AB)(d':OD):Prop where
 go:EK H w O d d' w'
 T:d'.T=d.T
 rel:Cq (AG d.T) (CZ d'.C) M'
 us:d.us <+: d'.us
 hs:d.Hs <+: d'.Hs
 few:d'.us.length<=d.us.length+n
section
variable{H : Nat -> Prop}{w w' w1 w2 : AB}{O : Nat}{d d' d1 d2 : OD}{M M1 M2 : List AD}{n m : Nat}
def Ar.at_(h:Ar H w O d M1 n w1 d1):BD H w1 O d1 M1:=⟨h.go.at_,by rw[h.T];exact h.rel⟩
def BD.nw(h:BD H w O d M)(k:Nw w w'):BD H w' O d M:=⟨h.ov.nw k,h.rel⟩
def Ar.more(h:Ar H w O d M1 n w1 d1)(k:n<=m):Ar H w O d M1 m w1 d1:=⟨h.go,h.T,h.rel,h.us,h.hs,an h.few oM⟩
def Ar.trans(h:Ar H w O d M1 n w1 d1)(k:Ar H w1 O d1 M2 m w2 d2):Ar H w O d M2 (n+m) w2 d2:=
 ⟨⟨k.go.at_,h.go.sb.comp k.go.sb λi hi e=>(h.go.new i e).elim id λh2=>oM,λb I=>(k.go.new b I).elim (h.go.new b) λh2=>.inr (an h.go.sb.size h2)⟩,k.T.trans h.T,by have:=k.rel;rwa[h.T]at this,h.us.trans k.us,h.hs.trans k.hs,by have:=h.few;have:=k.few;omega⟩
def Ar.since(k:Nw w w1)(h:Ar H w1 O d M1 n w2 d1):Ar H w O d M1 n w2 d1:=
 ⟨⟨h.go.at_,(k.any _).trans h.go.sb,λb I=>(h.go.new b I).imp id (an k.size)⟩,h.T,h.rel,h.us,h.hs,h.few⟩
def BD.stay(h:BD H w O d M)(k:Nw w w'):Ar H w O d M n w' d:=⟨⟨h.ov.nw k,k.any _,λb I=>.inl I⟩,rfl,h.rel,dV _,dV _,dA _ _⟩
def BD.now(h:BD H w O d M)(k:AA):d.now k=AH M k:=h.rel.now k
def BD.VK(h:BD H w O d M){k:AA}{sv:SV}{mb:Option Nat}{s:Sl}(I:EK H w O d (d.step k sv mb s) w')(N:Cq (AG d.T) (CZ (BG d.C k sv)) M1):Ar H w O d M1 1 w' (d.step k sv mb s):=
 ⟨I,rfl,N,List.prefix_append _ _,List.prefix_append _ _,by show(d.us++_).length<=_;rw[aj];exact ao _⟩
def Ij(h:BD H w O d M)(N:(AG d.T).length<=1000000){k:AA}(I:k.size<=maxLen) :
  Calls prog 163 #[.pointer (some O),k] w (Dn (AH M k) w):=by
 have:=SB h.ov N I;rw[h.now k]at this;exact this
def E5(h:BD H w O d M)(hH:∀b,H b->b<w.heap.size)(hn:d.us.length<=1000000){k:AA}(hk:k.size<=maxLen){v:Val}{sl so:Sl}(hv:RV w (Lt w) v sl so)(hc:Ah v<=1100000)(hL:Aw w) :
  Calls prog 133 #[.pointer (some O),k,AS v sl so] w λe w'=>e=.returned (.int .i64 (setMu M k v).1)/\∃d',Ar H w O d (setMu M k v).2 1 w' d':=
 (lP h.ov hH hn hk hv hc hL).mono λe w' ⟨he,hp⟩=>by
   have N:(setMu M k v).1=EL k v:=by
    unfold setMu EL;split
    .rfl
    split
    .rfl
    rename_i Z;simpa using(fJ.1 Z).symm
   refine⟨by rw[he,N],?_⟩;rcases hp with⟨I,a0,a1,mb,s,ht⟩ |⟨I,hq⟩
   ·have hm:AT k=0:=by
     unfold EL at I;by_cases h1:AT k=0
     .exact h1
     rw[eN h1]at I;cases I
    have Z:AY v=0:=by
     unfold EL at I;rwa[eL (by simp[hm])]at I
    have hs:(setMu M k v).2=AU M k v:=by
     unfold setMu;rw[eL (by simp[hm]),eL (by simp[Z])]
    rw[hs];exact⟨_,h.VK ht (h.rel.put hm ⟨hv.wf,Z⟩ (O1 (Gm h.ov.sorted _ _)) λx=>Vd d.C k _ x)⟩
   have hs:(setMu M k v).2=M:=by
    unfold setMu;unfold EL at I;by_cases h1:AT k=0
    ·rw [eL (by simp [h1])] at I
     rw[eL (by simp[h1]),eN I]
    rw[eN h1]
   rw[hs];exact⟨d,h.stay hq⟩
def MJ(h:BD H w O d M)(hH:∀b,H b->b<w.heap.size)(hn:d.us.length<=1000000)(hl:(AG d.T).length<=1000000){k:AA}(hk:k.size<=maxLen) :
  Calls prog 134 #[.pointer (some O),k] w λe w'=>e=.returned (.bool (AH M k).isSome)/\∃d',Ar H w O d (Ac M k) 1 w' d':=
 (WG h.ov hH hn hl hk).mono λe w' ⟨Z,hp⟩=>by
   rw[h.now k]at Z hp;refine⟨Z,?_⟩;rcases hp with⟨I,hq⟩ |⟨I,mb,s,ht⟩
   ·have hd:Ac M k=M:=by
     refine Jc (EI h.rel.ok.sorted k) h.rel.ok.sorted λx=>?_
     rw[Fw _ _ _ h.rel.ok.sorted];by_cases N:x=k
     ·rw [eN N,N]
      cases hg:AH M k with
      |none=>rfl
      |some y=>rw[hg]at I;cases I
     rw[eL N]
    rw[hd];exact⟨d,h.stay hq⟩
   exact⟨_,h.VK ht (h.rel.del (O1 (Gm h.ov.sorted _ _)) λx=>Vd d.C k _ x)⟩
def pz(h:BD H w O d M)(g:Ar H w O d M1 n w1 d1)(hn:d1.us.length<=1000000) :
  Calls prog 132 #[.pointer (some O),.int .i64 (d.us.length:Int)] w1 λe w'=>e=.returned (.int .i64 0)/\∃d2,Ar H w O d M 0 w' d2/\d2.us=d.us:=
 (Z7 g.go.at_ hn (m:=d.us.length) g.us.length_le).mono λe w' ⟨he,I⟩=>by
   have hu:d1.us.take d.us.length=d.us:=(cO.1 g.us).symm;have N:d.Hs.length=d.us.length+1:=h.ov.hist.len;have hh:d1.Hs.take (d.us.length+1)=d.Hs:=by rw[<-N];exact(cO.1 g.hs).symm
   have Z:Cu d1.us d1.C d.us.length=d.C:=by
    have h1:=g.go.at_.hist.back g.go.at_.last (d1.us.length-d.us.length) d.us.length (by have:=g.us.length_le;omega);obtain⟨t,I⟩:=g.hs;rw[<-I,bu oM,h.ov.last]at h1;injection h1 with h1;exact h1.symm
   refine⟨he,⟨d1.T,d1.mb,d1.s,d1.us.take d.us.length,d1.Hs.take (d.us.length+1),Cu d1.us d1.C d.us.length⟩,⟨⟨I.at_,g.go.sb.comp I.sb λi hi e=>(g.go.new i e).elim id λh2=>oM,λb hb=>(I.new b hb).elim (g.go.new b) λh2=>.inr (an g.go.sb.size h2)⟩,g.T,?_,?_,?_,?_⟩,hu⟩
   ·show Cq _ (CZ (Cu d1.us d1.C d.us.length)) M
    rw[Z];exact h.rel
   ·show d.us <+: d1.us.take d.us.length
    rw[hu];exact dV _
   ·show d.Hs <+: d1.Hs.take (d.us.length+1)
    rw[hh];exact dV _
   show(d1.us.take d.us.length).length<=_;rw[hu];exact ao _
def Xb{B:List AD}{C:Slots}(h:Cq B C B):idleC B C:=λk s I=>by
 have h1:=h.now k;rw[DX,I]at h1;cases s with
 |none=>exact h1.symm
 | some v=>
   show(AH B k).any _=true;rw[<-h1];simp[FA]
def np(h:BD H w O d M)(N:(AG d.T).length+d.C.length<=1000000) :
  Calls prog 71 #[.pointer (some O)] w λe w'=>∃T',e=.returned (AO T')/\Am T'/\AV w' (Up (BL H w O d) w w') T'/\AG T'=M/\Nw w w'/\(M=AG d.T->T'=d.T):=
 (oA h.ov N).mono λe w' ⟨T',he,ok,hT,hen,hn,hi⟩=>⟨T',he,ok,hT,hen.trans h.rel.com,hn,λI=>hi (Xb (by have:=h.rel;rwa[I]at this))⟩
end
def Ou{q:Int}(h:(Lit.int .i64 q).wf=true) : -9223372036854775808<=q/\q<=9223372036854775807:=by
 have h1:IntKind.i64.min = -9223372036854775808:=oN
 have h2:IntKind.i64.max=9223372036854775807:=oN
 simp[Lit.wf,h1,h2]at h;omega
variable{w:AB}{F:Nat->Prop}{sl so:Sl}
def RV.int{d:Val}(h:RV w F d sl so) : -9223372036854775808<=d.i/\d.i<=9223372036854775807:=by
 cases h with
 |mk bl fl bo fo cl co hl ho hov el rl ek eo ro bk bi bt nl no=>exact Ou bi
variable{H:Nat->Prop}{O:Nat}{d:OD}{M:List AD}{c:AR}
def UB{m:Mu}(h:BD H w O d M)(hl:(AG d.T).length<=1000000)(hm:AK w (Lt w) m c) :
  Calls prog 139 #[.pointer (some O),Ap m c] w λe w'=>e=.returned (asM M m.k m.had m.was)/\Ext w w':=by
 obtain⟨w1,w2,v1,v2,s⟩:=c;cases hm with
 |@mk kd k tk i a5 was has v l _ bl fl cl rw_ rv hl' el rl bk bt bkd bi nl=>
 show Calls _ _ #[_,.agg #[kd,k,tk,i,a5,was.kind,was.b,was.i,was.t,.slice w1.a was.l.length w1.c,.slice w2.a was.ok.length w2.c,has,v.kind,v.b,v.i,v.t,.slice v1.a v.l.length v1.c,.slice v2.a v.ok.length v2.c,.slice s.a l.length s.c]] _ λe w'=>e=.returned (asM M k a5 was)/\Ext w w'
 have a8:=(gz w).alloc #[.int .i64 kd,.string k,.string tk,.int .i64 i,.bool a5,.int .i64 was.kind,.bool was.b,.int .i64 was.i,.string was.t,.slice w1.a was.l.length w1.c,.slice w2.a was.ok.length w2.c,.bool has,.int .i64 v.kind,.bool v.b,.int .i64 v.i,.string v.t,.slice v1.a v.l.length v1.c,.slice v2.a v.ok.length v2.c,.slice s.a l.length s.c] 59;have a0:=Ij (h.nw (gA a8)) hl bk;obtain⟨RW,a4,a6⟩:=Yc rw_ a8 (gB w 59 #[.int .i64 kd,.string k,.string tk,.int .i64 i,.bool a5,.int .i64 was.kind,.bool was.b,.int .i64 was.i,.string was.t,.slice w1.a was.l.length w1.c,.slice w2.a was.ok.length w2.c,.bool has,.int .i64 v.kind,.bool v.b,.int .i64 v.i,.string v.t,.slice v1.a v.l.length v1.c,.slice v2.a v.ok.length v2.c,.slice s.a l.length s.c]);clear a8 h rw_ rv hl' el rl bk bt bkd bi nl;cases hg:AH M k with
 | none=>
   rw[hg]at a0;cases a5 with
   | false=>
     have Z:asM M k false was=(true):=by unfold asM;rw[hg];rfl
     rw[Z];have a2:=hY a0;clear Z a0 hg;go_in;go_wp2_with fail;refine a2.o.mono ?_;rintro e W1 ⟨sl,so,rfl,N,a3⟩;have I:=a6.o.ext N;have c4:W1.cell? ⟨w,4,none⟩=some (.bool false):=I.cell 4;have c5:W1.cell? ⟨w,5,none⟩=some (.int .i64 was.kind):=I.cell 5;have c6:W1.cell? ⟨w,5+1,none⟩=some (.bool was.b):=I.cell 6;have c7:W1.cell? ⟨w,5+2,none⟩=some (.int .i64 was.i):=I.cell 7;have c8:W1.cell? ⟨w,5+3,none⟩=some (.string was.t):=I.cell 8;have c9:W1.cell? ⟨w,5+4,none⟩=some (.slice w1.a was.l.length w1.c):=I.cell 9;have a7:W1.cell? ⟨w,5+5,none⟩=some (.slice w2.a was.ok.length w2.c):=I.cell 10;have l1:=I.lt;have a1:Ext W1 (W1.alloc (.cells #[zeroV.kind,zeroV.b,zeroV.i,zeroV.t,.slice sl.a zeroV.l.length sl.c,.slice so.a zeroV.ok.length so.c] 54)):=(gz W1).alloc _ _;have HX:=hY ((a4.o.trans N).trans a1);clear N a3 I a1;go_wp2_with fail;go_ret;exact⟨rfl,HX.o⟩
   | true=>
     have Z:asM M k true was=(false):=by unfold asM;rw[hg];rfl
     rw[Z];have a2:=hY a0;clear Z a0 hg;go_in;go_wp2_with fail;refine a2.o.mono ?_;rintro e W1 ⟨sl,so,rfl,N,a3⟩;have I:=a6.o.ext N;have c4:W1.cell? ⟨w,4,none⟩=some (.bool true):=I.cell 4;have c5:W1.cell? ⟨w,5,none⟩=some (.int .i64 was.kind):=I.cell 5;have c6:W1.cell? ⟨w,5+1,none⟩=some (.bool was.b):=I.cell 6;have c7:W1.cell? ⟨w,5+2,none⟩=some (.int .i64 was.i):=I.cell 7;have c8:W1.cell? ⟨w,5+3,none⟩=some (.string was.t):=I.cell 8;have c9:W1.cell? ⟨w,5+4,none⟩=some (.slice w1.a was.l.length w1.c):=I.cell 9;have a7:W1.cell? ⟨w,5+5,none⟩=some (.slice w2.a was.ok.length w2.c):=I.cell 10;have l1:=I.lt;have a1:Ext W1 (W1.alloc (.cells #[zeroV.kind,zeroV.b,zeroV.i,zeroV.t,.slice sl.a zeroV.l.length sl.c,.slice so.a zeroV.ok.length so.c] 54)):=(gz W1).alloc _ _;have HX:=hY ((a4.o.trans N).trans a1);clear N a3 I a1;go_wp2_with fail;go_ret;exact⟨rfl,HX.o⟩
 | some x=>
   rw[hg]at a0;cases a5 with
   | false=>
     have Z:asM M k false was=(false):=by unfold asM;rw[hg];rfl
     rw[Z];have a2:=hY a0;clear Z a0 hg;go_in;go_wp2_with fail;refine a2.o.mono ?_;rintro e W1 ⟨sl,so,rfl,N,a3⟩;have I:=a6.o.ext N;have c4:W1.cell? ⟨w,4,none⟩=some (.bool false):=I.cell 4;have c5:W1.cell? ⟨w,5,none⟩=some (.int .i64 was.kind):=I.cell 5;have c6:W1.cell? ⟨w,5+1,none⟩=some (.bool was.b):=I.cell 6;have c7:W1.cell? ⟨w,5+2,none⟩=some (.int .i64 was.i):=I.cell 7;have c8:W1.cell? ⟨w,5+3,none⟩=some (.string was.t):=I.cell 8;have c9:W1.cell? ⟨w,5+4,none⟩=some (.slice w1.a was.l.length w1.c):=I.cell 9;have a7:W1.cell? ⟨w,5+5,none⟩=some (.slice w2.a was.ok.length w2.c):=I.cell 10;have l1:=I.lt;have a1:Ext W1 (W1.alloc (.cells #[x.kind,x.b,x.i,x.t,.slice sl.a x.l.length sl.c,.slice so.a x.ok.length so.c] 54)):=(gz W1).alloc _ _;have HX:=hY ((a4.o.trans N).trans a1);clear N a3 I a1;go_wp2_with fail;go_ret;exact⟨rfl,HX.o⟩
   | true=>
     have Z:asM M k true was=(decide (AW x was=0)):=by unfold asM;rw[hg];rfl
     rw[Z];have a2:=hY a0;clear Z a0 hg;go_in;go_wp2_with fail;refine a2.o.mono ?_;rintro e W1 ⟨sl,so,rfl,N,a3⟩;have I:=a6.o.ext N;have c4:W1.cell? ⟨w,4,none⟩=some (.bool true):=I.cell 4;have c5:W1.cell? ⟨w,5,none⟩=some (.int .i64 was.kind):=I.cell 5;have c6:W1.cell? ⟨w,5+1,none⟩=some (.bool was.b):=I.cell 6;have c7:W1.cell? ⟨w,5+2,none⟩=some (.int .i64 was.i):=I.cell 7;have c8:W1.cell? ⟨w,5+3,none⟩=some (.string was.t):=I.cell 8;have c9:W1.cell? ⟨w,5+4,none⟩=some (.slice w1.a was.l.length w1.c):=I.cell 9;have a7:W1.cell? ⟨w,5+5,none⟩=some (.slice w2.a was.ok.length w2.c):=I.cell 10;have l1:=I.lt;have a1:Ext W1 (W1.alloc (.cells #[x.kind,x.b,x.i,x.t,.slice sl.a x.l.length sl.c,.slice so.a x.ok.length so.c] 54)):=(gz W1).alloc _ _;have HX:=hY ((a4.o.trans N).trans a1);have a9:=MO (w:=W1.alloc (.cells #[x.kind,x.b,x.i,x.t,.slice sl.a x.l.length sl.c,.slice so.a x.ok.length so.c] 54)) ((a3.agree (a1.agree λb hb=>hb.2)).mono λb hb=>ab hb.2 a1.size) ((RW.out.agree (((a4.o.trans N).trans a1).agree λ_ h=>h)).mono λb hb=>ab hb ((a4.o.trans N).trans a1).size);have b4:=hY a9;clear a9;clear N a3 I a1;go_wp2_with fail;refine b4.o.mono ?_;rintro e W3 ⟨rfl,b0⟩;have b3:=hY (HX.o.trans b0);clear b0;go_wp2_with fail;go_ret;exact⟨rfl,b3.o⟩
def Mv{n b:Int}(N : -9223372036854775808<=n/\n<=9223372036854775807)(I : -9223372036854775808<=b/\b<=9223372036854775807) :
  ((0<b/\9223372036854775807-b<n)->wrap64 (n+b)<n)/\((b<0/\n < -9223372036854775808-b)->n<wrap64 (n+b))/\(¬((0<b/\9223372036854775807-b<n)\/(b<0/\n < -9223372036854775808-b))->wrap64 (n+b)=n+b):=by
 unfold wrap64;refine⟨λh=>?_,λh=>?_,λh=>?_⟩<;>omega
def ic{k:AA}{by_:Int}{x:Val}(I:AH M k=some x)(h:x.kind≠3):A' M k by_=(9,M):=by
 unfold A';rw[I];exact eN h
def kP{k:AA}{by_:Int}(h:BD H w O d M)(hH:∀b,H b->b<w.heap.size)(hn:d.us.length<=1000000)(hl:(AG d.T).length<=1000000)(b0:k.size<=maxLen)
  (c6 : -9223372036854775808<=by_/\by_<=9223372036854775807) (hL:Aw w) :
  Calls prog 135 #[.pointer (some O),k,by_] w λe w'=>e=.returned (.int .i64 (A' M k by_).1)/\∃d',Ar H w O d (A' M k by_).2 1 w' d':=by
 have a6:=Ij h hl b0;obtain⟨HH,HL⟩:=Yb h hL;obtain⟨r,hr⟩:∃r,A' M k by_=r:=⟨_,rfl⟩;rw[hr];have HR:=hY hr;clear h hL hl hr;cases hg:AH M k with
 | none=>
   rw[hg]at a6;obtain⟨HG,b4⟩:=Yb hg a6;clear hg a6;go_in;go_wp2_with fail;refine b4.o.mono ?_;rintro e W1 ⟨sl,so,rfl,a9,b5⟩;have a8:Ext W1 (W1.alloc (.cells #[zeroV.kind,.bool zeroV.b,zeroV.i,zeroV.t,.slice sl.a zeroV.l.length sl.c,.slice so.a zeroV.ok.length so.c] 54)):=(gz W1).alloc _ _;obtain⟨HX,a4⟩:=Yb (a9.trans a8) (Mv (n:=zeroV.i) (b:=by_) oN c6);clear a9 a8 b5;by_cases hs:0<by_/\9223372036854775807-by_<zeroV.i
   ·skip
    have f1:(0:Int)<by_:=hs.1;have f2:wrap64 (zeroV.i+by_)<zeroV.i:=a4.o.1 hs;have a7:decide ((0:Int)<by_)=true:=eO f1;have b8:decide (wrap64 (zeroV.i+by_)<zeroV.i)=true:=eO f2;have N:A' M k by_=(7,M):=by unfold A';rw[HG.o];exact eN (.inl hs)
    have I:=hY (HR.o.symm.trans N);clear hs N;go_wp2_with fail;go_ret;exact⟨by rw[I.o]<;>rfl,d,by rw[I.o];exact HH.o.stay (gA HX.o)⟩
   by_cases hs:by_<0/\zeroV.i < -9223372036854775808-by_
   ·skip
    have f1:¬(0:Int)<by_:=oM
    have f3:by_<0:=hs.1;have f4:zeroV.i<wrap64 (zeroV.i+by_):=a4.o.2.1 hs;have a7:decide ((0:Int)<by_)=false:=eM f1;have b3:decide (by_<0)=true:=eO f3;have b9:decide (zeroV.i<wrap64 (zeroV.i+by_))=true:=eO f4;have N:A' M k by_=(7,M):=by unfold A';rw[HG.o];exact eN (.inr hs)
    have I:=hY (HR.o.symm.trans N);clear hs N;go_wp2_with fail;go_ret;exact⟨by rw[I.o]<;>rfl,d,by rw[I.o];exact HH.o.stay (gA HX.o)⟩
   have a0:¬((0<by_/\9223372036854775807-by_<zeroV.i)\/(by_<0/\zeroV.i < -9223372036854775808-by_)):=oM
   by_cases hs:0<by_
   ·skip
    have f1:(0:Int)<by_:=hs;have f3:¬by_<0:=oM
    have f2:¬wrap64 (zeroV.i+by_)<zeroV.i:=by rw[a4.o.2.2 a0];omega
    have a7:decide ((0:Int)<by_)=true:=eO f1;have b3:decide (by_<0)=false:=eM f3;have b8:decide (wrap64 (zeroV.i+by_)<zeroV.i)=false:=eM f2;have hw:wrap64 (zeroV.i+by_)=(0:Int)+by_:=a4.o.2.2 a0;have N:A' M k by_=setMu M k (CP (wrap64 (zeroV.i+by_))):=by unfold A';rw[HG.o,hw];exact eL a0
    have a2 : -9223372036854775808<=wrap64 (zeroV.i+by_)/\wrap64 (zeroV.i+by_)<=9223372036854775807:=by unfold wrap64;omega
    have I:=hY (HR.o.symm.trans N);have Z:=E5 (v:=CP (wrap64 (zeroV.i+by_))) (sl:=Sl.none) (so:=Sl.none) (HH.o.nw (gA HX.o)) (λb hb=>ab (hH b hb) HX.o.size) hn b0 (RV.flat _ _ _ _ _ _ oN (WalkArith.wf_i64 a2) oN) (show 7+0+0+0<=1100000 by decide) (HL.o.nw (gA HX.o));have a1:=hY Z;clear hs hw N a2 Z a0;go_wp2_with fail;refine a1.o.mono ?_;rintro e w2 ⟨rfl,d',a3⟩;have a5:=hY (a3.since (gA HX.o));clear a3;go_wp2_with fail;go_ret;exact⟨by rw[I.o]<;>rfl,d',by rw[I.o];exact a5.o⟩
   by_cases hs:by_<0
   ·skip
    have f1:¬(0:Int)<by_:=oM
    have f3:by_<0:=hs;have f4:¬zeroV.i<wrap64 (zeroV.i+by_):=by rw[a4.o.2.2 a0];omega
    have a7:decide ((0:Int)<by_)=false:=eM f1;have b3:decide (by_<0)=true:=eO f3;have b9:decide (zeroV.i<wrap64 (zeroV.i+by_))=false:=eM f4;have hw:wrap64 (zeroV.i+by_)=(0:Int)+by_:=a4.o.2.2 a0;have N:A' M k by_=setMu M k (CP (wrap64 (zeroV.i+by_))):=by unfold A';rw[HG.o,hw];exact eL a0
    have a2 : -9223372036854775808<=wrap64 (zeroV.i+by_)/\wrap64 (zeroV.i+by_)<=9223372036854775807:=by unfold wrap64;omega
    have I:=hY (HR.o.symm.trans N);have Z:=E5 (v:=CP (wrap64 (zeroV.i+by_))) (sl:=Sl.none) (so:=Sl.none) (HH.o.nw (gA HX.o)) (λb hb=>ab (hH b hb) HX.o.size) hn b0 (RV.flat _ _ _ _ _ _ oN (WalkArith.wf_i64 a2) oN) (show 7+0+0+0<=1100000 by decide) (HL.o.nw (gA HX.o));have a1:=hY Z;clear hs hw N a2 Z a0;go_wp2_with fail;refine a1.o.mono ?_;rintro e w2 ⟨rfl,d',a3⟩;have a5:=hY (a3.since (gA HX.o));clear a3;go_wp2_with fail;go_ret;exact⟨by rw[I.o]<;>rfl,d',by rw[I.o];exact a5.o⟩
   have f1:¬(0:Int)<by_:=oM
   have f3:¬by_<0:=oM
   have a7:decide ((0:Int)<by_)=false:=eM f1;have b3:decide (by_<0)=false:=eM f3;have hw:wrap64 (zeroV.i+by_)=(0:Int)+by_:=a4.o.2.2 a0;have N:A' M k by_=setMu M k (CP (wrap64 (zeroV.i+by_))):=by unfold A';rw[HG.o,hw];exact eL a0
   have a2 : -9223372036854775808<=wrap64 (zeroV.i+by_)/\wrap64 (zeroV.i+by_)<=9223372036854775807:=by unfold wrap64;omega
   have I:=hY (HR.o.symm.trans N);have Z:=E5 (v:=CP (wrap64 (zeroV.i+by_))) (sl:=Sl.none) (so:=Sl.none) (HH.o.nw (gA HX.o)) (λb hb=>ab (hH b hb) HX.o.size) hn b0 (RV.flat _ _ _ _ _ _ oN (WalkArith.wf_i64 a2) oN) (show 7+0+0+0<=1100000 by decide) (HL.o.nw (gA HX.o));have a1:=hY Z;clear hs hw N a2 Z a0;go_wp2_with fail;refine a1.o.mono ?_;rintro e w2 ⟨rfl,d',a3⟩;have a5:=hY (a3.since (gA HX.o));clear a3;go_wp2_with fail;go_ret;exact⟨by rw[I.o]<;>rfl,d',by rw[I.o];exact a5.o⟩
 | some x=>
   rw[hg]at a6;obtain⟨HG,b4⟩:=Yb hg a6;clear hg a6;by_cases b6:x.kind=3
   ·have gk:(x.kind != 3)=false:=by simp [b6]
    have b7:=hY b6;clear b6;go_in;go_wp2_with fail;refine b4.o.mono ?_;rintro e W1 ⟨sl,so,rfl,a9,b5⟩;have a8:Ext W1 (W1.alloc (.cells #[x.kind,.bool x.b,x.i,x.t,.slice sl.a x.l.length sl.c,.slice so.a x.ok.length so.c] 54)):=(gz W1).alloc _ _;obtain⟨HX,a4⟩:=Yb (a9.trans a8) (Mv (n:=x.i) (b:=by_) b5.rv.int c6);clear a9 a8 b5;by_cases hs:0<by_/\9223372036854775807-by_<x.i
    ·skip
     have f1:(0:Int)<by_:=hs.1;have f2:wrap64 (x.i+by_)<x.i:=a4.o.1 hs;have a7:decide ((0:Int)<by_)=true:=eO f1;have b8:decide (wrap64 (x.i+by_)<x.i)=true:=eO f2;have N:A' M k by_=(7,M):=by unfold A';rw[HG.o];dsimp only;rw[eL (by simp[b7.o])];exact eN (.inl hs)
     have I:=hY (HR.o.symm.trans N);clear hs N;go_wp2_with fail;go_ret;exact⟨by rw[I.o]<;>rfl,d,by rw[I.o];exact HH.o.stay (gA HX.o)⟩
    by_cases hs:by_<0/\x.i < -9223372036854775808-by_
    ·skip
     have f1:¬(0:Int)<by_:=oM
     have f3:by_<0:=hs.1;have f4:x.i<wrap64 (x.i+by_):=a4.o.2.1 hs;have a7:decide ((0:Int)<by_)=false:=eM f1;have b3:decide (by_<0)=true:=eO f3;have b9:decide (x.i<wrap64 (x.i+by_))=true:=eO f4;have N:A' M k by_=(7,M):=by unfold A';rw[HG.o];dsimp only;rw[eL (by simp[b7.o])];exact eN (.inr hs)
     have I:=hY (HR.o.symm.trans N);clear hs N;go_wp2_with fail;go_ret;exact⟨by rw[I.o]<;>rfl,d,by rw[I.o];exact HH.o.stay (gA HX.o)⟩
    have a0:¬((0<by_/\9223372036854775807-by_<x.i)\/(by_<0/\x.i < -9223372036854775808-by_)):=oM
    by_cases hs:0<by_
    ·skip
     have f1:(0:Int)<by_:=hs;have f3:¬by_<0:=oM
     have f2:¬wrap64 (x.i+by_)<x.i:=by rw[a4.o.2.2 a0];omega
     have a7:decide ((0:Int)<by_)=true:=eO f1;have b3:decide (by_<0)=false:=eM f3;have b8:decide (wrap64 (x.i+by_)<x.i)=false:=eM f2;have hw:wrap64 (x.i+by_)=x.i+by_:=a4.o.2.2 a0;have N:A' M k by_=setMu M k (CP (wrap64 (x.i+by_))):=by unfold A';rw[HG.o,hw];dsimp only;rw[eL (by simp[b7.o])];exact eL a0
     have a2 : -9223372036854775808<=wrap64 (x.i+by_)/\wrap64 (x.i+by_)<=9223372036854775807:=by unfold wrap64;omega
     have I:=hY (HR.o.symm.trans N);have Z:=E5 (v:=CP (wrap64 (x.i+by_))) (sl:=Sl.none) (so:=Sl.none) (HH.o.nw (gA HX.o)) (λb hb=>ab (hH b hb) HX.o.size) hn b0 (RV.flat _ _ _ _ _ _ oN (WalkArith.wf_i64 a2) oN) (show 7+0+0+0<=1100000 by decide) (HL.o.nw (gA HX.o));have a1:=hY Z;clear hs hw N a2 Z a0;go_wp2_with fail;refine a1.o.mono ?_;rintro e w2 ⟨rfl,d',a3⟩;have a5:=hY (a3.since (gA HX.o));clear a3;go_wp2_with fail;go_ret;exact⟨by rw[I.o]<;>rfl,d',by rw[I.o];exact a5.o⟩
    by_cases hs:by_<0
    ·skip
     have f1:¬(0:Int)<by_:=oM
     have f3:by_<0:=hs;have f4:¬x.i<wrap64 (x.i+by_):=by rw[a4.o.2.2 a0];omega
     have a7:decide ((0:Int)<by_)=false:=eM f1;have b3:decide (by_<0)=true:=eO f3;have b9:decide (x.i<wrap64 (x.i+by_))=false:=eM f4;have hw:wrap64 (x.i+by_)=x.i+by_:=a4.o.2.2 a0;have N:A' M k by_=setMu M k (CP (wrap64 (x.i+by_))):=by unfold A';rw[HG.o,hw];dsimp only;rw[eL (by simp[b7.o])];exact eL a0
     have a2 : -9223372036854775808<=wrap64 (x.i+by_)/\wrap64 (x.i+by_)<=9223372036854775807:=by unfold wrap64;omega
     have I:=hY (HR.o.symm.trans N);have Z:=E5 (v:=CP (wrap64 (x.i+by_))) (sl:=Sl.none) (so:=Sl.none) (HH.o.nw (gA HX.o)) (λb hb=>ab (hH b hb) HX.o.size) hn b0 (RV.flat _ _ _ _ _ _ oN (WalkArith.wf_i64 a2) oN) (show 7+0+0+0<=1100000 by decide) (HL.o.nw (gA HX.o));have a1:=hY Z;clear hs hw N a2 Z a0;go_wp2_with fail;refine a1.o.mono ?_;rintro e w2 ⟨rfl,d',a3⟩;have a5:=hY (a3.since (gA HX.o));clear a3;go_wp2_with fail;go_ret;exact⟨by rw[I.o]<;>rfl,d',by rw[I.o];exact a5.o⟩
    have f1:¬(0:Int)<by_:=oM
    have f3:¬by_<0:=oM
    have a7:decide ((0:Int)<by_)=false:=eM f1;have b3:decide (by_<0)=false:=eM f3;have hw:wrap64 (x.i+by_)=x.i+by_:=a4.o.2.2 a0;have N:A' M k by_=setMu M k (CP (wrap64 (x.i+by_))):=by unfold A';rw[HG.o,hw];dsimp only;rw[eL (by simp[b7.o])];exact eL a0
    have a2 : -9223372036854775808<=wrap64 (x.i+by_)/\wrap64 (x.i+by_)<=9223372036854775807:=by unfold wrap64;omega
    have I:=hY (HR.o.symm.trans N);have Z:=E5 (v:=CP (wrap64 (x.i+by_))) (sl:=Sl.none) (so:=Sl.none) (HH.o.nw (gA HX.o)) (λb hb=>ab (hH b hb) HX.o.size) hn b0 (RV.flat _ _ _ _ _ _ oN (WalkArith.wf_i64 a2) oN) (show 7+0+0+0<=1100000 by decide) (HL.o.nw (gA HX.o));have a1:=hY Z;clear hs hw N a2 Z a0;go_wp2_with fail;refine a1.o.mono ?_;rintro e w2 ⟨rfl,d',a3⟩;have a5:=hY (a3.since (gA HX.o));clear a3;go_wp2_with fail;go_ret;exact⟨by rw[I.o]<;>rfl,d',by rw[I.o];exact a5.o⟩
   have gk:(x.kind != 3)=true:=by simp[b6]
   have I:=hY (HR.o.symm.trans (ic HG.o b6));clear b6;go_in;go_wp2_with fail;refine b4.o.mono ?_;rintro e W1 ⟨sl,so,rfl,a9,b5⟩;have a8:Ext W1 (W1.alloc (.cells #[x.kind,.bool x.b,x.i,x.t,.slice sl.a x.l.length sl.c,.slice so.a x.ok.length so.c] 54)):=(gz W1).alloc _ _;have HX:=hY (a9.trans a8);clear a9 a8 b5;go_wp2_with fail;go_ret;exact⟨by rw[I.o]<;>rfl,d,by rw[I.o];exact HH.o.stay (gA HX.o)⟩
abbrev fK:=@wpList_store_mid
abbrev ga:=@World.rangeAt_setCells_same
abbrev BS(m:Mu)(c:AR):Array Value:=(A5 m c).toArray
def F4(m:Mu)(c:AR):(A5 m c).length=19:=rfl
def Tryz.GZ:(prog.info? 59).map (·.size)=some 19:=kM
def Ay.range{b o:Nat}{m:Mu}(h:Ay w b o m c):w.rangeAt b o (A5 m c):=h
def Ay.GI{w:AB}{b:Nat}{t:TypeId}{m:Mu}{c:AR}(h:AE w b t (BS m c)):Ay w b 0 m c:=λj u hu=>by
 rw[aF,h.cell];simpa using hu
def Ay.lt{b o:Nat}{m:Mu}(h:Ay w b o m c):b<w:=fc w _ (h 0 _ rfl)
variable{w':AB}
def Ay.ext{b o:Nat}{m:Mu}(h:Ay w b o m c)(k:Ext w w'):Ay w' b o m c:=λj u hu=>(k.cell h.lt).trans (h j u hu)
variable{ops:Array Oper}{a:Act}{Q:Exit->Act->AB->Prop}
def A9{rest:List Oper}{op:Oper}(I:op.guard=none)(x:Operand)(Z:op.op=.load 59 x)
  (b o:Nat) (hx:a.eval x=.pointer (some ⟨b,o,none⟩)) (m:Mu) (c:AR) (N:Ay w b o m c) (h:wpList prog ops Q rest (a.put op.dst (Ap m c)) w):wpList prog ops Q (op::rest) a w:=
 wpList_load_mid I 59 x Z b o hx (A5 m c) _ N.range underlying59 rfl (by rw[F4];exact Tryz.GZ) h
def Lw{b:Nat}{t:TypeId}:∀(vs:List Value) (o:Nat) {w:AB} {z:Array Value},AE w b t z->∃I,AE (w.setCells b o vs) b t I/\I.size=z.size
 |[],_,_,z,h=>⟨z,h,rfl⟩
 | v :: vs,o,w,z,h=>by
   obtain⟨I,h1,h2⟩:=Lw vs (o+1) (h.AX o v);exact⟨I,h1,by rw[h2];simp⟩
variable{w0:AB}
def Ml{rest:List Oper}{op:Oper}(a0:op.guard=none)(x y:Operand)(ho:op.op=.store 59 x y)
  (m:Mu) (c:AR) {b:Nat} (hb:w0.heap.size=b) (hw:Ext w0 w) {z:Array Value} (hz:AE w b 59 z) (a1:z.size=19) (hx:a.eval x=.pointer (some b)) (hy:a.eval y=Ap m c)
  (h:∀w',Ext w0 w'->AE w' b 59 (BS m c)->wpList prog ops Q rest (a.put op.dst undef) w'):wpList prog ops Q (op::rest) a w:=by
 have I:w.there b 0 (BS m c).size:=Ju hz (by rw[a1];exact ao 19);refine fK a0 59 x y ho b 0 (BS m c) hx hy I (by exact Tryz.GZ) ?_ (h _ (Ext.setCells oM _ _ hw) ?_)
 ·show ((A5 m c).toArray.all _)=true
  simp[A5,Value.oneCell']
 have hr:=ga w b 0 (A5 m c) I;obtain⟨z',h1,h2⟩:=Lw (A5 m c) 0 hz;have Z:z'.toList=A5 m c:=by
  refine bJ λj=>?_
  rw[bW];by_cases hj:j<19
  ·obtain ⟨v,hv⟩:∃ v,(A5 m c)[j]? = some v:=⟨_,ac hj⟩
   have h3:=hr j v hv;rw[aF,h1.cell]at h3;rw[h3,hv]
  rw[Array.getElem?_eq_none oM,aN (by rw[F4];omega)]
 have N:z'=BS m c:=dU.1 (Z.trans (ce).symm);have e:(BS m c).toList=A5 m c:=ce;rw[e,<-N];exact h1
def Jr(m:Mu)(c:AR):∃I,prog.underlying 59=some I/\I.isRow=true/\(prog.info? 59).map (·.size)=some (BS m c).size:=⟨_,underlying59,rfl,Tryz.GZ⟩
abbrev gI:=@Ay.GI
def Ay.c19{b o:Nat}{m:Mu}(h:Ay w b o m c):w.cell? ⟨b,o,none⟩=some (.int .i64 m.kd)/\w.cell? ⟨b,o+1,none⟩=some (.string m.k)/\w.cell? ⟨b,o+2,none⟩=some (.string m.tk)/\w.cell? ⟨b,o+3,none⟩=some (.int .i64 m.i)/\w.cell? ⟨b,o+4,none⟩=some (.bool m.had)/\w.cell? ⟨b,o+5,none⟩=some (.int .i64 m.was.kind)/\w.cell? ⟨b,o+6,none⟩=some (.bool m.was.b)/\w.cell? ⟨b,o+7,none⟩=some (.int .i64 m.was.i)/\w.cell? ⟨b,o+8,none⟩=some (.string m.was.t)/\w.cell? ⟨b,o+9,none⟩=some (.slice c.w1.a m.was.l.length c.w1.c)/\w.cell? ⟨b,o+10,none⟩=some (.slice c.w2.a m.was.ok.length c.w2.c)/\w.cell? ⟨b,o+11,none⟩=some (.bool m.has)/\w.cell? ⟨b,o+12,none⟩=some (.int .i64 m.v.kind)/\w.cell? ⟨b,o+13,none⟩=some (.bool m.v.b)/\w.cell? ⟨b,o+14,none⟩=some (.int .i64 m.v.i)/\w.cell? ⟨b,o+15,none⟩=some (.string m.v.t)/\w.cell? ⟨b,o+16,none⟩=some (.slice c.v1.a m.v.l.length c.v1.c)/\w.cell? ⟨b,o+17,none⟩=some (.slice c.v2.a m.v.ok.length c.v2.c)/\w.cell? ⟨b,o+18,none⟩=some (.slice c.s.a m.l.length c.s.c):=
 ⟨h 0 _ rfl,h 1 _ rfl,h 2 _ rfl,h 3 _ rfl,h 4 _ rfl,h 5 _ rfl,h 6 _ rfl,h 7 _ rfl,h 8 _ rfl,h 9 _ rfl,h 10 _ rfl,h 11 _ rfl,h 12 _ rfl,h 13 _ rfl,h 14 _ rfl,h 15 _ rfl,h 16 _ rfl,h 17 _ rfl,h 18 _ rfl⟩
variable{W0:AB}
def Bh{m:Mu}(h:w.alloc (.cells (BS m c) 59)=W0):Ext w W0/\Ay W0 w.heap.size 0 m c/\W0.heap.size=w.heap.size+1:=by
 rw[<-h];exact⟨(gz w).alloc _ _,gI (gB w _ _),eQ _ _⟩
def AK.parts{m:Mu}(h:AK w F m c):RV w F m.was c.w1 c.w2/\RV w F m.v c.v1 c.v2/\m.k.size<=maxLen/\m.tk.size<=maxLen/\(-9223372036854775808<=m.i/\m.i<=9223372036854775807):=by
 cases h with
 |mk bl fl cl rw_ rv hl el rl bk bt bkd bi nl=>exact⟨rw_,rv,bk,bt,Ou bi⟩
def Fl(m:Mu):Ah m.v<=Av m/\Ah m.was<=Av m:=by
 obtain⟨kd,k,tk,i,N,I,Z,v,l⟩:=m;simp only[Av,Mu.v,Mu.was];omega
def JD(M:List AD)(m:Mu):Int × List AD:=if asM M m.k m.had m.was then(if m.has then setMu M m.k m.v else(0,Ac M m.k))else(13,M)
def ow{m:Mu}(h:BD H w O d M)(hH:∀b,H b->b<w.heap.size)(hn:d.us.length<=1000000)(hl:(AG d.T).length<=1000000)(hm:AK w (Lt w) m c)(ht:Av m<=1100000)(hL:Aw w) :
  Calls prog 136 #[.pointer (some O),Ap m c] w λe w'=>e=.returned (.int .i64 (JD M m).1)/\∃d',Ar H w O d (JD M m).2 1 w' d':=by
 obtain⟨-,hv,hk,-,-⟩:=hm.parts;have b8:=λW (hW:Ext w W)=>UB (h.nw (gA hW)) hl ((hm.agree (hW.agree λ_ h=>h)).mono (G:=Lt W) λb hb=>ab hb hW.size)
 obtain⟨a7,HH,HL,HV⟩:=Ye b8 h hL hv;have d5:Ah m.v<=1100000:=by have:=(Fl m).1;omega
 clear b8 h hL hm ht hv;obtain⟨r,hr⟩:∃r,JD M m=r:=⟨_,rfl⟩;rw[hr];unfold JD at hr;cases ha:asM M m.k m.had m.was with
 | false=>
   rw[ha]at a7 hr;rw[eL oO]at hr;have HR:=hY hr;clear hr ha;go_in;go_upto_region 1 with fail;generalize a2:World.alloc _ _=W0;obtain⟨a1,a3,-⟩:=Bh (m:=m) (c:=c) a2;obtain⟨Z,a4⟩:=Yb a1 a3;clear a2 a1 a3;go_wp2_with(refine A9 rfl (.tmp 3) rfl w.heap.size 0 rfl m c a4.o ?_);refine(a7.o _ Z.o).mono ?_;rintro e W1 ⟨rfl,N⟩;have a5:=hY (Z.o.trans N);clear N;go_wp2_with fail;go_ret;exact⟨by rw[<-HR.o]<;>rfl,d,by rw[<-HR.o];exact HH.o.stay (gA a5.o)⟩
 | true=>
   rw[ha]at a7 hr;rw[eN rfl]at hr;cases hh:m.has with
   | true=>
     rw[hh,eN rfl]at hr;obtain⟨HR,a6⟩:=Yb hr hh;clear hr ha hh;go_in;go_upto_region 1 with fail;generalize a2:World.alloc _ _=W0;obtain⟨a1,a3,-⟩:=Bh (m:=m) (c:=c) a2;obtain⟨Z,a4⟩:=Yb a1 a3;clear a2 a1 a3;go_wp2_with(refine A9 rfl (.tmp 3) rfl w.heap.size 0 rfl m c a4.o ?_);refine(a7.o _ Z.o).mono ?_;rintro e W1 ⟨rfl,N⟩;have I:=Z.o.trans N;have a0:=a4.o.ext N;obtain⟨c0,c1,c2,c3,c4,c5,c6,c7,c8,c9,b7,a9,d6,d3,d7,d4,d8,d0,b5⟩:=a0.c19;simp only[Nat.zero_add]at c0 c1 c2 c3 c4 c5 c6 c7 c8 c9 b7 a9 d6 d3 d7 d4 d8 d0 b5;rw[a6.o]at a9;have l1:=a0.lt;have b0:=E5 (HH.o.nw (gA I)) (λb hb=>ab (hH b hb) I.size) hn hk ((HV.o.agree (I.agree λ_ h=>h)).mono λb hb=>ab hb I.size) d5 (HL.o.nw (gA I));obtain⟨b9,a5⟩:=Yb b0 I;clear N a0 I b0 c0 c2 c3 c4 c5 c6 c7 c8 c9 b7 b5;go_wp2_with fail;refine b9.o.mono ?_;rintro e W2 ⟨rfl,d',a8⟩;have b4:=hY (a8.since (gA a5.o));clear a8;go_wp2_with fail;go_ret;exact⟨by rw[<-HR.o]<;>rfl,d',by rw[<-HR.o];exact b4.o⟩
   | false=>
     rw[hh,eL oO]at hr;obtain⟨HR,a6⟩:=Yb hr hh;clear hr ha hh;go_in;go_upto_region 1 with fail;generalize a2:World.alloc _ _=W0;obtain⟨a1,a3,-⟩:=Bh (m:=m) (c:=c) a2;obtain⟨Z,a4⟩:=Yb a1 a3;clear a2 a1 a3;go_wp2_with(refine A9 rfl (.tmp 3) rfl w.heap.size 0 rfl m c a4.o ?_);refine(a7.o _ Z.o).mono ?_;rintro e W1 ⟨rfl,N⟩;have I:=Z.o.trans N;have a0:=a4.o.ext N;have a9:W1.cell? ⟨w,11,none⟩=some (.bool m.has):=a0 11 _ rfl;have c1:W1.cell? ⟨w,1,none⟩=some (.string m.k):=a0 1 _ rfl;rw[a6.o]at a9;have l1:=a0.lt;have b3:=MJ (HH.o.nw (gA I)) (λb hb=>ab (hH b hb) I.size) hn hl hk;obtain⟨b6,a5⟩:=Yb b3 I;clear N a0 I b3;go_wp2_with fail;refine b6.o.mono ?_;rintro e W2 ⟨rfl,d',a8⟩;have b4:=hY (a8.since (gA a5.o));clear a8;go_wp2_with fail;go_ret;exact⟨by rw[<-HR.o]<;>rfl,d',by rw[<-HR.o];exact b4.o⟩
variable{j:Nat}
def AK.at{m:Mu}(h:AK w F m c){x:Mu}(I:m.l[j]? = some x) :
  ∃b o y,c.s.a=some ⟨b,o,none⟩/\F b/\m.l.length<=c.s.c/\c.s.c<=maxLen/\Ay w b (o+j*19) x y/\AK w F x y:=by
 cases h with
 | mk bl fl cl rw_ rv hl el rl bk bt bkd bi nl=>
   obtain⟨N,Z,e3⟩:=hl.eq (De I);exact⟨bl,fl,cl j,N,hl.fits (De I),Z,e3,el j x I,rl j x I⟩
def AK.len{m:Mu}(h:AK w F m c):m.l.length*264<=140737488355328:=by
 cases h with
 |mk bl fl cl rw_ rv hl el rl bk bt bkd bi nl=>exact nl
def Mu.Gc{m:Mu}{x:Mu}(h:m.l[j]? = some x):SizeOf.sizeOf x<SizeOf.sizeOf m:=by
 obtain⟨kd,k,tk,i,N,I,Z,v,l⟩:=m;have h1:SizeOf.sizeOf x<SizeOf.sizeOf l:=dS (ap h);simp only[Mu.mk.sizeOf_spec];omega
def Gy(m:Mu):Ag m=1+A4 m.l:=by
 obtain⟨kd,k,tk,i,N,I,Z,v,l⟩:=m;rw[Ag];rfl
def GW:∀(l:List Mu) (j:Nat),A4 (l.take j)<=A4 l
 |[],j=>oO
 |x::r,0=>by simp[A4]
 |x::r,j+1=>by have:=GW r j;rw[bq,A4,A4];omega
def kW(n:Nat):∀(m:Mu) (c:AR) (w:AB),SizeOf.sizeOf m<=n->AK w (Lt w) m c->Ag m<=1100000->Calls prog 126 #[Ap m c] w λe w'=>e=.returned (.int .i64 (Ag m:Int))/\Ext w w':=by
 induction n with
 |zero=>intro m c w h;have:=Mu.CM m;omega
 | succ n ih=>
   intro m c w hn hm hs;obtain⟨HI,HM⟩:=Yb ih hm;have d3:=hm.len;obtain⟨b3,HS,HN⟩:=Yc (Gy m) hs hn;clear ih hm hs hn;go_in;go_upto_region 1 with fail;generalize b5:World.alloc _ _=W0;obtain⟨a6,b6,-⟩:=Bh (m:=m) (c:=c) b5;have b7:=hY a6;have d4:W0.cell? ⟨w,8+10,none⟩=some (.slice c.s.a m.l.length c.s.c):=b6 18 _ rfl;clear b5 a6 b6;go_wp2_with fail;go_loopw[3,9] (λv3 v9 wr=>∃j:Nat,v9=.int .i64 (j:Int)/\v3=.int .i64 ((1+A4 (m.l.take j):Nat):Int)/\j<=m.l.length/\Yd (Ext w wr)) (λ_ v _=>m.l.length -(intOf v).toNat)
   case atStart=>exact⟨0,rfl,by simp[A4],aw _,b7⟩
   obtain⟨j,rfl,rfl,hj,HX⟩:=hrel;by_cases a3:j<m.l.length
   ·have l1:(j:Int)<(m.l.length:Int):=oM
    have d7:decide ((j:Int)<(m.l.length:Int))=true:=eO l1;have l0:(0:Int)<=(j:Int):=oM
    obtain⟨x,hx⟩:∃x,m.l[j]? = some x:=⟨_,ac a3⟩;obtain⟨b,o,y,c7,N,d5,d6,a8,b0⟩:=HM.o.at hx;have N:b<w:=N;have d0:b<wr:=ab N HX.o.size;have a9:=hY (a8.agree (HX.o.agree λ_ h=>h) N);have b8:Ag x<=A4 m.l:=by
     have h1:=GD hx;have h2:=GW m.l (j+1);omega
    have a5:1+A4 m.l<=1100000:=by rw[<-b3.o];exact HS.o
    have I:=λW (hW:Ext wr W)=>HI.o x y W (by have:=Mu.Gc hx;have:=HN.o;omega) ((b0.agree ((HX.o.trans hW).agree λ_ h=>h)).mono λb hb=>ab hb (HX.o.trans hW).size) oM
    obtain⟨a0,b9⟩:=Yb I (GD hx);have Z:=GW m.l (j+1);have b4:wrap64 (1+(A4 (m.l.take j):Int)+(Ag x:Int))=((1+A4 (m.l.take (j+1)):Nat):Int):=by
     unfold wrap64;rw[b9.o]at Z ⊢;omega
    have c9:=hY b4;clear b0 a8 b8 a5 I Z b4 hx;rw[c7];go_wp2_with(first |(refine A9 rfl (.tmp 11) rfl b (o+j*19) rfl x y a9.o ?_) |(refine Ml rfl (.tmp 5) (.tmp 12) rfl x y (w0:=wr) (b:=wr) rfl ((gz wr).alloc _ _) (gB wr _ _) rfl rfl rfl ?_;intro w5 a1 a7;have a4:=hY a1;have c8:=hY (gI a7);clear a1 a7) |(refine A9 rfl (.tmp 5) rfl wr.heap.size 0 rfl x y c8.o ?_));refine(a0.o _ a4.o).mono ?_;rintro e w2 ⟨rfl,a2⟩;have c6:=hY ((HX.o.trans a4.o).trans a2);clear a2;go_wp2_with fail;go_roundw
    case rel=>exact⟨j+1,by go_num,by rw[c9.o],a3,c6⟩
    simp[intOf];omega
   obtain rfl:j=m.l.length:=oM
   have l1:decide ((m.l.length:Int)<(m.l.length:Int))=false:=eM oM;have HT:=hY (show((1+A4 (m.l.take m.l.length):Nat):Int)=(Ag m:Int)by rw[aR,b3.o]);go_wp2_with fail;go_ret;exact⟨by rw[HT.o]<;>rfl,HX.o⟩
def jj{m:Mu}(h:AK w (Lt w) m c)(hs:Ag m<=1100000):Calls prog 126 #[Ap m c] w λe w'=>e=.returned (.int .i64 (Ag m:Int))/\Ext w w':=kW _ m c w (ao _) h hs
def C3(m:Mu):Bool:=m.k.size==0&&m.tk.size==0&&m.i==0 && !m.had&&BJ m.was && !m.has&&BJ m.v&&m.l.length==0
def GG(w:AB)(m:Mu)(c:AR):Calls prog 183 #[Ap m c] w λe w'=>e=.returned (C3 m)/\Ext w w':=by
 obtain⟨r,hr⟩:∃r,C3 m=r:=⟨_,rfl⟩;rw[hr];unfold C3 at hr;by_cases h0:m.k.size=0
 rotate_left
 ·have g0:=EG h0
  have HR:=hY (show false=r by rw[<-hr];simp[h0]);clear hr h0;go_in;go_upto_region 1 with fail;generalize a1:World.alloc _ _=W0;obtain⟨Z,N,-⟩:=Bh (m:=m) (c:=c) a1;obtain⟨b0,b5⟩:=Yb Z N;obtain⟨c0,c1,c2,c3,c4,c5,c6,c7,c8,c9,a9,a7,a8,a6,a2,a0,a3,a5,a4⟩:=N.c19;simp only[Nat.zero_add]at c0 c1 c2 c3 c4 c5 c6 c7 c8 c9 a9 a7 a8 a6 a2 a0 a3 a5 a4;have l0:=N.lt;clear a1 Z N;go_wp2_with fail;go_ret;exact⟨by rw[<-HR.o]<;>rfl,b0.o⟩
 have g0:=Dm h0;by_cases h1:m.tk.size=0
 rotate_left
 ·have g1:=EG h1
  have HR:=hY (show false=r by rw[<-hr];simp[h0,h1]);clear hr h0 h1;go_in;go_upto_region 1 with fail;generalize a1:World.alloc _ _=W0;obtain⟨Z,N,-⟩:=Bh (m:=m) (c:=c) a1;obtain⟨b0,b5⟩:=Yb Z N;obtain⟨c0,c1,c2,c3,c4,c5,c6,c7,c8,c9,a9,a7,a8,a6,a2,a0,a3,a5,a4⟩:=N.c19;simp only[Nat.zero_add]at c0 c1 c2 c3 c4 c5 c6 c7 c8 c9 a9 a7 a8 a6 a2 a0 a3 a5 a4;have l0:=N.lt;clear a1 Z N;go_wp2_with fail;go_ret;exact⟨by rw[<-HR.o]<;>rfl,b0.o⟩
 have g1:=Dm h1;by_cases h2:m.i=0
 rotate_left
 ·have g2:(m.i == 0)=false:=eP.2 h2
  have HR:=hY (show false=r by rw[<-hr];simp[h0,h1,h2]);clear hr h0 h1 h2;go_in;go_upto_region 1 with fail;generalize a1:World.alloc _ _=W0;obtain⟨Z,N,-⟩:=Bh (m:=m) (c:=c) a1;obtain⟨b0,b5⟩:=Yb Z N;obtain⟨c0,c1,c2,c3,c4,c5,c6,c7,c8,c9,a9,a7,a8,a6,a2,a0,a3,a5,a4⟩:=N.c19;simp only[Nat.zero_add]at c0 c1 c2 c3 c4 c5 c6 c7 c8 c9 a9 a7 a8 a6 a2 a0 a3 a5 a4;have l0:=N.lt;clear a1 Z N;go_wp2_with fail;go_ret;exact⟨by rw[<-HR.o]<;>rfl,b0.o⟩
 have g2:(m.i==0)=true:=by simp[h2]
 by_cases h3:m.had=false
 rotate_left
 ·have g3:m.had=true:=by simpa using h3
  have HR:=hY (show false=r by rw[<-hr];simp[h0,h1,h2,h3]);clear hr h0 h1 h2 h3;go_in;go_upto_region 1 with fail;generalize a1:World.alloc _ _=W0;obtain⟨Z,N,-⟩:=Bh (m:=m) (c:=c) a1;obtain⟨b0,b5⟩:=Yb Z N;obtain⟨c0,c1,c2,c3,c4,c5,c6,c7,c8,c9,a9,a7,a8,a6,a2,a0,a3,a5,a4⟩:=N.c19;simp only[Nat.zero_add]at c0 c1 c2 c3 c4 c5 c6 c7 c8 c9 a9 a7 a8 a6 a2 a0 a3 a5 a4;have l0:=N.lt;clear a1 Z N;go_wp2_with fail;go_ret;exact⟨by rw[<-HR.o]<;>rfl,b0.o⟩
 have g3:m.had=false:=h3;by_cases h4:BJ m.was=true
 rotate_left
 ·have g4:BJ m.was=false:=by simpa using h4
  have HR:=hY (show false=r by rw[<-hr];simp[h0,h1,h2,h3,h4]);clear hr h0 h1 h2 h3 h4;go_in;go_upto_region 1 with fail;generalize a1:World.alloc _ _=W0;obtain⟨Z,N,-⟩:=Bh (m:=m) (c:=c) a1;obtain⟨b0,b5⟩:=Yb Z N;obtain⟨c0,c1,c2,c3,c4,c5,c6,c7,c8,c9,a9,a7,a8,a6,a2,a0,a3,a5,a4⟩:=N.c19;simp only[Nat.zero_add]at c0 c1 c2 c3 c4 c5 c6 c7 c8 c9 a9 a7 a8 a6 a2 a0 a3 a5 a4;have l0:=N.lt;clear a1 Z N;go_wp2_with fail;refine(ET _ m.was c.w1 c.w2).mono ?_;rintro e W1 ⟨rfl,I⟩;have b4:=hY (b0.o.trans I);clear I c0 c1 c2 c3 c4 c5 c6 c7 c8 c9 a9 a7 a8 a6 a2 a0 a3 a5 a4;rw[g4];go_wp2_with fail;go_ret;exact⟨by rw[<-HR.o]<;>rfl,b4.o⟩
 have g4:BJ m.was=true:=h4;by_cases h5:m.has=false
 rotate_left
 ·have g5:m.has=true:=by simpa using h5
  have HR:=hY (show false=r by rw[<-hr];simp[h0,h1,h2,h3,h4,h5]);clear hr h0 h1 h2 h3 h4 h5;go_in;go_upto_region 1 with fail;generalize a1:World.alloc _ _=W0;obtain⟨Z,N,-⟩:=Bh (m:=m) (c:=c) a1;obtain⟨b0,b5⟩:=Yb Z N;obtain⟨c0,c1,c2,c3,c4,c5,c6,c7,c8,c9,a9,a7,a8,a6,a2,a0,a3,a5,a4⟩:=N.c19;simp only[Nat.zero_add]at c0 c1 c2 c3 c4 c5 c6 c7 c8 c9 a9 a7 a8 a6 a2 a0 a3 a5 a4;have l0:=N.lt;clear a1 Z N;go_wp2_with fail;refine(ET _ m.was c.w1 c.w2).mono ?_;rintro e W1 ⟨rfl,I⟩;have d6:=(I.cell l0).trans a7;have b9:=(I.cell l0).trans a8;have d4:=(I.cell l0).trans a6;have b8:=(I.cell l0).trans a2;have d3:=(I.cell l0).trans a0;have d0:=(I.cell l0).trans a3;have d5:=(I.cell l0).trans a5;have b7:=(I.cell l0).trans a4;have l1:=ab l0 I.size;have b4:=hY (b0.o.trans I);clear I c0 c1 c2 c3 c4 c5 c6 c7 c8 c9 a9 a7 a8 a6 a2 a0 a3 a5 a4;rw[g4];go_wp2_with fail;go_ret;exact⟨by rw[<-HR.o]<;>rfl,b4.o⟩
 have g5:m.has=false:=h5;by_cases h6:BJ m.v=true
 rotate_left
 ·have g6:BJ m.v=false:=by simpa using h6
  have HR:=hY (show false=r by rw[<-hr];simp[h0,h1,h2,h3,h4,h5,h6]);clear hr h0 h1 h2 h3 h4 h5 h6;go_in;go_upto_region 1 with fail;generalize a1:World.alloc _ _=W0;obtain⟨Z,N,-⟩:=Bh (m:=m) (c:=c) a1;obtain⟨b0,b5⟩:=Yb Z N;obtain⟨c0,c1,c2,c3,c4,c5,c6,c7,c8,c9,a9,a7,a8,a6,a2,a0,a3,a5,a4⟩:=N.c19;simp only[Nat.zero_add]at c0 c1 c2 c3 c4 c5 c6 c7 c8 c9 a9 a7 a8 a6 a2 a0 a3 a5 a4;have l0:=N.lt;clear a1 Z N;go_wp2_with fail;refine(ET _ m.was c.w1 c.w2).mono ?_;rintro e W1 ⟨rfl,I⟩;have d6:=(I.cell l0).trans a7;have b9:=(I.cell l0).trans a8;have d4:=(I.cell l0).trans a6;have b8:=(I.cell l0).trans a2;have d3:=(I.cell l0).trans a0;have d0:=(I.cell l0).trans a3;have d5:=(I.cell l0).trans a5;have b7:=(I.cell l0).trans a4;have l1:=ab l0 I.size;have b4:=hY (b0.o.trans I);clear I c0 c1 c2 c3 c4 c5 c6 c7 c8 c9 a9 a7 a8 a6 a2 a0 a3 a5 a4;rw[g4];go_wp2_with fail;refine(ET _ m.v c.v1 c.v2).mono ?_;rintro e W2 ⟨rfl,b3⟩;have b6:=hY (b4.o.trans b3);clear b3;rw[g6];go_wp2_with fail;go_ret;exact⟨by rw[<-HR.o]<;>rfl,b6.o⟩
 have g6:BJ m.v=true:=h6;by_cases h7:m.l.length=0
 rotate_left
 ·have g7:((m.l.length:Int) == 0)=false:=eP.2 oM
  have HR:=hY (show false=r by rw[<-hr];simp[h0,h1,h2,h3,h4,h5,h6,h7]);clear hr h0 h1 h2 h3 h4 h5 h6 h7;go_in;go_upto_region 1 with fail;generalize a1:World.alloc _ _=W0;obtain⟨Z,N,-⟩:=Bh (m:=m) (c:=c) a1;obtain⟨b0,b5⟩:=Yb Z N;obtain⟨c0,c1,c2,c3,c4,c5,c6,c7,c8,c9,a9,a7,a8,a6,a2,a0,a3,a5,a4⟩:=N.c19;simp only[Nat.zero_add]at c0 c1 c2 c3 c4 c5 c6 c7 c8 c9 a9 a7 a8 a6 a2 a0 a3 a5 a4;have l0:=N.lt;clear a1 Z N;go_wp2_with fail;refine(ET _ m.was c.w1 c.w2).mono ?_;rintro e W1 ⟨rfl,I⟩;have d6:=(I.cell l0).trans a7;have b9:=(I.cell l0).trans a8;have d4:=(I.cell l0).trans a6;have b8:=(I.cell l0).trans a2;have d3:=(I.cell l0).trans a0;have d0:=(I.cell l0).trans a3;have d5:=(I.cell l0).trans a5;have b7:=(I.cell l0).trans a4;have l1:=ab l0 I.size;have b4:=hY (b0.o.trans I);clear I c0 c1 c2 c3 c4 c5 c6 c7 c8 c9 a9 a7 a8 a6 a2 a0 a3 a5 a4;rw[g4];go_wp2_with fail;refine(ET _ m.v c.v1 c.v2).mono ?_;rintro e W2 ⟨rfl,b3⟩;have d7:W2.cell? ⟨w,18,none⟩=some (.slice c.s.a m.l.length c.s.c):=(b3.cell l1).trans b7;have l2:=ab l1 b3.size;have b6:=hY (b4.o.trans b3);clear b3;rw[g6];go_wp2_with fail;go_ret;exact⟨by rw[<-HR.o]<;>rfl,b6.o⟩
 have g7:((m.l.length:Int)==0)=true:=by rw[h7];rfl
 have HR:=hY (show true=r by rw[<-hr];simp[h0,h1,h2,h3,h4,h5,h6,h7]);clear hr h0 h1 h2 h3 h4 h5 h6 h7;go_in;go_upto_region 1 with fail;generalize a1:World.alloc _ _=W0;obtain⟨Z,N,-⟩:=Bh (m:=m) (c:=c) a1;obtain⟨b0,b5⟩:=Yb Z N;obtain⟨c0,c1,c2,c3,c4,c5,c6,c7,c8,c9,a9,a7,a8,a6,a2,a0,a3,a5,a4⟩:=N.c19;simp only[Nat.zero_add]at c0 c1 c2 c3 c4 c5 c6 c7 c8 c9 a9 a7 a8 a6 a2 a0 a3 a5 a4;have l0:=N.lt;clear a1 Z N;go_wp2_with fail;refine(ET _ m.was c.w1 c.w2).mono ?_;rintro e W1 ⟨rfl,I⟩;have d6:=(I.cell l0).trans a7;have b9:=(I.cell l0).trans a8;have d4:=(I.cell l0).trans a6;have b8:=(I.cell l0).trans a2;have d3:=(I.cell l0).trans a0;have d0:=(I.cell l0).trans a3;have d5:=(I.cell l0).trans a5;have b7:=(I.cell l0).trans a4;have l1:=ab l0 I.size;have b4:=hY (b0.o.trans I);clear I c0 c1 c2 c3 c4 c5 c6 c7 c8 c9 a9 a7 a8 a6 a2 a0 a3 a5 a4;rw[g4];go_wp2_with fail;refine(ET _ m.v c.v1 c.v2).mono ?_;rintro e W2 ⟨rfl,b3⟩;have d7:W2.cell? ⟨w,18,none⟩=some (.slice c.s.a m.l.length c.s.c):=(b3.cell l1).trans b7;have l2:=ab l1 b3.size;have b6:=hY (b4.o.trans b3);clear b3;rw[g6];go_wp2_with fail;go_ret;exact⟨by rw[<-HR.o]<;>rfl,b6.o⟩
abbrev fW:=@all_oneCell_toArray
def IA:List Value->Nat->List Value->List Value
 |l,_,[]=>l
 |l,o,v::vs=>IA (l.set o v) (o+1) vs
def Nj{b:Nat}{t:TypeId}:∀(vs:List Value) (o:Nat) {w:AB} {l:List Value},AE w b t l.toArray->AE (w.setCells b o vs) b t (IA l o vs).toArray
 |[],_,_,_,h=>h
 | v :: vs,o,w,l,h=>by
   have h2:=h.AX o v;rw[ae]at h2;exact Nj vs (o+1) h2
def WO(w:AB)(b o:Nat)(ty:TypeId){v:Value}(I:Array Value)(hv:v.cells=I)(ht:w.there b o I.size)(hi:(prog.info? ty).map (·.size)=some I.size)(h1:I.all (·.oneCell')=true) :
  (storeVar ty ⟨b,o,none⟩ v).run prog w=.ok () (w.setCells b o I.toList):=by
 have:=run_storeCells_cells (P:=prog) b o I.toList 0 w (λj Z=>by simpa using(ht j (by simpa using Z)).1) (λj Z=>by simpa using(ht j (by simpa using Z)).2)
  (λv hv=>(Array.all_eq_true_iff_forall_mem.1 h1) v (by simpa using hv))
 cases N:prog.info? ty with
 |none=>simp[N]at hi
 | some i=>
   have hs:I.size=i.size:=by simp[N]at hi;omega
   simp only[Nat.add_zero]at this;simp[storeVar,sizeOf,typeInfo,N,hv,hs,this]
variable{K:Act->AB->Prop}
def jN{op:Oper}(ty:TypeId)(x y:Operand)(Z:op.op=.store ty x y)
  (b o:Nat) (I:Array Value) (hx:a.eval x=.pointer (some ⟨b,o,none⟩)) {v:Value} (hy:a.eval y=v) (hv:v.cells=I)
  (N:w.there b o I.size) (hi:(prog.info? ty).map (·.size)=some I.size) (h1:I.all (·.oneCell')=true)
  (h:K (a.put op.dst undef) (w.setCells b o I.toList)):op.wp prog a w K Q:=by
 unfold Oper.wp execOp;simp only[Z,hx,hy,Instr.storeAt,Instr.sureAddr,Sem.run_bind,Sem.run_pure,Result.andThen_ok,WO w b o ty I hv N hi h1];exact h
variable{c':AR}
def V1{rest:List Oper}{op:Oper}(N:op.guard=none)(hd:op.dst=none){T:TypeId}{x y:Operand}(ho:op.op=.store T x y)
  (vs:List Value) {v:Value} (hy:a.eval y=v) (hv:v.cells=vs.toArray) (hi:(prog.info? T).map (·.size)=some vs.length) (h1:vs.all (·.oneCell')=true)
 {b:Nat} (hb:w0.heap.size≤b) (hw:Ext w0 w) {m:Mu} (I:AE w b 59 (BS m c)) (o:Nat) (hl:o+vs.length≤19) (hx:a.eval x=.pointer (some ⟨b,o,none⟩))
  {m':Mu} (he:IA (A5 m c) o vs=A5 m' c') (h:∀w',Ext w0 w'->AE w' b 59 (BS m' c')->wpList prog ops Q rest a w'):wpList prog ops Q (op::rest) a w:=by
 have Z:w.there b o vs.toArray.size:=λj hj=>by
  have a1:j<vs.length:=by simpa using hj
  refine⟨?_,I.frozen _⟩;rw[I.cell,cF (by rw[bp,F4];omega)];rfl
 have h2:=Nj vs o I;rw[he]at h2;have a0:=h _ (Ext.setCells hb vs o hw) h2;have ep:a.put op.dst undef=a:=by rw[hd];rfl
 refine fY N λK hK=>jN T x y ho b o vs.toArray hx hy hv Z (by rw[hi,bp]) (fW (dy.1 h1)) (hK _ _ ?_)
 rw[ep];exact a0
def LK{rest:List Oper}{op:Oper}(N:op.guard=none)(hd:op.dst=none){x y:Operand}(Z:op.op=.store 59 x y)
  (m:Mu) (c:AR) {b:Nat} (hb:w0.heap.size=b) (hw:Ext w0 w) {z:Array Value} (hz:AE w b 59 z) (I:z.size=19) (hx:a.eval x=.pointer (some b)) (hy:a.eval y=Ap m c)
  (h:∀w',Ext w0 w'->AE w' b 59 (BS m c)->wpList prog ops Q rest a w'):wpList prog ops Q (op::rest) a w:=
 Ml N x y Z m c hb hw hz I hx hy λw' h1 h2=>by
  have ep:a.put op.dst undef=a:=by rw[hd];rfl
  rw[ep];exact h w' h1 h2
def Du(n:Nat)(w:AB)(s:Sl)(b:Nat):Prop:=n<=b/\b<w.heap.size/\s.row≠some b
def V9{rest:List Oper}{T T':TypeId}{x y:Operand}{ps:String}{Z:Array Edge} 
  (vs:List Value) (hv:(a.eval y).cells=vs.toArray) (hi:(prog.info? T).map (·.size)=some vs.length) (h1:vs.all (·.oneCell')=true)
 {b:Nat} (hb:w0.heap.size≤b) (hw:Ext w0 w) {m:Mu} (I:AE w b 59 (BS m c)) (o:Nat) (N:o+vs.length≤19) (hx:a.eval x=.pointer (some ⟨b,o,none⟩))
  (m':Mu) (c':AR) (he:IA (A5 m c) o vs=A5 m' c') (h:∀w',Ext w0 w'->AE w' b 59 (BS m' c')->wpList prog ops Q rest a w') :
  wpList prog ops Q (⟨none,.store T x y,T',ps,Z,none⟩::rest) a w:=
 V1 rfl rfl rfl vs rfl hv hi h1 hb hw I o N hx he h
def BB(m:Mu):Bool:=Ct m.kd m.k m.tk m.i m.had m.was m.has m.v m.l.length
def Gb:BJ zeroV=true:=rfl
def Ay.kind{b:Nat}{m:Mu}(h:Ay w b 0 m c):w.cell? b=some (.int .i64 m.kd):=h 0 _ rfl
def Ay.c11{b:Nat}{m:Mu}(h:Ay w b 0 m c):w.cell? ⟨b,11,none⟩=some (.bool m.has):=h 11 _ rfl
def Ay.c4{b:Nat}{m:Mu}(h:Ay w b 0 m c):w.cell? ⟨b,4,none⟩=some (.bool m.had):=h 4 _ rfl
def Ay.Ir{b:Nat}{m:Mu}(h:Ay w b 0 m c):w.cell? ⟨b,5,none⟩=some (.int .i64 m.was.kind)/\w.cell? ⟨b,6,none⟩=some (.bool m.was.b)/\w.cell? ⟨b,7,none⟩=some (.int .i64 m.was.i)/\w.cell? ⟨b,8,none⟩=some (.string m.was.t)/\w.cell? ⟨b,9,none⟩=some (.slice c.w1.a m.was.l.length c.w1.c)/\w.cell? ⟨b,10,none⟩=some (.slice c.w2.a m.was.ok.length c.w2.c):=⟨h 5 _ rfl,h 6 _ rfl,h 7 _ rfl,h 8 _ rfl,h 9 _ rfl,h 10 _ rfl⟩
def Ay.v6{b:Nat}{m:Mu}(h:Ay w b 0 m c):w.cell? ⟨b,12,none⟩=some (.int .i64 m.v.kind)/\w.cell? ⟨b,13,none⟩=some (.bool m.v.b)/\w.cell? ⟨b,14,none⟩=some (.int .i64 m.v.i)/\w.cell? ⟨b,15,none⟩=some (.string m.v.t)/\w.cell? ⟨b,16,none⟩=some (.slice c.v1.a m.v.l.length c.v1.c)/\w.cell? ⟨b,17,none⟩=some (.slice c.v2.a m.v.ok.length c.v2.c):=⟨h 12 _ rfl,h 13 _ rfl,h 14 _ rfl,h 15 _ rfl,h 16 _ rfl,h 17 _ rfl⟩
section
variable(m : Mu)(c : AR)
def Mu.Bg:Mu:=.mk m.kd ByteArray.empty m.tk m.i m.had m.was m.has m.v m.l
def Mu.FK:Mu:=.mk m.kd m.k ByteArray.empty m.i m.had m.was m.has m.v m.l
def Mu.FB:Mu:=.mk m.kd m.k m.tk 0 m.had m.was m.has m.v m.l
def Mu.DN:Mu:=.mk m.kd m.k m.tk m.i false m.was m.has m.v m.l
def Mu.Cd:Mu:=.mk m.kd m.k m.tk m.i m.had zeroV m.has m.v m.l
def Mu.Ez:Mu:=.mk m.kd m.k m.tk m.i m.had m.was false m.v m.l
def Mu.DC:Mu:=.mk m.kd m.k m.tk m.i m.had m.was m.has zeroV m.l
def Mu.Ee:Mu:=.mk m.kd m.k m.tk m.i m.had m.was m.has m.v []
def AR.Cd:AR:=⟨Sl.none,Sl.none,c.v1,c.v2,c.s⟩
def AR.DC:AR:=⟨c.w1,c.w2,Sl.none,Sl.none,c.s⟩
def AR.Ee:AR:=⟨c.w1,c.w2,c.v1,c.v2,Sl.none⟩
end
abbrev I5:List Value:=[.int .i64 0,.bool false,.int .i64 0,.string ⟨#[]⟩,.slice none 0 0,.slice none 0 0]
def Co{rest:List Oper}{T T':TypeId}{x y:Operand}{ps:String}{af:Array Edge} 
 {b:Nat} (hb:w0.heap.size≤b) {m:Mu} (hw:Yd (Ext w0 w)) (N:Yd (AE w b 59 (BS m c))) (o:Nat) (vs:List Value) (m':Mu) (c':AR) (h:∀ w',Yd (Ext w0 w')→Yd (AE w' b 59 (BS m' c'))→wpList prog ops Q rest a w')
  (hv:(a.eval y).cells=vs.toArray:=by rfl) (hi:(prog.info? T).map (·.size)=some vs.length:=by kernel_rfl) (h1:vs.all (·.oneCell')=true:=by rfl) (Z:o+vs.length<=19:=by decide) (hx:a.eval x=.pointer (some ⟨b,o,none⟩):=by rfl) (he:IA (A5 m c) o vs=A5 m' c':=by rfl) :
  wpList prog ops Q (⟨none,.store T x y,T',ps,af,none⟩::rest) a w:=
 V9 vs hv hi h1 hb hw.out N.out o Z hx m' c' he λw' k1 I=>h w' (hY k1) (hY I)
def WZ{m:Mu}(hk:m.kd=1)(hw:m.had=false->BJ m.was=true):(!BB m)=(!C3 m.Bg.DC):=by
 obtain⟨a1,k',a0,i',I,Z,N,v',l'⟩:=m;simp only[Mu.kd,Mu.had,Mu.was]at hk hw;cases I<;>simp_all [BB,Ct,C3,Mu.Bg,Mu.FK,Mu.FB,Mu.DN,Mu.Cd,Mu.Ez,Mu.DC,Mu.Ee,Gb,Mu.kd,Mu.k,Mu.tk,Mu.i,Mu.had,Mu.was,Mu.has,Mu.v,Mu.l]
def jw{m:Mu}(hk:m.kd=2)(hw:m.had=false->BJ m.was=true):(!BB m)=(!C3 m.Bg):=by
 obtain⟨a1,k',a0,i',I,Z,N,v',l'⟩:=m;simp only[Mu.kd,Mu.had,Mu.was]at hk hw;cases I<;>simp_all [BB,Ct,C3,Mu.Bg,Mu.FK,Mu.FB,Mu.DN,Mu.Cd,Mu.Ez,Mu.DC,Mu.Ee,Gb,Mu.kd,Mu.k,Mu.tk,Mu.i,Mu.had,Mu.was,Mu.has,Mu.v,Mu.l]
def Y4{m:Mu}(hk:m.kd=3)(hw:m.had=false->BJ m.was=true):(!BB m)=(!C3 m.Bg.FB):=by
 obtain⟨a1,k',a0,i',I,Z,N,v',l'⟩:=m;simp only[Mu.kd,Mu.had,Mu.was]at hk hw;cases I<;>simp_all [BB,Ct,C3,Mu.Bg,Mu.FK,Mu.FB,Mu.DN,Mu.Cd,Mu.Ez,Mu.DC,Mu.Ee,Gb,Mu.kd,Mu.k,Mu.tk,Mu.i,Mu.had,Mu.was,Mu.has,Mu.v,Mu.l]
def YT{m:Mu}(hk:m.kd=4)(hw:m.had=false->BJ m.was=true)(hs:m.has=false->BJ m.v=true):(!BB m)=(!C3 m.Bg.DN.Cd.Ez.DC):=by
 obtain⟨a1,k',a0,i',N,Z,I,v',l'⟩:=m;simp only[Mu.kd,Mu.had,Mu.was,Mu.has,Mu.v]at hk hw hs;cases N<;>cases I<;>simp_all [BB,Ct,C3,Mu.Bg,Mu.FK,Mu.FB,Mu.DN,Mu.Cd,Mu.Ez,Mu.DC,Mu.Ee,Gb,Mu.kd,Mu.k,Mu.tk,Mu.i,Mu.had,Mu.was,Mu.has,Mu.v,Mu.l]
def pq{m:Mu}(hk:m.kd=5)(hw:m.had=false->BJ m.was=true):(!BB m)=(!C3 m.Bg.DC):=by
 obtain⟨a1,k',a0,i',I,Z,N,v',l'⟩:=m;simp only[Mu.kd,Mu.had,Mu.was]at hk hw;cases I<;>simp_all [BB,Ct,C3,Mu.Bg,Mu.FK,Mu.FB,Mu.DN,Mu.Cd,Mu.Ez,Mu.DC,Mu.Ee,Gb,Mu.kd,Mu.k,Mu.tk,Mu.i,Mu.had,Mu.was,Mu.has,Mu.v,Mu.l]
def jC{m:Mu}(hk:m.kd=6)(hw:m.had=false->BJ m.was=true):(!BB m)=(!C3 m.Bg.FK):=by
 obtain⟨a1,k',a0,i',I,Z,N,v',l'⟩:=m;simp only[Mu.kd,Mu.had,Mu.was]at hk hw;cases I<;>simp_all [BB,Ct,C3,Mu.Bg,Mu.FK,Mu.FB,Mu.DN,Mu.Cd,Mu.Ez,Mu.DC,Mu.Ee,Gb,Mu.kd,Mu.k,Mu.tk,Mu.i,Mu.had,Mu.was,Mu.has,Mu.v,Mu.l]
def Vy{m:Mu}(hk:m.kd=7)(hw:m.had=false->BJ m.was=true):(!BB m)=(!C3 m.Bg.DN.Cd.Ee):=by
 obtain⟨a1,k',a0,i',I,Z,N,v',l'⟩:=m;simp only[Mu.kd,Mu.had,Mu.was]at hk hw;cases I<;>simp_all [BB,Ct,C3,Mu.Bg,Mu.FK,Mu.FB,Mu.DN,Mu.Cd,Mu.Ez,Mu.DC,Mu.Ee,Gb,Mu.kd,Mu.k,Mu.tk,Mu.i,Mu.had,Mu.was,Mu.has,Mu.v,Mu.l]
def kZ(w:AB)(m:Mu)(c:AR)(hh:m.had=false)(hz:BJ m.was=false):Calls prog 157 #[Ap m c] w λe w'=>e=.returned (.bool (!BB m))/\Ext w w':=by
 have hr:(!BB m)=true:=by simp[BB,Ct,hh,hz]
 rw[hr];obtain⟨HZ,HH⟩:=Yb hz hh;clear hr hz hh;go_in;go_upto_region 1 with fail;generalize a0:World.alloc _ _=W0;obtain⟨N,I,a3⟩:=Bh (m:=m) (c:=c) a0;obtain⟨a1,a4⟩:=Yb N I;have c4:=I.c4;rw[HH.o]at c4;clear a0 N I a3;obtain⟨c5,c6,c7,c8,c9,a5⟩:=a4.o.Ir;go_wp2_with fail;refine(ET _ m.was c.w1 c.w2).mono ?_;rintro e W1 ⟨rfl,Z⟩;have a2:=hY (a1.o.trans Z);clear Z;rw[HZ.o];go_wp2_with fail;go_ret;exact⟨rfl,a2.o⟩
def iG(w:AB)(m:Mu)(c:AR):Calls prog 157 #[Ap m c] w λe w'=>e=.returned (.bool (!BB m))/\Ext w w':=by
 by_cases hx:m.had=false/\BJ m.was=false
 .exact kZ w m c hx.1 hx.2
 have a2:=hY (show m.had=false->BJ m.was=true fromλh=>by simpa[h]using hx);clear hx;go_in;go_upto_region 1 with fail;generalize b6:World.alloc _ _=W0;obtain⟨b5,b9,d9⟩:=Bh (m:=m) (c:=c) b6;obtain⟨d4,a7⟩:=Yb b5 b9;clear b6 b5 b9 d9;go_cut [12] (λv wc=>v=.bool false/\Ext W0 wc)
 case first=>
  have c4:=a7.o.c4;rcases be m.had with hh|hh
  ·rw [hh] at c4
   clear hh;go_wp2_with fail;go_meet;exact⟨rfl,gz _⟩
  have HZ:=hY (a2.o hh);rw[hh]at c4;obtain⟨c5,c6,c7,c8,c9,f3⟩:=a7.o.Ir;clear hh;go_wp2_with fail;refine(ET _ m.was c.w1 c.w2).mono ?_;rintro e W1 ⟨rfl,a4⟩;rw[HZ.o];go_wp2_with fail;go_meet;exact⟨rfl,a4⟩
 case rest=>
 obtain⟨rfl,a4⟩:=hcut
 rename AB=>W1
 obtain⟨b4,b7⟩:=Yb (d4.o.trans a4) (a7.o.ext a4);clear a4;go_upto_region 4 with(first |(refine A9 rfl (.tmp 1) rfl w.heap.size 0 rfl m c b7.o ?_) |(refine LK rfl rfl rfl m c (w0:=W1) (b:=W1) rfl ((gz W1).alloc _ _) (gB W1 _ _) rfl rfl rfl ?_;intro w5 a6 b8;have X5:=hY (b4.o.trans a6);have a3:=hY (Ay.ext b7.o a6);have B5:=hY b8;clear a6 b8));have d0:=a3.o.kind;have hg:w.heap.size<=W1.heap.size:=b4.o.size;obtain⟨q,hq⟩:∃q,m.kd=q:=⟨_,rfl⟩;rw[hq]at d0;by_cases hn:¬(1<=q/\q<=7)
 ·have HR:=hY (show (!BB m)=true by simp [BB,Ct,hq,hn])
  have e (j:Int) (h:1<=j/\j<=7):(q==j)=false:=eP.2 λe=>hn (e▸h)
  have e1:=e 1 oN;have e2:=e 2 oN;have e3:=e 3 oN;have e4:=e 4 oN;have e5:=e 5 oN;have e6:=e 6 oN;have e7:=e 7 oN;clear e hq hn;go_wp2_with fail;go_ret;exact⟨by rw[HR.o]<;>rfl,X5.out⟩
 have d5:q=1\/q=2\/q=3\/q=4\/q=5\/q=6\/q=7:=oM
 have HQ:=hY hq;clear hn hq;rcases d5 with rfl|rfl|rfl|rfl|rfl|rfl|rfl
 ·go_wp2_with (first | (refine Co hg X5 B5 1 [.string ⟨#[]⟩] m.Bg c ?_;intro v0 Z a0) | (refine Co hg Z a0 12 I5 m.Bg.DC c.DC ?_;intro v1 GX GB) | (refine A9 rfl (.tmp 3) rfl W1.heap.size 0 rfl _ _ (gI GB.out) ?_))
  refine(GG _ _ _).mono ?_;rintro e W7 ⟨rfl,N⟩;have I:=hY (GX.out.trans N);go_wp2_with fail;go_ret;exact⟨by rw[WZ HQ.o a2.o]<;>rfl,I.o⟩
 ·go_wp2_with (first | (refine Co hg X5 B5 1 [.string ⟨#[]⟩] m.Bg c ?_;intro v0 GX GB) | (refine A9 rfl (.tmp 3) rfl W1.heap.size 0 rfl _ _ (gI GB.out) ?_))
  refine(GG _ _ _).mono ?_;rintro e W7 ⟨rfl,N⟩;have I:=hY (GX.out.trans N);go_wp2_with fail;go_ret;exact⟨by rw[jw HQ.o a2.o]<;>rfl,I.o⟩
 ·go_wp2_with (first | (refine Co hg X5 B5 1 [.string ⟨#[]⟩] m.Bg c ?_;intro v0 Z a0) | (refine Co hg Z a0 3 [.int .i64 0] m.Bg.FB c ?_;intro v1 GX GB) | (refine A9 rfl (.tmp 3) rfl W1.heap.size 0 rfl _ _ (gI GB.out) ?_))
  refine(GG _ _ _).mono ?_;rintro e W7 ⟨rfl,N⟩;have I:=hY (GX.out.trans N);go_wp2_with fail;go_ret;exact⟨by rw[Y4 HQ.o a2.o]<;>rfl,I.o⟩
 ·by_cases hy:m.has=false∧BJ m.v=false
  ·have HR:=hY (show (!BB m)=true by simp [BB,Ct,HQ.o,hy.1,hy.2])
   have HV:=hY hy.2;have a5:=a3.o.c11;rw[hy.1]at a5;obtain⟨d7,e8,d6,d8,f2,f0⟩:=a3.o.v6;clear hy;go_wp2_with fail;refine(ET _ m.v c.v1 c.v2).mono ?_;rintro e W6 ⟨rfl,a1⟩;have e0:=hY (X5.out.trans a1);rw[HV.o];clear a1;go_wp2_with fail;go_ret;exact⟨by rw[HR.o]<;>rfl,e0.o⟩
  have HS:=hY (show m.has=false->BJ m.v=true fromλh=>by simpa[h]using hy);clear hy;go_upto_region 14 with fail;go_cut [39] (λv wd=>v=.bool false/\Ext w5 wd)
  case first=>
   have a5:=a3.o.c11;rcases be m.has with hs|hs
   ·rw [hs] at a5
    clear hs;go_wp2_with fail;go_meet;exact⟨rfl,gz _⟩
   have HV:=hY (HS.o hs);rw[hs]at a5;obtain⟨d7,e8,d6,d8,f2,f0⟩:=a3.o.v6;clear hs;go_wp2_with fail;refine(ET _ m.v c.v1 c.v2).mono ?_;rintro e W6 ⟨rfl,a1⟩;rw[HV.o];go_wp2_with fail;go_meet;exact⟨rfl,a1⟩
  case rest=>
  obtain⟨rfl,a1⟩:=hcut;obtain⟨X6,B6⟩:=Yb (X5.out.trans a1) (B5.out.ext a1);clear a1 d0;go_wp2_with(first |(refine Co hg X6 B6 1 [.string ⟨#[]⟩] m.Bg c ?_;intro v0 Z a0) |(refine Co hg Z a0 4 [.bool false] m.Bg.DN c ?_;intro v1 b0 a9) |(refine Co hg b0 a9 5 I5 m.Bg.DN.Cd c.Cd ?_;intro v2 a8 b3) |(refine Co hg a8 b3 11 [.bool false] m.Bg.DN.Cd.Ez c.Cd ?_;intro v3 f1 d3) |(refine Co hg f1 d3 12 I5 m.Bg.DN.Cd.Ez.DC c.Cd.DC ?_;intro v4 GX GB) |(refine A9 rfl (.tmp 3) rfl W1.heap.size 0 rfl _ _ (gI GB.out) ?_));refine(GG _ _ _).mono ?_;rintro e W7 ⟨rfl,N⟩;have I:=hY (GX.out.trans N);go_wp2_with fail;go_ret;exact⟨by rw[YT HQ.o a2.o HS.o]<;>rfl,I.o⟩
 ·go_wp2_with (first | (refine Co hg X5 B5 1 [.string ⟨#[]⟩] m.Bg c ?_;intro v0 Z a0) | (refine Co hg Z a0 12 I5 m.Bg.DC c.DC ?_;intro v1 GX GB) | (refine A9 rfl (.tmp 3) rfl W1.heap.size 0 rfl _ _ (gI GB.out) ?_))
  refine(GG _ _ _).mono ?_;rintro e W7 ⟨rfl,N⟩;have I:=hY (GX.out.trans N);go_wp2_with fail;go_ret;exact⟨by rw[pq HQ.o a2.o]<;>rfl,I.o⟩
 ·go_wp2_with (first | (refine Co hg X5 B5 1 [.string ⟨#[]⟩] m.Bg c ?_;intro v0 Z a0) | (refine Co hg Z a0 2 [.string ⟨#[]⟩] m.Bg.FK c ?_;intro v1 GX GB) | (refine A9 rfl (.tmp 3) rfl W1.heap.size 0 rfl _ _ (gI GB.out) ?_))
  refine(GG _ _ _).mono ?_;rintro e W7 ⟨rfl,N⟩;have I:=hY (GX.out.trans N);go_wp2_with fail;go_ret;exact⟨by rw[jC HQ.o a2.o]<;>rfl,I.o⟩
 go_wp2_with(first |(refine Co hg X5 B5 1 [.string ⟨#[]⟩] m.Bg c ?_;intro v0 Z a0) |(refine Co hg Z a0 4 [.bool false] m.Bg.DN c ?_;intro v1 b0 a9) |(refine Co hg b0 a9 5 I5 m.Bg.DN.Cd c.Cd ?_;intro v2 a8 b3) |(refine Co hg a8 b3 18 [.slice none 0 0] m.Bg.DN.Cd.Ee c.Cd.Ee ?_;intro v3 GX GB) |(refine A9 rfl (.tmp 3) rfl W1.heap.size 0 rfl _ _ (gI GB.out) ?_));refine(GG _ _ _).mono ?_;rintro e W7 ⟨rfl,N⟩;have I:=hY (GX.out.trans N);go_wp2_with fail;go_ret;exact⟨by rw[Vy HQ.o a2.o]<;>rfl,I.o⟩
end Go.Proofs.YtahhllcdbjbpbaaGreatDoor
