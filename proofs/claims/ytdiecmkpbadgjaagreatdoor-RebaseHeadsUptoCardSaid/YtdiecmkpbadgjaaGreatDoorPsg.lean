/- Steps to the theorem. -/
import Derived.Test.YtdiecmkpbadgjaaGreatDoorPsf
set_option linter.all false
set_option maxRecDepth 100000
set_option maxHeartbeats 4000000
namespace Go.Proofs.YtdiecmkpbadgjaaGreatDoor
open Go.Proofs.Tryz
open Go.RowKit Go.Maps Go.Shelf Go.Sort
attribute [local go_sem] Oper.semAt_some
theorem Qhf(w:World):(Instr.range 181 (.map none)).run prog w=.ok (.pointer (some w)) (w.alloc (.mapIter none 0 #[] 0)):=by
 simp[Instr.range,run_underlying underlying181,newObj,fe,fu,Result.andThen];rfl
variable{w:World}{r:Nat}
theorem QiQ(h:w.heap[r]? = some (.mapIter none 0 #[] 0))(ty:TypeId):(Instr.next (.pointer (some r)) false ty).run prog w=.ok (.tuple #[false]) w:=by
 have I:(getObj r).run prog w=.ok (.mapIter none 0 #[] 0) w:=by simp[getObj,Sem.run,h]
 unfold Instr.next;simp only[Sem.run_bind,Sem.run_pure,Result.andThen_ok,I]
variable{P:Program}{w':World}
theorem Qkl{H:Type}{k:TypeId}{R:Value->Option (DataW H × List MemPlace)}{b r n:Nat}{D:DataW H}{left:Lit->Bool}{cnt:Nat}(h:w.ranges P k R b r n D left cnt)(hb:w'.heap[b]? = w.heap[b]?)(hr:w'.heap[r]? = w.heap[r]?):w'.ranges P k R b r n D left cnt:=by
 obtain⟨es,N,I,Z,c0,h1,h2,h3,h4,h5,h6⟩:=h;exact⟨es,N,I,Z,c0,hb.trans h1,h2,h3,h4,hr.trans h5,h6⟩
theorem QnP{H:Type}{k:TypeId}{R:Value->Option (DataW H × List MemPlace)}{b r n:Nat}{D:DataW H}{left:Lit->Bool}{cnt:Nat}(h:w.ranges P k R b r n D left cnt):b<w/\r<w/\(∀t cs,¬Blk w b t cs):=by
 obtain⟨es,Z,N,a0,c0,h1,h2,h3,h4,h5,h6⟩:=h;refine⟨(az.1 h1).1,(az.1 h5).1,λt cs I=>?_⟩;have I:w.heap[b]? = some (.cells cs t (0,0)):=I;rw[h1]at I;cases I
structure Qva(w1:World)(B r b D:Nat)(C:AL SV)(p:ByteArray)(ks1:List ByteArray)(left:Lit->Bool)(cnt:Nat)(ss:List (List UInt8))(s:Sl)(wr:World):Prop where
 col:Qdo w1 B (ks1++Qc7 C p ss) s wr
 rg:wr.ranges prog 9 QeO b r C.length (mapA SV.val C) left cnt
 co:Collected (mapA SV.val C) left ss
 ne:s.row≠some r
 dk:wr.heap[D]? = some (.deferred (some []))
variable{H:Nat->Prop}{O:Nat}{d:OD}
theorem Qqd(h:QcK H w O d)(hl:(Qaa d.T).length<=1000000)(hn:d.us.length<=1000000){p:ByteArray}(hp:p.size<=maxLen) :
  Calls prog 197 #[.pointer (some O),p] w (QlO d p w):=by
 obtain⟨i0,hi,p1,o6,o3⟩:=eR Tryz.Qla;have hF:∀b,OvF H w O d b->b<w.heap.size:=λb Z=>Z.1
 have j7:=λW=>QnI W d.T p hp
 have p4:=λW1 (hA:Agree (Lt w) w W1) (hz:w.heap.size<=W1.heap.size) B lo hi op (hB:Qdr W1 B d.T lo hi op)=>Qqi (lo:=lo) (hi:=hi) (op:=op) (show Qgg (OvF H w O d) d.T W1 from⟨h.tree.agree (hA.mono hF),λb Z=>ab (hF b Z) hz⟩) h.ok hl hB
 obtain⟨r,k8⟩:=Qaj d.T;simp only[Qao,k8]at j7;have c0:w.cell? O=some (.pointer r):=by rw[<-k8];exact h.blk.cell 0
 have lO:=h.blk.lt;have l1:O<w.heap.size+1:=oM
 obtain⟨b9,q6,o4,p5⟩:=Ye h hF j7 p4;clear h hF j7 p4 k8;refine(eL (n:=6)).1 ?_;refine fG func197 rfl trivial ?_ rfl;simp only[ntmps197,zL,Nat.reduceAdd,Nat.reduceSub];gi_wp2_with fail;generalize p8:World.alloc (World.alloc _ _) _=W0;obtain⟨p6,v7,q3,o2⟩:=Qas w _ _ _ _ W0 p8;obtain⟨o8,r3,o0⟩:=Yc p6 q3 o2;clear p8 p6 q3 o2;refine⟨trivial,?_⟩;refine(eL.2 (o4.o W0)).mono ?_;rintro e w1 ⟨B,en,op,rfl,i1,l4,hB,q2⟩;have d8:=Bw.trans o8.o.below i1;have k7:Nw w w1:=(gj o8.o).trans (Sb.new i1);have c4:=hY (b9.o.nw k7);have l7:Blk w1 w.heap.size 151 #[.pointer (some O)]:=r3.o.agree (Agree.of_below i1 (F:=Lt W0) λ_ h=>h) (by show _<_;omega);have n8:Blk w1 (w.heap.size+1) 186 #[.slice none 0 0]:=o0.o.agree (Agree.of_below i1 (F:=Lt W0) λ_ h=>h) (by show _<_;omega);obtain⟨r6,q7,l9,t2,s9⟩:=Yf (p5.o w1 (Agree.of_below d8 (F:=Lt w) λ_ h=>h) d8.size B p en op l4) k7 l7 n8 (q2 (Qaa d.T));have x3:=l4.lt;have x6:=d8.size;have k0:w.heap.size<w1.heap.size:=l7.lt;have o1:w.heap.size+1<w1.heap.size:=n8.lt;clear i1 l4 o4 p5 d8 l7 n8 q2 r3 o0 k7;rw[s9.o]at r6;gi_wp2_with fail;refine Qg6 (gf:=256) (lb:=Qmy B) rfl (ff func256 kM rfl) r6.o (Agree.refl _) (ao _)
  (λb Z=>Z.elim (λh=>by have:=q6.o b h;omega) (λh=>oM)) (λ_=>rfl)
  (λpre C W=>∃s:Sl,C=(λb=>b=w.heap.size+1\/s.row=some b)/\Qdo w1 (w.heap.size+1) (Qi1 d.C pre) s W) (λ_ _ _=>False) (λb=>b=w.heap.size+1)
  (λb Z=>⟨oM,λh=>h.elim (λh=>by have:=q6.o b h;omega) (λh=>oM)⟩)
  (λh k=>?turn) (λh k=>h) (λW hW hz=>⟨Sl.none,by funext b;simp[Sl.row],Qdo.start t2.o hW hz⟩) ?round ?done ?stop
 case turn=>
  obtain⟨s,e,hc⟩:=h;exact⟨s,e,hc.keep k.sb oM (λb Z=>by have:=(hc.row Z).1;omega) λb Z=>oM⟩
 case stop=>
  rintro D c pre W hD x4 hX i2;exact hX.elim
 case round=>
  rintro pre C x x2 W1 ⟨s,rfl,c9⟩ t9 x8 t7 j2 hG;obtain⟨ks,N⟩:∃ks,Qi1 d.C pre=ks:=⟨_,rfl⟩;have p0:ks.length<1000000:=by
   have h1:=(ae.1 hG.at_).1;have h2:=Qmt d.C pre;have h3:(Qeo p (Qaa d.T)).length<=1000000:=ak (bD _ _) hl;rw[<-N];omega
  have v4:=hG.key;rw[N]at c9;have i9:=c9.ext j2;obtain⟨d4,e8⟩:=Yb i9 N;clear c9 i9 j2 hG t7 t9 N;gi_wp2_with fail;refine⟨gh _,λW3 k3=>?_⟩;have I:=d4.o.keep k3.sb oM (λb Z=>by have:=(d4.o.row Z).1;omega) λb Z=>oM
  have b4:=I.sb;have q0:W3.cell? w=some (.pointer (some O)):=(b4.blk l9.o oM).cell 0;have q1:W3.cell? ⟨O,1,none⟩=some (.map d.mb):=(b4.blk c4.o.blk oM).cell 1;have lq:O<W3.heap.size:=(b4.blk c4.o.blk oM).lt;have b5:Qbp W3 d.mb d.C:=c4.o.map.heap λb Z=>b4.block b (c4.o.map.lt Z) λe=>by have:=b9.o.map.lt Z;omega
  have f8:=Qlg b5 v4;have i5:=hY I;have a3:∀b,s.row=some b->w1.heap.size+2<=b/\b<W3.heap.size:=λb Z=>I.row Z
  have c3:W3.cell? ⟨w+1,0,none⟩=some (.slice s.a ks.length s.c):=I.blk.cell 0;have f3:W3.frozen? ⟨w+1,0,none⟩=false:=I.blk.frozen 0;have l3:=I.blk.lt;cases hg:QaZ d.C x.k with
  | some sv=>
    rw[hg,show Qiw d.C x.k=sv by rw[Qiw,hg];rfl]at f8;obtain⟨g8,v,sl,so⟩:=sv;have HG:=hY hg;clear hg I b4 b5;gi_wp2_with fail;have e7:=(gh W3).alloc #[.bool g8,.int .i64 v.kind,.bool v.b,.int .i64 v.i,.string v.t,.slice sl.a v.l.length sl.c,.slice so.a v.ok.length so.c] 192;exact⟨_,⟨s,rfl,by rw[QtA HG.o,e8.o];exact i5.o.ext e7⟩,e7.st _,λb Z=>.inl Z,λb Z=>by
     have:=e7.size;rcases Z with e|e
     .omega
     have:=(a3 b e).2;omega⟩
  | none=>
    rw[hg,show Qiw d.C x.k=QhY by rw[Qiw,hg];rfl]at f8;have a6:Ext W3 ((W3.alloc (.cells #[false,.int .i64 0,false,.int .i64 0,ByteArray.empty,.slice none 0 0,.slice none 0 0] 192)).alloc (.cells #[.string x.k] 9)):=((gh W3).alloc _ _).alloc _ _;have b0:=Qab I.own (a6.agree (F:=Lt W3) λb Z=>Z) λb Z=>(a3 b Z).2
    have k6:ks.length+1<=maxLen:=by unfold maxLen;omega
    have n4:(ks.length+1)*16<=140737488355328:=oM
    have v9:=I.sb.size;have d3:w1.heap.size+2<=((W3.alloc (.cells #[false,.int .i64 0,false,.int .i64 0,ByteArray.empty,.slice none 0 0,.slice none 0 0] 192)).alloc (.cells #[.string x.k] 9)).heap.size:=by have:=I.sz;simp;omega
    obtain⟨c1,d6⟩:=Yb a6 b0;have j6:=hY (show Blk ((W3.alloc (.cells #[false,.int .i64 0,false,.int .i64 0,ByteArray.empty,.slice none 0 0,.slice none 0 0] 192)).alloc (.cells #[.string x.k] 9)) (W3.heap.size+1) 9 #[.string x.k]by
     have:=gm (W3.alloc (.cells #[false,.int .i64 0,false,.int .i64 0,ByteArray.empty,.slice none 0 0,.slice none 0 0] 192)) 9 #[.string x.k];rwa[eK]at this)
    have s8:¬w.heap.size+1=W3.heap.size:=oM
    have p2:¬w.heap.size+1=W3.heap.size+1:=oM
    have t6:w.heap.size+1<W3.heap.size+1:=oM
    have k4:=hY ((a6.frozen (o:=0) l3).trans f3);have n6:s.row≠some (w.heap.size+1):=λe=>by have:=(a3 _ e).1;omega
    have HG:=hY hg;clear hg I b4 b5 a6 b0;gi_wp2_with(gi_at_builtin;refine QbS _ rfl (.tmp 32) (.tmp 34) 186 rfl (w1.heap.size+2) 9 i0 _ 1 16 underlying186 hi p1 o6 o3 rfl oN s ks.length (ks.map .string) rfl d6.o (λb=>b=W3.heap.size+1) ⟨some ⟨W3+1,0,none⟩,1⟩ 1 [.string x.k] rfl (gA j6.o oN rfl) (by simp[Value.oneCell']) k6 n4 d3 ?_;intro s3 w5 b3 a5 g5;have h5:=a5.cell0 (o:=0) c1.o n6 l3;have c5:w5.cell? ⟨w+1,0,none⟩=some (.slice s.a ks.length s.c):=h5.1.trans c3;have l5:=h5.2;have f5:w5.frozen? ⟨w+1,0,none⟩=false:=(a5.fz _ _).trans (k4.out);have n2:=hY b3;have k5:=hY a5;have j9:=hY g5;clear b3 a5 g5 h5);obtain⟨e1,e2,e3,e4⟩:=i5.o.snoc o1 c1.o n2.o k5.o j9.o;exact⟨_,⟨s3,rfl,by rw[Qr4 HG.o,e8.o];exact e1⟩,e2,λb Z=>by
     rcases Z with e|e
     .exact .inl (.inl e)
     exact(e3 b e).imp .inr id,e4⟩
 rintro D xs C W hD hS ⟨s,rfl,c9⟩ i2;have f0:=c9.sb;have q0:W.cell? w=some (.pointer (some O)):=(f0.blk l9.o oM).cell 0;have q1:W.cell? ⟨O,1,none⟩=some (.map d.mb):=(f0.blk c4.o.blk oM).cell 1;have lq:O<W.heap.size:=(f0.blk c4.o.blk oM).lt;have l0:w.heap.size<W.heap.size:=(f0.blk l9.o oM).lt;have b5:Qbp W d.mb d.C:=c4.o.map.heap λb Z=>f0.block b (c4.o.map.lt Z) λe=>by have:=b9.o.map.lt Z;omega
 have f4:(Qi1 d.C xs).length<=1000000:=by
  have h1:=Qmt d.C xs;have h2:(xs.map LE.ent).length=(Qeo p (Qaa d.T)).length:=by rw[hS]
  have h3:(Qeo p (Qaa d.T)).length<=1000000:=ak (bD _ _) hl;rw[aq]at h2;omega
 have o9:=(az.1 i2).1;obtain⟨d4,HS,q8,i6,HD⟩:=Yf c9 hS i2 b5 hD;clear c9 hS i2 b5 f0 hD;obtain⟨mb,k9⟩:∃mb,d.mb=mb:=⟨_,rfl⟩;rw[k9]at q1;have q5:=hY k9;clear k9;rcases mb with _|b
 ·have t5:=fun w=>Qhf w
  gi_wp2_with fail;generalize n7:World.alloc W _=WW;have g6:WW.heap[W.heap.size]? = some (.mapIter none 0 #[] 0):=by rw[<-n7];exact fI W _
  have d0:Nw W WW:=by rw[<-n7];exact Sb.made (World.grownBy_alloc _ _ _)
  have r1:d.C=[]:=by have:=i6.o;rw[q5.o]at this;exact this
  have a8:=Qqb (p:=p) (ss:=[]) b9.o.ok.sorted b9.o.sorted HS.o (by rw[r1];exact List.Perm.nil);have a1:=d4.o.keep (d0.any (λ_=>False)) (λe=>e) (λ_ _ e=>e) (λ_ e=>e.elim);obtain⟨ks,N⟩:∃ks,Qi1 d.C xs=ks:=⟨_,rfl⟩;rw[show Qc7 d.C p []=[]from rfl,aU,N]at a8;rw[N]at a1 f4;obtain⟨s2,rfl⟩:∃s2,s2=s:=⟨_,rfl⟩;obtain⟨b7,b6,t0,g0,c8⟩:=Yf a8 a1 g6 (show WW.heap[D]? = some (.deferred (some []))from(d0.block D o9 (λe=>e)).trans q8.o) (QgZ a1.own oM);have c5:WW.cell? ⟨w+1,0,none⟩=some (.slice s2.a ks.length s2.c):=a1.blk.cell 0;clear n7 t5 a8 a1 g6 d0 N q0 q1 lq l0 r1;gi_loopw [] (λwr=>wr=WW) (λ_=>0)
  case atStart=>rfl
  subst hrel;have w8:=QiQ t0.o;gi_wp2_with fail;refine⟨trivial,?_⟩;refine(eL.2 c8.o).mono ?_;rintro e w5 ⟨rfl,ts,g9,g3,f9,g4,a4⟩;have a9:Sb (λb=>s2.row=some b) wr w5:=⟨a4.os,a4.tape,a4.output,a4.size,λi hi hn=>a4.block i hi λe=>hn e.symm⟩;have a0:=a9.blk b6.o.blk (λe=>by have:=(b6.o.row e).1;omega);have c6:w5.cell? ⟨w+1,0,none⟩=some (.slice s2.a ks.length s2.c):=a0.cell 0;have l6:=a0.lt;have f2:=hY (show w5.heap[D]? = some (.deferred (some []))from(a9.block D (by have:=(az.1 g0.o).1;omega) (λe=>by have:=(b6.o.row e).1;have:=HD.o;omega)).trans g0.o);have a2:=Qqc q7.o (cG _) b6.o b7.o.1 b7.o.2 g9 g3 f9 a4 (St.put (o':=.deferred none) f2.o rfl rfl).sb HD.o.symm;rw[g4]at a2;have d5:=hY a2;clear a9 a0 g9 g3 f9 g4 a4 a2;gi_wp2_with fail;refine⟨oO,.inl ⟨_,_,rfl,fF f2.o,?_⟩⟩;refine⟨.slice s2.a ks.length s2.c,?_,d5.o⟩;simp[results,results197,go_sem]
 have i8:W.ownsMap prog 9 QeO b d.C.length (mapA SV.val d.C):=by
  have:=i6.o;rw[q5.o]at this;exact this
 have j0:=hY i8;clear i8;gi_wp2_with(first |(gi_at_range;refine wpListIn_range_own _ rfl _ 181 rfl 9 192 Qe2 underlying181 QeO b d.C.length _ rfl j0.o ?_;intro w2 j1 o7 t4)|fail);have d0:Nw W w2:=Sb.made o7;obtain⟨c7,j4⟩:∃c7,Qi1 d.C xs=c7:=⟨_,rfl⟩;have a1:=d4.o.keep (d0.any (λ_=>False)) (λe=>e) (λ_ _ e=>e) (λ_ e=>e.elim);rw[j4]at a1 f4;have hs:s.row≠some W.heap.size:=λe=>by have:=(d4.o.row e).2;omega
 have s4:=hY (show Qva w1 (w.heap.size+1) W.heap.size b D d.C p c7 (Maps.has (mapA SV.val d.C)) (Maps.size (mapA SV.val d.C)) [] s w2 from
  ⟨by rw[show Qc7 d.C p []=[]from rfl,aU];exact a1,j1,Collected.start _,hs,(d0.block D o9 (λe=>e)).trans q8.o⟩)
 have t8:=hY j4;have v6:w1.heap.size<=W.heap.size:=d4.o.sb.size;clear j1 o7 t4 d0 a1 hs q0 q1 lq l0 j4;go_frame;gi_loopw [] (λwr=>∃(left:Lit->Bool) (cnt:Nat) (ss:List (List UInt8)) (s2:Sl),Qva w1 (w.heap.size+1) W.heap.size b D d.C p c7 left cnt ss s2 wr) (λwr=>wr.rangeLeft b W.heap.size)
 case atStart=>exact⟨_,_,_,_,s4.o⟩
 obtain⟨left,cnt,ss,s2,hP⟩:=hrel;have i3:=hP.rg;have r9:=Qgq hP.co;have v8:=b9.o.few;have x5:=Qpk d.C p ss;have HP:=hY hP;clear hP;gi_wp2_with(first |(gi_at_next;refine wpListIn_next_ranges _ rfl _ rfl 9 Qe2 QeO encStr id (λx1 kl hk=>by obtain⟨x,hx,_⟩:=Maps.keyOf_str underlying9 hk;exact⟨x,hx⟩) (λv _ _=>⟨v,rfl⟩) b W.heap.size _ _ _ _ rfl i3 ?_ ?_)|fail)
 ·intro t3 k0
  have d7:=HP.o.co.perm j0.o Qe2 underlying9 k0;rw[QdL]at d7;have a8:=Qqb (p:=p) b9.o.ok.sorted b9.o.sorted HS.o d7;have a1:=HP.o.col;rw[t8.o]at a8;obtain⟨ks,N⟩:∃ks,c7++Qc7 d.C p ss=ks:=⟨_,rfl⟩;have p0:ks.length<=2000000:=by rw[<-N,aj];omega
  rw[N]at a8 a1;obtain⟨b7,b6,g0,c8⟩:=Ye a8 a1 HP.o.dk (QgZ a1.own oM);have c5:wr.cell? ⟨w+1,0,none⟩=some (.slice s2.a ks.length s2.c):=a1.blk.cell 0;clear i3 d7 a8 a1 N t3 k0;gi_wp2_with fail;refine⟨trivial,?_⟩;refine(eL.2 c8.o).mono ?_;rintro e w5 ⟨rfl,ts,g9,g3,f9,g4,a4⟩;have a9:Sb (λb=>s2.row=some b) wr w5:=⟨a4.os,a4.tape,a4.output,a4.size,λi hi hn=>a4.block i hi λe=>hn e.symm⟩;have a0:=a9.blk b6.o.blk (λe=>by have:=(b6.o.row e).1;omega);have c6:w5.cell? ⟨w+1,0,none⟩=some (.slice s2.a ks.length s2.c):=a0.cell 0;have l6:=a0.lt;have f2:=hY (show w5.heap[D]? = some (.deferred (some []))from(a9.block D (by have:=(az.1 g0.o).1;omega) (λe=>by have:=(b6.o.row e).1;have:=HD.o;omega)).trans g0.o);have a2:=Qqc q7.o (cG _) b6.o b7.o.1 b7.o.2 g9 g3 f9 a4 (St.put (o':=.deferred none) f2.o rfl rfl).sb HD.o.symm;rw[g4]at a2;have d5:=hY a2;clear a9 a0 g9 g3 f9 g4 a4 a2;gi_wp2_with fail;refine⟨oO,.inl ⟨_,_,rfl,fF f2.o,?_⟩⟩;refine⟨.slice s2.a ks.length s2.c,?_,d5.o⟩;simp[results,results197,go_sem]
 intro x c kl yd yp w3 r4 j3 f8 hv l8 f1 q9 r7 t1 r0;obtain⟨x',ex,rfl,v2⟩:=Maps.keyOf_str underlying9 j3;obtain rfl:=encStr_inj ex;obtain⟨sv,k2,rfl⟩:=QsW l8 hv;have f6:Sb (λi=>i=W.heap.size) wr w3:=Sb.grown r7;have a7:=HP.o.col.keep f6 oM (λi hi e=>HP.o.ne (by rw[hi,e])) (λi e=>oM);have o5:=HP.o.co.step f8 l8;obtain⟨ks,N⟩:∃ks,c7++Qc7 d.C p ss=ks:=⟨_,rfl⟩;have p0:ks.length<=2000000:=by rw[<-N,aj];omega
 rw[N]at a7;have i7:w3.heap[D]? = some (.deferred (some [])):=(f6.block D (by have:=(az.1 HP.o.dk).1;omega) (λe=>by have:=HD.o;omega)).trans HP.o.dk;obtain⟨g8,v,sl,so⟩:=sv;obtain⟨k,hk⟩:∃k,QbL x=k:=⟨_,rfl⟩;have v5:(Instr.entry (.pointer (some W))).run prog w3=.ok (.tuple #[.string k,.agg #[g8,v.kind,v.b,v.i,v.t,.slice sl.a v.l.length sl.c,.slice so.a v.ok.length so.c]]) w3:=by rw[<-hk];exact r0
 rw[hk]at k2;obtain⟨j8,k1,r2⟩:=QnP f1;have a3:∀i,s2.row=some i->w1.heap.size+2<=i/\i<w3.heap.size:=λi hi=>a7.row hi
 have e0:s2.row≠some W.heap.size:=HP.o.ne;have r8:s2.row≠some b:=λe=>by
  rcases a7.own.2 with⟨hv,-⟩ |⟨gg,x7,x0,hv,-,hc,-⟩
  ·injection hv with e1
   rw[Sl.row,e1]at e;cases e
  injection hv with e1;rw[Sl.row,e1]at e;have:gg=b:=by simpa using e
  subst this;exact r2 _ _ hc
 have v1:¬b=w.heap.size+1:=λe=>r2 _ _ (by rw[e];exact a7.blk)
 have c3:w3.cell? ⟨w+1,0,none⟩=some (.slice s2.a ks.length s2.c):=a7.blk.cell 0;have f3:w3.frozen? ⟨w+1,0,none⟩=false:=a7.blk.frozen 0;have l3:=a7.blk.lt;obtain⟨c2,v3,p9,f7,e6,e8,HK⟩:=Yh a7 o5 f1 i3 i7 N hk;obtain⟨l2,j5⟩:=Yb k2 q9;rw[show(encStr x)=Value.string k from by rw[<-hk]];clear a7 o5 f1 i3 i7 N k2 l8 hv j3 f8 r7 t1 q9 f6 v2 r0;have i4:∀(s3:Sl) (w6:World),Qdo w1 (w.heap.size+1) (c7++Qc7 d.C p (ss++[x])) s3 w6->s3.row≠some W.heap.size->w6.heap[b]? = w3.heap[b]?->w6.heap[W.heap.size]? = w3.heap[W.heap.size]?->w6.heap[D]? = w3.heap[D]?->
   Qva w1 (w.heap.size+1) W.heap.size b D d.C p c7 (λz=>left z && !z.sameKey (.string x)) r4 (ss++[x]) s3 w6:=λs3 w6 h1 h2 h3 h4 h5=>⟨h1,Qkl p9.o h3 h4,v3.o,h2,h5.trans e6.o⟩
 have g7:=hY i4;clear i4;have e7:=(gh w3).alloc #[.bool g8,.int .i64 v.kind,.bool v.b,.int .i64 v.i,.string v.t,.slice sl.a v.l.length sl.c,.slice so.a v.ok.length so.c] 192;have q4:=hY e7;clear e7;cases g8 with
 | false=>
   have n9:Qnh d.C p (QbL x)=false:=by rw[HK.o,Qk9 l2.o];rfl
   have b8:=hY (g7.o s2 _ (by rw[Ql7 n9,e8.o];exact c2.o.ext q4.o) e0 (eY _ _ _ j8) (eY _ _ _ k1) (eY _ _ _ (az.1 e6.o).1));gi_wp2_with fail;refine⟨trivial,?_⟩;gi_wp2_with fail;go_roundw
   case rel=>exact⟨_,_,_,_,b8.o⟩
   rw[b8.o.rg.left_eq,f7.o.left_eq];exact j5.o
 | true=>
   gi_wp2_with fail;refine⟨trivial,?_⟩;refine(eL.2 (Qhl _ k p)).mono ?_;rintro e w4 ⟨rfl,rfl⟩;cases r5:Qau p k with
   | false=>
     have n9:Qnh d.C p (QbL x)=false:=by rw[HK.o,Qk9 l2.o,r5];rfl
     have b8:=hY (g7.o s2 _ (by rw[Ql7 n9,e8.o];exact c2.o.ext q4.o) e0 (eY _ _ _ j8) (eY _ _ _ k1) (eY _ _ _ (az.1 e6.o).1));gi_wp2_with fail;go_roundw
     case rel=>exact⟨_,_,_,_,b8.o⟩
     rw[b8.o.rg.left_eq,f7.o.left_eq];exact j5.o
   | true=>
     have p3:Qnh d.C p (QbL x)=true:=by rw[HK.o,Qk9 l2.o,r5];rfl
     have a6:Ext w3 ((w3.alloc (.cells #[true,v.kind,v.b,v.i,v.t,.slice sl.a v.l.length sl.c,.slice so.a v.ok.length so.c] 192)).alloc (.cells #[.string k] 9)):=((gh w3).alloc _ _).alloc _ _;have b0:=Qab c2.o.own (a6.agree (F:=Lt w3) λb Z=>Z) λb Z=>(a3 b Z).2
     have k6:ks.length+1<=maxLen:=by unfold maxLen;omega
     have n4:(ks.length+1)*16<=140737488355328:=oM
     have d3:w1.heap.size+2<=((w3.alloc (.cells #[true,v.kind,v.b,v.i,v.t,.slice sl.a v.l.length sl.c,.slice so.a v.ok.length so.c] 192)).alloc (.cells #[.string k] 9)).heap.size:=by have:=c2.o.sz;simp;omega
     obtain⟨c1,d6⟩:=Yb a6 b0;have j6:=hY (show Blk ((w3.alloc (.cells #[true,v.kind,v.b,v.i,v.t,.slice sl.a v.l.length sl.c,.slice so.a v.ok.length so.c] 192)).alloc (.cells #[.string k] 9)) (w3.heap.size+1) 9 #[.string k]by
      have:=gm (w3.alloc (.cells #[true,v.kind,v.b,v.i,v.t,.slice sl.a v.l.length sl.c,.slice so.a v.ok.length so.c] 192)) 9 #[.string k];rwa[eK]at this)
     have s8:¬w.heap.size+1=w3.heap.size:=oM
     have p2:¬w.heap.size+1=w3.heap.size+1:=oM
     have t6:w.heap.size+1<w3.heap.size+1:=oM
     have k4:=hY ((a6.frozen (o:=0) l3).trans f3);have n6:s2.row≠some (w.heap.size+1):=λe=>by have:=(a3 _ e).1;omega
     clear a6 b0;gi_wp2_with(gi_at_builtin;refine QbS _ rfl (.tmp 53) (.tmp 55) 186 rfl (w1.heap.size+2) 9 i0 _ 1 16 underlying186 hi p1 o6 o3 rfl oN s2 ks.length (ks.map .string) rfl d6.o (λb=>b=w3.heap.size+1) ⟨some ⟨w3+1,0,none⟩,1⟩ 1 [.string k] rfl (gA j6.o oN rfl) (by simp[Value.oneCell']) k6 n4 d3 ?_;intro s3 w5 b3 a5 g5;have h5:=a5.cell0 (o:=0) c1.o n6 l3;have c5:w5.cell? ⟨w+1,0,none⟩=some (.slice s2.a ks.length s2.c):=h5.1.trans c3;have l5:=h5.2;have f5:w5.frozen? ⟨w+1,0,none⟩=false:=(a5.fz _ _).trans (k4.out);have n2:=hY b3;have k5:=hY a5;have j9:=hY g5;clear b3 a5 g5 h5);obtain⟨e1,e2,e3,e4⟩:=c2.o.snoc o1 c1.o n2.o k5.o j9.o;have p7:=(az.1 e6.o).1;have b8:=hY (g7.o s3 _ (by rw[Qpl p3,<-aT,e8.o,HK.o];exact e1) (λe=>by
       rcases e3 _ e with h|h
       .exact e0 h
       .omega) (e2.block b j8 λe=>by
       rcases e with e|e
       .exact v1 e
       .exact r8 e) (e2.block _ k1 λe=>by
       rcases e with e|e
       .omega
       .exact e0 e) (e2.block D p7 λe=>by
       rcases e with e|e
       .have:=HD.o;omega
       have:=(a3 _ e).1;have:=HD.o;omega))
     clear e1 e2 e3 e4;gi_wp2_with fail;go_roundw
     case rel=>exact⟨_,_,_,_,b8.o⟩
     rw[b8.o.rg.left_eq,f7.o.left_eq];exact j5.o
end Go.Proofs.YtdiecmkpbadgjaaGreatDoor
namespace Go.Proofs.YtdiecmkpbadgjaaGreatDoor
open Go.Proofs.Tryz
open Go.RowKit
theorem QcO:∀(a b:List UInt8),Lib.compareBytes a b=if Op.bytesLess a b then -1 else if Op.bytesLess b a then 1 else 0
 |[],[]=>rfl
 |[],b::v=>by simp[Lib.compareBytes,Op.bytesLess]
 |a::u,[]=>by simp[Lib.compareBytes,Op.bytesLess]
 | a :: u,b :: v=>by
   simp only[Lib.compareBytes,Op.bytesLess];by_cases h1:a<b
   .simp [h1]
   by_cases h2:b<a
   ·have I:¬a=b:=fun e=>by subst e;exact h1 h2
    have N:¬b=a:=λe=>I e.symm
    simp[h1,h2,I,N]
   have I:a=b:=UInt8.le_antisymm (UInt8.not_lt.1 h2) (UInt8.not_lt.1 h1);subst I;simp[h1,QcO u v]
theorem Qe9(a b:ByteArray):Lib.compareBytes a.data.toList b.data.toList=Qbn a b:=by
 rw[QcO];unfold Qbn klt;rw[eQ,eQ]
theorem Qif(w:World)(a b:ByteArray):Calls prog 144 #[a,b] w λe w'=>e=.returned (Qbn a b)/\w=w':=by
 rw[<-Qe9];go_in;go_wp2_with fail;rw[run_callFunc_extern func179 kM kM kM (e:=Extern.BytealgCompare.compare) kM,Lib.run_compareString];simp only[Result.andThen];rw[Oper.upon_value];go_wp2_with fail;go_ret;exact⟨rfl,rfl⟩
theorem QcB(w:World)(a b:ByteArray):Calls prog 106 #[a,b] w λe w'=>e=.returned (Qbn a b)/\w=w':=by
 have h:=Qif w a b;go_in;go_wp2_with fail;refine h.mono ?_;rintro e w1 ⟨rfl,rfl⟩;go_wp2_with fail;go_ret;exact⟨rfl,rfl⟩
theorem Qsf(w:World)(b:Bool):Calls prog 104 #[b] w λe w'=>e=.returned (.int .i64 (if b then 1 else 0))/\w=w':=by
 cases b
 all_goals
  go_in;go_wp2_with fail;go_ret;exact⟨rfl,rfl⟩
theorem QeQ(w:World)(a:Int):Calls prog 142 #[a] w λe w'=>e=.returned false/\w=w':=by
 go_in;go_wp2_with fail;go_ret;exact⟨oO,rfl⟩
theorem Qgr(w:World)(a b:Int):Calls prog 103 #[a,b] w λe w'=>e=.returned (Qcj a b)/\w=w':=by
 have a0:=QeQ w a;have Z:=QeQ w b;have I:(Qcj a b = -1/\a<b)\/(Qcj a b=1/\¬a<b/\b<a)\/(Qcj a b=0/\¬a<b/\¬b<a):=by
  unfold Qcj;split
  .exact .inl ⟨rfl,by assumption⟩
  split
  .exact .inr (.inl ⟨rfl,by assumption,by assumption⟩)
  exact .inr (.inr ⟨rfl,by assumption,by assumption⟩)
 rcases I with⟨N,h1⟩ |⟨N,h1,h2⟩ |⟨N,h1,h2⟩
 all_goals
  rw[N];clear N;go_in;go_wp2_with fail;refine a0.mono ?_;rintro e w1 ⟨rfl,rfl⟩;go_wp2_with fail;refine Z.mono ?_;rintro e w1 ⟨rfl,rfl⟩;go_wp2_with fail;go_ret;exact⟨rfl,rfl⟩
theorem Qec(w:World)(a:Int):Calls prog 143 #[a] w λe w'=>e=.returned false/\w=w':=by
 go_in;go_wp2_with fail;go_ret;exact⟨oO,rfl⟩
theorem QfM(w:World)(a b:Int):Calls prog 105 #[a,b] w λe w'=>e=.returned (Qcj a b)/\w=w':=by
 have a0:=Qec w a;have Z:=Qec w b;have I:(Qcj a b = -1/\a<b)\/(Qcj a b=1/\¬a<b/\b<a)\/(Qcj a b=0/\¬a<b/\¬b<a):=by
  unfold Qcj;split
  .exact .inl ⟨rfl,by assumption⟩
  split
  .exact .inr (.inl ⟨rfl,by assumption,by assumption⟩)
  exact .inr (.inr ⟨rfl,by assumption,by assumption⟩)
 rcases I with⟨N,h1⟩ |⟨N,h1,h2⟩ |⟨N,h1,h2⟩
 all_goals
  rw[N];clear N;go_in;go_wp2_with fail;refine a0.mono ?_;rintro e w1 ⟨rfl,rfl⟩;go_wp2_with fail;refine Z.mono ?_;rintro e w1 ⟨rfl,rfl⟩;go_wp2_with fail;go_ret;exact⟨rfl,rfl⟩
theorem Qfy(w:World)(a:Int):Calls prog 180 #[a] w λe w'=>e=.returned false/\w=w':=by
 go_in;go_wp2_with fail;go_ret;exact⟨oO,rfl⟩
theorem Qea(w:World)(a b:Int):Calls prog 145 #[a,b] w λe w'=>e=.returned (Qcj a b)/\w=w':=by
 have a0:=Qfy w a;have Z:=Qfy w b;have I:(Qcj a b = -1/\a<b)\/(Qcj a b=1/\¬a<b/\b<a)\/(Qcj a b=0/\¬a<b/\¬b<a):=by
  unfold Qcj;split
  .exact .inl ⟨rfl,by assumption⟩
  split
  .exact .inr (.inl ⟨rfl,by assumption,by assumption⟩)
  exact .inr (.inr ⟨rfl,by assumption,by assumption⟩)
 rcases I with⟨N,h1⟩ |⟨N,h1,h2⟩ |⟨N,h1,h2⟩
 all_goals
  rw[N];clear N;go_in;go_wp2_with fail;refine a0.mono ?_;rintro e w1 ⟨rfl,rfl⟩;go_wp2_with fail;refine Z.mono ?_;rintro e w1 ⟨rfl,rfl⟩;go_wp2_with fail;go_ret;exact⟨rfl,rfl⟩
def QqU(m:Nat):Prop:=∀(x y:Val),SizeOf.sizeOf x<=m->∀(w:World) (sl so sl' so':Sl),RV w (Lt w.heap.size) x sl so->RV w (Lt w.heap.size) y sl' so'->Calls prog 74 #[QbV x sl so,QbV y sl' so'] w (QbN (Qbq x y) w)
theorem Qj1(a b:Nat):∃c:Nat,(if a<b then(a:Int)else(b:Int))=(c:Int)/\(if b<a then(b:Int)else(a:Int))=(c:Int)/\c<=a/\c<=b/\(c=a\/c=b):=by
 by_cases h:a<b
 .exact ⟨a,by rw[eH h],by rw[eE oM],oM,oM,.inl rfl⟩
 by_cases I:b<a
 .exact ⟨b,by rw[eE h],by rw[eH I],oM,oM,.inr rfl⟩
 exact⟨a,by rw[eE h];omega,by rw[eE I],oM,oM,.inl rfl⟩
variable{w:World}{sl so sl' so':Sl}
theorem Qrw{m:Nat}(a7:QqU m){x y:Val}(hd:SizeOf.sizeOf x<=m+1)(h:RV w (Lt w.heap.size) x sl so)(h':RV w (Lt w.heap.size) y sl' so') :
  Calls prog 107 #[.slice sl.a x.l.length sl.c,.slice sl'.a y.l.length sl'.c,.func (.func 74) #[] #[]] w (QbN (cmpL x.l y.l) w):=by
 have HI:=hY a7;clear a7;obtain⟨k,b,i,t,l,ok,ov⟩:=x;obtain⟨k',b',i',t',l',d6,e1⟩:=y;show Calls _ _ #[.slice sl.a l.length sl.c,.slice sl'.a l'.length sl'.c,_] _ (QbN (cmpL l l') w);cases h with
 |mk bl fl bo fo cl co hl ho hov el rl ek eo ro bk bi bt nl no=>
 cases h' with
 |mk bl' fl' bo' fo' cl' co' hl' ho' hov' el' rl' ek' eo' ro' bk' bi' bt' nl' no'=>
 have b3:∀(j:Nat) (d:Val),l[j]? = some d->SizeOf.sizeOf d<=m:=λj d hj=>bv (ab (Val.QtM hj) hd)
 obtain⟨b9,c0,c1,b8,b6⟩:=Yf b3 el rl el' rl';clear b3 el rl ek eo ro hov hd el' rl' ek' eo' ro' hov';have d5:l.length<=140737488355328:=oM
 have c7:l'.length<=140737488355328:=oM
 obtain⟨mn,c4,c6,d0,d4,c9⟩:=Qj1 l.length l'.length;go_in;go_wp2_with fail;clear c4 c6;go_loopw[14] (λq wr=>∃j:Nat,q=.int .i64 j/\j<=mn/\cmpL l l'=cmpL (l.drop j) (l'.drop j)/\Ext w wr) (λq _=>mn -(intOf q).toNat)
 case atStart=>exact⟨0,rfl,aA _,rfl,gh w⟩
 obtain⟨j,rfl,hj,hp,hx⟩:=hrel;obtain⟨HP,HX⟩:=Yb hp hx;by_cases h1:j<mn
 ·have g1:(j:Int)<(mn:Int):=oM
  have g2:(j:Int)<(l.length:Int):=oM
  have g3:(j:Int)<(l'.length:Int):=oM
  obtain⟨d,hd⟩:∃d,l[j]? = some d:=⟨_,ac oM⟩;obtain⟨d',a2⟩:∃d,l'[j]? = some d:=⟨_,ac oM⟩;have HD:=hY (Qjj hd a2);have a1:Agree (Lt w.heap.size) w wr:=hx.agree λ_ h=>h
  obtain⟨sa,sc⟩:=sl;obtain⟨d7,e0⟩:=sl';obtain⟨rfl,d8,a4⟩:=hl.eq oM;obtain⟨rfl,c8,d3⟩:=hl'.eq oM;have a3:=hl.fits oM;have a0:=hl'.fits oM;obtain⟨v0,v1,v2,v3,v4,v5⟩:=(c0.o j d hd).agree a1 a3;obtain⟨b5,a8,a9,b0,b7,b4⟩:=(b8.o j d' a2).agree a1 a0;have c2:=hY (λ(W:World) (N:Ext wr W)=>
   HI.o d d' (b9.o j d hd) W _ _ _ _ (((c1.o j d hd).agree (a1.trans (N.agree λ_ h=>ab h hx.size))).mono λi hi=>ab hi (ak hx.size N.size))
    (((b6.o j d' a2).agree (a1.trans (N.agree λ_ h=>ab h hx.size))).mono λi hi=>ab hi (ak hx.size N.size)))
  have lb:bl<wr.heap.size:=ab a3 hx.size;have Z:bl'<wr.heap.size:=ab a0 hx.size;have I:=hY (show ∀W,Ext wr W->W.cell? ⟨bl,fl+j*6,none⟩=some (.int .i64 d.kind)/\W.cell? ⟨bl,fl+j*6+1,none⟩=some (.bool d.b)/\W.cell? ⟨bl,fl+j*6+2,none⟩=some (.int .i64 d.i)/\W.cell? ⟨bl,fl+j*6+3,none⟩=some (.string d.t)/\W.cell? ⟨bl,fl+j*6+4,none⟩=some (.slice (cl j).1.a d.l.length (cl j).1.c)/\W.cell? ⟨bl,fl+j*6+5,none⟩=some (.slice (cl j).2.a d.ok.length (cl j).2.c)/\W.cell? ⟨bl',fl'+j*6,none⟩=some (.int .i64 d'.kind)/\W.cell? ⟨bl',fl'+j*6+1,none⟩=some (.bool d'.b)/\W.cell? ⟨bl',fl'+j*6+2,none⟩=some (.int .i64 d'.i)/\W.cell? ⟨bl',fl'+j*6+3,none⟩=some (.string d'.t)/\W.cell? ⟨bl',fl'+j*6+4,none⟩=some (.slice (cl' j).1.a d'.l.length (cl' j).1.c)/\W.cell? ⟨bl',fl'+j*6+5,none⟩=some (.slice (cl' j).2.a d'.ok.length (cl' j).2.c)from
   λW N=>⟨(N.cell lb).trans v0,(N.cell lb).trans v1,(N.cell lb).trans v2,(N.cell lb).trans v3,(N.cell lb).trans v4,(N.cell lb).trans v5,(N.cell Z).trans b5,(N.cell Z).trans a8,(N.cell Z).trans a9,(N.cell Z).trans b0,(N.cell Z).trans b7,(N.cell Z).trans b4⟩)
  clear hp hx hd a2 a1 a3 a0 v0 v1 v2 v3 v4 v5 b5 a8 a9 b0 b7 b4;go_wp2_with fail;refine eO (S:=(λw'=>Ext wr w')) kM (((gh wr).drew)) (λhHeld=>?_);refine Qaf 0 (some 17) I hHeld ?_;refine Qaf 1 (some 18) I hHeld ?_;refine Qaf 2 (some 19) I hHeld ?_;refine Qaf 3 (some 20) I hHeld ?_;refine Qaf 4 (some 21) I hHeld ?_;refine Qaf 5 (some 22) I hHeld ?_;refine Qaf 6 (some 23) I hHeld ?_;refine Qaf 7 (some 24) I hHeld ?_;refine Qaf 8 (some 25) I hHeld ?_;refine Qac (i:=9) kM rfl (by rfl) (λK hK=>?_);go_simp
  (refine(c2.o _ hHeld).mono ?_;rintro e w2 ⟨rfl,a5⟩)
  refine hK.out _ _ (hHeld.trans a5) (λhHeld=>?_);clear hK K
  try go_frame
  refine Qaf 10 (some 8) I hHeld ?_;refine eV kM ?_ _;have a6:=hY (HX.o.trans hHeld);clear hHeld a5;by_cases hc:Qbq d d'=0
  ·have c3:(Qbq d d' != 0)=false:=by simp [hc]
   have HC:=hY hc;clear hc;go_wp2_with fail;go_roundw
   case rel=>exact⟨j+1,by go_num,h1,by rw[HP.o,HD.o,eE (by simp[HC.o])],a6.o⟩
   simp[intOf];omega
  have c3:(Qbq d d' != 0)=true:=fa.2 hc;have HC:=hY hc;clear hc;go_wp2_with fail;go_ret;rw[HP.o,HD.o,eH HC.o];exact⟨rfl,a6.o⟩
 have g1:¬(j:Int)<(mn:Int):=oM
 have HE:=hY (Qid (l:=l) (l':=l') (j:=j) oM oM oM);have a4:=Qea wr (l.length:Int) (l'.length:Int);clear hp hx;go_wp2_with fail;refine a4.mono ?_;rintro e w2 ⟨rfl,rfl⟩;go_wp2_with fail;go_ret;rw[HP.o,HE.o];exact⟨rfl,HX.o⟩
def QrQ(x y:ByteArray)(d d':Val):Int:=if Qbn x y≠0 then Qbn x y else Qbq d d'
variable{j:Nat}
theorem Qm2{l l':List Val}{k k':List ByteArray}{a b:Val}{x y:ByteArray}(ha:l[j]? = some a)(N:l'[j]? = some b)(Z:k[j]? = some x)(I:k'[j]? = some y) :
  Qe5 (l.drop j) (k.drop j) (k'.drop j) (l'.drop j)=if QrQ x y a b≠0 then QrQ x y a b else Qe5 (l.drop (j+1)) (k.drop (j+1)) (k'.drop (j+1)) (l'.drop (j+1)):=by
 rw[Qjk ha N Z I];unfold QrQ;by_cases h:Qbn x y=0<;>simp[h]
abbrev QvC(k:ByteArray)(d:Val)(sl so:Sl):Value:=.agg #[.string k,.int .i64 d.kind,.bool d.b,.int .i64 d.i,.string d.t,.slice sl.a d.l.length sl.c,.slice so.a d.ok.length so.c]
theorem Qlh{m:Nat}(Z:QqU m){d d':Val}(hd:SizeOf.sizeOf d<=m){x y:ByteArray}(h:RV w (Lt w) d sl so)(h':RV w (Lt w) d' sl' so') :
  Calls prog 109 #[QvC x d sl so,QvC y d' sl' so'] w (QbN (QrQ x y d d') w):=by
 obtain⟨a0,HT⟩:=Yb (λ(W:World) (hW:Ext w W)=>Z d d' hd W _ _ _ _ ((h.agree (hW.agree λ_ h=>h)).mono λi hi=>ab hi hW.size) ((h'.agree (hW.agree λ_ h=>h)).mono λi hi=>ab hi hW.size)) (λW=>QcB W x y);clear Z h h' hd;by_cases I:Qbn x y=0
 ·have N:QrQ x y d d'=Qbq d d':=by simp [QrQ,I]
  have a1:(Qbn x y != 0)=false:=by simp[I]
  rw[N];clear N I;go_in;go_wp2_with fail;refine(HT.o _).mono ?_;rintro e w1 ⟨rfl,rfl⟩;go_wp2_with fail;refine(a0.o _ (((gh w).alloc _ _).alloc _ _)).mono ?_;rintro e w1 ⟨rfl,hx⟩;have HX:=hY ((((gh w).alloc _ _).alloc _ _).trans hx);clear hx;go_wp2_with fail;go_ret;exact⟨rfl,HX.o⟩
 have N:QrQ x y d d'=Qbn x y:=by simp[QrQ,I]
 have a1:(Qbn x y != 0)=true:=fa.2 I;rw[N];clear N I;go_in;go_wp2_with fail;refine(HT.o _).mono ?_;rintro e w1 ⟨rfl,rfl⟩;go_wp2_with fail;go_ret;exact⟨rfl,((gh w).alloc _ _).alloc _ _⟩
theorem Qrv{m:Nat}(b7:QqU m){x y:Val}(hd:SizeOf.sizeOf x<=m+1)(h:RV w (Lt w.heap.size) x sl so)(h':RV w (Lt w.heap.size) y sl' so') :
  Calls prog 108 #[.slice so.a x.ok.length so.c,.slice so'.a y.ok.length so'.c,.func (.func 109) #[] #[]] w (QbN (Qe5 x.ov x.ok y.ok y.ov) w):=by
 have HI:=hY b7;clear b7;obtain⟨k,b,i,t,l,ok,ov⟩:=x;obtain⟨k',b',i',t',l',N,a5⟩:=y;show Calls _ _ #[.slice so.a ok.length so.c,.slice so'.a N.length so'.c,_] _ (QbN (Qe5 ov ok N a5) w);cases h with
 |mk bl fl bo fo cl co hl ho hov el rl ek eo ro bk bi bt nl no=>
 cases h' with
 |mk bo' fo' bo' fo' cl' co' hl' ho' hov' el' rl' ek' eo' ro' bk' bi' bt' nl' no'=>
 have c1:∀(j:Nat) (d:Val),ov[j]? = some d->SizeOf.sizeOf d<=m:=λj d hj=>bv (ab (Val.QtN hj) hd)
 obtain⟨d0,d3,d7,b5,b9,d4,c4⟩:=Yh c1 eo ro eo' ro' ek ek';obtain⟨a7,a3⟩:=Yb hov hov';clear c1 el rl ek eo ro hov hd el' rl' ek' eo' ro' hov';have e7:ok.length<=140737488355328:=oM
 have e0:N.length<=140737488355328:=oM
 obtain⟨mn,d6,d8,e3,e6,e2⟩:=Qj1 ok.length N.length;go_in;go_wp2_with fail;clear d6 d8;go_loopw[14] (λq wr=>∃j:Nat,q=.int .i64 j/\j<=mn/\Qe5 ov ok N a5=Qe5 (ov.drop j) (ok.drop j) (N.drop j) (a5.drop j)/\Ext w wr) (λq _=>mn -(intOf q).toNat)
 case atStart=>exact⟨0,rfl,aA _,rfl,gh w⟩
 obtain⟨j,rfl,hj,hp,hx⟩:=hrel;obtain⟨HP,HX⟩:=Yb hp hx;by_cases h1:j<mn
 ·have g1:(j:Int)<(mn:Int):=oM
  have g2:(j:Int)<(ok.length:Int):=oM
  have g3:(j:Int)<(N.length:Int):=oM
  obtain⟨d,hd⟩:∃d,ov[j]? = some d:=⟨_,ac (by rw[a7.o];omega)⟩;obtain⟨x,a9⟩:∃d,ok[j]? = some d:=⟨_,ac oM⟩;obtain⟨x',a4⟩:∃d,N[j]? = some d:=⟨_,ac oM⟩;obtain⟨d',a6⟩:∃d,a5[j]? = some d:=⟨_,ac (by rw[a3.o];omega)⟩;have HD:=hY (Qm2 hd a6 a9 a4);have a1:Agree (Lt w.heap.size) w wr:=hx.agree λ_ h=>h
  obtain⟨sa,sc⟩:=so;obtain⟨e8,f1⟩:=so';obtain⟨rfl,f0,b0⟩:=ho.eq oM;obtain⟨rfl,e1,e4⟩:=ho'.eq oM;have a8:=ho.fits oM;have a2:=ho'.fits oM;obtain⟨v0,v1,v2,v3,v4,v5⟩:=(d3.o j d hd).agree a1 a8;obtain⟨c8,b8,c2,c3,c9,c6⟩:=(b5.o j d' a6).agree a1 a2;have kx:=(a1.cell a8).trans (d4.o j x a9).1;have b4:=(a1.cell a2).trans (c4.o j x' a4).1;obtain⟨c,c0⟩:∃c,QrQ x x' d d'=c:=⟨_,rfl⟩;have c7:=hY (λ(W:World) (Z:Ext wr W)=>
   Qlh HI.o (d0.o j d hd) (x:=x) (y:=x') (((d7.o j d hd).agree (a1.trans (Z.agree λ_ h=>ab h hx.size))).mono λi hi=>ab hi (ak hx.size Z.size))
    (((b9.o j d' a6).agree (a1.trans (Z.agree λ_ h=>ab h hx.size))).mono λi hi=>ab hi (ak hx.size Z.size)))
  have lb:bo<wr.heap.size:=ab a8 hx.size;have a0:bo'<wr.heap.size:=ab a2 hx.size;have I:=hY (show ∀W,Ext wr W->W.cell? ⟨bo,fo+j*7,none⟩=some (.string x)/\W.cell? ⟨bo,fo+j*7+1,none⟩=some (.int .i64 d.kind)/\W.cell? ⟨bo,fo+j*7+2,none⟩=some (.bool d.b)/\W.cell? ⟨bo,fo+j*7+3,none⟩=some (.int .i64 d.i)/\W.cell? ⟨bo,fo+j*7+4,none⟩=some (.string d.t)/\W.cell? ⟨bo,fo+j*7+5,none⟩=some (.slice (co j).1.a d.l.length (co j).1.c)/\W.cell? ⟨bo,fo+j*7+6,none⟩=some (.slice (co j).2.a d.ok.length (co j).2.c)/\W.cell? ⟨bo',fo'+j*7,none⟩=some (.string x')/\W.cell? ⟨bo',fo'+j*7+1,none⟩=some (.int .i64 d'.kind)/\W.cell? ⟨bo',fo'+j*7+2,none⟩=some (.bool d'.b)/\W.cell? ⟨bo',fo'+j*7+3,none⟩=some (.int .i64 d'.i)/\W.cell? ⟨bo',fo'+j*7+4,none⟩=some (.string d'.t)/\W.cell? ⟨bo',fo'+j*7+5,none⟩=some (.slice (co' j).1.a d'.l.length (co' j).1.c)/\W.cell? ⟨bo',fo'+j*7+6,none⟩=some (.slice (co' j).2.a d'.ok.length (co' j).2.c)from
   λW Z=>⟨(Z.cell lb).trans kx,(Z.cell lb).trans v0,(Z.cell lb).trans v1,(Z.cell lb).trans v2,(Z.cell lb).trans v3,(Z.cell lb).trans v4,(Z.cell lb).trans v5,(Z.cell a0).trans b4,(Z.cell a0).trans c8,(Z.cell a0).trans b8,(Z.cell a0).trans c2,(Z.cell a0).trans c3,(Z.cell a0).trans c9,(Z.cell a0).trans c6⟩)
  rw[c0]at HD c7;clear c0 kx b4 a9 a4 hp hx hd a6 a1 a8 a2 v0 v1 v2 v3 v4 v5 c8 b8 c2 c3 c9 c6;go_wp2_with fail;refine eO (S:=(λw'=>Ext wr w')) kM (((gh wr).drew)) (λhHeld=>?_);refine Qaf 0 (some 17) I hHeld ?_;refine Qaf 1 (some 18) I hHeld ?_;refine Qaf 2 (some 19) I hHeld ?_;refine Qaf 3 (some 20) I hHeld ?_;refine Qaf 4 (some 21) I hHeld ?_;refine Qaf 5 (some 22) I hHeld ?_;refine Qaf 6 (some 23) I hHeld ?_;refine Qaf 7 (some 24) I hHeld ?_;refine Qaf 8 (some 25) I hHeld ?_;refine Qac (i:=9) kM rfl (by rfl) (λK hK=>?_);go_simp
  (refine(c7.o _ hHeld).mono ?_;rintro e w2 ⟨rfl,b3⟩)
  refine hK.out _ _ (hHeld.trans b3) (λhHeld=>?_);clear hK K
  try go_frame
  refine Qaf 10 (some 8) I hHeld ?_;refine eV kM ?_ _;have b6:=hY (HX.o.trans hHeld);clear hHeld b3;by_cases hc:c=0
  ·have d5:(c != 0)=false:=by simp [hc]
   have HC:=hY hc;clear hc;go_wp2_with fail;go_roundw
   case rel=>exact⟨j+1,by go_num,h1,by rw[HP.o,HD.o,eE (by simp[HC.o])],b6.o⟩
   simp[intOf];omega
  have d5:(c != 0)=true:=fa.2 hc;have HC:=hY hc;clear hc;go_wp2_with fail;go_ret;rw[HP.o,HD.o,eH HC.o];exact⟨rfl,b6.o⟩
 have g1:¬(j:Int)<(mn:Int):=oM
 have HE:=hY (Qie (l:=ov) (l':=a5) (k:=ok) (k':=N) (j:=j) (by rw[a7.o,a3.o];omega) (by rw[a7.o];omega) (by rw[a3.o];omega));have b0:=Qea wr (ok.length:Int) (N.length:Int);clear hp hx;go_wp2_with fail;refine b0.mono ?_;rintro e w2 ⟨rfl,rfl⟩;go_wp2_with fail;go_ret;rw[HP.o,HE.o,a7.o,a3.o];exact⟨rfl,HX.o⟩
def QkV(b:Bool):Int:=if b then 1 else 0
theorem QoE(a b:Bool):Qcj (QkV a) (QkV b)=Qjg a b:=by cases a<;>cases b<;>rfl
structure BxS(w:World)(b b':Bool)(W:World):Prop where
 ext:Ext w W
 b0:∃v0 v2 v3 v4 v5,Blk W w.heap.size 34 #[v0,.bool b,v2,v3,v4,v5]
 b1:∃v0 v2 v3 v4 v5,Blk W (w.heap.size+1) 34 #[v0,.bool b',v2,v3,v4,v5]
variable{W:World}
theorem BxS.drew{b I:Bool}(h:BxS w b I W):BxS w b I W.drew:=by
 obtain⟨h1,⟨a0,a2,a3,a4,a5,Z⟩,⟨c0,c2,c3,c4,c5,N⟩⟩:=h;exact⟨h1.drew,⟨_,_,_,_,_,Z.ext ((gh W).drew)⟩,⟨_,_,_,_,_,N.ext ((gh W).drew)⟩⟩
theorem BxS.at0{b N:Bool}(h:BxS w b N W):∃u,W.cell? ⟨w,2,none⟩=some u/\W.frozen? ⟨w,2,none⟩=false/\w.heap.size<W.heap.size:=by
 obtain⟨h1,⟨a0,a2,Z,a4,a5,I⟩,-⟩:=h;exact⟨_,I.cell 2,I.frozen 2,I.lt⟩
theorem BxS.at1{b N:Bool}(h:BxS w b N W):∃u,W.cell? ⟨w+1,2,none⟩=some u/\W.frozen? ⟨w+1,2,none⟩=false/\w.heap.size+1<W.heap.size:=by
 obtain⟨h1,-,⟨a0,a2,Z,a4,a5,I⟩⟩:=h;exact⟨_,I.cell 2,I.frozen 2,I.lt⟩
theorem BxS.set0{b I:Bool}(h:BxS w b I W)(v:Value):BxS w b I (W.setCell ⟨w,2,none⟩ v):=by
 obtain⟨h1,⟨a0,a2,a3,a4,a5,Z⟩,⟨c0,c2,c3,c4,c5,N⟩⟩:=h;exact⟨h1.setCell (p:=⟨w,2,none⟩) (ao _) v,⟨_,_,_,_,_,Z.QbH 2 v⟩,⟨_,_,_,_,_,((gB (λb=>b=w.heap.size) W).set (p:=⟨w,2,none⟩) (.inr rfl) v).blk N oM⟩⟩
theorem BxS.set1{b I:Bool}(h:BxS w b I W)(v:Value):BxS w b I (W.setCell ⟨w+1,2,none⟩ v):=by
 obtain⟨h1,⟨a0,a2,a3,a4,a5,Z⟩,⟨c0,c2,c3,c4,c5,N⟩⟩:=h;exact⟨h1.setCell (p:=⟨w+1,2,none⟩) oO v,⟨_,_,_,_,_,((gB (λb=>b=w.heap.size+1) W).set (p:=⟨w+1,2,none⟩) (.inr rfl) v).blk Z oM⟩,⟨_,_,_,_,_,N.QbH 2 v⟩⟩
theorem BxS.ends{b b':Bool}(h:BxS w b b' W)(v I:Value):((W.setCell ⟨w,2,none⟩ v).setCell ⟨w+1,2,none⟩ I).cell? ⟨w,2,none⟩=some v/\((W.setCell ⟨w,2,none⟩ v).setCell ⟨w+1,2,none⟩ I).cell? ⟨w+1,2,none⟩=some I:=by
 obtain⟨h1,⟨a0,a2,a3,a4,a5,ha⟩,-⟩:=h.set0 v;obtain⟨-,⟨b0,b2,b3,b4,b5,hb⟩,⟨c0,c2,c3,c4,c5,hc⟩⟩:=h;have N:=((gB (λb=>b=w.heap.size) W).set (p:=⟨w,2,none⟩) (.inr rfl) v).blk hc oM;have a1:=hb.QbH 2 v;have Z:=((gB (λb=>b=w.heap.size+1) (W.setCell ⟨w,2,none⟩ v)).set (p:=⟨w+1,2,none⟩) (.inr rfl) I).blk a1 oM;exact⟨Z.cell 2,(N.QbH 2 I).cell 2⟩
theorem Qqj(w:World)(b:Bool):Calls prog 104 #[b] w λe w'=>e=.returned (QkV b)/\w=w':=Qsf w b
theorem Qs0(m:Nat):QqU m:=by
 induction m with
 |zero=>intro d y hd;have:=Val.Qb6 d;omega
 |succ m ih=>
 intro x y hd w sl so sl' so' h h';have hv:=λ(W:World) (hW:Ext w W)=>Qrw ih hd ((h.agree (hW.agree λ_ h=>h)).mono λi hi=>ab hi hW.size) ((h'.agree (hW.agree λ_ h=>h)).mono λi hi=>ab hi hW.size)
 have hm:=λ(W:World) (hW:Ext w W)=>Qrv ih hd ((h.agree (hW.agree λ_ h=>h)).mono λi hi=>ab hi hW.size) ((h'.agree (hW.agree λ_ h=>h)).mono λi hi=>ab hi hW.size)
 clear ih h h' hd;obtain⟨k,b,i,t,l,ok,ov⟩:=x;obtain⟨k',b',i',t',l',Z,a6⟩:=y;obtain⟨HV,HM⟩:=Yb (show ∀(W:World) (hW:Ext w W),Calls prog 107 #[.slice sl.a l.length sl.c,.slice sl'.a l'.length sl'.c,.func (.func 74) #[] #[]] W (QbN (cmpL l l') W)from hv) (show ∀(W:World) (hW:Ext w W),Calls prog 108 #[.slice so.a ok.length so.c,.slice so'.a Z.length so'.c,.func (.func 109) #[] #[]] W (QbN (Qe5 ov ok Z a6) W)from hm);show Calls _ _ #[.agg #[k,b,i,t,.slice sl.a l.length sl.c,.slice so.a ok.length so.c],.agg #[k',b',i',t',.slice sl'.a l'.length sl'.c,.slice so'.a Z.length so'.c]] _ _;have a7:Qbq (.mk k b i t l ok ov) (.mk k' b' i' t' l' Z a6)=if k≠k' then Qcj k k' else if k=2 then Qjg b b' else if k=3 then Qcj i i' else if k=4 then Qbn t t' else if k=5 then cmpL l l' else if k=6 then Qe5 ov ok Z a6 else 0:=by
  simp only[Qbq,Val.kind,Val.b,Val.i,Val.t,Val.l,Val.ok,Val.ov];rfl
 rw[a7];clear a7 hv hm;have b3:Ext w ((w.alloc (.cells #[k,b,i,t,.slice sl.a l.length sl.c,.slice so.a ok.length so.c] 34)).alloc (.cells #[k',b',i',t',.slice sl'.a l'.length sl'.c,.slice so'.a Z.length so'.c] 34)):=((gh w).alloc _ _).alloc _ _;obtain⟨I,HK,HI,HT,HR⟩:=Yf b3 (λW=>Qgr W k k') (λW a b=>QfM W a b) (λW=>QcB W t t') (λW (b:Bool)=>Qqj W b);clear b3;by_cases a1:k=k'
 ·subst a1
  have b8:(k != k)=false:=oO
  rw[eE oO];by_cases h2:k=2
  ·subst h2
   rw[eH rfl,<-QoE];clear I;go_in;go_wp2_with fail;generalize b6:World.alloc (World.alloc _ _) _=W0;obtain⟨b5,b7,a9,a8⟩:=Qas w _ _ _ _ W0 b6;clear b6;have b0:BxS w b b' W0:=⟨b5,⟨_,_,_,_,_,a9⟩,⟨_,_,_,_,_,a8⟩⟩;have N:=hY (show ∀W,BxS w b b' W->W.cell? ⟨w.heap.size,1,none⟩=some (.bool b)/\W.cell? ⟨w.heap.size+1,1,none⟩=some (.bool b') fromλW hW=>by
    obtain⟨-,⟨a0,a2,a3,a4,a5,ha⟩,⟨c0,c2,c3,c4,c5,hc⟩⟩:=hW;exact⟨ha.cell 1,hc.cell 1⟩)
   have b4:=hY b0;clear b5 a9 a8 b0 b7;refine eO (S:=(λw'=>BxS w b b' w')) kM ((b4.o.drew)) (λhHeld=>?_);refine Qaf 0 (some 27) N hHeld ?_;refine Qaf 1 (some 28) N hHeld ?_;refine Qaf 3 (some 30) N hHeld ?_;refine Qaf 4 (some 31) N hHeld ?_;refine Qac (i:=2) kM rfl (by rfl) (λK hK=>?_);go_simp
   (refine(HR.o _ b).mono ?_;rintro e w1 ⟨rfl,rfl⟩)
   refine hK.out _ _ (hHeld) (λhHeld=>?_);clear hK K
   try go_frame
   refine Qaf 6 (some 33) N hHeld ?_;refine Qac (i:=5) kM rfl (by rfl) (λK hK=>?_);go_simp
   (refine(HR.o _ b').mono ?_;rintro e w1 ⟨rfl,rfl⟩)
   refine hK.out _ _ (hHeld) (λhHeld=>?_);clear hK K
   try go_frame
   obtain⟨u7,c7,f7,l7⟩:=hHeld.at0;refine Qac (i:=7) kM rfl (by rfl) (λK hK=>?_);go_simp
   skip
   refine hK.out _ _ (hHeld.set0 _) (λhHeld=>?_);clear hK K
   try go_frame
   refine Qaf 8 (some 34) N hHeld ?_;obtain⟨u9,c9,f9,l9⟩:=hHeld.at1;refine Qac (i:=9) kM rfl (by rfl) (λK hK=>?_);go_simp
   skip
   refine hK.out _ _ (hHeld.set1 _) (λhHeld=>?_);clear hK K
   try go_frame
   refine eV kM ?_ _;have HH:=hY hHeld;obtain⟨q0,q1⟩:=b4.o.ends (.int .i64 (QkV b)) (.int .i64 (QkV b'));clear hHeld;generalize (W0.setCell ⟨w.heap.size,2,none⟩ (.int .i64 (QkV b))).setCell ⟨w.heap.size+1,2,none⟩ (.int .i64 (QkV b'))=W9 at *;go_wp2_with fail;refine(HI.o _ _ _).mono ?_;rintro e w2 ⟨rfl,rfl⟩;go_wp2_with fail;go_ret;exact⟨rfl,HH.o.ext⟩
  have d0:(k==2)=false:=eJ.2 h2;by_cases h3:k=3
  ·subst h3
   rw[eE h2,eH rfl];clear h2;go_in;go_wp2_with fail;refine(HI.o _ _ _).mono ?_;rintro e w2 ⟨rfl,rfl⟩;go_wp2_with fail;go_ret;exact⟨rfl,I.o⟩
  have c6:(k==3)=false:=eJ.2 h3;by_cases h4:k=4
  ·subst h4
   rw[eE h2,eE h3,eH rfl];clear h2 h3;go_in;go_wp2_with fail;refine(HT.o _).mono ?_;rintro e w2 ⟨rfl,rfl⟩;go_wp2_with fail;go_ret;exact⟨rfl,I.o⟩
  have c1:(k==4)=false:=eJ.2 h4;rw[eE h2,eE h3,eE h4];by_cases h5:k=5
  ·subst h5
   rw[eH rfl];clear h2 h3 h4;go_in;go_wp2_with fail;refine(HV.o _ I.o).mono ?_;rintro e w2 ⟨rfl,hx⟩;have HX:=hY hx;clear hx;go_wp2_with fail;go_ret;exact⟨rfl,I.o.trans HX.o⟩
  have b9:(k==5)=false:=eJ.2 h5;rw[eE h5];by_cases h6:k=6
  ·subst h6
   rw[eH rfl];clear h2 h3 h4 h5;go_in;go_wp2_with fail;refine(HM.o _ I.o).mono ?_;rintro e w2 ⟨rfl,hx⟩;have HX:=hY hx;clear hx;go_wp2_with fail;go_ret;exact⟨rfl,I.o.trans HX.o⟩
  have c8:(k==6)=false:=eJ.2 h6;rw[eE h6];clear h2 h3 h4 h5 h6;go_in;go_wp2_with fail;go_ret;exact⟨rfl,I.o⟩
 have b8:(k != k')=true:=fa.2 a1;rw[eH a1];clear a1;go_in;go_wp2_with fail;refine(HK.o _).mono ?_;rintro e w2 ⟨rfl,rfl⟩;go_wp2_with fail;go_ret;exact⟨rfl,I.o⟩
def Holds(keep f:Nat)(xs ring:List Value):Prop:=∀j,j<xs.length->xs.length<=j+keep->ring[(f+j)%keep]? = xs[j]?
def pk(i:Int):Nat:=(IntKind.u64.wrap i%5).toNat
theorem QaV.det{b o:Nat}{d d':Val}(h:QaV w b o d sl so)(I:QaV w b o d' sl' so') :
  d.kind=d'.kind/\d.b=d'.b/\d.i=d'.i/\d.t=d'.t/\d.l.length=d'.l.length/\d.ok.length=d'.ok.length/\sl=sl'/\so=so':=by
 have e0:=h.c0.symm.trans I.c0;have e1:=h.c1.symm.trans I.c1;have e2:=h.c2.symm.trans I.c2;have Z:=h.c3.symm.trans I.c3;have N:=h.c4.symm.trans I.c4;have e5:=h.c5.symm.trans I.c5;obtain⟨a,c⟩:=sl;obtain⟨a',c'⟩:=sl';obtain⟨f,g⟩:=so;obtain⟨f',g'⟩:=so';simp only[Option.some.injEq,Value.int.injEq,Value.bool.injEq,Value.string.injEq,Value.slice.injEq,true_and]at e0 e1 e2 Z N e5;obtain⟨rfl,N,rfl⟩:=N;obtain⟨rfl,e5,rfl⟩:=e5;exact⟨e0,e1,e2,Z,N,e5,rfl,rfl⟩
variable{F F':Nat->Prop}{s:Sl}
theorem Qd5.same{n b o I o':Nat}(h:Qd5 F s n b o)(Z:Qd5 F' s n I o')(N:0<n):b=I/\o=o':=by
 have e:=(h.eq N).1.symm.trans (Z.eq N).1;simpa using e
theorem Val.QlZ{d d':Val}(h1:d.kind=d'.kind)(h2:d.b=d'.b)(N:d.i=d'.i)(I:d.t=d'.t)(Z:d.l=d'.l)(h6:d.ok=d'.ok)(h7:d.ov=d'.ov):d=d':=by
 cases d;cases d';simp only[Val.kind,Val.b,Val.i,Val.t,Val.l,Val.ok,Val.ov]at *
 subst_vars;rfl
theorem RV.det(m:Nat):∀{d d':Val} {sl so:Sl},SizeOf.sizeOf d<=m->RV w F d sl so->RV w F' d' sl so->d.l.length=d'.l.length->d.ok.length=d'.ok.length->d.l=d'.l/\d.ok=d'.ok/\d.ov=d'.ov:=by
 induction m with
 |zero=>intro d _ _ _ hm;have:=Val.Qb6 d;omega
 | succ m ih=>
   intro d d' sl so hm h h' a1 a0;cases h with
   |@mk kind vb vi vt l ok ov _ _ bl fl bo fo cl co hl ho hov el rl ek eo ro=>
   cases h' with
   |@mk kind' vb' vi' vt' l' ok' ov' _ _ bl' fl' bo' fo' cl' co' hl' ho' hov' el' rl' ek' eo' ro'=>
   have a2:∀{b o:Nat} {x N:Val} {s s' t t':Sl},SizeOf.sizeOf x<=m->QaV w b o x s t->QaV w b o N s' t'->RV w F x s t->RV w F' N s' t'->x=N:=λhs c c' r r'=>by
    obtain⟨h1,h2,h3,h4,h5,h6,rfl,rfl⟩:=c.det c';obtain⟨k1,k2,k3⟩:=ih hs r r' h5 h6;exact Val.QlZ h1 h2 h3 h4 k1 k2 k3
   simp only[Val.l,Val.ok,Val.ov]at a1 a0 ⊢;refine⟨List.ext_getElem? λj=>?_,bI λj=>?_,bI λj=>?_⟩
   ·by_cases hj:j<l.length
    ·obtain ⟨x,Z⟩:∃ x,l[j]? = some x:=⟨_,ac hj⟩
     obtain⟨N,I⟩:∃N,l'[j]? = some N:=⟨_,ac oM⟩;obtain⟨rfl,rfl⟩:=hl.same (a1▸hl') oM;rw[Z,I,a2 (by have:=Val.QtM (k:=kind) (b:=vb) (i:=vi) (t:=vt) (ok:=ok) (ov:=ov) Z;omega) (el j x Z) (el' j N I) (rl j x Z) (rl' j N I)]
    rw[aI oM,aI oM]
   ·by_cases hj:j<ok.length
    ·obtain ⟨x,Z⟩:∃ x,ok[j]? = some x:=⟨_,ac hj⟩
     obtain⟨N,I⟩:∃N,ok'[j]? = some N:=⟨_,ac oM⟩;obtain⟨rfl,rfl⟩:=ho.same (a0▸ho') oM;have e:=(ek j x Z).1.symm.trans (ek' j N I).1;simp only[Option.some.injEq,Value.string.injEq]at e;rw[Z,I,e]
    rw[aI oM,aI oM]
   by_cases hj:j<ov.length
   ·obtain ⟨x,Z⟩:∃ x,ov[j]? = some x:=⟨_,ac hj⟩
    obtain⟨N,I⟩:∃N,ov'[j]? = some N:=⟨_,ac oM⟩;obtain⟨rfl,rfl⟩:=ho.same (a0▸ho') oM;rw[Z,I,a2 (by have:=Val.QtN (k:=kind) (b:=vb) (i:=vi) (t:=vt) (l:=l) (ok:=ok) Z;omega) (eo j x Z) (eo' j N I) (ro j x Z) (ro' j N I)]
   rw[aI oM,aI oM]
variable{xs ys:List LE}
theorem ES.det(h:ES w F s xs)(h':ES w F' s ys)(hl:xs.length=ys.length):xs.map LE.ent=ys.map LE.ent:=by
 refine bI λj=>?_
 rw[ar,ar];by_cases hj:j<xs.length
 ·obtain ⟨x,N⟩:∃ x,xs[j]? = some x:=⟨_,ac hj⟩
  obtain⟨y,Z⟩:∃y,ys[j]? = some y:=⟨_,ac oM⟩;obtain⟨b,o,ha,-,-,-,k1,c1,r1,-⟩:=h.at N;obtain⟨b',o',I,-,-,-,k2,c2,r2,-⟩:=h'.at Z;obtain⟨rfl,rfl⟩:b=b'/\o=o':=by have:=ha.symm.trans I;simpa using this
  have e:=k1.symm.trans k2;simp only[Option.some.injEq,Value.string.injEq]at e;obtain⟨xk,xv,a3,a1⟩:=x;obtain⟨yk,yv,a2,a0⟩:=y;obtain⟨h1,h2,h3,h4,h5,h6,e7,e8⟩:=c1.det c2;dsimp only at *;subst e7 e8;obtain⟨q1,q2,q3⟩:=RV.det _ (ao _) r1 r2 h5 h6;rw[N,Z];simp only[Option.map_some,LE.ent,e,Val.QlZ h1 h2 h3 h4 q1 q2 q3]
 rw[aI oM,aI oM]
theorem IsN.heights{h I:Nat}{t:PT h}{N:PT I}(a:IsN w F h t)(b:IsN w F' I N)(e:addr h t=addr I N):h=I:=by
 obtain⟨-,_,_,_,_,-,h1⟩:=a.cells;obtain⟨-,_,_,_,_,-,h2⟩:=b.cells;rw[e]at h1;have:=h1.c7.2.2.1.symm.trans h2.c7.2.2.1;simp only[Option.some.injEq,Value.int.injEq,true_and]at this;omega
theorem IsN.det{w:World}{F F':Nat->Prop}:∀{h:Nat} {t t':PT h},IsN w F h t->IsN w F' h t'->addr h t=addr h t'->t=t'
 | 0,(a,es),(a',es'),⟨_,s,xs,h2,h3,N⟩,⟨_,s',xs',h2',h3',I⟩,e=>by
   have e:a=a':=e;subst e;have c:=(h2.c7.1).symm.trans h2'.c7.1;simp only[Option.some.injEq,Value.slice.injEq]at c;obtain⟨sa,sc⟩:=s;obtain⟨a2,a3⟩:=s';dsimp only at c;obtain⟨rfl,hl,rfl⟩:=c;have:=h3.det h3' hl;have N:xs.map LE.ent=es:=N;have I:xs'.map LE.ent=es':=I;rw[<-N,<-I,this]
 | h+1,(a,ks),(a',Z),⟨_,s,h2,h3,N⟩,⟨_,s',h2',h3',I⟩,e=>by
   have e:a=a':=e;subst e;have c:=(h2.c7.2.1).symm.trans h2'.c7.2.1;simp only[Option.some.injEq,Value.slice.injEq]at c;obtain⟨sa,sc⟩:=s;obtain⟨a2,a3⟩:=s';dsimp only at c;obtain⟨rfl,hl,rfl⟩:=c;have N:∀k∈ks,IsN w F h k:=N;have I:∀k∈Z,IsN w F' h k:=I;have a1:ks=Z:=by
    refine bI λj=>?_
    by_cases hj:j<ks.length
    ·obtain ⟨x,hx⟩:∃ x,ks[j]? = some x:=⟨_,ac hj⟩
     obtain⟨y,hy⟩:∃y,Z[j]? = some y:=⟨_,ac oM⟩;obtain⟨b,o,ha,-,-,-,k1⟩:=Rd.QcV h3 hx;obtain⟨b',o',a0,-,-,-,k2⟩:=Rd.QcV h3' hy;obtain⟨rfl,rfl⟩:b=b'/\o=o':=by have:=ha.symm.trans a0;simpa using this
     have e:=k1.symm.trans k2;simp only[Option.some.injEq,Value.pointer.injEq,Addr.mk.injEq,and_true]at e;rw[hx,hy,IsN.det (N x (am hx)) (I y (am hy)) e]
    rw[aI oM,aI oM]
   rw[a1]
theorem Qdk{x y:Val}(h:RV w (Lt w) x sl so)(h':RV w (Lt w) y sl' so') :
  Calls prog 49 #[QbV x sl so,QbV y sl' so'] w λe w'=>e=.returned (.bool (decide (Qbq x y=0)))/\Ext w w':=by
 have hc:∀W,Ext w W->Calls prog 74 #[QbV x sl so,QbV y sl' so'] W (QbN (Qbq x y) W):=λW Z=>
  Qs0 _ x y (ao _) W _ _ _ _ ((h.agree (Z.agree λ_ h=>h)).mono λi hi=>ab hi Z.size) ((h'.agree (Z.agree λ_ h=>h)).mono λi hi=>ab hi Z.size)
 have HC:=hY hc;have hb:(Qbq x y==0)=decide (Qbq x y=0):=by by_cases h:Qbq x y=0<;>simp[h]
 have HB:=hY hb;clear hc h h' hb;obtain⟨k,b,i,t,l,ok,ov⟩:=x;obtain⟨k',b',i',t',l',a1,a4⟩:=y;go_in;go_wp2_with fail;generalize N:World.alloc (World.alloc _ _) _=W0;obtain⟨I,a0,a3,a2⟩:=Qas w _ _ _ _ W0 N;clear N;refine(HC.o _ I).mono ?_;rintro e w1 ⟨rfl,hx⟩;go_wp2_with fail;go_ret;exact⟨rfl,I.trans hx⟩
open Go.Maps Go.Shelf
variable{C:AL SV}
theorem QrI{mb:Option Nat}(hm:Qbp W mb C){k:ByteArray}(hk:k.size<=maxLen) :
  (Instr.lookup 181 (.map mb) (.string k) false).run prog W=.ok (Qiw C k).val W:=by
 cases mb with
 | none=>
   have hC:C=[]:=hm;subst hC;rw[Maps.look_nil false Qe2 underlying181 (Qgd W) (QtW k hk)];rfl
 | some b=>
   obtain⟨es,a0,hb,F,hs,hD⟩:=hm;rcases Maps.fit_look false Qe2 underlying181 (Qgd W) hb F (QtW k hk)with⟨I,_,N⟩ |⟨e0,y,_,_,I,Z,N,_⟩
   ·rw [I]
    have h1:=N .nil;rw[<-hD,Qgh]at h1;unfold Qiw;cases hg:QaZ C k with
    |none=>rfl
    |some s=>rw[hg]at h1;cases h1
   rw[I];have h1:=N .nil;rw[<-hD,Qgh]at h1;have h2:=N (.held (.bool true));rw[<-hD,Qgh]at h2;unfold Qiw;cases hg:QaZ C k with
   |none=>rw[hg]at h1 h2;rw[<-h1]at h2;cases h2
   | some s=>
     rw[hg]at h1;obtain⟨y1,y2⟩:=y;dsimp only at h1;rw[<-h1]at Z;rw[QeP Z];rfl
theorem Qld(hC:Qay C){ss:List (List UInt8)}(hp:ss.Perm (strKeys (mapA SV.val C))):(ss.mergeSort λx y=>decide (x<=y)).map encStr=C.map λp=>.string p.1:=by
 rw[QdL]at hp;have hm:(ss.mergeSort λx y=>decide (x<=y)).Perm ss:=List.mergeSort_perm ..;have Z:(C.map Prod.fst).Pairwise λx y=>klt x y=true:=bU.2 hC
 have hb:((ss.mergeSort λx y=>decide (x<=y)).map QbL).map QaP=ss.mergeSort λx y=>decide (x<=y):=Qgl _
 have I:((ss.mergeSort λx y=>decide (x<=y)).map QbL).Perm (C.map Prod.fst):=by
  have h1:=((hm.trans hp).map QbL);rw[cN]at h1;exact h1
 have N:((ss.mergeSort λx y=>decide (x<=y)).map QbL).Nodup:=I.nodup_iff.2 (Z.imp λ{a b} h e=>Qpy h e);have he:(ss.mergeSort λx y=>decide (x<=y)).map QbL=C.map Prod.fst:=QiP (QgT (by rw[hb];exact Qhx ss) N) Z λk=>I.mem_iff
 have h2:(ss.mergeSort λx y=>decide (x<=y)).map encStr=((ss.mergeSort λx y=>decide (x<=y)).map QbL).map .string:=by rw[cN];rfl
 rw[h2,he,cN];rfl
theorem Qp3{base e size n:Nat}{v:Value}{xs:List Value}(h:w.ownsRow base e size v n xs):∃s:Sl,v=.slice s.a n s.c:=by
 rcases h.2 with⟨rfl,rfl⟩ |⟨g,I,N,rfl,r⟩
 .exact ⟨Sl.none,rfl⟩
 exact⟨⟨some g,I⟩,rfl⟩
def CB(F:Nat->Prop)(w wr:World)(b:Nat):Prop:=(F b\/w.heap.size+2<=b)/\b<wr.heap.size
variable{T':RT}{v0:Value}
theorem Qrb{w w2 wr w7 I:World}{N:Option Addr}(hz:w.heap.size+2<=wr.heap.size)(hF:∀b,F b->b<w.heap.size)(h7:Ext wr w7)(h8:Ext w7 I)(hT:IsT I (Up (CB F w wr) w7 I) T')(hp:QaK T'=.pointer N)(hb:Blk wr (w.heap.size+1) 48 #[v0])
  (hs:Sb (λc=>c=w.heap.size+1) w2 wr) :
  IsT (I.setCell ⟨w+1,0,none⟩ (.pointer N)) (CB F w (I.setCell ⟨w+1,0,none⟩ (.pointer N))) T'/\Blk (I.setCell ⟨w+1,0,none⟩ (.pointer N)) (w.heap.size+1) 48 #[QaK T']/\Sb (λc=>c=w.heap.size+1) w2 (I.setCell ⟨w+1,0,none⟩ (.pointer N)):=by
 have s7:=h7.size;have s8:=h8.size;refine⟨(hT.agree (gw I ⟨w+1,0,none⟩ _ ?_)).mono λi hi=>?_,?_,(hs.ext (h7.trans h8)).set (p:=⟨w+1,0,none⟩) (.inr rfl) _⟩
 ·rintro (Z | Z)
  ·rcases Z.1 with h | h
   .have:=hF _ h;dsimp only at this;omega
   dsimp only at h;omega
  have:w7.heap.size<=w.heap.size+1:=Z.1;omega
 ·rw [CB,eP]
  rcases hi with hi|hi
  .exact ⟨hi.1,by have:=hi.2;omega⟩
  exact⟨.inr (by have:=hi.1;omega),hi.2⟩
 rw[hp];exact(hb.ext (h7.trans h8)).QbH 0 _
def Qe7(H:Nat->Prop)(O:Nat)(d:OD)(w:World)(e:Ending)(w':World):Prop:=
 ∃T':RT,e=.returned (Qao T')/\OkR T'/\IsT w' (Up (OvF H w O d) w w') T'/\Qaa T'=Qfw (Qaa d.T) (Qhe d.C) (Qaa d.T)/\Nw w w'/\(idleC (Qaa d.T) (Qhe d.C)->T'=d.T)
theorem Qs3{B:List Ent}{p:ByteArray × SV}(h:C[j]? = some p)(t:List Ent):Qfw B ((Qhe C).drop j) t=Qfw B ((Qhe C).drop (j+1)) (match p.2.opt with
  |some v=>if(Qaq B p.1).any (λI=>decide (Qbq I v=0))then t else QbY t p.1 v
  |none=>if(Qaq B p.1).isSome then QbM t p.1 else t):=by
 have h1:(Qhe C)[j]? = some (p.1,p.2.opt):=by unfold Qhe;rw[ar,h];rfl
 obtain⟨h2,N⟩:=ae.1 h1
 conv=>lhs;rw[aE h2,N]
 cases p.2.opt<;>rfl
theorem Qtd{B:List Ent}(N:Qay C){p:ByteArray × SV}(h:C[j]? = some p)(hi:idleC B (Qhe C)):match p.2.opt with
  |some v=>(Qaq B p.1).any (λI=>decide (Qbq I v=0))=true
  |none=>Qaq B p.1=none:=
 hi p.1 p.2.opt (by rw[QdU,Qir N (am h)];rfl)
variable{n:Nat}
theorem QtB{base:Nat}{t:TypeId}{xs:List Value}(h:w.ownsRow base t 1 (.slice s.a n s.c) n xs){i:Nat}{v:Value}(hi:xs[i]? = some v):∃g,s.a=some ⟨g,0,none⟩/\s.row=some g/\base<=g/\g<w.heap.size/\n<=s.c/\s.c<=maxLen/\w.cell? ⟨g,i,none⟩=some v:=by
 have N:=(ae.1 hi).1;have hn:xs.length=n*1:=h.1;obtain⟨g,a0,rfl,hg,h1,h2,I⟩:=QaJ h oM;obtain⟨b,o,h3,h4,h5⟩:=gz h;obtain⟨Z,-,-⟩:=h3.eq oM;obtain⟨rfl,rfl⟩:g=b/\0=o:=by simpa using Z
 exact⟨g,rfl,rfl,hg,I.lt,h1,h2,by have:=h5 i v hi;rwa[aD]at this⟩
variable{H:Nat->Prop}{O:Nat}{d:OD}
theorem Qk2(h:QcK H w O d){b:Nat}(hm:d.mb=some b)(hl:(Qaa d.T).length+d.C.length<=1000000):Calls prog 96 #[.pointer (some O)] w (Qe7 H O d w):=by
 have c0:w.cell? O=some (QaK d.T):=h.blk.cell 0;have c1:w.cell? ⟨O,1,none⟩=some (.map (some b)):=by have:=h.blk.cell 1;rw[hm]at this;exact this
 have lO:=h.blk.lt;obtain⟨r,hr⟩:=Qaj d.T;rw[hr]at c0;have l1:O<w.heap.size+1:=oM
 have l2:O<w.heap.size+1+1:=oM
 have hF:∀b,OvF H w O d b->b<w.heap.size:=λb hb=>hb.1
 obtain⟨n,hn⟩:∃n,d.C.length=n:=⟨_,rfl⟩;rw[hn]at hl;obtain⟨n0,i9⟩:∃n,(Qaa d.T).length=n:=⟨_,rfl⟩;rw[i9]at hl;obtain⟨N,HM,HN,n6,HR,HF,LO⟩:=Yh h hm hn i9 hr hF lO;clear h hm hr hF hn i9;go_in;go_wp2_with fail;generalize l6:World.alloc _ _=W0;obtain⟨l4,k9,l8,k5⟩:=Qas w _ _ _ _ W0 l6;obtain⟨k7,n4,k3,j8⟩:=Ye l4 l8 k5 k9;clear l6 l4 l8 k5 l1 l2 k9;refine((eL (n:=5)).1 (Tryz.Qhz (some b) W0)).mono ?_;rintro e w' ⟨rfl,rfl⟩;go_wp2_with fail;have i2:W0.ownsMap prog 9 QeO b d.C.length (mapA SV.val d.C):=by
  have h1:=N.o.map;rw[HM.o]at h1;have hb:=N.o.map.lt HM.o;exact Qbx h1 ((gj k7.o).block b hb id)
 have j7:Maps.size (mapA SV.val d.C)=n:=by rw[Qkt];exact HN.o
 refine((eL (n:=5)).1 (Tryz.Qer b d.C.length (mapA SV.val d.C) QeO W0 i2 (by rw[j7];unfold maxLen;omega) (by rw[j7];omega))).mono ?_;rintro e w2 ⟨v,ss,rfl,hp,a7,k8,n9⟩;have i3:ss.length=n:=by have:=hp.length_eq;rw[QdL,aq,HN.o]at this;exact this
 rw[Qld N.o.sorted hp,i3]at a7;obtain⟨s,rfl⟩:=Qp3 a7;rw[eK,j8.o]at a7;have d3:Nw W0 w2:=(gj ((gh W0).alloc #[.map (some b)] 181)).trans (Sb.new n9);have i0:Nw w w2:=(gj k7.o).trans d3;obtain⟨g7,n8,l7,l9⟩:=Ye i0 (d3.blk n4.o) (d3.blk k3.o) a7;have k6:w.heap.size+2<=w2.heap.size:=by have:=d3.size;have:=j8.o;omega
 have o9:=hY k6;clear i2 j7 hp a7 k8 n9 d3 i0 i3 c0 c1 n4 k3 k6;go_wp2_with fail;go_loopw[23] (λq wr=>∃(j:Nat) (T1:RT),q=.int .i64 j/\j<=n/\OkR T1/\IsT wr (CB (OvF H w O d) w wr) T1/\Qfw (Qaa d.T) ((Qhe d.C).drop j) (Qaa T1)=Qfw (Qaa d.T) (Qhe d.C) (Qaa d.T)/\(Qaa T1).length<=n0+j/\Blk wr (w.heap.size+1) 48 #[QaK T1]/\Sb (λc=>c=w.heap.size+1) w2 wr/\(idleC (Qaa d.T) (Qhe d.C)->T1=d.T)) (λq _=>n -(intOf q).toNat)
 case atStart=>exact⟨0,d.T,rfl,aA _,N.o.ok,(N.o.tree.agree (gp g7.o HF.o)).mono λi hi=>⟨.inl hi,ab hi.1 g7.o.size⟩,rfl,by rw[n6.o];exact ao _,by rw[HR.o];exact l7.o,gu _ _,λ_=>rfl⟩
 obtain⟨j,T1,rfl,hj,ok,hT,f9,j6,a9,a6,g3⟩:=hrel;obtain⟨p1,c3⟩:=Qaj T1;have o8:w.heap.size+2<=wr.heap.size:=ak o9.o a6.size;by_cases d0:j<n
 ·have g1:decide ((j:Int)<(n:Int))=true:=eI oM
  have p3:(j:Int)<(n:Int):=oM
  obtain⟨p,e0⟩:∃p,d.C[j]? = some p:=⟨_,ac (by rw[HN.o];exact d0)⟩;have j2:=am e0;obtain⟨g,n7,p0,o3,k2,o2,o0,e4⟩:=QtB l9.o (i:=j) (v:=.string p.1) (by rw[ar,e0];rfl);obtain⟨sa,sc⟩:=s;dsimp only at n7 o2 o0;subst n7;have p4:=LO.out;have b9:Sb (λc=>c=w.heap.size+1) w wr:=(g7.o.any _).trans a6;have i7:Agree (OvF H w O d) w wr:=λi hi=>b9.block i hi.1 (by have:=hi.1;omega)
  have kc:wr.cell? ⟨g,j,none⟩=some (.string p.1):=(a6.cell k2 oM).trans e4;have kl:g<wr:=ab k2 a6.size;have d6:=b9.blk N.o.blk oM;rw[HR.o,HM.o]at d6;have c0:wr.cell? O=some (.pointer r):=d6.cell 0;have c1:wr.cell? ⟨O,1,none⟩=some (.map (some b)):=d6.cell 1;have o6:=d6.lt;obtain⟨g5,l0⟩:=N.o.vals p j2;have j0:=QrI (W:=wr) (N.o.map.heap λb hb=>b9.block b (N.o.map.lt hb) (by have:=N.o.map.lt hb;omega)) g5;rw[HM.o,show Qiw d.C p.1=p.2 by unfold Qiw;rw[Qir N.o.sorted j2];rfl]at j0;have c4:∀i,CB (OvF H w O d) w wr i->i<wr.heap.size:=λi hi=>hi.2
  have j4:(Qaa T1).length<=1000000:=oM
  have hv:RV wr (Lt wr) p.2.v p.2.sl p.2.so:=(l0.1.agree i7).mono λi hi=>by have:=hi.1;show i<_;omega
  have a3:=λ(W:World) (hW:Ext wr W)=>Qg2 (k:=p.1) (w:=W) (F:=OvF H w O d) (T:=d.T) (λi hi=>by have:=hi.1;have:=hW.size;omega) (N.o.tree.agree (i7.trans (hW.agree λi hi=>by have:=hi.1;omega))) N.o.ok (by rw[n6.o];omega)
  have b7:=λ(W:World) (hW:Ext wr W)=>Qqf (k:=p.1) (v:=p.2.v) (sl:=p.2.sl) (so:=p.2.so) (λb hb=>ab (c4 b hb) hW.size) (hT.agree (hW.agree c4)) ok j4 g5 ((hv.agree (hW.agree λ_ h=>h)).mono λi hi=>ab hi hW.size)
  have b6:=λ(W:World) (hW:Ext wr W)=>Qm9 (λb hb=>ab (c4 b hb) hW.size) (hT.agree (hW.agree c4)) ok j4 p.1
  have b4:=λ(W:World) (hW:Ext wr W) (x:Val) (xl xo:Sl) (hx:RV W (Lt W) x xl xo)=>Qdk hx ((hv.agree (hW.agree λ_ h=>h)).mono (G:=Lt W) λi hi=>ab hi hW.size)
  have Z:=Qs3 (B:=Qaa d.T) e0 (Qaa T1);have b5:=Qtd (B:=Qaa d.T) N.o.sorted e0;rw[f9]at Z;unfold QbC at a3;rw[Qao,HR.o]at a3;rw[Qao,c3]at b7 b6;have g0:Ext wr (wr.alloc (.cells p.2.cells 192)):=(gh wr).alloc _ _;have f7:=gm wr 192 p.2.cells;have f2:∀W,Ext wr W->IsT W (CB (OvF H w O d) w W) T1/\Blk W (w.heap.size+1) 48 #[QaK T1]/\Sb (λc=>c=w.heap.size+1) w2 W:=λW hW=>
   ⟨(hT.agree (hW.agree c4)).mono λi hi=>⟨hi.1,ab hi.2 hW.size⟩,a9.ext hW,a6.ext hW⟩
  have d5:∀w7 w8 T' p',Ext wr w7->Ext w7 w8->IsT w8 (Up (CB (OvF H w O d) w wr) w7 w8) T'->QaK T'=.pointer p'->_:=λw7 w8 T' p' h7 h8 h1 h2=>Qrb (w2:=w2) o8 HF.o h7 h8 h1 h2 a9 a6
  obtain⟨k,g6,v,sl,so⟩:=p;dsimp only at kc g5 j0 hv a3 b7 b6 b4 Z b5 g0 f7;obtain⟨og,j9⟩:∃o,Qaq (Qaa d.T) k=o:=⟨_,rfl⟩;obtain⟨gv,j5⟩:∃g,og.getD zeroV=g:=⟨_,rfl⟩;obtain⟨gb,j3⟩:∃g,og.isSome=g:=⟨_,rfl⟩;rw[j9]at a3 Z b5;rw[j5,j3]at a3;have c2:=hY (show ∀W,Ext (wr.alloc (.cells (SV.cells ⟨g6,v,sl,so⟩) 192)) W->(W.cell? wr=some (.bool g6)/\W.cell? ⟨wr,1,none⟩=some (.int .i64 v.kind)/\W.cell? ⟨wr,2,none⟩=some (.bool v.b)/\W.cell? ⟨wr,3,none⟩=some (.int .i64 v.i)/\W.cell? ⟨wr,4,none⟩=some (.string v.t)/\W.cell? ⟨wr,5,none⟩=some (.slice sl.a v.l.length sl.c)/\W.cell? ⟨wr,6,none⟩=some (.slice so.a v.ok.length so.c))/\
    W.cell? ⟨w+1,0,none⟩=some (.pointer p1)/\W.frozen? ⟨w+1,0,none⟩=false/\w.heap.size+1<W.heap.size/\wr.heap.size<W.heap.size fromλW hW=>by
   have h1:=a9.ext (g0.trans hW);rw[c3]at h1;exact⟨(f7.ext hW).c7,h1.cell 0,h1.frozen 0,h1.lt,(f7.ext hW).lt⟩)
  obtain⟨e8,i1,i5,l3,d8,a1,b8⟩:=Yh g0 a3 b7 b6 b4 Z b5;obtain⟨e7,b3,a0,f1,i4⟩:=Yf f2 d5 ok j6 g3;clear e0 j2 e4 b9 i7 d6 g5 l0 hv a3 b7 b6 b4 Z b5 g0 f7 f2 d5 j9 ok hT f9 j6 a9 a6 g3 c4 j4 c3;go_wp2_with fail;dsimp only[SV.cells]at c2 e8;generalize o7:wr.alloc (.cells _ _)=W3 at *;clear o7 kc kl c0 c1 o6 j0;refine(i1.o W3 e8.o).mono ?_;rintro e w4 ⟨gl,gq,rfl,c8,n2⟩;have c9:=(gh w4).alloc #[.int .i64 gv.kind,.bool gv.b,.int .i64 gv.i,.string gv.t,.slice gl.a gv.l.length gl.c,.slice gq.a gv.ok.length gq.c] 34;have o1:=gm w4 34 #[.int .i64 gv.kind,.bool gv.b,.int .i64 gv.i,.string gv.t,.slice gl.a gv.l.length gl.c,.slice gq.a gv.ok.length gq.c];have g9:=(n2.agree (c9.agree λb hb=>hb.2)).mono (G:=Lt (w4.alloc (.cells #[gv.kind,gv.b,gv.i,gv.t,.slice gl.a gv.l.length gl.c,.slice gq.a gv.ok.length gq.c] 34)).heap.size) λb hb=>ab hb.2 c9.size
  obtain⟨k4,p2,c6,f6⟩:=Ye (d8.o _ ((e8.o.trans c8).trans c9) gv gl gq g9) (e8.o.trans c8) ((e8.o.trans c8).trans c9) (c8.trans c9);obtain⟨⟨q0,q1,q2,q3,q4,q5,q6⟩,q7,q8,q9,f8⟩:=c2.o _ c8;clear c8 n2 c9 o1 g9 d8 i1;cases gb with
  | false=>
    have ho:og=none:=by cases og with
     |none=>rfl
     |some x=>cases j3
    cases g6 with
    | false=>
      have I:=a1.o;simp only[SV.opt,ho]at I;have HE:=hY I.symm;clear I;go_wp2_with fail;obtain⟨e1,e2,e3⟩:=e7.o _ c6.o;go_roundw
      case rel=>exact⟨j+1,T1,by go_num,d0,a0.o,e1,HE.o,by have:=f1.o;omega,e2,e3,i4.o⟩
      simp[intOf];omega
    | true=>
      have I:=a1.o;simp only[SV.opt,ho,if_true,Option.any_none,Bool.false_eq_true,if_false]at I;have HE:=hY I.symm;have o4:=b8.o;have d7:=hY (show ¬(match(SV.opt ⟨true,v,sl,so⟩)with
       |some v=>og.any (λd4=>decide (Qbq d4 v=0))=true
       |none=>og=none)by simp[SV.opt,ho])
      clear I o4;go_wp2_with fail;refine(i5.o _ c6.o).mono ?_;rintro e w8 ⟨T',rfl,a8,b0,a4⟩;obtain⟨p',a2⟩:=Qaj T';rw[Qao,a2];obtain⟨-,q7,q8,q9,f8⟩:=c2.o w8 (f6.o.trans a4);obtain⟨e6,a5⟩:=Yb (b3.o _ _ T' p' c6.o a4 b0 a2) a8;clear a8 b0 a4 a2;go_wp2_with fail;obtain⟨e1,e2,e3⟩:=e6.o;go_roundw
      case rel=>exact⟨j+1,T',by go_num,d0,a5.o.ok a0.o,e1,by rw[a5.o.ents a0.o];exact HE.o,by rw[a5.o.ents a0.o];have:=f1.o;rcases QcA (Qaa T1) k v with h|h<;>omega,e2,e3,λhi=>absurd (b8.o hi) d7.o⟩
      simp[intOf];omega
  | true=>
    obtain⟨x,ho⟩:∃x,og=some x:=db.1 j3;have j1:x=gv:=by rw[ho]at j5;exact j5
    cases g6 with
    | false=>
      have I:=a1.o;simp only[SV.opt,ho,Bool.false_eq_true,if_false,Option.isSome_some,if_true]at I;have HE:=hY I.symm;have d7:=hY (show ¬(match(SV.opt ⟨false,v,sl,so⟩)with
       |some v=>og.any (λd4=>decide (Qbq d4 v=0))=true
       |none=>og=none)by simp[SV.opt,ho])
      clear I;go_wp2_with fail;refine(l3.o _ c6.o).mono ?_;rintro e w8 ⟨T',rfl,a8,b0,a4⟩;obtain⟨p',a2⟩:=Qaj T';rw[Qao,a2];obtain⟨-,q7,q8,q9,f8⟩:=c2.o w8 (f6.o.trans a4);obtain⟨e6,a5⟩:=Yb (b3.o _ _ T' p' c6.o a4 b0 a2) a8;clear a8 b0 a4 a2;go_wp2_with fail;obtain⟨e1,e2,e3⟩:=e6.o;go_roundw
      case rel=>exact⟨j+1,T',by go_num,d0,a5.o.ok a0.o,e1,by rw[a5.o.ents a0.o];exact HE.o,by rw[a5.o.ents a0.o];have:=f1.o;have:=(Qa3 (Qaa T1) k).length_le;omega,e2,e3,λhi=>absurd (b8.o hi) d7.o⟩
      simp[intOf];omega
    | true=>
      obtain⟨sm,f4⟩:∃s,decide (Qbq gv v=0)=s:=⟨_,rfl⟩;have f3:=k4.o;rw[f4]at f3;have g8:=hY f3;clear f3 k4;go_wp2_with fail;refine g8.o.mono ?_;rintro e w6 ⟨rfl,f5⟩;obtain⟨i8,o5⟩:=Yb (c6.o.trans f5) (f6.o.trans f5);obtain⟨⟨q0,q1,q2,q3,q4,q5,q6⟩,q7,q8,q9,f8⟩:=c2.o w6 (f6.o.trans f5);clear f5 g8;cases sm with
      | true=>
        have I:=a1.o;simp only[SV.opt,ho,if_true,Option.any_some,j1,f4]at I;have HE:=hY I.symm;clear I;go_wp2_with fail;obtain⟨e1,e2,e3⟩:=e7.o _ i8.o;go_roundw
        case rel=>exact⟨j+1,T1,by go_num,d0,a0.o,e1,HE.o,by have:=f1.o;omega,e2,e3,i4.o⟩
        simp[intOf];omega
      | false=>
        have I:=a1.o;simp only[SV.opt,ho,if_true,Option.any_some,j1,f4,Bool.false_eq_true,if_false]at I;have HE:=hY I.symm;have d7:=hY (show ¬(match(SV.opt ⟨true,v,sl,so⟩)with
         |some v=>og.any (λd4=>decide (Qbq d4 v=0))=true
         |none=>og=none)by simp only[SV.opt,ho,if_true,Option.any_some,j1,f4];simp)
        clear I;go_wp2_with fail;refine(i5.o _ i8.o).mono ?_;rintro e w8 ⟨T',rfl,a8,b0,a4⟩;obtain⟨p',a2⟩:=Qaj T';rw[Qao,a2];obtain⟨-,q7,q8,q9,f8⟩:=c2.o w8 (o5.o.trans a4);obtain⟨e6,a5⟩:=Yb (b3.o _ _ T' p' i8.o a4 b0 a2) a8;clear a8 b0 a4 a2;go_wp2_with fail;obtain⟨e1,e2,e3⟩:=e6.o;go_roundw
        case rel=>exact⟨j+1,T',by go_num,d0,a5.o.ok a0.o,e1,by rw[a5.o.ents a0.o];exact HE.o,by rw[a5.o.ents a0.o];have:=f1.o;rcases QcA (Qaa T1) k v with h|h<;>omega,e2,e3,λhi=>absurd (b8.o hi) d7.o⟩
        simp[intOf];omega
 obtain rfl:j=n:=oM
 have g1:decide ((j:Int)<(j:Int))=false:=eG oM;rw[c3]at a9;have q0:wr.cell? ⟨w+1,0,none⟩=some (.pointer p1):=a9.cell 0;have g4:=a6.blk n8.o oM;have q1:wr.cell? w=some (.pointer none):=g4.cell 0;have f0:=g4.frozen 0;have k0:=g4.lt;have k1:=a9.lt;have i6:Qe7 H O d w (.returned (.agg #[.pointer p1])) (wr.setCell w (.pointer p1)):=by
  refine⟨T1,by rw[Qao,c3],ok,?_,?_,?_,g3⟩
  ·refine (hT.agree (gw wr w _ ?_)).mono fun i hi=>?_
   ·rintro ⟨hf | hf,-⟩
    .have:=HF.o _ hf;dsimp only at this;omega
    dsimp only at hf;omega
   rw[Up,eP];rcases hi.1 with h|h
   .exact .inl h
   exact .inr ⟨oM,hi.2⟩
  .rw [<-f9,bX (by unfold Qhe;rw[aq,HN.o];exact ao _)];rfl
  have h1:Sb (λc=>c=w.heap.size+1\/c=w.heap.size) w2 (wr.setCell w (.pointer p1)):=(a6.mono λi _ e=>.inl e).set (p:=⟨w,0,none⟩) (.inr (.inr rfl)) _;exact g7.o.comp h1 λi hi e=>oM
 have l5:=hY i6;clear ok hT f9 j6 a9 a6 g3 g4 i6 c3;go_wp2_with fail;refine eN (v:=.agg #[.pointer p1]) (by simp[results,results96,go_sem,q1]) rfl ?_;exact l5.o
theorem QoR(h:QcK H w O d)(Z:(Qaa d.T).length+d.C.length<=1000000):Calls prog 96 #[.pointer (some O)] w (Qe7 H O d w):=by
 cases I:d.mb with
 |some b=>exact Qk2 h I Z
 | none=>
   have hC:d.C=[]:=by have:=h.map;rw[I]at this;exact this
   exact(Qk1 h I).mono λe w' ⟨N,hn⟩=>⟨d.T,N,h.ok,(h.tree.agree (gp hn λb hb=>hb.1)).mono λi hi=>.inl hi,by rw[hC];rfl,hn,λ_=>rfl⟩
def Qon(k:ByteArray)(v:Val):Int:=if Qci k≠0 then 8 else QcP v
theorem Qsd(h:QcK H w O d)(hH:∀b,H b->b<w.heap.size)(hn:d.us.length<=1000000){k:ByteArray}(hk:k.size<=maxLen){v:Val}(hv:RV w (Lt w) v sl so)(hc:QcI v<=1100000)(hL:Qb4 w) :
  Calls prog 167 #[.pointer (some O),k,QbV v sl so] w λe w'=>e=.returned (Qon k v)/\((Qon k v=0/\∃sl so mb s,Qok H w O d (d.step k ⟨true,v,sl,so⟩ mb s) w')\/(Qon k v≠0/\Nw w w')):=by
 have I:=λW (Z:Nw w W)=>Qc8 hk (hL.lib.nw Z)
 have a0:∀W,Nw w W->RV W (Lt W) v sl so:=λW Z=>(hv.agree (gp Z λb hb=>hb)).mono λb hb=>ab hb Z.size
 have N:=λW (Z:Nw w W)=>Qio (a0 W Z) hc (hL.nw Z)
 by_cases hm:Qci k=0
 ·rw [hm] at I
  have hp:Qon k v=QcP v:=by unfold Qon;rw[eE (by simp[hm])]
  rw[hp];by_cases hf:QcP v=0
  ·rw [hf] at N
   exact(QuM h hH hn hk hv I N).mono λe w' h=>by rw[hf];exact⟨h.1,.inl ⟨rfl,h.2⟩⟩
  exact(Qqg I N hf).mono λe w' h=>⟨h.1,.inr ⟨hf,h.2⟩⟩
 have hp:Qon k v=8:=by unfold Qon;rw[eH hm]
 rw[hp];exact(QnL I hm).mono λe w' h=>⟨h.1,.inr ⟨oN,h.2⟩⟩
theorem QqI{O b:Nat}{r sl:Value}{u:UD}{bw bd bo bk:Nat}{o:SV}(a0:Blk w O 184 #[r,.map (some b),sl])(N:Qbp w (some b) C)(hs:Qay C)(hC:C.length<maxLen)(hk:u.k.size<=maxLen)
  (a6:Blk w bw 4 #[.bool u.old.isSome]) (Z:Blk w bd 192 o.cells) (ho:∀x,u.old=some x->x=o) (a2:Blk w bo 151 #[.pointer (some O)]) (a4:Blk w bk 9 #[.string u.k]) :
  Calls prog 211 #[.pointer (some bw),.pointer (some bd),.pointer (some bo),.pointer (some bk)] w λe w'=>(∃r,e=.returned r)/\Qbp w' (some b) (Qhh u C)/\Sb (λc=>c=b) w w':=by
 obtain⟨k,a7⟩:=u;have cw:w.cell? bw=some (.bool a7.isSome):=a6.cell 0;have nO:=Qbp.ne N a0;have no:=Qbp.ne N a2;have nk:=Qbp.ne N a4;have nd:=Qbp.ne N Z;have a5:=hY N;cases a7 with
 | none=>
   have I:=hY (show ∀W,Sb (λc=>c=b) w W->W.cell? bo=some (.pointer (some O))/\W.cell? ⟨O,1,none⟩=some (.map (some b))/\W.cell? bk=some (.string k)from
    λW hW=>⟨(hW.blk a2 no).cell 0,(hW.blk a0 nO).cell 1,(hW.blk a4 nk).cell 0⟩)
   clear a0 a6 Z a2 a4 N ho nO no nk nd;go_in;go_wp2_with fail;refine eO (S:=(λw'=>Sb (λc=>c=b) w w')) kM (((gu _ w).drew)) (λhHeld=>?_);refine Qaf 0 (some 11) I hHeld ?_;refine Qaf 1 (some 12) I hHeld ?_;refine Qaf 2 (some 13) I hHeld ?_;refine Qaf 3 (some 14) I hHeld ?_;refine Qaf 4 (some 15) I hHeld ?_;refine Qac (i:=5) kM rfl (by rfl) (λK hK=>?_)
   skip
   (refine Qp1 (b:=b) (C:=C) (k:=k) rfl rfl rfl (a5.o.heap λ_ _=>rfl) hk ?_;intro w7 a1 a3)
   refine hK.out _ _ (hHeld.trans a3) (λhHeld=>?_);clear hK K
   try go_frame
   refine eV kM ?_ _;go_end0;exact⟨⟨_,rfl⟩,a1,hHeld⟩
 | some x=>
   obtain rfl:=ho x rfl;obtain⟨a8,v,sl',so⟩:=x;have I:=hY (show ∀W,Sb (λc=>c=b) w W->W.cell? bo=some (.pointer (some O))/\W.cell? ⟨O,1,none⟩=some (.map (some b))/\W.cell? bk=some (.string k)/\W.cell? bd=some (.bool a8)/\W.cell? ⟨bd,1,none⟩=some (.int .i64 v.kind)/\W.cell? ⟨bd,2,none⟩=some (.bool v.b)/\W.cell? ⟨bd,3,none⟩=some (.int .i64 v.i)/\W.cell? ⟨bd,4,none⟩=some (.string v.t)/\W.cell? ⟨bd,5,none⟩=some (.slice sl'.a v.l.length sl'.c)/\W.cell? ⟨bd,6,none⟩=some (.slice so.a v.ok.length so.c)from
    λW hW=>⟨(hW.blk a2 no).cell 0,(hW.blk a0 nO).cell 1,(hW.blk a4 nk).cell 0,(hW.blk Z nd).cell 0,(hW.blk Z nd).cell 1,(hW.blk Z nd).cell 2,(hW.blk Z nd).cell 3,(hW.blk Z nd).cell 4,(hW.blk Z nd).cell 5,(hW.blk Z nd).cell 6⟩)
   clear a0 a6 Z a2 a4 N ho nO no nk nd;go_in;go_wp2_with fail;refine eO (S:=(λw'=>Sb (λc=>c=b) w w')) kM (((gu _ w).drew)) (λhHeld=>?_);refine Qaf 0 (some 5) I hHeld ?_;refine Qaf 1 (some 6) I hHeld ?_;refine Qaf 2 (some 7) I hHeld ?_;refine Qaf 3 (some 8) I hHeld ?_;refine Qaf 4 (some 9) I hHeld ?_;refine Qaf 5 (some 10) I hHeld ?_;refine Qac (i:=6) kM rfl (by rfl) (λK hK=>?_)
   skip
   (refine Qj9 (b:=b) (C:=C) (k:=k) (s:=⟨a8,v,sl',so⟩) rfl rfl rfl rfl (a5.o.heap λ_ _=>rfl) hk hC hs ?_;intro w7 a1 a3)
   refine hK.out _ _ (hHeld.trans a3) (λhHeld=>?_);clear hK K
   try go_frame
   refine eV kM ?_ _;go_end0;exact⟨⟨_,rfl⟩,a1,hHeld⟩
theorem QtC{base e n c:Nat}{a:Option Addr}{xs:List Value}(h:w.ownsRow base e 1 (.slice a n c) n xs){m:Nat}(hm:m<=n):w.ownsRow base e 1 (.slice a m c) m (xs.take m):=by
 have hl:=h.1;rcases h.2 with⟨hv,h0⟩ |⟨g,a1,I,hv,a0,hg,a2,Z,N,ht⟩
 ·obtain rfl:m=0:=oM
  subst h0;exact⟨oO,.inl ⟨hv,rfl⟩⟩
 injection hv with h1 h2 h3;subst h1 h3;refine⟨by rw[av];omega,.inr ⟨g,c,I,rfl,a0,hg,oM,Z,N,?_⟩⟩;rw[<-ht,cU];congr 1;omega
section
variable{H : Nat -> Prop}{w : World}{O : Nat}{d : OD}
structure Qge(w:World)(O:Nat)(d:OD)(xs:List Value)(j:Nat)(W:World):Prop where
 blk:Blk W O 184 #[QaK d.T,.map d.mb,.slice d.s.a d.us.length d.s.c]
 map:Qbp W d.mb (Qdp d.us d.C j)
 row:∃ys,W.ownsRow 0 1 1 (.slice d.s.a d.us.length d.s.c) d.us.length ys/\∀i,i<j->ys[i]? = xs[i]?
 sb:Sb (OvB O d) w W
def QqT(H:Nat->Prop)(O:Nat)(d:OD)(m:Nat)(w:World)(e:Ending)(w':World):Prop:=
 e=.returned (.int .i64 0)/\Qok H w O d ⟨d.T,d.mb,d.s,d.us.take m,d.Hs.take (m+1),Qdp d.us d.C m⟩ w'
theorem QlQ{m:Nat}(hm:m<=d.us.length)(h:QcK H w O d){xs:List Value}(hl:xs.length=d.us.length)(b3:∀(i:Nat) (u:UD) (v:Value),d.us[i]? = some u->xs[i]? = some v->Qh2 w (OvF H w O d) O u v){W:World}(hW:Qge w O d xs m W) :
  Qok H w O d ⟨d.T,d.mb,d.s,d.us.take m,d.Hs.take (m+1),Qdp d.us d.C m⟩ (W.setCell ⟨O,2,none⟩ (.slice d.s.a m d.s.c)):=by
 have a4:Sb (OvB O d) W (W.setCell ⟨O,2,none⟩ (.slice d.s.a m d.s.c)):=(gu (OvB O d) W).set (p:=⟨O,2,none⟩) (.inr (.inl rfl)) _;have N:=hW.sb.trans a4;have I:Sb (λc=>c=O) W (W.setCell ⟨O,2,none⟩ (.slice d.s.a m d.s.c)):=(gu (λc=>c=O) W).set (p:=⟨O,2,none⟩) (.inr rfl) _;have ha:Agree (OvF H w O d) w (W.setCell ⟨O,2,none⟩ (.slice d.s.a m d.s.c)):=λi hi=>N.block i hi.1 hi.2.1
 have a0:∀i,OvF H w O d i->OvF H (W.setCell ⟨O,2,none⟩ (.slice d.s.a m d.s.c)) O ⟨d.T,d.mb,d.s,d.us.take m,d.Hs.take (m+1),Qdp d.us d.C m⟩ i:=λi hi=>⟨Nat.lt_of_lt_of_le hi.1 N.size,hi.2.1,hi.2.2⟩
 obtain⟨ys,a2,a9⟩:=hW.row;have a1:(d.us.take m).length=m:=by rw[av];omega
 have hC:d.Hs[m]? = some (Qdp d.us d.C m):=h.hist.back h.last (d.us.length-m) m oM;have a7:=h.hist.take hm;have a8:∀b,d.mb=some b->b≠O:=λb hb e=>h.ne.1 (by rw[hb,e])
 have a3:∀(A:List UD) (C:AL SV),(∀p∈C,p.1.size<=maxLen/\QkU w (OvF H w O d) p.2)->(∀u∈A,u.k.size<=maxLen/\∀o,u.old=some o->QkU w (OvF H w O d) o)->∀p∈A.foldr Qhh C,p.1.size<=maxLen/\QkU w (OvF H w O d) p.2:=by
  intro A C b0
  induction A with
  |nil=>intro _;exact b0
  | cons u r ih=>
    intro hA p Z;have a5:=ih λx hx=>hA x (aS _ hx)
    have hu:=hA u (aF ..);rw[List.foldr_cons,Qhh]at Z;cases ho:u.old with
    |none=>rw[ho]at Z;exact a5 p (bQ.1 Z).1
    | some o=>
      rw[ho]at Z;rcases QiH Z with rfl|Z
      .exact ⟨hu.1,hu.2 o ho⟩
      exact a5 p Z
 refine⟨⟨?_,?_,⟨ys.take m,?_,?_,?_⟩,?_,?_,a7,?_,?_,Qfv h.sorted _ _,(h.tree.agree ha).mono a0,h.ok,h.ne,h.out,?_⟩,N,λb hb=>.inl hb⟩
 ·have:=hW.blk.QbH 2 (.slice d.s.a m d.s.c)
  show Blk _ O _ #[_,_,.slice d.s.a (d.us.take m).length d.s.c];rw[a1];exact this
 .exact hW.map.heap λb hb=>I.block b (hW.map.lt hb) (a8 b hb)
 ·show (ys.take m).length=(d.us.take m).length
  have:=a2.1;rw[a1,av];omega
 ·show World.ownsRow _ 0 _ 1 (.slice d.s.a (d.us.take m).length d.s.c) (d.us.take m).length _
  rw[a1];exact Qab (QtC a2 hm) I.agree λb hb=>⟨(Qad a2 hb).2,λe=>h.ne.2.1 (by rw[<-e];exact hb)⟩
 ·intro i u v hu hv
  have hu:(d.us.take m)[i]? = some u:=hu;have hi:i<m:=by have:=(ae.1 hu).1;omega
  rw[bS hi]at hu hv;rw[a9 i hi]at hv;exact((b3 i u v hu hv).agree ha).mono a0
 ·intro p Z
  have:=a3 (d.us.drop m) d.C h.vals (λu hu=>h.olds u (aN hu)) p Z;exact⟨this.1,(this.2.agree ha).mono a0⟩
 ·intro u hu
  have:=h.olds u (ba hu);exact⟨this.1,λo ho=>((this.2 o ho).agree ha).mono a0⟩
 ·show (d.Hs.take (m+1))[0]? = _
  rw[bS oM];exact h.h0
 ·show (d.Hs.take (m+1))[(d.us.take m).length]? = _
  rw[a1,bS oM];exact hC
 intro a6;exact h.some_ λe=>a6 (by show d.us.take m=[];rw[e];exact List.take_nil)
theorem QoB{xs:List Value}{j g b:Nat}(h:QcK H w O d)(hb:d.mb=some b)(hg:d.s.a=some ⟨g,0,none⟩){u:UD}(hu:d.us[j]? = some u){W W1:World}(hW:Qge w O d xs (j+1) W)(hm:Qbp W1 (some b) (Qhh u (Qdp d.us d.C (j+1))))(hs:Sb (λc=>c=b) W W1) :
  Qge w O d xs j (W1.setCell ⟨g,j,none⟩ Value.nilFunc):=by
 have hj:j<d.us.length:=(ae.1 hu).1;have I:d.s.row=some g:=by rw[Sl.row,hg];rfl
 have a1:g≠b:=λe=>h.ne.2.2 b hb (by rw[I,e])
 have a3:g≠O:=λe=>h.ne.2.1 (by rw[I,e])
 have a4:b≠O:=λe=>h.ne.1 (by rw[hb,e])
 obtain⟨ys,a0,a2⟩:=hW.row;have Z:W1.ownsRow 0 1 1 (.slice d.s.a d.us.length d.s.c) d.us.length ys:=Qab a0 hs.agree λi hi=>⟨(Qad a0 hi).2,λe=>a1 (by rw[I]at hi;injection hi with hi;omega)⟩
 have N:Sb (λc=>c=g) W1 (W1.setCell ⟨g,j,none⟩ Value.nilFunc):=(gu (λc=>c=g) W1).set (p:=⟨g,j,none⟩) (.inr rfl) _;refine⟨N.blk (hs.blk hW.blk λe=>a4 e.symm) λe=>a3 e.symm,?_,⟨ys.set j Value.nilFunc,?_,λi hi=>?_⟩,?_⟩
 ·rw [hb,Qhk hu]
  exact hm.heap λi hi=>by
   injection hi with hi;subst hi;exact N.block b (hm.lt rfl) λe=>a1 e.symm
 ·rw [hg] at Z ⊢
  exact Qbt Z hj _
 ·rw [du oM]
  exact a2 i oM
 exact(hW.sb.trans (hs.mono λi _ e=>.inr (.inl (by rw[hb,e])))).trans (N.mono λi _ e=>.inr (.inr (by rw[I,e])))
end
theorem Qhg(P:Program)(w:World)(a:Addr)(m:Mode):(store a Value.nilFunc m).run P w=stored P w a Value.nilFunc m:=run_store P w a _ m rfl
attribute [local go_sem] Qhg
variable{u:Value}
theorem Qr7{base e n c g:Nat}{xs:List Value}(h:w.ownsRow base e 1 (.slice (some g) n c) n xs){i:Nat}(hx:xs[i]? = some u):w.cell? ⟨g,i,none⟩=some u/\(n<=c/\c<=maxLen)/\g<w/\w.frozen? ⟨g,i,none⟩=false:=by
 rcases h.2 with⟨Z,h0⟩ |⟨g',a1,I,Z,a3,hg,a0,N,a2,ht⟩
 .cases Z
 injection Z with h1 h2 h3;injection h1 with h1;injection h1 with h1;subst h1 h3;have hi:i<n:=by have:=(ae.1 hx).1;have:=h.1;omega
 have hb:Blk w g e I:=hg;refine⟨?_,⟨a0,N⟩,hb.lt,hb.frozen i⟩;rw[hb.cell i];rw[<-ht,bS oM]at hx;simpa using hx
theorem QsX(h:QcK H w O d)(hn:d.us.length<=1000000){m:Nat}(hm:m<=d.us.length):Calls prog 166 #[.pointer (some O),.int .i64 (m:Int)] w (QqT H O d m w):=by
 have c2:w.cell? ⟨O,2,none⟩=some (.slice d.s.a d.us.length d.s.c):=h.blk.cell 2;have lO:=h.blk.lt;obtain⟨xs,hl,a4,c7⟩:=h.row;have g0:decide ((m:Int)<0)=false:=eG oM;have g1:decide ((d.us.length:Int)<(m:Int))=false:=eG oM;have d6:decide (d.us.length<m)=false:=eG oM;have c6:Qge w O d xs d.us.length w:=⟨h.blk,by rw[Qjb];exact h.map,⟨xs,a4,λ_ _=>rfl⟩,gu _ _⟩;obtain⟨I,a5,HL,b0⟩:=Ye h c7 hl c6;clear h c7 hl c6 a4;go_in;go_wp2_with fail;go_loopw[5] (λq wr=>∃(j:Nat) (i:Int),q=.int .i64 i/\i+1=(j:Int)/\m<=j/\j<=d.us.length/\Qge w O d xs j wr) (λq _=>(intOf q+1).toNat)
 case atStart=>exact⟨d.us.length,_,rfl,oM,hm,ao _,b0.o⟩
 obtain⟨j,i,rfl,b6,d5,d8,Z⟩:=hrel;by_cases d7:m<j
 ·obtain ⟨j,rfl⟩:∃ k,j=k+1:=⟨j - 1,oM⟩
  obtain rfl:i=(j:Int):=oM
  have g2:decide ((m:Int)<=(j:Int))=true:=eI oM;have hu:d.us[j]? = some d.us[j]:=ac oM;obtain⟨u,c0⟩:∃u,d.us[j]=u:=⟨_,rfl⟩;rw[c0]at hu;obtain⟨v,hv⟩:∃v,xs[j]? = some v:=⟨_,ac (by have:=HL.o;omega)⟩;obtain⟨b,hb⟩:=I.o.some_ (λe=>by rw[e]at hu;simp at hu);obtain⟨bw,bd,bo,bk,o,rfl,⟨fw,fd,fo,fk⟩,kw,kd,ho,ko,kk⟩:=a5.o j u v hu hv;obtain⟨ys,a0,b5⟩:=Z.row;have b7:ys[j]? = some (QkE bw bd bo bk):=by rw[b5 j oM];exact hv
  obtain⟨g,ha⟩:∃g,d.s.a=some ⟨g,0,none⟩:=by
   rcases a0.2 with⟨-,h0⟩ |⟨g,d3,c8,hv,-⟩
   .omega
   injection hv with h1;exact⟨g,h1⟩
  rw[ha]at a0;obtain⟨cj,⟨a8,a6⟩,lg,fj⟩:=Qr7 a0 b7;have b2:wr.cell? ⟨O,2,none⟩=some (.slice d.s.a d.us.length d.s.c):=Z.blk.cell 2;rw[ha]at b2;have lW:=Z.blk.lt;have a3:Blk wr O 184 #[QaK d.T,.map (some b),.slice d.s.a d.us.length d.s.c]:=by rw[<-hb];exact Z.blk
  have a1:Qbp wr (some b) (Qdp d.us d.C (j+1)):=by rw[<-hb];exact Z.map
  have a2:=QqI a3 a1 (Qfv I.o.sorted d.us (j+1)) (by have:=I.o.hist.short I.o.h0 _ _ (I.o.hist.back I.o.last (d.us.length -(j+1)) (j+1) oM);unfold maxLen;omega) (I.o.olds u (am hu)).1 (Z.sb.blk kw fw.2.1) (Z.sb.blk kd fd.2.1) ho (Z.sb.blk ko fo.2.1) (Z.sb.blk kk fk.2.1);have b8:d.s.row=some g:=by rw[Sl.row,ha];rfl
  have a7:¬g=b:=λe=>I.o.ne.2.2 b hb (by rw[b8,e])
  have c4:¬O=b:=λe=>I.o.ne.1 (by rw[hb,e])
  obtain⟨HW,HU,HB,HA,b9⟩:=Yf Z hu hb ha a2;have j0:(0:Int)<=(j:Int):=oM
  have j1:(j:Int)<(d.us.length:Int):=oM
  have b4:∀W,Sb (λc=>c=b) wr W->W.frozen? ⟨g,j,none⟩=false/\W.cell? ⟨g,j,none⟩=some (QkE bw bd bo bk)/\W.cell? ⟨O,2,none⟩=some (.slice (some ⟨g,0,none⟩) d.us.length d.s.c)/\g<W:=λW hS=>
   ⟨(World.frozen?_of_block (hS.block g lg a7)).trans fj,(hS.cell lg a7).trans cj,(hS.cell lW c4).trans b2,ab lg hS.size⟩
  have FJ:=hY b4;clear Z b6 c2 hu c0 hv hb fw fd fo fk kw kd ho ko kk a0 b5 b7 ha a3 a1 a2 b8 a7 c4 b4 b0;go_wp2_with(go_at_call 211;refine(b9.o).mono ?_;rintro e w1 ⟨⟨r,rfl⟩,c3,a9⟩;obtain⟨f1,c1,b3,l1⟩:=FJ.out w1 a9;have d4:=hY c3;have c9:=hY a9;clear c3 a9 FJ);go_roundw
  case rel=>exact⟨j,(j:Int)-1,by go_num,oM,oM,oM,QoB I.o HB.o HA.o HU.o HW.o d4.o c9.o⟩
  simp[intOf]
 obtain rfl:j=m:=oM
 have g2:decide ((j:Int)<=i)=false:=eG oM;have b2:wr.cell? ⟨O,2,none⟩=some (.slice d.s.a d.us.length d.s.c):=Z.blk.cell 2;have f2:=Z.blk.frozen 2;have lW:=Z.blk.lt;have HW:=hY Z;clear Z b6 c2;have d0:(d.s.a=none/\d.us.length=0/\d.s.c=0)\/∃g,d.s.a=some ⟨g,0,none⟩/\d.us.length<=d.s.c/\d.s.c<=maxLen:=by
  obtain⟨ys,a0,-⟩:=HW.o.row;rcases a0.2 with⟨hv,h0⟩ |⟨g,d3,c8,hv,-,-,a8,a6,-⟩
  ·injection hv with h1 h2 h3
   exact .inl ⟨h1,h0,h3⟩
  injection hv with h1 h2 h3;exact .inr ⟨g,h1,by rw[h3];exact a8,by rw[h3];exact a6⟩
 rcases d0 with⟨ha,hz,hc⟩ |⟨g,ha,a8,a6⟩
 ·obtain rfl:j=0:=oM
  obtain⟨HA,HC,HZ⟩:=Yc ha hc hz;rw[ha,hz,hc]at b2;clear ha hc hz;have g3:decide ((0:Int)<=i)=false:=g2;go_wp2_with fail;refine eN (v:=.int .i64 0) (by simp[results,results166,go_sem]) rfl ?_;have N:=QlQ hm I.o HL.o a5.o HW.o;rw[HA.o,HC.o]at N;exact⟨rfl,N⟩
 rw[ha]at b2;have HA:=hY ha;clear ha;have k0:(0:Int)<=(j:Int):=oM
 have k1:(j:Int)<=(d.s.c:Int):=oM
 go_wp2_with fail;refine eN (v:=.int .i64 0) (by simp[results,results166,go_sem]) rfl ?_;have N:=QlQ hm I.o HL.o a5.o HW.o;rw[HA.o]at N;exact⟨rfl,N⟩
end Go.Proofs.YtdiecmkpbadgjaaGreatDoor
namespace Go.Proofs.YtdiecmkpbadgjaaGreatDoor
open Go.Proofs.Tryz
open Go.RowKit Go.Maps Go.Shelf
structure OvX(H:Nat->Prop)(w:World)(O:Nat)(d:OD)(M:List Ent):Prop where
 ov:QcK H w O d
 rel:QiZ (Qaa d.T) (Qhe d.C) M
structure GoX(H:Nat->Prop)(w:World)(O:Nat)(d:OD)(M':List Ent)(n:Nat)(w':World)(d':OD):Prop where
 go:Qok H w O d d' w'
 T:d'.T=d.T
 rel:QiZ (Qaa d.T) (Qhe d'.C) M'
 us:d.us <+: d'.us
 hs:d.Hs <+: d'.Hs
 few:d'.us.length<=d.us.length+n
section
variable{H : Nat -> Prop}{w w' w1 w2 : World}{O : Nat}{d d' d1 d2 : OD}{M M1 M2 : List Ent}{n m : Nat}
theorem GoX.at_(h:GoX H w O d M1 n w1 d1):OvX H w1 O d1 M1:=⟨h.go.at_,by rw[h.T];exact h.rel⟩
theorem OvX.nw(h:OvX H w O d M)(k:Nw w w'):OvX H w' O d M:=⟨h.ov.nw k,h.rel⟩
theorem GoX.more(h:GoX H w O d M1 n w1 d1)(k:n<=m):GoX H w O d M1 m w1 d1:=⟨h.go,h.T,h.rel,h.us,h.hs,ak h.few oM⟩
theorem GoX.trans(h:GoX H w O d M1 n w1 d1)(k:GoX H w1 O d1 M2 m w2 d2):GoX H w O d M2 (n+m) w2 d2:=
 ⟨⟨k.go.at_,h.go.sb.comp k.go.sb λi hi e=>(h.go.new i e).elim id λh2=>oM,λb I=>(k.go.new b I).elim (h.go.new b) λh2=>.inr (ak h.go.sb.size h2)⟩,k.T.trans h.T,by have:=k.rel;rwa[h.T]at this,h.us.trans k.us,h.hs.trans k.hs,by have:=h.few;have:=k.few;omega⟩
theorem GoX.since(k:Nw w w1)(h:GoX H w1 O d M1 n w2 d1):GoX H w O d M1 n w2 d1:=
 ⟨⟨h.go.at_,(k.any _).trans h.go.sb,λb I=>(h.go.new b I).imp id (ak k.size)⟩,h.T,h.rel,h.us,h.hs,h.few⟩
theorem OvX.stay(h:OvX H w O d M)(k:Nw w w'):GoX H w O d M n w' d:=⟨⟨h.ov.nw k,k.any _,λb I=>.inl I⟩,rfl,h.rel,dP _,dP _,dy _ _⟩
theorem OvX.now(h:OvX H w O d M)(k:ByteArray):d.now k=Qaq M k:=h.rel.now k
theorem OvX.QuU(h:OvX H w O d M){k:ByteArray}{sv:SV}{mb:Option Nat}{s:Sl}(N:Qok H w O d (d.step k sv mb s) w')(I:QiZ (Qaa d.T) (Qhe (QcX d.C k sv)) M1):GoX H w O d M1 1 w' (d.step k sv mb s):=
 ⟨N,rfl,I,List.prefix_append _ _,List.prefix_append _ _,by show(d.us++_).length<=_;rw[aj];exact ao _⟩
theorem Quh(h:OvX H w O d M)(N:(Qaa d.T).length<=1000000){k:ByteArray}(I:k.size<=maxLen) :
  Calls prog 196 #[.pointer (some O),k] w (QbC (Qaq M k) w):=by
 have:=QsA h.ov N I;rw[h.now k]at this;exact this
theorem QqS(h:OvX H w O d M)(hH:∀b,H b->b<w.heap.size)(hn:d.us.length<=1000000){k:ByteArray}(hk:k.size<=maxLen){v:Val}{sl so:Sl}(hv:RV w (Lt w) v sl so)(hc:QcI v<=1100000)(hL:Qb4 w) :
  Calls prog 167 #[.pointer (some O),k,QbV v sl so] w λe w'=>e=.returned (.int .i64 (setMu M k v).1)/\∃d',GoX H w O d (setMu M k v).2 1 w' d':=
 (Qsd h.ov hH hn hk hv hc hL).mono λe w' ⟨he,hp⟩=>by
   have N:(setMu M k v).1=Qon k v:=by
    unfold setMu Qon;split
    .rfl
    split
    .rfl
    rename_i Z;simpa using(fD.1 Z).symm
   refine⟨by rw[he,N],?_⟩;rcases hp with⟨I,a0,a1,mb,s,ht⟩ |⟨I,hq⟩
   ·have hm:Qci k=0:=by
     unfold Qon at I;by_cases h1:Qci k=0
     .exact h1
     rw[eH h1]at I;cases I
    have Z:QcP v=0:=by
     unfold Qon at I;rwa[eE (by simp[hm])]at I
    have hs:(setMu M k v).2=QbY M k v:=by
     unfold setMu;rw[eE (by simp[hm]),eE (by simp[Z])]
    rw[hs];exact⟨_,h.QuU ht (h.rel.put hm ⟨hv.wf,Z⟩ (QhM (Qbu h.ov.sorted _ _)) λx=>Qms d.C k _ x)⟩
   have hs:(setMu M k v).2=M:=by
    unfold setMu;unfold Qon at I;by_cases h1:Qci k=0
    ·rw [eE (by simp [h1])] at I
     rw[eE (by simp[h1]),eH I]
    rw[eH h1]
   rw[hs];exact⟨d,h.stay hq⟩
theorem Qvk(h:OvX H w O d M)(hH:∀b,H b->b<w.heap.size)(hn:d.us.length<=1000000)(hl:(Qaa d.T).length<=1000000){k:ByteArray}(hk:k.size<=maxLen) :
  Calls prog 168 #[.pointer (some O),k] w λe w'=>e=.returned (.bool (Qaq M k).isSome)/\∃d',GoX H w O d (QbM M k) 1 w' d':=
 (QoZ h.ov hH hn hl hk).mono λe w' ⟨Z,hp⟩=>by
   rw[h.now k]at Z hp;refine⟨Z,?_⟩;rcases hp with⟨I,hq⟩ |⟨I,mb,s,ht⟩
   ·have hd:QbM M k=M:=by
     refine Qe0 (QaN h.rel.ok.sorted k) h.rel.ok.sorted λx=>?_
     rw[Qcx _ _ _ h.rel.ok.sorted];by_cases N:x=k
     ·rw [eH N,N]
      cases hg:Qaq M k with
      |none=>rfl
      |some y=>rw[hg]at I;cases I
     rw[eE N]
    rw[hd];exact⟨d,h.stay hq⟩
   exact⟨_,h.QuU ht (h.rel.del (QhM (Qbu h.ov.sorted _ _)) λx=>Qms d.C k _ x)⟩
theorem Qvj(h:OvX H w O d M)(g:GoX H w O d M1 n w1 d1)(hn:d1.us.length<=1000000) :
  Calls prog 166 #[.pointer (some O),.int .i64 (d.us.length:Int)] w1 λe w'=>e=.returned (.int .i64 0)/\∃d2,GoX H w O d M 0 w' d2/\d2.us=d.us:=
 (QsX g.go.at_ hn (m:=d.us.length) g.us.length_le).mono λe w' ⟨Z,I⟩=>by
   have hu:d1.us.take d.us.length=d.us:=(cH.1 g.us).symm;have N:d.Hs.length=d.us.length+1:=h.ov.hist.len;have hh:d1.Hs.take (d.us.length+1)=d.Hs:=by rw[<-N];exact(cH.1 g.hs).symm
   have hC:Qdp d1.us d1.C d.us.length=d.C:=by
    have h1:=g.go.at_.hist.back g.go.at_.last (d1.us.length-d.us.length) d.us.length (by have:=g.us.length_le;omega);obtain⟨t,I⟩:=g.hs;rw[<-I,bu oM,h.ov.last]at h1;injection h1 with h1;exact h1.symm
   refine⟨Z,⟨d1.T,d1.mb,d1.s,d1.us.take d.us.length,d1.Hs.take (d.us.length+1),Qdp d1.us d1.C d.us.length⟩,⟨⟨I.at_,g.go.sb.comp I.sb λi hi e=>(g.go.new i e).elim id λh2=>oM,λb hb=>(I.new b hb).elim (g.go.new b) λh2=>.inr (ak g.go.sb.size h2)⟩,g.T,?_,?_,?_,?_⟩,hu⟩
   ·show QiZ _ (Qhe (Qdp d1.us d1.C d.us.length)) M
    rw[hC];exact h.rel
   ·show d.us <+: d1.us.take d.us.length
    rw[hu];exact dP _
   ·show d.Hs <+: d1.Hs.take (d.us.length+1)
    rw[hh];exact dP _
   show(d1.us.take d.us.length).length<=_;rw[hu];exact ao _
theorem Qql{B:List Ent}{C:Slots}(h:QiZ B C B):idleC B C:=λk s I=>by
 have h1:=h.now k;rw[QkO,I]at h1;cases s with
 |none=>exact h1.symm
 | some v=>
   show(Qaq B k).any _=true;rw[<-h1];simp[QcN]
theorem QvR(h:OvX H w O d M)(I:(Qaa d.T).length+d.C.length<=1000000) :
  Calls prog 96 #[.pointer (some O)] w λe w'=>∃T',e=.returned (Qao T')/\OkR T'/\IsT w' (Up (OvF H w O d) w w') T'/\Qaa T'=M/\Nw w w'/\(M=Qaa d.T->T'=d.T):=
 (QoR h.ov I).mono λe w' ⟨T',he,ok,hT,hen,hn,hi⟩=>⟨T',he,ok,hT,hen.trans h.rel.com,hn,λN=>hi (Qql (by have:=h.rel;rwa[N]at this))⟩
end
theorem Quk{q:Int}(h:(Lit.int .i64 q).wf=true) : -9223372036854775808<=q/\q<=9223372036854775807:=by
 have h1:IntKind.i64.min = -9223372036854775808:=oN
 have h2:IntKind.i64.max=9223372036854775807:=oN
 simp[Lit.wf,h1,h2]at h;omega
variable{w:World}{F:Nat->Prop}{sl so:Sl}
theorem RV.int{d:Val}(h:RV w F d sl so) : -9223372036854775808<=d.i/\d.i<=9223372036854775807:=by
 cases h with
 |mk bl fl bo fo cl co hl ho hov el rl ek eo ro bk bi bt nl no=>exact Quk bi
variable{H:Nat->Prop}{O:Nat}{d:OD}{M:List Ent}{c:MuS}
theorem QmC{m:Mu}(h:OvX H w O d M)(hl:(Qaa d.T).length<=1000000)(hm:RMu w (Lt w) m c) :
  Calls prog 173 #[.pointer (some O),Qaz m c] w λe w'=>e=.returned (asM M m.k m.had m.was)/\Ext w w':=by
 obtain⟨w1,w2,v1,v2,s⟩:=c;cases hm with
 |@mk kd k tk i a5 was has v l _ bl fl cl rw_ rv hl' el rl bk bt bkd bi nl=>
 show Calls _ _ #[_,.agg #[kd,k,tk,i,a5,was.kind,was.b,was.i,was.t,.slice w1.a was.l.length w1.c,.slice w2.a was.ok.length w2.c,has,v.kind,v.b,v.i,v.t,.slice v1.a v.l.length v1.c,.slice v2.a v.ok.length v2.c,.slice s.a l.length s.c]] _ λe w'=>e=.returned (asM M k a5 was)/\Ext w w'
 have a8:=(gh w).alloc #[.int .i64 kd,.string k,.string tk,.int .i64 i,.bool a5,.int .i64 was.kind,.bool was.b,.int .i64 was.i,.string was.t,.slice w1.a was.l.length w1.c,.slice w2.a was.ok.length w2.c,.bool has,.int .i64 v.kind,.bool v.b,.int .i64 v.i,.string v.t,.slice v1.a v.l.length v1.c,.slice v2.a v.ok.length v2.c,.slice s.a l.length s.c] 37;have a0:=Quh (h.nw (gj a8)) hl bk;obtain⟨RW,a4,a6⟩:=Yc rw_ a8 (gm w 37 #[.int .i64 kd,.string k,.string tk,.int .i64 i,.bool a5,.int .i64 was.kind,.bool was.b,.int .i64 was.i,.string was.t,.slice w1.a was.l.length w1.c,.slice w2.a was.ok.length w2.c,.bool has,.int .i64 v.kind,.bool v.b,.int .i64 v.i,.string v.t,.slice v1.a v.l.length v1.c,.slice v2.a v.ok.length v2.c,.slice s.a l.length s.c]);clear a8 h rw_ rv hl' el rl bk bt bkd bi nl;cases hg:Qaq M k with
 | none=>
   rw[hg]at a0;cases a5 with
   | false=>
     have Z:asM M k false was=(true):=by unfold asM;rw[hg];rfl
     rw[Z];have a2:=hY a0;clear Z a0 hg;go_in;go_wp2_with fail;refine a2.o.mono ?_;rintro e W1 ⟨sl,so,rfl,N,a3⟩;have I:=a6.o.ext N;have c4:W1.cell? ⟨w,4,none⟩=some (.bool false):=I.cell 4;have c5:W1.cell? ⟨w,5,none⟩=some (.int .i64 was.kind):=I.cell 5;have c6:W1.cell? ⟨w,5+1,none⟩=some (.bool was.b):=I.cell 6;have c7:W1.cell? ⟨w,5+2,none⟩=some (.int .i64 was.i):=I.cell 7;have c8:W1.cell? ⟨w,5+3,none⟩=some (.string was.t):=I.cell 8;have c9:W1.cell? ⟨w,5+4,none⟩=some (.slice w1.a was.l.length w1.c):=I.cell 9;have a7:W1.cell? ⟨w,5+5,none⟩=some (.slice w2.a was.ok.length w2.c):=I.cell 10;have l1:=I.lt;have a1:Ext W1 (W1.alloc (.cells #[zeroV.kind,zeroV.b,zeroV.i,zeroV.t,.slice sl.a zeroV.l.length sl.c,.slice so.a zeroV.ok.length so.c] 34)):=(gh W1).alloc _ _;have HX:=hY ((a4.o.trans N).trans a1);clear N a3 I a1;go_wp2_with fail;go_ret;exact⟨rfl,HX.o⟩
   | true=>
     have Z:asM M k true was=(false):=by unfold asM;rw[hg];rfl
     rw[Z];have a2:=hY a0;clear Z a0 hg;go_in;go_wp2_with fail;refine a2.o.mono ?_;rintro e W1 ⟨sl,so,rfl,N,a3⟩;have I:=a6.o.ext N;have c4:W1.cell? ⟨w,4,none⟩=some (.bool true):=I.cell 4;have c5:W1.cell? ⟨w,5,none⟩=some (.int .i64 was.kind):=I.cell 5;have c6:W1.cell? ⟨w,5+1,none⟩=some (.bool was.b):=I.cell 6;have c7:W1.cell? ⟨w,5+2,none⟩=some (.int .i64 was.i):=I.cell 7;have c8:W1.cell? ⟨w,5+3,none⟩=some (.string was.t):=I.cell 8;have c9:W1.cell? ⟨w,5+4,none⟩=some (.slice w1.a was.l.length w1.c):=I.cell 9;have a7:W1.cell? ⟨w,5+5,none⟩=some (.slice w2.a was.ok.length w2.c):=I.cell 10;have l1:=I.lt;have a1:Ext W1 (W1.alloc (.cells #[zeroV.kind,zeroV.b,zeroV.i,zeroV.t,.slice sl.a zeroV.l.length sl.c,.slice so.a zeroV.ok.length so.c] 34)):=(gh W1).alloc _ _;have HX:=hY ((a4.o.trans N).trans a1);clear N a3 I a1;go_wp2_with fail;go_ret;exact⟨rfl,HX.o⟩
 | some x=>
   rw[hg]at a0;cases a5 with
   | false=>
     have Z:asM M k false was=(false):=by unfold asM;rw[hg];rfl
     rw[Z];have a2:=hY a0;clear Z a0 hg;go_in;go_wp2_with fail;refine a2.o.mono ?_;rintro e W1 ⟨sl,so,rfl,N,a3⟩;have I:=a6.o.ext N;have c4:W1.cell? ⟨w,4,none⟩=some (.bool false):=I.cell 4;have c5:W1.cell? ⟨w,5,none⟩=some (.int .i64 was.kind):=I.cell 5;have c6:W1.cell? ⟨w,5+1,none⟩=some (.bool was.b):=I.cell 6;have c7:W1.cell? ⟨w,5+2,none⟩=some (.int .i64 was.i):=I.cell 7;have c8:W1.cell? ⟨w,5+3,none⟩=some (.string was.t):=I.cell 8;have c9:W1.cell? ⟨w,5+4,none⟩=some (.slice w1.a was.l.length w1.c):=I.cell 9;have a7:W1.cell? ⟨w,5+5,none⟩=some (.slice w2.a was.ok.length w2.c):=I.cell 10;have l1:=I.lt;have a1:Ext W1 (W1.alloc (.cells #[x.kind,x.b,x.i,x.t,.slice sl.a x.l.length sl.c,.slice so.a x.ok.length so.c] 34)):=(gh W1).alloc _ _;have HX:=hY ((a4.o.trans N).trans a1);clear N a3 I a1;go_wp2_with fail;go_ret;exact⟨rfl,HX.o⟩
   | true=>
     have Z:asM M k true was=(decide (Qbq x was=0)):=by unfold asM;rw[hg];rfl
     rw[Z];have a2:=hY a0;clear Z a0 hg;go_in;go_wp2_with fail;refine a2.o.mono ?_;rintro e W1 ⟨sl,so,rfl,N,a3⟩;have I:=a6.o.ext N;have c4:W1.cell? ⟨w,4,none⟩=some (.bool true):=I.cell 4;have c5:W1.cell? ⟨w,5,none⟩=some (.int .i64 was.kind):=I.cell 5;have c6:W1.cell? ⟨w,5+1,none⟩=some (.bool was.b):=I.cell 6;have c7:W1.cell? ⟨w,5+2,none⟩=some (.int .i64 was.i):=I.cell 7;have c8:W1.cell? ⟨w,5+3,none⟩=some (.string was.t):=I.cell 8;have c9:W1.cell? ⟨w,5+4,none⟩=some (.slice w1.a was.l.length w1.c):=I.cell 9;have a7:W1.cell? ⟨w,5+5,none⟩=some (.slice w2.a was.ok.length w2.c):=I.cell 10;have l1:=I.lt;have a1:Ext W1 (W1.alloc (.cells #[x.kind,x.b,x.i,x.t,.slice sl.a x.l.length sl.c,.slice so.a x.ok.length so.c] 34)):=(gh W1).alloc _ _;have HX:=hY ((a4.o.trans N).trans a1);have a9:=Qdk (w:=W1.alloc (.cells #[x.kind,x.b,x.i,x.t,.slice sl.a x.l.length sl.c,.slice so.a x.ok.length so.c] 34)) ((a3.agree (a1.agree λb hb=>hb.2)).mono λb hb=>ab hb.2 a1.size) ((RW.out.agree (((a4.o.trans N).trans a1).agree λ_ h=>h)).mono λb hb=>ab hb ((a4.o.trans N).trans a1).size);have b3:=hY a9;clear a9;clear N a3 I a1;go_wp2_with fail;refine b3.o.mono ?_;rintro e W3 ⟨rfl,b0⟩;have b4:=hY (HX.o.trans b0);clear b0;go_wp2_with fail;go_ret;exact⟨rfl,b4.o⟩
theorem Ql9{n b:Int}(N : -9223372036854775808<=n/\n<=9223372036854775807)(I : -9223372036854775808<=b/\b<=9223372036854775807) :
  ((0<b/\9223372036854775807-b<n)->wrap64 (n+b)<n)/\((b<0/\n < -9223372036854775808-b)->n<wrap64 (n+b))/\(¬((0<b/\9223372036854775807-b<n)\/(b<0/\n < -9223372036854775808-b))->wrap64 (n+b)=n+b):=by
 unfold wrap64;refine⟨λh=>?_,λh=>?_,λh=>?_⟩<;>omega
theorem Qpm{k:ByteArray}{by_:Int}{x:Val}(I:Qaq M k=some x)(h:x.kind≠3):Qeb M k by_=(9,M):=by
 unfold Qeb;rw[I];exact eH h
theorem Qte{k:ByteArray}{by_:Int}(h:OvX H w O d M)(hH:∀b,H b->b<w.heap.size)(hn:d.us.length<=1000000)(hl:(Qaa d.T).length<=1000000)(b3:k.size<=maxLen)
  (c0 : -9223372036854775808<=by_/\by_<=9223372036854775807) (hL:Qb4 w) :
  Calls prog 169 #[.pointer (some O),k,by_] w λe w'=>e=.returned (.int .i64 (Qeb M k by_).1)/\∃d',GoX H w O d (Qeb M k by_).2 1 w' d':=by
 have a6:=Quh h hl b3;obtain⟨HH,HL⟩:=Yb h hL;obtain⟨r,hr⟩:∃r,Qeb M k by_=r:=⟨_,rfl⟩;rw[hr];have HR:=hY hr;clear h hL hl hr;cases hg:Qaq M k with
 | none=>
   rw[hg]at a6;obtain⟨HG,b4⟩:=Yb hg a6;clear hg a6;go_in;go_wp2_with fail;refine b4.o.mono ?_;rintro e W1 ⟨sl,so,rfl,a8,b5⟩;have a9:Ext W1 (W1.alloc (.cells #[zeroV.kind,zeroV.b,zeroV.i,zeroV.t,.slice sl.a zeroV.l.length sl.c,.slice so.a zeroV.ok.length so.c] 34)):=(gh W1).alloc _ _;obtain⟨HX,a4⟩:=Yb (a8.trans a9) (Ql9 (n:=zeroV.i) (b:=by_) oN c0);clear a8 a9 b5;by_cases hs:0<by_/\9223372036854775807-by_<zeroV.i
   ·skip
    have f1:(0:Int)<by_:=hs.1;have f2:wrap64 (zeroV.i+by_)<zeroV.i:=a4.o.1 hs;have a7:decide ((0:Int)<by_)=true:=eI f1;have b9:decide (wrap64 (zeroV.i+by_)<zeroV.i)=true:=eI f2;have N:Qeb M k by_=(7,M):=by unfold Qeb;rw[HG.o];exact eH (.inl hs)
    have I:=hY (HR.o.symm.trans N);clear hs N;go_wp2_with fail;go_ret;exact⟨by rw[I.o]<;>rfl,d,by rw[I.o];exact HH.o.stay (gj HX.o)⟩
   by_cases hs:by_<0/\zeroV.i < -9223372036854775808-by_
   ·skip
    have f1:¬(0:Int)<by_:=oM
    have f3:by_<0:=hs.1;have f4:zeroV.i<wrap64 (zeroV.i+by_):=a4.o.2.1 hs;have a7:decide ((0:Int)<by_)=false:=eG f1;have b0:decide (by_<0)=true:=eI f3;have b8:decide (zeroV.i<wrap64 (zeroV.i+by_))=true:=eI f4;have N:Qeb M k by_=(7,M):=by unfold Qeb;rw[HG.o];exact eH (.inr hs)
    have I:=hY (HR.o.symm.trans N);clear hs N;go_wp2_with fail;go_ret;exact⟨by rw[I.o]<;>rfl,d,by rw[I.o];exact HH.o.stay (gj HX.o)⟩
   have a0:¬((0<by_/\9223372036854775807-by_<zeroV.i)\/(by_<0/\zeroV.i < -9223372036854775808-by_)):=oM
   by_cases hs:0<by_
   ·skip
    have f1:(0:Int)<by_:=hs;have f3:¬by_<0:=oM
    have f2:¬wrap64 (zeroV.i+by_)<zeroV.i:=by rw[a4.o.2.2 a0];omega
    have a7:decide ((0:Int)<by_)=true:=eI f1;have b0:decide (by_<0)=false:=eG f3;have b9:decide (wrap64 (zeroV.i+by_)<zeroV.i)=false:=eG f2;have hw:wrap64 (zeroV.i+by_)=(0:Int)+by_:=a4.o.2.2 a0;have N:Qeb M k by_=setMu M k (Qlb (wrap64 (zeroV.i+by_))):=by unfold Qeb;rw[HG.o,hw];exact eE a0
    have a1 : -9223372036854775808<=wrap64 (zeroV.i+by_)/\wrap64 (zeroV.i+by_)<=9223372036854775807:=by unfold wrap64;omega
    have I:=hY (HR.o.symm.trans N);have Z:=QqS (v:=Qlb (wrap64 (zeroV.i+by_))) (sl:=Sl.none) (so:=Sl.none) (HH.o.nw (gj HX.o)) (λb hb=>ab (hH b hb) HX.o.size) hn b3 (RV.flat _ _ _ _ _ _ oN (WalkArith.wf_i64 a1) oN) (show 7+0+0+0<=1100000 by decide) (HL.o.nw (gj HX.o));have a3:=hY Z;clear hs hw N a1 Z a0;go_wp2_with fail;refine a3.o.mono ?_;rintro e w2 ⟨rfl,d',a2⟩;have a5:=hY (a2.since (gj HX.o));clear a2;go_wp2_with fail;go_ret;exact⟨by rw[I.o]<;>rfl,d',by rw[I.o];exact a5.o⟩
   by_cases hs:by_<0
   ·skip
    have f1:¬(0:Int)<by_:=oM
    have f3:by_<0:=hs;have f4:¬zeroV.i<wrap64 (zeroV.i+by_):=by rw[a4.o.2.2 a0];omega
    have a7:decide ((0:Int)<by_)=false:=eG f1;have b0:decide (by_<0)=true:=eI f3;have b8:decide (zeroV.i<wrap64 (zeroV.i+by_))=false:=eG f4;have hw:wrap64 (zeroV.i+by_)=(0:Int)+by_:=a4.o.2.2 a0;have N:Qeb M k by_=setMu M k (Qlb (wrap64 (zeroV.i+by_))):=by unfold Qeb;rw[HG.o,hw];exact eE a0
    have a1 : -9223372036854775808<=wrap64 (zeroV.i+by_)/\wrap64 (zeroV.i+by_)<=9223372036854775807:=by unfold wrap64;omega
    have I:=hY (HR.o.symm.trans N);have Z:=QqS (v:=Qlb (wrap64 (zeroV.i+by_))) (sl:=Sl.none) (so:=Sl.none) (HH.o.nw (gj HX.o)) (λb hb=>ab (hH b hb) HX.o.size) hn b3 (RV.flat _ _ _ _ _ _ oN (WalkArith.wf_i64 a1) oN) (show 7+0+0+0<=1100000 by decide) (HL.o.nw (gj HX.o));have a3:=hY Z;clear hs hw N a1 Z a0;go_wp2_with fail;refine a3.o.mono ?_;rintro e w2 ⟨rfl,d',a2⟩;have a5:=hY (a2.since (gj HX.o));clear a2;go_wp2_with fail;go_ret;exact⟨by rw[I.o]<;>rfl,d',by rw[I.o];exact a5.o⟩
   have f1:¬(0:Int)<by_:=oM
   have f3:¬by_<0:=oM
   have a7:decide ((0:Int)<by_)=false:=eG f1;have b0:decide (by_<0)=false:=eG f3;have hw:wrap64 (zeroV.i+by_)=(0:Int)+by_:=a4.o.2.2 a0;have N:Qeb M k by_=setMu M k (Qlb (wrap64 (zeroV.i+by_))):=by unfold Qeb;rw[HG.o,hw];exact eE a0
   have a1 : -9223372036854775808<=wrap64 (zeroV.i+by_)/\wrap64 (zeroV.i+by_)<=9223372036854775807:=by unfold wrap64;omega
   have I:=hY (HR.o.symm.trans N);have Z:=QqS (v:=Qlb (wrap64 (zeroV.i+by_))) (sl:=Sl.none) (so:=Sl.none) (HH.o.nw (gj HX.o)) (λb hb=>ab (hH b hb) HX.o.size) hn b3 (RV.flat _ _ _ _ _ _ oN (WalkArith.wf_i64 a1) oN) (show 7+0+0+0<=1100000 by decide) (HL.o.nw (gj HX.o));have a3:=hY Z;clear hs hw N a1 Z a0;go_wp2_with fail;refine a3.o.mono ?_;rintro e w2 ⟨rfl,d',a2⟩;have a5:=hY (a2.since (gj HX.o));clear a2;go_wp2_with fail;go_ret;exact⟨by rw[I.o]<;>rfl,d',by rw[I.o];exact a5.o⟩
 | some x=>
   rw[hg]at a6;obtain⟨HG,b4⟩:=Yb hg a6;clear hg a6;by_cases b6:x.kind=3
   ·have gk:(x.kind != 3)=false:=by simp [b6]
    have b7:=hY b6;clear b6;go_in;go_wp2_with fail;refine b4.o.mono ?_;rintro e W1 ⟨sl,so,rfl,a8,b5⟩;have a9:Ext W1 (W1.alloc (.cells #[x.kind,x.b,x.i,x.t,.slice sl.a x.l.length sl.c,.slice so.a x.ok.length so.c] 34)):=(gh W1).alloc _ _;obtain⟨HX,a4⟩:=Yb (a8.trans a9) (Ql9 (n:=x.i) (b:=by_) b5.rv.int c0);clear a8 a9 b5;by_cases hs:0<by_/\9223372036854775807-by_<x.i
    ·skip
     have f1:(0:Int)<by_:=hs.1;have f2:wrap64 (x.i+by_)<x.i:=a4.o.1 hs;have a7:decide ((0:Int)<by_)=true:=eI f1;have b9:decide (wrap64 (x.i+by_)<x.i)=true:=eI f2;have N:Qeb M k by_=(7,M):=by unfold Qeb;rw[HG.o];dsimp only;rw[eE (by simp[b7.o])];exact eH (.inl hs)
     have I:=hY (HR.o.symm.trans N);clear hs N;go_wp2_with fail;go_ret;exact⟨by rw[I.o]<;>rfl,d,by rw[I.o];exact HH.o.stay (gj HX.o)⟩
    by_cases hs:by_<0/\x.i < -9223372036854775808-by_
    ·skip
     have f1:¬(0:Int)<by_:=oM
     have f3:by_<0:=hs.1;have f4:x.i<wrap64 (x.i+by_):=a4.o.2.1 hs;have a7:decide ((0:Int)<by_)=false:=eG f1;have b0:decide (by_<0)=true:=eI f3;have b8:decide (x.i<wrap64 (x.i+by_))=true:=eI f4;have N:Qeb M k by_=(7,M):=by unfold Qeb;rw[HG.o];dsimp only;rw[eE (by simp[b7.o])];exact eH (.inr hs)
     have I:=hY (HR.o.symm.trans N);clear hs N;go_wp2_with fail;go_ret;exact⟨by rw[I.o]<;>rfl,d,by rw[I.o];exact HH.o.stay (gj HX.o)⟩
    have a0:¬((0<by_/\9223372036854775807-by_<x.i)\/(by_<0/\x.i < -9223372036854775808-by_)):=oM
    by_cases hs:0<by_
    ·skip
     have f1:(0:Int)<by_:=hs;have f3:¬by_<0:=oM
     have f2:¬wrap64 (x.i+by_)<x.i:=by rw[a4.o.2.2 a0];omega
     have a7:decide ((0:Int)<by_)=true:=eI f1;have b0:decide (by_<0)=false:=eG f3;have b9:decide (wrap64 (x.i+by_)<x.i)=false:=eG f2;have hw:wrap64 (x.i+by_)=x.i+by_:=a4.o.2.2 a0;have N:Qeb M k by_=setMu M k (Qlb (wrap64 (x.i+by_))):=by unfold Qeb;rw[HG.o,hw];dsimp only;rw[eE (by simp[b7.o])];exact eE a0
     have a1 : -9223372036854775808<=wrap64 (x.i+by_)/\wrap64 (x.i+by_)<=9223372036854775807:=by unfold wrap64;omega
     have I:=hY (HR.o.symm.trans N);have Z:=QqS (v:=Qlb (wrap64 (x.i+by_))) (sl:=Sl.none) (so:=Sl.none) (HH.o.nw (gj HX.o)) (λb hb=>ab (hH b hb) HX.o.size) hn b3 (RV.flat _ _ _ _ _ _ oN (WalkArith.wf_i64 a1) oN) (show 7+0+0+0<=1100000 by decide) (HL.o.nw (gj HX.o));have a3:=hY Z;clear hs hw N a1 Z a0;go_wp2_with fail;refine a3.o.mono ?_;rintro e w2 ⟨rfl,d',a2⟩;have a5:=hY (a2.since (gj HX.o));clear a2;go_wp2_with fail;go_ret;exact⟨by rw[I.o]<;>rfl,d',by rw[I.o];exact a5.o⟩
    by_cases hs:by_<0
    ·skip
     have f1:¬(0:Int)<by_:=oM
     have f3:by_<0:=hs;have f4:¬x.i<wrap64 (x.i+by_):=by rw[a4.o.2.2 a0];omega
     have a7:decide ((0:Int)<by_)=false:=eG f1;have b0:decide (by_<0)=true:=eI f3;have b8:decide (x.i<wrap64 (x.i+by_))=false:=eG f4;have hw:wrap64 (x.i+by_)=x.i+by_:=a4.o.2.2 a0;have N:Qeb M k by_=setMu M k (Qlb (wrap64 (x.i+by_))):=by unfold Qeb;rw[HG.o,hw];dsimp only;rw[eE (by simp[b7.o])];exact eE a0
     have a1 : -9223372036854775808<=wrap64 (x.i+by_)/\wrap64 (x.i+by_)<=9223372036854775807:=by unfold wrap64;omega
     have I:=hY (HR.o.symm.trans N);have Z:=QqS (v:=Qlb (wrap64 (x.i+by_))) (sl:=Sl.none) (so:=Sl.none) (HH.o.nw (gj HX.o)) (λb hb=>ab (hH b hb) HX.o.size) hn b3 (RV.flat _ _ _ _ _ _ oN (WalkArith.wf_i64 a1) oN) (show 7+0+0+0<=1100000 by decide) (HL.o.nw (gj HX.o));have a3:=hY Z;clear hs hw N a1 Z a0;go_wp2_with fail;refine a3.o.mono ?_;rintro e w2 ⟨rfl,d',a2⟩;have a5:=hY (a2.since (gj HX.o));clear a2;go_wp2_with fail;go_ret;exact⟨by rw[I.o]<;>rfl,d',by rw[I.o];exact a5.o⟩
    have f1:¬(0:Int)<by_:=oM
    have f3:¬by_<0:=oM
    have a7:decide ((0:Int)<by_)=false:=eG f1;have b0:decide (by_<0)=false:=eG f3;have hw:wrap64 (x.i+by_)=x.i+by_:=a4.o.2.2 a0;have N:Qeb M k by_=setMu M k (Qlb (wrap64 (x.i+by_))):=by unfold Qeb;rw[HG.o,hw];dsimp only;rw[eE (by simp[b7.o])];exact eE a0
    have a1 : -9223372036854775808<=wrap64 (x.i+by_)/\wrap64 (x.i+by_)<=9223372036854775807:=by unfold wrap64;omega
    have I:=hY (HR.o.symm.trans N);have Z:=QqS (v:=Qlb (wrap64 (x.i+by_))) (sl:=Sl.none) (so:=Sl.none) (HH.o.nw (gj HX.o)) (λb hb=>ab (hH b hb) HX.o.size) hn b3 (RV.flat _ _ _ _ _ _ oN (WalkArith.wf_i64 a1) oN) (show 7+0+0+0<=1100000 by decide) (HL.o.nw (gj HX.o));have a3:=hY Z;clear hs hw N a1 Z a0;go_wp2_with fail;refine a3.o.mono ?_;rintro e w2 ⟨rfl,d',a2⟩;have a5:=hY (a2.since (gj HX.o));clear a2;go_wp2_with fail;go_ret;exact⟨by rw[I.o]<;>rfl,d',by rw[I.o];exact a5.o⟩
   have gk:(x.kind != 3)=true:=by simp[b6]
   have I:=hY (HR.o.symm.trans (Qpm HG.o b6));clear b6;go_in;go_wp2_with fail;refine b4.o.mono ?_;rintro e W1 ⟨sl,so,rfl,a8,b5⟩;have a9:Ext W1 (W1.alloc (.cells #[x.kind,x.b,x.i,x.t,.slice sl.a x.l.length sl.c,.slice so.a x.ok.length so.c] 34)):=(gh W1).alloc _ _;have HX:=hY (a8.trans a9);clear a8 a9 b5;go_wp2_with fail;go_ret;exact⟨by rw[I.o]<;>rfl,d,by rw[I.o];exact HH.o.stay (gj HX.o)⟩
abbrev fE:=@wpList_store_mid
abbrev fT:=@World.rangeAt_setCells_same
abbrev Qa2(m:Mu)(c:MuS):Array Value:=(Qan m c).toArray
theorem QfD(m:Mu)(c:MuS):(Qan m c).length=19:=rfl
theorem Tryz.Qem:(prog.info? 37).map (·.size)=some 19:=kM
theorem MuC.range{b o:Nat}{m:Mu}(h:MuC w b o m c):w.rangeAt b o (Qan m c):=h
theorem MuC.Qax{w:World}{b:Nat}{t:TypeId}{m:Mu}{c:MuS}(h:Blk w b t (Qa2 m c)):MuC w b 0 m c:=λj u hu=>by
 rw[aD,h.cell];simpa using hu
theorem MuC.lt{b o:Nat}{m:Mu}(h:MuC w b o m c):b<w:=eX w _ (h 0 _ rfl)
variable{w':World}
theorem MuC.ext{b o:Nat}{m:Mu}(h:MuC w b o m c)(k:Ext w w'):MuC w' b o m c:=λj u hu=>(k.cell h.lt).trans (h j u hu)
variable{ops:Array Oper}{a:Act}{Q:Exit->Act->World->Prop}
theorem Qah{rest:List Oper}{op:Oper}(I:op.guard=none)(x:Operand)(ho:op.op=.load 37 x)
  (b o:Nat) (Z:a.eval x=.pointer (some ⟨b,o,none⟩)) (m:Mu) (c:MuS) (N:MuC w b o m c) (h:wpList prog ops Q rest (a.put op.dst (Qaz m c)) w):wpList prog ops Q (op::rest) a w:=
 wpList_load_mid I 37 x ho b o Z (Qan m c) _ N.range underlying37 rfl (by rw[QfD];exact Tryz.Qem) h
theorem Qcv{b:Nat}{t:TypeId}:∀(vs:List Value) (o:Nat) {w:World} {z:Array Value},Blk w b t z->∃I,Blk (w.setCells b o vs) b t I/\I.size=z.size
 |[],_,_,z,h=>⟨z,h,rfl⟩
 | v :: vs,o,w,z,h=>by
   obtain⟨I,h1,h2⟩:=Qcv vs (o+1) (h.QbH o v);exact⟨I,h1,by rw[h2];simp⟩
variable{w0:World}
theorem QiR{rest:List Oper}{op:Oper}(a1:op.guard=none)(x y:Operand)(ho:op.op=.store 37 x y)
  (m:Mu) (c:MuS) {b:Nat} (hb:w0.heap.size=b) (hw:Ext w0 w) {z:Array Value} (hz:Blk w b 37 z) (Z:z.size=19) (hx:a.eval x=.pointer (some b)) (hy:a.eval y=Qaz m c)
  (h:∀w',Ext w0 w'->Blk w' b 37 (Qa2 m c)->wpList prog ops Q rest (a.put op.dst undef) w'):wpList prog ops Q (op::rest) a w:=by
 have I:w.there b 0 (Qa2 m c).size:=Qe3 hz (by rw[Z];exact ao 19);refine fE a1 37 x y ho b 0 (Qa2 m c) hx hy I (by exact Tryz.Qem) ?_ (h _ (Ext.setCells oM _ _ hw) ?_)
 ·show ((Qan m c).toArray.all _)=true
  simp[Qan,Value.oneCell']
 have hr:=fT w b 0 (Qan m c) I;obtain⟨z',h1,h2⟩:=Qcv (Qan m c) 0 hz;have N:z'.toList=Qan m c:=by
  refine bI λj=>?_
  rw[bT];by_cases hj:j<19
  ·obtain ⟨v,hv⟩:∃ v,(Qan m c)[j]? = some v:=⟨_,ac hj⟩
   have h3:=hr j v hv;rw[aD,h1.cell]at h3;rw[h3,hv]
  rw[Array.getElem?_eq_none oM,aI (by rw[QfD];omega)]
 have a0:z'=Qa2 m c:=dO.1 (N.trans (cd).symm);have e:(Qa2 m c).toList=Qan m c:=cd;rw[e,<-a0];exact h1
theorem QiJ(m:Mu)(c:MuS):∃I,prog.underlying 37=some I/\I.isRow=true/\(prog.info? 37).map (·.size)=some (Qa2 m c).size:=⟨_,underlying37,rfl,Tryz.Qem⟩
abbrev gC:=@MuC.Qax
theorem MuC.c19{b o:Nat}{m:Mu}(h:MuC w b o m c):w.cell? ⟨b,o,none⟩=some (.int .i64 m.kd)/\w.cell? ⟨b,o+1,none⟩=some (.string m.k)/\w.cell? ⟨b,o+2,none⟩=some (.string m.tk)/\w.cell? ⟨b,o+3,none⟩=some (.int .i64 m.i)/\w.cell? ⟨b,o+4,none⟩=some (.bool m.had)/\w.cell? ⟨b,o+5,none⟩=some (.int .i64 m.was.kind)/\w.cell? ⟨b,o+6,none⟩=some (.bool m.was.b)/\w.cell? ⟨b,o+7,none⟩=some (.int .i64 m.was.i)/\w.cell? ⟨b,o+8,none⟩=some (.string m.was.t)/\w.cell? ⟨b,o+9,none⟩=some (.slice c.w1.a m.was.l.length c.w1.c)/\w.cell? ⟨b,o+10,none⟩=some (.slice c.w2.a m.was.ok.length c.w2.c)/\w.cell? ⟨b,o+11,none⟩=some (.bool m.has)/\w.cell? ⟨b,o+12,none⟩=some (.int .i64 m.v.kind)/\w.cell? ⟨b,o+13,none⟩=some (.bool m.v.b)/\w.cell? ⟨b,o+14,none⟩=some (.int .i64 m.v.i)/\w.cell? ⟨b,o+15,none⟩=some (.string m.v.t)/\w.cell? ⟨b,o+16,none⟩=some (.slice c.v1.a m.v.l.length c.v1.c)/\w.cell? ⟨b,o+17,none⟩=some (.slice c.v2.a m.v.ok.length c.v2.c)/\w.cell? ⟨b,o+18,none⟩=some (.slice c.s.a m.l.length c.s.c):=
 ⟨h 0 _ rfl,h 1 _ rfl,h 2 _ rfl,h 3 _ rfl,h 4 _ rfl,h 5 _ rfl,h 6 _ rfl,h 7 _ rfl,h 8 _ rfl,h 9 _ rfl,h 10 _ rfl,h 11 _ rfl,h 12 _ rfl,h 13 _ rfl,h 14 _ rfl,h 15 _ rfl,h 16 _ rfl,h 17 _ rfl,h 18 _ rfl⟩
variable{W0:World}
theorem QaB{m:Mu}(h:w.alloc (.cells (Qa2 m c) 37)=W0):Ext w W0/\MuC W0 w.heap.size 0 m c/\W0.heap.size=w.heap.size+1:=by
 rw[<-h];exact⟨(gh w).alloc _ _,gC (gm w _ _),eK _ _⟩
theorem RMu.parts{m:Mu}(h:RMu w F m c):RV w F m.was c.w1 c.w2/\RV w F m.v c.v1 c.v2/\m.k.size<=maxLen/\m.tk.size<=maxLen/\(-9223372036854775808<=m.i/\m.i<=9223372036854775807):=by
 cases h with
 |mk bl fl cl rw_ rv hl el rl bk bt bkd bi nl=>exact⟨rw_,rv,bk,bt,Quk bi⟩
theorem Qkz(m:Mu):QcI m.v<=QcC m/\QcI m.was<=QcC m:=by
 obtain⟨kd,k,tk,i,I,N,Z,v,l⟩:=m;simp only[QcC,Mu.v,Mu.was];omega
def Qt9(M:List Ent)(m:Mu):Int × List Ent:=if asM M m.k m.had m.was then(if m.has then setMu M m.k m.v else(0,QbM M m.k))else(13,M)
theorem QsY{m:Mu}(h:OvX H w O d M)(hH:∀b,H b->b<w.heap.size)(hn:d.us.length<=1000000)(hl:(Qaa d.T).length<=1000000)(hm:RMu w (Lt w) m c)(ht:QcC m<=1100000)(hL:Qb4 w) :
  Calls prog 170 #[.pointer (some O),Qaz m c] w λe w'=>e=.returned (.int .i64 (Qt9 M m).1)/\∃d',GoX H w O d (Qt9 M m).2 1 w' d':=by
 obtain⟨-,hv,hk,-,-⟩:=hm.parts;have b7:=λW (hW:Ext w W)=>QmC (h.nw (gj hW)) hl ((hm.agree (hW.agree λ_ h=>h)).mono (G:=Lt W) λb hb=>ab hb hW.size)
 obtain⟨a8,HH,HL,HV⟩:=Ye b7 h hL hv;have d4:QcI m.v<=1100000:=by have:=(Qkz m).1;omega
 clear b7 h hL hm ht hv;obtain⟨r,hr⟩:∃r,Qt9 M m=r:=⟨_,rfl⟩;rw[hr];unfold Qt9 at hr;cases ha:asM M m.k m.had m.was with
 | false=>
   rw[ha]at a8 hr;rw[eE oO]at hr;have HR:=hY hr;clear hr ha;go_in;go_upto_region 1 with fail;generalize a3:World.alloc _ _=W0;obtain⟨a2,a0,-⟩:=QaB (m:=m) (c:=c) a3;obtain⟨a1,a4⟩:=Yb a2 a0;clear a3 a2 a0;go_wp2_with(refine Qah rfl (.tmp 3) rfl w.heap.size 0 rfl m c a4.o ?_);refine(a8.o _ a1.o).mono ?_;rintro e W1 ⟨rfl,N⟩;have a7:=hY (a1.o.trans N);clear N;go_wp2_with fail;go_ret;exact⟨by rw[<-HR.o]<;>rfl,d,by rw[<-HR.o];exact HH.o.stay (gj a7.o)⟩
 | true=>
   rw[ha]at a8 hr;rw[eH rfl]at hr;cases hh:m.has with
   | true=>
     rw[hh,eH rfl]at hr;obtain⟨HR,a6⟩:=Yb hr hh;clear hr ha hh;go_in;go_upto_region 1 with fail;generalize a3:World.alloc _ _=W0;obtain⟨a2,a0,-⟩:=QaB (m:=m) (c:=c) a3;obtain⟨a1,a4⟩:=Yb a2 a0;clear a3 a2 a0;go_wp2_with(refine Qah rfl (.tmp 3) rfl w.heap.size 0 rfl m c a4.o ?_);refine(a8.o _ a1.o).mono ?_;rintro e W1 ⟨rfl,N⟩;have I:=a1.o.trans N;have Z:=a4.o.ext N;obtain⟨c0,c1,c2,c3,c4,c5,c6,c7,c8,c9,b6,a9,d0,d7,d3,d6,d5,d8,b5⟩:=Z.c19;simp only[Nat.zero_add]at c0 c1 c2 c3 c4 c5 c6 c7 c8 c9 b6 a9 d0 d7 d3 d6 d5 d8 b5;rw[a6.o]at a9;have l1:=Z.lt;have b3:=QqS (HH.o.nw (gj I)) (λb hb=>ab (hH b hb) I.size) hn hk ((HV.o.agree (I.agree λ_ h=>h)).mono λb hb=>ab hb I.size) d4 (HL.o.nw (gj I));obtain⟨b9,a7⟩:=Yb b3 I;clear N Z I b3 c0 c2 c3 c4 c5 c6 c7 c8 c9 b6 b5;go_wp2_with fail;refine b9.o.mono ?_;rintro e W2 ⟨rfl,d',a5⟩;have b4:=hY (a5.since (gj a7.o));clear a5;go_wp2_with fail;go_ret;exact⟨by rw[<-HR.o]<;>rfl,d',by rw[<-HR.o];exact b4.o⟩
   | false=>
     rw[hh,eE oO]at hr;obtain⟨HR,a6⟩:=Yb hr hh;clear hr ha hh;go_in;go_upto_region 1 with fail;generalize a3:World.alloc _ _=W0;obtain⟨a2,a0,-⟩:=QaB (m:=m) (c:=c) a3;obtain⟨a1,a4⟩:=Yb a2 a0;clear a3 a2 a0;go_wp2_with(refine Qah rfl (.tmp 3) rfl w.heap.size 0 rfl m c a4.o ?_);refine(a8.o _ a1.o).mono ?_;rintro e W1 ⟨rfl,N⟩;have I:=a1.o.trans N;have Z:=a4.o.ext N;have a9:W1.cell? ⟨w,11,none⟩=some (.bool m.has):=Z 11 _ rfl;have c1:W1.cell? ⟨w,1,none⟩=some (.string m.k):=Z 1 _ rfl;rw[a6.o]at a9;have l1:=Z.lt;have b0:=Qvk (HH.o.nw (gj I)) (λb hb=>ab (hH b hb) I.size) hn hl hk;obtain⟨b8,a7⟩:=Yb b0 I;clear N Z I b0;go_wp2_with fail;refine b8.o.mono ?_;rintro e W2 ⟨rfl,d',a5⟩;have b4:=hY (a5.since (gj a7.o));clear a5;go_wp2_with fail;go_ret;exact⟨by rw[<-HR.o]<;>rfl,d',by rw[<-HR.o];exact b4.o⟩
variable{j:Nat}
theorem RMu.at{m:Mu}(h:RMu w F m c){x:Mu}(I:m.l[j]? = some x) :
  ∃b o y,c.s.a=some ⟨b,o,none⟩/\F b/\m.l.length<=c.s.c/\c.s.c<=maxLen/\MuC w b (o+j*19) x y/\RMu w F x y:=by
 cases h with
 | mk bl fl cl rw_ rv hl el rl bk bt bkd bi nl=>
   obtain⟨Z,e2,N⟩:=hl.eq (QaW I);exact⟨bl,fl,cl j,Z,hl.fits (QaW I),e2,N,el j x I,rl j x I⟩
theorem RMu.len{m:Mu}(h:RMu w F m c):m.l.length*264<=140737488355328:=by
 cases h with
 |mk bl fl cl rw_ rv hl el rl bk bt bkd bi nl=>exact nl
theorem Mu.Qsr{m:Mu}{x:Mu}(h:m.l[j]? = some x):SizeOf.sizeOf x<SizeOf.sizeOf m:=by
 obtain⟨kd,k,tk,i,I,N,Z,v,l⟩:=m;have h1:SizeOf.sizeOf x<SizeOf.sizeOf l:=dN (am h);simp only[Mu.mk.sizeOf_spec];omega
theorem Qf7(m:Mu):Qa0 m=1+QaF m.l:=by
 obtain⟨kd,k,tk,i,I,N,Z,v,l⟩:=m;rw[Qa0];rfl
theorem QeZ:∀(l:List Mu) (j:Nat),QaF (l.take j)<=QaF l
 |[],j=>oO
 |x::r,0=>by simp[QaF]
 |x::r,j+1=>by have:=QeZ r j;rw[bp,QaF,QaF];omega
theorem Qqv(n:Nat):∀(m:Mu) (c:MuS) (w:World),SizeOf.sizeOf m<=n->RMu w (Lt w) m c->Qa0 m<=1100000->Calls prog 160 #[Qaz m c] w λe w'=>e=.returned (.int .i64 (Qa0 m:Int))/\Ext w w':=by
 induction n with
 |zero=>intro m c w h;have:=Mu.Qb6 m;omega
 | succ n ih=>
   intro m c w hn hm hs;obtain⟨HI,HM⟩:=Yb ih hm;have c4:=hm.len;obtain⟨a6,HS,HN⟩:=Yc (Qf7 m) hs hn;clear ih hm hs hn;go_in;go_upto_region 1 with fail;generalize b3:World.alloc _ _=W0;obtain⟨a9,a4,-⟩:=QaB (m:=m) (c:=c) b3;have c3:=hY a9;have c7:W0.cell? ⟨w,8+10,none⟩=some (.slice c.s.a m.l.length c.s.c):=a4 18 _ rfl;clear b3 a9 a4;go_wp2_with fail;go_loopw[3,9] (λv3 v9 wr=>∃j:Nat,v9=.int .i64 (j:Int)/\v3=.int .i64 ((1+QaF (m.l.take j):Nat):Int)/\j<=m.l.length/\Yd (Ext w wr)) (λ_ v _=>m.l.length -(intOf v).toNat)
   case atStart=>exact⟨0,rfl,by simp[QaF],aA _,c3⟩
   obtain⟨j,rfl,rfl,hj,HX⟩:=hrel;by_cases a2:j<m.l.length
   ·have l1:(j:Int)<(m.l.length:Int):=oM
    have c9:decide ((j:Int)<(m.l.length:Int))=true:=eI l1;have l0:(0:Int)<=(j:Int):=oM
    obtain⟨x,hx⟩:∃x,m.l[j]? = some x:=⟨_,ac a2⟩;obtain⟨b,o,y,c2,N,d0,c8,b5,a5⟩:=HM.o.at hx;have N:b<w:=N;have c6:b<wr:=ab N HX.o.size;have a7:=hY (b5.agree (HX.o.agree λ_ h=>h) N);have b8:Qa0 x<=QaF m.l:=by
     have h1:=Qde hx;have h2:=QeZ m.l (j+1);omega
    have b4:1+QaF m.l<=1100000:=by rw[<-a6.o];exact HS.o
    have I:=λW (hW:Ext wr W)=>HI.o x y W (by have:=Mu.Qsr hx;have:=HN.o;omega) ((a5.agree ((HX.o.trans hW).agree λ_ h=>h)).mono λb hb=>ab hb (HX.o.trans hW).size) oM
    obtain⟨a0,b9⟩:=Yb I (Qde hx);have Z:=QeZ m.l (j+1);have a3:wrap64 (1+(QaF (m.l.take j):Int)+(Qa0 x:Int))=((1+QaF (m.l.take (j+1)):Nat):Int):=by
     unfold wrap64;rw[b9.o]at Z ⊢;omega
    have b7:=hY a3;clear a5 b5 b8 b4 I Z a3 hx;rw[c2];go_wp2_with(first |(refine Qah rfl (.tmp 11) rfl b (o+j*19) rfl x y a7.o ?_) |(refine QiR rfl (.tmp 5) (.tmp 12) rfl x y (w0:=wr) (b:=wr) rfl ((gh wr).alloc _ _) (gm wr _ _) rfl rfl rfl ?_;intro w5 b0 a8;have a1:=hY b0;have c0:=hY (gC a8);clear b0 a8) |(refine Qah rfl (.tmp 5) rfl wr.heap.size 0 rfl x y c0.o ?_));refine(a0.o _ a1.o).mono ?_;rintro e w2 ⟨rfl,b6⟩;have c1:=hY ((HX.o.trans a1.o).trans b6);clear b6;go_wp2_with fail;go_roundw
    case rel=>exact⟨j+1,by go_num,by rw[b7.o],a2,c1⟩
    simp[intOf];omega
   obtain rfl:j=m.l.length:=oM
   have l1:decide ((m.l.length:Int)<(m.l.length:Int))=false:=eG oM;have HT:=hY (show((1+QaF (m.l.take m.l.length):Nat):Int)=(Qa0 m:Int)by rw[aR,a6.o]);go_wp2_with fail;go_ret;exact⟨by rw[HT.o]<;>rfl,HX.o⟩
theorem Qqu{m:Mu}(h:RMu w (Lt w) m c)(hs:Qa0 m<=1100000):Calls prog 160 #[Qaz m c] w λe w'=>e=.returned (.int .i64 (Qa0 m:Int))/\Ext w w':=Qqv _ m c w (ao _) h hs
def QaG(m:Mu):Bool:=m.k.size==0&&m.tk.size==0&&m.i==0 && !m.had&&Qd9 m.was && !m.has&&Qd9 m.v&&m.l.length==0
theorem QaO(w:World)(m:Mu)(c:MuS):Calls prog 205 #[Qaz m c] w λe w'=>e=.returned (QaG m)/\Ext w w':=by
 obtain⟨r,hr⟩:∃r,QaG m=r:=⟨_,rfl⟩;rw[hr];unfold QaG at hr;by_cases h0:m.k.size=0
 rotate_left
 ·have g0:=Qbr h0
  have HR:=hY (show false=r by rw[<-hr];simp[h0]);clear hr h0;go_in;go_upto_region 1 with fail;generalize a7:World.alloc _ _=W0;obtain⟨a6,N,-⟩:=QaB (m:=m) (c:=c) a7;obtain⟨b0,b5⟩:=Yb a6 N;obtain⟨c0,c1,c2,c3,c4,c5,c6,c7,c8,c9,a9,a3,Z,a5,a2,a4,a0,a8,a1⟩:=N.c19;simp only[Nat.zero_add]at c0 c1 c2 c3 c4 c5 c6 c7 c8 c9 a9 a3 Z a5 a2 a4 a0 a8 a1;have l0:=N.lt;clear a7 a6 N;go_wp2_with fail;go_ret;exact⟨by rw[<-HR.o]<;>rfl,b0.o⟩
 have g0:=Qa9 h0;by_cases h1:m.tk.size=0
 rotate_left
 ·have g1:=Qbr h1
  have HR:=hY (show false=r by rw[<-hr];simp[h0,h1]);clear hr h0 h1;go_in;go_upto_region 1 with fail;generalize a7:World.alloc _ _=W0;obtain⟨a6,N,-⟩:=QaB (m:=m) (c:=c) a7;obtain⟨b0,b5⟩:=Yb a6 N;obtain⟨c0,c1,c2,c3,c4,c5,c6,c7,c8,c9,a9,a3,Z,a5,a2,a4,a0,a8,a1⟩:=N.c19;simp only[Nat.zero_add]at c0 c1 c2 c3 c4 c5 c6 c7 c8 c9 a9 a3 Z a5 a2 a4 a0 a8 a1;have l0:=N.lt;clear a7 a6 N;go_wp2_with fail;go_ret;exact⟨by rw[<-HR.o]<;>rfl,b0.o⟩
 have g1:=Qa9 h1;by_cases h2:m.i=0
 rotate_left
 ·have g2:(m.i == 0)=false:=eJ.2 h2
  have HR:=hY (show false=r by rw[<-hr];simp[h0,h1,h2]);clear hr h0 h1 h2;go_in;go_upto_region 1 with fail;generalize a7:World.alloc _ _=W0;obtain⟨a6,N,-⟩:=QaB (m:=m) (c:=c) a7;obtain⟨b0,b5⟩:=Yb a6 N;obtain⟨c0,c1,c2,c3,c4,c5,c6,c7,c8,c9,a9,a3,Z,a5,a2,a4,a0,a8,a1⟩:=N.c19;simp only[Nat.zero_add]at c0 c1 c2 c3 c4 c5 c6 c7 c8 c9 a9 a3 Z a5 a2 a4 a0 a8 a1;have l0:=N.lt;clear a7 a6 N;go_wp2_with fail;go_ret;exact⟨by rw[<-HR.o]<;>rfl,b0.o⟩
 have g2:(m.i==0)=true:=by simp[h2]
 by_cases h3:m.had=false
 rotate_left
 ·have g3:m.had=true:=by simpa using h3
  have HR:=hY (show false=r by rw[<-hr];simp[h0,h1,h2,h3]);clear hr h0 h1 h2 h3;go_in;go_upto_region 1 with fail;generalize a7:World.alloc _ _=W0;obtain⟨a6,N,-⟩:=QaB (m:=m) (c:=c) a7;obtain⟨b0,b5⟩:=Yb a6 N;obtain⟨c0,c1,c2,c3,c4,c5,c6,c7,c8,c9,a9,a3,Z,a5,a2,a4,a0,a8,a1⟩:=N.c19;simp only[Nat.zero_add]at c0 c1 c2 c3 c4 c5 c6 c7 c8 c9 a9 a3 Z a5 a2 a4 a0 a8 a1;have l0:=N.lt;clear a7 a6 N;go_wp2_with fail;go_ret;exact⟨by rw[<-HR.o]<;>rfl,b0.o⟩
 have g3:m.had=false:=h3;by_cases h4:Qd9 m.was=true
 rotate_left
 ·have g4:Qd9 m.was=false:=by simpa using h4
  have HR:=hY (show false=r by rw[<-hr];simp[h0,h1,h2,h3,h4]);clear hr h0 h1 h2 h3 h4;go_in;go_upto_region 1 with fail;generalize a7:World.alloc _ _=W0;obtain⟨a6,N,-⟩:=QaB (m:=m) (c:=c) a7;obtain⟨b0,b5⟩:=Yb a6 N;obtain⟨c0,c1,c2,c3,c4,c5,c6,c7,c8,c9,a9,a3,Z,a5,a2,a4,a0,a8,a1⟩:=N.c19;simp only[Nat.zero_add]at c0 c1 c2 c3 c4 c5 c6 c7 c8 c9 a9 a3 Z a5 a2 a4 a0 a8 a1;have l0:=N.lt;clear a7 a6 N;go_wp2_with fail;refine(QaE _ m.was c.w1 c.w2).mono ?_;rintro e W1 ⟨rfl,I⟩;have b4:=hY (b0.o.trans I);clear I c0 c1 c2 c3 c4 c5 c6 c7 c8 c9 a9 a3 Z a5 a2 a4 a0 a8 a1;rw[g4];go_wp2_with fail;go_ret;exact⟨by rw[<-HR.o]<;>rfl,b4.o⟩
 have g4:Qd9 m.was=true:=h4;by_cases h5:m.has=false
 rotate_left
 ·have g5:m.has=true:=by simpa using h5
  have HR:=hY (show false=r by rw[<-hr];simp[h0,h1,h2,h3,h4,h5]);clear hr h0 h1 h2 h3 h4 h5;go_in;go_upto_region 1 with fail;generalize a7:World.alloc _ _=W0;obtain⟨a6,N,-⟩:=QaB (m:=m) (c:=c) a7;obtain⟨b0,b5⟩:=Yb a6 N;obtain⟨c0,c1,c2,c3,c4,c5,c6,c7,c8,c9,a9,a3,Z,a5,a2,a4,a0,a8,a1⟩:=N.c19;simp only[Nat.zero_add]at c0 c1 c2 c3 c4 c5 c6 c7 c8 c9 a9 a3 Z a5 a2 a4 a0 a8 a1;have l0:=N.lt;clear a7 a6 N;go_wp2_with fail;refine(QaE _ m.was c.w1 c.w2).mono ?_;rintro e W1 ⟨rfl,I⟩;have d6:=(I.cell l0).trans a3;have b8:=(I.cell l0).trans Z;have d3:=(I.cell l0).trans a5;have d5:=(I.cell l0).trans a2;have d0:=(I.cell l0).trans a4;have b9:=(I.cell l0).trans a0;have d4:=(I.cell l0).trans a8;have b7:=(I.cell l0).trans a1;have l1:=ab l0 I.size;have b4:=hY (b0.o.trans I);clear I c0 c1 c2 c3 c4 c5 c6 c7 c8 c9 a9 a3 Z a5 a2 a4 a0 a8 a1;rw[g4];go_wp2_with fail;go_ret;exact⟨by rw[<-HR.o]<;>rfl,b4.o⟩
 have g5:m.has=false:=h5;by_cases h6:Qd9 m.v=true
 rotate_left
 ·have g6:Qd9 m.v=false:=by simpa using h6
  have HR:=hY (show false=r by rw[<-hr];simp[h0,h1,h2,h3,h4,h5,h6]);clear hr h0 h1 h2 h3 h4 h5 h6;go_in;go_upto_region 1 with fail;generalize a7:World.alloc _ _=W0;obtain⟨a6,N,-⟩:=QaB (m:=m) (c:=c) a7;obtain⟨b0,b5⟩:=Yb a6 N;obtain⟨c0,c1,c2,c3,c4,c5,c6,c7,c8,c9,a9,a3,Z,a5,a2,a4,a0,a8,a1⟩:=N.c19;simp only[Nat.zero_add]at c0 c1 c2 c3 c4 c5 c6 c7 c8 c9 a9 a3 Z a5 a2 a4 a0 a8 a1;have l0:=N.lt;clear a7 a6 N;go_wp2_with fail;refine(QaE _ m.was c.w1 c.w2).mono ?_;rintro e W1 ⟨rfl,I⟩;have d6:=(I.cell l0).trans a3;have b8:=(I.cell l0).trans Z;have d3:=(I.cell l0).trans a5;have d5:=(I.cell l0).trans a2;have d0:=(I.cell l0).trans a4;have b9:=(I.cell l0).trans a0;have d4:=(I.cell l0).trans a8;have b7:=(I.cell l0).trans a1;have l1:=ab l0 I.size;have b4:=hY (b0.o.trans I);clear I c0 c1 c2 c3 c4 c5 c6 c7 c8 c9 a9 a3 Z a5 a2 a4 a0 a8 a1;rw[g4];go_wp2_with fail;refine(QaE _ m.v c.v1 c.v2).mono ?_;rintro e W2 ⟨rfl,b3⟩;have b6:=hY (b4.o.trans b3);clear b3;rw[g6];go_wp2_with fail;go_ret;exact⟨by rw[<-HR.o]<;>rfl,b6.o⟩
 have g6:Qd9 m.v=true:=h6;by_cases h7:m.l.length=0
 rotate_left
 ·have g7:((m.l.length:Int) == 0)=false:=eJ.2 oM
  have HR:=hY (show false=r by rw[<-hr];simp[h0,h1,h2,h3,h4,h5,h6,h7]);clear hr h0 h1 h2 h3 h4 h5 h6 h7;go_in;go_upto_region 1 with fail;generalize a7:World.alloc _ _=W0;obtain⟨a6,N,-⟩:=QaB (m:=m) (c:=c) a7;obtain⟨b0,b5⟩:=Yb a6 N;obtain⟨c0,c1,c2,c3,c4,c5,c6,c7,c8,c9,a9,a3,Z,a5,a2,a4,a0,a8,a1⟩:=N.c19;simp only[Nat.zero_add]at c0 c1 c2 c3 c4 c5 c6 c7 c8 c9 a9 a3 Z a5 a2 a4 a0 a8 a1;have l0:=N.lt;clear a7 a6 N;go_wp2_with fail;refine(QaE _ m.was c.w1 c.w2).mono ?_;rintro e W1 ⟨rfl,I⟩;have d6:=(I.cell l0).trans a3;have b8:=(I.cell l0).trans Z;have d3:=(I.cell l0).trans a5;have d5:=(I.cell l0).trans a2;have d0:=(I.cell l0).trans a4;have b9:=(I.cell l0).trans a0;have d4:=(I.cell l0).trans a8;have b7:=(I.cell l0).trans a1;have l1:=ab l0 I.size;have b4:=hY (b0.o.trans I);clear I c0 c1 c2 c3 c4 c5 c6 c7 c8 c9 a9 a3 Z a5 a2 a4 a0 a8 a1;rw[g4];go_wp2_with fail;refine(QaE _ m.v c.v1 c.v2).mono ?_;rintro e W2 ⟨rfl,b3⟩;have d7:W2.cell? ⟨w,18,none⟩=some (.slice c.s.a m.l.length c.s.c):=(b3.cell l1).trans b7;have l2:=ab l1 b3.size;have b6:=hY (b4.o.trans b3);clear b3;rw[g6];go_wp2_with fail;go_ret;exact⟨by rw[<-HR.o]<;>rfl,b6.o⟩
 have g7:((m.l.length:Int)==0)=true:=by rw[h7];rfl
 have HR:=hY (show true=r by rw[<-hr];simp[h0,h1,h2,h3,h4,h5,h6,h7]);clear hr h0 h1 h2 h3 h4 h5 h6 h7;go_in;go_upto_region 1 with fail;generalize a7:World.alloc _ _=W0;obtain⟨a6,N,-⟩:=QaB (m:=m) (c:=c) a7;obtain⟨b0,b5⟩:=Yb a6 N;obtain⟨c0,c1,c2,c3,c4,c5,c6,c7,c8,c9,a9,a3,Z,a5,a2,a4,a0,a8,a1⟩:=N.c19;simp only[Nat.zero_add]at c0 c1 c2 c3 c4 c5 c6 c7 c8 c9 a9 a3 Z a5 a2 a4 a0 a8 a1;have l0:=N.lt;clear a7 a6 N;go_wp2_with fail;refine(QaE _ m.was c.w1 c.w2).mono ?_;rintro e W1 ⟨rfl,I⟩;have d6:=(I.cell l0).trans a3;have b8:=(I.cell l0).trans Z;have d3:=(I.cell l0).trans a5;have d5:=(I.cell l0).trans a2;have d0:=(I.cell l0).trans a4;have b9:=(I.cell l0).trans a0;have d4:=(I.cell l0).trans a8;have b7:=(I.cell l0).trans a1;have l1:=ab l0 I.size;have b4:=hY (b0.o.trans I);clear I c0 c1 c2 c3 c4 c5 c6 c7 c8 c9 a9 a3 Z a5 a2 a4 a0 a8 a1;rw[g4];go_wp2_with fail;refine(QaE _ m.v c.v1 c.v2).mono ?_;rintro e W2 ⟨rfl,b3⟩;have d7:W2.cell? ⟨w,18,none⟩=some (.slice c.s.a m.l.length c.s.c):=(b3.cell l1).trans b7;have l2:=ab l1 b3.size;have b6:=hY (b4.o.trans b3);clear b3;rw[g6];go_wp2_with fail;go_ret;exact⟨by rw[<-HR.o]<;>rfl,b6.o⟩
abbrev fO:=@all_oneCell_toArray
def QuS:List Value->Nat->List Value->List Value
 |l,_,[]=>l
 |l,o,v::vs=>QuS (l.set o v) (o+1) vs
theorem Qh4{b:Nat}{t:TypeId}:∀(vs:List Value) (o:Nat) {w:World} {l:List Value},Blk w b t l.toArray->Blk (w.setCells b o vs) b t (QuS l o vs).toArray
 |[],_,_,_,h=>h
 | v :: vs,o,w,l,h=>by
   have h2:=h.QbH o v;rw[ai]at h2;exact Qh4 vs (o+1) h2
theorem Qfq(w:World)(b o:Nat)(ty:TypeId){v:Value}(I:Array Value)(hv:v.cells=I)(ht:w.there b o I.size)(hi:(prog.info? ty).map (·.size)=some I.size)(h1:I.all (·.oneCell')=true) :
  (storeVar ty ⟨b,o,none⟩ v).run prog w=.ok () (w.setCells b o I.toList):=by
 have:=run_storeCells_cells (P:=prog) b o I.toList 0 w (λj Z=>by simpa using(ht j (by simpa using Z)).1) (λj Z=>by simpa using(ht j (by simpa using Z)).2)
  (λv hv=>(Array.all_eq_true_iff_forall_mem.1 h1) v (by simpa using hv))
 cases N:prog.info? ty with
 |none=>simp[N]at hi
 | some i=>
   have hs:I.size=i.size:=by simp[N]at hi;omega
   simp only[Nat.add_zero]at this;simp[storeVar,sizeOf,typeInfo,N,hv,hs,this]
variable{K:Act->World->Prop}
theorem QiV{op:Oper}(ty:TypeId)(x y:Operand)(ho:op.op=.store ty x y)
  (b o:Nat) (I:Array Value) (hx:a.eval x=.pointer (some ⟨b,o,none⟩)) {v:Value} (N:a.eval y=v) (hv:v.cells=I)
  (Z:w.there b o I.size) (hi:(prog.info? ty).map (·.size)=some I.size) (h1:I.all (·.oneCell')=true)
  (h:K (a.put op.dst undef) (w.setCells b o I.toList)):op.wp prog a w K Q:=by
 unfold Oper.wp execOp;simp only[ho,hx,N,Instr.storeAt,Instr.sureAddr,Sem.run_bind,Sem.run_pure,Result.andThen_ok,Qfq w b o ty I hv Z hi h1];exact h
variable{c':MuS}
theorem QuL{rest:List Oper}{op:Oper}(N:op.guard=none)(hd:op.dst=none){T:TypeId}{x y:Operand}(ho:op.op=.store T x y)
  (vs:List Value) {v:Value} (hy:a.eval y=v) (hv:v.cells=vs.toArray) (hi:(prog.info? T).map (·.size)=some vs.length) (h1:vs.all (·.oneCell')=true)
 {b:Nat} (hb:w0.heap.size≤b) (hw:Ext w0 w) {m:Mu} (Z:Blk w b 37 (Qa2 m c)) (o:Nat) (hl:o+vs.length≤19) (hx:a.eval x=.pointer (some ⟨b,o,none⟩))
  {m':Mu} (he:QuS (Qan m c) o vs=Qan m' c') (h:∀w',Ext w0 w'->Blk w' b 37 (Qa2 m' c')->wpList prog ops Q rest a w'):wpList prog ops Q (op::rest) a w:=by
 have a0:w.there b o vs.toArray.size:=λj hj=>by
  have a1:j<vs.length:=by simpa using hj
  refine⟨?_,Z.frozen _⟩;rw[Z.cell,cz (by rw[bm,QfD];omega)];rfl
 have h2:=Qh4 vs o Z;rw[he]at h2;have I:=h _ (Ext.setCells hb vs o hw) h2;have ep:a.put op.dst undef=a:=by rw[hd];rfl
 refine fP N λK hK=>QiV T x y ho b o vs.toArray hx hy hv a0 (by rw[hi,bm]) (fO (dw.1 h1)) (hK _ _ ?_)
 rw[ep];exact I
theorem QaR{rest:List Oper}{op:Oper}(N:op.guard=none)(hd:op.dst=none){x y:Operand}(ho:op.op=.store 37 x y)
  (m:Mu) (c:MuS) {b:Nat} (hb:w0.heap.size=b) (hw:Ext w0 w) {z:Array Value} (hz:Blk w b 37 z) (I:z.size=19) (hx:a.eval x=.pointer (some b)) (hy:a.eval y=Qaz m c)
  (h:∀w',Ext w0 w'->Blk w' b 37 (Qa2 m c)->wpList prog ops Q rest a w'):wpList prog ops Q (op::rest) a w:=
 QiR N x y ho m c hb hw hz I hx hy λw' h1 h2=>by
  have Z:a.put op.dst undef=a:=by rw[hd];rfl
  rw[Z];exact h w' h1 h2
def QlN(n:Nat)(w:World)(s:Sl)(b:Nat):Prop:=n<=b/\b<w.heap.size/\s.row≠some b
theorem Qam{rest:List Oper}{T T':TypeId}{x y:Operand}{ps:String}{N:Array Edge} 
  (vs:List Value) (Z:(a.eval y).cells=vs.toArray) (hi:(prog.info? T).map (·.size)=some vs.length) (h1:vs.all (·.oneCell')=true)
 {b:Nat} (hb:w0.heap.size≤b) (hw:Ext w0 w) {m:Mu} (hz:Blk w b 37 (Qa2 m c)) (o:Nat) (hl:o+vs.length≤19) (hx:a.eval x=.pointer (some ⟨b,o,none⟩))
  (m':Mu) (c':MuS) (I:QuS (Qan m c) o vs=Qan m' c') (h:∀w',Ext w0 w'->Blk w' b 37 (Qa2 m' c')->wpList prog ops Q rest a w') :
  wpList prog ops Q (⟨none,.store T x y,T',ps,N,none⟩::rest) a w:=
 QuL rfl rfl rfl vs rfl Z hi h1 hb hw hz o hl hx I h
def Qai(m:Mu):Bool:=QbJ m.kd m.k m.tk m.i m.had m.was m.has m.v m.l.length
theorem QaX:Qd9 zeroV=true:=rfl
theorem MuC.kind{b:Nat}{m:Mu}(h:MuC w b 0 m c):w.cell? b=some (.int .i64 m.kd):=h 0 _ rfl
theorem MuC.c11{b:Nat}{m:Mu}(h:MuC w b 0 m c):w.cell? ⟨b,11,none⟩=some (.bool m.has):=h 11 _ rfl
theorem MuC.c4{b:Nat}{m:Mu}(h:MuC w b 0 m c):w.cell? ⟨b,4,none⟩=some (.bool m.had):=h 4 _ rfl
theorem MuC.Qop{b:Nat}{m:Mu}(h:MuC w b 0 m c):w.cell? ⟨b,5,none⟩=some (.int .i64 m.was.kind)/\w.cell? ⟨b,6,none⟩=some (.bool m.was.b)/\w.cell? ⟨b,7,none⟩=some (.int .i64 m.was.i)/\w.cell? ⟨b,8,none⟩=some (.string m.was.t)/\w.cell? ⟨b,9,none⟩=some (.slice c.w1.a m.was.l.length c.w1.c)/\w.cell? ⟨b,10,none⟩=some (.slice c.w2.a m.was.ok.length c.w2.c):=⟨h 5 _ rfl,h 6 _ rfl,h 7 _ rfl,h 8 _ rfl,h 9 _ rfl,h 10 _ rfl⟩
theorem MuC.v6{b:Nat}{m:Mu}(h:MuC w b 0 m c):w.cell? ⟨b,12,none⟩=some (.int .i64 m.v.kind)/\w.cell? ⟨b,13,none⟩=some (.bool m.v.b)/\w.cell? ⟨b,14,none⟩=some (.int .i64 m.v.i)/\w.cell? ⟨b,15,none⟩=some (.string m.v.t)/\w.cell? ⟨b,16,none⟩=some (.slice c.v1.a m.v.l.length c.v1.c)/\w.cell? ⟨b,17,none⟩=some (.slice c.v2.a m.v.ok.length c.v2.c):=⟨h 12 _ rfl,h 13 _ rfl,h 14 _ rfl,h 15 _ rfl,h 16 _ rfl,h 17 _ rfl⟩
section
variable(m : Mu)(c : MuS)
def Mu.z_k:Mu:=.mk m.kd ByteArray.empty m.tk m.i m.had m.was m.has m.v m.l
def Mu.Qv1:Mu:=.mk m.kd m.k ByteArray.empty m.i m.had m.was m.has m.v m.l
def Mu.z_i:Mu:=.mk m.kd m.k m.tk 0 m.had m.was m.has m.v m.l
def Mu.QvZ:Mu:=.mk m.kd m.k m.tk m.i false m.was m.has m.v m.l
def Mu.QvX:Mu:=.mk m.kd m.k m.tk m.i m.had zeroV m.has m.v m.l
def Mu.Qv0:Mu:=.mk m.kd m.k m.tk m.i m.had m.was false m.v m.l
def Mu.z_v:Mu:=.mk m.kd m.k m.tk m.i m.had m.was m.has zeroV m.l
def Mu.z_l:Mu:=.mk m.kd m.k m.tk m.i m.had m.was m.has m.v []
def MuS.QvX:MuS:=⟨Sl.none,Sl.none,c.v1,c.v2,c.s⟩
def MuS.z_v:MuS:=⟨c.w1,c.w2,Sl.none,Sl.none,c.s⟩
def MuS.z_l:MuS:=⟨c.w1,c.w2,c.v1,c.v2,Sl.none⟩
end
abbrev zV6:List Value:=[.int .i64 0,.bool false,.int .i64 0,.string ⟨#[]⟩,.slice none 0 0,.slice none 0 0]
theorem QvY{rest:List Oper}{T T':TypeId}{x y:Operand}{ps:String}{Z:Array Edge} 
 {b:Nat} (hb:w0.heap.size≤b) {m:Mu} (hw:Yd (Ext w0 w)) (hz:Yd (Blk w b 37 (Qa2 m c))) (o:Nat) (vs:List Value) (m':Mu) (c':MuS) (h:∀ w',Yd (Ext w0 w')→Yd (Blk w' b 37 (Qa2 m' c'))→wpList prog ops Q rest a w')
  (hv:(a.eval y).cells=vs.toArray:=by rfl) (hi:(prog.info? T).map (·.size)=some vs.length:=by kernel_rfl) (h1:vs.all (·.oneCell')=true:=by rfl) (hl:o+vs.length<=19:=by decide) (hx:a.eval x=.pointer (some ⟨b,o,none⟩):=by rfl) (I:QuS (Qan m c) o vs=Qan m' c':=by rfl) :
  wpList prog ops Q (⟨none,.store T x y,T',ps,Z,none⟩::rest) a w:=
 Qam vs hv hi h1 hb hw.out hz.out o hl hx m' c' I λw' k1 N=>h w' (hY k1) (hY N)
theorem Qv2{m:Mu}(hk:m.kd=1)(hw:m.had=false->Qd9 m.was=true):(!Qai m)=(!QaG m.z_k.z_v):=by
 obtain⟨a1,k',a0,i',I,Z,N,v',l'⟩:=m;simp only[Mu.kd,Mu.had,Mu.was]at hk hw;cases I<;>simp_all [Qai,QbJ,QaG,Mu.z_k,Mu.Qv1,Mu.z_i,Mu.QvZ,Mu.QvX,Mu.Qv0,Mu.z_v,Mu.z_l,QaX,Mu.kd,Mu.k,Mu.tk,Mu.i,Mu.had,Mu.was,Mu.has,Mu.v,Mu.l]
theorem Qv3{m:Mu}(hk:m.kd=2)(hw:m.had=false->Qd9 m.was=true):(!Qai m)=(!QaG m.z_k):=by
 obtain⟨a1,k',a0,i',I,Z,N,v',l'⟩:=m;simp only[Mu.kd,Mu.had,Mu.was]at hk hw;cases I<;>simp_all [Qai,QbJ,QaG,Mu.z_k,Mu.Qv1,Mu.z_i,Mu.QvZ,Mu.QvX,Mu.Qv0,Mu.z_v,Mu.z_l,QaX,Mu.kd,Mu.k,Mu.tk,Mu.i,Mu.had,Mu.was,Mu.has,Mu.v,Mu.l]
theorem Qv4{m:Mu}(hk:m.kd=3)(hw:m.had=false->Qd9 m.was=true):(!Qai m)=(!QaG m.z_k.z_i):=by
 obtain⟨a1,k',a0,i',I,Z,N,v',l'⟩:=m;simp only[Mu.kd,Mu.had,Mu.was]at hk hw;cases I<;>simp_all [Qai,QbJ,QaG,Mu.z_k,Mu.Qv1,Mu.z_i,Mu.QvZ,Mu.QvX,Mu.Qv0,Mu.z_v,Mu.z_l,QaX,Mu.kd,Mu.k,Mu.tk,Mu.i,Mu.had,Mu.was,Mu.has,Mu.v,Mu.l]
theorem Qv5{m:Mu}(hk:m.kd=4)(hw:m.had=false->Qd9 m.was=true)(hs:m.has=false->Qd9 m.v=true):(!Qai m)=(!QaG m.z_k.QvZ.QvX.Qv0.z_v):=by
 obtain⟨a1,k',a0,i',N,Z,I,v',l'⟩:=m;simp only[Mu.kd,Mu.had,Mu.was,Mu.has,Mu.v]at hk hw hs;cases N<;>cases I<;>simp_all [Qai,QbJ,QaG,Mu.z_k,Mu.Qv1,Mu.z_i,Mu.QvZ,Mu.QvX,Mu.Qv0,Mu.z_v,Mu.z_l,QaX,Mu.kd,Mu.k,Mu.tk,Mu.i,Mu.had,Mu.was,Mu.has,Mu.v,Mu.l]
theorem Qv6{m:Mu}(hk:m.kd=5)(hw:m.had=false->Qd9 m.was=true):(!Qai m)=(!QaG m.z_k.z_v):=by
 obtain⟨a1,k',a0,i',I,Z,N,v',l'⟩:=m;simp only[Mu.kd,Mu.had,Mu.was]at hk hw;cases I<;>simp_all [Qai,QbJ,QaG,Mu.z_k,Mu.Qv1,Mu.z_i,Mu.QvZ,Mu.QvX,Mu.Qv0,Mu.z_v,Mu.z_l,QaX,Mu.kd,Mu.k,Mu.tk,Mu.i,Mu.had,Mu.was,Mu.has,Mu.v,Mu.l]
theorem Qv7{m:Mu}(hk:m.kd=6)(hw:m.had=false->Qd9 m.was=true):(!Qai m)=(!QaG m.z_k.Qv1):=by
 obtain⟨a1,k',a0,i',I,Z,N,v',l'⟩:=m;simp only[Mu.kd,Mu.had,Mu.was]at hk hw;cases I<;>simp_all [Qai,QbJ,QaG,Mu.z_k,Mu.Qv1,Mu.z_i,Mu.QvZ,Mu.QvX,Mu.Qv0,Mu.z_v,Mu.z_l,QaX,Mu.kd,Mu.k,Mu.tk,Mu.i,Mu.had,Mu.was,Mu.has,Mu.v,Mu.l]
theorem Qv8{m:Mu}(hk:m.kd=7)(hw:m.had=false->Qd9 m.was=true):(!Qai m)=(!QaG m.z_k.QvZ.QvX.z_l):=by
 obtain⟨a1,k',a0,i',I,Z,N,v',l'⟩:=m;simp only[Mu.kd,Mu.had,Mu.was]at hk hw;cases I<;>simp_all [Qai,QbJ,QaG,Mu.z_k,Mu.Qv1,Mu.z_i,Mu.QvZ,Mu.QvX,Mu.Qv0,Mu.z_v,Mu.z_l,QaX,Mu.kd,Mu.k,Mu.tk,Mu.i,Mu.had,Mu.was,Mu.has,Mu.v,Mu.l]
theorem QlH(w:World)(m:Mu)(c:MuS)(hh:m.had=false)(hz:Qd9 m.was=false):Calls prog 190 #[Qaz m c] w λe w'=>e=.returned (.bool (!Qai m))/\Ext w w':=by
 have hr:(!Qai m)=true:=by simp[Qai,QbJ,hh,hz]
 rw[hr];obtain⟨HZ,HH⟩:=Yb hz hh;clear hr hz hh;go_in;go_upto_region 1 with fail;generalize a0:World.alloc _ _=W0;obtain⟨N,I,a2⟩:=QaB (m:=m) (c:=c) a0;obtain⟨a1,a3⟩:=Yb N I;have c4:=I.c4;rw[HH.o]at c4;clear a0 N I a2;obtain⟨c5,c6,c7,c8,c9,a5⟩:=a3.o.Qop;go_wp2_with fail;refine(QaE _ m.was c.w1 c.w2).mono ?_;rintro e W1 ⟨rfl,Z⟩;have a4:=hY (a1.o.trans Z);clear Z;rw[HZ.o];go_wp2_with fail;go_ret;exact⟨rfl,a4.o⟩
theorem QlG(w:World)(m:Mu)(c:MuS):Calls prog 190 #[Qaz m c] w λe w'=>e=.returned (.bool (!Qai m))/\Ext w w':=by
 by_cases hx:m.had=false/\Qd9 m.was=false
 .exact QlH w m c hx.1 hx.2
 have a2:=hY (show m.had=false->Qd9 m.was=true fromλh=>by simpa[h]using hx);clear hx;go_in;go_upto_region 1 with fail;generalize b9:World.alloc _ _=W0;obtain⟨b8,b5,d6⟩:=QaB (m:=m) (c:=c) b9;obtain⟨d4,b0⟩:=Yb b8 b5;clear b9 b8 b5 d6;go_cut [12] (λv wc=>v=.bool false/\Ext W0 wc)
 case first=>
  have c4:=b0.o.c4;rcases aY m.had with hh|hh
  ·rw [hh] at c4
   clear hh;go_wp2_with fail;go_meet;exact⟨rfl,gh _⟩
  have HZ:=hY (a2.o hh);rw[hh]at c4;obtain⟨c5,c6,c7,c8,c9,f0⟩:=b0.o.Qop;clear hh;go_wp2_with fail;refine(QaE _ m.was c.w1 c.w2).mono ?_;rintro e W1 ⟨rfl,a3⟩;rw[HZ.o];go_wp2_with fail;go_meet;exact⟨rfl,a3⟩
 case rest=>
 obtain⟨rfl,a3⟩:=hcut
 rename World=>W1
 obtain⟨b6,b4⟩:=Yb (d4.o.trans a3) (b0.o.ext a3);clear a3;go_upto_region 4 with(first |(refine Qah rfl (.tmp 1) rfl w.heap.size 0 rfl m c b4.o ?_) |(refine QaR rfl rfl rfl m c (w0:=W1) (b:=W1) rfl ((gh W1).alloc _ _) (gm W1 _ _) rfl rfl rfl ?_;intro w5 a6 b7;have X5:=hY (b6.o.trans a6);have a4:=hY (MuC.ext b4.o a6);have B5:=hY b7;clear a6 b7));have d0:=a4.o.kind;have hg:w.heap.size<=W1.heap.size:=b6.o.size;obtain⟨q,hq⟩:∃q,m.kd=q:=⟨_,rfl⟩;rw[hq]at d0;by_cases hn:¬(1<=q/\q<=7)
 ·have HR:=hY (show (!Qai m)=true by simp [Qai,QbJ,hq,hn])
  have e (j:Int) (h:1<=j/\j<=7):(q==j)=false:=eJ.2 λe=>hn (e▸h)
  have e1:=e 1 oN;have e2:=e 2 oN;have e3:=e 3 oN;have e4:=e 4 oN;have e5:=e 5 oN;have e6:=e 6 oN;have e7:=e 7 oN;clear e hq hn;go_wp2_with fail;go_ret;exact⟨by rw[HR.o]<;>rfl,X5.out⟩
 have d3:q=1\/q=2\/q=3\/q=4\/q=5\/q=6\/q=7:=oM
 have HQ:=hY hq;clear hn hq;rcases d3 with rfl|rfl|rfl|rfl|rfl|rfl|rfl
 ·go_wp2_with (first | (refine QvY hg X5 B5 1 [.string ⟨#[]⟩] m.z_k c ?_;intro v0 a0 Z) | (refine QvY hg a0 Z 12 zV6 m.z_k.z_v c.z_v ?_;intro v1 GX GB) | (refine Qah rfl (.tmp 3) rfl W1.heap.size 0 rfl _ _ (gC GB.out) ?_))
  refine(QaO _ _ _).mono ?_;rintro e W7 ⟨rfl,I⟩;have N:=hY (GX.out.trans I);go_wp2_with fail;go_ret;exact⟨by rw[Qv2 HQ.o a2.o]<;>rfl,N.o⟩
 ·go_wp2_with (first | (refine QvY hg X5 B5 1 [.string ⟨#[]⟩] m.z_k c ?_;intro v0 GX GB) | (refine Qah rfl (.tmp 3) rfl W1.heap.size 0 rfl _ _ (gC GB.out) ?_))
  refine(QaO _ _ _).mono ?_;rintro e W7 ⟨rfl,I⟩;have N:=hY (GX.out.trans I);go_wp2_with fail;go_ret;exact⟨by rw[Qv3 HQ.o a2.o]<;>rfl,N.o⟩
 ·go_wp2_with (first | (refine QvY hg X5 B5 1 [.string ⟨#[]⟩] m.z_k c ?_;intro v0 a0 Z) | (refine QvY hg a0 Z 3 [.int .i64 0] m.z_k.z_i c ?_;intro v1 GX GB) | (refine Qah rfl (.tmp 3) rfl W1.heap.size 0 rfl _ _ (gC GB.out) ?_))
  refine(QaO _ _ _).mono ?_;rintro e W7 ⟨rfl,I⟩;have N:=hY (GX.out.trans I);go_wp2_with fail;go_ret;exact⟨by rw[Qv4 HQ.o a2.o]<;>rfl,N.o⟩
 ·by_cases hy:m.has=false∧Qd9 m.v=false
  ·have HR:=hY (show (!Qai m)=true by simp [Qai,QbJ,HQ.o,hy.1,hy.2])
   have HV:=hY hy.2;have a5:=a4.o.c11;rw[hy.1]at a5;obtain⟨c0,d7,e0,d5,c2,d8⟩:=a4.o.v6;clear hy;go_wp2_with fail;refine(QaE _ m.v c.v1 c.v2).mono ?_;rintro e W6 ⟨rfl,a1⟩;have c1:=hY (X5.out.trans a1);rw[HV.o];clear a1;go_wp2_with fail;go_ret;exact⟨by rw[HR.o]<;>rfl,c1.o⟩
  have HS:=hY (show m.has=false->Qd9 m.v=true fromλh=>by simpa[h]using hy);clear hy;go_upto_region 14 with fail;go_cut [39] (λv wd=>v=.bool false/\Ext w5 wd)
  case first=>
   have a5:=a4.o.c11;rcases aY m.has with hs|hs
   ·rw [hs] at a5
    clear hs;go_wp2_with fail;go_meet;exact⟨rfl,gh _⟩
   have HV:=hY (HS.o hs);rw[hs]at a5;obtain⟨c0,d7,e0,d5,c2,d8⟩:=a4.o.v6;clear hs;go_wp2_with fail;refine(QaE _ m.v c.v1 c.v2).mono ?_;rintro e W6 ⟨rfl,a1⟩;rw[HV.o];go_wp2_with fail;go_meet;exact⟨rfl,a1⟩
  case rest=>
  obtain⟨rfl,a1⟩:=hcut;obtain⟨X6,B6⟩:=Yb (X5.out.trans a1) (B5.out.ext a1);clear a1 d0;go_wp2_with(first |(refine QvY hg X6 B6 1 [.string ⟨#[]⟩] m.z_k c ?_;intro v0 a0 Z) |(refine QvY hg a0 Z 4 [.bool false] m.z_k.QvZ c ?_;intro v1 a7 b3) |(refine QvY hg a7 b3 5 zV6 m.z_k.QvZ.QvX c.QvX ?_;intro v2 a8 a9) |(refine QvY hg a8 a9 11 [.bool false] m.z_k.QvZ.QvX.Qv0 c.QvX ?_;intro v3 e8 c3) |(refine QvY hg e8 c3 12 zV6 m.z_k.QvZ.QvX.Qv0.z_v c.QvX.z_v ?_;intro v4 GX GB) |(refine Qah rfl (.tmp 3) rfl W1.heap.size 0 rfl _ _ (gC GB.out) ?_));refine(QaO _ _ _).mono ?_;rintro e W7 ⟨rfl,I⟩;have N:=hY (GX.out.trans I);go_wp2_with fail;go_ret;exact⟨by rw[Qv5 HQ.o a2.o HS.o]<;>rfl,N.o⟩
 ·go_wp2_with (first | (refine QvY hg X5 B5 1 [.string ⟨#[]⟩] m.z_k c ?_;intro v0 a0 Z) | (refine QvY hg a0 Z 12 zV6 m.z_k.z_v c.z_v ?_;intro v1 GX GB) | (refine Qah rfl (.tmp 3) rfl W1.heap.size 0 rfl _ _ (gC GB.out) ?_))
  refine(QaO _ _ _).mono ?_;rintro e W7 ⟨rfl,I⟩;have N:=hY (GX.out.trans I);go_wp2_with fail;go_ret;exact⟨by rw[Qv6 HQ.o a2.o]<;>rfl,N.o⟩
 ·go_wp2_with (first | (refine QvY hg X5 B5 1 [.string ⟨#[]⟩] m.z_k c ?_;intro v0 a0 Z) | (refine QvY hg a0 Z 2 [.string ⟨#[]⟩] m.z_k.Qv1 c ?_;intro v1 GX GB) | (refine Qah rfl (.tmp 3) rfl W1.heap.size 0 rfl _ _ (gC GB.out) ?_))
  refine(QaO _ _ _).mono ?_;rintro e W7 ⟨rfl,I⟩;have N:=hY (GX.out.trans I);go_wp2_with fail;go_ret;exact⟨by rw[Qv7 HQ.o a2.o]<;>rfl,N.o⟩
 go_wp2_with(first |(refine QvY hg X5 B5 1 [.string ⟨#[]⟩] m.z_k c ?_;intro v0 a0 Z) |(refine QvY hg a0 Z 4 [.bool false] m.z_k.QvZ c ?_;intro v1 a7 b3) |(refine QvY hg a7 b3 5 zV6 m.z_k.QvZ.QvX c.QvX ?_;intro v2 a8 a9) |(refine QvY hg a8 a9 18 [.slice none 0 0] m.z_k.QvZ.QvX.z_l c.QvX.z_l ?_;intro v3 GX GB) |(refine Qah rfl (.tmp 3) rfl W1.heap.size 0 rfl _ _ (gC GB.out) ?_));refine(QaO _ _ _).mono ?_;rintro e W7 ⟨rfl,I⟩;have N:=hY (GX.out.trans I);go_wp2_with fail;go_ret;exact⟨by rw[Qv8 HQ.o a2.o]<;>rfl,N.o⟩
end Go.Proofs.YtdiecmkpbadgjaaGreatDoor
