/- What the theorem needs of the texts Ev, Again, After, LiveG, TrodQ, TrodQS, Rf27, Sel: no condition of its own. -/
import Derived.RangeFuncNested
import Derived.RangeFuncBound
import Derived.RangeFuncCalls
import Derived.RangeFuncLeaves
import Derived.OwnWalkIn
import Derived.Laws.IdiomStrings
import Derived.WalkArith
import Derived.Sort.CutIn
import Derived.Test.YtohajcflklejjaaGreatPha
import Derived.Test.YtohajcflklejjaaGreatPhb
import Derived.Test.YtohajcflklejjaaGreatPhc
import Derived.Test.YtohajcflklejjaaGreatPhd
import Derived.Test.YtohajcflklejjaaGreatPhe
import Derived.Test.YtohajcflklejjaaGreatPhf
import Derived.Test.YtohajcflklejjaaGreatPhg
import Derived.Test.YtohajcflklejjaaGreatPhh
import Derived.Test.YtohajcflklejjaaGreatPhi
import Derived.Test.YtohajcflklejjaaGreatPhj
set_option maxRecDepth 100000
set_option maxHeartbeats 8000000
namespace Go.Proofs.YtohajcflklejjaaGreat
open Go.RowKit Go.Shelf Go.Maps
set_option linter.unusedVariables false
set_option linter.unusedSimpArgs false
attribute [local go_sem] Oper.semAt_some
theorem Tryz.QhN:(Tryz.prog.info? 56).map (fun i=>(i.zero,i.size,i.bytes))=some (some (.agg #[.int .u64 0,.string ByteArray.empty,.bool false,.int .i64 0,.bool false,.int .i64 0,.string ByteArray.empty,.slice none 0 0,.slice none 0 0,.bool false,.int .i64 0,.bool false,.int .i64 0,.string ByteArray.empty,.slice none 0 0,.slice none 0 0]),16,216):=by kernel_rfl
structure EV where
 id:Nat
 x:CE
abbrev EV.cells (x:EV):Array Value:=#[.int .u64 (x.id:Int),.string x.x.c.k,.bool x.x.c.had,.int .i64 x.x.c.was.kind,.bool x.x.c.was.b,.int .i64 x.x.c.was.i,.string x.x.c.was.t,.slice x.x.slw.a x.x.c.was.l.length x.x.slw.c,.slice x.x.sow.a x.x.c.was.ok.length x.x.sow.c,
 .bool x.x.c.has,.int .i64 x.x.c.is_.kind,.bool x.x.c.is_.b,.int .i64 x.x.c.is_.i,.string x.x.c.is_.t,.slice x.x.sli.a x.x.c.is_.l.length x.x.sli.c,.slice x.x.soi.a x.x.c.is_.ok.length x.x.soi.c]
abbrev EV.p (x:EV):Nat × Chg:=(x.id,x.x.c)
def QbG (xs:List EV):List Value:=xs.flatMap fun x=>x.cells.toList
theorem Qlx (xs:List EV):(QbG xs).length=xs.length*16:=by
 induction xs with
 | nil=>rfl
 | cons x xs ih=>simp only [QbG,List.flatMap_cons,List.length_append,List.length_cons] at *;rw [ih];simp;omega
theorem Qgj (xs:List EV) (x:EV):QbG (xs++[x])=QbG xs++x.cells.toList:=by simp [QbG]
theorem Qjn (x:EV):∀ u∈x.cells.toList,u.oneCell'=true:=by
 intro u hu
 simp only [List.mem_cons,List.not_mem_nil,or_false] at hu
 rcases hu with rfl | rfl | rfl | rfl | rfl | rfl | rfl | rfl | rfl | rfl | rfl | rfl | rfl | rfl | rfl | rfl <;> rfl
structure EVS (w:World) (F:Nat→Prop) (s:Sl) (xs:List EV):Prop where
 rd:Rd w F 16 s xs.length (QbG xs)
 vals:∀ x∈xs,CR w F x.x
 few:xs.length*216≤140737488355328
theorem EVS.agree {w w':World} {F:Nat→Prop} {s:Sl} {xs:List EV} (h:EVS w F s xs) (ha:Agree F w w'):EVS w' F s xs:=⟨h.rd.agree ha,fun x hx=>(h.vals x hx).agree ha,h.few⟩
theorem EVS.mono {w:World} {F G:Nat→Prop} {s:Sl} {xs:List EV} (h:EVS w F s xs) (hG:∀ b,F b→G b):EVS w G s xs:=⟨h.rd.mono hG,fun x hx=>(h.vals x hx).mono hG,h.few⟩
theorem EVS.nil (w:World) (F:Nat→Prop):EVS w F Sl.none []:=⟨Rd.nil w F 16,fun x hx=>(by cases hx),by simp⟩
def evL (L:Qbc) (l:List Chg):List (Nat × Chg):=L.flatMap fun p=>(l.filter fun c=>Qbv c.k p.2.lo p.2.hi p.2.op).map fun c=>(p.1,c)
theorem Qn7 (L:Qbc):evL L []=[]:=by simp [evL]
theorem QiE (l:List Chg):∀ L:Qbc,(evL L l).length≤L.length*l.length
 | []=>by simp [evL]
 | p :: L=>by
   have:=QiE l L
   have h2:=List.length_filter_le (fun c:Chg=>Qbv c.k p.2.lo p.2.hi p.2.op) l
   simp only [evL,List.flatMap_cons,List.length_append,List.length_map,List.length_cons] at *
   rw [Nat.succ_mul];omega
theorem QmQ {L:Qbc} {l:List Chg} {k:Nat} {p:Nat × Iv} (h:L[k]? = some p):evL (L.take (k+1)) l=evL (L.take k) l++(l.filter fun c=>Qbv c.k p.2.lo p.2.hi p.2.op).map fun c=>(p.1,c):=by
 rw [List.take_add_one,h];simp [evL]
theorem Qmd (s:Iv) (xs:List CE):(QcA s xs).map CE.c=(xs.map CE.c).filter fun c=>Qbv c.k s.lo s.hi s.op:=by
 rw [QcA,List.filter_map];rfl
structure Qdf (lo B:Nat) (w:World) (N:Nat→Prop) (evs:List EV) (C:Nat→Prop) (W:World):Prop where
 ex:∃ s:Sl,(C=fun b=>b=B∨s.row=some b)∧Blk W B 48 #[.slice s.a evs.length s.c]∧W.ownsRow lo 56 16 (.slice s.a evs.length s.c) evs.length (QbG evs)
 vals:∀ x∈evs,CR W (fun b=>lo≤b∧b<W.heap.size∧¬C b∧¬N b) x.x
 st:St (fun b=>b=B) w W
 sz:lo≤W.heap.size
 dis:∀ b,C b→¬N b
 nlo:∀ b,N b→lo≤b
 nlt:∀ b,N b→b<W.heap.size
theorem Qdf.start {lo B:Nat} {w:World} (hb:Blk w B 48 #[.slice none 0 0]) (hz:lo≤w.heap.size):Qdf lo B w (fun _=>False) [] (fun b=>b=B) w:=
 ⟨⟨Sl.none,by funext b;simp [Sl.row],hb,World.ownsRow_nil _ _ _ _⟩,fun x hx=>(by cases hx),St.refl _ _,hz,fun _ _ h=>h,fun _ h=>h.elim,fun _ h=>h.elim⟩
theorem Qdf.turn {lo B:Nat} {w W W':World} {N M C:Nat→Prop} {evs:List EV} (h:Qdf lo B w N evs C W) (k:St M W W') (hM:∀ b,M b→N b) (hw:w.heap.size≤lo):Qdf lo B w N evs C W':=by
 obtain ⟨⟨s,rfl,h2,h3⟩,hv,h5,h6,h7,h8,h9⟩:=h
 exact ⟨⟨s,rfl,k.blk h2 fun hm=>h7 B (.inl rfl) (hM _ hm),Qad h3 k.agree fun b hb=>⟨(Qac h3 hb).2,fun hm=>h7 b (.inr hb) (hM _ hm)⟩⟩,fun x hx=>((hv x hx).agree (k.agree.mono fun b hb=>⟨hb.2.1,fun hm=>hb.2.2.2 (hM _ hm)⟩)).mono fun b hb=>⟨hb.1,Nat.lt_of_lt_of_le hb.2.1 k.size,hb.2.2⟩,
  h5.then k (fun i hi e=>by have:=h8 i (hM _ e);omega),Nat.le_trans h6 k.size,h7,h8,fun b hb=>Nat.lt_of_lt_of_le (h9 b hb) k.size⟩
theorem Qdf.more {lo B:Nat} {w W W':World} {N N' C:Nat→Prop} {evs:List EV} (h:Qdf lo B w N evs C W) (k:Ext W W') (hN:∀ b,N' b→N b∨(W.heap.size≤b∧b<W'.heap.size)) (hC:∀ b,C b→b<W.heap.size):Qdf lo B w N' evs C W':=by
 obtain ⟨⟨s,rfl,h2,h3⟩,hv,h5,h6,h7,h8,h9⟩:=h
 refine ⟨⟨s,rfl,h2.ext k,Qad h3 (k.agree fun b (hb:b<W.heap.size)=>hb) fun b hb=>(Qac h3 hb).2⟩,fun x hx=>((hv x hx).agree (k.agree fun b hb=>hb.2.1)).mono fun b hb=>⟨hb.1,Nat.lt_of_lt_of_le hb.2.1 k.size,hb.2.2.1,fun hn=>?_⟩,h5.trans (k.st _),Nat.le_trans h6 k.size,fun b hb hn=>?_,fun b hn=>?_,fun b hn=>?_⟩
 ·rcases hN b hn with e | e
  ·exact hb.2.2.2 e
  have:=hb.2.1;omega
 ·rcases hN b hn with e | e
  ·exact h7 b hb e
  have:=hC b hb;omega
 ·rcases hN b hn with e | e
  ·exact h8 b e
  omega
 rcases hN b hn with e | e
 ·exact Nat.lt_of_lt_of_le (h9 b e) k.size
 exact e.2
theorem Qdf.lt {lo B:Nat} {w W:World} {N C:Nat→Prop} {evs:List EV} (h:Qdf lo B w N evs C W):∀ b,C b→b<W.heap.size:=by
 obtain ⟨⟨s,rfl,h2,h3⟩,-⟩:=h
 rintro b (rfl | hb)
 ·exact h2.lt
 exact (Qac h3 hb).2
theorem Qfi {lo B:Nat} {w W0 W3 W4 w5:World} {s s3:Sl} {evs:List EV} {x:EV} {N M:Nat→Prop} (hlo:w.heap.size≤lo) (hB:B<w.heap.size) (h0:Qdf lo B w N evs (fun b=>b=B∨s.row=some b) W0) (hblk:Blk W0 B 48 #[.slice s.a evs.length s.c]) (ho:W0.ownsRow lo 56 16 (.slice s.a evs.length s.c) evs.length (QbG evs))
  (h03:St M W0 W3) (hM:∀ b,M b→N b)
  (hx:CR W3 (fun b=>lo≤b∧b<W3.heap.size∧¬(b=B∨s.row=some b)∧¬N b) x.x)
  (h34:Ext W3 W4) (hown:w5.ownsRow lo 56 16 (.slice s3.a (evs.length+1) s3.c) (evs.length+1) (QbG evs++x.cells.toList)) (hwr:Wr W4 w5 s.row) (hs3:s3.a=s.a∨s3.a=some ⟨W4.heap.size,0,none⟩∧Wr W4 w5 none) :
  Qdf lo B w N (evs++[x]) (fun b=>b=B∨s3.row=some b) (w5.setCell ⟨B,0,none⟩ (.slice s3.a (evs.length+1) s3.c))∧St (fun b=>b=B∨s.row=some b) W3 (w5.setCell ⟨B,0,none⟩ (.slice s3.a (evs.length+1) s3.c))∧
   (∀ b,(b=B∨s3.row=some b)→(b=B∨s.row=some b)∨W3.heap.size≤b)∧(∀ b,(b=B∨s3.row=some b)→b<(w5.setCell ⟨B,0,none⟩ (.slice s3.a (evs.length+1) s3.c)).heap.size):=by
 have hrow0:∀ b,s.row=some b→lo≤b∧b<W0.heap.size:=fun b hb=>Qac ho hb
 have hs03:=h03.size
 have hs34:=h34.size
 have hs45:=hwr.grown.size
 have hsz:=h0.sz
 have hst:=h0.st.size
 have hNl:∀ b,N b→b<W3.heap.size:=fun b hb=>Nat.lt_of_lt_of_le (h0.nlt b hb) hs03
 have hs2:∀ b,s3.row=some b→s.row=some b∨W4.heap.size≤b:=by
  intro b hb
  rcases hs3 with h | ⟨h,-⟩
  ·exact .inl (by rw [←hb];simp [Sl.row,h])
  right;rw [Sl.row,h] at hb;simp at hb;omega
 have hset:St (fun b=>b=B) w5 (w5.setCell ⟨B,0,none⟩ (.slice s3.a (evs.length+1) s3.c)):=(St.refl (fun b=>b=B) w5).set (p:=⟨B,0,none⟩) (.inr rfl) _
 have hst45:St (fun b=>s.row=some b) W4 w5:=hwr.st fun i hi=>hi
 have hst36:St (fun b=>b=B∨s.row=some b) W3 (w5.setCell ⟨B,0,none⟩ (.slice s3.a (evs.length+1) s3.c)):=((h34.st _).trans (hst45.mono fun i _ hi=>.inr hi)).trans (hset.mono fun i _ hi=>.inl hi)
 have hB5:Blk w5 B 48 #[.slice s.a evs.length s.c]:=hst45.blk ((h03.blk hblk (fun hm=>h0.dis B (.inl rfl) (hM _ hm))).ext h34) (fun e=>by have:=(hrow0 B e).1;omega)
 have hrow5:∀ b,s3.row=some b→b<w5.heap.size:=fun b hb=>(Qac hown hb).2
 refine ⟨⟨⟨s3,rfl,by rw [List.length_append,List.length_singleton];exact hB5.QaN 0 _,?_⟩,fun y hy=>?_,?_,?_,fun b hb hn=>?_,h0.nlo,fun b hb=>?_⟩,hst36,fun b hb=>?_,fun b hb=>?_⟩
 ·rw [List.length_append,List.length_singleton,Qgj]
  exact Qad hown hset.agree fun b hb=>⟨hrow5 b hb,fun e=>by
   rcases hs2 b hb with h | h
   ·have:=(hrow0 b h).1;omega
   omega⟩
 ·have hup:∀ (F:Nat→Prop) (y:CE),CR W3 F y→(∀ b,F b→lo≤b∧b<W3.heap.size∧¬(b=B∨s.row=some b)∧¬N b)→CR (w5.setCell ⟨B,0,none⟩ (.slice s3.a (evs.length+1) s3.c)) (fun b=>lo≤b∧b<(w5.setCell ⟨B,0,none⟩ (.slice s3.a (evs.length+1) s3.c)).heap.size∧¬(b=B∨s3.row=some b)∧¬N b) y:=fun F y hy hF=>
   (hy.agree (hst36.agree.mono fun b hb=>⟨(hF b hb).2.1,(hF b hb).2.2.1⟩)).mono fun b hb=>⟨(hF b hb).1,Nat.lt_of_lt_of_le (hF b hb).2.1 hst36.size,fun e=>by
     rcases e with e | e
     ·exact (hF b hb).2.2.1 (.inl e)
     rcases hs2 b e with e | e
     ·exact (hF b hb).2.2.1 (.inr e)
     have:=(hF b hb).2.1;omega,(hF b hb).2.2.2⟩
  rcases List.mem_append.1 hy with hy | hy
  ·exact hup (fun b=>lo≤b∧b<W0.heap.size∧¬(b=B∨s.row=some b)∧¬N b) y.x ((h0.vals y hy).agree (h03.agree.mono fun b hb=>⟨hb.2.1,fun e=>hb.2.2.2 (hM _ e)⟩)) fun b hb=>⟨hb.1,by have:=hb.2.1;omega,hb.2.2⟩
  obtain rfl:=List.mem_singleton.1 hy
  exact hup _ y.x hx fun b hb=>hb
 ·refine (h0.st.then h03 (fun i hi e=>?_)).then hst36 fun i hi e=>?_
  ·have:=h0.nlo i (hM _ e);omega
  rcases e with e | e
  ·exact e
  have:=(hrow0 i e).1;omega
 ·rw [World.size_setCell];omega
 ·rcases hb with e | e
  ·exact h0.dis b (.inl e) hn
  rcases hs2 b e with e | e
  ·exact h0.dis b (.inr e) hn
  have:=hNl b hn;omega
 ·rw [World.size_setCell];have:=hNl b hb;omega
 ·rcases hb with e | e
  ·exact .inl (.inl e)
  exact (hs2 b e).imp .inr (fun h=>by omega)
 rw [World.size_setCell]
 rcases hb with e | e
 ·have:=(h03.blk hblk (fun hm=>h0.dis B (.inl rfl) (hM _ hm))).lt
  omega
 exact hrow5 b e
def QbD (bs:List Nat) (w w':World):Prop:=∀ b∈bs,∀ o,w'.cell? ⟨b,o,none⟩=w.cell? ⟨b,o,none⟩
theorem QbD.QoO {bs:List Nat} {w w':World} (k:Ext w w') (hl:∀ b∈bs,b<w.heap.size):QbD bs w w':=fun b hb o=>k.cell (hl b hb)
theorem QbD.wr {bs:List Nat} {w w' w'' w3:World} {row:Option Nat} (h:QbD bs w w') (hwr:Wr w'' w3 row) (hx:Ext w' w'') (hn:∀ b∈bs,row≠some b) (hl:∀ b∈bs,b<w'.heap.size):QbD bs w w3:=fun b hb o=>((hwr.cell0 (o:=o) hx (hn b hb) (hl b hb)).1).trans (h b hb o)
theorem QbD.set {bs:List Nat} {w w':World} {L:Nat} {v:Value} (h:QbD bs w w') (hn:∀ b∈bs,¬b=L):QbD bs w (w'.setCell ⟨L,0,none⟩ v):=fun b hb o=>(World.cell?_setCell_far _ _ _ _ (fun e=>hn b hb (by first | exact e | exact e.symm))).trans (h b hb o)
def S18 (bx bi bw bh:Nat) (x:CE) (id:Nat) (p q:Option Addr) (w:World):Prop:=w.cell? ⟨bx,0,none⟩=some (.string x.c.k)∧w.cell? ⟨bx,1,none⟩=some (.bool x.c.had)∧w.cell? ⟨bx,2,none⟩=some (.int .i64 x.c.was.kind)∧w.cell? ⟨bx,3,none⟩=some (.bool x.c.was.b)∧w.cell? ⟨bx,4,none⟩=some (.int .i64 x.c.was.i)∧w.cell? ⟨bx,5,none⟩=some (.string x.c.was.t)∧w.cell? ⟨bx,6,none⟩=some (.slice x.slw.a x.c.was.l.length x.slw.c)∧w.cell? ⟨bx,7,none⟩=some (.slice x.sow.a x.c.was.ok.length x.sow.c)∧w.cell? ⟨bx,8,none⟩=some (.bool x.c.has)∧w.cell? ⟨bx,9,none⟩=some (.int .i64 x.c.is_.kind)∧w.cell? ⟨bx,10,none⟩=some (.bool x.c.is_.b)∧w.cell? ⟨bx,11,none⟩=some (.int .i64 x.c.is_.i)∧w.cell? ⟨bx,12,none⟩=some (.string x.c.is_.t)∧w.cell? ⟨bx,13,none⟩=some (.slice x.sli.a x.c.is_.l.length x.sli.c)∧w.cell? ⟨bx,14,none⟩=some (.slice x.soi.a x.c.is_.ok.length x.soi.c)∧w.cell? ⟨bi,0,none⟩=some (.int .u64 (id:Int))∧w.cell? ⟨bw,0,none⟩=some (.pointer p)∧w.cell? ⟨bh,0,none⟩=some (.pointer q)
theorem QoU {bx bi bw bh:Nat} {x:CE} {id:Nat} {p q:Option Addr} {W w':World} (hx:Blk W bx 54 x.cells) (hi:Blk W bi 34 #[.int .u64 (id:Int)]) (hw:Blk W bw 33 #[.pointer p]) (hh:Blk W bh 33 #[.pointer q]) (h:QbD [bx,bi,bw,bh] W w'):S18 bx bi bw bh x id p q w':=by
 obtain ⟨c0,c1,c2,c3,c4,c5,c6,c7,c8,c9,c10,c11,c12,c13,c14⟩:=hx.c15
 have g:=h bx (by simp)
 exact ⟨(g 0).trans c0,(g 1).trans c1,(g 2).trans c2,(g 3).trans c3,(g 4).trans c4,(g 5).trans c5,(g 6).trans c6,(g 7).trans c7,(g 8).trans c8,(g 9).trans c9,(g 10).trans c10,(g 11).trans c11,(g 12).trans c12,(g 13).trans c13,(g 14).trans c14,(h bi (by simp) 0).trans (hi.cell 0),(h bw (by simp) 0).trans (hw.cell 0),(h bh (by simp) 0).trans (hh.cell 0)⟩
theorem QmI {a b:List Ent} (ha:Sorted a) (hb:Sorted b):(chg a b).Pairwise fun x y=>klt x.k y.k=true:=by
 have hk:(QoH a b).Pairwise fun x y=>klt x y=true:=List.pairwise_map.2 (QaE (QaE List.Pairwise.nil))
 have e:∀ k (c:Chg),QnY (QaD a) (QaD b) k=some c→c.k=k:=fun k c h=>by
  unfold QnY at h
  split at h
  ·injection h with h;rw [←h]
  cases h
 rw [Qfe ha hb,List.pairwise_filterMap]
 exact hk.imp fun h c hc c' hc'=>by rw [e _ _ hc,e _ _ hc'];exact h
theorem QoB {a b:List Ent} (ha:Sorted a) (hb:Sorted b) {c:Chg} (hc:c∈chg a b):c.had=true∨c.has=true:=by
 rw [Qfe ha hb] at hc
 obtain ⟨k,-,hk⟩:=List.mem_filterMap.1 hc
 unfold QnY at hk
 split at hk
 ·rename_i hd
  injection hk with hk
  subst hk
  cases h1:QaD a k with
  | some v=>exact .inl rfl
  | none=>
    cases h2:QaD b k with
    | some v=>exact .inr rfl
    | none=>rw [h1,h2] at hd;simp [Qo4,Qb6] at hd
 cases hk
end Go.Proofs.YtohajcflklejjaaGreat
namespace Go.Proofs.YtohajcflklejjaaGreat
open Go.RowKit
set_option linter.unusedVariables false
set_option linter.unusedSimpArgs false
theorem Qdi (w:World) (t0 t1 t2 t3 t4:TypeId) (c0 c1 c2 c3 c4:Array Value):∀ W,((((w.alloc (.cells c0 t0)).alloc (.cells c1 t1)).alloc (.cells c2 t2)).alloc (.cells c3 t3)).alloc (.cells c4 t4)=W→
  Ext w W∧W.heap.size=w.heap.size+5∧Blk W w.heap.size t0 c0∧Blk W (w.heap.size+1) t1 c1∧Blk W (w.heap.size+2) t2 c2∧Blk W (w.heap.size+3) t3 c3∧Blk W (w.heap.size+4) t4 c4:=by
 intro W hW
 obtain ⟨hx,hz,b0,b1,b2,b3⟩:=Qdj w t0 t1 t2 t3 c0 c1 c2 c3 _ rfl
 have hx2:Ext ((((w.alloc (.cells c0 t0)).alloc (.cells c1 t1)).alloc (.cells c2 t2)).alloc (.cells c3 t3)) W:=by rw [←hW];exact (Ext.refl _).alloc _ _
 have h4:=Blk.new ((((w.alloc (.cells c0 t0)).alloc (.cells c1 t1)).alloc (.cells c2 t2)).alloc (.cells c3 t3)) t4 c4
 rw [hW,hz] at h4
 exact ⟨hx.trans hx2,by rw [←hW];simp [hz],b0.ext hx2,b1.ext hx2,b2.ext hx2,b3.ext hx2,h4⟩
def Qou (a b:List Ent) (c:Chg):Prop:=c.had=(QaD a c.k).isSome∧c.was=(QaD a c.k).getD zeroV∧c.has=(QaD b c.k).isSome∧c.is_=(QaD b c.k).getD zeroV
theorem Qlf {a b:List Ent} (ha:Sorted a) (hb:Sorted b) {c:Chg} (hc:c∈chg a b):Qou a b c:=by
 rw [Qfe ha hb] at hc
 obtain ⟨k,-,hk⟩:=List.mem_filterMap.1 hc
 unfold QnY at hk
 split at hk
 ·injection hk with hk
  subst hk
  exact ⟨rfl,rfl,rfl,rfl⟩
 cases hk
theorem Qpa {H:Nat→Prop} {a W:World} {b:Nat} {c0 c1 c2 c3 c4 c5 c6 c7 c8 c9 c10 c11 c12 c13 c14:Value} (h:St H a W) (hb:H b):St H a (((((((((((((((W.setCell ⟨b,0,none⟩ (c0)).setCell ⟨b,1,none⟩ (c1)).setCell ⟨b,2,none⟩ (c2)).setCell ⟨b,3,none⟩ (c3)).setCell ⟨b,4,none⟩ (c4)).setCell ⟨b,5,none⟩ (c5)).setCell ⟨b,6,none⟩ (c6)).setCell ⟨b,7,none⟩ (c7)).setCell ⟨b,8,none⟩ (c8)).setCell ⟨b,9,none⟩ (c9)).setCell ⟨b,10,none⟩ (c10)).setCell ⟨b,11,none⟩ (c11)).setCell ⟨b,12,none⟩ (c12)).setCell ⟨b,13,none⟩ (c13)).setCell ⟨b,14,none⟩ (c14)):=by
 have s:∀ {X:World} (i:Nat) (v:Value),St H a X→St H a (X.setCell ⟨b,i,none⟩ v):=fun i v hx=>hx.set (p:=⟨b,i,none⟩) (.inr hb) v
 exact s 14 _ (s 13 _ (s 12 _ (s 11 _ (s 10 _ (s 9 _ (s 8 _ (s 7 _ (s 6 _ (s 5 _ (s 4 _ (s 3 _ (s 2 _ (s 1 _ (s 0 _ (h)))))))))))))))
theorem QfK {tm:Array Value} {W:World} {b:Nat} {c0 c1 c2 c3 c4 c5 c6 c7 c8 c9 c10 c11 c12 c13 c14:Value} (h4:tm.getD 6 undef=.pointer (some ⟨b,0,none⟩)) (hb:Blk W b 54 #[c0,c1,c2,c3,c4,c5,c6,c7,c8,c9,c10,c11,c12,c13,c14]) :
  (results Tryz.f49 tm).run Tryz.prog W=.ok (.agg #[c0,c1,c2,c3,c4,c5,c6,c7,c8,c9,c10,c11,c12,c13,c14]) W:=by
 obtain ⟨r0,r1,r2,r3,r4,r5,r6,r7,r8,r9,r10,r11,r12,r13,r14⟩:=hb.c15
 simp only [Array.getD_eq_getD_getElem?] at h4
 simp [results,Tryz.results49,go_sem,h4,r0,r1,r2,r3,r4,r5,r6,r7,r8,r9,r10,r11,r12,r13,r14]
theorem Qk3 {w:World} {F F':Nat→Prop} {T U:RT} (hT:IsT w F T) (hU:IsT w F' U) (hF:∀ b,F b→b<w.heap.size) (hF':∀ b,F' b→b<w.heap.size) (ok:OkR T) (ok':OkR U) (hl:(Qak T).length≤1000000) (hl':(Qak U).length≤1000000)
  {x:CE} (hx:Qou (Qak T) (Qak U) x.c) (hor:x.c.had=true∨x.c.has=true) (hk:x.c.k.size≤maxLen) :
  Calls Tryz.prog 49 #[x.agg,QaC T,QaC U] w fun e w'=>∃ y:CE,e=.returned y.agg∧y.c=x.c∧Ext w w'∧CR w' (In w.heap.size w'.heap.size) y:=by
 obtain ⟨p,hp⟩:=Qar T
 obtain ⟨q,hq⟩:=Qar U
 have hg:=fun (W:World) (hW:Ext w W)=>QfN (fun b hb=>Nat.lt_of_lt_of_le (hF b hb) hW.size) (hT.agree (hW.agree hF)) ok hl x.c.k
 have hg':=fun (W:World) (hW:Ext w W)=>QfN (fun b hb=>Nat.lt_of_lt_of_le (hF' b hb) hW.size) (hU.agree (hW.agree hF')) ok' hl' x.c.k
 unfold QbB at hg hg'
 obtain ⟨⟨k,had,was,has,is_⟩,a1,a2,a3,a4⟩:=x
 obtain ⟨h1,h2,h3,h4⟩:=hx
 dsimp only at hg hg' h1 h2 h3 h4 hor hk ⊢
 rw [←h1,←h2] at hg
 rw [←h3,←h4] at hg'
 simp only [QaC,hp] at hg
 simp only [QaC,hq] at hg'
 simp only [QaC,hp,hq]
 have hz1:had=false→was=zeroV:=fun h=>by rw [h2];rw [h1] at h;cases hh:QaD (Qak T) k with | none=>rfl | some v=>rw [hh] at h;cases h
 have hz2:has=false→is_=zeroV:=fun h=>by rw [h4];rw [h3] at h;cases hh:QaD (Qak U) k with | none=>rfl | some v=>rw [hh] at h;cases h
 have HG:=Lib.hid hg
 have HG':=Lib.hid hg'
 have HZ1:=Lib.hid hz1
 have HZ2:=Lib.hid hz2
 clear hT hU hF hF' ok ok' hl hl' hg hg' h1 h2 h3 h4 hz1 hz2 hp hq
 cases had
 ·cases has
  ·rcases hor with h | h <;> cases h
  obtain rfl:=HZ1.out rfl
  go_enter Tryz.func49,Tryz.ntmps49
  go_wp2_with fail
  generalize hW0:World.alloc (World.alloc (World.alloc (World.alloc (World.alloc _ _) _) _) _) _=W0
  obtain ⟨hx0,hz0,-,-,hb2,hb3,hb4⟩:=Qdi w _ _ _ _ _ _ _ _ _ _ W0 hW0
  clear hW0
  have hzl:w.heap.size+5≤W0.heap.size:=by omega
  clear hz0
  have HB4:=Lib.hid (show Blk W0 (w.heap.size+1+1+1+1) 54 #[.string k,.bool false,.int .i64 0,.bool false,.int .i64 0,.string ⟨#[]⟩,.slice none 0 0,.slice none 0 0,.bool true,.int .i64 0,.bool false,.int .i64 0,.string ⟨#[]⟩,.slice none 0 0,.slice none 0 0] from hb4)
  have HB3:=Lib.hid (show Blk W0 (w.heap.size+1+1+1) 54 _ from hb3)
  have HB2:=Lib.hid hb2
  have HX:=Lib.hid hx0
  clear hx0 hb2 hb3 hb4
  refine (HG'.out W0 HX.out).mono ?_
  rintro e w3 ⟨sl',so',rfl,hx3,hrv3⟩
  have hz3:=hx3.size
  have hb43:Blk w3 (w.heap.size+1+1+1+1) 54 #[.string k,.bool false,.int .i64 0,.bool false,.int .i64 0,.string ⟨#[]⟩,.slice none 0 0,.slice none 0 0,.bool true,.int .i64 0,.bool false,.int .i64 0,.string ⟨#[]⟩,.slice none 0 0,.slice none 0 0]:=HB4.out.ext hx3
  have hb33:=HB3.out.ext hx3
  have q0:w3.cell? ⟨w.heap.size+1+1+1+1,0,none⟩=some (.string k):=hb43.cell 0
  have q1:w3.cell? ⟨w.heap.size+1+1+1+1,1,none⟩=some (.bool false):=hb43.cell 1
  have q2:w3.cell? ⟨w.heap.size+1+1+1+1,2,none⟩=some (.int .i64 0):=hb43.cell 2
  have q3:w3.cell? ⟨w.heap.size+1+1+1+1,3,none⟩=some (.bool false):=hb43.cell 3
  have q4:w3.cell? ⟨w.heap.size+1+1+1+1,4,none⟩=some (.int .i64 0):=hb43.cell 4
  have q5:w3.cell? ⟨w.heap.size+1+1+1+1,5,none⟩=some (.string ⟨#[]⟩):=hb43.cell 5
  have q6:w3.cell? ⟨w.heap.size+1+1+1+1,6,none⟩=some (.slice none 0 0):=hb43.cell 6
  have q7:w3.cell? ⟨w.heap.size+1+1+1+1,7,none⟩=some (.slice none 0 0):=hb43.cell 7
  have q8:w3.cell? ⟨w.heap.size+1+1+1+1,8,none⟩=some (.bool true):=hb43.cell 8
  have q9:w3.cell? ⟨w.heap.size+1+1+1+1,9,none⟩=some (.int .i64 0):=hb43.cell 9
  have q10:w3.cell? ⟨w.heap.size+1+1+1+1,10,none⟩=some (.bool false):=hb43.cell 10
  have q11:w3.cell? ⟨w.heap.size+1+1+1+1,11,none⟩=some (.int .i64 0):=hb43.cell 11
  have q12:w3.cell? ⟨w.heap.size+1+1+1+1,12,none⟩=some (.string ⟨#[]⟩):=hb43.cell 12
  have q13:w3.cell? ⟨w.heap.size+1+1+1+1,13,none⟩=some (.slice none 0 0):=hb43.cell 13
  have q14:w3.cell? ⟨w.heap.size+1+1+1+1,14,none⟩=some (.slice none 0 0):=hb43.cell 14
  have f4:=fun i=>hb43.frozen i
  have l4:=hb43.lt
  have f3:∀ i,w3.frozen? ⟨w.heap.size+1+1+1,i,none⟩=false:=fun i=>hb33.frozen i
  have l3:w.heap.size+1+1+1<w3.heap.size:=hb33.lt
  have HX3:=Lib.hid (HX.out.trans hx3)
  have HRV3:=Lib.hid (hrv3.mono (G:=In (w.heap.size+5) w3.heap.size) fun b hb=>⟨by have:=hb.1;omega,hb.2⟩)
  have HB43:=Lib.hid hb43
  have HB33:=Lib.hid hb33
  clear hx3 hrv3 hb43 hb33
  go_upto_region 6 with (fail)
  clear q0 q1 q2 q3 q4 q5 q6 q7 q8 q9 q10 q11 q12 q13 q14 f4 f3 l3 l4
  generalize hW4:((((((w3.setCell ⟨w.heap.size+1+1+1+1,9,none⟩ (.int .i64 is_.kind)).setCell ⟨w.heap.size+1+1+1+1,10,none⟩ (.bool is_.b)).setCell ⟨w.heap.size+1+1+1+1,11,none⟩ (.int .i64 is_.i)).setCell ⟨w.heap.size+1+1+1+1,12,none⟩ (.string is_.t)).setCell ⟨w.heap.size+1+1+1+1,13,none⟩ (.slice sl'.a is_.l.length sl'.c)).setCell ⟨w.heap.size+1+1+1+1,14,none⟩ (.slice so'.a is_.ok.length so'.c))=W4
  have hst4:St (fun b=>b=w.heap.size+1+1+1+1) w3 W4:=by rw [←hW4];exact (((((((St.refl (fun b=>b=w.heap.size+1+1+1+1) w3).set (p:=⟨w.heap.size+1+1+1+1,9,none⟩) (.inr rfl) _).set (p:=⟨w.heap.size+1+1+1+1,10,none⟩) (.inr rfl) _).set (p:=⟨w.heap.size+1+1+1+1,11,none⟩) (.inr rfl) _).set (p:=⟨w.heap.size+1+1+1+1,12,none⟩) (.inr rfl) _).set (p:=⟨w.heap.size+1+1+1+1,13,none⟩) (.inr rfl) _).set (p:=⟨w.heap.size+1+1+1+1,14,none⟩) (.inr rfl) _)
  have hz4:=hst4.size
  have HB44:=Lib.hid (show Blk W4 (w.heap.size+1+1+1+1) 54 #[.string k,.bool false,.int .i64 0,.bool false,.int .i64 0,.string ⟨#[]⟩,.slice none 0 0,.slice none 0 0,.bool true,.int .i64 is_.kind,.bool is_.b,.int .i64 is_.i,.string is_.t,.slice sl'.a is_.l.length sl'.c,.slice so'.a is_.ok.length so'.c] by rw [←hW4];exact ((((((HB43.out.QaN 9 (.int .i64 is_.kind)).QaN 10 (.bool is_.b)).QaN 11 (.int .i64 is_.i)).QaN 12 (.string is_.t)).QaN 13 (.slice sl'.a is_.l.length sl'.c)).QaN 14 (.slice so'.a is_.ok.length so'.c)))
  have HB34:=Lib.hid (hst4.blk HB33.out (show ¬w.heap.size+1+1+1=w.heap.size+1+1+1+1 by omega))
  have HX4:=Lib.hid (HX3.out.step hst4 fun b e=>by omega)
  have HRV34:=Lib.hid ((HRV3.out.agree (hst4.agree.mono fun b hb=>⟨hb.2,fun e=>by have:=hb.1;omega⟩)).mono (G:=In (w.heap.size+5) W4.heap.size) fun b hb=>⟨hb.1,Nat.lt_of_lt_of_le hb.2 hz4⟩)
  have q0:W4.cell? ⟨w.heap.size+1+1+1+1,0,none⟩=some (.string k):=HB44.out.cell 0
  have q1:W4.cell? ⟨w.heap.size+1+1+1+1,1,none⟩=some (.bool false):=HB44.out.cell 1
  have q2:W4.cell? ⟨w.heap.size+1+1+1+1,2,none⟩=some (.int .i64 0):=HB44.out.cell 2
  have q3:W4.cell? ⟨w.heap.size+1+1+1+1,3,none⟩=some (.bool false):=HB44.out.cell 3
  have q4:W4.cell? ⟨w.heap.size+1+1+1+1,4,none⟩=some (.int .i64 0):=HB44.out.cell 4
  have q5:W4.cell? ⟨w.heap.size+1+1+1+1,5,none⟩=some (.string ⟨#[]⟩):=HB44.out.cell 5
  have q6:W4.cell? ⟨w.heap.size+1+1+1+1,6,none⟩=some (.slice none 0 0):=HB44.out.cell 6
  have q7:W4.cell? ⟨w.heap.size+1+1+1+1,7,none⟩=some (.slice none 0 0):=HB44.out.cell 7
  have q8:W4.cell? ⟨w.heap.size+1+1+1+1,8,none⟩=some (.bool true):=HB44.out.cell 8
  have q9:W4.cell? ⟨w.heap.size+1+1+1+1,9,none⟩=some (.int .i64 is_.kind):=HB44.out.cell 9
  have q10:W4.cell? ⟨w.heap.size+1+1+1+1,10,none⟩=some (.bool is_.b):=HB44.out.cell 10
  have q11:W4.cell? ⟨w.heap.size+1+1+1+1,11,none⟩=some (.int .i64 is_.i):=HB44.out.cell 11
  have q12:W4.cell? ⟨w.heap.size+1+1+1+1,12,none⟩=some (.string is_.t):=HB44.out.cell 12
  have q13:W4.cell? ⟨w.heap.size+1+1+1+1,13,none⟩=some (.slice sl'.a is_.l.length sl'.c):=HB44.out.cell 13
  have q14:W4.cell? ⟨w.heap.size+1+1+1+1,14,none⟩=some (.slice so'.a is_.ok.length so'.c):=HB44.out.cell 14
  have f4:=fun i=>HB44.out.frozen i
  have l4:=HB44.out.lt
  have f3:∀ i,W4.frozen? ⟨w.heap.size+1+1+1,i,none⟩=false:=fun i=>HB34.out.frozen i
  have l3:w.heap.size+1+1+1<W4.heap.size:=HB34.out.lt
  have p0:W4.cell? ⟨w.heap.size+1+1+1,0,none⟩=some (.string ⟨#[]⟩):=HB34.out.cell 0
  have p1:W4.cell? ⟨w.heap.size+1+1+1,1,none⟩=some (.bool false):=HB34.out.cell 1
  have p2:W4.cell? ⟨w.heap.size+1+1+1,2,none⟩=some (.int .i64 0):=HB34.out.cell 2
  have p3:W4.cell? ⟨w.heap.size+1+1+1,3,none⟩=some (.bool false):=HB34.out.cell 3
  have p4:W4.cell? ⟨w.heap.size+1+1+1,4,none⟩=some (.int .i64 0):=HB34.out.cell 4
  have p5:W4.cell? ⟨w.heap.size+1+1+1,5,none⟩=some (.string ⟨#[]⟩):=HB34.out.cell 5
  have p6:W4.cell? ⟨w.heap.size+1+1+1,6,none⟩=some (.slice none 0 0):=HB34.out.cell 6
  have p7:W4.cell? ⟨w.heap.size+1+1+1,7,none⟩=some (.slice none 0 0):=HB34.out.cell 7
  have p8:W4.cell? ⟨w.heap.size+1+1+1,8,none⟩=some (.bool false):=HB34.out.cell 8
  have p9:W4.cell? ⟨w.heap.size+1+1+1,9,none⟩=some (.int .i64 0):=HB34.out.cell 9
  have p10:W4.cell? ⟨w.heap.size+1+1+1,10,none⟩=some (.bool false):=HB34.out.cell 10
  have p11:W4.cell? ⟨w.heap.size+1+1+1,11,none⟩=some (.int .i64 0):=HB34.out.cell 11
  have p12:W4.cell? ⟨w.heap.size+1+1+1,12,none⟩=some (.string ⟨#[]⟩):=HB34.out.cell 12
  have p13:W4.cell? ⟨w.heap.size+1+1+1,13,none⟩=some (.slice none 0 0):=HB34.out.cell 13
  have p14:W4.cell? ⟨w.heap.size+1+1+1,14,none⟩=some (.slice none 0 0):=HB34.out.cell 14
  clear hW4 hst4
  go_wp2_with fail
  clear q0 q1 q2 q3 q4 q5 q6 q7 q8 q9 q10 q11 q12 q13 q14 p0 p1 p2 p3 p4 p5 p6 p7 p8 p9 p10 p11 p12 p13 p14 f4 f3 l3 l4
  generalize hW5:(((((((((((((((W4.setCell ⟨w.heap.size+1+1+1,0,none⟩ (.string k)).setCell ⟨w.heap.size+1+1+1,1,none⟩ (.bool false)).setCell ⟨w.heap.size+1+1+1,2,none⟩ (.int .i64 0)).setCell ⟨w.heap.size+1+1+1,3,none⟩ (.bool false)).setCell ⟨w.heap.size+1+1+1,4,none⟩ (.int .i64 0)).setCell ⟨w.heap.size+1+1+1,5,none⟩ (.string ⟨#[]⟩)).setCell ⟨w.heap.size+1+1+1,6,none⟩ (.slice none 0 0)).setCell ⟨w.heap.size+1+1+1,7,none⟩ (.slice none 0 0)).setCell ⟨w.heap.size+1+1+1,8,none⟩ (.bool true)).setCell ⟨w.heap.size+1+1+1,9,none⟩ (.int .i64 is_.kind)).setCell ⟨w.heap.size+1+1+1,10,none⟩ (.bool is_.b)).setCell ⟨w.heap.size+1+1+1,11,none⟩ (.int .i64 is_.i)).setCell ⟨w.heap.size+1+1+1,12,none⟩ (.string is_.t)).setCell ⟨w.heap.size+1+1+1,13,none⟩ (.slice sl'.a is_.l.length sl'.c)).setCell ⟨w.heap.size+1+1+1,14,none⟩ (.slice so'.a is_.ok.length so'.c))=W5
  have hb5:Blk W5 (w.heap.size+1+1+1) 54 #[.string k,.bool false,.int .i64 0,.bool false,.int .i64 0,.string ⟨#[]⟩,.slice none 0 0,.slice none 0 0,.bool true,.int .i64 is_.kind,.bool is_.b,.int .i64 is_.i,.string is_.t,.slice sl'.a is_.l.length sl'.c,.slice so'.a is_.ok.length so'.c]:=by rw [←hW5];exact Qla HB34.out
  have hst5:St (fun b=>b=w.heap.size+1+1+1) W4 W5:=by rw [←hW5];exact Qpa (St.refl _ _) rfl
  have hx5:Ext w W5:=HX4.out.step hst5 fun b e=>by omega
  have hz5:=hst5.size
  clear hW5
  refine bodyPost_ret (QfK rfl hb5) rfl ?_
  exact ⟨⟨⟨k,false,zeroV,true,is_⟩,Sl.none,Sl.none,sl',so'⟩,rfl,rfl,hx5,Qd7 _ _,(HRV34.out.agree (hst5.agree.mono fun b hb=>⟨hb.2,fun e=>by have:=hb.1;omega⟩)).mono (G:=In w.heap.size W5.heap.size) fun b hb=>⟨by have:=hb.1;omega,Nat.lt_of_lt_of_le hb.2 hz5⟩,hk⟩
 cases has
 ·obtain rfl:=HZ2.out rfl
  go_enter Tryz.func49,Tryz.ntmps49
  go_wp2_with fail
  generalize hW0:World.alloc (World.alloc (World.alloc (World.alloc (World.alloc _ _) _) _) _) _=W0
  obtain ⟨hx0,hz0,-,-,hb2,hb3,hb4⟩:=Qdi w _ _ _ _ _ _ _ _ _ _ W0 hW0
  clear hW0
  have hzl:w.heap.size+5≤W0.heap.size:=by omega
  clear hz0
  have HB4:=Lib.hid (show Blk W0 (w.heap.size+1+1+1+1) 54 #[.string k,.bool true,.int .i64 0,.bool false,.int .i64 0,.string ⟨#[]⟩,.slice none 0 0,.slice none 0 0,.bool false,.int .i64 0,.bool false,.int .i64 0,.string ⟨#[]⟩,.slice none 0 0,.slice none 0 0] from hb4)
  have HB3:=Lib.hid (show Blk W0 (w.heap.size+1+1+1) 54 _ from hb3)
  have HB2:=Lib.hid hb2
  have HX:=Lib.hid hx0
  clear hx0 hb2 hb3 hb4
  refine (HG.out W0 HX.out).mono ?_
  rintro e w1 ⟨sl,so,rfl,hx1,hrv1⟩
  have hz1:=hx1.size
  have hb41:Blk w1 (w.heap.size+1+1+1+1) 54 #[.string k,.bool true,.int .i64 0,.bool false,.int .i64 0,.string ⟨#[]⟩,.slice none 0 0,.slice none 0 0,.bool false,.int .i64 0,.bool false,.int .i64 0,.string ⟨#[]⟩,.slice none 0 0,.slice none 0 0]:=HB4.out.ext hx1
  have hb31:=HB3.out.ext hx1
  have q0:w1.cell? ⟨w.heap.size+1+1+1+1,0,none⟩=some (.string k):=hb41.cell 0
  have q1:w1.cell? ⟨w.heap.size+1+1+1+1,1,none⟩=some (.bool true):=hb41.cell 1
  have q2:w1.cell? ⟨w.heap.size+1+1+1+1,2,none⟩=some (.int .i64 0):=hb41.cell 2
  have q3:w1.cell? ⟨w.heap.size+1+1+1+1,3,none⟩=some (.bool false):=hb41.cell 3
  have q4:w1.cell? ⟨w.heap.size+1+1+1+1,4,none⟩=some (.int .i64 0):=hb41.cell 4
  have q5:w1.cell? ⟨w.heap.size+1+1+1+1,5,none⟩=some (.string ⟨#[]⟩):=hb41.cell 5
  have q6:w1.cell? ⟨w.heap.size+1+1+1+1,6,none⟩=some (.slice none 0 0):=hb41.cell 6
  have q7:w1.cell? ⟨w.heap.size+1+1+1+1,7,none⟩=some (.slice none 0 0):=hb41.cell 7
  have q8:w1.cell? ⟨w.heap.size+1+1+1+1,8,none⟩=some (.bool false):=hb41.cell 8
  have q9:w1.cell? ⟨w.heap.size+1+1+1+1,9,none⟩=some (.int .i64 0):=hb41.cell 9
  have q10:w1.cell? ⟨w.heap.size+1+1+1+1,10,none⟩=some (.bool false):=hb41.cell 10
  have q11:w1.cell? ⟨w.heap.size+1+1+1+1,11,none⟩=some (.int .i64 0):=hb41.cell 11
  have q12:w1.cell? ⟨w.heap.size+1+1+1+1,12,none⟩=some (.string ⟨#[]⟩):=hb41.cell 12
  have q13:w1.cell? ⟨w.heap.size+1+1+1+1,13,none⟩=some (.slice none 0 0):=hb41.cell 13
  have q14:w1.cell? ⟨w.heap.size+1+1+1+1,14,none⟩=some (.slice none 0 0):=hb41.cell 14
  have HB2b:=Lib.hid (HB2.out.ext hx1)
  have hd1:w1.cell? ⟨w.heap.size+1+1,0,none⟩=some (.pointer q):=(HB2.out.ext hx1).cell 0
  have l2:w.heap.size+1+1<w1.heap.size:=(HB2.out.ext hx1).lt
  have f4:=fun i=>hb41.frozen i
  have l4:=hb41.lt
  have f3:∀ i,w1.frozen? ⟨w.heap.size+1+1+1,i,none⟩=false:=fun i=>hb31.frozen i
  have l3:w.heap.size+1+1+1<w1.heap.size:=hb31.lt
  have HX1:=Lib.hid (HX.out.trans hx1)
  have HRV1:=Lib.hid (hrv1.mono (G:=In (w.heap.size+5) w1.heap.size) fun b hb=>⟨by have:=hb.1;omega,hb.2⟩)
  have HB41:=Lib.hid hb41
  have HB31:=Lib.hid hb31
  clear hx1 hrv1 hb41 hb31
  go_upto_region 4 with (fail)
  clear q0 q1 q2 q3 q4 q5 q6 q7 q8 q9 q10 q11 q12 q13 q14 hd1 l2 f4 f3 l3 l4
  generalize hW2:((((((w1.setCell ⟨w.heap.size+1+1+1+1,2,none⟩ (.int .i64 was.kind)).setCell ⟨w.heap.size+1+1+1+1,3,none⟩ (.bool was.b)).setCell ⟨w.heap.size+1+1+1+1,4,none⟩ (.int .i64 was.i)).setCell ⟨w.heap.size+1+1+1+1,5,none⟩ (.string was.t)).setCell ⟨w.heap.size+1+1+1+1,6,none⟩ (.slice sl.a was.l.length sl.c)).setCell ⟨w.heap.size+1+1+1+1,7,none⟩ (.slice so.a was.ok.length so.c))=W2
  have hst2:St (fun b=>b=w.heap.size+1+1+1+1) w1 W2:=by rw [←hW2];exact (((((((St.refl (fun b=>b=w.heap.size+1+1+1+1) w1).set (p:=⟨w.heap.size+1+1+1+1,2,none⟩) (.inr rfl) _).set (p:=⟨w.heap.size+1+1+1+1,3,none⟩) (.inr rfl) _).set (p:=⟨w.heap.size+1+1+1+1,4,none⟩) (.inr rfl) _).set (p:=⟨w.heap.size+1+1+1+1,5,none⟩) (.inr rfl) _).set (p:=⟨w.heap.size+1+1+1+1,6,none⟩) (.inr rfl) _).set (p:=⟨w.heap.size+1+1+1+1,7,none⟩) (.inr rfl) _)
  have hz2:=hst2.size
  have HB42:=Lib.hid (show Blk W2 (w.heap.size+1+1+1+1) 54 #[.string k,.bool true,.int .i64 was.kind,.bool was.b,.int .i64 was.i,.string was.t,.slice sl.a was.l.length sl.c,.slice so.a was.ok.length so.c,.bool false,.int .i64 0,.bool false,.int .i64 0,.string ⟨#[]⟩,.slice none 0 0,.slice none 0 0] by rw [←hW2];exact ((((((HB41.out.QaN 2 (.int .i64 was.kind)).QaN 3 (.bool was.b)).QaN 4 (.int .i64 was.i)).QaN 5 (.string was.t)).QaN 6 (.slice sl.a was.l.length sl.c)).QaN 7 (.slice so.a was.ok.length so.c)))
  have HB32:=Lib.hid (hst2.blk HB31.out (show ¬w.heap.size+1+1+1=w.heap.size+1+1+1+1 by omega))
  have HX2:=Lib.hid (HX1.out.step hst2 fun b e=>by omega)
  have HRV12:=Lib.hid ((HRV1.out.agree (hst2.agree.mono fun b hb=>⟨hb.2,fun e=>by have:=hb.1;omega⟩)).mono (G:=In (w.heap.size+5) W2.heap.size) fun b hb=>⟨hb.1,Nat.lt_of_lt_of_le hb.2 hz2⟩)
  have hd1:W2.cell? ⟨w.heap.size+1+1,0,none⟩=some (.pointer q):=(hst2.blk HB2b.out (show ¬w.heap.size+1+1=w.heap.size+1+1+1+1 by omega)).cell 0
  have l2:w.heap.size+1+1<W2.heap.size:=(hst2.blk HB2b.out (show ¬w.heap.size+1+1=w.heap.size+1+1+1+1 by omega)).lt
  have q0:W2.cell? ⟨w.heap.size+1+1+1+1,0,none⟩=some (.string k):=HB42.out.cell 0
  have q1:W2.cell? ⟨w.heap.size+1+1+1+1,1,none⟩=some (.bool true):=HB42.out.cell 1
  have q2:W2.cell? ⟨w.heap.size+1+1+1+1,2,none⟩=some (.int .i64 was.kind):=HB42.out.cell 2
  have q3:W2.cell? ⟨w.heap.size+1+1+1+1,3,none⟩=some (.bool was.b):=HB42.out.cell 3
  have q4:W2.cell? ⟨w.heap.size+1+1+1+1,4,none⟩=some (.int .i64 was.i):=HB42.out.cell 4
  have q5:W2.cell? ⟨w.heap.size+1+1+1+1,5,none⟩=some (.string was.t):=HB42.out.cell 5
  have q6:W2.cell? ⟨w.heap.size+1+1+1+1,6,none⟩=some (.slice sl.a was.l.length sl.c):=HB42.out.cell 6
  have q7:W2.cell? ⟨w.heap.size+1+1+1+1,7,none⟩=some (.slice so.a was.ok.length so.c):=HB42.out.cell 7
  have q8:W2.cell? ⟨w.heap.size+1+1+1+1,8,none⟩=some (.bool false):=HB42.out.cell 8
  have q9:W2.cell? ⟨w.heap.size+1+1+1+1,9,none⟩=some (.int .i64 0):=HB42.out.cell 9
  have q10:W2.cell? ⟨w.heap.size+1+1+1+1,10,none⟩=some (.bool false):=HB42.out.cell 10
  have q11:W2.cell? ⟨w.heap.size+1+1+1+1,11,none⟩=some (.int .i64 0):=HB42.out.cell 11
  have q12:W2.cell? ⟨w.heap.size+1+1+1+1,12,none⟩=some (.string ⟨#[]⟩):=HB42.out.cell 12
  have q13:W2.cell? ⟨w.heap.size+1+1+1+1,13,none⟩=some (.slice none 0 0):=HB42.out.cell 13
  have q14:W2.cell? ⟨w.heap.size+1+1+1+1,14,none⟩=some (.slice none 0 0):=HB42.out.cell 14
  have f4:=fun i=>HB42.out.frozen i
  have l4:=HB42.out.lt
  have f3:∀ i,W2.frozen? ⟨w.heap.size+1+1+1,i,none⟩=false:=fun i=>HB32.out.frozen i
  have l3:w.heap.size+1+1+1<W2.heap.size:=HB32.out.lt
  have p0:W2.cell? ⟨w.heap.size+1+1+1,0,none⟩=some (.string ⟨#[]⟩):=HB32.out.cell 0
  have p1:W2.cell? ⟨w.heap.size+1+1+1,1,none⟩=some (.bool false):=HB32.out.cell 1
  have p2:W2.cell? ⟨w.heap.size+1+1+1,2,none⟩=some (.int .i64 0):=HB32.out.cell 2
  have p3:W2.cell? ⟨w.heap.size+1+1+1,3,none⟩=some (.bool false):=HB32.out.cell 3
  have p4:W2.cell? ⟨w.heap.size+1+1+1,4,none⟩=some (.int .i64 0):=HB32.out.cell 4
  have p5:W2.cell? ⟨w.heap.size+1+1+1,5,none⟩=some (.string ⟨#[]⟩):=HB32.out.cell 5
  have p6:W2.cell? ⟨w.heap.size+1+1+1,6,none⟩=some (.slice none 0 0):=HB32.out.cell 6
  have p7:W2.cell? ⟨w.heap.size+1+1+1,7,none⟩=some (.slice none 0 0):=HB32.out.cell 7
  have p8:W2.cell? ⟨w.heap.size+1+1+1,8,none⟩=some (.bool false):=HB32.out.cell 8
  have p9:W2.cell? ⟨w.heap.size+1+1+1,9,none⟩=some (.int .i64 0):=HB32.out.cell 9
  have p10:W2.cell? ⟨w.heap.size+1+1+1,10,none⟩=some (.bool false):=HB32.out.cell 10
  have p11:W2.cell? ⟨w.heap.size+1+1+1,11,none⟩=some (.int .i64 0):=HB32.out.cell 11
  have p12:W2.cell? ⟨w.heap.size+1+1+1,12,none⟩=some (.string ⟨#[]⟩):=HB32.out.cell 12
  have p13:W2.cell? ⟨w.heap.size+1+1+1,13,none⟩=some (.slice none 0 0):=HB32.out.cell 13
  have p14:W2.cell? ⟨w.heap.size+1+1+1,14,none⟩=some (.slice none 0 0):=HB32.out.cell 14
  clear hW2 hst2
  go_wp2_with fail
  clear q0 q1 q2 q3 q4 q5 q6 q7 q8 q9 q10 q11 q12 q13 q14 p0 p1 p2 p3 p4 p5 p6 p7 p8 p9 p10 p11 p12 p13 p14 f4 f3 l3 l4 hd1 l2
  generalize hW5:(((((((((((((((W2.setCell ⟨w.heap.size+1+1+1,0,none⟩ (.string k)).setCell ⟨w.heap.size+1+1+1,1,none⟩ (.bool true)).setCell ⟨w.heap.size+1+1+1,2,none⟩ (.int .i64 was.kind)).setCell ⟨w.heap.size+1+1+1,3,none⟩ (.bool was.b)).setCell ⟨w.heap.size+1+1+1,4,none⟩ (.int .i64 was.i)).setCell ⟨w.heap.size+1+1+1,5,none⟩ (.string was.t)).setCell ⟨w.heap.size+1+1+1,6,none⟩ (.slice sl.a was.l.length sl.c)).setCell ⟨w.heap.size+1+1+1,7,none⟩ (.slice so.a was.ok.length so.c)).setCell ⟨w.heap.size+1+1+1,8,none⟩ (.bool false)).setCell ⟨w.heap.size+1+1+1,9,none⟩ (.int .i64 0)).setCell ⟨w.heap.size+1+1+1,10,none⟩ (.bool false)).setCell ⟨w.heap.size+1+1+1,11,none⟩ (.int .i64 0)).setCell ⟨w.heap.size+1+1+1,12,none⟩ (.string ⟨#[]⟩)).setCell ⟨w.heap.size+1+1+1,13,none⟩ (.slice none 0 0)).setCell ⟨w.heap.size+1+1+1,14,none⟩ (.slice none 0 0))=W5
  have hb5:Blk W5 (w.heap.size+1+1+1) 54 #[.string k,.bool true,.int .i64 was.kind,.bool was.b,.int .i64 was.i,.string was.t,.slice sl.a was.l.length sl.c,.slice so.a was.ok.length so.c,.bool false,.int .i64 0,.bool false,.int .i64 0,.string ⟨#[]⟩,.slice none 0 0,.slice none 0 0]:=by rw [←hW5];exact Qla HB32.out
  have hst5:St (fun b=>b=w.heap.size+1+1+1) W2 W5:=by rw [←hW5];exact Qpa (St.refl _ _) rfl
  have hx5:Ext w W5:=HX2.out.step hst5 fun b e=>by omega
  have hz5:=hst5.size
  clear hW5
  refine bodyPost_ret (QfK rfl hb5) rfl ?_
  exact ⟨⟨⟨k,true,was,false,zeroV⟩,sl,so,Sl.none,Sl.none⟩,rfl,rfl,hx5,(HRV12.out.agree (hst5.agree.mono fun b hb=>⟨hb.2,fun e=>by have:=hb.1;omega⟩)).mono (G:=In w.heap.size W5.heap.size) fun b hb=>⟨by have:=hb.1;omega,Nat.lt_of_lt_of_le hb.2 hz5⟩,Qd7 _ _,hk⟩
 go_enter Tryz.func49,Tryz.ntmps49
 go_wp2_with fail
 generalize hW0:World.alloc (World.alloc (World.alloc (World.alloc (World.alloc _ _) _) _) _) _=W0
 obtain ⟨hx0,hz0,-,-,hb2,hb3,hb4⟩:=Qdi w _ _ _ _ _ _ _ _ _ _ W0 hW0
 clear hW0
 have hzl:w.heap.size+5≤W0.heap.size:=by omega
 clear hz0
 have HB4:=Lib.hid (show Blk W0 (w.heap.size+1+1+1+1) 54 #[.string k,.bool true,.int .i64 0,.bool false,.int .i64 0,.string ⟨#[]⟩,.slice none 0 0,.slice none 0 0,.bool true,.int .i64 0,.bool false,.int .i64 0,.string ⟨#[]⟩,.slice none 0 0,.slice none 0 0] from hb4)
 have HB3:=Lib.hid (show Blk W0 (w.heap.size+1+1+1) 54 _ from hb3)
 have HB2:=Lib.hid hb2
 have HX:=Lib.hid hx0
 clear hx0 hb2 hb3 hb4
 refine (HG.out W0 HX.out).mono ?_
 rintro e w1 ⟨sl,so,rfl,hx1,hrv1⟩
 have hz1:=hx1.size
 have hb41:Blk w1 (w.heap.size+1+1+1+1) 54 #[.string k,.bool true,.int .i64 0,.bool false,.int .i64 0,.string ⟨#[]⟩,.slice none 0 0,.slice none 0 0,.bool true,.int .i64 0,.bool false,.int .i64 0,.string ⟨#[]⟩,.slice none 0 0,.slice none 0 0]:=HB4.out.ext hx1
 have hb31:=HB3.out.ext hx1
 have q0:w1.cell? ⟨w.heap.size+1+1+1+1,0,none⟩=some (.string k):=hb41.cell 0
 have q1:w1.cell? ⟨w.heap.size+1+1+1+1,1,none⟩=some (.bool true):=hb41.cell 1
 have q2:w1.cell? ⟨w.heap.size+1+1+1+1,2,none⟩=some (.int .i64 0):=hb41.cell 2
 have q3:w1.cell? ⟨w.heap.size+1+1+1+1,3,none⟩=some (.bool false):=hb41.cell 3
 have q4:w1.cell? ⟨w.heap.size+1+1+1+1,4,none⟩=some (.int .i64 0):=hb41.cell 4
 have q5:w1.cell? ⟨w.heap.size+1+1+1+1,5,none⟩=some (.string ⟨#[]⟩):=hb41.cell 5
 have q6:w1.cell? ⟨w.heap.size+1+1+1+1,6,none⟩=some (.slice none 0 0):=hb41.cell 6
 have q7:w1.cell? ⟨w.heap.size+1+1+1+1,7,none⟩=some (.slice none 0 0):=hb41.cell 7
 have q8:w1.cell? ⟨w.heap.size+1+1+1+1,8,none⟩=some (.bool true):=hb41.cell 8
 have q9:w1.cell? ⟨w.heap.size+1+1+1+1,9,none⟩=some (.int .i64 0):=hb41.cell 9
 have q10:w1.cell? ⟨w.heap.size+1+1+1+1,10,none⟩=some (.bool false):=hb41.cell 10
 have q11:w1.cell? ⟨w.heap.size+1+1+1+1,11,none⟩=some (.int .i64 0):=hb41.cell 11
 have q12:w1.cell? ⟨w.heap.size+1+1+1+1,12,none⟩=some (.string ⟨#[]⟩):=hb41.cell 12
 have q13:w1.cell? ⟨w.heap.size+1+1+1+1,13,none⟩=some (.slice none 0 0):=hb41.cell 13
 have q14:w1.cell? ⟨w.heap.size+1+1+1+1,14,none⟩=some (.slice none 0 0):=hb41.cell 14
 have HB2b:=Lib.hid (HB2.out.ext hx1)
 have hd1:w1.cell? ⟨w.heap.size+1+1,0,none⟩=some (.pointer q):=(HB2.out.ext hx1).cell 0
 have l2:w.heap.size+1+1<w1.heap.size:=(HB2.out.ext hx1).lt
 have f4:=fun i=>hb41.frozen i
 have l4:=hb41.lt
 have f3:∀ i,w1.frozen? ⟨w.heap.size+1+1+1,i,none⟩=false:=fun i=>hb31.frozen i
 have l3:w.heap.size+1+1+1<w1.heap.size:=hb31.lt
 have HX1:=Lib.hid (HX.out.trans hx1)
 have HRV1:=Lib.hid (hrv1.mono (G:=In (w.heap.size+5) w1.heap.size) fun b hb=>⟨by have:=hb.1;omega,hb.2⟩)
 have HB41:=Lib.hid hb41
 have HB31:=Lib.hid hb31
 clear hx1 hrv1 hb41 hb31
 go_upto_region 4 with (fail)
 clear q0 q1 q2 q3 q4 q5 q6 q7 q8 q9 q10 q11 q12 q13 q14 hd1 l2 f4 f3 l3 l4
 generalize hW2:((((((w1.setCell ⟨w.heap.size+1+1+1+1,2,none⟩ (.int .i64 was.kind)).setCell ⟨w.heap.size+1+1+1+1,3,none⟩ (.bool was.b)).setCell ⟨w.heap.size+1+1+1+1,4,none⟩ (.int .i64 was.i)).setCell ⟨w.heap.size+1+1+1+1,5,none⟩ (.string was.t)).setCell ⟨w.heap.size+1+1+1+1,6,none⟩ (.slice sl.a was.l.length sl.c)).setCell ⟨w.heap.size+1+1+1+1,7,none⟩ (.slice so.a was.ok.length so.c))=W2
 have hst2:St (fun b=>b=w.heap.size+1+1+1+1) w1 W2:=by rw [←hW2];exact (((((((St.refl (fun b=>b=w.heap.size+1+1+1+1) w1).set (p:=⟨w.heap.size+1+1+1+1,2,none⟩) (.inr rfl) _).set (p:=⟨w.heap.size+1+1+1+1,3,none⟩) (.inr rfl) _).set (p:=⟨w.heap.size+1+1+1+1,4,none⟩) (.inr rfl) _).set (p:=⟨w.heap.size+1+1+1+1,5,none⟩) (.inr rfl) _).set (p:=⟨w.heap.size+1+1+1+1,6,none⟩) (.inr rfl) _).set (p:=⟨w.heap.size+1+1+1+1,7,none⟩) (.inr rfl) _)
 have hz2:=hst2.size
 have HB42:=Lib.hid (show Blk W2 (w.heap.size+1+1+1+1) 54 #[.string k,.bool true,.int .i64 was.kind,.bool was.b,.int .i64 was.i,.string was.t,.slice sl.a was.l.length sl.c,.slice so.a was.ok.length so.c,.bool true,.int .i64 0,.bool false,.int .i64 0,.string ⟨#[]⟩,.slice none 0 0,.slice none 0 0] by rw [←hW2];exact ((((((HB41.out.QaN 2 (.int .i64 was.kind)).QaN 3 (.bool was.b)).QaN 4 (.int .i64 was.i)).QaN 5 (.string was.t)).QaN 6 (.slice sl.a was.l.length sl.c)).QaN 7 (.slice so.a was.ok.length so.c)))
 have HB32:=Lib.hid (hst2.blk HB31.out (show ¬w.heap.size+1+1+1=w.heap.size+1+1+1+1 by omega))
 have HX2:=Lib.hid (HX1.out.step hst2 fun b e=>by omega)
 have HRV12:=Lib.hid ((HRV1.out.agree (hst2.agree.mono fun b hb=>⟨hb.2,fun e=>by have:=hb.1;omega⟩)).mono (G:=In (w.heap.size+5) W2.heap.size) fun b hb=>⟨hb.1,Nat.lt_of_lt_of_le hb.2 hz2⟩)
 have hd1:W2.cell? ⟨w.heap.size+1+1,0,none⟩=some (.pointer q):=(hst2.blk HB2b.out (show ¬w.heap.size+1+1=w.heap.size+1+1+1+1 by omega)).cell 0
 have l2:w.heap.size+1+1<W2.heap.size:=(hst2.blk HB2b.out (show ¬w.heap.size+1+1=w.heap.size+1+1+1+1 by omega)).lt
 have q0:W2.cell? ⟨w.heap.size+1+1+1+1,0,none⟩=some (.string k):=HB42.out.cell 0
 have q1:W2.cell? ⟨w.heap.size+1+1+1+1,1,none⟩=some (.bool true):=HB42.out.cell 1
 have q2:W2.cell? ⟨w.heap.size+1+1+1+1,2,none⟩=some (.int .i64 was.kind):=HB42.out.cell 2
 have q3:W2.cell? ⟨w.heap.size+1+1+1+1,3,none⟩=some (.bool was.b):=HB42.out.cell 3
 have q4:W2.cell? ⟨w.heap.size+1+1+1+1,4,none⟩=some (.int .i64 was.i):=HB42.out.cell 4
 have q5:W2.cell? ⟨w.heap.size+1+1+1+1,5,none⟩=some (.string was.t):=HB42.out.cell 5
 have q6:W2.cell? ⟨w.heap.size+1+1+1+1,6,none⟩=some (.slice sl.a was.l.length sl.c):=HB42.out.cell 6
 have q7:W2.cell? ⟨w.heap.size+1+1+1+1,7,none⟩=some (.slice so.a was.ok.length so.c):=HB42.out.cell 7
 have q8:W2.cell? ⟨w.heap.size+1+1+1+1,8,none⟩=some (.bool true):=HB42.out.cell 8
 have q9:W2.cell? ⟨w.heap.size+1+1+1+1,9,none⟩=some (.int .i64 0):=HB42.out.cell 9
 have q10:W2.cell? ⟨w.heap.size+1+1+1+1,10,none⟩=some (.bool false):=HB42.out.cell 10
 have q11:W2.cell? ⟨w.heap.size+1+1+1+1,11,none⟩=some (.int .i64 0):=HB42.out.cell 11
 have q12:W2.cell? ⟨w.heap.size+1+1+1+1,12,none⟩=some (.string ⟨#[]⟩):=HB42.out.cell 12
 have q13:W2.cell? ⟨w.heap.size+1+1+1+1,13,none⟩=some (.slice none 0 0):=HB42.out.cell 13
 have q14:W2.cell? ⟨w.heap.size+1+1+1+1,14,none⟩=some (.slice none 0 0):=HB42.out.cell 14
 have f4:=fun i=>HB42.out.frozen i
 have l4:=HB42.out.lt
 have f3:∀ i,W2.frozen? ⟨w.heap.size+1+1+1,i,none⟩=false:=fun i=>HB32.out.frozen i
 have l3:w.heap.size+1+1+1<W2.heap.size:=HB32.out.lt
 have p0:W2.cell? ⟨w.heap.size+1+1+1,0,none⟩=some (.string ⟨#[]⟩):=HB32.out.cell 0
 have p1:W2.cell? ⟨w.heap.size+1+1+1,1,none⟩=some (.bool false):=HB32.out.cell 1
 have p2:W2.cell? ⟨w.heap.size+1+1+1,2,none⟩=some (.int .i64 0):=HB32.out.cell 2
 have p3:W2.cell? ⟨w.heap.size+1+1+1,3,none⟩=some (.bool false):=HB32.out.cell 3
 have p4:W2.cell? ⟨w.heap.size+1+1+1,4,none⟩=some (.int .i64 0):=HB32.out.cell 4
 have p5:W2.cell? ⟨w.heap.size+1+1+1,5,none⟩=some (.string ⟨#[]⟩):=HB32.out.cell 5
 have p6:W2.cell? ⟨w.heap.size+1+1+1,6,none⟩=some (.slice none 0 0):=HB32.out.cell 6
 have p7:W2.cell? ⟨w.heap.size+1+1+1,7,none⟩=some (.slice none 0 0):=HB32.out.cell 7
 have p8:W2.cell? ⟨w.heap.size+1+1+1,8,none⟩=some (.bool false):=HB32.out.cell 8
 have p9:W2.cell? ⟨w.heap.size+1+1+1,9,none⟩=some (.int .i64 0):=HB32.out.cell 9
 have p10:W2.cell? ⟨w.heap.size+1+1+1,10,none⟩=some (.bool false):=HB32.out.cell 10
 have p11:W2.cell? ⟨w.heap.size+1+1+1,11,none⟩=some (.int .i64 0):=HB32.out.cell 11
 have p12:W2.cell? ⟨w.heap.size+1+1+1,12,none⟩=some (.string ⟨#[]⟩):=HB32.out.cell 12
 have p13:W2.cell? ⟨w.heap.size+1+1+1,13,none⟩=some (.slice none 0 0):=HB32.out.cell 13
 have p14:W2.cell? ⟨w.heap.size+1+1+1,14,none⟩=some (.slice none 0 0):=HB32.out.cell 14
 clear hW2 hst2
 go_wp2_with fail
 clear q0 q1 q2 q3 q4 q5 q6 q7 q8 q9 q10 q11 q12 q13 q14 p0 p1 p2 p3 p4 p5 p6 p7 p8 p9 p10 p11 p12 p13 p14 f4 f3 l3 l4 hd1 l2
 refine (HG'.out W2 HX2.out).mono ?_
 rintro e w3 ⟨sl',so',rfl,hx3,hrv3⟩
 have hz3:=hx3.size
 have hb43:Blk w3 (w.heap.size+1+1+1+1) 54 #[.string k,.bool true,.int .i64 was.kind,.bool was.b,.int .i64 was.i,.string was.t,.slice sl.a was.l.length sl.c,.slice so.a was.ok.length so.c,.bool true,.int .i64 0,.bool false,.int .i64 0,.string ⟨#[]⟩,.slice none 0 0,.slice none 0 0]:=HB42.out.ext hx3
 have hb33:=HB32.out.ext hx3
 have q0:w3.cell? ⟨w.heap.size+1+1+1+1,0,none⟩=some (.string k):=hb43.cell 0
 have q1:w3.cell? ⟨w.heap.size+1+1+1+1,1,none⟩=some (.bool true):=hb43.cell 1
 have q2:w3.cell? ⟨w.heap.size+1+1+1+1,2,none⟩=some (.int .i64 was.kind):=hb43.cell 2
 have q3:w3.cell? ⟨w.heap.size+1+1+1+1,3,none⟩=some (.bool was.b):=hb43.cell 3
 have q4:w3.cell? ⟨w.heap.size+1+1+1+1,4,none⟩=some (.int .i64 was.i):=hb43.cell 4
 have q5:w3.cell? ⟨w.heap.size+1+1+1+1,5,none⟩=some (.string was.t):=hb43.cell 5
 have q6:w3.cell? ⟨w.heap.size+1+1+1+1,6,none⟩=some (.slice sl.a was.l.length sl.c):=hb43.cell 6
 have q7:w3.cell? ⟨w.heap.size+1+1+1+1,7,none⟩=some (.slice so.a was.ok.length so.c):=hb43.cell 7
 have q8:w3.cell? ⟨w.heap.size+1+1+1+1,8,none⟩=some (.bool true):=hb43.cell 8
 have q9:w3.cell? ⟨w.heap.size+1+1+1+1,9,none⟩=some (.int .i64 0):=hb43.cell 9
 have q10:w3.cell? ⟨w.heap.size+1+1+1+1,10,none⟩=some (.bool false):=hb43.cell 10
 have q11:w3.cell? ⟨w.heap.size+1+1+1+1,11,none⟩=some (.int .i64 0):=hb43.cell 11
 have q12:w3.cell? ⟨w.heap.size+1+1+1+1,12,none⟩=some (.string ⟨#[]⟩):=hb43.cell 12
 have q13:w3.cell? ⟨w.heap.size+1+1+1+1,13,none⟩=some (.slice none 0 0):=hb43.cell 13
 have q14:w3.cell? ⟨w.heap.size+1+1+1+1,14,none⟩=some (.slice none 0 0):=hb43.cell 14
 have f4:=fun i=>hb43.frozen i
 have l4:=hb43.lt
 have f3:∀ i,w3.frozen? ⟨w.heap.size+1+1+1,i,none⟩=false:=fun i=>hb33.frozen i
 have l3:w.heap.size+1+1+1<w3.heap.size:=hb33.lt
 have HX3:=Lib.hid (HX2.out.trans hx3)
 have HRV3:=Lib.hid (hrv3.mono (G:=In (w.heap.size+5) w3.heap.size) fun b hb=>⟨by have:=hb.1;omega,hb.2⟩)
 have HB43:=Lib.hid hb43
 have HB33:=Lib.hid hb33
 have HRV123:=Lib.hid ((HRV12.out.agree (hx3.agree fun b hb=>hb.2)).mono (G:=In (w.heap.size+5) w3.heap.size) fun b hb=>⟨hb.1,Nat.lt_of_lt_of_le hb.2 hz3⟩)
 clear hx3 hrv3 hb43 hb33
 go_upto_region 6 with (fail)
 clear q0 q1 q2 q3 q4 q5 q6 q7 q8 q9 q10 q11 q12 q13 q14 f4 f3 l3 l4
 generalize hW4:((((((w3.setCell ⟨w.heap.size+1+1+1+1,9,none⟩ (.int .i64 is_.kind)).setCell ⟨w.heap.size+1+1+1+1,10,none⟩ (.bool is_.b)).setCell ⟨w.heap.size+1+1+1+1,11,none⟩ (.int .i64 is_.i)).setCell ⟨w.heap.size+1+1+1+1,12,none⟩ (.string is_.t)).setCell ⟨w.heap.size+1+1+1+1,13,none⟩ (.slice sl'.a is_.l.length sl'.c)).setCell ⟨w.heap.size+1+1+1+1,14,none⟩ (.slice so'.a is_.ok.length so'.c))=W4
 have hst4:St (fun b=>b=w.heap.size+1+1+1+1) w3 W4:=by rw [←hW4];exact (((((((St.refl (fun b=>b=w.heap.size+1+1+1+1) w3).set (p:=⟨w.heap.size+1+1+1+1,9,none⟩) (.inr rfl) _).set (p:=⟨w.heap.size+1+1+1+1,10,none⟩) (.inr rfl) _).set (p:=⟨w.heap.size+1+1+1+1,11,none⟩) (.inr rfl) _).set (p:=⟨w.heap.size+1+1+1+1,12,none⟩) (.inr rfl) _).set (p:=⟨w.heap.size+1+1+1+1,13,none⟩) (.inr rfl) _).set (p:=⟨w.heap.size+1+1+1+1,14,none⟩) (.inr rfl) _)
 have hz4:=hst4.size
 have HB44:=Lib.hid (show Blk W4 (w.heap.size+1+1+1+1) 54 #[.string k,.bool true,.int .i64 was.kind,.bool was.b,.int .i64 was.i,.string was.t,.slice sl.a was.l.length sl.c,.slice so.a was.ok.length so.c,.bool true,.int .i64 is_.kind,.bool is_.b,.int .i64 is_.i,.string is_.t,.slice sl'.a is_.l.length sl'.c,.slice so'.a is_.ok.length so'.c] by rw [←hW4];exact ((((((HB43.out.QaN 9 (.int .i64 is_.kind)).QaN 10 (.bool is_.b)).QaN 11 (.int .i64 is_.i)).QaN 12 (.string is_.t)).QaN 13 (.slice sl'.a is_.l.length sl'.c)).QaN 14 (.slice so'.a is_.ok.length so'.c)))
 have HB34:=Lib.hid (hst4.blk HB33.out (show ¬w.heap.size+1+1+1=w.heap.size+1+1+1+1 by omega))
 have HX4:=Lib.hid (HX3.out.step hst4 fun b e=>by omega)
 have HRV1234:=Lib.hid ((HRV123.out.agree (hst4.agree.mono fun b hb=>⟨hb.2,fun e=>by have:=hb.1;omega⟩)).mono (G:=In (w.heap.size+5) W4.heap.size) fun b hb=>⟨hb.1,Nat.lt_of_lt_of_le hb.2 hz4⟩)
 have HRV34:=Lib.hid ((HRV3.out.agree (hst4.agree.mono fun b hb=>⟨hb.2,fun e=>by have:=hb.1;omega⟩)).mono (G:=In (w.heap.size+5) W4.heap.size) fun b hb=>⟨hb.1,Nat.lt_of_lt_of_le hb.2 hz4⟩)
 have q0:W4.cell? ⟨w.heap.size+1+1+1+1,0,none⟩=some (.string k):=HB44.out.cell 0
 have q1:W4.cell? ⟨w.heap.size+1+1+1+1,1,none⟩=some (.bool true):=HB44.out.cell 1
 have q2:W4.cell? ⟨w.heap.size+1+1+1+1,2,none⟩=some (.int .i64 was.kind):=HB44.out.cell 2
 have q3:W4.cell? ⟨w.heap.size+1+1+1+1,3,none⟩=some (.bool was.b):=HB44.out.cell 3
 have q4:W4.cell? ⟨w.heap.size+1+1+1+1,4,none⟩=some (.int .i64 was.i):=HB44.out.cell 4
 have q5:W4.cell? ⟨w.heap.size+1+1+1+1,5,none⟩=some (.string was.t):=HB44.out.cell 5
 have q6:W4.cell? ⟨w.heap.size+1+1+1+1,6,none⟩=some (.slice sl.a was.l.length sl.c):=HB44.out.cell 6
 have q7:W4.cell? ⟨w.heap.size+1+1+1+1,7,none⟩=some (.slice so.a was.ok.length so.c):=HB44.out.cell 7
 have q8:W4.cell? ⟨w.heap.size+1+1+1+1,8,none⟩=some (.bool true):=HB44.out.cell 8
 have q9:W4.cell? ⟨w.heap.size+1+1+1+1,9,none⟩=some (.int .i64 is_.kind):=HB44.out.cell 9
 have q10:W4.cell? ⟨w.heap.size+1+1+1+1,10,none⟩=some (.bool is_.b):=HB44.out.cell 10
 have q11:W4.cell? ⟨w.heap.size+1+1+1+1,11,none⟩=some (.int .i64 is_.i):=HB44.out.cell 11
 have q12:W4.cell? ⟨w.heap.size+1+1+1+1,12,none⟩=some (.string is_.t):=HB44.out.cell 12
 have q13:W4.cell? ⟨w.heap.size+1+1+1+1,13,none⟩=some (.slice sl'.a is_.l.length sl'.c):=HB44.out.cell 13
 have q14:W4.cell? ⟨w.heap.size+1+1+1+1,14,none⟩=some (.slice so'.a is_.ok.length so'.c):=HB44.out.cell 14
 have f4:=fun i=>HB44.out.frozen i
 have l4:=HB44.out.lt
 have f3:∀ i,W4.frozen? ⟨w.heap.size+1+1+1,i,none⟩=false:=fun i=>HB34.out.frozen i
 have l3:w.heap.size+1+1+1<W4.heap.size:=HB34.out.lt
 have p0:W4.cell? ⟨w.heap.size+1+1+1,0,none⟩=some (.string ⟨#[]⟩):=HB34.out.cell 0
 have p1:W4.cell? ⟨w.heap.size+1+1+1,1,none⟩=some (.bool false):=HB34.out.cell 1
 have p2:W4.cell? ⟨w.heap.size+1+1+1,2,none⟩=some (.int .i64 0):=HB34.out.cell 2
 have p3:W4.cell? ⟨w.heap.size+1+1+1,3,none⟩=some (.bool false):=HB34.out.cell 3
 have p4:W4.cell? ⟨w.heap.size+1+1+1,4,none⟩=some (.int .i64 0):=HB34.out.cell 4
 have p5:W4.cell? ⟨w.heap.size+1+1+1,5,none⟩=some (.string ⟨#[]⟩):=HB34.out.cell 5
 have p6:W4.cell? ⟨w.heap.size+1+1+1,6,none⟩=some (.slice none 0 0):=HB34.out.cell 6
 have p7:W4.cell? ⟨w.heap.size+1+1+1,7,none⟩=some (.slice none 0 0):=HB34.out.cell 7
 have p8:W4.cell? ⟨w.heap.size+1+1+1,8,none⟩=some (.bool false):=HB34.out.cell 8
 have p9:W4.cell? ⟨w.heap.size+1+1+1,9,none⟩=some (.int .i64 0):=HB34.out.cell 9
 have p10:W4.cell? ⟨w.heap.size+1+1+1,10,none⟩=some (.bool false):=HB34.out.cell 10
 have p11:W4.cell? ⟨w.heap.size+1+1+1,11,none⟩=some (.int .i64 0):=HB34.out.cell 11
 have p12:W4.cell? ⟨w.heap.size+1+1+1,12,none⟩=some (.string ⟨#[]⟩):=HB34.out.cell 12
 have p13:W4.cell? ⟨w.heap.size+1+1+1,13,none⟩=some (.slice none 0 0):=HB34.out.cell 13
 have p14:W4.cell? ⟨w.heap.size+1+1+1,14,none⟩=some (.slice none 0 0):=HB34.out.cell 14
 clear hW4 hst4
 go_wp2_with fail
 clear q0 q1 q2 q3 q4 q5 q6 q7 q8 q9 q10 q11 q12 q13 q14 p0 p1 p2 p3 p4 p5 p6 p7 p8 p9 p10 p11 p12 p13 p14 f4 f3 l3 l4
 generalize hW5:(((((((((((((((W4.setCell ⟨w.heap.size+1+1+1,0,none⟩ (.string k)).setCell ⟨w.heap.size+1+1+1,1,none⟩ (.bool true)).setCell ⟨w.heap.size+1+1+1,2,none⟩ (.int .i64 was.kind)).setCell ⟨w.heap.size+1+1+1,3,none⟩ (.bool was.b)).setCell ⟨w.heap.size+1+1+1,4,none⟩ (.int .i64 was.i)).setCell ⟨w.heap.size+1+1+1,5,none⟩ (.string was.t)).setCell ⟨w.heap.size+1+1+1,6,none⟩ (.slice sl.a was.l.length sl.c)).setCell ⟨w.heap.size+1+1+1,7,none⟩ (.slice so.a was.ok.length so.c)).setCell ⟨w.heap.size+1+1+1,8,none⟩ (.bool true)).setCell ⟨w.heap.size+1+1+1,9,none⟩ (.int .i64 is_.kind)).setCell ⟨w.heap.size+1+1+1,10,none⟩ (.bool is_.b)).setCell ⟨w.heap.size+1+1+1,11,none⟩ (.int .i64 is_.i)).setCell ⟨w.heap.size+1+1+1,12,none⟩ (.string is_.t)).setCell ⟨w.heap.size+1+1+1,13,none⟩ (.slice sl'.a is_.l.length sl'.c)).setCell ⟨w.heap.size+1+1+1,14,none⟩ (.slice so'.a is_.ok.length so'.c))=W5
 have hb5:Blk W5 (w.heap.size+1+1+1) 54 #[.string k,.bool true,.int .i64 was.kind,.bool was.b,.int .i64 was.i,.string was.t,.slice sl.a was.l.length sl.c,.slice so.a was.ok.length so.c,.bool true,.int .i64 is_.kind,.bool is_.b,.int .i64 is_.i,.string is_.t,.slice sl'.a is_.l.length sl'.c,.slice so'.a is_.ok.length so'.c]:=by rw [←hW5];exact Qla HB34.out
 have hst5:St (fun b=>b=w.heap.size+1+1+1) W4 W5:=by rw [←hW5];exact Qpa (St.refl _ _) rfl
 have hx5:Ext w W5:=HX4.out.step hst5 fun b e=>by omega
 have hz5:=hst5.size
 clear hW5
 refine bodyPost_ret (QfK rfl hb5) rfl ?_
 exact ⟨⟨⟨k,true,was,true,is_⟩,sl,so,sl',so'⟩,rfl,rfl,hx5,(HRV1234.out.agree (hst5.agree.mono fun b hb=>⟨hb.2,fun e=>by have:=hb.1;omega⟩)).mono (G:=In w.heap.size W5.heap.size) fun b hb=>⟨by have:=hb.1;omega,Nat.lt_of_lt_of_le hb.2 hz5⟩,(HRV34.out.agree (hst5.agree.mono fun b hb=>⟨hb.2,fun e=>by have:=hb.1;omega⟩)).mono (G:=In w.heap.size W5.heap.size) fun b hb=>⟨by have:=hb.1;omega,Nat.lt_of_lt_of_le hb.2 hz5⟩,hk⟩
end Go.Proofs.YtohajcflklejjaaGreat
namespace Go.Proofs.YtohajcflklejjaaGreat
open Go.RowKit Go.Shelf Go.Maps
set_option linter.unusedVariables false
set_option linter.unusedSimpArgs false
attribute [local go_sem] Oper.semAt_some
theorem QjT (w:World):(zeroValue 107).run Tryz.prog w=.ok (.agg #[.string ByteArray.empty,.string ByteArray.empty,.bool false]) w:=by kernel_rfl
theorem Qog {W:World} {b g i:Nat} {L:Qbc} {p:Nat × Iv} (hown:W.ownsMap Tryz.prog 34 ivR b g (mapD L)) (hp:L.find? (fun p=>p.1 == i)=some p) (hi:i≤18446744073709551615) :
  (Instr.lookup 35 (.map (some b)) (.int .u64 (i:Int)) false).run Tryz.prog W=.ok p.2.v W:=by
 obtain ⟨v,ps,hrun,hv⟩:=hown.lookup QeE Tryz.underlying35 (QjT W) (QjA ⟨ByteArray.empty,ByteArray.empty,false⟩) (Qos i hi)
 rw [Qk4 hp] at hv
 rw [hrun,QiL hv]
theorem Qof {w:World} {mb:Option Nat} {g:Nat} {L:Qbc} (h:Qcn w mb g L):(Builtin.len_ #[35] 3 #[.map mb]).run Tryz.prog w=.ok (.int .i64 L.length) w:=by
 cases mb with
 | none=>
   have:L=[]:=h
   subst this
   simp [Builtin.len_,run_underlying Tryz.underlying35,goInt,Result.andThen]
 | some b=>rw [World.ownsMap.len h Tryz.underlying35,Qme]
theorem Qn9 {L:Qbc} {k:Nat} {p:Nat × Iv} (hr:L.Pairwise (fun p q=>p.1<q.1)) (hp:L[k]? = some p):L.find? (fun q=>q.1 == p.1)=some p:=by
 obtain ⟨h1,h2⟩:=List.getElem?_eq_some_iff.1 hp
 rw [List.find?_eq_some_iff_getElem]
 refine ⟨by simp,k,h1,h2,fun j hj=>?_⟩
 have:=List.pairwise_iff_getElem.1 hr j k (by omega) h1 hj
 rw [h2] at this
 simp;omega
def QgK (L:Qbc) (w:World) (e:Ending) (w':World):Prop:=∃ s:Sl,e=.returned (.slice s.a L.length s.c)∧w'.ownsRow w.heap.size 34 1 (.slice s.a L.length s.c) L.length (L.map fun p=>Qcj p.1)∧Ext w w'
def QkS (R:Nat) (U:RT) (g:Nat) (mb:Option Nat) (L:Qbc) (l:List Chg) (w:World) (e:Ending) (w':World):Prop:=
 ∃ (s:Sl) (evs:List EV),e=.returned (.slice s.a evs.length s.c)∧evs.map EV.p=evL L l∧QaR w' R U g mb L∧St (fun b=>b=R) w w'∧EVS w' (In w.heap.size w'.heap.size) s evs
theorem QaR.head {w:World} {R:Nat} {T:RT} {g:Nat} {mb:Option Nat} {L:Qbc} (h:QaR w R T g mb L) (U:RT):QaR (w.setCell ⟨R,0,none⟩ (QaQ U)) R U g mb L:=
 ⟨h.blk.QaN 0 _,h.map.heap fun b hb=>Below.heap_setCell _ _ _ _ (fun e=>h.ne (by rw [hb];exact congrArg some (by first | exact e | exact e.symm))),h.ne,h.up,h.rise,h.short,h.small⟩
theorem Qgq {F:Fence} {n:Nat} {P:Program} {fn:Func} {tmps:Array Value} {Rr:Ending→World→Prop}:∀ (ds:List Nat) (W:World),ds.Nodup→(∀ d∈ds,W.heap[d]? = some (.deferred (some [])))→
  (∀ W',St (fun b=>b∈ds) W W'→LeavesInM F n P fn tmps Rr [] .returning W')→LeavesInM F n P fn tmps Rr (ds.map fun d=>{ target:=.collected d,args:=#[] }) .returning W
 | [],W,_,_,h=>h W (St.refl _ W)
 | d :: ds,W,hn,hd,h=>by
   have hn':=List.nodup_cons.1 hn
   have hd0:=hd d (List.mem_cons_self ..)
   have hk:St (fun b=>b=d) W (W.putObj d (.deferred none)):=St.put hd0 rfl rfl
   refine ⟨by simp,.inl ⟨d,_,rfl,run_takeDeferred hd0,Qgq ds _ hn'.2 (fun d' h'=>?_) fun W' hW'=>h W' ?_⟩⟩
   ·exact (World.putObj_heap_other (fun e=>hn'.1 (by first | exact e▸h' | exact e.symm▸h'))).trans (hd d' (List.mem_cons_of_mem _ h'))
   exact (hk.mono fun b _ e=>by rw [e];exact List.mem_cons_self ..).trans (hW'.mono fun b _ e=>List.mem_cons_of_mem _ e)
structure Qpg (lo B:Nat) (w5:World) (L:Qbc) (l:List Chg) (k:Nat) (ds:List Nat) (W:World):Prop where
 co:∃ N C evs,Qdf lo B w5 N evs C W∧evs.map EV.p=evL (L.take k) l∧(∀ d∈ds,N d∧W.heap[d]? = some (.deferred (some [])))
 nd:ds.Nodup
 kl:k≤L.length
theorem Qdh {w:World} {R:Nat} {T U:RT} {g:Nat} {mb:Option Nat} {L:Qbc} {F F':Nat→Prop} (h:QaR w R T g mb L) (hT:IsT w F T) (hU:IsT w F' U) (hF:∀ b,F b→b<w.heap.size∧¬Qdp R mb b) (hF':∀ b,F' b→b<w.heap.size∧¬Qdp R mb b) (ok:OkR T) (ok':OkR U)
  (hl:(Qak T).length≤500000) (hl':(Qak U).length≤500000) (hn:L.length≤100) (hlv:∀ W,QaR W R U g mb L→0<L.length→Calls Tryz.prog 23 #[.pointer (some ⟨R,0,none⟩)] W (QgK L W)) :
  Calls Tryz.prog 18 #[.pointer (some ⟨R,0,none⟩),QaC U] w (QkS R U g mb L (chg (Qak T) (Qak U)) w):=by
 obtain ⟨i0,hi,hz0,hz1,hz2⟩:=info_parts Tryz.QhN
 obtain ⟨p,hp⟩:=Qar T
 obtain ⟨q,hq⟩:=Qar U
 have hlR:=h.blk.lt
 have r0:w.cell? ⟨R,0,none⟩=some (.pointer p):=by rw [←hp];exact h.blk.cell 0
 have f0:=h.blk.frozen 0
 have HREG:=Lib.hid h
 have HT:=Lib.hid hT
 have HU:=Lib.hid hU
 have HF:=Lib.hid hF
 have HF':=Lib.hid hF'
 have HOK:=Lib.hid ok
 have HOK':=Lib.hid ok'
 have HLV:=Lib.hid hlv
 have HP:=Lib.hid hp
 have HQ:=Lib.hid hq
 rw [QaC,hq]
 clear h hT hU hF hF' ok ok' hlv hp hq
 refine (callsIn_wide (n:=6)).1 ?_
 refine callsIn_of_wp_marks Tryz.func18 rfl trivial ?_ rfl
 simp only [Tryz.ntmps18,List.size_toArray,List.length_cons,List.length_nil,Nat.reduceAdd,Nat.reduceSub,Array.replicate_succ,Array.replicate_zero,List.push_toArray,List.append_toArray,List.nil_append,List.cons_append]
 gi_upto_region 5 with (fail)
 generalize hW0:World.alloc (World.alloc _ _) _=W0
 have hst0:St (fun b=>b=R) w W0:=by rw [←hW0];exact ((((St.refl (fun b=>b=R) w).set (p:=⟨R,0,none⟩) (.inr rfl) _).ext ((Ext.refl _).alloc _ _)).ext ((Ext.refl _).alloc _ _))
 have hreg0:QaR W0 R U g mb L:=by rw [←hW0,←HQ.out];exact ((HREG.out.head U).ext ((Ext.refl _).alloc _ _)).ext ((Ext.refl _).alloc _ _)
 have hz0:W0.heap.size=w.heap.size+2:=by rw [←hW0];simp
 have hbh:Blk W0 w.heap.size 33 #[.pointer q]:=by
  rw [←hW0]
  have:=Blk.new (w.setCell ⟨R,0,none⟩ (.pointer q)) 33 #[.pointer q]
  rw [World.size_setCell] at this
  exact this.ext ((Ext.refl _).alloc _ _)
 have hbw:Blk W0 (w.heap.size+1) 33 #[.pointer p]:=by
  rw [←hW0]
  have:=Blk.new ((w.setCell ⟨R,0,none⟩ (.pointer q)).alloc (.cells #[.pointer q] 33)) 33 #[.pointer p]
  rw [World.size_alloc,World.size_setCell] at this
  exact this
 clear hW0 r0 f0
 have hT0:IsT W0 F T:=HT.out.agree (hst0.agree.mono fun b hb=>⟨(HF.out b hb).1,fun e=>(HF.out b hb).2 (.inl e)⟩)
 have hU0:IsT W0 F' U:=HU.out.agree (hst0.agree.mono fun b hb=>⟨(HF'.out b hb).1,fun e=>(HF'.out b hb).2 (.inl e)⟩)
 have hch:=Qiy hT0 hU0 (fun b hb=>by have:=(HF.out b hb).1;omega) (fun b hb=>by have:=(HF'.out b hb).1;omega) HOK.out HOK'.out hl hl'
 rw [QaC,QaC,HP.out,HQ.out] at hch
 have r2:W0.cell? ⟨R,2,none⟩=some (.map mb):=hreg0.blk.cell 2
 have t3:W0.cell? ⟨w.heap.size,0,none⟩=some (.pointer q):=hbh.cell 0
 have t5:W0.cell? ⟨w.heap.size+1,0,none⟩=some (.pointer p):=hbw.cell 0
 have l3:=hbh.lt
 have l5:=hbw.lt
 have lR:=hreg0.blk.lt
 have hlen:=Qof hreg0.map
 obtain ⟨ch,hche⟩:∃ ch,chg (Qak T) (Qak U)=ch:=⟨_,rfl⟩
 have hcl:ch.length≤1000000:=by rw [←hche];have:=QdY (Qak T) (Qak U);omega
 rw [hche] at hch ⊢
 have HCE:=Lib.hid hche
 have HCH:=Lib.hid hch
 have HREG0:=Lib.hid hreg0
 have HST0:=Lib.hid hst0
 have HT0:=Lib.hid hT0
 have HU0:=Lib.hid hU0
 have HBH:=Lib.hid hbh
 have HBW:=Lib.hid hbw
 have HZ0:=Lib.hid hz0
 clear hche hch hreg0 hst0 hT0 hU0 hbh hbw hz0 HT HU HREG
 by_cases hL0:L.length=0
 ·have g1:((L.length:Int) == 0)=true:=by simp [hL0]
  have HNIL:=Lib.hid (List.eq_nil_of_length_eq_zero hL0)
  clear hL0
  gi_wp2_with fail
  refine ⟨.slice none 0 0,by simp [results,Tryz.f18,go_sem],⟨Sl.none,[],rfl,by rw [HNIL.out];rfl,HREG0.out,HST0.out,EVS.nil _ _⟩⟩
 have g1:((L.length:Int) == 0)=false:=beq_eq_false_iff_ne.2 (by omega)
 gi_wp2_with fail
 refine ⟨trivial,?_⟩
 refine (callsIn_wide.2 HCH.out).mono ?_
 rintro e w1 ⟨s,xs,rfl,hxs,hx1,hcs⟩
 have HX1:=Lib.hid hx1
 have HXS:=Lib.hid hxs
 have HCS:=Lib.hid hcs
 have hs1:=hx1.size
 by_cases hx0:xs.length=0
 ·have g2:((xs.length:Int) == 0)=true:=by simp [hx0]
  have HNIL:=Lib.hid (List.eq_nil_of_length_eq_zero hx0)
  clear hx0 hx1 hxs hcs r2 t3 t5 hlen
  gi_wp2_with fail
  have HE:=Lib.hid (show ([]:List EV).map EV.p=evL L ch by rw [←HXS.out,HNIL.out];exact (Qn7 L).symm)
  refine ⟨.slice none 0 0,by simp [results,Tryz.f18,go_sem],⟨Sl.none,[],rfl,by rw [HCE.out];exact HE.out,HREG0.out.ext HX1.out,HST0.out.ext HX1.out,EVS.nil _ _⟩⟩
 have g2:((xs.length:Int) == 0)=false:=beq_eq_false_iff_ne.2 (by omega)
 clear hx1 hxs hcs r2 t3 t5 hlen
 gi_wp2_with fail
 have hxa:Ext w1 (w1.alloc (.cells #[.slice none 0 0] 48)):=(Ext.refl _).alloc _ _
 have hba:=Blk.new w1 48 #[.slice none 0 0]
 have hza:(w1.alloc (.cells #[.slice none 0 0] 48)).heap.size=w1.heap.size+1:=by simp
 generalize w1.alloc (.cells #[.slice none 0 0] 48)=wa at *
 refine ⟨trivial,?_⟩
 refine (callsIn_wide.2 (HLV.out _ (HREG0.out.ext (HX1.out.trans hxa)) (by omega))).mono ?_
 rintro e w5 ⟨s5,rfl,hrow5,hx5⟩
 have HX5:=Lib.hid (HX1.out.trans (hxa.trans hx5))
 have HB5:=Lib.hid (hba.ext hx5)
 have HROW5:=Lib.hid hrow5
 have hz15:w1.heap.size<w5.heap.size:=by have:=hx5.size;omega
 have HREG5:=Lib.hid (HREG0.out.ext HX5.out)
 have hxa':=hxa
 clear hxa hba hrow5
 gi_wp2_with fail
 -- the loop over the subscriptions
 have hmapL:(L.map fun p=>Qcj p.1)=(L.map (·.1)).map Qcj:=by rw [List.map_map];rfl
 obtain ⟨gI,hsa5,hgI,hcI,hrowI⟩:=Qdn (s:=s5) (xs:=L.map (·.1)) (by rw [List.length_map,←hmapL];exact HROW5.out) (by rw [List.length_map];omega)
 obtain ⟨s5a,s5c⟩:=s5
 dsimp only at hsa5 hcI hrowI
 subst hsa5
 have hRB:∀ b,Qdp R mb b→b<w1.heap.size:=fun b hb=>by
  rcases hb with rfl | rfl
  ·omega
  exact Nat.lt_of_lt_of_le HREG0.out.map.lt hs1
 have hgl:=hrowI.lt
 have hle5:L.length≤s5c:=by have:=hrowI.le;simpa using this
 have HRI:=Lib.hid hrowI
 have HRB:=Lib.hid hRB
 have hz5':=hx5.size
 have HX15:=Lib.hid (hxa'.trans hx5)
 clear hrowI hRB hx5 hmapL
 refine wpIn_loop_ghost_k (fun n a W=>∃ (k:Nat) (ds:List Nat) (v9 v37 v38 v39 v40 v41 v42 v43 v44 v45 v46 v47 v58:Value),n=L.length - k∧Hid (Qpg w5.heap.size w1.heap.size w5 L ch k ds W)∧k≤L.length∧a=Act.mk #[Value.pointer (some ⟨R,0,none⟩),Value.agg #[Value.pointer q],undef,
   Value.pointer (some ⟨w.heap.size,0,none⟩),Value.slice none 0 0,Value.pointer (some ⟨w.heap.size+1,0,none⟩),Value.slice s.a xs.length s.c,Value.pointer (some ⟨w1.heap.size,0,none⟩),undef,v9,undef,
   Value.pointer (some ⟨R,0,none⟩),Value.bool false,Value.pointer (some ⟨R,0,none⟩),Value.pointer (some ⟨R,0,none⟩),Value.pointer (some ⟨R,0,none⟩),Value.agg #[Value.pointer p],
   Value.pointer (some ⟨R,0,none⟩),Value.agg #[Value.pointer q],Value.pointer (some ⟨R,0,none⟩),Value.pointer (some ⟨R,0,none⟩),Value.pointer (some ⟨R,0,none⟩),Value.pointer (some ⟨R,0,none⟩),
   Value.pointer (some ⟨R,2,none⟩),Value.map mb,Value.int IntKind.i64 L.length,Value.bool false,Value.agg #[Value.pointer p],Value.agg #[Value.pointer q],Value.slice s.a xs.length s.c,
   Value.slice s.a xs.length s.c,Value.int IntKind.i64 xs.length,Value.bool false,Value.pointer (some ⟨R,0,none⟩),Value.slice (some ⟨gI,0,none⟩) L.length s5c,Value.int IntKind.i64 L.length,Value.int IntKind.i64 k,
   v37,v38,v39,v40,v41,v42,v43,v44,v45,v46,v47,undef,undef,undef,undef,undef,undef,undef,undef,undef,undef,v58,undef] (ds.map fun d=>({ target:=.collected d,args:=#[] }:Deferred))) L.length
  ⟨0,[],_,_,_,_,_,_,_,_,_,_,_,_,_,rfl,Lib.hid ⟨⟨_,_,[],Qdf.start HB5.out (Nat.le_refl _),rfl,fun d hd=>(by cases hd)⟩,List.nodup_nil,Nat.zero_le _⟩,Nat.zero_le _,rfl⟩ ?_
 intro gn ga wr hinv J K hJ hK
 obtain ⟨k,ds,v9,v37,v38,v39,v40,v41,v42,v43,v44,v45,v46,v47,v58,rfl,HO,hkl,rfl⟩:=hinv
 by_cases hk:k<L.length
 ·obtain ⟨⟨id,iv⟩,hpk⟩:∃ pk,L[k]? = some pk:=⟨_,List.getElem?_eq_getElem hk⟩
  obtain ⟨⟨N,C0,evs,hco,hmap,hds⟩,hnd,-⟩:=HO.out
  have hst5:St (fun b=>b=w1.heap.size) w5 wr:=hco.st
  have hszr:=hst5.size
  have hBgI:¬gI=w1.heap.size:=by omega
  have cI:wr.cell? ⟨gI,k,none⟩=some (.int .u64 (id:Int)):=by
   have:=HRI.out.cell (j:=k) (by simpa using hk)
   rw [(hst5.cell hgl hBgI),this]
   have hk':(L.map (·.1))[k]? = some id:=by rw [List.getElem?_map,hpk];rfl
   simp only [List.getElem!_toArray]
   rw [List.getElem!_eq_getElem?_getD,hk'];rfl
  have hregr:QaR wr R U g mb L:=HREG5.out.sb hst5.sb fun b hb e=>by have:=HRB.out b hb;omega
  have lgI:gI<wr.heap.size:=by omega
  have r2:wr.cell? ⟨R,2,none⟩=some (.map mb):=hregr.blk.cell 2
  have lRr:=hregr.blk.lt
  have hid:id≤4611686018427387904:=Nat.le_trans (hregr.up (id,iv) (List.mem_of_getElem? hpk)).2 hregr.small
  obtain ⟨bm,rfl⟩:∃ b,mb=some b:=by
   cases mb with
   | none=>have:L=[]:=hregr.map;subst this;simp at hk
   | some b=>exact ⟨b,rfl⟩
  have hown:wr.ownsMap Tryz.prog 34 ivR bm g (mapD L):=hregr.map
  have hfind:=Qn9 hregr.rise hpk
  dsimp only at hfind
  have hx6:Ext wr (wr.alloc (.cells #[.int .u64 (id:Int)] 34)):=(Ext.refl _).alloc _ _
  have hb6:=Blk.new wr 34 #[.int .u64 (id:Int)]
  have hz6:(wr.alloc (.cells #[.int .u64 (id:Int)] 34)).heap.size=wr.heap.size+1:=by simp
  have hk0:(0:Int)≤(k:Int):=by omega
  have hkL:(k:Int)<(L.length:Int):=by omega
  have HCO:=Lib.hid hco
  have HMAP:=Lib.hid hmap
  have HDS:=Lib.hid hds
  have HND:=Lib.hid hnd
  have HST5:=Lib.hid hst5
  have HPK:=Lib.hid hpk
  clear hco hmap hds hnd hst5 hpk HO
  gi_wp2_with fail
  generalize wr.alloc (.cells #[.int .u64 (id:Int)] 34)=W6 at *
  have HSS:=Lib.hid (show ∀ W,Ext W6 W→W.cell? ⟨R,2,none⟩=some (.map (some bm))∧W.cell? ⟨wr.heap.size,0,none⟩=some (.int .u64 (id:Int))∧(Instr.lookup 35 (.map (some bm)) (.int .u64 (id:Int)) false).run Tryz.prog W=.ok iv.v W from
   fun W hW=>⟨((hx6.trans hW).cell lRr).trans r2,(hb6.ext hW).cell 0,Qog (p:=(id,iv)) (QaM hown ((hx6.trans hW).heap hown.lt)) hfind (by omega)⟩)
  have HX6:=Lib.hid hx6
  have HB6:=Lib.hid hb6
  have lb6:=hb6.lt
  clear cI r2 hown hfind hx6 hb6 hregr
  refine QgH (wpIn_wide.2 ?_)
  refine wp_region_held_drew (S:=(fun w'=>Ext W6 w')) (by kernel_rfl) (((Ext.refl W6).drew)) (fun hHeld=>?_)
  refine Qab 0 (some 40) HSS hHeld ?_
  refine Qab 1 (some 41) HSS hHeld ?_
  refine Qab 2 (some 42) HSS hHeld ?_
  refine Qab 3 (some 43) HSS hHeld ?_
  refine Qab 4 (some 44) HSS hHeld ?_
  refine Qab 5 (some 45) HSS hHeld ?_
  refine Qab 6 (some 46) HSS hHeld ?_
  refine Qaa (i:=7) (by kernel_rfl) rfl (by rfl) (fun K hK=>?_)
  go_simp
  (refine (Qnr _ s.a xs.length s.c iv).mono ?_;rintro e w2 ⟨rfl,hx2,hbs1,hbs2⟩)
  refine hK.out _ _ (hHeld.trans hx2) (fun hHeld=>?_)
  clear hK K
  try simp only [Act.put,List.setIfInBounds_toArray,List.set_cons_zero,List.set_cons_succ]
  refine wpAnyH_done (by kernel_rfl) ?_ _
  refine QjG ?_
  have hx26:=HX6.out.trans hHeld
  have hB6:Blk w2 wr.heap.size 34 #[.int .u64 (id:Int)]:=HB6.out.ext hHeld
  have hz26:=hHeld.size
  have hA12:∀ b,b<w1.heap.size→w2.heap[b]? = w1.heap[b]?:=fun b hb=>(hx26.heap (by omega)).trans ((HST5.out.block b (by omega) (by omega)).trans (HX15.out.heap hb))
  have hcs2:CS w2 (In W0.heap.size w1.heap.size) s xs:=HCS.out.QoA fun b hb=>hA12 b hb.2
  have hrx:QnU xs:=by
   have:=QmI HOK.out.sorted HOK'.out.sorted
   rw [HCE.out,←HXS.out] at this
   exact List.pairwise_map.1 this
  have hxl:xs.length≤1000000:=by
   have:=congrArg List.length HXS.out
   rw [List.length_map] at this
   omega
  have HSQ:=Lib.hid (Qns (w0:=w2) hbs1 hbs2 hcs2 (fun b hb=>by have:=hb.2;omega) hxl (by omega) hrx)
  have hlb2:=hbs2.lt
  have hlb1:=hbs1.lt
  obtain ⟨s0,hC0,hblk0,hown0⟩:=HCO.out.ex
  have hC0l:∀ b,C0 b→b=w1.heap.size∨(w5.heap.size≤b∧b<wr.heap.size):=fun b hb=>by
   rw [hC0] at hb
   exact hb.imp (fun h=>h) fun h=>Qac hown0 h
  have HC0L:=Lib.hid hC0l
  have HCO2:=Lib.hid (HCO.out.more hx26 (fun b h=>.inl h) HCO.out.lt)
  have hev:evs.length≤100*1000000:=by
   have h1:=congrArg List.length HMAP.out
   have h2:=QiE ch (L.take k)
   rw [List.length_map] at h1
   rw [List.length_take] at h2
   have h3:min k L.length*ch.length≤100*1000000:=Nat.mul_le_mul (by omega) hcl
   omega
  have HX26:=Lib.hid hx26
  have HB62:=Lib.hid hB6
  have HA12:=Lib.hid hA12
  have hz6r:=hx26.size
  have hwz:W6.drew.heap.size=W6.heap.size:=rfl
  clear hHeld hbs1 hbs2 hcs2 hrx hx26 hB6 hA12 hC0l hC0 hblk0 hown0
  gi_wp2_with fail
  refine Qdo (gf:=69) (lb:=#[.pointer (some ⟨W6.heap.size,0,none⟩),.pointer (some ⟨W6.heap.size+1,0,none⟩)]) rfl (enters_of Tryz.func69 (by kernel_rfl) rfl) HSQ.out (Agree.refl _) (Nat.le_refl _)
   (fun b hb=>hb.elim (fun h=>by have:=h.2;omega) (fun h=>h.elim (fun h=>by omega) (fun h=>by omega))) (fun _=>rfl)
   (fun pre C W=>∃ ys:List EV,Qdf w5.heap.size w1.heap.size w5 (fun b=>N b∨b=w2.heap.size∨b=w2.heap.size+1) ys C W∧ys.map EV.p=evs.map EV.p++pre.map (fun x=>(id,x.c))∧St C0 w2 W∧∀ b,C b→C0 b∨w2.heap.size+2≤b) (fun _ _ _=>False) C0
   (fun b hb=>by
     have h1:=HC0L.out b hb
     exact ⟨by omega,fun h=>by rcases h with h | h | h
                               ·have:=h.2;omega
                               ·omega
                               omega⟩)
   (fun h k=>by obtain ⟨ys,h1,h2,h3,h4⟩:=h;exact ⟨ys,h1.turn k (fun b e=>.inr (.inr e)) (Nat.le_refl _),h2,h3.then k (fun i hi e=>by omega),h4⟩) (fun h k=>h)
   (fun W hW hz=>⟨evs,HCO2.out.more hW (fun b h=>h.elim .inl fun h=>.inr (by omega)) HCO2.out.lt,by simp,hW.st _,fun b hb=>.inl hb⟩) ?round ?done ?stop
  case stop=>
   rintro D c pre W hD hSp hX
   exact hX.elim
  case round=>
   rintro pre C x W0' W1' ⟨ys,hco,hmapy,hsty,hsub⟩ hlt hsz hnL hx01 hG
   have hco':=hco
   obtain ⟨⟨s9,rfl,hblk,hown⟩,-⟩:=hco'
   have hyl:ys.length=evs.length+pre.length:=by have:=congrArg List.length hmapy;simpa using this
   have hpl':pre.length<xs.length:=by
    have h1:=(List.getElem?_eq_some_iff.1 hG.at_).1
    have h2:=List.length_filter_le (fun x:CE=>Qbv x.c.k iv.lo iv.hi iv.op) xs
    exact Nat.lt_of_lt_of_le h1 h2
   have hb3:=Blk.new W1' 54 x.cells
   have hx3:Ext W1' (W1'.alloc (.cells x.cells 54)):=(Ext.refl W1').alloc _ _
   have HB3:=Lib.hid hb3
   have HX3:=Lib.hid hx3
   have HI:=Lib.hid hco
   have HMAPY:=Lib.hid hmapy
   have HBLK:=Lib.hid hblk
   have HOWN:=Lib.hid hown
   have HX01:=Lib.hid hx01
   have HSTY:=Lib.hid hsty
   have HSUB:=Lib.hid hsub
   have HXM:=Lib.hid hG.mem
   have heyl:ys.length<101*1000000:=by omega
   clear hyl hb3 hx3 hblk hown hco hmapy hx01 hG hlt hsty hsub
   dsimp only [Qjk]
   gi_wp2_with fail
   refine ⟨HX3.out,fun W3 k3=>?_⟩
   have hs1W:=HX01.out.size
   have h13:St (fun b=>b=w2.heap.size+1) W1' W3:=(HX3.out.st _).trans k3
   have h03:St (fun b=>b=w2.heap.size+1) W0' W3:=(HX01.out.st _).trans h13
   have hbv:=k3.blk HB3.out (by omega)
   have hrow0:∀ b,s9.row=some b→w5.heap.size≤b∧b<W0'.heap.size:=fun b hb=>Qac HOWN.out hb
   have hL3:=h03.blk HBLK.out (by omega)
   have cL:W3.cell? ⟨w1.heap.size,0,none⟩=some (.slice s9.a ys.length s9.c):=hL3.cell 0
   have fL:=hL3.frozen 0
   have lL:=hL3.lt
   have hs03:=h03.size
   have hs13:=h13.size
   have hst3:St (fun b=>C0 b∨b=w2.heap.size+1) w2 W3:=(HSTY.out.mono fun i _ hi=>.inl hi).trans (h03.mono fun i _ hi=>.inr hi)
   have hn3:∀ b,b<w1.heap.size→¬(C0 b∨b=w2.heap.size+1):=fun b hb e=>by
    rcases e with e | e
    ·have:=HC0L.out b e;omega
    omega
   have hA13:∀ b,b<w1.heap.size→W3.heap[b]? = w1.heap[b]?:=fun b hb=>(hst3.block b (by omega) (hn3 b hb)).trans (HA12.out b hb)
   have hbi:Blk W3 wr.heap.size 34 #[.int .u64 (id:Int)]:=hst3.blk HB62.out fun e=>by
    rcases e with e | e
    ·have:=HC0L.out _ e;omega
    omega
   have hbh:Blk W3 w.heap.size 33 #[.pointer q]:=(hA13 _ (by omega)).trans (HBH.out.ext HX1.out)
   have hbw:Blk W3 (w.heap.size+1) 33 #[.pointer p]:=(hA13 _ (by omega)).trans (HBW.out.ext HX1.out)
   have hAT:∀ W,Ext W3 W→∀ b,b<W0.heap.size→W.heap[b]? = W0.heap[b]?:=fun W hW b hb=>(hW.heap (by omega)).trans ((hA13 b (by omega)).trans (HX1.out.heap hb))
   have hmc:x.c∈chg (Qak T) (Qak U):=by rw [HCE.out,←HXS.out];exact List.mem_map_of_mem HXM.out
   have hag:∀ W,Ext W3 W→Calls Tryz.prog 49 #[x.agg,.agg #[.pointer p],.agg #[.pointer q]] W fun e w'=>∃ y:CE,e=.returned y.agg∧y.c=x.c∧Ext W w'∧CR w' (In W.heap.size w'.heap.size) y:=fun W hW=>by
    have hz:=hW.size
    have:=Qk3 (w:=W) (T:=T) (U:=U) (HT0.out.agree fun b hb=>hAT W hW b (by have:=(HF.out b hb).1;omega)) (HU0.out.agree fun b hb=>hAT W hW b (by have:=(HF'.out b hb).1;omega)) (fun b hb=>by have:=(HF.out b hb).1;omega) (fun b hb=>by have:=(HF'.out b hb).1;omega) HOK.out HOK'.out (by omega) (by omega)
     (Qlf HOK.out.sorted HOK'.out.sorted hmc) (QoB HOK.out.sorted HOK'.out.sorted hmc) (HCS.out.vals x HXM.out).key
    rw [QaC,QaC,HP.out,HQ.out] at this
    exact this
   have HAG:=Lib.hid hag
   have HSA:=Lib.hid (show ∀ W,Ext W3 W→QbD [W1'.heap.size,wr.heap.size,w.heap.size+1,w.heap.size] W3 W from fun W hW=>QbD.QoO hW fun b hb=>by
    have h0:=hbv.lt
    have h1:=hbi.lt
    have h2:=hbw.lt
    have h3:=hbh.lt
    simp only [List.mem_cons,List.not_mem_nil,or_false] at hb
    rcases hb with rfl | rfl | rfl | rfl <;> assumption)
   have HSS:=Lib.hid (fun (w':World) (h:QbD [W1'.heap.size,wr.heap.size,w.heap.size+1,w.heap.size] W3 w')=>(show _∧_ from QoU hbv hbi hbw hbh h))
   have H03:=Lib.hid h03
   have HOWN3:=Lib.hid (Qad HOWN.out h03.agree fun b hb=>⟨(hrow0 b hb).2,fun e=>by
    exact HI.out.dis b (.inr hb) (.inr (.inr e))⟩)
   have HL3:=Lib.hid hL3
   have hneL:s9.row≠some w1.heap.size:=fun e=>by have:=(hrow0 _ e).1;omega
   have hneS:∀ b∈[W1'.heap.size,wr.heap.size,w.heap.size+1,w.heap.size],s9.row≠some b:=fun b hb e=>by
    have h1:=hrow0 b e
    simp only [List.mem_cons,List.not_mem_nil,or_false] at hb
    rcases hb with rfl | rfl | rfl | rfl
    ·omega
    ·have h2:=HSUB.out _ (.inr e)
     rcases h2 with h2 | h2
     ·have:=HC0L.out _ h2;omega
     omega
    ·omega
    omega
   have hneB:∀ b∈[W1'.heap.size,wr.heap.size,w.heap.size+1,w.heap.size],¬b=w1.heap.size:=fun b hb=>by
    simp only [List.mem_cons,List.not_mem_nil,or_false] at hb
    rcases hb with rfl | rfl | rfl | rfl <;> omega
   have hltS:∀ W,Ext W3 W→∀ b∈[W1'.heap.size,wr.heap.size,w.heap.size+1,w.heap.size],b<W.heap.size:=fun W hW b hb=>by
    have hz:=hW.size
    have h0:=hbv.lt
    simp only [List.mem_cons,List.not_mem_nil,or_false] at hb
    rcases hb with rfl | rfl | rfl | rfl <;> omega
   have HNES:=Lib.hid hneS
   have HNEB:=Lib.hid hneB
   have HLTS:=Lib.hid hltS
   have h63:ys.length+1≤maxLen:=by unfold maxLen;omega
   have hby:(ys.length+1)*216≤140737488355328:=by omega
   clear k3 h03 h13 hbv hL3 hst3 hn3 hA13 hbi hbh hbw hAT hmc hag hneS hneB hltS
   gi_wp2_with fail
   refine QdW (f:=49) (enters_of Tryz.func49 (by kernel_rfl) rfl) (S:=(fun w'=>QbD [W1'.heap.size,wr.heap.size,w.heap.size+1,w.heap.size] W3 w')) (by kernel_rfl) (by rintro ⟨a,w,h⟩;exact h) (by kernel_rfl) ((HSA.out _ ((Ext.refl W3).drew))) (fun hHeld=>?_)
   refine Qab 1 (some 50) HSS hHeld ?_
   refine Qab 2 (some 51) HSS hHeld ?_
   refine Qab 3 (some 52) HSS hHeld ?_
   refine Qab 4 (some 53) HSS hHeld ?_
   refine QaL (i:=0) (j:=5) (by kernel_rfl) rfl rfl (by rfl) (by rfl) (fun K hK=>?_) (fun K hK=>?_)
   ·go_simp
    skip
    refine hK.out _ _ (hHeld) (fun hHeld=>?_)
    clear hK K
    try simp only [Act.put,List.setIfInBounds_toArray,List.set_cons_zero,List.set_cons_succ]
    refine Qaa (i:=5) (by kernel_rfl) rfl (by rfl) (fun K hK=>?_)
    go_simp
    (refine (HAG.out _ ((Ext.refl W3).drew)).mono ?_;rintro e w8 ⟨y,rfl,hyc,hx8,hcr8⟩;have H8:=Lib.hid (((Ext.refl W3).drew).trans hx8);have HCR8:=Lib.hid hcr8;have HYC:=Lib.hid hyc;have cL8:w8.cell? ⟨w1.heap.size,0,none⟩=some (.slice s9.a ys.length s9.c):=(HL3.out.ext H8.out).cell 0;have lL8:w1.heap.size<w8.heap.size:=(HL3.out.ext H8.out).lt;have hs8:=H8.out.size;clear hx8 hcr8 hyc)
    refine hK.out _ _ (HSA.out _ H8.out) (fun hHeld=>?_)
    clear hK K
    try simp only [Act.put,List.setIfInBounds_toArray,List.set_cons_zero,List.set_cons_succ]
    refine Qab 6 (some 55) HSS hHeld ?_
    refine Qaa (i:=7) (by kernel_rfl) rfl (by rfl) (fun K hK=>?_)
    go_simp
    skip
    refine hK.out _ _ (HSA.out _ (H8.out.alloc _ _)) (fun hHeld=>?_)
    clear hK K
    try simp only [Act.put,List.setIfInBounds_toArray,List.set_cons_zero,List.set_cons_succ]
    refine Qaa (i:=8) (by kernel_rfl) rfl (by rfl) (fun K hK=>?_)
    skip
    refine QaA _ (.tmp 49) (.tmp 56) 48 rfl w5.heap.size 56 i0 _ 16 216 Tryz.underlying48 hi hz0 hz1 hz2 rfl (by decide) s9 ys.length (QbG ys) (by rfl) (Qad (Qad HOWN3.out (H8.out.agree fun b (hb:b<W3.heap.size)=>hb) (fun b hb=>(Qac HOWN3.out hb).2)) (((Ext.refl w8).alloc (EV.cells ⟨id,y⟩) 56).agree fun b (hb:b<w8.heap.size)=>hb) (fun b hb=>(by have:=(hrow0 b hb).2;omega))) (fun b=>b=w8.heap.size) ⟨some ⟨w8.heap.size,0,none⟩,1⟩ 1 (EV.cells ⟨id,y⟩).toList (by rfl) (Rd.block (Blk.new w8 56 (EV.cells ⟨id,y⟩)) (by decide) rfl) (Qjn ⟨id,y⟩) h63 hby (by rw [World.size_alloc];omega) ?_;intro s3 w9 hown9 hwr9 hs9;have h9:=hwr9.cell0 (o:=0) ((Ext.refl w8).alloc (EV.cells ⟨id,y⟩) 56) hneL lL8;have cL9:w9.cell? ⟨w1.heap.size,0,none⟩=some (.slice s9.a ys.length s9.c):=h9.1.trans cL8;have lL9:=h9.2;have fL9:w9.frozen? ⟨w1.heap.size,0,none⟩=false:=(hwr9.fz _ _).trans ((((Ext.refl w8).alloc (EV.cells ⟨id,y⟩) 56).frozen (o:=0) lL8).trans ((H8.out.frozen (o:=0) lL).trans fL));have hS9:QbD [W1'.heap.size,wr.heap.size,w.heap.size+1,w.heap.size] W3 w9:=(HSA.out _ H8.out).wr hwr9 ((Ext.refl w8).alloc (EV.cells ⟨id,y⟩) 56) HNES.out (HLTS.out _ H8.out);have HO9:=Lib.hid hown9;have HW9:=Lib.hid hwr9;have HS9:=Lib.hid hs9;clear hown9 hwr9 hs9 h9
    refine hK.out _ _ (hS9) (fun hHeld=>?_)
    clear hK K
    try simp only [Act.put,List.setIfInBounds_toArray,List.set_cons_zero,List.set_cons_succ]
    refine Qaa (i:=9) (by kernel_rfl) rfl (by rfl) (fun K hK=>?_)
    go_simp
    skip
    refine hK.out _ _ (hS9.set HNEB.out) (fun hHeld=>?_)
    clear hK K
    try simp only [Act.put,List.setIfInBounds_toArray,List.set_cons_zero,List.set_cons_succ]
    refine wpAnyH_done (by kernel_rfl) ?_ _
    gi_wp2_with fail
    have hdz:W3.drew.heap.size=W3.heap.size:=rfl
    obtain ⟨e1,e2,e3,e4⟩:=Qfi (w:=w5) (W3:=w8) (x:=⟨id,y⟩) (M:=fun b=>b=w2.heap.size+1) (Nat.le_refl _) hz15 HI.out HBLK.out HOWN.out (H03.out.trans (H8.out.st _)) (fun b e=>.inr (.inr e)) (HCR8.out.mono fun b hb=>⟨by have:=hb.1;omega,hb.2,fun e=>(by have h1:=hb.1;exact e.elim (fun e=>by omega) (fun e=>by have:=(hrow0 b e).2;omega)),fun e=>by have:=HI.out.nlt b e;have:=hb.1;omega⟩) ((Ext.refl w8).alloc (EV.cells ⟨id,y⟩) 56) HO9.out HW9.out HS9.out
    refine ⟨_,⟨ys++[⟨id,y⟩],e1,by rw [List.map_append,List.map_append,HMAPY.out,List.append_assoc];show _++(_++[(id,y.c)])=_++(_++[(id,x.c)]);rw [HYC.out],(HSTY.out.then ((H03.out.trans (H8.out.st _))) (fun i hi e=>by omega)).then e2 (fun i hi e=>(HSUB.out i e).elim (fun e=>e) (fun e=>by omega)),fun b hb=>(e3 b hb).elim (HSUB.out b) fun h=>.inr (by omega)⟩,?_,?_,e4⟩
    ·exact (H8.out.st _).trans e2
    exact fun b hb=>(e3 b hb).imp (fun h=>h) fun h=>by omega
   go_simp
   (refine (HAG.out _ ((Ext.refl W3).drew)).mono ?_;rintro e w8 ⟨y,rfl,hyc,hx8,hcr8⟩;have H8:=Lib.hid (((Ext.refl W3).drew).trans hx8);have HCR8:=Lib.hid hcr8;have HYC:=Lib.hid hyc;have cL8:w8.cell? ⟨w1.heap.size,0,none⟩=some (.slice s9.a ys.length s9.c):=(HL3.out.ext H8.out).cell 0;have lL8:w1.heap.size<w8.heap.size:=(HL3.out.ext H8.out).lt;have hs8:=H8.out.size;clear hx8 hcr8 hyc)
   refine hK.out _ _ (HSA.out _ H8.out) (fun hHeld=>?_)
   clear hK K
   try simp only [Act.put,List.setIfInBounds_toArray,List.set_cons_zero,List.set_cons_succ]
   refine Qab 6 (some 55) HSS hHeld ?_
   refine QaL (i:=0) (j:=7) (by kernel_rfl) rfl rfl (by rfl) (by rfl) (fun K hK=>?_) (fun K hK=>?_)
   ·go_simp
    skip
    refine hK.out _ _ (hHeld) (fun hHeld=>?_)
    clear hK K
    try simp only [Act.put,List.setIfInBounds_toArray,List.set_cons_zero,List.set_cons_succ]
    refine Qaa (i:=7) (by kernel_rfl) rfl (by rfl) (fun K hK=>?_)
    go_simp
    skip
    refine hK.out _ _ (HSA.out _ (H8.out.alloc _ _)) (fun hHeld=>?_)
    clear hK K
    try simp only [Act.put,List.setIfInBounds_toArray,List.set_cons_zero,List.set_cons_succ]
    refine Qaa (i:=8) (by kernel_rfl) rfl (by rfl) (fun K hK=>?_)
    skip
    refine QaA _ (.tmp 49) (.tmp 56) 48 rfl w5.heap.size 56 i0 _ 16 216 Tryz.underlying48 hi hz0 hz1 hz2 rfl (by decide) s9 ys.length (QbG ys) (by rfl) (Qad (Qad HOWN3.out (H8.out.agree fun b (hb:b<W3.heap.size)=>hb) (fun b hb=>(Qac HOWN3.out hb).2)) (((Ext.refl w8).alloc (EV.cells ⟨id,y⟩) 56).agree fun b (hb:b<w8.heap.size)=>hb) (fun b hb=>(by have:=(hrow0 b hb).2;omega))) (fun b=>b=w8.heap.size) ⟨some ⟨w8.heap.size,0,none⟩,1⟩ 1 (EV.cells ⟨id,y⟩).toList (by rfl) (Rd.block (Blk.new w8 56 (EV.cells ⟨id,y⟩)) (by decide) rfl) (Qjn ⟨id,y⟩) h63 hby (by rw [World.size_alloc];omega) ?_;intro s3 w9 hown9 hwr9 hs9;have h9:=hwr9.cell0 (o:=0) ((Ext.refl w8).alloc (EV.cells ⟨id,y⟩) 56) hneL lL8;have cL9:w9.cell? ⟨w1.heap.size,0,none⟩=some (.slice s9.a ys.length s9.c):=h9.1.trans cL8;have lL9:=h9.2;have fL9:w9.frozen? ⟨w1.heap.size,0,none⟩=false:=(hwr9.fz _ _).trans ((((Ext.refl w8).alloc (EV.cells ⟨id,y⟩) 56).frozen (o:=0) lL8).trans ((H8.out.frozen (o:=0) lL).trans fL));have hS9:QbD [W1'.heap.size,wr.heap.size,w.heap.size+1,w.heap.size] W3 w9:=(HSA.out _ H8.out).wr hwr9 ((Ext.refl w8).alloc (EV.cells ⟨id,y⟩) 56) HNES.out (HLTS.out _ H8.out);have HO9:=Lib.hid hown9;have HW9:=Lib.hid hwr9;have HS9:=Lib.hid hs9;clear hown9 hwr9 hs9 h9
    refine hK.out _ _ (hS9) (fun hHeld=>?_)
    clear hK K
    try simp only [Act.put,List.setIfInBounds_toArray,List.set_cons_zero,List.set_cons_succ]
    refine Qaa (i:=9) (by kernel_rfl) rfl (by rfl) (fun K hK=>?_)
    go_simp
    skip
    refine hK.out _ _ (hS9.set HNEB.out) (fun hHeld=>?_)
    clear hK K
    try simp only [Act.put,List.setIfInBounds_toArray,List.set_cons_zero,List.set_cons_succ]
    refine wpAnyH_done (by kernel_rfl) ?_ _
    gi_wp2_with fail
    have hdz:W3.drew.heap.size=W3.heap.size:=rfl
    obtain ⟨e1,e2,e3,e4⟩:=Qfi (w:=w5) (W3:=w8) (x:=⟨id,y⟩) (M:=fun b=>b=w2.heap.size+1) (Nat.le_refl _) hz15 HI.out HBLK.out HOWN.out (H03.out.trans (H8.out.st _)) (fun b e=>.inr (.inr e)) (HCR8.out.mono fun b hb=>⟨by have:=hb.1;omega,hb.2,fun e=>(by have h1:=hb.1;exact e.elim (fun e=>by omega) (fun e=>by have:=(hrow0 b e).2;omega)),fun e=>by have:=HI.out.nlt b e;have:=hb.1;omega⟩) ((Ext.refl w8).alloc (EV.cells ⟨id,y⟩) 56) HO9.out HW9.out HS9.out
    refine ⟨_,⟨ys++[⟨id,y⟩],e1,by rw [List.map_append,List.map_append,HMAPY.out,List.append_assoc];show _++(_++[(id,y.c)])=_++(_++[(id,x.c)]);rw [HYC.out],(HSTY.out.then ((H03.out.trans (H8.out.st _))) (fun i hi e=>by omega)).then e2 (fun i hi e=>(HSUB.out i e).elim (fun e=>e) (fun e=>by omega)),fun b hb=>(e3 b hb).elim (HSUB.out b) fun h=>.inr (by omega)⟩,?_,?_,e4⟩
    ·exact (H8.out.st _).trans e2
    exact fun b hb=>(e3 b hb).imp (fun h=>h) fun h=>by omega
   go_simp
   skip
   refine hK.out _ _ (HSA.out _ (H8.out.alloc _ _)) (fun hHeld=>?_)
   clear hK K
   try simp only [Act.put,List.setIfInBounds_toArray,List.set_cons_zero,List.set_cons_succ]
   refine Qaa (i:=0) (by kernel_rfl) rfl (by rfl) (fun K hK=>?_)
   go_simp
   skip
   refine hK.out _ _ (hHeld) (fun hHeld=>?_)
   clear hK K
   try simp only [Act.put,List.setIfInBounds_toArray,List.set_cons_zero,List.set_cons_succ]
   refine Qaa (i:=8) (by kernel_rfl) rfl (by rfl) (fun K hK=>?_)
   skip
   refine QaA _ (.tmp 49) (.tmp 56) 48 rfl w5.heap.size 56 i0 _ 16 216 Tryz.underlying48 hi hz0 hz1 hz2 rfl (by decide) s9 ys.length (QbG ys) (by rfl) (Qad (Qad HOWN3.out (H8.out.agree fun b (hb:b<W3.heap.size)=>hb) (fun b hb=>(Qac HOWN3.out hb).2)) (((Ext.refl w8).alloc (EV.cells ⟨id,y⟩) 56).agree fun b (hb:b<w8.heap.size)=>hb) (fun b hb=>(by have:=(hrow0 b hb).2;omega))) (fun b=>b=w8.heap.size) ⟨some ⟨w8.heap.size,0,none⟩,1⟩ 1 (EV.cells ⟨id,y⟩).toList (by rfl) (Rd.block (Blk.new w8 56 (EV.cells ⟨id,y⟩)) (by decide) rfl) (Qjn ⟨id,y⟩) h63 hby (by rw [World.size_alloc];omega) ?_;intro s3 w9 hown9 hwr9 hs9;have h9:=hwr9.cell0 (o:=0) ((Ext.refl w8).alloc (EV.cells ⟨id,y⟩) 56) hneL lL8;have cL9:w9.cell? ⟨w1.heap.size,0,none⟩=some (.slice s9.a ys.length s9.c):=h9.1.trans cL8;have lL9:=h9.2;have fL9:w9.frozen? ⟨w1.heap.size,0,none⟩=false:=(hwr9.fz _ _).trans ((((Ext.refl w8).alloc (EV.cells ⟨id,y⟩) 56).frozen (o:=0) lL8).trans ((H8.out.frozen (o:=0) lL).trans fL));have hS9:QbD [W1'.heap.size,wr.heap.size,w.heap.size+1,w.heap.size] W3 w9:=(HSA.out _ H8.out).wr hwr9 ((Ext.refl w8).alloc (EV.cells ⟨id,y⟩) 56) HNES.out (HLTS.out _ H8.out);have HO9:=Lib.hid hown9;have HW9:=Lib.hid hwr9;have HS9:=Lib.hid hs9;clear hown9 hwr9 hs9 h9
   refine hK.out _ _ (hS9) (fun hHeld=>?_)
   clear hK K
   try simp only [Act.put,List.setIfInBounds_toArray,List.set_cons_zero,List.set_cons_succ]
   refine Qaa (i:=9) (by kernel_rfl) rfl (by rfl) (fun K hK=>?_)
   go_simp
   skip
   refine hK.out _ _ (hS9.set HNEB.out) (fun hHeld=>?_)
   clear hK K
   try simp only [Act.put,List.setIfInBounds_toArray,List.set_cons_zero,List.set_cons_succ]
   refine wpAnyH_done (by kernel_rfl) ?_ _
   gi_wp2_with fail
   have hdz:W3.drew.heap.size=W3.heap.size:=rfl
   obtain ⟨e1,e2,e3,e4⟩:=Qfi (w:=w5) (W3:=w8) (x:=⟨id,y⟩) (M:=fun b=>b=w2.heap.size+1) (Nat.le_refl _) hz15 HI.out HBLK.out HOWN.out (H03.out.trans (H8.out.st _)) (fun b e=>.inr (.inr e)) (HCR8.out.mono fun b hb=>⟨by have:=hb.1;omega,hb.2,fun e=>(by have h1:=hb.1;exact e.elim (fun e=>by omega) (fun e=>by have:=(hrow0 b e).2;omega)),fun e=>by have:=HI.out.nlt b e;have:=hb.1;omega⟩) ((Ext.refl w8).alloc (EV.cells ⟨id,y⟩) 56) HO9.out HW9.out HS9.out
   refine ⟨_,⟨ys++[⟨id,y⟩],e1,by rw [List.map_append,List.map_append,HMAPY.out,List.append_assoc];show _++(_++[(id,y.c)])=_++(_++[(id,x.c)]);rw [HYC.out],(HSTY.out.then ((H03.out.trans (H8.out.st _))) (fun i hi e=>by omega)).then e2 (fun i hi e=>(HSUB.out i e).elim (fun e=>e) (fun e=>by omega)),fun b hb=>(e3 b hb).elim (HSUB.out b) fun h=>.inr (by omega)⟩,?_,?_,e4⟩
   ·exact (H8.out.st _).trans e2
   exact fun b hb=>(e3 b hb).imp (fun h=>h) fun h=>by omega
  rintro D zs C W5 hD hS ⟨ys,hco,hmapy,hsty,hsub⟩ hDk
  have hmapn:ys.map EV.p=evL (L.take (k+1)) ch:=by
   rw [hmapy,HMAP.out,QmQ HPK.out]
   congr 1
   have hz:zs=QcA iv xs:=hS
   have:=Qmd iv xs
   rw [HXS.out] at this
   rw [hz,←this,List.map_map];rfl
  have hnew:Qpg w5.heap.size w1.heap.size w5 L ch (k+1) (D :: ds) W5:=by
   refine ⟨⟨_,C,ys,hco,hmapn,fun d hd=>?_⟩,List.nodup_cons.2 ⟨fun hd=>?_,HND.out⟩,hk⟩
   ·rcases List.mem_cons.1 hd with rfl | hd
    ·exact ⟨.inr (.inl hD),hDk⟩
    obtain ⟨h1,h2⟩:=HDS.out d hd
    have h3:=HCO.out.nlt d h1
    exact ⟨.inl h1,(hsty.block d (by omega) (fun e=>HCO.out.dis d e h1)).trans ((HX26.out.heap h3).trans h2)⟩
   have:=HCO.out.nlt D (HDS.out D hd).1;omega
  have HNEW:=Lib.hid hnew
  clear hco hmapy hsty hsub hDk hmapn hnew hS
  gi_wp2_with fail
  refine Handed.intro (L.length - (k+1)) (by omega) (hJ _ _ _ ?_)
  refine ⟨k+1,D :: ds,?_⟩
  iterate 13 apply Exists.intro
  refine ⟨rfl,HNEW,hk,?_⟩
  rw [show ((k+1:Nat):Int)=(k:Int)+1 from by omega]
  rfl
 obtain rfl:k=L.length:=by omega
 obtain ⟨⟨N,C0,evs,hco,hmap,hds⟩,hnd,-⟩:=HO.out
 have hkk:¬(L.length:Int)<(L.length:Int):=by omega
 obtain ⟨s9,rfl,hblk,hown⟩:=hco.ex
 have cL:wr.cell? ⟨w1.heap.size,0,none⟩=some (.slice s9.a evs.length s9.c):=hblk.cell 0
 have lL:=hblk.lt
 have HCO:=Lib.hid hco
 have HMAP:=Lib.hid hmap
 have HDS:=Lib.hid hds
 have HND:=Lib.hid hnd
 have HOWN:=Lib.hid hown
 clear hco hmap hds hnd hblk hown HO
 gi_wp2_with fail
 refine Qgq ds wr HND.out (fun d hd=>(HDS.out d hd).2) (fun W' hW'=>?_)
 have hdl:∀ d,d∈ds→w5.heap.size≤d:=fun d hd=>HCO.out.nlo d (HDS.out d hd).1
 have hstw:St (fun b=>b=R) w wr:=(HST0.out.ext HX5.out).then HCO.out.st fun i hi e=>by omega
 have hzw:=hstw.size
 have hz5r:=HCO.out.st.size
 have hrowE:∀ b,s9.row=some b→w5.heap.size≤b∧b<wr.heap.size:=fun b hb=>Qac HOWN.out hb
 refine ⟨.slice s9.a evs.length s9.c,by simp [results,Tryz.f18,go_sem],s9,evs,rfl,?_,?_,?_,?_⟩
 ·rw [HCE.out,HMAP.out,List.take_of_length_le (Nat.le_refl _)]
 ·refine (HREG5.out.sb HCO.out.st.sb fun b hb e=>?_).sb hW'.sb fun b hb hd=>?_
  ·have:=HRB.out b hb;omega
  have:=HRB.out b hb;have:=hdl b hd;omega
 ·exact hstw.then hW' fun i hi hd=>by have:=hdl i hd;omega
 have hag:Agree (fun b=>b<wr.heap.size∧¬N b) wr W':=fun b hb=>hW'.block b hb.1 fun hd=>hb.2 (HDS.out b hd).1
 have hzW:=hW'.size
 refine ⟨?_,fun x hx=>?_,?_⟩
 ·have ho:=Qad HOWN.out hag fun b hb=>⟨(hrowE b hb).2,fun hN=>HCO.out.dis b (.inr hb) hN⟩
  exact (Rd.Qav ho).mono fun b hb=>⟨by have:=hb.1;omega,hb.2⟩
 ·exact ((HCO.out.vals x hx).agree (hag.mono fun b hb=>⟨hb.2.1,hb.2.2.2⟩)).mono fun b hb=>⟨by have:=hb.1;omega,by have:=hb.2.1;omega⟩
 have h1:=congrArg List.length HMAP.out
 have h2:=QiE ch (L.take L.length)
 rw [List.length_map] at h1
 rw [List.length_take] at h2
 have h3:min L.length L.length*ch.length≤100*1000000:=Nat.mul_le_mul (by omega) hcl
 omega
end Go.Proofs.YtohajcflklejjaaGreat
namespace Go.Proofs.YtohajcflklejjaaGreat
open Go.RowKit Go.Maps
set_option linter.unusedVariables false
set_option linter.unusedSimpArgs false
theorem QiV {d:Array Nat} {ids:List Nat} (hp:d.toList.Perm ids) (hr:ids.Pairwise (·<·)) (hs:∀ i j,i<j→j<d.size→d[i]!≤d[j]!):d.toList=ids:=by
 refine List.Perm.eq_of_pairwise (le:=fun a b=>a≤b) (fun a b _ _=>Nat.le_antisymm) ?_ (hr.imp Nat.le_of_lt) hp
 rw [List.pairwise_iff_getElem]
 intro i j hi hj hij
 have hi':i<d.size:=by simpa using hi
 have hj':j<d.size:=by simpa using hj
 have:=hs i j hij hj'
 rw [getElem!_pos d j hj',getElem!_pos d i hi'] at this
 simpa using this
theorem Qm4 (w:World) (a:Option Addr) (c:Nat):Calls Tryz.prog 131 #[.slice a 0 c,.int .i64 0,.int .i64 0] w fun e w'=>e=.returned (.tuple #[])∧w=w':=by
 go_enter Tryz.func131,Tryz.ntmps131
 go_wp2_with fail
 go_loopw [6] (fun i wr=>i=.int .i64 1∧wr=w) (fun _ _=>0)
 case atStart=>exact ⟨rfl,rfl⟩
 obtain ⟨rfl,rfl⟩:=hrel
 go_wp2_with fail
 go_end0
 exact ⟨rfl,rfl⟩
theorem Qne (w:World) (a:Option Addr) (c:Nat) (l:Int):Calls Tryz.prog 109 #[.slice a 0 c,.int .i64 0,.int .i64 0,.int .i64 l] w fun e w'=>e=.returned (.tuple #[])∧w=w':=by
 have hc:=fun W=>Qm4 W a c
 go_enter Tryz.func109,Tryz.ntmps109
 go_wp2_with fail
 go_loopw [1,2,3,8,9] (fun a b q x y wr=>a=.int .i64 0∧b=.int .i64 0∧wr=w) (fun _ _ _ _ _ _=>0)
 case atStart=>exact ⟨rfl,rfl,rfl⟩
 obtain ⟨rfl,rfl,rfl⟩:=hrel
 go_wp2_with fail
 refine (hc _).mono ?_
 rintro e w1 ⟨rfl,rfl⟩
 go_wp2_with fail
 refine bodyPost_ret (v:=.tuple #[]) (by simp [results,Tryz.results109,go_sem]) rfl ?_
 exact ⟨rfl,rfl⟩
theorem Qmg (w:World) (a:Option Addr) (c:Nat):Calls Tryz.prog 82 #[.slice a 0 c] w fun e w'=>e=.returned (.tuple #[])∧w=w':=by
 have hb:=fun W=>Qdx W 0 (by omega)
 have hc:=fun W l=>Qne W a c l
 go_enter Tryz.func82,Tryz.ntmps82
 go_wp2_with fail
 refine (hb _).mono ?_
 rintro e w1 ⟨⟨l,rfl⟩,rfl⟩
 go_wp2_with fail
 refine (hc _ l).mono ?_
 rintro e w2 ⟨rfl,rfl⟩
 go_wp2_with fail
 go_end0
 exact ⟨rfl,rfl⟩
theorem Qgy {w:World} {gf:Nat} {lb:Array Value} {K:Nat→Prop} {ids:List Nat} (hn:ids.length≤255) (hr:ids.Pairwise (·<·)) (eg:∀ args w,(callFunc gf args).run Tryz.prog w=.ok (.enter gf args) w)
  (hseq:∀ W,Ext w W→Qhm Tryz.prog gf lb Qn4 K (fun _ pre _ _ _=>pre.length<ids.length) (fun xs=>xs.Perm ids) (fun _=>True) W) (hK:∀ b,K b→b<w.heap.size) :
  Calls Tryz.prog 52 #[.func (.func gf) #[] lb] w fun e w'=>∃ (s:Sl),e=.returned (.slice s.a ids.length s.c)∧w'.ownsRow w.heap.size 34 1 (.slice s.a ids.length s.c) ids.length (ids.map Qcj)∧Ext w w':=by
 have hc:=Qfj (by omega) eg hseq hK
 have HI:=Lib.hid hr
 have HN:=Lib.hid hn
 clear hseq hK hr hn
 go_enter Tryz.func52,Tryz.ntmps52
 go_wp2_with fail
 refine hc.mono ?_
 rintro e w1 ⟨⟨sa,scp⟩,xs,rfl,hS,ho,hx⟩
 have hl:xs.length=ids.length:=hS.length_eq
 dsimp only at ho ⊢
 rcases Nat.eq_zero_or_pos ids.length with h0 | h0
 ·obtain rfl:ids=[]:=List.eq_nil_of_length_eq_zero h0
  obtain rfl:xs=[]:=List.eq_nil_of_length_eq_zero hl
  have HX:=Lib.hid hx
  have HO:=Lib.hid ho
  clear hS ho hx hc hl h0
  dsimp only [List.length_nil]
  go_wp2_with fail
  refine (Qmg _ sa scp).mono ?_
  rintro e w2 ⟨rfl,rfl⟩
  go_wp2_with fail
  go_ret
  exact ⟨⟨sa,scp⟩,rfl,HO.out,HX.out⟩
 obtain ⟨g,hga,hgb,hcm,hrow⟩:=Qdn (s:=⟨sa,scp⟩) ho (by omega)
 dsimp only at hga hcm hrow
 subst hga
 have hsz:xs.toArray.size=xs.length:=by simp
 have hso:=Qmf hrow (by rw [hsz];have:=HN.out;omega) hcm
 rw [hsz] at hso
 have HX:=Lib.hid hx
 have HL:=Lib.hid hl
 have HS:=Lib.hid hS
 clear hS ho hx hc hrow hsz hl
 go_wp2_with fail
 refine hso.mono ?_
 rintro e w2 ⟨rfl,d',hr2,hp,hs,hst⟩
 have hids:=QiV (by simpa using hp.trans (List.Perm.of_eq (by simp)) |>.trans HS.out) HI.out hs
 have HR2:=Lib.hid hr2
 have HST:=Lib.hid hst
 have HID:=Lib.hid hids
 clear hso hr2 hst hp hs hids
 go_wp2_with fail
 go_ret
 have ho:=QfC HR2.out hgb hcm
 have hds:d'.size=ids.length:=by rw [←Array.length_toList,HID.out]
 rw [HID.out,hds] at ho
 rw [HL.out]
 exact ⟨⟨some ⟨g,0,none⟩,scp⟩,rfl,ho,HX.out.step HST.out fun b e=>by omega⟩
end Go.Proofs.YtohajcflklejjaaGreat
namespace Go.Proofs.YtohajcflklejjaaGreat
open Go.RowKit
set_option linter.unusedVariables false
set_option linter.unusedSimpArgs false
section
variable {H : Type} {enc : TypeId × Value → H} {w : World} {held : Bool}
theorem Qeq:Tryz.prog.cellsOf 24=4:=by kernel_rfl
theorem Qly {cs:List Value} (h:cs.length=4):∃ a b c d,cs=[a,b,c,d]:=by
 match cs,h with
 | [a,b,c,d],_=>exact ⟨_,_,_,_,rfl⟩
theorem Qha {fuel:Nat} {cs:List Value} {x:DataW H × List MemPlace} (h:tr enc Tryz.prog w held fuel 24 cs=some x) (hw:WOk Tryz.prog 24 x.1):∃ q:Qy,cs=[.int .i64 q.kind,.string q.lo,.string q.hi,.bool q.op]∧q.short:=by
 obtain ⟨n,rfl,hl,hf⟩:=QcE Tryz.underlying24 h hw
 rw [Qeq] at hl
 obtain ⟨c0,c1,c2,c3,rfl⟩:=Qly hl
 obtain ⟨y0,h0,w0⟩:=hf 0 _ rfl
 obtain ⟨y1,h1,w1⟩:=hf 1 _ rfl
 obtain ⟨y2,h2,w2⟩:=hf 2 _ rfl
 obtain ⟨y3,h3,w3⟩:=hf 3 _ rfl
 dsimp only at h0 h1 h2 h3
 rw [show Tryz.prog.cellsOf _=1 from by kernel_rfl] at h0 h1 h2 h3
 obtain ⟨kd,k0,-⟩:=Qim (by kernel_rfl) h0
 obtain ⟨lo,k1,hlo⟩:=QgD (by kernel_rfl) h1
 obtain ⟨hi,k2,hhi⟩:=QgD (by kernel_rfl) h2
 obtain ⟨op,k3⟩:=QnL (by kernel_rfl) h3
 have e0:c0=.int .i64 kd:=by simpa using k0
 have e1:c1=.string lo:=by simpa using k1
 have e2:c2=.string hi:=by simpa using k2
 have e3:c3=.bool op:=by simpa using k3
 subst e0 e1 e2 e3
 exact ⟨⟨kd,lo,hi,op⟩,rfl,hlo,hhi⟩
end
section
variable {H : Type} {enc : TypeId × Value → H} {w : World} {held : Bool}
instance : Inhabited Qy := ⟨⟨0, ByteArray.empty, ByteArray.empty, false⟩⟩
end
abbrev QBs:=List (Qy × Bool)
abbrev QbC (p:Qy × Bool):List Value:=[.int .i64 p.1.kind,.string p.1.lo,.string p.1.hi,.bool p.1.op,.bool p.2]
theorem QiG (x:Nat):∀ u∈[Qcj x],u.oneCell'=true:=by simp [Qcj,Value.oneCell']
def QdD (B:QBs):List Value:=B.flatMap QbC
theorem Qka (B:QBs) (x:Qy × Bool):QdD (B++[x])=QdD B++QbC x:=by simp [QdD]
theorem Qjp:∀ {B:QBs} {i:Nat} {p:Qy × Bool},B[i]? = some p→∀ c u,(QbC p)[c]? = some u→(QdD B)[i*5+c]? = some u
 | [],i,p,h,_,_,_=>by simp at h
 | x :: xs,0,p,h,c,u,hu=>by
   obtain rfl:x=p:=by simpa using h
   have hc:c<5:=(List.getElem?_eq_some_iff.1 hu).1
   show (QbC x++QdD xs)[0*5+c]? = _
   rw [List.getElem?_append_left (by simp;omega),Nat.zero_mul,Nat.zero_add];exact hu
 | x :: xs,i+1,p,h,c,u,hu=>by
   have:=Qjp (B:=xs) (i:=i) (by simpa using h) c u hu
   show (QbC x++QdD xs)[(i+1)*5+c]? = _
   rw [List.getElem?_append_right (by simp;omega),←this]
   congr 1
   simp;omega
theorem QhI:∀ {B:QBs} {i:Nat} {p:Qy × Bool},B[i]? = some p→∀ b:Bool,(QdD B).set (i*5+4) (.bool b)=QdD (B.set i (p.1,b))
 | [],i,p,h,_=>by simp at h
 | x :: xs,0,p,h,b=>by
   obtain rfl:x=p:=by simpa using h
   rfl
 | x :: xs,i+1,p,h,b=>by
   have ih:=QhI (B:=xs) (i:=i) (p:=p) (by simpa using h) b
   show (QbC x++QdD xs).set ((i+1)*5+4) _=QbC x++QdD (xs.set i (p.1,b))
   rw [←ih,List.set_append_right _ _ (by simp;omega)]
   congr 2
   simp;omega
structure Qdv (w:World) (base Q M:Nat) (s:Sl) (B:QBs):Prop where
 blk:Blk w Q 95 #[.pointer (some ⟨M,0,none⟩),.slice s.a B.length s.c]
 own:w.ownsRow base 134 5 (.slice s.a B.length s.c) B.length (QdD B)
 short:∀ p∈B,p.1.short
theorem Qdv.ext {w w':World} {base Q M:Nat} {s:Sl} {B:QBs} (h:Qdv w base Q M s B) (k:Ext w w'):Qdv w' base Q M s B:=
 ⟨h.blk.ext k,Qad h.own (k.agree fun b (hb:b<w.heap.size)=>hb) fun b hb=>(Qac h.own hb).2,h.short⟩
theorem Qdv.at {w:World} {base Q M:Nat} {s:Sl} {B:QBs} (h:Qdv w base Q M s B) {i:Nat} {p:Qy × Bool} (hp:B[i]? = some p) :
  ∃ g cap,s=⟨some ⟨g,0,none⟩,cap⟩∧base≤g∧g<w.heap.size∧B.length≤cap∧cap≤maxLen∧∀ c u,(QbC p)[c]? = some u→w.cell? ⟨g,i*5+c,none⟩=some u:=by
 have hi:=(List.getElem?_eq_some_iff.1 hp).1
 obtain ⟨g,cap,rfl,hbg,hn,hc,hf⟩:=Qat h.own (by omega)
 obtain ⟨b,o,h1,-,h3⟩:=Rd.Qav h.own
 obtain ⟨e1,-,-⟩:=h1.eq (by omega)
 injection e1 with e1
 injection e1 with e1 e2
 subst e1 e2
 exact ⟨_,cap,rfl,hbg,hf.lt,hn,hc,fun c u hu=>by have:=h3 _ _ (Qjp hp c u hu);rwa [Nat.zero_add] at this⟩
def hasB (B:QBs):Nat→Bool
 | 0=>false
 | i+1=>(B[i]?).any (·.2)
theorem Qey {w:World} {base Q M:Nat} {s:Sl} {B:QBs} (h:Qdv w base Q M s B) (hB:B.length≤1000000) {id:Nat} (hid:id≤18446744073709551615) :
  Calls Tryz.prog 62 #[.pointer (some ⟨Q,0,none⟩),.int .u64 (id:Int)] w fun e w'=>e=.returned (.bool (hasB B id))∧Ext w w':=by
 have c1:w.cell? ⟨Q,1,none⟩=some (.slice s.a B.length s.c):=h.blk.cell 1
 have lQ:=h.blk.lt
 have HH:=Lib.hid h
 clear h
 have hwl:IntKind.u64.wrap (B.length:Int)=(B.length:Int):=by rw [IntKind.wrap_u64];omega
 rcases Nat.eq_zero_or_pos id with h0 | h0
 ·subst h0
  have g0:decide ((1:Int)≤((0:Nat):Int))=false:=by simp
  go_enter Tryz.func62,Tryz.ntmps62
  go_wp2_with fail
  go_ret
  exact ⟨rfl,Ext.refl _⟩
 obtain ⟨i,rfl⟩:∃ i,id=i+1:=⟨id - 1,by omega⟩
 have hb:hasB B (i+1)=(B[i]?).any (·.2):=rfl
 rw [hb]
 have g0:(1:Int)≤((i+1:Nat):Int):=by omega
 have g0':(1:Int)≤(i:Int)+1:=by omega
 by_cases hi:i<B.length
 ·have hp:=List.getElem?_eq_getElem hi
  obtain ⟨p,hpe⟩:∃ p,B[i]=p:=⟨_,rfl⟩
  rw [hpe] at hp
  rw [hp]
  obtain ⟨g,cap,rfl,hbg,lg,hn,hc,hcells⟩:=HH.out.at hp
  have d4:w.cell? ⟨g,i*5+4,none⟩=some (.bool p.2):=hcells 4 _ rfl
  have g1:(i:Int)+1≤(B.length:Int):=by omega
  have g2:(0:Int)≤(i:Int):=by omega
  have g3:(i:Int)<(B.length:Int):=by omega
  have hw1:IntKind.i64.wrap ((i:Int)+1)=(i:Int)+1:=by rw [IntKind.wrap_i64];omega
  clear hpe hcells hp
  go_enter Tryz.func62,Tryz.ntmps62
  go_wp2_with fail
  go_ret
  exact ⟨rfl,Ext.refl _⟩
 have g1:¬(i:Int)+1≤(B.length:Int):=by omega
 rw [List.getElem?_eq_none (by omega)]
 go_enter Tryz.func62,Tryz.ntmps62
 go_wp2_with fail
 go_ret
 exact ⟨rfl,Ext.refl _⟩
theorem Qnd {w:World} {base e n g cap sz:Nat} {xs:List Value} (h:w.ownsRow base e sz (.slice (some ⟨g,0,none⟩) n cap) n xs) {i:Nat} (hi:i<n*sz) (u:Value):(w.setCell ⟨g,i,none⟩ u).ownsRow base e sz (.slice (some ⟨g,0,none⟩) n cap) n (xs.set i u):=by
 rcases h.2 with ⟨hv,h0⟩ | ⟨g',cap',cur,hv,hbg,hg,hnc,hcm,hcs,ht⟩
 ·subst h0;omega
 simp only [Value.slice.injEq,Option.some.injEq,Addr.mk.injEq,and_true,true_and] at hv
 obtain ⟨rfl,rfl⟩:=hv
 refine ⟨by rw [List.length_set];exact h.1,.inr ⟨g,cap,cur.setIfInBounds i u,rfl,hbg,Blk.QaN (show Blk w g e cur from hg) i u,hnc,hcm,by rw [Array.size_setIfInBounds];exact hcs,?_⟩⟩
 rw [Array.toList_setIfInBounds,List.take_set,ht]
theorem Qdv.ne {w:World} {base Q M:Nat} {s:Sl} {B:QBs} (h:Qdv w base Q M s B):¬s.row=some Q:=QbW h.own h.blk (by decide)
def Qd1 (B:QBs) (id:Nat):QBs:=match B[id - 1]? with
 | some p=>B.set (id - 1) (p.1,false)
 | none=>B
theorem QdC (B:QBs) (id:Nat):(Qd1 B id).length=B.length:=by
 unfold Qd1
 split
 ·rw [List.length_set]
 rfl
theorem QdL {w:World} {base Q M:Nat} {s:Sl} {B:QBs} (h:Qdv w base Q M s B) (hB:B.length≤1000000) {id:Nat} (hid:id≤18446744073709551615) :
  Calls Tryz.prog 34 #[.pointer (some ⟨Q,0,none⟩),.int .u64 (id:Int)] w fun e w'=>(hasB B id=false∧e=.returned (.int .i64 12)∧Ext w w')∨(hasB B id=true∧e=.returned (.int .i64 0)∧Qdv w' base Q M s (Qd1 B id)∧St (fun b=>s.row=some b) w w'):=by
 have hhas:=Qey h hB hid
 have HHAS:=Lib.hid hhas
 clear hhas
 cases hb:hasB B id with
 | false=>
   rw [hb] at HHAS
   clear h
   go_enter Tryz.func34,Tryz.ntmps34
   go_wp2_with fail
   refine HHAS.out.mono ?_
   rintro e w1 ⟨rfl,hx1⟩
   have HX1:=Lib.hid hx1
   clear hx1
   go_wp2_with fail
   go_ret
   exact .inl ⟨trivial,rfl,HX1.out⟩
 | true=>
   rw [hb] at HHAS
   obtain ⟨i,rfl⟩:∃ i,id=i+1:=by
    cases id with
    | zero=>cases hb
    | succ i=>exact ⟨i,rfl⟩
   obtain ⟨p,hp⟩:∃ p,B[i]? = some p:=by
    cases hp:B[i]? with
    | none=>rw [hasB,hp] at hb;cases hb
    | some p=>exact ⟨p,rfl⟩
   have hi:=(List.getElem?_eq_some_iff.1 hp).1
   have HH:=Lib.hid h
   have HP:=Lib.hid hp
   clear h hp hb
   go_enter Tryz.func34,Tryz.ntmps34
   go_wp2_with fail
   refine HHAS.out.mono ?_
   rintro e w1 ⟨rfl,hx1⟩
   have hrf:=HH.out.ext hx1
   obtain ⟨g,cap,rfl,hbg,lg,hn,hc,hcells⟩:=hrf.at HP.out
   have d4:w1.cell? ⟨g,i*5+4,none⟩=some (.bool p.2):=hcells 4 _ rfl
   have c1:w1.cell? ⟨Q,1,none⟩=some (.slice (some ⟨g,0,none⟩) B.length cap):=hrf.blk.cell 1
   have lQ:=hrf.blk.lt
   obtain ⟨g',cap',e1,-,-,-,hf⟩:=Qat hrf.own (by omega)
   injection e1 with e1 e2
   injection e1 with e1
   injection e1 with e1
   subst e1 e2
   have f4:=hf.frozen (i*5+4)
   have g2:(0:Int)≤(i:Int):=by omega
   have g3:(i:Int)<(B.length:Int):=by omega
   have hw1:IntKind.i64.wrap ((i:Int)+1)=(i:Int)+1:=by rw [IntKind.wrap_i64];omega
   have HX1:=Lib.hid hx1
   have HRF:=Lib.hid hrf
   clear hx1 hrf hcells hf HHAS
   go_wp2_with fail
   go_ret
   refine .inr ⟨trivial,rfl,?_,(HX1.out.st _).trans ((St.refl (fun b=>Sl.row ⟨some ⟨g,0,none⟩,cap⟩=some b) w1).set (p:=⟨g,i*5+4,none⟩) (.inr rfl) _)⟩
   have hne:Q≠g:=fun e=>HRF.out.ne (by rw [e];rfl)
   have hd:Qd1 B (i+1)=B.set i (p.1,false):=by unfold Qd1;rw [Nat.add_sub_cancel,HP.out]
   refine ⟨?_,?_,?_⟩
   ·rw [QdC];exact HRF.out.blk.far (p:=⟨g,i*5+4,none⟩) hne _
   ·rw [QdC,hd,←QhI HP.out]
    exact Qnd HRF.out.own (by omega) _
   intro q hq
   rw [hd] at hq
   rcases List.mem_or_eq_of_mem_set hq with hq | rfl
   ·exact HRF.out.short q hq
   exact HRF.out.short p (List.mem_of_getElem? HP.out)
theorem Tryz.QlD:(Tryz.prog.info? 134).map (fun i=>(i.zero,i.size,i.bytes))=some (some (.agg #[.int .i64 0,.string ByteArray.empty,.string ByteArray.empty,.bool false,.bool false]),5,56):=by kernel_rfl
theorem QoR (p:Qy × Bool):∀ u∈QbC p,u.oneCell'=true:=by
 intro u hu
 simp only [QbC,List.mem_cons,List.not_mem_nil,or_false] at hu
 rcases hu with rfl | rfl | rfl | rfl | rfl <;> rfl
def Q4 (vb:Nat) (q:Qy) (w:World):Prop:=w.cell? ⟨vb,0,none⟩=some (.int .i64 q.kind)∧w.cell? ⟨vb,1,none⟩=some (.string q.lo)∧w.cell? ⟨vb,2,none⟩=some (.string q.hi)∧w.cell? ⟨vb,3,none⟩=some (.bool q.op)
theorem Q4.of {vb:Nat} {q:Qy} {w:World} (h:Blk w vb 24 #[.int .i64 q.kind,.string q.lo,.string q.hi,.bool q.op]):Q4 vb q w:=⟨h.cell 0,h.cell 1,h.cell 2,h.cell 3⟩
theorem Q4.agree {vb:Nat} {q:Qy} {w w':World} (h:Q4 vb q w) (k:∀ o,w'.cell? ⟨vb,o,none⟩=w.cell? ⟨vb,o,none⟩):Q4 vb q w':=⟨(k 0).trans h.1,(k 1).trans h.2.1,(k 2).trans h.2.2.1,(k 3).trans h.2.2.2⟩
theorem QnX {w w2 W w5:World} {base Q M:Nat} {s s5:Sl} {B:QBs} {q:Qy} (hrf:Qdv w2 base Q M s B) (hx:Ext w2 W) (ho:w5.ownsRow base 134 5 (.slice s5.a (B.length+1) s5.c) (B.length+1) (QdD B++QbC (q,true))) (hw:Wr W w5 s.row) (hs:s5.a=s.a∨s5.a=some ⟨W.heap.size,0,none⟩∧Wr W w5 none) (h2:Ext w w2) (lQ:Q<w.heap.size) (hq:q.short) (hz:w.heap.size≤W.heap.size) :
  ∃ s':Sl,Qdv (w5.setCell ⟨Q,1,none⟩ (.slice s5.a (B.length+1) s5.c)) base Q M s' (B++[(q,true)])∧St (fun b=>b=Q∨s.row=some b) w (w5.setCell ⟨Q,1,none⟩ (.slice s5.a (B.length+1) s5.c))∧(s'.a=s.a∨∃ g,s'.a=some ⟨g,0,none⟩∧w.heap.size≤g):=by
 have hst5:St (fun b=>s.row=some b) W w5:=hw.st fun i hi=>hi
 have hne:=hrf.ne
 have hset:St (fun b=>b=Q) w5 (w5.setCell ⟨Q,1,none⟩ (.slice s5.a (B.length+1) s5.c)):=(St.refl (fun b=>b=Q) w5).set (p:=⟨Q,1,none⟩) (.inr rfl) _
 have hzz:=hx.size
 have hb5:Blk w5 Q 95 _:=hst5.blk (hrf.blk.ext hx) hne
 have hne5:¬s5.row=some Q:=fun e=>by
  rcases hs with h | ⟨h,-⟩
  ·exact hne (by rw [Sl.row,←h];exact e)
  rw [Sl.row,h] at e
  have:W.heap.size=Q:=by simpa using e
  have:=h2.size
  omega
 have hl:(B++[(q,true)]).length=B.length+1:=by simp
 refine ⟨s5,⟨?_,?_,fun p hp=>?_⟩,?_,?_⟩
 ·rw [hl];exact hb5.QaN 1 _
 ·rw [hl,Qka]
  exact Qad ho hset.agree fun b hb=>⟨(Qac ho hb).2,fun e=>hne5 (by rw [←e];exact hb)⟩
 ·rcases List.mem_append.1 hp with hp | hp
  ·exact hrf.short p hp
  rw [List.mem_singleton] at hp;subst hp;exact hq
 ·exact (((h2.trans hx).st _).trans (hst5.mono fun i _ hi=>.inr hi)).trans (hset.mono fun i _ hi=>.inl hi)
 rcases hs with h | ⟨h,-⟩
 ·exact .inl h
 exact .inr ⟨_,h,hz⟩
theorem Qex {w:World} {base Q M:Nat} {s:Sl} {B:QBs} (h:Qdv w base Q M s B) (hB:B.length≤1000000) (hbase:base≤w.heap.size) (q:Qy) (hq:q.short) :
  Calls Tryz.prog 33 #[.pointer (some ⟨Q,0,none⟩),q.v] w fun e w'=>(Qd4 q≠0∧e=.returned (.tuple #[.int .u64 0,.int .i64 (Qd4 q)])∧Ext w w')∨
   (Qd4 q=0∧∃ s':Sl,e=.returned (.tuple #[.int .u64 ((B.length:Int)+1),.int .i64 0])∧Qdv w' base Q M s' (B++[(q,true)])∧St (fun b=>b=Q∨s.row=some b) w w'∧(s'.a=s.a∨∃ g,s'.a=some ⟨g,0,none⟩∧w.heap.size≤g)):=by
 obtain ⟨i0,hi,hz0,hz1,hz2⟩:=info_parts Tryz.QlD
 have hrm:=fun W=>Qez q W
 obtain ⟨m,hm⟩:∃ m,Qd4 q=m:=⟨_,rfl⟩
 rw [hm] at hrm ⊢
 have HRM:=Lib.hid hrm
 have HH:=Lib.hid h
 have HM:=Lib.hid hm
 have lQ0:=h.blk.lt
 obtain ⟨kd,lo,hi',op⟩:=q
 clear hrm h hm
 go_enter Tryz.func33,Tryz.ntmps33
 go_wp2_with fail
 generalize hW1:World.alloc w _=w1
 have hbq:Blk w1 w.heap.size 24 #[.int .i64 kd,.string lo,.string hi',.bool op]:=by rw [←hW1];exact Blk.new w _ _
 have hx1:Ext w w1:=by rw [←hW1];exact (Ext.refl w).alloc _ _
 have hz1':w1.heap.size=w.heap.size+1:=by rw [←hW1];simp
 clear hW1
 have c0:w1.cell? ⟨w.heap.size,0,none⟩=some (.int .i64 kd):=hbq.cell 0
 have c1:w1.cell? ⟨w.heap.size,1,none⟩=some (.string lo):=hbq.cell 1
 have c2:w1.cell? ⟨w.heap.size,2,none⟩=some (.string hi'):=hbq.cell 2
 have c3:w1.cell? ⟨w.heap.size,3,none⟩=some (.bool op):=hbq.cell 3
 have lq:=hbq.lt
 have HBQ:=Lib.hid hbq
 have HX1:=Lib.hid hx1
 clear hbq hx1
 go_wp2_with fail
 refine (HRM.out w1).mono ?_
 rintro e w2 ⟨rfl,hx2⟩
 have hx12:=HX1.out.trans hx2
 have hbq2:=HBQ.out.ext hx2
 have HX2:=Lib.hid hx12
 have HBQ2:=Lib.hid hbq2
 have hrf:=HH.out.ext hx12
 have HRF:=Lib.hid hrf
 have hz2':=hx2.size
 have cQ:w2.cell? ⟨Q,1,none⟩=some (.slice s.a B.length s.c):=hrf.blk.cell 1
 have lQ:=hrf.blk.lt
 have fQ:w2.frozen? ⟨Q,1,none⟩=false:=hrf.blk.frozen 1
 clear hx2 hx12 hbq2 hrf c0 c1 c2 c3 lq HRM
 by_cases hm0:m=0
 ·have g0:(m != 0)=false:=by rw [hm0];simp
  have g1:(m == 0)=true:=by rw [hm0];simp
  have h63:B.length+1≤maxLen:=by unfold maxLen;omega
  have hby:(B.length+1)*56≤140737488355328:=by omega
  have HSS:=Lib.hid (fun (w':World) (h:Q4 w.heap.size ⟨kd,lo,hi',op⟩ w')=>(show _∧_ from h))
  have HQ4:=Lib.hid (show ∀ W,Ext w2 W→Q4 w.heap.size ⟨kd,lo,hi',op⟩ W from fun W hW=>Q4.of (HBQ2.out.ext hW))
  have hneQ:s.row≠some Q:=HRF.out.ne
  have hrow:∀ b,s.row=some b→base≤b∧b<w.heap.size:=fun b hb=>Qac HH.out.own hb
  have HROW:=Lib.hid hrow
  have lq2:w.heap.size<w2.heap.size:=by omega
  clear hrow
  go_wp2_with fail
  have HOX:=Lib.hid (show ∀ W,Ext w2 W→W.ownsRow base 134 5 (.slice s.a B.length s.c) B.length (QdD B) from fun W hW=>Qad HRF.out.own (hW.agree fun b (hb:b<w2.heap.size)=>hb) fun b hb=>(Qac HRF.out.own hb).2)
  have hone:=QoR (⟨kd,lo,hi',op⟩,true)
  obtain ⟨q0,q1,q2,q3⟩:=HQ4.out w2 (Ext.refl _)
  go_region_law (refine Qba _ rfl (.tmp 16) (.tmp 19) 93 rfl base 134 i0 _ 5 56 Tryz.underlying93 hi hz0 hz1 hz2 rfl (by decide) s B.length (QdD B) (by rfl) (HOX.out _ (by first | exact ((Ext.refl w2).drew).alloc _ _ | exact ((Ext.refl w2).alloc _ _).drew)) (fun b=>b=w2.heap.size) ⟨some ⟨w2.heap.size,0,none⟩,1⟩ 1 (QbC (⟨kd,lo,hi',op⟩,true)) (by rfl) (Rd.block (Blk.new _ _ _) (by decide) rfl) hone h63 hby (by show base≤_;simp;omega) ?_;intro s5 w5 hown5 hwr5 hs5;have hq5:=hwr5.cell0 (w:=w2) (o:=1) (by first | exact ((Ext.refl w2).drew).alloc _ _ | exact ((Ext.refl w2).alloc _ _).drew) hneQ lQ;have cq5:=hq5.1.trans cQ;have lq5:=hq5.2;have f5:w5.frozen? ⟨Q,1,none⟩=false:=(hwr5.fz _ _).trans (((by first | exact ((Ext.refl w2).drew).alloc _ _ | exact ((Ext.refl w2).alloc _ _).drew:Ext w2 _).frozen (o:=1) lQ).trans fQ);have HO5:=Lib.hid hown5;have HW5:=Lib.hid hwr5;have HS5:=Lib.hid hs5;clear hown5 hwr5 hs5 hq5)
  go_wp2_with fail
  all_goals
   go_ret2
   exact ⟨rfl,QnX HRF.out (by first | exact ((Ext.refl w2).drew).alloc _ _ | exact ((Ext.refl w2).alloc _ _).drew) HO5.out HW5.out HS5.out HX2.out lQ0 hq (by simp;omega)⟩
 have g0:(m != 0)=true:=bne_iff_ne.2 hm0
 go_wp2_with fail
 go_ret2
 exact .inl ⟨hm0,rfl,HX2.out⟩
def Qa6:Nat→QBs→List Nat
 | _,[]=>[]
 | n,p :: r=>if p.2 then (n+1) :: Qa6 (n+1) r else Qa6 (n+1) r
theorem Qgr (p:Qy × Bool):∀ (A:QBs) (n:Nat),Qa6 n (A++[p])=Qa6 n A++if p.2 then [n+A.length+1] else []
 | [],n=>by simp [Qa6]
 | q :: A,n=>by
   have ih:=Qgr p A (n+1)
   rw [List.cons_append,Qa6,Qa6,ih,List.length_cons,show n+1+A.length+1=n+(A.length+1)+1 by omega]
   split <;> simp
theorem Qcc:∀ (A:QBs) (n:Nat),(Qa6 n A).length≤A.length
 | [],_=>Nat.le_refl _
 | q :: A,n=>by
   have ih:=Qcc A (n+1)
   rw [Qa6]
   split
   ·simp only [List.length_cons];omega
   simp only [List.length_cons];omega
theorem QdM {w:World} {base Q M:Nat} {s:Sl} {B:QBs} (h:Qdv w base Q M s B) (hB:B.length≤1000000) :
  Calls Tryz.prog 38 #[.pointer (some ⟨Q,0,none⟩)] w fun e w'=>∃ sl:Sl,e=.returned (.slice sl.a (Qa6 0 B).length sl.c)∧w'.ownsRow w.heap.size 34 1 (.slice sl.a (Qa6 0 B).length sl.c) (Qa6 0 B).length ((Qa6 0 B).map Qcj)∧Ext w w':=by
 obtain ⟨iu,uI,uI0,uI1,uI2⟩:=info_parts Tryz.QlE
 have HH:=Lib.hid h
 clear h
 go_enter Tryz.func38,Tryz.ntmps38
 go_wp2_with fail
 go_loopw [3,4] (fun v i wr=>∃ (j:Nat) (sl:Sl) (xs:List Nat),v=.slice sl.a xs.length sl.c∧i=.int .i64 j∧j≤B.length∧Hid (xs=Qa6 0 (B.take j))∧xs.length≤j∧Hid (wr.ownsRow w.heap.size 34 1 (.slice sl.a xs.length sl.c) xs.length (xs.map Qcj))∧Hid (Ext w wr)) (fun _ i _=>B.length - (intOf i).toNat)
 case atStart=>exact ⟨0,Sl.none,[],rfl,rfl,Nat.zero_le _,Lib.hid rfl,Nat.zero_le _,Lib.hid (World.ownsRow_nil _ _ _ _),Lib.hid (Ext.refl _)⟩
 obtain ⟨j,sl,xs,rfl,rfl,hj,HXS,hxl,HOW,HX⟩:=hrel
 have hrf:=HH.out.ext HX.out
 have cQ:wr.cell? ⟨Q,1,none⟩=some (.slice s.a B.length s.c):=hrf.blk.cell 1
 have lQ:=hrf.blk.lt
 have hzr:=HX.out.size
 have HRF:=Lib.hid hrf
 clear hrf
 by_cases hlt:j<B.length
 ·have g1:(j:Int)<(B.length:Int):=by omega
  obtain ⟨p,hp⟩:∃ p,B[j]? = some p:=⟨_,List.getElem?_eq_getElem hlt⟩
  have htk:B.take (j+1)=B.take j++[p]:=by rw [List.take_add_one,hp];rfl
  have hlf:Qa6 0 (B.take (j+1))=xs++if p.2 then [j+1] else []:=by
   rw [htk,Qgr,←HXS.out,List.length_take,Nat.min_eq_left hj,Nat.zero_add]
  have HLF:=Lib.hid hlf
  obtain ⟨g,cap,rfl,hbg,lg,hn,hc,hcells⟩:=HRF.out.at hp
  have d4:wr.cell? ⟨g,j*5+4,none⟩=some (.bool p.2):=hcells 4 _ rfl
  clear hcells hp htk hlf
  cases hpb:p.2 with
  | true=>
    rw [hpb] at d4 HLF
    have hnA:Ext wr (wr.alloc (.cells #[Qcj (j+1)] 34)):=(Ext.refl _).alloc _ _
    have HOX:=Lib.hid (Qad HOW.out (hnA.agree fun b (hb:b<wr.heap.size)=>hb) (fun b hb=>(Qac HOW.out hb).2))
    have HBNW:=Lib.hid (Blk.new wr 34 #[Qcj (j+1)])
    have HNA:=Lib.hid hnA
    have h63:xs.length+1≤maxLen:=by unfold maxLen;omega
    have hby:(xs.length+1)*8≤140737488355328:=by omega
    have hbase:w.heap.size≤(wr.alloc (.cells #[Qcj (j+1)] 34)).heap.size:=by rw [World.size_alloc];omega
    have hone:=QiG (j+1)
    have hwu:IntKind.u64.wrap (j:Int)=(j:Int):=by rw [IntKind.wrap_u64];omega
    have hwu1:IntKind.u64.wrap ((j:Int)+1)=(j:Int)+1:=by rw [IntKind.wrap_u64];omega
    clear hnA
    go_wp2_with (at_builtin;refine Qae _ rfl (.tmp 22) (.tmp 26) 63 rfl w.heap.size 34 iu _ 1 8 Tryz.underlying63 uI uI0 uI1 uI2 rfl (by decide) sl xs.length (xs.map Qcj) rfl HOX.out (fun b=>b=wr.heap.size) ⟨some ⟨wr.heap.size,0,none⟩,1⟩ 1 [Qcj (j+1)] rfl (Rd.block HBNW.out (by decide) rfl) hone h63 hby hbase ?_;intro r2 wA hownA hwrA hsA2;have HOA:=Lib.hid hownA;have HWA:=Lib.hid hwrA;clear hownA hwrA hsA2)
    go_roundw
    case rel=>
     have hrow:∀ b,sl.row=some b→w.heap.size≤b:=fun b hb=>(Qac HOW.out hb).1
     refine ⟨j+1,r2,xs++[j+1],by rw [List.length_append,List.length_singleton],by go_num,hlt,Lib.hid ?_,by rw [List.length_append,List.length_singleton];omega,Lib.hid ?_,Lib.hid ((HX.out.trans HNA.out).wr HWA.out hrow)⟩
     ·rw [HLF.out,if_pos rfl]
     rw [List.length_append,List.length_singleton,List.map_append];exact HOA.out
    simp [intOf];omega
  | false=>
    rw [hpb] at d4 HLF
    go_wp2_with fail
    go_roundw
    case rel=>exact ⟨j+1,sl,xs,rfl,by go_num,hlt,Lib.hid (by rw [HLF.out];simp),by omega,HOW,HX⟩
    simp [intOf];omega
 obtain rfl:j=B.length:=by omega
 have hxs:xs=Qa6 0 B:=by rw [HXS.out,List.take_length]
 have HXB:=Lib.hid hxs
 clear hxs
 go_wp2_with fail
 go_ret
 obtain rfl:=HXB.out
 exact ⟨sl,rfl,HOW.out,HX.out⟩
theorem Qib (w:World):Calls Tryz.prog 32 #[] w fun e w'=>e=.returned (.pointer (some ⟨w.heap.size+1,0,none⟩))∧Qdv w' w.heap.size (w.heap.size+1) w.heap.size Sl.none []∧Blk w' w.heap.size 76 #[.slice none 0 0]∧Ext w w'∧w'.heap.size=w.heap.size+2:=by
 go_enter Tryz.func32,Tryz.ntmps32
 go_wp2_with fail
 generalize hW:World.alloc (World.alloc w _) _=w2
 obtain ⟨h1,h2,h3,h4⟩:=Qaz w _ _ _ _ w2 hW
 clear hW
 go_ret
 exact ⟨rfl,⟨h4,World.ownsRow_nil _ _ _ _,fun p hp=>by cases hp⟩,h3,h1,h2⟩
structure GS (w:World) (es:List Ent) (s:Sl) (ys:List LE) (wr:World):Prop where
 own:OE wr 0 s ys
 row:∀ b,s.row=some b→w.heap.size≤b
 es_:ys.map LE.ent=es
 ext:Ext w wr
theorem GS.start (w:World):GS w [] Sl.none [] w:=⟨OE.nil _ _,fun b h=>by simp [Sl.row] at h,rfl,Ext.refl w⟩
theorem GS.step {w wr W w3:World} {es:List Ent} {s s3:Sl} {ys:List LE} {x:LE} (h:GS w es s ys wr) (hx:Ext wr W) (hv:RV wr (Lt w.heap.size) x.v x.sl x.so) (hk:x.k.size≤maxLen) (hf:(ys.length+1)*104≤140737488355328)
  (hown:w3.ownsRow 0 47 7 (.slice s3.a (ys.length+1) s3.c) (ys.length+1) (Qaf ys++x.cells)) (hwr:Wr W w3 s.row) (hs3:s3.a=s.a∨s3.a=some ⟨W.heap.size,0,none⟩∧Wr W w3 none):GS w (es++[x.ent]) s3 (ys++[x]) w3:=by
 have hs2:s3.row=s.row∨∃ b,s3.row=some b∧W.heap.size≤b:=by
  rcases hs3 with h | ⟨h,-⟩
  ·exact .inl (by simp [Sl.row,h])
  exact .inr ⟨W.heap.size,by simp [Sl.row,h],Nat.le_refl _⟩
 have hsz:=h.ext.size
 have hsz2:=hx.size
 refine ⟨OE.append (F:=Lt w.heap.size) (h.own.ext hx) (fun y hy=>by rw [List.mem_singleton.1 hy];exact ⟨hv.agree (hx.agree fun b hb=>Nat.lt_of_lt_of_le hb hsz),hk⟩) (fun b hb=>⟨Nat.zero_le _,Nat.lt_of_lt_of_le hb (Nat.le_trans hsz hsz2),fun e=>by have:=h.row b e;have hb:b<w.heap.size:=hb;omega⟩) hf (by rw [show Qaf [x]=LE.cells x from by simp [Qaf]];exact hown) hwr hs2,fun b hb=>?_,by rw [List.map_append,h.es_];rfl,(h.ext.trans hx).wr hwr h.row⟩
 rcases hs2 with h' | ⟨b',h',hb'⟩
 ·exact h.row b (h'▸hb)
 rw [h'] at hb;cases hb;omega
theorem QhH {p:Ent→Bool} {es:List Ent} {j:Nat} {x:Ent} (h:es[j]? = some x):(es.take (j+1)).filter p=(es.take j).filter p++(if p x then [x] else []):=by
 rw [List.take_add_one,h,List.filter_append]
 congr 1
 cases hp:p x <;> simp [hp]
end Go.Proofs.YtohajcflklejjaaGreat
