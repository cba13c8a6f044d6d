/- What the theorem needs of the texts LiveN, TrodB, TrodA27, TrodA9, Ps27, TrodAs: no condition of its own. -/
import Derived.Laws.IdiomStrings
import Derived.WalkArith
import Derived.Test.YtohajcflklejjaaGreatRows
import Derived.Test.YtohajcflklejjaaGreatPha
import Derived.Test.YtohajcflklejjaaGreatPhb
import Derived.Test.YtohajcflklejjaaGreatPhc
import Derived.Test.YtohajcflklejjaaGreatPhd
import Derived.Test.YtohajcflklejjaaGreatPhe
import Derived.Test.YtohajcflklejjaaGreatPhf
import Derived.Test.YtohajcflklejjaaGreatPhg
import Derived.Test.YtohajcflklejjaaGreatPhh
import Derived.Test.YtohajcflklejjaaGreatPhi
import Derived.Test.YtohajcflklejjaaGreatPhj
import Derived.Test.YtohajcflklejjaaGreatPhk
import Derived.Test.YtohajcflklejjaaGreatPhl
set_option maxRecDepth 100000
set_option maxHeartbeats 1000000
namespace Go.Proofs.YtohajcflklejjaaGreat
open Go.RowKit Go.Maps Go.Shelf
set_option linter.unusedVariables false
set_option linter.unusedSimpArgs false
attribute [local go_sem] Oper.semAt_some
theorem QfZ (w:World):Ext w (w.alloc (.mapIter none 0 #[] 0)):=by
 refine ⟨(Below.refl _ _).alloc (Nat.le_refl _) _,fun b o hb=>?_⟩
 by_cases hb':b=w.heap.size
 ·subst hb'
  have:(w.alloc (.mapIter none 0 #[] 0)).heap[w.heap.size]? = some (.mapIter none 0 #[] 0):=heap_alloc_new w _
  unfold World.frozen?
  rw [this]
 exact frozen_none (by simp;omega)
theorem Qhb (w:World):(Instr.range 35 (.map none)).run Tryz.prog w=.ok (.pointer (some ⟨w.heap.size,0,none⟩)) (w.alloc (.mapIter none 0 #[] 0)):=by
 simp [Instr.range,run_underlying Tryz.underlying35,newObj,Sem.run_bind,Sem.run_pure,Result.andThen]
 rfl
theorem Qie {w:World} {r:Nat} (h:w.heap[r]? = some (.mapIter none 0 #[] 0)) (ty:TypeId):(Instr.next (.pointer (some ⟨r,0,none⟩)) false ty).run Tryz.prog w=.ok (.tuple #[.bool false]) w:=by
 have hg:(getObj r).run Tryz.prog w=.ok (.mapIter none 0 #[] 0) w:=by simp [getObj,Sem.run,h]
 unfold Instr.next
 simp only [Sem.run_bind,Sem.run_pure,Result.andThen_ok,hg]
theorem QhS {w0:World} {Bm:Nat} (hB:Blk w0 Bm 35 #[.map none]) :
  Qhm Tryz.prog 83 #[.pointer (some ⟨Bm,0,none⟩)] Qn4 (fun c=>c=Bm) (fun _ pre _ _ _=>pre.length<0) (fun xs=>xs.Perm []) (fun _=>True) w0:=by
 intro l J Jx C W hT hA hsz hCK hJ
 have hBW:Blk W Bm 35 #[.map none]:=hB.agree hA rfl
 have hBl:=hBW.lt
 have c0:W.cell? ⟨Bm,0,none⟩=some (.map none):=hBW.cell 0
 have HJ:=Lib.hid hJ
 clear hT hA hsz hCK hJ hB hBW
 show Calls _ _ #[.func (.yield l) #[] #[],.pointer (some ⟨Bm,0,none⟩)] W _
 refine (callsIn_wide (n:=5)).1 ?_
 refine callsIn_of_wp Tryz.func83 rfl trivial ?_ rfl
 simp only [Tryz.ntmps83,List.size_toArray,List.length_cons,List.length_nil,Nat.reduceAdd,Nat.reduceSub,Array.replicate_succ,Array.replicate_zero,List.push_toArray,List.append_toArray,List.nil_append,List.cons_append]
 have hr0:=Qhb W
 gi_wp2_with fail
 generalize hW1:World.alloc W _=w1
 have hi:w1.heap[W.heap.size]? = some (.mapIter none 0 #[] 0):=by rw [←hW1];exact heap_alloc_new W _
 have hx:Ext W w1:=by rw [←hW1];exact QfZ W
 have HI:=Lib.hid hi
 have HX:=Lib.hid hx
 clear hW1 hi hx hr0 c0
 gi_loopw [] (fun wr=>wr=w1) (fun _=>0)
 case atStart=>rfl
 subst hrel
 have hn:=Qie HI.out
 gi_wp2_with fail
 go_end0
 exact ⟨⟨_,rfl⟩,.inl ⟨[],C,fun _=>False,W,List.Perm.nil,HJ.out,HX.out.st _,fun b hb=>hb.elim⟩⟩
theorem Qfx {w:World} {R:Nat} {T:RT} {g:Nat} {mb:Option Nat} {L:Qbc} (h:QaR w R T g mb L) (hn:L.length≤255) :
  Calls Tryz.prog 23 #[.pointer (some ⟨R,0,none⟩)] w (QgK L w):=by
 have hlR:=h.blk.lt
 have r2:w.cell? ⟨R,2,none⟩=some (.map mb):=h.blk.cell 2
 have hx1:Ext w (w.alloc (.cells #[.map mb] 35)):=(Ext.refl w).alloc _ _
 have hb1:=Blk.new w 35 #[.map mb]
 have hid:(L.map (·.1)).Pairwise (·<·):=List.pairwise_map.2 h.rise
 have hso:Calls Tryz.prog 52 #[.func (.func 83) #[] #[.pointer (some ⟨w.heap.size,0,none⟩)]] (w.alloc (.cells #[.map mb] 35)) fun e w'=>∃ (s:Sl),e=.returned (.slice s.a (L.map (·.1)).length s.c)∧w'.ownsRow (w.alloc (.cells #[.map mb] 35)).heap.size 34 1 (.slice s.a (L.map (·.1)).length s.c) (L.map (·.1)).length ((L.map (·.1)).map Qcj)∧Ext (w.alloc (.cells #[.map mb] 35)) w':=by
  cases mb with
  | none=>
    have hL:L=[]:=h.map
    subst hL
    exact Qgy (gf:=83) (lb:=#[.pointer (some ⟨w.heap.size,0,none⟩)]) (ids:=[]) (by simp) List.Pairwise.nil (enters_of Tryz.func83 (by kernel_rfl) rfl) (fun W hW=>QhS (hb1.ext hW)) (fun c hc=>by rw [World.size_alloc];subst hc;omega)
  | some b=>
    have hown:w.ownsMap Tryz.prog 34 ivR b g (mapD L):=h.map
    have hbl:=hown.lt
    exact Qgy (w:=w.alloc (.cells #[.map (some b)] 35)) (gf:=83) (lb:=#[.pointer (some ⟨w.heap.size,0,none⟩)]) (ids:=L.map (·.1)) (by simpa using hn) hid (enters_of Tryz.func83 (by kernel_rfl) rfl)
     (fun W hW=>by
       have:=QjC (w0:=W) (L:=L) (hb1.ext hW) (QaM hown ((hx1.trans hW).heap hbl)) h.rise
       simpa using this)
     (fun c hc=>by rw [World.size_alloc];rcases hc with rfl | rfl <;> omega)
 have hk:=QjB w mb
 rw [List.length_map,List.map_map] at hso
 have HSO:=Lib.hid hso
 have HX1:=Lib.hid hx1
 clear h hx1 hb1 hid hso
 go_enter Tryz.func23,Tryz.ntmps23
 go_wp2_with fail
 refine hk.mono ?_
 rintro e w1 ⟨rfl,rfl⟩
 go_wp2_with fail
 refine HSO.out.mono ?_
 rintro e w2 ⟨s,rfl,ho,hx⟩
 have HO:=Lib.hid (Qc4 ho (by rw [World.size_alloc];exact Nat.le_succ _))
 have HX:=Lib.hid (HX1.out.trans hx)
 clear ho hx
 go_wp2_with fail
 go_ret
 exact ⟨s,rfl,HO.out,HX.out⟩
end Go.Proofs.YtohajcflklejjaaGreat
namespace Go.Proofs.YtohajcflklejjaaGreat
open Go.RowKit
set_option linter.unusedVariables false
set_option linter.unusedSimpArgs false
section
variable {H : Type} {enc : TypeId × Value → H} {P : Program} {w : World} {held : Bool}
theorem Qd9 {t e:TypeId} {C B fuel:Nat} {cs:List Value} {x:DataW H × List MemPlace} (ht:P.underlying t=some (.slice e)) (hC:P.cellsOf e=C) (hB:P.bytesOf e=B) (hC0:0<C)
  (h:tr enc P w held fuel t cs=some x) (hw:WOk P t x.1) :
  ∃ (n len:Nat) (s:Sl) (b o:Nat) (es:List (DataW H)),fuel=n+1∧cs=[.slice s.a len s.c]∧QeJ (Lt w.heap.size) s len b o∧len*B≤140737488351232∧es.length=len∧Rows.uptoBulkAll es+1≤Rows.uptoBulk x.1∧
   ∀ i,i<len→∃ cs' y,cs'.length=C∧(∀ j,j<C→w.cell? ⟨b,o+i*C+j,none⟩=cs'[j]?)∧tr enc P w held n e cs'=some y∧WOk P e y.1∧es[i]? = some y.1:=by
 rcases DataW.trod_slice ht h with ⟨rfl,rfl⟩ | ⟨a,len,cap,elems,rest,n,hfu,hcs,hx,-,hl,hm,hlen,hel,hsp,-⟩
 ·cases fuel with
  | zero=>simp [tr,DataW.trod] at h
  | succ n=>exact ⟨n,0,Sl.none,0,0,[],rfl,rfl,.nil _ _,by omega,rfl,by simp [Rows.uptoBulk,Rows.uptoBulkAll],fun i hi=>by omega⟩
 obtain ⟨n',len',s,b,o,hfu',hcs',hs,hby,he⟩:=QdQ ht hC hB hC0 h hw
 subst hcs hx hfu
 obtain rfl:n=n':=by omega
 have hcs2:Value.slice (some a) len cap=.slice s.a len' s.c:=by simpa using hcs'
 injection hcs2 with e1 e2 e3
 subst e2
 refine ⟨n,len,s,b,o,elems.map (·.1),rfl,hcs',hs,hby,by rw [List.length_map];exact hlen,by simp only [Rows.uptoBulk];omega,fun i hi=>?_⟩
 obtain ⟨cs',y,hl',hc,ht',hw'⟩:=he i hi
 refine ⟨cs',y,hl',hc,ht',hw',?_⟩
 have hE:=hel i hi
 rw [List.getElem?_eq_getElem (by omega)] at hE
 obtain ⟨cs2,h1,h2⟩:=Option.bind_eq_some_iff.1 hE
 obtain ⟨-,hl1,hat1⟩:=World.cells?_some h1
 rw [hC] at hl1 hat1
 have hsa:s.a=some ⟨b,o,none⟩:=(hs.eq (by omega)).1
 rw [hsa] at e1
 obtain rfl:a=⟨b,o,none⟩:=by injection e1
 have:cs2=cs':=by
  refine List.ext_getElem? fun j=>?_
  by_cases hj:j<C
  ·have:=hat1 j hj
   rw [Go.WideShapes.add_plain,Go.WideShapes.add_plain] at this
   rw [←hc j hj,←this]
  rw [List.getElem?_eq_none (by omega),List.getElem?_eq_none (by omega)]
 subst this
 rw [List.getElem?_map,List.getElem?_eq_getElem (by omega)]
 have:some (elems[i]'(by omega))=some y:=by rw [←h2];exact ht'
 simp only [Option.map_some]
 injection this with this
 rw [this]
theorem QcY {t:TypeId} {fs:List Field} {fuel:Nat} {cs:List Value} {x:DataW H × List MemPlace} (ht:P.underlying t=some (.struct fs.toArray)) (h:tr enc P w held fuel t cs=some x) (hw:WOk P t x.1) :
  ∃ n ds,fuel=n+1∧cs.length=P.cellsOf t∧x.1=.agg ds∧∀ (i:Nat) (f:Field),fs[i]? = some f→∃ y,tr enc P w held n f.type ((cs.drop f.offset).take (P.cellsOf f.type))=some y∧WOk P f.type y.1∧ds[i]? = some y.1:=by
 obtain ⟨xs,n,rfl,rfl,hl,hlen,hf⟩:=DataW.trod_struct ht h
 refine ⟨n,xs.map (·.1),rfl,hl,rfl,fun i f hi=>?_⟩
 have hw':(DataW.weightsEach P (fs.map (·.type)) (xs.map (·.1))).all (·≤reachBytes)=true:=by
  have:=hw
  simpa [WOk,DataW.weights,ht] using this
 have hil:i<fs.length:=(List.getElem?_eq_some_iff.1 hi).1
 have h1:=hf i f (by simpa using hi)
 have hxl:i<xs.length:=by simp at hlen;omega
 rw [List.getElem?_eq_getElem hxl] at h1
 exact ⟨_,h1,weightsEach_at hw' i _ _ (by rw [List.getElem?_map,hi];rfl) (by rw [List.getElem?_map,List.getElem?_eq_getElem hxl];rfl),by rw [List.getElem?_map,List.getElem?_eq_getElem hxl];rfl⟩
end
theorem Qjb {H:Type} (d:DataW H):1≤Rows.uptoBulk d:=by
 cases d with
 | lit l=>cases l <;> simp [Rows.uptoBulk]
 | _=>simp [Rows.uptoBulk]
theorem QgO {H:Type}:∀ l:List (DataW H),l.length≤Rows.uptoBulkAll l
 | []=>by simp [Rows.uptoBulkAll]
 | d :: l=>by have:=Qjb d;have:=QgO l;simp only [Rows.uptoBulkAll,List.length_cons];omega
section
variable {H : Type} {enc : TypeId × Value → H} {w : World} {held : Bool}
theorem Qhu {H:Type} {k:Nat}:∀ {l:List (DataW H)},(∀ d∈l,k≤Rows.uptoBulk d)→l.length*k≤Rows.uptoBulkAll l
 | [],_=>by simp
 | d :: l,h=>by
   have h1:=h d (List.mem_cons_self ..)
   have h2:=Qhu (l:=l) fun x hx=>h x (List.mem_cons_of_mem _ hx)
   simp only [Rows.uptoBulkAll,List.length_cons,Nat.succ_mul];omega
theorem Qi1 {fuel:Nat} {cs:List Value} {x:DataW H × List MemPlace} (h:tr enc Tryz.prog w held fuel 69 cs=some x) (hw:WOk Tryz.prog 69 x.1):∃ (s:Sl) (xs:List ByteArray),cs=[.slice s.a xs.length s.c]∧Rd w (Lt w.heap.size) 1 s xs.length (xs.map Value.string)∧(∀ k∈xs,k.size≤maxLen)∧xs.length+1≤Rows.uptoBulk x.1:=by
 obtain ⟨n,len,s,b,o,es,-,hc,hs,-,hel,hbk,he⟩:=Qd9 (e:=9) (C:=1) (B:=16) Tryz.underlying69 (by kernel_rfl) (by kernel_rfl) (by decide) h hw
 have hE:∀ i,i<len→∃ k:ByteArray,w.cell? ⟨b,o+i,none⟩=some (.string k)∧k.size≤maxLen:=fun i hi=>by
  obtain ⟨cs',y,hl,hcc,ht,-,-⟩:=he i hi
  obtain ⟨k,hk,hkm⟩:=QgD Tryz.underlying9 ht
  have:=hcc 0 (by decide)
  rw [hk,Nat.mul_one,Nat.add_zero] at this
  exact ⟨k,this,hkm⟩
 obtain ⟨f,hf⟩:=skolem hE
 refine ⟨s,(List.range len).map f,by rw [List.length_map,List.length_range];exact hc,⟨b,o,by rw [List.length_map,List.length_range];exact hs,by simp,fun j u hj=>?_⟩,fun k hk=>?_,by rw [List.length_map,List.length_range];have:=QgO es;omega⟩
 ·rw [List.getElem?_map] at hj
  obtain ⟨k,hk,rfl⟩:=Option.map_eq_some_iff.1 hj
  obtain ⟨h1,rfl⟩:=Qbd hk
  exact (hf j h1).1
 obtain ⟨j,hj⟩:=List.mem_iff_getElem?.1 hk
 obtain ⟨h1,rfl⟩:=Qbd hj
 exact (hf j h1).2
theorem Qeo:Tryz.prog.cellsOf 71=8:=by kernel_rfl
theorem Qj7 {cs:List Value} (h:cs.length=8):∃ a b c d e f g i,cs=[a,b,c,d,e,f,g,i]:=by
 match cs,h with
 | [a,b,c,d,e,f,g,i],_=>exact ⟨_,_,_,_,_,_,_,_,rfl⟩
end
section
variable {H : Type} {enc : TypeId × Value → H} {w : World} {held : Bool}
theorem QmG {H:Type} {ds:List (DataW H)} {y z:DataW H} (h0:ds[0]? = some y) (h1:ds[1]? = some z) (hz:7≤Rows.uptoBulk z):9≤Rows.uptoBulk (.agg ds):=by
 match ds,h0,h1 with
 | a :: b :: r,h0,h1=>
   simp at h0 h1
   subst h0 h1
   have:=Qjb a
   simp only [Rows.uptoBulk,Rows.uptoBulkAll];omega
theorem QmH {n:Nat} {cs:List Value} {x:DataW H × List MemPlace} (h:tr enc Tryz.prog w held n 44 cs=some x) (hw:WOk Tryz.prog 44 x.1):7≤Rows.uptoBulk x.1:=by
 obtain ⟨m,ds,-,-,hx,hf⟩:=QcY Tryz.underlying44 h hw
 obtain ⟨y5,-,-,d5⟩:=hf 5 _ rfl
 have h2:=QgO ds
 have h3:5<ds.length:=(List.getElem?_eq_some_iff.1 d5).1
 rw [hx]
 simp only [Rows.uptoBulk];omega
theorem QhG {fuel:Nat} {cs:List Value} {x:DataW H × List MemPlace} (h:tr enc Tryz.prog w held fuel 50 cs=some x) (hw:WOk Tryz.prog 50 x.1):∃ (s:Sl) (xs:List LE),cs=[.slice s.a xs.length s.c]∧ES w (Lt w.heap.size) s xs∧xs.length*9+1≤Rows.uptoBulk x.1:=by
 obtain ⟨s,xs,hc,hes⟩:=Qj8 h hw
 obtain ⟨n,len,s',b,o,es,-,hc',-,-,hel,hbk,he⟩:=Qd9 (e:=47) (C:=7) (B:=104) Tryz.underlying50 Qep Qen (by decide) h hw
 rw [hc] at hc'
 have hln:xs.length=len:=by simp at hc';exact hc'.2.1
 refine ⟨s,xs,hc,hes,?_⟩
 have h3:es.length*9≤Rows.uptoBulkAll es:=Qhu fun d hd=>by
  obtain ⟨i,hi,rfl⟩:=List.mem_iff_getElem.1 hd
  obtain ⟨cs',y,-,-,ht,hw',hy⟩:=he i (by omega)
  obtain ⟨m,ds,hm,-,hx,hf⟩:=QcY Tryz.underlying47 ht hw'
  obtain ⟨y0,-,-,d0⟩:=hf 0 _ rfl
  obtain ⟨y1,h1,w1,d1⟩:=hf 1 _ rfl
  have g1:tr enc Tryz.prog w held m 44 ((cs'.drop 1).take 6)=some y1:=by
   have:=h1
   dsimp only at this
   rw [QbA] at this
   exact this
  rw [List.getElem?_eq_getElem hi] at hy
  injection hy with hy
  rw [hy,hx]
  exact QmG d0 d1 (QmH g1 w1)
 omega
end
theorem QeB:∀ l:List Ent,QdN l l=true
 | []=>rfl
 | a :: l=>by simp [QdN,Qb6,QeB l]
theorem TI.sb {H G:Nat→Prop} {M:Nat} {es:List Ent} {T:RT} {w w':World} (h:TI H M es T w) (k:Sb G w w') (hG:∀ b,G b→H b) (hM:¬G M):TI H M es T w':=
 ⟨h.map.sb k hG hM,(h.tree.agree fun b hb=>k.block b hb.1 fun hh=>hb.2 (hG b hh)).mono fun i hi=>⟨Nat.lt_of_lt_of_le hi.1 k.size,hi.2⟩,h.ok,h.ents⟩
theorem TI.wide {H:Nat→Prop} {M:Nat} {es:List Ent} {T:RT} {w:World} (h:TI H M es T w) (N:Nat):TI (fun b=>H b∨(w.heap.size≤b∧b<N)) M es T w:=
 ⟨h.map.more (fun b h=>.inl h) (fun b hb h=>h.elim id fun h=>by omega),h.tree.mono fun b hb=>⟨hb.1,fun h=>h.elim hb.2 fun h=>by have:=hb.1;omega⟩,h.ok,h.ents⟩
theorem Qdv.sb {w w':World} {base Q M:Nat} {s:Sl} {B:QBs} {G:Nat→Prop} (h:Qdv w base Q M s B) (k:Sb G w w') (hQ:¬G Q) (hr:∀ b,s.row=some b→¬G b):Qdv w' base Q M s B:=
 ⟨k.blk h.blk hQ,Qad h.own k.agree fun b hb=>⟨(Qac h.own hb).2,hr b hb⟩,h.short⟩
theorem QhX {w:World} {R:Nat} {T:RT} {g:Nat} {mb:Option Nat} {L:Qbc} {base e size n:Nat} {s:Sl} {xs:List Value} (h:QaR w R T g mb L) (ho:w.ownsRow base e size (.slice s.a n s.c) n xs):∀ b,mb=some b→¬s.row=some b:=fun b hb hr=>by
 subst hb
 obtain ⟨es,clock,h1,-⟩:w.ownsMap Tryz.prog 34 ivR b g (mapD L):=h.map
 rcases ho.2 with ⟨hv,-⟩ | ⟨gg,cap,cur,hv,-,hc,-⟩
 ·injection hv with e1
  rw [Sl.row,e1] at hr
  cases hr
 injection hv with e1
 rw [Sl.row,e1] at hr
 have:gg=b:=by simpa using hr
 subst this
 rw [h1] at hc
 cases hc
structure PS (w:World) (R Q TB base:Nat) (T:RT) (p:Option Addr) (mb:Option Nat) (L:Qbc) (sB:Sl) (B:QBs) (M:Nat) (E:List Ent) (H:Nat→Prop) (W:World):Prop where
 reg:QaR W R T B.length mb L
 rf:Qdv W base Q M sB B
 ti:TI H M E T W
 hp:QaQ T=.pointer p
 box:Blk W TB 33 #[.pointer p]
 hb:LB 0 B L
 ownR:H R
 ownM:∀ b,mb=some b→H b
 ownQ:H Q
 ownS:∀ b,sB.row=some b→H b
 ownT:H TB
 lo:∀ b,H b→w.heap.size≤b
 hi:∀ b,H b→b<W.heap.size
 bel:Below w.heap.size w W
theorem QcP {w:World} {b g:Nat} {L:Qbc} (h:Qcn w (some b) g L) {t:TypeId} {cs:Array Value} {m:Nat} (hb:Blk w m t cs):¬b=m:=fun e=>by
 subst e
 obtain ⟨es,clock,h1,-⟩:w.ownsMap Tryz.prog 34 ivR b g (mapD L):=h
 have h2:w.heap[b]? = some (.cells cs t (0,0)):=hb
 rw [h1] at h2
 cases h2
theorem Qgb {w:World} {a b:Nat} {t t':TypeId} {cs cs':Array Value} (ha:Blk w a t cs) (hb:Blk w b t' cs') (hne:t≠t'):¬a=b:=fun e=>by
 subst e
 have h1:w.heap[a]? = some (.cells cs t (0,0)):=ha
 have h2:w.heap[a]? = some (.cells cs' t' (0,0)):=hb
 rw [h1] at h2
 injection h2 with h2
 injection h2 with h2 h3
 exact hne h3
section
variable {w W : World} {R Q TB base : Nat} {T : RT} {p : Option Addr} {mb : Option Nat} {L : Qbc} {sB : Sl} {B : QBs} {M : Nat} {E : List Ent} {H : Nat → Prop}
theorem PS.Qpk (h:PS w R Q TB base T p mb L sB B M E H W):∃ cs,Blk W M 76 cs:=by
 obtain ⟨s,xs,hb,-⟩:=h.ti.map.ex
 exact ⟨_,hb⟩
theorem PS.ext {W':World} (h:PS w R Q TB base T p mb L sB B M E H W) (k:Ext W W'):PS w R Q TB base T p mb L sB B M E H W':=
 ⟨h.reg.ext k,h.rf.ext k,h.ti.ext k,h.hp,h.box.ext k,h.hb,h.ownR,h.ownM,h.ownQ,h.ownS,h.ownT,h.lo,fun b hb=>Nat.lt_of_lt_of_le (h.hi b hb) k.size,Sb.step h.bel (k.sb fun _=>False) fun b hb=>hb.elim⟩
theorem PS.Qic (h:PS w R Q TB base T p mb L sB B M E H W):∀ b,Qdp R mb b→¬b=Q∧¬b=TB∧¬sB.row=some b∧¬b=M:=fun b hb=>by
 obtain ⟨cs,hM⟩:=h.Qpk
 rcases hb with rfl | hb
 ·exact ⟨Qgb h.reg.blk h.rf.blk (by decide),Qgb h.reg.blk h.box (by decide),QbW h.rf.own h.reg.blk (by decide),Qgb h.reg.blk hM (by decide)⟩
 subst hb
 have hm:=h.reg.map
 exact ⟨QcP hm h.rf.blk,QcP hm h.box,QhX (g:=B.length) h.reg h.rf.own b rfl,QcP hm hM⟩
theorem PS.rf1 {W1:World} (h:PS w R Q TB base T p mb L sB B M E H W) (k:Sb (Qdp R mb) W W1):Qdv W1 base Q M sB B:=
 h.rf.sb k (fun hb=>(h.Qic _ hb).1 rfl) fun b hb hr=>(h.Qic b hr).2.2.1 hb
theorem PS.Qnu (h:PS w R Q TB base T p mb L sB B M E H W):¬Q=TB∧¬sB.row=some TB∧¬M=Q∧¬sB.row=some M∧¬M=TB:=by
 obtain ⟨cs,hM⟩:=h.Qpk
 exact ⟨Qgb h.rf.blk h.box (by decide),QbW h.rf.own h.box (by decide),Qgb hM h.rf.blk (by decide),QbW h.rf.own hM (by decide),Qgb hM h.box (by decide)⟩
theorem PS.added {W1 W2:World} {q:Qy} {iv:Iv} {mb':Option Nat} {s':Sl} (h:PS w R Q TB base T p mb L sB B M E H W) (hreg:QaR W1 R T (B.length+1) mb' (L++[(B.length+1,iv)])) (hmb:mb'=mb∨∃ b,mb'=some b∧W.heap.size≤b) (k1:Sb (Qdp R mb) W W1)
  (hiv:Qi8 q iv) (hm:Qd4 q=0) (hrf:Qdv W2 base Q M s' (B++[(q,true)])) (k2:St (fun b=>b=Q∨sB.row=some b) W1 W2) (hs:s'.a=sB.a∨∃ g,s'.a=some ⟨g,0,none⟩∧W1.heap.size≤g) :
  PS w R Q TB base T p mb' (L++[(B.length+1,iv)]) s' (B++[(q,true)]) M E (fun b=>H b∨(W.heap.size≤b∧b<W2.heap.size)) W2:=by
 have hz1:=k1.size
 have hz2:=k2.size
 obtain ⟨t1,t2,t3,t4,t5⟩:=h.Qnu
 have hbl:=h.bel.size
 have hG:∀ b,(Qdp R mb b∨b=Q∨sB.row=some b)→H b:=fun b hb=>by
  rcases hb with (rfl | hb) | rfl | hb
  ·exact h.ownR
  ·exact h.ownM b hb
  ·exact h.ownQ
  exact h.ownS b hb
 have k12:Sb (fun b=>Qdp R mb b∨b=Q∨sB.row=some b) W W2:=(k1.mono fun i _ hi=>.inl hi).trans (k2.sb.mono fun i _ hi=>.inr hi)
 have hRQ:=h.Qic
 have hrow:∀ b,sB.row=some b→b<W.heap.size:=fun b hb=>(Qac h.rf.own hb).2
 have hreg2:QaR W2 R T (B.length+1) mb' (L++[(B.length+1,iv)]):=hreg.sb k2.sb fun b hb hh=>by
  have hlt:b<W.heap.size:=by
   rcases hh with rfl | hh
   ·exact h.rf.blk.lt
   exact hrow b hh
  have hrb:Qdp R mb b:=by
   rcases hb with hb | hb
   ·exact .inl hb
   rcases hmb with e | ⟨c,e,hc⟩
   ·exact .inr (by rw [←e];exact hb)
   rw [e] at hb;injection hb with hb;omega
  have:=hRQ b hrb
  rcases hh with hh | hh
  ·exact this.1 hh
  exact this.2.2.1 hh
 have hl:(B++[(q,true)]).length=B.length+1:=by simp
 have hM1:¬(Qdp R mb M∨M=Q∨sB.row=some M):=fun hh=>by
  rcases hh with hh | hh | hh
  ·exact (hRQ M hh).2.2.2 rfl
  ·exact t3 hh
  exact t4 hh
 refine ⟨by rw [hl];exact hreg2,hrf,(h.ti.wide W2.heap.size).sb k12 (fun b hb=>.inl (hG b hb)) hM1,h.hp,k12.blk h.box fun hh=>?_,?_,.inl h.ownR,fun b hb=>?_,.inl h.ownQ,fun b hb=>?_,.inl h.ownT,fun b hb=>?_,fun b hb=>?_,Sb.step h.bel k12 fun b hb=>h.lo b (hG b hb)⟩
 ·rcases hh with hh | hh | hh
  ·exact (hRQ TB hh).2.1 rfl
  ·exact t1 hh.symm
  exact t2 hh
 ·have:=LB.snoc (iv:=iv) (q:=q) (fun k=>hiv.has hm k) h.hb
  rwa [Nat.zero_add] at this
 ·rcases hmb with e | ⟨c,e,hc⟩
  ·exact .inl (h.ownM b (by rw [←e];exact hb))
  rw [e] at hb
  injection hb with hb
  subst hb
  have:=QbV hreg2 c (.inr e)
  exact .inr ⟨hc,this⟩
 ·rcases hs with e | ⟨g,e,hg⟩
  ·exact .inl (h.ownS b (by rw [Sl.row,←e];exact hb))
  have:=(Qac hrf.own hb).2
  rw [Sl.row,e] at hb
  have:g=b:=by simpa using hb
  exact .inr ⟨by omega,by omega⟩
 ·rcases hb with hb | hb
  ·exact h.lo b hb
  omega
 rcases hb with hb | hb
 ·have:=h.hi b hb;omega
 exact hb.2
theorem PS.dropped {W1 W2:World} {i:Nat} (h:PS w R Q TB base T p mb L sB B M E H W) (hreg:QaR W1 R T B.length mb (Qn2 L (i+1))) (k1:Sb (Qdp R mb) W W1) (hrf:Qdv W2 base Q M sB (Qd1 B (i+1))) (k2:St (fun b=>sB.row=some b) W1 W2) :
  PS w R Q TB base T p mb (Qn2 L (i+1)) sB (Qd1 B (i+1)) M E H W2:=by
 have hz1:=k1.size
 have hz2:=k2.size
 obtain ⟨t1,t2,t3,t4,t5⟩:=h.Qnu
 have hG:∀ b,(Qdp R mb b∨sB.row=some b)→H b:=fun b hb=>by
  rcases hb with (rfl | hb) | hb
  ·exact h.ownR
  ·exact h.ownM b hb
  exact h.ownS b hb
 have k12:Sb (fun b=>Qdp R mb b∨sB.row=some b) W W2:=(k1.mono fun i _ hi=>.inl hi).trans (k2.sb.mono fun i _ hi=>.inr hi)
 have hRQ:=h.Qic
 have hl:=QdC B (i+1)
 refine ⟨by rw [hl];exact hreg.sb k2.sb fun b hb hh=>(hRQ b hb).2.2.1 hh,hrf,h.ti.sb k12 hG fun hh=>?_,h.hp,k12.blk h.box fun hh=>?_,?_,h.ownR,h.ownM,h.ownQ,h.ownS,h.ownT,h.lo,fun b hb=>by have:=h.hi b hb;omega,Sb.step h.bel k12 fun b hb=>h.lo b (hG b hb)⟩
 ·rcases hh with hh | hh
  ·exact (hRQ M hh).2.2.2 rfl
  exact t4 hh
 ·rcases hh with hh | hh
  ·exact (hRQ TB hh).2.1 rfl
  exact t2 hh
 have:=h.hb.drop i
 rw [Nat.zero_add] at this
 exact this
variable {W1 W3 W4 W5 : World} {H' : Nat → Prop} {M' : Nat} {E' : List Ent} {T' : RT} {p' : Option Addr}
theorem PS.Qpw (h:PS w R Q TB base T p mb L sB B M E H W) (k1:Ext W W1) (ht:TI H' M' E' T' W1) (hHH:∀ b,H b→H' b) (k3:St (fun b=>b=TB) W1 W3) :
  QaR W3 R T B.length mb L∧IsT W3 (NH H W) T∧IsT W3 (NH H' W1) T'∧(∀ b,NH H W b→b<W3.heap.size∧¬Qdp R mb b)∧∀ b,NH H' W1 b→b<W3.heap.size∧¬Qdp R mb b:=by
 have hz1:=k1.size
 have hz3:=k3.size
 have hR:∀ b,Qdp R mb b→H b:=fun b hb=>by
  rcases hb with rfl | hb
  ·exact h.ownR
  exact h.ownM b hb
 refine ⟨(h.reg.ext k1).sb k3.sb fun b hb hh=>(h.Qic b hb).2.1 hh,(h.ti.tree.agree (k1.agree fun b hb=>hb.1)).agree fun b hb=>k3.block b (by have:=hb.1;omega) fun e=>hb.2 (by rw [e];exact h.ownT),ht.tree.agree fun b hb=>k3.block b hb.1 fun e=>hb.2 (by rw [e];exact hHH _ h.ownT),fun b hb=>⟨by have:=hb.1;omega,fun hh=>hb.2 (hR b hh)⟩,fun b hb=>⟨by have:=hb.1;omega,fun hh=>hb.2 (hHH _ (hR b hh))⟩⟩
theorem PS.Qpx (h:PS w R Q TB base T p mb L sB B M E H W) (k1:Ext W W1) (ht:TI H' M' E' T' W1) (hHH:∀ b,H b→H' b) (hM':W.heap.size≤M') (k3:St (fun b=>b=TB) W1 W3) (k4:St (fun b=>b=R) W3 W4) :
  Qdv W4 base Q M sB B∧MapAt H W4 M E∧MapAt H' W4 M' E':=by
 obtain ⟨t1,t2,t3,t4,t5⟩:=h.Qnu
 have hRQ:=h.Qic R (.inl rfl)
 have lR:=h.hi R h.ownR
 have lT:=h.hi TB h.ownT
 have k13:=(k3.mono (G:=fun b=>b=TB∨b=R) fun i _ hi=>.inl hi).trans (k4.mono fun i _ hi=>.inr hi)
 refine ⟨(h.rf.ext k1).sb k13.sb (fun hh=>?_) fun b hb hh=>?_,(h.ti.map.ext k1).st k13 (fun b hb=>?_) fun hh=>?_,ht.map.st k13 (fun b hb=>?_) fun hh=>?_⟩
 ·rcases hh with hh | hh
  ·exact t1 hh
  exact hRQ.1 hh.symm
 ·rcases hh with rfl | rfl
  ·exact t2 hb
  exact hRQ.2.2.1 hb
 ·rcases hb with rfl | rfl
  ·exact h.ownT
  exact h.ownR
 ·rcases hh with hh | hh
  ·exact t5 hh
  exact hRQ.2.2.2 hh.symm
 ·rcases hb with rfl | rfl
  ·exact hHH _ h.ownT
  exact hHH _ h.ownR
 rcases hh with hh | hh <;> omega
theorem PS.turned (h:PS w R Q TB base T p mb L sB B M E H W) (k1:Ext W W1) (ht:TI H' M' E' T' W1) (hp':QaQ T'=.pointer p') (hHH:∀ b,H b→H' b) (hH':∀ b,H' b→b<W1.heap.size) (hup:∀ b,H' b→H b∨W.heap.size≤b) (hM':W.heap.size≤M')
  (k3:St (fun b=>b=TB) W1 W3) (hbox:Blk W3 TB 33 #[.pointer p']) (hreg:QaR W4 R T' B.length mb L) (k4:St (fun b=>b=R) W3 W4) (hrf:Qdv W5 base Q M' sB B) (k5:St (fun b=>b=Q) W4 W5) :
  PS w R Q TB base T' p' mb L sB B M' E' H' W5:=by
 have lR:=h.hi R h.ownR
 have lT:=h.hi TB h.ownT
 have lQ:=h.hi Q h.ownQ
 have hbl:=h.bel.size
 have hz1:=k1.size
 have hz3:=k3.size
 have hz4:=k4.size
 have hz5:=k5.size
 obtain ⟨t1,t2,t3,t4,t5⟩:=h.Qnu
 have hRQ:=h.Qic R (.inl rfl)
 have k15:St (fun b=>b=TB∨b=R∨b=Q) W1 W5:=((k3.mono fun i _ hi=>.inl hi).trans (k4.mono fun i _ hi=>.inr (.inl hi))).trans (k5.mono fun i _ hi=>.inr (.inr hi))
 refine ⟨hreg.sb k5.sb fun b hb hh=>(h.Qic b hb).1 hh,hrf,ht.st k15 (fun b hb=>?_) fun hh=>?_,hp',k5.blk (k4.blk hbox fun e=>hRQ.2.1 e.symm) fun e=>t1 e.symm,h.hb,hHH _ h.ownR,fun b hb=>hHH _ (h.ownM b hb),hHH _ h.ownQ,fun b hb=>hHH _ (h.ownS b hb),hHH _ h.ownT,fun b hb=>?_,fun b hb=>by have:=hH' b hb;omega,Sb.step (Sb.step h.bel (k1.sb fun _=>False) fun b hb=>hb.elim) k15.sb fun b hb=>?_⟩
 ·rcases hb with rfl | rfl | rfl
  ·exact hHH _ h.ownT
  ·exact hHH _ h.ownR
  exact hHH _ h.ownQ
 ·rcases hh with hh | hh | hh <;> omega
 ·rcases hup b hb with hb | hb
  ·exact h.lo b hb
  omega
 rcases hb with rfl | rfl | rfl
 ·exact h.lo _ h.ownT
 ·exact h.lo _ h.ownR
 exact h.lo _ h.ownQ
end
theorem Qgk {w:World} {R:Nat} {T:RT} {g:Nat} {mb:Option Nat} {L:Qbc} {p:Option Addr} (h:QaR w R T g mb L) (hp:QaQ T=.pointer p):Calls Tryz.prog 24 #[.pointer (some ⟨R,0,none⟩)] w fun e w'=>e=.returned (.agg #[.pointer p])∧Ext w w':=by
 have c0:w.cell? ⟨R,0,none⟩=some (.pointer p):=by rw [←hp];exact h.blk.cell 0
 have lR:=h.blk.lt
 clear h
 go_enter Tryz.func24,Tryz.ntmps24
 go_wp2_with fail
 refine bodyPost_ret (v:=.agg #[.pointer p]) (by simp [results,Tryz.results24,go_sem]) rfl ?_
 exact ⟨rfl,(Ext.refl _).alloc _ _⟩
abbrev a8 (a:L27):List Value:=[.int .i64 a.kind,.int .i64 a.q.kind,.string a.q.lo,.string a.q.hi,.bool a.q.op,.int .u64 a.id,.slice a.ps.a a.es.length a.ps.c,.slice a.gp.a a.gs.length a.gp.c]
structure AS27 (w:World) (F:Nat→Prop) (s:Sl) (xs:List L27):Prop where
 ex:∃ b o,QeJ F s xs.length b o∧∀ (j:Nat) a,xs[j]? = some a→∀ c u,(a8 a)[c]? = some u→w.cell? ⟨b,o+j*8+c,none⟩=some u
 vals:∀ a∈xs,A27 w F a
 ids:∀ a∈xs,0≤a.id∧a.id≤18446744073709551615
theorem AS27.at {w:World} {F:Nat→Prop} {s:Sl} {xs:List L27} (h:AS27 w F s xs) {i:Nat} {x:L27} (hx:xs[i]? = some x) :
  ∃ b o,s.a=some ⟨b,o,none⟩∧F b∧xs.length≤s.c∧s.c≤maxLen∧(∀ c u,(a8 x)[c]? = some u→w.cell? ⟨b,o+i*8+c,none⟩=some u)∧A27 w F x∧0≤x.id∧x.id≤18446744073709551615:=by
 obtain ⟨b,o,h1,h2⟩:=h.ex
 have hi:=(List.getElem?_eq_some_iff.1 hx).1
 obtain ⟨e1,e2,e3⟩:=h1.eq (by omega)
 have hm:=List.mem_of_getElem? hx
 exact ⟨b,o,e1,h1.fits (by omega),e2,e3,h2 i x hx,h.vals x hm,(h.ids x hm).1,(h.ids x hm).2⟩
def totA (xs:List L27) (j:Nat):Nat:=((xs.take j).map fun a=>a.es.length*9+a.gs.length).sum
theorem Qmi {xs:List L27} {j:Nat} {a:L27} (h:xs[j]? = some a):totA xs (j+1)=totA xs j+(a.es.length*9+a.gs.length):=by
 simp [totA,List.take_add_one,h]
theorem Qoo (xs:List L27) (j:Nat):totA xs j≤totA xs xs.length:=by
 unfold totA
 rw [List.take_length]
 conv=>rhs;rw [←List.take_append_drop j xs]
 rw [List.map_append,List.sum_append]
 exact Nat.le_add_right _ _
instance : Inhabited L27 := ⟨⟨0, ⟨0, ByteArray.empty, ByteArray.empty, false⟩, 0, Sl.none, [], Sl.none, []⟩⟩
theorem QjO {H:Type} {f:L27→Nat}:∀ (xs:List L27) (es:List (DataW H)),xs.length=es.length→(∀ (i:Nat) a d,xs[i]? = some a→es[i]? = some d→f a≤Rows.uptoBulk d)→(xs.map f).sum≤Rows.uptoBulkAll es
 | [],[],_,_=>Nat.zero_le _
 | [],d :: es,h,_=>by simp at h
 | a :: xs,[],h,_=>by simp at h
 | a :: xs,d :: es,h,k=>by
   have h1:=k 0 a d rfl rfl
   have h2:=QjO xs es (by simpa using h) fun i a' d' ha hd=>k (i+1) a' d' (by simpa using ha) (by simpa using hd)
   simp only [List.map_cons,List.sum_cons,Rows.uptoBulkAll]
   omega
theorem Qny {q:Int} (h:(Lit.int .u64 q).wf=true):0≤q∧q<18446744073709551616:=by
 have h1:IntKind.u64.min=0:=by decide
 have h2:IntKind.u64.max=18446744073709551615:=by decide
 simp [Lit.wf,h1,h2] at h;omega
section
variable {H : Type} {enc : TypeId × Value → H} {w : World} {held : Bool}
theorem Qhv:Tryz.prog.bytesOf 71=112:=by kernel_rfl
theorem QfX {fuel:Nat} {cs:List Value} {x:DataW H × List MemPlace} (h:tr enc Tryz.prog w held fuel 71 cs=some x) (hw:WOk Tryz.prog 71 x.1) :
  ∃ a:L27,cs=[.int .i64 a.kind,.int .i64 a.q.kind,.string a.q.lo,.string a.q.hi,.bool a.q.op,.int .u64 a.id,.slice a.ps.a a.es.length a.ps.c,.slice a.gp.a a.gs.length a.gp.c]∧A27 w (Lt w.heap.size) a∧a.es.length*9+a.gs.length≤Rows.uptoBulk x.1∧0≤a.id∧a.id≤18446744073709551615:=by
 obtain ⟨n,ds,rfl,hl,hx,hf⟩:=QcY Tryz.underlying71 h hw
 rw [Qeo] at hl
 obtain ⟨c0,c1,c2,c3,c4,c5,c6,c7,rfl⟩:=Qj7 hl
 obtain ⟨y0,h0,-,d0⟩:=hf 0 _ rfl
 obtain ⟨y1,h1,w1,-⟩:=hf 1 _ rfl
 obtain ⟨y2,h2,-,-⟩:=hf 2 _ rfl
 obtain ⟨y3,h3,w3,d3⟩:=hf 3 _ rfl
 obtain ⟨y4,h4,w4,d4⟩:=hf 4 _ rfl
 dsimp only at h0 h1 h2 h3 h4
 rw [show Tryz.prog.cellsOf _=1 from by kernel_rfl] at h0 h2 h3 h4
 rw [Qeq] at h1
 obtain ⟨kd,k0,-⟩:=Qim (k:=.i64) (by kernel_rfl) h0
 obtain ⟨q,k1,hq⟩:=Qha h1 w1
 obtain ⟨idn,k2,wid⟩:=Qim (k:=.u64) (by kernel_rfl) h2
 obtain ⟨wi0,wi1⟩:=Qny wid
 obtain ⟨ps,es,k3,hes,b3⟩:=QhG h3 w3
 obtain ⟨gp,gs,k4,hgs,hgk,b4⟩:=Qi1 h4 w4
 simp only [List.drop_zero,List.take_succ_cons,List.take_zero,List.drop_succ_cons,List.cons.injEq,and_true] at k0 k1 k2 k3 k4
 obtain ⟨e1,e2,e3,e4⟩:=k1
 subst k0 e1 e2 e3 e4 k2 k3 k4
 refine ⟨⟨kd,q,idn,ps,es,gp,gs⟩,rfl,⟨hes,hgs,hgk,hq⟩,?_,wi0,by show idn≤_;omega⟩
 have hB:Rows.uptoBulk y3.1+Rows.uptoBulk y4.1≤Rows.uptoBulkAll ds:=by
  match ds,d3,d4 with
  | [a,b,c,d,e],d3,d4=>
    simp at d3 d4
    subst d3 d4
    simp only [Rows.uptoBulkAll];omega
  | a :: b :: c :: d :: e :: f :: r,d3,d4=>
    simp at d3 d4
    subst d3 d4
    simp only [Rows.uptoBulkAll];omega
 rw [hx]
 simp only [Rows.uptoBulk]
 show es.length*9+gs.length≤_
 omega
theorem acts27_of_trod {fuel:Nat} {cs:List Value} {x:DataW H × List MemPlace} (h:tr enc Tryz.prog w held fuel 87 cs=some x) (hw:WOk Tryz.prog 87 x.1):∃ (s:Sl) (xs:List L27),cs=[.slice s.a xs.length s.c]∧AS27 w (Lt w.heap.size) s xs∧totA xs xs.length≤Rows.uptoBulk x.1:=by
 obtain ⟨n,len,s,b,o,es,-,hc,hs,-,hel,hbk,he⟩:=Qd9 (e:=71) (C:=8) (B:=112) Tryz.underlying87 Qeo Qhv (by decide) h hw
 have hE:∀ i,i<len→∃ a:L27,(∀ c u,(a8 a)[c]? = some u→w.cell? ⟨b,o+i*8+c,none⟩=some u)∧A27 w (Lt w.heap.size) a∧(0≤a.id∧a.id≤18446744073709551615)∧∃ d,es[i]? = some d∧a.es.length*9+a.gs.length≤Rows.uptoBulk d:=fun i hi=>by
  obtain ⟨cs',y,hl8,hcc,ht,hw',hy⟩:=he i hi
  obtain ⟨a,rfl,h1,h2,h3⟩:=QfX ht hw'
  exact ⟨a,fun c u hu=>(hcc c (List.getElem?_eq_some_iff.1 hu).1).trans hu,h1,h3,y.1,hy,h2⟩
 obtain ⟨f,hf⟩:=skolem hE
 refine ⟨s,(List.range len).map f,by rw [List.length_map,List.length_range];exact hc,⟨⟨b,o,by rw [List.length_map,List.length_range];exact hs,fun j a hj=>?_⟩,fun a ha=>?_,fun a ha=>?_⟩,?_⟩
 ·obtain ⟨h1,rfl⟩:=Qbd hj
  exact (hf j h1).1
 ·obtain ⟨j,hj⟩:=List.mem_iff_getElem?.1 ha
  obtain ⟨h1,rfl⟩:=Qbd hj
  exact (hf j h1).2.1
 ·obtain ⟨j,hj⟩:=List.mem_iff_getElem?.1 ha
  obtain ⟨h1,rfl⟩:=Qbd hj
  exact (hf j h1).2.2.1
 unfold totA
 rw [List.take_length]
 refine Nat.le_trans (QjO _ es (by rw [List.length_map,List.length_range,hel]) fun i a d ha hd=>?_) (by omega)
 obtain ⟨h1,rfl⟩:=Qbd ha
 obtain ⟨d',h2,h3⟩:=(hf i h1).2.2.2
 rw [hd] at h2
 injection h2 with h2
 subst h2
 exact h3
end
end Go.Proofs.YtohajcflklejjaaGreat
