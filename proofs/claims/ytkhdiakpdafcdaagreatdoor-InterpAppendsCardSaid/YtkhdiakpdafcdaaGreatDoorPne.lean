/- What the theorem needs of the texts RangeC, Coll, Trod, TrodV, Frame, Put7, Text02, Cmp02, SameEnt, PairE, PairN, Mend: no condition of its own. -/
import Derived.RangeFuncNested
import Derived.RangeFuncBound
import Derived.RangeFuncCalls
import Derived.RangeFuncLeaves
import Derived.OwnWalkIn
import Derived.ChangeArms
import Derived.DataReads
import Derived.Handed
import Derived.ChangeShapes
import Derived.WideShapes
import Derived.WideKeyArgs
import Derived.ChangeOld
import Derived.ProofKit
import Derived.OpenShut
import Derived.WalkKit
import Derived.Test.YtkhdiakpdafcdaaGreatDoorPna
import Derived.Test.YtkhdiakpdafcdaaGreatDoorPnc
import Derived.Test.YtkhdiakpdafcdaaGreatDoorPnd
set_option maxRecDepth 100000
set_option maxHeartbeats 2000000
namespace Go.Proofs.YtkhdiakpdafcdaaGreatDoor
open Go.RowKit
set_option linter.unusedVariables false
theorem St.then {C C1:Nat→Prop} {a b c:World} (h:St C a b) (k:St C1 b c) (hC:∀ i,i<a.heap.size→C1 i→C i):St C a c:=
 ⟨k.os.trans h.os,k.tape.trans h.tape,k.output.trans h.output,Nat.le_trans h.size k.size,fun i hi hn=>(k.block i (Nat.lt_of_lt_of_le hi h.size) (fun hh=>hn (hC i hi hh))).trans (h.block i hi hn),fun b o=>(k.fz b o).trans (h.fz b o)⟩
theorem St.put {l:Nat} {W:World} {o o':Obj} (h:W.heap[l]? = some o) (hc:o.isCells=false) (hc':o'.isCells=false):St (fun b=>b=l) W (W.putObj l o'):=
 ⟨rfl,rfl,rfl,by simp,fun b _ hn=>World.putObj_heap_other hn,(Turned.put (Nat.le_refl l) h hc hc').fz⟩
structure Takes {α:Type} (P:Program) (l:Nat) (encs:α→Array Value) (G:List α→α→World→World→Prop) (J:List α→(Nat→Prop)→World→Prop) (Jx:List α→World→Prop):Prop where
 lt:∀ pre C W,J pre C W→∀ b,C b→b<W.heap.size
 take:∀ pre C x W0 W1,J pre C W0→Ext W0 W1→G pre x W0 W1→YieldAt Fence.wide 4 P l (encs x) W1 fun e W'=>
  (e=.returned (.bool true)∧∃ C',J (pre++[x]) C' W'∧St C W1 W'∧∀ b,C' b→C b∨W1.heap.size≤b)∨(e=.returned (.bool false)∧Jx (pre++[x]) W'∧St C W1 W')
def SeqC {α:Type} (P:Program) (g:Nat) (lb:Array Value) (encs:α→Array Value) (K:Nat→Prop) (G:List α→α→World→World→Prop) (S Sp:List α→Prop) (w0:World):Prop:=
 ∀ (l:Nat) (J:List α→(Nat→Prop)→World→Prop) (Jx:List α→World→Prop) (C:Nat→Prop) (W:World),Takes P l encs G J Jx→Agree K w0 W→w0.heap.size≤W.heap.size→(∀ b,C b→¬K b)→J [] C W→
  Calls P g (#[.func (.yield l) #[] #[]]++lb) W fun e W'=>(∃ v,e=.returned v)∧((∃ xs C' W0,S xs∧J xs C' W0∧Ext W0 W')∨(∃ pre W0,Sp pre∧Jx pre W0∧Ext W0 W'))
def ownPostC {α:Type} (C:Nat→Prop) (I:List α→(Nat→Prop)→World→Prop) (Ix:Code→List α→World→Prop) (xs:List α) (W:World):Exit→Act→World→Prop
 | .normal,_,W'=>∃ C',I xs C' W'∧St C W W'∧(∀ b,C' b→C b∨W.heap.size≤b)∧(∀ b,C' b→b<W'.heap.size)
 | .ret,_,W'=>St C W W'∧Ix .ret xs W'
 | .exit id,_,W'=>St C W W'∧Ix (.exit id) xs W'
 | .goto t,_,W'=>St C W W'∧Ix (.goto t) xs W'
 | .panic _,_,_=>False
 | .outgrown,_,_=>False
theorem wpIn_rangeC {α:Type} {n:Nat} {P:Program} {g:Operand} {ps:Array Tmp} {assign body:Code} {Q:Exit→Act→World→Prop} {a:Act} {w:World}
  {gf:Nat} {lb:Array Value} (hg:a.eval g=.func (.func gf) #[] lb) (eg:∀ args w,(callFunc gf args).run P w=.ok (.enter gf args) w)
  {encs:α→Array Value} {K:Nat→Prop} {G:List α→α→World→World→Prop} {S Sp:List α→Prop} {w0:World} (hseq:SeqC P gf lb encs K G S Sp w0)
  (hA:Agree K w0 w) (hsz:w0.heap.size≤w.heap.size) (hK:∀ b,K b→b<w.heap.size) (hps:∀ x,(encs x).size=ps.size)
  (I:List α→(Nat→Prop)→World→Prop) (Ix:Code→List α→World→Prop) (C₀:Nat→Prop) (hC:∀ b,C₀ b→b<w.heap.size∧¬K b)
  (hI:∀ {s C W W'},I s C W→St (fun b=>b=w.heap.size+1) W W'→I s C W') (hIx:∀ {c s W W'},Ix c s W→St (fun b=>b=w.heap.size+1) W W'→Ix c s W')
  (h0:∀ W,Ext w W→w.heap.size+2≤W.heap.size→I [] C₀ W)
  (hround:∀ (pre:List α) (C:Nat→Prop) (x:α) (W0 W1:World),I pre C W0→(∀ b,C b→b<W0.heap.size)→w.heap.size+2≤W0.heap.size→¬C (w.heap.size+1)→Ext W0 W1→G pre x W0 W1→
    assign.wpIn (Fence.wide.inRound (w.heap.size+1)) 4 P (Exit.then (fun a1 W2=>Ext W1 W2∧∀ W3,St (fun b=>b=w.heap.size+1) W2 W3→body.wpIn (Fence.wide.inRound (w.heap.size+1)) 4 P (ownPostC C I Ix (pre++[x]) W3) a1 W3) (fun _ _ _=>False))
     { tmps:=(ps.zip (encs x)).foldl (fun t (p,v)=>t.setIfInBounds p v) a.tmps,defers:=[] } W1)
  (hdone:∀ (D:Nat) (xs:List α) (C:Nat→Prop) (W:World),D=w.heap.size→S xs→I xs C W→W.heap[D]? = some (.deferred (some []))→Q .normal { a with defers:={ target:=.collected D,args:=#[] } :: a.defers } W)
  (hstop:∀ (D:Nat) (c:Code) (pre:List α) (W:World),D=w.heap.size→Sp pre→Ix c pre W→W.heap[D]? = some (.deferred (some []))→c.wpIn Fence.wide n P Q { a with defers:={ target:=.collected D,args:=#[] } :: a.defers } W) :
  (Code.rangeFunc g ps assign body).wpIn Fence.wide n P Q a w:=by
 refine wpIn_rangeFunc fun fn hfn=>?_
 rw [show Fence.wide.round=none from rfl]
 -- the loop's record at each of its states;where it lies,and the block of the rounds' deferred calls
 let rec_:LoopState→Option Code→Obj:=fun st pe=>.loop { state:=st,pending:=pe,fn,tmps:=a.tmps,params:=ps,assign,body,defers:=w.heap.size }
 let BK:LoopState→Option Code→World→Prop:=fun st pe W=>W.heap[w.heap.size+1]? = some (rec_ st pe)∧W.heap[w.heap.size]? = some (.deferred (some []))
 have bkL:∀ {st pe W},BK st pe W→w.heap.size+1<W.heap.size:=fun h=>(Array.getElem?_eq_some_iff.1 h.1).1
 have bkE:∀ {st pe W W'},BK st pe W→Ext W W'→BK st pe W':=fun h he=>⟨(he.heap (Array.getElem?_eq_some_iff.1 h.1).1).trans h.1,(he.heap (Array.getElem?_eq_some_iff.1 h.2).1).trans h.2⟩
 have bkS:∀ {st pe W W'} {C:Nat→Prop},BK st pe W→St C W W'→¬C (w.heap.size+1)→¬C w.heap.size→BK st pe W':=fun h hk h1 h2=>⟨(hk.block _ (bkL h) h1).trans h.1,(hk.block _ (by have:=bkL h;omega) h2).trans h.2⟩
 have bkP:∀ {st pe W} (st':LoopState) (pe':Option Code),BK st pe W→BK st' pe' (W.putObj (w.heap.size+1) (rec_ st' pe'))∧St (fun b=>b=w.heap.size+1) W (W.putObj (w.heap.size+1) (rec_ st' pe')):=fun st' pe' h=>
  ⟨⟨World.putObj_heap_same (Array.getElem?_eq_some_iff.1 h.1).1,(World.putObj_heap_other (by omega)).trans h.2⟩,St.put h.1 rfl rfl⟩
 have e1:Ext w (w.alloc (.deferred (some []))):=ext_obj w _ fun W i j h=>by simp [World.frozen?,h]
 have e2:Ext (w.alloc (.deferred (some []))) ((w.alloc (.deferred (some []))).alloc (rec_ .ready none)):=ext_obj _ _ fun W i j h=>by simp [World.frozen?,h,rec_]
 have hrun:=run_enterLoop_outer (P:=P) (w:=w) fn a.tmps ps assign body
 have bk1:BK .ready none ((w.alloc (.deferred (some []))).alloc (rec_ .ready none)):=
  ⟨by have:=World.alloc_heap_new (w.alloc (.deferred (some []))) (rec_ .ready none);rwa [World.size_alloc] at this,(Below.heap_alloc _ _ _ (by simp)).trans (World.alloc_heap_new w _)⟩
 have eW:=e1.trans e2
 have hs1:w.heap.size+2≤((w.alloc (.deferred (some []))).alloc (rec_ .ready none)).heap.size:=by simp
 change _=Result.ok _ ((w.alloc (.deferred (some []))).alloc (rec_ .ready none)) at hrun
 generalize (w.alloc (.deferred (some []))).alloc (rec_ .ready none)=W1 at *
 refine ⟨w.heap.size+1,_,W1,{ target:=.fn (.func gf) lb,args:=#[.func (.yield (w.heap.size+1)) #[] #[]] },W1,gf,#[.func (.yield (w.heap.size+1)) #[] #[]]++lb,W1,hrun,?_,?_,?_,fun h=>by simp [Fence.wide] at h,?_⟩
 ·simp only [resolve,hg]
  simp [go_sem]
 ·intro f' hf';trivial
 ·simp [invoke,go_sem,eg]
 refine callsIn_wide.2 ((hseq (w.heap.size+1) (fun pre C W=>∃ C0:Nat→Prop,C=(fun b=>C0 b∨b=w.heap.size+1)∧I pre C0 W∧(∀ b,C0 b→b<W.heap.size)∧¬C0 (w.heap.size+1)∧¬C0 w.heap.size∧BK .ready none W) (fun pre W=>∃ c,Ix c pre W∧BK .done (some c) W) (fun b=>C₀ b∨b=w.heap.size+1) W1 ⟨?_,?_⟩ (hA.trans (eW.agree hK)) (Nat.le_trans hsz eW.size) ?_
  ⟨C₀,rfl,h0 W1 eW hs1,fun b hb=>by have:=(hC b hb).1;omega,fun h=>by have:=(hC _ h).1;omega,fun h=>by have:=(hC _ h).1;omega,bk1⟩).mono ?_)
 ·rintro pre C W ⟨C0,rfl,-,hlt,-,-,hbk⟩ b (hb | rfl)
  ·exact hlt b hb
  exact bkL hbk
 ·rintro pre C x W0 Wy ⟨C0,rfl,hi,hlt,nL,nD,hbk⟩ hx hgd
  have hbk1:=bkE hbk hx
  have hl0:=bkL hbk
  refine ⟨fn,_,assign,body,run_yield (args:=encs x) hbk1.1 (hps x),roundIn_of_wpIn hfn (wpIn_mono (hround pre C0 x W0 Wy hi hlt (by omega) nL hx hgd) ?_)⟩
  rintro e a3 W2 hp
  cases e with
  | normal=>
    obtain ⟨hx2,hb⟩:=hp
    have hbk2:=bkE hbk1 hx2
    obtain ⟨hbk3,ht3⟩:=bkP .busy none hbk2
    refine ⟨_,run_beginRound hbk2.1 rfl,wpIn_mono (hb _ ht3) ?_⟩
    have hl3:=bkL hbk3
    generalize W2.putObj (w.heap.size+1) (rec_ .busy none)=W3 at *
    rintro e a4 W4 hq
    cases e with
    | normal=>
      obtain ⟨C',hi4,hst,hsub,hlt4⟩:=hq
      have hbk4:=bkS hbk3 hst nL nD
      obtain ⟨hbk5,ht5⟩:=bkP .ready none hbk4
      refine ⟨_,_,run_endRound none hbk4.1,.inl ⟨rfl,_,⟨C',rfl,hI hi4 ht5,fun b hb=>Nat.lt_of_lt_of_le (hlt4 b hb) ht5.size,fun h=>?_,fun h=>?_,hbk5⟩,?_,?_⟩⟩
      ·rcases hsub _ h with h | h
       ·exact nL h
       omega
      ·rcases hsub _ h with h | h
       ·exact nD h
       omega
      ·exact (((hx2.st _).trans (ht3.mono fun i _ hi=>.inr hi)).trans (hst.mono fun i _ hi=>.inl hi)).trans (ht5.mono fun i _ hi=>.inr hi)
      rintro b (hb | rfl)
      ·rcases hsub b hb with h | h
       ·exact .inl (.inl h)
       exact .inr (by have:=hx2.size;have:=ht3.size;omega)
      exact .inl (.inr rfl)
    | ret=>
      have hbk4:=bkS hbk3 hq.1 nL nD
      obtain ⟨hbk5,ht5⟩:=bkP .done (some .ret) hbk4
      exact ⟨_,_,run_endRound (some .ret) hbk4.1,.inr ⟨rfl,⟨.ret,hIx hq.2 ht5,hbk5⟩,(((hx2.st _).trans (ht3.mono fun i _ hi=>.inr hi)).trans (hq.1.mono fun i _ hi=>.inl hi)).trans (ht5.mono fun i _ hi=>.inr hi)⟩⟩
    | exit id=>
      have hbk4:=bkS hbk3 hq.1 nL nD
      obtain ⟨hbk5,ht5⟩:=bkP .done (some (.exit id)) hbk4
      exact ⟨_,_,run_endRound (some (.exit id)) hbk4.1,.inr ⟨rfl,⟨.exit id,hIx hq.2 ht5,hbk5⟩,(((hx2.st _).trans (ht3.mono fun i _ hi=>.inr hi)).trans (hq.1.mono fun i _ hi=>.inl hi)).trans (ht5.mono fun i _ hi=>.inr hi)⟩⟩
    | goto t=>
      have hbk4:=bkS hbk3 hq.1 nL nD
      obtain ⟨hbk5,ht5⟩:=bkP .done (some (.goto t)) hbk4
      exact ⟨_,_,run_endRound (some (.goto t)) hbk4.1,.inr ⟨rfl,⟨.goto t,hIx hq.2 ht5,hbk5⟩,(((hx2.st _).trans (ht3.mono fun i _ hi=>.inr hi)).trans (hq.1.mono fun i _ hi=>.inl hi)).trans (ht5.mono fun i _ hi=>.inr hi)⟩⟩
    | panic ch=>exact hq.elim
    | outgrown=>exact hq.elim
  | ret=>exact hp.elim
  | exit id=>exact hp.elim
  | goto t=>exact hp.elim
  | panic ch=>exact hp.elim
  | outgrown=>exact hp.elim
 ·rintro b (hb | rfl) hk
  ·exact (hC b hb).2 hk
  have:=hK _ hk;omega
 rintro e W2 ⟨⟨v,rfl⟩,(⟨xs,C,W0,hS,⟨C0,rfl,hi,-,-,-,hbk⟩,hx⟩ | ⟨pre,W0,hSp,⟨c,hi,hbk⟩,hx⟩)⟩
 ·have hbk2:=bkE hbk hx
  obtain ⟨hbk5,ht5⟩:=bkP .exhausted none hbk2
  exact ⟨none,_,run_endLoop hbk2.1 (by simp),hdone _ xs C0 _ rfl hS (hI hi ((hx.st _).trans ht5)) hbk5.2⟩
 have hbk2:=bkE hbk hx
 obtain ⟨hbk5,ht5⟩:=bkP .exhausted (some c) hbk2
 exact ⟨some c,_,run_endLoop hbk2.1 (by simp),hstop _ c pre _ rfl hSp (hIx hi ((hx.st _).trans ht5)) hbk5.2⟩
theorem wpListIn_append_x {F:Fence} {n:Nat} {P:Program} (w:World) {ops:Array Oper} {rest:List Oper} {o:Oper} {a:Act} {Q:Exit→Act→World→Prop} (hgd:o.guard=none) (s' x:Operand) (t:TypeId)
  (ho:o.op=.call { callee:=.builtin .append,args:=#[s',x],argTypes:=#[t,t] })
  (base:Nat) (e:TypeId) (i:TypeInfo) (z:Value) (size bytes:Nat) (ht:P.underlying t=some (.slice e)) (hi:P.info? e=some i) (hz:i.zero=some z)
  (hsize:i.size=size) (hby:i.bytes=bytes) (hzs:z.cells.size=size) (hsz:0<size)
  (s:Sl) (k:Nat) (xs:List Value) (hs:a.eval s'=.slice s.a k s.c) (hown:w.ownsRow base e size (.slice s.a k s.c) k xs)
  (G:Nat→Prop) (sx:Sl) (m:Nat) (news:List Value) (hx:a.eval x=.slice sx.a m sx.c) (hsrc:Rd w G size sx m news) (h1:∀ u∈news,u.oneCell'=true)
  (h63:k+m≤maxLen) (hbytes:(k+m)*bytes≤140737488355328) (hbase:base≤w.heap.size)
  (h:∀ (s':Sl) (w':World),w'.ownsRow base e size (.slice s'.a (k+m) s'.c) (k+m) (xs++news)→Wr w w' s.row→(s'.a=s.a∨s'.a=some ⟨w.heap.size,0,none⟩∧Wr w w' none)→wpListIn F n P ops Q rest (a.put o.dst (.slice s'.a (k+m) s'.c)) w'):wpListIn F n P ops Q (o :: rest) a w:=by
 refine wpListIn_plain hgd fun K hK'=>?_
 obtain ⟨v',w',hr,h2,h3,h4⟩:=run_append_x (P:=P) w base t o.type e i z size bytes ht hi hz hsize hby hzs hsz s k xs hown G sx m news hsrc h1 h63 hbytes hbase
 unfold Oper.wpIn
 refine ⟨?_,?_⟩
 ·simp [Oper.about,ho,resolve,Target.leads,Sem.run_pure]
 rw [Oper.semAt_plain F _ _ (by rw [ho];intro c hc';cases hc')]
 simp [execOp,ho,resolve,invoke,builtin,hs,hx,hr,Result.andThen]
 exact hK' _ _ (h v' w' h2 h3 h4)
theorem St.putV {H:Nat→Prop} {a w:World} (h:St H a w) {b:Nat} (hb:a.heap.size≤b∨H b) (o:Nat) (d:Val) (sl so:Sl):St H a (putV w b o d sl so):=
 (((((h.set (p:=⟨b,_,none⟩) hb _).set (p:=⟨b,_,none⟩) hb _).set (p:=⟨b,_,none⟩) hb _).set (p:=⟨b,_,none⟩) hb _).set (p:=⟨b,_,none⟩) hb _).set (p:=⟨b,_,none⟩) hb _
theorem St.putM {H:Nat→Prop} {a w:World} (h:St H a w) {b:Nat} (hb:a.heap.size≤b∨H b) (o:Nat) (k:ByteArray) (d:Val) (sl so:Sl):St H a (putM w b o k d sl so):=
 (h.set (p:=⟨b,_,none⟩) hb _).putV hb _ _ _ _
section
variable {H : Type} {enc : TypeId × Value → H} {P : Program} {w : World} {held : Bool}
abbrev WOk (P:Program) (t:TypeId) (d:DataW H):Prop:=(DataW.weights P t d).all (·≤reachBytes)=true
abbrev tr (enc:TypeId × Value→H) (P:Program) (w:World) (held:Bool) (fuel:Nat) (t:TypeId) (cs:List Value):Option (DataW H × List MemPlace):=DataW.trod enc P w 0 (fun _=>true) held fuel t cs
theorem weightsAll_mem {e:TypeId}:∀ {l:List (DataW H)},(DataW.weightsAll P e l).all (·≤reachBytes)=true→∀ d∈l,WOk P e d
 | [],_,d,hd=>by cases hd
 | x :: l,h,d,hd=>by
   simp only [DataW.weightsAll,List.all_append,Bool.and_eq_true] at h
   rcases List.mem_cons.1 hd with rfl | hd
   ·exact h.1
   exact weightsAll_mem h.2 d hd
theorem weightsEach_at:∀ {ts:List TypeId} {ds:List (DataW H)},(DataW.weightsEach P ts ds).all (·≤reachBytes)=true→∀ (i:Nat) (t:TypeId) (d:DataW H),ts[i]? = some t→ds[i]? = some d→WOk P t d
 | [],_,_,i,t,d,ht,_=>by simp at ht
 | t :: ts,[],_,i,t',d,_,hd=>by simp at hd
 | t :: ts,d :: ds,h,i,t',d',ht,hd=>by
   simp only [DataW.weightsEach,List.all_append,Bool.and_eq_true] at h
   cases i with
   | zero=>simp at ht hd;subst ht hd;exact h.1
   | succ i=>exact weightsEach_at h.2 i t' d' (by simpa using ht) (by simpa using hd)
theorem trod_rows {t e:TypeId} {C B fuel:Nat} {cs:List Value} {x:DataW H × List MemPlace} (ht:P.underlying t=some (.slice e)) (hC:P.cellsOf e=C) (hB:P.bytesOf e=B) (hC0:0<C)
  (h:tr enc P w held fuel t cs=some x) (hw:WOk P t x.1) :
  ∃ (n len:Nat) (s:Sl) (b o:Nat),fuel=n+1∧cs=[.slice s.a len s.c]∧SlAt (Lt w.heap.size) s len b o∧len*B≤140737488351232∧
   ∀ i,i<len→∃ cs' y,cs'.length=C∧(∀ j,j<C→w.cell? ⟨b,o+i*C+j,none⟩=cs'[j]?)∧tr enc P w held n e cs'=some y∧WOk P e y.1:=by
 rcases DataW.trod_slice ht h with ⟨rfl,rfl⟩ | ⟨a,len,cap,elems,rest,n,rfl,rfl,rfl,-,hl,hm,hlen,hel,hsp,-⟩
 ·cases fuel with
  | zero=>simp [tr,DataW.trod] at h
  | succ n=>exact ⟨n,0,Sl.none,0,0,rfl,rfl,.nil _ _,by omega,fun i hi=>by omega⟩
 obtain ⟨hr,hrest⟩:=hsp rfl
 have hw0:(elems.length+rest.length)*P.bytesOf e≤reachBytes∧(DataW.weightsAll P e (elems.map (·.1))).all (·≤reachBytes)=true:=by
  have hw':=hw
  simp only [WOk,DataW.weights,ht,List.all_cons,List.all_append,Bool.and_eq_true,decide_eq_true_eq,List.length_map] at hw'
  exact ⟨hw'.1,hw'.2.1⟩
 rw [hB] at hw0
 rw [hC] at hel hrest
 by_cases hcap:cap=0
 ·subst hcap
  obtain rfl:len=0:=by omega
  exact ⟨n,0,⟨some a,0⟩,0,0,rfl,rfl,.zero a 0 0,by omega,fun i hi=>by omega⟩
 have hlb:len*B≤140737488351232:=by
  have h1:len*B≤(elems.length+rest.length)*B:=Nat.mul_le_mul_right _ (by omega)
  have h2:=hw0.1
  have h3:reachBytes=140737488351232:=rfl
  omega
 have hex:∃ z:DataW H × List MemPlace,∃ k,(w.cells? 0 (a.add (k*C)) C).bind (tr enc P w held n e)=some z∧k=0:=by
  by_cases h0:0<len
  ·exact ⟨elems[0]'(by omega),0,by rw [hel 0 h0];exact List.getElem?_eq_getElem (by omega),rfl⟩
  have:=hrest 0 (by omega)
  have e0:len=0:=by omega
  rw [e0,Nat.add_zero] at this
  exact ⟨rest[0]'(by omega),0,by rw [this];exact List.getElem?_eq_getElem (by omega),rfl⟩
 obtain ⟨z,k,hz,rfl⟩:=hex
 obtain ⟨cs0,hc0,-⟩:=Option.bind_eq_some_iff.1 hz
 obtain ⟨-,hl0,hat0⟩:=World.cells?_some hc0
 have hcell:w.cell? (a.add 0)=some (cs0[0]'(by omega)):=by
  have:=hat0 0 hC0
  rw [Nat.zero_mul] at this
  rw [List.getElem?_eq_getElem (by omega)] at this
  simpa [Addr.add] using this
 obtain ⟨b,o,spot⟩:=a
 have hspot:spot=none:=by simpa [Addr.add] using World.cell?_spot hcell
 subst hspot
 have hblk:b<w.heap.size:=by
  have h1:w.cell? ⟨b,o,none⟩=some (cs0[0]'(by omega)):=by simpa [Addr.add] using hcell
  exact World.block_lt_of_cell? w _ h1
 refine ⟨n,len,⟨some ⟨b,o,none⟩,cap⟩,b,o,rfl,rfl,.some _ _ _ _ hl hm hblk,hlb,fun i hi=>?_⟩
 have he:=hel i hi
 rw [List.getElem?_eq_getElem (by omega)] at he
 obtain ⟨cs',h1,h2⟩:=Option.bind_eq_some_iff.1 he
 obtain ⟨-,hl1,hat1⟩:=World.cells?_some h1
 refine ⟨cs',_,hl1,fun j hj=>?_,h2,weightsAll_mem hw0.2 _ (List.mem_map_of_mem (List.getElem_mem (by omega)))⟩
 have:=hat1 j hj
 rw [Go.WideShapes.add_plain,Go.WideShapes.add_plain] at this
 exact this
theorem trod_i {t:TypeId} {k:IntKind} {fuel:Nat} {cs:List Value} {x:DataW H × List MemPlace} (ht:P.underlying t=some (.int k)) (h:tr enc P w held fuel t cs=some x):∃ n,cs=[.int k n]∧(Lit.int k n).wf=true:=by
 obtain ⟨n,h1,-,h2⟩:=DataW.trod_int ht h
 exact ⟨n,h1,h2⟩
theorem trod_b {t:TypeId} {fuel:Nat} {cs:List Value} {x:DataW H × List MemPlace} (ht:P.underlying t=some .bool) (h:tr enc P w held fuel t cs=some x):∃ b,cs=[.bool b]:=by
 obtain ⟨b,h1,-⟩:=DataW.trod_bool ht h
 exact ⟨b,h1⟩
end
theorem skolem {α:Type} [Inhabited α] {p:Nat→Prop} {q:Nat→α→Prop} (h:∀ i,p i→∃ a,q i a):∃ f:Nat→α,∀ i,p i→q i (f i):=by
 have:∀ i,∃ y:α,p i→q i y:=fun i=>by
  by_cases hp:p i
  ·obtain ⟨a,hq⟩:=h i hp
   exact ⟨a,fun _=>hq⟩
  exact ⟨default,fun h=>absurd h hp⟩
 exact Classical.axiomOfChoice this
instance : Inhabited Val := ⟨.mk 0 false 0 ByteArray.empty [] [] []⟩
instance : Inhabited Sl := ⟨Sl.none⟩
theorem six_list {cs:List Value} (h:cs.length=6):∃ a b c d e f,cs=[a,b,c,d,e,f]:=by
 match cs,h with
 | [a,b,c,d,e,f],_=>exact ⟨_,_,_,_,_,_,rfl⟩
theorem at_of_take {cs l:List Value} {off k:Nat} (h:(cs.drop off).take k=l) {j:Nat} (hj:j<k):cs[off+j]? = l[j]?:=by
 rw [←h,List.getElem?_take,if_pos hj,List.getElem?_drop]
abbrev cellsV (v:Val) (sl so:Sl):List Value:=[.int .i64 v.kind,.bool v.b,.int .i64 v.i,.string v.t,.slice sl.a v.l.length sl.c,.slice so.a v.ok.length so.c]
theorem ofFn_get {α:Type} {n:Nat} {f:Nat→α} {j:Nat} {d:α} (h:((List.range n).map f)[j]? = some d):j<n∧d=f j:=by
 rw [List.getElem?_map] at h
 obtain ⟨k,hk,rfl⟩:=Option.map_eq_some_iff.1 h
 obtain ⟨h1,rfl⟩:=List.getElem?_eq_some_iff.1 hk
 simp at h1
 exact ⟨h1,by simp⟩
end Go.Proofs.YtkhdiakpdafcdaaGreatDoor
namespace Go.Proofs.YtkhdiakpdafcdaaGreatDoor
open Go.RowKit
set_option linter.unusedVariables false
set_option linter.unusedSimpArgs false
section
variable {H : Type} {enc : TypeId × Value → H} {w : World} {held : Bool}
theorem cellsOfValue:Tryz.prog.cellsOf 28=6:=by kernel_rfl
theorem cellsOfMember:Tryz.prog.cellsOf 123=7:=by kernel_rfl
theorem bytesOfValue:Tryz.prog.bytesOf 28=88:=by kernel_rfl
theorem bytesOfMember:Tryz.prog.bytesOf 123=104:=by kernel_rfl
structure LA where
 kd:Int
 k:ByteArray
 v:Val
 sl:Sl
 so:Sl
instance : Inhabited LA := ⟨⟨0, ByteArray.empty, default, Sl.none, Sl.none⟩⟩
end
end Go.Proofs.YtkhdiakpdafcdaaGreatDoor
namespace Go.Proofs.YtkhdiakpdafcdaaGreatDoor
open Go.ChangeShapes Go.WideShapes Go.ChangeAt Go.RowKit
set_option linter.unusedVariables false
theorem trodAll_stays {H:Type} {enc:TypeId × Value→H} {P:Program} (hl:laidOutB P=true) {W W':World} (hx:Below W.heap.size W W') (sp':Nat→Bool) :
  ∀ {ts:List TypeId} {vs:List Value} {ds:List (DataW H)} {ps:List MemPlace},(∀ t∈ts,P.readableRec t=true∧t<P.types.size)→DataW.TrodAll enc P W 0 (fun _=>true) true ts vs ds ps→
   (∀ p∈ps,p.block<W.heap.size)→(∀ p∈ps,sp' p.block=true)→DataW.TrodAll enc P W' 0 sp' true ts vs ds ps
 | [],vs,ds,ps,_,h,_,_=>by
   obtain ⟨rfl,rfl,rfl⟩:=trodAll_nil h
   exact rfl
 | t :: ts,vs,ds,ps,hr,h,hb,hs=>by
   obtain ⟨v0,vs0,d0,ds0,p0,q0,rfl,rfl,rfl,h0,r0⟩:=trodAll_cons h
   refine ⟨p0,q0,Go.WideElems.Trod_stays hl (hr t (List.mem_cons_self ..)).1 (hr t (List.mem_cons_self ..)).2 h0 (fun p hp=>?_) (fun p hp=>hs p (List.mem_append_left _ hp)),
    trodAll_stays hl hx sp' (fun t ht=>hr t (List.mem_cons_of_mem _ ht)) r0 (fun p hp=>hb p (List.mem_append_right _ hp)) (fun p hp=>hs p (List.mem_append_right _ hp)),rfl⟩
   have hlt:=hb p (List.mem_append_left _ hp)
   cases p with
   | cell b o=>exact hx.cell (p:=⟨b,o,none⟩) hlt
   | map b=>exact hx.block b hlt
end Go.Proofs.YtkhdiakpdafcdaaGreatDoor
namespace Go.Proofs.YtkhdiakpdafcdaaGreatDoor
open Go.RowKit
set_option linter.unusedVariables false
set_option linter.unusedSimpArgs false
theorem Wr.cell0 {w w' w'':World} {row:Option Nat} (h:Wr w' w'' row) (hx:Ext w w') {M:Nat} {o:Nat} (hn:row≠some M) (hl:M<w.heap.size):w''.cell? ⟨M,o,none⟩=w.cell? ⟨M,o,none⟩∧M<w''.heap.size:=
 ⟨((h.agree (F:=fun b=>b=M) (fun i hi=>by subst hi;exact Nat.lt_of_lt_of_le hl hx.size) (fun k hk e=>hn (e▸hk))).cell rfl).trans (hx.cell hl),Nat.lt_of_lt_of_le hl (Nat.le_trans hx.size h.grown.size)⟩
section
variable {P : Program} {w : World}
end
theorem numbers_any (w:World) (a b:Int):Calls Tryz.prog 95 #[.int .i64 a,.int .i64 b] w fun e w'=>e=.returned (.int .i64 (numI a b))∧w=w':=by
 by_cases h:a<b
 ·have hn:numI a b = -1:=by simp [numI,h]
  rw [hn]
  go_enter Tryz.func95,Tryz.ntmps95
  go_wp2_with fail
  go_ret
  exact ⟨rfl,rfl⟩
 by_cases h':b<a
 ·have hn:numI a b=1:=by simp [numI,h,h']
  rw [hn]
  go_enter Tryz.func95,Tryz.ntmps95
  go_wp2_with fail
  go_ret
  exact ⟨rfl,rfl⟩
 have hn:numI a b=0:=by simp [numI,h,h']
 rw [hn]
 go_enter Tryz.func95,Tryz.ntmps95
 go_wp2_with fail
 go_ret
 exact ⟨rfl,rfl⟩
theorem bl_same (p x y:List UInt8):Op.bytesLess (p++x) (p++y)=Op.bytesLess x y:=by
 induction p with
 | nil=>rfl
 | cons a p ih=>simp [Op.bytesLess,ih]
theorem byte_get {a:ByteArray} {i:Nat} (h:i<a.size):a.toList[i]? = some a[i]:=by
 rw [ByteArray.toList_eq]
 obtain ⟨d⟩:=a
 have h:i<d.size:=h
 show d.toList[i]? = some d[i]
 simp [h]
theorem toList_len (a:ByteArray):a.toList.length=a.size:=by
 rw [ByteArray.toList_eq];rfl
theorem textI_diff {a b:ByteArray} {i:Nat} (ha:i<a.size) (hb:i<b.size) (hp:a.toList.take i=b.toList.take i) (hne:a[i]≠b[i]):textI a b=numI (a[i].toNat:Int) (b[i].toNat:Int):=by
 have e1:a.toList=a.toList.take i++a[i] :: a.toList.drop (i+1):=by
  have h:=byte_get ha
  obtain ⟨h1,h2⟩:=List.getElem?_eq_some_iff.1 h
  conv=>lhs;rw [←List.take_append_drop i a.toList,List.drop_eq_getElem_cons h1,h2]
 have e2:b.toList=a.toList.take i++b[i] :: b.toList.drop (i+1):=by
  have h:=byte_get hb
  obtain ⟨h1,h2⟩:=List.getElem?_eq_some_iff.1 h
  conv=>lhs;rw [←List.take_append_drop i b.toList,List.drop_eq_getElem_cons h1,h2]
  rw [hp]
 unfold textI klt
 generalize a[i]=x at *
 generalize b[i]=y at *
 have key:∀ (P u v A B:List UInt8),A=P++x :: u→B=P++y :: v→Op.bytesLess A B=decide (x<y)∧Op.bytesLess B A=decide (y<x):=by
  rintro P u v A B rfl rfl
  have hne':¬x=y:=hne
  have hne2:¬y=x:=fun h=>hne h.symm
  rw [bl_same,bl_same]
  exact ⟨by simp [Op.bytesLess,hne'],by simp [Op.bytesLess,hne2]⟩
 obtain ⟨k1,k2⟩:=key _ _ _ _ _ e1 e2
 rw [k1,k2]
 unfold numI
 have h1:(x<y)↔((x.toNat:Int)<(y.toNat:Int)):=by rw [UInt8.lt_iff_toNat_lt];omega
 have h2:(y<x)↔((y.toNat:Int)<(x.toNat:Int)):=by rw [UInt8.lt_iff_toNat_lt];omega
 simp only [decide_eq_true_eq,h1,h2]
theorem textI_pre {a b:ByteArray} (hp:a.toList.take (min a.size b.size)=b.toList.take (min a.size b.size)):textI a b=numI (a.size:Int) (b.size:Int):=by
 have la:=toList_len a
 have lb:=toList_len b
 rcases Nat.lt_trichotomy a.size b.size with h | h | h
 ·have e:b.toList=a.toList++b.toList.drop a.size:=by
   rw [Nat.min_eq_left (Nat.le_of_lt h),←la,List.take_length,la] at hp
   conv=>lhs;rw [←List.take_append_drop a.size b.toList,←hp]
  obtain ⟨c,r,hr⟩:∃ c r,b.toList.drop a.size=c :: r:=by
   cases hd:b.toList.drop a.size with
   | nil=>have:=congrArg List.length hd;rw [List.length_drop,lb] at this;simp at this;omega
   | cons c r=>exact ⟨c,r,rfl⟩
  have k1:klt a b=true:=by
   unfold klt
   rw [e,hr]
   conv=>lhs;arg 1;rw [←List.append_nil a.toList]
   rw [bl_same];rfl
  unfold textI numI
  rw [if_pos k1,if_pos (by omega)]
 ·have e:a=b:=toList_inj (by rw [h,Nat.min_self,←lb] at hp;rw [List.take_length] at hp;rw [←hp,lb,←h,←la,List.take_length])
  subst e
  rw [textI_self,numI_self]
 have e:a.toList=b.toList++a.toList.drop b.size:=by
  rw [Nat.min_eq_right (Nat.le_of_lt h)] at hp
  conv=>lhs;rw [←List.take_append_drop b.size a.toList,hp,←lb,List.take_length]
  rw [lb]
 obtain ⟨c,r,hr⟩:∃ c r,a.toList.drop b.size=c :: r:=by
  cases hd:a.toList.drop b.size with
  | nil=>have:=congrArg List.length hd;rw [List.length_drop,la] at this;simp at this;omega
  | cons c r=>exact ⟨c,r,rfl⟩
 have k1:klt b a=true:=by
  unfold klt
  rw [e,hr]
  conv=>lhs;arg 1;rw [←List.append_nil b.toList]
  rw [bl_same];rfl
 unfold textI numI
 rw [if_neg (by rw [klt_asymm k1];simp),if_pos k1,if_neg (by omega),if_pos (by omega)]
theorem texts_any (w:World) (a b:ByteArray) (ha:a.size≤maxLen) (hb:b.size≤maxLen):Calls Tryz.prog 96 #[.string a,.string b] w fun e w'=>e=.returned (.int .i64 (textI a b))∧Ext w w':=by
 have hn:∀ W x y,Calls Tryz.prog 95 #[.int .i64 x,.int .i64 y] W fun e w'=>e=.returned (.int .i64 (numI x y))∧W=w':=numbers_any
 unfold maxLen at ha hb
 have HN:=Lib.hid hn
 clear hn
 go_enter Tryz.func96,Tryz.ntmps96
 go_wp2_with fail
 go_loopw [5] (fun q wr=>∃ i:Nat,q=.int .i64 i∧i≤a.size∧i≤b.size∧a.toList.take i=b.toList.take i∧Ext w wr) (fun q _=>a.size - (intOf q).toNat)
 case atStart=>exact ⟨0,rfl,Nat.zero_le _,Nat.zero_le _,rfl,Ext.refl w⟩
 obtain ⟨i,rfl,hia,hib,hp,hx⟩:=hrel
 by_cases h1:i<a.size
 ·by_cases h2:i<b.size
  ·have g1:(i:Int)<(a.size:Int):=by omega
   have g2:(i:Int)<(b.size:Int):=by omega
   have HP:=Lib.hid hp
   have HX:=Lib.hid hx
   clear hp hx
   go_wp2_with fail
   go_quiet (fail)
   go_wp2_with fail
   case _=>
    have hne:(((a[i].toNat:Nat):Int) != ((b[i].toNat:Nat):Int))=true:=by assumption
    have hne':a[i]≠b[i]:=fun e=>by rw [e] at hne;simp at hne
    have HT:=Lib.hid (textI_diff h1 h2 HP.out hne')
    have hwa:wrap64 ((a[i].toNat:Nat):Int)=((a[i].toNat:Nat):Int):=by have:=a[i].toNat_lt;unfold wrap64;omega
    have hwb:wrap64 ((b[i].toNat:Nat):Int)=((b[i].toNat:Nat):Int):=by have:=b[i].toNat_lt;unfold wrap64;omega
    have HWA:=Lib.hid hwa
    have HWB:=Lib.hid hwb
    clear hne' hwa hwb
    go_quiet ((go_at_call 95;refine (HN.out _ _ _).mono ?_;rintro e w2 ⟨rfl,rfl⟩;exact ⟨rfl,_,rfl⟩))
    go_wp2_with fail
    go_ret
    rw [HT.out,HWA.out,HWB.out]
    exact ⟨rfl,(HX.out.drewN _).drewN _⟩
   case roundEnd=>
    have hne:(((a[i].toNat:Nat):Int) != ((b[i].toNat:Nat):Int))=false:=by assumption
    have he:a[i]=b[i]:=UInt8.toNat_inj.1 (by have h:=bne_eq_false_iff_eq.1 hne;omega)
    refine ⟨⟨i+1,by simp,by omega,by omega,?_,HX.out.drewN _⟩,?_⟩
    ·rw [List.take_add_one,List.take_add_one,byte_get h1,byte_get h2,HP.out,he]
    simp [intOf];omega
  have g1:(i:Int)<(a.size:Int):=by omega
  have g2:¬(i:Int)<(b.size:Int):=by omega
  obtain rfl:i=b.size:=by omega
  have HT:=Lib.hid (textI_pre (a:=a) (b:=b) (by rw [Nat.min_eq_right hia];exact hp))
  have HX:=Lib.hid hx
  clear hp hx
  go_wp2_with fail
  refine (HN.out _ _ _).mono ?_
  rintro e w2 ⟨rfl,rfl⟩
  go_wp2_with fail
  go_ret
  rw [HT.out]
  exact ⟨rfl,HX.out⟩
 have g1:¬(i:Int)<(a.size:Int):=by omega
 obtain rfl:i=a.size:=by omega
 have HT:=Lib.hid (textI_pre (a:=a) (b:=b) (by rw [Nat.min_eq_left hib];exact hp))
 have HX:=Lib.hid hx
 clear hp hx
 go_wp2_with fail
 refine (HN.out _ _ _).mono ?_
 rintro e w2 ⟨rfl,rfl⟩
 go_wp2_with fail
 go_ret
 rw [HT.out]
 exact ⟨rfl,HX.out⟩
def CmpPost (n:Int) (w:World) (e:Ending) (w':World):Prop:=e=.returned (.int .i64 n)∧Ext w w'
theorem cmpL_drop {l l':List Val} {j:Nat} {a b:Val} (ha:l[j]? = some a) (hb:l'[j]? = some b):cmpL (l.drop j) (l'.drop j)=if cmpV a b≠0 then cmpV a b else cmpL (l.drop (j+1)) (l'.drop (j+1)):=by
 obtain ⟨h1,rfl⟩:=List.getElem?_eq_some_iff.1 ha
 obtain ⟨h2,rfl⟩:=List.getElem?_eq_some_iff.1 hb
 rw [List.drop_eq_getElem_cons h1,List.drop_eq_getElem_cons h2]
 simp only [cmpL]
theorem cmpL_end {l l':List Val} {j:Nat} (h:j=l.length∨j=l'.length) (h1:j≤l.length) (h2:j≤l'.length):cmpL (l.drop j) (l'.drop j)=numI (l.length:Int) (l'.length:Int):=by
 by_cases ha:j=l.length
 ·have e1:l.drop j=[]:=List.drop_eq_nil_iff.2 (by omega)
  rw [e1]
  simp only [cmpL,List.length_drop]
  unfold numI
  by_cases hb:l'.length - j=0
  ·rw [if_pos hb,if_neg (by omega),if_neg (by omega)]
  rw [if_neg hb,if_pos (by omega)]
 obtain ⟨a,r,hr⟩:∃ a r,l.drop j=a :: r:=by
  cases hd:l.drop j with
  | nil=>have:=List.drop_eq_nil_iff.1 hd;omega
  | cons a r=>exact ⟨a,r,rfl⟩
 have e2:l'.drop j=[]:=List.drop_eq_nil_iff.2 (by omega)
 rw [hr,e2]
 simp only [cmpL]
 unfold numI
 rw [if_neg (by omega),if_pos (by omega)]
theorem cmpM_drop {l l':List Val} {k k':List ByteArray} {j:Nat} {a b:Val} {x y:ByteArray} (ha:l[j]? = some a) (hb:l'[j]? = some b) (hx:k[j]? = some x) (hy:k'[j]? = some y) :
  cmpM (l.drop j) (k.drop j) (k'.drop j) (l'.drop j)=if textI x y≠0 then textI x y else if cmpV a b≠0 then cmpV a b else cmpM (l.drop (j+1)) (k.drop (j+1)) (k'.drop (j+1)) (l'.drop (j+1)):=by
 obtain ⟨h1,rfl⟩:=List.getElem?_eq_some_iff.1 ha
 obtain ⟨h2,rfl⟩:=List.getElem?_eq_some_iff.1 hb
 obtain ⟨h3,rfl⟩:=List.getElem?_eq_some_iff.1 hx
 obtain ⟨h4,rfl⟩:=List.getElem?_eq_some_iff.1 hy
 rw [List.drop_eq_getElem_cons h1,List.drop_eq_getElem_cons h2,List.drop_eq_getElem_cons h3,List.drop_eq_getElem_cons h4]
 simp only [cmpM,List.headD_cons,List.tail_cons]
 rfl
theorem cmpM_end {l l':List Val} {k k':List ByteArray} {j:Nat} (h:j=l.length∨j=l'.length) (h1:j≤l.length) (h2:j≤l'.length):cmpM (l.drop j) (k.drop j) (k'.drop j) (l'.drop j)=numI (l.length:Int) (l'.length:Int):=by
 by_cases ha:j=l.length
 ·have e1:l.drop j=[]:=List.drop_eq_nil_iff.2 (by omega)
  rw [e1]
  simp only [cmpM,List.length_drop]
  unfold numI
  by_cases hb:l'.length - j=0
  ·rw [if_pos hb,if_neg (by omega),if_neg (by omega)]
  rw [if_neg hb,if_pos (by omega)]
 obtain ⟨a,r,hr⟩:∃ a r,l.drop j=a :: r:=by
  cases hd:l.drop j with
  | nil=>have:=List.drop_eq_nil_iff.1 hd;omega
  | cons a r=>exact ⟨a,r,rfl⟩
 have e2:l'.drop j=[]:=List.drop_eq_nil_iff.2 (by omega)
 rw [hr,e2]
 simp only [cmpM]
 unfold numI
 rw [if_neg (by omega),if_pos (by omega)]
theorem cmp02_any (m:Nat):∀ (x y:Val),SizeOf.sizeOf x≤m→∀ (w:World) (sl so sl' so':Sl),RV w (Lt w.heap.size) x sl so→RV w (Lt w.heap.size) y sl' so'→
  Calls Tryz.prog 58 #[aggV x sl so,aggV y sl' so'] w (CmpPost (cmpV x y) w):=by
 induction m with
 | zero=>intro d y hd;have:=Val.sz_pos d;omega
 | succ m ih=>
 intro x y hd w sl so sl' so' h h'
 have HI:=Lib.hid ih
 clear ih
 have hn:∀ W a b,Calls Tryz.prog 95 #[.int .i64 a,.int .i64 b] W fun e w'=>e=.returned (.int .i64 (numI a b))∧W=w':=numbers_any
 have HN:=Lib.hid hn
 clear hn
 obtain ⟨k,b,i,t,l,ok,ov⟩:=x
 obtain ⟨k',b',i',t',l',ok',ov'⟩:=y
 show Calls _ _ #[.agg #[.int .i64 k,.bool b,.int .i64 i,.string t,.slice sl.a l.length sl.c,.slice so.a ok.length so.c],.agg #[.int .i64 k',.bool b',.int .i64 i',.string t',.slice sl'.a l'.length sl'.c,.slice so'.a ok'.length so'.c]] _ _
 cases h with
 | mk bl fl bo fo cl co hl ho hov el rl ek eo ro bk bi bt nl no=>
 cases h' with
 | mk bl' fl' bo' fo' cl' co' hl' ho' hov' el' rl' ek' eo' ro' bk' bi' bt' nl' no'=>
 have hsl:∀ (j:Nat) (d:Val),l[j]? = some d→SizeOf.sizeOf d≤m:=fun j d hj=>Nat.le_of_lt_succ (Nat.lt_of_lt_of_le (Val.sz_l hj) hd)
 have hso:∀ (j:Nat) (d:Val),ov[j]? = some d→SizeOf.sizeOf d≤m:=fun j d hj=>Nat.le_of_lt_succ (Nat.lt_of_lt_of_le (Val.sz_o hj) hd)
 have HSL:=Lib.hid hsl
 have HSO:=Lib.hid hso
 have HEL:=Lib.hid el
 have HRL:=Lib.hid rl
 have HEK:=Lib.hid ek
 have HEO:=Lib.hid eo
 have HRO:=Lib.hid ro
 have HOV:=Lib.hid hov
 have HEL':=Lib.hid el'
 have HRL':=Lib.hid rl'
 have HEK':=Lib.hid ek'
 have HEO':=Lib.hid eo'
 have HRO':=Lib.hid ro'
 have HOV':=Lib.hid hov'
 have hcv:cmpV (.mk k b i t l ok ov) (.mk k' b' i' t' l' ok' ov')=if k≠k' then numI k k' else if k=2 then boolI b b' else if k=3 then numI i i' else if k=4 then textI t t' else if k=5 then cmpL l l' else if k=6 then cmpM ov ok ok' ov' else 0:=by
  simp only [cmpV,Val.kind,Val.b,Val.i,Val.t,Val.l,Val.ok,Val.ov]
  rfl
 rw [hcv]
 clear hsl hso el rl ek eo ro hov hd el' rl' ek' eo' ro' hov' hcv
 by_cases hkk:k=k'
 ·subst hkk
  have hkb:(k != k)=false:=by simp
  rw [if_neg (by simp)]
  by_cases h2:k=2
  ·subst h2
   rw [if_pos rfl]
   cases b <;> cases b' <;>
   ·go_enter Tryz.func58,Tryz.ntmps58
    go_wp2_with fail
    go_ret
    exact ⟨rfl,((Ext.refl w).alloc _ _).alloc _ _⟩
  by_cases h3:k=3
  ·subst h3
   rw [if_neg h2,if_pos rfl]
   clear h2
   go_enter Tryz.func58,Tryz.ntmps58
   go_wp2_with fail
   refine (HN.out _ _ _).mono ?_
   rintro e w2 ⟨rfl,rfl⟩
   go_wp2_with fail
   go_ret
   exact ⟨rfl,((Ext.refl w).alloc _ _).alloc _ _⟩
  by_cases h4:k=4
  ·subst h4
   rw [if_neg h2,if_neg h3,if_pos rfl]
   clear h2 h3
   have hx:=fun W=>texts_any W t t' bt bt'
   have HTX:=Lib.hid hx
   clear hx
   go_enter Tryz.func58,Tryz.ntmps58
   go_wp2_with fail
   refine (HTX.out _).mono ?_
   rintro e w2 ⟨rfl,hx⟩
   have HX:=Lib.hid hx
   clear hx
   go_wp2_with fail
   go_ret
   exact ⟨rfl,(((Ext.refl w).alloc _ _).alloc _ _).trans HX.out⟩
  rw [if_neg h2,if_neg h3,if_neg h4]
  by_cases h5:k=5
  ·subst h5
   rw [if_pos rfl]
   clear h2 h3 h4
   have hnl:l.length≤140737488355328:=by omega
   have hnl':l'.length≤140737488355328:=by omega
   go_enter Tryz.func58,Tryz.ntmps58
   go_wp2_with fail
   generalize hW0:World.alloc (World.alloc _ _) _=W0
   obtain ⟨hx0,hz0,hb0,hb1⟩:=two_blocks w _ _ _ _ W0 hW0
   clear hW0
   have HX0:=Lib.hid hx0
   have HB0:=Lib.hid hb0
   have HB1:=Lib.hid hb1
   clear hx0 hb0 hb1
   go_loopw [5] (fun q wr=>∃ j:Nat,q=.int .i64 j∧j≤l.length∧j≤l'.length∧cmpL l l'=cmpL (l.drop j) (l'.drop j)∧Ext W0 wr) (fun q _=>l.length - (intOf q).toNat)
   case atStart=>exact ⟨0,rfl,Nat.zero_le _,Nat.zero_le _,rfl,Ext.refl W0⟩
   obtain ⟨j,rfl,hjl,hjl',hp,hx⟩:=hrel
   obtain ⟨-,-,-,-,q4,-⟩:=(HB0.out.ext hx).c6
   obtain ⟨-,-,-,-,r4,-⟩:=(HB1.out.ext hx).c6
   have lw0:=(HB0.out.ext hx).lt
   have lw1:=(HB1.out.ext hx).lt
   have HP:=Lib.hid hp
   have HX:=Lib.hid hx
   by_cases h1:j<l.length
   ·by_cases h2:j<l'.length
    ·have g1:(j:Int)<(l.length:Int):=by omega
     have g2:(j:Int)<(l'.length:Int):=by omega
     obtain ⟨d,hd⟩:∃ d,l[j]? = some d:=⟨_,List.getElem?_eq_getElem h1⟩
     obtain ⟨d',hd'⟩:∃ d,l'[j]? = some d:=⟨_,List.getElem?_eq_getElem h2⟩
     have HD:=Lib.hid (cmpL_drop hd hd')
     have hag:Agree (Lt w.heap.size) w wr:=(HX0.out.trans hx).agree fun _ h=>h
     obtain ⟨sa,sc⟩:=sl
     obtain ⟨sa',sc'⟩:=sl'
     obtain ⟨rfl,hlc,hcm⟩:=hl.eq (by omega)
     obtain ⟨rfl,hlc',hcm'⟩:=hl'.eq (by omega)
     have hbl:=hl.fits (by omega)
     have hbl':=hl'.fits (by omega)
     obtain ⟨v0,v1,v2,v3,v4,v5⟩:=(HEL.out j d hd).agree hag hbl
     obtain ⟨v0',v1',v2',v3',v4',v5'⟩:=(HEL'.out j d' hd').agree hag hbl'
     have hic:∀ W,Ext wr W→Calls Tryz.prog 58 #[aggV d (cl j).1 (cl j).2,aggV d' (cl' j).1 (cl' j).2] W (CmpPost (cmpV d d') W):=fun W hW=>
      HI.out d d' (HSL.out j d hd) W _ _ _ _ (((HRL.out j d hd).agree (hag.trans (hW.agree fun _ h=>Nat.lt_of_lt_of_le h (Nat.le_trans HX0.out.size hx.size)))).mono fun i hi=>Nat.lt_of_lt_of_le hi (Nat.le_trans HX0.out.size (Nat.le_trans hx.size hW.size)))
       (((HRL'.out j d' hd').agree (hag.trans (hW.agree fun _ h=>Nat.lt_of_lt_of_le h (Nat.le_trans HX0.out.size hx.size)))).mono fun i hi=>Nat.lt_of_lt_of_le hi (Nat.le_trans HX0.out.size (Nat.le_trans hx.size hW.size)))
     have lb:bl<wr.heap.size:=Nat.lt_of_lt_of_le hbl (Nat.le_trans HX0.out.size hx.size)
     have lb':bl'<wr.heap.size:=Nat.lt_of_lt_of_le hbl' (Nat.le_trans HX0.out.size hx.size)
     clear hp hx hd hd' hag hbl hbl'
     go_wp2_with fail
     refine wp_region_held_drew (S:=(fun w'=>w'.cell? ⟨w.heap.size,4,none⟩=some (.slice (some ⟨bl,fl,none⟩) l.length sc)∧w'.cell? ⟨w.heap.size+1,4,none⟩=some (.slice (some ⟨bl',fl',none⟩) l'.length sc')∧w'.cell? ⟨bl,fl+j*6,none⟩=some (.int .i64 d.kind)∧w'.cell? ⟨bl,fl+j*6+1,none⟩=some (.bool d.b)∧w'.cell? ⟨bl,fl+j*6+2,none⟩=some (.int .i64 d.i)∧w'.cell? ⟨bl,fl+j*6+3,none⟩=some (.string d.t)∧w'.cell? ⟨bl,fl+j*6+4,none⟩=some (.slice (cl j).1.a d.l.length (cl j).1.c)∧w'.cell? ⟨bl,fl+j*6+5,none⟩=some (.slice (cl j).2.a d.ok.length (cl j).2.c)∧w'.cell? ⟨bl',fl'+j*6,none⟩=some (.int .i64 d'.kind)∧w'.cell? ⟨bl',fl'+j*6+1,none⟩=some (.bool d'.b)∧w'.cell? ⟨bl',fl'+j*6+2,none⟩=some (.int .i64 d'.i)∧w'.cell? ⟨bl',fl'+j*6+3,none⟩=some (.string d'.t)∧w'.cell? ⟨bl',fl'+j*6+4,none⟩=some (.slice (cl' j).1.a d'.l.length (cl' j).1.c)∧w'.cell? ⟨bl',fl'+j*6+5,none⟩=some (.slice (cl' j).2.a d'.ok.length (cl' j).2.c))) (by kernel_rfl) (⟨q4,r4,v0,v1,v2,v3,v4,v5,v0',v1',v2',v3',v4',v5'⟩) (fun hHeld=>?_)
     refine heldU 0 (some 61) hHeld ?_
     refine heldU 1 (some 62) hHeld ?_
     refine heldU 2 (some 63) hHeld ?_
     refine heldU 3 (some 64) hHeld ?_
     refine heldU 4 (some 65) hHeld ?_
     refine heldU 5 (some 66) hHeld ?_
     refine heldU 6 (some 67) hHeld ?_
     refine heldU 7 (some 68) hHeld ?_
     refine heldU 8 (some 69) hHeld ?_
     refine heldU 9 (some 70) hHeld ?_
     refine held_call (i:=10) (by kernel_rfl) rfl (by rfl) (fun K hK=>?_)
     go_simp
     (refine (hic _ ((Ext.refl wr).drew)).mono ?_;rintro e w2 ⟨rfl,hx2⟩;replace hx2:=((Ext.refl wr).drew).trans hx2)
     refine hK.out _ _ (⟨(hx2.cell lw0).trans q4,(hx2.cell lw1).trans r4,(hx2.cell lb).trans v0,(hx2.cell lb).trans v1,(hx2.cell lb).trans v2,(hx2.cell lb).trans v3,(hx2.cell lb).trans v4,(hx2.cell lb).trans v5,(hx2.cell lb').trans v0',(hx2.cell lb').trans v1',(hx2.cell lb').trans v2',(hx2.cell lb').trans v3',(hx2.cell lb').trans v4',(hx2.cell lb').trans v5'⟩) (fun hHeld=>?_)
     clear hK K
     try simp only [Act.put,List.setIfInBounds_toArray,List.set_cons_zero,List.set_cons_succ]
     refine heldU 11 (some 6) hHeld ?_
     refine wpAnyH_done (by kernel_rfl) ?_ _
     clear hHeld hic q4 r4 v0 v1 v2 v3 v4 v5 v0' v1' v2' v3' v4' v5'
     have HX2:=Lib.hid (HX.out.trans hx2)
     clear hx2
     by_cases hc:cmpV d d'=0
     ·have hcb:(cmpV d d' != 0)=false:=by simp [hc]
      have HC:=Lib.hid hc
      clear hc
      go_wp2_with fail
      go_roundw
      case rel=>exact ⟨j+1,by go_num,h1,h2,by rw [HP.out,HD.out,if_neg (by simp [HC.out])],HX2.out⟩
      simp [intOf];omega
     have hcb:(cmpV d d' != 0)=true:=bne_iff_ne.2 hc
     have HC:=Lib.hid hc
     clear hc
     go_wp2_with fail
     go_ret
     rw [HP.out,HD.out,if_pos HC.out]
     exact ⟨rfl,HX0.out.trans HX2.out⟩
    have g1:(j:Int)<(l.length:Int):=by omega
    have g2:¬(j:Int)<(l'.length:Int):=by omega
    have HE:=Lib.hid (cmpL_end (l:=l) (l':=l') (j:=j) (by omega) hjl hjl')
    clear hp hx
    go_wp2_with fail
    refine (HN.out _ _ _).mono ?_
    rintro e w2 ⟨rfl,rfl⟩
    go_wp2_with fail
    go_ret
    rw [HP.out,HE.out]
    exact ⟨rfl,HX0.out.trans HX.out⟩
   have g1:¬(j:Int)<(l.length:Int):=by omega
   have HE:=Lib.hid (cmpL_end (l:=l) (l':=l') (j:=j) (by omega) hjl hjl')
   clear hp hx
   go_wp2_with fail
   refine (HN.out _ _ _).mono ?_
   rintro e w2 ⟨rfl,rfl⟩
   go_wp2_with fail
   go_ret
   rw [HP.out,HE.out]
   exact ⟨rfl,HX0.out.trans HX.out⟩
  by_cases h6:k=6
  ·subst h6
   rw [if_neg h5,if_pos rfl]
   clear h2 h3 h4 h5
   have hnl:ok.length≤140737488355328:=by omega
   have hnl':ok'.length≤140737488355328:=by omega
   go_enter Tryz.func58,Tryz.ntmps58
   go_wp2_with fail
   generalize hW0:World.alloc (World.alloc _ _) _=W0
   obtain ⟨hx0,hz0,hb0,hb1⟩:=two_blocks w _ _ _ _ W0 hW0
   clear hW0
   have HX0:=Lib.hid hx0
   have HB0:=Lib.hid hb0
   have HB1:=Lib.hid hb1
   clear hx0 hb0 hb1
   go_loopw [7] (fun q wr=>∃ j:Nat,q=.int .i64 j∧j≤ok.length∧j≤ok'.length∧cmpM ov ok ok' ov'=cmpM (ov.drop j) (ok.drop j) (ok'.drop j) (ov'.drop j)∧Ext W0 wr) (fun q _=>ok.length - (intOf q).toNat)
   case atStart=>exact ⟨0,rfl,Nat.zero_le _,Nat.zero_le _,rfl,Ext.refl W0⟩
   obtain ⟨j,rfl,hjl,hjl',hp,hx⟩:=hrel
   obtain ⟨-,-,-,-,-,q5⟩:=(HB0.out.ext hx).c6
   obtain ⟨-,-,-,-,-,r5⟩:=(HB1.out.ext hx).c6
   have lw0:=(HB0.out.ext hx).lt
   have lw1:=(HB1.out.ext hx).lt
   have HP:=Lib.hid hp
   have HX:=Lib.hid hx
   by_cases h1:j<ok.length
   ·by_cases h2:j<ok'.length
    ·have g1:(j:Int)<(ok.length:Int):=by omega
     have g2:(j:Int)<(ok'.length:Int):=by omega
     obtain ⟨x,hxx⟩:∃ d,ok[j]? = some d:=⟨_,List.getElem?_eq_getElem h1⟩
     obtain ⟨x',hxx'⟩:∃ d,ok'[j]? = some d:=⟨_,List.getElem?_eq_getElem h2⟩
     obtain ⟨d,hd⟩:∃ d,ov[j]? = some d:=⟨_,List.getElem?_eq_getElem (by rw [HOV.out];exact h1)⟩
     obtain ⟨d',hd'⟩:∃ d,ov'[j]? = some d:=⟨_,List.getElem?_eq_getElem (by rw [HOV'.out];exact h2)⟩
     have HD:=Lib.hid (cmpM_drop hd hd' hxx hxx')
     have hag:Agree (Lt w.heap.size) w wr:=(HX0.out.trans hx).agree fun _ h=>h
     obtain ⟨sa,sc⟩:=so
     obtain ⟨sa',sc'⟩:=so'
     obtain ⟨rfl,hlc,hcm⟩:=ho.eq (by omega)
     obtain ⟨rfl,hlc',hcm'⟩:=ho'.eq (by omega)
     have hbl:=ho.fits (by omega)
     have hbl':=ho'.fits (by omega)
     obtain ⟨v0,v1,v2,v3,v4,v5⟩:=(HEO.out j d hd).agree hag hbl
     obtain ⟨v0',v1',v2',v3',v4',v5'⟩:=(HEO'.out j d' hd').agree hag hbl'
     have kx:=(hag.cell hbl).trans (HEK.out j x hxx).1
     have kx':=(hag.cell hbl').trans (HEK'.out j x' hxx').1
     have htx:=fun W=>texts_any W x x' (HEK.out j x hxx).2 (HEK'.out j x' hxx').2
     have hic:∀ W,Ext wr W→Calls Tryz.prog 58 #[aggV d (co j).1 (co j).2,aggV d' (co' j).1 (co' j).2] W (CmpPost (cmpV d d') W):=fun W hW=>
      HI.out d d' (HSO.out j d hd) W _ _ _ _ (((HRO.out j d hd).agree (hag.trans (hW.agree fun _ h=>Nat.lt_of_lt_of_le h (Nat.le_trans HX0.out.size hx.size)))).mono fun i hi=>Nat.lt_of_lt_of_le hi (Nat.le_trans HX0.out.size (Nat.le_trans hx.size hW.size)))
       (((HRO'.out j d' hd').agree (hag.trans (hW.agree fun _ h=>Nat.lt_of_lt_of_le h (Nat.le_trans HX0.out.size hx.size)))).mono fun i hi=>Nat.lt_of_lt_of_le hi (Nat.le_trans HX0.out.size (Nat.le_trans hx.size hW.size)))
     have lb:bo<wr.heap.size:=Nat.lt_of_lt_of_le hbl (Nat.le_trans HX0.out.size hx.size)
     have lb':bo'<wr.heap.size:=Nat.lt_of_lt_of_le hbl' (Nat.le_trans HX0.out.size hx.size)
     have HT:=Lib.hid htx
     have HIC:=Lib.hid hic
     clear hp hx hd hd' hag hbl hbl' hxx hxx' htx hic
     go_wp2_with fail
     refine wp_region_held_drew (S:=(fun w'=>w'.cell? ⟨w.heap.size,5,none⟩=some (.slice (some ⟨bo,fo,none⟩) ok.length sc)∧w'.cell? ⟨w.heap.size+1,5,none⟩=some (.slice (some ⟨bo',fo',none⟩) ok'.length sc')∧w'.cell? ⟨bo,fo+j*7,none⟩=some (.string x)∧w'.cell? ⟨bo',fo'+j*7,none⟩=some (.string x'))) (by kernel_rfl) (⟨q5,r5,kx,kx'⟩) (fun hHeld=>?_)
     refine heldU 0 (some 98) hHeld ?_
     refine heldU 1 (some 99) hHeld ?_
     refine heldU 2 (some 100) hHeld ?_
     refine heldU 3 (some 101) hHeld ?_
     refine heldU 4 (some 102) hHeld ?_
     refine heldU 5 (some 103) hHeld ?_
     refine heldU 6 (some 104) hHeld ?_
     refine heldU 7 (some 105) hHeld ?_
     refine heldU 8 (some 106) hHeld ?_
     refine heldU 9 (some 107) hHeld ?_
     refine heldU 10 (some 108) hHeld ?_
     refine heldU 11 (some 109) hHeld ?_
     refine held_call (i:=12) (by kernel_rfl) rfl (by rfl) (fun K hK=>?_)
     go_simp
     (refine (HT.out _).mono ?_;rintro e w2 ⟨rfl,hx1⟩;replace hx1:=((Ext.refl wr).drew).trans hx1)
     refine hK.out _ _ (⟨(hx1.cell lw0).trans q5,(hx1.cell lw1).trans r5,(hx1.cell lb).trans kx,(hx1.cell lb').trans kx'⟩) (fun hHeld=>?_)
     clear hK K
     try simp only [Act.put,List.setIfInBounds_toArray,List.set_cons_zero,List.set_cons_succ]
     refine heldU 13 (some 8) hHeld ?_
     refine wpAnyH_done (by kernel_rfl) ?_ _
     clear hHeld
     have HX1:=Lib.hid hx1
     have HX2:=Lib.hid (HX.out.trans hx1)
     replace q5:=(hx1.cell lw0).trans q5;replace r5:=(hx1.cell lw1).trans r5;replace v0:=(hx1.cell lb).trans v0;replace v1:=(hx1.cell lb).trans v1;replace v2:=(hx1.cell lb).trans v2;replace v3:=(hx1.cell lb).trans v3;replace v4:=(hx1.cell lb).trans v4;replace v5:=(hx1.cell lb).trans v5;replace v0':=(hx1.cell lb').trans v0';replace v1':=(hx1.cell lb').trans v1';replace v2':=(hx1.cell lb').trans v2';replace v3':=(hx1.cell lb').trans v3';replace v4':=(hx1.cell lb').trans v4';replace v5':=(hx1.cell lb').trans v5';replace kx:=(hx1.cell lb).trans kx;replace kx':=(hx1.cell lb').trans kx'
     replace lw0:=Nat.lt_of_lt_of_le lw0 hx1.size
     replace lw1:=Nat.lt_of_lt_of_le lw1 hx1.size
     replace lb:=Nat.lt_of_lt_of_le lb hx1.size
     replace lb':=Nat.lt_of_lt_of_le lb' hx1.size
     clear hx1
     by_cases ht:textI x x'=0
     ·have htb:(textI x x' != 0)=false:=by simp [ht]
      have HTT:=Lib.hid ht
      clear ht
      go_wp2_with fail
      refine wp_region_held_drew (S:=(fun w'=>w'.cell? ⟨w.heap.size,5,none⟩=some (.slice (some ⟨bo,fo,none⟩) ok.length sc)∧w'.cell? ⟨w.heap.size+1,5,none⟩=some (.slice (some ⟨bo',fo',none⟩) ok'.length sc')∧w'.cell? ⟨bo,fo+j*7+1,none⟩=some (.int .i64 d.kind)∧w'.cell? ⟨bo,fo+j*7+1+1,none⟩=some (.bool d.b)∧w'.cell? ⟨bo,fo+j*7+1+2,none⟩=some (.int .i64 d.i)∧w'.cell? ⟨bo,fo+j*7+1+3,none⟩=some (.string d.t)∧w'.cell? ⟨bo,fo+j*7+1+4,none⟩=some (.slice (co j).1.a d.l.length (co j).1.c)∧w'.cell? ⟨bo,fo+j*7+1+5,none⟩=some (.slice (co j).2.a d.ok.length (co j).2.c)∧w'.cell? ⟨bo',fo'+j*7+1,none⟩=some (.int .i64 d'.kind)∧w'.cell? ⟨bo',fo'+j*7+1+1,none⟩=some (.bool d'.b)∧w'.cell? ⟨bo',fo'+j*7+1+2,none⟩=some (.int .i64 d'.i)∧w'.cell? ⟨bo',fo'+j*7+1+3,none⟩=some (.string d'.t)∧w'.cell? ⟨bo',fo'+j*7+1+4,none⟩=some (.slice (co' j).1.a d'.l.length (co' j).1.c)∧w'.cell? ⟨bo',fo'+j*7+1+5,none⟩=some (.slice (co' j).2.a d'.ok.length (co' j).2.c))) (by kernel_rfl) (⟨q5,r5,v0,v1,v2,v3,v4,v5,v0',v1',v2',v3',v4',v5'⟩) (fun hHeld=>?_)
      refine heldU 0 (some 114) hHeld ?_
      refine heldU 1 (some 115) hHeld ?_
      refine heldU 2 (some 116) hHeld ?_
      refine heldU 3 (some 117) hHeld ?_
      refine heldU 4 (some 118) hHeld ?_
      refine heldU 5 (some 119) hHeld ?_
      refine heldU 6 (some 120) hHeld ?_
      refine heldU 7 (some 121) hHeld ?_
      refine heldU 8 (some 122) hHeld ?_
      refine heldU 9 (some 123) hHeld ?_
      refine heldU 10 (some 124) hHeld ?_
      refine heldU 11 (some 125) hHeld ?_
      refine held_call (i:=12) (by kernel_rfl) rfl (by rfl) (fun K hK=>?_)
      go_simp
      (refine (HIC.out _ (HX1.out.drew)).mono ?_;rintro e w3 ⟨rfl,hx2⟩;replace hx2:=((Ext.refl w2).drew).trans hx2)
      refine hK.out _ _ (⟨(hx2.cell lw0).trans q5,(hx2.cell lw1).trans r5,(hx2.cell lb).trans v0,(hx2.cell lb).trans v1,(hx2.cell lb).trans v2,(hx2.cell lb).trans v3,(hx2.cell lb).trans v4,(hx2.cell lb).trans v5,(hx2.cell lb').trans v0',(hx2.cell lb').trans v1',(hx2.cell lb').trans v2',(hx2.cell lb').trans v3',(hx2.cell lb').trans v4',(hx2.cell lb').trans v5'⟩) (fun hHeld=>?_)
      clear hK K
      try simp only [Act.put,List.setIfInBounds_toArray,List.set_cons_zero,List.set_cons_succ]
      refine heldU 13 (some 9) hHeld ?_
      refine wpAnyH_done (by kernel_rfl) ?_ _
      clear hHeld q5 r5 v0 v1 v2 v3 v4 v5 v0' v1' v2' v3' v4' v5' kx kx'
      have HX3:=Lib.hid (HX2.out.trans hx2)
      clear hx2
      by_cases hc:cmpV d d'=0
      ·have hcb:(cmpV d d' != 0)=false:=by simp [hc]
       have HC:=Lib.hid hc
       clear hc
       go_wp2_with fail
       go_roundw
       case rel=>exact ⟨j+1,by go_num,h1,h2,by rw [HP.out,HD.out,if_neg (by simp [HTT.out]),if_neg (by simp [HC.out])],HX3.out⟩
       simp [intOf];omega
      have hcb:(cmpV d d' != 0)=true:=bne_iff_ne.2 hc
      have HC:=Lib.hid hc
      clear hc
      go_wp2_with fail
      go_ret
      rw [HP.out,HD.out,if_neg (by simp [HTT.out]),if_pos HC.out]
      exact ⟨rfl,HX0.out.trans HX3.out⟩
     have htb:(textI x x' != 0)=true:=bne_iff_ne.2 ht
     have HTT:=Lib.hid ht
     clear ht
     go_wp2_with fail
     go_ret
     rw [HP.out,HD.out,if_pos HTT.out]
     exact ⟨rfl,HX0.out.trans HX2.out⟩
    have g1:(j:Int)<(ok.length:Int):=by omega
    have g2:¬(j:Int)<(ok'.length:Int):=by omega
    have HE:=Lib.hid (cmpM_end (l:=ov) (l':=ov') (k:=ok) (k':=ok') (j:=j) (by rw [HOV.out,HOV'.out];omega) (by rw [HOV.out];exact hjl) (by rw [HOV'.out];exact hjl'))
    clear hp hx
    go_wp2_with fail
    refine (HN.out _ _ _).mono ?_
    rintro e w2 ⟨rfl,rfl⟩
    go_wp2_with fail
    go_ret
    rw [HP.out,HE.out,HOV.out,HOV'.out]
    exact ⟨rfl,HX0.out.trans HX.out⟩
   have g1:¬(j:Int)<(ok.length:Int):=by omega
   have HE:=Lib.hid (cmpM_end (l:=ov) (l':=ov') (k:=ok) (k':=ok') (j:=j) (by rw [HOV.out,HOV'.out];omega) (by rw [HOV.out];exact hjl) (by rw [HOV'.out];exact hjl'))
   clear hp hx
   go_wp2_with fail
   refine (HN.out _ _ _).mono ?_
   rintro e w2 ⟨rfl,rfl⟩
   go_wp2_with fail
   go_ret
   rw [HP.out,HE.out,HOV.out,HOV'.out]
   exact ⟨rfl,HX0.out.trans HX.out⟩
  rw [if_neg h5,if_neg h6]
  have g2:(k == 2)=false:=beq_eq_false_iff_ne.2 h2
  have g3:(k == 3)=false:=beq_eq_false_iff_ne.2 h3
  have g4:(k == 4)=false:=beq_eq_false_iff_ne.2 h4
  have g5:(k == 5)=false:=beq_eq_false_iff_ne.2 h5
  have g6:(k == 6)=false:=beq_eq_false_iff_ne.2 h6
  clear h2 h3 h4 h5 h6
  go_enter Tryz.func58,Tryz.ntmps58
  go_wp2_with fail
  go_ret
  exact ⟨rfl,((Ext.refl w).alloc _ _).alloc _ _⟩
 have hkb:(k != k')=true:=bne_iff_ne.2 hkk
 rw [if_pos hkk]
 clear hkk
 go_enter Tryz.func58,Tryz.ntmps58
 go_wp2_with fail
 refine (HN.out _ _ _).mono ?_
 rintro e w2 ⟨rfl,rfl⟩
 go_wp2_with fail
 go_ret
 exact ⟨rfl,((Ext.refl w).alloc _ _).alloc _ _⟩
theorem sameE_drop {l m:List Ent} {j:Nat} {a b:Ent} (ha:l[j]? = some a) (hb:m[j]? = some b):sameE (l.drop j) (m.drop j)=(decide (a.1=b.1) && decide (cmpV a.2 b.2=0) && sameE (l.drop (j+1)) (m.drop (j+1))):=by
 obtain ⟨h1,rfl⟩:=List.getElem?_eq_some_iff.1 ha
 obtain ⟨h2,rfl⟩:=List.getElem?_eq_some_iff.1 hb
 rw [List.drop_eq_getElem_cons h1,List.drop_eq_getElem_cons h2]
 rfl
theorem sameE_ne {l m:List Ent} (h:l.length≠m.length):sameE l m=false:=by
 cases hs:sameE l m with
 | false=>rfl
 | true=>exact absurd (sameE_len hs) h
theorem sameEnt_any {w:World} {s s':Sl} {xs ys:List LE} (hs:ES w (Lt w.heap.size) s xs) (hs':ES w (Lt w.heap.size) s' ys) :
  Calls Tryz.prog 33 #[.slice s.a xs.length s.c,.slice s'.a ys.length s'.c] w fun e w'=>e=.returned (.bool (sameE (xs.map LE.ent) (ys.map LE.ent)))∧Ext w w':=by
 have hf:=hs.few
 have hnl:xs.length≤140737488355328:=by omega
 by_cases hlen:xs.length=ys.length
 ·have HS:=Lib.hid hs
  have HS':=Lib.hid hs'
  have HLEN:=Lib.hid hlen
  rw [←hlen]
  clear hs hs' hlen hf
  go_enter Tryz.func33,Tryz.ntmps33
  go_wp2_with fail
  go_loopw [5] (fun q wr=>∃ j:Nat,q=.int .i64 j∧j≤xs.length∧sameE (xs.map LE.ent) (ys.map LE.ent)=sameE ((xs.map LE.ent).drop j) ((ys.map LE.ent).drop j)∧Ext w wr) (fun q _=>xs.length - (intOf q).toNat)
  case atStart=>exact ⟨0,rfl,Nat.zero_le _,rfl,Ext.refl w⟩
  obtain ⟨j,rfl,hjl,hp,hx⟩:=hrel
  have HP:=Lib.hid hp
  have HX:=Lib.hid hx
  by_cases h1:j<xs.length
  ·have g1:(j:Int)<(xs.length:Int):=by omega
   obtain ⟨x,hxx⟩:∃ x,xs[j]? = some x:=⟨_,List.getElem?_eq_getElem h1⟩
   obtain ⟨y,hyy⟩:∃ y,ys[j]? = some y:=⟨_,List.getElem?_eq_getElem (by rw [←HLEN.out];exact h1)⟩
   have HD:=Lib.hid (sameE_drop (l:=xs.map LE.ent) (m:=ys.map LE.ent) (a:=x.ent) (b:=y.ent) (by rw [List.getElem?_map,hxx];rfl) (by rw [List.getElem?_map,hyy];rfl))
   have e1:=HS.out.ext hx
   have e2:=HS'.out.ext hx
   obtain ⟨g,o,hg,lg,hc,hcm,kx,⟨v0,v1,v2,v3,v4,v5⟩,rx,-⟩:=e1.at hxx
   obtain ⟨g',o',hg',lg',hc',hcm',ky,⟨v0',v1',v2',v3',v4',v5'⟩,ry,-⟩:=e2.at hyy
   rw [←HLEN.out] at hc'
   obtain ⟨sa,sc⟩:=s
   obtain ⟨sa',sc'⟩:=s'
   dsimp only at hg hg' hc hc' hcm hcm'
   subst hg hg'
   have hic:∀ W,Ext wr W→Calls Tryz.prog 58 #[aggV x.v x.sl x.so,aggV y.v y.sl y.so] W (CmpPost (cmpV x.v y.v) W):=fun W hW=>
    cmp02_any _ x.v y.v (Nat.le_refl _) W _ _ _ _ ((rx.agree (hW.agree fun _ h=>h)).mono fun i hi=>Nat.lt_of_lt_of_le hi hW.size) ((ry.agree (hW.agree fun _ h=>h)).mono fun i hi=>Nat.lt_of_lt_of_le hi hW.size)
   have HIC:=Lib.hid hic
   clear hp hx hxx hyy e1 e2 rx ry hic
   have lg:g<wr.heap.size:=lg
   have lg':g'<wr.heap.size:=lg'
   by_cases hk:x.k=y.k
   ·have hkb:(x.k.toList == y.k.toList)=true:=by rw [hk];simp
    have HK:=Lib.hid hk
    go_wp2_with fail
    refine wp_region_held_drew (S:=(fun w'=>w'.cell? ⟨g,o+j*7,none⟩=some (.string x.k)∧w'.cell? ⟨g',o'+j*7,none⟩=some (.string y.k)∧w'.cell? ⟨g,o+j*7+1,none⟩=some (.int .i64 x.v.kind)∧w'.cell? ⟨g,o+j*7+1+1,none⟩=some (.bool x.v.b)∧w'.cell? ⟨g,o+j*7+1+2,none⟩=some (.int .i64 x.v.i)∧w'.cell? ⟨g,o+j*7+1+3,none⟩=some (.string x.v.t)∧w'.cell? ⟨g,o+j*7+1+4,none⟩=some (.slice x.sl.a x.v.l.length x.sl.c)∧w'.cell? ⟨g,o+j*7+1+5,none⟩=some (.slice x.so.a x.v.ok.length x.so.c)∧w'.cell? ⟨g',o'+j*7+1,none⟩=some (.int .i64 y.v.kind)∧w'.cell? ⟨g',o'+j*7+1+1,none⟩=some (.bool y.v.b)∧w'.cell? ⟨g',o'+j*7+1+2,none⟩=some (.int .i64 y.v.i)∧w'.cell? ⟨g',o'+j*7+1+3,none⟩=some (.string y.v.t)∧w'.cell? ⟨g',o'+j*7+1+4,none⟩=some (.slice y.sl.a y.v.l.length y.sl.c)∧w'.cell? ⟨g',o'+j*7+1+5,none⟩=some (.slice y.so.a y.v.ok.length y.so.c))) (by kernel_rfl) (⟨kx,ky,v0,v1,v2,v3,v4,v5,v0',v1',v2',v3',v4',v5'⟩) (fun hHeld=>?_)
    refine heldU 0 (some 17) hHeld ?_
    refine heldU 1 (some 18) hHeld ?_
    refine heldU 2 (some 19) hHeld ?_
    refine heldU 3 (some 20) hHeld ?_
    refine heldU 4 (some 21) hHeld ?_
    refine heldU 5 (some 22) hHeld ?_
    refine heldU 6 (some 23) hHeld ?_
    refine heldU 7 (some 24) hHeld ?_
    refine heldU 8 (some 25) hHeld ?_
    refine heldU 9 (some 26) hHeld ?_
    refine heldU 10 (some 27) hHeld ?_
    refine heldU 11 (some 28) hHeld ?_
    refine heldU 12 (some 29) hHeld ?_
    refine heldU 13 (some 30) hHeld ?_
    refine heldU 14 (some 31) hHeld ?_
    refine heldU 15 (some 32) hHeld ?_
    refine heldU 16 (some 33) hHeld ?_
    refine heldU 17 (some 34) hHeld ?_
    refine heldU 18 (some 35) hHeld ?_
    refine heldU 19 (some 36) hHeld ?_
    refine heldU 20 (some 37) hHeld ?_
    refine heldU 21 (some 38) hHeld ?_
    refine held_call (i:=22) (by kernel_rfl) rfl (by rfl) (fun K hK=>?_)
    go_simp
    (refine (HIC.out _ ((Ext.refl wr).drew)).mono ?_;rintro e w2 ⟨rfl,hx2⟩;replace hx2:=((Ext.refl wr).drew).trans hx2)
    refine hK.out _ _ (⟨(hx2.cell lg).trans kx,(hx2.cell lg').trans ky,(hx2.cell lg).trans v0,(hx2.cell lg).trans v1,(hx2.cell lg).trans v2,(hx2.cell lg).trans v3,(hx2.cell lg).trans v4,(hx2.cell lg).trans v5,(hx2.cell lg').trans v0',(hx2.cell lg').trans v1',(hx2.cell lg').trans v2',(hx2.cell lg').trans v3',(hx2.cell lg').trans v4',(hx2.cell lg').trans v5'⟩) (fun hHeld=>?_)
    clear hK K
    try simp only [Act.put,List.setIfInBounds_toArray,List.set_cons_zero,List.set_cons_succ]
    refine heldU 23 (some 40) hHeld ?_
    refine heldU 24 (some 41) hHeld ?_
    refine wpAnyH_done (by kernel_rfl) ?_ _
    have HX2:=Lib.hid (HX.out.trans hx2)
    clear hx2 hHeld hkb hk kx ky v0 v1 v2 v3 v4 v5 v0' v1' v2' v3' v4' v5'
    by_cases hc:cmpV x.v y.v=0
    ·have hcb:(cmpV x.v y.v != 0)=false:=by simp [hc]
     have HC:=Lib.hid hc
     clear hc
     go_wp2_with fail
     go_roundw
     case rel=>exact ⟨j+1,by go_num,h1,by rw [HP.out,HD.out,decide_eq_true (show x.ent.1=y.ent.1 from HK.out),decide_eq_true (show cmpV x.ent.2 y.ent.2=0 from HC.out)];rfl,HX2.out⟩
     simp [intOf];omega
    have hcb:(cmpV x.v y.v != 0)=true:=bne_iff_ne.2 hc
    have HC:=Lib.hid hc
    clear hc
    go_wp2_with fail
    go_ret
    rw [HP.out,HD.out,decide_eq_false (show ¬cmpV x.ent.2 y.ent.2=0 from HC.out)]
    exact ⟨by simp,HX2.out⟩
   have hkb:(x.k.toList == y.k.toList)=false:=by rw [beq_toList];simp [hk]
   have HK:=Lib.hid hk
   go_wp2_with fail
   refine wp_region_held_drew (S:=(fun w'=>w'.cell? ⟨g,o+j*7,none⟩=some (.string x.k)∧w'.cell? ⟨g',o'+j*7,none⟩=some (.string y.k)∧w'.cell? ⟨g,o+j*7+1,none⟩=some (.int .i64 x.v.kind)∧w'.cell? ⟨g,o+j*7+1+1,none⟩=some (.bool x.v.b)∧w'.cell? ⟨g,o+j*7+1+2,none⟩=some (.int .i64 x.v.i)∧w'.cell? ⟨g,o+j*7+1+3,none⟩=some (.string x.v.t)∧w'.cell? ⟨g,o+j*7+1+4,none⟩=some (.slice x.sl.a x.v.l.length x.sl.c)∧w'.cell? ⟨g,o+j*7+1+5,none⟩=some (.slice x.so.a x.v.ok.length x.so.c)∧w'.cell? ⟨g',o'+j*7+1,none⟩=some (.int .i64 y.v.kind)∧w'.cell? ⟨g',o'+j*7+1+1,none⟩=some (.bool y.v.b)∧w'.cell? ⟨g',o'+j*7+1+2,none⟩=some (.int .i64 y.v.i)∧w'.cell? ⟨g',o'+j*7+1+3,none⟩=some (.string y.v.t)∧w'.cell? ⟨g',o'+j*7+1+4,none⟩=some (.slice y.sl.a y.v.l.length y.sl.c)∧w'.cell? ⟨g',o'+j*7+1+5,none⟩=some (.slice y.so.a y.v.ok.length y.so.c))) (by kernel_rfl) (⟨kx,ky,v0,v1,v2,v3,v4,v5,v0',v1',v2',v3',v4',v5'⟩) (fun hHeld=>?_)
   refine heldU 0 (some 17) hHeld ?_
   refine heldU 1 (some 18) hHeld ?_
   refine heldU 2 (some 19) hHeld ?_
   refine heldU 3 (some 20) hHeld ?_
   refine heldU 4 (some 21) hHeld ?_
   refine heldU 5 (some 22) hHeld ?_
   refine heldU 6 (some 23) hHeld ?_
   refine heldU 7 (some 24) hHeld ?_
   refine heldU 8 (some 25) hHeld ?_
   refine heldU 9 (some 26) hHeld ?_
   refine heldU 10 (some 27) hHeld ?_
   refine heldU 11 (some 28) hHeld ?_
   refine heldO 12 (some 29) hHeld ?_
   refine heldO 13 (some 30) hHeld ?_
   refine heldO 14 (some 31) hHeld ?_
   refine heldO 15 (some 32) hHeld ?_
   refine heldO 16 (some 33) hHeld ?_
   refine heldO 17 (some 34) hHeld ?_
   refine heldO 18 (some 35) hHeld ?_
   refine heldO 19 (some 36) hHeld ?_
   refine heldO 20 (some 37) hHeld ?_
   refine heldO 21 (some 38) hHeld ?_
   refine heldO 22 (some 39) hHeld ?_
   refine heldO 23 (some 40) hHeld ?_
   refine heldU 24 (some 41) hHeld ?_
   refine wpAnyH_done (by kernel_rfl) ?_ _
   clear hHeld hkb hk kx ky v0 v1 v2 v3 v4 v5 v0' v1' v2' v3' v4' v5'
   go_wp2_with fail
   go_ret
   rw [HP.out,HD.out,decide_eq_false (show ¬x.ent.1=y.ent.1 from HK.out)]
   exact ⟨by simp,HX.out.drew⟩
  have g1:¬(j:Int)<(xs.length:Int):=by omega
  have hee:sameE ((xs.map LE.ent).drop j) ((ys.map LE.ent).drop j)=true:=by
   rw [List.drop_eq_nil_iff.2 (by rw [List.length_map];omega),List.drop_eq_nil_iff.2 (by rw [List.length_map,←HLEN.out];omega)]
   rfl
  have HE:=Lib.hid hee
  clear hp hx hee
  go_wp2_with fail
  go_ret
  rw [HP.out,HE.out]
  exact ⟨rfl,HX.out⟩
 have hne:(((xs.length:Int)) != ((ys.length:Int)))=true:=bne_iff_ne.2 (by omega)
 rw [sameE_ne (by rw [List.length_map,List.length_map];exact hlen)]
 clear hs hs' hlen hf hnl
 go_enter Tryz.func33,Tryz.ntmps33
 go_wp2_with fail
 go_ret
 exact ⟨rfl,Ext.refl w⟩
abbrev RowsE (sl sr:Sl):Nat→Prop:=fun b=>sl.row=some b∨sr.row=some b
def BPostE (P:Nat→World→Prop) (W:World) (e:Ending) (W':World):Prop:=∃ a,e=.returned (.pointer (some ⟨a,0,none⟩))∧W.heap.size≤a∧P a W'∧Ext W W'
theorem own_stE {w W:World} {base n:Nat} {s:Sl} {xs:List Value} {G:Nat→Prop} (h:w.ownsRow base 71 7 (.slice s.a n s.c) n xs) (hs:St G w W) (hG:∀ b,s.row=some b→¬G b):W.ownsRow base 71 7 (.slice s.a n s.c) n xs:=
 own_agree h hs.agree fun b hb=>⟨(own_row h hb).2,hG b hb⟩
theorem rd_takeE {w:World} {F:Nat→Prop} {n m:Nat} {s:Sl} {cs:List Value} (h:Rd w F 7 s n cs) (hm:m≤n):Rd w F 7 s m (cs.take (m*7)):=h.take hm
theorem lastE {ls:List Value} {n:Nat} (hl:ls.length=n*7) (hn:0<n) (hp:True):∃ v0 v1 v2 v3 v4 v5 v6:Value,ls.drop ((n - 1)*7)=[v0,v1,v2,v3,v4,v5,v6]:=by
 have h:(ls.drop ((n - 1)*7)).length=7:=by rw [List.length_drop,hl];omega
 match hd:ls.drop ((n - 1)*7),h with
 | [v0,v1,v2,v3,v4,v5,v6],_=>exact ⟨v0,v1,v2,v3,v4,v5,v6,rfl⟩
section
variable {w : World} {base m nr : Nat} {sl sr : Sl} {ls rs : List Value} {P1 P2 : Nat → World → Prop}
theorem pairE_left (hL:w.ownsRow base 71 7 (.slice sl.a (m+1) sl.c) (m+1) ls) (hR:w.ownsRow base 71 7 (.slice sr.a nr sr.c) nr rs) (hb:base≤w.heap.size) (hne:∀ b,sl.row=some b→sr.row≠some b)
  (hl1:∀ u∈ls,u.oneCell'=true) (hr1:∀ u∈rs,u.oneCell'=true) (hpt:True) (h4:4<m+1) (h8:m+1≤8) (r8:nr≤8)
  (hB1:∀ (W:World) (s:Sl),St (RowsE sl sr) w W→Rd W (Lt W.heap.size) 7 s m (ls.take (m*7))→Calls Tryz.prog 108 #[.slice s.a m s.c] W (BPostE P1 W))
  (hB2:∀ (W:World) (s:Sl),St (RowsE sl sr) w W→Rd W (Lt W.heap.size) 7 s (nr+1) (ls.drop (m*7)++rs)→Calls Tryz.prog 108 #[.slice s.a (nr+1) s.c] W (BPostE P2 W))
  (hP1:∀ a W W',St (RowsE sl sr) w W→P1 a W→St (RowsE sl sr) W W'→P1 a W') :
  Calls Tryz.prog 193 #[.slice sl.a (m+1) sl.c,.slice sr.a nr sr.c,.func (.func 108) #[] #[]] w fun e w'=>∃ a b,e=.returned (.tuple #[.pointer (some ⟨a,0,none⟩),.pointer (some ⟨b,0,none⟩)])∧w.heap.size≤a∧w.heap.size≤b∧P1 a w'∧P2 b w'∧St (RowsE sl sr) w w':=by
 obtain ⟨i0,hi,hz0,hz1,hz2⟩:=info_parts Tryz.infoEntry
 obtain ⟨v0,v1,v2,v3,v4,v5,v6,hlast⟩:=lastE hL.1 (by omega) hpt
 rw [Nat.add_sub_cancel] at hlast
 obtain ⟨gl,capl,rfl,hgb,hncl,hcml,hfill⟩:=own_block hL (by omega)
 have hgl:gl<w.heap.size:=hfill.lt
 have hrowl:∀ b,sr.row=some b→b<w.heap.size:=fun b hb=>(own_row hR hb).2
 have hcl:∀ W,St (fun b=>sr.row=some b) w W→∀ j u,ls[j]? = some u→W.cell? ⟨gl,j,none⟩=some u:=fun W hW j u hj=>by
  obtain ⟨b,o,h1,h2,h3⟩:=Rd.of_own hL
  obtain ⟨e1,-,-⟩:=h1.eq (by omega)
  obtain ⟨rfl,rfl⟩:gl=b∧0=o:=by simpa using e1
  have:=h3 j u hj
  rw [Nat.zero_add] at this
  exact (hW.cell hgl (hne gl rfl)).trans this
 have hlc:∀ (c:Nat) (u:Value),([v0,v1,v2,v3,v4,v5,v6]:List Value)[c]? = some u→ls[m*7+c]? = some u:=fun c u hu=>by rw [←hlast,List.getElem?_drop] at hu;exact hu
 have hS:∀ W,St (fun b=>sr.row=some b) w W→W.cell? ⟨gl,m*7,none⟩=some v0∧W.cell? ⟨gl,m*7+1,none⟩=some v1∧W.cell? ⟨gl,m*7+2,none⟩=some v2∧W.cell? ⟨gl,m*7+3,none⟩=some v3∧W.cell? ⟨gl,m*7+4,none⟩=some v4∧W.cell? ⟨gl,m*7+5,none⟩=some v5∧W.cell? ⟨gl,m*7+6,none⟩=some v6:=fun W hW=>⟨hcl W hW _ _ (hlc 0 _ rfl),hcl W hW _ _ (hlc 1 _ rfl),hcl W hW _ _ (hlc 2 _ rfl),hcl W hW _ _ (hlc 3 _ rfl),hcl W hW _ _ (hlc 4 _ rfl),hcl W hW _ _ (hlc 5 _ rfl),hcl W hW _ _ (hlc 6 _ rfl)⟩
 have hgt:(4:Int)<(m:Int)+1:=by omega
 have hmc:(m:Int)≤(capl:Int):=by omega
 have hmn:(m:Int)<(m:Int)+1:=by omega
 have hcm':(capl:Int)≤9223372036854775807:=by unfold maxLen at hcml;omega
 have hw1:IntKind.i64.wrap ((m:Int)+1)=(m:Int)+1:=by rw [IntKind.wrap_i64];omega
 have hb1:∀ W,St (fun b=>sr.row=some b) w W→Calls Tryz.prog 108 #[.slice (some ⟨gl,0,none⟩) m capl] W (BPostE P1 W):=fun W hW=>
  hB1 W ⟨some ⟨gl,0,none⟩,capl⟩ (hW.mono fun i _ hi=>.inr hi) (rd_takeE ((Rd.of_own (own_stE (s:=⟨some ⟨gl,0,none⟩,capl⟩) hL hW (fun b hb=>hne b hb))).mono fun i hi=>hi.2) (by omega))
 have hins:∀ W vb,Ext w W→Blk W vb 71 #[v0,v1,v2,v3,v4,v5,v6]→w.heap.size≤vb→Calls Tryz.prog 106 #[.slice sr.a nr sr.c,.int .i64 0,.slice (some ⟨vb,0,none⟩) 1 1] W (InsPostE base sr nr 0 rs [v0,v1,v2,v3,v4,v5,v6] W):=fun W vb hW hv hvb=>
  insE_any (own_stE hR (hW.st (fun _=>False)) (fun _ _ h=>h)) (Nat.le_trans hb hW.size) (by omega) (Nat.zero_le _) rfl hv (fun e=>by have:=hrowl vb e;omega) (fun u hu=>hl1 u (List.mem_of_mem_drop (hlast▸hu))) hr1
 have HS:=Lib.hid hS
 have HB1:=Lib.hid hb1
 have HB2:=Lib.hid hB2
 have HI:=Lib.hid hins
 have HP1:=Lib.hid hP1
 have HL:=Lib.hid hlast
 clear hS hb1 hB1 hB2 hins hP1 hlast hlc hcl hl1 hr1 hL hR hfill hne
 go_enter Tryz.func193,Tryz.ntmps193
 go_wp2_with fail
 have s0:=(St.refl (fun b=>sr.row=some b) w).drew
 have k0:=HS.out _ s0
 have e0:=(Ext.refl w).drew
 have sA:=((((Ext.refl w).alloc #[v0,v1,v2,v3,v4,v5,v6] 71).drew).st (fun b=>sr.row=some b))
 have HV0:=Lib.hid (show Blk (w.alloc (.cells #[v0,v1,v2,v3,v4,v5,v6] 71)).drew w.heap.size 71 #[v0,v1,v2,v3,v4,v5,v6] from Blk.new w 71 _)
 go_region_held3 (fun W=>W.cell? ⟨gl,m*7,none⟩=some v0∧W.cell? ⟨gl,m*7+1,none⟩=some v1∧W.cell? ⟨gl,m*7+2,none⟩=some v2∧W.cell? ⟨gl,m*7+3,none⟩=some v3∧W.cell? ⟨gl,m*7+4,none⟩=some v4∧W.cell? ⟨gl,m*7+5,none⟩=some v5∧W.cell? ⟨gl,m*7+6,none⟩=some v6) (first | (with_reducible exact HS.out _ s0) | (with_reducible exact HS.out _ (s0.alloc _ _)) | (with_reducible exact HS.out _ s1) | (with_reducible exact HS.out _ (s1.alloc _ _)) | (with_reducible exact HS.out _ s2) | (with_reducible exact HS.out _ s3q) | (with_reducible exact HS.out _ sA) | go_keep)
  (first
    | (go_at_call_of 108 (Value.slice (some ⟨gl,0,none⟩) m capl);refine (HB1.out _ (by first | exact s0 | exact s0.alloc _ _)).mono ?_;rintro e w1 ⟨a1,rfl,ha1,hp1,hx1⟩;have s1:=(show St (fun b=>sr.row=some b) w _ from by first | exact s0 | exact s0.alloc _ _).ext hx1;have e1:=(show Ext w _ from by first | exact e0 | exact e0.alloc _ _).trans hx1;have HPA:=Lib.hid hp1;clear hp1)
    | (go_at_call 106;refine (HI.out _ _ (by first | (with_reducible exact e1) | exact e1.alloc _ _) (by first | exact (Blk.new _ _ _) | exact Blk.ext HV0.out hx1) (by first | exact e1.size | exact Nat.le_refl _)).mono ?_;rintro e w2 ⟨s3,rfl,ho2,hw2,hr2⟩;have s12:=(show St (RowsE ⟨some ⟨gl,0,none⟩,capl⟩ sr) w1 w2 from by first | exact (hw2.st fun i hi=>.inr hi) | exact (((Ext.refl w1).alloc _ _).st _).trans (hw2.st fun i hi=>.inr hi));have s2:=s1.trans (show St (fun b=>sr.row=some b) w1 w2 from by first | exact (hw2.st fun i hi=>hi) | exact (((Ext.refl w1).alloc _ _).st _).trans (hw2.st fun i hi=>hi));have HO2:=Lib.hid ho2;clear ho2 hw2 hr2)
    | (go_at_call 108;refine (HB2.out w2 s3 (s2.mono fun i _ hi=>.inr hi) ?_).mono ?_;(have h:=Rd.of_own HO2.out;simp only [Nat.zero_mul,List.take_zero,List.nil_append,List.drop_zero] at h;rw [←HL.out] at h;exact h.mono fun i hi=>hi.2);rintro e w3 ⟨a2,rfl,ha2,hp2,hx3⟩;have s3q:=s2.ext hx3;have HPB:=Lib.hid hp2;clear hp2))
 all_goals
  go_wp2_with fail
  go_ret2
  have hs1:=s1.size
  have hs2:=s2.size
  refine ⟨a1,a2,rfl,?_,Nat.le_trans hs2 ha2,HP1.out a1 w1 w3 (s1.mono fun i _ hi=>.inr hi) HPA.out (s12.ext hx3),HPB.out,s3q.mono fun i _ hi=>.inr hi⟩
  simp only [World.size_alloc,World.size_drew] at ha1
  omega
end
theorem firstE {rs:List Value} {n:Nat} (hl:rs.length=n*7) (hn:0<n) (hp:True):∃ v0 v1 v2 v3 v4 v5 v6:Value,rs.take 7=[v0,v1,v2,v3,v4,v5,v6]:=by
 have h:(rs.take 7).length=7:=by rw [List.length_take,hl];omega
 match hd:rs.take 7,h with
 | [v0,v1,v2,v3,v4,v5,v6],_=>exact ⟨v0,v1,v2,v3,v4,v5,v6,rfl⟩
section
variable {w : World} {base nl m : Nat} {sl sr : Sl} {ls rs : List Value} {P1 P2 : Nat → World → Prop}
theorem pairE_right (hL:w.ownsRow base 71 7 (.slice sl.a nl sl.c) nl ls) (hR:w.ownsRow base 71 7 (.slice sr.a (m+1) sr.c) (m+1) rs) (hb:base≤w.heap.size) (hne:∀ b,sl.row=some b→sr.row≠some b)
  (hl1:∀ u∈ls,u.oneCell'=true) (hr1:∀ u∈rs,u.oneCell'=true) (hpt:True) (h4:nl≤4) (h5:4<m+1) (h8:m+1≤8)
  (hB1:∀ (W:World) (s:Sl),St (RowsE sl sr) w W→Rd W (Lt W.heap.size) 7 s (nl+1) (ls++rs.take 7)→Calls Tryz.prog 108 #[.slice s.a (nl+1) s.c] W (BPostE P1 W))
  (hB2:∀ (W:World) (s:Sl),St (RowsE sl sr) w W→Rd W (Lt W.heap.size) 7 s m (rs.drop 7)→Calls Tryz.prog 108 #[.slice s.a m s.c] W (BPostE P2 W))
  (hP1:∀ a W W',St (RowsE sl sr) w W→P1 a W→St (RowsE sl sr) W W'→P1 a W') :
  Calls Tryz.prog 193 #[.slice sl.a nl sl.c,.slice sr.a (m+1) sr.c,.func (.func 108) #[] #[]] w fun e w'=>∃ a b,e=.returned (.tuple #[.pointer (some ⟨a,0,none⟩),.pointer (some ⟨b,0,none⟩)])∧w.heap.size≤a∧w.heap.size≤b∧P1 a w'∧P2 b w'∧St (RowsE sl sr) w w':=by
 obtain ⟨i0,hi,hz0,hz1,hz2⟩:=info_parts Tryz.infoEntry
 obtain ⟨v0,v1,v2,v3,v4,v5,v6,hfirst⟩:=firstE hR.1 (by omega) hpt
 obtain ⟨gr,capr,rfl,hgb,hncr,hcmr,hfilr⟩:=own_block hR (by omega)
 have hgr:gr<w.heap.size:=hfilr.lt
 have hne':∀ b,sl.row=some b→b≠gr:=fun b hb e=>hne b hb (by simp [Sl.row,e])
 have hrd:Rd w (fun b=>b=gr) 7 ⟨some ⟨gr,0,none⟩,capr⟩ (m+1) rs:=by
  obtain ⟨b,o,h1,h2,h3⟩:=Rd.of_own hR
  obtain ⟨e1,hnc,hcm⟩:=h1.eq (by omega)
  obtain ⟨rfl,rfl⟩:gr=b∧0=o:=by simpa using e1
  exact ⟨gr,0,.some _ _ _ _ hnc hcm rfl,h2,h3⟩
 have hcr:∀ W,St (fun b=>sl.row=some b) w W→∀ j u,rs[j]? = some u→W.cell? ⟨gr,j,none⟩=some u:=fun W hW j u hj=>by
  obtain ⟨b,o,h1,h2,h3⟩:=Rd.of_own hR
  obtain ⟨e1,-,-⟩:=h1.eq (by omega)
  obtain ⟨rfl,rfl⟩:gr=b∧0=o:=by simpa using e1
  have:=h3 j u hj
  rw [Nat.zero_add] at this
  exact (hW.cell hgr (fun e=>hne' gr e rfl)).trans this
 have hfc:∀ (c:Nat) (u:Value),([v0,v1,v2,v3,v4,v5,v6]:List Value)[c]? = some u→rs[c]? = some u:=fun c u hu=>by
  rw [←hfirst,List.getElem?_take] at hu
  split at hu
  ·exact hu
  cases hu
 have hS:∀ W,St (fun b=>sl.row=some b) w W→W.cell? ⟨gr,0,none⟩=some v0∧W.cell? ⟨gr,1,none⟩=some v1∧W.cell? ⟨gr,2,none⟩=some v2∧W.cell? ⟨gr,3,none⟩=some v3∧W.cell? ⟨gr,4,none⟩=some v4∧W.cell? ⟨gr,5,none⟩=some v5∧W.cell? ⟨gr,6,none⟩=some v6:=fun W hW=>⟨hcr W hW _ _ (hfc 0 _ rfl),hcr W hW _ _ (hfc 1 _ rfl),hcr W hW _ _ (hfc 2 _ rfl),hcr W hW _ _ (hfc 3 _ rfl),hcr W hW _ _ (hfc 4 _ rfl),hcr W hW _ _ (hfc 5 _ rfl),hcr W hW _ _ (hfc 6 _ rfl)⟩
 have hn4:¬(4:Int)<(nl:Int):=by omega
 have hgt:(4:Int)<(m:Int)+1:=by omega
 have hm0:(0:Int)<(m:Int)+1:=by omega
 have hm1:(1:Int)≤(m:Int)+1:=by omega
 have hc1:¬capr=1:=by omega
 have hw1:IntKind.i64.wrap ((m:Int)+1)=(m:Int)+1:=by rw [IntKind.wrap_i64];omega
 have hcm':(capr:Int)≤9223372036854775807:=by unfold maxLen at hcmr;omega
 have hcn:(m:Int)+1≤(capr:Int):=by omega
 have h63:nl+1≤maxLen:=by unfold maxLen;omega
 have hby:(nl+1)*104≤140737488355328:=by omega
 have hown:∀ W,Ext w W→W.ownsRow base 71 7 (.slice sl.a nl sl.c) nl ls:=fun W hW=>own_stE hL (hW.st (fun _=>False)) (fun _ _ h=>h)
 have hb2:∀ W,St (fun b=>sl.row=some b) w W→Calls Tryz.prog 108 #[.slice (some ⟨gr,7,none⟩) m (capr - 1)] W (BPostE P2 W):=fun W hW=>by
  refine hB2 W ⟨some ⟨gr,7,none⟩,capr - 1⟩ (hW.mono fun i _ hi=>.inl hi) ?_
  have h:=((hrd.agree (hW.agree.mono fun i (hi:i=gr)=>⟨by omega,fun e=>hne' i e hi⟩)).drop (m:=1) (by omega)).mono (G:=Lt W.heap.size) fun i (hi:i=gr)=>by have:=hW.size;show i<_;omega
  simpa using h
 have HS:=Lib.hid hS
 have HB1:=Lib.hid hB1
 have HB2:=Lib.hid hb2
 have HP1:=Lib.hid hP1
 have HF:=Lib.hid hfirst
 have HOWN:=Lib.hid hown
 have HL1:=Lib.hid hl1
 have H1C:Hid (∀ u∈([v0,v1,v2,v3,v4,v5,v6]:List Value),u.oneCell'=true):=Lib.hid fun u hu=>hr1 u (List.mem_of_mem_take (hfirst▸hu))
 clear hS hb2 hB1 hB2 hP1 hfirst hcr hfc hl1 hr1 hL hR hfilr hne hne' hown hrd
 go_enter Tryz.func193,Tryz.ntmps193
 go_wp2_with fail
 have s0:=(St.refl (fun b=>sl.row=some b) w).drew
 have e0:=(Ext.refl w).drew
 have sA:=((((Ext.refl w).alloc #[v0,v1,v2,v3,v4,v5,v6] 71).drew).st (fun b=>sl.row=some b))
 have k0:=HS.out _ s0
 have HV0:=Lib.hid (show Blk (w.alloc (.cells #[v0,v1,v2,v3,v4,v5,v6] 71)).drew w.heap.size 71 #[v0,v1,v2,v3,v4,v5,v6] from Blk.new w 71 _)
 go_region_held3 (fun W=>W.cell? ⟨gr,0,none⟩=some v0∧W.cell? ⟨gr,1,none⟩=some v1∧W.cell? ⟨gr,2,none⟩=some v2∧W.cell? ⟨gr,3,none⟩=some v3∧W.cell? ⟨gr,4,none⟩=some v4∧W.cell? ⟨gr,5,none⟩=some v5∧W.cell? ⟨gr,6,none⟩=some v6) (first | (with_reducible exact HS.out _ s0) | (with_reducible exact HS.out _ sA) | (with_reducible exact HS.out _ s1) | (with_reducible exact HS.out _ s2) | (with_reducible exact HS.out _ s3) | go_keep)
  (first
    | (refine step_append_x _ rfl (.tmp 35) (.tmp 39) 22 rfl base 71 i0 _ 7 104 Tryz.underlying22 hi hz0 hz1 hz2 rfl (by decide) sl nl ls (by rfl) (HOWN.out _ (((Ext.refl w).alloc _ _).drew)) (fun b=>b=w.heap.size) ⟨some ⟨w.heap.size,0,none⟩,1⟩ 1 [v0,v1,v2,v3,v4,v5,v6] (by rfl) (Rd.block HV0.out (by decide) rfl) H1C.out h63 hby (by rw [World.size_drew,World.size_alloc];omega) ?_;intro sx w1 hown1 hwr1 hsx;have s1:=sA.trans (hwr1.st fun i hi=>hi);have HO1:=Lib.hid hown1;clear hown1 hsx)
    | (go_at_call 108;refine (HB2.out w2 s2).mono ?_;rintro e w3 ⟨a2,rfl,ha2,hp2,hx3⟩;have s3:=s2.ext hx3;have HPB:=Lib.hid hp2;clear hp2)
    | (go_at_call 108;refine (HB1.out w1 sx (s1.mono fun i _ hi=>.inl hi) ?_).mono ?_;(have h:=Rd.of_own HO1.out;rw [←HF.out] at h;exact h.mono fun i hi=>hi.2);rintro e w2 ⟨a1,rfl,ha1,hp1,hx2⟩;have s2:=s1.ext hx2;have HPA:=Lib.hid hp1;clear hp1))
 all_goals
  go_wp2_with fail
  go_ret2
  have hs1:=s1.size
  have hs2:=s2.size
  exact ⟨a1,a2,rfl,Nat.le_trans hs1 ha1,Nat.le_trans hs2 ha2,HP1.out a1 w2 w3 (s2.mono fun i _ hi=>.inl hi) HPA.out (hx3.st _),HPB.out,s3.mono fun i _ hi=>.inl hi⟩
theorem pairE_both {nr:Nat} (hL:w.ownsRow base 71 7 (.slice sl.a nl sl.c) nl ls) (hR:w.ownsRow base 71 7 (.slice sr.a nr sr.c) nr rs) (hb:base≤w.heap.size)
  (hr1:∀ u∈rs,u.oneCell'=true) (h4:nl≤4) (r4:nr≤4)
  (hB1:∀ (W:World) (s:Sl),St (RowsE sl sr) w W→Rd W (Lt W.heap.size) 7 s (nl+nr) (ls++rs)→Calls Tryz.prog 108 #[.slice s.a (nl+nr) s.c] W (BPostE P1 W)) :
  Calls Tryz.prog 193 #[.slice sl.a nl sl.c,.slice sr.a nr sr.c,.func (.func 108) #[] #[]] w fun e w'=>∃ a,e=.returned (.tuple #[.pointer (some ⟨a,0,none⟩),.pointer none])∧w.heap.size≤a∧P1 a w'∧St (RowsE sl sr) w w':=by
 obtain ⟨i0,hi,hz0,hz1,hz2⟩:=info_parts Tryz.infoEntry
 have hn4:¬(4:Int)<(nl:Int):=by omega
 have hr4:¬(4:Int)<(nr:Int):=by omega
 have h63:nl+nr≤maxLen:=by unfold maxLen;omega
 have hby:(nl+nr)*104≤140737488355328:=by omega
 have HB1:=Lib.hid hB1
 have HR:=Lib.hid (Rd.of_own hR)
 have HL:=Lib.hid hL
 have H1:=Lib.hid hr1
 clear hB1 hR hL hr1
 go_enter Tryz.func193,Tryz.ntmps193
 go_wp2_with (at_builtin;refine wpList_append_x _ rfl (.tmp 47) (.tmp 48) 22 rfl base 71 i0 _ 7 104 Tryz.underlying22 hi hz0 hz1 hz2 rfl (by decide) sl nl ls rfl HL.out (In base w.heap.size) sr nr rs rfl HR.out H1.out h63 hby hb ?_;intro sx w1 hown1 hwr1 hsx)
 have s1:St (fun b=>sl.row=some b) w w1:=hwr1.st fun i hi=>hi
 refine (HB1.out w1 sx (s1.mono fun i _ hi=>.inl hi) ((Rd.of_own hown1).mono fun i hi=>hi.2)).mono ?_
 rintro e w2 ⟨a1,rfl,ha1,hp1,hx2⟩
 have HP:=Lib.hid hp1
 clear hp1 hown1 hwr1 hsx
 go_wp2_with fail
 go_ret2
 exact ⟨a1,rfl,Nat.le_trans s1.size ha1,HP.out,(s1.ext hx2).mono fun i _ hi=>.inl hi⟩
end
abbrev RowsN (sl sr:Sl):Nat→Prop:=fun b=>sl.row=some b∨sr.row=some b
def BPostN (P:Nat→World→Prop) (W:World) (e:Ending) (W':World):Prop:=∃ a,e=.returned (.pointer (some ⟨a,0,none⟩))∧W.heap.size≤a∧P a W'∧Ext W W'
theorem own_stN {w W:World} {base n:Nat} {s:Sl} {xs:List Value} {G:Nat→Prop} (h:w.ownsRow base 39 1 (.slice s.a n s.c) n xs) (hs:St G w W) (hG:∀ b,s.row=some b→¬G b):W.ownsRow base 39 1 (.slice s.a n s.c) n xs:=
 own_agree h hs.agree fun b hb=>⟨(own_row h hb).2,hG b hb⟩
theorem rd_takeN {w:World} {F:Nat→Prop} {n m:Nat} {s:Sl} {cs:List Value} (h:Rd w F 1 s n cs) (hm:m≤n):Rd w F 1 s m (cs.take (m*1)):=h.take hm
theorem lastN {ls:List Value} {n:Nat} (hl:ls.length=n*1) (hn:0<n) (hp:∀ u∈ls,∃ p,u=Value.pointer p):∃ v0:Option Addr,ls.drop ((n - 1)*1)=[.pointer v0]:=by
 have h:(ls.drop ((n - 1)*1)).length=1:=by rw [List.length_drop,hl];omega
 match hd:ls.drop ((n - 1)*1),h with
 | [x],_=>obtain ⟨p,hq⟩:=hp x (List.mem_of_mem_drop (by rw [hd];exact List.mem_singleton.2 rfl));exact ⟨p,by rw [hq]⟩
section
variable {w : World} {base m nr : Nat} {sl sr : Sl} {ls rs : List Value} {P1 P2 : Nat → World → Prop}
theorem pairN_left (hL:w.ownsRow base 39 1 (.slice sl.a (m+1) sl.c) (m+1) ls) (hR:w.ownsRow base 39 1 (.slice sr.a nr sr.c) nr rs) (hb:base≤w.heap.size) (hne:∀ b,sl.row=some b→sr.row≠some b)
  (hl1:∀ u∈ls,u.oneCell'=true) (hr1:∀ u∈rs,u.oneCell'=true) (hpt:∀ u∈ls,∃ p,u=Value.pointer p) (h4:4<m+1) (h8:m+1≤8) (r8:nr≤8)
  (hB1:∀ (W:World) (s:Sl),St (RowsN sl sr) w W→Rd W (Lt W.heap.size) 1 s m (ls.take (m*1))→Calls Tryz.prog 62 #[.slice s.a m s.c] W (BPostN P1 W))
  (hB2:∀ (W:World) (s:Sl),St (RowsN sl sr) w W→Rd W (Lt W.heap.size) 1 s (nr+1) (ls.drop (m*1)++rs)→Calls Tryz.prog 62 #[.slice s.a (nr+1) s.c] W (BPostN P2 W))
  (hP1:∀ a W W',St (RowsN sl sr) w W→P1 a W→St (RowsN sl sr) W W'→P1 a W') :
  Calls Tryz.prog 194 #[.slice sl.a (m+1) sl.c,.slice sr.a nr sr.c,.func (.func 62) #[] #[]] w fun e w'=>∃ a b,e=.returned (.tuple #[.pointer (some ⟨a,0,none⟩),.pointer (some ⟨b,0,none⟩)])∧w.heap.size≤a∧w.heap.size≤b∧P1 a w'∧P2 b w'∧St (RowsN sl sr) w w':=by
 obtain ⟨i0,hi,hz0,hz1,hz2⟩:=info_parts Tryz.infoPNode
 obtain ⟨v0,hlast⟩:=lastN hL.1 (by omega) hpt
 rw [Nat.add_sub_cancel] at hlast
 obtain ⟨gl,capl,rfl,hgb,hncl,hcml,hfill⟩:=own_block hL (by omega)
 have hgl:gl<w.heap.size:=hfill.lt
 have hrowl:∀ b,sr.row=some b→b<w.heap.size:=fun b hb=>(own_row hR hb).2
 have hcl:∀ W,St (fun b=>sr.row=some b) w W→∀ j u,ls[j]? = some u→W.cell? ⟨gl,j,none⟩=some u:=fun W hW j u hj=>by
  obtain ⟨b,o,h1,h2,h3⟩:=Rd.of_own hL
  obtain ⟨e1,-,-⟩:=h1.eq (by omega)
  obtain ⟨rfl,rfl⟩:gl=b∧0=o:=by simpa using e1
  have:=h3 j u hj
  rw [Nat.zero_add] at this
  exact (hW.cell hgl (hne gl rfl)).trans this
 have hlc:∀ (c:Nat) (u:Value),([.pointer v0]:List Value)[c]? = some u→ls[m*1+c]? = some u:=fun c u hu=>by rw [←hlast,List.getElem?_drop] at hu;exact hu
 have hS:∀ W,St (fun b=>sr.row=some b) w W→W.cell? ⟨gl,m,none⟩=some (.pointer v0):=fun W hW=>by have:=hcl W hW _ _ (hlc 0 _ rfl);simpa using this
 have hgt:(4:Int)<(m:Int)+1:=by omega
 have hmc:(m:Int)≤(capl:Int):=by omega
 have hmn:(m:Int)<(m:Int)+1:=by omega
 have hcm':(capl:Int)≤9223372036854775807:=by unfold maxLen at hcml;omega
 have hw1:IntKind.i64.wrap ((m:Int)+1)=(m:Int)+1:=by rw [IntKind.wrap_i64];omega
 have hb1:∀ W,St (fun b=>sr.row=some b) w W→Calls Tryz.prog 62 #[.slice (some ⟨gl,0,none⟩) m capl] W (BPostN P1 W):=fun W hW=>
  hB1 W ⟨some ⟨gl,0,none⟩,capl⟩ (hW.mono fun i _ hi=>.inr hi) (rd_takeN ((Rd.of_own (own_stN (s:=⟨some ⟨gl,0,none⟩,capl⟩) hL hW (fun b hb=>hne b hb))).mono fun i hi=>hi.2) (by omega))
 have hins:∀ W vb,Ext w W→Blk W vb 39 #[.pointer v0]→w.heap.size≤vb→Calls Tryz.prog 109 #[.slice sr.a nr sr.c,.int .i64 0,.slice (some ⟨vb,0,none⟩) 1 1] W (InsPostN base sr nr 0 rs [.pointer v0] W):=fun W vb hW hv hvb=>
  insN_any (own_stN hR (hW.st (fun _=>False)) (fun _ _ h=>h)) (Nat.le_trans hb hW.size) (by omega) (Nat.zero_le _) rfl hv (fun e=>by have:=hrowl vb e;omega) (fun u hu=>hl1 u (List.mem_of_mem_drop (hlast▸hu))) hr1
 have HS:=Lib.hid hS
 have HB1:=Lib.hid hb1
 have HB2:=Lib.hid hB2
 have HI:=Lib.hid hins
 have HP1:=Lib.hid hP1
 have HL:=Lib.hid hlast
 clear hS hb1 hB1 hB2 hins hP1 hlast hlc hcl hl1 hr1 hL hR hfill hne
 go_enter Tryz.func194,Tryz.ntmps194
 go_wp2_with fail
 have s0:=(St.refl (fun b=>sr.row=some b) w).drew
 have k0:=HS.out _ s0
 have e0:=(Ext.refl w).drew
 have sA:=((((Ext.refl w).alloc #[.pointer v0] 39).drew).st (fun b=>sr.row=some b))
 have HV0:=Lib.hid (show Blk (w.alloc (.cells #[.pointer v0] 39)).drew w.heap.size 39 #[.pointer v0] from Blk.new w 39 _)
 go_region_held3 (fun W=>W.cell? ⟨gl,m,none⟩=some (.pointer v0)) (first | (with_reducible exact HS.out _ s0) | (with_reducible exact HS.out _ (s0.alloc _ _)) | (with_reducible exact HS.out _ s1) | (with_reducible exact HS.out _ (s1.alloc _ _)) | (with_reducible exact HS.out _ s2) | (with_reducible exact HS.out _ s3q) | (with_reducible exact HS.out _ sA) | go_keep)
  (first
    | (go_at_call_of 62 (Value.slice (some ⟨gl,0,none⟩) m capl);refine (HB1.out _ (by first | exact s0 | exact s0.alloc _ _)).mono ?_;rintro e w1 ⟨a1,rfl,ha1,hp1,hx1⟩;have s1:=(show St (fun b=>sr.row=some b) w _ from by first | exact s0 | exact s0.alloc _ _).ext hx1;have e1:=(show Ext w _ from by first | exact e0 | exact e0.alloc _ _).trans hx1;have HPA:=Lib.hid hp1;clear hp1)
    | (go_at_call 109;refine (HI.out _ _ (by first | (with_reducible exact e1) | exact e1.alloc _ _) (by first | exact (Blk.new _ _ _) | exact Blk.ext HV0.out hx1) (by first | exact e1.size | exact Nat.le_refl _)).mono ?_;rintro e w2 ⟨s3,rfl,ho2,hw2,hr2⟩;have s12:=(show St (RowsN ⟨some ⟨gl,0,none⟩,capl⟩ sr) w1 w2 from by first | exact (hw2.st fun i hi=>.inr hi) | exact (((Ext.refl w1).alloc _ _).st _).trans (hw2.st fun i hi=>.inr hi));have s2:=s1.trans (show St (fun b=>sr.row=some b) w1 w2 from by first | exact (hw2.st fun i hi=>hi) | exact (((Ext.refl w1).alloc _ _).st _).trans (hw2.st fun i hi=>hi));have HO2:=Lib.hid ho2;clear ho2 hw2 hr2)
    | (go_at_call 62;refine (HB2.out w2 s3 (s2.mono fun i _ hi=>.inr hi) ?_).mono ?_;(have h:=Rd.of_own HO2.out;simp only [Nat.zero_mul,List.take_zero,List.nil_append,List.drop_zero] at h;rw [←HL.out] at h;exact h.mono fun i hi=>hi.2);rintro e w3 ⟨a2,rfl,ha2,hp2,hx3⟩;have s3q:=s2.ext hx3;have HPB:=Lib.hid hp2;clear hp2))
 all_goals
  go_wp2_with fail
  go_ret2
  have hs1:=s1.size
  have hs2:=s2.size
  refine ⟨a1,a2,rfl,?_,Nat.le_trans hs2 ha2,HP1.out a1 w1 w3 (s1.mono fun i _ hi=>.inr hi) HPA.out (s12.ext hx3),HPB.out,s3q.mono fun i _ hi=>.inr hi⟩
  simp only [World.size_alloc,World.size_drew] at ha1
  omega
end
theorem firstN {rs:List Value} {n:Nat} (hl:rs.length=n*1) (hn:0<n) (hp:∀ u∈rs,∃ p,u=Value.pointer p):∃ v0:Option Addr,rs.take 1=[.pointer v0]:=by
 have h:(rs.take 1).length=1:=by rw [List.length_take,hl];omega
 match hd:rs.take 1,h with
 | [x],_=>obtain ⟨p,hq⟩:=hp x (List.mem_of_mem_take (by rw [hd];exact List.mem_singleton.2 rfl));exact ⟨p,by rw [hq]⟩
section
variable {w : World} {base nl m : Nat} {sl sr : Sl} {ls rs : List Value} {P1 P2 : Nat → World → Prop}
theorem pairN_right (hL:w.ownsRow base 39 1 (.slice sl.a nl sl.c) nl ls) (hR:w.ownsRow base 39 1 (.slice sr.a (m+1) sr.c) (m+1) rs) (hb:base≤w.heap.size) (hne:∀ b,sl.row=some b→sr.row≠some b)
  (hl1:∀ u∈ls,u.oneCell'=true) (hr1:∀ u∈rs,u.oneCell'=true) (hpt:∀ u∈rs,∃ p,u=Value.pointer p) (h4:nl≤4) (h5:4<m+1) (h8:m+1≤8)
  (hB1:∀ (W:World) (s:Sl),St (RowsN sl sr) w W→Rd W (Lt W.heap.size) 1 s (nl+1) (ls++rs.take 1)→Calls Tryz.prog 62 #[.slice s.a (nl+1) s.c] W (BPostN P1 W))
  (hB2:∀ (W:World) (s:Sl),St (RowsN sl sr) w W→Rd W (Lt W.heap.size) 1 s m (rs.drop 1)→Calls Tryz.prog 62 #[.slice s.a m s.c] W (BPostN P2 W))
  (hP1:∀ a W W',St (RowsN sl sr) w W→P1 a W→St (RowsN sl sr) W W'→P1 a W') :
  Calls Tryz.prog 194 #[.slice sl.a nl sl.c,.slice sr.a (m+1) sr.c,.func (.func 62) #[] #[]] w fun e w'=>∃ a b,e=.returned (.tuple #[.pointer (some ⟨a,0,none⟩),.pointer (some ⟨b,0,none⟩)])∧w.heap.size≤a∧w.heap.size≤b∧P1 a w'∧P2 b w'∧St (RowsN sl sr) w w':=by
 obtain ⟨i0,hi,hz0,hz1,hz2⟩:=info_parts Tryz.infoPNode
 obtain ⟨v0,hfirst⟩:=firstN hR.1 (by omega) hpt
 obtain ⟨gr,capr,rfl,hgb,hncr,hcmr,hfilr⟩:=own_block hR (by omega)
 have hgr:gr<w.heap.size:=hfilr.lt
 have hne':∀ b,sl.row=some b→b≠gr:=fun b hb e=>hne b hb (by simp [Sl.row,e])
 have hrd:Rd w (fun b=>b=gr) 1 ⟨some ⟨gr,0,none⟩,capr⟩ (m+1) rs:=by
  obtain ⟨b,o,h1,h2,h3⟩:=Rd.of_own hR
  obtain ⟨e1,hnc,hcm⟩:=h1.eq (by omega)
  obtain ⟨rfl,rfl⟩:gr=b∧0=o:=by simpa using e1
  exact ⟨gr,0,.some _ _ _ _ hnc hcm rfl,h2,h3⟩
 have hcr:∀ W,St (fun b=>sl.row=some b) w W→∀ j u,rs[j]? = some u→W.cell? ⟨gr,j,none⟩=some u:=fun W hW j u hj=>by
  obtain ⟨b,o,h1,h2,h3⟩:=Rd.of_own hR
  obtain ⟨e1,-,-⟩:=h1.eq (by omega)
  obtain ⟨rfl,rfl⟩:gr=b∧0=o:=by simpa using e1
  have:=h3 j u hj
  rw [Nat.zero_add] at this
  exact (hW.cell hgr (fun e=>hne' gr e rfl)).trans this
 have hfc:∀ (c:Nat) (u:Value),([.pointer v0]:List Value)[c]? = some u→rs[c]? = some u:=fun c u hu=>by
  rw [←hfirst,List.getElem?_take] at hu
  split at hu
  ·exact hu
  cases hu
 have hS:∀ W,St (fun b=>sl.row=some b) w W→W.cell? ⟨gr,0,none⟩=some (.pointer v0):=fun W hW=>hcr W hW _ _ (hfc 0 _ rfl)
 have hn4:¬(4:Int)<(nl:Int):=by omega
 have hgt:(4:Int)<(m:Int)+1:=by omega
 have hm0:(0:Int)<(m:Int)+1:=by omega
 have hm1:(1:Int)≤(m:Int)+1:=by omega
 have hc1:¬capr=1:=by omega
 have hw1:IntKind.i64.wrap ((m:Int)+1)=(m:Int)+1:=by rw [IntKind.wrap_i64];omega
 have hcm':(capr:Int)≤9223372036854775807:=by unfold maxLen at hcmr;omega
 have hcn:(m:Int)+1≤(capr:Int):=by omega
 have h63:nl+1≤maxLen:=by unfold maxLen;omega
 have hby:(nl+1)*8≤140737488355328:=by omega
 have hown:∀ W,Ext w W→W.ownsRow base 39 1 (.slice sl.a nl sl.c) nl ls:=fun W hW=>own_stN hL (hW.st (fun _=>False)) (fun _ _ h=>h)
 have hb2:∀ W,St (fun b=>sl.row=some b) w W→Calls Tryz.prog 62 #[.slice (some ⟨gr,1,none⟩) m (capr - 1)] W (BPostN P2 W):=fun W hW=>by
  refine hB2 W ⟨some ⟨gr,1,none⟩,capr - 1⟩ (hW.mono fun i _ hi=>.inl hi) ?_
  have h:=((hrd.agree (hW.agree.mono fun i (hi:i=gr)=>⟨by omega,fun e=>hne' i e hi⟩)).drop (m:=1) (by omega)).mono (G:=Lt W.heap.size) fun i (hi:i=gr)=>by have:=hW.size;show i<_;omega
  simpa using h
 have HS:=Lib.hid hS
 have HB1:=Lib.hid hB1
 have HB2:=Lib.hid hb2
 have HP1:=Lib.hid hP1
 have HF:=Lib.hid hfirst
 have HOWN:=Lib.hid hown
 have HL1:=Lib.hid hl1
 have H1C:Hid (∀ u∈([.pointer v0]:List Value),u.oneCell'=true):=Lib.hid fun u hu=>hr1 u (List.mem_of_mem_take (hfirst▸hu))
 clear hS hb2 hB1 hB2 hP1 hfirst hcr hfc hl1 hr1 hL hR hfilr hne hne' hown hrd
 go_enter Tryz.func194,Tryz.ntmps194
 go_wp2_with fail
 have s0:=(St.refl (fun b=>sl.row=some b) w).drew
 have e0:=(Ext.refl w).drew
 have sA:=((((Ext.refl w).alloc #[.pointer v0] 39).drew).st (fun b=>sl.row=some b))
 have k0:=HS.out _ s0
 have HV0:=Lib.hid (show Blk (w.alloc (.cells #[.pointer v0] 39)).drew w.heap.size 39 #[.pointer v0] from Blk.new w 39 _)
 go_region_held3 (fun W=>W.cell? ⟨gr,0,none⟩=some (.pointer v0)) (first | (with_reducible exact HS.out _ s0) | (with_reducible exact HS.out _ sA) | (with_reducible exact HS.out _ s1) | (with_reducible exact HS.out _ s2) | (with_reducible exact HS.out _ s3) | go_keep)
  (first
    | (refine step_append_x _ rfl (.tmp 35) (.tmp 39) 108 rfl base 39 i0 _ 1 8 Tryz.underlying108 hi hz0 hz1 hz2 rfl (by decide) sl nl ls (by rfl) (HOWN.out _ (((Ext.refl w).alloc _ _).drew)) (fun b=>b=w.heap.size) ⟨some ⟨w.heap.size,0,none⟩,1⟩ 1 [.pointer v0] (by rfl) (Rd.block HV0.out (by decide) rfl) H1C.out h63 hby (by rw [World.size_drew,World.size_alloc];omega) ?_;intro sx w1 hown1 hwr1 hsx;have s1:=sA.trans (hwr1.st fun i hi=>hi);have HO1:=Lib.hid hown1;clear hown1 hsx)
    | (go_at_call 62;refine (HB2.out w2 s2).mono ?_;rintro e w3 ⟨a2,rfl,ha2,hp2,hx3⟩;have s3:=s2.ext hx3;have HPB:=Lib.hid hp2;clear hp2)
    | (go_at_call 62;refine (HB1.out w1 sx (s1.mono fun i _ hi=>.inl hi) ?_).mono ?_;(have h:=Rd.of_own HO1.out;rw [←HF.out] at h;exact h.mono fun i hi=>hi.2);rintro e w2 ⟨a1,rfl,ha1,hp1,hx2⟩;have s2:=s1.ext hx2;have HPA:=Lib.hid hp1;clear hp1))
 all_goals
  go_wp2_with fail
  go_ret2
  have hs1:=s1.size
  have hs2:=s2.size
  exact ⟨a1,a2,rfl,Nat.le_trans hs1 ha1,Nat.le_trans hs2 ha2,HP1.out a1 w2 w3 (s2.mono fun i _ hi=>.inl hi) HPA.out (hx3.st _),HPB.out,s3.mono fun i _ hi=>.inl hi⟩
theorem pairN_both {nr:Nat} (hL:w.ownsRow base 39 1 (.slice sl.a nl sl.c) nl ls) (hR:w.ownsRow base 39 1 (.slice sr.a nr sr.c) nr rs) (hb:base≤w.heap.size)
  (hr1:∀ u∈rs,u.oneCell'=true) (h4:nl≤4) (r4:nr≤4)
  (hB1:∀ (W:World) (s:Sl),St (RowsN sl sr) w W→Rd W (Lt W.heap.size) 1 s (nl+nr) (ls++rs)→Calls Tryz.prog 62 #[.slice s.a (nl+nr) s.c] W (BPostN P1 W)) :
  Calls Tryz.prog 194 #[.slice sl.a nl sl.c,.slice sr.a nr sr.c,.func (.func 62) #[] #[]] w fun e w'=>∃ a,e=.returned (.tuple #[.pointer (some ⟨a,0,none⟩),.pointer none])∧w.heap.size≤a∧P1 a w'∧St (RowsN sl sr) w w':=by
 obtain ⟨i0,hi,hz0,hz1,hz2⟩:=info_parts Tryz.infoPNode
 have hn4:¬(4:Int)<(nl:Int):=by omega
 have hr4:¬(4:Int)<(nr:Int):=by omega
 have h63:nl+nr≤maxLen:=by unfold maxLen;omega
 have hby:(nl+nr)*8≤140737488355328:=by omega
 have HB1:=Lib.hid hB1
 have HR:=Lib.hid (Rd.of_own hR)
 have HL:=Lib.hid hL
 have H1:=Lib.hid hr1
 clear hB1 hR hL hr1
 go_enter Tryz.func194,Tryz.ntmps194
 go_wp2_with (at_builtin;refine wpList_append_x _ rfl (.tmp 47) (.tmp 48) 108 rfl base 39 i0 _ 1 8 Tryz.underlying108 hi hz0 hz1 hz2 rfl (by decide) sl nl ls rfl HL.out (In base w.heap.size) sr nr rs rfl HR.out H1.out h63 hby hb ?_;intro sx w1 hown1 hwr1 hsx)
 have s1:St (fun b=>sl.row=some b) w w1:=hwr1.st fun i hi=>hi
 refine (HB1.out w1 sx (s1.mono fun i _ hi=>.inl hi) ((Rd.of_own hown1).mono fun i hi=>hi.2)).mono ?_
 rintro e w2 ⟨a1,rfl,ha1,hp1,hx2⟩
 have HP:=Lib.hid hp1
 clear hp1 hown1 hwr1 hsx
 go_wp2_with fail
 go_ret2
 exact ⟨a1,rfl,Nat.le_trans s1.size ha1,HP.out,(s1.ext hx2).mono fun i _ hi=>.inl hi⟩
end
def PairPost (F:Nat→Prop) (h:Nat) (l r:PT h) (w:World) (e:Ending) (w':World):Prop:=
 ∃ ts:List (PT h),e=two h ts∧PairR w.heap.size h l r ts∧(∀ u∈ts,IsN w' (Up F w w') h u)
theorem rd_es {w:World} {F:Nat→Prop} {s:Sl} {n:Nat} {xs:List LE} (hn:n=xs.length) (hr:Rd w F 7 s n (flatE xs)) (hv:Vals w F xs) (hf:xs.length≤1000):ES w F s xs:=by
 subst hn
 exact ⟨hr,hv,by omega⟩
theorem mem_two {α:Type} {P:α→Prop} {x y:α} (hx:P x) (hy:P y):∀ u∈[x,y],P u:=fun u hu=>by
 rcases List.mem_cons.1 hu with rfl | hu
 ·exact hx
 obtain rfl:=List.mem_singleton.1 hu;exact hy
theorem mem_one {α:Type} {P:α→Prop} {x:α} (hx:P x):∀ u∈[x],P u:=fun u hu=>by
 obtain rfl:=List.mem_singleton.1 hu;exact hx
theorem leaf_b {w W:World} {G:Nat→Prop} {s:Sl} {n:Nat} {xs:List LE} (hW:St G w W) (hG:∀ b,G b→b<w.heap.size) (hn:n=xs.length) (h8:xs.length≤8) (hr:Rd W (Lt W.heap.size) 7 s n (flatE xs)) (hv:Vals w (NH G w) xs) (hrise:risingN xs) :
  Calls Tryz.prog 108 #[.slice s.a n s.c] W (BPostE (fun a W'=>w.heap.size≤a∧IsN W' (fun b=>w.heap.size≤b∧b<W'.heap.size) 0 (a,xs.map LE.ent)) W):=by
 have hes:ES W (Lt W.heap.size) s xs:=rd_es hn hr ((hv.agree hW.agree).mono fun i hi=>Nat.lt_of_lt_of_le hi.1 hW.size) (by omega)
 refine (tleaf_any hes hn hrise h8).mono ?_
 rintro e w' ⟨t,rfl,h1,h2,h3,h4⟩
 refine ⟨addr 0 t,rfl,h2,⟨Nat.le_trans hW.size h2,?_⟩,h4⟩
 have e1:t=(t.1,xs.map LE.ent):=by rw [←h1];rfl
 rw [e1] at h3
 exact h3.mono fun i hi=>⟨Nat.le_trans hW.size hi.1,hi.2⟩
theorem isn_stay {w W W':World} {G:Nat→Prop} (hG:∀ b,G b→b<w.heap.size) {h:Nat} {t:PT h} (hn:IsN W (fun b=>w.heap.size≤b∧b<W.heap.size) h t) (hs:St G W W'):IsN W' (fun b=>w.heap.size≤b∧b<W'.heap.size) h t:=
 (hn.agree (hs.agree.mono fun i hi=>⟨hi.2,fun hh=>by have:=hG i hh;omega⟩)).mono fun i hi=>⟨hi.1,Nat.lt_of_lt_of_le hi.2 hs.size⟩
theorem pairE_any {w:World} {base:Nat} {sl sr:Sl} {xs ys:List LE} (hL:OE w base sl xs) (hR:OE w base sr ys) (hb:base≤w.heap.size) (hne:∀ b,sl.row=some b→sr.row≠some b)
  (hvl:Vals w (NH (RowsE sl sr) w) xs) (hvr:Vals w (NH (RowsE sl sr) w) ys) (hrise:risingN (xs++ys)) (x8:xs.length≤8) (y8:ys.length≤8) (hx:xs.length+ys.length≤11) {l r:PT 0} (el:xs.map LE.ent=l.2) (er:ys.map LE.ent=r.2) :
  Calls Tryz.prog 193 #[.slice sl.a xs.length sl.c,.slice sr.a ys.length sr.c,.func (.func 108) #[] #[]] w fun e w'=>PairPost (fun _=>False) 0 l r w e w'∧St (RowsE sl sr) w w':=by
 have hG:∀ b,RowsE sl sr b→b<w.heap.size:=fun b hb=>hb.elim (fun h=>(own_row hL.own h).2) (fun h=>(own_row hR.own h).2)
 have two_of:∀ (w':World) (a b:Nat) (zs zs':List LE),(w.heap.size≤a∧IsN w' (fun b=>w.heap.size≤b∧b<w'.heap.size) 0 (a,zs.map LE.ent))→(w.heap.size≤b∧IsN w' (fun b=>w.heap.size≤b∧b<w'.heap.size) 0 (b,zs'.map LE.ent))→
   pairL l.2 r.2=[zs.map LE.ent,zs'.map LE.ent]→PairPost (fun _=>False) 0 l r w (.returned (.tuple #[.pointer (some ⟨a,0,none⟩),.pointer (some ⟨b,0,none⟩)])) w':=fun w' a b zs zs' ha hb hp=>by
  refine ⟨[((a,zs.map LE.ent):PT 0),((b,zs'.map LE.ent):PT 0)],rfl,⟨hp.symm,mem_two (α:=PT 0) ha.1 hb.1⟩,mem_two (α:=PT 0) (ha.2.mono fun i hi=>.inr hi) (hb.2.mono fun i hi=>.inr hi)⟩
 have e1:l.2.length=xs.length:=by rw [←el,List.length_map]
 have e2:r.2.length=ys.length:=by rw [←er,List.length_map]
 by_cases h4:4<xs.length
 ·obtain ⟨m,hm⟩:∃ m,xs.length=m+1:=⟨xs.length - 1,by omega⟩
  have t1:(flatE xs).take (m*7)=flatE (xs.take m):=flatE_take xs m
  have t2:(flatE xs).drop (m*7)++flatE ys=flatE (xs.drop m++ys):=by rw [flatE_drop,flatE_app]
  have hLo:=hL.own
  rw [hm] at hLo ⊢
  refine (pairE_left (P1:=fun a W'=>w.heap.size≤a∧IsN W' (fun b=>w.heap.size≤b∧b<W'.heap.size) 0 (a,(xs.take m).map LE.ent)) (P2:=fun a W'=>w.heap.size≤a∧IsN W' (fun b=>w.heap.size≤b∧b<W'.heap.size) 0 (a,(xs.drop m++ys).map LE.ent))
   hLo hR.own hb hne (flatE_one xs) (flatE_one ys) trivial (by omega) (by omega) y8 (fun W s hW hr=>?_) (fun W s hW hr=>?_) (fun a W W' _ h hs=>⟨h.1,isn_stay hG h.2 hs⟩)).mono ?_
  ·rw [t1] at hr
   exact leaf_b hW hG (by rw [List.length_take];omega) (by rw [List.length_take];omega) hr (fun x hx=>hvl x (List.mem_of_mem_take hx)) (by have:=hrise.take m;rwa [List.take_append_of_le_length (by omega)] at this)
  ·rw [t2] at hr
   exact leaf_b hW hG (by rw [List.length_append,List.length_drop];omega) (by rw [List.length_append,List.length_drop];omega) hr (fun x hx=>by
    rcases List.mem_append.1 hx with hx | hx
    ·exact hvl x (List.mem_of_mem_drop hx)
    exact hvr x hx) (by have:=hrise.drop m;rwa [List.drop_append_of_le_length (by omega)] at this)
  rintro e w' ⟨a,b,rfl,-,-,h1,h2,hs⟩
  refine ⟨two_of w' a b _ _ h1 h2 ?_,hs⟩
  rw [pairL,if_pos (by omega),←el,←er,List.map_append,List.map_take,List.map_drop,List.length_map,hm]
  rfl
 by_cases h5:4<ys.length
 ·obtain ⟨m,hm⟩:∃ m,ys.length=m+1:=⟨ys.length - 1,by omega⟩
  have t1:flatE xs++(flatE ys).take 7=flatE (xs++ys.take 1):=by rw [flatE_app,←flatE_take]
  have t2:(flatE ys).drop 7=flatE (ys.drop 1):=by rw [←flatE_drop]
  have hRo:=hR.own
  rw [hm] at hRo ⊢
  refine (pairE_right (P1:=fun a W'=>w.heap.size≤a∧IsN W' (fun b=>w.heap.size≤b∧b<W'.heap.size) 0 (a,(xs++ys.take 1).map LE.ent)) (P2:=fun a W'=>w.heap.size≤a∧IsN W' (fun b=>w.heap.size≤b∧b<W'.heap.size) 0 (a,(ys.drop 1).map LE.ent))
   hL.own hRo hb hne (flatE_one xs) (flatE_one ys) trivial (by omega) (by omega) (by omega) (fun W s hW hr=>?_) (fun W s hW hr=>?_) (fun a W W' _ h hs=>⟨h.1,isn_stay hG h.2 hs⟩)).mono ?_
  ·rw [t1] at hr
   exact leaf_b hW hG (by rw [List.length_append,List.length_take];omega) (by rw [List.length_append,List.length_take];omega) hr (fun x hx=>by
    rcases List.mem_append.1 hx with hx | hx
    ·exact hvl x hx
    exact hvr x (List.mem_of_mem_take hx)) (by have:=hrise.take (xs.length+1);rwa [List.take_length_add_append] at this)
  ·rw [t2] at hr
   exact leaf_b hW hG (by rw [List.length_drop];omega) (by rw [List.length_drop];omega) hr (fun x hx=>hvr x (List.mem_of_mem_drop hx)) (by have:=hrise.drop (xs.length+1);rwa [List.drop_length_add_append] at this)
  rintro e w' ⟨a,b,rfl,-,-,h1,h2,hs⟩
  refine ⟨two_of w' a b _ _ h1 h2 ?_,hs⟩
  rw [pairL,if_neg (by omega),if_pos (by omega),←el,←er,List.map_append,List.map_take,List.map_drop]
 have t1:flatE xs++flatE ys=flatE (xs++ys):=by rw [flatE_app]
 refine (pairE_both (P1:=fun a W'=>w.heap.size≤a∧IsN W' (fun b=>w.heap.size≤b∧b<W'.heap.size) 0 (a,(xs++ys).map LE.ent)) hL.own hR.own hb (flatE_one ys) (by omega) (by omega) (fun W s hW hr=>?_)).mono ?_
 ·rw [t1] at hr
  exact leaf_b hW hG (by rw [List.length_append]) (by rw [List.length_append];omega) hr (fun x hx=>by
   rcases List.mem_append.1 hx with hx | hx
   ·exact hvl x hx
   exact hvr x hx) hrise
 rintro e w' ⟨a,rfl,-,h1,hs⟩
 refine ⟨⟨[((a,(xs++ys).map LE.ent):PT 0)],rfl,⟨?_,mem_one (α:=PT 0) h1.1⟩,mem_one (α:=PT 0) (h1.2.mono fun i hi=>.inr hi)⟩,hs⟩
 show [(xs++ys).map LE.ent]=_
 rw [pairL,if_neg (by omega),if_neg (by omega),←el,←er,List.map_append]
theorem isn_stay2 {w W W':World} {F G:Nat→Prop} (hG:∀ b,G b→b<w.heap.size) (hF:∀ b,F b→b<w.heap.size∧¬G b) (hw:w.heap.size≤W.heap.size) {h:Nat} {t:PT h} (hn:IsN W (Up F w W) h t) (hs:St G W W'):IsN W' (Up F w W') h t:=
 (hn.agree (hs.agree.mono fun i hi=>hi.elim (fun h=>⟨Nat.lt_of_lt_of_le (hF i h).1 hw,(hF i h).2⟩) fun h=>⟨h.2,fun hh=>by have:=hG i hh;omega⟩)).mono fun i hi=>hi.imp_right fun h=>⟨h.1,Nat.lt_of_lt_of_le h.2 hs.size⟩
theorem inner_b {w W:World} {F G:Nat→Prop} {h:Nat} {s:Sl} {n:Nat} {ks:List (PT h)} (hW:St G w W) (hF:∀ b,F b→¬G b) (hn:n=ks.length) (h2:2≤ks.length) (h8:ks.length≤8) (hr:Rd W (Lt W.heap.size) 1 s n (ptrs h ks)) (hk:Kids w F h ks) :
  Calls Tryz.prog 62 #[.slice s.a n s.c] W (BPostN (fun a W'=>w.heap.size≤a∧IsN W' (Up F w W') (h+1) (a,ks)) W):=by
 subst hn
 have hk':Kids W F h ks:=⟨fun b hb=>Nat.lt_of_lt_of_le (hk.lt b hb) hW.size,fun x hx=>(hk.isn x hx).agree (hW.agree.mono fun i hi=>⟨hk.lt i hi,hF i hi⟩),hk.rise,hk.pos,hk.sz,hk.cn,hk.hh⟩
 refine (tinner_any hr rfl hk' h2 h8).mono ?_
 rintro e w' ⟨t,rfl,h1,h2,h3,h4⟩
 refine ⟨addr (h+1) t,rfl,h2,⟨Nat.le_trans hW.size h2,?_⟩,h4⟩
 have e1:t=(t.1,ks):=by subst h1;rfl
 rw [e1] at h3
 exact h3.mono fun i hi=>hi.imp_right fun h=>⟨Nat.le_trans hW.size h.1,h.2⟩
theorem ptrs_ptr (h:Nat) (ks:List (PT h)):∀ u∈ptrs h ks,∃ p,u=Value.pointer p:=fun u hu=>by
 obtain ⟨k,-,rfl⟩:=List.mem_map.1 hu
 exact ⟨_,rfl⟩
theorem ptrs_app (h:Nat) (a b:List (PT h)):ptrs h (a++b)=ptrs h a++ptrs h b:=by simp [ptrs]
theorem ptrs_drop (h:Nat) (a:List (PT h)) (i:Nat):ptrs h (a.drop i)=(ptrs h a).drop i:=by simp [ptrs,List.map_drop]
theorem pairN_any {w:World} {F:Nat→Prop} {base h:Nat} {sl sr:Sl} {l r:PT (h+1)} (hL:w.ownsRow base 39 1 (.slice sl.a l.2.length sl.c) l.2.length (ptrs h l.2)) (hR:w.ownsRow base 39 1 (.slice sr.a r.2.length sr.c) r.2.length (ptrs h r.2)) (hb:base≤w.heap.size) (hne:∀ b,sl.row=some b→sr.row≠some b)
  (hF:∀ b,F b→¬RowsN sl sr b) (hk:Kids w F h (l.2++r.2)) (l2:3≤l.2.length) (r2:3≤r.2.length) (l8:l.2.length≤8) (r8:r.2.length≤8) (hx:l.2.length+r.2.length≤11) :
  Calls Tryz.prog 194 #[.slice sl.a l.2.length sl.c,.slice sr.a r.2.length sr.c,.func (.func 62) #[] #[]] w fun e w'=>PairPost F (h+1) l r w e w'∧St (RowsN sl sr) w w':=by
 have hG:∀ b,RowsN sl sr b→b<w.heap.size:=fun b hb=>hb.elim (fun h=>(own_row hL h).2) (fun h=>(own_row hR h).2)
 have hF2:∀ b,F b→b<w.heap.size∧¬RowsN sl sr b:=fun b hb=>⟨hk.lt b hb,hF b hb⟩
 have two_of:∀ (w':World) (a b:Nat) (zs zs':List (PT h)),(w.heap.size≤a∧IsN w' (Up F w w') (h+1) (a,zs))→(w.heap.size≤b∧IsN w' (Up F w w') (h+1) (b,zs'))→
   pairL l.2 r.2=[zs,zs']→PairPost F (h+1) l r w (.returned (.tuple #[.pointer (some ⟨a,0,none⟩),.pointer (some ⟨b,0,none⟩)])) w':=fun w' a b zs zs' ha hb hp=>by
  refine ⟨[((a,zs):PT (h+1)),((b,zs'):PT (h+1))],rfl,⟨hp.symm,mem_two (α:=PT (h+1)) ha.1 hb.1⟩,mem_two (α:=PT (h+1)) ha.2 hb.2⟩
 by_cases h4:4<l.2.length
 ·obtain ⟨m,hm⟩:∃ m,l.2.length=m+1:=⟨l.2.length - 1,by omega⟩
  have t1:(ptrs h l.2).take (m*1)=ptrs h (l.2.take m):=by rw [Nat.mul_one,ptrs_take]
  have t2:(ptrs h l.2).drop (m*1)++ptrs h r.2=ptrs h (l.2.drop m++r.2):=by rw [ptrs_app,ptrs_drop,Nat.mul_one]
  have hLo:=hL
  rw [hm] at hLo ⊢
  refine (pairN_left (P1:=fun a W'=>w.heap.size≤a∧IsN W' (Up F w W') (h+1) (a,l.2.take m)) (P2:=fun a W'=>w.heap.size≤a∧IsN W' (Up F w W') (h+1) (a,l.2.drop m++r.2))
   hLo hR hb hne (ptrs_one h l.2) (ptrs_one h r.2) (ptrs_ptr h l.2) (by omega) (by omega) r8 (fun W s hW hr=>?_) (fun W s hW hr=>?_) (fun a W W' hw h hs=>⟨h.1,isn_stay2 hG hF2 hw.size h.2 hs⟩)).mono ?_
  ·rw [t1] at hr
   exact inner_b hW hF (by rw [List.length_take];omega) (by rw [List.length_take];omega) (by rw [List.length_take];omega) hr (by have:=hk.take m;rwa [List.take_append_of_le_length (by omega)] at this)
  ·rw [t2] at hr
   exact inner_b hW hF (by rw [List.length_append,List.length_drop];omega) (by rw [List.length_append,List.length_drop];omega) (by rw [List.length_append,List.length_drop];omega) hr (by have:=hk.drop m;rwa [List.drop_append_of_le_length (by omega)] at this)
  rintro e w' ⟨a,b,rfl,-,-,h1,h2,hs⟩
  refine ⟨two_of w' a b _ _ h1 h2 ?_,hs⟩
  rw [pairL,if_pos (by omega),hm]
  rfl
 by_cases h5:4<r.2.length
 ·obtain ⟨m,hm⟩:∃ m,r.2.length=m+1:=⟨r.2.length - 1,by omega⟩
  have t1:ptrs h l.2++(ptrs h r.2).take 1=ptrs h (l.2++r.2.take 1):=by rw [ptrs_app,ptrs_take]
  have t2:(ptrs h r.2).drop 1=ptrs h (r.2.drop 1):=by rw [ptrs_drop]
  have hRo:=hR
  rw [hm] at hRo ⊢
  refine (pairN_right (P1:=fun a W'=>w.heap.size≤a∧IsN W' (Up F w W') (h+1) (a,l.2++r.2.take 1)) (P2:=fun a W'=>w.heap.size≤a∧IsN W' (Up F w W') (h+1) (a,r.2.drop 1))
   hL hRo hb hne (ptrs_one h l.2) (ptrs_one h r.2) (ptrs_ptr h r.2) (by omega) (by omega) (by omega) (fun W s hW hr=>?_) (fun W s hW hr=>?_) (fun a W W' hw h hs=>⟨h.1,isn_stay2 hG hF2 hw.size h.2 hs⟩)).mono ?_
  ·rw [t1] at hr
   exact inner_b hW hF (by rw [List.length_append,List.length_take];omega) (by rw [List.length_append,List.length_take];omega) (by rw [List.length_append,List.length_take];omega) hr (by have:=hk.take (l.2.length+1);rwa [List.take_length_add_append] at this)
  ·rw [t2] at hr
   exact inner_b hW hF (by rw [List.length_drop];omega) (by rw [List.length_drop];omega) (by rw [List.length_drop];omega) hr (by have:=hk.drop (l.2.length+1);rwa [List.drop_length_add_append] at this)
  rintro e w' ⟨a,b,rfl,-,-,h1,h2,hs⟩
  refine ⟨two_of w' a b _ _ h1 h2 ?_,hs⟩
  rw [pairL,if_neg (by omega),if_pos (by omega)]
 have t1:ptrs h l.2++ptrs h r.2=ptrs h (l.2++r.2):=by rw [ptrs_app]
 refine (pairN_both (P1:=fun a W'=>w.heap.size≤a∧IsN W' (Up F w W') (h+1) (a,l.2++r.2)) hL hR hb (ptrs_one h r.2) (by omega) (by omega) (fun W s hW hr=>?_)).mono ?_
 ·rw [t1] at hr
  exact inner_b hW hF (by rw [List.length_append]) (by rw [List.length_append];omega) (by rw [List.length_append];omega) hr hk
 rintro e w' ⟨a,rfl,-,h1,hs⟩
 refine ⟨⟨[((a,l.2++r.2):PT (h+1))],rfl,⟨?_,mem_one (α:=PT (h+1)) h1.1⟩,mem_one (α:=PT (h+1)) h1.2⟩,hs⟩
 show [l.2++r.2]=_
 rw [pairL,if_neg (by omega),if_neg (by omega)]
end Go.Proofs.YtkhdiakpdafcdaaGreatDoor
