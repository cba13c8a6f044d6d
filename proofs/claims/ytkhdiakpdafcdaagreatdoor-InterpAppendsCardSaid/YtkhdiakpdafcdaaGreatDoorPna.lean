/- What the theorem needs of the texts Held, Held2, Mem, Copy, Rows2, Search, Plain, Node, Copies, Entry, Place: no condition of its own. -/
import Derived.Deep.RegionHeld3
import Derived.Lib.Hide
import Derived.Below
import Derived.WalkKit
import Derived.WalkLawsBesides
import Derived.WalkSpells
import Derived.Outline
import Derived.Deep.DeepFit
import Derived.Deep.DeepCutAuto
import Derived.Deep.QuietTactic
import Derived.BigQuiet
import Derived.Test.YtkhdiakpdafcdaaGreatDoorProg
import Derived.Shelf.Abstract
set_option maxRecDepth 100000
set_option maxHeartbeats 1000000
namespace Go.Proofs.YtkhdiakpdafcdaaGreatDoor
open Go.RowKit
set_option linter.unusedVariables false
section
variable {P : Program} {ops : Array Oper} {Q : Exit → Act → World → Prop} {md : Region.Mode} {S : World → Prop}
theorem held_on {i:Nat} {oi:Oper} {d:Option Tmp} {v:Value} {fuel:Nat} {listed:Array Bool} {a:Act} {w:World} (hi:ops[i]? = some oi) (hd:oi.dst=d)
  (hs:Region.noSelect ops=true) (hf:Region.free md ops listed i=true) (hr:(Region.ready md ops listed).contains i=true)
  (hQ:∀ c a w,Q (.panic c) (a.put d v) w→Q (.panic c) a w) (hw:Region.wanted oi (yielded ops a.tmps)=true) (hS:S w) (hy:∀ w,S w→(execOp a.eval oi).run P w=.ok (.value v) w)
  (h:wpAnyH P md ops Q S fuel (listed.setIfInBounds i true) (a.put d v) w):wpAnyH P md ops Q S (fuel+1) listed a w:=by
 subst hd
 exact wpAnyH_take hi hs hf hr hQ (.inl ⟨hw,hy⟩) hS h
theorem held_off {i:Nat} {oi:Oper} {d:Option Tmp} {fuel:Nat} {listed:Array Bool} {a:Act} {w:World} (hi:ops[i]? = some oi) (hd:oi.dst=d)
  (hs:Region.noSelect ops=true) (hf:Region.free md ops listed i=true) (hr:(Region.ready md ops listed).contains i=true)
  (hQ:∀ c a w,Q (.panic c) (a.put d undef) w→Q (.panic c) a w) (hw:Region.wanted oi (yielded ops a.tmps)=false) (hS:S w)
  (h:wpAnyH P md ops Q S fuel (listed.setIfInBounds i true) (a.put d undef) w):wpAnyH P md ops Q S (fuel+1) listed a w:=by
 subst hd
 exact wpAnyH_take hi hs hf hr hQ (.inr ⟨hw,rfl⟩) hS h
theorem held_call {i:Nat} {oi:Oper} {fuel:Nat} {listed:Array Bool} {a:Act} {w:World} (hr:Region.ready md ops listed=[i]) (hi:ops[i]? = some oi) (hw:Region.wanted oi (yielded ops a.tmps)=true)
  (h:∀ K':Act→World→Prop,Shut (∀ a w,S w→(S w→wpAnyH P md ops Q S fuel (listed.setIfInBounds i true) a w)→K' a w)→Oper.wp P oi a w K' Q):wpAnyH P md ops Q S (fuel+1) listed a w:=
 wpAnyH_ready hr (by simp) (AllReadyH.cons hi (fun K' hK=>by rw [if_pos hw];exact h K' hK) AllReadyH.nil)
end
section
variable {P : Program} {ops : Array Oper} {Q : Exit → Act → World → Prop} {md : Region.Mode} {S C : World → Prop}
theorem heldO (i:Nat) (d:Option Tmp) {oi:Oper} {fuel:Nat} {listed l':Array Bool} {a a':Act} {w:World} (hS:S w) (h:wpAnyH P md ops Q S fuel l' a' w)
  (hi:ops[i]? = some oi:=by rfl) (hd:oi.dst=d:=by rfl) (hs:Region.noSelect ops=true:=by kernel_rfl) (hf:Region.free md ops listed i=true:=by kernel_rfl) (hr:(Region.ready md ops listed).contains i=true:=by kernel_rfl)
  (hQ:∀ c a w,Q (.panic c) (a.put d undef) w→Q (.panic c) a w:=by exact fun _ _ _ h=>h) (hw:Region.wanted oi (yielded ops a.tmps)=false:=by rfl)
  (hl:listed.setIfInBounds i true=l':=by first | (simp only [List.setIfInBounds_toArray,List.set_cons_zero,List.set_cons_succ];rfl) | rfl)
  (hp:a.put d undef=a':=by first | (simp only [Act.put,List.setIfInBounds_toArray,List.set_cons_zero,List.set_cons_succ];rfl) | rfl):wpAnyH P md ops Q S (fuel+1) listed a w:=by
 subst hl hp
 exact held_off hi hd hs hf hr hQ hw hS h
theorem heldT (i:Nat) (d:Option Tmp) {v:Value} {oi:Oper} {fuel:Nat} {listed l':Array Bool} {a a':Act} {w:World} (hC:Hid (∀ W,S W→C W)) (hS:S w) (h:wpAnyH P md ops Q S fuel l' a' w)
  (hi:ops[i]? = some oi:=by rfl) (hd:oi.dst=d:=by rfl) (hs:Region.noSelect ops=true:=by kernel_rfl) (hf:Region.free md ops listed i=true:=by kernel_rfl) (hr:(Region.ready md ops listed).contains i=true:=by kernel_rfl)
  (hy:∀ w,C w→(execOp a.eval oi).run P w=.ok (.value v) w:=by (intro w hSc;go_simp;first | done | with_reducible rfl))
  (hQ:∀ c a w,Q (.panic c) (a.put d v) w→Q (.panic c) a w:=by exact fun _ _ _ h=>h) (hw:Region.wanted oi (yielded ops a.tmps)=true:=by rfl)
  (hl:listed.setIfInBounds i true=l':=by first | (simp only [List.setIfInBounds_toArray,List.set_cons_zero,List.set_cons_succ];rfl) | rfl)
  (hp:a.put d v=a':=by first | (simp only [Act.put,List.setIfInBounds_toArray,List.set_cons_zero,List.set_cons_succ];rfl) | rfl):wpAnyH P md ops Q S (fuel+1) listed a w:=by
 subst hl hp
 exact held_on hi hd hs hf hr hQ hw hS (fun w hw=>hy w (hC.out w hw)) h
theorem heldU (i:Nat) (d:Option Tmp) {v:Value} {oi:Oper} {fuel:Nat} {listed l':Array Bool} {a a':Act} {w:World} (hS:S w) (h:wpAnyH P md ops Q S fuel l' a' w)
  (hi:ops[i]? = some oi:=by rfl) (hd:oi.dst=d:=by rfl) (hs:Region.noSelect ops=true:=by kernel_rfl) (hf:Region.free md ops listed i=true:=by kernel_rfl) (hr:(Region.ready md ops listed).contains i=true:=by kernel_rfl)
  (hy:∀ w,S w→(execOp a.eval oi).run P w=.ok (.value v) w:=by (intro w hSw;(try dsimp only at hSw);go_simp;first | done | with_reducible rfl))
  (hQ:∀ c a w,Q (.panic c) (a.put d v) w→Q (.panic c) a w:=by exact fun _ _ _ h=>h) (hw:Region.wanted oi (yielded ops a.tmps)=true:=by rfl)
  (hl:listed.setIfInBounds i true=l':=by first | (simp only [List.setIfInBounds_toArray,List.set_cons_zero,List.set_cons_succ];rfl) | rfl)
  (hp:a.put d v=a':=by first | (simp only [Act.put,List.setIfInBounds_toArray,List.set_cons_zero,List.set_cons_succ];rfl) | rfl):wpAnyH P md ops Q S (fuel+1) listed a w:=by
 subst hl hp
 exact held_on hi hd hs hf hr hQ hw hS hy h
end
end Go.Proofs.YtkhdiakpdafcdaaGreatDoor
namespace Go.Proofs.YtkhdiakpdafcdaaGreatDoor
section
variable {P : Program} {ops : Array Oper} {Q : Exit → Act → World → Prop} {md : Region.Mode} {S : World → Prop}
theorem held_two {i j:Nat} {oi oj:Oper} {fuel:Nat} {listed:Array Bool} {a:Act} {w:World} (hr:Region.ready md ops listed=[i,j]) (hi:ops[i]? = some oi) (hj:ops[j]? = some oj) (hw:Region.wanted oi (yielded ops a.tmps)=true) (hv:Region.wanted oj (yielded ops a.tmps)=true)
  (h:∀ K':Act→World→Prop,Shut (∀ a w,S w→(S w→wpAnyH P md ops Q S fuel (listed.setIfInBounds i true) a w)→K' a w)→Oper.wp P oi a w K' Q)
  (h':∀ K':Act→World→Prop,Shut (∀ a w,S w→(S w→wpAnyH P md ops Q S fuel (listed.setIfInBounds j true) a w)→K' a w)→Oper.wp P oj a w K' Q):wpAnyH P md ops Q S (fuel+1) listed a w:=
 wpAnyH_ready hr (by simp) (AllReadyH.cons hi (fun K' hK=>by rw [if_pos hw];exact h K' hK) (AllReadyH.cons hj (fun K' hK=>by rw [if_pos hv];exact h' K' hK) AllReadyH.nil))
end
end Go.Proofs.YtkhdiakpdafcdaaGreatDoor
namespace Go.Proofs.YtkhdiakpdafcdaaGreatDoor
open Go.RowKit
structure Ext (w w':World):Prop where
 below:Below w.heap.size w w'
 free:∀ b o,w.heap.size≤b→w'.frozen? ⟨b,o,none⟩=false
theorem frozen_none {w:World} {b o:Nat} (h:w.heap.size≤b):w.frozen? ⟨b,o,none⟩=false:=by
 have:w.heap[b]? = none:=by simp;omega
 simp [World.frozen?,this]
theorem Ext.refl (w:World):Ext w w:=⟨Below.refl _ _,fun _ _ h=>frozen_none h⟩
theorem Ext.size {w w':World} (h:Ext w w'):w.heap.size≤w'.heap.size:=h.below.size
theorem Ext.trans {a b c:World} (h:Ext a b) (k:Ext b c):Ext a c:=by
 refine ⟨h.below.trans (k.below.mono h.size),fun i o hi=>?_⟩
 rcases Nat.lt_or_ge i b.heap.size with hl | hl
 ·rw [k.below.frozen (p:=⟨i,o,none⟩) hl];exact h.free i o hi
 exact k.free i o hl
theorem Ext.drew {a w:World} (h:Ext a w):Ext a w.drew:=⟨h.below.drew,fun b o hb=>h.free b o hb⟩
theorem Ext.drewN {a w:World} (h:Ext a w) (n:Nat):Ext a (w.drewN n):=⟨below_drewN h.below n,fun b o hb=>h.free b o hb⟩
theorem Ext.alloc {a w:World} (h:Ext a w) (c:Array Value) (t:TypeId):Ext a (w.alloc (.cells c t)):=by
 refine h.trans ⟨(Below.refl _ _).alloc (Nat.le_refl _) _,fun b o hb=>?_⟩
 by_cases hb':b=w.heap.size
 ·subst hb';simp
 exact frozen_none (by simp;omega)
theorem Ext.setCell {a w:World} (h:Ext a w) {p:Addr} (hp:a.heap.size≤p.block) (u:Value):Ext a (w.setCell p u):=
 ⟨h.below.setCell hp u,fun b o hb=>by rw [World.frozen?_setCell];exact h.free b o hb⟩
theorem Ext.cell {w w':World} (h:Ext w w') {b o:Nat} (hp:b<w.heap.size):w'.cell? ⟨b,o,none⟩=w.cell? ⟨b,o,none⟩:=h.below.cell (p:=⟨b,o,none⟩) hp
theorem Ext.frozen {w w':World} (h:Ext w w') {b o:Nat} (hp:b<w.heap.size):w'.frozen? ⟨b,o,none⟩=w.frozen? ⟨b,o,none⟩:=h.below.frozen (p:=⟨b,o,none⟩) hp
theorem Ext.heap {w w':World} (h:Ext w w') {b:Nat} (hp:b<w.heap.size):w'.heap[b]? = w.heap[b]?:=h.below.block b hp
theorem Ext.olds {w w':World} (h:Ext w w'):(∀ b o,b<w.heap.size→w'.cell? ⟨b,o,none⟩=w.cell? ⟨b,o,none⟩)∧(∀ b o,b<w.heap.size→w'.frozen? ⟨b,o,none⟩=w.frozen? ⟨b,o,none⟩):=
 ⟨fun _ _ hb=>h.cell hb,fun _ _ hb=>h.frozen hb⟩
def Agree (F:Nat→Prop) (w w':World):Prop:=∀ b,F b→w'.heap[b]? = w.heap[b]?
theorem Agree.cell {F:Nat→Prop} {w w':World} (h:Agree F w w') {b o:Nat} (hb:F b):w'.cell? ⟨b,o,none⟩=w.cell? ⟨b,o,none⟩:=World.cell?_of_block (w:=w) (a:=⟨b,o,none⟩) (h b hb)
theorem Agree.of_below {B:Nat} {w w':World} (h:Below B w w') {F:Nat→Prop} (hF:∀ b,F b→b<B):Agree F w w':=fun b hb=>h.block b (hF b hb)
theorem Ext.agree {w w':World} (h:Ext w w') {F:Nat→Prop} (hF:∀ b,F b→b<w.heap.size):Agree F w w':=Agree.of_below h.below hF
theorem Agree.setCell {F:Nat→Prop} (w:World) (p:Addr) (u:Value) (hp:¬F p.block):Agree F w (w.setCell p u):=fun b hb=>Below.heap_setCell w p u b (fun e=>hp (e▸hb))
theorem Agree.alloc {F:Nat→Prop} (w:World) (o:Obj) (hF:∀ b,F b→b<w.heap.size):Agree F w (w.alloc o):=fun b hb=>Below.heap_alloc w o b (hF b hb)
theorem Agree.drew {F:Nat→Prop} (w:World):Agree F w w.drew:=fun _ _=>rfl
theorem Agree.drewN {F:Nat→Prop} (w:World) (n:Nat):Agree F w (w.drewN n):=fun _ _=>rfl
theorem Agree.trans {F:Nat→Prop} {a b c:World} (h:Agree F a b) (k:Agree F b c):Agree F a c:=fun i hi=>(k i hi).trans (h i hi)
theorem Agree.refl {F:Nat→Prop} (w:World):Agree F w w:=fun _ _=>rfl
theorem Agree.mono {F G:Nat→Prop} {a b:World} (h:Agree F a b) (hG:∀ i,G i→F i):Agree G a b:=fun i hi=>h i (hG i hi)
abbrev Lt (n:Nat):Nat→Prop:=fun b=>b<n
abbrev In (m n:Nat):Nat→Prop:=fun b=>m≤b∧b<n
structure Sl where
 a:Option Addr
 c:Nat
abbrev Sl.v (s:Sl) (n:Nat):Value:=.slice s.a n s.c
abbrev Sl.none:Sl:=⟨Option.none,0⟩
inductive SlAt (F:Nat→Prop):Sl→Nat→Nat→Nat→Prop
 | nil (b o:Nat):SlAt F ⟨Option.none,0⟩ 0 b o
 | some (n c b o:Nat) (h:n≤c) (hc:c≤maxLen) (hb:F b):SlAt F ⟨Option.some ⟨b,o,Option.none⟩,c⟩ n b o
 | zero (a:Addr) (b o:Nat):SlAt F ⟨Option.some a,0⟩ 0 b o
theorem SlAt.mono {F G:Nat→Prop} {v:Sl} {n b o:Nat} (h:SlAt F v n b o) (hG:∀ i,F i→G i):SlAt G v n b o:=by
 cases h with
 | nil=>exact .nil _ _
 | some _ c _ _ h hc hb=>exact .some _ c _ _ h hc (hG _ hb)
 | zero a=>exact .zero a _ _
theorem SlAt.fits {F:Nat→Prop} {v:Sl} {n b o:Nat} (h:SlAt F v n b o) (hn:0<n):F b:=by
 cases h with
 | nil=>omega
 | some _ c _ _ h hc hb=>exact hb
 | zero a=>omega
theorem SlAt.eq {F:Nat→Prop} {v:Sl} {n b o:Nat} (h:SlAt F v n b o) (hn:0<n):v.a=Option.some ⟨b,o,Option.none⟩∧n≤v.c∧v.c≤maxLen:=by
 cases h with
 | nil=>omega
 | some _ c _ _ h hc hb=>exact ⟨rfl,h,hc⟩
 | zero a=>omega
inductive Val where
 | mk (kind:Int) (b:Bool) (i:Int) (t:ByteArray) (l:List Val) (ok:List ByteArray) (ov:List Val)
def Val.kind:Val→Int | .mk k _ _ _ _ _ _=>k
def Val.b:Val→Bool | .mk _ b _ _ _ _ _=>b
def Val.i:Val→Int | .mk _ _ i _ _ _ _=>i
def Val.t:Val→ByteArray | .mk _ _ _ t _ _ _=>t
def Val.l:Val→List Val | .mk _ _ _ _ l _ _=>l
def Val.ok:Val→List ByteArray | .mk _ _ _ _ _ ok _=>ok
def Val.ov:Val→List Val | .mk _ _ _ _ _ _ ov=>ov
theorem Val.sz_pos (d:Val):0<SizeOf.sizeOf d:=by cases d;simp only [Val.mk.sizeOf_spec];omega
theorem Val.sz_l {k:Int} {b:Bool} {i:Int} {t:ByteArray} {l:List Val} {ok:List ByteArray} {ov:List Val} {j:Nat} {d:Val} (h:l[j]? = some d):SizeOf.sizeOf d<SizeOf.sizeOf (Val.mk k b i t l ok ov):=by
 have:=List.sizeOf_lt_of_mem (List.mem_of_getElem? h)
 simp only [Val.mk.sizeOf_spec];omega
theorem Val.sz_o {k:Int} {b:Bool} {i:Int} {t:ByteArray} {l:List Val} {ok:List ByteArray} {ov:List Val} {j:Nat} {d:Val} (h:ov[j]? = some d):SizeOf.sizeOf d<SizeOf.sizeOf (Val.mk k b i t l ok ov):=by
 have:=List.sizeOf_lt_of_mem (List.mem_of_getElem? h)
 simp only [Val.mk.sizeOf_spec];omega
structure VCells (w:World) (b o:Nat) (d:Val) (sl so:Sl):Prop where
 c0:w.cell? ⟨b,o,none⟩=some (.int .i64 d.kind)
 c1:w.cell? ⟨b,o+1,none⟩=some (.bool d.b)
 c2:w.cell? ⟨b,o+2,none⟩=some (.int .i64 d.i)
 c3:w.cell? ⟨b,o+3,none⟩=some (.string d.t)
 c4:w.cell? ⟨b,o+4,none⟩=some (.slice sl.a d.l.length sl.c)
 c5:w.cell? ⟨b,o+5,none⟩=some (.slice so.a d.ok.length so.c)
theorem VCells.agree {w w':World} {b o:Nat} {d:Val} {sl so:Sl} (h:VCells w b o d sl so) {F:Nat→Prop} (ha:Agree F w w') (hb:F b):VCells w' b o d sl so:=
 ⟨(ha.cell hb).trans h.c0,(ha.cell hb).trans h.c1,(ha.cell hb).trans h.c2,(ha.cell hb).trans h.c3,(ha.cell hb).trans h.c4,(ha.cell hb).trans h.c5⟩
inductive RV (w:World) (F:Nat→Prop):Val→Sl→Sl→Prop
 | mk {kind:Int} {b:Bool} {i:Int} {t:ByteArray} {l:List Val} {ok:List ByteArray} {ov:List Val} {sl so:Sl} (bl fl bo fo:Nat) (cl co:Nat→Sl × Sl)
    (hl:SlAt F sl l.length bl fl) (ho:SlAt F so ok.length bo fo) (hov:ov.length=ok.length)
    (el:∀ j d,l[j]? = some d→VCells w bl (fl+j*6) d (cl j).1 (cl j).2)
    (rl:∀ j d,l[j]? = some d→RV w F d (cl j).1 (cl j).2)
    (ek:∀ j k,ok[j]? = some k→w.cell? ⟨bo,fo+j*7,none⟩=some (.string k)∧k.size≤maxLen)
    (eo:∀ j d,ov[j]? = some d→VCells w bo (fo+j*7+1) d (co j).1 (co j).2)
    (ro:∀ j d,ov[j]? = some d→RV w F d (co j).1 (co j).2)
    (bk:(Lit.int .i64 kind).wf=true) (bi:(Lit.int .i64 i).wf=true) (bt:t.size≤maxLen)
    (nl:l.length*88≤140737488355328) (no:ok.length*104≤140737488355328):RV w F (.mk kind b i t l ok ov) sl so
theorem lt_length {α:Type} {l:List α} {j:Nat} {d:α} (h:l[j]? = some d):0<l.length:=Nat.lt_of_le_of_lt (Nat.zero_le _) (List.getElem?_eq_some_iff.1 h).1
theorem RV.agree {w w':World} {F:Nat→Prop} {d:Val} {sl so:Sl} (h:RV w F d sl so) (ha:Agree F w w'):RV w' F d sl so:=by
 induction h with
 | mk bl fl bo fo cl co hl ho hov el rl ek eo ro bk bi bt nl no ihl iho=>
   exact .mk bl fl bo fo cl co hl ho hov (fun j d hj=>(el j d hj).agree ha (hl.fits (lt_length hj))) (fun j d hj=>ihl j d hj) (fun j k hj=>⟨(ha.cell (ho.fits (lt_length hj))).trans (ek j k hj).1,(ek j k hj).2⟩)
    (fun j d hj=>(eo j d hj).agree ha (ho.fits (hov▸lt_length hj))) (fun j d hj=>iho j d hj) bk bi bt nl no
theorem RV.mono {w:World} {F G:Nat→Prop} {d:Val} {sl so:Sl} (h:RV w F d sl so) (hG:∀ i,F i→G i):RV w G d sl so:=by
 induction h with
 | mk bl fl bo fo cl co hl ho hov el rl ek eo ro bk bi bt nl no ihl iho=>
   exact .mk bl fl bo fo cl co (hl.mono hG) (ho.mono hG) hov el (fun j d hj=>ihl j d hj) ek eo (fun j d hj=>iho j d hj) bk bi bt nl no
theorem RV.ext {w w':World} {F:Nat→Prop} {d:Val} {sl so:Sl} (h:RV w F d sl so) (he:Ext w w') (hF:∀ b,F b→b<w.heap.size):RV w' F d sl so:=h.agree (he.agree hF)
structure RVC (w:World) (F:Nat→Prop) (d:Val) (sl so:Sl):Prop where
 rv:RV w F d sl so
 cap:sl.c=d.l.length
theorem RVC.agree {w w':World} {F:Nat→Prop} {d:Val} {sl so:Sl} (h:RVC w F d sl so) (ha:Agree F w w'):RV w' F d sl so:=h.rv.agree ha
theorem RVC.mono {w:World} {F G:Nat→Prop} {d:Val} {sl so:Sl} (h:RVC w F d sl so) (hG:∀ i,F i→G i):RV w G d sl so:=h.rv.mono hG
theorem RVC.ext {w w':World} {F:Nat→Prop} {d:Val} {sl so:Sl} (h:RVC w F d sl so) (he:Ext w w') (hF:∀ b,F b→b<w.heap.size):RV w' F d sl so:=h.rv.ext he hF
structure RL (w:World) (F:Nat→Prop) (b o:Nat) (l:List Val) (c:Nat→Sl × Sl):Prop where
 cells:∀ j d,l[j]? = some d→VCells w b (o+j*6) d (c j).1 (c j).2
 reads:∀ j d,l[j]? = some d→RV w F d (c j).1 (c j).2
structure RO (w:World) (F:Nat→Prop) (b o:Nat) (ok:List ByteArray) (ov:List Val) (c:Nat→Sl × Sl):Prop where
 keys:∀ j k,ok[j]? = some k→w.cell? ⟨b,o+j*7,none⟩=some (.string k)∧k.size≤maxLen
 cells:∀ j d,ov[j]? = some d→VCells w b (o+j*7+1) d (c j).1 (c j).2
 reads:∀ j d,ov[j]? = some d→RV w F d (c j).1 (c j).2
def Filling (wr:World) (B t size n:Nat):Prop:=∃ arr,wr.heap[B]? = some (.cells arr t (0,0))∧arr.size=n*size
theorem Filling.agree {w w':World} {B t size n:Nat} (h:Filling w B t size n) {F:Nat→Prop} (ha:Agree F w w') (hF:F B):Filling w' B t size n:=by
 obtain ⟨arr,h1,h2⟩:=h;exact ⟨arr,(ha B hF).trans h1,h2⟩
theorem Filling.lt {w:World} {B t size n:Nat} (h:Filling w B t size n):B<w.heap.size:=by obtain ⟨arr,h1,_⟩:=h;exact lt_of_block h1
theorem Filling.frozen {w:World} {B t size n:Nat} (h:Filling w B t size n) (o:Nat):w.frozen? ⟨B,o,none⟩=false:=by
 obtain ⟨arr,h1,h2⟩:=h;simp [World.frozen?,h1]
theorem Filling.cell {w:World} {B t size n:Nat} (h:Filling w B t size n) {o:Nat} (ho:o<n*size):∃ v,w.cell? ⟨B,o,none⟩=some v:=by
 obtain ⟨arr,h1,h2⟩:=h
 exact ⟨arr[o]'(by omega),by rw [cell_of_row w B o arr t (0,0) h1];simp⟩
theorem Filling.setCell {w:World} {B t size n:Nat} (h:Filling w B t size n) (p:Addr) (u:Value):Filling (w.setCell p u) B t size n:=by
 obtain ⟨arr,h1,h2⟩:=h
 by_cases hp:B=p.block
 ·subst hp
  refine ⟨if p.spot.isSome then arr else arr.setIfInBounds p.off u,?_,?_⟩
  ·simp [World.setCell,Array.getElem?_modify,h1]
  split <;> simp [h2]
 exact ⟨arr,(Below.heap_setCell w p u B hp).trans h1,h2⟩
def Blk (w:World) (g:Nat) (t:TypeId) (cs:Array Value):Prop:=w.heap[g]? = some (.cells cs t (0,0))
section
variable {w w' : World} {g : Nat} {t : TypeId} {cs : Array Value}
theorem Blk.lt (h:Blk w g t cs):g<w.heap.size:=lt_of_block h
theorem Blk.cell (h:Blk w g t cs) (i:Nat):w.cell? ⟨g,i,none⟩=cs[i]?:=cell_of_row w g i cs t (0,0) h
theorem Blk.frozen (h:Blk w g t cs) (i:Nat):w.frozen? ⟨g,i,none⟩=false:=by
 unfold Blk at h
 simp [World.frozen?,h]
theorem Blk.new (w:World) (t:TypeId) (cs:Array Value):Blk (w.alloc (.cells cs t)) w.heap.size t cs:=heap_alloc_new w _
theorem Blk.set_ (h:Blk w g t cs) (i:Nat) (u:Value):Blk (w.setCell ⟨g,i,none⟩ u) g t (cs.setIfInBounds i u):=by
 unfold Blk at h ⊢
 simp [World.setCell,Array.getElem?_modify,h]
theorem Blk.agree (h:Blk w g t cs) {F:Nat→Prop} (ha:Agree F w w') (hF:F g):Blk w' g t cs:=(ha g hF).trans h
theorem Blk.ext (h:Blk w g t cs) (he:Ext w w'):Blk w' g t cs:=(he.heap h.lt).trans h
theorem Blk.alloc (h:Blk w g t cs) (o:Obj):Blk (w.alloc o) g t cs:=(Below.heap_alloc w o g h.lt).trans h
theorem Blk.far (h:Blk w g t cs) {p:Addr} (hp:g≠p.block) (u:Value):Blk (w.setCell p u) g t cs:=(Below.heap_setCell w p u g hp).trans h
theorem Blk.c6 {v0 v1 v2 v3 v4 v5:Value} (h:Blk w g t #[v0,v1,v2,v3,v4,v5]):w.cell? ⟨g,0,none⟩=some v0∧w.cell? ⟨g,1,none⟩=some v1∧w.cell? ⟨g,2,none⟩=some v2∧w.cell? ⟨g,3,none⟩=some v3∧w.cell? ⟨g,4,none⟩=some v4∧w.cell? ⟨g,5,none⟩=some v5:=
 ⟨h.cell 0,h.cell 1,h.cell 2,h.cell 3,h.cell 4,h.cell 5⟩
end
theorem three_blocks (w:World) (t0 t1 t2:TypeId) (c0 c1 c2:Array Value):∀ W,((w.alloc (.cells c0 t0)).alloc (.cells c1 t1)).alloc (.cells c2 t2)=W→
  Ext w W∧W.heap.size=w.heap.size+3∧Blk W w.heap.size t0 c0∧Blk W (w.heap.size+1) t1 c1∧Blk W (w.heap.size+1+1) t2 c2:=by
 rintro W rfl
 refine ⟨(((Ext.refl w).alloc _ _).alloc _ _).alloc _ _,by simp,((Blk.new w t0 c0).alloc _).alloc _,?_,?_⟩
 ·have h:=(Blk.new (w.alloc (.cells c0 t0)) t1 c1).alloc (.cells c2 t2)
  rw [World.size_alloc] at h;exact h
 have h:=Blk.new ((w.alloc (.cells c0 t0)).alloc (.cells c1 t1)) t2 c2
 rw [World.size_alloc,World.size_alloc] at h;exact h
theorem four_blocks (w:World) (t0 t1 t2 t3:TypeId) (c0 c1 c2 c3:Array Value):∀ W,(((w.alloc (.cells c0 t0)).alloc (.cells c1 t1)).alloc (.cells c2 t2)).alloc (.cells c3 t3)=W→
  Ext w W∧W.heap.size=w.heap.size+4∧Blk W w.heap.size t0 c0∧Blk W (w.heap.size+1) t1 c1∧Blk W (w.heap.size+1+1) t2 c2∧Blk W (w.heap.size+1+1+1) t3 c3:=by
 rintro W rfl
 obtain ⟨h1,h2,h3,h4,h5⟩:=three_blocks w t0 t1 t2 c0 c1 c2 _ rfl
 refine ⟨h1.alloc _ _,by simp,h3.alloc _,h4.alloc _,h5.alloc _,?_⟩
 have h:=Blk.new (((w.alloc (.cells c0 t0)).alloc (.cells c1 t1)).alloc (.cells c2 t2)) t3 c3
 rw [h2] at h;exact h
theorem Filling.of {w:World} {B t:Nat} {cs:Array Value} {size n:Nat} (h:Blk w B t cs) (hs:cs.size=n*size):Filling w B t size n:=⟨cs,h,hs⟩
theorem Filling.made {w:World} {t:TypeId} (cs:Array Value) {size n:Nat} (h:cs.size=n*size):Filling (w.alloc (.cells cs t)) w.heap.size t size n:=⟨cs,Blk.new w t cs,h⟩
def putV (w:World) (b o:Nat) (d:Val) (sl so:Sl):World:=
 (((((w.setCell ⟨b,o,none⟩ (.int .i64 d.kind)).setCell ⟨b,o+1,none⟩ (.bool d.b)).setCell ⟨b,o+2,none⟩ (.int .i64 d.i)).setCell ⟨b,o+3,none⟩ (.string d.t)).setCell ⟨b,o+4,none⟩ (.slice sl.a d.l.length sl.c)).setCell ⟨b,o+5,none⟩ (.slice so.a d.ok.length so.c)
theorem putV_agree (w:World) (b o:Nat) (d:Val) (sl so:Sl) {F:Nat→Prop} (hF:¬F b):Agree F w (putV w b o d sl so):=
 ((((((Agree.refl w).trans (Agree.setCell _ _ _ hF)).trans (Agree.setCell _ _ _ hF)).trans (Agree.setCell _ _ _ hF)).trans (Agree.setCell _ _ _ hF)).trans (Agree.setCell _ _ _ hF)).trans (Agree.setCell _ _ _ hF)
theorem putV_size (w:World) (b o:Nat) (d:Val) (sl so:Sl):(putV w b o d sl so).heap.size=w.heap.size:=by simp [putV]
theorem Ext.putV {a w:World} (h:Ext a w) {b:Nat} (hb:a.heap.size≤b) (o:Nat) (d:Val) (sl so:Sl):Ext a (putV w b o d sl so):=
 (((((h.setCell (p:=⟨b,_,none⟩) hb _).setCell (p:=⟨b,_,none⟩) hb _).setCell (p:=⟨b,_,none⟩) hb _).setCell (p:=⟨b,_,none⟩) hb _).setCell (p:=⟨b,_,none⟩) hb _).setCell (p:=⟨b,_,none⟩) hb _
theorem Filling.putV {w:World} {B t size n:Nat} (h:Filling w B t size n) (b o:Nat) (d:Val) (sl so:Sl):Filling (putV w b o d sl so) B t size n:=
 (((((h.setCell _ _).setCell _ _).setCell _ _).setCell _ _).setCell _ _).setCell _ _
theorem cell_set_other (w:World) (b o o':Nat) (u:Value) (h:o≠o'):(w.setCell ⟨b,o,none⟩ u).cell? ⟨b,o',none⟩=w.cell? ⟨b,o',none⟩:=
 World.cell?_setCell_other w _ _ u (fun e=>h (congrArg Addr.off e))
theorem putV_other (w:World) (b o:Nat) (d:Val) (sl so:Sl) (o':Nat) (h:o'<o∨o+6≤o'):(putV w b o d sl so).cell? ⟨b,o',none⟩=w.cell? ⟨b,o',none⟩:=by
 unfold putV
 rw [cell_set_other _ _ _ _ _ (by omega),cell_set_other _ _ _ _ _ (by omega),cell_set_other _ _ _ _ _ (by omega),cell_set_other _ _ _ _ _ (by omega),cell_set_other _ _ _ _ _ (by omega),cell_set_other _ _ _ _ _ (by omega)]
theorem Filling.here {w:World} {B t size n:Nat} (h:Filling w B t size n) {o:Nat} (ho:o<n*size) (u:Value):(w.setCell ⟨B,o,none⟩ u).cell? ⟨B,o,none⟩=some u:=by
 obtain ⟨v,hv⟩:=h.cell ho
 exact World.cell?_setCell_same w _ u hv
theorem putV_here {w:World} {B t size n:Nat} (h:Filling w B t size n) {o:Nat} (d:Val) (sl so:Sl) (ho:o+6≤n*size):VCells (putV w B o d sl so) B o d sl so:=by
 unfold putV
 refine ⟨?_,?_,?_,?_,?_,?_⟩
 ·rw [cell_set_other _ _ _ _ _ (by omega),cell_set_other _ _ _ _ _ (by omega),cell_set_other _ _ _ _ _ (by omega),cell_set_other _ _ _ _ _ (by omega),cell_set_other _ _ _ _ _ (by omega)]
  exact h.here (by omega) _
 ·rw [cell_set_other _ _ _ _ _ (by omega),cell_set_other _ _ _ _ _ (by omega),cell_set_other _ _ _ _ _ (by omega),cell_set_other _ _ _ _ _ (by omega)]
  exact (h.setCell _ _).here (by omega) _
 ·rw [cell_set_other _ _ _ _ _ (by omega),cell_set_other _ _ _ _ _ (by omega),cell_set_other _ _ _ _ _ (by omega)]
  exact ((h.setCell _ _).setCell _ _).here (by omega) _
 ·rw [cell_set_other _ _ _ _ _ (by omega),cell_set_other _ _ _ _ _ (by omega)]
  exact (((h.setCell _ _).setCell _ _).setCell _ _).here (by omega) _
 ·rw [cell_set_other _ _ _ _ _ (by omega)]
  exact ((((h.setCell _ _).setCell _ _).setCell _ _).setCell _ _).here (by omega) _
 exact (((((h.setCell _ _).setCell _ _).setCell _ _).setCell _ _).setCell _ _).here (by omega) _
theorem VCells.other {w:World} {b o:Nat} {d:Val} {sl so:Sl} (h:VCells w b o d sl so) (o':Nat) (d':Val) (sl' so':Sl) (hd:o+6≤o'∨o'+6≤o):VCells (putV w b o' d' sl' so') b o d sl so:=
 ⟨(putV_other _ _ _ _ _ _ _ (by omega)).trans h.c0,(putV_other _ _ _ _ _ _ _ (by omega)).trans h.c1,(putV_other _ _ _ _ _ _ _ (by omega)).trans h.c2,(putV_other _ _ _ _ _ _ _ (by omega)).trans h.c3,(putV_other _ _ _ _ _ _ _ (by omega)).trans h.c4,(putV_other _ _ _ _ _ _ _ (by omega)).trans h.c5⟩
structure FillV (wr:World) (B t:Nat) (l:List Val) (k:Nat) (f:Nat→Sl × Sl):Prop where
 row:Filling wr B t 6 l.length
 cells:∀ j d,j<k→l[j]? = some d→VCells wr B (j*6) d (f j).1 (f j).2
 reads:∀ j d,j<k→l[j]? = some d→RV wr (In (B+1) wr.heap.size) d (f j).1 (f j).2
theorem FillV.start {w:World} {B t:Nat} {l:List Val} (h:Filling w B t 6 l.length) (f:Nat→Sl × Sl):FillV w B t l 0 f:=⟨h,fun _ _ h=>absurd h (by omega),fun _ _ h=>absurd h (by omega)⟩
theorem FillV.step {wr W:World} {B t k:Nat} {l:List Val} {f:Nat→Sl × Sl} (h:FillV wr B t l k f) (hx:Ext wr W) {d:Val} (hd:l[k]? = some d) {sl so:Sl} (hr:RV W (In wr.heap.size W.heap.size) d sl so) :
  FillV (putV W B (k*6) d sl so) B t l (k+1) (fun j=>if j=k then (sl,so) else f j):=by
 have hB:=h.row.lt
 have hk:k<l.length:=(List.getElem?_eq_some_iff.1 hd).1
 have hrow:Filling W B t 6 l.length:=h.row.agree (F:=Lt wr.heap.size) (hx.agree fun _ h=>h) hB
 refine ⟨hrow.putV _ _ _ _ _,fun j d' hj hd'=>?_,fun j d' hj hd'=>?_⟩
 ·by_cases hjk:j=k
  ·subst hjk
   obtain rfl:d=d':=by rw [hd] at hd';injection hd'
   simp only [if_pos]
   exact putV_here hrow _ _ _ (by omega)
  simp only [if_neg hjk]
  exact ((h.cells j d' (by omega) hd').agree (F:=Lt wr.heap.size) (hx.agree fun _ h=>h) hB).other _ _ _ _ (by omega)
 have hag:Agree (In (B+1) W.heap.size) W (putV W B (k*6) d sl so):=putV_agree _ _ _ _ _ _ (by omega)
 rw [putV_size]
 by_cases hjk:j=k
 ·subst hjk
  obtain rfl:d=d':=by rw [hd] at hd';injection hd'
  simp only [if_pos]
  exact (hr.mono (fun i hi=>⟨by omega,hi.2⟩)).agree hag
 simp only [if_neg hjk]
 exact (((h.reads j d' (by omega) hd').ext hx (fun b hb=>hb.2)).mono (fun i hi=>⟨hi.1,by have:=hx.size;omega⟩)).agree hag
theorem FillV.done {w:World} {B t:Nat} {l:List Val} {f:Nat→Sl × Sl} (h:FillV w B t l l.length f) {n:Nat} (hn:n≤B):RL w (In n w.heap.size) B 0 l f:=
 ⟨fun j d hd=>by rw [Nat.zero_add];exact h.cells j d (List.getElem?_eq_some_iff.1 hd).1 hd,fun j d hd=>(h.reads j d (List.getElem?_eq_some_iff.1 hd).1 hd).mono fun i hi=>⟨by omega,hi.2⟩⟩
theorem VCells.m {w:World} {b o:Nat} {d:Val} {sl so:Sl} (h:VCells w b (o+1) d sl so):w.cell? ⟨b,o+1,none⟩=some (.int .i64 d.kind)∧w.cell? ⟨b,o+2,none⟩=some (.bool d.b)∧w.cell? ⟨b,o+3,none⟩=some (.int .i64 d.i)∧w.cell? ⟨b,o+4,none⟩=some (.string d.t)∧
  w.cell? ⟨b,o+5,none⟩=some (.slice sl.a d.l.length sl.c)∧w.cell? ⟨b,o+6,none⟩=some (.slice so.a d.ok.length so.c):=⟨h.c0,h.c1,h.c2,h.c3,h.c4,h.c5⟩
def putM (w:World) (b o:Nat) (k:ByteArray) (d:Val) (sl so:Sl):World:=putV (w.setCell ⟨b,o,none⟩ (.string k)) b (o+1) d sl so
theorem putM_agree (w:World) (b o:Nat) (k:ByteArray) (d:Val) (sl so:Sl) {F:Nat→Prop} (hF:¬F b):Agree F w (putM w b o k d sl so):=(Agree.setCell _ _ _ hF).trans (putV_agree _ _ _ _ _ _ hF)
theorem putM_size (w:World) (b o:Nat) (k:ByteArray) (d:Val) (sl so:Sl):(putM w b o k d sl so).heap.size=w.heap.size:=by simp [putM,putV_size]
theorem Ext.putM {a w:World} (h:Ext a w) {b:Nat} (hb:a.heap.size≤b) (o:Nat) (k:ByteArray) (d:Val) (sl so:Sl):Ext a (putM w b o k d sl so):=(h.setCell (p:=⟨b,_,none⟩) hb _).putV hb _ _ _ _
theorem Filling.putM {w:World} {B t size n:Nat} (h:Filling w B t size n) (b o:Nat) (k:ByteArray) (d:Val) (sl so:Sl):Filling (putM w b o k d sl so) B t size n:=(h.setCell _ _).putV _ _ _ _ _
theorem putM_other (w:World) (b o:Nat) (k:ByteArray) (d:Val) (sl so:Sl) (o':Nat) (h:o'<o∨o+7≤o'):(putM w b o k d sl so).cell? ⟨b,o',none⟩=w.cell? ⟨b,o',none⟩:=by
 unfold putM
 rw [putV_other _ _ _ _ _ _ _ (by omega),cell_set_other _ _ _ _ _ (by omega)]
theorem putM_here {w:World} {B t size n:Nat} (h:Filling w B t size n) {o:Nat} (k:ByteArray) (d:Val) (sl so:Sl) (ho:o+7≤n*size):(putM w B o k d sl so).cell? ⟨B,o,none⟩=some (.string k)∧VCells (putM w B o k d sl so) B (o+1) d sl so:=by
 refine ⟨?_,putV_here (h.setCell _ _) _ _ _ (by omega)⟩
 unfold putM
 rw [putV_other _ _ _ _ _ _ _ (by omega)]
 exact h.here (by omega) _
theorem VCells.otherM {w:World} {b o:Nat} {d:Val} {sl so:Sl} (h:VCells w b o d sl so) (o':Nat) (k:ByteArray) (d':Val) (sl' so':Sl) (hd:o+6≤o'∨o'+7≤o):VCells (putM w b o' k d' sl' so') b o d sl so:=
 ⟨(putM_other _ _ _ _ _ _ _ _ (by omega)).trans h.c0,(putM_other _ _ _ _ _ _ _ _ (by omega)).trans h.c1,(putM_other _ _ _ _ _ _ _ _ (by omega)).trans h.c2,(putM_other _ _ _ _ _ _ _ _ (by omega)).trans h.c3,(putM_other _ _ _ _ _ _ _ _ (by omega)).trans h.c4,(putM_other _ _ _ _ _ _ _ _ (by omega)).trans h.c5⟩
structure FillM (wr:World) (B t:Nat) (ok:List ByteArray) (ov:List Val) (k:Nat) (f:Nat→Sl × Sl):Prop where
 row:Filling wr B t 7 ok.length
 keys:∀ j x,j<k→ok[j]? = some x→wr.cell? ⟨B,j*7,none⟩=some (.string x)
 cells:∀ j d,j<k→ov[j]? = some d→VCells wr B (j*7+1) d (f j).1 (f j).2
 reads:∀ j d,j<k→ov[j]? = some d→RV wr (In (B+1) wr.heap.size) d (f j).1 (f j).2
theorem FillM.start {w:World} {B t:Nat} {ok:List ByteArray} {ov:List Val} (h:Filling w B t 7 ok.length) (f:Nat→Sl × Sl):FillM w B t ok ov 0 f:=⟨h,fun _ _ h=>absurd h (by omega),fun _ _ h=>absurd h (by omega),fun _ _ h=>absurd h (by omega)⟩
theorem FillM.step {wr W:World} {B t k:Nat} {ok:List ByteArray} {ov:List Val} {f:Nat→Sl × Sl} (h:FillM wr B t ok ov k f) (hx:Ext wr W) {x:ByteArray} (hk':ok[k]? = some x) {d:Val} (hd:ov[k]? = some d) {sl so:Sl} (hr:RV W (In wr.heap.size W.heap.size) d sl so) :
  FillM (putM W B (k*7) x d sl so) B t ok ov (k+1) (fun j=>if j=k then (sl,so) else f j):=by
 have hB:=h.row.lt
 have hk:k<ok.length:=(List.getElem?_eq_some_iff.1 hk').1
 have hrow:Filling W B t 7 ok.length:=h.row.agree (F:=Lt wr.heap.size) (hx.agree fun _ h=>h) hB
 refine ⟨hrow.putM _ _ _ _ _ _,fun j x' hj hx'=>?_,fun j d' hj hd'=>?_,fun j d' hj hd'=>?_⟩
 ·by_cases hjk:j=k
  ·subst hjk
   obtain rfl:x=x':=by rw [hk'] at hx';injection hx'
   exact (putM_here hrow _ _ _ _ (by omega)).1
  rw [putM_other _ _ _ _ _ _ _ _ (by omega)]
  exact (hx.cell hB).trans (h.keys j x' (by omega) hx')
 ·by_cases hjk:j=k
  ·subst hjk
   obtain rfl:d=d':=by rw [hd] at hd';injection hd'
   simp only [if_pos]
   exact (putM_here hrow _ _ _ _ (by omega)).2
  simp only [if_neg hjk]
  exact ((h.cells j d' (by omega) hd').agree (F:=Lt wr.heap.size) (hx.agree fun _ h=>h) hB).otherM _ _ _ _ _ (by omega)
 have hag:Agree (In (B+1) W.heap.size) W (putM W B (k*7) x d sl so):=putM_agree _ _ _ _ _ _ _ (by omega)
 rw [putM_size]
 by_cases hjk:j=k
 ·subst hjk
  obtain rfl:d=d':=by rw [hd] at hd';injection hd'
  simp only [if_pos]
  exact (hr.mono (fun i hi=>⟨by omega,hi.2⟩)).agree hag
 simp only [if_neg hjk]
 exact (((h.reads j d' (by omega) hd').ext hx (fun b hb=>hb.2)).mono (fun i hi=>⟨hi.1,by have:=hx.size;omega⟩)).agree hag
theorem FillM.done {w:World} {B t:Nat} {ok:List ByteArray} {ov:List Val} {f:Nat→Sl × Sl} (h:FillM w B t ok ov ok.length f) (hov:ov.length=ok.length) (hk:∀ (j:Nat) (x:ByteArray),ok[j]? = some x→x.size≤maxLen) {n:Nat} (hn:n≤B):RO w (In n w.heap.size) B 0 ok ov f:=
 ⟨fun j x hx=>⟨by rw [Nat.zero_add];exact h.keys j x (List.getElem?_eq_some_iff.1 hx).1 hx,hk j x hx⟩,
   fun j d hd=>by rw [Nat.zero_add];exact h.cells j d (by have:=(List.getElem?_eq_some_iff.1 hd).1;omega) hd,fun j d hd=>(h.reads j d (by have:=(List.getElem?_eq_some_iff.1 hd).1;omega) hd).mono fun i hi=>⟨by omega,hi.2⟩⟩
theorem RL.nil (w:World) (F:Nat→Prop) (b o:Nat) (f:Nat→Sl × Sl):RL w F b o [] f:=⟨fun _ _ h=>by simp at h,fun _ _ h=>by simp at h⟩
theorem RO.nil (w:World) (F:Nat→Prop) (b o:Nat) (f:Nat→Sl × Sl):RO w F b o [] [] f:=⟨fun _ _ h=>by simp at h,fun _ _ h=>by simp at h,fun _ _ h=>by simp at h⟩
theorem six_of {cs:Array Value} (h:cs.size=6):∃ a0 a1 a2 a3 a4 a5,cs=#[a0,a1,a2,a3,a4,a5]:=by
 obtain ⟨l⟩:=cs
 match l,h with
 | [a0,a1,a2,a3,a4,a5],_=>exact ⟨_,_,_,_,_,_,rfl⟩
theorem RL.agree {w w':World} {F:Nat→Prop} {b o:Nat} {l:List Val} {f:Nat→Sl × Sl} (h:RL w F b o l f) (ha:Agree F w w') (hb:0<l.length→F b):RL w' F b o l f:=
 ⟨fun j d hd=>(h.cells j d hd).agree ha (hb (lt_length hd)),fun j d hd=>(h.reads j d hd).agree ha⟩
theorem RL.mono {w:World} {F G:Nat→Prop} {b o:Nat} {l:List Val} {f:Nat→Sl × Sl} (h:RL w F b o l f) (hG:∀ i,F i→G i):RL w G b o l f:=⟨h.cells,fun j d hd=>(h.reads j d hd).mono hG⟩
theorem RO.agree {w w':World} {F:Nat→Prop} {b o:Nat} {ok:List ByteArray} {ov:List Val} {f:Nat→Sl × Sl} (h:RO w F b o ok ov f) (ha:Agree F w w') (hov:ov.length=ok.length) (hb:0<ok.length→F b):RO w' F b o ok ov f:=
 ⟨fun j k hk=>⟨(ha.cell (hb (lt_length hk))).trans (h.keys j k hk).1,(h.keys j k hk).2⟩,fun j d hd=>(h.cells j d hd).agree ha (hb (hov▸lt_length hd)),fun j d hd=>(h.reads j d hd).agree ha⟩
theorem RO.mono {w:World} {F G:Nat→Prop} {b o:Nat} {ok:List ByteArray} {ov:List Val} {f:Nat→Sl × Sl} (h:RO w F b o ok ov f) (hG:∀ i,F i→G i):RO w G b o ok ov f:=⟨h.keys,h.cells,fun j d hd=>(h.reads j d hd).mono hG⟩
theorem RV.of {w:World} {F:Nat→Prop} {kind:Int} {b:Bool} {i:Int} {t:ByteArray} {l:List Val} {ok:List ByteArray} {ov:List Val} {sl so:Sl} {bl fl bo fo:Nat} {cl co:Nat→Sl × Sl}
  (hl:SlAt F sl l.length bl fl) (ho:SlAt F so ok.length bo fo) (hov:ov.length=ok.length) (rl:RL w F bl fl l cl) (ro:RO w F bo fo ok ov co)
  (bk:(Lit.int .i64 kind).wf=true) (bi:(Lit.int .i64 i).wf=true) (bt:t.size≤maxLen) (nl:l.length*88≤140737488355328) (no:ok.length*104≤140737488355328):RV w F (.mk kind b i t l ok ov) sl so:=
 .mk bl fl bo fo cl co hl ho hov rl.cells rl.reads ro.keys ro.cells ro.reads bk bi bt nl no
theorem run_make_rowN {P:Program} (t e:TypeId) (i:TypeInfo) (z:Value) (ht:P.underlying t=some (.slice e)) (hi:P.info? e=some i) (hz:i.zero=some z)
  (kl kc:IntKind) (n c:Nat) (hnc:n≤c) (hbytes:i.bytes*c≤281474976710656) (h63:c≤9223372036854775807) (w:World) :
  (Instr.makeSlice t (.int kl (n:Int)) (.int kc (c:Int))).run P w=.ok (.slice (some ⟨w.heap.size,0,none⟩) n c) (w.alloc (.cells (madeCells z.cells (c*i.size)) e)):=by
 have hb:(i.bytes:Int)*(c:Int)≤281474976710656:=by
  have h:((i.bytes*c:Nat):Int)≤281474976710656:=by omega
  rwa [Int.natCast_mul] at h
 have hr:=run_make (P:=P) w t e i z ht hi hz kl kc n c (by omega) (by omega) hb (by omega)
 simp only [Int.toNat_natCast] at hr
 exact hr
theorem Tryz.infoEntry:(Tryz.prog.info? 71).map (fun i=>(i.zero,i.size,i.bytes))=some (some (.agg #[.string ByteArray.empty,.int .i64 0,.bool false,.int .i64 0,.string ByteArray.empty,.slice none 0 0,.slice none 0 0]),7,104):=by kernel_rfl
theorem Tryz.infoMember:(Tryz.prog.info? 123).map (fun i=>(i.zero,i.size,i.bytes))=some (some (.agg #[.string ByteArray.empty,.int .i64 0,.bool false,.int .i64 0,.string ByteArray.empty,.slice none 0 0,.slice none 0 0]),7,104):=by kernel_rfl
theorem Tryz.infoValue:(Tryz.prog.info? 28).map (fun i=>(i.zero,i.size,i.bytes))=some (some (.agg #[.int .i64 0,.bool false,.int .i64 0,.string ByteArray.empty,.slice none 0 0,.slice none 0 0]),6,88):=by kernel_rfl
abbrev aggV (d:Val) (sl so:Sl):Value:=.agg #[.int .i64 d.kind,.bool d.b,.int .i64 d.i,.string d.t,.slice sl.a d.l.length sl.c,.slice so.a d.ok.length so.c]
def CopyPost (d:Val) (w:World) (e:Ending) (w':World):Prop:=
 ∃ sl so,e=.returned (aggV d sl so)∧Ext w w'∧RVC w' (In w.heap.size w'.heap.size) d sl so
def MidL (d:Val) (sl so:Sl) (w wc:World):Prop:=
 ∃ (sl1:Sl) (B:Nat) (f:Nat→Sl × Sl),Ext w wc∧w.heap.size+3≤wc.heap.size∧Blk wc w.heap.size 28 #[.int .i64 d.kind,.bool d.b,.int .i64 d.i,.string d.t,.slice sl.a d.l.length sl.c,.slice so.a d.ok.length so.c]∧
  (∃ cs,Blk wc (w.heap.size+1) 28 cs∧cs.size=6)∧Blk wc (w.heap.size+1+1) 28 #[.int .i64 d.kind,.bool d.b,.int .i64 d.i,.string d.t,.slice sl1.a d.l.length sl1.c,.slice none 0 0]∧
  (SlAt (In (w.heap.size+3) wc.heap.size) sl1 d.l.length B 0∧sl1.c=d.l.length)∧RL wc (In (w.heap.size+3) wc.heap.size) B 0 d.l f
def MidO (d:Val) (sl1:Sl) (B:Nat) (f:Nat→Sl × Sl) (w wc:World):Prop:=
 ∃ (so1:Sl) (C:Nat) (g:Nat→Sl × Sl),Ext w wc∧w.heap.size+3≤wc.heap.size∧(∃ cs,Blk wc (w.heap.size+1) 28 cs∧cs.size=6)∧
  Blk wc (w.heap.size+1+1) 28 #[.int .i64 d.kind,.bool d.b,.int .i64 d.i,.string d.t,.slice sl1.a d.l.length sl1.c,.slice so1.a d.ok.length so1.c]∧
  (SlAt (In (w.heap.size+3) wc.heap.size) sl1 d.l.length B 0∧sl1.c=d.l.length)∧RL wc (In (w.heap.size+3) wc.heap.size) B 0 d.l f∧
  SlAt (In (w.heap.size+3) wc.heap.size) so1 d.ok.length C 0∧RO wc (In (w.heap.size+3) wc.heap.size) C 0 d.ok d.ov g
theorem copy_any (m:Nat):∀ (d:Val),SizeOf.sizeOf d≤m→∀ (w:World) (sl so:Sl),RV w (Lt w.heap.size) d sl so→Calls Tryz.prog 45 #[aggV d sl so] w (CopyPost d w):=by
 induction m with
 | zero=>intro d hd;have:=Val.sz_pos d;omega
 | succ m ih=>
 intro d hd w sl so h
 have HI:=Lib.hid ih
 clear ih
 obtain ⟨i0,hi,hz0,hz1,hz2⟩:=info_parts Tryz.infoValue
 obtain ⟨j0,hj,hy0,hy1,hy2⟩:=info_parts Tryz.infoMember
 obtain ⟨k,b,i,t,l,ok,ov⟩:=d
 show Calls _ _ #[.agg #[.int .i64 k,.bool b,.int .i64 i,.string t,.slice sl.a l.length sl.c,.slice so.a ok.length so.c]] _ _
 cases h with
 | mk bl fl bo fo cl co hl ho hov el rl ek eo ro bk bi bt nl no=>
 have hsl:∀ (j:Nat) (d:Val),l[j]? = some d→SizeOf.sizeOf d≤m:=fun j d hj=>Nat.le_of_lt_succ (Nat.lt_of_lt_of_le (Val.sz_l hj) hd)
 have hso:∀ (j:Nat) (d:Val),ov[j]? = some d→SizeOf.sizeOf d≤m:=fun j d hj=>Nat.le_of_lt_succ (Nat.lt_of_lt_of_le (Val.sz_o hj) hd)
 have HSL:=Lib.hid hsl
 have HSO:=Lib.hid hso
 have HEL:=Lib.hid el
 have HRL:=Lib.hid rl
 have HEK:=Lib.hid ek
 have HEO:=Lib.hid eo
 have HRO:=Lib.hid ro
 have HOV:=Lib.hid hov
 clear hsl hso el rl ek eo ro hov hd
 go_enter Tryz.func45,Tryz.ntmps45
 go_upto_if 14 with fail
 go_cut [] (fun wc=>MidL (.mk k b i t l ok ov) sl so w wc)
 case first=>
  by_cases h0:0<l.length
  ·have hmk:=fun W=>run_make_rowN (P:=Tryz.prog) 25 28 i0 _ Tryz.underlying25 hi hz0 .i64 .i64 l.length l.length (Nat.le_refl _) (by rw [hz2];omega) (by omega) W
   obtain ⟨sa,sc⟩:=sl
   obtain ⟨rfl,hlc,hcm⟩:=hl.eq h0
   have hbl:=hl.fits h0
   go_wp2_with fail
   clear hmk
   generalize hW0:World.alloc _ _=W0
   obtain ⟨hx0,hz0',hb0,hb1,hb2,hb3⟩:=four_blocks w _ _ _ _ _ _ _ _ W0 hW0
   have hfil:=Filling.of hb3 (size_madeCells _ _)
   clear hW0 hb3
   go_loopw [23] (fun q wr=>∃ (j:Nat) (f:Nat→Sl × Sl),j≤l.length∧q=.int .i64 j∧Ext w wr∧FillV wr (w.heap.size+1+1+1) 28 l j f∧
     Blk wr w.heap.size 28 #[.int .i64 k,.bool b,.int .i64 i,.string t,.slice (some ⟨bl,fl,none⟩) l.length sc,.slice so.a ok.length so.c]∧
     (∃ cs,Blk wr (w.heap.size+1) 28 cs∧cs.size=6)∧Blk wr (w.heap.size+1+1) 28 #[.int .i64 k,.bool b,.int .i64 i,.string t,.slice (some ⟨w.heap.size+1+1+1,0,none⟩) l.length l.length,.slice none 0 0])
    (fun q _=>l.length - (intOf q).toNat)
   case atStart=>exact ⟨0,fun _=>(Sl.none,Sl.none),Nat.zero_le _,rfl,hx0,FillV.start hfil _,hb0,⟨_,hb1,rfl⟩,hb2⟩
   obtain ⟨j,f,hj,rfl,hx,hf,hb0,hb1,hb2⟩:=hrel
   by_cases hlt:j<l.length
   ·obtain ⟨d,hd⟩:∃ d,l[j]? = some d:=⟨_,List.getElem?_eq_getElem hlt⟩
    have hag:Agree (Lt w.heap.size) w wr:=hx.agree fun _ h=>h
    obtain ⟨v0,v1,v2,v3,v4,v5⟩:=(HEL.out j d hd).agree hag hbl
    have hc4:=hb2.c6.2.2.2.2.1
    have hic:∀ W,Ext wr W→Calls Tryz.prog 45 #[aggV d (cl j).1 (cl j).2] W (CopyPost d W):=fun W hW=>
     HI.out d (HSL.out j d hd) W _ _ (((HRL.out j d hd).agree (hag.trans (hW.agree fun _ h=>Nat.lt_of_lt_of_le h hx.size))).mono fun i hi=>Nat.lt_of_lt_of_le hi (Nat.le_trans hx.size hW.size))
    have HD:=Lib.hid hd
    have HF:=Lib.hid hf
    have HX:=Lib.hid hx
    have HB0:=Lib.hid hb0
    have HB1:=Lib.hid hb1
    have HB2:=Lib.hid hb2
    have hb:w.heap.size+1+1+1<wr.heap.size:=hf.row.lt
    have hbb:w.heap.size+1+1<wr.heap.size:=by omega
    have hbc:w.heap.size+1<wr.heap.size:=by omega
    have hne:¬w.heap.size+1+1+1=wr.heap.size:=by omega
    obtain ⟨x0,hx0⟩:∃ v,wr.cell? ⟨w.heap.size+1+1+1,j*6,none⟩=some v:=hf.row.cell (by omega)
    obtain ⟨x1,hx1⟩:∃ v,wr.cell? ⟨w.heap.size+1+1+1,j*6+1,none⟩=some v:=hf.row.cell (by omega)
    obtain ⟨x2,hx2⟩:∃ v,wr.cell? ⟨w.heap.size+1+1+1,j*6+2,none⟩=some v:=hf.row.cell (by omega)
    obtain ⟨x3,hx3⟩:∃ v,wr.cell? ⟨w.heap.size+1+1+1,j*6+3,none⟩=some v:=hf.row.cell (by omega)
    obtain ⟨x4,hx4⟩:∃ v,wr.cell? ⟨w.heap.size+1+1+1,j*6+4,none⟩=some v:=hf.row.cell (by omega)
    obtain ⟨x5,hx5⟩:∃ v,wr.cell? ⟨w.heap.size+1+1+1,j*6+5,none⟩=some v:=hf.row.cell (by omega)
    have hff:=hf.row.frozen
    clear hd hag hf hx hb0 hb1 hb2
    go_wp2_with fail
    go_region_held3 (fun w'=>w'.cell? ⟨w.heap.size+1+1,4,none⟩=some (.slice (some ⟨w.heap.size+1+1+1,0,none⟩) l.length l.length)∧w'.cell? ⟨wr.heap.size,0,none⟩=some (.int .i64 d.kind)∧w'.cell? ⟨wr.heap.size,1,none⟩=some (.bool d.b)∧w'.cell? ⟨wr.heap.size,2,none⟩=some (.int .i64 d.i)∧w'.cell? ⟨wr.heap.size,3,none⟩=some (.string d.t)∧w'.cell? ⟨wr.heap.size,4,none⟩=some (.slice (cl j).1.a d.l.length (cl j).1.c)∧w'.cell? ⟨wr.heap.size,5,none⟩=some (.slice (cl j).2.a d.ok.length (cl j).2.c)) (go_keep)
     ((go_at_call 45;refine (hic _ (((Ext.refl wr).alloc _ _).drew)).mono ?_;rintro e w1 ⟨sl,so,rfl,he1,hr1⟩;have ho1:=he1.olds))
    have hEw:Ext wr w1:=(((Ext.refl wr).alloc _ _).drew).trans he1
    have hst:=HF.out.step hEw (HD.out) (hr1.mono fun i hi=>⟨Nat.le_trans (by simp) hi.1,hi.2⟩)
    have hB0:=(HB0.out.ext hEw).agree (putV_agree w1 (w.heap.size+1+1+1) (j*6) d sl so (F:=fun b=>b<w.heap.size+1+1+1) (by omega)) (by omega)
    have hB2:=(HB2.out.ext hEw).agree (putV_agree w1 (w.heap.size+1+1+1) (j*6) d sl so (F:=fun b=>b<w.heap.size+1+1+1) (by omega)) (by omega)
    have hB1:∃ cs,Blk (putV w1 (w.heap.size+1+1+1) (j*6) d sl so) (w.heap.size+1) 28 cs∧cs.size=6:=by
     obtain ⟨cs,h1,h2⟩:=HB1.out
     exact ⟨cs,(h1.ext hEw).agree (putV_agree w1 (w.heap.size+1+1+1) (j*6) d sl so (F:=fun b=>b<w.heap.size+1+1+1) (by omega)) (by omega),h2⟩
    have hX:=(HX.out.trans hEw).putV (b:=w.heap.size+1+1+1) (by omega) (j*6) d sl so
    have HST:=Lib.hid hst
    clear hst
    go_wp2_with fail
    go_roundw
    case rel=>exact ⟨j+1,_,hlt,by go_num,hX,HST.out,hB0,hB1,hB2⟩
    simp [intOf];omega
   obtain rfl:j=l.length:=by omega
   have hz:=hf.row.lt
   have hrl:=hf.done (n:=w.heap.size+3) (by omega)
   have H:MidL (.mk k b i t l ok ov) ⟨some ⟨bl,fl,none⟩,sc⟩ so w wr:=
    ⟨⟨some ⟨w.heap.size+1+1+1,0,none⟩,l.length⟩,w.heap.size+1+1+1,f,hx,by omega,hb0,hb1,hb2,⟨.some _ _ _ _ (Nat.le_refl _) (by unfold maxLen;omega) ⟨by omega,hz⟩,rfl⟩,hrl⟩
   clear hrl hb0 hb1 hb2 hf hx
   go_wp2_with fail
   go_meet
   exact H
  obtain rfl:l=[]:=List.eq_nil_of_length_eq_zero (by omega)
  have hh:decide ((0:Int)<0)=false:=rfl
  go_wp2_with fail
  generalize hW3:World.alloc _ _=W3
  obtain ⟨hx3,hz3,hb0,hb1,hb2⟩:=three_blocks w _ _ _ _ _ _ W3 hW3
  clear hW3
  go_meet
  exact ⟨Sl.none,0,fun _=>(Sl.none,Sl.none),hx3,by omega,hb0,⟨_,hb1,rfl⟩,hb2,⟨.nil _ _,rfl⟩,RL.nil _ _ _ _ _⟩
 obtain ⟨sl1,B,f,hx,hz,hb0,hb1,hb2,⟨hsa,hcap⟩,hrl⟩:=hcut
 have HCAP:=Lib.hid hcap
 clear hcap
 clear hl HSL HEL HRL
 obtain ⟨-,-,-,-,-,p5⟩:=hb0.c6
 dsimp only [Val.l,Val.ok,Val.ov] at *
 go_upto_if 38 with fail
 go_cut [] (fun wc=>MidO (.mk k b i t l ok ov) sl1 B f w wc)
 case first=>
  by_cases h0:0<ok.length
  ·have hmk:=fun W=>run_make_rowN (P:=Tryz.prog) 26 123 j0 _ Tryz.underlying26 hj hy0 .i64 .i64 ok.length ok.length (Nat.le_refl _) (by rw [hy2];omega) (by omega) W
   obtain ⟨sa,sc⟩:=so
   obtain ⟨rfl,hlc,hcm⟩:=ho.eq h0
   have hbo:=ho.fits h0
   have q5:=hb2.cell 5
   have qf:=hb2.frozen 5
   have qlt:w.heap.size<wc.heap.size:=by omega
   have qlt2:=hb2.lt
   simp at q5
   go_wp2_with fail
   clear hmk q5 qf
   generalize hW0:World.alloc (World.setCell _ _ _) _=W0
   have hx0:Ext w W0:=by rw [←hW0];exact (hx.setCell (p:=⟨w.heap.size+1+1,5,none⟩) (show w.heap.size≤w.heap.size+1+1 by omega) _).alloc _ _
   have hz0':W0.heap.size=wc.heap.size+1:=by rw [←hW0];simp
   have hc0:Blk W0 w.heap.size 28 #[.int .i64 k,.bool b,.int .i64 i,.string t,.slice sl.a l.length sl.c,.slice (some ⟨bo,fo,none⟩) ok.length sc]:=by rw [←hW0];exact (hb0.far (show w.heap.size≠w.heap.size+1+1 by omega) _).alloc _
   have hc1:∃ cs,Blk W0 (w.heap.size+1) 28 cs∧cs.size=6:=by
    obtain ⟨cs,h1,h2⟩:=hb1
    rw [←hW0];exact ⟨cs,(h1.far (show w.heap.size+1≠w.heap.size+1+1 by omega) _).alloc _,h2⟩
   have hc2:Blk W0 (w.heap.size+1+1) 28 #[.int .i64 k,.bool b,.int .i64 i,.string t,.slice sl1.a l.length sl1.c,.slice (some ⟨wc.heap.size,0,none⟩) ok.length ok.length]:=by
    rw [←hW0];exact (hb2.set_ 5 _).alloc _
   have hfil:Filling W0 wc.heap.size 123 7 ok.length:=by
    have h:=Filling.made (w:=wc.setCell ⟨w.heap.size+1+1,5,none⟩ (.slice (some ⟨wc.heap.size,0,none⟩) ok.length ok.length)) (t:=123) (madeCells #[.string ByteArray.empty,.int .i64 0,.bool false,.int .i64 0,.string ByteArray.empty,.slice none 0 0,.slice none 0 0] (ok.length*7)) (size_madeCells _ _)
    rw [World.size_setCell] at h
    rw [←hW0];exact h
   have hag0:Agree (In (w.heap.size+3) wc.heap.size) wc W0:=by
    rw [←hW0];exact (Agree.setCell wc ⟨w.heap.size+1+1,5,none⟩ _ (show ¬(w.heap.size+3≤w.heap.size+1+1∧w.heap.size+1+1<wc.heap.size) by omega)).trans (Agree.alloc _ _ (fun b hb=>by rw [World.size_setCell];exact hb.2))
   have hrl0:=hrl.agree hag0 hsa.fits
   clear hrl hb0 hb1 hb2 hx hag0 hW0
   go_loopw [47] (fun q wr=>∃ (j:Nat) (g:Nat→Sl × Sl),j≤ok.length∧q=.int .i64 j∧Ext w wr∧FillM wr wc.heap.size 123 ok ov j g∧
     Blk wr w.heap.size 28 #[.int .i64 k,.bool b,.int .i64 i,.string t,.slice sl.a l.length sl.c,.slice (some ⟨bo,fo,none⟩) ok.length sc]∧
     (∃ cs,Blk wr (w.heap.size+1) 28 cs∧cs.size=6)∧Blk wr (w.heap.size+1+1) 28 #[.int .i64 k,.bool b,.int .i64 i,.string t,.slice sl1.a l.length sl1.c,.slice (some ⟨wc.heap.size,0,none⟩) ok.length ok.length]∧
     RL wr (In (w.heap.size+3) wc.heap.size) B 0 l f)
    (fun q _=>ok.length - (intOf q).toNat)
   case atStart=>exact ⟨0,fun _=>(Sl.none,Sl.none),Nat.zero_le _,rfl,hx0,FillM.start hfil _,hc0,hc1,hc2,hrl0⟩
   clear hx0 hz0' hc0 hc1 hc2 hfil hrl0 W0
   obtain ⟨j,g,hj,rfl,hx,hf,hb0,hb1,hb2,hrl⟩:=hrel
   have hbw:wc.heap.size<wr.heap.size:=hf.row.lt
   by_cases hlt:j<ok.length
   ·obtain ⟨x,hxk⟩:∃ x,ok[j]? = some x:=⟨_,List.getElem?_eq_getElem hlt⟩
    obtain ⟨d,hd⟩:∃ d,ov[j]? = some d:=⟨_,List.getElem?_eq_getElem (by rw [HOV.out];exact hlt)⟩
    have hag:Agree (Lt w.heap.size) w wr:=hx.agree fun _ h=>h
    obtain ⟨v0,v1,v2,v3,v4,v5⟩:=((HEO.out j d hd).agree hag hbo).m
    have vk:=(hag.cell hbo).trans (HEK.out j x hxk).1
    have hc5:=hb2.c6.2.2.2.2.2
    have hic:∀ W,Ext wr W→Calls Tryz.prog 45 #[aggV d (co j).1 (co j).2] W (CopyPost d W):=fun W hW=>
     HI.out d (HSO.out j d hd) W _ _ (((HRO.out j d hd).agree (hag.trans (hW.agree fun _ h=>Nat.lt_of_lt_of_le h hx.size))).mono fun i hi=>Nat.lt_of_lt_of_le hi (Nat.le_trans hx.size hW.size))
    have HD:=Lib.hid hd
    have HK:=Lib.hid hxk
    have HF:=Lib.hid hf
    have HX:=Lib.hid hx
    have HB0:=Lib.hid hb0
    have HB1:=Lib.hid hb1
    have HB2:=Lib.hid hb2
    have HRL:=Lib.hid hrl
    have HSA:=Lib.hid hsa
    have hbb:w.heap.size+1+1<wr.heap.size:=by omega
    have hbc:w.heap.size+1<wr.heap.size:=by omega
    have hne:¬wc.heap.size=wr.heap.size:=by omega
    have hne2:¬wc.heap.size=w.heap.size+1+1:=by omega
    obtain ⟨x0,hx0⟩:∃ v,wr.cell? ⟨wc.heap.size,j*7,none⟩=some v:=hf.row.cell (by omega)
    obtain ⟨x1,hx1⟩:∃ v,wr.cell? ⟨wc.heap.size,j*7+1,none⟩=some v:=hf.row.cell (by omega)
    obtain ⟨x2,hx2⟩:∃ v,wr.cell? ⟨wc.heap.size,j*7+2,none⟩=some v:=hf.row.cell (by omega)
    obtain ⟨x3,hx3⟩:∃ v,wr.cell? ⟨wc.heap.size,j*7+3,none⟩=some v:=hf.row.cell (by omega)
    obtain ⟨x4,hx4⟩:∃ v,wr.cell? ⟨wc.heap.size,j*7+4,none⟩=some v:=hf.row.cell (by omega)
    obtain ⟨x5,hx5⟩:∃ v,wr.cell? ⟨wc.heap.size,j*7+5,none⟩=some v:=hf.row.cell (by omega)
    obtain ⟨x6,hx6⟩:∃ v,wr.cell? ⟨wc.heap.size,j*7+6,none⟩=some v:=hf.row.cell (by omega)
    have hff:=hf.row.frozen
    clear hd hxk hag hf hx hb0 hb1 hb2 hrl hsa
    go_wp2_with fail
    go_region_held3 (fun w'=>w'.cell? ⟨w.heap.size+1+1,5,none⟩=some (.slice (some ⟨wc.heap.size,0,none⟩) ok.length ok.length)∧w'.cell? ⟨wr.heap.size,0,none⟩=some (.string x)∧w'.cell? ⟨wr.heap.size,1,none⟩=some (.int .i64 d.kind)∧w'.cell? ⟨wr.heap.size,2,none⟩=some (.bool d.b)∧w'.cell? ⟨wr.heap.size,3,none⟩=some (.int .i64 d.i)∧w'.cell? ⟨wr.heap.size,4,none⟩=some (.string d.t)∧w'.cell? ⟨wr.heap.size,5,none⟩=some (.slice (co j).1.a d.l.length (co j).1.c)∧w'.cell? ⟨wr.heap.size,6,none⟩=some (.slice (co j).2.a d.ok.length (co j).2.c)) (go_keep)
     ((go_at_call 45;refine (hic _ (((Ext.refl wr).alloc _ _).drew)).mono ?_;rintro e w1 ⟨sl2,so2,rfl,he1,hr1⟩;have ho1:=he1.olds))
    have hEw:Ext wr w1:=(((Ext.refl wr).alloc _ _).drew).trans he1
    have hP:∀ F:Nat→Prop,¬F wc.heap.size→Agree F w1 (putM w1 wc.heap.size (j*7) x d sl2 so2):=fun F hF=>putM_agree _ _ _ _ _ _ _ hF
    have hst:=HF.out.step hEw HK.out HD.out (hr1.mono fun i hi=>⟨Nat.le_trans (by simp) hi.1,hi.2⟩)
    have hB0:=(HB0.out.ext hEw).agree (hP (fun b=>b<wc.heap.size) (by omega)) (by omega)
    have hB2:=(HB2.out.ext hEw).agree (hP (fun b=>b<wc.heap.size) (by omega)) (by omega)
    have hB1:∃ cs,Blk (putM w1 wc.heap.size (j*7) x d sl2 so2) (w.heap.size+1) 28 cs∧cs.size=6:=by
     obtain ⟨cs,h1,h2⟩:=HB1.out
     exact ⟨cs,(h1.ext hEw).agree (hP (fun b=>b<wc.heap.size) (by omega)) (by omega),h2⟩
    have hX:=(HX.out.trans hEw).putM (b:=wc.heap.size) (by omega) (j*7) x d sl2 so2
    have hR:=(HRL.out.agree (hEw.agree (F:=In (w.heap.size+3) wc.heap.size) (by omega)) HSA.out.fits).agree (hP (In (w.heap.size+3) wc.heap.size) (by omega)) HSA.out.fits
    have HST:=Lib.hid hst
    have HR:=Lib.hid hR
    clear hst hP hR
    go_wp2_with fail
    go_roundw
    case rel=>exact ⟨j+1,_,hlt,by go_num,hX,HST.out,hB0,hB1,hB2,HR.out⟩
    simp [intOf];omega
   obtain rfl:j=ok.length:=by omega
   have hro:=hf.done HOV.out (fun j x hx=>(HEK.out j x hx).2) (n:=w.heap.size+3) hz
   have H:MidO (.mk k b i t l ok ov) sl1 B f w wr:=
    ⟨⟨some ⟨wc.heap.size,0,none⟩,ok.length⟩,wc.heap.size,g,hx,by omega,hb1,hb2,⟨hsa.mono (fun i hi=>⟨hi.1,by have:=hi.2;omega⟩),HCAP.out⟩,hrl.mono (fun i hi=>⟨hi.1,by have:=hi.2;omega⟩),
      .some _ _ _ _ (Nat.le_refl _) (by unfold maxLen;omega) ⟨hz,hbw⟩,hro⟩
   clear hro hrl hb0 hb1 hb2 hf hx
   go_wp2_with fail
   go_meet
   exact H
  obtain rfl:ok=[]:=List.eq_nil_of_length_eq_zero (by omega)
  have hh:decide ((0:Int)<0)=false:=rfl
  obtain rfl:ov=[]:=List.eq_nil_of_length_eq_zero HOV.out
  have H:MidO (.mk k b i t l [] []) sl1 B f w wc:=
   ⟨Sl.none,0,fun _=>(Sl.none,Sl.none),hx,by omega,hb1,hb2,⟨hsa,HCAP.out⟩,hrl,.nil _ _,RO.nil _ _ _ _ _⟩
  clear hrl hb0 hb1 hb2 hx hsa
  go_wp2_with fail
  go_meet
  exact H
 clear hx hz hb0 hb1 hb2 hsa hrl ho HSO HEK HEO HRO HI p5
 rename_i wd
 obtain ⟨so1,C,g,hx,hz,⟨cs,hb1,hcs⟩,hb2,⟨hsa,-⟩,hrl,hsb,hro⟩:=hcut
 dsimp only [Val.kind,Val.b,Val.i,Val.t,Val.l,Val.ok,Val.ov] at *
 obtain ⟨p0,p1,p2,p3,p4,p5⟩:=hb2.c6
 obtain ⟨a0,a1,a2,a3,a4,a5,rfl⟩:=six_of hcs
 obtain ⟨q0,q1,q2,q3,q4,q5⟩:=hb1.c6
 have qf:=hb1.frozen
 have HX:=Lib.hid hx
 have H1:=Lib.hid hb1
 have HRL:=Lib.hid hrl
 have HSA:=Lib.hid hsa
 have HRO:=Lib.hid hro
 have HSB:=Lib.hid hsb
 clear hx hb1 hb2 hrl hsa hro hsb
 go_wp2_with fail
 have hF:∀ F:Nat→Prop,¬F (w.heap.size+1)→Agree F wc (putV wc (w.heap.size+1) 0 (.mk k b i t l ok ov) sl1 so1):=fun F h=>putV_agree _ _ _ _ _ _ h
 refine bodyPost_ret (v:=.agg #[.int .i64 k,.bool b,.int .i64 i,.string t,.slice sl1.a l.length sl1.c,.slice so1.a ok.length so1.c]) (by simp [results,Tryz.results45,go_sem,q0,q1,q2,q3,q4,q5]) rfl ?_
 refine ⟨sl1,so1,rfl,HX.out.putV (b:=w.heap.size+1) (by omega) 0 (.mk k b i t l ok ov) sl1 so1,?_,HCAP.out⟩
 have hz':(putV wc (w.heap.size+1) 0 (.mk k b i t l ok ov) sl1 so1).heap.size=wc.heap.size:=putV_size _ _ _ _ _ _
 have r1:=HRL.out.agree (hF (In (w.heap.size+3) wc.heap.size) (by omega)) HSA.out.fits
 have r2:=HRO.out.agree (hF (In (w.heap.size+3) wc.heap.size) (by omega)) HOV.out HSB.out.fits
 have r3:RV (putV wc (w.heap.size+1) 0 (.mk k b i t l ok ov) sl1 so1) (In (w.heap.size+3) wc.heap.size) (.mk k b i t l ok ov) sl1 so1:=RV.of HSA.out HSB.out HOV.out r1 r2 bk bi bt nl no
 show RV (putV wc (w.heap.size+1) 0 (.mk k b i t l ok ov) sl1 so1) (In w.heap.size (putV wc (w.heap.size+1) 0 (.mk k b i t l ok ov) sl1 so1).heap.size) _ _ _
 rw [hz']
 exact r3.mono fun i hi=>⟨by omega,hi.2⟩
def Rd (w:World) (F:Nat→Prop) (size:Nat) (s:Sl) (n:Nat) (cs:List Value):Prop:=
 ∃ b o,SlAt F s n b o∧cs.length=n*size∧∀ j u,cs[j]? = some u→w.cell? ⟨b,o+j,none⟩=some u
theorem Rd.agree {w w':World} {F:Nat→Prop} {size:Nat} {s:Sl} {n:Nat} {cs:List Value} (h:Rd w F size s n cs) (ha:Agree F w w'):Rd w' F size s n cs:=by
 obtain ⟨b,o,h1,h2,h3⟩:=h
 refine ⟨b,o,h1,h2,fun j u hj=>(ha.cell (h1.fits ?_)).trans (h3 j u hj)⟩
 rcases Nat.eq_zero_or_pos n with h0 | h0
 ·subst h0;have:=(List.getElem?_eq_some_iff.1 hj).1;omega
 exact h0
theorem Rd.mono {w:World} {F G:Nat→Prop} {size:Nat} {s:Sl} {n:Nat} {cs:List Value} (h:Rd w F size s n cs) (hG:∀ i,F i→G i):Rd w G size s n cs:=by
 obtain ⟨b,o,h1,h2,h3⟩:=h
 exact ⟨b,o,h1.mono hG,h2,h3⟩
theorem Rd.nil (w:World) (F:Nat→Prop) (size:Nat):Rd w F size Sl.none 0 []:=⟨0,0,.nil _ _,by simp,fun j u h=>by simp at h⟩
theorem add_at (b o j:Nat):(⟨b,o,none⟩:Addr).add j=⟨b,o+j,none⟩:=by unfold Addr.add;split <;> simp_all
theorem Rd.of_own {w:World} {base e size n c:Nat} {a:Option Addr} {cs:List Value} (h:w.ownsRow base e size (.slice a n c) n cs):Rd w (In base w.heap.size) size ⟨a,c⟩ n cs:=by
 rcases h.2 with ⟨hv,hn⟩ | ⟨g,cap,cur,hv,hg,hh,hnc,hcm,hcs,ht⟩
 ·simp only [Value.slice.injEq] at hv
  obtain ⟨rfl,rfl,rfl⟩:=hv
  have:cs=[]:=List.eq_nil_of_length_eq_zero (by simpa using h.1)
  subst this
  exact Rd.nil _ _ _
 simp only [Value.slice.injEq] at hv
 obtain ⟨rfl,-,rfl⟩:=hv
 refine ⟨g,0,.some _ _ _ _ hnc hcm ⟨hg,lt_of_block hh⟩,h.1,fun j u hj=>?_⟩
 have:=h.cells (g:=g) rfl j u hj
 rw [Nat.zero_add]
 rw [Addr.add] at this
 split at this
 ·rename_i h0;subst h0;exact this
 simpa using this
structure Wr (w w':World) (row:Option Nat):Prop where
 grown:w.grownBy w' row
 fz:∀ b o,w'.frozen? ⟨b,o,none⟩=w.frozen? ⟨b,o,none⟩
theorem Wr.refl (w:World) (row:Option Nat):Wr w w row:=⟨⟨rfl,rfl,rfl,Nat.le_refl _,fun _ _ _=>rfl⟩,fun _ _=>rfl⟩
theorem Wr.below {w w':World} {row:Option Nat} (h:Wr w w' row) {B:Nat} (hB:B≤w.heap.size) (hr:∀ k,row=some k→B≤k):Below B w w':=(Below.refl B w).grown h.grown hB hr
theorem Ext.wr {a w w':World} {row:Option Nat} (h:Ext a w) (k:Wr w w' row) (hr:∀ i,row=some i→a.heap.size≤i):Ext a w':=
 ⟨h.below.trans (k.below h.size hr),fun b o hb=>(k.fz b o).trans (h.free b o hb)⟩
theorem Wr.agree {w w':World} {row:Option Nat} (h:Wr w w' row) {F:Nat→Prop} (hF:∀ i,F i→i<w.heap.size) (hr:∀ k,row=some k→¬F k):Agree F w w':=
 fun b hb=>h.grown.block b (hF b hb) (fun e=>hr b e.symm hb)
theorem fz_alloc (w:World) (c:Array Value) (t:TypeId) (b o:Nat):(w.alloc (.cells c t)).frozen? ⟨b,o,none⟩=w.frozen? ⟨b,o,none⟩:=by
 by_cases h:b=w.heap.size
 ·subst h;rw [frozen_none (Nat.le_refl _)];simp
 exact World.frozen?_alloc_old w _ _ h
theorem fz_setRow (w:World) (g:Nat) (cs:Array Value) (b o:Nat):(w.setRow g cs).frozen? ⟨b,o,none⟩=w.frozen? ⟨b,o,none⟩:=by
 by_cases h:g=b
 ·subst h
  simp only [World.frozen?,World.setRow,Array.getElem?_modify,if_true]
  cases hh:w.heap[g]? with
  | none=>rfl
  | some ob=>cases ob <;> rfl
 simp only [World.frozen?,World.setRow,Array.getElem?_modify,if_neg h]
def Sl.row (s:Sl):Option Nat:=s.a.map Addr.block
theorem shift_list {α:Type} (C xs ys:List α) (p q z a b c d t:Nat) (hx:xs=C.take q) (hy:ys.length=z) (hpq:p≤q) (hq:q+z≤C.length) (ha:a=p+z) (hb:b=a+(xs.drop p).length) (hc:c=p) (hd:d=p+ys.length) (ht:t=q+z) :
  ((C.take a++xs.drop p++C.drop b).take c++ys++(C.take a++xs.drop p++C.drop b).drop d).take t=xs.take p++ys++xs.drop p:=by
 subst ha hb hc hd ht
 have hxl:xs.length=q:=by rw [hx,List.length_take];omega
 have h1:(C.take (c+z)).length=c+z:=by rw [List.length_take];omega
 have e1:(C.take (c+z)++xs.drop c++C.drop (c+z+(xs.drop c).length)).take c=xs.take c:=by
  rw [List.append_assoc,List.take_append_of_le_length (by omega),List.take_take,hx,List.take_take]
  congr 1;omega
 have e2:(C.take (c+z)++xs.drop c++C.drop (c+z+(xs.drop c).length)).drop (c+ys.length)=xs.drop c++C.drop (c+z+(xs.drop c).length):=by
  rw [List.append_assoc,hy,List.drop_append,h1,Nat.sub_self,List.drop_zero,List.drop_eq_nil_of_le (by omega),List.nil_append]
 rw [e1,e2,←List.append_assoc,List.take_append_of_le_length (by simp [hxl,hy];omega),List.take_of_length_le (by simp [hxl,hy];omega)]
theorem grow_list {α:Type} (C xs ys:List α) (p q z a b c d t:Nat) (hp:C.take p=xs.take p) (hxl:xs.length=q) (hy:ys.length=z) (hpq:p≤q) (hq:q+z≤C.length) (hc:c=p+z) (hd:d=c+(xs.drop p).length) (ha:a=p) (hb:b=p+ys.length) (ht:t=q+z) :
  ((C.take a++ys++C.drop b).take c++xs.drop p++(C.take a++ys++C.drop b).drop d).take t=xs.take p++ys++xs.drop p:=by
 subst ha hb hc hd ht
 have h1:(C.take a).length=a:=by rw [List.length_take];omega
 have e1:(C.take a++ys++C.drop (a+ys.length)).take (a+z)=xs.take a++ys:=by
  rw [List.take_append_of_le_length (by simp only [List.length_append,h1,hy];omega),List.take_of_length_le (by simp only [List.length_append,h1,hy];omega),hp]
 rw [e1,List.take_append_of_le_length (by simp [hxl,hy];omega),List.take_of_length_le (by simp [hxl,hy];omega)]
section
variable {P : Program} (w : World)
theorem run_append_x (base:Nat) (t ty e:TypeId) (i:TypeInfo) (z:Value) (size bytes:Nat) (ht:P.underlying t=some (.slice e)) (hi:P.info? e=some i) (hz:i.zero=some z)
  (hsize:i.size=size) (hby:i.bytes=bytes) (hzs:z.cells.size=size) (_hsz:0<size)
  (s:Sl) (n:Nat) (xs:List Value) (hown:w.ownsRow base e size (.slice s.a n s.c) n xs)
  (F:Nat→Prop) (sx:Sl) (m:Nat) (news:List Value) (hsrc:Rd w F size sx m news) (h1:∀ u∈news,u.oneCell'=true)
  (h63:n+m≤maxLen) (hbytes:(n+m)*bytes≤140737488355328) (hbase:base≤w.heap.size) :
  ∃ (s':Sl) (w':World),(Builtin.append_ #[t,t] ty #[.slice s.a n s.c,.slice sx.a m sx.c]).run P w=.ok (.slice s'.a (n+m) s'.c) w'∧
   w'.ownsRow base e size (.slice s'.a (n+m) s'.c) (n+m) (xs++news)∧Wr w w' s.row∧(s'.a=s.a∨s'.a=some ⟨w.heap.size,0,none⟩∧Wr w w' none):=by
 subst hsize
 subst hby
 have hsmall:n+m≤9223372036854775807:=by simp only [maxLen] at h63;omega
 obtain ⟨b,o,hs,hl,hc⟩:=hsrc
 have hlen:(xs++news).length=(n+m)*i.size:=by rw [List.length_append,hown.1,hl,Nat.add_mul]
 have grown:∀ (old:Nat),0<n+m→
   (w.drew.alloc (.cells (xs.toArray++news.toArray++Builtin.zeroCells z.cells (grownCap w (n+m) old e - (n+m))) e)).ownsRow base e i.size
     (.slice (some ⟨w.heap.size,0,none⟩) (n+m) (grownCap w (n+m) old e)) (n+m) (xs++news):=by
  intro old _
  have hge:=grownCap_ge w (n+m) old e
  have hcm:grownCap w (n+m) old e≤maxLen:=grownCap_le_maxLen w (n+m) old e h63
  refine ⟨hlen,.inr ⟨w.heap.size,_,_,rfl,hbase,heap_alloc_new w.drew _,hge,hcm,?_,?_⟩⟩
  ·simp only [Array.size_append,List.size_toArray,size_zeroCells,hzs,hown.1,hl,←Nat.add_mul]
   congr 1
   omega
  simp only [Array.toList_append,List.append_assoc]
  rw [←List.append_assoc,←hlen]
  exact List.take_left
 have wr:∀ (c:Array Value) (row:Option Nat),Wr w (w.drew.alloc (.cells c e)) row:=fun c row=>
  ⟨⟨rfl,rfl,rfl,by simp,fun k hk _=>Below.heap_alloc w.drew _ k hk⟩,fun b o=>fz_alloc w.drew c e b o⟩
 cases hs with
 | nil=>
   have hn:news=[]:=List.eq_nil_of_length_eq_zero (by simpa using hl)
   subst hn
   refine ⟨s,w,?_,by simpa using hown,Wr.refl _ _,.inl rfl⟩
   rcases hown.2 with ⟨hv,hn0⟩ | ⟨g,cap,cur,hv,_,_,hnc,_⟩
   ·simp only [Value.slice.injEq] at hv
    obtain ⟨ha,rfl,hc0⟩:=hv
    rw [ha,hc0]
    simp [Builtin.append_,run_underlying ht,sizeOf,typeInfo,hi,Builtin.lenOf,Builtin.firstCells]
   simp only [Value.slice.injEq] at hv
   obtain ⟨ha,-,hc0⟩:=hv
   rw [ha,hc0]
   simp [Builtin.append_,run_underlying ht,sizeOf,typeInfo,hi,Builtin.lenOf,Builtin.firstCells,hnc,storeCells]
 | zero ad=>
   have hn:news=[]:=List.eq_nil_of_length_eq_zero (by simpa using hl)
   subst hn
   refine ⟨s,w,?_,by simpa using hown,Wr.refl _ _,.inl rfl⟩
   rcases hown.2 with ⟨hv,hn0⟩ | ⟨g,cap,cur,hv,_,_,hnc,_⟩
   ·simp only [Value.slice.injEq] at hv
    obtain ⟨ha,rfl,hc0⟩:=hv
    rw [ha,hc0]
    simp [Builtin.append_,run_underlying ht,sizeOf,typeInfo,hi,Builtin.lenOf,Builtin.firstCells,loadCells,loadCellsFrom]
   simp only [Value.slice.injEq] at hv
   obtain ⟨ha,-,hc0⟩:=hv
   rw [ha,hc0]
   simp [Builtin.append_,run_underlying ht,sizeOf,typeInfo,hi,Builtin.lenOf,Builtin.firstCells,hnc,loadCells,loadCellsFrom,storeCells]
 | some _ c _ _ hmc hcm hb=>
   have hnews:∀ j u,news[j]? = some u→w.cell? ((⟨b,o,none⟩:Addr).add j)=some u:=fun j u hj=>by rw [add_at];exact hc j u hj
   rcases hown.2 with ⟨hv,hn0⟩ | ⟨g,cap,cur,hv,hbg,hg,hnc,hcm',hcs,htake⟩
   ·simp only [Value.slice.injEq] at hv
    obtain ⟨ha,rfl,hc0⟩:=hv
    have hx:xs=[]:=List.eq_nil_of_length_eq_zero (by simpa using hown.1)
    subst hx
    by_cases hm:m=0
    ·subst hm
     have hn:news=[]:=List.eq_nil_of_length_eq_zero (by simpa using hl)
     subst hn
     refine ⟨Sl.none,w,?_,World.ownsRow_nil w base e i.size,Wr.refl _ _,.inl ha.symm⟩
     rw [ha,hc0]
     simp [Builtin.append_,run_underlying ht,sizeOf,typeInfo,hi,Builtin.lenOf,Builtin.firstCells,loadCells,loadCellsFrom]
    have hr:=run_append_nil (P:=P) w t ty e i z ht hi hz ⟨b,o,none⟩ m c news hl hnews (by omega) (by omega) (by have hb:=hbytes;simp only [Nat.zero_add] at hb;omega)
    have hgr:=grown 0 (by omega)
    simp only [Nat.zero_add,List.nil_append,Array.empty_append] at hgr ⊢
    refine ⟨⟨some ⟨w.heap.size,0,none⟩,grownCap w m 0 e⟩,_,?_,hgr,wr _ _,.inr ⟨rfl,wr _ _⟩⟩
    rw [ha,hc0]
    exact hr
   simp only [Value.slice.injEq] at hv
   obtain ⟨ha,-,hc0⟩:=hv
   by_cases hroom:n+m≤cap
   ·have hfit:n*i.size+news.length≤cur.size:=by rw [hl,hcs,←Nat.add_mul];exact Nat.mul_le_mul_right _ hroom
    have hr:=run_append_room (P:=P) w t ty e i ht hi g n cap cur hg ⟨b,o,none⟩ m c news hl hnews h1 hroom hfit
    refine ⟨⟨some ⟨g,0,none⟩,cap⟩,_,by rw [ha,hc0];exact hr,⟨hlen,.inr ⟨g,cap,_,rfl,hbg,setRow_heap w g cur _ e _ hg,hroom,hcm',?_,?_⟩⟩,
     ⟨⟨rfl,rfl,rfl,by simp,fun k _ hk=>setRow_other w g k _ (fun e=>hk (by simp [Sl.row,ha,e]))⟩,fun b o=>fz_setRow _ _ _ _ _⟩,.inl ha.symm⟩
    ·simp only [List.size_toArray,List.length_append,List.length_take,List.length_drop,Array.length_toList]
     omega
    rw [htake,←hlen]
    exact List.take_left
   rw [ha,hc0] at hown
   have holds:∀ j u,xs[j]? = some u→w.cell? ((⟨g,0,none⟩:Addr).add j)=some u:=hown.cells (g:=g) rfl
   have hr:=run_append_grow (P:=P) w t ty e i z ht hi hz ⟨g,0,none⟩ n cap xs hown.1 holds ⟨b,o,none⟩ m c news hl hnews (by omega) (by omega) (growslice_fits (by omega) hbytes)
   refine ⟨⟨some ⟨w.heap.size,0,none⟩,grownCap w (n+m) cap e⟩,_,by rw [ha,hc0];exact hr,grown cap (by omega),wr _ _,.inr ⟨rfl,wr _ _⟩⟩
theorem wp_append_x {o:Oper} {a:Act} {K:Act→World→Prop} {Q:Exit→Act→World→Prop} (s' x:Operand) (t:TypeId)
  (ho:o.op=.call { callee:=.builtin .append,args:=#[s',x],argTypes:=#[t,t] })
  (base:Nat) (e:TypeId) (i:TypeInfo) (z:Value) (size bytes:Nat) (ht:P.underlying t=some (.slice e)) (hi:P.info? e=some i) (hz:i.zero=some z)
  (hsize:i.size=size) (hby:i.bytes=bytes) (hzs:z.cells.size=size) (hsz:0<size)
  (s:Sl) (n:Nat) (xs:List Value) (hs:a.eval s'=.slice s.a n s.c) (hown:w.ownsRow base e size (.slice s.a n s.c) n xs)
  (F:Nat→Prop) (sx:Sl) (m:Nat) (news:List Value) (hx:a.eval x=.slice sx.a m sx.c) (hsrc:Rd w F size sx m news) (h1:∀ u∈news,u.oneCell'=true)
  (h63:n+m≤maxLen) (hbytes:(n+m)*bytes≤140737488355328) (hbase:base≤w.heap.size)
  (h:∀ (s':Sl) (w':World),w'.ownsRow base e size (.slice s'.a (n+m) s'.c) (n+m) (xs++news)→Wr w w' s.row→(s'.a=s.a∨s'.a=some ⟨w.heap.size,0,none⟩∧Wr w w' none)→K (a.put o.dst (.slice s'.a (n+m) s'.c)) w'):o.wp P a w K Q:=by
 obtain ⟨v',w',hr,h2,h3,h4⟩:=run_append_x (P:=P) w base t o.type e i z size bytes ht hi hz hsize hby hzs hsz s n xs hown F sx m news hsrc h1 h63 hbytes hbase
 unfold Oper.wp execOp
 simp only [ho,resolve,invoke,builtin,Sem.run_bind,Sem.run_pure,Result.andThen_ok,List.map_toArray,List.map_cons,List.map_nil,hs,hx,hr]
 exact h v' w' h2 h3 h4
theorem wpList_append_x {ops:Array Oper} {rest:List Oper} {o:Oper} {a:Act} {Q:Exit→Act→World→Prop} (hgd:o.guard=none) (s' x:Operand) (t:TypeId)
  (ho:o.op=.call { callee:=.builtin .append,args:=#[s',x],argTypes:=#[t,t] })
  (base:Nat) (e:TypeId) (i:TypeInfo) (z:Value) (size bytes:Nat) (ht:P.underlying t=some (.slice e)) (hi:P.info? e=some i) (hz:i.zero=some z)
  (hsize:i.size=size) (hby:i.bytes=bytes) (hzs:z.cells.size=size) (hsz:0<size)
  (s:Sl) (n:Nat) (xs:List Value) (hs:a.eval s'=.slice s.a n s.c) (hown:w.ownsRow base e size (.slice s.a n s.c) n xs)
  (F:Nat→Prop) (sx:Sl) (m:Nat) (news:List Value) (hx:a.eval x=.slice sx.a m sx.c) (hsrc:Rd w F size sx m news) (h1:∀ u∈news,u.oneCell'=true)
  (h63:n+m≤maxLen) (hbytes:(n+m)*bytes≤140737488355328) (hbase:base≤w.heap.size)
  (h:∀ (s':Sl) (w':World),w'.ownsRow base e size (.slice s'.a (n+m) s'.c) (n+m) (xs++news)→Wr w w' s.row→(s'.a=s.a∨s'.a=some ⟨w.heap.size,0,none⟩∧Wr w w' none)→wpList P ops Q rest (a.put o.dst (.slice s'.a (n+m) s'.c)) w'):wpList P ops Q (o :: rest) a w:=
 wpList_plain hgd fun _ hK=>wp_append_x w s' x t ho base e i z size bytes ht hi hz hsize hby hzs hsz s n xs hs hown F sx m news hx hsrc h1 h63 hbytes hbase fun v' w' h2 h3 h4=>hK _ _ (h v' w' h2 h3 h4)
end
section
variable {P : Program} (w : World)
theorem run_copy_x (dT sT ty elem:TypeId) (size:Nat) (g o dLen dCap:Nat) (sx:Sl) (m:Nat) (cur:Array Value) (t:TypeId) (cs:List Value)
  (hu:P.underlying dT=some (.slice elem)) (hs:(P.info? elem).map (·.size)=some size)
  (hg:w.heap[g]? = some (.cells cur t (0,0))) (hn:cs.length=Nat.min m dLen*size) (hnil:sx.a=none→cs=[])
  (hsrc:∀ b o',sx.a=some ⟨b,o',none⟩→∀ j v,cs[j]? = some v→w.cell? ⟨b,o'+j,none⟩=some v) (hspot:∀ a,sx.a=some a→a.spot=none) (hfit:o+cs.length≤cur.size) (h1:∀ v∈cs,v.oneCell'=true) :
  (Builtin.copy_ #[dT,sT] ty #[.slice (some ⟨g,o,none⟩) dLen dCap,.slice sx.a m sx.c]).run P w =
    .ok (goInt (Nat.min m dLen)) (w.setRow g (cur.toList.take o++cs++cur.toList.drop (o+cs.length)).toArray):=by
 have hst:=run_storeCells_at P g o t cs 0 cur w hg (by simpa using hfit) h1
 obtain ⟨i,hq,hi⟩:∃ i,P.info? elem=some i∧i.size=size:=by
  cases hq:P.info? elem with
  | none=>simp [hq] at hs
  | some i=>exact ⟨i,rfl,by simpa [hq] using hs⟩
 obtain ⟨sa,sc⟩:=sx
 cases sa with
 | none=>
   have hc:=hnil rfl
   subst hc
   have hst':(storeCells ⟨g,o,none⟩ []).run P w=.ok () (w.setRow g (cur.toList.take o++[]++cur.toList.drop (o+0)).toArray):=by simpa using hst
   simp [Builtin.copy_,run_underlying hu,Builtin.lenOf,Builtin.firstCells,sizeOf,typeInfo,hq,hst']
 | some a=>
   obtain ⟨b,o',sp⟩:=a
   have hsp:=hspot _ rfl
   dsimp only at hsp
   subst hsp
   have hl:=run_firstCells_some (P:=P) w size (Nat.min m dLen) ⟨b,o',none⟩ m sc cs hn (fun j v hj=>by rw [add_at];exact hsrc b o' rfl j v hj)
   simp only [Nat.add_zero] at hst
   simp [Builtin.copy_,run_underlying hu,Builtin.lenOf,sizeOf,typeInfo,hq,hi,hl,hst]
theorem wp_copy_x {o:Oper} {a:Act} {K:Act→World→Prop} {Q:Exit→Act→World→Prop} (d s:Operand) (t t':TypeId)
  (ho:o.op=.call { callee:=.builtin .copy,args:=#[d,s],argTypes:=#[t,t'] }) (v u:Value) (hd:a.eval d=v) (hs:a.eval s=u) {v':Value} {w':World}
  (hr:(Builtin.copy_ #[t,t'] o.type #[v,u]).run P w=.ok v' w') (h:K (a.put o.dst v') w'):o.wp P a w K Q:=by
 unfold Oper.wp execOp
 simp only [ho,resolve,invoke,builtin,Sem.run_bind,Sem.run_pure,Result.andThen_ok,List.map_toArray,List.map_cons,List.map_nil,hd,hs,hr]
 exact h
theorem wpList_copy_x {ops:Array Oper} {rest:List Oper} {o:Oper} {a:Act} {Q:Exit→Act→World→Prop} (hgd:o.guard=none) (d s:Operand) (t t':TypeId)
  (ho:o.op=.call { callee:=.builtin .copy,args:=#[d,s],argTypes:=#[t,t'] }) (v u:Value) (hd:a.eval d=v) (hs:a.eval s=u) {v':Value} {w':World}
  (hr:(Builtin.copy_ #[t,t'] o.type #[v,u]).run P w=.ok v' w') (h:wpList P ops Q rest (a.put o.dst v') w'):wpList P ops Q (o :: rest) a w:=
 wpList_plain hgd fun _ hK=>wp_copy_x w d s t t' ho v u hd hs hr (hK _ _ h)
theorem step_copy_x {ops:Array Oper} {o:Oper} {a:Act} {K:Act→World→Prop} {Q:Exit→Act→World→Prop} {E:Prop} (hgd:o.guard=none) (d s:Operand) (t t':TypeId)
  (ho:o.op=.call { callee:=.builtin .copy,args:=#[d,s],argTypes:=#[t,t'] }) (v u:Value) (hd:a.eval d=v) (hs:a.eval s=u) {v':Value} {w':World}
  (hr:(Builtin.copy_ #[t,t'] o.type #[v,u]).run P w=.ok v' w') (h:K (a.put o.dst v') w') :
  if Region.wanted o (yielded ops a.tmps)=true then Oper.wp P o a w K Q else E:=by
 have hw:Region.wanted o (yielded ops a.tmps)=true:=by simp [Region.wanted,hgd]
 rw [if_pos hw]
 exact wp_copy_x w d s t t' ho v u hd hs hr h
theorem wpList_append_run {ops:Array Oper} {rest:List Oper} {o:Oper} {a:Act} {Q:Exit→Act→World→Prop} (hgd:o.guard=none) (d s:Operand) (t t':TypeId)
  (ho:o.op=.call { callee:=.builtin .append,args:=#[d,s],argTypes:=#[t,t'] }) (v u:Value) (hd:a.eval d=v) (hs:a.eval s=u) {v':Value} {w':World}
  (hr:(Builtin.append_ #[t,t'] o.type #[v,u]).run P w=.ok v' w') (h:wpList P ops Q rest (a.put o.dst v') w'):wpList P ops Q (o :: rest) a w:=by
 refine wpList_plain hgd fun _ hK=>?_
 unfold Oper.wp execOp
 simp only [ho,resolve,invoke,builtin,Sem.run_bind,Sem.run_pure,Result.andThen_ok,List.map_toArray,List.map_cons,List.map_nil,hd,hs,hr]
 exact hK _ _ h
theorem Wr.setRow {g:Nat} (cs:Array Value):Wr w (w.setRow g cs) (some g):=
 ⟨⟨rfl,rfl,rfl,by simp,fun k _ hk=>setRow_other w g k _ (fun e=>hk (by simp [e]))⟩,fun b o=>fz_setRow _ _ _ _ _⟩
theorem Wr.trans {a b c:World} {r:Option Nat} (h:Wr a b r) {r':Option Nat} (k:Wr b c r') (hr:∀ i,r'=some i→r=some i∨a.heap.size≤i):Wr a c r:=
 ⟨⟨k.grown.os.trans h.grown.os,k.grown.tape.trans h.grown.tape,k.grown.output.trans h.grown.output,Nat.le_trans h.grown.size k.grown.size,fun i hi hne=>(k.grown.block i (Nat.lt_of_lt_of_le hi h.grown.size) (fun e=>by
   rcases hr i e.symm with hh | hh
   ·exact hne hh.symm
   omega)).trans (h.grown.block i hi hne)⟩,fun b o=>(k.fz b o).trans (h.fz b o)⟩
theorem Wr.drew {a b:World} {r:Option Nat} (h:Wr a b r):Wr a b.drew r:=⟨⟨h.grown.os,h.grown.tape,h.grown.output,h.grown.size,h.grown.block⟩,h.fz⟩
theorem Wr.drewN {a b:World} {r:Option Nat} (h:Wr a b r) (n:Nat):Wr a (b.drewN n) r:=⟨⟨h.grown.os,h.grown.tape,h.grown.output,h.grown.size,h.grown.block⟩,h.fz⟩
theorem Wr.alloc {a b:World} {r:Option Nat} (h:Wr a b r) (c:Array Value) (t:TypeId):Wr a (b.alloc (.cells c t)) r:=
 ⟨⟨h.grown.os,h.grown.tape,h.grown.output,by have:=h.grown.size;simp;omega,fun i hi hne=>(Below.heap_alloc b _ i (Nat.lt_of_lt_of_le hi h.grown.size)).trans (h.grown.block i hi hne)⟩,fun b' o=>(fz_alloc b c t b' o).trans (h.fz b' o)⟩
end
def SearchPost (n:Nat) (p:Nat→Bool) (w:World) (e:Ending) (w':World):Prop:=
 ∃ k:Nat,e=.returned (.int .i64 k)∧k≤n∧(∀ i,i<k→p i=false)∧(∀ i,k≤i→i<n→p i=true)∧Ext w w'
theorem search_any (g:Nat) (v1 v2:Value) (n:Nat) (p:Nat→Bool) (w:World) (eg:∀ args w,(callFunc g args).run Tryz.prog w=.ok (.enter g args) w) (hn:n<4611686018427387904)
  (hg:∀ (i:Nat) (W:World),i<n→Ext w W→Calls Tryz.prog g #[.int .i64 i,v1,v2] W fun e w'=>e=.returned (.bool (p i))∧Ext W w')
  (hm:∀ i j,i≤j→j<n→p i=true→p j=true) :
  Calls Tryz.prog 100 #[.int .i64 n,.func (.func g) #[] #[v1,v2]] w (SearchPost n p w):=by
 have HG:=Lib.hid hg
 have HM:=Lib.hid hm
 clear hg hm
 go_enter Tryz.func100,Tryz.ntmps100
 go_wp2_with fail
 go_loopw [5,6] (fun i j wr=>∃ a b:Nat,i=.int .i64 a∧j=.int .i64 b∧a≤b∧b≤n∧(∀ i,i<a→p i=false)∧(∀ i,b≤i→i<n→p i=true)∧Ext w wr) (fun i j _=>(intOf j).toNat - (intOf i).toNat)
 case atStart=>exact ⟨0,n,rfl,rfl,Nat.zero_le _,Nat.le_refl _,fun _ h=>absurd h (by omega),fun _ h h'=>absurd h (by omega),Ext.refl _⟩
 obtain ⟨a,b,rfl,rfl,hab,hbn,hlo,hhi,hx⟩:=hrel
 have HLO:=Lib.hid hlo
 have HHI:=Lib.hid hhi
 clear hlo hhi
 by_cases hlt:a<b
 ·go_wp2_with fail
  rw [show ((a:Int)+b) / 2=(((a+b) / 2:Nat):Int) from by omega]
  have hc:=HG.out ((a+b) / 2) wr (by omega) hx
  generalize hh:(a+b) / 2=h at *
  have h1:a≤h:=by omega
  have h2:h<b:=by omega
  clear hh
  cases hp:p h with
  | false=>
    rw [hp] at hc
    have HP:=Lib.hid hp
    clear hp
    refine hc.mono ?_
    rintro e w1 ⟨rfl,hx1⟩
    go_wp2_with fail
    go_roundw
    case rel=>exact ⟨h+1,b,by go_num,rfl,by omega,hbn,fun i hi=>by
     by_cases hpi:p i=true
     ·have:=HM.out i h (by omega) (by omega) hpi
      rw [HP.out] at this;cases this
     simpa using hpi,HHI.out,hx.trans hx1⟩
    simp [intOf];omega
  | true=>
    rw [hp] at hc
    have HP:=Lib.hid hp
    clear hp
    refine hc.mono ?_
    rintro e w1 ⟨rfl,hx1⟩
    go_wp2_with fail
    go_roundw
    case rel=>exact ⟨a,h,rfl,rfl,h1,by omega,HLO.out,fun i hi hin=>HM.out h i hi hin HP.out,hx.trans hx1⟩
    simp [intOf];omega
 obtain rfl:a=b:=by omega
 go_wp2_with fail
 go_ret
 exact ⟨a,rfl,hbn,HLO.out,HHI.out,hx⟩
end Go.Proofs.YtkhdiakpdafcdaaGreatDoor
namespace Go.Proofs.YtkhdiakpdafcdaaGreatDoor
abbrev klt (a b:ByteArray):Bool:=Op.bytesLess a.toList b.toList
theorem bl_irrefl:∀ a:List UInt8,Op.bytesLess a a=false
 | []=>rfl
 | a :: x=>by simp [Op.bytesLess,bl_irrefl x]
theorem bl_trans:∀ a b c:List UInt8,Op.bytesLess a b=true→Op.bytesLess b c=true→Op.bytesLess a c=true
 | _,_,[],_,h=>by simp [Op.bytesLess] at h
 | _,[],_ :: _,h,_=>by simp [Op.bytesLess] at h
 | [],_ :: _,_ :: _,_,_=>rfl
 | a :: x,b :: y,c :: z,h,h'=>by
   simp only [Op.bytesLess,Bool.or_eq_true,Bool.and_eq_true,decide_eq_true_eq,beq_iff_eq] at h h' ⊢
   rcases h with h | ⟨rfl,h⟩ <;> rcases h' with h' | ⟨rfl,h'⟩
   ·exact .inl (UInt8.lt_trans h h')
   ·exact .inl h
   ·exact .inl h'
   exact .inr ⟨rfl,bl_trans x y z h h'⟩
theorem bl_total:∀ a b:List UInt8,Op.bytesLess a b=false→Op.bytesLess b a=false→a=b
 | [],[],_,_=>rfl
 | [],_ :: _,h,_=>by simp [Op.bytesLess] at h
 | _ :: _,[],_,h=>by simp [Op.bytesLess] at h
 | a :: x,b :: y,h,h'=>by
   simp only [Op.bytesLess,Bool.or_eq_false_iff,decide_eq_false_iff_not,Bool.and_eq_false_iff,beq_eq_false_iff_ne] at h h'
   have e:a=b:=by
    have h1:=h.1;have h2:=h'.1
    exact UInt8.le_antisymm (UInt8.not_lt.1 h2) (UInt8.not_lt.1 h1)
   subst e
   have h1:=h.2.resolve_left (by simp)
   have h2:=h'.2.resolve_left (by simp)
   rw [bl_total x y h1 h2]
theorem toList_inj {a b:ByteArray} (h:a.toList=b.toList):a=b:=by
 rw [ByteArray.toList_eq,ByteArray.toList_eq] at h
 cases a;cases b
 simp only [ByteArray.mk.injEq]
 exact Array.ext' h
theorem klt_irrefl (a:ByteArray):klt a a=false:=bl_irrefl _
theorem klt_trans {a b c:ByteArray} (h:klt a b=true) (k:klt b c=true):klt a c=true:=bl_trans _ _ _ h k
theorem klt_total {a b:ByteArray} (h:klt a b=false) (k:klt b a=false):a=b:=toList_inj (bl_total _ _ h k)
theorem klt_asymm {a b:ByteArray} (h:klt a b=true):klt b a=false:=by
 cases hb:klt b a
 ·rfl
 have:=klt_trans h hb;rw [klt_irrefl] at this;cases this
theorem klt_of_not {a b:ByteArray} (h:klt a b=false) (hne:a≠b):klt b a=true:=by
 cases hb:klt b a
 ·exact absurd (klt_total h hb) hne
 rfl
theorem klt_of_ge_lt {a b c:ByteArray} (h:klt b a=false) (k:klt b c=true):klt a c=true:=by
 cases hab:klt a b
 ·rw [klt_total hab h];exact k
 exact klt_trans hab k
theorem klt_of_lt_ge {a b c:ByteArray} (h:klt a b=true) (k:klt c b=false):klt a c=true:=by
 cases hbc:klt b c
 ·rw [←klt_total hbc k];exact h
 exact klt_trans h hbc
theorem beq_toList (a b:ByteArray):(a.toList == b.toList)=decide (a=b):=by
 by_cases h:a=b
 ·subst h;simp
 simp only [h,decide_false,beq_eq_false_iff_ne]
 exact fun e=>h (toList_inj e)
theorem kgt_eq (a b:ByteArray):(!(Op.bytesLess a.toList b.toList || a.toList == b.toList))=klt b a:=by
 cases h:klt b a
 ·cases h':klt a b
  ·rw [klt_total h h'];simp
  show (!(klt a b || _))=false;rw [h'];rfl
 have h1:=klt_asymm h
 have h2:a≠b:=by rintro rfl;rw [klt_irrefl] at h;cases h
 show (!(klt a b || _))=true
 rw [h1,beq_toList];simp [h2]
abbrev Ent:=ByteArray × Val
def Sorted (es:List Ent):Prop:=es.Pairwise fun a b=>klt a.1 b.1=true
def insE:List Ent→ByteArray→Val→List Ent
 | [],k,v=>[(k,v)]
 | e :: es,k,v=>if klt e.1 k then e :: insE es k v else if e.1=k then (k,v) :: es else (k,v) :: e :: es
def delE:List Ent→ByteArray→List Ent
 | [],_=>[]
 | e :: es,k=>if klt e.1 k then e :: delE es k else if e.1=k then es else e :: es
def getE:List Ent→ByteArray→Option Val
 | [],_=>none
 | e :: es,k=>if e.1=k then some e.2 else getE es k
theorem insE_app {A:List Ent} {k:ByteArray} (h:∀ e∈A,klt e.1 k=true) (B:List Ent) (v:Val):insE (A++B) k v=A++insE B k v:=by
 induction A with
 | nil=>rfl
 | cons a A ih=>
   have ha:=h a (List.mem_cons_self ..)
   simp only [List.cons_append,insE,ha,if_true]
   rw [ih fun e he=>h e (List.mem_cons_of_mem _ he)]
theorem insE_stop {C:List Ent} {k:ByteArray} (h:∀ e∈C,klt k e.1=true) (v:Val):∀ B:List Ent,insE (B++C) k v=insE B k v++C
 | []=>by
   cases C with
   | nil=>rfl
   | cons c C=>
     have hc:=h c (List.mem_cons_self ..)
     have h1:=klt_asymm hc
     have h2:c.1≠k:=by rintro rfl;rw [klt_irrefl] at hc;cases hc
     simp [insE,h1,h2]
 | b :: B=>by
   simp only [List.cons_append,insE]
   split
   ·rw [insE_stop h v B,List.cons_append]
   split <;> rfl
theorem insE_at {B:List Ent} {k:ByteArray} (h:∀ e∈B,klt e.1 k=false) (v:Val):insE B k v=(k,v) :: (if B.head?.map Prod.fst=some k then B.tail else B):=by
 cases B with
 | nil=>rfl
 | cons b B=>
   have hb:=h b (List.mem_cons_self ..)
   simp only [insE,hb,Bool.false_eq_true,if_false,List.head?_cons,Option.map_some,Option.some.injEq,List.tail_cons]
   split <;> rfl
theorem delE_app {A:List Ent} {k:ByteArray} (h:∀ e∈A,klt e.1 k=true) (B:List Ent):delE (A++B) k=A++delE B k:=by
 induction A with
 | nil=>rfl
 | cons a A ih=>
   have ha:=h a (List.mem_cons_self ..)
   simp only [List.cons_append,delE,ha,if_true]
   rw [ih fun e he=>h e (List.mem_cons_of_mem _ he)]
theorem delE_stop {C:List Ent} {k:ByteArray} (h:∀ e∈C,klt k e.1=true):∀ B:List Ent,delE (B++C) k=delE B k++C
 | []=>by
   cases C with
   | nil=>rfl
   | cons c C=>
     have hc:=h c (List.mem_cons_self ..)
     have h1:=klt_asymm hc
     have h2:c.1≠k:=by rintro rfl;rw [klt_irrefl] at hc;cases hc
     simp [delE,h1,h2]
 | b :: B=>by
   simp only [List.cons_append,delE]
   split
   ·rw [delE_stop h B,List.cons_append]
   split <;> rfl
theorem delE_at {B:List Ent} {k:ByteArray} (h:∀ e∈B,klt e.1 k=false):delE B k=if B.head?.map Prod.fst=some k then B.tail else B:=by
 cases B with
 | nil=>simp [delE]
 | cons b B=>
   have hb:=h b (List.mem_cons_self ..)
   simp only [delE,hb,Bool.false_eq_true,if_false,List.head?_cons,Option.map_some,Option.some.injEq,List.tail_cons]
theorem getE_none {B:List Ent} {k:ByteArray} (h:∀ e∈B,e.1≠k):getE B k=none:=by
 induction B with
 | nil=>rfl
 | cons b B ih=>simp only [getE,h b (List.mem_cons_self ..),if_false];exact ih fun e he=>h e (List.mem_cons_of_mem _ he)
theorem getE_app {A:List Ent} {k:ByteArray} (h:∀ e∈A,klt e.1 k=true) (B:List Ent):getE (A++B) k=getE B k:=by
 induction A with
 | nil=>rfl
 | cons a A ih=>
   have ha:=h a (List.mem_cons_self ..)
   have h2:a.1≠k:=by rintro rfl;rw [klt_irrefl] at ha;cases ha
   simp only [List.cons_append,getE,h2,if_false]
   exact ih fun e he=>h e (List.mem_cons_of_mem _ he)
theorem getE_stop {C:List Ent} {k:ByteArray} (h:∀ e∈C,klt k e.1=true):∀ B:List Ent,getE (B++C) k=getE B k
 | []=>getE_none fun e he=>by rintro rfl;have:=h e he;rw [klt_irrefl] at this;cases this
 | b :: B=>by simp only [List.cons_append,getE];rw [getE_stop h B]
theorem mem_insE {es:List Ent} {k:ByteArray} {v:Val} {x:Ent} (h:x∈insE es k v):x=(k,v)∨x∈es:=by
 induction es with
 | nil=>simpa [insE] using h
 | cons e es ih=>
   simp only [insE] at h
   split at h
   ·rcases List.mem_cons.1 h with h | h
    ·exact .inr (by simp [h])
    rcases ih h with h | h
    ·exact .inl h
    exact .inr (List.mem_cons_of_mem _ h)
   split at h
   ·rcases List.mem_cons.1 h with h | h
    ·exact .inl h
    exact .inr (List.mem_cons_of_mem _ h)
   rcases List.mem_cons.1 h with h | h
   ·exact .inl h
   exact .inr h
theorem insE_sorted {es:List Ent} (h:Sorted es) (k:ByteArray) (v:Val):Sorted (insE es k v):=by
 induction es with
 | nil=>exact List.pairwise_singleton ..
 | cons e es ih=>
   have h':=List.pairwise_cons.1 h
   simp only [insE]
   split
   ·rename_i hlt
    refine List.pairwise_cons.2 ⟨fun x hx=>?_,ih h'.2⟩
    rcases mem_insE hx with rfl | hx
    ·exact hlt
    exact h'.1 x hx
   rename_i hlt
   have hlt:klt e.1 k=false:=by simpa using hlt
   split
   ·rename_i he
    subst he
    exact List.pairwise_cons.2 ⟨fun x hx=>h'.1 x hx,h'.2⟩
   rename_i he
   have hk:=klt_of_not hlt he
   refine List.pairwise_cons.2 ⟨fun x hx=>?_,h⟩
   rcases List.mem_cons.1 hx with rfl | hx
   ·exact hk
   exact klt_trans hk (h'.1 x hx)
theorem delE_sublist (es:List Ent) (k:ByteArray):(delE es k).Sublist es:=by
 induction es with
 | nil=>exact .slnil
 | cons e es ih=>
   simp only [delE]
   split
   ·exact ih.cons_cons _
   split
   ·exact List.sublist_cons_self ..
   exact List.Sublist.refl _
theorem delE_sorted {es:List Ent} (h:Sorted es) (k:ByteArray):Sorted (delE es k):=List.Pairwise.sublist (delE_sublist es k) h
def PT:Nat→Type
 | 0=>Nat × List Ent
 | h+1=>Nat × List (PT h)
def addr:(h:Nat)→PT h→Nat
 | 0,t=>t.1
 | _+1,t=>t.1
def size:(h:Nat)→PT h→Nat
 | 0,t=>t.2.length
 | _+1,t=>t.2.length
def ents:(h:Nat)→PT h→List Ent
 | 0,t=>t.2
 | h+1,t=>t.2.flatMap (ents h)
def thin:(h:Nat)→PT h→Bool
 | 0,_=>false
 | h+1,t=>t.2.any fun k=>thin h k || decide (size h k<4)
def OkT:(h:Nat)→PT h→Prop
 | 0,t=>t.2.length≤8
 | h+1,t=>2≤t.2.length∧t.2.length≤8∧∀ k∈t.2,OkT h k∧4≤size h k
def firstK (es:List Ent):ByteArray:=(es.head?.map Prod.fst).getD ByteArray.empty
def lastK (es:List Ent):ByteArray:=(es.getLast?.map Prod.fst).getD ByteArray.empty
theorem ents_pos:∀ (h:Nat) (t:PT h),OkT h t→1≤size h t→0<(ents h t).length
 | 0,_,_,hs=>hs
 | h+1,t,ok,hs=>by
   obtain ⟨a,ks⟩:=t
   cases ks with
   | nil=>simp [size] at hs
   | cons k ks=>
     have:=ok.2.2 k (List.mem_cons_self ..)
     have:=ents_pos h k this.1 (by omega)
     simp only [ents,List.flatMap_cons,List.length_append];omega
theorem height_lt:∀ (h:Nat) (t:PT h),OkT h t→1≤size h t→h<(ents h t).length
 | 0,_,_,hs=>hs
 | h+1,t,ok,hs=>by
   obtain ⟨a,ks⟩:=t
   match ks,ok with
   | [],ok=>exact absurd ok.1 (by simp)
   | [k],ok=>exact absurd ok.1 (by simp)
   | k :: k' :: ks,ok=>
     have h1:=ok.2.2 k (List.mem_cons_self ..)
     have h2:=ok.2.2 k' (List.mem_cons_of_mem _ (List.mem_cons_self ..))
     have h1:=height_lt h k h1.1 (by omega)
     have h2:=ents_pos h k' h2.1 (by omega)
     simp only [ents,List.flatMap_cons,List.length_append];omega
end Go.Proofs.YtkhdiakpdafcdaaGreatDoor
namespace Go.Proofs.YtkhdiakpdafcdaaGreatDoor
open Go.RowKit
structure LE where
 k:ByteArray
 v:Val
 sl:Sl
 so:Sl
def LE.ent (x:LE):Ent:=(x.k,x.v)
def LE.cells (x:LE):List Value:=[.string x.k,.int .i64 x.v.kind,.bool x.v.b,.int .i64 x.v.i,.string x.v.t,.slice x.sl.a x.v.l.length x.sl.c,.slice x.so.a x.v.ok.length x.so.c]
def flatE (xs:List LE):List Value:=xs.flatMap LE.cells
theorem flatE_nil:flatE []=[]:=rfl
theorem flatE_cons (x:LE) (xs:List LE):flatE (x :: xs)=x.cells++flatE xs:=by simp [flatE]
theorem flatE_app (xs ys:List LE):flatE (xs++ys)=flatE xs++flatE ys:=by simp [flatE]
theorem LE.len (x:LE):x.cells.length=7:=rfl
theorem flatE_len (xs:List LE):(flatE xs).length=xs.length*7:=by
 induction xs with
 | nil=>rfl
 | cons x xs ih=>rw [flatE_cons,List.length_append,ih,LE.len,List.length_cons];omega
theorem flatE_at:∀ {xs:List LE} {i:Nat} {x:LE},xs[i]? = some x→∀ c,c<7→(flatE xs)[i*7+c]? = x.cells[c]?
 | [],i,x,h,_,_=>by simp at h
 | y :: ys,0,x,h,c,hc=>by
   simp at h;subst h
   rw [flatE_cons,Nat.zero_mul,Nat.zero_add,List.getElem?_append_left (by rw [LE.len];exact hc)]
 | y :: ys,i+1,x,h,c,hc=>by
   simp at h
   rw [flatE_cons,List.getElem?_append_right (by rw [LE.len];omega),LE.len,show (i+1)*7+c - 7=i*7+c from by omega]
   exact flatE_at h c hc
theorem flatE_take (xs:List LE) (i:Nat):(flatE xs).take (i*7)=flatE (xs.take i):=by
 induction xs generalizing i with
 | nil=>simp [flatE]
 | cons x xs ih=>
   cases i with
   | zero=>simp [flatE]
   | succ i=>
     rw [List.take_succ_cons,flatE_cons,flatE_cons,List.take_append,LE.len,List.take_of_length_le (by rw [LE.len];omega),show (i+1)*7 - 7=i*7 from by omega,ih]
theorem flatE_drop (xs:List LE) (i:Nat):(flatE xs).drop (i*7)=flatE (xs.drop i):=by
 induction xs generalizing i with
 | nil=>simp [flatE]
 | cons x xs ih=>
   cases i with
   | zero=>simp
   | succ i=>
     rw [List.drop_succ_cons,flatE_cons,List.drop_append,LE.len,List.drop_eq_nil_of_le (by rw [LE.len];omega),show (i+1)*7 - 7=i*7 from by omega,ih,List.nil_append]
def Vals (w:World) (F:Nat→Prop) (xs:List LE):Prop:=∀ x∈xs,RV w F x.v x.sl x.so∧x.k.size≤maxLen
theorem Vals.agree {w w':World} {F:Nat→Prop} {xs:List LE} (h:Vals w F xs) (ha:Agree F w w'):Vals w' F xs:=fun x hx=>⟨(h x hx).1.agree ha,(h x hx).2⟩
theorem Vals.mono {w:World} {F G:Nat→Prop} {xs:List LE} (h:Vals w F xs) (hG:∀ i,F i→G i):Vals w G xs:=fun x hx=>⟨(h x hx).1.mono hG,(h x hx).2⟩
structure ES (w:World) (F:Nat→Prop) (s:Sl) (xs:List LE):Prop where
 rd:Rd w F 7 s xs.length (flatE xs)
 vals:Vals w F xs
 few:xs.length*104≤140737488355328
theorem ES.agree {w w':World} {F:Nat→Prop} {s:Sl} {xs:List LE} (h:ES w F s xs) (ha:Agree F w w'):ES w' F s xs:=⟨h.rd.agree ha,h.vals.agree ha,h.few⟩
theorem ES.mono {w:World} {F G:Nat→Prop} {s:Sl} {xs:List LE} (h:ES w F s xs) (hG:∀ i,F i→G i):ES w G s xs:=⟨h.rd.mono hG,h.vals.mono hG,h.few⟩
theorem ES.nil (w:World) (F:Nat→Prop):ES w F Sl.none []:=⟨Rd.nil _ _ _,fun x h=>by simp at h,by simp⟩
theorem ES.at {w:World} {F:Nat→Prop} {s:Sl} {xs:List LE} (h:ES w F s xs) {i:Nat} {x:LE} (hx:xs[i]? = some x) :
  ∃ b o,s.a=some ⟨b,o,none⟩∧F b∧xs.length≤s.c∧s.c≤maxLen∧w.cell? ⟨b,o+i*7,none⟩=some (.string x.k)∧VCells w b (o+i*7+1) x.v x.sl x.so∧RV w F x.v x.sl x.so∧x.k.size≤maxLen:=by
 obtain ⟨b,o,h1,h2,h3⟩:=h.rd
 have hi:i<xs.length:=(List.getElem?_eq_some_iff.1 hx).1
 obtain ⟨e1,e2,e3⟩:=h1.eq (by omega)
 have hc:∀ c u,c<7→x.cells[c]? = some u→w.cell? ⟨b,o+i*7+c,none⟩=some u:=fun c u hc hu=>by
  rw [Nat.add_assoc];exact h3 _ u (by rw [flatE_at hx c hc];exact hu)
 have hv:=h.vals x (List.mem_of_getElem? hx)
 exact ⟨b,o,e1,h1.fits (by omega),e2,e3,hc 0 _ (by omega) rfl,⟨hc 1 _ (by omega) rfl,hc 2 _ (by omega) rfl,hc 3 _ (by omega) rfl,hc 4 _ (by omega) rfl,hc 5 _ (by omega) rfl,hc 6 _ (by omega) rfl⟩,hv.1,hv.2⟩
abbrev ptr (h:Nat) (t:PT h):Value:=.pointer (some ⟨addr h t,0,none⟩)
def ptrs (h:Nat) (ks:List (PT h)):List Value:=ks.map (ptr h)
def IsN (w:World) (F:Nat→Prop):(h:Nat)→PT h→Prop
 | 0,t=>F t.1∧∃ (s:Sl) (xs:List LE),Blk w t.1 154 #[.slice s.a xs.length s.c,.slice none 0 0,.int .i64 0,.int .i64 xs.length,.string (firstK t.2),.string (lastK t.2),.bool false]∧ES w F s xs∧xs.map LE.ent=t.2
 | h+1,t=>F t.1∧∃ s:Sl,Blk w t.1 154 #[.slice none 0 0,.slice s.a t.2.length s.c,.int .i64 ((h+1:Nat):Int),.int .i64 (ents (h+1) t).length,.string (firstK (ents (h+1) t)),.string (lastK (ents (h+1) t)),.bool (thin (h+1) t)]∧
    Rd w F 1 s t.2.length (ptrs h t.2)∧∀ k∈t.2,IsN w F h k
theorem IsN.agree {w w':World} {F:Nat→Prop} (ha:Agree F w w'):∀ {h:Nat} {t:PT h},IsN w F h t→IsN w' F h t
 | 0,_,⟨h1,s,xs,h2,h3,h4⟩=>⟨h1,s,xs,h2.agree ha h1,h3.agree ha,h4⟩
 | _+1,_,⟨h1,s,h2,h3,h4⟩=>⟨h1,s,h2.agree ha h1,h3.agree ha,fun k hk=>(h4 k hk).agree ha⟩
theorem IsN.mono {w:World} {F G:Nat→Prop} (hG:∀ i,F i→G i):∀ {h:Nat} {t:PT h},IsN w F h t→IsN w G h t
 | 0,_,⟨h1,s,xs,h2,h3,h4⟩=>⟨hG _ h1,s,xs,h2,h3.mono hG,h4⟩
 | _+1,_,⟨h1,s,h2,h3,h4⟩=>⟨hG _ h1,s,h2,h3.mono hG,fun k hk=>(h4 k hk).mono hG⟩
theorem IsN.ext {w w':World} {h:Nat} {t:PT h} (hn:IsN w (Lt w.heap.size) h t) (he:Ext w w'):IsN w' (Lt w'.heap.size) h t:=
 (hn.agree (he.agree fun _ h=>h)).mono fun _ hi=>Nat.lt_of_lt_of_le hi he.size
theorem IsN.cells {w:World} {F:Nat→Prop}:∀ {h:Nat} {t:PT h},IsN w F h t→F (addr h t)∧∃ (se sk:Sl) (ne nk:Nat),ne+nk=size h t∧
  Blk w (addr h t) 154 #[.slice se.a ne se.c,.slice sk.a nk sk.c,.int .i64 h,.int .i64 (ents h t).length,.string (firstK (ents h t)),.string (lastK (ents h t)),.bool (thin h t)]
 | 0,_,⟨h1,s,xs,h2,h3,h4⟩=>⟨h1,s,Sl.none,xs.length,0,by rw [size,←h4,List.length_map];rfl,by rw [show (ents 0 _).length=xs.length from by rw [ents,←h4,List.length_map]];exact h2⟩
 | _+1,_,⟨h1,s,h2,h3,h4⟩=>⟨h1,Sl.none,s,0,_,by rw [size,Nat.zero_add],h2⟩
theorem Blk.c7 {w:World} {g:Nat} {t:TypeId} {v0 v1 v2 v3 v4 v5 v6:Value} (h:Blk w g t #[v0,v1,v2,v3,v4,v5,v6]):w.cell? ⟨g,0,none⟩=some v0∧w.cell? ⟨g,1,none⟩=some v1∧w.cell? ⟨g,2,none⟩=some v2∧w.cell? ⟨g,3,none⟩=some v3∧w.cell? ⟨g,4,none⟩=some v4∧w.cell? ⟨g,5,none⟩=some v5∧w.cell? ⟨g,6,none⟩=some v6:=
 ⟨h.cell 0,h.cell 1,h.cell 2,h.cell 3,h.cell 4,h.cell 5,h.cell 6⟩
theorem height_nil (w:World):Calls Tryz.prog 97 #[.pointer none] w fun e w'=>e=.returned (.int .i64 0)∧w=w':=by
 go_enter Tryz.func97,Tryz.ntmps97
 go_wp2
 go_ret
 exact ⟨rfl,rfl⟩
theorem height_any {w:World} {F:Nat→Prop} {h:Nat} {t:PT h} (hn:IsN w F h t):Calls Tryz.prog 97 #[ptr h t] w fun e w'=>e=.returned (.int .i64 h)∧w=w':=by
 obtain ⟨-,se,sk,ne,nk,-,hb⟩:=hn.cells
 obtain ⟨-,-,h2,-,-,-,-⟩:=hb.c7
 go_enter Tryz.func97,Tryz.ntmps97
 go_wp2
 go_ret
 exact ⟨rfl,rfl⟩
theorem count_nil (w:World):Calls Tryz.prog 63 #[.pointer none] w fun e w'=>e=.returned (.int .i64 0)∧w=w':=by
 go_enter Tryz.func63,Tryz.ntmps63
 go_wp2
 go_ret
 exact ⟨rfl,rfl⟩
theorem count_any {w:World} {F:Nat→Prop} {h:Nat} {t:PT h} (hn:IsN w F h t):Calls Tryz.prog 63 #[ptr h t] w fun e w'=>e=.returned (.int .i64 (ents h t).length)∧w=w':=by
 obtain ⟨-,se,sk,ne,nk,-,hb⟩:=hn.cells
 obtain ⟨-,-,-,h3,-,-,-⟩:=hb.c7
 go_enter Tryz.func63,Tryz.ntmps63
 go_wp2
 go_ret
 exact ⟨rfl,rfl⟩
theorem first_any {w:World} {F:Nat→Prop} {h:Nat} {t:PT h} (hn:IsN w F h t):Calls Tryz.prog 146 #[ptr h t] w fun e w'=>e=.returned (.string (firstK (ents h t)))∧w=w':=by
 obtain ⟨-,se,sk,ne,nk,-,hb⟩:=hn.cells
 obtain ⟨-,-,-,-,h4,-,-⟩:=hb.c7
 go_enter Tryz.func146,Tryz.ntmps146
 go_wp2
 go_ret
 exact ⟨rfl,rfl⟩
theorem size_nil (w:World):Calls Tryz.prog 101 #[.pointer none] w fun e w'=>e=.returned (.int .i64 0)∧w=w':=by
 go_enter Tryz.func101,Tryz.ntmps101
 go_wp2
 go_ret
 exact ⟨rfl,rfl⟩
theorem size_any {w:World} {F:Nat→Prop} {h:Nat} {t:PT h} (hn:IsN w F h t) (hs:size h t≤1000):Calls Tryz.prog 101 #[ptr h t] w fun e w'=>e=.returned (.int .i64 (size h t))∧∃ q,w'=w.drewN q:=by
 obtain ⟨-,se,sk,ne,nk,hnk,hb⟩:=hn.cells
 obtain ⟨h0,h1,-,-,-,-,-⟩:=hb.c7
 have hb1:ne≤1000:=by omega
 have hb2:nk≤1000:=by omega
 rw [←hnk]
 clear hnk
 go_enter Tryz.func101,Tryz.ntmps101
 go_wp2_with fail
 go_quiet (fail)
 go_wp2
 go_ret
 exact ⟨by simp,_,rfl⟩
theorem last_any {w:World} {F:Nat→Prop} {h:Nat} {t:PT h} (hn:IsN w F h t):Calls Tryz.prog 254 #[ptr h t] w fun e w'=>e=.returned (.string (lastK (ents h t)))∧w=w':=by
 obtain ⟨-,se,sk,ne,nk,-,hb⟩:=hn.cells
 obtain ⟨-,-,-,-,-,h5,-⟩:=hb.c7
 go_enter Tryz.func254,Tryz.ntmps254
 go_wp2
 go_ret
 exact ⟨rfl,rfl⟩
def sound0 (h:Nat) (t:PT h):Bool:=!thin h t && decide (4≤size h t)
theorem sound_any {w:World} {F:Nat→Prop} {h:Nat} {t:PT h} (hn:IsN w F h t) (hs:size h t≤1000):Calls Tryz.prog 154 #[ptr h t,.bool false] w fun e w'=>e=.returned (.bool (sound0 h t))∧∃ q,w'=w.drewN q:=by
 obtain ⟨-,se,sk,ne,nk,-,hb⟩:=hn.cells
 obtain ⟨-,-,-,-,-,-,h6⟩:=hb.c7
 have hc:=size_any hn hs
 clear hb
 cases ht:thin h t
 ·rw [ht] at h6
  have e:sound0 h t=decide (4≤size h t):=by simp [sound0,ht]
  rw [e]
  clear e ht
  go_enter Tryz.func154,Tryz.ntmps154
  go_wp2_with fail
  refine hc.mono ?_
  rintro e w' ⟨rfl,q,rfl⟩
  go_wp2_with fail
  go_ret
  exact ⟨by simp;omega,q,rfl⟩
 rw [ht] at h6
 have e:sound0 h t=false:=by simp [sound0,ht]
 rw [e]
 clear e ht hc
 go_enter Tryz.func154,Tryz.ntmps154
 go_wp2_with fail
 go_ret
 exact ⟨rfl,0,rfl⟩
theorem Tryz.infoPNode:(Tryz.prog.info? 39).map (fun i=>(i.zero,i.size,i.bytes))=some (some (.pointer none),1,8):=by kernel_rfl
theorem ptrs_one (h:Nat) (ks:List (PT h)):∀ u∈ptrs h ks,u.oneCell'=true:=by
 intro u hu
 obtain ⟨k,-,rfl⟩:=List.mem_map.1 hu
 rfl
def ClonePost (e':TypeId) (n:Nat) (cs:List Value) (w:World) (e:Ending) (w':World):Prop:=
 ∃ s':Sl,e=.returned (.slice s'.a n s'.c)∧w'.ownsRow w.heap.size e' 1 (.slice s'.a n s'.c) n cs∧Ext w w'
theorem clone_nil (w:World):Calls Tryz.prog 144 #[.slice none 0 0] w fun e w'=>e=.returned (.slice none 0 0)∧w=w':=by
 have he:=fun w'=>Lib.run_eql_slice_nil (P:=Tryz.prog) w' 108 39 none 0 0 0 0 Tryz.underlying108
 go_enter Tryz.func144,Tryz.ntmps144
 go_wp2_with fail
 go_ret
 exact ⟨rfl,rfl⟩
theorem clone_any {w:World} {F:Nat→Prop} {s:Sl} {n:Nat} {cs:List Value} (hr:Rd w F 1 s n cs) (h1:∀ u∈cs,u.oneCell'=true) (hn:n≤1000) :
  Calls Tryz.prog 144 #[.slice s.a n s.c] w (ClonePost 39 n cs w):=by
 obtain ⟨i0,hi,hz0,hz1,hz2⟩:=info_parts Tryz.infoPNode
 obtain ⟨b,o,hs,hl,hc⟩:=hr
 cases hs with
 | nil=>
   have:cs=[]:=List.eq_nil_of_length_eq_zero (by simpa using hl)
   subst this
   have he:=fun w'=>Lib.run_eql_slice_nil (P:=Tryz.prog) w' 108 39 none 0 0 0 0 Tryz.underlying108
   go_enter Tryz.func144,Tryz.ntmps144
   go_wp2_with fail
   go_ret
   exact ⟨Sl.none,rfl,World.ownsRow_nil _ _ _ _,Ext.refl _⟩
 | zero ad=>
   have:cs=[]:=List.eq_nil_of_length_eq_zero (by simpa using hl)
   subst this
   have he:=fun w'=>Lib.run_eql_slice_nil (P:=Tryz.prog) w' 108 39 (some ad) 0 0 0 0 Tryz.underlying108
   have hsrc:Rd (w.alloc (.cells #[] 39)) F 1 ⟨some ad,0⟩ 0 []:=⟨b,o,.zero _ _ _,rfl,fun j u hj=>by simp at hj⟩
   have HN:=Lib.hid hsrc
   have h63:0+0≤maxLen:=by unfold maxLen;omega
   clear hsrc hc h1 hl
   go_enter Tryz.func144,Tryz.ntmps144
   go_wp2_with (at_builtin;refine wpList_append_x _ rfl _ _ 108 rfl w.heap.size 39 i0 (.pointer none) 1 8 Tryz.underlying108 hi hz0 hz1 hz2 rfl (by decide) ⟨some ⟨w.heap.size,0,none⟩,0⟩ 0 [] rfl (World.ownsRow_made w #[] 0 (Nat.le_refl _) (by decide) rfl) F ⟨some ad,0⟩ 0 [] rfl HN.out (by simp) h63 (by omega) (by simp) ?_;intro s' w1 hown hwr _;simp only [Nat.zero_add,List.nil_append] at hown)
   go_ret
   exact ⟨s',by simp,hown,((Ext.refl w).alloc _ _).wr hwr (by rintro i ⟨⟩;exact Nat.le_refl _)⟩
 | some _ c _ _ hnc hcm hb=>
   have he:=fun w'=>Lib.run_eql_slice_nil (P:=Tryz.prog) w' 108 39 (some ⟨b,o,none⟩) n c 0 0 Tryz.underlying108
   have hlt:∀ j u,cs[j]? = some u→b<w.heap.size:=fun j u hj=>World.block_lt_of_cell? w _ (hc j u hj)
   have hsrc:Rd (w.alloc (.cells #[] 39)) F 1 ⟨some ⟨b,o,none⟩,c⟩ n cs:=⟨b,o,.some _ _ _ _ hnc hcm hb,hl,fun j u hj=>(World.cell?_alloc_lt _ _ _ (hlt j u hj)).trans (hc j u hj)⟩
   have HN:=Lib.hid hsrc
   have H1:=Lib.hid h1
   have h63:0+n≤maxLen:=by unfold maxLen;omega
   clear hsrc hc h1 hl hlt
   go_enter Tryz.func144,Tryz.ntmps144
   go_wp2_with (at_builtin;refine wpList_append_x _ rfl _ _ 108 rfl w.heap.size 39 i0 (.pointer none) 1 8 Tryz.underlying108 hi hz0 hz1 hz2 rfl (by decide) ⟨some ⟨w.heap.size,0,none⟩,0⟩ 0 [] rfl (World.ownsRow_made w #[] 0 (Nat.le_refl _) (by decide) rfl) F ⟨some ⟨b,o,none⟩,c⟩ n cs rfl HN.out H1.out h63 (by omega) (by simp) ?_;intro s' w1 hown hwr _;simp only [Nat.zero_add,List.nil_append] at hown)
   go_ret
   exact ⟨s',by simp,hown,((Ext.refl w).alloc _ _).wr hwr (by rintro i ⟨⟩;exact Nat.le_refl _)⟩
theorem kids_any {w:World} {F:Nat→Prop} {h:Nat} {t:PT (h+1)} (hn:IsN w F (h+1) t) (hs:t.2.length≤1000):Calls Tryz.prog 98 #[ptr (h+1) t] w (ClonePost 39 t.2.length (ptrs h t.2) w):=by
 obtain ⟨-,s,hb,hr,-⟩:=hn
 have h1:w.cell? ⟨addr (h+1) t,1,none⟩=some (.slice s.a t.2.length s.c):=hb.c7.2.1
 have hc:=clone_any hr (ptrs_one _ _) hs
 have HR:=Lib.hid hr
 clear hb hr
 go_enter Tryz.func98,Tryz.ntmps98
 go_wp2_with fail
 refine hc.mono ?_
 rintro e w' ⟨s',rfl,h2,h3⟩
 have H2:=Lib.hid h2
 clear h2
 go_wp2_with fail
 go_ret
 exact ⟨s',rfl,H2.out,h3⟩
theorem kids_leaf {w:World} {F:Nat→Prop} {t:PT 0} (hn:IsN w F 0 t):Calls Tryz.prog 98 #[ptr 0 t] w fun e w'=>e=.returned (.slice none 0 0)∧w=w':=by
 obtain ⟨-,s,xs,hb,-,-⟩:=hn
 have h1:w.cell? ⟨addr 0 t,1,none⟩=some (.slice none 0 0):=hb.c7.2.1
 have hc:=clone_nil w
 clear hb
 go_enter Tryz.func98,Tryz.ntmps98
 go_wp2_with fail
 refine hc.mono ?_
 rintro e w' ⟨rfl,rfl⟩
 go_wp2_with fail
 go_ret
 exact ⟨rfl,rfl⟩
structure OE (w:World) (base:Nat) (s:Sl) (xs:List LE):Prop where
 own:w.ownsRow base 71 7 (.slice s.a xs.length s.c) xs.length (flatE xs)
 vals:Vals w (fun b=>(base≤b∧b<w.heap.size)∧s.row≠some b) xs
 few:xs.length*104≤140737488355328
theorem OE.nil (w:World) (base:Nat):OE w base Sl.none []:=⟨World.ownsRow_nil _ _ _ _,fun x h=>by simp at h,by simp⟩
theorem OE.es {w:World} {base:Nat} {s:Sl} {xs:List LE} (h:OE w base s xs):ES w (In base w.heap.size) s xs:=⟨Rd.of_own h.own,h.vals.mono fun _ hi=>hi.1,h.few⟩
theorem own_agree {w w':World} {base e size n:Nat} {s:Sl} {xs:List Value} (h:w.ownsRow base e size (.slice s.a n s.c) n xs) {F:Nat→Prop} (ha:Agree F w w') (hF:∀ b,s.row=some b→F b):w'.ownsRow base e size (.slice s.a n s.c) n xs:=by
 refine ⟨h.1,?_⟩
 rcases h.2 with hl | ⟨g,cap,cur,hv,hg,hh,r⟩
 ·exact .inl hl
 refine .inr ⟨g,cap,cur,hv,hg,?_,r⟩
 simp only [Value.slice.injEq] at hv
 exact (ha g (hF g (by simp [Sl.row,hv.1]))).trans hh
theorem OE.ext {w w':World} {base:Nat} {s:Sl} {xs:List LE} (h:OE w base s xs) (he:Ext w w'):OE w' base s xs:=
 ⟨own_agree h.own (he.agree (F:=Lt w.heap.size) fun _ hi=>hi) fun b hb=>(h.own.lt b (by obtain ⟨a,c⟩:=s;cases a <;> simp_all [Value.ownBlock,Sl.row])).2,
   (h.vals.agree (he.agree fun _ hi=>hi.1.2)).mono fun i hi=>⟨⟨hi.1.1,Nat.lt_of_lt_of_le hi.1.2 he.size⟩,hi.2⟩,h.few⟩
theorem FillM.own {w:World} {B n:Nat} {xs:List LE} (hrow:Filling w B 71 7 xs.length) (hk:∀ j x,xs[j]? = some x→w.cell? ⟨B,j*7,none⟩=some (.string x.k)∧VCells w B (j*7+1) x.v x.sl x.so) (hn:n≤B) (hm:xs.length≤maxLen) :
  w.ownsRow n 71 7 (.slice (some ⟨B,0,none⟩) xs.length xs.length) xs.length (flatE xs):=by
 obtain ⟨arr,h1,h2⟩:=hrow
 refine ⟨flatE_len xs,.inr ⟨B,xs.length,arr,rfl,hn,h1,Nat.le_refl _,hm,h2,?_⟩⟩
 rw [List.take_of_length_le (by rw [Array.length_toList,h2];exact Nat.le_refl _)]
 apply List.ext_getElem?
 intro p
 by_cases hp:p<xs.length*7
 ·obtain ⟨j,c,rfl,hc7⟩:∃ j c,p=j*7+c∧c<7:=⟨p / 7,p % 7,by omega,by omega⟩
  obtain ⟨x,hx⟩:∃ x,xs[j]? = some x:=⟨_,List.getElem?_eq_getElem (by omega)⟩
  obtain ⟨e0,e⟩:=hk _ _ hx
  rw [flatE_at hx c hc7]
  have hc:∀ o,w.cell? ⟨B,o,none⟩=arr.toList[o]?:=fun o=>by rw [cell_of_row w B o arr _ _ h1];simp
  rw [←hc]
  have hc7':c=0∨c=1∨c=2∨c=3∨c=4∨c=5∨c=6:=by omega
  rcases hc7' with rfl | rfl | rfl | rfl | rfl | rfl | rfl
  ·exact e0
  ·exact e.c0
  ·exact e.c1
  ·exact e.c2
  ·exact e.c3
  ·exact e.c4
  exact e.c5
 rw [List.getElem?_eq_none (by rw [Array.length_toList,h2];omega),List.getElem?_eq_none (by rw [flatE_len];omega)]
def CopiesPost (xs:List LE) (w:World) (e:Ending) (w':World):Prop:=
 ∃ (s':Sl) (xs':List LE),e=.returned (.slice s'.a xs'.length s'.c)∧xs'.map LE.ent=xs.map LE.ent∧OE w' w.heap.size s' xs'∧Ext w w'
theorem copies_any {w:World} {s:Sl} {xs:List LE} (hs:ES w (Lt w.heap.size) s xs):Calls Tryz.prog 147 #[.slice s.a xs.length s.c] w (CopiesPost xs w):=by
 obtain ⟨i0,hi,hz0,hz1,hz2⟩:=info_parts Tryz.infoEntry
 have hfew:=hs.few
 have hmk:=fun W=>run_make_rowN (P:=Tryz.prog) 22 71 i0 _ Tryz.underlying22 hi hz0 .i64 .i64 xs.length xs.length (Nat.le_refl _) (by rw [hz2];omega) (by omega) W
 have HS:=Lib.hid hs
 clear hs
 go_enter Tryz.func147,Tryz.ntmps147
 go_wp2_with fail
 clear hmk
 generalize hW0:World.alloc _ _=W0
 have hx0:Ext w W0:=by rw [←hW0];exact (Ext.refl w).alloc _ _
 have hz:W0.heap.size=w.heap.size+1:=by rw [←hW0];simp
 have hfil:Filling W0 w.heap.size 71 7 (xs.map LE.k).length:=by
  rw [←hW0,List.length_map];exact Filling.made _ (size_madeCells _ _)
 clear hW0
 go_loopw [11] (fun q wr=>∃ (j:Nat) (f:Nat→Sl × Sl),j≤xs.length∧q=.int .i64 j∧Ext w wr∧FillM wr w.heap.size 71 (xs.map LE.k) (xs.map LE.v) j f) (fun q _=>xs.length - (intOf q).toNat)
 case atStart=>exact ⟨0,fun _=>(Sl.none,Sl.none),Nat.zero_le _,rfl,hx0,FillM.start hfil _⟩
 clear hx0 hz hfil W0
 obtain ⟨j,f,hj,rfl,hx,hf⟩:=hrel
 have hbw:w.heap.size<wr.heap.size:=hf.row.lt
 by_cases hlt:j<xs.length
 ·obtain ⟨x,hxj⟩:∃ x,xs[j]? = some x:=⟨_,List.getElem?_eq_getElem hlt⟩
  have hag:Agree (Lt w.heap.size) w wr:=hx.agree fun _ h=>h
  obtain ⟨b,o,ha,hbo,hlc,hcm,hk0,hv,hrv,hkm⟩:=HS.out.at hxj
  obtain ⟨v0,v1,v2,v3,v4,v5⟩:=(hv.agree hag hbo).m
  have vk:=(hag.cell hbo).trans hk0
  have hic:∀ W,Ext wr W→Calls Tryz.prog 45 #[aggV x.v x.sl x.so] W (CopyPost x.v W):=fun W hW=>
   copy_any _ x.v (Nat.le_refl _) W _ _ ((hrv.agree (hag.trans (hW.agree fun _ h=>Nat.lt_of_lt_of_le h hx.size))).mono fun i hi=>Nat.lt_of_lt_of_le hi (Nat.le_trans hx.size hW.size))
  have HXJ:=Lib.hid hxj
  have HF:=Lib.hid hf
  have HX:=Lib.hid hx
  have hne:¬w.heap.size=wr.heap.size:=by omega
  have hrow:=hf.row
  rw [List.length_map] at hrow
  obtain ⟨x0,hx0⟩:∃ v,wr.cell? ⟨w.heap.size,j*7,none⟩=some v:=hrow.cell (by omega)
  obtain ⟨x1,hx1⟩:∃ v,wr.cell? ⟨w.heap.size,j*7+1,none⟩=some v:=hrow.cell (by omega)
  obtain ⟨x2,hx2⟩:∃ v,wr.cell? ⟨w.heap.size,j*7+2,none⟩=some v:=hrow.cell (by omega)
  obtain ⟨x3,hx3⟩:∃ v,wr.cell? ⟨w.heap.size,j*7+3,none⟩=some v:=hrow.cell (by omega)
  obtain ⟨x4,hx4⟩:∃ v,wr.cell? ⟨w.heap.size,j*7+4,none⟩=some v:=hrow.cell (by omega)
  obtain ⟨x5,hx5⟩:∃ v,wr.cell? ⟨w.heap.size,j*7+5,none⟩=some v:=hrow.cell (by omega)
  obtain ⟨x6,hx6⟩:∃ v,wr.cell? ⟨w.heap.size,j*7+6,none⟩=some v:=hrow.cell (by omega)
  have hff:=hrow.frozen
  rw [ha]
  have HA:=Lib.hid ha
  clear hxj hag hf hx hv hk0 hrow ha hrv hkm
  go_wp2_with fail
  go_region_held3 (fun w'=>w'.cell? ⟨wr.heap.size,0,none⟩=some (.string x.k)∧w'.cell? ⟨wr.heap.size,1,none⟩=some (.int .i64 x.v.kind)∧w'.cell? ⟨wr.heap.size,2,none⟩=some (.bool x.v.b)∧w'.cell? ⟨wr.heap.size,3,none⟩=some (.int .i64 x.v.i)∧w'.cell? ⟨wr.heap.size,4,none⟩=some (.string x.v.t)∧w'.cell? ⟨wr.heap.size,5,none⟩=some (.slice x.sl.a x.v.l.length x.sl.c)∧w'.cell? ⟨wr.heap.size,6,none⟩=some (.slice x.so.a x.v.ok.length x.so.c)) (go_keep)
   ((go_at_call 45;refine (hic _ (((Ext.refl wr).alloc _ _).drew)).mono ?_;rintro e w1 ⟨sl2,so2,rfl,he1,hr1⟩;have ho1:=he1.olds))
  have hEw:Ext wr w1:=(((Ext.refl wr).alloc _ _).drew).trans he1
  have hst:=HF.out.step hEw (x:=x.k) (d:=x.v) (by rw [List.getElem?_map,HXJ.out];rfl) (by rw [List.getElem?_map,HXJ.out];rfl) (hr1.mono fun i hi=>⟨Nat.le_trans (by simp) hi.1,hi.2⟩)
  have hX:=(HX.out.trans hEw).putM (b:=w.heap.size) (Nat.le_refl _) (j*7) x.k x.v sl2 so2
  have HST:=Lib.hid hst
  clear hst
  go_wp2_with fail
  go_roundw
  case rel=>exact ⟨j+1,_,hlt,by go_num,hX,HST.out⟩
  simp [intOf];omega
 obtain rfl:j=xs.length:=by omega
 have HF:=Lib.hid hf
 clear hf
 go_wp2_with fail
 go_ret
 have hf:=HF.out
 obtain ⟨xs',hxs,hlen⟩:∃ xs':List LE,(∀ (j:Nat) (x:LE),xs'[j]? = some x→∃ y:LE,xs[j]? = some y∧x=LE.mk y.k y.v (f j).1 (f j).2)∧xs'.length=xs.length∧xs'.map LE.ent=xs.map LE.ent:=by
  refine ⟨xs.mapIdx fun j y=>LE.mk y.k y.v (f j).1 (f j).2,fun j x hx=>?_,by simp,?_⟩
  ·rw [List.getElem?_mapIdx] at hx
   cases hy:xs[j]? with
   | none=>rw [hy] at hx;cases hx
   | some y=>rw [hy] at hx;exact ⟨y,rfl,by simpa using hx.symm⟩
  apply List.ext_getElem?;intro j
  rw [List.getElem?_map,List.getElem?_mapIdx,List.getElem?_map]
  cases xs[j]? <;> rfl
 have hb:∀ (j:Nat) (x:LE),xs'[j]? = some x→j<xs.length∧(xs.map LE.k)[j]? = some x.k∧(xs.map LE.v)[j]? = some x.v∧x.sl=(f j).1∧x.so=(f j).2:=fun j x hx=>by
  obtain ⟨y,hy,rfl⟩:=hxs j x hx
  exact ⟨(List.getElem?_eq_some_iff.1 hy).1,by rw [List.getElem?_map,hy];rfl,by rw [List.getElem?_map,hy];rfl,rfl,rfl⟩
 have hrow:=hf.row
 rw [List.length_map,←hlen.1] at hrow
 refine ⟨⟨some ⟨w.heap.size,0,none⟩,xs'.length⟩,xs',by simp [hlen.1],hlen.2,OE.mk ?_ ?_ (by rw [hlen.1];exact hfew),hx⟩
 ·exact FillM.own hrow (fun j x hx=>by
   obtain ⟨h1,h2,h3,h4,h5⟩:=hb j x hx
   rw [h4,h5]
   exact ⟨hf.keys j _ h1 h2,hf.cells j _ h1 h3⟩) (Nat.le_refl _) (by rw [hlen.1];unfold maxLen;omega)
 intro x hx
 obtain ⟨j,hj⟩:=List.getElem?_of_mem hx
 obtain ⟨h1,h2,h3,h4,h5⟩:=hb j x hj
 rw [h4,h5]
 refine ⟨(hf.reads j _ h1 h3).mono fun i hi=>⟨⟨by omega,hi.2⟩,by simp [Sl.row];omega⟩,?_⟩
 obtain ⟨y,hy,rfl⟩:=hxs j x hj
 exact (HS.out.vals y (List.mem_of_getElem? hy)).2
end Go.Proofs.YtkhdiakpdafcdaaGreatDoor
namespace Go.Proofs.YtkhdiakpdafcdaaGreatDoor
open Go.RowKit
set_option linter.unusedVariables false
abbrev aggE (k:ByteArray) (v:Val) (sl so:Sl):Value:=.agg #[.string k,.int .i64 v.kind,.bool v.b,.int .i64 v.i,.string v.t,.slice sl.a v.l.length sl.c,.slice so.a v.ok.length so.c]
def EntriesPost (es:List Ent) (w:World) (e:Ending) (w':World):Prop:=
 ∃ (s':Sl) (xs':List LE),e=.returned (.slice s'.a xs'.length s'.c)∧xs'.map LE.ent=es∧OE w' w.heap.size s' xs'∧Ext w w'
theorem entries_nil (w:World):Calls Tryz.prog 104 #[.pointer none] w fun e w'=>e=.returned (.slice none 0 0)∧w=w':=by
 go_enter Tryz.func104,Tryz.ntmps104
 go_wp2
 go_ret
 exact ⟨rfl,rfl⟩
theorem entries_inner {w:World} {F:Nat→Prop} {h:Nat} {t:PT (h+1)} (hn:IsN w F (h+1) t):Calls Tryz.prog 104 #[ptr (h+1) t] w fun e w'=>e=.returned (.slice none 0 0)∧w=w':=by
 obtain ⟨-,s,hb,-⟩:=hn
 have h0:w.cell? ⟨addr (h+1) t,0,none⟩=some (.slice none 0 0):=hb.c7.1
 clear hb
 go_enter Tryz.func104,Tryz.ntmps104
 go_wp2
 go_ret
 exact ⟨rfl,rfl⟩
theorem entries_any {w:World} {t:PT 0} (hn:IsN w (Lt w.heap.size) 0 t):Calls Tryz.prog 104 #[ptr 0 t] w (EntriesPost (ents 0 t) w):=by
 obtain ⟨-,s,xs,hb,hs,hxs⟩:=hn
 have h0:w.cell? ⟨addr 0 t,0,none⟩=some (.slice s.a xs.length s.c):=hb.c7.1
 have hc:=copies_any hs
 have HX:=Lib.hid hxs
 clear hb hxs
 by_cases hl:xs.length=0
 ·have hl':xs=[]:=List.eq_nil_of_length_eq_zero hl
  subst hl'
  clear hc
  go_enter Tryz.func104,Tryz.ntmps104
  go_wp2_with fail
  go_ret
  exact ⟨Sl.none,[],rfl,HX.out,OE.nil _ _,Ext.refl _⟩
 have hl':((xs.length:Int) == 0)=false:=beq_eq_false_iff_ne.2 (by omega)
 clear hl
 go_enter Tryz.func104,Tryz.ntmps104
 go_wp2_with fail
 refine hc.mono ?_
 rintro e w' ⟨s',xs',rfl,h1,h2,h3⟩
 have H1:=Lib.hid h1
 clear h1
 go_wp2_with fail
 go_ret
 exact ⟨s',xs',rfl,H1.out.trans HX.out,h2,h3⟩
def zeroV:Val:=.mk 0 false 0 ByteArray.empty [] [] []
def EntryPost (k:ByteArray) (v:Val) (w:World) (e:Ending) (w':World):Prop:=
 ∃ sl so,e=.returned (.tuple #[aggE k v sl so,.bool true])∧Ext w w'∧RVC w' (In w.heap.size w'.heap.size) v sl so
theorem entry_any {w:World} {t:PT 0} (hn:IsN w (Lt w.heap.size) 0 t) {i:Nat} {k:ByteArray} {v:Val} (hi:(ents 0 t)[i]? = some (k,v)) :
  Calls Tryz.prog 103 #[ptr 0 t,.int .i64 i] w (EntryPost k v w):=by
 obtain ⟨-,s,xs,hb,hs,hxs⟩:=hn
 have h0:w.cell? ⟨addr 0 t,0,none⟩=some (.slice s.a xs.length s.c):=hb.c7.1
 have hbl:addr 0 t<w.heap.size:=hb.lt
 obtain ⟨x,hx,rfl,rfl⟩:∃ x,xs[i]? = some x∧x.k=k∧x.v=v:=by
  rw [show ents 0 t=xs.map LE.ent from hxs.symm,List.getElem?_map] at hi
  cases hx:xs[i]? with
  | none=>rw [hx] at hi;cases hi
  | some x=>rw [hx] at hi;simp [LE.ent] at hi;exact ⟨x,rfl,hi.1,hi.2⟩
 obtain ⟨b,o,ha,hbo,hlc,hcm,hk0,hv,hrv,hkm⟩:=hs.at hx
 obtain ⟨v0,v1,v2,v3,v4,v5⟩:=hv.m
 have hil:i<xs.length:=(List.getElem?_eq_some_iff.1 hx).1
 have hfew:=hs.few
 have hil':(i:Int)<(xs.length:Int):=by omega
 have hib:decide ((xs.length:Int)≤(i:Int))=false:=by simp;omega
 have hin:decide ((i:Int)<0)=false:=by simp
 have hic:∀ W,Ext w W→Calls Tryz.prog 45 #[aggV x.v x.sl x.so] W (CopyPost x.v W):=fun W hW=>
  copy_any _ x.v (Nat.le_refl _) W _ _ ((hrv.agree (hW.agree fun _ h=>h)).mono fun i hi=>Nat.lt_of_lt_of_le hi hW.size)
 rw [ha] at h0
 have hbo':b<w.heap.size:=hbo
 clear hb hxs hs hi hv hrv hkm ha hx hbo
 go_enter Tryz.func103,Tryz.ntmps103
 go_wp2_with fail
 go_region_held3 (fun w'=>w'.cell? ⟨w.heap.size+1,0,none⟩=some (.string x.k)∧w'.cell? ⟨w.heap.size+1,1,none⟩=some (.int .i64 x.v.kind)∧w'.cell? ⟨w.heap.size+1,2,none⟩=some (.bool x.v.b)∧w'.cell? ⟨w.heap.size+1,3,none⟩=some (.int .i64 x.v.i)∧w'.cell? ⟨w.heap.size+1,4,none⟩=some (.string x.v.t)∧w'.cell? ⟨w.heap.size+1,5,none⟩=some (.slice x.sl.a x.v.l.length x.sl.c)∧w'.cell? ⟨w.heap.size+1,6,none⟩=some (.slice x.so.a x.v.ok.length x.so.c)) (go_keep)
  ((go_at_call 45;refine (hic _ ((((Ext.refl w).alloc _ _).alloc _ _).drew)).mono ?_;rintro e w1 ⟨sl2,so2,rfl,he1,hr1⟩;have ho1:=he1.olds))
 have hX:Ext w w1:=((((Ext.refl w).alloc _ _).alloc _ _).drew).trans he1
 go_wp2_with fail
 have hb1:Blk w1 w.heap.size 71 #[.string ByteArray.empty,.int .i64 0,.bool false,.int .i64 0,.string ByteArray.empty,.slice none 0 0,.slice none 0 0]:=(he1.heap (by rw [World.size_drew,World.size_alloc,World.size_alloc];omega)).trans (heap_alloc2_old w _ _)
 obtain ⟨q0,q1,q2,q3,q4,q5,q6⟩:=hb1.c7
 refine bodyPost_ret (v:=.tuple #[aggE x.k x.v sl2 so2,.bool true]) (by simp [results,Tryz.results103,go_sem,q0,q1,q2,q3,q4,q5,q6]) rfl ?_
 have hE:Ext w (putM w1 w.heap.size 0 x.k x.v sl2 so2):=hX.putM (Nat.le_refl _) 0 x.k x.v sl2 so2
 refine ⟨sl2,so2,rfl,hE,?_,hr1.cap⟩
 show RV (putM w1 w.heap.size 0 x.k x.v sl2 so2) (In w.heap.size (putM w1 w.heap.size 0 x.k x.v sl2 so2).heap.size) _ _ _
 rw [putM_size]
 have hr2:RV w1 (In (w.heap.size+1) w1.heap.size) x.v sl2 so2:=hr1.mono fun i hi=>⟨by have:=hi.1;simp at this;omega,hi.2⟩
 exact (hr2.agree (putM_agree _ _ _ _ _ _ _ (by omega))).mono fun i hi=>⟨by omega,hi.2⟩
theorem entry_none {w:World} {t:PT 0} (hn:IsN w (Lt w.heap.size) 0 t) {i:Int} (hi:i<0∨(ents 0 t).length≤i) :
  Calls Tryz.prog 103 #[ptr 0 t,.int .i64 i] w fun e w'=>e=.returned (.tuple #[aggE ByteArray.empty zeroV Sl.none Sl.none,.bool false])∧Ext w w':=by
 obtain ⟨-,s,xs,hb,hs,hxs⟩:=hn
 have h0:w.cell? ⟨addr 0 t,0,none⟩=some (.slice s.a xs.length s.c):=hb.c7.1
 have hbl:addr 0 t<w.heap.size:=hb.lt
 have hl:(ents 0 t).length=xs.length:=by rw [show ents 0 t=xs.map LE.ent from hxs.symm,List.length_map]
 rw [hl] at hi
 clear hb hs hxs hl
 by_cases hneg:i<0
 ·have hin:decide (i<0)=true:=by simpa using hneg
  clear hi hneg
  go_enter Tryz.func103,Tryz.ntmps103
  go_wp2_with fail
  refine bodyPost_ret (v:=.tuple #[aggE ByteArray.empty zeroV Sl.none Sl.none,.bool false]) (by simp [results,Tryz.results103,go_sem];exact ⟨rfl,rfl,rfl,rfl,rfl,rfl,rfl⟩) rfl ⟨rfl,(Ext.refl w).alloc _ _⟩
 have hge:decide ((xs.length:Int)≤i)=true:=by simp;omega
 have hin:decide (i<0)=false:=by simpa using hneg
 clear hi hneg
 go_enter Tryz.func103,Tryz.ntmps103
 go_wp2_with fail
 refine bodyPost_ret (v:=.tuple #[aggE ByteArray.empty zeroV Sl.none Sl.none,.bool false]) (by simp [results,Tryz.results103,go_sem];exact ⟨rfl,rfl,rfl,rfl,rfl,rfl,rfl⟩) rfl ⟨rfl,(Ext.refl w).alloc _ _⟩
def posE (es:List Ent) (k:ByteArray):Nat:=(es.takeWhile fun e=>klt e.1 k).length
theorem posE_le (es:List Ent) (k:ByteArray):posE es k≤es.length:=(List.takeWhile_sublist _).length_le
theorem posE_of {es:List Ent} {k:ByteArray} {p:Nat} (hp:p≤es.length) (hlo:∀ i e,i<p→es[i]? = some e→klt e.1 k=true) (hhi:∀ e,es[p]? = some e→klt e.1 k=false):posE es k=p:=by
 induction es generalizing p with
 | nil=>simp at hp;subst hp;rfl
 | cons a es ih=>
   cases p with
   | zero=>simp [posE,hhi a rfl]
   | succ p=>
     have h0:=hlo 0 a (by omega) rfl
     have:=ih (p:=p) (by simpa using hp) (fun i e hi he=>hlo (i+1) e (by omega) (by simpa using he)) (fun e he=>hhi e (by simpa using he))
     simp only [posE,List.takeWhile_cons,h0,if_true,List.length_cons]
     rw [←this];rfl
theorem sorted_lt {es:List Ent} (h:Sorted es) {i j:Nat} (hij:i<j) {a b:Ent} (ha:es[i]? = some a) (hb:es[j]? = some b):klt a.1 b.1=true:=by
 obtain ⟨hi,rfl⟩:=List.getElem?_eq_some_iff.1 ha
 obtain ⟨hj,rfl⟩:=List.getElem?_eq_some_iff.1 hb
 exact List.pairwise_iff_getElem.1 h i j hi hj hij
theorem place1_any {w W:World} {s:Sl} {xs:List LE} (hs:ES w (Lt w.heap.size) s xs) {k:ByteArray} {b1 b2:Nat} (h1:W.cell? ⟨b1,0,none⟩=some (.slice s.a xs.length s.c)) (h2:W.cell? ⟨b2,0,none⟩=some (.string k)) (hx:Ext w W)
  {i:Nat} {x:LE} (hi:xs[i]? = some x):Calls Tryz.prog 148 #[.int .i64 i,.pointer (some ⟨b1,0,none⟩),.pointer (some ⟨b2,0,none⟩)] W fun e w'=>e=.returned (.bool !(klt x.k k))∧Ext W w':=by
 obtain ⟨b,o,ha,hbo,hlc,hcm,hk0,-⟩:=hs.at hi
 have hk:W.cell? ⟨b,o+i*7,none⟩=some (.string x.k):=(hx.cell hbo).trans hk0
 have hil:i<xs.length:=(List.getElem?_eq_some_iff.1 hi).1
 have hil':(i:Int)<(xs.length:Int):=by omega
 have hfew:=hs.few
 rw [ha] at h1
 clear hs hi hx ha hk0
 go_enter Tryz.func148,Tryz.ntmps148
 go_wp2_with fail
 go_quiet (fail)
 go_wp2
 go_ret
 exact ⟨rfl,(Ext.refl W).drewN _⟩
def PlacePost (es:List Ent) (k:ByteArray) (w:World) (e:Ending) (w':World):Prop:=
 e=.returned (.tuple #[.int .i64 (posE es k),.bool (decide ((es[posE es k]?).map Prod.fst=some k))])∧Ext w w'
theorem place_any {w:World} {s:Sl} {xs:List LE} (hs:ES w (Lt w.heap.size) s xs) (k:ByteArray) (hsort:Sorted (xs.map LE.ent)) :
  Calls Tryz.prog 105 #[.slice s.a xs.length s.c,.string k] w (PlacePost (xs.map LE.ent) k w):=by
 have hfew:=hs.few
 have HS:=Lib.hid hs
 have HO:=Lib.hid hsort
 have hsr:∀ W,Ext w W→W.cell? ⟨w.heap.size,0,none⟩=some (.slice s.a xs.length s.c)→W.cell? ⟨w.heap.size+1,0,none⟩=some (.string k)→
   Calls Tryz.prog 100 #[.int .i64 xs.length,.func (.func 148) #[] #[.pointer (some ⟨w.heap.size,0,none⟩),.pointer (some ⟨w.heap.size+1,0,none⟩)]] W (SearchPost xs.length (fun i=>!(klt ((xs[i]?.map LE.k).getD ByteArray.empty) k)) W):=by
  intro W hW h1 h2
  refine search_any 148 _ _ xs.length _ W (enters_of Tryz.func148 (by kernel_rfl) rfl) (by omega) ?_ ?_
  ·intro i W' hi hW'
   obtain ⟨x,hx⟩:∃ x,xs[i]? = some x:=⟨_,List.getElem?_eq_getElem hi⟩
   rw [hx]
   have hb1:=World.block_lt_of_cell? W _ h1
   have hb2:=World.block_lt_of_cell? W _ h2
   exact place1_any HS.out ((hW'.cell hb1).trans h1) ((hW'.cell hb2).trans h2) (hW.trans hW') hx
  intro i j hij hj hpi
  by_cases hij':i=j
  ·subst hij';exact hpi
  have hlt:=HO.out
  obtain ⟨x,hx⟩:∃ x,xs[i]? = some x:=⟨_,List.getElem?_eq_getElem (by omega)⟩
  obtain ⟨y,hy⟩:∃ y,xs[j]? = some y:=⟨_,List.getElem?_eq_getElem hj⟩
  have hxy:=sorted_lt hlt (i:=i) (j:=j) (by omega) (by rw [List.getElem?_map,hx];rfl) (by rw [List.getElem?_map,hy];rfl)
  rw [hx] at hpi;rw [hy]
  simp only [Option.map_some,Option.getD_some,Bool.not_eq_true'] at hpi ⊢
  cases hyk:klt y.k k
  ·rfl
  have:=klt_trans hxy hyk
  rw [show klt x.ent.1 k=klt x.k k from rfl,hpi] at this;cases this
 clear hs hsort
 go_enter Tryz.func105,Tryz.ntmps105
 go_wp2_with fail
 refine (hsr _ (((Ext.refl w).alloc _ _).alloc _ _) (by simp) (by simp)).mono ?_
 rintro e w1 ⟨p,rfl,hp,hlo,hhi,he1⟩
 have hb1:Blk w1 w.heap.size 22 #[.slice s.a xs.length s.c]:=(he1.heap (by rw [World.size_alloc,World.size_alloc];omega)).trans (heap_alloc2_old w _ _)
 have hb2:Blk w1 (w.heap.size+1) 9 #[.string k]:=(he1.heap (by rw [World.size_alloc,World.size_alloc];omega)).trans (heap_alloc2_new w _ _)
 have q1:=hb1.cell 0
 have q2:=hb2.cell 0
 have hX:Ext w w1:=(((Ext.refl w).alloc _ _).alloc _ _).trans he1
 have hpos:posE (xs.map LE.ent) k=p:=posE_of (by simpa using hp) (fun i e hi he=>by
   rw [List.getElem?_map] at he
   obtain ⟨x,hx,rfl⟩:=Option.map_eq_some_iff.1 he
   have:(!(klt ((xs[i]?.map LE.k).getD ByteArray.empty) k))=false:=hlo i hi
   rw [hx] at this
   show klt x.k k=true
   simpa using this) (fun e he=>by
   rw [List.getElem?_map] at he
   obtain ⟨x,hx,rfl⟩:=Option.map_eq_some_iff.1 he
   have:(!(klt ((xs[p]?.map LE.k).getD ByteArray.empty) k))=true:=hhi p (Nat.le_refl _) (List.getElem?_eq_some_iff.1 hx).1
   rw [hx] at this
   show klt x.k k=false
   simpa using this)
 have HP:=Lib.hid hpos
 clear hlo hhi hpos hsr he1 hb1 hb2
 simp only [List.getElem?_toArray,List.getElem?_cons_zero] at q1 q2
 by_cases hlt:p<xs.length
 ·obtain ⟨x,hx⟩:∃ x,xs[p]? = some x:=⟨_,List.getElem?_eq_getElem hlt⟩
  obtain ⟨b,o,ha,hbo,hlc,hcm,hk0,-⟩:=HS.out.at hx
  have hk:w1.cell? ⟨b,o+p*7,none⟩=some (.string x.k):=(hX.cell hbo).trans hk0
  have hd:decide ((p:Int)<(xs.length:Int))=true:=by simp;omega
  have hlt':(p:Int)<(xs.length:Int):=by omega
  have HX:=Lib.hid hx
  have HE:=Lib.hid hX
  rw [ha] at q1
  clear hk0 hx hX ha
  go_wp2_with fail
  go_quiet (fail)
  go_wp2
  go_ret2
  refine ⟨?_,HE.out.drewN _⟩
  rw [HP.out,List.getElem?_map,HX.out]
  show Ending.returned (.tuple #[.int .i64 p,.bool (x.k.toList == k.toList)])=_
  rw [beq_toList]
  simp [LE.ent]
 have hd:decide ((p:Int)<(xs.length:Int))=false:=by simp;omega
 have HE:=Lib.hid hX
 clear hX
 go_wp2_with fail
 go_quiet (fail)
 go_wp2
 go_ret2
 refine ⟨?_,HE.out.drewN _⟩
 rw [HP.out,List.getElem?_map,List.getElem?_eq_none (by omega)]
 rfl
end Go.Proofs.YtkhdiakpdafcdaaGreatDoor
