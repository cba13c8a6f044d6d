/- What the theorem needs of the texts Held, Held2, Mem, Copy, Rows2, Search, Plain, Node, Copies, Entry, Place, InsertE, Leaf: no condition of its own. -/
import Derived.Deep.RegionHeld3
import Derived.Lib.Hide
import Derived.WalkLawsBesides
import Derived.WalkSpells
import Derived.Deep.DeepCutAuto
import Derived.BigQuiet
import Derived.Test.YtdiecmkpbadgjaaGreatDoorProg
import Derived.Shelf.Abstract
import Derived.Lib.Overlaps
import Derived.Deep.RegionLaw
import Derived.Lib.AppendZerosOnto
set_option linter.unusedVariables false
set_option linter.unusedSimpArgs false
set_option linter.unnecessarySimpa false
set_option maxRecDepth 100000
set_option maxHeartbeats 2000000
namespace Go.Proofs.YtdiecmkpbadgjaaGreatDoor
def Yd(p:Prop):Prop:=p
theorem Yd.o{p:Prop}(h:Yd p):p:=h
theorem Yd.out{p:Prop}(h:Yd p):p:=h
theorem hY{p:Prop}(h:p):Yd p:=h
theorem Yb{p q:Prop}(a:p)(b:q):Yd p/\Yd q:=⟨a,b⟩
theorem Yc{p q r:Prop}(a:p)(b:q)(c:r):Yd p/\Yd q/\Yd r:=⟨a,b,c⟩
theorem Ye{p q r s:Prop}(a:p)(b:q)(c:r)(d:s):Yd p/\Yd q/\Yd r/\Yd s:=⟨a,b,c,d⟩
theorem Yf{p q r s t:Prop}(a:p)(b:q)(c:r)(d:s)(e:t):Yd p/\Yd q/\Yd r/\Yd s/\Yd t:=⟨a,b,c,d,e⟩
theorem Yg{p q r s t u:Prop}(a:p)(b:q)(c:r)(d:s)(e:t)(f:u):Yd p/\Yd q/\Yd r/\Yd s/\Yd t/\Yd u:=⟨a,b,c,d,e,f⟩
theorem Yh{p q r s t u v:Prop}(a:p)(b:q)(c:r)(d:s)(e:t)(f:u)(g:v):Yd p/\Yd q/\Yd r/\Yd s/\Yd t/\Yd u/\Yd v:=⟨a,b,c,d,e,f,g⟩
theorem oM{p:Prop}(h:p:=by omega):p:=h
theorem oN{p:Prop}(h:p:=by decide):p:=h
theorem kM{p:Prop}(h:p:=by kernel_rfl):p:=h
theorem sM{p:Prop}(h:p:=by simp):p:=h
instance zW:Coe World Nat:=⟨λw=>w.heap.size⟩
open Go.Proofs.Tryz
open Go.RowKit
abbrev eu:=@if_pos
abbrev ab:=@Nat.lt_of_lt_of_le
abbrev ac:=@List.getElem?_eq_getElem
abbrev ae:=@List.setIfInBounds_toArray
abbrev ai:=@List.getElem?_eq_some_iff
abbrev aj:=@List.length_append
abbrev ak:=@List.set_cons_zero
abbrev am:=@List.set_cons_succ
abbrev an:=@Nat.le_trans
abbrev ao:=@Nat.le_refl
abbrev ap:=@List.mem_of_getElem?
abbrev aq:=@List.length_map
abbrev ar:=@List.eq_nil_of_length_eq_zero
abbrev au:=@List.getElem?_map
abbrev av:=@List.length_take
abbrev aw:=@List.length_drop
abbrev az:=@Array.getElem?_eq_some_iff
abbrev aA:=@Nat.zero_le
abbrev aB:=@List.length_cons
abbrev aC:=@List.map_append
abbrev aD:=@Nat.zero_add
abbrev aE:=@List.drop_eq_getElem_cons
abbrev aF:=@List.mem_cons_self
abbrev aG:=@List.nil_append
abbrev aH:=@List.mem_cons
abbrev aI:=@List.cons_append
abbrev aJ:=@List.getElem?_eq_none
abbrev aK:=@List.flatMap_append
abbrev aL:=@ByteArray.size_append
abbrev aM:=@List.mem_of_mem_drop
abbrev aN:=@List.append_assoc
abbrev aO:=@List.take_of_length_le
abbrev aP:=@Array.length_toList
abbrev aQ:=@List.getElem?_append_right
abbrev aR:=@List.mem_cons_of_mem
abbrev aS:=@List.mem_append
abbrev aT:=@List.take_add_one
abbrev aU:=@List.take_length
abbrev aV:=@List.take_append_drop
abbrev aW:=@List.append_nil
abbrev aX:=@List.mem_singleton
abbrev aY:=@List.map_cons
abbrev aZ:=@List.flatMap_cons
abbrev ba:=@List.mem_of_mem_take
abbrev bc:=@List.getElem?_drop
abbrev be:=@List.getElem?_take
abbrev bf:=@List.pairwise_cons
abbrev bg:=@List.length_nil
abbrev bj:=@List.take_append_of_le_length
abbrev bm:=@List.size_toArray
abbrev bn:=@List.getElem?_append_left
abbrev bp:=@List.take_succ_cons
abbrev bq:=@Nat.le_of_lt_succ
abbrev br:=@Bool.and_eq_true
abbrev bu:=@List.length_singleton
abbrev bv:=@Bool.eq_false_or_eq_true
abbrev bz:=@List.getElem?_of_mem
abbrev bA:=@List.filter_cons
abbrev bB:=@List.length_range
abbrev bC:=@Array.replicate_succ
abbrev bD:=@Array.replicate_zero
abbrev bE:=@List.not_mem_nil
abbrev bF:=@List.map_nil
abbrev bG:=@List.append_toArray
abbrev bH:=@Nat.add_assoc
abbrev bI:=@List.ext_getElem?
abbrev bJ:=@Array.getElem?_toList
abbrev bK:=@List.push_toArray
abbrev bL:=@List.mem_of_getLast?
abbrev bM:=@Option.map_some
abbrev bN:=@List.getElem?_take_of_lt
abbrev bO:=@List.pairwise_map
abbrev bP:=@Bool.false_eq_true
abbrev bQ:=@List.drop_eq_nil_iff
abbrev bR:=@Nat.mul_le_mul_right
abbrev bS:=@List.drop_eq_nil_of_le
abbrev bT:=@List.toList_toArray
abbrev bU:=@List.length_filter_le
abbrev bV:=@List.length_set
abbrev bW:=@List.mem_map
abbrev bX:=@Nat.add_zero
abbrev bY:=@Nat.min_eq_left
abbrev bZ:=@List.set_eq_take_append_cons_drop
abbrev cd:=@ByteArray.size_extract
abbrev ce:=@List.tail_cons
abbrev cf:=@List.mem_filter
abbrev cg:=@Array.getElem?_eq_getElem
abbrev ci:=@List.mem_or_eq_of_mem_set
abbrev cm:=@List.filter_append
abbrev cp:=@List.map_drop
abbrev cq:=@Nat.zero_mul
abbrev ct:=@Nat.le_succ
abbrev cu:=@Bool.not_eq_true'
abbrev cz:=@List.filter_sublist
abbrev cA:=@List.map_map
abbrev cC:=@Nat.le_of_lt
abbrev cD:=@Nat.sub_self
abbrev cE:=@List.map_take
abbrev cF:=@List.mem_flatMap
abbrev cG:=@List.take_take
abbrev cH:=@Bool.and_eq_false_iff
abbrev cI:=@List.getLast?_eq_none_iff
abbrev cJ:=@List.pairwise_append
abbrev cM:=@Nat.not_succ_le_self
abbrev cN:=@Option.isSome_iff_exists
abbrev cO:=@List.map_eq_nil_iff
abbrev cP:=@List.drop_length
abbrev cQ:=@List.prefix_iff_eq_take
abbrev cR:=@List.getElem?_set_self
abbrev cS:=@List.foldl_cons
abbrev cT:=@List.headD_cons
abbrev cU:=@Array.getElem?_modify
abbrev cV:=@List.Pairwise.sublist
abbrev cW:=@List.drop_length_add_append
abbrev cY:=@List.dropLast_subset
abbrev cZ:=@List.drop_zero
abbrev da:=@List.getElem?_mapIdx
abbrev db:=@List.getElem?_set_ne
abbrev dd:=@Nat.mul_one
abbrev de:=@Nat.sub_mul
abbrev df:=@List.all_eq_true
abbrev dg:=@List.map_toArray
abbrev dh:=@Nat.lt_succ_self
abbrev di:=@List.drop_succ_cons
abbrev dj:=@List.mem_map_of_mem
abbrev dm:=@List.takeWhile_cons
abbrev dn:=@Option.any_some
abbrev dq:=@List.getElem?_cons_zero
abbrev dt:=@List.length_eq_zero_iff
abbrev du:=@Option.bind_eq_some_iff
abbrev dv:=@Array.size_append
abbrev dw:=@List.foldl_append
abbrev dx:=@List.map_set
abbrev dy:=@List.take_zero
abbrev dz:=@Option.map_eq_some_iff
abbrev dA:=@List.cons_lt_cons_iff
abbrev dB:=@List.set_append_right
abbrev dC:=@List.singleton_append
abbrev dD:=@List.sizeOf_lt_of_mem
abbrev dE:=@Array.toList_inj
abbrev dF:=@List.prefix_refl
abbrev dG:=@Nat.le_add_right
abbrev dH:=@Option.getD_some
abbrev dI:=@Nat.lt_irrefl
abbrev dJ:=@Bool.or_eq_false_iff
abbrev dK:=@Nat.min_def
abbrev dL:=@List.sum_append
abbrev dM:=@Array.toList_append
abbrev dN:=@List.replicate_succ
abbrev dO:=@List.take_left
abbrev dP:=@Option.toList_some
abbrev dQ:=@List.drop_sublist
abbrev dR:=@Nat.le_succ_of_le
abbrev dS:=@List.sum_cons
abbrev dU:=@Array.toList_map
abbrev dV:=@Option.bind_some
abbrev dW:=@Nat.lt_or_ge
abbrev dX:=@Nat.mul_comm
abbrev dY:=@Bool.or_eq_true
abbrev dZ:=@List.all_append
abbrev d9:=@Nat.not_lt_zero
abbrev ec:=@Option.any_none
abbrev ed:=@Array.size_map
abbrev ee:=@List.drop_drop
abbrev ef:=@Nat.add_mul
section
variable{P : Program}{ops : Array Oper}{Q : Exit -> Act -> World -> Prop}{md : Region.Mode}{S : World -> Prop}
theorem Qk8{i:Nat}{Z:Oper}{d:Option Tmp}{v:Value}{N:Nat}{I:Array Bool}{a:Act}{w:World}(hi:ops[i]? = some Z)(hd:Z.dst=d)
  (hs:Region.noSelect ops=true) (hf:Region.free md ops I i=true) (hr:(Region.ready md ops I).contains i=true)
  (hQ:∀c a w,Q (.panic c) (a.put d v) w->Q (.panic c) a w) (hw:Region.wanted Z (yielded ops a.tmps)=true) (hS:S w) (hy:∀w,S w->(execOp a.eval Z).run P w=.ok (.value v) w)
  (h:wpAnyH P md ops Q S N (I.setIfInBounds i true) (a.put d v) w):wpAnyH P md ops Q S (N+1) I a w:=by
 subst hd;exact wpAnyH_take hi hs hf hr hQ (.inl ⟨hw,hy⟩) hS h
theorem Qrt{i:Nat}{Z:Oper}{d:Option Tmp}{N:Nat}{I:Array Bool}{a:Act}{w:World}(hi:ops[i]? = some Z)(hd:Z.dst=d)
  (hs:Region.noSelect ops=true) (hf:Region.free md ops I i=true) (hr:(Region.ready md ops I).contains i=true)
  (hQ:∀c a w,Q (.panic c) (a.put d undef) w->Q (.panic c) a w) (hw:Region.wanted Z (yielded ops a.tmps)=false) (hS:S w)
  (h:wpAnyH P md ops Q S N (I.setIfInBounds i true) (a.put d undef) w):wpAnyH P md ops Q S (N+1) I a w:=by
 subst hd;exact wpAnyH_take hi hs hf hr hQ (.inr ⟨hw,rfl⟩) hS h
theorem Qac{i:Nat}{oi:Oper}{N:Nat}{I:Array Bool}{a:Act}{w:World}(hr:Region.ready md ops I=[i])(hi:ops[i]? = some oi)(hw:Region.wanted oi (yielded ops a.tmps)=true)
  (h:∀Z:Act->World->Prop,Shut (∀a w,S w->(S w->wpAnyH P md ops Q S N (I.setIfInBounds i true) a w)->Z a w)->Oper.wp P oi a w Z Q):wpAnyH P md ops Q S (N+1) I a w:=
 wpAnyH_ready hr sM (AllReadyH.cons hi (λZ hK=>by rw[eu hw];exact h Z hK) AllReadyH.nil)
end
section
variable{P : Program}{ops : Array Oper}{Q : Exit -> Act -> World -> Prop}{md : Region.Mode}{S C : World -> Prop}
theorem QfN(i:Nat)(d:Option Tmp){Z:Oper}{N:Nat}{I l':Array Bool}{a a':Act}{w:World}(hS:S w)(h:wpAnyH P md ops Q S N l' a' w)
  (hi:ops[i]? = some Z:=by rfl) (hd:Z.dst=d:=by rfl) (hs:Region.noSelect ops=true:=by kernel_rfl) (hf:Region.free md ops I i=true:=by kernel_rfl) (hr:(Region.ready md ops I).contains i=true:=by kernel_rfl)
  (hQ:∀c a w,Q (.panic c) (a.put d undef) w->Q (.panic c) a w:=by exactλ_ _ _ h=>h) (hw:Region.wanted Z (yielded ops a.tmps)=false:=by rfl)
  (hl:I.setIfInBounds i true=l':=by first |(simp only[List.setIfInBounds_toArray,List.set_cons_zero,List.set_cons_succ];rfl)|rfl)
  (hp:a.put d undef=a':=by first |(go_frame;rfl)|rfl):wpAnyH P md ops Q S (N+1) I a w:=by
 subst hl hp;exact Qrt hi hd hs hf hr hQ hw hS h
theorem Qaf(i:Nat)(d:Option Tmp){v:Value}{Z:Oper}{N:Nat}{I l':Array Bool}{a a':Act}{w:World}(hC:Yd (∀W,S W->C W))(hS:S w)(h:wpAnyH P md ops Q S N l' a' w)
  (hi:ops[i]? = some Z:=by rfl) (hd:Z.dst=d:=by rfl) (hs:Region.noSelect ops=true:=by kernel_rfl) (hf:Region.free md ops I i=true:=by kernel_rfl) (hr:(Region.ready md ops I).contains i=true:=by kernel_rfl)
  (hy:∀w,C w->(execOp a.eval Z).run P w=.ok (.value v) w:=by(intro w a0;go_simp;first|done|with_reducible rfl))
  (hQ:∀c a w,Q (.panic c) (a.put d v) w->Q (.panic c) a w:=by exactλ_ _ _ h=>h) (hw:Region.wanted Z (yielded ops a.tmps)=true:=by rfl)
  (hl:I.setIfInBounds i true=l':=by first |(simp only[List.setIfInBounds_toArray,List.set_cons_zero,List.set_cons_succ];rfl)|rfl)
  (hp:a.put d v=a':=by first |(go_frame;rfl)|rfl):wpAnyH P md ops Q S (N+1) I a w:=by
 subst hl hp;exact Qk8 hi hd hs hf hr hQ hw hS (λw hw=>hy w (hC.out w hw)) h
theorem Qar(i:Nat)(d:Option Tmp){v:Value}{Z:Oper}{N:Nat}{I l':Array Bool}{a a':Act}{w:World}(hS:S w)(h:wpAnyH P md ops Q S N l' a' w)
  (hi:ops[i]? = some Z:=by rfl) (hd:Z.dst=d:=by rfl) (hs:Region.noSelect ops=true:=by kernel_rfl) (hf:Region.free md ops I i=true:=by kernel_rfl) (hr:(Region.ready md ops I).contains i=true:=by kernel_rfl)
  (hy:∀w,S w->(execOp a.eval Z).run P w=.ok (.value v) w:=by(intro w a0;(try dsimp only at a0);go_simp;first|done|with_reducible rfl))
  (hQ:∀c a w,Q (.panic c) (a.put d v) w->Q (.panic c) a w:=by exactλ_ _ _ h=>h) (hw:Region.wanted Z (yielded ops a.tmps)=true:=by rfl)
  (hl:I.setIfInBounds i true=l':=by first |(simp only[List.setIfInBounds_toArray,List.set_cons_zero,List.set_cons_succ];rfl)|rfl)
  (hp:a.put d v=a':=by first |(go_frame;rfl)|rfl):wpAnyH P md ops Q S (N+1) I a w:=by
 subst hl hp;exact Qk8 hi hd hs hf hr hQ hw hS hy h
end
section
variable{P : Program}{ops : Array Oper}{Q : Exit -> Act -> World -> Prop}{md : Region.Mode}{S : World -> Prop}
theorem Qix{i j:Nat}{oi oj:Oper}{N:Nat}{I:Array Bool}{a:Act}{w:World}(hr:Region.ready md ops I=[i,j])(hi:ops[i]? = some oi)(hj:ops[j]? = some oj)(hw:Region.wanted oi (yielded ops a.tmps)=true)(hv:Region.wanted oj (yielded ops a.tmps)=true)
  (h:∀Z:Act->World->Prop,Shut (∀a w,S w->(S w->wpAnyH P md ops Q S N (I.setIfInBounds i true) a w)->Z a w)->Oper.wp P oi a w Z Q)
  (h':∀Z:Act->World->Prop,Shut (∀a w,S w->(S w->wpAnyH P md ops Q S N (I.setIfInBounds j true) a w)->Z a w)->Oper.wp P oj a w Z Q):wpAnyH P md ops Q S (N+1) I a w:=
 wpAnyH_ready hr sM (AllReadyH.cons hi (λZ hK=>by rw[eu hw];exact h Z hK) (AllReadyH.cons hj (λZ hK=>by rw[eu hv];exact h' Z hK) AllReadyH.nil))
end
abbrev eh:=@if_neg
abbrev ew:=@World.size_alloc
abbrev eJ:=@Below.heap_alloc
abbrev eL:=@World.cell?_of_block
abbrev eN:=@World.cell?_setCell_same
abbrev eS:=@Below.heap_setCell
abbrev fb:=@cell_of_row
abbrev fp:=@heap_alloc_new
abbrev ft:=@lt_of_block
structure Ext(w w':World):Prop where
 below:Below w.heap.size w w'
 free:∀b o,w.heap.size<=b->w'.frozen? ⟨b,o,none⟩=false
variable{w:World}
theorem frozen_none{b o:Nat}(h:w<=b):w.frozen? ⟨b,o,none⟩=false:=by
 have:w.heap[b]? = none:=by simp;omega
 simp[World.frozen?,this]
theorem Ext.refl(w:World):Ext w w:=⟨Below.refl _ _,λ_ _ h=>frozen_none h⟩
variable{w':World}
theorem Ext.size(h:Ext w w'):w.heap.size<=w'.heap.size:=h.below.size
theorem Ext.trans{a b c:World}(h:Ext a b)(k:Ext b c):Ext a c:=by
 refine⟨h.below.trans (k.below.mono h.size),λi o hi=>?_⟩;rcases dW i b.heap.size with I|I
 .rw [k.below.frozen (p:=⟨i,o,none⟩) I];exact h.free i o hi
 exact k.free i o I
theorem Ext.drew{a w:World}(h:Ext a w):Ext a w.drew:=⟨h.below.drew,λb o I=>h.free b o I⟩
theorem Ext.drewN{a w:World}(h:Ext a w)(n:Nat):Ext a (w.drewN n):=⟨below_drewN h.below n,λb o I=>h.free b o I⟩
theorem Ext.alloc{a w:World}(h:Ext a w)(c:Array Value)(t:TypeId):Ext a (w.alloc (.cells c t)):=by
 refine h.trans ⟨(Below.refl _ _).alloc (ao _) _,λb o N=>?_⟩;by_cases I:b=w.heap.size
 .subst I;simp
 exact frozen_none (by simp;omega)
theorem Ext.setCell{a w:World}(h:Ext a w){p:Addr}(N:a.heap.size<=p.block)(u:Value):Ext a (w.setCell p u):=
 ⟨h.below.setCell N u,λb o I=>by rw[World.frozen?_setCell];exact h.free b o I⟩
theorem Ext.cell(h:Ext w w'){b o:Nat}(I:b<w):w'.cell? ⟨b,o,none⟩=w.cell? ⟨b,o,none⟩:=h.below.cell (p:=⟨b,o,none⟩) I
theorem Ext.frozen(h:Ext w w'){b o:Nat}(I:b<w):w'.frozen? ⟨b,o,none⟩=w.frozen? ⟨b,o,none⟩:=h.below.frozen (p:=⟨b,o,none⟩) I
theorem Ext.heap(h:Ext w w'){b:Nat}(I:b<w):w'.heap[b]? = w.heap[b]?:=h.below.block b I
theorem Ext.olds(h:Ext w w'):(∀b o,b<w.heap.size->w'.cell? ⟨b,o,none⟩=w.cell? ⟨b,o,none⟩)/\(∀b o,b<w.heap.size->w'.frozen? ⟨b,o,none⟩=w.frozen? ⟨b,o,none⟩):=
 ⟨λ_ _ I=>h.cell I,λ_ _ I=>h.frozen I⟩
def Agree(F:Nat->Prop)(w w':World):Prop:=∀b,F b->w'.heap[b]? = w.heap[b]?
variable{F:Nat->Prop}
theorem Agree.cell(h:Agree F w w'){b o:Nat}(I:F b):w'.cell? ⟨b,o,none⟩=w.cell? ⟨b,o,none⟩:=eL (w:=w) (a:=⟨b,o,none⟩) (h b I)
variable{B:Nat}
theorem Agree.of_below(h:Below B w w')(hF:∀b,F b->b<B):Agree F w w':=λb I=>h.block b (hF b I)
theorem Ext.agree(h:Ext w w')(hF:∀b,F b->b<w.heap.size):Agree F w w':=Agree.of_below h.below hF
theorem Agree.setCell{F:Nat->Prop}(w:World)(p:Addr)(u:Value)(N:¬F p.block):Agree F w (w.setCell p u):=λb I=>eS w p u b (λe=>N (e▸I))
theorem Agree.alloc(w:World)(o:Obj)(hF:∀b,F b->b<w.heap.size):Agree F w (w.alloc o):=λb I=>eJ w o b (hF b I)
theorem Agree.drewN(w:World)(n:Nat):Agree F w (w.drewN n):=λ_ _=>rfl
theorem Agree.trans{a b c:World}(h:Agree F a b)(k:Agree F b c):Agree F a c:=λi hi=>(k i hi).trans (h i hi)
theorem Agree.refl(w:World):Agree F w w:=λ_ _=>rfl
variable{G:Nat->Prop}
theorem Agree.mono{a b:World}(h:Agree F a b)(I:∀i,G i->F i):Agree G a b:=λi hi=>h i (I i hi)
abbrev Lt(n:Nat):Nat->Prop:=λb=>b<n
abbrev In(m n:Nat):Nat->Prop:=λb=>m<=b/\b<n
structure Sl where
 a:Option Addr
 c:Nat
abbrev Sl.none:Sl:=⟨Option.none,0⟩
inductive Qd5 (F:Nat->Prop):Sl->Nat->Nat->Nat->Prop
 |nil (b o:Nat):Qd5 F ⟨Option.none,0⟩ 0 b o
 |some (n c b o:Nat) (h:n<=c) (hc:c<=maxLen) (hb:F b):Qd5 F ⟨Option.some ⟨b,o,Option.none⟩,c⟩ n b o
 |zero (a:Addr) (b o:Nat):Qd5 F ⟨Option.some a,0⟩ 0 b o
theorem Qd5.mono{v:Sl}{n b o:Nat}(h:Qd5 F v n b o)(I:∀i,F i->G i):Qd5 G v n b o:=by
 cases h with
 |nil=>exact .nil _ _
 |some _ c _ _ h hc hb=>exact .some _ c _ _ h hc (I _ hb)
 |zero a=>exact .zero a _ _
theorem Qd5.fits{v:Sl}{n b o:Nat}(h:Qd5 F v n b o)(I:0<n):F b:=by
 cases h with
 |nil=>omega
 |some _ c _ _ h hc hb=>exact hb
 |zero a=>omega
theorem Qd5.eq{v:Sl}{n b o:Nat}(h:Qd5 F v n b o)(I:0<n):v.a=Option.some ⟨b,o,Option.none⟩/\n<=v.c/\v.c<=maxLen:=by
 cases h with
 |nil=>omega
 |some _ c _ _ h hc hb=>exact⟨rfl,h,hc⟩
 |zero a=>omega
inductive Val where
 |mk (kind:Int) (b:Bool) (i:Int) (t:ByteArray) (l:List Val) (ok:List ByteArray) (ov:List Val)
def Val.kind:Val->Int | .mk k _ _ _ _ _ _=>k
def Val.b:Val->Bool | .mk _ b _ _ _ _ _=>b
def Val.i:Val->Int | .mk _ _ i _ _ _ _=>i
def Val.t:Val->ByteArray | .mk _ _ _ t _ _ _=>t
def Val.l:Val->List Val | .mk _ _ _ _ l _ _=>l
def Val.ok:Val->List ByteArray | .mk _ _ _ _ _ ok _=>ok
def Val.ov:Val->List Val | .mk _ _ _ _ _ _ ov=>ov
theorem Val.Qb6(d:Val):0<SizeOf.sizeOf d:=by cases d;simp only[Val.mk.sizeOf_spec];omega
variable{j:Nat}
theorem Val.QtM{k:Int}{b:Bool}{i:Int}{t:ByteArray}{l:List Val}{ok:List ByteArray}{ov:List Val}{d:Val}(h:l[j]? = some d):SizeOf.sizeOf d<SizeOf.sizeOf (Val.mk k b i t l ok ov):=by
 have:=dD (ap h);simp only[Val.mk.sizeOf_spec];omega
theorem Val.QtN{k:Int}{b:Bool}{i:Int}{t:ByteArray}{l:List Val}{ok:List ByteArray}{ov:List Val}{d:Val}(h:ov[j]? = some d):SizeOf.sizeOf d<SizeOf.sizeOf (Val.mk k b i t l ok ov):=by
 have:=dD (ap h);simp only[Val.mk.sizeOf_spec];omega
structure QaV(w:World)(b o:Nat)(d:Val)(sl so:Sl):Prop where
 c0:w.cell? ⟨b,o,none⟩=some (.int .i64 d.kind)
 c1:w.cell? ⟨b,o+1,none⟩=some (.bool d.b)
 c2:w.cell? ⟨b,o+2,none⟩=some (.int .i64 d.i)
 c3:w.cell? ⟨b,o+3,none⟩=some (.string d.t)
 c4:w.cell? ⟨b,o+4,none⟩=some (.slice sl.a d.l.length sl.c)
 c5:w.cell? ⟨b,o+5,none⟩=some (.slice so.a d.ok.length so.c)
variable{sl so:Sl}
theorem QaV.agree{b o:Nat}{d:Val}(h:QaV w b o d sl so)(N:Agree F w w')(I:F b):QaV w' b o d sl so:=
 ⟨(N.cell I).trans h.c0,(N.cell I).trans h.c1,(N.cell I).trans h.c2,(N.cell I).trans h.c3,(N.cell I).trans h.c4,(N.cell I).trans h.c5⟩
inductive RV (w:World) (F:Nat->Prop):Val->Sl->Sl->Prop
 |mk {kind:Int} {b:Bool} {i:Int} {t:ByteArray} {l:List Val} {ok:List ByteArray} {ov:List Val} {sl so:Sl} (bl fl bo fo:Nat) (cl co:Nat->Sl × Sl)
    (hl:Qd5 F sl l.length bl fl) (ho:Qd5 F so ok.length bo fo) (hov:ov.length=ok.length)
    (el:∀j d,l[j]? = some d->QaV w bl (fl+j*6) d (cl j).1 (cl j).2)
    (rl:∀j d,l[j]? = some d->RV w F d (cl j).1 (cl j).2)
    (ek:∀j k,ok[j]? = some k->w.cell? ⟨bo,fo+j*7,none⟩=some (.string k)/\k.size<=maxLen)
    (eo:∀j d,ov[j]? = some d->QaV w bo (fo+j*7+1) d (co j).1 (co j).2)
    (ro:∀j d,ov[j]? = some d->RV w F d (co j).1 (co j).2)
    (bk:(Lit.int .i64 kind).wf=true) (bi:(Lit.int .i64 i).wf=true) (bt:t.size<=maxLen)
    (nl:l.length*88<=140737488355328) (no:ok.length*104<=140737488355328):RV w F (.mk kind b i t l ok ov) sl so
theorem QaW{α:Type}{l:List α}{d:α}(h:l[j]? = some d):0<l.length:=Nat.lt_of_le_of_lt (aA _) (ai.1 h).1
theorem RV.agree{d:Val}(h:RV w F d sl so)(N:Agree F w w'):RV w' F d sl so:=by
 induction h with
 | mk bl fl bo fo cl co hl ho hov el rl ek eo ro bk bi bt nl no ihl iho=>
   exact .mk bl fl bo fo cl co hl ho hov (λj d I=>(el j d I).agree N (hl.fits (QaW I))) (λj d I=>ihl j d I) (λj k I=>⟨(N.cell (ho.fits (QaW I))).trans (ek j k I).1,(ek j k I).2⟩)
    (λj d I=>(eo j d I).agree N (ho.fits (hov▸QaW I))) (λj d I=>iho j d I) bk bi bt nl no
theorem RV.mono{d:Val}(h:RV w F d sl so)(N:∀i,F i->G i):RV w G d sl so:=by
 induction h with
 | mk bl fl bo fo cl co hl ho hov el rl ek eo ro bk bi bt nl no ihl iho=>
   exact .mk bl fl bo fo cl co (hl.mono N) (ho.mono N) hov el (λj d I=>ihl j d I) ek eo (λj d I=>iho j d I) bk bi bt nl no
theorem RV.ext{d:Val}(h:RV w F d sl so)(I:Ext w w')(hF:∀b,F b->b<w.heap.size):RV w' F d sl so:=h.agree (I.agree hF)
structure RVC(w:World)(F:Nat->Prop)(d:Val)(sl so:Sl):Prop where
 rv:RV w F d sl so
 cap:sl.c=d.l.length
theorem RVC.agree{d:Val}(h:RVC w F d sl so)(I:Agree F w w'):RV w' F d sl so:=h.rv.agree I
theorem RVC.mono{d:Val}(h:RVC w F d sl so)(I:∀i,F i->G i):RV w G d sl so:=h.rv.mono I
structure RL(w:World)(F:Nat->Prop)(b o:Nat)(l:List Val)(c:Nat->Sl × Sl):Prop where
 cells:∀j d,l[j]? = some d->QaV w b (o+j*6) d (c j).1 (c j).2
 reads:∀j d,l[j]? = some d->RV w F d (c j).1 (c j).2
structure RO(w:World)(F:Nat->Prop)(b o:Nat)(ok:List ByteArray)(ov:List Val)(c:Nat->Sl × Sl):Prop where
 keys:∀j k,ok[j]? = some k->w.cell? ⟨b,o+j*7,none⟩=some (.string k)/\k.size<=maxLen
 cells:∀j d,ov[j]? = some d->QaV w b (o+j*7+1) d (c j).1 (c j).2
 reads:∀j d,ov[j]? = some d->RV w F d (c j).1 (c j).2
def Qap(wr:World)(B t size n:Nat):Prop:=∃arr,wr.heap[B]? = some (.cells arr t (0,0))/\arr.size=n*size
theorem Qap.agree{B t size n:Nat}(h:Qap w B t size n)(N:Agree F w w')(hF:F B):Qap w' B t size n:=by
 obtain⟨I,h1,h2⟩:=h;exact⟨I,(N B hF).trans h1,h2⟩
theorem Qap.lt{B t size n:Nat}(h:Qap w B t size n):B<w.heap.size:=by obtain⟨I,h1,_⟩:=h;exact ft h1
theorem Qap.frozen{B t size n:Nat}(h:Qap w B t size n)(o:Nat):w.frozen? ⟨B,o,none⟩=false:=by
 obtain⟨I,h1,h2⟩:=h;simp[World.frozen?,h1]
variable{o:Nat}
theorem Qap.cell{B t size n:Nat}(h:Qap w B t size n)(N:o<n*size):∃v,w.cell? ⟨B,o,none⟩=some v:=by
 obtain⟨I,h1,h2⟩:=h;exact⟨I[o]' oM,by rw[fb w B o I t (0,0) h1];simp⟩
theorem Qap.setCell{B t size n:Nat}(h:Qap w B t size n)(p:Addr)(u:Value):Qap (w.setCell p u) B t size n:=by
 obtain⟨I,h1,h2⟩:=h;by_cases N:B=p.block
 ·subst N
  refine⟨if p.spot.isSome then I else I.setIfInBounds p.off u,?_,?_⟩
  .simp [World.setCell,Array.getElem?_modify,h1]
  split<;>simp[h2]
 exact⟨I,(eS w p u B N).trans h1,h2⟩
def Blk(w:World)(g:Nat)(t:TypeId)(cs:Array Value):Prop:=w.heap[g]? = some (.cells cs t (0,0))
section
variable{w w' : World}{g : Nat}{t : TypeId}{cs : Array Value}
theorem Blk.lt(h:Blk w g t cs):g<w:=ft h
theorem Blk.cell(h:Blk w g t cs)(i:Nat):w.cell? ⟨g,i,none⟩=cs[i]?:=fb w g i cs t (0,0) h
theorem Blk.frozen(h:Blk w g t cs)(i:Nat):w.frozen? ⟨g,i,none⟩=false:=by
 unfold Blk at h;simp[World.frozen?,h]
theorem Blk.new(w:World)(t:TypeId)(cs:Array Value):Blk (w.alloc (.cells cs t)) w.heap.size t cs:=fp w _
theorem Blk.QbH(h:Blk w g t cs)(i:Nat)(u:Value):Blk (w.setCell ⟨g,i,none⟩ u) g t (cs.setIfInBounds i u):=by
 unfold Blk at h ⊢;simp[World.setCell,Array.getElem?_modify,h]
theorem Blk.agree(h:Blk w g t cs){F:Nat->Prop}(I:Agree F w w')(hF:F g):Blk w' g t cs:=(I g hF).trans h
theorem Blk.ext(h:Blk w g t cs)(I:Ext w w'):Blk w' g t cs:=(I.heap h.lt).trans h
theorem Blk.alloc(h:Blk w g t cs)(o:Obj):Blk (w.alloc o) g t cs:=(eJ w o g h.lt).trans h
theorem Blk.far(h:Blk w g t cs){p:Addr}(I:g≠p.block)(u:Value):Blk (w.setCell p u) g t cs:=(eS w p u g I).trans h
theorem Blk.c6{v0 N I v3 v4 Z:Value}(h:Blk w g t #[v0,N,I,v3,v4,Z]):w.cell? ⟨g,0,none⟩=some v0/\w.cell? ⟨g,1,none⟩=some N/\w.cell? ⟨g,2,none⟩=some I/\w.cell? ⟨g,3,none⟩=some v3/\w.cell? ⟨g,4,none⟩=some v4/\w.cell? ⟨g,5,none⟩=some Z:=
 ⟨h.cell 0,h.cell 1,h.cell 2,h.cell 3,h.cell 4,h.cell 5⟩
end
theorem Qal(w:World)(I t1 t2:TypeId)(N c1 Z:Array Value):∀W,((w.alloc (.cells N I)).alloc (.cells c1 t1)).alloc (.cells Z t2)=W->
  Ext w W/\W.heap.size=w.heap.size+3/\Blk W w.heap.size I N/\Blk W (w.heap.size+1) t1 c1/\Blk W (w.heap.size+1+1) t2 Z:=by
 rintro W rfl;refine⟨(((Ext.refl w).alloc _ _).alloc _ _).alloc _ _,sM,((Blk.new w I N).alloc _).alloc _,?_,?_⟩
 ·have h:=(Blk.new (w.alloc (.cells N I)) t1 c1).alloc (.cells Z t2)
  rw[ew]at h;exact h
 have h:=Blk.new ((w.alloc (.cells N I)).alloc (.cells c1 t1)) t2 Z;rw[ew,ew]at h;exact h
theorem Qgx(w:World)(I t1 t2 t3:TypeId)(c0 Z N c3:Array Value):∀W,(((w.alloc (.cells c0 I)).alloc (.cells Z t1)).alloc (.cells N t2)).alloc (.cells c3 t3)=W->
  Ext w W/\W.heap.size=w.heap.size+4/\Blk W w.heap.size I c0/\Blk W (w.heap.size+1) t1 Z/\Blk W (w.heap.size+1+1) t2 N/\Blk W (w.heap.size+1+1+1) t3 c3:=by
 rintro W rfl;obtain⟨h1,h2,h3,h4,h5⟩:=Qal w I t1 t2 c0 Z N _ rfl;refine⟨h1.alloc _ _,sM,h3.alloc _,h4.alloc _,h5.alloc _,?_⟩;have h:=Blk.new (((w.alloc (.cells c0 I)).alloc (.cells Z t1)).alloc (.cells N t2)) t3 c3;rw[h2]at h;exact h
theorem Qap.of{B t:Nat}{cs:Array Value}{size n:Nat}(h:Blk w B t cs)(hs:cs.size=n*size):Qap w B t size n:=⟨cs,h,hs⟩
theorem Qap.made{t:TypeId}(cs:Array Value){size n:Nat}(h:cs.size=n*size):Qap (w.alloc (.cells cs t)) w.heap.size t size n:=⟨cs,Blk.new w t cs,h⟩
def QdE(w:World)(b o:Nat)(d:Val)(sl so:Sl):World:=
 (((((w.setCell ⟨b,o,none⟩ (.int .i64 d.kind)).setCell ⟨b,o+1,none⟩ (.bool d.b)).setCell ⟨b,o+2,none⟩ (.int .i64 d.i)).setCell ⟨b,o+3,none⟩ (.string d.t)).setCell ⟨b,o+4,none⟩ (.slice sl.a d.l.length sl.c)).setCell ⟨b,o+5,none⟩ (.slice so.a d.ok.length so.c)
theorem Qbm(w:World)(b o:Nat)(d:Val)(sl so:Sl)(hF:¬F b):Agree F w (QdE w b o d sl so):=
 ((((((Agree.refl w).trans (Agree.setCell _ _ _ hF)).trans (Agree.setCell _ _ _ hF)).trans (Agree.setCell _ _ _ hF)).trans (Agree.setCell _ _ _ hF)).trans (Agree.setCell _ _ _ hF)).trans (Agree.setCell _ _ _ hF)
theorem QdF(w:World)(b o:Nat)(d:Val)(sl so:Sl):(QdE w b o d sl so).heap.size=w.heap.size:=by simp[QdE]
theorem Ext.QdE{a w:World}(h:Ext a w){b:Nat}(I:a<=b)(o:Nat)(d:Val)(sl so:Sl):Ext a (QdE w b o d sl so):=
 (((((h.setCell (p:=⟨b,_,none⟩) I _).setCell (p:=⟨b,_,none⟩) I _).setCell (p:=⟨b,_,none⟩) I _).setCell (p:=⟨b,_,none⟩) I _).setCell (p:=⟨b,_,none⟩) I _).setCell (p:=⟨b,_,none⟩) I _
theorem Qap.QdE{B t size n:Nat}(h:Qap w B t size n)(b o:Nat)(d:Val)(sl so:Sl):Qap (QdE w b o d sl so) B t size n:=
 (((((h.setCell _ _).setCell _ _).setCell _ _).setCell _ _).setCell _ _).setCell _ _
theorem Qae(w:World)(b o o':Nat)(u:Value)(h:o≠o'):(w.setCell ⟨b,o,none⟩ u).cell? ⟨b,o',none⟩=w.cell? ⟨b,o',none⟩:=
 World.cell?_setCell_other w _ _ u (λe=>h (congrArg Addr.off e))
theorem Qbz(w:World)(b o:Nat)(d:Val)(sl so:Sl)(o':Nat)(h:o'<o\/o+6<=o'):(QdE w b o d sl so).cell? ⟨b,o',none⟩=w.cell? ⟨b,o',none⟩:=by
 unfold QdE;rw[Qae _ _ _ _ _ oM,Qae _ _ _ _ _ oM,Qae _ _ _ _ _ oM,Qae _ _ _ _ _ oM,Qae _ _ _ _ _ oM,Qae _ _ _ _ _ oM]
theorem Qap.here{B t size n:Nat}(h:Qap w B t size n)(I:o<n*size)(u:Value):(w.setCell ⟨B,o,none⟩ u).cell? ⟨B,o,none⟩=some u:=by
 obtain⟨v,N⟩:=h.cell I;exact eN w _ u N
theorem Qkg{B t size n:Nat}(h:Qap w B t size n)(d:Val)(sl so:Sl)(I:o+6<=n*size):QaV (QdE w B o d sl so) B o d sl so:=by
 unfold QdE;refine⟨?_,?_,?_,?_,?_,?_⟩
 ·rw [Qae _ _ _ _ _ oM,Qae _ _ _ _ _ oM,Qae _ _ _ _ _ oM,Qae _ _ _ _ _ oM,Qae _ _ _ _ _ oM]
  exact h.here oM _
 ·rw [Qae _ _ _ _ _ oM,Qae _ _ _ _ _ oM,Qae _ _ _ _ _ oM,Qae _ _ _ _ _ oM]
  exact(h.setCell _ _).here oM _
 ·rw [Qae _ _ _ _ _ oM,Qae _ _ _ _ _ oM,Qae _ _ _ _ _ oM]
  exact((h.setCell _ _).setCell _ _).here oM _
 ·rw [Qae _ _ _ _ _ oM,Qae _ _ _ _ _ oM]
  exact(((h.setCell _ _).setCell _ _).setCell _ _).here oM _
 ·rw [Qae _ _ _ _ _ oM]
  exact((((h.setCell _ _).setCell _ _).setCell _ _).setCell _ _).here oM _
 exact(((((h.setCell _ _).setCell _ _).setCell _ _).setCell _ _).setCell _ _).here oM _
theorem QaV.other{b o:Nat}{d:Val}(h:QaV w b o d sl so)(o':Nat)(d':Val)(sl' so':Sl)(hd:o+6<=o'\/o'+6<=o):QaV (QdE w b o' d' sl' so') b o d sl so:=
 ⟨(Qbz _ _ _ _ _ _ _ oM).trans h.c0,(Qbz _ _ _ _ _ _ _ oM).trans h.c1,(Qbz _ _ _ _ _ _ _ oM).trans h.c2,(Qbz _ _ _ _ _ _ _ oM).trans h.c3,(Qbz _ _ _ _ _ _ _ oM).trans h.c4,(Qbz _ _ _ _ _ _ _ oM).trans h.c5⟩
structure Qh0(wr:World)(B t:Nat)(l:List Val)(k:Nat)(f:Nat->Sl × Sl):Prop where
 row:Qap wr B t 6 l.length
 cells:∀j d,j<k->l[j]? = some d->QaV wr B (j*6) d (f j).1 (f j).2
 reads:∀j d,j<k->l[j]? = some d->RV wr (In (B+1) wr.heap.size) d (f j).1 (f j).2
theorem Qh0.start{B t:Nat}{l:List Val}(h:Qap w B t 6 l.length)(f:Nat->Sl × Sl):Qh0 w B t l 0 f:=⟨h,λ_ _ h=>absurd h oM,λ_ _ h=>absurd h oM⟩
theorem Qh0.step{wr W:World}{B t k:Nat}{l:List Val}{f:Nat->Sl × Sl}(h:Qh0 wr B t l k f)(hx:Ext wr W){d:Val}(hd:l[k]? = some d)(hr:RV W (In wr.heap.size W.heap.size) d sl so) :
  Qh0 (QdE W B (k*6) d sl so) B t l (k+1) (λj=>if j=k then(sl,so)else f j):=by
 have hB:=h.row.lt;have hk:k<l.length:=(ai.1 hd).1;have Z:Qap W B t 6 l.length:=h.row.agree (F:=Lt wr) (hx.agree λ_ h=>h) hB;refine⟨Z.QdE _ _ _ _ _,λj d' hj I=>?_,λj d' hj I=>?_⟩
 ·by_cases N:j=k
  ·subst N
   obtain rfl:d=d':=by rw[hd]at I;injection I
   simp only[if_pos];exact Qkg Z _ _ _ oM
  simp only[if_neg N];exact((h.cells j d' oM I).agree (F:=Lt wr) (hx.agree λ_ h=>h) hB).other _ _ _ _ oM
 have a0:Agree (In (B+1) W.heap.size) W (QdE W B (k*6) d sl so):=Qbm _ _ _ _ _ _ oM;rw[QdF];by_cases N:j=k
 ·subst N
  obtain rfl:d=d':=by rw[hd]at I;injection I
  simp only[if_pos];exact(hr.mono (λi hi=>⟨oM,hi.2⟩)).agree a0
 simp only[if_neg N];exact(((h.reads j d' oM I).ext hx (λb hb=>hb.2)).mono (λi hi=>⟨hi.1,by have:=hx.size;omega⟩)).agree a0
variable{n:Nat}
theorem Qh0.done{B t:Nat}{l:List Val}{f:Nat->Sl × Sl}(h:Qh0 w B t l l.length f)(I:n<=B):RL w (In n w.heap.size) B 0 l f:=
 ⟨λj d hd=>by rw[aD];exact h.cells j d (ai.1 hd).1 hd,λj d hd=>(h.reads j d (ai.1 hd).1 hd).mono λi hi=>⟨oM,hi.2⟩⟩
theorem QaV.m{b o:Nat}{d:Val}(h:QaV w b (o+1) d sl so):w.cell? ⟨b,o+1,none⟩=some (.int .i64 d.kind)/\w.cell? ⟨b,o+2,none⟩=some (.bool d.b)/\w.cell? ⟨b,o+3,none⟩=some (.int .i64 d.i)/\w.cell? ⟨b,o+4,none⟩=some (.string d.t)/\
  w.cell? ⟨b,o+5,none⟩=some (.slice sl.a d.l.length sl.c)/\w.cell? ⟨b,o+6,none⟩=some (.slice so.a d.ok.length so.c):=⟨h.c0,h.c1,h.c2,h.c3,h.c4,h.c5⟩
def QeW(w:World)(b o:Nat)(k:ByteArray)(d:Val)(sl so:Sl):World:=QdE (w.setCell ⟨b,o,none⟩ (.string k)) b (o+1) d sl so
theorem QcY(w:World)(b o:Nat)(k:ByteArray)(d:Val)(sl so:Sl)(hF:¬F b):Agree F w (QeW w b o k d sl so):=(Agree.setCell _ _ _ hF).trans (Qbm _ _ _ _ _ _ hF)
theorem QgS(w:World)(b o:Nat)(k:ByteArray)(d:Val)(sl so:Sl):(QeW w b o k d sl so).heap.size=w.heap.size:=by simp[QeW,QdF]
theorem Ext.QeW{a w:World}(h:Ext a w){b:Nat}(I:a<=b)(o:Nat)(k:ByteArray)(d:Val)(sl so:Sl):Ext a (QeW w b o k d sl so):=(h.setCell (p:=⟨b,_,none⟩) I _).QdE I _ _ _ _
theorem Qap.QeW{B t size n:Nat}(h:Qap w B t size n)(b o:Nat)(k:ByteArray)(d:Val)(sl so:Sl):Qap (QeW w b o k d sl so) B t size n:=(h.setCell _ _).QdE _ _ _ _ _
theorem Qby(w:World)(b o:Nat)(k:ByteArray)(d:Val)(sl so:Sl)(o':Nat)(h:o'<o\/o+7<=o'):(QeW w b o k d sl so).cell? ⟨b,o',none⟩=w.cell? ⟨b,o',none⟩:=by
 unfold QeW;rw[Qbz _ _ _ _ _ _ _ oM,Qae _ _ _ _ _ oM]
theorem QgR{B t size n:Nat}(h:Qap w B t size n)(k:ByteArray)(d:Val)(sl so:Sl)(I:o+7<=n*size):(QeW w B o k d sl so).cell? ⟨B,o,none⟩=some (.string k)/\QaV (QeW w B o k d sl so) B (o+1) d sl so:=by
 refine⟨?_,Qkg (h.setCell _ _) _ _ _ oM⟩;unfold QeW;rw[Qbz _ _ _ _ _ _ _ oM];exact h.here oM _
theorem QaV.QuI{b o:Nat}{d:Val}(h:QaV w b o d sl so)(o':Nat)(k:ByteArray)(d':Val)(sl' so':Sl)(hd:o+6<=o'\/o'+7<=o):QaV (QeW w b o' k d' sl' so') b o d sl so:=
 ⟨(Qby _ _ _ _ _ _ _ _ oM).trans h.c0,(Qby _ _ _ _ _ _ _ _ oM).trans h.c1,(Qby _ _ _ _ _ _ _ _ oM).trans h.c2,(Qby _ _ _ _ _ _ _ _ oM).trans h.c3,(Qby _ _ _ _ _ _ _ _ oM).trans h.c4,(Qby _ _ _ _ _ _ _ _ oM).trans h.c5⟩
structure Qe8(wr:World)(B t:Nat)(ok:List ByteArray)(ov:List Val)(k:Nat)(f:Nat->Sl × Sl):Prop where
 row:Qap wr B t 7 ok.length
 keys:∀j x,j<k->ok[j]? = some x->wr.cell? ⟨B,j*7,none⟩=some (.string x)
 cells:∀j d,j<k->ov[j]? = some d->QaV wr B (j*7+1) d (f j).1 (f j).2
 reads:∀j d,j<k->ov[j]? = some d->RV wr (In (B+1) wr.heap.size) d (f j).1 (f j).2
theorem Qe8.start{B t:Nat}{ok:List ByteArray}{ov:List Val}(h:Qap w B t 7 ok.length)(f:Nat->Sl × Sl):Qe8 w B t ok ov 0 f:=⟨h,λ_ _ h=>absurd h oM,λ_ _ h=>absurd h oM,λ_ _ h=>absurd h oM⟩
theorem Qe8.step{wr W:World}{B t k:Nat}{ok:List ByteArray}{ov:List Val}{f:Nat->Sl × Sl}(h:Qe8 wr B t ok ov k f)(hx:Ext wr W){x:ByteArray}(a1:ok[k]? = some x){d:Val}(hd:ov[k]? = some d)(hr:RV W (In wr.heap.size W.heap.size) d sl so) :
  Qe8 (QeW W B (k*7) x d sl so) B t ok ov (k+1) (λj=>if j=k then(sl,so)else f j):=by
 have hB:=h.row.lt;have hk:k<ok.length:=(ai.1 a1).1;have Z:Qap W B t 7 ok.length:=h.row.agree (F:=Lt wr) (hx.agree λ_ h=>h) hB;refine⟨Z.QeW _ _ _ _ _ _,λj x' hj a0=>?_,λj d' hj I=>?_,λj d' hj I=>?_⟩
 ·by_cases N:j=k
  ·subst N
   obtain rfl:x=x':=by rw[a1]at a0;injection a0
   exact(QgR Z _ _ _ _ oM).1
  rw[Qby _ _ _ _ _ _ _ _ oM];exact(hx.cell hB).trans (h.keys j x' oM a0)
 ·by_cases N:j=k
  ·subst N
   obtain rfl:d=d':=by rw[hd]at I;injection I
   simp only[if_pos];exact(QgR Z _ _ _ _ oM).2
  simp only[if_neg N];exact((h.cells j d' oM I).agree (F:=Lt wr) (hx.agree λ_ h=>h) hB).QuI _ _ _ _ _ oM
 have a2:Agree (In (B+1) W.heap.size) W (QeW W B (k*7) x d sl so):=QcY _ _ _ _ _ _ _ oM;rw[QgS];by_cases N:j=k
 ·subst N
  obtain rfl:d=d':=by rw[hd]at I;injection I
  simp only[if_pos];exact(hr.mono (λi hi=>⟨oM,hi.2⟩)).agree a2
 simp only[if_neg N];exact(((h.reads j d' oM I).ext hx (λb hb=>hb.2)).mono (λi hi=>⟨hi.1,by have:=hx.size;omega⟩)).agree a2
theorem Qe8.done{B t:Nat}{ok:List ByteArray}{ov:List Val}{f:Nat->Sl × Sl}(h:Qe8 w B t ok ov ok.length f)(Z:ov.length=ok.length)(N:∀(j:Nat) (x:ByteArray),ok[j]? = some x->x.size<=maxLen)(hn:n<=B):RO w (In n w.heap.size) B 0 ok ov f:=
 ⟨λj x I=>⟨by rw[aD];exact h.keys j x (ai.1 I).1 I,N j x I⟩,
   λj d hd=>by rw[aD];exact h.cells j d (by have:=(ai.1 hd).1;omega) hd,λj d hd=>(h.reads j d (by have:=(ai.1 hd).1;omega) hd).mono λi hi=>⟨oM,hi.2⟩⟩
theorem RL.nil(w:World)(F:Nat->Prop)(b o:Nat)(f:Nat->Sl × Sl):RL w F b o [] f:=⟨λ_ _ h=>by simp at h,λ_ _ h=>by simp at h⟩
theorem RO.nil(w:World)(F:Nat->Prop)(b o:Nat)(f:Nat->Sl × Sl):RO w F b o [] [] f:=⟨λ_ _ h=>by simp at h,λ_ _ h=>by simp at h,λ_ _ h=>by simp at h⟩
theorem QuT{cs:Array Value}(h:cs.size=6):∃a0 a1 I Z a4 N,cs=#[a0,a1,I,Z,a4,N]:=by
 obtain⟨l⟩:=cs
 match l,h with
 |[a0,a1,I,Z,a4,N],_=>exact⟨_,_,_,_,_,_,rfl⟩
theorem RL.agree{b o:Nat}{l:List Val}{f:Nat->Sl × Sl}(h:RL w F b o l f)(I:Agree F w w')(N:0<l.length->F b):RL w' F b o l f:=
 ⟨λj d hd=>(h.cells j d hd).agree I (N (QaW hd)),λj d hd=>(h.reads j d hd).agree I⟩
theorem RL.mono{b o:Nat}{l:List Val}{f:Nat->Sl × Sl}(h:RL w F b o l f)(I:∀i,F i->G i):RL w G b o l f:=⟨h.cells,λj d hd=>(h.reads j d hd).mono I⟩
theorem RO.agree{b o:Nat}{ok:List ByteArray}{ov:List Val}{f:Nat->Sl × Sl}(h:RO w F b o ok ov f)(N:Agree F w w')(Z:ov.length=ok.length)(hb:0<ok.length->F b):RO w' F b o ok ov f:=
 ⟨λj k I=>⟨(N.cell (hb (QaW I))).trans (h.keys j k I).1,(h.keys j k I).2⟩,λj d hd=>(h.cells j d hd).agree N (hb (Z▸QaW hd)),λj d hd=>(h.reads j d hd).agree N⟩
theorem RV.of{I:Int}{b:Bool}{i:Int}{t:ByteArray}{l:List Val}{ok:List ByteArray}{ov:List Val}{bl fl N fo:Nat}{cl co:Nat->Sl × Sl}
  (hl:Qd5 F sl l.length bl fl) (ho:Qd5 F so ok.length N fo) (a0:ov.length=ok.length) (rl:RL w F bl fl l cl) (Z:RO w F N fo ok ov co)
  (bk:(Lit.int .i64 I).wf=true) (bi:(Lit.int .i64 i).wf=true) (bt:t.size<=maxLen) (nl:l.length*88<=140737488355328) (no:ok.length*104<=140737488355328):RV w F (.mk I b i t l ok ov) sl so:=
 .mk bl fl N fo cl co hl ho a0 rl.cells rl.reads Z.keys Z.cells Z.reads bk bi bt nl no
variable{P:Program}
theorem QbG(t e:TypeId)(i:TypeInfo)(z:Value)(ht:P.underlying t=some (.slice e))(hi:P.info? e=some i)(hz:i.zero=some z)
  (kl N:IntKind) (n c:Nat) (a1:n<=c) (I:i.bytes*c<=281474976710656) (a0:c<=9223372036854775807) (w:World) :
  (Instr.makeSlice t (.int kl (n:Int)) (.int N (c:Int))).run P w=.ok (.slice (some ⟨w,0,none⟩) n c) (w.alloc (.cells (madeCells z.cells (c*i.size)) e)):=by
 have hb:(i.bytes:Int)*(c:Int)<=281474976710656:=by
  have h:((i.bytes*c:Nat):Int)<=281474976710656:=oM
  rwa[Int.natCast_mul]at h
 have Z:=run_make (P:=P) w t e i z ht hi hz kl N n c oM oM hb oM;simp only[Int.toNat_natCast]at Z;exact Z
abbrev fI:=@Ext.refl
abbrev fK:=@Blk.new
abbrev fO:=@Agree.setCell
abbrev eB:=@bodyPost_ret
abbrev eC:=@World.size_setCell
abbrev eE:=@info_parts
abbrev fm:=@size_madeCells
theorem Tryz.Qa8:(prog.info? 78).map (λi=>(i.zero,i.size,i.bytes))=some (some (.agg #[.string ByteArray.empty,.int .i64 0,.bool false,.int .i64 0,.string ByteArray.empty,.slice none 0 0,.slice none 0 0]),7,104):=kM
theorem Tryz.Qnj:(prog.info? 124).map (λi=>(i.zero,i.size,i.bytes))=some (some (.agg #[.string ByteArray.empty,.int .i64 0,.bool false,.int .i64 0,.string ByteArray.empty,.slice none 0 0,.slice none 0 0]),7,104):=kM
theorem Tryz.QjM:(prog.info? 34).map (λi=>(i.zero,i.size,i.bytes))=some (some (.agg #[.int .i64 0,.bool false,.int .i64 0,.string ByteArray.empty,.slice none 0 0,.slice none 0 0]),6,88):=kM
abbrev QbV(d:Val)(sl so:Sl):Value:=.agg #[.int .i64 d.kind,.bool d.b,.int .i64 d.i,.string d.t,.slice sl.a d.l.length sl.c,.slice so.a d.ok.length so.c]
def Qeu(d:Val)(w:World)(e:Ending)(w':World):Prop:=
 ∃sl so,e=.returned (QbV d sl so)/\Ext w w'/\RVC w' (In w.heap.size w'.heap.size) d sl so
def QvB(d:Val)(sl so:Sl)(w wc:World):Prop:=
 ∃(sl1:Sl) (B:Nat) (f:Nat->Sl × Sl),Ext w wc/\w.heap.size+3<=wc.heap.size/\Blk wc w.heap.size 34 #[.int .i64 d.kind,.bool d.b,.int .i64 d.i,.string d.t,.slice sl.a d.l.length sl.c,.slice so.a d.ok.length so.c]/\
  (∃cs,Blk wc (w.heap.size+1) 34 cs/\cs.size=6)/\Blk wc (w.heap.size+1+1) 34 #[.int .i64 d.kind,.bool d.b,.int .i64 d.i,.string d.t,.slice sl1.a d.l.length sl1.c,.slice none 0 0]/\
  (Qd5 (In (w.heap.size+3) wc.heap.size) sl1 d.l.length B 0/\sl1.c=d.l.length)/\RL wc (In (w.heap.size+3) wc.heap.size) B 0 d.l f
def Qu6(d:Val)(sl1:Sl)(B:Nat)(f:Nat->Sl × Sl)(w wc:World):Prop:=
 ∃(so1:Sl) (C:Nat) (g:Nat->Sl × Sl),Ext w wc/\w.heap.size+3<=wc.heap.size/\(∃cs,Blk wc (w.heap.size+1) 34 cs/\cs.size=6)/\
  Blk wc (w.heap.size+1+1) 34 #[.int .i64 d.kind,.bool d.b,.int .i64 d.i,.string d.t,.slice sl1.a d.l.length sl1.c,.slice so1.a d.ok.length so1.c]/\
  (Qd5 (In (w.heap.size+3) wc.heap.size) sl1 d.l.length B 0/\sl1.c=d.l.length)/\RL wc (In (w.heap.size+3) wc.heap.size) B 0 d.l f/\
  Qd5 (In (w.heap.size+3) wc.heap.size) so1 d.ok.length C 0/\RO wc (In (w.heap.size+3) wc.heap.size) C 0 d.ok d.ov g
theorem QdS(m:Nat):∀(d:Val),SizeOf.sizeOf d<=m->∀(w:World) (sl so:Sl),RV w (Lt w.heap.size) d sl so->Calls prog 55 #[QbV d sl so] w (Qeu d w):=by
 induction m with
 |zero=>intro d hd;have:=Val.Qb6 d;omega
 |succ m ih=>
 intro d hd w sl so h;have HI:=hY ih;clear ih;obtain⟨i0,hi,i3,k4,i4⟩:=eE Tryz.QjM;obtain⟨j0,hj,i8,k7,i2⟩:=eE Tryz.Qnj;obtain⟨k,b,i,t,l,Z,ov⟩:=d;show Calls _ _ #[.agg #[.int .i64 k,.bool b,.int .i64 i,.string t,.slice sl.a l.length sl.c,.slice so.a Z.length so.c]] _ _;cases h with
 |mk bl fl bo fo cl co hl ho hov el rl ek eo ro bk bi bt nl no=>
 have f5:∀(j:Nat) (d:Val),l[j]? = some d->SizeOf.sizeOf d<=m:=λj d hj=>bq (ab (Val.QtM hj) hd)
 have f8:∀(j:Nat) (d:Val),ov[j]? = some d->SizeOf.sizeOf d<=m:=λj d hj=>bq (ab (Val.QtN hj) hd)
 obtain⟨g3,f6,g5,b8,e2,f4,c8⟩:=Yh f5 f8 el rl ek eo ro;have c2:=hY hov;clear f5 f8 el rl ek eo ro hov hd;go_in;go_upto_if 14 with fail;go_cut [] (λwc=>QvB (.mk k b i t l Z ov) sl so w wc)
 case first=>
  by_cases h0:0<l.length
  ·have e0:=fun W=>QbG (P:=prog) 31 34 i0 _ underlying31 hi i3 .i64 .i64 l.length l.length (ao _) (by rw [i4];omega) oM W
   obtain⟨sa,sc⟩:=sl;obtain⟨rfl,i1,j5⟩:=hl.eq h0;have i9:=hl.fits h0;go_wp2_with fail;clear e0;generalize b0:World.alloc _ _=W0;obtain⟨b7,d4,a6,N,I,g8⟩:=Qgx w _ _ _ _ _ _ _ _ W0 b0;have b6:=Qap.of g8 (fm _ _);clear b0 g8;go_loopw[23] (λq wr=>∃(j:Nat) (f:Nat->Sl × Sl),j<=l.length/\q=.int .i64 j/\Ext w wr/\Qh0 wr (w.heap.size+1+1+1) 34 l j f/\
     Blk wr w.heap.size 34 #[.int .i64 k,.bool b,.int .i64 i,.string t,.slice (some ⟨bl,fl,none⟩) l.length sc,.slice so.a Z.length so.c]/\
     (∃cs,Blk wr (w.heap.size+1) 34 cs/\cs.size=6)/\Blk wr (w.heap.size+1+1) 34 #[.int .i64 k,.bool b,.int .i64 i,.string t,.slice (some ⟨w.heap.size+1+1+1,0,none⟩) l.length l.length,.slice none 0 0])
    (λq _=>l.length -(intOf q).toNat)
   case atStart=>exact⟨0,λ_=>(Sl.none,Sl.none),aA _,rfl,b7,Qh0.start b6 _,a6,⟨_,N,rfl⟩,I⟩
   obtain⟨j,f,hj,rfl,hx,hf,a6,N,I⟩:=hrel;by_cases b9:j<l.length
   ·obtain ⟨d,hd⟩:∃ d,l[j]? = some d:=⟨_,ac b9⟩
    have b5:Agree (Lt w.heap.size) w wr:=hx.agree λ_ h=>h
    obtain⟨v0,v1,v2,v3,v4,v5⟩:=(g5.o j d hd).agree b5 i9;have k5:=I.c6.2.2.2.2.1;have e6:∀W,Ext wr W->Calls prog 55 #[QbV d (cl j).1 (cl j).2] W (Qeu d W):=λW hW=>
     HI.o d (g3.o j d hd) W _ _ (((b8.o j d hd).agree (b5.trans (hW.agree λ_ h=>ab h hx.size))).mono λi hi=>ab hi (an hx.size hW.size))
    obtain⟨HD,HF,HX,d5,d8,e8⟩:=Yg hd hf hx a6 N I;have hb:w.heap.size+1+1+1<wr.heap.size:=hf.row.lt;have j2:w.heap.size+1+1<wr.heap.size:=oM
    have i6:w.heap.size+1<wr.heap.size:=oM
    have i7:¬w.heap.size+1+1+1=wr.heap.size:=oM
    obtain⟨x0,b7⟩:∃v,wr.cell? ⟨w.heap.size+1+1+1,j*6,none⟩=some v:=hf.row.cell oM;obtain⟨x1,j9⟩:∃v,wr.cell? ⟨w.heap.size+1+1+1,j*6+1,none⟩=some v:=hf.row.cell oM;obtain⟨x2,j3⟩:∃v,wr.cell? ⟨w.heap.size+1+1+1,j*6+2,none⟩=some v:=hf.row.cell oM;obtain⟨x3,e4⟩:∃v,wr.cell? ⟨w.heap.size+1+1+1,j*6+3,none⟩=some v:=hf.row.cell oM;obtain⟨x4,j7⟩:∃v,wr.cell? ⟨w.heap.size+1+1+1,j*6+4,none⟩=some v:=hf.row.cell oM;obtain⟨x5,j1⟩:∃v,wr.cell? ⟨w.heap.size+1+1+1,j*6+5,none⟩=some v:=hf.row.cell oM;have j6:=hf.row.frozen;clear hd b5 hf hx a6 N I;go_wp2_with fail;go_region_held3 (λw'=>w'.cell? ⟨w.heap.size+1+1,4,none⟩=some (.slice (some ⟨w.heap.size+1+1+1,0,none⟩) l.length l.length)/\w'.cell? ⟨wr.heap.size,0,none⟩=some (.int .i64 d.kind)/\w'.cell? ⟨wr.heap.size,1,none⟩=some (.bool d.b)/\w'.cell? ⟨wr.heap.size,2,none⟩=some (.int .i64 d.i)/\w'.cell? ⟨wr.heap.size,3,none⟩=some (.string d.t)/\w'.cell? ⟨wr.heap.size,4,none⟩=some (.slice (cl j).1.a d.l.length (cl j).1.c)/\w'.cell? ⟨wr.heap.size,5,none⟩=some (.slice (cl j).2.a d.ok.length (cl j).2.c)) (go_keep)
     ((go_at_call 55;refine(e6 _ (((fI wr).alloc _ _).drew)).mono ?_;rintro e w1 ⟨sl,so,rfl,c3,f0⟩;have g9:=c3.olds))
    have a9:Ext wr w1:=(((fI wr).alloc _ _).drew).trans c3;have c1:=HF.o.step a9 (HD.o) (f0.mono λi hi=>⟨Nat.le_trans sM hi.1,hi.2⟩);have e7:=(d5.o.ext a9).agree (Qbm w1 (w.heap.size+1+1+1) (j*6) d sl so (F:=λb=>b<w.heap.size+1+1+1) oM) oM;have f2:=(e8.o.ext a9).agree (Qbm w1 (w.heap.size+1+1+1) (j*6) d sl so (F:=λb=>b<w.heap.size+1+1+1) oM) oM;have e3:∃cs,Blk (QdE w1 (w.heap.size+1+1+1) (j*6) d sl so) (w.heap.size+1) 34 cs/\cs.size=6:=by
     obtain⟨cs,h1,h2⟩:=d8.o;exact⟨cs,(h1.ext a9).agree (Qbm w1 (w.heap.size+1+1+1) (j*6) d sl so (F:=λb=>b<w.heap.size+1+1+1) oM) oM,h2⟩
    have hX:=(HX.o.trans a9).QdE (b:=w.heap.size+1+1+1) oM (j*6) d sl so;have d7:=hY c1;clear c1;go_wp2_with fail;go_roundw
    case rel=>exact⟨j+1,_,b9,by go_num,hX,d7.o,e7,e3,f2⟩
    simp[intOf];omega
   obtain rfl:j=l.length:=oM
   have hz:=hf.row.lt;have a8:=hf.done (n:=w.heap.size+3) oM;have H:QvB (.mk k b i t l Z ov) ⟨some ⟨bl,fl,none⟩,sc⟩ so w wr:=
    ⟨⟨some ⟨w.heap.size+1+1+1,0,none⟩,l.length⟩,w.heap.size+1+1+1,f,hx,oM,a6,N,I,⟨.some _ _ _ _ (ao _) (by unfold maxLen;omega) ⟨oM,hz⟩,rfl⟩,a8⟩
   clear a8 a6 N I hf hx;go_wp2_with fail;go_meet;exact H
  obtain rfl:l=[]:=ar oM;have hh:decide ((0:Int)<0)=false:=rfl;go_wp2_with fail;generalize f3:World.alloc _ _=W3;obtain⟨e4,k6,a6,N,I⟩:=Qal w _ _ _ _ _ _ W3 f3;clear f3;go_meet;exact⟨Sl.none,0,λ_=>(Sl.none,Sl.none),e4,oM,a6,⟨_,N,rfl⟩,I,⟨.nil _ _,rfl⟩,RL.nil _ _ _ _ _⟩
 obtain⟨a7,B,f,hx,hz,a6,N,I,⟨b3,d3⟩,a8⟩:=hcut;have c4:=hY d3;clear d3;clear hl g3 g5 b8;obtain⟨-,-,-,-,-,p5⟩:=a6.c6;dsimp only[Val.l,Val.ok,Val.ov]at *;go_upto_if 38 with fail;go_cut [] (λwc=>Qu6 (.mk k b i t l Z ov) a7 B f w wc)
 case first=>
  by_cases h0:0<Z.length
  ·have e0:=fun W=>QbG (P:=prog) 32 124 j0 _ underlying32 hj i8 .i64 .i64 Z.length Z.length (ao _) (by rw [i2];omega) oM W
   obtain⟨sa,sc⟩:=so;obtain⟨rfl,i1,j5⟩:=ho.eq h0;have f7:=ho.fits h0;have q5:=I.cell 5;have qf:=I.frozen 5;have k8:w.heap.size<wc.heap.size:=oM
   have k1:=I.lt;simp at q5;go_wp2_with fail;clear e0 q5 qf;generalize b0:World.alloc (World.setCell _ _ _) _=W0;have b7:Ext w W0:=by rw[<-b0];exact(hx.setCell (p:=⟨w.heap.size+1+1,5,none⟩) (show w.heap.size<=w.heap.size+1+1 by omega) _).alloc _ _
   have d4:W0.heap.size=wc.heap.size+1:=by rw[<-b0];simp
   have g0:Blk W0 w.heap.size 34 #[.int .i64 k,.bool b,.int .i64 i,.string t,.slice sl.a l.length sl.c,.slice (some ⟨bo,fo,none⟩) Z.length sc]:=by rw[<-b0];exact(a6.far (show w.heap.size≠w.heap.size+1+1 by omega) _).alloc _
   have g4:∃cs,Blk W0 (w.heap.size+1) 34 cs/\cs.size=6:=by
    obtain⟨cs,h1,h2⟩:=N;rw[<-b0];exact⟨cs,(h1.far (show w.heap.size+1≠w.heap.size+1+1 by omega) _).alloc _,h2⟩
   have g6:Blk W0 (w.heap.size+1+1) 34 #[.int .i64 k,.bool b,.int .i64 i,.string t,.slice a7.a l.length a7.c,.slice (some ⟨wc.heap.size,0,none⟩) Z.length Z.length]:=by
    rw[<-b0];exact(I.QbH 5 _).alloc _
   have b6:Qap W0 wc.heap.size 124 7 Z.length:=by
    have h:=Qap.made (w:=wc.setCell ⟨w.heap.size+1+1,5,none⟩ (.slice (some ⟨wc.heap.size,0,none⟩) Z.length Z.length)) (t:=124) (madeCells #[.string ByteArray.empty,.int .i64 0,.bool false,.int .i64 0,.string ByteArray.empty,.slice none 0 0,.slice none 0 0] (Z.length*7)) (fm _ _);rw[eC]at h;rw[<-b0];exact h
   have d0:Agree (In (w.heap.size+3) wc.heap.size) wc W0:=by
    rw[<-b0];exact(fO wc ⟨w.heap.size+1+1,5,none⟩ _ (show ¬(w.heap.size+3<=w.heap.size+1+1/\w.heap.size+1+1<wc.heap.size)by omega)).trans (Agree.alloc _ _ (λb hb=>by rw[eC];exact hb.2))
   have c9:=a8.agree d0 b3.fits;clear a8 a6 N I hx d0 b0;go_loopw[47] (λq wr=>∃(j:Nat) (g:Nat->Sl × Sl),j<=Z.length/\q=.int .i64 j/\Ext w wr/\Qe8 wr wc.heap.size 124 Z ov j g/\
     Blk wr w.heap.size 34 #[.int .i64 k,.bool b,.int .i64 i,.string t,.slice sl.a l.length sl.c,.slice (some ⟨bo,fo,none⟩) Z.length sc]/\
     (∃cs,Blk wr (w.heap.size+1) 34 cs/\cs.size=6)/\Blk wr (w.heap.size+1+1) 34 #[.int .i64 k,.bool b,.int .i64 i,.string t,.slice a7.a l.length a7.c,.slice (some ⟨wc.heap.size,0,none⟩) Z.length Z.length]/\
     RL wr (In (w.heap.size+3) wc.heap.size) B 0 l f)
    (λq _=>Z.length -(intOf q).toNat)
   case atStart=>exact⟨0,λ_=>(Sl.none,Sl.none),aA _,rfl,b7,Qe8.start b6 _,g0,g4,g6,c9⟩
   clear b7 d4 g0 g4 g6 b6 c9 W0;obtain⟨j,g,hj,rfl,hx,hf,a6,N,I,a8⟩:=hrel;have j8:wc.heap.size<wr.heap.size:=hf.row.lt;by_cases b9:j<Z.length
   ·obtain ⟨x,f1⟩:∃ x,Z[j]? = some x:=⟨_,ac b9⟩
    obtain⟨d,hd⟩:∃d,ov[j]? = some d:=⟨_,ac (by rw[c2.o];exact b9)⟩;have b5:Agree (Lt w.heap.size) w wr:=hx.agree λ_ h=>h
    obtain⟨v0,v1,v2,v3,v4,v5⟩:=((f4.o j d hd).agree b5 f7).m;have vk:=(b5.cell f7).trans (e2.o j x f1).1;have k2:=I.c6.2.2.2.2.2;have e6:∀W,Ext wr W->Calls prog 55 #[QbV d (co j).1 (co j).2] W (Qeu d W):=λW hW=>
     HI.o d (f6.o j d hd) W _ _ (((c8.o j d hd).agree (b5.trans (hW.agree λ_ h=>ab h hx.size))).mono λi hi=>ab hi (an hx.size hW.size))
    obtain⟨HD,HK,HF,HX,d5,d8,e8⟩:=Yh hd f1 hf hx a6 N I;obtain⟨b8,c0⟩:=Yb a8 b3;have j2:w.heap.size+1+1<wr.heap.size:=oM
    have i6:w.heap.size+1<wr.heap.size:=oM
    have i7:¬wc.heap.size=wr.heap.size:=oM
    have k0:¬wc.heap.size=w.heap.size+1+1:=oM
    obtain⟨x0,b7⟩:∃v,wr.cell? ⟨wc.heap.size,j*7,none⟩=some v:=hf.row.cell oM;obtain⟨x1,j9⟩:∃v,wr.cell? ⟨wc.heap.size,j*7+1,none⟩=some v:=hf.row.cell oM;obtain⟨x2,j3⟩:∃v,wr.cell? ⟨wc.heap.size,j*7+2,none⟩=some v:=hf.row.cell oM;obtain⟨x3,e4⟩:∃v,wr.cell? ⟨wc.heap.size,j*7+3,none⟩=some v:=hf.row.cell oM;obtain⟨x4,j7⟩:∃v,wr.cell? ⟨wc.heap.size,j*7+4,none⟩=some v:=hf.row.cell oM;obtain⟨x5,j1⟩:∃v,wr.cell? ⟨wc.heap.size,j*7+5,none⟩=some v:=hf.row.cell oM;obtain⟨x6,k3⟩:∃v,wr.cell? ⟨wc.heap.size,j*7+6,none⟩=some v:=hf.row.cell oM;have j6:=hf.row.frozen;clear hd f1 b5 hf hx a6 N I a8 b3;go_wp2_with fail;go_region_held3 (λw'=>w'.cell? ⟨w.heap.size+1+1,5,none⟩=some (.slice (some ⟨wc.heap.size,0,none⟩) Z.length Z.length)/\w'.cell? ⟨wr.heap.size,0,none⟩=some (.string x)/\w'.cell? ⟨wr.heap.size,1,none⟩=some (.int .i64 d.kind)/\w'.cell? ⟨wr.heap.size,2,none⟩=some (.bool d.b)/\w'.cell? ⟨wr.heap.size,3,none⟩=some (.int .i64 d.i)/\w'.cell? ⟨wr.heap.size,4,none⟩=some (.string d.t)/\w'.cell? ⟨wr.heap.size,5,none⟩=some (.slice (co j).1.a d.l.length (co j).1.c)/\w'.cell? ⟨wr.heap.size,6,none⟩=some (.slice (co j).2.a d.ok.length (co j).2.c)) (go_keep)
     ((go_at_call 55;refine(e6 _ (((fI wr).alloc _ _).drew)).mono ?_;rintro e w1 ⟨e1,d6,rfl,c3,f0⟩;have g9:=c3.olds))
    have a9:Ext wr w1:=(((fI wr).alloc _ _).drew).trans c3;have hP:∀F:Nat->Prop,¬F wc.heap.size->Agree F w1 (QeW w1 wc.heap.size (j*7) x d e1 d6):=λF hF=>QcY _ _ _ _ _ _ _ hF
    have c1:=HF.o.step a9 HK.o HD.o (f0.mono λi hi=>⟨Nat.le_trans sM hi.1,hi.2⟩);have e7:=(d5.o.ext a9).agree (hP (λb=>b<wc.heap.size) oM) oM;have f2:=(e8.o.ext a9).agree (hP (λb=>b<wc.heap.size) oM) oM;have e3:∃cs,Blk (QeW w1 wc.heap.size (j*7) x d e1 d6) (w.heap.size+1) 34 cs/\cs.size=6:=by
     obtain⟨cs,h1,h2⟩:=d8.o;exact⟨cs,(h1.ext a9).agree (hP (λb=>b<wc.heap.size) oM) oM,h2⟩
    have hX:=(HX.o.trans a9).QeW (b:=wc.heap.size) oM (j*7) x d e1 d6;have hR:=(b8.o.agree (a9.agree (F:=In (w.heap.size+3) wc.heap.size) oM) c0.o.fits).agree (hP (In (w.heap.size+3) wc.heap.size) oM) c0.o.fits;obtain⟨d7,HR⟩:=Yb c1 hR;clear c1 hP hR;go_wp2_with fail;go_roundw
    case rel=>exact⟨j+1,_,b9,by go_num,hX,d7.o,e7,e3,f2,HR.o⟩
    simp[intOf];omega
   obtain rfl:j=Z.length:=oM
   have c7:=hf.done c2.o (λj x hx=>(e2.o j x hx).2) (n:=w.heap.size+3) hz;have H:Qu6 (.mk k b i t l Z ov) a7 B f w wr:=
    ⟨⟨some ⟨wc.heap.size,0,none⟩,Z.length⟩,wc.heap.size,g,hx,oM,N,I,⟨b3.mono (fun i hi=>⟨hi.1,by have:=hi.2;omega⟩),c4.o⟩,a8.mono (fun i hi=>⟨hi.1,by have:=hi.2;omega⟩),
      .some _ _ _ _ (ao _) (by unfold maxLen;omega) ⟨hz,j8⟩,c7⟩
   clear c7 a8 a6 N I hf hx;go_wp2_with fail;go_meet;exact H
  obtain rfl:Z=[]:=ar oM;have hh:decide ((0:Int)<0)=false:=rfl;obtain rfl:ov=[]:=ar c2.o;have H:Qu6 (.mk k b i t l [] []) a7 B f w wc:=
   ⟨Sl.none,0,λ_=>(Sl.none,Sl.none),hx,oM,N,I,⟨b3,c4.o⟩,a8,.nil _ _,RO.nil _ _ _ _ _⟩
  clear a8 a6 N I hx b3;go_wp2_with fail;go_meet;exact H
 clear hx hz a6 N I b3 a8 ho f6 e2 f4 c8 HI p5;rename_i wd;obtain⟨b4,C,g,hx,hz,⟨cs,N,j4⟩,I,⟨b3,-⟩,a8,f9,c7⟩:=hcut;dsimp only[Val.kind,Val.b,Val.i,Val.t,Val.l,Val.ok,Val.ov]at *;obtain⟨p0,p1,p2,p3,p4,p5⟩:=I.c6;obtain⟨a0,a1,a2,a3,a4,a5,rfl⟩:=QuT j4;obtain⟨q0,q1,q2,q3,q4,q5⟩:=N.c6;have qf:=N.frozen;obtain⟨HX,H1,b8,c0,c8,g7⟩:=Yg hx N a8 b3 c7 f9;clear hx N I a8 b3 c7 f9;go_wp2_with fail;have hF:∀F:Nat->Prop,¬F (w.heap.size+1)->Agree F wc (QdE wc (w.heap.size+1) 0 (.mk k b i t l Z ov) a7 b4):=λF h=>Qbm _ _ _ _ _ _ h
 refine eB (v:=.agg #[.int .i64 k,.bool b,.int .i64 i,.string t,.slice a7.a l.length a7.c,.slice b4.a Z.length b4.c]) (by simp[results,results55,go_sem,q0,q1,q2,q3,q4,q5]) rfl ?_;refine⟨a7,b4,rfl,HX.o.QdE (b:=w.heap.size+1) oM 0 (.mk k b i t l Z ov) a7 b4,?_,c4.o⟩;have i5:(QdE wc (w.heap.size+1) 0 (.mk k b i t l Z ov) a7 b4).heap.size=wc.heap.size:=QdF _ _ _ _ _ _;have r1:=b8.o.agree (hF (In (w.heap.size+3) wc.heap.size) oM) c0.o.fits;have r2:=c8.o.agree (hF (In (w.heap.size+3) wc.heap.size) oM) c2.o g7.o.fits;have r3:RV (QdE wc (w.heap.size+1) 0 (.mk k b i t l Z ov) a7 b4) (In (w.heap.size+3) wc.heap.size) (.mk k b i t l Z ov) a7 b4:=RV.of c0.o g7.o c2.o r1 r2 bk bi bt nl no;show RV (QdE wc (w.heap.size+1) 0 (.mk k b i t l Z ov) a7 b4) (In w.heap.size (QdE wc (w.heap.size+1) 0 (.mk k b i t l Z ov) a7 b4).heap.size) _ _ _;rw[i5];exact r3.mono λi hi=>⟨oM,hi.2⟩
abbrev eG:=@World.ownsRow_nil
abbrev eK:=@run_underlying
abbrev eO:=@Sem.run_bind
abbrev eR:=@Result.andThen_ok
abbrev eU:=@setRow_heap
abbrev eZ:=@Sem.run_pure
abbrev fq:=@if_true
abbrev fA:=@wpList_plain
abbrev fB:=@setRow_other
abbrev fD:=@size_zeroCells
def Rd(w:World)(F:Nat->Prop)(size:Nat)(s:Sl)(n:Nat)(cs:List Value):Prop:=
 ∃b o,Qd5 F s n b o/\cs.length=n*size/\∀j u,cs[j]? = some u->w.cell? ⟨b,o+j,none⟩=some u
variable{s:Sl}{cs:List Value}
theorem Rd.agree{size:Nat}(h:Rd w F size s n cs)(Z:Agree F w w'):Rd w' F size s n cs:=by
 obtain⟨b,o,h1,h2,h3⟩:=h;refine⟨b,o,h1,h2,λj u N=>(Z.cell (h1.fits ?_)).trans (h3 j u N)⟩;rcases Nat.eq_zero_or_pos n with I|I
 .subst I;have:=(ai.1 N).1;omega
 exact I
theorem Rd.mono{size:Nat}(h:Rd w F size s n cs)(I:∀i,F i->G i):Rd w G size s n cs:=by
 obtain⟨b,o,h1,h2,N⟩:=h;exact⟨b,o,h1.mono I,h2,N⟩
theorem Rd.nil(w:World)(F:Nat->Prop)(size:Nat):Rd w F size Sl.none 0 []:=⟨0,0,.nil _ _,sM,λj u h=>by simp at h⟩
theorem Qbc(b o j:Nat):(⟨b,o,none⟩:Addr).add j=⟨b,o+j,none⟩:=by unfold Addr.add;split<;>simp_all
theorem Rd.QaI{w:World}{base e size n c:Nat}{a:Option Addr}{cs:List Value}(h:w.ownsRow base e size (.slice a n c) n cs):Rd w (In base w.heap.size) size ⟨a,c⟩ n cs:=by
 rcases h.2 with⟨I,hn⟩ |⟨g,a0,a1,I,hg,hh,Z,N,a2,ht⟩
 ·simp only [Value.slice.injEq] at I
  obtain⟨rfl,rfl,rfl⟩:=I;have:cs=[]:=ar (by simpa using h.1);subst this;exact Rd.nil _ _ _
 simp only[Value.slice.injEq]at I;obtain⟨rfl,-,rfl⟩:=I;refine⟨g,0,.some _ _ _ _ Z N ⟨hg,ft hh⟩,h.1,λj u hj=>?_⟩;have:=h.cells (g:=g) rfl j u hj;rw[aD];rw[Addr.add]at this;split at this
 .rename_i h0;subst h0;exact this
 simpa using this
structure Wr(w w':World)(row:Option Nat):Prop where
 grown:w.grownBy w' row
 fz:∀b o,w'.frozen? ⟨b,o,none⟩=w.frozen? ⟨b,o,none⟩
theorem Wr.refl(w:World)(row:Option Nat):Wr w w row:=⟨⟨rfl,rfl,rfl,ao _,λ_ _ _=>rfl⟩,λ_ _=>rfl⟩
theorem Wr.below{row:Option Nat}(h:Wr w w' row)(N:B<=w.heap.size)(I:∀k,row=some k->B<=k):Below B w w':=(Below.refl B w).grown h.grown N I
theorem Ext.wr{a w w':World}{row:Option Nat}(h:Ext a w)(k:Wr w w' row)(I:∀i,row=some i->a.heap.size<=i):Ext a w':=
 ⟨h.below.trans (k.below h.size I),λb o N=>(k.fz b o).trans (h.free b o N)⟩
theorem Wr.agree{row:Option Nat}(h:Wr w w' row)(hF:∀i,F i->i<w.heap.size)(N:∀k,row=some k->¬F k):Agree F w w':=
 λb I=>h.grown.block b (hF b I) (λe=>N b e.symm I)
theorem Ql1(w:World)(c:Array Value)(t:TypeId)(b o:Nat):(w.alloc (.cells c t)).frozen? ⟨b,o,none⟩=w.frozen? ⟨b,o,none⟩:=by
 by_cases h:b=w.heap.size
 .subst h;rw[frozen_none (ao _)];simp
 exact World.frozen?_alloc_old w _ _ h
theorem QjF(w:World)(g:Nat)(cs:Array Value)(b o:Nat):(w.setRow g cs).frozen? ⟨b,o,none⟩=w.frozen? ⟨b,o,none⟩:=by
 by_cases h:g=b
 ·subst h
  simp only[World.frozen?,World.setRow,Array.getElem?_modify,if_true];cases I:w.heap[g]? with
  |none=>rfl
  |some ob=>cases ob<;>rfl
 simp only[World.frozen?,World.setRow,Array.getElem?_modify,if_neg h]
def Sl.row(s:Sl):Option Nat:=s.a.map Addr.block
theorem QhL{α:Type}(C xs ys:List α)(p q z a b c d t:Nat)(Z:xs=C.take q)(N:ys.length=z)(a0:p<=q)(hq:q+z<=C.length)(ha:a=p+z)(hb:b=a+(xs.drop p).length)(hc:c=p)(hd:d=p+ys.length)(ht:t=q+z) :
  ((C.take a++xs.drop p++C.drop b).take c++ys++(C.take a++xs.drop p++C.drop b).drop d).take t=xs.take p++ys++xs.drop p:=by
 subst ha hb hc hd ht;have I:xs.length=q:=by rw[Z,av];omega
 have h1:(C.take (c+z)).length=c+z:=by rw[av];omega
 have e1:(C.take (c+z)++xs.drop c++C.drop (c+z+(xs.drop c).length)).take c=xs.take c:=by
  rw[aN,bj oM,cG,Z,cG];congr 1;omega
 have e2:(C.take (c+z)++xs.drop c++C.drop (c+z+(xs.drop c).length)).drop (c+ys.length)=xs.drop c++C.drop (c+z+(xs.drop c).length):=by
  rw[aN,N,List.drop_append,h1,cD,cZ,bS oM,aG]
 rw[e1,e2,<-aN,bj (by simp[I,N];omega),aO (by simp[I,N];omega)]
theorem QjK{α:Type}(C xs ys:List α)(p q z a b c d t:Nat)(hp:C.take p=xs.take p)(I:xs.length=q)(N:ys.length=z)(a0:p<=q)(hq:q+z<=C.length)(hc:c=p+z)(hd:d=c+(xs.drop p).length)(ha:a=p)(hb:b=p+ys.length)(Z:t=q+z) :
  ((C.take a++ys++C.drop b).take c++xs.drop p++(C.take a++ys++C.drop b).drop d).take t=xs.take p++ys++xs.drop p:=by
 subst ha hb hc hd Z;have h1:(C.take a).length=a:=by rw[av];omega
 have e1:(C.take a++ys++C.drop (a+ys.length)).take (a+z)=xs.take a++ys:=by
  rw[bj (by simp only[List.length_append,h1,N];omega),aO (by simp only[List.length_append,h1,N];omega),hp]
 rw[e1,bj (by simp[I,N];omega),aO (by simp[I,N];omega)]
section
variable{P : Program}(w : World)
theorem QfG(base:Nat)(t ty e:TypeId)(i:TypeInfo)(z:Value)(size a8:Nat)(ht:P.underlying t=some (.slice e))(hi:P.info? e=some i)(hz:i.zero=some z)
  (b3:i.size=size) (c9:i.bytes=a8) (c4:z.cells.size=size) (_hsz:0<size)
  (s:Sl) (n:Nat) (xs:List Value) (N:w.ownsRow base e size (.slice s.a n s.c) n xs)
  (F:Nat->Prop) (sx:Sl) (m:Nat) (I:List Value) (b8:Rd w F size sx m I) (h1:∀u∈I,u.oneCell'=true)
  (b9:n+m<=maxLen) (a3:(n+m)*a8<=140737488355328) (b5:base<=w.heap.size) :
  ∃(s':Sl) (w':World),(Builtin.append_ #[t,t] ty #[.slice s.a n s.c,.slice sx.a m sx.c]).run P w=.ok (.slice s'.a (n+m) s'.c) w'/\
   w'.ownsRow base e size (.slice s'.a (n+m) s'.c) (n+m) (xs++I)/\Wr w w' s.row/\(s'.a=s.a\/s'.a=some ⟨w,0,none⟩/\Wr w w' none):=by
 subst b3;subst c9;have c3:n+m<=9223372036854775807:=by simp only[maxLen]at b9;omega
 obtain⟨b,o,hs,hl,hc⟩:=b8;have a4:(xs++I).length=(n+m)*i.size:=by rw[aj,N.1,hl,ef]
 have a7:∀(a5:Nat),0<n+m->
   (w.drew.alloc (.cells (xs.toArray++I.toArray++Builtin.zeroCells z.cells (grownCap w (n+m) a5 e -(n+m))) e)).ownsRow base e i.size
     (.slice (some ⟨w,0,none⟩) (n+m) (grownCap w (n+m) a5 e)) (n+m) (xs++I):=by
  intro a5 _;have c8:=grownCap_ge w (n+m) a5 e;have b7:grownCap w (n+m) a5 e<=maxLen:=grownCap_le_maxLen w (n+m) a5 e b9;refine⟨a4,.inr ⟨w,_,_,rfl,b5,fp w.drew _,c8,b7,?_,?_⟩⟩
  ·simp only [Array.size_append,List.size_toArray,size_zeroCells,c4,N.1,hl,←Nat.add_mul]
   congr 1;omega
  simp only[Array.toList_append,List.append_assoc];rw[<-aN,<-a4];exact dO
 have wr:∀(c:Array Value) (row:Option Nat),Wr w (w.drew.alloc (.cells c e)) row:=λc row=>
  ⟨⟨rfl,rfl,rfl,sM,λk hk _=>eJ w.drew _ k hk⟩,λb o=>Ql1 w.drew c e b o⟩
 cases hs with
 | nil=>
   have hn:I=[]:=ar (by simpa using hl);subst hn;refine⟨s,w,?_,by simpa using N,Wr.refl _ _,.inl rfl⟩;rcases N.2 with⟨hv,b6⟩ |⟨g,a0,a6,hv,_,_,a9,_⟩
   ·simp only [Value.slice.injEq] at hv
    obtain⟨ha,rfl,Z⟩:=hv;rw[ha,Z];simp[Builtin.append_,run_underlying ht,sizeOf,typeInfo,hi,Builtin.lenOf,Builtin.firstCells]
   simp only[Value.slice.injEq]at hv;obtain⟨ha,-,Z⟩:=hv;rw[ha,Z];simp[Builtin.append_,run_underlying ht,sizeOf,typeInfo,hi,Builtin.lenOf,Builtin.firstCells,a9,storeCells]
 | zero ad=>
   have hn:I=[]:=ar (by simpa using hl);subst hn;refine⟨s,w,?_,by simpa using N,Wr.refl _ _,.inl rfl⟩;rcases N.2 with⟨hv,b6⟩ |⟨g,a0,a6,hv,_,_,a9,_⟩
   ·simp only [Value.slice.injEq] at hv
    obtain⟨ha,rfl,Z⟩:=hv;rw[ha,Z];simp[Builtin.append_,run_underlying ht,sizeOf,typeInfo,hi,Builtin.lenOf,Builtin.firstCells,loadCells,loadCellsFrom]
   simp only[Value.slice.injEq]at hv;obtain⟨ha,-,Z⟩:=hv;rw[ha,Z];simp[Builtin.append_,run_underlying ht,sizeOf,typeInfo,hi,Builtin.lenOf,Builtin.firstCells,a9,loadCells,loadCellsFrom,storeCells]
 | some _ c _ _ hmc b7 hb=>
   have a1:∀j u,I[j]? = some u->w.cell? ((⟨b,o,none⟩:Addr).add j)=some u:=λj u hj=>by rw[Qbc];exact hc j u hj
   rcases N.2 with⟨hv,b6⟩ |⟨g,a0,a6,hv,c7,hg,a9,c1,c6,b0⟩
   ·simp only [Value.slice.injEq] at hv
    obtain⟨ha,rfl,Z⟩:=hv;have hx:xs=[]:=ar (by simpa using N.1);subst hx;by_cases hm:m=0
    ·subst hm
     have hn:I=[]:=ar (by simpa using hl);subst hn;refine⟨Sl.none,w,?_,eG w base e i.size,Wr.refl _ _,.inl ha.symm⟩;rw[ha,Z];simp[Builtin.append_,run_underlying ht,sizeOf,typeInfo,hi,Builtin.lenOf,Builtin.firstCells,loadCells,loadCellsFrom]
    have hr:=run_append_nil (P:=P) w t ty e i z ht hi hz ⟨b,o,none⟩ m c I hl a1 oM oM (by have hb:=a3;simp only[Nat.zero_add]at hb;omega);have c0:=a7 0 oM;simp only[Nat.zero_add,List.nil_append,Array.empty_append]at c0 ⊢;refine⟨⟨some ⟨w,0,none⟩,grownCap w m 0 e⟩,_,?_,c0,wr _ _,.inr ⟨rfl,wr _ _⟩⟩;rw[ha,Z];exact hr
   simp only[Value.slice.injEq]at hv;obtain⟨ha,-,Z⟩:=hv;by_cases a2:n+m<=a0
   ·have c2:n*i.size+I.length≤a6.size:=by rw [hl,c6,←ef];exact bR _ a2
    have hr:=run_append_room (P:=P) w t ty e i ht hi g n a0 a6 hg ⟨b,o,none⟩ m c I hl a1 h1 a2 c2;refine⟨⟨some ⟨g,0,none⟩,a0⟩,_,by rw[ha,Z];exact hr,⟨a4,.inr ⟨g,a0,_,rfl,c7,eU w g a6 _ e _ hg,a2,c1,?_,?_⟩⟩,
     ⟨⟨rfl,rfl,rfl,sM,λk _ hk=>fB w g k _ (λe=>hk (by simp[Sl.row,ha,e]))⟩,λb o=>QjF _ _ _ _ _⟩,.inl ha.symm⟩
    ·simp only [List.size_toArray,List.length_append,List.length_take,List.length_drop,Array.length_toList]
     omega
    rw[b0,<-a4];exact dO
   rw[ha,Z]at N;have b4:∀j u,xs[j]? = some u->w.cell? ((⟨g,0,none⟩:Addr).add j)=some u:=N.cells (g:=g) rfl;have hr:=run_append_grow (P:=P) w t ty e i z ht hi hz ⟨g,0,none⟩ n a0 xs N.1 b4 ⟨b,o,none⟩ m c I hl a1 oM oM (growslice_fits oM a3);refine⟨⟨some ⟨w,0,none⟩,grownCap w (n+m) a0 e⟩,_,by rw[ha,Z];exact hr,a7 a0 oM,wr _ _,.inr ⟨rfl,wr _ _⟩⟩
theorem Qdl{o:Oper}{a:Act}{K:Act->World->Prop}{Q:Exit->Act->World->Prop}(s' x:Operand)(t:TypeId)
  (ho:o.op=.call { callee:=.builtin .append,args:=#[s',x],argTypes:=#[t,t] })
  (base:Nat) (e:TypeId) (i:TypeInfo) (z:Value) (size I:Nat) (ht:P.underlying t=some (.slice e)) (hi:P.info? e=some i) (hz:i.zero=some z)
  (a0:i.size=size) (a7:i.bytes=I) (a4:z.cells.size=size) (a5:0<size)
  (s:Sl) (n:Nat) (xs:List Value) (hs:a.eval s'=.slice s.a n s.c) (a2:w.ownsRow base e size (.slice s.a n s.c) n xs)
  (F:Nat->Prop) (sx:Sl) (m:Nat) (N:List Value) (hx:a.eval x=.slice sx.a m sx.c) (a3:Rd w F size sx m N) (h1:∀u∈N,u.oneCell'=true)
  (a6:n+m<=maxLen) (Z:(n+m)*I<=140737488355328) (a1:base<=w.heap.size)
  (h:∀(s':Sl) (w':World),w'.ownsRow base e size (.slice s'.a (n+m) s'.c) (n+m) (xs++N)->Wr w w' s.row->(s'.a=s.a\/s'.a=some ⟨w,0,none⟩/\Wr w w' none)->K (a.put o.dst (.slice s'.a (n+m) s'.c)) w'):o.wp P a w K Q:=by
 obtain⟨v',w',hr,h2,h3,h4⟩:=QfG (P:=P) w base t o.type e i z size I ht hi hz a0 a7 a4 a5 s n xs a2 F sx m N a3 h1 a6 Z a1;unfold Oper.wp execOp;simp only[ho,resolve,invoke,builtin,Sem.run_bind,Sem.run_pure,Result.andThen_ok,List.map_toArray,List.map_cons,List.map_nil,hs,hx,hr];exact h v' w' h2 h3 h4
theorem Qak{ops:Array Oper}{rest:List Oper}{o:Oper}{a:Act}{Q:Exit->Act->World->Prop}(a5:o.guard=none)(s' x:Operand)(t:TypeId)
  (ho:o.op=.call { callee:=.builtin .append,args:=#[s',x],argTypes:=#[t,t] })
  (base:Nat) (e:TypeId) (i:TypeInfo) (z:Value) (size I:Nat) (ht:P.underlying t=some (.slice e)) (hi:P.info? e=some i) (hz:i.zero=some z)
  (a0:i.size=size) (a8:i.bytes=I) (a4:z.cells.size=size) (a6:0<size)
  (s:Sl) (n:Nat) (xs:List Value) (hs:a.eval s'=.slice s.a n s.c) (a2:w.ownsRow base e size (.slice s.a n s.c) n xs)
  (F:Nat->Prop) (sx:Sl) (m:Nat) (N:List Value) (hx:a.eval x=.slice sx.a m sx.c) (a3:Rd w F size sx m N) (h1:∀u∈N,u.oneCell'=true)
  (a7:n+m<=maxLen) (Z:(n+m)*I<=140737488355328) (a1:base<=w.heap.size)
  (h:∀(s':Sl) (w':World),w'.ownsRow base e size (.slice s'.a (n+m) s'.c) (n+m) (xs++N)->Wr w w' s.row->(s'.a=s.a\/s'.a=some ⟨w,0,none⟩/\Wr w w' none)->wpList P ops Q rest (a.put o.dst (.slice s'.a (n+m) s'.c)) w'):wpList P ops Q (o::rest) a w:=
 fA a5 λ_ hK=>Qdl w s' x t ho base e i z size I ht hi hz a0 a8 a4 a6 s n xs hs a2 F sx m N hx a3 h1 a7 Z a1 λv' w' h2 h3 h4=>hK _ _ (h v' w' h2 h3 h4)
end
section
variable{P : Program}(w : World)
theorem QbA(dT sT ty Z:TypeId)(size:Nat)(g o N a6:Nat)(sx:Sl)(m:Nat)(I:Array Value)(t:TypeId)(cs:List Value)
  (hu:P.underlying dT=some (.slice Z)) (hs:(P.info? Z).map (·.size)=some size)
  (hg:w.heap[g]? = some (.cells I t (0,0))) (hn:cs.length=Nat.min m N*size) (a5:sx.a=none->cs=[])
  (a4:∀b o',sx.a=some ⟨b,o',none⟩->∀j v,cs[j]? = some v->w.cell? ⟨b,o'+j,none⟩=some v) (a0:∀a,sx.a=some a->a.spot=none) (a7:o+cs.length<=I.size) (h1:∀v∈cs,v.oneCell'=true) :
  (Builtin.copy_ #[dT,sT] ty #[.slice (some ⟨g,o,none⟩) N a6,.slice sx.a m sx.c]).run P w =
    .ok (goInt (Nat.min m N)) (w.setRow g (I.toList.take o++cs++I.toList.drop (o+cs.length)).toArray):=by
 have a1:=run_storeCells_at P g o t cs 0 I w hg (by simpa using a7) h1;obtain⟨i,hq,hi⟩:∃i,P.info? Z=some i/\i.size=size:=by
  cases hq:P.info? Z with
  |none=>simp[hq]at hs
  |some i=>exact⟨i,rfl,by simpa[hq]using hs⟩
 obtain⟨sa,sc⟩:=sx;cases sa with
 | none=>
   have hc:=a5 rfl;subst hc;have a3:(storeCells ⟨g,o,none⟩ []).run P w=.ok () (w.setRow g (I.toList.take o++[]++I.toList.drop (o+0)).toArray):=by simpa using a1
   simp[Builtin.copy_,run_underlying hu,Builtin.lenOf,Builtin.firstCells,sizeOf,typeInfo,hq,a3]
 | some a=>
   obtain⟨b,o',sp⟩:=a;have a2:=a0 _ rfl;dsimp only at a2;subst a2;have hl:=run_firstCells_some (P:=P) w size (Nat.min m N) ⟨b,o',none⟩ m sc cs hn (λj v hj=>by rw[Qbc];exact a4 b o' rfl j v hj);simp only[Nat.add_zero]at a1;simp[Builtin.copy_,run_underlying hu,Builtin.lenOf,sizeOf,typeInfo,hq,hi,hl,a1]
theorem QkM{o:Oper}{a:Act}{K:Act->World->Prop}{Q:Exit->Act->World->Prop}(d s:Operand)(t N:TypeId)
  (ho:o.op=.call { callee:=.builtin .copy,args:=#[d,s],argTypes:=#[t,N] }) (v u:Value) (hd:a.eval d=v) (hs:a.eval s=u) {I:Value} {w':World}
  (Z:(Builtin.copy_ #[t,N] o.type #[v,u]).run P w=.ok I w') (h:K (a.put o.dst I) w'):o.wp P a w K Q:=by
 unfold Oper.wp execOp;simp only[ho,resolve,invoke,builtin,Sem.run_bind,Sem.run_pure,Result.andThen_ok,List.map_toArray,List.map_cons,List.map_nil,hd,hs,Z];exact h
theorem Qcd{ops:Array Oper}{rest:List Oper}{o:Oper}{a:Act}{Q:Exit->Act->World->Prop}(I:o.guard=none)(d s:Operand)(t N:TypeId)
  (ho:o.op=.call { callee:=.builtin .copy,args:=#[d,s],argTypes:=#[t,N] }) (v u:Value) (hd:a.eval d=v) (hs:a.eval s=u) {Z:Value} {w':World}
  (hr:(Builtin.copy_ #[t,N] o.type #[v,u]).run P w=.ok Z w') (h:wpList P ops Q rest (a.put o.dst Z) w'):wpList P ops Q (o::rest) a w:=
 fA I λ_ hK=>QkM w d s t N ho v u hd hs hr (hK _ _ h)
theorem Qdj{ops:Array Oper}{o:Oper}{a:Act}{K:Act->World->Prop}{Q:Exit->Act->World->Prop}{E:Prop}(I:o.guard=none)(d s:Operand)(t N:TypeId)
  (ho:o.op=.call { callee:=.builtin .copy,args:=#[d,s],argTypes:=#[t,N] }) (v u:Value) (hd:a.eval d=v) (hs:a.eval s=u) {Z:Value} {w':World}
  (hr:(Builtin.copy_ #[t,N] o.type #[v,u]).run P w=.ok Z w') (h:K (a.put o.dst Z) w') :
  if Region.wanted o (yielded ops a.tmps)=true then Oper.wp P o a w K Q else E:=by
 have hw:Region.wanted o (yielded ops a.tmps)=true:=by simp[Region.wanted,I]
 rw[eu hw];exact QkM w d s t N ho v u hd hs hr h
theorem wpList_append_run{ops:Array Oper}{rest:List Oper}{o:Oper}{a:Act}{Q:Exit->Act->World->Prop}(I:o.guard=none)(d s:Operand)(t N:TypeId)
  (ho:o.op=.call { callee:=.builtin .append,args:=#[d,s],argTypes:=#[t,N] }) (v u:Value) (hd:a.eval d=v) (hs:a.eval s=u) {Z:Value} {w':World}
  (hr:(Builtin.append_ #[t,N] o.type #[v,u]).run P w=.ok Z w') (h:wpList P ops Q rest (a.put o.dst Z) w'):wpList P ops Q (o::rest) a w:=by
 refine fA I λ_ hK=>?_
 unfold Oper.wp execOp;simp only[ho,resolve,invoke,builtin,Sem.run_bind,Sem.run_pure,Result.andThen_ok,List.map_toArray,List.map_cons,List.map_nil,hd,hs,hr];exact hK _ _ h
theorem Wr.setRow{g:Nat}(cs:Array Value):Wr w (w.setRow g cs) (some g):=
 ⟨⟨rfl,rfl,rfl,sM,λk _ I=>fB w g k _ (λe=>I (by simp[e]))⟩,λb o=>QjF _ _ _ _ _⟩
theorem Wr.trans{a b c:World}{r:Option Nat}(h:Wr a b r){N:Option Nat}(k:Wr b c N)(hr:∀i,N=some i->r=some i\/a.heap.size<=i):Wr a c r:=
 ⟨⟨k.grown.os.trans h.grown.os,k.grown.tape.trans h.grown.tape,k.grown.output.trans h.grown.output,an h.grown.size k.grown.size,fun i hi I=>(k.grown.block i (ab hi h.grown.size) (fun e=>by
   rcases hr i e.symm with Z|Z
   .exact I Z.symm
   omega)).trans (h.grown.block i hi I)⟩,λb o=>(k.fz b o).trans (h.fz b o)⟩
theorem Wr.drew{a b:World}{r:Option Nat}(h:Wr a b r):Wr a b.drew r:=⟨⟨h.grown.os,h.grown.tape,h.grown.output,h.grown.size,h.grown.block⟩,h.fz⟩
theorem Wr.alloc{a b:World}{r:Option Nat}(h:Wr a b r)(c:Array Value)(t:TypeId):Wr a (b.alloc (.cells c t)) r:=
 ⟨⟨h.grown.os,h.grown.tape,h.grown.output,by have:=h.grown.size;simp;omega,λi hi I=>(eJ b _ i (ab hi h.grown.size)).trans (h.grown.block i hi I)⟩,λN o=>(Ql1 b c t N o).trans (h.fz N o)⟩
end
abbrev fP:=@Rd.QaI
abbrev fV:=@Wr.setRow
def QcL(n:Nat)(p:Nat->Bool)(w:World)(e:Ending)(w':World):Prop:=
 ∃k:Nat,e=.returned (.int .i64 k)/\k<=n/\(∀i,i<k->p i=false)/\(∀i,k<=i->i<n->p i=true)/\Ext w w'
theorem Qd0(g:Nat)(v1 v2:Value)(n:Nat)(p:Nat->Bool)(w:World)(eg:∀args w,(callFunc g args).run prog w=.ok (.enter g args) w)(hn:n<4611686018427387904)
  (hg:∀(i:Nat) (W:World),i<n->Ext w W->Calls prog g #[.int .i64 i,v1,v2] W λe w'=>e=.returned (.bool (p i))/\Ext W w')
  (hm:∀i j,i<=j->j<n->p i=true->p j=true) :
  Calls prog 69 #[.int .i64 n,.func (.func g) #[] #[v1,v2]] w (QcL n p w):=by
 obtain⟨HG,HM⟩:=Yb hg hm;clear hg hm;go_in;go_wp2_with fail;go_loopw[5,6] (λi j wr=>∃a b:Nat,i=.int .i64 a/\j=.int .i64 b/\a<=b/\b<=n/\(∀i,i<a->p i=false)/\(∀i,b<=i->i<n->p i=true)/\Ext w wr) (λi j _=>(intOf j).toNat -(intOf i).toNat)
 case atStart=>exact⟨0,n,rfl,rfl,aA _,ao _,λ_ h=>absurd h oM,λ_ h h'=>absurd h oM,fI _⟩
 obtain⟨a,b,rfl,rfl,a7,a1,a2,a3,hx⟩:=hrel;obtain⟨a4,a0⟩:=Yb a2 a3;clear a2 a3;by_cases a6:a<b
 ·go_wp2_with fail
  rw[show((a:Int)+b)/2=(((a+b)/2:Nat):Int)from oM];have hc:=HG.o ((a+b)/2) wr oM hx;generalize hh:(a+b)/2=h at *;have h1:a<=h:=oM
  have h2:h<b:=oM
  clear hh;cases N:p h with
  | false=>
    rw[N]at hc;have HP:=hY N;clear N;refine hc.mono ?_;rintro e w1 ⟨rfl,I⟩;go_wp2_with fail;go_roundw
    case rel=>exact⟨h+1,b,by go_num,rfl,oM,a1,λi hi=>by
     by_cases Z:p i=true
     ·have:=HM.o i h oM oM Z
      rw[HP.o]at this;cases this
     simpa using Z,a0.o,hx.trans I⟩
    simp[intOf];omega
  | true=>
    rw[N]at hc;have HP:=hY N;clear N;refine hc.mono ?_;rintro e w1 ⟨rfl,I⟩;go_wp2_with fail;go_roundw
    case rel=>exact⟨a,h,rfl,rfl,h1,oM,a4.o,λi hi a5=>HM.o h i hi a5 HP.o,hx.trans I⟩
    simp[intOf];omega
 obtain rfl:a=b:=oM
 go_wp2_with fail;go_ret;exact⟨a,rfl,a1,a4.o,a0.o,hx⟩
abbrev ev:=@beq_eq_false_iff_ne
abbrev eD:=@ByteArray.toList_eq
abbrev eI:=@Bool.and_eq_true
abbrev eM:=@decide_eq_true_eq
abbrev fa:=@if_false
abbrev klt(a b:ByteArray):Bool:=Op.bytesLess a.toList b.toList
theorem Qje:∀a:List UInt8,Op.bytesLess a a=false
 |[]=>rfl
 |a::x=>by simp[Op.bytesLess,Qje x]
theorem QlT:∀a b c:List UInt8,Op.bytesLess a b=true->Op.bytesLess b c=true->Op.bytesLess a c=true
 |_,_,[],_,h=>by simp[Op.bytesLess]at h
 |_,[],_::_,h,_=>by simp[Op.bytesLess]at h
 |[],_::_,_::_,_,_=>rfl
 | a :: x,b :: y,c :: z,h,I=>by
   simp only[Op.bytesLess,Bool.or_eq_true,Bool.and_eq_true,decide_eq_true_eq,beq_iff_eq]at h I ⊢;rcases h with h |⟨rfl,h⟩<;>rcases I with I |⟨rfl,I⟩
   .exact .inl (UInt8.lt_trans h I)
   .exact .inl h
   .exact .inl I
   exact .inr ⟨rfl,QlT x y z h I⟩
theorem QlS:∀a b:List UInt8,Op.bytesLess a b=false->Op.bytesLess b a=false->a=b
 |[],[],_,_=>rfl
 |[],_::_,h,_=>by simp[Op.bytesLess]at h
 |_::_,[],_,h=>by simp[Op.bytesLess]at h
 | a :: x,b :: y,h,h'=>by
   simp only[Op.bytesLess,Bool.or_eq_false_iff,decide_eq_false_iff_not,Bool.and_eq_false_iff,beq_eq_false_iff_ne]at h h';have e:a=b:=by
    have h1:=h.1;have h2:=h'.1;exact UInt8.le_antisymm (UInt8.not_lt.1 h2) (UInt8.not_lt.1 h1)
   subst e;have h1:=h.2.resolve_left sM;have h2:=h'.2.resolve_left sM;rw[QlS x y h1 h2]
theorem toList_inj{a b:ByteArray}(h:a.toList=b.toList):a=b:=by
 rw[eD,eD]at h;cases a;cases b;simp only[ByteArray.mk.injEq];exact Array.ext' h
theorem Qag(a:ByteArray):klt a a=false:=Qje _
theorem QaH{a b c:ByteArray}(h:klt a b=true)(k:klt b c=true):klt a c=true:=QlT _ _ _ h k
theorem QbE{a b:ByteArray}(h:klt a b=false)(k:klt b a=false):a=b:=toList_inj (QlS _ _ h k)
theorem Qbh{a b:ByteArray}(h:klt a b=true):klt b a=false:=by
 cases I:klt b a
 .rfl
 have:=QaH h I;rw[Qag]at this;cases this
theorem QcU{a b:ByteArray}(h:klt a b=false)(I:a≠b):klt b a=true:=by
 cases N:klt b a
 .exact absurd (QbE h N) I
 rfl
theorem Qdx{a b c:ByteArray}(h:klt b a=false)(k:klt b c=true):klt a c=true:=by
 cases I:klt a b
 .rw [QbE I h];exact k
 exact QaH I k
theorem QfA{a b c:ByteArray}(h:klt a b=true)(k:klt c b=false):klt a c=true:=by
 cases I:klt b c
 .rw [<-QbE I k];exact h
 exact QaH h I
theorem beq_toList(a b:ByteArray):(a.toList==b.toList)=decide (a=b):=by
 by_cases h:a=b
 .subst h;simp
 simp only[h,decide_false,beq_eq_false_iff_ne]
 exactλe=>h (toList_inj e)
theorem Quo(a b:ByteArray):(!(Op.bytesLess a.toList b.toList||a.toList==b.toList))=klt b a:=by
 cases h:klt b a
 ·cases I:klt a b
  .rw [QbE h I];simp
  show(!(klt a b||_))=false;rw[I];rfl
 have h1:=Qbh h;have h2:a≠b:=by rintro rfl;rw[Qag]at h;cases h
 show(!(klt a b||_))=true;rw[h1,beq_toList];simp[h2]
abbrev Ent:=ByteArray × Val
def Sorted(es:List Ent):Prop:=es.Pairwise λa b=>klt a.1 b.1=true
def QbY:List Ent->ByteArray->Val->List Ent
 |[],k,v=>[(k,v)]
 |e::es,k,v=>if klt e.1 k then e::QbY es k v else if e.1=k then(k,v)::es else(k,v)::e::es
def QbM:List Ent->ByteArray->List Ent
 |[],_=>[]
 |e::es,k=>if klt e.1 k then e::QbM es k else if e.1=k then es else e::es
def Qaq:List Ent->ByteArray->Option Val
 |[],_=>none
 |e::es,k=>if e.1=k then some e.2 else Qaq es k
theorem Qiz{A:List Ent}{k:ByteArray}(h:∀e∈A,klt e.1 k=true)(B:List Ent)(v:Val):QbY (A++B) k v=A++QbY B k v:=by
 induction A with
 |nil=>rfl
 | cons a A ih=>
   have I:=h a (aF ..);simp only[List.cons_append,QbY,I,if_true];rw[ih λe N=>h e (aR _ N)]
theorem QgD{C:List Ent}{k:ByteArray}(h:∀e∈C,klt k e.1=true)(v:Val):∀B:List Ent,QbY (B++C) k v=QbY B k v++C
 | []=>by
   cases C with
   |nil=>rfl
   | cons c C=>
     have I:=h c (aF ..);have h1:=Qbh I;have h2:c.1≠k:=by rintro rfl;rw[Qag]at I;cases I
     simp[QbY,h1,h2]
 | b :: B=>by
   simp only[List.cons_append,QbY];split
   .rw [QgD h v B,aI]
   split<;>rfl
theorem Qtg{B:List Ent}{k:ByteArray}(h:∀e∈B,klt e.1 k=false)(v:Val):QbY B k v=(k,v) ::(if B.head?.map Prod.fst=some k then B.tail else B):=by
 cases B with
 |nil=>rfl
 | cons b B=>
   have I:=h b (aF ..);simp only[QbY,I,Bool.false_eq_true,if_false,List.head?_cons,Option.map_some,Option.some.injEq,List.tail_cons];split<;>rfl
theorem Qik{A:List Ent}{k:ByteArray}(h:∀e∈A,klt e.1 k=true)(B:List Ent):QbM (A++B) k=A++QbM B k:=by
 induction A with
 |nil=>rfl
 | cons a A ih=>
   have I:=h a (aF ..);simp only[List.cons_append,QbM,I,if_true];rw[ih λe N=>h e (aR _ N)]
theorem Qgu{C:List Ent}{k:ByteArray}(h:∀e∈C,klt k e.1=true):∀B:List Ent,QbM (B++C) k=QbM B k++C
 | []=>by
   cases C with
   |nil=>rfl
   | cons c C=>
     have I:=h c (aF ..);have h1:=Qbh I;have h2:c.1≠k:=by rintro rfl;rw[Qag]at I;cases I
     simp[QbM,h1,h2]
 | b :: B=>by
   simp only[List.cons_append,QbM];split
   .rw [Qgu h B,aI]
   split<;>rfl
theorem Qs5{B:List Ent}{k:ByteArray}(h:∀e∈B,klt e.1 k=false):QbM B k=if B.head?.map Prod.fst=some k then B.tail else B:=by
 cases B with
 |nil=>simp[QbM]
 | cons b B=>
   have I:=h b (aF ..);simp only[QbM,I,Bool.false_eq_true,if_false,List.head?_cons,Option.map_some,Option.some.injEq,List.tail_cons]
theorem QeL{B:List Ent}{k:ByteArray}(h:∀e∈B,e.1≠k):Qaq B k=none:=by
 induction B with
 |nil=>rfl
 |cons b B ih=>simp only[Qaq,h b (List.mem_cons_self ..),if_false];exact ih λe I=>h e (aR _ I)
theorem Ql3{A:List Ent}{k:ByteArray}(h:∀e∈A,klt e.1 k=true)(B:List Ent):Qaq (A++B) k=Qaq B k:=by
 induction A with
 |nil=>rfl
 | cons a A ih=>
   have I:=h a (aF ..);have h2:a.1≠k:=by rintro rfl;rw[Qag]at I;cases I
   simp only[List.cons_append,Qaq,h2,if_false];exact ih λe N=>h e (aR _ N)
theorem QjG{C:List Ent}{k:ByteArray}(h:∀e∈C,klt k e.1=true):∀B:List Ent,Qaq (B++C) k=Qaq B k
 |[]=>QeL λe I=>by rintro rfl;have:=h e I;rw[Qag]at this;cases this
 |b::B=>by simp only[List.cons_append,Qaq];rw[QjG h B]
theorem QiF{es:List Ent}{k:ByteArray}{v:Val}{x:Ent}(h:x∈QbY es k v):x=(k,v)\/x∈es:=by
 induction es with
 |nil=>simpa[QbY]using h
 | cons e es ih=>
   simp only[QbY]at h;split at h
   ·rcases aH.1 h with h | h
    .exact .inr (by simp[h])
    rcases ih h with h|h
    .exact .inl h
    exact .inr (aR _ h)
   split at h
   ·rcases aH.1 h with h | h
    .exact .inl h
    exact .inr (aR _ h)
   rcases aH.1 h with h|h
   .exact .inl h
   exact .inr h
theorem Qa1{es:List Ent}(h:Sorted es)(k:ByteArray)(v:Val):Sorted (QbY es k v):=by
 induction es with
 |nil=>exact List.pairwise_singleton ..
 | cons e es ih=>
   have Z:=bf.1 h;simp only[QbY];split
   ·rename_i I
    refine bf.2 ⟨λx N=>?_,ih Z.2⟩;rcases QiF N with rfl|N
    .exact I
    exact Z.1 x N
   rename_i I;have I:klt e.1 k=false:=by simpa using I
   split
   ·rename_i he
    subst he;exact bf.2 ⟨λx N=>Z.1 x N,Z.2⟩
   rename_i he;have hk:=QcU I he;refine bf.2 ⟨λx N=>?_,h⟩;rcases aH.1 N with rfl|N
   .exact hk
   exact QaH hk (Z.1 x N)
theorem Qa3(es:List Ent)(k:ByteArray):(QbM es k).Sublist es:=by
 induction es with
 |nil=>exact .slnil
 | cons e es ih=>
   simp only[QbM];split
   .exact ih.cons_cons _
   split
   .exact List.sublist_cons_self ..
   exact List.Sublist.refl _
theorem QaN{es:List Ent}(h:Sorted es)(k:ByteArray):Sorted (QbM es k):=cV (Qa3 es k) h
def PT:Nat->Type
 |0=>Nat × List Ent
 |h+1=>Nat × List (PT h)
def addr:(h:Nat)->PT h->Nat
 |0,t=>t.1
 |_+1,t=>t.1
def size:(h:Nat)->PT h->Nat
 |0,t=>t.2.length
 |_+1,t=>t.2.length
def ents:(h:Nat)->PT h->List Ent
 |0,t=>t.2
 |h+1,t=>t.2.flatMap (ents h)
def thin:(h:Nat)->PT h->Bool
 |0,_=>false
 |h+1,t=>t.2.any λk=>thin h k||decide (size h k<4)
def OkT:(h:Nat)->PT h->Prop
 |0,t=>t.2.length<=8
 |h+1,t=>2<=t.2.length/\t.2.length<=8/\∀k∈t.2,OkT h k/\4<=size h k
def Qav(es:List Ent):ByteArray:=(es.head?.map Prod.fst).getD ByteArray.empty
def Qbl(es:List Ent):ByteArray:=(es.getLast?.map Prod.fst).getD ByteArray.empty
theorem Qbk:∀(h:Nat) (t:PT h),OkT h t->1<=size h t->0<(ents h t).length
 |0,_,_,hs=>hs
 | h+1,t,ok,hs=>by
   obtain⟨a,ks⟩:=t;cases ks with
   |nil=>simp[size]at hs
   | cons k ks=>
     have:=ok.2.2 k (aF ..);have:=Qbk h k this.1 oM;simp only[ents,List.flatMap_cons,List.length_append];omega
theorem QcT:∀(h:Nat) (t:PT h),OkT h t->1<=size h t->h<(ents h t).length
 |0,_,_,hs=>hs
 | h+1,t,ok,hs=>by
   obtain⟨a,ks⟩:=t
   match ks,ok with
   |[],ok=>exact absurd ok.1 sM
   |[k],ok=>exact absurd ok.1 sM
   | k :: k' :: ks,ok=>
     have h1:=ok.2.2 k (aF ..);have h2:=ok.2.2 k' (aR _ (aF ..));have h1:=QcT h k h1.1 oM;have h2:=Qbk h k' h2.1 oM;simp only[ents,List.flatMap_cons,List.length_append];omega
abbrev eH:=@World.block_lt_of_cell?
structure LE where
 k:ByteArray
 v:Val
 sl:Sl
 so:Sl
def LE.ent(x:LE):Ent:=(x.k,x.v)
def LE.cells(x:LE):List Value:=[.string x.k,.int .i64 x.v.kind,.bool x.v.b,.int .i64 x.v.i,.string x.v.t,.slice x.sl.a x.v.l.length x.sl.c,.slice x.so.a x.v.ok.length x.so.c]
def QaD(xs:List LE):List Value:=xs.flatMap LE.cells
theorem Qpe:QaD []=[]:=rfl
theorem QbO(x:LE)(xs:List LE):QaD (x::xs)=x.cells++QaD xs:=by simp[QaD]
theorem Qcp(xs ys:List LE):QaD (xs++ys)=QaD xs++QaD ys:=by simp[QaD]
theorem LE.len(x:LE):x.cells.length=7:=rfl
theorem QcR(xs:List LE):(QaD xs).length=xs.length*7:=by
 induction xs with
 |nil=>rfl
 |cons x xs ih=>rw[QbO,aj,ih,LE.len,aB];omega
theorem Qc4:∀{xs:List LE} {i:Nat} {x:LE},xs[i]? = some x->∀c,c<7->(QaD xs)[i*7+c]? = x.cells[c]?
 |[],i,x,h,_,_=>by simp at h
 | y :: ys,0,x,h,c,hc=>by
   simp at h;subst h;rw[QbO,cq,aD,bn (by rw[LE.len];exact hc)]
 | y :: ys,i+1,x,h,c,hc=>by
   simp at h;rw[QbO,aQ (by rw[LE.len];omega),LE.len,show(i+1)*7+c-7=i*7+c from oM];exact Qc4 h c hc
theorem QcS(xs:List LE)(i:Nat):(QaD xs).take (i*7)=QaD (xs.take i):=by
 induction xs generalizing i with
 |nil=>simp[QaD]
 | cons x xs ih=>
   cases i with
   |zero=>simp[QaD]
   | succ i=>
     rw[bp,QbO,QbO,List.take_append,LE.len,aO (by rw[LE.len];omega),show(i+1)*7-7=i*7 from oM,ih]
theorem QcQ(xs:List LE)(i:Nat):(QaD xs).drop (i*7)=QaD (xs.drop i):=by
 induction xs generalizing i with
 |nil=>simp[QaD]
 | cons x xs ih=>
   cases i with
   |zero=>simp
   | succ i=>
     rw[di,QbO,List.drop_append,LE.len,bS (by rw[LE.len];omega),show(i+1)*7-7=i*7 from oM,ih,aG]
def QmT(w:World)(F:Nat->Prop)(xs:List LE):Prop:=∀x∈xs,RV w F x.v x.sl x.so/\x.k.size<=maxLen
variable{xs:List LE}
theorem QmT.agree(h:QmT w F xs)(N:Agree F w w'):QmT w' F xs:=λx I=>⟨(h x I).1.agree N,(h x I).2⟩
theorem QmT.mono(h:QmT w F xs)(N:∀i,F i->G i):QmT w G xs:=λx I=>⟨(h x I).1.mono N,(h x I).2⟩
structure ES(w:World)(F:Nat->Prop)(s:Sl)(xs:List LE):Prop where
 rd:Rd w F 7 s xs.length (QaD xs)
 vals:QmT w F xs
 few:xs.length*104<=140737488355328
theorem ES.agree(h:ES w F s xs)(I:Agree F w w'):ES w' F s xs:=⟨h.rd.agree I,h.vals.agree I,h.few⟩
theorem ES.mono(h:ES w F s xs)(I:∀i,F i->G i):ES w G s xs:=⟨h.rd.mono I,h.vals.mono I,h.few⟩
theorem ES.nil(w:World)(F:Nat->Prop):ES w F Sl.none []:=⟨Rd.nil _ _ _,λx h=>by simp at h,sM⟩
variable{x:LE}
theorem ES.at(h:ES w F s xs){i:Nat}(N:xs[i]? = some x) :
  ∃b o,s.a=some ⟨b,o,none⟩/\F b/\xs.length<=s.c/\s.c<=maxLen/\w.cell? ⟨b,o+i*7,none⟩=some (.string x.k)/\QaV w b (o+i*7+1) x.v x.sl x.so/\RV w F x.v x.sl x.so/\x.k.size<=maxLen:=by
 obtain⟨b,o,h1,h2,h3⟩:=h.rd;have hi:i<xs.length:=(ai.1 N).1;obtain⟨e1,e2,e3⟩:=h1.eq oM;have I:∀c u,c<7->x.cells[c]? = some u->w.cell? ⟨b,o+i*7+c,none⟩=some u:=λc u I hu=>by
  rw[bH];exact h3 _ u (by rw[Qc4 N c I];exact hu)
 have Z:=h.vals x (ap N);exact⟨b,o,e1,h1.fits oM,e2,e3,I 0 _ oM rfl,⟨I 1 _ oM rfl,I 2 _ oM rfl,I 3 _ oM rfl,I 4 _ oM rfl,I 5 _ oM rfl,I 6 _ oM rfl⟩,Z.1,Z.2⟩
abbrev ptr(h:Nat)(t:PT h):Value:=.pointer (some ⟨addr h t,0,none⟩)
def ptrs(h:Nat)(ks:List (PT h)):List Value:=ks.map (ptr h)
def IsN(w:World)(F:Nat->Prop):(h:Nat)->PT h->Prop
 |0,t=>F t.1/\∃(s:Sl) (xs:List LE),Blk w t.1 159 #[.slice s.a xs.length s.c,.slice none 0 0,.int .i64 0,.int .i64 xs.length,.string (Qav t.2),.string (Qbl t.2),.bool false]/\ES w F s xs/\xs.map LE.ent=t.2
 |h+1,t=>F t.1/\∃s:Sl,Blk w t.1 159 #[.slice none 0 0,.slice s.a t.2.length s.c,.int .i64 ((h+1:Nat):Int),.int .i64 (ents (h+1) t).length,.string (Qav (ents (h+1) t)),.string (Qbl (ents (h+1) t)),.bool (thin (h+1) t)]/\
    Rd w F 1 s t.2.length (ptrs h t.2)/\∀k∈t.2,IsN w F h k
theorem IsN.agree(I:Agree F w w'):∀{h:Nat} {t:PT h},IsN w F h t->IsN w' F h t
 |0,_,⟨h1,s,xs,h2,h3,h4⟩=>⟨h1,s,xs,h2.agree I h1,h3.agree I,h4⟩
 |_+1,_,⟨h1,s,h2,h3,h4⟩=>⟨h1,s,h2.agree I h1,h3.agree I,λk N=>(h4 k N).agree I⟩
theorem IsN.mono(I:∀i,F i->G i):∀{h:Nat} {t:PT h},IsN w F h t->IsN w G h t
 |0,_,⟨h1,s,xs,h2,h3,h4⟩=>⟨I _ h1,s,xs,h2,h3.mono I,h4⟩
 |_+1,_,⟨h1,s,h2,h3,h4⟩=>⟨I _ h1,s,h2,h3.mono I,λk N=>(h4 k N).mono I⟩
variable{h:Nat}
theorem IsN.ext{t:PT h}(N:IsN w (Lt w) h t)(I:Ext w w'):IsN w' (Lt w') h t:=
 (N.agree (I.agree λ_ h=>h)).mono λ_ hi=>ab hi I.size
theorem IsN.cells:∀{h:Nat} {t:PT h},IsN w F h t->F (addr h t)/\∃(I sk:Sl) (N Z:Nat),N+Z=size h t/\
  Blk w (addr h t) 159 #[.slice I.a N I.c,.slice sk.a Z sk.c,.int .i64 h,.int .i64 (ents h t).length,.string (Qav (ents h t)),.string (Qbl (ents h t)),.bool (thin h t)]
 |0,_,⟨h1,s,xs,h2,h3,h4⟩=>⟨h1,s,Sl.none,xs.length,0,by rw[size,<-h4,aq];rfl,by rw[show(ents 0 _).length=xs.length from by rw[ents,<-h4,aq]];exact h2⟩
 |_+1,_,⟨h1,s,h2,h3,h4⟩=>⟨h1,Sl.none,s,0,_,by rw[size,aD],h2⟩
variable{g:Nat}
theorem Blk.c7{t:TypeId}{v0 I v2 Z v4 N v6:Value}(h:Blk w g t #[v0,I,v2,Z,v4,N,v6]):w.cell? ⟨g,0,none⟩=some v0/\w.cell? ⟨g,1,none⟩=some I/\w.cell? ⟨g,2,none⟩=some v2/\w.cell? ⟨g,3,none⟩=some Z/\w.cell? ⟨g,4,none⟩=some v4/\w.cell? ⟨g,5,none⟩=some N/\w.cell? ⟨g,6,none⟩=some v6:=
 ⟨h.cell 0,h.cell 1,h.cell 2,h.cell 3,h.cell 4,h.cell 5,h.cell 6⟩
theorem QdV(w:World):Calls prog 66 #[.pointer none] w λe w'=>e=.returned (.int .i64 0)/\w=w':=by
 go_in;go_wp2;go_ret;exact⟨rfl,rfl⟩
theorem QaC{t:PT h}(I:IsN w F h t):Calls prog 66 #[ptr h t] w λe w'=>e=.returned (.int .i64 h)/\w=w':=by
 obtain⟨-,Z,sk,ne,nk,-,N⟩:=I.cells;obtain⟨-,-,h2,-,-,-,-⟩:=N.c7;go_in;go_wp2;go_ret;exact⟨rfl,rfl⟩
theorem count_nil(w:World):Calls prog 73 #[.pointer none] w λe w'=>e=.returned (.int .i64 0)/\w=w':=by
 go_in;go_wp2;go_ret;exact⟨rfl,rfl⟩
theorem Qjp{t:PT h}(I:IsN w F h t):Calls prog 73 #[ptr h t] w λe w'=>e=.returned (.int .i64 (ents h t).length)/\w=w':=by
 obtain⟨-,Z,sk,ne,nk,-,N⟩:=I.cells;obtain⟨-,-,-,h3,-,-,-⟩:=N.c7;go_in;go_wp2;go_ret;exact⟨rfl,rfl⟩
theorem Qgv{t:PT h}(I:IsN w F h t):Calls prog 102 #[ptr h t] w λe w'=>e=.returned (.string (Qav (ents h t)))/\w=w':=by
 obtain⟨-,Z,sk,ne,nk,-,N⟩:=I.cells;obtain⟨-,-,-,-,h4,-,-⟩:=N.c7;go_in;go_wp2;go_ret;exact⟨rfl,rfl⟩
theorem QmD(w:World):Calls prog 70 #[.pointer none] w λe w'=>e=.returned (.int .i64 0)/\w=w':=by
 go_in;go_wp2;go_ret;exact⟨rfl,rfl⟩
theorem Qf8{t:PT h}(N:IsN w F h t)(hs:size h t<=1000):Calls prog 70 #[ptr h t] w λe w'=>e=.returned (.int .i64 (size h t))/\∃q,w'=w.drewN q:=by
 obtain⟨-,se,sk,Z,nk,I,hb⟩:=N.cells;obtain⟨h0,h1,-,-,-,-,-⟩:=hb.c7;have a1:Z<=1000:=oM
 have a0:nk<=1000:=oM
 rw[<-I];clear I;go_in;go_wp2_with fail;go_quiet (fail);go_wp2;go_ret;exact⟨sM,_,rfl⟩
theorem Qme{t:PT h}(I:IsN w F h t):Calls prog 177 #[ptr h t] w λe w'=>e=.returned (.string (Qbl (ents h t)))/\w=w':=by
 obtain⟨-,Z,sk,ne,nk,-,N⟩:=I.cells;obtain⟨-,-,-,-,-,h5,-⟩:=N.c7;go_in;go_wp2;go_ret;exact⟨rfl,rfl⟩
def QfI(h:Nat)(t:PT h):Bool:=!thin h t&&decide (4<=size h t)
theorem QqA{t:PT h}(N:IsN w F h t)(hs:size h t<=1000):Calls prog 119 #[ptr h t,.bool false] w λe w'=>e=.returned (.bool (QfI h t))/\∃q,w'=w.drewN q:=by
 obtain⟨-,se,sk,ne,nk,-,hb⟩:=N.cells;obtain⟨-,-,-,-,-,-,Z⟩:=hb.c7;have hc:=Qf8 N hs;clear hb;cases I:thin h t
 ·rw [I] at Z
  have e:QfI h t=decide (4<=size h t):=by simp[QfI,I]
  rw[e];clear e I;go_in;go_wp2_with fail;refine hc.mono ?_;rintro e w' ⟨rfl,q,rfl⟩;go_wp2_with fail;go_ret;exact⟨by simp;omega,q,rfl⟩
 rw[I]at Z;have e:QfI h t=false:=by simp[QfI,I]
 rw[e];clear e I hc;go_in;go_wp2_with fail;go_ret;exact⟨rfl,0,rfl⟩
theorem Tryz.Qbg:(prog.info? 46).map (λi=>(i.zero,i.size,i.bytes))=some (some (.pointer none),1,8):=kM
theorem QbF(h:Nat)(ks:List (PT h)):∀u∈ptrs h ks,u.oneCell'=true:=by
 intro u hu;obtain⟨k,-,rfl⟩:=bW.1 hu;rfl
def Qet(e':TypeId)(n:Nat)(cs:List Value)(w:World)(e:Ending)(w':World):Prop:=
 ∃s':Sl,e=.returned (.slice s'.a n s'.c)/\w'.ownsRow w.heap.size e' 1 (.slice s'.a n s'.c) n cs/\Ext w w'
theorem QoM(w:World):Calls prog 100 #[.slice none 0 0] w λe w'=>e=.returned (.slice none 0 0)/\w=w':=by
 have I:=λw'=>Lib.run_eql_slice_nil (P:=prog) w' 108 46 none 0 0 0 0 underlying108
 go_in;go_wp2_with fail;go_ret;exact⟨rfl,rfl⟩
theorem QoL(hr:Rd w F 1 s n cs)(h1:∀u∈cs,u.oneCell'=true)(hn:n<=1000) :
  Calls prog 100 #[.slice s.a n s.c] w (Qet 46 n cs w):=by
 obtain⟨i0,hi,a3,a1,a4⟩:=eE Tryz.Qbg;obtain⟨b,o,hs,hl,hc⟩:=hr;cases hs with
 | nil=>
   have:cs=[]:=ar (by simpa using hl);subst this;have he:=λw'=>Lib.run_eql_slice_nil (P:=prog) w' 108 46 none 0 0 0 0 underlying108
   go_in;go_wp2_with fail;go_ret;exact⟨Sl.none,rfl,eG _ _ _ _,fI _⟩
 | zero ad=>
   have:cs=[]:=ar (by simpa using hl);subst this;have he:=λw'=>Lib.run_eql_slice_nil (P:=prog) w' 108 46 (some ad) 0 0 0 0 underlying108
   have N:Rd (w.alloc (.cells #[] 46)) F 1 ⟨some ad,0⟩ 0 []:=⟨b,o,.zero _ _ _,rfl,λj u hj=>by simp at hj⟩;have HN:=hY N;have a0:0+0<=maxLen:=by unfold maxLen;omega
   clear N hc h1 hl;go_in;go_wp2_with(at_builtin;refine Qak _ rfl _ _ 108 rfl w.heap.size 46 i0 (.pointer none) 1 8 underlying108 hi a3 a1 a4 rfl oN ⟨some ⟨w,0,none⟩,0⟩ 0 [] rfl (World.ownsRow_made w #[] 0 (ao _) oN rfl) F ⟨some ad,0⟩ 0 [] rfl HN.o sM a0 oM sM ?_;intro s' w1 I Z _;simp only[Nat.zero_add,List.nil_append]at I);go_ret;exact⟨s',sM,I,((fI w).alloc _ _).wr Z (by rintro i ⟨⟩;exact ao _)⟩
 | some _ c _ _ hnc hcm hb=>
   have he:=λw'=>Lib.run_eql_slice_nil (P:=prog) w' 108 46 (some ⟨b,o,none⟩) n c 0 0 underlying108
   have a2:∀j u,cs[j]? = some u->b<w:=λj u hj=>eH w _ (hc j u hj)
   have N:Rd (w.alloc (.cells #[] 46)) F 1 ⟨some ⟨b,o,none⟩,c⟩ n cs:=⟨b,o,.some _ _ _ _ hnc hcm hb,hl,λj u hj=>(World.cell?_alloc_lt _ _ _ (a2 j u hj)).trans (hc j u hj)⟩;obtain⟨HN,H1⟩:=Yb N h1;have a0:0+n<=maxLen:=by unfold maxLen;omega
   clear N hc h1 hl a2;go_in;go_wp2_with(at_builtin;refine Qak _ rfl _ _ 108 rfl w.heap.size 46 i0 (.pointer none) 1 8 underlying108 hi a3 a1 a4 rfl oN ⟨some ⟨w,0,none⟩,0⟩ 0 [] rfl (World.ownsRow_made w #[] 0 (ao _) oN rfl) F ⟨some ⟨b,o,none⟩,c⟩ n cs rfl HN.o H1.o a0 oM sM ?_;intro s' w1 I Z _;simp only[Nat.zero_add,List.nil_append]at I);go_ret;exact⟨s',sM,I,((fI w).alloc _ _).wr Z (by rintro i ⟨⟩;exact ao _)⟩
theorem Qb9{t:PT (h+1)}(Z:IsN w F (h+1) t)(hs:t.2.length<=1000):Calls prog 67 #[ptr (h+1) t] w (Qet 46 t.2.length (ptrs h t.2) w):=by
 obtain⟨-,s,N,I,-⟩:=Z;have h1:w.cell? ⟨addr (h+1) t,1,none⟩=some (.slice s.a t.2.length s.c):=N.c7.2.1;have hc:=QoL I (QbF _ _) hs;have HR:=hY I;clear N I;go_in;go_wp2_with fail;refine hc.mono ?_;rintro e w' ⟨s',rfl,h2,h3⟩;have H2:=hY h2;clear h2;go_wp2_with fail;go_ret;exact⟨s',rfl,H2.o,h3⟩
theorem QjP{t:PT 0}(N:IsN w F 0 t):Calls prog 67 #[ptr 0 t] w λe w'=>e=.returned (.slice none 0 0)/\w=w':=by
 obtain⟨-,s,xs,I,-,-⟩:=N;have h1:w.cell? ⟨addr 0 t,1,none⟩=some (.slice none 0 0):=I.c7.2.1;have Z:=QoM w;clear I;go_in;go_wp2_with fail;refine Z.mono ?_;rintro e w' ⟨rfl,rfl⟩;go_wp2_with fail;go_ret;exact⟨rfl,rfl⟩
structure OE(w:World)(base:Nat)(s:Sl)(xs:List LE):Prop where
 own:w.ownsRow base 78 7 (.slice s.a xs.length s.c) xs.length (QaD xs)
 vals:QmT w (λb=>(base<=b/\b<w.heap.size)/\s.row≠some b) xs
 few:xs.length*104<=140737488355328
theorem OE.nil(w:World)(base:Nat):OE w base Sl.none []:=⟨World.ownsRow_nil _ _ _ _,λx h=>by simp at h,sM⟩
theorem OE.es{base:Nat}(h:OE w base s xs):ES w (In base w.heap.size) s xs:=⟨fP h.own,h.vals.mono λ_ hi=>hi.1,h.few⟩
theorem Qab{base e size n:Nat}{xs:List Value}(h:w.ownsRow base e size (.slice s.a n s.c) n xs)(ha:Agree F w w')(hF:∀b,s.row=some b->F b):w'.ownsRow base e size (.slice s.a n s.c) n xs:=by
 refine⟨h.1,?_⟩;rcases h.2 with hl |⟨g,I,N,Z,hg,hh,r⟩
 .exact .inl hl
 refine .inr ⟨g,I,N,Z,hg,?_,r⟩;simp only[Value.slice.injEq]at Z;exact(ha g (hF g (by simp[Sl.row,Z.1]))).trans hh
theorem OE.ext{base:Nat}(h:OE w base s xs)(I:Ext w w'):OE w' base s xs:=
 ⟨Qab h.own (I.agree (F:=Lt w) λ_ hi=>hi) λb N=>(h.own.lt b (by obtain⟨a,c⟩:=s;cases a<;>simp_all [Value.ownBlock,Sl.row])).2,
   (h.vals.agree (I.agree λ_ hi=>hi.1.2)).mono λi hi=>⟨⟨hi.1.1,ab hi.1.2 I.size⟩,hi.2⟩,h.few⟩
theorem Qe8.own(Z:Qap w B 78 7 xs.length)(hk:∀j x,xs[j]? = some x->w.cell? ⟨B,j*7,none⟩=some (.string x.k)/\QaV w B (j*7+1) x.v x.sl x.so)(hn:n<=B)(hm:xs.length<=maxLen) :
  w.ownsRow n 78 7 (.slice (some ⟨B,0,none⟩) xs.length xs.length) xs.length (QaD xs):=by
 obtain⟨I,h1,h2⟩:=Z;refine⟨QcR xs,.inr ⟨B,xs.length,I,rfl,hn,h1,ao _,hm,h2,?_⟩⟩;rw[aO (by rw[aP,h2];exact ao _)];apply bI;intro p;by_cases hp:p<xs.length*7
 ·obtain ⟨j,c,rfl,a0⟩:∃ j c,p=j*7+c∧c<7:=⟨p / 7,p % 7,oM,oM⟩
  obtain⟨x,hx⟩:∃x,xs[j]? = some x:=⟨_,ac oM⟩;obtain⟨e0,e⟩:=hk _ _ hx;rw[Qc4 hx c a0];have hc:∀o,w.cell? ⟨B,o,none⟩=I.toList[o]?:=λo=>by rw[fb w B o I _ _ h1];simp
  rw[<-hc];have N:c=0\/c=1\/c=2\/c=3\/c=4\/c=5\/c=6:=oM
  rcases N with rfl|rfl|rfl|rfl|rfl|rfl|rfl
  .exact e0
  .exact e.c0
  .exact e.c1
  .exact e.c2
  .exact e.c3
  .exact e.c4
  exact e.c5
 rw[aJ (by rw[aP,h2];omega),aJ (by rw[QcR];omega)]
def Qhi(xs:List LE)(w:World)(e:Ending)(w':World):Prop:=
 ∃(s':Sl) (xs':List LE),e=.returned (.slice s'.a xs'.length s'.c)/\xs'.map LE.ent=xs.map LE.ent/\OE w' w.heap.size s' xs'/\Ext w w'
theorem Qhr(hs:ES w (Lt w.heap.size) s xs):Calls prog 112 #[.slice s.a xs.length s.c] w (Qhi xs w):=by
 obtain⟨i0,hi,b8,d7,b9⟩:=eE Tryz.Qa8;have a6:=hs.few;have c6:=λW=>QbG (P:=prog) 41 78 i0 _ underlying41 hi b8 .i64 .i64 xs.length xs.length (ao _) (by rw[b9];omega) oM W
 have HS:=hY hs;clear hs;go_in;go_wp2_with fail;clear c6;generalize a2:World.alloc _ _=W0;have a5:Ext w W0:=by rw[<-a2];exact(fI w).alloc _ _
 have hz:W0.heap.size=w.heap.size+1:=by rw[<-a2];simp
 have a3:Qap W0 w.heap.size 78 7 (xs.map LE.k).length:=by
  rw[<-a2,aq];exact Qap.made _ (fm _ _)
 clear a2;go_loopw[11] (λq wr=>∃(j:Nat) (f:Nat->Sl × Sl),j<=xs.length/\q=.int .i64 j/\Ext w wr/\Qe8 wr w.heap.size 78 (xs.map LE.k) (xs.map LE.v) j f) (λq _=>xs.length -(intOf q).toNat)
 case atStart=>exact⟨0,λ_=>(Sl.none,Sl.none),aA _,rfl,a5,Qe8.start a3 _⟩
 clear a5 hz a3 W0;obtain⟨j,f,hj,rfl,N,hf⟩:=hrel;have e1:w.heap.size<wr.heap.size:=hf.row.lt;by_cases b3:j<xs.length
 ·obtain ⟨x,a4⟩:∃ x,xs[j]? = some x:=⟨_,ac b3⟩
  have a1:Agree (Lt w.heap.size) w wr:=N.agree λ_ h=>h
  obtain⟨b,o,ha,a7,d0,d4,b7,hv,a8,c0⟩:=HS.o.at a4;obtain⟨v0,v1,v2,v3,v4,v5⟩:=(hv.agree a1 a7).m;have vk:=(a1.cell a7).trans b7;have c2:∀W,Ext wr W->Calls prog 55 #[QbV x.v x.sl x.so] W (Qeu x.v W):=λW hW=>
   QdS _ x.v (ao _) W _ _ ((a8.agree (a1.trans (hW.agree λ_ h=>ab h N.size))).mono λi hi=>ab hi (an N.size hW.size))
  obtain⟨b5,HF,HX⟩:=Yc a4 hf N;have d5:¬w.heap.size=wr.heap.size:=oM
  have I:=hf.row;rw[aq]at I;obtain⟨x0,a5⟩:∃v,wr.cell? ⟨w.heap.size,j*7,none⟩=some v:=I.cell oM;obtain⟨x1,e2⟩:∃v,wr.cell? ⟨w.heap.size,j*7+1,none⟩=some v:=I.cell oM;obtain⟨x2,c9⟩:∃v,wr.cell? ⟨w.heap.size,j*7+2,none⟩=some v:=I.cell oM;obtain⟨x3,d3⟩:∃v,wr.cell? ⟨w.heap.size,j*7+3,none⟩=some v:=I.cell oM;obtain⟨x4,e0⟩:∃v,wr.cell? ⟨w.heap.size,j*7+4,none⟩=some v:=I.cell oM;obtain⟨x5,e3⟩:∃v,wr.cell? ⟨w.heap.size,j*7+5,none⟩=some v:=I.cell oM;obtain⟨x6,d6⟩:∃v,wr.cell? ⟨w.heap.size,j*7+6,none⟩=some v:=I.cell oM;have d8:=I.frozen;rw[ha];have HA:=hY ha;clear a4 a1 hf N hv b7 I ha a8 c0;go_wp2_with fail;go_region_held3 (λw'=>w'.cell? ⟨wr.heap.size,0,none⟩=some (.string x.k)/\w'.cell? ⟨wr.heap.size,1,none⟩=some (.int .i64 x.v.kind)/\w'.cell? ⟨wr.heap.size,2,none⟩=some (.bool x.v.b)/\w'.cell? ⟨wr.heap.size,3,none⟩=some (.int .i64 x.v.i)/\w'.cell? ⟨wr.heap.size,4,none⟩=some (.string x.v.t)/\w'.cell? ⟨wr.heap.size,5,none⟩=some (.slice x.sl.a x.v.l.length x.sl.c)/\w'.cell? ⟨wr.heap.size,6,none⟩=some (.slice x.so.a x.v.ok.length x.so.c)) (go_keep)
   ((go_at_call 55;refine(c2 _ (((fI wr).alloc _ _).drew)).mono ?_;rintro e w1 ⟨c7,c1,rfl,b6,c4⟩;have c8:=b6.olds))
  have b0:Ext wr w1:=(((fI wr).alloc _ _).drew).trans b6;have a9:=HF.o.step b0 (x:=x.k) (d:=x.v) (by rw[au,b5.o];rfl) (by rw[au,b5.o];rfl) (c4.mono λi hi=>⟨Nat.le_trans sM hi.1,hi.2⟩);have hX:=(HX.o.trans b0).QeW (b:=w.heap.size) (ao _) (j*7) x.k x.v c7 c1;have c3:=hY a9;clear a9;go_wp2_with fail;go_roundw
  case rel=>exact⟨j+1,_,b3,by go_num,hX,c3.o⟩
  simp[intOf];omega
 obtain rfl:j=xs.length:=oM
 have HF:=hY hf;clear hf;go_wp2_with fail;go_ret;have hf:=HF.o;obtain⟨a0,b4,Z⟩:∃a0:List LE,(∀(j:Nat) (x:LE),a0[j]? = some x->∃y:LE,xs[j]? = some y/\x=LE.mk y.k y.v (f j).1 (f j).2)/\a0.length=xs.length/\a0.map LE.ent=xs.map LE.ent:=by
  refine⟨xs.mapIdx λj y=>LE.mk y.k y.v (f j).1 (f j).2,λj x N=>?_,sM,?_⟩
  ·rw [da] at N
   cases hy:xs[j]? with
   |none=>rw[hy]at N;cases N
   |some y=>rw[hy]at N;exact⟨y,rfl,by simpa using N.symm⟩
  apply bI;intro j;rw[au,da,au];cases xs[j]?<;>rfl
 have hb:∀(j:Nat) (x:LE),a0[j]? = some x->j<xs.length/\(xs.map LE.k)[j]? = some x.k/\(xs.map LE.v)[j]? = some x.v/\x.sl=(f j).1/\x.so=(f j).2:=λj x N=>by
  obtain⟨y,hy,rfl⟩:=b4 j x N;exact⟨(ai.1 hy).1,by rw[au,hy];rfl,by rw[au,hy];rfl,rfl,rfl⟩
 have I:=hf.row;rw[aq,<-Z.1]at I;refine⟨⟨some ⟨w.heap.size,0,none⟩,a0.length⟩,a0,by simp[Z.1],Z.2,OE.mk ?_ ?_ (by rw[Z.1];exact a6),N⟩
 .exact Qe8.own I (λj x N=>by
   obtain⟨h1,h2,h3,h4,h5⟩:=hb j x N;rw[h4,h5];exact⟨hf.keys j _ h1 h2,hf.cells j _ h1 h3⟩) (ao _) (by rw[Z.1];unfold maxLen;omega)
 intro x N;obtain⟨j,hj⟩:=bz N;obtain⟨h1,h2,h3,h4,h5⟩:=hb j x hj;rw[h4,h5];refine⟨(hf.reads j _ h1 h3).mono λi hi=>⟨⟨oM,hi.2⟩,by simp[Sl.row];omega⟩,?_⟩;obtain⟨y,hy,rfl⟩:=b4 j x hj;exact(HS.o.vals y (ap hy)).2
abbrev ff:=@World.size_drew
abbrev Qfu(k:ByteArray)(v:Val)(sl so:Sl):Value:=.agg #[.string k,.int .i64 v.kind,.bool v.b,.int .i64 v.i,.string v.t,.slice sl.a v.l.length sl.c,.slice so.a v.ok.length so.c]
def QaU(es:List Ent)(w:World)(e:Ending)(w':World):Prop:=
 ∃(s':Sl) (xs':List LE),e=.returned (.slice s'.a xs'.length s'.c)/\xs'.map LE.ent=es/\OE w' w.heap.size s' xs'/\Ext w w'
theorem Qej(w:World):Calls prog 76 #[.pointer none] w λe w'=>e=.returned (.slice none 0 0)/\w=w':=by
 go_in;go_wp2;go_ret;exact⟨rfl,rfl⟩
theorem Qin{t:PT (h+1)}(N:IsN w F (h+1) t):Calls prog 76 #[ptr (h+1) t] w λe w'=>e=.returned (.slice none 0 0)/\w=w':=by
 obtain⟨-,s,I,-⟩:=N;have Z:w.cell? ⟨addr (h+1) t,0,none⟩=some (.slice none 0 0):=I.c7.1;clear I;go_in;go_wp2;go_ret;exact⟨rfl,rfl⟩
theorem Qa5{t:PT 0}(hn:IsN w (Lt w) 0 t):Calls prog 76 #[ptr 0 t] w (QaU (ents 0 t) w):=by
 obtain⟨-,s,xs,hb,hs,N⟩:=hn;have h0:w.cell? ⟨addr 0 t,0,none⟩=some (.slice s.a xs.length s.c):=hb.c7.1;have hc:=Qhr hs;have HX:=hY N;clear hb N;by_cases hl:xs.length=0
 ·have I:xs=[]:=ar hl
  subst I;clear hc;go_in;go_wp2_with fail;go_ret;exact⟨Sl.none,[],rfl,HX.o,OE.nil _ _,fI _⟩
 have I:((xs.length:Int)==0)=false:=ev.2 oM;clear hl;go_in;go_wp2_with fail;refine hc.mono ?_;rintro e w' ⟨s',Z,rfl,h1,h2,h3⟩;have H1:=hY h1;clear h1;go_wp2_with fail;go_ret;exact⟨s',Z,rfl,H1.o.trans HX.o,h2,h3⟩
def zeroV:Val:=.mk 0 false 0 ByteArray.empty [] [] []
def Qdq(k:ByteArray)(v:Val)(w:World)(e:Ending)(w':World):Prop:=
 ∃sl so,e=.returned (.tuple #[Qfu k v sl so,.bool true])/\Ext w w'/\RVC w' (In w.heap.size w'.heap.size) v sl so
theorem Qjx{t:PT 0}(hn:IsN w (Lt w.heap.size) 0 t){i:Nat}{k:ByteArray}{v:Val}(hi:(ents 0 t)[i]? = some (k,v)) :
  Calls prog 72 #[ptr 0 t,.int .i64 i] w (Qdq k v w):=by
 obtain⟨-,s,xs,hb,hs,a2⟩:=hn;have h0:w.cell? ⟨addr 0 t,0,none⟩=some (.slice s.a xs.length s.c):=hb.c7.1;have b8:addr 0 t<w.heap.size:=hb.lt;obtain⟨x,hx,rfl,rfl⟩:∃x,xs[i]? = some x/\x.k=k/\x.v=v:=by
  rw[show ents 0 t=xs.map LE.ent from a2.symm,au]at hi;cases hx:xs[i]? with
  |none=>rw[hx]at hi;cases hi
  |some x=>rw[hx]at hi;simp[LE.ent]at hi;exact⟨x,rfl,hi.1,hi.2⟩
 obtain⟨b,o,ha,a0,b5,b7,c0,hv,a1,a6⟩:=hs.at hx;obtain⟨v0,v1,v2,v3,v4,v5⟩:=hv.m;have b6:i<xs.length:=(ai.1 hx).1;have a8:=hs.few;have a9:(i:Int)<(xs.length:Int):=oM
 have b3:decide ((xs.length:Int)<=(i:Int))=false:=by simp;omega
 have b9:decide ((i:Int)<0)=false:=sM
 have a7:∀W,Ext w W->Calls prog 55 #[QbV x.v x.sl x.so] W (Qeu x.v W):=λW hW=>
  QdS _ x.v (ao _) W _ _ ((a1.agree (hW.agree λ_ h=>h)).mono λi hi=>ab hi hW.size)
 rw[ha]at h0;have b0:b<w.heap.size:=a0;clear hb a2 hs hi hv a1 a6 ha hx a0;go_in;go_wp2_with fail;go_region_held3 (λw'=>w'.cell? ⟨w.heap.size+1,0,none⟩=some (.string x.k)/\w'.cell? ⟨w.heap.size+1,1,none⟩=some (.int .i64 x.v.kind)/\w'.cell? ⟨w.heap.size+1,2,none⟩=some (.bool x.v.b)/\w'.cell? ⟨w.heap.size+1,3,none⟩=some (.int .i64 x.v.i)/\w'.cell? ⟨w.heap.size+1,4,none⟩=some (.string x.v.t)/\w'.cell? ⟨w.heap.size+1,5,none⟩=some (.slice x.sl.a x.v.l.length x.sl.c)/\w'.cell? ⟨w.heap.size+1,6,none⟩=some (.slice x.so.a x.v.ok.length x.so.c)) (go_keep)
  ((go_at_call 55;refine(a7 _ ((((fI w).alloc _ _).alloc _ _).drew)).mono ?_;rintro e w1 ⟨I,N,rfl,Z,a3⟩;have b4:=Z.olds))
 have hX:Ext w w1:=((((fI w).alloc _ _).alloc _ _).drew).trans Z;go_wp2_with fail;have a5:Blk w1 w.heap.size 78 #[.string ByteArray.empty,.int .i64 0,.bool false,.int .i64 0,.string ByteArray.empty,.slice none 0 0,.slice none 0 0]:=(Z.heap (by rw[ff,ew,ew];omega)).trans (heap_alloc2_old w _ _);obtain⟨q0,q1,q2,q3,q4,q5,q6⟩:=a5.c7;refine eB (v:=.tuple #[Qfu x.k x.v I N,.bool true]) (by simp[results,results72,go_sem,q0,q1,q2,q3,q4,q5,q6]) rfl ?_;have hE:Ext w (QeW w1 w.heap.size 0 x.k x.v I N):=hX.QeW (ao _) 0 x.k x.v I N;refine⟨I,N,rfl,hE,?_,a3.cap⟩;show RV (QeW w1 w.heap.size 0 x.k x.v I N) (In w.heap.size (QeW w1 w.heap.size 0 x.k x.v I N).heap.size) _ _ _;rw[QgS];have a4:RV w1 (In (w.heap.size+1) w1.heap.size) x.v I N:=a3.mono λi hi=>⟨by have:=hi.1;simp at this;omega,hi.2⟩
 exact(a4.agree (QcY _ _ _ _ _ _ _ oM)).mono λi hi=>⟨oM,hi.2⟩
theorem Qhs{t:PT 0}(hn:IsN w (Lt w) 0 t){i:Int}(hi:i<0\/(ents 0 t).length<=i) :
  Calls prog 72 #[ptr 0 t,.int .i64 i] w λe w'=>e=.returned (.tuple #[Qfu ByteArray.empty zeroV Sl.none Sl.none,.bool false])/\Ext w w':=by
 obtain⟨-,s,xs,Z,hs,N⟩:=hn;have h0:w.cell? ⟨addr 0 t,0,none⟩=some (.slice s.a xs.length s.c):=Z.c7.1;have a2:addr 0 t<w:=Z.lt;have hl:(ents 0 t).length=xs.length:=by rw[show ents 0 t=xs.map LE.ent from N.symm,aq]
 rw[hl]at hi;clear Z hs N hl;by_cases I:i<0
 ·have a0:decide (i<0)=true:=by simpa using I
  clear hi I;go_in;go_wp2_with fail;refine eB (v:=.tuple #[Qfu ByteArray.empty zeroV Sl.none Sl.none,.bool false]) (by simp[results,results72,go_sem];exact⟨rfl,rfl,rfl,rfl,rfl,rfl,rfl⟩) rfl ⟨rfl,(fI w).alloc _ _⟩
 have a1:decide ((xs.length:Int)<=i)=true:=by simp;omega
 have a0:decide (i<0)=false:=by simpa using I
 clear hi I;go_in;go_wp2_with fail;refine eB (v:=.tuple #[Qfu ByteArray.empty zeroV Sl.none Sl.none,.bool false]) (by simp[results,results72,go_sem];exact⟨rfl,rfl,rfl,rfl,rfl,rfl,rfl⟩) rfl ⟨rfl,(fI w).alloc _ _⟩
abbrev eP:=@enters_of
abbrev fc:=@Bool.not_eq_true'
def Qct(es:List Ent)(k:ByteArray):Nat:=(es.takeWhile λe=>klt e.1 k).length
theorem Qp8(es:List Ent)(k:ByteArray):Qct es k<=es.length:=(List.takeWhile_sublist _).length_le
theorem Qlr{es:List Ent}{k:ByteArray}{p:Nat}(Z:p<=es.length)(N:∀i e,i<p->es[i]? = some e->klt e.1 k=true)(I:∀e,es[p]? = some e->klt e.1 k=false):Qct es k=p:=by
 induction es generalizing p with
 |nil=>simp at Z;subst Z;rfl
 | cons a es ih=>
   cases p with
   |zero=>simp[Qct,I a rfl]
   | succ p=>
     have h0:=N 0 a oM rfl;have:=ih (p:=p) (by simpa using Z) (λi e hi he=>N (i+1) e oM (by simpa using he)) (λe he=>I e (by simpa using he));simp only[Qct,List.takeWhile_cons,h0,if_true,List.length_cons];rw[<-this];rfl
theorem QdK{es:List Ent}(h:Sorted es){i j:Nat}(I:i<j){a b:Ent}(ha:es[i]? = some a)(N:es[j]? = some b):klt a.1 b.1=true:=by
 obtain⟨hi,rfl⟩:=ai.1 ha;obtain⟨Z,rfl⟩:=ai.1 N;exact List.pairwise_iff_getElem.1 h i j hi Z I
variable{W:World}{b1 b2:Nat}
theorem QnG(hs:ES w (Lt w) s xs){k:ByteArray}(h1:W.cell? ⟨b1,0,none⟩=some (.slice s.a xs.length s.c))(h2:W.cell? ⟨b2,0,none⟩=some (.string k))(hx:Ext w W)
  {i:Nat} (hi:xs[i]? = some x):Calls prog 113 #[.int .i64 i,.pointer (some ⟨b1,0,none⟩),.pointer (some ⟨b2,0,none⟩)] W λe w'=>e=.returned (.bool !(klt x.k k))/\Ext W w':=by
 obtain⟨b,o,ha,N,a1,a2,I,-⟩:=hs.at hi;have hk:W.cell? ⟨b,o+i*7,none⟩=some (.string x.k):=(hx.cell N).trans I;have a3:i<xs.length:=(ai.1 hi).1;have a0:(i:Int)<(xs.length:Int):=oM
 have Z:=hs.few;rw[ha]at h1;clear hs hi hx ha I;go_in;go_wp2_with fail;go_quiet (fail);go_wp2;go_ret;exact⟨rfl,(fI W).drewN _⟩
def Qgf(es:List Ent)(k:ByteArray)(w:World)(e:Ending)(w':World):Prop:=
 e=.returned (.tuple #[.int .i64 (Qct es k),.bool (decide ((es[Qct es k]?).map Prod.fst=some k))])/\Ext w w'
theorem Qkd(hs:ES w (Lt w) s xs)(k:ByteArray)(N:Sorted (xs.map LE.ent)) :
  Calls prog 77 #[.slice s.a xs.length s.c,.string k] w (Qgf (xs.map LE.ent) k w):=by
 have b6:=hs.few;obtain⟨HS,HO⟩:=Yb hs N;have a7:∀W,Ext w W->W.cell? ⟨w,0,none⟩=some (.slice s.a xs.length s.c)->W.cell? ⟨w+1,0,none⟩=some (.string k)->
   Calls prog 69 #[.int .i64 xs.length,.func (.func 113) #[] #[.pointer (some ⟨w,0,none⟩),.pointer (some ⟨w+1,0,none⟩)]] W (QcL xs.length (λi=>!(klt ((xs[i]?.map LE.k).getD ByteArray.empty) k)) W):=by
  intro W hW h1 h2;refine Qd0 113 _ _ xs.length _ W (eP func113 kM rfl) oM ?_ ?_
  ·intro i W' hi a5
   obtain⟨x,I⟩:∃x,xs[i]? = some x:=⟨_,ac hi⟩;rw[I];have a0:=eH W _ h1;have a1:=eH W _ h2;exact QnG HS.o ((a5.cell a0).trans h1) ((a5.cell a1).trans h2) (hW.trans a5) I
  intro i j b8 hj Z;by_cases a6:i=j
  .subst a6;exact Z
  have a4:=HO.o;obtain⟨x,I⟩:∃x,xs[i]? = some x:=⟨_,ac oM⟩;obtain⟨y,hy⟩:∃y,xs[j]? = some y:=⟨_,ac hj⟩;have b4:=QdK a4 (i:=i) (j:=j) oM (by rw[au,I];rfl) (by rw[au,hy];rfl);rw[I]at Z;rw[hy];simp only[Option.map_some,Option.getD_some,Bool.not_eq_true']at Z ⊢;cases b5:klt y.k k
  .rfl
  have:=QaH b4 b5;rw[show klt x.ent.1 k=klt x.k k from rfl,Z]at this;cases this
 clear hs N;go_in;go_wp2_with fail;refine(a7 _ (((fI w).alloc _ _).alloc _ _) sM sM).mono ?_;rintro e w1 ⟨p,rfl,hp,a8,a9,a2⟩;have a0:Blk w1 w.heap.size 41 #[.slice s.a xs.length s.c]:=(a2.heap (by rw[ew,ew];omega)).trans (heap_alloc2_old w _ _);have a1:Blk w1 (w.heap.size+1) 9 #[.string k]:=(a2.heap (by rw[ew,ew];omega)).trans (heap_alloc2_new w _ _);have q1:=a0.cell 0;have q2:=a1.cell 0;have hX:Ext w w1:=(((fI w).alloc _ _).alloc _ _).trans a2;have a3:Qct (xs.map LE.ent) k=p:=Qlr (by simpa using hp) (λi e hi he=>by
   rw[au]at he;obtain⟨x,I,rfl⟩:=dz.1 he;have:(!(klt ((xs[i]?.map LE.k).getD ByteArray.empty) k))=false:=a8 i hi;rw[I]at this;show klt x.k k=true;simpa using this) (λe he=>by
   rw[au]at he;obtain⟨x,I,rfl⟩:=dz.1 he;have:(!(klt ((xs[p]?.map LE.k).getD ByteArray.empty) k))=true:=a9 p (ao _) (ai.1 I).1;rw[I]at this;show klt x.k k=false;simpa using this)
 have HP:=hY a3;clear a8 a9 a3 a7 a2 a0 a1;simp only[List.getElem?_toArray,List.getElem?_cons_zero]at q1 q2;by_cases a4:p<xs.length
 ·obtain ⟨x,I⟩:∃ x,xs[p]? = some x:=⟨_,ac a4⟩
  obtain⟨b,o,ha,b3,b9,c0,b0,-⟩:=HS.o.at I;have hk:w1.cell? ⟨b,o+p*7,none⟩=some (.string x.k):=(hX.cell b3).trans b0;have hd:decide ((p:Int)<(xs.length:Int))=true:=by simp;omega
  have b7:(p:Int)<(xs.length:Int):=oM
  obtain⟨HX,HE⟩:=Yb I hX;rw[ha]at q1;clear b0 I hX ha;go_wp2_with fail;go_quiet (fail);go_wp2;go_ret2;refine⟨?_,HE.o.drewN _⟩;rw[HP.o,au,HX.o];show Ending.returned (.tuple #[.int .i64 p,.bool (x.k.toList==k.toList)])=_;rw[beq_toList];simp[LE.ent]
 have hd:decide ((p:Int)<(xs.length:Int))=false:=by simp;omega
 have HE:=hY hX;clear hX;go_wp2_with fail;go_quiet (fail);go_wp2;go_ret2;refine⟨?_,HE.o.drewN _⟩;rw[HP.o,au,aJ oM];rfl
abbrev ey:=@IntKind.wrap_i64
abbrev e9:=@World.cell?_drew
def Qev(base:Nat)(s:Sl)(n i:Nat)(xs ys:List Value)(w:World)(e:Ending)(w':World):Prop:=
 ∃s':Sl,e=.returned (.slice s'.a (n+1) s'.c)/\w'.ownsRow base 78 7 (.slice s'.a (n+1) s'.c) (n+1) (xs.take (i*7)++ys++xs.drop (i*7))/\Wr w w' s.row/\(s'.row=s.row\/∃b,s'.row=some b/\w.heap.size<=b)
section
variable{w : World}{base n i : Nat}{s : Sl}{xs ys : List Value}{vb : Nat}
theorem Qrx(I:w.ownsRow base 78 7 (.slice s.a n s.c) n xs)(a0:base<=w.heap.size)(hn:n<=1000)(hy:ys.length=7)(hv:Blk w vb 78 ys.toArray)(h1:∀u∈ys,u.oneCell'=true) :
  Calls prog 78 #[.slice s.a n s.c,.int .i64 n,.slice (some ⟨vb,0,none⟩) 1 1] w (Qev base s n n xs ys w):=by
 obtain⟨i0,hi,a2,a4,a3⟩:=eE Tryz.Qa8;have N:Rd w (λ_=>True) 7 ⟨some ⟨vb,0,none⟩,1⟩ 1 ys:=⟨vb,0,.some _ _ _ _ (ao _) oN trivial,by simpa using hy,λj u hj=>by rw[hv.cell];simpa using hj⟩;have a1:xs.take (n*7)++ys++xs.drop (n*7)=xs++ys:=by
  rw[aO (by rw[I.1];exact ao _),bS (by rw[I.1];exact ao _),aW]
 obtain⟨HO,HS,H1,HX⟩:=Ye I N h1 a1;have a6:n+1<=maxLen:=by unfold maxLen;omega
 have a8:n<=s.c:=by
  rcases I.2 with⟨hv,h0⟩ |⟨g,a9,b0,hv,_,_,b4,_⟩
  .omega
  simp only[Value.slice.injEq]at hv;omega
 have b3:((n:Int) ==(n:Int))=true:=sM
 clear I N hv h1 hy a1;obtain⟨sa,sc⟩:=s;dsimp only at *;go_in;go_wp2_with(at_builtin;refine Qak _ rfl _ _ 41 rfl base 78 i0 (.agg #[.string ByteArray.empty,.int .i64 0,.bool false,.int .i64 0,.string ByteArray.empty,.slice none 0 0,.slice none 0 0]) 7 104 underlying41 hi a2 a4 a3 rfl oN ⟨sa,sc⟩ n xs rfl HO.o (λ_=>True) ⟨some ⟨vb,0,none⟩,1⟩ 1 ys rfl HS.o H1.o a6 oM a0 ?_;intro s' w1 Z a5 a7)
 all_goals
  go_ret;refine⟨s',sM,by rw[HX.o];exact Z,a5,?_⟩;rcases a7 with h |⟨h,-⟩
  .exact .inl (by simp[Sl.row,h])
  exact .inr ⟨w,by simp[Sl.row,h],ao _⟩
theorem Qnl{g cap:Nat}{I:Array Value}(a9:xs.length=n*7)(c2:base<=g)(hg:w.heap[g]? = some (.cells I 78 (0,0)))(a8:n+1<=cap)(b9:cap<=maxLen)(c1:I.size=cap*7)(N:I.toList.take (n*7)=xs)
  (hn:n<=1000) (e1:i<n) (hy:ys.length=7) (hv:Blk w vb 78 ys.toArray) (c0:vb≠g) (h1:∀u∈ys,u.oneCell'=true) (b7:∀u∈xs,u.oneCell'=true) :
  Calls prog 78 #[.slice (some ⟨g,0,none⟩) n cap,.int .i64 i,.slice (some ⟨vb,0,none⟩) 1 1] w (Qev base ⟨some ⟨g,0,none⟩,cap⟩ n i xs ys w):=by
 obtain⟨i0,hi,d3,a6,d4⟩:=eE Tryz.Qa8;have c9:((i:Int) ==(n:Int))=false:=ev.2 oM;have c6:(i:Int)<(n:Int):=oM
 have d7:¬(cap:Int)<(n:Int)+1:=oM
 have c8:(cap:Int)<=9223372036854775807:=by unfold maxLen at b9;omega
 have d0:¬cap=i:=oM
 have d8:¬cap=i+1:=oM
 have e2:IntKind.i64.wrap ((i:Int)+1)=(i:Int)+1:=by rw[ey];omega
 have d5:(0:Int)<=(i:Int)+1:=oM
 have d6:((i:Int)+1).toNat=i+1:=oM
 have c7:i<=n:=oM
 have e0:(i:Int)<=(n:Int)+1:=oM
 have c3:∀lb cb,(callFunc 114 #[.slice (some ⟨vb,0,none⟩) 1 1,.slice (some ⟨g,(i+1)*7,none⟩) lb cb]).run prog w=.ok (.value (.bool false)) w:=λlb cb=>by
  rw[run_callFunc_extern func114 kM kM kM (e:=Extern.SlicesOverlaps.overlaps #[41,41] #[4]) kM,
   Lib.run_overlaps_apart w 41 4 78 underlying41 7 (λw=>by simp[sizeOf,typeInfo,hi,a6]) ⟨vb,0,none⟩ ⟨g,(i+1)*7,none⟩ 1 1 lb cb c0 78 78 ys.toArray.size I.size (by simp[World.shape?,show w.heap[vb]? = some (.cells ys.toArray 78 (0,0))from hv]) (by simp[World.shape?,hg]) oM (hv.frozen _) (hv.frozen _)]
  rfl
 have a5:(xs.drop (i*7)).length=(n-i)*7:=by rw[aw,a9,<-de]
 have b5:∀j v,(xs.drop (i*7))[j]? = some v->w.drew.cell? ⟨g,i*7+j,none⟩=some v:=λj v hj=>by
  rw[e9,fb w g _ I 78 (0,0) hg];rw[bc,<-N,be]at hj;split at hj
  .simpa using hj
  cases hj
 obtain⟨Z,a3⟩:∃Z,Z=(I.toList.take ((i+1)*7)++xs.drop (i*7)++I.toList.drop ((i+1)*7+(xs.drop (i*7)).length)).toArray:=⟨_,rfl⟩;obtain⟨W1,a0⟩:∃W1,W1=w.drew.setRow g Z:=⟨_,rfl⟩;have b4:∀ty dc sc,(Builtin.copy_ #[41,41] ty #[.slice (some ⟨g,(i+1)*7,none⟩) (n-i) dc,.slice (some ⟨g,i*7,none⟩) (n+1-i) sc]).run prog w.drew=.ok (goInt (Nat.min (n+1-i) (n-i))) W1:=λty dc sc=>by
  rw[a0,a3];exact QbA w.drew 41 41 ty 78 7 g ((i+1)*7) (n-i) dc ⟨some ⟨g,i*7,none⟩,sc⟩ (n+1-i) I 78 (xs.drop (i*7)) underlying41 (by rw[hi];simp[a6]) hg
   (by rw[a5,show Nat.min (n+1-i) (n-i)=n-i from by simp only[Nat.min_def];split<;>omega]) sM (by rintro b o' ⟨⟩;exact b5) (by rintro a ⟨⟩;rfl) (by rw[a5];omega) (λu hu=>b7 u (aM hu))
 have c4:Z.size=I.size:=by rw[a3];simp;omega
 have a7:W1.heap[g]? = some (.cells Z 78 (0,0)):=by rw[a0];exact eU w.drew g I Z 78 (0,0) hg
 have b3:Blk W1 vb 78 ys.toArray:=by rw[a0];exact(fB w.drew g vb Z c0).trans hv
 obtain⟨A2,a2⟩:∃A2,A2=(Z.toList.take (i*7)++ys++Z.toList.drop (i*7+ys.length)).toArray:=⟨_,rfl⟩;obtain⟨W2,a1⟩:∃W2,W2=W1.setRow g A2:=⟨_,rfl⟩;have b8:∀ty dc,(Builtin.copy_ #[41,41] ty #[.slice (some ⟨g,i*7,none⟩) (n+1-i) dc,.slice (some ⟨vb,0,none⟩) 1 1]).run prog W1=.ok (goInt (Nat.min 1 (n+1-i))) W2:=λty dc=>by
  rw[a1,a2];exact QbA W1 41 41 ty 78 7 g (i*7) (n+1-i) dc ⟨some ⟨vb,0,none⟩,1⟩ 1 Z 78 ys underlying41 (by rw[hi];simp[a6]) a7
   (by rw[hy,show Nat.min 1 (n+1-i)=1 from by simp only[Nat.min_def];split<;>omega]) sM (by rintro b o' ⟨⟩;exactλj v hj=>by rw[b3.cell];simpa using hj) (by rintro a ⟨⟩;rfl) oM h1
 have b0:W2.heap[g]? = some (.cells A2 78 (0,0)):=by rw[a1];exact eU W1 g Z A2 78 (0,0) a7
 have b6:Wr w W2 (some g):=by
  rw[a1,a0];exact((Wr.refl w (some g)).drew.trans (fV w.drew Z) (λi hi=>.inl hi)).trans (fV (w.drew.setRow g Z) A2) (λi hi=>.inl hi)
 have a4:W2.ownsRow base 78 7 (.slice (some ⟨g,0,none⟩) (n+1) cap) (n+1) (xs.take (i*7)++ys++xs.drop (i*7)):=by
  refine⟨by simp[a9,hy];omega,.inr ⟨g,cap,A2,rfl,c2,b0,a8,b9,by rw[a2];simp;omega,?_⟩⟩;rw[a2,a3];exact QhL I.toList xs ys (i*7) (n*7) 7 _ _ _ _ _ N.symm hy oM (by rw[aP];omega) oM rfl oM oM oM
 obtain⟨HF,HW⟩:=Yb a4 b6;clear a4 b6 b0 a7 b3 c4 a1 a0 a2 a3 b5 a5 hg hv h1 b7 a9 N c1;go_in;go_wp2_with(simp only[c3]);go_region_law (refine Qdj _ rfl _ _ 41 41 rfl _ _ (by simp[Act.eval,Act.put]) (by simp[Act.eval,Act.put]) (b4 _ _ _) ?_);go_wp2_with(at_builtin;refine Qcd _ rfl _ _ 41 41 rfl _ _ rfl rfl (b8 _ _) ?_);go_ret;exact⟨⟨some ⟨g,0,none⟩,cap⟩,rfl,HF.o,HW.o,.inl rfl⟩
theorem Qpo{g cap:Nat}{a2:Array Value}(a1:xs.length=n*7)(b6:base<=w.heap.size)(hg:w.heap[g]? = some (.cells a2 78 (0,0)))(f0:n<=cap)(b9:cap<n+1)(d3:a2.size=cap*7)(N:a2.toList.take (n*7)=xs)
  (hn:n<=1000) (f8:i<n) (hy:ys.length=7) (hv:Blk w vb 78 ys.toArray) (f6:vb≠g) (h1:∀u∈ys,u.oneCell'=true) (c4:∀u∈xs,u.oneCell'=true) :
  Calls prog 78 #[.slice (some ⟨g,0,none⟩) n cap,.int .i64 i,.slice (some ⟨vb,0,none⟩) 1 1] w (Qev base ⟨some ⟨g,0,none⟩,cap⟩ n i xs ys w):=by
 obtain⟨i0,hi,d4,b7,c2⟩:=eE Tryz.Qa8;have f1:((i:Int) ==(n:Int))=false:=ev.2 oM;have e2:(i:Int)<(n:Int):=oM
 have f5:(cap:Int)<(n:Int)+1:=oM
 have f2:¬cap=i:=oM
 have e8:IntKind.i64.wrap ((i:Int)+1)=(i:Int)+1:=by rw[ey];omega
 have f3:(0:Int)<=(i:Int)+1:=oM
 have f4:((i:Int)+1).toNat=i+1:=oM
 have e3:i<=n:=oM
 have f7:(i:Int)<=(n:Int):=oM
 have e7:(i:Int)+1<=(n:Int)+1:=oM
 have d8:g<w.heap.size:=ft hg;have e0:vb<w.heap.size:=hv.lt;obtain⟨G,hG⟩:∃G,G=grownCap w (n+1) cap 78:=⟨_,rfl⟩;have e1:n+1<=G:=by rw[hG];exact grownCap_ge w _ _ _
 have e6:G<=9223372036854775807:=by
  have:=grownCap_le_maxLen w (n+1) cap 78 (by unfold maxLen;omega);rw[<-hG]at this;unfold maxLen at this;omega
 have b3:i+(n+1-i)=n+1:=oM
 obtain⟨I,a0⟩:∃I:Array Value,I=(xs.take (i*7)).toArray++Builtin.zeroCells ((.agg #[.string ByteArray.empty,.int .i64 0,.bool false,.int .i64 0,.string ByteArray.empty,.slice none 0 0,.slice none 0 0]):Value).cells (n+1-i)++Builtin.zeroCells ((.agg #[.string ByteArray.empty,.int .i64 0,.bool false,.int .i64 0,.string ByteArray.empty,.slice none 0 0,.slice none 0 0]):Value).cells (G -(n+1)):=⟨_,rfl⟩;have d6:I.size=G*7:=by
  rw[a0];simp only[Array.size_append,List.size_toArray,size_zeroCells,List.length_take,a1];rw[show((.agg #[.string ByteArray.empty,.int .i64 0,.bool false,.int .i64 0,.string ByteArray.empty,.slice none 0 0,.slice none 0 0]):Value).cells.size=7 from rfl];omega
 have d0:I.toList.take (i*7)=xs.take (i*7):=by
  rw[a0];simp only[Array.toList_append,List.append_assoc];rw[bj (by simp[a1];omega),aO (by simp;omega)]
 obtain⟨W1,a5⟩:∃W1,W1=w.drew.alloc (.cells I 78):=⟨_,rfl⟩;have d7:∀ty,(Builtin.append_ #[41,3] ty #[.slice (some ⟨g,0,none⟩) i cap,.int .i64 ((n:Int)+1 -(i:Int))]).run prog w=.ok (.slice (some ⟨w.heap.size,0,none⟩) (n+1) G) W1:=λty=>by
  have c0:(Builtin.firstCells i0.size i (.slice (some ⟨g,0,none⟩) i cap)).run prog w.drew=.ok (xs.take (i*7)).toArray w.drew:=by
   rw[b7];exact run_firstCells_some w.drew 7 i ⟨g,0,none⟩ i cap (xs.take (i*7)) (by rw[av];omega) (λj v Z=>by
    rw[Qbc,aD,e9,fb w g _ a2 78 (0,0) hg];rw[be]at Z;split at Z
    ·rw [←N,be] at Z
     split at Z
     .simpa using Z
     cases Z
    cases Z)
  have h:=Lib.run_append_grow_zeros w 41 3 ty 78 i0 _ .i64 .i64 underlying41 underlying3 hi d4 (some ⟨g,0,none⟩) i cap (xs.take (i*7)) c0 (n+1-i) oM oM oM oM (by rw[c2];omega) (by rw[c2,b3];exact growslice_fits b9 oM);rw[b3,<-hG,<-a0,<-a5]at h;rw[show(n:Int)+1 -(i:Int)=((n+1-i:Nat):Int)from oM];exact h
 have b8:W1.heap[w.heap.size]? = some (.cells I 78 (0,0)):=by rw[a5];exact fp w.drew _
 have a4:∀k,k<w.heap.size->W1.heap[k]? = w.heap[k]?:=λk hk=>by rw[a5];exact eJ w.drew _ k hk
 have c6:Blk W1 vb 78 ys.toArray:=(a4 vb e0).trans hv;obtain⟨A1,a8⟩:∃A1,A1=(I.toList.take (i*7)++ys++I.toList.drop (i*7+ys.length)).toArray:=⟨_,rfl⟩;have d5:A1.size=G*7:=by rw[a8];simp;omega
 obtain⟨W2,a3⟩:∃W2,W2=W1.setRow w.heap.size A1:=⟨_,rfl⟩;have c9:∀ty dc,(Builtin.copy_ #[41,41] ty #[.slice (some ⟨w.heap.size,i*7,none⟩) (n+1-i) dc,.slice (some ⟨vb,0,none⟩) 1 1]).run prog W1=.ok (goInt (Nat.min 1 (n+1-i))) W2:=λty dc=>by
  rw[a3,a8];exact QbA W1 41 41 ty 78 7 w.heap.size (i*7) (n+1-i) dc ⟨some ⟨vb,0,none⟩,1⟩ 1 I 78 ys underlying41 (by rw[hi];simp[b7]) b8
   (by rw[hy,show Nat.min 1 (n+1-i)=1 from by simp only[Nat.min_def];split<;>omega]) sM (by rintro b o' ⟨⟩;exactλj v Z=>by rw[c6.cell];simpa using Z) (by rintro a ⟨⟩;rfl) oM h1
 have b5:W2.heap[w.heap.size]? = some (.cells A1 78 (0,0)):=by rw[a3];exact eU W1 _ I A1 78 (0,0) b8
 have b0:∀k,k<w.heap.size->W2.heap[k]? = w.heap[k]?:=λk hk=>by rw[a3];exact(fB W1 _ k A1 oM).trans (a4 k hk)
 have b4:(xs.drop (i*7)).length=(n-i)*7:=by rw[aw,a1,<-de]
 have c7:∀j v,(xs.drop (i*7))[j]? = some v->W2.drew.cell? ⟨g,i*7+j,none⟩=some v:=λj v Z=>by
  rw[e9,fb W2 g _ a2 78 (0,0) ((b0 g d8).trans hg)];rw[bc,<-N,be]at Z;split at Z
  .simpa using Z
  cases Z
 obtain⟨A2,a7⟩:∃A2,A2=(A1.toList.take ((i+1)*7)++xs.drop (i*7)++A1.toList.drop ((i+1)*7+(xs.drop (i*7)).length)).toArray:=⟨_,rfl⟩;obtain⟨W3,a6⟩:∃W3,W3=W2.drew.setRow w.heap.size A2:=⟨_,rfl⟩;have c8:∀ty dc sc,(Builtin.copy_ #[41,41] ty #[.slice (some ⟨w.heap.size,(i+1)*7,none⟩) (n-i) dc,.slice (some ⟨g,i*7,none⟩) (n-i) sc]).run prog W2.drew=.ok (goInt (Nat.min (n-i) (n-i))) W3:=λty dc sc=>by
  rw[a6,a7];exact QbA W2.drew 41 41 ty 78 7 w.heap.size ((i+1)*7) (n-i) dc ⟨some ⟨g,i*7,none⟩,sc⟩ (n-i) A1 78 (xs.drop (i*7)) underlying41 (by rw[hi];simp[b7]) b5
   (by rw[b4,show Nat.min (n-i) (n-i)=n-i from sM]) sM (by rintro b o' ⟨⟩;exact c7) (by rintro a ⟨⟩;rfl) (by rw[b4];omega) (λu hu=>c4 u (aM hu))
 have c1:W3.heap[w.heap.size]? = some (.cells A2 78 (0,0)):=by rw[a6];exact eU W2.drew _ A1 A2 78 (0,0) b5
 have c3:Wr w W3 (some g):=by
  rw[a6,a3,a5];exact(((((Wr.refl w (some g)).drew).alloc I 78).trans (fV _ A1) (λi hi=>.inr (by injection hi with hi;omega))).drew).trans (fV _ A2) (λi hi=>.inr (by injection hi with hi;omega))
 have a9:W3.ownsRow base 78 7 (.slice (some ⟨w.heap.size,0,none⟩) (n+1) G) (n+1) (xs.take (i*7)++ys++xs.drop (i*7)):=by
  refine⟨by simp[a1,hy];omega,.inr ⟨w.heap.size,G,A2,rfl,b6,c1,e1,by unfold maxLen;omega,by rw[a7];simp;omega,?_⟩⟩;rw[a7,a8];exact QjK I.toList xs ys (i*7) (n*7) 7 _ _ _ _ _ d0 a1 hy oM (by rw[aP];omega) oM rfl oM oM oM
 obtain⟨HF,HW⟩:=Yb a9 c3;clear a9 c3 c1 b5 b8 c6 d5 a6 a3 a5 a7 a8 c7 b4 hg hv h1 c4 a1 N d3 a4 b0 d0 d6 a0 hG b3;have f9:¬(G=i):=oM
 have e4:¬(G=i+1):=oM
 go_in;go_wp2_with(first
  |(at_builtin;refine wpList_append_run _ rfl _ _ 41 3 rfl _ _ rfl rfl (d7 _) ?_)
  |(at_builtin;refine Qcd _ rfl _ _ 41 41 rfl _ _ rfl rfl (c9 _ _) ?_))
 go_region_law (refine Qdj _ rfl _ _ 41 41 rfl _ _ (by simp[Act.eval,Act.put]) (by simp[Act.eval,Act.put]) (c8 _ _ _) ?_);go_wp2;go_ret;exact⟨⟨some ⟨w.heap.size,0,none⟩,G⟩,rfl,HF.o,HW.o,.inr ⟨_,rfl,ao _⟩⟩
theorem Qma(I:w.ownsRow base 78 7 (.slice s.a n s.c) n xs)(Z:base<=w.heap.size)(hn:n<=1000)(b0:i<=n)(hy:ys.length=7)(hv:Blk w vb 78 ys.toArray)(a5:s.row≠some vb)(h1:∀u∈ys,u.oneCell'=true)(a1:∀u∈xs,u.oneCell'=true) :
  Calls prog 78 #[.slice s.a n s.c,.int .i64 i,.slice (some ⟨vb,0,none⟩) 1 1] w (Qev base s n i xs ys w):=by
 by_cases he:i=n
 .subst he;exact Qrx I Z hn hy hv h1
 rcases I.2 with⟨hs,h0⟩ |⟨g,a0,a9,hs,a7,hg,a8,a4,a2,N⟩
 .omega
 simp only[Value.slice.injEq]at hs;obtain⟨ha,-,hc⟩:=hs;have a3:vb≠g:=λe=>a5 (by simp[Sl.row,ha,e])
 have a6:s=⟨some ⟨g,0,none⟩,a0⟩:=by cases s;simp_all
 have hl:=I.1;clear I;subst a6;by_cases hr:n+1<=a0
 .exact Qnl hl a7 hg hr a4 a2 N hn oM hy hv a3 h1 a1
 exact Qpo hl Z hg a8 oM a2 N hn oM hy hv a3 h1 a1
end
abbrev fE:=@and_true
theorem QpD(k:ByteArray)(v:Val)(sl so:Sl)(k':ByteArray)(I:Val)(sl' so':Sl)(w:World) :
  Calls prog 151 #[Qfu k v sl so,Qfu k' I sl' so'] w λe w'=>e=.returned (.bool (klt k k'))/\Ext w w':=by
 go_in;go_wp2;go_ret;exact⟨rfl,((fI w).alloc _ _).alloc _ _⟩
def Qbv(xs:List LE):Prop:=∀i x y,xs[i]? = some x->xs[i+1]? = some y->klt x.k y.k=true
theorem QnQ(hs:ES w (Lt w) s xs)(hr:Qbv xs) :
  Calls prog 150 #[.slice s.a xs.length s.c,.func (.func 151) #[] #[]] w λe w'=>e=.returned (.bool true)/\Ext w w':=by
 have b0:=hs.few;obtain⟨HS,HR⟩:=Yb hs hr;clear hs hr;go_in;go_wp2_with fail;go_loopw[5] (λq wr=>∃m:Nat,(m+1<=xs.length\/m=0)/\q=.int .i64 ((m:Int)+1)/\Ext w wr) (λq _=>xs.length -(intOf q).toNat)
 case atStart=>exact⟨0,.inr rfl,rfl,fI _⟩
 obtain⟨m,hj,rfl,hx⟩:=hrel;by_cases a7:m+1<xs.length
 ·obtain ⟨x,a0⟩:∃ x,xs[m]? = some x:=⟨_,ac oM⟩
  obtain⟨y,a1⟩:∃y,xs[m+1]? = some y:=⟨_,ac a7⟩;obtain⟨b,o,ha,I,b4,b8,a6,hv,-⟩:=HS.o.at a0;obtain⟨b',o',a2,-,-,-,Z,a3,-⟩:=HS.o.at a1;rw[ha]at a2;simp only[Option.some.injEq,Addr.mk.injEq,and_true]at a2;obtain⟨rfl,rfl⟩:=a2;have N:Agree (Lt w) w wr:=hx.agree λ_ h=>h
  obtain⟨v0,v1,v2,v3,v4,v5⟩:=(hv.agree N I).m;have vk:=(N.cell I).trans a6;obtain⟨u0,u1,u2,u3,u4,u5⟩:=(a3.agree N I).m;have uk:=(N.cell I).trans Z;have a5:=HR.o m x y a0 a1;have HK:=hY a5;rw[ha];have b5:(m:Int)+1<(xs.length:Int):=oM
  have b7:(m:Int)<(xs.length:Int):=oM
  have b9:IntKind.i64.wrap (m:Int)=(m:Int):=by rw[ey];omega
  have b3:(0:Int)<=(m:Int)+1:=oM
  have b6:((m:Int)+1).toNat=m+1:=oM
  clear a0 a1 a6 Z hv a3 N ha a5;go_wp2_with fail;have a8:b<wr:=ab I hx.size;go_region_held3 (λw'=>w'.cell? ⟨b,o+m*7,none⟩=some (.string x.k)/\w'.cell? ⟨b,o+m*7+1,none⟩=some (.int .i64 x.v.kind)/\w'.cell? ⟨b,o+m*7+2,none⟩=some (.bool x.v.b)/\w'.cell? ⟨b,o+m*7+3,none⟩=some (.int .i64 x.v.i)/\w'.cell? ⟨b,o+m*7+4,none⟩=some (.string x.v.t)/\w'.cell? ⟨b,o+m*7+5,none⟩=some (.slice x.sl.a x.v.l.length x.sl.c)/\w'.cell? ⟨b,o+m*7+6,none⟩=some (.slice x.so.a x.v.ok.length x.so.c)/\w'.cell? ⟨b,o+(m+1)*7,none⟩=some (.string y.k)/\w'.cell? ⟨b,o+(m+1)*7+1,none⟩=some (.int .i64 y.v.kind)/\w'.cell? ⟨b,o+(m+1)*7+2,none⟩=some (.bool y.v.b)/\w'.cell? ⟨b,o+(m+1)*7+3,none⟩=some (.int .i64 y.v.i)/\w'.cell? ⟨b,o+(m+1)*7+4,none⟩=some (.string y.v.t)/\w'.cell? ⟨b,o+(m+1)*7+5,none⟩=some (.slice y.sl.a y.v.l.length y.sl.c)/\w'.cell? ⟨b,o+(m+1)*7+6,none⟩=some (.slice y.so.a y.v.ok.length y.so.c)) (go_keep)
   ((go_at_call 151;refine(QpD _ _ _ _ _ _ _ _ _).mono ?_;rintro e w' ⟨rfl,a4⟩;have a9:∀o',w'.cell? ⟨b,o',none⟩=wr.cell? ⟨b,o',none⟩:=λo'=>a4.cell a8))
  have hX:=hx.trans ((fI wr).drew.trans a4);have HX:=hY hX;clear hX a9;rw[HK.o];go_wp2_with fail;go_roundw
  case rel=>exact⟨m+1,.inl oM,by go_num,HX.o⟩
  simp[intOf];omega
 go_wp2_with fail;go_ret;exact⟨rfl,hx⟩
variable{w2 w3:World}{s':Sl}
theorem QjW{xs I:List LE}{a:Nat}{f l:ByteArray}(hX:Ext w w2)(Z:Ext w2 w3)(hm:I.map LE.ent=xs.map LE.ent)(hB:w.heap.size<=B)(ho:OE w2 B s' I)
  (ha:w2<=a) (hf:f=Qav (xs.map LE.ent)) (hl:l=Qbl (xs.map LE.ent)) (N:Blk w3 a 159 #[.slice s'.a I.length s'.c,.slice none 0 0,.int .i64 0,.int .i64 I.length,.string f,.string l,.bool false]) :
  IsN w3 (In w.heap.size w3.heap.size) 0 (a,xs.map LE.ent):=
 ⟨⟨Nat.le_trans hX.size ha,N.lt⟩,s',I,by subst hf hl;exact N,(ho.es.agree (Z.agree λ_ h=>h.2)).mono λ_ h=>⟨Nat.le_trans hB h.1,ab h.2 Z.size⟩,hm⟩
def QqY(es:List Ent)(w:World)(e:Ending)(w':World):Prop:=
 ∃a:Nat,e=.returned (.tuple #[.pointer (some ⟨a,0,none⟩),.int .i64 0])/\w.heap.size<=a/\IsN w' (In w.heap.size w'.heap.size) 0 (a,es)/\Ext w w'
theorem QpS(hs:ES w (Lt w) s xs)(hr:Qbv xs)(h8:xs.length<=8) :
  Calls prog 116 #[.slice s.a xs.length s.c] w (QqY (xs.map LE.ent) w):=by
 have HS:=hY hs;have a1:=QnQ hs hr;have hg:¬(8:Int)<(xs.length:Int):=oM
 have b7:decide ((8:Int)<(xs.length:Int))=false:=by simp;omega
 have a6:∀W,Ext w W->Calls prog 112 #[.slice s.a xs.length s.c] W (Qhi xs W):=λW hW=>
  Qhr ((HS.o.agree (hW.agree λ_ h=>h)).mono λi hi=>ab hi hW.size)
 have HC:=hY a6;clear hs a6 hr;go_in;go_wp2_with fail;refine a1.mono ?_;rintro e w1 ⟨rfl,I⟩;go_wp2_with fail;refine(HC.o w1 I).mono ?_;rintro e w2 ⟨s',b0,rfl,hm,ho,a0⟩;obtain⟨HM,HO⟩:=Yb hm ho;have N:b0.length=xs.length:=by have:=congrArg List.length hm;simpa using this
 have HL:=hY N;have hX:=I.trans a0;have HX:=hY hX;have a9:=I.size;by_cases h0:0<xs.length
 ·obtain ⟨x,a2⟩:∃ x,xs[0]? = some x:=⟨_,ac h0⟩
  obtain⟨y,a4⟩:∃y,xs[xs.length-1]? = some y:=⟨_,ac oM⟩;obtain⟨b,o,ha,Z,b5,c0,a5,-⟩:=HS.o.at a2;obtain⟨b',o',a3,-,-,-,a7,-⟩:=HS.o.at a4;rw[ha]at a3;simp only[Option.some.injEq,Addr.mk.injEq,and_true]at a3;obtain⟨rfl,rfl⟩:=a3;rw[cq,bX]at a5;have vk:=(hX.cell Z).trans a5;have vl:=(hX.cell Z).trans a7;have c1:b<w2:=ab Z hX.size;have hf:Qav (xs.map LE.ent)=x.k:=by rw[Qav,List.head?_map,List.head?_eq_getElem?,a2];rfl
  have hl:Qbl (xs.map LE.ent)=y.k:=by rw[Qbl,List.getLast?_map,List.getLast?_eq_getElem?,a4];rfl
  have a8:=hY (And.intro hf hl);have c2:IntKind.i64.wrap ((xs.length:Int)-1)=(xs.length:Int)-1:=by rw[ey];omega
  have b4:(0:Int)<=(xs.length:Int)-1:=oM
  have b9:(xs.length:Int)-1<(xs.length:Int):=oM
  have b6:(0:Int)<(xs.length:Int):=oM
  have b8:((xs.length:Int)-1).toNat=xs.length-1:=oM
  rw[ha];clear hm ho a1 N hX a2 a4 a5 a7 ha hf hl I a0;go_wp2_with fail;go_region
  all_goals go_wp2_with fail
  all_goals go_ret2
  refine⟨w2,rfl,HX.o.size,?_,(HX.o.alloc _ _).drew⟩;refine QjW HX.o (((fI w2).alloc _ _).drew) HM.o a9 HO.o (ao _) a8.o.1.symm a8.o.2.symm ?_;rw[HL.o];exact fK _ _ _
 have b3:xs=[]:=ar oM;subst b3;clear hm ho a1 hX I a0;go_wp2_with fail;go_ret2;refine⟨w2,rfl,HX.o.size,?_,HX.o.alloc _ _⟩;refine QjW HX.o ((fI w2).alloc _ _) HM.o a9 HO.o (ao _) (f:=ByteArray.empty) (l:=ByteArray.empty) rfl rfl ?_;rw[HL.o];exact fK _ _ _
def QcJ(es:List Ent)(w:World)(e:Ending)(w':World):Prop:=
 ∃t:PT 0,e=.returned (ptr 0 t)/\t.2=es/\w.heap.size<=addr 0 t/\IsN w' (In w.heap.size w'.heap.size) 0 t/\Ext w w'
theorem QdM(hs:ES w (Lt w) s xs)(N:n=xs.length)(I:Qbv xs)(h8:xs.length<=8) :
  Calls prog 80 #[.slice s.a n s.c] w (QcJ (xs.map LE.ent) w):=by
 subst N;have hc:=QpS hs I h8;clear hs I;go_in;go_wp2_with fail;refine hc.mono ?_;rintro e w' ⟨a,rfl,h1,h2,h3⟩;have Z:=hY h2;clear h2;go_wp2_with fail;go_ret;exact⟨(a,xs.map LE.ent),rfl,rfl,h1,Z.o,h3⟩
theorem Rd.take{size n:Nat}(h:Rd w F size s n cs){m:Nat}(N:m<=n):Rd w F size s m (cs.take (m*size)):=by
 obtain⟨b,o,h1,h2,h3⟩:=h;have Z:m*size<=n*size:=bR _ N;refine⟨b,o,?_,by rw[av];omega,λj u I=>h3 j u ?_⟩
 ·cases h1 with
  | nil=>have:m=0:=oM
         subst this;exact .nil _ _
  |some _ c _ _ h hc hb=>exact .some _ c _ _ oM hc hb
  | zero a=>have:m=0:=oM
            subst this;exact .zero a _ _
 rw[be]at I;split at I
 .exact I
 cases I
theorem Rd.drop{size n b o c:Nat}(h:Rd w F size ⟨some ⟨b,o,none⟩,c⟩ n cs){m:Nat}(hm:m<=n):Rd w F size ⟨some ⟨b,o+m*size,none⟩,c-m⟩ (n-m) (cs.drop (m*size)):=by
 obtain⟨N,Z,h1,h2,h3⟩:=h;cases h1 with
 | some _ _ _ _ h hc hb=>
   refine⟨b,o+m*size,.some _ _ _ _ oM oM hb,by rw[aw,h2,<-de],λj u I=>?_⟩;rw[bc]at I;rw[bH];exact h3 _ u I
 | zero=>
   obtain rfl:m=0:=oM
   refine⟨N,Z,?_,by rw[aw,h2];simp,λj u I=>?_⟩
   .simpa using Qd5.zero (F:=F) ⟨b,o,none⟩ N Z
   have:cs=[]:=ar (by simpa using h2);subst this;simp at I
theorem ES.take(h:ES w F s xs){m:Nat}(I:m<=xs.length):ES w F s (xs.take m):=
 ⟨by rw[av,bY I,<-QcS];exact h.rd.take I,λx N=>h.vals x (ba N),by have:=h.few;rw[av];omega⟩
theorem ES.drop{b o c:Nat}(h:ES w F ⟨some ⟨b,o,none⟩,c⟩ xs){m:Nat}(N:m<=xs.length):ES w F ⟨some ⟨b,o+m*7,none⟩,c-m⟩ (xs.drop m):=
 ⟨by rw[aw,<-QcQ];exact h.rd.drop N,λx I=>h.vals x (aM I),by have:=h.few;rw[aw];omega⟩
theorem Qbv.take(h:Qbv xs)(m:Nat):Qbv (xs.take m):=λi x y N I=>by
 rw[be]at N I;split at N<;>split at I
 .exact h i x y N I
 all_goals first|cases N|cases I
theorem Qbv.drop(h:Qbv xs)(m:Nat):Qbv (xs.drop m):=λi x y I N=>by
 rw[bc]at I N;exact h _ x y I N
theorem Qc0(h:Sorted (xs.map LE.ent)):Qbv xs:=λi x y I N=>
 QdK (a:=x.ent) (b:=y.ent) h (dh i) (by rw[au,I];rfl) (by rw[au,N];rfl)
def two(h:Nat):List (PT h)->Ending
 |[t]=>.returned (.tuple #[ptr h t,.pointer none])
 |[t,u]=>.returned (.tuple #[ptr h t,ptr h u])
 |_=>.returned (.tuple #[])
def chunk{α:Type}(l:List α):List (List α):=if l.length<=8 then[l]else[l.take 4,l.drop 4]
def QmR(es:List Ent)(w:World)(e:Ending)(w':World):Prop:=
 ∃ts:List (PT 0),e=two 0 ts/\ts.map Prod.snd=chunk es/\(∀t∈ts,w.heap.size<=addr 0 t/\IsN w' (In w.heap.size w'.heap.size) 0 t)/\Ext w w'
variable{w1:World}
theorem QcJ.grow{t:PT 0}(h1:Ext w w1)(h2:Ext w2 w3)(N:w1.heap.size<=addr 0 t)(I:IsN w2 (In w1.heap.size w2.heap.size) 0 t):w.heap.size<=addr 0 t/\IsN w3 (In w.heap.size w3.heap.size) 0 t:=
 ⟨Nat.le_trans h1.size N,(I.agree (h2.agree λ_ h=>h.2)).mono λ_ h=>⟨Nat.le_trans h1.size h.1,ab h.2 h2.size⟩⟩
theorem QhN(hs:ES w (Lt w) s xs)(hr:Qbv xs)(h8:xs.length<=9) :
  Calls prog 79 #[.slice s.a xs.length s.c,.func (.func 80) #[] #[]] w (QmR (xs.map LE.ent) w):=by
 by_cases h:xs.length<=8
 ·have hc:=QdM hs rfl hr h
  have hl:(xs.length:Int)<=8:=oM
  clear hs hr;go_in;go_wp2_with fail;refine hc.mono ?_;rintro e w' ⟨t,rfl,h1,h2,h3,h4⟩;have H3:=hY h3;clear h3;go_wp2_with fail;go_ret2;exact⟨[t],rfl,by show[t.2]=_;rw[h1,chunk,eu (by simpa using h)],by simpa using⟨h2,H3.o⟩,h4⟩
 have h9:xs.length=9:=oM
 have a4:=hs.at (i:=0) (x:=xs[0]' oM) (ac oM);obtain⟨b,o,ha,a5,a2,a3,-⟩:=a4;have I:s=⟨some ⟨b,o,none⟩,s.c⟩:=by cases s;simp_all
 have a0:∀W,Ext w W->Calls prog 80 #[.slice (some ⟨b,o,none⟩) 4 s.c] W (QcJ ((xs.take 4).map LE.ent) W):=λW N=>by
  have:=QdM (w:=W) (n:=4) (s:=s) (xs:=xs.take 4) (((hs.take (m:=4) oM).agree (N.agree λ_ h=>h)).mono λi hi=>ab hi N.size) (by rw[av];omega) (hr.take 4) (by rw[av];omega);rw[I]at this;exact this
 have a1:∀W,Ext w W->Calls prog 80 #[.slice (some ⟨b,o+28,none⟩) 5 (s.c-4)] W (QcJ ((xs.drop 4).map LE.ent) W):=λW N=>by
  have Z:=hs;rw[I]at Z;exact QdM (w:=W) (n:=5) (s:=⟨some ⟨b,o+28,none⟩,s.c-4⟩) (xs:=xs.drop 4) (((Z.drop (m:=4) oM).agree (N.agree λ_ h=>h)).mono λi hi=>ab hi N.size) (by rw[aw];omega) (hr.drop 4) (by rw[aw];omega)
 obtain⟨HL,HR⟩:=Yb a0 a1;clear a0 a1 hs hr I;rw[ha,h9];rw[h9]at a2;have a6:4<=s.c:=oM
 unfold maxLen at a3;go_in;go_wp2_with fail;go_region_with (first
  |(go_at_call_of 80 (Value.slice (some ⟨b,o,none⟩) 4 s.c);refine(HL.o _ ?_).mono ?_;exact(fI w).drew;rintro e w1 ⟨t,rfl,h1,h2,h3,h4⟩;have H3:=hY h3;clear h3)
  |(go_at_call 80;refine(HR.o _ ?_).mono ?_;exact(fI w).drew.trans h4;rintro e w2 ⟨u,rfl,k1,k2,k3,k4⟩;have K3:=hY k3;clear k3))
 all_goals go_wp2_with fail
 all_goals go_ret2
 have hX:=(fI w).drew.trans h4;refine⟨[t,u],rfl,?_,?_,hX.trans k4⟩
 ·show [t.2,u.2]=_
  rw[h1,k1,chunk,eh (by simp;omega),cE,cp]
 intro x hx;rcases aH.1 hx with rfl|hx
 .exact QcJ.grow (fI w).drew k4 h2 H3.o
 rcases aH.1 hx with rfl|hx
 .exact QcJ.grow hX (fI w2) k2 K3.out
 simp at hx
end Go.Proofs.YtdiecmkpbadgjaaGreatDoor
